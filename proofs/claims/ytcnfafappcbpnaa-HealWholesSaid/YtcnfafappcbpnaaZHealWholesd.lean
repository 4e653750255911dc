/- The statement HealWholes: what its proof rests on, part 4 of 4. -/
import Derived.Test.YtcnfafappcbpnaaProg
import Derived.Below
import Derived.Deep.Draws
import Derived.Deep.AppendLies
import Derived.Maps.AppendAt
import Derived.OwnWalk
import Derived.Laws.BytesArg
import Derived.Laws.MakeOwn
import Derived.Laws.OwnMore
import Derived.Deep.OwnRows
import Derived.Tactics
import Derived.Lib.ConvBytes
import Derived.Laws.Slices
import Derived.WalkKit
import Derived.KernelRfl
import Derived.RowKit3
import Derived.Deep.LoopGhost
import Derived.Deep.QuietTactic
import Derived.BigQuiet
import Derived.WideLaws
import Derived.Deep.DeepCutAuto
import Derived.Deep.CutBlock
import Derived.Deep.RegionHeld3
import Derived.Laws.Rows
import Derived.Lib.AppendStr
import Derived.ArgAppend
import Derived.Laws.IdiomCopy
import Derived.OrdersHeld
import Derived.Laws.BitsLemmas
import Derived.RowKit
import Derived.Lib.Hide
import Derived.WalkSpells
import Derived.StillTailTactics
import Derived.Outline
import Derived.Test.YtcnfafappcbpnaaZHealWholesc
namespace Go.Proofs.Ytcnfafappcbpnaa.Sol
open Go Go.RowKit Go.Proofs.Ytcnfafappcbpnaa.PSteps Go.Proofs.Ytcnfafappcbpnaa.BSteps Go.Proofs.Ytcnfafappcbpnaa.Gf Go.Proofs.Ytcnfafappcbpnaa.Gi Go.Proofs.Ytcnfafappcbpnaa.Bits Go.Proofs.Ytcnfafappcbpnaa.Mem Go.Proofs.Ytcnfafappcbpnaa.Rws Go.Proofs.YtcnfafappcbpnaaW.PrintWords Go.Proofs.YtcnfafappcbpnaaW.PrintLast
set_option linter.unusedVariables false
theorem rowq {W : World} {base b1 g n m cap q t k col : Nat} {M : Mtx} {r : Int} {A6 : Option Addr} {c6 : Nat} (h : RowsR W base (.slice (some ⟨g, 0, none⟩) n cap) (mat n m (fun p => if p < q then stepI M t k col r p else if p = t then (fun j => gmI (M k j) r) else swapI M t k p))) (hq : q < n) (hqt : ¬ q = t)
    (hR : (Kd.int .u8).R 5 W b1 (fun _ => True) (.slice A6 m c6) (line m (fun j => xorI (swapI M t k q j) (gmI (gmI (M k j) r) (swapI M t k q col))))) (hb : base ≤ b1) (hg : g < b1) :
    RowsR (W.setCell ⟨g, q, none⟩ (.slice A6 m c6)) base (.slice (some ⟨g, 0, none⟩) n cap) (mat n m (fun p => if p < q + 1 then stepI M t k col r p else if p = t then (fun j => gmI (M k j) r) else swapI M t k p)) := by
  have h1 := rput h q hq (.slice A6 m c6) _ (fun p => some p = (Value.slice A6 m c6).ownBlock) (row_M (Kd.own_of_R hR) hb rfl) (fun p hp => by
    have := Kd.R_base hR p hp.symm
    omega)
  rw [mat_set n m _ q hq] at h1
  rw [mat_congr n m _ (fun p => if p = q then (fun j => xorI (swapI M t k q j) (gmI (gmI (M k j) r) (swapI M t k q col))) else if p < q then stepI M t k col r p else if p = t then (fun j => gmI (M k j) r) else swapI M t k p) (fun p hp j hj => ?_)]
  · exact h1
  · by_cases e : p = q
    · subst e
      rw [if_pos (by omega), if_pos rfl]
      unfold stepI
      rw [if_neg hqt]
    · rw [if_neg e]
      by_cases h1 : p < q
      · rw [if_pos (by omega), if_pos h1]
      · rw [if_neg (by omega), if_neg h1]
theorem setx {W : World} {base b1 g n cap : Nat} {ls : List (List Int)} {v : Value} {xs : List Int} (hR : (Kd.int .u8).R 5 W b1 (fun _ => True) v xs) (h : RowsR W base (.slice (some ⟨g, 0, none⟩) n cap) ls) (q : Nat) (u : Value) : (Kd.int .u8).R 5 (W.setCell ⟨g, q, none⟩ u) b1 (fun _ => True) v xs := by
  obtain ⟨cur, hh⟩ := (rblk h).2
  exact Kd.R_set hR hh (by decide) q u
set_option maxRecDepth 100000 in
set_option maxHeartbeats 4000000 in
theorem steps_any (n m c0 : Nat) (A : Option Addr) (M0 : Mtx) (w : World) (hC : Kd.C kRow w A n (mat n m M0)) (h0 : BytM M0) (hn1 : 1 ≤ n) (hn : n ≤ 1000) (hm1 : 1 ≤ m) (hm : m ≤ 1000) :
    Calls Try.prog 36 #[.slice A n c0] w fun e w' => ∃ u t M, e = .returned u ∧ RowsR w' w.heap.size u (mat n m M) ∧ StepsTo n M0 m t M ∧ Below w.heap.size w w' := by
  have HC := Lib.hid (fun W (hB : Below w.heap.size w W) => Kd.C_below hC hB)
  have H0 := Lib.hid h0
  clear hC h0
  go_enter Try.func36, Try.ntmps36
  go_wp2
  go_loopw [3, 4] (fun u0 iv wr => ∃ (i : Nat) (u : Value), u0 = u ∧ i ≤ n ∧ iv = .int .i64 i ∧ Hid (RowsR wr w.heap.size u (mat i m M0)) ∧ Hid (Below w.heap.size w wr)) (fun _ iv _ => n - (intOf iv).toNat)
  case atStart => exact ⟨0, _, rfl, by omega, rfl, Lib.hid (Kd.R_nil _ _ _ _ _), Lib.hid (Below.refl _ _)⟩
  case round =>
    obtain ⟨i, u, rfl, hi, rfl, HO, HB⟩ := hrel
    by_cases hlt : i < n
    · obtain ⟨ad, A1, c1, rfl, hcell, _, hC1⟩ := mrow (HC.out _ HB.out) i hlt
      have HR1 := Lib.hid (Kd.reads_of_C (d := (0 : Int)) hC1)
      have HL0 := Lib.hid (show (wr.alloc (.cells #[] 5)).ownsRow wr.heap.size 5 1 (.slice (some ⟨wr.heap.size, 0, none⟩) 0 0) ([] : List Int).length (nums .u8 []) from own_lit wr wr.heap.size 5 .u8 [] (Nat.le_refl _) (by simp))
      have g1 : (i : Int) < (n : Int) := by omega
      have g2 : (0 : Int) ≤ (i : Int) := by omega
      have hl := line_len m (M0 i)
      obtain ⟨xs, hxs⟩ : ∃ xs, xs = line m (M0 i) := ⟨_, rfl⟩
      rw [← hxs] at HR1 hl
      have HXS := Lib.hid hxs
      have hcella := pw_cell_below (((Below.refl wr.heap.size wr).alloc (Nat.le_refl _) (.cells #[] 5))) hcell
      clear hC1 hxs
      go_wp2_with (first
        | (at_builtin; refine print_append_row (w0 := wr) wr.heap.size rfl _ _ 22 5 .u8 1 rfl Try.underlying22 info_byte (by decide) _ [] xs _ _ _ rfl rfl HL0.out (ReadsInt.allocS HR1.out _) ((Below.refl _ _).alloc (Nat.le_refl _) _) (by simp) (by simp; omega) ?_; intro v1 w1 ho hb _ _; obtain ⟨A9, c9, rfl⟩ := own_slice ho; have HOW := Lib.hid (clone_R ho hl); have HB1 := Lib.hid hb; clear ho hb)
        | (at_builtin; refine rows_append2 (w0 := w) (wr := wr) rfl w.heap.size rfl _ _ rfl u3 _ (mat i m M0) _ rfl rfl HO.out (HB.out.trans (HB1.out.mono HB.out.size)) HB.out.size HB1.out HOW.out (by rw [mat_len]; omega) ?_; intro v5 w5 h5 hb5; have H5 := Lib.hid h5; have HB5 := Lib.hid hb5; clear h5 hb5))
      go_roundw
      case rel => exact ⟨i + 1, _, rfl, by omega, by go_num, Lib.hid (by rw [mat_succ, ← HXS.out]; exact H5.out), HB5⟩
      case measure => simp [intOf]; omega
    · obtain rfl : i = n := by omega
      obtain ⟨g, cO, hv, hgb, _, _⟩ := Kd.R_form HO.out (by rw [mat_len]; exact hn1)
      rw [mat_len] at hv
      subst hv
      have HGB := Lib.hid hgb
      clear hgb
      go_wp2
      go_loopw [5, 6, 7, 8, 9] (fun tv cv _ _ _ wr => ∃ (t col : Nat) (M : Mtx), tv = .int .i64 t ∧ cv = .int .i64 col ∧ col ≤ m ∧ Hid (StepsTo i M0 col t M) ∧ Hid (RowsR wr w.heap.size (.slice (some ⟨g, 0, none⟩) i cO) (mat i m M)) ∧ Hid (Below w.heap.size w wr)) (fun _ cv _ _ _ _ => m - (intOf cv).toNat)
      case atStart => exact ⟨0, 0, M0, rfl, rfl, by omega, Lib.hid .start, HO, HB⟩
      case round =>
        clear HO HB
        obtain ⟨t, col, M, rfl, rfl, hcol, HS, HO, HB⟩ := hrel
        have hCO := (Kd.R_reads' HO.out).2.2
        rw [mat_len] at hCO
        obtain ⟨ad0, A1, c1, e0, hc0, _, _⟩ := mrow hCO 0 (by omega)
        injection e0 with e0
        subst e0
        rw [addk g 0] at hc0
        have HCO := Lib.hid hCO
        have g0 : (0 : Int) < (i : Int) := by omega
        clear hCO
        by_cases hlt : col < m
        · have g1 : (col : Int) < (m : Int) := by omega
          have g2 : (0 : Int) ≤ (col : Int) := by omega
          have htn := HS.out.le
          go_wp2
          go_loopw [7] (fun kv wr' => ∃ (k : Nat), t ≤ k ∧ k ≤ i ∧ kv = .int .i64 k ∧ wr' = wr ∧ Hid (∀ j, t ≤ j → j < k → M j col = 0)) (fun kv _ => i - (intOf kv).toNat)
          case atStart => exact ⟨t, Nat.le_refl _, htn.2, rfl, rfl, Lib.hid (fun j h1 h2 => absurd h1 (by omega))⟩
          case round =>
            obtain ⟨k, htk, hki, rfl, rfl, HZ⟩ := hrel
            by_cases hk : k < i
            · obtain ⟨adk, A2, c2, e2, hck, hc2, hC2⟩ := mrow HCO.out k hk
              injection e2 with e2
              subst e2
              rw [addk g k] at hck
              obtain ⟨ad2, rfl, hcc⟩ := at_row hC2 col hlt
              rw [line_get m (M k) col hlt] at hcc
              have HC2 := Lib.hid hC2
              have g3 : (k : Int) < (i : Int) := by omega
              have g4 : (0 : Int) ≤ (k : Int) := by omega
              clear hC2
              by_cases hz : M k col = 0
              · rw [hz] at hcc
                go_wp2
                go_roundw
                case rel =>
                  refine ⟨k + 1, by omega, by omega, by go_num, (by first | trivial | rfl), Lib.hid (fun j h1 h2 => ?_)⟩
                  rcases Nat.lt_or_ge j k with h | h
                  · exact HZ.out j h1 h
                  · obtain rfl : j = k := by omega
                    exact hz
                case measure => simp [intOf]; omega
              · have t1 : (M k col == 0) = false := by simp [hz]
                have hby := HS.out.byt H0.out
                obtain ⟨r, hr, hr1, hinv⟩ := inv_any (M k col) (hby k col) hz
                have IV := Lib.hid hinv
                have HR1 := Lib.hid hr1
                have HRB := Lib.hid hr
                have HBY := Lib.hid hby
                have TM := Lib.hid (fun W (hB : Below wr.heap.size wr W) => times_any m c2 (some ad2) (M k) r W (Kd.C_below HC2.out hB) (hby k) hr hc2 hm)
                have KK := Lib.hid (fun W (hB : Below wr.heap.size wr W) => And.intro (pw_cell_below hB hck) (pw_cell_below hB hcc))
                have HXd := Lib.hid (show Below wr.heap.size wr wr.drew from (Below.refl _ _).drew)
                clear hby hinv hr1 hr
                go_upto_region 14 with (fail)
                refine wp_region_noPanic ?_
                refine wp_region_held_drew (S := (fun W => W.cell? ⟨g, k, none⟩ = some (.slice (some ad2) m c2) ∧ W.cell? (ad2.add col) = some (.int .u8 (M k col)))) (by kernel_rfl) ?_ (fun hHeld => ?_)
                · ((try dsimp only); exact KK.out _ HXd.out)
                refine wpAnyH_take (i := 0) (oi := { dst := some 59, op := .move (.tmp 3), type := 39, pos := _, after := _, guard := none }) (v := ?_) rfl (by kernel_rfl) (by kernel_rfl) (by kernel_rfl) (fun _ _ _ h => h) (Or.inl ⟨by rfl, ?_⟩) (by assumption) ?_
                rotate_left 1
                · (intro w hSw; (try dsimp only at hSw); go_simp; try with_reducible rfl)
                try simp only [Act.put, List.setIfInBounds_toArray, List.set_cons_zero, List.set_cons_succ]
                refine wpAnyH_take (i := 1) (oi := { dst := some 60, op := .move (.tmp 7), type := 3, pos := _, after := _, guard := none }) (v := ?_) rfl (by kernel_rfl) (by kernel_rfl) (by kernel_rfl) (fun _ _ _ h => h) (Or.inl ⟨by rfl, ?_⟩) (by assumption) ?_
                rotate_left 1
                · (intro w hSw; (try dsimp only at hSw); go_simp; try with_reducible rfl)
                try simp only [Act.put, List.setIfInBounds_toArray, List.set_cons_zero, List.set_cons_succ]
                refine wpAnyH_take (i := 2) (oi := { dst := some 61, op := .indexAddr 39 (.tmp 59) (.tmp 60), type := 0, pos := _, after := _, guard := none }) (v := ?_) rfl (by kernel_rfl) (by kernel_rfl) (by kernel_rfl) (fun _ _ _ h => h) (Or.inl ⟨by rfl, ?_⟩) (by assumption) ?_
                rotate_left 1
                · (intro w hSw; (try dsimp only at hSw); go_simp; try with_reducible rfl)
                try simp only [Act.put, List.setIfInBounds_toArray, List.set_cons_zero, List.set_cons_succ]
                refine wpAnyH_take (i := 3) (oi := { dst := some 62, op := .load 22 (.tmp 61), type := 22, pos := _, after := _, guard := none }) (v := ?_) rfl (by kernel_rfl) (by kernel_rfl) (by kernel_rfl) (fun _ _ _ h => h) (Or.inl ⟨by rfl, ?_⟩) (by assumption) ?_
                rotate_left 1
                · (intro w hSw; (try dsimp only at hSw); go_simp; try with_reducible rfl)
                try simp only [Act.put, List.setIfInBounds_toArray, List.set_cons_zero, List.set_cons_succ]
                refine wpAnyH_take (i := 4) (oi := { dst := some 63, op := .move (.tmp 3), type := 39, pos := _, after := _, guard := none }) (v := ?_) rfl (by kernel_rfl) (by kernel_rfl) (by kernel_rfl) (fun _ _ _ h => h) (Or.inl ⟨by rfl, ?_⟩) (by assumption) ?_
                rotate_left 1
                · (intro w hSw; (try dsimp only at hSw); go_simp; try with_reducible rfl)
                try simp only [Act.put, List.setIfInBounds_toArray, List.set_cons_zero, List.set_cons_succ]
                refine wpAnyH_take (i := 5) (oi := { dst := some 64, op := .move (.tmp 7), type := 3, pos := _, after := _, guard := none }) (v := ?_) rfl (by kernel_rfl) (by kernel_rfl) (by kernel_rfl) (fun _ _ _ h => h) (Or.inl ⟨by rfl, ?_⟩) (by assumption) ?_
                rotate_left 1
                · (intro w hSw; (try dsimp only at hSw); go_simp; try with_reducible rfl)
                try simp only [Act.put, List.setIfInBounds_toArray, List.set_cons_zero, List.set_cons_succ]
                refine wpAnyH_take (i := 6) (oi := { dst := some 65, op := .indexAddr 39 (.tmp 63) (.tmp 64), type := 0, pos := _, after := _, guard := none }) (v := ?_) rfl (by kernel_rfl) (by kernel_rfl) (by kernel_rfl) (fun _ _ _ h => h) (Or.inl ⟨by rfl, ?_⟩) (by assumption) ?_
                rotate_left 1
                · (intro w hSw; (try dsimp only at hSw); go_simp; try with_reducible rfl)
                try simp only [Act.put, List.setIfInBounds_toArray, List.set_cons_zero, List.set_cons_succ]
                refine wpAnyH_take (i := 7) (oi := { dst := some 66, op := .load 22 (.tmp 65), type := 22, pos := _, after := _, guard := none }) (v := ?_) rfl (by kernel_rfl) (by kernel_rfl) (by kernel_rfl) (fun _ _ _ h => h) (Or.inl ⟨by rfl, ?_⟩) (by assumption) ?_
                rotate_left 1
                · (intro w hSw; (try dsimp only at hSw); go_simp; try with_reducible rfl)
                try simp only [Act.put, List.setIfInBounds_toArray, List.set_cons_zero, List.set_cons_succ]
                refine wpAnyH_take (i := 8) (oi := { dst := some 67, op := .move (.tmp 6), type := 3, pos := _, after := _, guard := none }) (v := ?_) rfl (by kernel_rfl) (by kernel_rfl) (by kernel_rfl) (fun _ _ _ h => h) (Or.inl ⟨by rfl, ?_⟩) (by assumption) ?_
                rotate_left 1
                · (intro w hSw; (try dsimp only at hSw); go_simp; try with_reducible rfl)
                try simp only [Act.put, List.setIfInBounds_toArray, List.set_cons_zero, List.set_cons_succ]
                refine wpAnyH_take (i := 9) (oi := { dst := some 68, op := .indexAddr 22 (.tmp 66) (.tmp 67), type := 0, pos := _, after := _, guard := none }) (v := ?_) rfl (by kernel_rfl) (by kernel_rfl) (by kernel_rfl) (fun _ _ _ h => h) (Or.inl ⟨by rfl, ?_⟩) (by assumption) ?_
                rotate_left 1
                · (intro w hSw; (try dsimp only at hSw); go_simp; try with_reducible rfl)
                try simp only [Act.put, List.setIfInBounds_toArray, List.set_cons_zero, List.set_cons_succ]
                refine wpAnyH_take (i := 10) (oi := { dst := some 69, op := .load 5 (.tmp 68), type := 5, pos := _, after := _, guard := none }) (v := ?_) rfl (by kernel_rfl) (by kernel_rfl) (by kernel_rfl) (fun _ _ _ h => h) (Or.inl ⟨by rfl, ?_⟩) (by assumption) ?_
                rotate_left 1
                · (intro w hSw; (try dsimp only at hSw); go_simp; try with_reducible rfl)
                try simp only [Act.put, List.setIfInBounds_toArray, List.set_cons_zero, List.set_cons_succ]
                refine wpAnyH_ready (rs := [11]) (by kernel_rfl) (by simp) ?_
                refine AllReadyH.cons (o := { dst := some 70, op := .call { callee := .value (.func 56), args := #[.tmp 69], argTypes := #[5] }, type := 5, pos := _, after := _, guard := none }) rfl (fun K hK => ?_) AllReadyH.nil
                go_simp
                go_at_call 56
                (refine (IV.out _).mono ?_); rintro e x1 ⟨rfl, hb⟩; have HXe := Lib.hid (HXd.out.trans (hb.mono HXd.out.size)); clear hb
                clear hHeld
                refine hK.out _ _ ?_ (fun hHeld => ?_)
                · ((try dsimp only); exact KK.out _ HXe.out)
                clear hK K
                refine wpAnyH_ready (rs := [12]) (by kernel_rfl) (by simp) ?_
                refine AllReadyH.cons (o := { dst := some 71, op := .call { callee := .value (.func 55), args := #[.tmp 62, .tmp 70], argTypes := #[22, 5] }, type := 22, pos := _, after := _, guard := none }) rfl (fun K hK => ?_) AllReadyH.nil
                go_simp
                go_at_call 55
                (refine (TM.out _ HXe.out).mono ?_); rintro e x2 ⟨A9, c9, rfl, hr9, hb⟩; have HR9 := Lib.hid hr9; have HXf := Lib.hid (HXe.out.trans (hb.mono HXe.out.size)); clear hb hr9
                clear hHeld
                refine hK.out _ _ ?_ (fun hHeld => ?_)
                · ((try dsimp only); exact KK.out _ HXf.out)
                clear hK K
                refine wpAnyH_take (i := 13) (oi := { dst := some 8, op := .assign (.tmp 71), type := 22, pos := _, after := _, guard := none }) (v := ?_) rfl (by kernel_rfl) (by kernel_rfl) (by kernel_rfl) (fun _ _ _ h => h) (Or.inl ⟨by rfl, ?_⟩) (by assumption) ?_
                rotate_left 1
                · (intro w hSw; (try dsimp only at hSw); go_simp; try with_reducible rfl)
                try simp only [Act.put, List.setIfInBounds_toArray, List.set_cons_zero, List.set_cons_succ]
                refine wpAnyH_done (by kernel_rfl) ?_ _
                refine NoPanic.normal ?_
                clear hc0 hck hcc KK IV TM
                have HO2 := Lib.hid (Kd.R_below HO.out HXf.out)
                have HB2 := Lib.hid (HB.out.trans (HXf.out.mono HB.out.size))
                have hgw := (rblk HO.out).2
                have hgwr : g < wr.heap.size := by obtain ⟨cur, hh⟩ := hgw; exact (Array.getElem?_eq_some_iff.1 hh).1
                have HGW := Lib.hid hgwr
                obtain ⟨At, ct, z1, z2, _, _, hMt⟩ := relem HO2.out t (by omega)
                obtain ⟨Ak, ck, z3, z4, _, _, _⟩ := relem HO2.out k hk
                rw [mat_get i m M t (by omega), line_len] at z1 hMt
                rw [mat_get i m M k hk, line_len] at z3
                have HMT := Lib.hid hMt
                have g5 : (0 : Int) ≤ (t : Int) := by omega
                have g6 : (t : Int) < (i : Int) := by omega
                clear hMt hgw hgwr
                go_upto_region 16 with (fail)
                obtain ⟨W6, hW6⟩ : ∃ W6, W6 = x2.setCell ⟨g, k, none⟩ (.slice At m ct) := ⟨_, rfl⟩
                have HO6 := Lib.hid (show RowsR W6 w.heap.size (.slice (some ⟨g, 0, none⟩) i cO) (mat i m (swapI M t k)) by
                  have h := rput HO2.out k hk (.slice At m ct) (line m (M t)) _ HMT.out (fun q hq => hq)
                  rw [mat_set i m M k hk, ← hW6] at h
                  exact h)
                have HB6 := Lib.hid (show Below w.heap.size w W6 by rw [hW6]; exact HB2.out.setCell HGB.out _)
                have HR6 := Lib.hid (show (Kd.int .u8).R 5 W6 wr.heap.size (fun _ => True) (.slice A9 m c9) (line m (fun j => gmI (M k j) r)) by
                  obtain ⟨cur, hh⟩ := (rblk HO2.out).2
                  rw [hW6]
                  exact Kd.R_set (Kd.R_lower HR9.out HXe.out.size) hh (by decide) k _)
                rw [← hW6]
                clear hW6 z1 z2 z3 z4 HMT HO2 HB2 HR9 HXf HXe HXd
                obtain ⟨Aj, cj, z1, z2, _, _, _⟩ := relem HO6.out t (by omega)
                go_upto_region 17 with (fail)
                obtain ⟨W7, hW7⟩ : ∃ W7, W7 = W6.setCell ⟨g, t, none⟩ (.slice A9 m c9) := ⟨_, rfl⟩
                have HO7 := Lib.hid (show RowsR W7 w.heap.size (.slice (some ⟨g, 0, none⟩) i cO) (mat i m (fun q => if q < 0 then stepI M t k col r q else if q = t then (fun j => gmI (M k j) r) else swapI M t k q)) by
                  have h := rput HO6.out t (by omega) (.slice A9 m c9) (line m (fun j => gmI (M k j) r)) (fun q => some q = (Value.slice A9 m c9).ownBlock) (row_M (Kd.own_of_R HR6.out) HB.out.size rfl) (fun q hq => by
                    have h1 := Kd.R_base HR6.out q hq.symm
                    have := HGW.out
                    omega)
                  rw [mat_set i m (swapI M t k) t (by omega), ← hW7] at h
                  exact h)
                have HB7 := Lib.hid (show Below w.heap.size w W7 by rw [hW7]; exact HB6.out.setCell HGB.out _)
                have HX7 := Lib.hid (show (Kd.int .u8).R 5 W7 wr.heap.size (fun _ => True) (.slice A9 m c9) (line m (fun j => gmI (M k j) r)) by
                  obtain ⟨cur, hh⟩ := (rblk HO6.out).2
                  have h := Kd.R_set HR6.out hh (by decide) t (.slice A9 m c9)
                  rw [← hW7] at h
                  exact h)
                have hc9 : m ≤ c9 := (Kd.R_reads' HR6.out).2.1
                rw [← hW7]
                clear hW7 z1 z2 HO6 HB6 HR6
                have HSW := Lib.hid (show BytM (swapI M t k) by intro a b; unfold swapI; split <;> exact HBY.out _ _)
                have HC9 := Lib.hid hc9
                clear hc9
                go_wp2
                go_loopw [9] (fun qv wr' => ∃ (q : Nat), q ≤ i ∧ qv = .int .i64 q ∧ Hid (RowsR wr' w.heap.size (.slice (some ⟨g, 0, none⟩) i cO) (mat i m (fun p => if p < q then stepI M t k col r p else if p = t then (fun j => gmI (M k j) r) else swapI M t k p))) ∧ Hid ((Kd.int .u8).R 5 wr' wr.heap.size (fun _ => True) (.slice A9 m c9) (line m (fun j => gmI (M k j) r))) ∧ Hid (Below w.heap.size w wr')) (fun qv _ => i - (intOf qv).toNat)
                case atStart => exact ⟨0, by omega, rfl, HO7, HX7, HB7⟩
                case round =>
                  clear HO7 HX7 HB7
                  obtain ⟨q, hq, rfl, HO7, HX7, HB7⟩ := hrel
                  by_cases hqi : q < i
                  · have g7 : (0 : Int) ≤ (q : Int) := by omega
                    have g8 : (q : Int) < (i : Int) := by omega
                    by_cases hqt : q = t
                    · have t2 : ((q : Int) != (t : Int)) = false := by simp [hqt]
                      go_wp2
                      go_roundw
                      case rel =>
                        refine ⟨q + 1, by omega, by go_num, Lib.hid ?_, HX7, HB7⟩
                        rw [mat_congr i m _ (fun p => if p < q then stepI M t k col r p else if p = t then (fun j => gmI (M k j) r) else swapI M t k p) (fun p hp j hj => ?_)]
                        · exact HO7.out
                        · by_cases h1 : p < q
                          · rw [if_pos (by omega), if_pos h1]
                          · rw [if_neg h1]
                            by_cases h2 : p = t
                            · rw [if_pos (by omega), if_pos h2]; unfold stepI; rw [if_pos h2]
                            · rw [if_neg (by omega)]
                      case measure => simp [intOf]; omega
                    · have t2 : ((q : Int) != (t : Int)) = true := by simp; omega
                      have e1 : (mat i m (fun p => if p < q then stepI M t k col r p else if p = t then (fun j => gmI (M k j) r) else swapI M t k p)).getD q [] = line m (swapI M t k q) := by rw [mat_get i m _ q hqi]; simp [hqt]
                      obtain ⟨Aq, cq, z1, _, l1, hCq, _⟩ := relem HO7.out q hqi
                      rw [e1, line_len] at z1 l1 hCq
                      obtain ⟨adq, rfl, hcb⟩ := at_row hCq col hlt
                      rw [line_get m (swapI M t k q) col hlt] at hcb
                      have KK := Lib.hid (fun W (hB : Below wr.heap.size wr W) => And.intro (pw_cell_below hB z1) (pw_cell_below hB hcb))
                      have hC9' : (Kd.int .u8).C wr A9 m (line m (fun j => gmI (M k j) r)) := by
                        have h := (Kd.R_reads' HX7.out).2.2
                        rw [line_len] at h
                        exact h
                      have TM := Lib.hid (fun W (hB : Below wr.heap.size wr W) => times_any m c9 A9 (fun j => gmI (M k j) r) (swapI M t k q col) W (Kd.C_below hC9' hB) (fun j => gmI_byt (HBY.out k j)) (HSW.out q col) HC9.out hm)
                      have PM := Lib.hid (fun A2 c2 W (hB : Below wr.heap.size wr W) (h2 : (Kd.int .u8).C W A2 m (line m (fun j => gmI (gmI (M k j) r) (swapI M t k q col)))) (hc2 : m ≤ c2) => plus_any m cq c2 (some adq) A2 (swapI M t k q) (fun j => gmI (gmI (M k j) r) (swapI M t k q col)) W (Kd.C_below hCq hB) h2 (HSW.out q) (fun j => gmI_byt (gmI_byt (HBY.out k j))) l1 hc2 hm)
                      have HGQ := Lib.hid (show g < wr.heap.size by obtain ⟨cur, hh⟩ := (rblk HO7.out).2; exact (Array.getElem?_eq_some_iff.1 hh).1)
                      have HXd := Lib.hid (show Below wr.heap.size wr wr.drew from (Below.refl _ _).drew)
                      clear z1 l1 hCq hcb hC9' e1
                      go_upto_region 21 with (fail)
                      refine wp_region_noPanic ?_
                      refine wp_region_held_drew (S := (fun W => True)) (by kernel_rfl) ?_ (fun hHeld => ?_)
                      · ((try dsimp only); all_goals exact trivial)
                      refine wpAnyH_take (i := 0) (oi := { dst := some 92, op := .move (.tmp 3), type := 39, pos := _, after := _, guard := none }) (v := ?_) rfl (by kernel_rfl) (by kernel_rfl) (by kernel_rfl) (fun _ _ _ h => h) (Or.inl ⟨by rfl, ?_⟩) (by assumption) ?_
                      rotate_left 1
                      · (intro w hSw; (try dsimp only at hSw); go_simp; try with_reducible rfl)
                      try simp only [Act.put, List.setIfInBounds_toArray, List.set_cons_zero, List.set_cons_succ]
                      refine wpAnyH_take (i := 1) (oi := { dst := some 93, op := .move (.tmp 9), type := 3, pos := _, after := _, guard := none }) (v := ?_) rfl (by kernel_rfl) (by kernel_rfl) (by kernel_rfl) (fun _ _ _ h => h) (Or.inl ⟨by rfl, ?_⟩) (by assumption) ?_
                      rotate_left 1
                      · (intro w hSw; (try dsimp only at hSw); go_simp; try with_reducible rfl)
                      try simp only [Act.put, List.setIfInBounds_toArray, List.set_cons_zero, List.set_cons_succ]
                      refine wpAnyH_take (i := 2) (oi := { dst := some 94, op := .move (.tmp 3), type := 39, pos := _, after := _, guard := none }) (v := ?_) rfl (by kernel_rfl) (by kernel_rfl) (by kernel_rfl) (fun _ _ _ h => h) (Or.inl ⟨by rfl, ?_⟩) (by assumption) ?_
                      rotate_left 1
                      · (intro w hSw; (try dsimp only at hSw); go_simp; try with_reducible rfl)
                      try simp only [Act.put, List.setIfInBounds_toArray, List.set_cons_zero, List.set_cons_succ]
                      refine wpAnyH_take (i := 3) (oi := { dst := some 95, op := .move (.tmp 9), type := 3, pos := _, after := _, guard := none }) (v := ?_) rfl (by kernel_rfl) (by kernel_rfl) (by kernel_rfl) (fun _ _ _ h => h) (Or.inl ⟨by rfl, ?_⟩) (by assumption) ?_
                      rotate_left 1
                      · (intro w hSw; (try dsimp only at hSw); go_simp; try with_reducible rfl)
                      try simp only [Act.put, List.setIfInBounds_toArray, List.set_cons_zero, List.set_cons_succ]
                      refine wpAnyH_take (i := 4) (oi := { dst := some 96, op := .indexAddr 39 (.tmp 94) (.tmp 95), type := 0, pos := _, after := _, guard := none }) (v := ?_) rfl (by kernel_rfl) (by kernel_rfl) (by kernel_rfl) (fun _ _ _ h => h) (Or.inl ⟨by rfl, ?_⟩) (by assumption) ?_
                      rotate_left 1
                      · (intro w hSw; (try dsimp only at hSw); go_simp; try with_reducible rfl)
                      try simp only [Act.put, List.setIfInBounds_toArray, List.set_cons_zero, List.set_cons_succ]
                      refine wpAnyH_take (i := 6) (oi := { dst := some 98, op := .move (.tmp 8), type := 22, pos := _, after := _, guard := none }) (v := ?_) rfl (by kernel_rfl) (by kernel_rfl) (by kernel_rfl) (fun _ _ _ h => h) (Or.inl ⟨by rfl, ?_⟩) (by assumption) ?_
                      rotate_left 1
                      · (intro w hSw; (try dsimp only at hSw); go_simp; try with_reducible rfl)
                      try simp only [Act.put, List.setIfInBounds_toArray, List.set_cons_zero, List.set_cons_succ]
                      refine wpAnyH_take (i := 7) (oi := { dst := some 99, op := .move (.tmp 3), type := 39, pos := _, after := _, guard := none }) (v := ?_) rfl (by kernel_rfl) (by kernel_rfl) (by kernel_rfl) (fun _ _ _ h => h) (Or.inl ⟨by rfl, ?_⟩) (by assumption) ?_
                      rotate_left 1
                      · (intro w hSw; (try dsimp only at hSw); go_simp; try with_reducible rfl)
                      try simp only [Act.put, List.setIfInBounds_toArray, List.set_cons_zero, List.set_cons_succ]
                      refine wpAnyH_take (i := 8) (oi := { dst := some 100, op := .move (.tmp 9), type := 3, pos := _, after := _, guard := none }) (v := ?_) rfl (by kernel_rfl) (by kernel_rfl) (by kernel_rfl) (fun _ _ _ h => h) (Or.inl ⟨by rfl, ?_⟩) (by assumption) ?_
                      rotate_left 1
                      · (intro w hSw; (try dsimp only at hSw); go_simp; try with_reducible rfl)
                      try simp only [Act.put, List.setIfInBounds_toArray, List.set_cons_zero, List.set_cons_succ]
                      refine wpAnyH_take (i := 9) (oi := { dst := some 101, op := .indexAddr 39 (.tmp 99) (.tmp 100), type := 0, pos := _, after := _, guard := none }) (v := ?_) rfl (by kernel_rfl) (by kernel_rfl) (by kernel_rfl) (fun _ _ _ h => h) (Or.inl ⟨by rfl, ?_⟩) (by assumption) ?_
                      rotate_left 1
                      · (intro w hSw; (try dsimp only at hSw); go_simp; try with_reducible rfl)
                      try simp only [Act.put, List.setIfInBounds_toArray, List.set_cons_zero, List.set_cons_succ]
                      refine wpAnyH_take (i := 11) (oi := { dst := some 103, op := .move (.tmp 6), type := 3, pos := _, after := _, guard := none }) (v := ?_) rfl (by kernel_rfl) (by kernel_rfl) (by kernel_rfl) (fun _ _ _ h => h) (Or.inl ⟨by rfl, ?_⟩) (by assumption) ?_
                      rotate_left 1
                      · (intro w hSw; (try dsimp only at hSw); go_simp; try with_reducible rfl)
                      try simp only [Act.put, List.setIfInBounds_toArray, List.set_cons_zero, List.set_cons_succ]
                      refine wpAnyH_ready (rs := [5, 10]) (by kernel_rfl) (by simp) ?_
                      refine AllReadyH.cons (o := { dst := some 97, op := .load 22 (.tmp 96), type := 22, pos := _, after := _, guard := none }) rfl (fun K hK => ?_) ?_
                      · (have kk := KK.out _ (by first | exact HXe.out | exact HXd.out)); obtain ⟨kk1, kk2⟩ := kk; go_simp
                        clear hHeld
                        refine hK.out _ _ ?_ (fun hHeld => ?_)
                        · ((try dsimp only); all_goals exact trivial)
                        clear hK K
                        refine wpAnyH_ready (rs := [10]) (by kernel_rfl) (by simp) ?_
                        refine AllReadyH.cons (o := { dst := some 102, op := .load 22 (.tmp 101), type := 22, pos := _, after := _, guard := none }) rfl (fun K hK => ?_) AllReadyH.nil
                        (have kk := KK.out _ HXd.out); obtain ⟨kk1, kk2⟩ := kk; go_simp
                        clear hHeld
                        refine hK.out _ _ ?_ (fun hHeld => ?_)
                        · ((try dsimp only); all_goals exact trivial)
                        clear hK K
                        refine wpAnyH_take (i := 12) (oi := { dst := some 104, op := .indexAddr 22 (.tmp 102) (.tmp 103), type := 0, pos := _, after := _, guard := none }) (v := ?_) rfl (by kernel_rfl) (by kernel_rfl) (by kernel_rfl) (fun _ _ _ h => h) (Or.inl ⟨by rfl, ?_⟩) (by assumption) ?_
                        rotate_left 1
                        · (intro w hSw; (try dsimp only at hSw); go_simp; try with_reducible rfl)
                        try simp only [Act.put, List.setIfInBounds_toArray, List.set_cons_zero, List.set_cons_succ]
                        refine wpAnyH_ready (rs := [13]) (by kernel_rfl) (by simp) ?_
                        refine AllReadyH.cons (o := { dst := some 105, op := .load 5 (.tmp 104), type := 5, pos := _, after := _, guard := none }) rfl (fun K hK => ?_) AllReadyH.nil
                        (have kk := KK.out _ HXd.out); obtain ⟨kk1, kk2⟩ := kk; go_simp
                        clear hHeld
                        refine hK.out _ _ ?_ (fun hHeld => ?_)
                        · ((try dsimp only); all_goals exact trivial)
                        clear hK K
                        refine wpAnyH_ready (rs := [14]) (by kernel_rfl) (by simp) ?_
                        refine AllReadyH.cons (o := { dst := some 106, op := .call { callee := .value (.func 55), args := #[.tmp 98, .tmp 105], argTypes := #[22, 5] }, type := 22, pos := _, after := _, guard := none }) rfl (fun K hK => ?_) AllReadyH.nil
                        go_simp
                        go_at_call 55
                        (refine (TM.out _ HXd.out).mono ?_); rintro e x1 ⟨A5, c5, rfl, hr5, hb⟩; have h5 := (Kd.R_reads' hr5).2; rw [line_len] at h5; have HC5 := Lib.hid h5; have HXe := Lib.hid (HXd.out.trans (hb.mono HXd.out.size)); clear hb hr5 h5
                        clear hHeld
                        refine hK.out _ _ ?_ (fun hHeld => ?_)
                        · ((try dsimp only); all_goals exact trivial)
                        clear hK K
                        refine wpAnyH_ready (rs := [15]) (by kernel_rfl) (by simp) ?_
                        refine AllReadyH.cons (o := { dst := some 107, op := .call { callee := .value (.func 57), args := #[.tmp 97, .tmp 106], argTypes := #[22, 22] }, type := 22, pos := _, after := _, guard := none }) rfl (fun K hK => ?_) AllReadyH.nil
                        go_simp
                        go_at_call 57
                        (refine (PM.out A5 c5 _ HXe.out HC5.out.2 HC5.out.1).mono ?_); rintro e x2 ⟨A6, c6, rfl, hr6, hb⟩; have HR6 := Lib.hid hr6; have HXf := Lib.hid (HXe.out.trans (hb.mono HXe.out.size)); clear hb hr6
                        clear hHeld
                        refine hK.out _ _ ?_ (fun hHeld => ?_)
                        · ((try dsimp only); all_goals exact trivial)
                        clear hK K
                        refine wpAnyH_take (i := 16) (oi := { dst := some 108, op := .indexAddr 39 (.tmp 92) (.tmp 93), type := 0, pos := _, after := _, guard := none }) (v := ?_) rfl (by kernel_rfl) (by kernel_rfl) (by kernel_rfl) (fun _ _ _ h => h) (Or.inl ⟨by rfl, ?_⟩) (by assumption) ?_
                        rotate_left 1
                        · (intro w hSw; (try dsimp only at hSw); go_simp; try with_reducible rfl)
                        try simp only [Act.put, List.setIfInBounds_toArray, List.set_cons_zero, List.set_cons_succ]
                        refine wpAnyH_ready (rs := [17]) (by kernel_rfl) (by simp) ?_
                        refine AllReadyH.cons (o := { dst := none, op := .store 22 (.tmp 108) (.tmp 107), type := 0, pos := _, after := _, guard := none }) rfl (fun K hK => ?_) AllReadyH.nil
                        have HOf := Lib.hid (Kd.R_below HO7.out HXf.out); obtain ⟨_, _, y1, y2, _, _, _⟩ := relem HOf.out q hqi; go_simp
                        clear hHeld
                        refine hK.out _ _ ?_ (fun hHeld => ?_)
                        · ((try dsimp only); all_goals exact trivial)
                        clear hK K
                        refine wpAnyH_done (by kernel_rfl) ?_ _
                        refine NoPanic.normal ?_
                        (go_wp2; go_roundw; (case rel => exact ⟨q + 1, by omega, by go_num, Lib.hid (rowq HOf.out hqi hqt HR6.out (Nat.le_trans HB7.out.size HXe.out.size) (Nat.lt_of_lt_of_le HGQ.out HXe.out.size)), Lib.hid (setx (Kd.R_below HX7.out HXf.out) HOf.out q _), Lib.hid ((HB7.out.trans (HXf.out.mono HB7.out.size)).setCell HGB.out _)⟩); (case measure => simp [intOf]; omega))
                      refine AllReadyH.cons (o := { dst := some 102, op := .load 22 (.tmp 101), type := 22, pos := _, after := _, guard := none }) rfl (fun K hK => ?_) AllReadyH.nil
                      (have kk := KK.out _ HXd.out); obtain ⟨kk1, kk2⟩ := kk; go_simp
                      clear hHeld
                      refine hK.out _ _ ?_ (fun hHeld => ?_)
                      · ((try dsimp only); all_goals exact trivial)
                      clear hK K
                      refine wpAnyH_take (i := 12) (oi := { dst := some 104, op := .indexAddr 22 (.tmp 102) (.tmp 103), type := 0, pos := _, after := _, guard := none }) (v := ?_) rfl (by kernel_rfl) (by kernel_rfl) (by kernel_rfl) (fun _ _ _ h => h) (Or.inl ⟨by rfl, ?_⟩) (by assumption) ?_
                      rotate_left 1
                      · (intro w hSw; (try dsimp only at hSw); go_simp; try with_reducible rfl)
                      try simp only [Act.put, List.setIfInBounds_toArray, List.set_cons_zero, List.set_cons_succ]
                      refine wpAnyH_ready (rs := [5, 13]) (by kernel_rfl) (by simp) ?_
                      refine AllReadyH.cons (o := { dst := some 97, op := .load 22 (.tmp 96), type := 22, pos := _, after := _, guard := none }) rfl (fun K hK => ?_) ?_
                      · (have kk := KK.out _ (by first | exact HXe.out | exact HXd.out)); obtain ⟨kk1, kk2⟩ := kk; go_simp
                        clear hHeld
                        refine hK.out _ _ ?_ (fun hHeld => ?_)
                        · ((try dsimp only); all_goals exact trivial)
                        clear hK K
                        refine wpAnyH_ready (rs := [13]) (by kernel_rfl) (by simp) ?_
                        refine AllReadyH.cons (o := { dst := some 105, op := .load 5 (.tmp 104), type := 5, pos := _, after := _, guard := none }) rfl (fun K hK => ?_) AllReadyH.nil
                        (have kk := KK.out _ HXd.out); obtain ⟨kk1, kk2⟩ := kk; go_simp
                        clear hHeld
                        refine hK.out _ _ ?_ (fun hHeld => ?_)
                        · ((try dsimp only); all_goals exact trivial)
                        clear hK K
                        refine wpAnyH_ready (rs := [14]) (by kernel_rfl) (by simp) ?_
                        refine AllReadyH.cons (o := { dst := some 106, op := .call { callee := .value (.func 55), args := #[.tmp 98, .tmp 105], argTypes := #[22, 5] }, type := 22, pos := _, after := _, guard := none }) rfl (fun K hK => ?_) AllReadyH.nil
                        go_simp
                        go_at_call 55
                        (refine (TM.out _ HXd.out).mono ?_); rintro e x1 ⟨A5, c5, rfl, hr5, hb⟩; have h5 := (Kd.R_reads' hr5).2; rw [line_len] at h5; have HC5 := Lib.hid h5; have HXe := Lib.hid (HXd.out.trans (hb.mono HXd.out.size)); clear hb hr5 h5
                        clear hHeld
                        refine hK.out _ _ ?_ (fun hHeld => ?_)
                        · ((try dsimp only); all_goals exact trivial)
                        clear hK K
                        refine wpAnyH_ready (rs := [15]) (by kernel_rfl) (by simp) ?_
                        refine AllReadyH.cons (o := { dst := some 107, op := .call { callee := .value (.func 57), args := #[.tmp 97, .tmp 106], argTypes := #[22, 22] }, type := 22, pos := _, after := _, guard := none }) rfl (fun K hK => ?_) AllReadyH.nil
                        go_simp
                        go_at_call 57
                        (refine (PM.out A5 c5 _ HXe.out HC5.out.2 HC5.out.1).mono ?_); rintro e x2 ⟨A6, c6, rfl, hr6, hb⟩; have HR6 := Lib.hid hr6; have HXf := Lib.hid (HXe.out.trans (hb.mono HXe.out.size)); clear hb hr6
                        clear hHeld
                        refine hK.out _ _ ?_ (fun hHeld => ?_)
                        · ((try dsimp only); all_goals exact trivial)
                        clear hK K
                        refine wpAnyH_take (i := 16) (oi := { dst := some 108, op := .indexAddr 39 (.tmp 92) (.tmp 93), type := 0, pos := _, after := _, guard := none }) (v := ?_) rfl (by kernel_rfl) (by kernel_rfl) (by kernel_rfl) (fun _ _ _ h => h) (Or.inl ⟨by rfl, ?_⟩) (by assumption) ?_
                        rotate_left 1
                        · (intro w hSw; (try dsimp only at hSw); go_simp; try with_reducible rfl)
                        try simp only [Act.put, List.setIfInBounds_toArray, List.set_cons_zero, List.set_cons_succ]
                        refine wpAnyH_ready (rs := [17]) (by kernel_rfl) (by simp) ?_
                        refine AllReadyH.cons (o := { dst := none, op := .store 22 (.tmp 108) (.tmp 107), type := 0, pos := _, after := _, guard := none }) rfl (fun K hK => ?_) AllReadyH.nil
                        have HOf := Lib.hid (Kd.R_below HO7.out HXf.out); obtain ⟨_, _, y1, y2, _, _, _⟩ := relem HOf.out q hqi; go_simp
                        clear hHeld
                        refine hK.out _ _ ?_ (fun hHeld => ?_)
                        · ((try dsimp only); all_goals exact trivial)
                        clear hK K
                        refine wpAnyH_done (by kernel_rfl) ?_ _
                        refine NoPanic.normal ?_
                        (go_wp2; go_roundw; (case rel => exact ⟨q + 1, by omega, by go_num, Lib.hid (rowq HOf.out hqi hqt HR6.out (Nat.le_trans HB7.out.size HXe.out.size) (Nat.lt_of_lt_of_le HGQ.out HXe.out.size)), Lib.hid (setx (Kd.R_below HX7.out HXf.out) HOf.out q _), Lib.hid ((HB7.out.trans (HXf.out.mono HB7.out.size)).setCell HGB.out _)⟩); (case measure => simp [intOf]; omega))
                      refine AllReadyH.cons (o := { dst := some 105, op := .load 5 (.tmp 104), type := 5, pos := _, after := _, guard := none }) rfl (fun K hK => ?_) AllReadyH.nil
                      (have kk := KK.out _ HXd.out); obtain ⟨kk1, kk2⟩ := kk; go_simp
                      clear hHeld
                      refine hK.out _ _ ?_ (fun hHeld => ?_)
                      · ((try dsimp only); all_goals exact trivial)
                      clear hK K
                      refine wpAnyH_ready (rs := [5, 14]) (by kernel_rfl) (by simp) ?_
                      refine AllReadyH.cons (o := { dst := some 97, op := .load 22 (.tmp 96), type := 22, pos := _, after := _, guard := none }) rfl (fun K hK => ?_) ?_
                      · (have kk := KK.out _ (by first | exact HXe.out | exact HXd.out)); obtain ⟨kk1, kk2⟩ := kk; go_simp
                        clear hHeld
                        refine hK.out _ _ ?_ (fun hHeld => ?_)
                        · ((try dsimp only); all_goals exact trivial)
                        clear hK K
                        refine wpAnyH_ready (rs := [14]) (by kernel_rfl) (by simp) ?_
                        refine AllReadyH.cons (o := { dst := some 106, op := .call { callee := .value (.func 55), args := #[.tmp 98, .tmp 105], argTypes := #[22, 5] }, type := 22, pos := _, after := _, guard := none }) rfl (fun K hK => ?_) AllReadyH.nil
                        go_simp
                        go_at_call 55
                        (refine (TM.out _ HXd.out).mono ?_); rintro e x1 ⟨A5, c5, rfl, hr5, hb⟩; have h5 := (Kd.R_reads' hr5).2; rw [line_len] at h5; have HC5 := Lib.hid h5; have HXe := Lib.hid (HXd.out.trans (hb.mono HXd.out.size)); clear hb hr5 h5
                        clear hHeld
                        refine hK.out _ _ ?_ (fun hHeld => ?_)
                        · ((try dsimp only); all_goals exact trivial)
                        clear hK K
                        refine wpAnyH_ready (rs := [15]) (by kernel_rfl) (by simp) ?_
                        refine AllReadyH.cons (o := { dst := some 107, op := .call { callee := .value (.func 57), args := #[.tmp 97, .tmp 106], argTypes := #[22, 22] }, type := 22, pos := _, after := _, guard := none }) rfl (fun K hK => ?_) AllReadyH.nil
                        go_simp
                        go_at_call 57
                        (refine (PM.out A5 c5 _ HXe.out HC5.out.2 HC5.out.1).mono ?_); rintro e x2 ⟨A6, c6, rfl, hr6, hb⟩; have HR6 := Lib.hid hr6; have HXf := Lib.hid (HXe.out.trans (hb.mono HXe.out.size)); clear hb hr6
                        clear hHeld
                        refine hK.out _ _ ?_ (fun hHeld => ?_)
                        · ((try dsimp only); all_goals exact trivial)
                        clear hK K
                        refine wpAnyH_take (i := 16) (oi := { dst := some 108, op := .indexAddr 39 (.tmp 92) (.tmp 93), type := 0, pos := _, after := _, guard := none }) (v := ?_) rfl (by kernel_rfl) (by kernel_rfl) (by kernel_rfl) (fun _ _ _ h => h) (Or.inl ⟨by rfl, ?_⟩) (by assumption) ?_
                        rotate_left 1
                        · (intro w hSw; (try dsimp only at hSw); go_simp; try with_reducible rfl)
                        try simp only [Act.put, List.setIfInBounds_toArray, List.set_cons_zero, List.set_cons_succ]
                        refine wpAnyH_ready (rs := [17]) (by kernel_rfl) (by simp) ?_
                        refine AllReadyH.cons (o := { dst := none, op := .store 22 (.tmp 108) (.tmp 107), type := 0, pos := _, after := _, guard := none }) rfl (fun K hK => ?_) AllReadyH.nil
                        have HOf := Lib.hid (Kd.R_below HO7.out HXf.out); obtain ⟨_, _, y1, y2, _, _, _⟩ := relem HOf.out q hqi; go_simp
                        clear hHeld
                        refine hK.out _ _ ?_ (fun hHeld => ?_)
                        · ((try dsimp only); all_goals exact trivial)
                        clear hK K
                        refine wpAnyH_done (by kernel_rfl) ?_ _
                        refine NoPanic.normal ?_
                        (go_wp2; go_roundw; (case rel => exact ⟨q + 1, by omega, by go_num, Lib.hid (rowq HOf.out hqi hqt HR6.out (Nat.le_trans HB7.out.size HXe.out.size) (Nat.lt_of_lt_of_le HGQ.out HXe.out.size)), Lib.hid (setx (Kd.R_below HX7.out HXf.out) HOf.out q _), Lib.hid ((HB7.out.trans (HXf.out.mono HB7.out.size)).setCell HGB.out _)⟩); (case measure => simp [intOf]; omega))
                      refine AllReadyH.cons (o := { dst := some 106, op := .call { callee := .value (.func 55), args := #[.tmp 98, .tmp 105], argTypes := #[22, 5] }, type := 22, pos := _, after := _, guard := none }) rfl (fun K hK => ?_) AllReadyH.nil
                      go_simp
                      go_at_call 55
                      (refine (TM.out _ HXd.out).mono ?_); rintro e x1 ⟨A5, c5, rfl, hr5, hb⟩; have h5 := (Kd.R_reads' hr5).2; rw [line_len] at h5; have HC5 := Lib.hid h5; have HXe := Lib.hid (HXd.out.trans (hb.mono HXd.out.size)); clear hb hr5 h5
                      clear hHeld
                      refine hK.out _ _ ?_ (fun hHeld => ?_)
                      · ((try dsimp only); all_goals exact trivial)
                      clear hK K
                      refine wpAnyH_ready (rs := [5]) (by kernel_rfl) (by simp) ?_
                      refine AllReadyH.cons (o := { dst := some 97, op := .load 22 (.tmp 96), type := 22, pos := _, after := _, guard := none }) rfl (fun K hK => ?_) AllReadyH.nil
                      (have kk := KK.out _ (by first | exact HXe.out | exact HXd.out)); obtain ⟨kk1, kk2⟩ := kk; go_simp
                      clear hHeld
                      refine hK.out _ _ ?_ (fun hHeld => ?_)
                      · ((try dsimp only); all_goals exact trivial)
                      clear hK K
                      refine wpAnyH_ready (rs := [15]) (by kernel_rfl) (by simp) ?_
                      refine AllReadyH.cons (o := { dst := some 107, op := .call { callee := .value (.func 57), args := #[.tmp 97, .tmp 106], argTypes := #[22, 22] }, type := 22, pos := _, after := _, guard := none }) rfl (fun K hK => ?_) AllReadyH.nil
                      go_simp
                      go_at_call 57
                      (refine (PM.out A5 c5 _ HXe.out HC5.out.2 HC5.out.1).mono ?_); rintro e x2 ⟨A6, c6, rfl, hr6, hb⟩; have HR6 := Lib.hid hr6; have HXf := Lib.hid (HXe.out.trans (hb.mono HXe.out.size)); clear hb hr6
                      clear hHeld
                      refine hK.out _ _ ?_ (fun hHeld => ?_)
                      · ((try dsimp only); all_goals exact trivial)
                      clear hK K
                      refine wpAnyH_take (i := 16) (oi := { dst := some 108, op := .indexAddr 39 (.tmp 92) (.tmp 93), type := 0, pos := _, after := _, guard := none }) (v := ?_) rfl (by kernel_rfl) (by kernel_rfl) (by kernel_rfl) (fun _ _ _ h => h) (Or.inl ⟨by rfl, ?_⟩) (by assumption) ?_
                      rotate_left 1
                      · (intro w hSw; (try dsimp only at hSw); go_simp; try with_reducible rfl)
                      try simp only [Act.put, List.setIfInBounds_toArray, List.set_cons_zero, List.set_cons_succ]
                      refine wpAnyH_ready (rs := [17]) (by kernel_rfl) (by simp) ?_
                      refine AllReadyH.cons (o := { dst := none, op := .store 22 (.tmp 108) (.tmp 107), type := 0, pos := _, after := _, guard := none }) rfl (fun K hK => ?_) AllReadyH.nil
                      have HOf := Lib.hid (Kd.R_below HO7.out HXf.out); obtain ⟨_, _, y1, y2, _, _, _⟩ := relem HOf.out q hqi; go_simp
                      clear hHeld
                      refine hK.out _ _ ?_ (fun hHeld => ?_)
                      · ((try dsimp only); all_goals exact trivial)
                      clear hK K
                      refine wpAnyH_done (by kernel_rfl) ?_ _
                      refine NoPanic.normal ?_
                      (go_wp2; go_roundw; (case rel => exact ⟨q + 1, by omega, by go_num, Lib.hid (rowq HOf.out hqi hqt HR6.out (Nat.le_trans HB7.out.size HXe.out.size) (Nat.lt_of_lt_of_le HGQ.out HXe.out.size)), Lib.hid (setx (Kd.R_below HX7.out HXf.out) HOf.out q _), Lib.hid ((HB7.out.trans (HXf.out.mono HB7.out.size)).setCell HGB.out _)⟩); (case measure => simp [intOf]; omega))
                  · obtain rfl : q = i := by omega
                    have HOe := Lib.hid (show RowsR wr w.heap.size (.slice (some ⟨g, 0, none⟩) q cO) (mat q m (stepI M t k col r)) by
                      rw [mat_congr q m (stepI M t k col r) (fun p => if p < q then stepI M t k col r p else if p = t then (fun j => gmI (M k j) r) else swapI M t k p) (fun p hp j hj => by rw [if_pos hp])]
                      exact HO7.out)
                    go_wp2
                    go_roundw
                    case rel => exact ⟨t + 1, col + 1, stepI M t k col r, by go_num, by go_num, by omega, Lib.hid (.step HS.out htk hk HZ.out hz HRB.out HR1.out), HOe, HB7⟩
                    case measure => simp [intOf]; omega
            · obtain rfl : k = i := by omega
              go_wp2
              go_roundw
              case rel => exact ⟨t, col + 1, M, rfl, by go_num, by omega, Lib.hid (.skip HS.out (fun j h1 h2 => HZ.out j h1 h2)), HO, HB⟩
              case measure => simp [intOf]; omega
        · obtain rfl : col = m := by omega
          go_wp2
          go_ret
          exact ⟨_, t, M, rfl, HO.out, HS.out, HB.out⟩
end Go.Proofs.Ytcnfafappcbpnaa.Sol
namespace Go.Proofs.Ytcnfafappcbpnaa.Hl
open Go Go.RowKit Go.Proofs.Ytcnfafappcbpnaa.Gf Go.Proofs.Ytcnfafappcbpnaa.Gi Go.Proofs.Ytcnfafappcbpnaa.Bits Go.Proofs.Ytcnfafappcbpnaa.Mem Go.Proofs.Ytcnfafappcbpnaa.Alg Go.Proofs.Ytcnfafappcbpnaa.Sol Go.Proofs.Ytcnfafappcbpnaa.VPts Go.Proofs.Ytcnfafappcbpnaa.Str Go.Proofs.Ytcnfafappcbpnaa.Rws Go.Proofs.Ytcnfafappcbpnaa.Par Go.Proofs.Ytcnfafappcbpnaa.BHealFragments Go.Proofs.YtcnfafappcbpnaaW.PrintWords
set_option linter.unusedVariables false
theorem int_row {w : World} {A : Option Addr} {n : Nat} {s : Nat → Int} (h : (Kd.int .i64).C w A n (line n s)) (i : Nat) (hi : i < n) : ∃ ad, A = some ad ∧ w.cell? (ad.add i) = some (.int .i64 (s i)) := by
  obtain ⟨ad, c, e, _, hK, hc0⟩ := Kd.C_get h (0 : Int) (i : Int) (by omega) (by omega)
  refine ⟨ad, e, ?_⟩
  have hK' : c = [.int .i64 ((line n s).getD i 0)] := by simpa [Kd.int, Kd.scalar] using hK
  subst hK'
  have hq := hc0 0 _ rfl
  rw [line_get n s i hi] at hq
  simpa [Kd.int, Kd.scalar] using hq
end Go.Proofs.Ytcnfafappcbpnaa.Hl
namespace Go.Proofs.Ytcnfafappcbpnaa.Hl
open Go Go.RowKit Go.Proofs.Ytcnfafappcbpnaa.Gf Go.Proofs.Ytcnfafappcbpnaa.Gi Go.Proofs.Ytcnfafappcbpnaa.Bits Go.Proofs.Ytcnfafappcbpnaa.Mem Go.Proofs.Ytcnfafappcbpnaa.Alg Go.Proofs.Ytcnfafappcbpnaa.Sol Go.Proofs.Ytcnfafappcbpnaa.VPts Go.Proofs.Ytcnfafappcbpnaa.Str Go.Proofs.Ytcnfafappcbpnaa.Rws Go.Proofs.Ytcnfafappcbpnaa.Par Go.Proofs.Ytcnfafappcbpnaa.Mdc Go.Proofs.Ytcnfafappcbpnaa.BHealFragments Go.Proofs.YtcnfafappcbpnaaW.PrintWords Go.Proofs.YtcnfafappcbpnaaW.PrintLast
set_option linter.unusedVariables false
theorem ii_row {w : World} {A : Option Addr} {n : Nat} {xs : List Int} (h : (Kd.int .i64).C w A n xs) (i : Nat) (hi : i < n) : ∃ ad, A = some ad ∧ w.cell? (ad.add i) = some (.int .i64 (xs.getD i 0)) := by
  obtain ⟨ad, e, hc⟩ := Kd.at_int h (i : Int) (by omega) (by omega)
  simp only [Int.toNat_natCast] at hc
  exact ⟨ad, e, by simpa [rd] using hc⟩
theorem ii_rows {w : World} {A : Option Addr} {n : Nat} {ls : List (List Int)} (h : Kd.C Plc.kI w A n ls) (i : Nat) (hi : i < n) :
    ∃ ad A0 c0, A = some ad ∧ w.cell? (ad.add i) = some (.slice A0 (ls.getD i []).length c0) ∧ (ls.getD i []).length ≤ c0 ∧ (Kd.int .i64).C w A0 (ls.getD i []).length (ls.getD i []) := by
  obtain ⟨ad, c, e, _, hK, hc0⟩ := Kd.C_get h [] (i : Int) (by omega) (by omega)
  obtain ⟨A0, c0, rfl, l0, g0⟩ := hK
  refine ⟨ad, A0, c0, e, ?_, l0, g0⟩
  have hq := hc0 0 _ rfl
  simpa [Kd.slice] using hq
theorem ii_place {w : World} {A : Option Addr} {a : Nat} (h : Kd.C Plc.kI w A (2 * a) (Plc.placesG a)) (r j : Nat) (hr : r < 2 * a) (hj : j < a) : ∃ ad A0 c0 ad0, A = some ad ∧ w.cell? (ad.add r) = some (.slice A0 a c0) ∧ A0 = some ad0 ∧ w.cell? (ad0.add j) = some (.int .i64 (placeN a r j : Nat)) := by
  obtain ⟨ad, A0, c0, rfl, h1, _, h3⟩ := ii_rows h r hr
  have e1 : (Plc.placesG a).getD r [] = (List.range a).map (fun c => (placeN a r c : Int)) := by
    simp [Plc.placesG, List.getD_eq_getElem?_getD, hr]
    exact fun _ _ => rfl
  have e2 : ((Plc.placesG a).getD r []).length = a := by rw [e1]; simp
  rw [e2] at h1 h3
  obtain ⟨ad0, rfl, h4⟩ := ii_row h3 j hj
  have e3 : ((Plc.placesG a).getD r []).getD j 0 = (placeN a r j : Int) := by rw [e1]; simp [List.getD_eq_getElem?_getD, hj]
  rw [e3] at h4
  exact ⟨ad, some ad0, c0, ad0, rfl, h1, rfl, h4⟩
def dataM (a sz : Nat) (x : Nat → List Int) : Mtx := fun e m => (x (e / a)).getD (e % a * sz + m) 0
def decM (a sz : Nat) (f : Nat → Nat) (x : Nat → List Int) : Mtx := augM ((a + 1) * a) (eqsM a f) (dataM a sz x)
def rowL (a R : Nat) (f : Nat → Nat) (i j : Nat) : Nat → Int := fun u => xrow a (powM f i) j R u
def rowR (a sz S : Nat) (f : Nat → Nat) (x : Nat → List Int) (i j m : Nat) : Nat → Int := fun u => if u < S then xrow a (powM f i) j (2 * a) u else if u < S + m then (x i).getD (j * sz + (u - S)) 0 else 0
theorem xrow_out {a : Nat} {y : Nat → Int} {c S : Nat} (R : Nat) (h : ∀ r, r < R → placeN a r c < S) (u : Nat) (hu : S ≤ u) : xrow a y c R u = 0 := by
  induction R with
  | zero => rfl
  | succ R ih =>
    show (if u = placeN a R c then xorI (xrow a y c R u) (y R) else xrow a y c R u) = 0
    have := h R (by omega)
    rw [if_neg (by omega)]
    exact ih (fun r hr => h r (by omega))
theorem rowR_zero {a sz S i j L : Nat} {f : Nat → Nat} {x : Nat → List Int} (h : ∀ r, r < 2 * a → placeN a r j < S) : line L (rowL a (2 * a) f i j) = line L (rowR a sz S f x i j 0) := by
  refine line_congr _ _ _ (fun u hu => ?_)
  unfold rowL rowR
  by_cases e : u < S
  · rw [if_pos e]
  · rw [if_neg e, if_neg (by omega), xrow_out (2 * a) h u (by omega)]
theorem rowR_set {a sz S i j m L : Nat} {f : Nat → Nat} {x : Nat → List Int} (hL : S + m < L) : (line L (rowR a sz S f x i j m)).set (S + m) ((x i).getD (j * sz + m) 0) = line L (rowR a sz S f x i j (m + 1)) := by
  rw [line_set _ _ _ hL]
  refine line_congr _ _ _ (fun u hu => ?_)
  show (if u = S + m then (x i).getD (j * sz + m) 0 else rowR a sz S f x i j m u) = _
  unfold rowR
  by_cases e : u = S + m
  · rw [if_pos e, if_neg (by omega), if_pos (by omega), show u - S = m by omega]
  · rw [if_neg e]
    by_cases e2 : u < S
    · rw [if_pos e2, if_pos e2]
    · rw [if_neg e2, if_neg e2]
      by_cases e3 : u < S + m
      · rw [if_pos e3, if_pos (by omega)]
      · rw [if_neg e3, if_neg (by omega)]
theorem rowR_all {a sz i j : Nat} {f : Nat → Nat} {x : Nat → List Int} (hj : j < a) : line ((a + 1) * a + sz) (rowR a sz ((a + 1) * a) f x i j sz) = line ((a + 1) * a + sz) (decM a sz f x (i * a + j)) := by
  have e1 : (i * a + j) / a = i := by rw [Nat.mul_comm, Nat.mul_add_div (by omega), Nat.div_eq_of_lt hj, Nat.add_zero]
  have e2 : (i * a + j) % a = j := by rw [Nat.mul_comm, Nat.mul_add_mod, Nat.mod_eq_of_lt hj]
  refine line_congr _ _ _ (fun u hu => ?_)
  unfold rowR decM augM eqsM dataM
  rw [e1, e2]
  by_cases e : u < (a + 1) * a
  · rw [if_pos e, if_pos e]
  · rw [if_neg e, if_neg e, if_pos (by omega)]
theorem rowL_set {a R i j L : Nat} {f : Nat → Nat} (hL : placeN a R j < L) : (line L (rowL a R f i j)).set (placeN a R j) (xorI (rowL a R f i j (placeN a R j)) (powM f i R)) = line L (rowL a (R + 1) f i j) := by
  rw [line_set _ _ _ hL]
  refine line_congr _ _ _ (fun u hu => ?_)
  show (if u = placeN a R j then _ else rowL a R f i j u) = (if u = placeN a R j then xorI (xrow a (powM f i) j R u) (powM f i R) else xrow a (powM f i) j R u)
  by_cases e : u = placeN a R j
  · rw [if_pos e, if_pos e, e]; rfl
  · rw [if_neg e, if_neg e]; rfl
def outM (S sz : Nat) (M : Mtx) : Nat → Int := fun pos => M (pos / sz) (S + pos % sz)
theorem outM_row {S sz e : Nat} {M : Mtx} (hs : 1 ≤ sz) : line (e * sz) (outM S sz M) ++ (line (S + sz) (M e)).drop S = line ((e + 1) * sz) (outM S sz M) := by
  rw [show (line (S + sz) (M e)).drop S = line sz (fun m => M e (S + m)) from by
    refine List.ext_getElem (by simp [line_len]) (fun i h1 h2 => ?_)
    simp [line], Nat.add_mul, Nat.one_mul]
  refine List.ext_getElem (by simp [line_len]) (fun i h1 h2 => ?_)
  rw [line_len] at h2
  rw [List.getElem_append]
  by_cases hi : i < e * sz
  · rw [dif_pos (by rw [line_len]; exact hi)]
    simp [line]
  · rw [dif_neg (by rw [line_len]; exact hi)]
    simp only [line, List.getElem_map, List.getElem_range, List.length_map, List.length_range]
    unfold outM
    have h3 : i / sz = e := by
      rw [show i = sz * e + (i - e * sz) by rw [Nat.mul_comm]; omega, Nat.mul_add_div (by omega), Nat.div_eq_of_lt (by omega), Nat.add_zero]
    have h4 : i % sz = i - e * sz := by
      rw [show i = sz * e + (i - e * sz) by rw [Nat.mul_comm]; omega, Nat.mul_add_mod, Nat.mod_eq_of_lt (by omega), Nat.mul_comm]
      omega
    rw [h3, h4]
def RDecPost (S sz : Nat) (M0 : Mtx) (w : World) (e : Ending) (w' : World) : Prop :=
  ∃ A c t M, e = .returned (.slice A (S * sz) c) ∧ StepsTo S M0 (S + sz) t M ∧ S * sz ≤ c ∧ (Kd.int .u8).C w' A (S * sz) (line (S * sz) (outM S sz M)) ∧ Below w.heap.size w w'
set_option maxRecDepth 100000 in
set_option maxHeartbeats 8000000 in
theorem rdec_any (n k N c0 c1 sz a S : Nat) (A0 A1 : Option Addr) (s : Nat → Int) (x : Nat → List Int) (w : World) (k1 : 2 ≤ k) (k2 : k ≤ 8) (n2 : n ≤ 24) (ha : a = k - 1) (hS0 : S = (a + 1) * a) (hN : k ≤ N) (hN100 : N ≤ 100)
    (hS : (Kd.int .i64).C w A0 N (line N s)) (hX : Kd.C kRow w A1 N (rowsX x N)) (hs : ∀ i, i < N → 0 ≤ s i ∧ s i < n) (hxl : ∀ i, i < N → (x i).length = sz * a) (hxb : ∀ q i, Byt ((x q).getD i 0)) (s1 : 1 ≤ sz) (s2 : sz ≤ 100) :
    Calls Try.prog 18 #[.int .i64 n, .int .i64 k, .slice A0 N c0, .slice A1 N c1] w (RDecPost S sz (decM a sz (fun i => ptN n k (s i).toNat) x) w) := by
  have RW := Lib.hid (rows_calls n k w k1 k2 n2)
  obtain ⟨f, hf⟩ : ∃ f : Nat → Nat, f = fun i => ptN n k (s i).toNat := ⟨_, rfl⟩
  rw [← hf]
  have hfb : ∀ i, f i < 256 := fun i => by rw [hf]; exact ptN_lt n k _
  have HFB := Lib.hid hfb
  have a1 : 1 ≤ a := by omega
  have a7 : a ≤ 7 := by omega
  have ka : k = a + 1 := by omega
  have hS56 : S ≤ 56 := by rw [hS0]; exact Nat.mul_le_mul (show a + 1 ≤ 8 by omega) a7
  have hS2 : 2 ≤ S := by rw [hS0]; exact Nat.mul_le_mul (show 2 ≤ a + 1 by omega) a1
  have HM0 := Lib.hid (show BytM (decM a sz f x) from augM_byt (eqsM_byt hfb) (fun e m => hxb _ _))
  have HS := Lib.hid (fun W (hB : Below w.heap.size w W) => Kd.C_below hS hB)
  have HX := Lib.hid (fun W (hB : Below w.heap.size w W) i (hi : i < N) => show ∃ ad A0 c0, A1 = some ad ∧ W.cell? (ad.add i) = some (.slice A0 (sz * a) c0) ∧ (Kd.int .u8).C W A0 (sz * a) (x i) by
    obtain ⟨ad, A0, c0, e, h1, _, h3⟩ := rowsN_get (show Kd.C kRow W A1 (rowsX x N).length (rowsX x N) by rw [rowsX_len]; exact Kd.C_below hX hB) i (by rw [rowsX_len]; omega)
    rw [rowsX_get x N i (by omega), hxl i (by omega)] at h1 h3
    exact ⟨ad, A0, c0, e, h1, h3⟩)
  have HSR := Lib.hid hs
  obtain ⟨d, hd⟩ : ∃ d, d = 2 * k - 2 := ⟨_, rfl⟩
  have HRR := Lib.hid (fun W A (h : Kd.C kRow W A n (rowsM n k n)) i (hi : i < n) => show ∃ ad A0 c0, A = some ad ∧ W.cell? (ad.add i) = some (.slice A0 d c0) ∧ (Kd.int .u8).C W A0 d (pows (ptN n k i) d) by
    obtain ⟨ad, A0, c0, e, h1, _, h3⟩ := rows_row h i hi
    rw [← hd] at h1 h3
    exact ⟨ad, A0, c0, e, h1, h3⟩)
  have HF := Lib.hid hf
  have HPL := Lib.hid (fun W (hB : Below w.heap.size w W) => show Calls Try.prog 39 #[.int .i64 k] W fun e w' => ∃ A c, e = .returned (.slice A (2 * a) c) ∧ Kd.C Plc.kI w' A (2 * a) (Plc.placesG a) ∧ Below W.heap.size W w' by
    refine (Plc.places_any k W k1 k2).mono ?_
    rintro e w' ⟨A, c, rfl, _, h, hb⟩
    rw [← ha] at h ⊢
    exact ⟨A, c, rfl, h, hb⟩)
  have d2a : d = 2 * a := by omega
  have HKA := Lib.hid (And.intro ka (And.intro d2a hS0))
  have HPT := Lib.hid (fun r j (hr : r < 2 * a) (hj : j < a) => show placeN a r j < S by rw [hS0]; exact place_lt a r j a1 a7 hr hj)
  obtain ⟨ad0, rfl, _⟩ := int_row hS 0 (by omega)
  obtain ⟨ad1, A30, c30, rfl, kx0, _⟩ := HX.out w (Below.refl _ _) 0 (by omega)
  have kx0' : w.cell? ad1 = some (.slice A30 (sz * a) c30) := by simpa [Addr.add] using kx0
  obtain ⟨M0, hM0⟩ : ∃ M0, M0 = sz * a := ⟨_, rfl⟩
  rw [← hM0] at kx0'
  have KX0 := Lib.hid (fun W (hB : Below w.heap.size w W) => pw_cell_below hB kx0')
  have hM7 : M0 ≤ 700 := by rw [hM0]; exact Nat.mul_le_mul s2 a7
  have v1 : IntKind.i64.wrap ((k : Int) - 1) = (a : Int) := by rw [IntWalk.i64_in _ (by omega)]; omega
  have v2 : (k : Int) - 1 = (a : Int) := by omega
  have v3 : IntKind.i64.wrap ((k : Int) * (a : Int)) = (S : Int) := by rw [← Int.natCast_mul, ka, ← hS0]; exact IntWalk.i64_in _ (by omega)
  have v4 : (k : Int) * (a : Int) = (S : Int) := by rw [← Int.natCast_mul, ka, ← hS0]
  have v5 : Int.tdiv (M0 : Int) (a : Int) = (sz : Int) := by simp only [Int.tdiv]; rw [hM0, Nat.mul_div_cancel _ (by omega)]; rfl
  have v6 : (M0 : Int) / (a : Int) = (sz : Int) := by rw [hM0, Int.natCast_mul]; exact Int.mul_ediv_cancel _ (by omega)
  have v7 : IntKind.i64.wrap ((S : Int) + (sz : Int)) = (S : Int) + (sz : Int) := IntWalk.i64_in _ (by omega)
  have v8 : IntKind.i64.wrap (2 * (k : Int)) = 2 * (k : Int) := IntWalk.i64_in _ (by omega)
  have v9 : 2 * (k : Int) - 2 = (d : Int) := by omega
  have v10 : IntKind.i64.wrap (2 * (k : Int) - 2) = (d : Int) := by rw [IntWalk.i64_in _ (by omega)]; omega
  have g1 : (0 : Int) < (N : Int) := by omega
  have g2 : (0 : Int) < (a : Int) := by omega
  have g3 : ((a : Int) == 0) = false := by simp; omega
  have g4 : (a : Int) ≠ 0 := by omega
  have HM00 := Lib.hid hM0
  have HB0 := Lib.hid (Below.refl w.heap.size w)
  have HNN := Lib.hid (show k ≤ N from hN)
  clear hS hX hs hxl hxb hf hfb k1 k2 ka kx0 kx0' hd d2a hS0 ha hM0 hN
  go_enter Try.func18, Try.ntmps18
  go_upto_region 3 with (first
    | (go_at_call 29; (with_reducible refine RW.out.mono ?_); rintro e wR ⟨AR, cR, rfl, hcR, hCR, hb⟩; have HCR := Lib.hid hCR; have HBR := Lib.hid hb; clear hcR hCR hb)
    | (go_at_call 39; (with_reducible refine (HPL.out _ HBR.out).mono ?_); rintro e wP ⟨AP, cP, rfl, hCP, hb⟩; have HCP := Lib.hid hCP; have HBP := Lib.hid (HBR.out.trans (hb.mono HBR.out.size)); have HCR2 := Lib.hid (Kd.C_below HCR.out hb); clear HCR hCP hb))
  clear RW HPL HBR HB0
  have y0 := KX0.out wP HBP.out
  go_upto_region 6 with (fail)
  clear y0 v5 v6
  go_loopw [13, 14, 15, 16, 17, 18] (fun uv iv _ _ _ _ wr => ∃ (i : Nat) (u : Value), uv = u ∧ i ≤ k ∧ iv = .int .i64 i ∧ Hid (RowsR wr wP.heap.size u (mat (i * a) (S + sz) (decM a sz f x))) ∧ Hid (Below wP.heap.size wP wr)) (fun _ iv _ _ _ _ _ => k - (intOf iv).toNat)
  case atStart => exact ⟨0, _, rfl, by omega, rfl, Lib.hid (by rw [Nat.zero_mul]; exact Kd.R_nil _ _ _ _ _), Lib.hid (Below.refl _ _)⟩
  case round =>
    obtain ⟨i, u, rfl, hi, rfl, HO, HB⟩ := hrel
    by_cases hlt : i < k
    · have q1 : (i : Int) < (k : Int) := by omega
      have q2 : (0 : Int) ≤ (i : Int) := by omega
      go_upto_region 9 with (fail)
      go_loopw [13, 15, 16, 17, 18] (fun uv jv _ _ _ wr => ∃ (j : Nat) (u : Value), uv = u ∧ j ≤ a ∧ jv = .int .i64 j ∧ Hid (RowsR wr wP.heap.size u (mat (i * a + j) (S + sz) (decM a sz f x))) ∧ Hid (Below wP.heap.size wP wr)) (fun _ jv _ _ _ _ => a - (intOf jv).toNat)
      case atStart => exact ⟨0, _, rfl, by omega, rfl, HO, HB⟩
      case round =>
        clear HO HB
        obtain ⟨j, u, rfl, hj, rfl, HO, HB⟩ := hrel
        by_cases hja : j < a
        · have q3 : (j : Int) < (a : Int) := by omega
          have q4 : (0 : Int) ≤ (j : Int) := by omega
          obtain ⟨x1, hx1⟩ : ∃ x1, x1 = wr := ⟨_, rfl⟩
          rw [← hx1] at HO HB
          have HX1 := Lib.hid hx1
          clear hx1
          have hts : ((S : Int) + (sz : Int)).toNat = S + sz := by omega
          have HTS := Lib.hid hts
          clear hts
          go_upto_region 13 with (at_make; refine Kd.R_make (Kd.int .u8) (w0 := x1) x1.heap.size 5 rfl (N := 52) rfl 22 _ _ rfl ((S : Int) + (sz : Int)) rfl rfl Try.underlying22 (.int .u8 0) 1 Rws.info_byte rfl (by decide) (by decide) 0 (ok := fun _ => True) (okp := fun _ => True) rfl (fun _ hk => hk) trivial (by omega) (by omega) (by rw [HX1.out]; exact Below.refl _ _) (by rw [HX1.out]; exact Nat.le_refl _) ?_; intro v4 w4 h4 hb4 hg4 hf4; rw [HTS.out] at h4; obtain ⟨g, c4, hv4, hgb, _, _, _⟩ := Kd.R_form h4 (by rw [List.length_replicate]; omega); rw [List.length_replicate] at hv4; subst hv4; have HR0 := Lib.hid h4; have HQ0 := Lib.hid hb4; have HGB := Lib.hid hgb; clear h4 hb4 hg4 hf4 hgb)
          have HR1 := Lib.hid (show (Kd.int .u8).R 5 w4 x1.heap.size (fun _ => True) (.slice (some ⟨g, 0, none⟩) (S + sz) c4) (line (S + sz) (rowL a 0 f i j)) by rw [show line (S + sz) (rowL a 0 f i j) = List.replicate (S + sz) 0 from line_zero _]; exact HR0.out)
          clear HR0 HX1 HTS
          obtain ⟨ad, e, ks⟩ := int_row (HS.out w (Below.refl _ _)) i (by have := HNN.out; omega)
          injection e with e
          subst e
          have hsr := HSR.out i (by have := HNN.out; omega)
          obtain ⟨p, hp⟩ : ∃ p : Nat, s i = p := ⟨(s i).toNat, by omega⟩
          rw [hp] at ks
          have hfp : f i = ptN n k p := by rw [HF.out]; show ptN n k (s i).toNat = _; rw [hp]; rfl
          obtain ⟨adR, A2, c2, rfl, kr, hrow⟩ := HRR.out wP AR HCR2.out p (by omega)
          obtain ⟨adP, _, _, _, rfl, _⟩ := ii_place HCP.out 0 0 (by omega) (by omega)
          have KS := Lib.hid (fun W (hB : Below wP.heap.size wP W) => And.intro (pw_cell_below (HBP.out.trans (hB.mono HBP.out.size)) ks) (pw_cell_below hB kr))
          have HROW := Lib.hid hrow
          have HFP := Lib.hid hfp
          have q5 : (p : Int) < (n : Int) := by omega
          have q6 : (0 : Int) ≤ (p : Int) := by omega
          obtain ⟨ad, A3, c3, e, kx, hx3⟩ := HX.out w (Below.refl _ _) i (by have := HNN.out; omega)
          injection e with e
          subst e
          have HX3 := Lib.hid (fun W (hB : Below w.heap.size w W) => And.intro (pw_cell_below hB kx) (Kd.C_below hx3 hB))
          clear ks kr hrow hfp hsr hp kx hx3
          go_loopw [17] (fun rv wr => ∃ (r : Nat), r ≤ d ∧ rv = .int .i64 r ∧ Hid ((Kd.int .u8).R 5 wr x1.heap.size (fun _ => True) (.slice (some ⟨g, 0, none⟩) (S + sz) c4) (line (S + sz) (rowL a r f i j))) ∧ Hid (Below x1.heap.size x1 wr)) (fun rv _ => d - (intOf rv).toNat)
          case atStart => exact ⟨0, by omega, rfl, HR1, HQ0⟩
          case round =>
            clear HR1 HQ0
            obtain ⟨r, hr, rfl, HR, HQ⟩ := hrel
            by_cases hrd : r < d
            · have q7 : (r : Int) < (d : Int) := by omega
              have q8 : (0 : Int) ≤ (r : Int) := by omega
              have hr2 : r < 2 * a := by have := HKA.out.2.1; omega
              have hBP := HB.out.trans (HQ.out.mono HB.out.size)
              have hBw := HBP.out.trans (hBP.mono HBP.out.size)
              obtain ⟨k1', k2'⟩ := KS.out wr hBP
              obtain ⟨ad2, rfl, k3'⟩ := Sol.at_row (Kd.C_below HROW.out hBP) r hrd
              rw [pows_get _ _ _ hrd, ← HFP.out] at k3'
              obtain ⟨ad, A5, c5, ad5, e, k4', rfl, k5'⟩ := ii_place (Kd.C_below HCP.out hBP) r j hr2 hja
              injection e with e
              subst e
              have hpt := HPT.out r j hr2 hja
              obtain ⟨u, hu⟩ : ∃ u, u = placeN a r j := ⟨_, rfl⟩
              obtain ⟨c1', c2'⟩ := cell_of HR.out u (by omega)
              have hy1 : Byt (rowL a r f i j u) := xrow_byt (powM_byt HFB.out i) j r u
              have hy2 := powM_byt HFB.out i r
              have hxb := xor_bits hy1 hy2
              have hpn := fun q => put_of (Kd.R_drewN HR.out q) u (xorI (rowL a r f i j u) (powM f i r))
              rw [hu, rowL_set (by omega), ← hu] at hpn
              rw [← hu] at k5' hpt
              obtain ⟨y1, hy1e⟩ : ∃ y1, y1 = rowL a r f i j u := ⟨_, rfl⟩
              obtain ⟨y2, hy2e⟩ : ∃ y2 : Int, y2 = ((gp (f i) r : Nat) : Int) := ⟨_, rfl⟩
              have hy2p : powM f i r = y2 := by rw [hy2e]; rfl
              rw [hy2p] at hxb hpn
              rw [← hy1e] at hxb c1' hpn
              rw [← hy2e] at k3'
              obtain ⟨y3, hy3e⟩ : ∃ y3, y3 = xorI y1 y2 := ⟨_, rfl⟩
              rw [← hy3e] at hxb hpn
              have HPN := Lib.hid hpn
              have HBn := Lib.hid (fun q => (pw_below_drewN HQ.out q).setCell (p := ⟨g, u, none⟩) HGB.out (.int .u8 y3))
              have t1 : (u : Int) < (S : Int) + (sz : Int) := by omega
              have t2 : (0 : Int) ≤ (u : Int) := by omega
              have t3 : (u : Int) < ((S + sz : Nat) : Int) := by omega
              have t4 : (r : Int) < 2 * (a : Int) := by omega
              have t5 : (r : Int) < ((2 * a : Nat) : Int) := by omega
              have t6 : (i : Int) < (N : Int) := by have := HNN.out; omega
              clear hu hpt hy1 hy2 hpn hy1e hy2e hy2p hy3e hBP hBw hr2
              go_upto_region 15 with (fail)
              refine wp_region_still_tail 30 (by kernel_rfl) (by kernel_rfl) ?_
              change wpStill _ _ (wr.drewN 1) (fun a' => wpList _ _ _ _ a' (wr.drewN 1)) _ _
              simp only [List.take_succ_cons, List.take_zero, List.drop_succ_cons, List.drop_zero]
              repeat still_step
              refine wpStill_nil ?_
              go_wp2
              go_roundw
              case rel => exact ⟨r + 1, by omega, by go_num, Lib.hid (HPN.out 1), Lib.hid (HBn.out 1)⟩
              case measure => simp [intOf]; omega
            · obtain rfl : d = r := by omega
              have HR2 := Lib.hid (show (Kd.int .u8).R 5 wr x1.heap.size (fun _ => True) (.slice (some ⟨g, 0, none⟩) (S + sz) c4) (line (S + sz) (rowR a sz S f x i j 0)) by
                have h := HR.out
                rw [HKA.out.2.1, rowR_zero (S := S) (x := x) (sz := sz) (fun r hr => HPT.out r j hr hja)] at h
                exact h)
              have HQ2 := Lib.hid (show Below x1.heap.size x1 wr from HQ.out)
              clear HR HQ
              go_upto_region 17 with (fail)
              go_loopw [18] (fun mv wr => ∃ (m : Nat), m ≤ sz ∧ mv = .int .i64 m ∧ Hid ((Kd.int .u8).R 5 wr x1.heap.size (fun _ => True) (.slice (some ⟨g, 0, none⟩) (S + sz) c4) (line (S + sz) (rowR a sz S f x i j m))) ∧ Hid (Below x1.heap.size x1 wr)) (fun mv _ => sz - (intOf mv).toNat)
              case atStart => exact ⟨0, by omega, rfl, HR2, HQ2⟩
              case round =>
                clear HR2 HQ2
                obtain ⟨m, hm, rfl, HR, HQ⟩ := hrel
                by_cases hms : m < sz
                · have q7 : (m : Int) < (sz : Int) := by omega
                  have q8 : (0 : Int) ≤ (m : Int) := by omega
                  have hBP := HB.out.trans (HQ.out.mono HB.out.size)
                  have hBw := HBP.out.trans (hBP.mono HBP.out.size)
                  obtain ⟨k1', k2'⟩ := HX3.out wr hBw
                  rw [← HM00.out] at k1' k2'
                  have hpm : j * sz + m < M0 := by
                    have h2 : (j + 1) * sz ≤ a * sz := Nat.mul_le_mul_right sz hja
                    rw [Nat.add_mul, Nat.one_mul] at h2
                    have := HM00.out
                    rw [Nat.mul_comm] at this
                    omega
                  have hset := rowR_set (a := a) (sz := sz) (S := S) (i := i) (j := j) (m := m) (L := S + sz) (f := f) (x := x) (by omega)
                  obtain ⟨js, hjs⟩ : ∃ js, js = j * sz := ⟨_, rfl⟩
                  rw [← hjs] at hpm hset
                  obtain ⟨p2, hp2⟩ : ∃ p2, p2 = js + m := ⟨_, rfl⟩
                  rw [← hp2] at hpm hset
                  obtain ⟨u, hu⟩ : ∃ u, u = S + m := ⟨_, rfl⟩
                  rw [← hu] at hset
                  obtain ⟨ad3, rfl, k3'⟩ := Sol.at_row k2' p2 hpm
                  obtain ⟨c1', c2'⟩ := cell_of HR.out u (by omega)
                  obtain ⟨z0, hz0⟩ : ∃ z0, z0 = rowR a sz S f x i j m u := ⟨_, rfl⟩
                  rw [← hz0] at c1'
                  have hpn := put_of HR.out u ((x i).getD p2 0)
                  rw [hset] at hpn
                  obtain ⟨z, hz⟩ : ∃ z, z = (x i).getD p2 0 := ⟨_, rfl⟩
                  rw [← hz] at hpn k3'
                  have HPN := Lib.hid hpn
                  have HBn := Lib.hid (HQ.out.setCell (p := ⟨g, u, none⟩) HGB.out (.int .u8 z))
                  have w1 : IntKind.i64.wrap ((j : Int) * (sz : Int)) = (js : Int) := by rw [hjs, ← Int.natCast_mul]; exact IntWalk.i64_in _ (by rw [← hjs]; omega)
                  have w2 : (j : Int) * (sz : Int) = (js : Int) := by rw [hjs, ← Int.natCast_mul]
                  have w3 : (js : Int) + (m : Int) = (p2 : Int) := by omega
                  have w4 : (S : Int) + (m : Int) = (u : Int) := by omega
                  have w5 : IntKind.i64.wrap (js : Int) = (js : Int) := IntWalk.i64_in _ (by omega)
                  have t1 : (u : Int) < (S : Int) + (sz : Int) := by omega
                  have t2 : (0 : Int) ≤ (u : Int) := by omega
                  have t3 : (p2 : Int) < (M0 : Int) := by omega
                  have t4 : (0 : Int) ≤ (p2 : Int) := by omega
                  have t6 : (i : Int) < (N : Int) := by have := HNN.out; omega
                  have t7 : IntKind.i64.wrap (p2 : Int) = (p2 : Int) := IntWalk.i64_in _ (by omega)
                  have t8 : IntKind.i64.wrap (u : Int) = (u : Int) := IntWalk.i64_in _ (by omega)
                  clear hjs hp2 hu hz0 hset hpn hz hpm hBP hBw k2'
                  go_wp2
                  go_roundw
                  case rel => exact ⟨m + 1, by omega, by go_num, HPN, HBn⟩
                  case measure => simp [intOf]; omega
                · obtain rfl : sz = m := by omega
                  have HRX := Lib.hid (show (Kd.int .u8).R 5 wr x1.heap.size (fun _ => True) (.slice (some ⟨g, 0, none⟩) (S + sz) c4) (line (S + sz) (decM a sz f x (i * a + j))) by
                    have h := HR.out
                    have hS' := HKA.out.2.2
                    rw [hS', rowR_all hja, ← hS'] at h
                    exact h)
                  clear HR
                  go_wp2_with (at_builtin; refine rows_append2 (w0 := wP) rfl wP.heap.size rfl _ _ rfl u13 _ (mat (i * a + j) (S + sz) (decM a sz f x)) _ rfl rfl HO.out (HB.out.trans (HQ.out.mono HB.out.size)) HB.out.size HQ.out HRX.out (by rw [mat_len]; have := Nat.mul_le_mul (show i ≤ 8 by have := HKA.out.1; omega) a7; omega) ?_; intro v5 w5 h5 hb5; have H5 := Lib.hid h5; have HB5 := Lib.hid hb5; clear h5 hb5)
                  go_roundw
                  case rel => exact ⟨j + 1, _, rfl, by omega, by go_num, Lib.hid (by rw [show i * a + (j + 1) = i * a + j + 1 by omega, mat_succ]; exact H5.out), HB5⟩
                  case measure => simp [intOf]; omega
        · obtain rfl : a = j := by omega
          go_wp2
          go_roundw
          case rel => exact ⟨i + 1, _, rfl, by omega, by go_num, Lib.hid (by rw [Nat.add_mul, Nat.one_mul]; exact HO.out), HB⟩
          case measure => simp [intOf]; omega
    · obtain rfl : k = i := by omega
      have hka : k * a = S := by rw [HKA.out.1, HKA.out.2.2]
      have HO1 := Lib.hid (show RowsR wr wP.heap.size u13 (mat S (S + sz) (decM a sz f x)) by have h := HO.out; rw [hka] at h; exact h)
      have ST := Lib.hid (show Calls Try.prog 36 #[u13] wr fun e w' => ∃ As cs t M, e = .returned (.slice (some As) S cs) ∧ Kd.C kRow w' (some As) S (mat S (S + sz) M) ∧ StepsTo S (decM a sz f x) (S + sz) t M ∧ Below wr.heap.size wr w' by
        obtain ⟨A8, c8, rfl⟩ := Kd.R_slice HO1.out
        have h := (Kd.R_reads' HO1.out).2.2
        rw [mat_len] at h ⊢
        refine (steps_any S (S + sz) c8 A8 (decM a sz f x) wr h HM0.out (by omega) (by omega) (by omega) (by omega)).mono ?_
        rintro e w' ⟨u, t, M, rfl, hr, hst, hb⟩
        obtain ⟨As, cs, rfl⟩ := Kd.R_slice hr
        have h := (Kd.R_reads' hr).2.2
        rw [mat_len] at h ⊢
        obtain ⟨ad, _, _, rfl, _⟩ := mrow h 0 (by omega)
        exact ⟨ad, cs, t, M, rfl, h, hst, hb⟩)
      clear HO HO1 hka HX HS HSR HRR HPT HF KX0
      go_upto_region 24 with (go_at_call 36; (with_reducible refine ST.out.mono ?_); rintro e w2 ⟨As, cs, t, M, rfl, hC, hst, hb⟩; have HC2 := Lib.hid hC; have HST := Lib.hid hst; have HB2 := Lib.hid (HBP.out.trans ((HB.out.trans (hb.mono HB.out.size)).mono HBP.out.size)); clear hC hst hb)
      clear ST HB HM0
      go_loopw [20, 21] (fun ov ev wq => ∃ (e : Nat) (u : Value), ov = u ∧ e ≤ S ∧ ev = .int .i64 e ∧ Hid ((Kd.int .u8).R 5 wq w2.heap.size (fun _ => True) u (line (e * sz) (outM S sz M))) ∧ Hid (Below w2.heap.size w2 wq)) (fun _ ev _ => S - (intOf ev).toNat)
      case atStart => exact ⟨0, _, rfl, by omega, rfl, Lib.hid (by rw [Nat.zero_mul]; exact Kd.R_nil _ _ _ _ _), Lib.hid (Below.refl _ _)⟩
      case round =>
        obtain ⟨e, u, rfl, he, rfl, HO, HB⟩ := hrel
        by_cases heS : e < S
        · have q1 : (e : Int) < (S : Int) := by omega
          have q2 : (0 : Int) ≤ (e : Int) := by omega
          obtain ⟨ad, A3, c3, e3, kc, hc3, hC3⟩ := mrow (Kd.C_below HC2.out HB.out) e heS
          injection e3 with e3
          subst e3
          obtain ⟨i0, hinf, hzz⟩ := Option.map_eq_some_iff.1 Rws.info_byte
          simp only [Prod.mk.injEq] at hzz
          have k2 := cut_from (P := Try.prog) 22 5 .i64 Try.underlying22 hinf 1 hzz.2.1 A3 (S + sz) c3 (S : Int) (by omega) (by omega)
          simp only [Int.toNat_natCast, Nat.mul_one] at k2
          have hR1 := Kd.reads_of_C (d := (0 : Int)) hC3
          obtain ⟨A4, hA4⟩ : ∃ A4, A4 = if c3 = S then A3 else A3.map (·.add S) := ⟨_, rfl⟩
          rw [← hA4] at k2
          have hdr : ReadsInt wr .u8 A4 (S + sz - S) ((line (S + sz) (M e)).drop S) := by rw [hA4]; exact hR1.drop_ S (by omega) hc3
          rw [show S + sz - S = sz by omega] at hdr k2
          have HDR := Lib.hid (show (Kd.int .u8).C wr A4 sz ((line (S + sz) (M e)).drop S) from Kd.C_of_reads (d := (0 : Int)) hdr)
          have HXS := Lib.hid (outM_row (S := S) (sz := sz) (e := e) (M := M) s1)
          clear hdr hR1 hA4 hinf hzz hC3
          have hlen : e * sz + sz ≤ 6000 := by
            have := Nat.mul_le_mul (show e ≤ 56 by omega) s2
            omega
          have HLEN := Lib.hid hlen
          clear hlen
          go_wp2_with (at_builtin; refine Kd.R_append_rows (Kd.int .u8) (w0 := w2) w2.heap.size rfl _ _ 22 5 (.int .u8 0) 1 rfl Try.underlying22 Rws.info_byte rfl (by decide) (by decide) u20 (line (e * sz) (outM S sz M)) ((line (S + sz) (M e)).drop S) _ _ _ (fun _ => True) (fun _ => False) rfl rfl HO.out HDR.out (fun _ _ h => h) (fun _ h => h.elim) (fun _ _ => trivial) HB.out HB.out.size (by rw [line_len]; have := HLEN.out; omega) ?_; intro v5 w5 h5 hb5 _ _; rw [HXS.out] at h5; have H5 := Lib.hid h5; have HB5 := Lib.hid hb5; clear h5 hb5)
          go_roundw
          case rel => exact ⟨e + 1, _, rfl, by omega, by go_num, H5, HB5⟩
          case measure => simp [intOf]; omega
        · obtain rfl : S = e := by omega
          obtain ⟨A9, c9, rfl⟩ := Kd.R_slice HO.out
          rw [line_len]
          obtain ⟨h0, h1, h⟩ := Kd.R_reads' HO.out
          rw [line_len] at h h0
          rw [line_len] at h1
          have HC9 := Lib.hid h
          have HL9 := Lib.hid h1
          clear h h1 h0
          go_wp2
          go_ret
          exact ⟨A9, c9, t, M, rfl, HST.out, HL9.out, HC9.out, HB2.out.trans (HB.out.mono HB2.out.size)⟩
end Go.Proofs.Ytcnfafappcbpnaa.Hl
namespace Go.Proofs.Ytcnfafappcbpnaa.Hl
open Go Go.RowKit Go.Proofs.Ytcnfafappcbpnaa.Gf Go.Proofs.Ytcnfafappcbpnaa.Gi Go.Proofs.Ytcnfafappcbpnaa.Bits Go.Proofs.Ytcnfafappcbpnaa.Mem Go.Proofs.Ytcnfafappcbpnaa.Alg Go.Proofs.Ytcnfafappcbpnaa.Sol Go.Proofs.Ytcnfafappcbpnaa.VPts Go.Proofs.Ytcnfafappcbpnaa.Str Go.Proofs.Ytcnfafappcbpnaa.Rws Go.Proofs.Ytcnfafappcbpnaa.Par Go.Proofs.Ytcnfafappcbpnaa.Mdc Go.Proofs.Ytcnfafappcbpnaa.BHealFragments Go.Proofs.YtcnfafappcbpnaaW.PrintWords
set_option linter.unusedVariables false
theorem slots_inj {n k N a : Nat} {s : Nat → Int} {m : Nat → Nat} (k1 : 2 ≤ k) (k2 : k ≤ 8) (n2 : n ≤ 24) (ha : a = k - 1) (hok : okTo n s m N) (hk : k ≤ N) :
    (∀ i j, i < a + 1 → j < a + 1 → ptS n k s i = ptS n k s j → i = j) ∧ (∀ i j, i < a + 1 → j < a + 1 → gp (ptS n k s i) a = gp (ptS n k s j) a → i = j) := by
  have h1 : ∀ i j, i < k → j < k → ptS n k s i = ptS n k s j → i = j := ptS_inj (n := n) (k := k) (d := k) k1 k2 n2 hok hk
  refine ⟨fun i j hi hj e => h1 i j (by omega) (by omega) e, fun i j hi hj e => h1 i j (by omega) (by omega) ?_⟩
  have h2 := hok i (by omega)
  have h3 := hok j (by omega)
  have e2 : gp (ptN n k (s i).toNat) (k - 1) = gp (ptN n k (s j).toNat) (k - 1) := by rw [← ha]; exact e
  have := lam_inj n k (s i).toNat (s j).toNat k1 k2 n2 (by have := h2.1; have := h2.2.1; omega) (by have := h3.1; have := h3.2.1; omega) e2
  show ptN n k (s i).toNat = ptN n k (s j).toNat
  rw [this]
theorem dec_inj {n k N a : Nat} {s : Nat → Int} {m : Nat → Nat} (k1 : 2 ≤ k) (k2 : k ≤ 8) (n2 : n ≤ 24) (ha : a = k - 1) (hok : okTo n s m N) (hk : k ≤ N) : Inj ((a + 1) * a) (eqsM a (ptS n k s)) := by
  obtain ⟨h1, h2⟩ := slots_inj k1 k2 n2 ha hok hk
  exact eqs_inj (fun i => ptN_lt n k _) (by omega) (by omega) h1 h2
theorem dec_msg {n k N a sz t : Nat} {s : Nat → Int} {x : Nat → List Int} {m : Nat → Nat} {M : Mtx} (k1 : 2 ≤ k) (k2 : k ≤ 8) (n2 : n ≤ 24) (ha : a = k - 1) (hok : okTo n s m N) (hk : k ≤ N) (hxb : ∀ q i, Byt ((x q).getD i 0))
    (h : StepsTo ((a + 1) * a) (decM a sz (ptS n k s) x) ((a + 1) * a + sz) t M) : MsgOf k a sz (ptS n k s) x (fun u c => M u ((a + 1) * a + c)) := by
  have hfb : ∀ i, ptS n k s i < 256 := fun i => ptN_lt n k _
  have hA : BytM (eqsM a (ptS n k s)) := eqsM_byt hfb
  have hD : BytM (dataM a sz x) := fun e q => hxb _ _
  intro c hc i hi q hq
  have hia : i * a + q < (a + 1) * a := by
    have h2 : (i + 1) * a ≤ (a + 1) * a := Nat.mul_le_mul_right a (by omega)
    rw [Nat.add_mul, Nat.one_mul] at h2
    omega
  have h1 := steps_answer (q := sz) hA hD (dec_inj k1 k2 n2 ha hok hk) (Nat.le_add_right _ _) h (i * a + q) hia c hc
  rw [eqs_dot hfb (by omega) (by omega) _ i q hq] at h1
  have e1 : (i * a + q) / a = i := by rw [Nat.mul_comm, Nat.mul_add_div (by omega), Nat.div_eq_of_lt hq, Nat.add_zero]
  have e2 : (i * a + q) % a = q := by rw [Nat.mul_comm, Nat.mul_add_mod, Nat.mod_eq_of_lt hq]
  show G.of ((x i).getD (q * sz + c) 0) = _
  have e3 : dataM a sz x (i * a + q) c = (x i).getD (q * sz + c) 0 := by unfold dataM; rw [e1, e2]
  rw [e3] at h1
  exact h1.symm
theorem dec_same {n k N a sz t t' : Nat} {s : Nat → Int} {x : Nat → List Int} {m : Nat → Nat} {M M' : Mtx} (k1 : 2 ≤ k) (k2 : k ≤ 8) (n2 : n ≤ 24) (ha : a = k - 1) (hok : okTo n s m N) (hk : k ≤ N) (hxb : ∀ q i, Byt ((x q).getD i 0)) (s1 : 1 ≤ sz)
    (h : StepsTo ((a + 1) * a) (decM a sz (ptS n k s) x) ((a + 1) * a + sz) t M) (h' : StepsTo ((a + 1) * a) (decM a sz (ptS n k s) x) ((a + 1) * a + sz) t' M') :
    line ((a + 1) * a * sz) (outM ((a + 1) * a) sz M') = line ((a + 1) * a * sz) (outB (fun u c => M u ((a + 1) * a + c)) sz) := by
  have hfb : ∀ i, ptS n k s i < 256 := fun i => ptN_lt n k _
  have hA : BytM (eqsM a (ptS n k s)) := eqsM_byt hfb
  have hD : BytM (dataM a sz x) := fun e q => hxb _ _
  have hM0 : BytM (decM a sz (ptS n k s) x) := augM_byt hA hD
  have hI := dec_inj k1 k2 n2 ha hok hk
  refine line_congr _ _ _ (fun pos hp => ?_)
  have h1 : pos % sz < sz := Nat.mod_lt _ (by omega)
  have h2 : pos / sz < (a + 1) * a := Nat.div_lt_of_lt_mul (by rw [Nat.mul_comm]; exact hp)
  unfold outM outB
  refine G.of_inj (h'.byt hM0 _ _) (h.byt hM0 _ _) ?_
  exact hI.uniq (x := fun j => G.of (M' j ((a + 1) * a + pos % sz))) (y := fun j => G.of (M j ((a + 1) * a + pos % sz))) (fun i hi => by
    rw [steps_answer (q := sz) hA hD hI (Nat.le_add_right _ _) h' i hi (pos % sz) h1, steps_answer (q := sz) hA hD hI (Nat.le_add_right _ _) h i hi (pos % sz) h1]) (pos / sz) h2
theorem dec_ex {n k N a sz : Nat} {s : Nat → Int} {x : Nat → List Int} {m : Nat → Nat} (k1 : 2 ≤ k) (k2 : k ≤ 8) (n2 : n ≤ 24) (ha : a = k - 1) (hok : okTo n s m N) (hk : k ≤ N) (hxb : ∀ q i, Byt ((x q).getD i 0)) (s1 : 1 ≤ sz) :
    ∃ B : Nat → Nat → Int, (∀ u q, Byt (B u q)) ∧ MsgOf k a sz (ptS n k s) x B ∧ ∀ t' M', StepsTo ((a + 1) * a) (decM a sz (ptS n k s) x) ((a + 1) * a + sz) t' M' → line ((a + 1) * a * sz) (outM ((a + 1) * a) sz M') = line ((a + 1) * a * sz) (outB B sz) := by
  have hfb : ∀ i, ptS n k s i < 256 := fun i => ptN_lt n k _
  have hM0 : BytM (decM a sz (ptS n k s) x) := augM_byt (eqsM_byt hfb) (fun e q => hxb _ _)
  obtain ⟨t, M, h⟩ := StepsTo.ex ((a + 1) * a) hM0 ((a + 1) * a + sz)
  exact ⟨fun u c => M u ((a + 1) * a + c), fun u q => h.byt hM0 _ _, dec_msg k1 k2 n2 ha hok hk hxb h, fun t' M' h' => dec_same k1 k2 n2 ha hok hk hxb s1 h h'⟩
end Go.Proofs.Ytcnfafappcbpnaa.Hl
namespace Go.Proofs.Ytcnfafappcbpnaa.Str
open Go Go.RowKit Go.Proofs.Ytcnfafappcbpnaa.PHealFragments Go.Proofs.Ytcnfafappcbpnaa.BHealFragments Go.Proofs.Ytcnfafappcbpnaa.BHealFragments Go.Proofs.Ytcnfafappcbpnaa.Gf Go.Proofs.Ytcnfafappcbpnaa.Gi Go.Proofs.Ytcnfafappcbpnaa.Bits Go.Proofs.Ytcnfafappcbpnaa.Mem Go.Proofs.Ytcnfafappcbpnaa.VPts Go.Proofs.Ytcnfafappcbpnaa.Rws Go.Proofs.Ytcnfafappcbpnaa.Plc Go.Proofs.YtcnfafappcbpnaaW.PrintWords Go.Proofs.YtcnfafappcbpnaaW.PrintLast
set_option linter.unusedVariables false
theorem at_rowI {w : World} {A : Option Addr} {n : Nat} {xs : List Int} (h : (Kd.int .i64).C w A n xs) (i : Nat) (hi : i < n) : ∃ ad, A = some ad ∧ w.cell? (ad.add i) = some (.int .i64 (xs.getD i 0)) := by
  obtain ⟨ad, e, hc⟩ := Kd.at_int h (i : Int) (by omega) (by omega)
  simp only [Int.toNat_natCast] at hc
  exact ⟨ad, e, by simpa [rd] using hc⟩
theorem rowsI_get {w : World} {A : Option Addr} {n : Nat} {ls : List (List Int)} (h : Kd.C kI w A n ls) (i : Nat) (hi : i < n) :
    ∃ ad A0 c0, A = some ad ∧ w.cell? (ad.add i) = some (.slice A0 (ls.getD i []).length c0) ∧ (ls.getD i []).length ≤ c0 ∧ (Kd.int .i64).C w A0 (ls.getD i []).length (ls.getD i []) := by
  obtain ⟨ad, c, e, _, hK, hc0⟩ := Kd.C_get h [] (i : Int) (by omega) (by omega)
  obtain ⟨A0, c0, rfl, l0, g0⟩ := hK
  refine ⟨ad, A0, c0, e, ?_, l0, g0⟩
  have hq := hc0 0 _ rfl
  simpa [Kd.slice] using hq
theorem placesG_get (a r : Nat) (hr : r < 2 * a) : (placesG a).getD r [] = (List.range a).map (fun c => (Plc.placeN a r c : Int)) := by
  simp [placesG, List.getD_eq_getElem?_getD, hr]
theorem placesG_get2 (a r c : Nat) (hr : r < 2 * a) (hc : c < a) : ((placesG a).getD r []).getD c 0 = (Plc.placeN a r c : Int) := by
  rw [placesG_get a r hr]; simp [List.getD_eq_getElem?_getD, hc]
theorem placeN_lt (a r c : Nat) (h1 : 1 ≤ a) (h7 : a ≤ 7) (hr : r < 2 * a) (hc : c < a) : Plc.placeN a r c < (a + 1) * a := by
  have h : ∀ a, a < 8 → ∀ r, r < 2 * a → ∀ c, c < a → Plc.placeN a r c < (a + 1) * a := by decide +kernel
  exact h a (by omega) r hr c hc
def symV (x a sz : Nat) (b : List Int) (j i : Nat) : Int := dotN (fun r => ((gp x r : Nat) : Int)) (fun r => b.getD (Plc.placeN a r j * sz + i) 0) (2 * a)
def symTo (x a sz : Nat) (b : List Int) (j i m : Nat) : Int := dotN (fun r => ((gp x r : Nat) : Int)) (fun r => b.getD (Plc.placeN a r j * sz + i) 0) m
theorem symTo_succ (x a sz : Nat) (b : List Int) (j i m : Nat) : symTo x a sz b j i (m + 1) = xorI (symTo x a sz b j i m) (gmI ((gp x m : Nat) : Int) (b.getD (Plc.placeN a m j * sz + i) 0)) := rfl
theorem symTo_byt (x a sz : Nat) (b : List Int) (j i m : Nat) (hx : x < 256) : Byt (symTo x a sz b j i m) := dotN_byt (fun j => gp_byt x j hx) m
theorem symV_eq (x a sz : Nat) (b : List Int) (j i : Nat) : symTo x a sz b j i (2 * a) = symV x a sz b j i := rfl
def shardTo (x a sz : Nat) (b : List Int) (m : Nat) : List Int := ((List.range m).map (fun j => line sz (symV x a sz b j))).flatten
theorem shardTo_succ (x a sz : Nat) (b : List Int) (m : Nat) : shardTo x a sz b (m + 1) = shardTo x a sz b m ++ line sz (symV x a sz b m) := by
  unfold shardTo; rw [List.range_succ, List.map_append, List.flatten_append]; simp
theorem shardTo_len (x a sz : Nat) (b : List Int) (m : Nat) : (shardTo x a sz b m).length = m * sz := by
  induction m with
  | zero => simp [shardTo]
  | succ m ih => rw [shardTo_succ, List.length_append, ih, line_len, Nat.add_mul, Nat.one_mul]
def shardL (x a sz : Nat) (b : List Int) : List Int := shardTo x a sz b a
theorem shardL_len (x a sz : Nat) (b : List Int) : (shardL x a sz b).length = a * sz := shardTo_len _ _ _ _ _
set_option maxRecDepth 100000 in
set_option maxHeartbeats 4000000 in
theorem refshard_any (k x sz L : Nat) (A1 : Option Addr) (c1 : Nat) (A2 : Option Addr) (c2 : Nat) (b : List Int) (w : World) (k1 : 2 ≤ k) (k2 : k ≤ 8) (hx : x < 256)
    (h1 : (Kd.int .u8).C w A1 (2 * k - 2) (pows x (2 * k - 2))) (h2 : (Kd.int .u8).C w A2 L b) (hLs : L = (k * (k - 1)) * sz) (hsz : 1 ≤ sz) (hL1 : L ≤ 1000) (hbyt : ∀ x ∈ b, Byt x) :
    Calls Try.prog 38 #[.int .i64 k, .slice A1 (2 * k - 2) c1, .slice A2 L c2] w fun e w' => ∃ v, e = .returned v ∧ Kd.R (Kd.int .u8) 5 w' w.heap.size (fun _ => True) v (shardL x (k - 1) sz b) ∧ Below w.heap.size w w' := by
  have PL := Lib.hid (places_any k w k1 k2)
  obtain ⟨a, ha⟩ : ∃ a, a = k - 1 := ⟨_, rfl⟩
  rw [← ha] at PL hLs ⊢
  have a1 : 1 ≤ a := by omega
  have a7 : a ≤ 7 := by omega
  rw [show 2 * k - 2 = 2 * a by omega] at h1 ⊢
  rw [show k = a + 1 by omega] at hLs
  have HR1 := Lib.hid (fun W (hB : Below w.heap.size w W) => Kd.C_below h1 hB)
  have HR2 := Lib.hid (fun W (hB : Below w.heap.size w W) => Kd.C_below h2 hB)
  have HBY := Lib.hid hbyt
  have HX := Lib.hid hx
  have hs56 : (a + 1) * a ≤ 8 * 7 := Nat.mul_le_mul (by omega) a7
  have hs1 : 1 * 1 ≤ (a + 1) * a := Nat.mul_le_mul (by omega) a1
  obtain ⟨s, hs⟩ : ∃ s, s = (a + 1) * a := ⟨_, rfl⟩
  have HPL := Lib.hid (fun r j (hr : r < 2 * a) (hj : j < a) => show Plc.placeN a r j < s by rw [hs]; exact placeN_lt a r j a1 a7 hr hj)
  rw [← hs] at hLs hs56 hs1
  have d0 : IntKind.i64.wrap ((k : Int) - 1) = (a : Int) := by rw [IntWalk.i64_in _ (by omega)]; omega
  have d1 : IntKind.i64.wrap ((k : Int) * (a : Int)) = (s : Int) := by rw [show (k : Int) = ((a + 1 : Nat) : Int) by omega, ← Int.natCast_mul, ← hs, IntWalk.i64_in _ (by omega)]
  have d2 : (L : Int) / (s : Int) = (sz : Int) := by rw [hLs, Int.natCast_mul, Int.mul_comm]; exact Int.mul_ediv_cancel _ (by omega)
  have sz1 : sz ≤ L := by rw [hLs]; exact Nat.le_mul_of_pos_left sz (by omega)
  have HLS := Lib.hid hLs
  obtain ⟨q, hq⟩ : ∃ q, q = 2 * a := ⟨_, rfl⟩
  rw [← hq] at PL HR1 HPL ⊢
  have HQ := Lib.hid hq
  have hq14 : q ≤ 14 := by omega
  clear ha hs h1 h2 hLs hx hbyt k1 k2 hq
  go_enter Try.func38, Try.ntmps38
  go_upto_region 5 with (go_at_call 39; (with_reducible refine PL.out.mono ?_); rintro e w1 ⟨A3, c3, rfl, _, hC3, hb⟩; have HC3 := Lib.hid hC3; have HB1 := Lib.hid hb; clear hC3 hb)
  go_loopw [9, 10, 11, 12, 13] (fun u0 jv _ _ _ wr => ∃ (j : Nat) (u : Value), u0 = u ∧ j ≤ a ∧ jv = .int .i64 j ∧ Hid (Kd.R (Kd.int .u8) 5 wr w1.heap.size (fun _ => True) u (shardTo x a sz b j)) ∧ Hid (Below w1.heap.size w1 wr)) (fun _ jv _ _ _ _ => a - (intOf jv).toNat)
  case atStart => exact ⟨0, _, rfl, by omega, rfl, Lib.hid (by unfold shardTo; exact Kd.R_nil _ _ _ _ _), Lib.hid (Below.refl _ _)⟩
  case round =>
    obtain ⟨j, u, rfl, hj, rfl, HO, HB2⟩ := hrel
    by_cases hja : j < a
    · have g0 : (j : Int) < (a : Int) := by omega
      go_upto_region 8 with (fail)
      go_loopw [9, 11, 12, 13] (fun u0 iv _ _ wr => ∃ (i : Nat) (u : Value), u0 = u ∧ i ≤ sz ∧ iv = .int .i64 i ∧ Hid (Kd.R (Kd.int .u8) 5 wr w1.heap.size (fun _ => True) u (shardTo x a sz b j ++ line i (symV x a sz b j))) ∧ Hid (Below w1.heap.size w1 wr)) (fun _ iv _ _ _ => sz - (intOf iv).toNat)
      case atStart => exact ⟨0, _, rfl, by omega, rfl, Lib.hid (by rw [show line 0 (symV x a sz b j) = [] from rfl, List.append_nil]; exact HO.out), HB2⟩
      case round =>
        clear HO HB2
        obtain ⟨i, u, rfl, hi, rfl, HO, HB2⟩ := hrel
        by_cases hlt : i < sz
        · have g1 : (i : Int) < (sz : Int) := by omega
          go_upto_region 12 with (fail)
          go_loopw [12, 13] (fun s0 rv wr' => ∃ (r : Nat), r ≤ q ∧ rv = .int .i64 r ∧ s0 = .int .u8 (symTo x a sz b j i r) ∧ Hid (Kd.R (Kd.int .u8) 5 wr' w1.heap.size (fun _ => True) u9 (shardTo x a sz b j ++ line i (symV x a sz b j))) ∧ Hid (Below w1.heap.size w1 wr')) (fun _ rv _ => q - (intOf rv).toNat)
          case atStart => exact ⟨0, by omega, rfl, rfl, HO, HB2⟩
          case round =>
            clear HO HB2
            obtain ⟨r, hr, rfl, rfl, HO, HB2⟩ := hrel
            by_cases hrq : r < q
            · have hB := HB2.out
              have hBw := HB1.out.trans (hB.mono HB1.out.size)
              have hpl := HPL.out r j hrq hja
              have hLS := HLS.out
              have hr2 : r < 2 * a := by have := HQ.out; omega
              obtain ⟨p, hp⟩ : ∃ p, p = Plc.placeN a r j := ⟨_, rfl⟩
              rw [← hp] at hpl
              have hps : (p + 1) * sz ≤ s * sz := Nat.mul_le_mul_right sz hpl
              rw [Nat.add_mul, Nat.one_mul] at hps
              have hp56 : p * sz ≤ 1000 := by omega
              obtain ⟨po, hpo⟩ : ∃ po, po = p * sz := ⟨_, rfl⟩
              have e2 : IntKind.i64.wrap ((p : Int) * (sz : Int)) = (po : Int) := by rw [hpo, ← Int.natCast_mul]; exact IntWalk.i64_in _ (by omega)
              rw [← hpo] at hps
              obtain ⟨adr, rfl, hc1⟩ := at_row (HR1.out _ hBw) r hrq
              obtain ⟨ads, rfl, hc2⟩ := at_row (HR2.out _ hBw) (po + i) (by omega)
              obtain ⟨adp, A7, c7, rfl, hc3, _, hC7⟩ := rowsI_get (Kd.C_below HC3.out hB) r hrq
              rw [placesG_get a r hr2, List.length_map, List.length_range] at hc3
              have hC7' : (Kd.int .i64).C wr A7 a ((placesG a).getD r []) := by
                have e : ((placesG a).getD r []).length = a := by rw [placesG_get a r hr2]; simp
                rw [e] at hC7; exact hC7
              obtain ⟨ad7, rfl, hc4⟩ := at_rowI hC7' j hja
              rw [placesG_get2 a r j hr2 hja, ← hp] at hc4
              rw [pows_get x q r hrq] at hc1
              have hfs := symTo_succ x a sz b j i r
              rw [← hp, ← hpo] at hfs
              have hyb := symTo_byt x a sz b j i r HX.out
              have hzb := getD_byt HBY.out (po + i)
              have hgb := gp_byt x r HX.out
              obtain ⟨y, hy⟩ : ∃ y, y = symTo x a sz b j i r := ⟨_, rfl⟩
              obtain ⟨z, hz⟩ : ∃ z, z = b.getD (po + i) 0 := ⟨_, rfl⟩
              obtain ⟨f, hf⟩ : ∃ f, f = ((gp x r : Nat) : Int) := ⟨_, rfl⟩
              rw [← hy] at hfs hyb ⊢
              rw [← hz] at hc2 hfs hzb
              rw [← hf] at hc1 hfs hgb
              have hxb := xor_bits hyb (gmI_byt (b := z) hgb)
              rw [← hfs] at hxb
              have MC := Lib.hid (fun W => refmul_calls f z W hgb hzb)
              have g2 : IntKind.i64.wrap ((po : Int) + (i : Int)) = (po : Int) + (i : Int) := IntWalk.i64_in _ (by omega)
              have g3 : (0 : Int) ≤ (po : Int) + (i : Int) := by omega
              have g4 : (po : Int) + (i : Int) < (L : Int) := by omega
              have g5 : ((po : Int) + (i : Int)).toNat = po + i := by omega
              have g6 : (r : Int) < (q : Int) := by omega
              have g7 : (0 : Int) ≤ (r : Int) := by omega
              have g8 : (0 : Int) ≤ (j : Int) := by omega
              have HXB := Lib.hid hxb
              clear hB hBw hpl hLS hp hpo hps hp56 hC7 hC7' hfs hyb hzb hgb hy hz hf hxb hr2
              go_wp2
              go_quiet ((go_at_call 30; (with_reducible refine (MC.out _).mono ?_); rintro e w' ⟨rfl, ⟨nd, rfl⟩⟩; (first | exact ⟨rfl, _, World.drewN_drewN _ _ _⟩ | exact ⟨rfl, _, Eq.trans (World.drewN_drewN _ _ _) (congrArg (World.drewN _) (Nat.add_assoc _ _ _))⟩ | exact ⟨rfl, _, rfl⟩)))
              rw [HXB.out]
              go_wp2
              go_roundw
              case rel => exact ⟨r + 1, by omega, by go_num, rfl, Lib.hid (Kd.R_drewN HO.out _), Lib.hid (pw_below_drewN HB2.out _)⟩
              case measure => simp [intOf]; omega
            · obtain rfl : r = q := by omega
              have hsv := symV_eq x a sz b j i
              rw [← HQ.out] at hsv
              rw [hsv]
              obtain ⟨y, hy⟩ : ∃ y, y = symV x a sz b j i := ⟨_, rfl⟩
              rw [← hy]
              have HY := Lib.hid hy
              clear hy hsv
              go_wp2_with (at_builtin; refine byte_append (w0 := w1) rfl w1.heap.size rfl _ _ rfl u9 (shardTo x a sz b j ++ line i (symV x a sz b j)) y (fun _ => True) rfl rfl HO.out (fun _ _ => trivial) HB2.out HB2.out.size (by rw [List.length_append, shardTo_len, line_len]; have := Nat.mul_le_mul (show j ≤ 7 by omega) (show sz ≤ 1000 by omega); omega) ?_; intro v1 w2 hr2 hb2 hg2; have HR3 := Lib.hid hr2; have HB3 := Lib.hid hb2; clear hr2 hb2 hg2)
              go_roundw
              case rel => exact ⟨i + 1, _, rfl, by omega, by go_num, Lib.hid (by rw [line_succ, ← List.append_assoc, ← HY.out]; exact HR3.out), HB3⟩
              case measure => simp [intOf]; omega
        · obtain rfl : i = sz := by omega
          go_wp2
          go_roundw
          case rel => exact ⟨j + 1, _, rfl, by omega, by go_num, Lib.hid (by rw [shardTo_succ]; exact HO.out), HB2⟩
          case measure => simp [intOf]; omega
    · obtain rfl : j = a := by omega
      go_wp2
      go_ret
      exact ⟨_, rfl, Kd.R_lower HO.out HB1.out.size, HB1.out.trans (HB2.out.mono HB1.out.size)⟩
def shardsM (n k sz : Nat) (b : List Int) (m : Nat) : List (List Int) := (List.range m).map (fun i => shardL (ptN n k i) (k - 1) sz b)
theorem shardsM_succ (n k sz : Nat) (b : List Int) (m : Nat) : shardsM n k sz b (m + 1) = shardsM n k sz b m ++ [shardL (ptN n k m) (k - 1) sz b] := by simp [shardsM, List.range_succ]
theorem shardsM_len (n k sz : Nat) (b : List Int) (m : Nat) : (shardsM n k sz b m).length = m := by simp [shardsM]
set_option maxRecDepth 100000 in
set_option maxHeartbeats 2000000 in
theorem refenc_good (n k s sz L : Nat) (A : Option Addr) (c : Nat) (b : List Int) (w : World) (k1 : 2 ≤ k) (k2 : k ≤ 8) (n2 : n ≤ 24) (hs : k * (k - 1) = s) (hr : (Kd.int .u8).C w A L b) (hLs : L = s * sz) (hsz : 1 ≤ sz) (hL1 : L ≤ 1000) (hbyt : ∀ x ∈ b, Byt x) :
    Calls Try.prog 17 #[.int .i64 n, .int .i64 k, .slice A L c] w fun e w' => ∃ A' c', e = .returned (.tuple #[.slice A' n c', .bool true]) ∧ RowsR w' w.heap.size (.slice A' n c') (shardsM n k sz b n) ∧ Kd.C kRow w' A' n (shardsM n k sz b n) ∧ Below w.heap.size w w' := by
  have RW := Lib.hid (rows_calls n k w k1 k2 n2)
  have HS := Lib.hid (fun W (hB : Below w.heap.size w W) => Kd.C_below hr hB)
  have SH := Lib.hid (fun i A1 c1 W (hB : Below w.heap.size w W) (h1 : (Kd.int .u8).C W A1 (2 * k - 2) (pows (ptN n k i) (2 * k - 2))) => refshard_any k (ptN n k i) sz L A1 c1 A c b W k1 k2 (ptN_lt n k i) h1 (Kd.C_below hr hB) (by rw [hs]; exact hLs) hsz hL1 hbyt)
  have RG := Lib.hid (fun W A (hC : Kd.C kRow W A n (rowsM n k n)) i (hi : i < n) => rows_row hC i hi)
  obtain ⟨m, hm⟩ : ∃ m, m = 2 * k - 2 := ⟨_, rfl⟩
  rw [← hm] at SH RG
  have hs56 : k * (k - 1) ≤ 8 * 7 := Nat.mul_le_mul k2 (by omega)
  have hs2 : 2 * 1 ≤ k * (k - 1) := Nat.mul_le_mul k1 (by omega)
  have d0 : IntKind.i64.wrap ((k : Int) - 1) = ((k - 1 : Nat) : Int) := by rw [IntWalk.i64_in _ (by omega)]; omega
  obtain ⟨a, ha⟩ : ∃ a, a = k - 1 := ⟨_, rfl⟩
  have HA := Lib.hid ha
  rw [← ha] at d0 hs hs56 hs2
  rw [hs] at hs56 hs2
  have d1 : IntKind.i64.wrap ((k : Int) * (a : Int)) = (s : Int) := by rw [← Int.natCast_mul, hs, IntWalk.i64_in _ (by omega)]
  have t1 : (1 : Int) ≤ (s : Int) := by omega
  have d2 : (L : Int) % (s : Int) = 0 := by rw [hLs, Int.natCast_mul]; exact Int.mul_emod_right _ _
  have hL0 : 2 * 1 ≤ s * sz := Nat.mul_le_mul (by omega) hsz
  have d3 : ((L : Int) == 0) = false := by simp; omega
  clear hm ha hs hr hLs hsz hL1 hbyt hs56 hs2 k1 k2 hL0
  go_enter Try.func17, Try.ntmps17
  go_upto_region 6 with (go_at_call 29; (with_reducible refine RW.out.mono ?_); rintro e w1 ⟨A1, c1, rfl, _, hC1, hb⟩; have HC1 := Lib.hid hC1; have HB1 := Lib.hid hb; clear hC1 hb)
  go_loopw [9, 10] (fun u0 iv wr => ∃ (i : Nat) (u : Value), u0 = u ∧ i ≤ n ∧ iv = .int .i64 i ∧ Hid (RowsR wr w1.heap.size u (shardsM n k sz b i)) ∧ Hid (Below w1.heap.size w1 wr)) (fun _ iv _ => n - (intOf iv).toNat)
  case atStart => exact ⟨0, _, rfl, by omega, rfl, Lib.hid (Kd.R_nil _ _ _ _ _), Lib.hid (Below.refl _ _)⟩
  case round =>
    obtain ⟨i, u, rfl, hi, rfl, HO, HB2⟩ := hrel
    by_cases hlt : i < n
    · have hBw := HB1.out.trans (HB2.out.mono HB1.out.size)
      obtain ⟨ad, A3, c3, rfl, hcell, _, hC3⟩ := RG.out _ _ (Kd.C_below HC1.out HB2.out) i hlt
      have HC3 := Lib.hid hC3
      have HBW := Lib.hid hBw
      have g1 : (i : Int) < (n : Int) := by omega
      have g2 : (0 : Int) ≤ (i : Int) := by omega
      clear hC3 hBw
      go_wp2_with (first
        | (go_at_call 38; (with_reducible refine (SH.out i A3 c3 wr HBW.out HC3.out).mono ?_); rintro e w3 ⟨v3, rfl, hr3, hb⟩; obtain ⟨A5, c5, rfl⟩ := Kd.R_slice hr3; have HR3 := Lib.hid hr3; have HB3 := Lib.hid hb; clear hr3 hb)
        | (at_builtin; refine rows_append2 (w0 := w1) rfl w1.heap.size rfl _ _ rfl u9 _ (shardsM n k sz b i) _ rfl rfl HO.out (HB2.out.trans (HB3.out.mono HB2.out.size)) HB2.out.size HB3.out HR3.out (by rw [shardsM_len]; omega) ?_; intro v5 w5 h5 hb5; have H5 := Lib.hid h5; have HB5 := Lib.hid hb5; clear h5 hb5))
      go_roundw
      case rel => exact ⟨i + 1, _, rfl, by omega, by go_num, Lib.hid (by rw [shardsM_succ]; exact H5.out), HB5⟩
      case measure => simp [intOf]; omega
    · obtain rfl : i = n := by omega
      obtain ⟨A7, c7, rfl, hl7, hC7⟩ := Kd.R_reads HO.out
      have hro := HO.out
      rw [shardsM_len] at hro hC7 hl7 ⊢
      have HC7 := Lib.hid hC7
      have HL7 := Lib.hid (Kd.R_lower hro HB1.out.size)
      clear hl7 hC7 hro
      go_wp2
      go_ret2
      exact ⟨A7, c7, rfl, HL7.out, HC7.out, HB1.out.trans (HB2.out.mono HB1.out.size)⟩
def kP (sz : Nat) : Kd (Option Addr × Nat) := Kd.scalar (fun p => .slice p.1 sz p.2) (fun _ => rfl)
def chunkA (A : Option Addr) (c lo : Nat) : Option Addr := if c = lo then A else A.map (·.add lo)
def chunkP (A : Option Addr) (c sz m : Nat) : List (Option Addr × Nat) := (List.range m).map (fun i => (chunkA A c (i * sz), c - i * sz))
theorem chunkP_succ (A : Option Addr) (c sz m : Nat) : chunkP A c sz (m + 1) = chunkP A c sz m ++ [(chunkA A c (m * sz), c - m * sz)] := by simp [chunkP, List.range_succ]
theorem chunkP_len (A : Option Addr) (c sz m : Nat) : (chunkP A c sz m).length = m := by simp [chunkP]
def chunks (b : List Int) (sz m : Nat) : List (List Int) := (List.range m).map (fun i => (b.drop (i * sz)).take sz)
theorem chunks_len (b : List Int) (sz m : Nat) : (chunks b sz m).length = m := by simp [chunks]
theorem chunks_get (b : List Int) (sz m i : Nat) (hi : i < m) : (chunks b sz m).getD i [] = (b.drop (i * sz)).take sz := by simp [chunks, List.getD_eq_getElem?_getD, hi]
theorem chunk_len (b : List Int) (sz m i : Nat) (hi : i < m) (h : b.length = m * sz) : ((b.drop (i * sz)).take sz).length = sz := by
  have : (i + 1) * sz ≤ m * sz := Nat.mul_le_mul_right sz hi
  rw [Nat.add_mul, Nat.one_mul] at this
  rw [List.length_take, List.length_drop]; omega
theorem chunk_get (b : List Int) (sz i j : Nat) (hj : j < sz) : ((b.drop (i * sz)).take sz).getD j 0 = b.getD (i * sz + j) 0 := by
  rw [List.getD_eq_getElem?_getD, List.getElem?_take, if_pos hj, List.getElem?_drop, ← List.getD_eq_getElem?_getD]
theorem chunks_C {w : World} {A A' : Option Addr} {L c sz m : Nat} {b : List Int} (h : (Kd.int .u8).C w A L b) (hc : L ≤ c) (hL : L = m * sz) (hP : Kd.C (kP sz) w A' m (chunkP A c sz m)) : Kd.C kRow w A' m (chunks b sz m) := by
  have hb : b.length = m * sz := by have := h.1; omega
  refine ⟨chunks_len _ _ _, hP.2.1, fun hn => ?_⟩
  obtain ⟨ad, e, hcell⟩ := hP.2.2 hn
  refine ⟨ad, e, fun j p hj => ?_⟩
  have hjm : j < m := by have := (List.getElem?_eq_some_iff.1 hj).1; rwa [chunks_len] at this
  have hp : p = (b.drop (j * sz)).take sz := by
    simp [chunks, hjm] at hj; exact hj.symm
  subst hp
  obtain ⟨cs, h1, h2, h3⟩ := hcell j (chunkA A c (j * sz), c - j * sz) (by simp [chunkP, hjm])
  have h2' : cs = [.slice (chunkA A c (j * sz)) sz (c - j * sz)] := h2
  subst h2'
  have hle : (j + 1) * sz ≤ m * sz := Nat.mul_le_mul_right sz hjm
  rw [Nat.add_mul, Nat.one_mul] at hle
  have hcl := chunk_len b sz m j hjm hb
  have hr := ((Kd.reads_of_C (d := (0 : Int)) h).drop_ (j * sz) (by omega) hc).take_ sz (by omega)
  refine ⟨_, rfl, ⟨chunkA A c (j * sz), c - j * sz, by rw [hcl], by omega, ?_⟩, h3⟩
  rw [hcl]
  exact Kd.C_of_reads (d := (0 : Int)) hr
set_option maxRecDepth 100000 in
set_option maxHeartbeats 2000000 in
theorem parts_good (s sz L : Nat) (A : Option Addr) (c : Nat) (b : List Int) (w : World) (hr : (Kd.int .u8).C w A L b) (hc : L ≤ c) (hLs : L = s * sz) (hs : 1 ≤ s) (hsz : 1 ≤ sz) (hs2 : s ≤ 56) (hL1 : L ≤ 1000) :
    Calls Try.prog 40 #[.slice A L c, .int .i64 s] w fun e w' => ∃ A' c', e = .returned (.tuple #[.slice A' s c', .bool true]) ∧ s ≤ c' ∧ Kd.C kRow w' A' s (chunks b sz s) ∧ Below w.heap.size w w' := by
  have HS := Lib.hid (fun W (hB : Below w.heap.size w W) => Kd.C_below hr hB)
  have HC := Lib.hid hc
  have HLS := Lib.hid hLs
  have hL0 : 1 * 1 ≤ s * sz := Nat.mul_le_mul hs hsz
  have d2 : (L : Int) % (s : Int) = 0 := by rw [hLs, Int.natCast_mul]; exact Int.mul_emod_right _ _
  have d4 : (L : Int) / (s : Int) = (sz : Int) := by rw [hLs, Int.natCast_mul, Int.mul_comm]; exact Int.mul_ediv_cancel _ (by omega)
  have d3 : ((L : Int) == 0) = false := by simp; omega
  have d5 : decide ((s : Int) < 1) = false := by simp; omega
  have HB0 := Lib.hid (Below.refl w.heap.size w)
  have t1 : (1 : Int) ≤ (s : Int) := by omega
  have sz1 : sz ≤ L := by rw [hLs]; exact Nat.le_mul_of_pos_left sz (by omega)
  clear hr hc hLs hL0
  go_enter Try.func40, Try.ntmps40
  go_wp2
  rw [d2]
  clear d2 d4 d3 d5
  go_loopw [7, 8, 28] (fun u0 _ iv wr => ∃ (i : Nat) (u : Value), u0 = u ∧ i ≤ s ∧ iv = .int .i64 i ∧ Hid (Kd.R (kP sz) 22 wr w.heap.size (fun _ => True) u (chunkP A c sz i)) ∧ Hid (Below w.heap.size w wr)) (fun _ _ iv _ => s - (intOf iv).toNat)
  case atStart => exact ⟨0, _, rfl, by omega, rfl, Lib.hid (Kd.R_nil _ _ _ _ _), HB0⟩
  case round =>
    clear HB0
    obtain ⟨i, u, rfl, hi, rfl, HO, HB2⟩ := hrel
    by_cases hlt : i < s
    · have hle : (i + 1) * sz ≤ s * sz := Nat.mul_le_mul_right sz hlt
      have hls := HLS.out
      have hcl := HC.out
      obtain ⟨po, hpo⟩ : ∃ po, po = i * sz := ⟨_, rfl⟩
      have hpo2 : (i + 1) * sz = po + sz := by rw [Nat.add_mul, Nat.one_mul, hpo]
      rw [hpo2] at hle
      have e1 : IntKind.i64.wrap ((i : Int) * (sz : Int)) = (po : Int) := by rw [hpo, ← Int.natCast_mul]; exact IntWalk.i64_in _ (by omega)
      have e2 : IntKind.i64.wrap (((i : Int) + 1) * (sz : Int)) = (po : Int) + (sz : Int) := by
        rw [show ((i : Int) + 1) * (sz : Int) = ((po + sz : Nat) : Int) by rw [← hpo2, Int.natCast_mul, Int.natCast_add]; rfl, IntWalk.i64_in _ (by omega)]; omega
      have e3 : IntKind.i64.wrap ((i : Int) + 1) = (i : Int) + 1 := IntWalk.i64_in _ (by omega)
      have g1 : (i : Int) < (s : Int) := by omega
      obtain ⟨i0, hi0, hz⟩ := Option.map_eq_some_iff.1 VPts.info_byte
      simp only [Prod.mk.injEq] at hz
      have kc := cut_mid (P := Try.prog) 22 5 .i64 .i64 Try.underlying22 hi0 1 hz.2.1 A L c (po : Int) ((po : Int) + (sz : Int)) (by omega) (by omega) (by omega) (by omega)
      rw [show ((po : Int) + (sz : Int)).toNat - ((po : Int)).toNat = sz by omega, Int.toNat_natCast, Nat.mul_one] at kc
      obtain ⟨A2, hA2⟩ : ∃ A2, A2 = chunkA A c po := ⟨_, rfl⟩
      rw [show (if c = po then A else A.map (·.add po)) = A2 from hA2.symm] at kc
      obtain ⟨c2, hc2⟩ : ∃ c2, c2 = c - po := ⟨_, rfl⟩
      rw [← hc2] at kc
      have HX := Lib.hid (show chunkP A c sz (i + 1) = chunkP A c sz i ++ [(A2, c2)] by rw [chunkP_succ, ← hpo, ← hA2, ← hc2])
      clear hpo2 hle hls hcl hpo hz hi0 hA2 hc2
      go_wp2_with (at_builtin; refine Kd.R_append (kP sz) (w0 := w) w.heap.size rfl _ _ 39 22 (.slice none 0 0) 24 rfl Try.underlying39 info_rows rfl (show 0 < 1 from Nat.one_pos) (by decide) u7 (chunkP A c sz i) (A2, c2) [.slice A2 sz c2] (fun _ => True) (fun _ => False) rfl rfl rfl (fun _ hk => hk.elim) (fun _ _ => trivial) HO.out HB2.out HB2.out.size (by rw [chunkP_len]; omega) ?_; intro v1 w1 h1 h2 h3 h4; have H1 := Lib.hid h1; have H2 := Lib.hid h2; clear h1 h2 h3 h4)
      go_roundw
      case rel =>
        have hfin := Lib.hid (show Kd.R (kP sz) 22 w1 w.heap.size (fun _ => True) v1 (chunkP A c sz (i + 1)) by rw [HX.out]; exact H1.out)
        exact ⟨i + 1, v1, rfl, by omega, by go_num, hfin, H2⟩
      case measure => simp [intOf]; omega
    · obtain rfl : i = s := by omega
      obtain ⟨A7, c7, rfl, hl7, hC7⟩ := Kd.R_reads HO.out
      rw [chunkP_len] at hC7 hl7 ⊢
      have HC7 := Lib.hid hC7
      have HL7 := Lib.hid hl7
      clear hl7 hC7
      go_wp2
      go_ret2
      exact ⟨A7, c7, rfl, HL7.out, chunks_C (HS.out _ HB2.out) HC.out HLS.out HC7.out, HB2.out⟩
def RowE (w : World) (ad : Addr) (n : Nat) (xs : List Int) : Prop := ∀ j, j < n → w.cell? (ad.add j) = some (.int .u8 (xs.getD j 0))
theorem RowE.of {w : World} {A : Option Addr} {n : Nat} {xs : List Int} (h : (Kd.int .u8).C w A n xs) (hn : 0 < n) : ∃ ad, A = some ad ∧ RowE w ad n xs := by
  obtain ⟨ad, e, _⟩ := at_row h 0 hn
  refine ⟨ad, e, fun j hj => ?_⟩
  obtain ⟨ad', e', hc⟩ := at_row h j hj
  rw [e] at e'
  injection e' with e'
  subst e'
  exact hc
theorem RowE.far {w : World} {ad : Addr} {n : Nat} {xs : List Int} (h : RowE w ad n xs) {p : Addr} (hp : ad.block ≠ p.block) (u : Value) : RowE (w.setCell p u) ad n xs :=
  fun j hj => (World.cell?_setCell_other w p (ad.add j) u (fun e => hp (by rw [e, block_of_add]))).trans (h j hj)
theorem RowE.drewN {w : World} {ad : Addr} {n : Nat} {xs : List Int} (h : RowE w ad n xs) (q : Nat) : RowE (w.drewN q) ad n xs := h
def mixL (n : Nat) (f : Int) (xs ls : Nat → Int) (i : Nat) : List Int := line n (fun j => if j < i then xorI (xs j) (gmI (ls j) f) else xs j)
theorem mixL_zero (n : Nat) (f : Int) (xs ls : Nat → Int) : mixL n f xs ls 0 = line n xs := line_congr n _ _ (fun j _ => by rw [if_neg (Nat.not_lt_zero j)])
theorem mixL_set (n : Nat) (f : Int) (xs ls : Nat → Int) (i : Nat) (hi : i < n) : (mixL n f xs ls i).set i (xorI (xs i) (gmI (ls i) f)) = mixL n f xs ls (i + 1) := by
  unfold mixL
  rw [line_set n _ i hi]
  refine line_congr n _ _ (fun k hk => ?_)
  by_cases e : k = i
  · subst e; rw [if_pos rfl, if_pos (by omega)]
  · rw [if_neg e]
    by_cases h : k < i
    · rw [if_pos h, if_pos (by omega)]
    · rw [if_neg h, if_neg (by omega)]
theorem mixL_get (n : Nat) (f : Int) (xs ls : Nat → Int) (i : Nat) (hi : i < n) : (mixL n f xs ls i).getD i 0 = xs i := by
  unfold mixL
  rw [line_get n _ i hi, if_neg (Nat.lt_irrefl i)]
theorem gm0 (a : Int) : gmI a 0 = 0 := by unfold gmI; simp [gm_zero_right]
theorem xor0 {a : Int} (h : Byt a) : xorI a 0 = a := by unfold xorI; have := h.1; simp; omega
set_option maxRecDepth 100000 in
set_option maxHeartbeats 4000000 in
theorem mix_any (n g ct c1 base : Nat) (ad : Addr) (f : Int) (xs ls : Nat → Int) (w0 w : World) (hf : Byt f) (hxs : ∀ j, Byt (xs j)) (hls : ∀ j, Byt (ls j)) (hB : Below base w0 w) (hg : base ≤ g)
    (hR : Kd.R (Kd.int .u8) 5 w base (fun _ => True) (.slice (some ⟨g, 0, none⟩) n ct) (line n xs)) (hrow : RowE w ad n (line n ls)) (hne : ad.block ≠ g) (hn : n ≤ 1000000) :
    Calls Try.prog 61 #[.slice (some ⟨g, 0, none⟩) n ct, .slice (some ad) n c1, .int .u8 f] w fun e w' => e = .returned (.tuple #[]) ∧ Kd.R (Kd.int .u8) 5 w' base (fun _ => True) (.slice (some ⟨g, 0, none⟩) n ct) (line n (fun j => xorI (xs j) (gmI (ls j) f))) ∧ Below base w0 w' := by
  by_cases hf0 : f = 0
  · have t1 : (f == 0) = true := by simp [hf0]
    have HR := Lib.hid (show Kd.R (Kd.int .u8) 5 w base (fun _ => True) (.slice (some ⟨g, 0, none⟩) n ct) (line n (fun j => xorI (xs j) (gmI (ls j) f))) by
      rw [line_congr n (fun j => xorI (xs j) (gmI (ls j) f)) xs (fun j _ => by show xorI _ _ = _; rw [hf0, gm0, xor0 (hxs j)])]; exact hR)
    have HB := Lib.hid hB
    clear hR hrow hB hf0 hf hxs hls
    go_enter Try.func61, Try.ntmps61
    go_wp2
    first | go_end0 | ((try simp only [Exit.inBlock, Exit.then]); refine bodyPost_ret (results_none rfl _ _ _) rfl ?_)
    exact ⟨rfl, HR.out, HB.out⟩
  · have t1 : (f == 0) = false := by simp [hf0]
    have HF := Lib.hid hf
    have HXS := Lib.hid hxs
    have HLS := Lib.hid hls
    have HG := Lib.hid hg
    have HNE := Lib.hid hne
    have HR := Lib.hid (show Kd.R (Kd.int .u8) 5 w base (fun _ => True) (.slice (some ⟨g, 0, none⟩) n ct) (mixL n f xs ls 0) by rw [mixL_zero]; exact hR)
    have HROW := Lib.hid hrow
    have HB := Lib.hid hB
    clear hR hrow hB hf0 hf hxs hls hg hne
    go_enter Try.func61, Try.ntmps61
    go_wp2
    go_loopw [6, 7, 12] (fun _ _ iv wr => ∃ (i : Nat), i ≤ n ∧ iv = .int .i64 i ∧ Hid (Kd.R (Kd.int .u8) 5 wr base (fun _ => True) (.slice (some ⟨g, 0, none⟩) n ct) (mixL n f xs ls i)) ∧ Hid (RowE wr ad n (line n ls)) ∧ Hid (Below base w0 wr)) (fun _ _ iv _ => n - (intOf iv).toNat)
    case atStart => exact ⟨0, by omega, rfl, HR, HROW, HB⟩
    case round =>
      clear HR HROW HB
      obtain ⟨i, hi, rfl, HR, HROW, HB⟩ := hrel
      by_cases hlt : i < n
      · obtain ⟨t1', t2'⟩ := Kd.R_celln (0 : Int) HR.out (i : Int) (by omega) (by omega)
        have t3' : rdOf (0 : Int) (mixL n f xs ls i) (i : Int) = xs i := by
          rw [← mixL_get n f xs ls i hlt]; simp [rdOf]
        rw [t3'] at t1'
        have hcell := HROW.out i hlt
        rw [line_get n ls i hlt] at hcell
        have hpn := fun q => Kd.R_putn (Kd.R_drewN HR.out q) (i : Int) (xorI (xs i) (gmI (ls i) f))
        simp only [Int.toNat_natCast] at t1' t2' hpn
        rw [mixL_set n f xs ls i hlt] at hpn
        have hyb := HXS.out i
        have hzb := HLS.out i
        obtain ⟨y, hy⟩ : ∃ y, y = xs i := ⟨_, rfl⟩
        obtain ⟨z, hz⟩ : ∃ z, z = ls i := ⟨_, rfl⟩
        rw [← hy] at t1' hyb hpn
        rw [← hz] at hcell hzb hpn
        have HZB := Lib.hid hzb
        have HYB := Lib.hid hyb
        have HPN := Lib.hid hpn
        have HBn := Lib.hid (fun q => (pw_below_drewN HB.out q).setCell (p := ⟨g, i, none⟩) HG.out (.int .u8 (xorI y (gmI z f))))
        have HRn := Lib.hid (fun q => (HROW.out.drewN q).far (p := ⟨g, i, none⟩) HNE.out (.int .u8 (xorI y (gmI z f))))
        have g0 : (0 : Int) ≤ (i : Int) := by omega
        have g1 : (i : Int) < (n : Int) := by omega
        clear hy hz hyb hzb t3' hpn
        go_wp2
        refine wp_region_still_tail 11 (by kernel_rfl) (by kernel_rfl) ?_
        change wpStill _ _ (wr.drewN 1) (fun a' => wpList _ _ _ _ a' (wr.drewN 1)) _ _
        simp only [List.take_succ_cons, List.take_zero, List.drop_succ_cons, List.drop_zero]
        iterate 8 still_step
        still_call (mul_still z f (wr.drewN 1) HZB.out HF.out)
        still_call (add_still y (gmI z f) (wr.drewN 1) HYB.out (gmI_byt HZB.out))
        still_step
        refine wpStill_nil ?_
        go_wp2
        go_roundw
        case rel => exact ⟨i + 1, by omega, by go_num, Lib.hid (HPN.out 1), Lib.hid (HRn.out 1), Lib.hid (HBn.out 1)⟩
        case measure => simp [intOf]; omega
      · obtain rfl : i = n := by omega
        go_wp2
        first | go_end0 | ((try simp only [Exit.inBlock, Exit.then]); refine bodyPost_ret (results_none rfl _ _ _) rfl ?_)
        have e : mixL i f xs ls i = line i (fun j => xorI (xs j) (gmI (ls j) f)) := line_congr i _ _ (fun j hj => by rw [if_pos hj])
        exact ⟨rfl, by rw [← e]; exact HR.out, HB.out⟩
theorem chunk_line (b : List Int) (sz p m : Nat) (hp : p < m) (hb : b.length = m * sz) : (b.drop (p * sz)).take sz = line sz (fun i => b.getD (p * sz + i) 0) := by
  have hl := chunk_len b sz m p hp hb
  refine List.ext_getElem (by rw [hl, line_len]) (fun j h1 h2 => ?_)
  have hj : j < sz := by rwa [hl] at h1
  have e1 := chunk_get b sz p j hj
  rw [List.getD_eq_getElem?_getD, List.getElem?_eq_getElem h1] at e1
  have e2 := line_get sz (fun i => b.getD (p * sz + i) 0) j hj
  rw [List.getD_eq_getElem?_getD, List.getElem?_eq_getElem h2] at e2
  simp only [Option.getD_some] at e1 e2
  rw [e1, e2]
set_option maxRecDepth 100000 in
set_option maxHeartbeats 4000000 in
theorem mshard_any (v : Value) (n k slot s sz L : Nat) (A : Option Addr) (c : Nat) (b : List Int) (w : World) (hc : IsCodeP w v n k) (k1 : 2 ≤ k) (k2 : k ≤ 8) (n2 : n ≤ 24) (hsl : slot < n) (hs : k * (k - 1) = s)
    (hC : Kd.C kRow w A s (chunks b sz s)) (hL : L = b.length) (hLs : L = s * sz) (hsz : 1 ≤ sz) (hL1 : L ≤ 1000) (hbyt : ∀ x ∈ b, Byt x) :
    Calls Try.prog 42 #[v, .int .i64 slot, .slice A s c] w fun e w' => ∃ u, e = .returned u ∧ Kd.R (Kd.int .u8) 5 w' w.heap.size (fun _ => True) u (shardL (ptN n k slot) (k - 1) sz b) ∧ Below w.heap.size w w' := by
  have RO := Lib.hid (row_any v n k slot w hc k1 k2 n2 hsl)
  have PP := Lib.hid (fun W (hB : Below w.heap.size w W) => parts_any v n k W (hc.below hB).code (by omega) (by omega))
  have PL := Lib.hid (fun W r j (hr : r < 2 * (k - 1)) (hj : j < k - 1) (hB : Below w.heap.size w W) => place_any v n k r j W (hc.below hB).code k1 k2 hr hj)
  have hx2 := ptN_lt n k slot
  obtain ⟨x, hx⟩ : ∃ x, x = ptN n k slot := ⟨_, rfl⟩
  rw [← hx] at RO hx2 ⊢
  obtain ⟨a, ha⟩ : ∃ a, a = k - 1 := ⟨_, rfl⟩
  rw [show 2 * k - 2 = 2 * a by omega] at RO
  rw [← ha] at PP PL hs ⊢
  have a1 : 1 ≤ a := by omega
  have a7 : a ≤ 7 := by omega
  have hss : s = (a + 1) * a := by rw [← hs, show k = a + 1 by omega]
  have HPL := Lib.hid (fun r j (hr : r < 2 * a) (hj : j < a) => show Plc.placeN a r j < s by rw [hss]; exact placeN_lt a r j a1 a7 hr hj)
  have hs56 : s ≤ 56 := by rw [← hs]; exact Nat.mul_le_mul k2 a7
  have hs1 : 1 ≤ s := by rw [hss]; exact Nat.mul_pos (by omega) (by omega)
  have HC := Lib.hid (fun W (hB : Below w.heap.size w W) => Kd.C_below hC hB)
  have HBL := Lib.hid (show b.length = s * sz by omega)
  have HBY := Lib.hid hbyt
  have HX := Lib.hid hx2
  have sz1 : sz ≤ 1000 := by have : sz ≤ s * sz := Nat.le_mul_of_pos_left sz (by omega)
                             omega
  obtain ⟨q, hq⟩ : ∃ q, q = 2 * a := ⟨_, rfl⟩
  rw [← hq] at RO HPL PL
  have HQ := Lib.hid hq
  have hq14 : q ≤ 14 := by omega
  have HB0 := Lib.hid (Below.refl w.heap.size w)
  obtain ⟨L9, hl9⟩ : ∃ L9, L9 = a * sz := ⟨_, rfl⟩
  clear hx ha hs hss hC hL hLs hbyt hx2 k1 k2 n2 hsl hq hc
  go_enter Try.func42, Try.ntmps42
  go_upto_region 4 with (first
    | (go_at_call 32; (with_reducible refine RO.out.mono ?_); rintro e w1 ⟨A8, c8, rfl, hr8, hb⟩; have hc8 := (Kd.R_reads' hr8).2.2; rw [pows_len] at hc8; have HR8 := Lib.hid hc8; have HB1 := Lib.hid hb; clear hr8 hb hc8)
    | (go_at_call 23; (with_reducible refine (PP.out _ HB1.out).mono ?_); rintro e u1 ⟨rfl, hu⟩; subst hu))
  obtain ⟨W1, hW1⟩ : ∃ W1, W1 = u1 := ⟨_, rfl⟩
  rw [← hW1] at HR8 HB1 ⊢
  clear hW1 RO
  go_loopw [7, 9, 10, 11, 12, 18, 28] (fun u0 _ _ _ _ jv _ wr => ∃ (j : Nat) (u : Value), u0 = u ∧ j ≤ a ∧ jv = .int .i64 j ∧ Hid (Kd.R (Kd.int .u8) 5 wr W1.heap.size (fun _ => True) u (shardTo x a sz b j)) ∧ Hid (Below W1.heap.size W1 wr)) (fun _ _ _ _ _ jv _ _ => a - (intOf jv).toNat)
  case atStart => exact ⟨0, _, rfl, by omega, rfl, Lib.hid (by unfold shardTo; exact Kd.R_nil _ _ _ _ _), Lib.hid (Below.refl _ _)⟩
  case round =>
    obtain ⟨j, u, rfl, hj, rfl, HO, HB2⟩ := hrel
    by_cases hja : j < a
    · have hBw := HB1.out.trans (HB2.out.mono HB1.out.size)
      obtain ⟨adm, A3, c3, rfl, hm0, _, _⟩ := rowsN_get (HC.out _ hBw) 0 (by omega)
      rw [chunks_get b sz s 0 (by omega), chunk_len b sz s 0 (by omega) HBL.out] at hm0
      rw [show adm.add 0 = adm by simp [Addr.add]] at hm0
      have HM0 := Lib.hid hm0
      have HBW := Lib.hid hBw
      have g1 : (j : Int) < (a : Int) := by omega
      have g2 : (0 : Int) < (s : Int) := by omega
      clear hBw
      go_upto_region 7 with (at_make; refine Kd.R_make (Kd.int .u8) wr.heap.size 5 rfl (N := 25) rfl 22 _ _ rfl (sz : Int) rfl rfl Try.underlying22 (.int .u8 0) 1 VPts.info_byte rfl (by decide) (by decide) 0 (ok := fun _ => True) (okp := fun _ => True) rfl (fun _ hk => hk) trivial (by omega) (by omega) (Below.refl _ _) (Nat.le_refl _) ?_; intro v3 w3 h3 hb3 hg3 hf3; simp only [Int.toNat_natCast] at h3; obtain ⟨g, cg, hv3, hgb, hgl, _⟩ := Kd.R_form h3 (by rw [List.length_replicate]; exact hsz); rw [List.length_replicate] at hv3; subst hv3; have HXX := Lib.hid h3; have HB3 := Lib.hid hb3; have HGB := Lib.hid hgb; clear h3 hb3 hg3 hf3 hgb hgl)
      clear hm0
      have HXR := Lib.hid (show Kd.R (Kd.int .u8) 5 w3 wr.heap.size (fun _ => True) (.slice (some ⟨g, 0, none⟩) sz cg) (line sz (fun i => symTo x a sz b j i 0)) by
        rw [show line sz (fun i => symTo x a sz b j i 0) = List.replicate sz 0 from line_zero sz]; exact HXX.out)
      clear HXX
      obtain ⟨wo, hwo⟩ : ∃ wo, wo = wr := ⟨_, rfl⟩
      rw [← hwo] at HXR HB3 HGB HO HB2 HBW HM0
      clear hwo
      go_upto_region 8 with (fail)
      go_loopw [11, 12, 28] (fun _ _ rv wr' => ∃ (r : Nat), r ≤ q ∧ rv = .int .i64 r ∧ Hid (Kd.R (Kd.int .u8) 5 wr' wo.heap.size (fun _ => True) (.slice (some ⟨g, 0, none⟩) sz cg) (line sz (fun i => symTo x a sz b j i r))) ∧ Hid (Below wo.heap.size wo wr')) (fun _ _ rv _ => q - (intOf rv).toNat)
      case atStart => exact ⟨0, by omega, rfl, HXR, HB3⟩
      case round =>
        clear HXR HB3
        obtain ⟨r, hr, rfl, HXR, HB3⟩ := hrel
        by_cases hrq : r < q
        · have hB := HB2.out.trans (HB3.out.mono HB2.out.size)
          have hBw := HB1.out.trans (hB.mono HB1.out.size)
          have hpl := HPL.out r j hrq hja
          obtain ⟨p, hp⟩ : ∃ p, p = Plc.placeN a r j := ⟨_, rfl⟩
          have hp' : placeN a r j = p := hp.symm
          rw [← hp] at hpl
          obtain ⟨adr, rfl, hc1⟩ := at_row (Kd.C_below HR8.out hB) r hrq
          rw [show (pows x q).getD r 0 = ((gp x r : Nat) : Int) from pows_get x q r hrq] at hc1
          obtain ⟨adm', A5, c5, e5, hm5, _, hC5⟩ := rowsN_get (HC.out _ HBW.out) p hpl
          injection e5 with e5
          subst e5
          rw [chunks_get b sz s p hpl, chunk_line b sz p s hpl HBL.out, line_len] at hm5 hC5
          obtain ⟨ad5, rfl, hrow5⟩ := RowE.of hC5 (by omega)
          have hblk5 : ad5.block < wo.heap.size := by
            have := World.block_lt_of_cell? _ _ (hrow5 0 (by omega))
            rwa [block_of_add] at this
          have hm5' := pw_cell_below HB3.out hm5
          have hrow' : RowE wr ad5 sz (line sz (fun i => b.getD (p * sz + i) 0)) := fun i hi => pw_cell_below HB3.out (hrow5 i hi)
          have hgb := gp_byt x r HX.out
          obtain ⟨f, hf⟩ : ∃ f, f = ((gp x r : Nat) : Int) := ⟨_, rfl⟩
          rw [← hf] at hc1 hgb
          have MX := Lib.hid (mix_any sz g cg c5 wo.heap.size ad5 f (fun i => symTo x a sz b j i r) (fun i => b.getD (p * sz + i) 0) wo wr hgb (fun i => symTo_byt x a sz b j i r HX.out) (fun i => getD_byt HBY.out _) HB3.out HGB.out HXR.out hrow' (by have : wo.heap.size ≤ g := HGB.out; omega) (by omega))
          have HNX := Lib.hid (show line sz (fun i => xorI (symTo x a sz b j i r) (gmI (b.getD (p * sz + i) 0) f)) = line sz (fun i => symTo x a sz b j i (r + 1)) from line_congr sz _ _ (fun i _ => by rw [symTo_succ, ← hp, ← hf, gmI_comm hgb (getD_byt HBY.out _)]))
          have PLr := Lib.hid (PL.out wr r j hrq hja hBw)
          rw [hp'] at PLr
          have g6 : (r : Int) < (q : Int) := by omega
          have g7 : (0 : Int) ≤ (r : Int) := by omega
          have g8 : (0 : Int) ≤ (p : Int) := by omega
          have g9 : (p : Int) < (s : Int) := by omega
          clear hB hBw hpl hp hp' hm5 hC5 hrow5 hblk5 hrow' hgb hf
          go_wp2_with (first
            | (go_at_call 62; (with_reducible refine PLr.out.mono ?_); rintro e u2 ⟨rfl, hu⟩; subst hu)
            | (go_at_call 61; (with_reducible refine MX.out.mono ?_); rintro e w4 ⟨rfl, hr4, hb4⟩; have HR4 := Lib.hid hr4; have HB4 := Lib.hid hb4; clear hr4 hb4))
          go_roundw
          case rel => exact ⟨r + 1, by omega, by go_num, Lib.hid (by rw [← HNX.out]; exact HR4.out), HB4⟩
          case measure => simp [intOf]; omega
        · obtain rfl : r = q := by omega
          have hown := Kd.own_of_R (Kd.R_below HO.out HB3.out)
          have hrd := Kd.reads_of_C (d := (0 : Int)) (Kd.R_reads' HXR.out).2.2
          rw [line_len] at hrd
          have HN := Lib.hid (show shardTo x a sz b j ++ line sz (fun i => symTo x a sz b j i r) = shardTo x a sz b (j + 1) by rw [shardTo_succ, HQ.out]; rfl)
          have HOWN := Lib.hid hown
          have HRD := Lib.hid hrd
          have hlen : (shardTo x a sz b j).length ≤ 7000 := by rw [shardTo_len]; exact Nat.mul_le_mul (show j ≤ 7 by omega) sz1
          have HLEN := Lib.hid hlen
          clear hown hrd hlen
          go_wp2_with (at_builtin; refine print_append_row (w0 := W1) (k := .u8) W1.heap.size rfl _ _ 22 5 1 rfl Try.underlying22 VPts.info_byte (by decide) u7 (shardTo x a sz b j) (line sz (fun i => symTo x a sz b j i r)) _ _ _ rfl rfl HOWN.out HRD.out (HB2.out.trans (HB3.out.mono HB2.out.size)) (Nat.le_trans HB2.out.size HB3.out.size) (by have := HLEN.out; omega) ?_; intro v5 w5 h1 h2 h3 h4; have H1 := Lib.hid h1; have H2 := Lib.hid h2; clear h1 h2 h3 h4)
          go_roundw
          case rel => exact ⟨j + 1, _, rfl, by omega, by go_num, Lib.hid (Kd.R_of_own (by have := H1.out; rw [HN.out] at this; exact this) (fun _ _ => trivial)), H2⟩
          case measure => simp [intOf]; omega
    · obtain rfl : j = a := by omega
      go_wp2
      go_ret
      exact ⟨_, rfl, Kd.R_lower HO.out HB1.out.size, HB1.out.trans (HB2.out.mono HB1.out.size)⟩
set_option maxRecDepth 100000 in
set_option maxHeartbeats 2000000 in
theorem encode_good (v : Value) (n k s sz L : Nat) (A : Option Addr) (c : Nat) (b : List Int) (w : World) (hc : IsCodeP w v n k) (k1 : 2 ≤ k) (k2 : k ≤ 8) (n2 : n ≤ 24) (hs : k * (k - 1) = s) (hr : (Kd.int .u8).C w A L b) (hLc : L ≤ c) (hLs : L = s * sz) (hsz : 1 ≤ sz) (hL1 : L ≤ 1000) (hbyt : ∀ x ∈ b, Byt x) :
    Calls Try.prog 19 #[v, .slice A L c] w fun e w' => ∃ A' c', e = .returned (.tuple #[.slice A' n c', .int .i64 0]) ∧ RowsR w' w.heap.size (.slice A' n c') (shardsM n k sz b n) ∧ Kd.C kRow w' A' n (shardsM n k sz b n) ∧ Below w.heap.size w w' := by
  have hs56 : k * (k - 1) ≤ 8 * 7 := Nat.mul_le_mul k2 (by omega)
  have hs2 : 2 * 1 ≤ k * (k - 1) := Nat.mul_le_mul k1 (by omega)
  have hLb : L = b.length := by have := hr.1; omega
  have SY := Lib.hid (symbols_any v n k s w hc.code (by omega) (by omega) hs)
  have PG := Lib.hid (parts_good s sz L A c b w hr hLc hLs (by omega) hsz (by omega) hL1)
  have SH := Lib.hid (fun i A1 c1 W (hi : i < n) (hB : Below w.heap.size w W) (hC : Kd.C kRow W A1 s (chunks b sz s)) => mshard_any v n k i s sz L A1 c1 b W (hc.below hB) k1 k2 n2 hi hs hC hLb hLs hsz hL1 hbyt)
  have HV := Lib.hid (fun W (hB : Below w.heap.size w W) => hc.below hB)
  obtain ⟨bb, A0, c0, rfl, hblk, _⟩ := hc
  have HBK := Lib.hid hblk
  have HB := Lib.hid (Below.refl w.heap.size w)
  clear hblk hs hs56 hs2 k1 k2 hr hLc hLs hsz hL1 hbyt hLb
  go_enter Try.func19, Try.ntmps19
  go_upto_region 5 with (first
    | (go_at_call 41; (with_reducible refine SY.out.mono ?_); rintro e u1 ⟨rfl, hu⟩; subst hu)
    | (go_at_call 40; (with_reducible refine PG.out.mono ?_); rintro e w2 ⟨A2, c2, rfl, hl2, hC2, hb⟩; have HC2 := Lib.hid hC2; have HB2 := Lib.hid hb; have HBK2 := Lib.hid (Blk.below HBK.out hb (Blk.lt HBK.out)); clear hl2 hC2 hb))
  have y0 : w2.cell? ⟨bb, 0, none⟩ = some (.int .i64 n) := (HBK2.out.cell 0).trans rfl
  go_upto_region 6 with (fail)
  clear y0
  go_loopw [8, 9, 23] (fun u0 _ iv wr => ∃ (i : Nat) (u : Value), u0 = u ∧ i ≤ n ∧ iv = .int .i64 i ∧ Hid (RowsR wr w2.heap.size u (shardsM n k sz b i)) ∧ Hid (Below w2.heap.size w2 wr)) (fun _ _ iv _ => n - (intOf iv).toNat)
  case atStart => exact ⟨0, _, rfl, by omega, rfl, Lib.hid (Kd.R_nil _ _ _ _ _), Lib.hid (Below.refl _ _)⟩
  case round =>
    obtain ⟨i, u, rfl, hi, rfl, HO, HB3⟩ := hrel
    by_cases hlt : i < n
    · have hBw := HB2.out.trans (HB3.out.mono HB2.out.size)
      have SHi := Lib.hid (SH.out i A2 c2 wr hlt hBw (Kd.C_below HC2.out HB3.out))
      have g1 : (i : Int) < (n : Int) := by omega
      clear hBw
      go_wp2_with (first
        | (go_at_call 42; (with_reducible refine SHi.out.mono ?_); rintro e w4 ⟨v4, rfl, hr4, hb4⟩; obtain ⟨A5, c5, rfl⟩ := Kd.R_slice hr4; have HR4 := Lib.hid hr4; have HB4 := Lib.hid hb4; clear hr4 hb4)
        | (at_builtin; refine rows_append2 (w0 := w2) rfl w2.heap.size rfl _ _ rfl u8 _ (shardsM n k sz b i) _ rfl rfl HO.out (HB3.out.trans (HB4.out.mono HB3.out.size)) HB3.out.size HB4.out HR4.out (by rw [shardsM_len]; omega) ?_; intro v5 w5 h5 hb5; have H5 := Lib.hid h5; have HB5 := Lib.hid hb5; clear h5 hb5))
      go_roundw
      case rel => exact ⟨i + 1, _, rfl, by omega, by go_num, Lib.hid (by rw [shardsM_succ]; exact H5.out), HB5⟩
      case measure => simp [intOf]; omega
    · obtain rfl : i = n := by omega
      obtain ⟨A7, c7, rfl, hl7, hC7⟩ := Kd.R_reads HO.out
      have hro := HO.out
      rw [shardsM_len] at hro hC7 hl7 ⊢
      have HC7 := Lib.hid hC7
      have HL7 := Lib.hid (Kd.R_lower hro HB2.out.size)
      clear hl7 hC7 hro
      go_wp2
      go_ret2
      exact ⟨A7, c7, rfl, HL7.out, HC7.out, HB2.out.trans (HB3.out.mono HB2.out.size)⟩
end Go.Proofs.Ytcnfafappcbpnaa.Str
namespace Go.Proofs.Ytcnfafappcbpnaa.Hl
open Go Go.RowKit Go.Proofs.Ytcnfafappcbpnaa.Gf Go.Proofs.Ytcnfafappcbpnaa.Gi Go.Proofs.Ytcnfafappcbpnaa.Bits Go.Proofs.Ytcnfafappcbpnaa.Mem Go.Proofs.Ytcnfafappcbpnaa.Alg Go.Proofs.Ytcnfafappcbpnaa.Sol Go.Proofs.Ytcnfafappcbpnaa.VPts Go.Proofs.Ytcnfafappcbpnaa.Str Go.Proofs.Ytcnfafappcbpnaa.Rws Go.Proofs.Ytcnfafappcbpnaa.Par Go.Proofs.Ytcnfafappcbpnaa.Mdc Go.Proofs.Ytcnfafappcbpnaa.BHealFragments Go.Proofs.YtcnfafappcbpnaaW.PrintWords
set_option linter.unusedVariables false
set_option maxRecDepth 100000 in
theorem whole_err (v A : Value) (lost er : Int) (w : World) (he : er ≠ 0) (DC : Calls Try.prog 37 #[v, A] w fun e w' => e = .returned (.tuple #[.slice none 0 0, .int .i64 er]) ∧ Below w.heap.size w w') :
    Calls Try.prog 16 #[v, .int .i64 lost, A] w fun e w' => e = .returned (.tuple #[.slice none 0 0, .int .i64 er]) ∧ Below w.heap.size w w' := by
  have D := Lib.hid DC
  have h1 : (er != 0) = true := by simp [he]
  clear DC he
  go_enter Try.func16, Try.ntmps16
  go_wp2_with (go_at_call 37; (with_reducible refine D.out.mono ?_); rintro e w1 ⟨rfl, hb⟩; have HB1 := Lib.hid hb; clear hb)
  go_ret2
  exact ⟨rfl, HB1.out⟩
def DecGood (L : Nat) (b : List Int) (w : World) (e : Ending) (w' : World) : Prop := ∃ A' c', e = .returned (.tuple #[.slice A' L c', .int .i64 0]) ∧ (Kd.int .u8).R 5 w' w.heap.size (fun _ => True) (.slice A' L c') b ∧ Below w.heap.size w w'
set_option maxRecDepth 100000 in
set_option maxHeartbeats 1000000 in
theorem whole_out (v A : Value) (n k s sz L : Nat) (lost : Int) (b : List Int) (w : World) (hc : IsCodeP w v n k) (k1 : 2 ≤ k) (k2 : k ≤ 8) (n2 : n ≤ 24) (hs : k * (k - 1) = s) (hLs : L = s * sz) (hsz : 1 ≤ sz) (hL1 : L ≤ 1000) (hbl : b.length = L) (hbyt : ∀ x ∈ b, Byt x) (hlost : lost < 0 ∨ (n : Int) ≤ lost)
    (DC : Calls Try.prog 37 #[v, A] w (DecGood L b w)) :
    Calls Try.prog 16 #[v, .int .i64 lost, A] w fun e w' => e = .returned (.tuple #[.slice none 0 0, .int .i64 1]) ∧ Below w.heap.size w w' := by
  have D := Lib.hid DC
  have EN := Lib.hid (fun W A1 c1 (hB : Below w.heap.size w W) (h : (Kd.int .u8).R 5 W w.heap.size (fun _ => True) (.slice A1 L c1) b) => show Calls Try.prog 19 #[v, .slice A1 L c1] W fun e w' => ∃ A' c', e = .returned (.tuple #[.slice A' n c', .int .i64 0]) ∧ RowsR w' W.heap.size (.slice A' n c') (shardsM n k sz b n) ∧ Kd.C kRow w' A' n (shardsM n k sz b n) ∧ Below W.heap.size W w' from
    encode_good v n k s sz L A1 c1 b W (hc.below hB) k1 k2 n2 hs (by rw [← hbl]; exact (Kd.R_reads' h).2.2) (Kd.R_reads' h).2.1 hLs hsz hL1 hbyt)
  clear DC hc hs hLs hsz hL1 hbl hbyt k1 k2
  by_cases hneg : lost < 0
  · clear hlost
    go_enter Try.func16, Try.ntmps16
    go_wp2_with (first
      | (go_at_call 37; (with_reducible refine D.out.mono ?_); rintro e w1 ⟨A1, c1, rfl, hr, hb⟩; have HB1 := Lib.hid hb; have EN1 := Lib.hid (EN.out w1 A1 c1 hb hr); clear hr hb)
      | (go_at_call 19; (with_reducible refine EN1.out.mono ?_); rintro e w2 ⟨A2, c2, rfl, _, hC, hb⟩; have HB2 := Lib.hid (HB1.out.trans (hb.mono HB1.out.size)); clear hC hb))
    go_ret2
    exact ⟨rfl, HB2.out⟩
  · have h2 : (n : Int) ≤ lost := by omega
    have h3 : decide (lost < 0) = false := by simp; omega
    clear hlost hneg
    go_enter Try.func16, Try.ntmps16
    go_wp2_with (first
      | (go_at_call 37; (with_reducible refine D.out.mono ?_); rintro e w1 ⟨A1, c1, rfl, hr, hb⟩; have HB1 := Lib.hid hb; have EN1 := Lib.hid (EN.out w1 A1 c1 hb hr); clear hr hb)
      | (go_at_call 19; (with_reducible refine EN1.out.mono ?_); rintro e w2 ⟨A2, c2, rfl, _, hC, hb⟩; have HB2 := Lib.hid (HB1.out.trans (hb.mono HB1.out.size)); clear hC hb))
    go_ret2
    exact ⟨rfl, HB2.out⟩
theorem shards_at {w : World} {A : Option Addr} {n k sz : Nat} {b : List Int} (h : Kd.C kRow w A n (shardsM n k sz b n)) (i : Nat) (hi : i < n) :
    ∃ ad A0 c0, A = some ad ∧ w.cell? (ad.add i) = some (.slice A0 ((k - 1) * sz) c0) ∧ (k - 1) * sz ≤ c0 ∧ (Kd.int .u8).C w A0 ((k - 1) * sz) (shardL (ptN n k i) (k - 1) sz b) := by
  obtain ⟨ad, A0, c0, e, h1, h2, h3⟩ := Str.rowsN_get h i hi
  have e1 : (shardsM n k sz b n).getD i [] = shardL (ptN n k i) (k - 1) sz b := by simp [shardsM, List.getD_eq_getElem?_getD, hi]
  rw [e1, shardL_len] at h1 h2 h3
  exact ⟨ad, A0, c0, e, h1, h2, h3⟩
set_option maxRecDepth 100000 in
set_option maxHeartbeats 1000000 in
theorem whole_good (v A : Value) (n k s sz L lost : Nat) (b : List Int) (w : World) (hc : IsCodeP w v n k) (k1 : 2 ≤ k) (k2 : k ≤ 8) (n2 : n ≤ 24) (hs : k * (k - 1) = s) (hLs : L = s * sz) (hsz : 1 ≤ sz) (hL1 : L ≤ 1000) (hbl : b.length = L) (hbyt : ∀ x ∈ b, Byt x) (hlost : lost < n)
    (DC : Calls Try.prog 37 #[v, A] w (DecGood L b w)) :
    Calls Try.prog 16 #[v, .int .i64 lost, A] w fun e w' => ∃ A2 c2, e = .returned (.tuple #[.slice A2 ((k - 1) * sz) c2, .int .i64 0]) ∧ (Kd.int .u8).C w' A2 ((k - 1) * sz) (shardL (ptN n k lost) (k - 1) sz b) ∧ Below w.heap.size w w' := by
  have D := Lib.hid DC
  have EN := Lib.hid (fun W A1 c1 (hB : Below w.heap.size w W) (h : (Kd.int .u8).R 5 W w.heap.size (fun _ => True) (.slice A1 L c1) b) => show Calls Try.prog 19 #[v, .slice A1 L c1] W fun e w' => ∃ A' c', e = .returned (.tuple #[.slice A' n c', .int .i64 0]) ∧ RowsR w' W.heap.size (.slice A' n c') (shardsM n k sz b n) ∧ Kd.C kRow w' A' n (shardsM n k sz b n) ∧ Below W.heap.size W w' from
    encode_good v n k s sz L A1 c1 b W (hc.below hB) k1 k2 n2 hs (by rw [← hbl]; exact (Kd.R_reads' h).2.2) (Kd.R_reads' h).2.1 hLs hsz hL1 hbyt)
  have HL := Lib.hid hlost
  have h1 : (lost : Int) < (n : Int) := by omega
  have h2 : ¬ (n : Int) ≤ (lost : Int) := by omega
  have h3 : decide ((lost : Int) < 0) = false := by simp
  have h4 : (0 : Int) ≤ (lost : Int) := by omega
  have h5 : decide ((lost : Int) ≥ (n : Int)) = false := by simp; omega
  clear DC hc hs hLs hsz hL1 hbl hbyt k1 k2 hlost
  go_enter Try.func16, Try.ntmps16
  go_wp2_with (first
    | (go_at_call 37; (with_reducible refine D.out.mono ?_); rintro e w1 ⟨A1, c1, rfl, hr, hb⟩; have HB1 := Lib.hid hb; have EN1 := Lib.hid (EN.out w1 A1 c1 hb hr); clear hr hb)
    | (go_at_call 19; (with_reducible refine EN1.out.mono ?_); rintro e w2 ⟨A2, c2, rfl, _, hC, hb⟩; have HB2 := Lib.hid (HB1.out.trans (hb.mono HB1.out.size)); obtain ⟨ad, A3, c3, rfl, kc, _, hC3⟩ := shards_at hC lost HL.out; have HC3 := Lib.hid hC3; clear hC hb hC3))
  go_ret2
  exact ⟨A3, c3, rfl, HC3.out, HB2.out⟩
end Go.Proofs.Ytcnfafappcbpnaa.Hl
namespace Go.Proofs.Ytcnfafappcbpnaa.Str
open Go Go.RowKit Go.Proofs.Ytcnfafappcbpnaa.PHealFragments Go.Proofs.Ytcnfafappcbpnaa.BHealFragments Go.Proofs.Ytcnfafappcbpnaa.Gf Go.Proofs.Ytcnfafappcbpnaa.Gi Go.Proofs.Ytcnfafappcbpnaa.Bits Go.Proofs.Ytcnfafappcbpnaa.Mem Go.Proofs.Ytcnfafappcbpnaa.VPts Go.Proofs.Ytcnfafappcbpnaa.Rws Go.Proofs.YtcnfafappcbpnaaW.PrintWords Go.Proofs.YtcnfafappcbpnaaW.PrintLast
set_option linter.unusedVariables false
set_option maxRecDepth 100000 in
theorem cost_good (v : Value) (n k L sz : Nat) (w : World) (hc : IsCodeP w v n k) (k1 : 2 ≤ k) (k2 : k ≤ 8) (hl : L ≤ 1000) (hLs : L = (k - 1) * sz) (hsz : 1 ≤ sz) :
    Calls Try.prog 11 #[v, .int .i64 L] w fun e w' => e = .returned (.tuple #[.int .i64 (((2 * k - 2) * sz : Nat) : Int), .int .i64 ((k * L : Nat) : Int)]) ∧ Below w.heap.size w w' := by
  have KK := Lib.hid (fun W (hB : Below w.heap.size w W) => k_any v n k W (hc.below hB).code)
  have PP := Lib.hid (fun W (hB : Below w.heap.size w W) => parts_any v n k W (hc.below hB).code (by omega) (by omega))
  have HH := Lib.hid (fun W (hB : Below w.heap.size w W) => helpers_any v n k W (hc.below hB).code (by omega) (by omega))
  obtain ⟨a, ha⟩ : ∃ a, a = k - 1 := ⟨_, rfl⟩
  obtain ⟨q, hq⟩ : ∃ q, q = 2 * k - 2 := ⟨_, rfl⟩
  rw [← ha] at PP hLs
  rw [← hq] at HH ⊢
  have a1 : 1 ≤ a := by omega
  have a7 : a ≤ 7 := by omega
  have q14 : q ≤ 14 := by omega
  have sz1 : sz ≤ L := by rw [hLs]; exact Nat.le_mul_of_pos_left sz (by omega)
  have d1 : (L : Int) % (a : Int) = 0 := by rw [hLs, Int.natCast_mul]; exact Int.mul_emod_right _ _
  have d2 : (L : Int) / (a : Int) = (sz : Int) := by rw [hLs, Int.natCast_mul, Int.mul_comm]; exact Int.mul_ediv_cancel _ (by omega)
  have m1 : q * sz ≤ 14 * 1000 := Nat.mul_le_mul q14 (by omega)
  have m2 : k * L ≤ 8 * 1000 := Nat.mul_le_mul k2 hl
  have e1 : IntKind.i64.wrap ((q : Int) * (sz : Int)) = ((q * sz : Nat) : Int) := by rw [← Int.natCast_mul, IntWalk.i64_in _ (by omega)]
  have e2 : IntKind.i64.wrap ((k : Int) * (L : Int)) = ((k * L : Nat) : Int) := by rw [← Int.natCast_mul, IntWalk.i64_in _ (by omega)]
  obtain ⟨x1, hx1⟩ : ∃ x, x = q * sz := ⟨_, rfl⟩
  obtain ⟨x2, hx2⟩ : ∃ x, x = k * L := ⟨_, rfl⟩
  rw [← hx1] at e1 ⊢
  rw [← hx2] at e2 ⊢
  have t5 : (1 : Int) ≤ (L : Int) := by have := Nat.mul_le_mul a1 hsz; omega
  have t3 : decide ((L : Int) < 1) = false := by simp; omega
  have HB := Lib.hid (Below.refl w.heap.size w)
  obtain ⟨b, A, c, rfl, _⟩ := hc
  clear k1 k2 ha hq hLs m1 m2 hx1 hx2
  go_enter Try.func11, Try.ntmps11
  go_wp2_with (go_at_call 23; (with_reducible refine (PP.out _ (Below.refl _ _)).mono ?_); rintro e w ⟨rfl, rfl⟩)
  go_quiet (first
    | (go_at_call 23; exact Calls.quiet_of_same (PP.out _ (pw_below_drewN (Below.refl _ _) _)))
    | (go_at_call 28; exact Calls.quiet_of_same (KK.out _ (pw_below_drewN (Below.refl _ _) _)))
    | (go_at_call 27; exact Calls.quiet_of_same (HH.out _ (pw_below_drewN (Below.refl _ _) _))))
  go_wp2
  go_ret2
  exact ⟨rfl, pw_below_drewN HB.out _⟩
theorem right_f (n k : Int) (b : Bool) (h : decide (2 ≤ k ∧ k ≤ 8 ∧ 2 * k - 1 ≤ n ∧ n ≤ 24) = b) : coldframeref06_Right.f n k = some b := by
  subst h
  unfold coldframeref06_Right.f
  by_cases h1 : k ≥ 2
  · rw [if_pos h1]
    by_cases h2 : k ≤ 8
    · rw [if_pos h2, show wrap64 (2 * k) = 2 * k from wrap64_in _ (by omega) (by omega), show wrap64 (2 * k - 1) = 2 * k - 1 from wrap64_in _ (by omega) (by omega)]
      by_cases h3 : n ≥ 2 * k - 1
      · rw [if_pos h3]; congr 1; rw [decide_eq_decide]; omega
      · rw [if_neg h3]; congr 1; symm; rw [decide_eq_false_iff_not]; omega
    · rw [if_neg h2]; congr 1; symm; rw [decide_eq_false_iff_not]; omega
  · rw [if_neg h1]; congr 1; symm; rw [decide_eq_false_iff_not]; omega
theorem small_calls (n k : Int) (b : Bool) (w : World) (h : decide (2 ≤ k ∧ k ≤ 4 ∧ 2 * k - 1 ≤ n ∧ n ≤ 12) = b) :
    Calls Try.prog 7 #[.int .i64 n, .int .i64 k] w fun e w' => e = .returned (.bool b) ∧ Below w.heap.size w w' := by
  refine (coldframelaw07_small.calls n k b w ?_).mono ?_
  · subst h
    unfold coldframelaw07_small.f
    by_cases h1 : 2 ≤ k ∧ k ≤ 8 ∧ 2 * k - 1 ≤ n ∧ n ≤ 24
    · rw [right_f n k true (decide_eq_true h1), bnd, if_pos rfl]
      by_cases h2 : n ≤ 12
      · rw [if_pos h2]; congr 1; rw [decide_eq_decide]; omega
      · rw [if_neg h2]; congr 1; symm; rw [decide_eq_false_iff_not]; omega
    · rw [right_f n k false (decide_eq_false h1), bnd, if_neg (by decide)]; congr 1; symm; rw [decide_eq_false_iff_not]; omega
  · rintro e w' ⟨rfl, h⟩
    exact ⟨rfl, h.below⟩
set_option maxRecDepth 100000 in
theorem awake_calls (w : World) : Calls Try.prog 8 #[] w fun e w' => e = .returned (.bool true) ∧ Below w.heap.size w w' := by
  have NC : Hid (∀ W, Calls Try.prog 9 #[.int .i64 5, .int .i64 3] W fun e w' => ∃ v, e = .returned (.tuple #[v, .int .i64 0]) ∧ IsCodeP w' v 5 3 ∧ Below W.heap.size W w') := Lib.hid (fun W => new_codeP 5 3 W (by omega) (by omega) (by omega) (by omega))
  have CC : Hid (∀ v W, IsCodeP W v 5 3 → Calls Try.prog 11 #[v, .int .i64 4] W fun e w' => e = .returned (.tuple #[.int .i64 8, .int .i64 12]) ∧ Below W.heap.size W w') := Lib.hid (fun v W hc => cost_good v 5 3 4 2 W hc (by omega) (by omega) (by omega) (by omega) (by omega))
  go_enter Try.func8, Try.ntmps8
  go_wp2_with (first
    | (go_at_call 9; (with_reducible refine (NC.out _).mono ?_); rintro e w1 ⟨v, rfl, hc, hb⟩; have HC := Lib.hid hc; have HB := Lib.hid hb; clear hc hb)
    | (go_at_call 11; (with_reducible refine (CC.out v _ HC.out).mono ?_); rintro e w2 ⟨rfl, hb⟩; have HB2 := Lib.hid (HB.out.trans (hb.mono HB.out.size)); clear hb))
  go_ret
  exact ⟨rfl, HB2.out⟩
theorem str_reads {w : World} {A : Option Addr} {n c : Nat} {xs : List Int} (h : ReadsInt w .u8 A n xs) : (convert 22 9 (.slice A n c)).run Try.prog w = .ok (.string (strOfNums xs)) w :=
  string_of_reads Try.underlying22 Try.underlying5 Try.underlying9 h
theorem str_any {w : World} {A : Option Addr} {m c : Nat} {ys : List Int} (h : (Kd.int .u8).C w A m ys) (W : World) (hb : Below w.heap.size w W) : (convert 22 9 (.slice A m c)).run Try.prog W = .ok (.string (strOfNums ys)) W :=
  str_reads (Kd.reads_of_C (d := (0 : Int)) (Kd.C_below h hb))
end Go.Proofs.Ytcnfafappcbpnaa.Str
namespace Go.Proofs.Ytcnfafappcbpnaa.Hl
open Go Go.RowKit Go.Proofs.Ytcnfafappcbpnaa.Gf Go.Proofs.Ytcnfafappcbpnaa.Gi Go.Proofs.Ytcnfafappcbpnaa.Bits Go.Proofs.Ytcnfafappcbpnaa.Mem Go.Proofs.Ytcnfafappcbpnaa.Alg Go.Proofs.Ytcnfafappcbpnaa.Sol Go.Proofs.Ytcnfafappcbpnaa.VPts Go.Proofs.Ytcnfafappcbpnaa.Str Go.Proofs.Ytcnfafappcbpnaa.Rws Go.Proofs.Ytcnfafappcbpnaa.Par Go.Proofs.Ytcnfafappcbpnaa.Mdc Go.Proofs.Ytcnfafappcbpnaa.BHealFragments Go.Proofs.YtcnfafappcbpnaaW.PrintWords
set_option linter.unusedVariables false
set_option maxRecDepth 100000 in
theorem hw_no (n k lost : Int) (A : Option Addr) (L c : Nat) (w : World) (h : ¬ (2 ≤ k ∧ k ≤ 4 ∧ 2 * k - 1 ≤ n ∧ n ≤ 12)) :
    Calls Try.prog 5 #[.int .i64 n, .int .i64 k, .int .i64 lost, .slice A L c] w fun e w' => e = .returned (.bool true) ∧ Below w.heap.size w w' := by
  have SM := Lib.hid (small_calls n k false w (decide_eq_false h))
  have AW := Lib.hid awake_calls
  clear h
  go_enter Try.func5, Try.ntmps5
  go_wp2_with (first | (go_at_call 7; (with_reducible refine SM.out.mono ?_); rintro e w1 ⟨rfl, hb⟩; have HB1 := Lib.hid hb; clear hb) | (go_at_call 8; (with_reducible refine (AW.out _).mono ?_); rintro e w9 ⟨rfl, hb⟩; have HB9 := Lib.hid (HB1.out.trans (hb.mono HB1.out.size)); clear hb))
  go_ret
  exact ⟨rfl, HB9.out⟩
set_option maxRecDepth 100000 in
theorem hw_long (n k lost : Int) (A : Option Addr) (L c : Nat) (w : World) (h : 2 ≤ k ∧ k ≤ 4 ∧ 2 * k - 1 ≤ n ∧ n ≤ 12) (hL : 30 < L) :
    Calls Try.prog 5 #[.int .i64 n, .int .i64 k, .int .i64 lost, .slice A L c] w fun e w' => e = .returned (.bool true) ∧ Below w.heap.size w w' := by
  have SM := Lib.hid (small_calls n k true w (decide_eq_true h))
  have AW := Lib.hid awake_calls
  have q1 : (30 : Int) < (L : Int) := by omega
  clear h hL
  go_enter Try.func5, Try.ntmps5
  go_wp2_with (first | (go_at_call 7; (with_reducible refine SM.out.mono ?_); rintro e w1 ⟨rfl, hb⟩; have HB1 := Lib.hid hb; clear hb) | (go_at_call 8; (with_reducible refine (AW.out _).mono ?_); rintro e w9 ⟨rfl, hb⟩; have HB9 := Lib.hid (HB1.out.trans (hb.mono HB1.out.size)); clear hb))
  go_ret
  exact ⟨rfl, HB9.out⟩
set_option maxRecDepth 100000 in
set_option maxHeartbeats 8000000 in
theorem hw_main (n k N c : Nat) (lost : Int) (A : Option Addr) (s : Nat → Int) (h : Nat → Hd) (x : Nat → List Int) (w : World) (hp : PA w A N s h x) (hxb : ∀ q i, Byt ((x q).getD i 0)) (k1 : 2 ≤ k) (k2 : k ≤ 4) (n1 : 2 * k - 1 ≤ n) (n2 : n ≤ 12) (hN : N ≤ 30) (hNc : N ≤ c) :
    Calls Try.prog 5 #[.int .i64 n, .int .i64 k, .int .i64 lost, .slice A N c] w fun e w' => e = .returned (.bool true) ∧ Below w.heap.size w w' := by
  have SM := Lib.hid (small_calls n k true w (decide_eq_true (by omega)))
  have AW := Lib.hid awake_calls
  have NC := Lib.hid (fun W => new_codeP n k W k1 (by omega) n1 (by omega))
  have HP := Lib.hid (fun W (hB : Below w.heap.size w W) => hp.below hB)
  obtain ⟨m, hm⟩ : ∃ m : Nat → Nat, m = fun i => (x i).length := ⟨_, rfl⟩
  have HM := Lib.hid (show ∀ i, (x i).length = m i by rw [hm]; exact fun _ => rfl)
  have HXB := Lib.hid hxb
  have HKN := Lib.hid (And.intro (And.intro k1 k2) (And.intro n1 n2))
  have HNC := Lib.hid hNc
  have q1 : ¬ (30 : Int) < (N : Int) := by omega
  have q2 : decide ((N : Int) > 30) = false := by simp; omega
  clear hp hm hxb k1 k2 n1 n2 hNc
  go_enter Try.func5, Try.ntmps5
  go_upto_region 4 with (go_at_call 7; (with_reducible refine SM.out.mono ?_); rintro e w1 ⟨rfl, hb⟩; have HB1 := Lib.hid hb; clear hb)
  go_loopw [9] (fun iv wr => ∃ (i : Nat), i ≤ N ∧ iv = .int .i64 i ∧ Hid (∀ j, j < i → m j ≤ 60) ∧ Hid (Below w.heap.size w wr)) (fun iv _ => N - (intOf iv).toNat)
  case atStart => exact ⟨0, by omega, rfl, Lib.hid (fun j hj => absurd hj (Nat.not_lt_zero j)), HB1⟩
  case round =>
    clear HB1
    obtain ⟨i, hi, rfl, HL, HB1⟩ := hrel
    by_cases hlt : i < N
    · have g1 : (i : Int) < (N : Int) := by omega
      have g2 : (0 : Int) ≤ (i : Int) := by omega
      obtain ⟨ad, rfl, _, kc, kl, _⟩ := HP.out wr HB1.out i hlt
      obtain ⟨⟨A2, m2, c2⟩, hh2⟩ : ∃ q, q = h i := ⟨_, rfl⟩
      rw [← hh2] at kc kl
      have hk2 : wr.cell? ⟨(ad.add (i * 2)).block, (ad.add (i * 2)).off + 1, none⟩ = some (.slice A2 m2 c2) := kc
      have HMI := Lib.hid (show m i = m2 by rw [← HM.out]; exact kl)
      clear kc kl hh2
      by_cases h60 : 60 < m2
      · have g3 : (60 : Int) < (m2 : Int) := by omega
        go_wp2_with (go_at_call 8; (with_reducible refine (AW.out _).mono ?_); rintro e w9 ⟨rfl, hb⟩; have HB9 := Lib.hid (HB1.out.trans (hb.mono HB1.out.size)); clear hb)
        go_ret
        exact ⟨rfl, HB9.out⟩
      · have g3 : ¬ (60 : Int) < (m2 : Int) := by omega
        go_wp2
        go_roundw
        case rel => exact ⟨i + 1, by omega, by go_num, Lib.hid (fun j hj => by
          rcases Nat.lt_or_ge j i with hh | hh
          · exact HL.out j hh
          · obtain rfl : j = i := by omega
            rw [HMI.out]; omega), HB1⟩
        case measure => simp [intOf]; omega
    · obtain rfl : N = i := by omega
      have PC := Lib.hid (fun W hB => parted_any n N c A s h x W (HP.out W hB) m HM.out (by omega))
      go_upto_region 9 with (go_at_call 13; (with_reducible refine (PC.out _ HB1.out).mono ?_); rintro e wP ⟨A5, A6, c5, c6, ok, rfl, hok, hc5, hc6, hC5, hC6, hb⟩; have HOK := Lib.hid hok; have HC5 := Lib.hid hC5; have HC6 := Lib.hid hC6; have HBn := Lib.hid (HB1.out.trans (hb.mono HB1.out.size)); clear HB1 hok hc5 hc6 hC5 hC6 hb; have HB1 := HBn; clear HBn)
      clear PC
      have hk := HKN.out
      obtain ⟨a, ha⟩ : ∃ a, a = k - 1 := ⟨_, rfl⟩
      have HA := Lib.hid ha
      have HK2 := Lib.hid (show 2 ≤ k ∧ k ≤ 8 ∧ n ≤ 24 ∧ 1 ≤ a ∧ a ≤ 3 ∧ k = a + 1 by omega)
      have v1 : IntKind.i64.wrap ((k : Int) - 1) = (a : Int) := by rw [IntWalk.i64_in _ (by omega)]; omega
      have v2 : (k : Int) - 1 = (a : Int) := by omega
      have v3 : (0 : Int) < (a : Int) := by omega
      have v4 : ((a : Int) == 0) = false := by simp; omega
      have v5 : (a : Int) ≠ 0 := by omega
      clear hk ha
      cases ok
      case false =>
        have RB := Lib.hid (fun v W (hB : Below w.heap.size w W) (hc : IsCodeP W v n k) => whole_err v (.slice A N c) lost 1 W (by decide) (decode_bad v n k N c A s h x m W hc HK2.out.2.2.1 (HP.out W hB) HM.out (by omega) (fun e => by have h := HOK.out.2 e; first | exact h.elim | cases h)))
        clear HC5 HC6 HL
        go_wp2_with (first | (go_at_call 9; (with_reducible refine (NC.out _).mono ?_); rintro e w2 ⟨v, rfl, hcd, hb⟩; have HV := Lib.hid hcd; replace HB1 := Lib.hid (HB1.out.trans (hb.mono HB1.out.size)); clear hb hcd) | (go_at_call 16; (with_reducible refine (RB.out v _ HB1.out HV.out).mono ?_); rintro e w4 ⟨rfl, hb⟩; replace HB1 := Lib.hid (HB1.out.trans (hb.mono HB1.out.size)); clear HV hb) | (go_at_call 8; (with_reducible refine (AW.out _).mono ?_); rintro e w9 ⟨rfl, hb⟩; have HB9 := Lib.hid (HB1.out.trans (hb.mono HB1.out.size)); clear hb))
        go_ret
        exact ⟨rfl, HB9.out⟩
      case true =>
        have HO := Lib.hid (HOK.out.1 (by first | rfl | trivial))
        clear HOK
        by_cases hfew : N < k
        · have g3 : (N : Int) < (k : Int) := by omega
          have RB := Lib.hid (fun v W (hB : Below w.heap.size w W) (hc : IsCodeP W v n k) => whole_err v (.slice A N c) lost 24 W (by decide) (decode_few v n k N c A s h x m W hc HK2.out.2.2.1 (HP.out W hB) HM.out (by omega) HO.out hfew))
          clear HC5 HC6 HL hfew
          go_wp2_with (first | (go_at_call 9; (with_reducible refine (NC.out _).mono ?_); rintro e w2 ⟨v, rfl, hcd, hb⟩; have HV := Lib.hid hcd; replace HB1 := Lib.hid (HB1.out.trans (hb.mono HB1.out.size)); clear hb hcd) | (go_at_call 16; (with_reducible refine (RB.out v _ HB1.out HV.out).mono ?_); rintro e w4 ⟨rfl, hb⟩; replace HB1 := Lib.hid (HB1.out.trans (hb.mono HB1.out.size)); clear HV hb) | (go_at_call 8; (with_reducible refine (AW.out _).mono ?_); rintro e w9 ⟨rfl, hb⟩; have HB9 := Lib.hid (HB1.out.trans (hb.mono HB1.out.size)); clear hb))
          go_ret
          exact ⟨rfl, HB9.out⟩
        have g3 : ¬ (N : Int) < (k : Int) := by omega
        have hk0 := HK2.out
        have h0N : 0 < N := by omega
        have HKN2 := Lib.hid (show k ≤ N by omega)
        have g4 : (0 : Int) < (N : Int) := by omega
        obtain ⟨ad6, A60, c60, rfl, k60, _, hC60⟩ := Str.rowsN_get HC6.out 0 h0N
        rw [rowsX_get x N 0 h0N, HM.out 0] at k60
        obtain ⟨m0, hm0⟩ : ∃ m0, m0 = m 0 := ⟨_, rfl⟩
        rw [← hm0] at k60
        have k60' : wP.cell? ad6 = some (.slice A60 m0 c60) := by simpa [Addr.add] using k60
        have K6 := Lib.hid (fun W (hB : Below wP.heap.size wP W) => pw_cell_below hB k60')
        have HM0 := Lib.hid hm0
        have hm60 : m0 ≤ 60 := by rw [hm0]; exact HL.out 0 h0N
        have HQ := Lib.hid (Below.refl wP.heap.size wP)
        clear hC60 k60 k60' hfew h0N hk0
        by_cases hodd : m0 % a ≠ 0
        · have RB := Lib.hid (fun v W (hB : Below w.heap.size w W) (hc : IsCodeP W v n k) => whole_err v (.slice A N c) lost 1 W (by decide) (decode_odd v n k N c a A s h x m W hc HK2.out.1 HK2.out.2.1 HK2.out.2.2.1 HA.out (HP.out W hB) HM.out (by omega) HO.out HKN2.out (by rw [← HM0.out]; exact hodd) (by rw [← HM0.out]; omega)))
          obtain ⟨r, hr⟩ : ∃ r, r = m0 % a := ⟨_, rfl⟩
          have d3 : (m0 : Int) % (a : Int) = (r : Int) := by rw [hr]; exact (Int.natCast_emod m0 a).symm
          have d4 : ((r : Int) != 0) = true := by simp; omega
          clear HC5 HC6 HL hm0 hr hodd
          go_upto_region 15 with (first | (go_at_call 9; (with_reducible refine (NC.out _).mono ?_); rintro e w2 ⟨v, rfl, hcd, hb⟩; have HV := Lib.hid hcd; replace HB1 := Lib.hid (HB1.out.trans (hb.mono HB1.out.size)); replace HQ := Lib.hid (HQ.out.trans (hb.mono HQ.out.size)); clear hb hcd) | (go_at_call 16; (with_reducible refine (RB.out v _ HB1.out HV.out).mono ?_); rintro e w4 ⟨rfl, hb⟩; replace HB1 := Lib.hid (HB1.out.trans (hb.mono HB1.out.size)); replace HQ := Lib.hid (HQ.out.trans (hb.mono HQ.out.size)); clear HV hb))
          have y6 := K6.out _ HQ.out
          go_wp2_with (go_at_call 8; (with_reducible refine (AW.out _).mono ?_); rintro e w9 ⟨rfl, hb⟩; have HB9 := Lib.hid (HB1.out.trans (hb.mono HB1.out.size)); clear hb)
          go_ret
          exact ⟨rfl, HB9.out⟩
        have hodd0 : m0 % a = 0 := by omega
        obtain ⟨sz, hsz⟩ : ∃ sz, sz = m0 / a := ⟨_, rfl⟩
        have hk0 := HK2.out
        have hma : m0 = sz * a := by
          have := Nat.div_add_mod m0 a
          rw [hodd0, Nat.add_zero, Nat.mul_comm, ← hsz] at this
          exact this.symm
        have hm1 : 0 < m0 := by rw [HM0.out]; exact (HO.out 0 (by have := HKN2.out; omega)).2.2.1
        have hs1 : 1 ≤ sz := by
          rcases Nat.eq_zero_or_pos sz with h0 | h0
          · rw [h0, Nat.zero_mul] at hma; omega
          · exact h0
        have hs60 : sz ≤ 60 := by
          have : sz * 1 ≤ sz * a := Nat.mul_le_mul_left sz hk0.2.2.2.1
          omega
        obtain ⟨B, hBb, hMs, hRf⟩ := dec_ex (n := n) (k := k) (N := N) (a := a) (sz := sz) (s := s) (x := x) (m := m) hk0.1 hk0.2.1 hk0.2.2.1 HA.out HO.out HKN2.out HXB.out hs1
        obtain ⟨S0, hS0⟩ : ∃ S0, S0 = (a + 1) * a := ⟨_, rfl⟩
        obtain ⟨L, hL⟩ : ∃ L, L = S0 * sz := ⟨_, rfl⟩
        obtain ⟨b, hb⟩ : ∃ b, b = line L (outB B sz) := ⟨_, rfl⟩
        have hL1 : L ≤ 1000 := by
          have h1 : (a + 1) * m0 ≤ 4 * 60 := Nat.mul_le_mul (by omega) hm60
          have h2 : L = (a + 1) * m0 := by rw [hL, hS0, hma, Nat.mul_assoc, Nat.mul_comm a sz]
          omega
        have hks : k * (k - 1) = S0 := by rw [hS0, ← HA.out, hk0.2.2.2.2.2]
        have hbl : b.length = L := by rw [hb, line_len]
        have hbb : ∀ y ∈ b, Byt y := by rw [hb]; exact line_byt _ _ (fun i => hBb _ _)
        have DG := Lib.hid (fun v W (hB : Below w.heap.size w W) (hc : IsCodeP W v n k) => show Calls Try.prog 37 #[v, .slice A N c] W (DecGood L b W) by
          have h := decode_good v n k N c a sz L A s h x m B W hc HK2.out.1 HK2.out.2.1 HK2.out.2.2.1 HA.out (HP.out W hB) HM.out (by omega) HNC.out HO.out HKN2.out (by rw [← HM0.out]; exact hma) hs1 (by omega) (by rw [hL, hS0]) HXB.out hBb hMs
          rw [← hb] at h
          exact h)
        have RD := Lib.hid (fun W (hB : Below wP.heap.size wP W) => show Calls Try.prog 18 #[.int .i64 n, .int .i64 k, .slice A5 N c5, .slice (some ad6) N c6] W fun e w' => ∃ A c, e = .returned (.slice A L c) ∧ (Kd.int .u8).C w' A L b ∧ Below W.heap.size W w' from
          (rdec_any n k N c5 c6 sz a S0 A5 (some ad6) s x W hk0.1 hk0.2.1 hk0.2.2.1 HA.out hS0 HKN2.out (by omega) (Kd.C_below HC5.out hB) (Kd.C_below HC6.out hB) (fun i hi => ⟨(HO.out i hi).1, (HO.out i hi).2.1⟩) (fun i hi => by rw [HM.out, (HO.out i hi).2.2.2.1, ← HM0.out, hma]) HXB.out hs1 (by omega)).mono (by
            rintro e w' ⟨A9, c9, t, M, rfl, hst, _, hC, hbw⟩
            refine ⟨A9, c9, by rw [hL], ?_, hbw⟩
            rw [hS0] at hst hC
            have h1 := hRf t M hst
            rw [h1] at hC
            rw [hb, hL, hS0]
            exact hC))
        have RE := Lib.hid (fun W A c (hC : (Kd.int .u8).C W A L b) => refenc_good n k S0 sz L A c b W hk0.1 hk0.2.1 hk0.2.2.1 hks hC hL hs1 hL1 hbb)
        have HW := Lib.hid (And.intro hks (And.intro hL (And.intro hs1 (And.intro hL1 (And.intro hbl hbb)))))
        have d3 : (m0 : Int) % (a : Int) = 0 := by rw [← Int.natCast_emod, hodd0]; rfl
        clear hodd hodd0 hsz hma hm1 hs1 hs60 hBb hMs hRf hS0 hL hb hL1 hks hbl hbb hm0 hk0 HL HC5 HC6
        by_cases hneg : lost < 0
        · have RB := Lib.hid (fun v W (hB : Below w.heap.size w W) (hc : IsCodeP W v n k) => whole_out v (.slice A N c) n k S0 sz L lost b W hc HK2.out.1 HK2.out.2.1 HK2.out.2.2.1 HW.out.1 HW.out.2.1 HW.out.2.2.1 HW.out.2.2.2.1 HW.out.2.2.2.2.1 HW.out.2.2.2.2.2 (Or.inl hneg) (DG.out v W hB hc))
          clear DG RD RE
          go_upto_region 15 with (first | (go_at_call 9; (with_reducible refine (NC.out _).mono ?_); rintro e w2 ⟨v, rfl, hcd, hb⟩; have HV := Lib.hid hcd; replace HB1 := Lib.hid (HB1.out.trans (hb.mono HB1.out.size)); replace HQ := Lib.hid (HQ.out.trans (hb.mono HQ.out.size)); clear hb hcd) | (go_at_call 16; (with_reducible refine (RB.out v _ HB1.out HV.out).mono ?_); rintro e w4 ⟨rfl, hb⟩; replace HB1 := Lib.hid (HB1.out.trans (hb.mono HB1.out.size)); replace HQ := Lib.hid (HQ.out.trans (hb.mono HQ.out.size)); clear HV hb))
          have y6 := K6.out _ HQ.out
          go_wp2_with (go_at_call 8; (with_reducible refine (AW.out _).mono ?_); rintro e w9 ⟨rfl, hb⟩; have HB9 := Lib.hid (HB1.out.trans (hb.mono HB1.out.size)); clear hb)
          go_ret
          exact ⟨rfl, HB9.out⟩
        have hneg' : decide (lost < 0) = false := by simp; omega
        by_cases hbig : (n : Int) ≤ lost
        · have RB := Lib.hid (fun v W (hB : Below w.heap.size w W) (hc : IsCodeP W v n k) => whole_out v (.slice A N c) n k S0 sz L lost b W hc HK2.out.1 HK2.out.2.1 HK2.out.2.2.1 HW.out.1 HW.out.2.1 HW.out.2.2.1 HW.out.2.2.2.1 HW.out.2.2.2.2.1 HW.out.2.2.2.2.2 (Or.inr hbig) (DG.out v W hB hc))
          clear DG RD RE
          go_upto_region 15 with (first | (go_at_call 9; (with_reducible refine (NC.out _).mono ?_); rintro e w2 ⟨v, rfl, hcd, hb⟩; have HV := Lib.hid hcd; replace HB1 := Lib.hid (HB1.out.trans (hb.mono HB1.out.size)); replace HQ := Lib.hid (HQ.out.trans (hb.mono HQ.out.size)); clear hb hcd) | (go_at_call 16; (with_reducible refine (RB.out v _ HB1.out HV.out).mono ?_); rintro e w4 ⟨rfl, hb⟩; replace HB1 := Lib.hid (HB1.out.trans (hb.mono HB1.out.size)); replace HQ := Lib.hid (HQ.out.trans (hb.mono HQ.out.size)); clear HV hb))
          have y6 := K6.out _ HQ.out
          go_wp2_with (go_at_call 8; (with_reducible refine (AW.out _).mono ?_); rintro e w9 ⟨rfl, hb⟩; have HB9 := Lib.hid (HB1.out.trans (hb.mono HB1.out.size)); clear hb)
          go_ret
          exact ⟨rfl, HB9.out⟩
        obtain ⟨l0, rfl⟩ := Int.eq_ofNat_of_zero_le (show 0 ≤ lost by omega)
        have hl0 : l0 < n := by omega
        have g5 : (l0 : Int) < (n : Int) := by omega
        have g6 : ¬ (n : Int) ≤ (l0 : Int) := by omega
        have g7 : (0 : Int) ≤ (l0 : Int) := by omega
        have RB := Lib.hid (fun v W (hB : Below w.heap.size w W) (hc : IsCodeP W v n k) => whole_good v (.slice A N c) n k S0 sz L l0 b W hc HK2.out.1 HK2.out.2.1 HK2.out.2.2.1 HW.out.1 HW.out.2.1 HW.out.2.2.1 HW.out.2.2.2.1 HW.out.2.2.2.2.1 HW.out.2.2.2.2.2 hl0 (DG.out v W hB hc))
        have HL0 := Lib.hid hl0
        clear DG hneg hbig hl0
        go_upto_region 15 with (first
          | (go_at_call 9; (with_reducible refine (NC.out _).mono ?_); rintro e w2 ⟨v, rfl, hcd, hb⟩; have HV := Lib.hid hcd; replace HB1 := Lib.hid (HB1.out.trans (hb.mono HB1.out.size)); replace HQ := Lib.hid (HQ.out.trans (hb.mono HQ.out.size)); clear hb hcd)
          | (go_at_call 16; (with_reducible refine (RB.out v _ HB1.out HV.out).mono ?_); rintro e w5 ⟨A7, c7, rfl, hr, hb⟩; have HC7 := Lib.hid hr; have HBn := Lib.hid (HB1.out.trans (hb.mono HB1.out.size)); have HQn := Lib.hid (HQ.out.trans (hb.mono HQ.out.size)); clear HB1 HQ HV hb hr; have HB1 := HBn; have HQ := HQn; clear HBn HQn))
        have y6 := K6.out _ HQ.out
        obtain ⟨LL, hLL⟩ : ∃ LL, LL = (k - 1) * sz := ⟨_, rfl⟩
        obtain ⟨fr, hfr⟩ : ∃ fr, fr = shardL (ptN n k l0) (k - 1) sz b := ⟨_, rfl⟩
        have HC8 := Lib.hid (show (Kd.int .u8).C w5 A7 LL fr by rw [hLL, hfr]; exact HC7.out)
        have HSA := Lib.hid (fun W A (hC : Kd.C kRow W A n (shardsM n k sz b n)) => show ∃ ad A0 c0, A = some ad ∧ W.cell? (ad.add l0) = some (.slice A0 LL c0) ∧ (Kd.int .u8).C W A0 LL fr by
          obtain ⟨ad, A0, c0, e, h1, _, h3⟩ := shards_at hC l0 HL0.out
          rw [hLL, hfr]
          exact ⟨ad, A0, c0, e, h1, h3⟩)
        rw [← hLL]
        clear HC7 RB hLL hfr
        have HX := Lib.hid (Below.refl w5.heap.size w5)
        go_upto_region 18 with (first
          | (go_at_call 18; (with_reducible refine (RD.out _ HQ.out).mono ?_); rintro e w6 ⟨A9, c9, rfl, hC, hb⟩; have RE2 := Lib.hid (RE.out _ _ c9 hC); have HXn := Lib.hid (HX.out.trans (hb.mono HX.out.size)); have HBn := Lib.hid (HB1.out.trans (hb.mono HB1.out.size)); clear HX HB1 hC hb RE; have HX := HXn; have HB1 := HBn; clear HXn HBn)
          | (go_at_call 17; (with_reducible refine RE2.out.mono ?_); rintro e w7 ⟨A10, c10, rfl, _, hC, hb⟩; obtain ⟨ad10, A11, c11, rfl, kc, hC11⟩ := HSA.out _ _ hC; have K7 := Lib.hid (And.intro kc hC11); have HXn := Lib.hid (HX.out.trans (hb.mono HX.out.size)); have HBn := Lib.hid (HB1.out.trans (hb.mono HB1.out.size)); clear HX HB1 hC hb kc hC11 RE2; have HX := HXn; have HB1 := HBn; clear HXn HBn))
        have KS := Lib.hid (fun W (hB : Below w7.heap.size w7 W) => show (convert 22 9 (.slice A7 LL c7)).run Try.prog W = .ok (.string (strOfNums fr)) W ∧ W.cell? (ad10.add l0) = some (.slice A11 LL c11) ∧ (convert 22 9 (.slice A11 LL c11)).run Try.prog W = .ok (.string (strOfNums fr)) W from
          ⟨str_any (c := c7) HC8.out W (HX.out.trans (hB.mono HX.out.size)), pw_cell_below hB K7.out.1, str_any (c := c11) K7.out.2 W hB⟩)
        have HZ := Lib.hid (show Below w7.heap.size w7 w7.drew from (Below.refl _ _).drew)
        have HBd := Lib.hid (show Below w.heap.size w w7.drew from HB1.out.drew)
        clear y6 K6 HB1 HX HQ
        refine wp_region_noPanic ?_
        refine wp_region_held_drew (S := (fun W => (convert 22 9 (.slice A7 LL c7)).run Try.prog W = .ok (.string (strOfNums fr)) W ∧ W.cell? (ad10.add l0) = some (.slice A11 LL c11) ∧ (convert 22 9 (.slice A11 LL c11)).run Try.prog W = .ok (.string (strOfNums fr)) W)) (by kernel_rfl) ?_ (fun hHeld => ?_)
        · ((try dsimp only); exact KS.out _ HZ.out)
        refine wpAnyH_take (i := 0) (oi := { dst := some 130, op := .move (.tmp 15), type := 22, pos := _, after := _, guard := none }) (v := ?_) rfl (by kernel_rfl) (by kernel_rfl) (by kernel_rfl) (fun _ _ _ h => h) (Or.inl ⟨by rfl, ?_⟩) (by assumption) ?_
        rotate_left 1
        · (intro w hSw; (try dsimp only at hSw); go_simp; try with_reducible rfl)
        try simp only [Act.put, List.setIfInBounds_toArray, List.set_cons_zero, List.set_cons_succ]
        refine wpAnyH_take (i := 1) (oi := { dst := some 131, op := .convert 22 9 (.tmp 130), type := 9, pos := _, after := _, guard := none }) (v := ?_) rfl (by kernel_rfl) (by kernel_rfl) (by kernel_rfl) (fun _ _ _ h => h) (Or.inl ⟨by rfl, ?_⟩) (by assumption) ?_
        rotate_left 1
        · (intro w hSw; (try dsimp only at hSw); go_simp; try with_reducible rfl)
        try simp only [Act.put, List.setIfInBounds_toArray, List.set_cons_zero, List.set_cons_succ]
        refine wpAnyH_take (i := 2) (oi := { dst := some 132, op := .move (.tmp 17), type := 39, pos := _, after := _, guard := none }) (v := ?_) rfl (by kernel_rfl) (by kernel_rfl) (by kernel_rfl) (fun _ _ _ h => h) (Or.inl ⟨by rfl, ?_⟩) (by assumption) ?_
        rotate_left 1
        · (intro w hSw; (try dsimp only at hSw); go_simp; try with_reducible rfl)
        try simp only [Act.put, List.setIfInBounds_toArray, List.set_cons_zero, List.set_cons_succ]
        refine wpAnyH_take (i := 3) (oi := { dst := some 133, op := .move (.tmp 2), type := 3, pos := _, after := _, guard := none }) (v := ?_) rfl (by kernel_rfl) (by kernel_rfl) (by kernel_rfl) (fun _ _ _ h => h) (Or.inl ⟨by rfl, ?_⟩) (by assumption) ?_
        rotate_left 1
        · (intro w hSw; (try dsimp only at hSw); go_simp; try with_reducible rfl)
        try simp only [Act.put, List.setIfInBounds_toArray, List.set_cons_zero, List.set_cons_succ]
        refine wpAnyH_take (i := 4) (oi := { dst := some 134, op := .indexAddr 39 (.tmp 132) (.tmp 133), type := 0, pos := _, after := _, guard := none }) (v := ?_) rfl (by kernel_rfl) (by kernel_rfl) (by kernel_rfl) (fun _ _ _ h => h) (Or.inl ⟨by rfl, ?_⟩) (by assumption) ?_
        rotate_left 1
        · (intro w hSw; (try dsimp only at hSw); go_simp; try with_reducible rfl)
        try simp only [Act.put, List.setIfInBounds_toArray, List.set_cons_zero, List.set_cons_succ]
        refine wpAnyH_take (i := 5) (oi := { dst := some 135, op := .load 22 (.tmp 134), type := 22, pos := _, after := _, guard := none }) (v := ?_) rfl (by kernel_rfl) (by kernel_rfl) (by kernel_rfl) (fun _ _ _ h => h) (Or.inl ⟨by rfl, ?_⟩) (by assumption) ?_
        rotate_left 1
        · (intro w hSw; (try dsimp only at hSw); go_simp; try with_reducible rfl)
        try simp only [Act.put, List.setIfInBounds_toArray, List.set_cons_zero, List.set_cons_succ]
        refine wpAnyH_take (i := 6) (oi := { dst := some 136, op := .convert 22 9 (.tmp 135), type := 9, pos := _, after := _, guard := none }) (v := ?_) rfl (by kernel_rfl) (by kernel_rfl) (by kernel_rfl) (fun _ _ _ h => h) (Or.inl ⟨by rfl, ?_⟩) (by assumption) ?_
        rotate_left 1
        · (intro w hSw; (try dsimp only at hSw); go_simp; try with_reducible rfl)
        try simp only [Act.put, List.setIfInBounds_toArray, List.set_cons_zero, List.set_cons_succ]
        refine wpAnyH_take (i := 7) (oi := { dst := some 137, op := .binOp .eql 9 (.tmp 131) (.tmp 136) 9, type := 4, pos := _, after := _, guard := none }) (v := ?_) rfl (by kernel_rfl) (by kernel_rfl) (by kernel_rfl) (fun _ _ _ h => h) (Or.inl ⟨by rfl, ?_⟩) (by assumption) ?_
        rotate_left 1
        · (intro w hSw; (try dsimp only at hSw); go_simp; try with_reducible rfl)
        try simp only [Act.put, List.setIfInBounds_toArray, List.set_cons_zero, List.set_cons_succ]
        refine wpAnyH_take (i := 8) (oi := { dst := some 138, op := .move (.tmp 137), type := 4, pos := _, after := _, guard := none }) (v := ?_) rfl (by kernel_rfl) (by kernel_rfl) (by kernel_rfl) (fun _ _ _ h => h) (Or.inl ⟨by rfl, ?_⟩) (by assumption) ?_
        rotate_left 1
        · (intro w hSw; (try dsimp only at hSw); go_simp; try with_reducible rfl)
        try simp only [Act.put, List.setIfInBounds_toArray, List.set_cons_zero, List.set_cons_succ]
        refine wpAnyH_take (i := 9) (oi := { dst := some 139, op := .move (.tmp 16), type := 26, pos := _, after := _, guard := some (8, true) }) (v := ?_) rfl (by kernel_rfl) (by kernel_rfl) (by kernel_rfl) (fun _ _ _ h => h) (Or.inl ⟨by rfl, ?_⟩) (by assumption) ?_
        rotate_left 1
        · (intro w hSw; (try dsimp only at hSw); go_simp; try with_reducible rfl)
        try simp only [Act.put, List.setIfInBounds_toArray, List.set_cons_zero, List.set_cons_succ]
        refine wpAnyH_take (i := 10) (oi := { dst := some 140, op := .binOp .eql 26 (.tmp 139) (.const (.int .i64 0)) 26, type := 4, pos := _, after := _, guard := some (8, true) }) (v := ?_) rfl (by kernel_rfl) (by kernel_rfl) (by kernel_rfl) (fun _ _ _ h => h) (Or.inl ⟨by rfl, ?_⟩) (by assumption) ?_
        rotate_left 1
        · (intro w hSw; (try dsimp only at hSw); go_simp; try with_reducible rfl)
        try simp only [Act.put, List.setIfInBounds_toArray, List.set_cons_zero, List.set_cons_succ]
        refine wpAnyH_take (i := 11) (oi := { dst := some 141, op := .pick (.tmp 138) (.tmp 140) (.const (.bool false)), type := 4, pos := _, after := _, guard := none }) (v := ?_) rfl (by kernel_rfl) (by kernel_rfl) (by kernel_rfl) (fun _ _ _ h => h) (Or.inl ⟨by rfl, ?_⟩) (by assumption) ?_
        rotate_left 1
        · (intro w hSw; (try dsimp only at hSw); go_simp; try with_reducible rfl)
        try simp only [Act.put, List.setIfInBounds_toArray, List.set_cons_zero, List.set_cons_succ]
        refine wpAnyH_take (i := 12) (oi := { dst := some 142, op := .move (.tmp 141), type := 4, pos := _, after := _, guard := none }) (v := ?_) rfl (by kernel_rfl) (by kernel_rfl) (by kernel_rfl) (fun _ _ _ h => h) (Or.inl ⟨by rfl, ?_⟩) (by assumption) ?_
        rotate_left 1
        · (intro w hSw; (try dsimp only at hSw); go_simp; try with_reducible rfl)
        try simp only [Act.put, List.setIfInBounds_toArray, List.set_cons_zero, List.set_cons_succ]
        refine wpAnyH_ready (rs := [13]) (by kernel_rfl) (by simp) ?_
        refine AllReadyH.cons (o := { dst := some 143, op := .call { callee := .value (.func 8), args := #[], argTypes := #[] }, type := 4, pos := _, after := _, guard := some (12, true) }) rfl (fun K hK => ?_) AllReadyH.nil
        go_simp
        go_at_call 8
        (refine (AW.out _).mono ?_); rintro e u4 ⟨rfl, hb⟩; have HBf := Lib.hid (HBd.out.trans (hb.mono HBd.out.size)); have HZf := Lib.hid (HZ.out.trans (hb.mono HZ.out.size)); clear hb
        clear hHeld
        refine hK.out _ _ ?_ (fun hHeld => ?_)
        · ((try dsimp only); exact KS.out _ HZf.out)
        clear hK K
        refine wpAnyH_take (i := 14) (oi := { dst := some 144, op := .pick (.tmp 142) (.tmp 143) (.const (.bool false)), type := 4, pos := _, after := _, guard := none }) (v := ?_) rfl (by kernel_rfl) (by kernel_rfl) (by kernel_rfl) (fun _ _ _ h => h) (Or.inl ⟨by rfl, ?_⟩) (by assumption) ?_
        rotate_left 1
        · (intro w hSw; (try dsimp only at hSw); go_simp; try with_reducible rfl)
        try simp only [Act.put, List.setIfInBounds_toArray, List.set_cons_zero, List.set_cons_succ]
        refine wpAnyH_take (i := 15) (oi := { dst := some 8, op := .assign (.tmp 144), type := 4, pos := _, after := _, guard := none }) (v := ?_) rfl (by kernel_rfl) (by kernel_rfl) (by kernel_rfl) (fun _ _ _ h => h) (Or.inl ⟨by rfl, ?_⟩) (by assumption) ?_
        rotate_left 1
        · (intro w hSw; (try dsimp only at hSw); go_simp; try with_reducible rfl)
        try simp only [Act.put, List.setIfInBounds_toArray, List.set_cons_zero, List.set_cons_succ]
        refine wpAnyH_done (by kernel_rfl) ?_ _
        refine NoPanic.normal ?_
        go_wp2
        go_ret
        exact ⟨rfl, HBf.out⟩
end Go.Proofs.Ytcnfafappcbpnaa.Hl
namespace Go.Proofs.Ytcnfafappcbpnaa.Hl
open Go Go.RowKit Go.Proofs.Ytcnfafappcbpnaa.Gi Go.Proofs.Ytcnfafappcbpnaa.Opn Go.Proofs.Ytcnfafappcbpnaa.Mem Go.Proofs.Ytcnfafappcbpnaa.Bits Go.Proofs.Ytcnfafappcbpnaa.Rws Go.Proofs.Ytcnfafappcbpnaa.Par Go.Proofs.YtcnfafappcbpnaaW.PrintWords
set_option linter.unusedVariables false
theorem part_u8 {a : Int} (h : (Lit.int .u8 a).wf = true) : 0 ≤ a ∧ a < 256 := by
  simp [Lit.wf, IntKind.min, IntKind.max, IntKind.signed, IntKind.bits] at h; omega
theorem parts_byt {l : List (Int × List Int)} (h : ∀ p ∈ l, (Lit.int .i64 p.1).wf = true ∧ p.2.length ≤ 9223372036854775807 ∧ ∀ a ∈ p.2, (Lit.int .u8 a).wf = true) (q i : Nat) : Byt (((l.getD q (0, [])).2).getD i 0) := by
  have h0 : Byt 0 := ⟨by decide, by decide⟩
  rcases Nat.lt_or_ge q l.length with hq | hq
  · have e : l.getD q (0, []) = l[q] := by rw [List.getD_eq_getElem?_getD, List.getElem?_eq_getElem hq]; rfl
    rw [e]
    have hm := h _ (List.getElem_mem hq)
    rcases Nat.lt_or_ge i (l[q].2).length with hi | hi
    · have e2 : (l[q].2).getD i 0 = (l[q].2)[i] := by rw [List.getD_eq_getElem?_getD, List.getElem?_eq_getElem hi]; rfl
      rw [e2]
      exact part_u8 (hm.2.2 _ (List.getElem_mem hi))
    · rw [List.getD_eq_getElem?_getD, List.getElem?_eq_none hi]
      exact h0
  · have e : l.getD q (0, []) = (0, []) := by rw [List.getD_eq_getElem?_getD, List.getElem?_eq_none hq]; rfl
    rw [e]
    exact h0
theorem hw_row (n : Int) (_ : (Lit.int .i64 n).wf = true) (k : Int) (_ : (Lit.int .i64 k).wf = true) (lost : Int) (_ : (Lit.int .i64 lost).wf = true)
    {w : World} (A : Option Addr) (c : Nat) (l : List (Int × List Int)) (hC : Kd.C kPart w A l.length l) (hc : l.length ≤ c) (hok : l.length ≤ 9223372036854775807 ∧ ∀ p ∈ l, (Lit.int .i64 p.1).wf = true ∧ p.2.length ≤ 9223372036854775807 ∧ ∀ a ∈ p.2, (Lit.int .u8 a).wf = true) (_ : World) :
    Calls Try.prog 5 #[.int .i64 n, .int .i64 k, .int .i64 lost, .slice A l.length c] w fun e w' => e = .returned (.bool true) ∧ Below w.heap.size w w' := by
  by_cases hr : 2 ≤ k ∧ k ≤ 4 ∧ 2 * k - 1 ≤ n ∧ n ≤ 12
  · by_cases hL : 30 < l.length
    · exact hw_long n k lost A _ c w hr hL
    obtain ⟨r1, r2, r3, r4⟩ := hr
    obtain ⟨k, rfl⟩ := Int.eq_ofNat_of_zero_le (show 0 ≤ k by omega)
    obtain ⟨n, rfl⟩ := Int.eq_ofNat_of_zero_le (show 0 ≤ n by omega)
    obtain ⟨h, hp⟩ := PA.of hC
    exact hw_main n k l.length c lost A _ h _ w hp (parts_byt hok.2) (by omega) (by omega) (by omega) (by omega) (by omega) hc
  · exact hw_no n k lost A _ c w hr
end Go.Proofs.Ytcnfafappcbpnaa.Hl
