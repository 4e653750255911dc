/- The statement RsCodes: what its proof rests on, part 2 of 2. -/
import Derived.Test.YtcneobnplhffmaaProg
import Derived.Below
import Derived.Deep.Draws
import Derived.Deep.AppendLies
import Derived.Maps.AppendAt
import Derived.OwnWalk
import Derived.Laws.BytesArg
import Derived.Laws.MakeOwn
import Derived.Laws.OwnMore
import Derived.Deep.OwnRows
import Derived.Tactics
import Derived.Lib.ConvBytes
import Derived.Laws.Slices
import Derived.WalkKit
import Derived.KernelRfl
import Derived.RowKit3
import Derived.Deep.LoopGhost
import Derived.Deep.QuietTactic
import Derived.BigQuiet
import Derived.WideLaws
import Derived.Deep.DeepCutAuto
import Derived.Deep.CutBlock
import Derived.Deep.RegionHeld3
import Derived.Laws.Rows
import Derived.Lib.AppendStr
import Derived.ArgAppend
import Derived.Laws.IdiomCopy
import Derived.OrdersHeld
import Derived.Laws.BitsLemmas
import Derived.RowKit
import Derived.Lib.Hide
import Derived.WalkSpells
import Derived.StillTailTactics
import Derived.Outline
import Derived.Test.YtcneobnplhffmaaWZeros
import Derived.Test.YtcneobnplhffmaaZRsCodesa
/- Steps: the document's, walked: first the copy. -/
namespace Go.Proofs.Ytcneobnplhffmaa.Sol
open Go Go.RowKit Go.Proofs.Ytcneobnplhffmaa.PRsEncodes Go.Proofs.Ytcneobnplhffmaa.BRsEncodes Go.Proofs.Ytcneobnplhffmaa.Gf Go.Proofs.Ytcneobnplhffmaa.Gi Go.Proofs.Ytcneobnplhffmaa.Bits Go.Proofs.Ytcneobnplhffmaa.Mem Go.Proofs.Ytcneobnplhffmaa.Rws Go.Proofs.YtcneobnplhffmaaW.PrintWords Go.Proofs.YtcneobnplhffmaaW.PrintLast
set_option linter.unusedVariables false

theorem rowq {W : World} {base b1 g n m cap q t k col : Nat} {M : Mtx} {r : Int} {A6 : Option Addr} {c6 : Nat} (h : RowsR W base (.slice (some ⟨g, 0, none⟩) n cap) (mat n m (fun p => if p < q then stepI M t k col r p else if p = t then (fun j => gmI (M k j) r) else swapI M t k p))) (hq : q < n) (hqt : ¬ q = t)
    (hR : (Kd.int .u8).R 5 W b1 (fun _ => True) (.slice A6 m c6) (line m (fun j => xorI (swapI M t k q j) (gmI (gmI (M k j) r) (swapI M t k q col))))) (hb : base ≤ b1) (hg : g < b1) :
    RowsR (W.setCell ⟨g, q, none⟩ (.slice A6 m c6)) base (.slice (some ⟨g, 0, none⟩) n cap) (mat n m (fun p => if p < q + 1 then stepI M t k col r p else if p = t then (fun j => gmI (M k j) r) else swapI M t k p)) := by
  have h1 := rput h q hq (.slice A6 m c6) _ (fun p => some p = (Value.slice A6 m c6).ownBlock) (row_M (Kd.own_of_R hR) hb rfl) (fun p hp => by
    have := Kd.R_base hR p hp.symm
    omega)
  rw [mat_set n m _ q hq] at h1
  rw [mat_congr n m _ (fun p => if p = q then (fun j => xorI (swapI M t k q j) (gmI (gmI (M k j) r) (swapI M t k q col))) else if p < q then stepI M t k col r p else if p = t then (fun j => gmI (M k j) r) else swapI M t k p) (fun p hp j hj => ?_)]
  · exact h1
  · by_cases e : p = q
    · subst e
      rw [if_pos (by omega), if_pos rfl]
      unfold stepI
      rw [if_neg hqt]
    · rw [if_neg e]
      by_cases h1 : p < q
      · rw [if_pos (by omega), if_pos h1]
      · rw [if_neg (by omega), if_neg h1]
theorem setx {W : World} {base b1 g n cap : Nat} {ls : List (List Int)} {v : Value} {xs : List Int} (hR : (Kd.int .u8).R 5 W b1 (fun _ => True) v xs) (h : RowsR W base (.slice (some ⟨g, 0, none⟩) n cap) ls) (q : Nat) (u : Value) : (Kd.int .u8).R 5 (W.setCell ⟨g, q, none⟩ u) b1 (fun _ => True) v xs := by
  obtain ⟨cur, hh⟩ := (rblk h).2
  exact Kd.R_set hR hh (by decide) q u
set_option maxRecDepth 100000 in
set_option maxHeartbeats 4000000 in
theorem steps_any (n m c0 : Nat) (A : Option Addr) (M0 : Mtx) (w : World) (hC : Kd.C kRow w A n (mat n m M0)) (h0 : BytM M0) (hn1 : 1 ≤ n) (hn : n ≤ 1000) (hm1 : 1 ≤ m) (hm : m ≤ 1000) :
    Calls Try.prog 41 #[.slice A n c0] w fun e w' => ∃ u t M, e = .returned u ∧ RowsR w' w.heap.size u (mat n m M) ∧ StepsTo n M0 m t M ∧ Below w.heap.size w w' := by
  have HC := Lib.hid (fun W (hB : Below w.heap.size w W) => Kd.C_below hC hB)
  have H0 := Lib.hid h0
  clear hC h0
  go_enter Try.func41, Try.ntmps41
  go_wp2
  go_loopw [3, 4] (fun u0 iv wr => ∃ (i : Nat) (u : Value), u0 = u ∧ i ≤ n ∧ iv = .int .i64 i ∧ Hid (RowsR wr w.heap.size u (mat i m M0)) ∧ Hid (Below w.heap.size w wr)) (fun _ iv _ => n - (intOf iv).toNat)
  case atStart => exact ⟨0, _, rfl, by omega, rfl, Lib.hid (Kd.R_nil _ _ _ _ _), Lib.hid (Below.refl _ _)⟩
  case round =>
    obtain ⟨i, u, rfl, hi, rfl, HO, HB⟩ := hrel
    by_cases hlt : i < n
    · obtain ⟨ad, A1, c1, rfl, hcell, _, hC1⟩ := mrow (HC.out _ HB.out) i hlt
      have HR1 := Lib.hid (Kd.reads_of_C (d := (0 : Int)) hC1)
      have HL0 := Lib.hid (show (wr.alloc (.cells #[] 5)).ownsRow wr.heap.size 5 1 (.slice (some ⟨wr.heap.size, 0, none⟩) 0 0) ([] : List Int).length (nums .u8 []) from own_lit wr wr.heap.size 5 .u8 [] (Nat.le_refl _) (by simp))
      have g1 : (i : Int) < (n : Int) := by omega
      have g2 : (0 : Int) ≤ (i : Int) := by omega
      have hl := line_len m (M0 i)
      obtain ⟨xs, hxs⟩ : ∃ xs, xs = line m (M0 i) := ⟨_, rfl⟩
      rw [← hxs] at HR1 hl
      have HXS := Lib.hid hxs
      have hcella := pw_cell_below (((Below.refl wr.heap.size wr).alloc (Nat.le_refl _) (.cells #[] 5))) hcell
      clear hC1 hxs
      go_wp2_with (first
        | (at_builtin; refine print_append_row (w0 := wr) wr.heap.size rfl _ _ 22 5 .u8 1 rfl Try.underlying22 info_byte (by decide) _ [] xs _ _ _ rfl rfl HL0.out (ReadsInt.allocS HR1.out _) ((Below.refl _ _).alloc (Nat.le_refl _) _) (by simp) (by simp; omega) ?_; intro v1 w1 ho hb _ _; obtain ⟨A9, c9, rfl⟩ := own_slice ho; have HOW := Lib.hid (clone_R ho hl); have HB1 := Lib.hid hb; clear ho hb)
        | (at_builtin; refine rows_append2 (w0 := w) (wr := wr) rfl w.heap.size rfl _ _ rfl u3 _ (mat i m M0) _ rfl rfl HO.out (HB.out.trans (HB1.out.mono HB.out.size)) HB.out.size HB1.out HOW.out (by rw [mat_len]; omega) ?_; intro v5 w5 h5 hb5; have H5 := Lib.hid h5; have HB5 := Lib.hid hb5; clear h5 hb5))
      go_roundw
      case rel => exact ⟨i + 1, _, rfl, by omega, by go_num, Lib.hid (by rw [mat_succ, ← HXS.out]; exact H5.out), HB5⟩
      case measure => simp [intOf]; omega
    · obtain rfl : i = n := by omega
      obtain ⟨g, cO, hv, hgb, _, _⟩ := Kd.R_form HO.out (by rw [mat_len]; exact hn1)
      rw [mat_len] at hv
      subst hv
      have HGB := Lib.hid hgb
      clear hgb
      go_wp2
      go_loopw [5, 6, 7, 8, 9] (fun tv cv _ _ _ wr => ∃ (t col : Nat) (M : Mtx), tv = .int .i64 t ∧ cv = .int .i64 col ∧ col ≤ m ∧ Hid (StepsTo i M0 col t M) ∧ Hid (RowsR wr w.heap.size (.slice (some ⟨g, 0, none⟩) i cO) (mat i m M)) ∧ Hid (Below w.heap.size w wr)) (fun _ cv _ _ _ _ => m - (intOf cv).toNat)
      case atStart => exact ⟨0, 0, M0, rfl, rfl, by omega, Lib.hid .start, HO, HB⟩
      case round =>
        clear HO HB
        obtain ⟨t, col, M, rfl, rfl, hcol, HS, HO, HB⟩ := hrel
        have hCO := (Kd.R_reads' HO.out).2.2
        rw [mat_len] at hCO
        obtain ⟨ad0, A1, c1, e0, hc0, _, _⟩ := mrow hCO 0 (by omega)
        injection e0 with e0
        subst e0
        rw [addk g 0] at hc0
        have HCO := Lib.hid hCO
        have g0 : (0 : Int) < (i : Int) := by omega
        clear hCO
        by_cases hlt : col < m
        · have g1 : (col : Int) < (m : Int) := by omega
          have g2 : (0 : Int) ≤ (col : Int) := by omega
          have htn := HS.out.le
          go_wp2
          go_loopw [7] (fun kv wr' => ∃ (k : Nat), t ≤ k ∧ k ≤ i ∧ kv = .int .i64 k ∧ wr' = wr ∧ Hid (∀ j, t ≤ j → j < k → M j col = 0)) (fun kv _ => i - (intOf kv).toNat)
          case atStart => exact ⟨t, Nat.le_refl _, htn.2, rfl, rfl, Lib.hid (fun j h1 h2 => absurd h1 (by omega))⟩
          case round =>
            obtain ⟨k, htk, hki, rfl, rfl, HZ⟩ := hrel
            by_cases hk : k < i
            · obtain ⟨adk, A2, c2, e2, hck, hc2, hC2⟩ := mrow HCO.out k hk
              injection e2 with e2
              subst e2
              rw [addk g k] at hck
              obtain ⟨ad2, rfl, hcc⟩ := at_row hC2 col hlt
              rw [line_get m (M k) col hlt] at hcc
              have HC2 := Lib.hid hC2
              have g3 : (k : Int) < (i : Int) := by omega
              have g4 : (0 : Int) ≤ (k : Int) := by omega
              clear hC2
              by_cases hz : M k col = 0
              · rw [hz] at hcc
                go_wp2
                go_roundw
                case rel =>
                  refine ⟨k + 1, by omega, by omega, by go_num, (by first | trivial | rfl), Lib.hid (fun j h1 h2 => ?_)⟩
                  rcases Nat.lt_or_ge j k with h | h
                  · exact HZ.out j h1 h
                  · obtain rfl : j = k := by omega
                    exact hz
                case measure => simp [intOf]; omega
              · have t1 : (M k col == 0) = false := by simp [hz]
                have hby := HS.out.byt H0.out
                obtain ⟨r, hr, hr1, hinv⟩ := inv_any (M k col) (hby k col) hz
                have IV := Lib.hid hinv
                have HR1 := Lib.hid hr1
                have HRB := Lib.hid hr
                have HBY := Lib.hid hby
                have TM := Lib.hid (fun W (hB : Below wr.heap.size wr W) => times_any m c2 (some ad2) (M k) r W (Kd.C_below HC2.out hB) (hby k) hr hc2 hm)
                have KK := Lib.hid (fun W (hB : Below wr.heap.size wr W) => And.intro (pw_cell_below hB hck) (pw_cell_below hB hcc))
                have HXd := Lib.hid (show Below wr.heap.size wr wr.drew from (Below.refl _ _).drew)
                clear hby hinv hr1 hr
                go_upto_region 14 with (fail)
                refine wp_region_noPanic ?_
                refine wp_region_held_drew (S := (fun W => W.cell? ⟨g, k, none⟩ = some (.slice (some ad2) m c2) ∧ W.cell? (ad2.add col) = some (.int .u8 (M k col)))) (by kernel_rfl) ?_ (fun hHeld => ?_)
                · ((try dsimp only); exact KK.out _ HXd.out)
                refine wpAnyH_take (i := 0) (oi := { dst := some 59, op := Go.Op.move (Go.Operand.tmp 3), type := 67, pos := "ref.go:21", after := #[], guard := none }) (v := ?_) rfl (by kernel_rfl) (by kernel_rfl) (by kernel_rfl) (fun _ _ _ h => h) (Or.inl ⟨by rfl, ?_⟩) (by assumption) ?_
                rotate_left 1
                · (intro w hSw; (try dsimp only at hSw); go_simp; try with_reducible rfl)
                try simp only [Act.put, List.setIfInBounds_toArray, List.set_cons_zero, List.set_cons_succ]
                refine wpAnyH_take (i := 1) (oi := { dst := some 60, op := Go.Op.move (Go.Operand.tmp 7), type := 3, pos := "ref.go:21", after := #[], guard := none }) (v := ?_) rfl (by kernel_rfl) (by kernel_rfl) (by kernel_rfl) (fun _ _ _ h => h) (Or.inl ⟨by rfl, ?_⟩) (by assumption) ?_
                rotate_left 1
                · (intro w hSw; (try dsimp only at hSw); go_simp; try with_reducible rfl)
                try simp only [Act.put, List.setIfInBounds_toArray, List.set_cons_zero, List.set_cons_succ]
                refine wpAnyH_take (i := 2) (oi := { dst := some 61, op := Go.Op.indexAddr 67 (Go.Operand.tmp 59) (Go.Operand.tmp 60), type := 0, pos := "ref.go:21", after := #[{ on := 0, ground := Go.Ground.data }, { on := 1, ground := Go.Ground.data }], guard := none }) (v := ?_) rfl (by kernel_rfl) (by kernel_rfl) (by kernel_rfl) (fun _ _ _ h => h) (Or.inl ⟨by rfl, ?_⟩) (by assumption) ?_
                rotate_left 1
                · (intro w hSw; (try dsimp only at hSw); go_simp; try with_reducible rfl)
                try simp only [Act.put, List.setIfInBounds_toArray, List.set_cons_zero, List.set_cons_succ]
                refine wpAnyH_take (i := 3) (oi := { dst := some 62, op := Go.Op.load 22 (Go.Operand.tmp 61), type := 22, pos := "ref.go:21", after := #[{ on := 2, ground := Go.Ground.data }], guard := none }) (v := ?_) rfl (by kernel_rfl) (by kernel_rfl) (by kernel_rfl) (fun _ _ _ h => h) (Or.inl ⟨by rfl, ?_⟩) (by assumption) ?_
                rotate_left 1
                · (intro w hSw; (try dsimp only at hSw); go_simp; try with_reducible rfl)
                try simp only [Act.put, List.setIfInBounds_toArray, List.set_cons_zero, List.set_cons_succ]
                refine wpAnyH_take (i := 4) (oi := { dst := some 63, op := Go.Op.move (Go.Operand.tmp 3), type := 67, pos := "ref.go:21", after := #[], guard := none }) (v := ?_) rfl (by kernel_rfl) (by kernel_rfl) (by kernel_rfl) (fun _ _ _ h => h) (Or.inl ⟨by rfl, ?_⟩) (by assumption) ?_
                rotate_left 1
                · (intro w hSw; (try dsimp only at hSw); go_simp; try with_reducible rfl)
                try simp only [Act.put, List.setIfInBounds_toArray, List.set_cons_zero, List.set_cons_succ]
                refine wpAnyH_take (i := 5) (oi := { dst := some 64, op := Go.Op.move (Go.Operand.tmp 7), type := 3, pos := "ref.go:21", after := #[], guard := none }) (v := ?_) rfl (by kernel_rfl) (by kernel_rfl) (by kernel_rfl) (fun _ _ _ h => h) (Or.inl ⟨by rfl, ?_⟩) (by assumption) ?_
                rotate_left 1
                · (intro w hSw; (try dsimp only at hSw); go_simp; try with_reducible rfl)
                try simp only [Act.put, List.setIfInBounds_toArray, List.set_cons_zero, List.set_cons_succ]
                refine wpAnyH_take (i := 6) (oi := { dst := some 65, op := Go.Op.indexAddr 67 (Go.Operand.tmp 63) (Go.Operand.tmp 64), type := 0, pos := "ref.go:21", after := #[{ on := 4, ground := Go.Ground.data }, { on := 5, ground := Go.Ground.data }], guard := none }) (v := ?_) rfl (by kernel_rfl) (by kernel_rfl) (by kernel_rfl) (fun _ _ _ h => h) (Or.inl ⟨by rfl, ?_⟩) (by assumption) ?_
                rotate_left 1
                · (intro w hSw; (try dsimp only at hSw); go_simp; try with_reducible rfl)
                try simp only [Act.put, List.setIfInBounds_toArray, List.set_cons_zero, List.set_cons_succ]
                refine wpAnyH_take (i := 7) (oi := { dst := some 66, op := Go.Op.load 22 (Go.Operand.tmp 65), type := 22, pos := "ref.go:21", after := #[{ on := 6, ground := Go.Ground.data }], guard := none }) (v := ?_) rfl (by kernel_rfl) (by kernel_rfl) (by kernel_rfl) (fun _ _ _ h => h) (Or.inl ⟨by rfl, ?_⟩) (by assumption) ?_
                rotate_left 1
                · (intro w hSw; (try dsimp only at hSw); go_simp; try with_reducible rfl)
                try simp only [Act.put, List.setIfInBounds_toArray, List.set_cons_zero, List.set_cons_succ]
                refine wpAnyH_take (i := 8) (oi := { dst := some 67, op := Go.Op.move (Go.Operand.tmp 6), type := 3, pos := "ref.go:21", after := #[], guard := none }) (v := ?_) rfl (by kernel_rfl) (by kernel_rfl) (by kernel_rfl) (fun _ _ _ h => h) (Or.inl ⟨by rfl, ?_⟩) (by assumption) ?_
                rotate_left 1
                · (intro w hSw; (try dsimp only at hSw); go_simp; try with_reducible rfl)
                try simp only [Act.put, List.setIfInBounds_toArray, List.set_cons_zero, List.set_cons_succ]
                refine wpAnyH_take (i := 9) (oi := { dst := some 68, op := Go.Op.indexAddr 22 (Go.Operand.tmp 66) (Go.Operand.tmp 67), type := 0, pos := "ref.go:21", after := #[{ on := 7, ground := Go.Ground.data }, { on := 8, ground := Go.Ground.data }], guard := none }) (v := ?_) rfl (by kernel_rfl) (by kernel_rfl) (by kernel_rfl) (fun _ _ _ h => h) (Or.inl ⟨by rfl, ?_⟩) (by assumption) ?_
                rotate_left 1
                · (intro w hSw; (try dsimp only at hSw); go_simp; try with_reducible rfl)
                try simp only [Act.put, List.setIfInBounds_toArray, List.set_cons_zero, List.set_cons_succ]
                refine wpAnyH_take (i := 10) (oi := { dst := some 69, op := Go.Op.load 5 (Go.Operand.tmp 68), type := 5, pos := "ref.go:21", after := #[{ on := 9, ground := Go.Ground.data }], guard := none }) (v := ?_) rfl (by kernel_rfl) (by kernel_rfl) (by kernel_rfl) (fun _ _ _ h => h) (Or.inl ⟨by rfl, ?_⟩) (by assumption) ?_
                rotate_left 1
                · (intro w hSw; (try dsimp only at hSw); go_simp; try with_reducible rfl)
                try simp only [Act.put, List.setIfInBounds_toArray, List.set_cons_zero, List.set_cons_succ]
                refine wpAnyH_ready (rs := [11]) (by kernel_rfl) (by simp) ?_
                refine AllReadyH.cons (o := { dst := some 70, op := Go.Op.call { callee := Go.Callee.value (Go.Operand.func 53), args := #[Go.Operand.tmp 69], argTypes := #[5] }, type := 5, pos := "ref.go:21", after := #[{ on := 10, ground := Go.Ground.data }], guard := none }) rfl (fun K hK => ?_) AllReadyH.nil
                go_simp
                go_at_call 53
                (refine (IV.out _).mono ?_); rintro e x1 ⟨rfl, hb⟩; have HXe := Lib.hid (HXd.out.trans (hb.mono HXd.out.size)); clear hb
                clear hHeld
                refine hK.out _ _ ?_ (fun hHeld => ?_)
                · ((try dsimp only); exact KK.out _ HXe.out)
                clear hK K
                refine wpAnyH_ready (rs := [12]) (by kernel_rfl) (by simp) ?_
                refine AllReadyH.cons (o := { dst := some 71, op := Go.Op.call { callee := Go.Callee.value (Go.Operand.func 52), args := #[Go.Operand.tmp 62, Go.Operand.tmp 70], argTypes := #[22, 5] }, type := 22, pos := "ref.go:21", after := #[{ on := 3, ground := Go.Ground.data }, { on := 11, ground := Go.Ground.data }, { on := 11, ground := Go.Ground.chain }], guard := none }) rfl (fun K hK => ?_) AllReadyH.nil
                go_simp
                go_at_call 52
                (refine (TM.out _ HXe.out).mono ?_); rintro e x2 ⟨A9, c9, rfl, hr9, hb⟩; have HR9 := Lib.hid hr9; have HXf := Lib.hid (HXe.out.trans (hb.mono HXe.out.size)); clear hb hr9
                clear hHeld
                refine hK.out _ _ ?_ (fun hHeld => ?_)
                · ((try dsimp only); exact KK.out _ HXf.out)
                clear hK K
                refine wpAnyH_take (i := 13) (oi := { dst := some 8, op := Go.Op.assign (Go.Operand.tmp 71), type := 22, pos := "ref.go:21", after := #[{ on := 12, ground := Go.Ground.data }, { on := 12, ground := Go.Ground.chain }, { on := 0, ground := Go.Ground.phase }, { on := 1, ground := Go.Ground.phase }, { on := 2, ground := Go.Ground.phase }, { on := 3, ground := Go.Ground.phase }, { on := 4, ground := Go.Ground.phase }, { on := 5, ground := Go.Ground.phase }, { on := 6, ground := Go.Ground.phase }, { on := 7, ground := Go.Ground.phase }, { on := 8, ground := Go.Ground.phase }, { on := 9, ground := Go.Ground.phase }, { on := 10, ground := Go.Ground.phase }, { on := 11, ground := Go.Ground.phase }, { on := 12, ground := Go.Ground.phase }], guard := none }) (v := ?_) rfl (by kernel_rfl) (by kernel_rfl) (by kernel_rfl) (fun _ _ _ h => h) (Or.inl ⟨by rfl, ?_⟩) (by assumption) ?_
                rotate_left 1
                · (intro w hSw; (try dsimp only at hSw); go_simp; try with_reducible rfl)
                try simp only [Act.put, List.setIfInBounds_toArray, List.set_cons_zero, List.set_cons_succ]
                refine wpAnyH_done (by kernel_rfl) ?_ _
                refine NoPanic.normal ?_
                clear hc0 hck hcc KK IV TM
                have HO2 := Lib.hid (Kd.R_below HO.out HXf.out)
                have HB2 := Lib.hid (HB.out.trans (HXf.out.mono HB.out.size))
                have hgw := (rblk HO.out).2
                have hgwr : g < wr.heap.size := by obtain ⟨cur, hh⟩ := hgw; exact (Array.getElem?_eq_some_iff.1 hh).1
                have HGW := Lib.hid hgwr
                obtain ⟨At, ct, z1, z2, _, _, hMt⟩ := relem HO2.out t (by omega)
                obtain ⟨Ak, ck, z3, z4, _, _, _⟩ := relem HO2.out k hk
                rw [mat_get i m M t (by omega), line_len] at z1 hMt
                rw [mat_get i m M k hk, line_len] at z3
                have HMT := Lib.hid hMt
                have g5 : (0 : Int) ≤ (t : Int) := by omega
                have g6 : (t : Int) < (i : Int) := by omega
                clear hMt hgw hgwr
                go_upto_region 16 with (fail)
                obtain ⟨W6, hW6⟩ : ∃ W6, W6 = x2.setCell ⟨g, k, none⟩ (.slice At m ct) := ⟨_, rfl⟩
                have HO6 := Lib.hid (show RowsR W6 w.heap.size (.slice (some ⟨g, 0, none⟩) i cO) (mat i m (swapI M t k)) by
                  have h := rput HO2.out k hk (.slice At m ct) (line m (M t)) _ HMT.out (fun q hq => hq)
                  rw [mat_set i m M k hk, ← hW6] at h
                  exact h)
                have HB6 := Lib.hid (show Below w.heap.size w W6 by rw [hW6]; exact HB2.out.setCell HGB.out _)
                have HR6 := Lib.hid (show (Kd.int .u8).R 5 W6 wr.heap.size (fun _ => True) (.slice A9 m c9) (line m (fun j => gmI (M k j) r)) by
                  obtain ⟨cur, hh⟩ := (rblk HO2.out).2
                  rw [hW6]
                  exact Kd.R_set (Kd.R_lower HR9.out HXe.out.size) hh (by decide) k _)
                rw [← hW6]
                clear hW6 z1 z2 z3 z4 HMT HO2 HB2 HR9 HXf HXe HXd
                obtain ⟨Aj, cj, z1, z2, _, _, _⟩ := relem HO6.out t (by omega)
                go_upto_region 17 with (fail)
                obtain ⟨W7, hW7⟩ : ∃ W7, W7 = W6.setCell ⟨g, t, none⟩ (.slice A9 m c9) := ⟨_, rfl⟩
                have HO7 := Lib.hid (show RowsR W7 w.heap.size (.slice (some ⟨g, 0, none⟩) i cO) (mat i m (fun q => if q < 0 then stepI M t k col r q else if q = t then (fun j => gmI (M k j) r) else swapI M t k q)) by
                  have h := rput HO6.out t (by omega) (.slice A9 m c9) (line m (fun j => gmI (M k j) r)) (fun q => some q = (Value.slice A9 m c9).ownBlock) (row_M (Kd.own_of_R HR6.out) HB.out.size rfl) (fun q hq => by
                    have h1 := Kd.R_base HR6.out q hq.symm
                    have := HGW.out
                    omega)
                  rw [mat_set i m (swapI M t k) t (by omega), ← hW7] at h
                  exact h)
                have HB7 := Lib.hid (show Below w.heap.size w W7 by rw [hW7]; exact HB6.out.setCell HGB.out _)
                have HX7 := Lib.hid (show (Kd.int .u8).R 5 W7 wr.heap.size (fun _ => True) (.slice A9 m c9) (line m (fun j => gmI (M k j) r)) by
                  obtain ⟨cur, hh⟩ := (rblk HO6.out).2
                  have h := Kd.R_set HR6.out hh (by decide) t (.slice A9 m c9)
                  rw [← hW7] at h
                  exact h)
                have hc9 : m ≤ c9 := (Kd.R_reads' HR6.out).2.1
                rw [← hW7]
                clear hW7 z1 z2 HO6 HB6 HR6
                have HSW := Lib.hid (show BytM (swapI M t k) by intro a b; unfold swapI; split <;> exact HBY.out _ _)
                have HC9 := Lib.hid hc9
                clear hc9
                go_wp2
                go_loopw [9] (fun qv wr' => ∃ (q : Nat), q ≤ i ∧ qv = .int .i64 q ∧ Hid (RowsR wr' w.heap.size (.slice (some ⟨g, 0, none⟩) i cO) (mat i m (fun p => if p < q then stepI M t k col r p else if p = t then (fun j => gmI (M k j) r) else swapI M t k p))) ∧ Hid ((Kd.int .u8).R 5 wr' wr.heap.size (fun _ => True) (.slice A9 m c9) (line m (fun j => gmI (M k j) r))) ∧ Hid (Below w.heap.size w wr')) (fun qv _ => i - (intOf qv).toNat)
                case atStart => exact ⟨0, by omega, rfl, HO7, HX7, HB7⟩
                case round =>
                  clear HO7 HX7 HB7
                  obtain ⟨q, hq, rfl, HO7, HX7, HB7⟩ := hrel
                  by_cases hqi : q < i
                  · have g7 : (0 : Int) ≤ (q : Int) := by omega
                    have g8 : (q : Int) < (i : Int) := by omega
                    by_cases hqt : q = t
                    · have t2 : ((q : Int) != (t : Int)) = false := by simp [hqt]
                      go_wp2
                      go_roundw
                      case rel =>
                        refine ⟨q + 1, by omega, by go_num, Lib.hid ?_, HX7, HB7⟩
                        rw [mat_congr i m _ (fun p => if p < q then stepI M t k col r p else if p = t then (fun j => gmI (M k j) r) else swapI M t k p) (fun p hp j hj => ?_)]
                        · exact HO7.out
                        · by_cases h1 : p < q
                          · rw [if_pos (by omega), if_pos h1]
                          · rw [if_neg h1]
                            by_cases h2 : p = t
                            · rw [if_pos (by omega), if_pos h2]; unfold stepI; rw [if_pos h2]
                            · rw [if_neg (by omega)]
                      case measure => simp [intOf]; omega
                    · have t2 : ((q : Int) != (t : Int)) = true := by simp; omega
                      have e1 : (mat i m (fun p => if p < q then stepI M t k col r p else if p = t then (fun j => gmI (M k j) r) else swapI M t k p)).getD q [] = line m (swapI M t k q) := by rw [mat_get i m _ q hqi]; simp [hqt]
                      obtain ⟨Aq, cq, z1, _, l1, hCq, _⟩ := relem HO7.out q hqi
                      rw [e1, line_len] at z1 l1 hCq
                      obtain ⟨adq, rfl, hcb⟩ := at_row hCq col hlt
                      rw [line_get m (swapI M t k q) col hlt] at hcb
                      have KK := Lib.hid (fun W (hB : Below wr.heap.size wr W) => And.intro (pw_cell_below hB z1) (pw_cell_below hB hcb))
                      have hC9' : (Kd.int .u8).C wr A9 m (line m (fun j => gmI (M k j) r)) := by
                        have h := (Kd.R_reads' HX7.out).2.2
                        rw [line_len] at h
                        exact h
                      have TM := Lib.hid (fun W (hB : Below wr.heap.size wr W) => times_any m c9 A9 (fun j => gmI (M k j) r) (swapI M t k q col) W (Kd.C_below hC9' hB) (fun j => gmI_byt (HBY.out k j)) (HSW.out q col) HC9.out hm)
                      have PM := Lib.hid (fun A2 c2 W (hB : Below wr.heap.size wr W) (h2 : (Kd.int .u8).C W A2 m (line m (fun j => gmI (gmI (M k j) r) (swapI M t k q col)))) (hc2 : m ≤ c2) => plus_any m cq c2 (some adq) A2 (swapI M t k q) (fun j => gmI (gmI (M k j) r) (swapI M t k q col)) W (Kd.C_below hCq hB) h2 (HSW.out q) (fun j => gmI_byt (gmI_byt (HBY.out k j))) l1 hc2 hm)
                      have HGQ := Lib.hid (show g < wr.heap.size by obtain ⟨cur, hh⟩ := (rblk HO7.out).2; exact (Array.getElem?_eq_some_iff.1 hh).1)
                      have HXd := Lib.hid (show Below wr.heap.size wr wr.drew from (Below.refl _ _).drew)
                      clear z1 l1 hCq hcb hC9' e1
                      go_upto_region 21 with (fail)
                      refine wp_region_noPanic ?_
                      refine wp_region_held_drew (S := (fun W => True)) (by kernel_rfl) ?_ (fun hHeld => ?_)
                      · ((try dsimp only); all_goals exact trivial)
                      refine wpAnyH_take (i := 0) (oi := { dst := some 92, op := Go.Op.move (Go.Operand.tmp 3), type := 67, pos := "ref.go:26", after := #[], guard := none }) (v := ?_) rfl (by kernel_rfl) (by kernel_rfl) (by kernel_rfl) (fun _ _ _ h => h) (Or.inl ⟨by rfl, ?_⟩) (by assumption) ?_
                      rotate_left 1
                      · (intro w hSw; (try dsimp only at hSw); go_simp; try with_reducible rfl)
                      try simp only [Act.put, List.setIfInBounds_toArray, List.set_cons_zero, List.set_cons_succ]
                      refine wpAnyH_take (i := 1) (oi := { dst := some 93, op := Go.Op.move (Go.Operand.tmp 9), type := 3, pos := "ref.go:26", after := #[], guard := none }) (v := ?_) rfl (by kernel_rfl) (by kernel_rfl) (by kernel_rfl) (fun _ _ _ h => h) (Or.inl ⟨by rfl, ?_⟩) (by assumption) ?_
                      rotate_left 1
                      · (intro w hSw; (try dsimp only at hSw); go_simp; try with_reducible rfl)
                      try simp only [Act.put, List.setIfInBounds_toArray, List.set_cons_zero, List.set_cons_succ]
                      refine wpAnyH_take (i := 2) (oi := { dst := some 94, op := Go.Op.move (Go.Operand.tmp 3), type := 67, pos := "ref.go:26", after := #[], guard := none }) (v := ?_) rfl (by kernel_rfl) (by kernel_rfl) (by kernel_rfl) (fun _ _ _ h => h) (Or.inl ⟨by rfl, ?_⟩) (by assumption) ?_
                      rotate_left 1
                      · (intro w hSw; (try dsimp only at hSw); go_simp; try with_reducible rfl)
                      try simp only [Act.put, List.setIfInBounds_toArray, List.set_cons_zero, List.set_cons_succ]
                      refine wpAnyH_take (i := 3) (oi := { dst := some 95, op := Go.Op.move (Go.Operand.tmp 9), type := 3, pos := "ref.go:26", after := #[], guard := none }) (v := ?_) rfl (by kernel_rfl) (by kernel_rfl) (by kernel_rfl) (fun _ _ _ h => h) (Or.inl ⟨by rfl, ?_⟩) (by assumption) ?_
                      rotate_left 1
                      · (intro w hSw; (try dsimp only at hSw); go_simp; try with_reducible rfl)
                      try simp only [Act.put, List.setIfInBounds_toArray, List.set_cons_zero, List.set_cons_succ]
                      refine wpAnyH_take (i := 4) (oi := { dst := some 96, op := Go.Op.indexAddr 67 (Go.Operand.tmp 94) (Go.Operand.tmp 95), type := 0, pos := "ref.go:26", after := #[{ on := 2, ground := Go.Ground.data }, { on := 3, ground := Go.Ground.data }], guard := none }) (v := ?_) rfl (by kernel_rfl) (by kernel_rfl) (by kernel_rfl) (fun _ _ _ h => h) (Or.inl ⟨by rfl, ?_⟩) (by assumption) ?_
                      rotate_left 1
                      · (intro w hSw; (try dsimp only at hSw); go_simp; try with_reducible rfl)
                      try simp only [Act.put, List.setIfInBounds_toArray, List.set_cons_zero, List.set_cons_succ]
                      refine wpAnyH_take (i := 6) (oi := { dst := some 98, op := Go.Op.move (Go.Operand.tmp 8), type := 22, pos := "ref.go:26", after := #[], guard := none }) (v := ?_) rfl (by kernel_rfl) (by kernel_rfl) (by kernel_rfl) (fun _ _ _ h => h) (Or.inl ⟨by rfl, ?_⟩) (by assumption) ?_
                      rotate_left 1
                      · (intro w hSw; (try dsimp only at hSw); go_simp; try with_reducible rfl)
                      try simp only [Act.put, List.setIfInBounds_toArray, List.set_cons_zero, List.set_cons_succ]
                      refine wpAnyH_take (i := 7) (oi := { dst := some 99, op := Go.Op.move (Go.Operand.tmp 3), type := 67, pos := "ref.go:26", after := #[], guard := none }) (v := ?_) rfl (by kernel_rfl) (by kernel_rfl) (by kernel_rfl) (fun _ _ _ h => h) (Or.inl ⟨by rfl, ?_⟩) (by assumption) ?_
                      rotate_left 1
                      · (intro w hSw; (try dsimp only at hSw); go_simp; try with_reducible rfl)
                      try simp only [Act.put, List.setIfInBounds_toArray, List.set_cons_zero, List.set_cons_succ]
                      refine wpAnyH_take (i := 8) (oi := { dst := some 100, op := Go.Op.move (Go.Operand.tmp 9), type := 3, pos := "ref.go:26", after := #[], guard := none }) (v := ?_) rfl (by kernel_rfl) (by kernel_rfl) (by kernel_rfl) (fun _ _ _ h => h) (Or.inl ⟨by rfl, ?_⟩) (by assumption) ?_
                      rotate_left 1
                      · (intro w hSw; (try dsimp only at hSw); go_simp; try with_reducible rfl)
                      try simp only [Act.put, List.setIfInBounds_toArray, List.set_cons_zero, List.set_cons_succ]
                      refine wpAnyH_take (i := 9) (oi := { dst := some 101, op := Go.Op.indexAddr 67 (Go.Operand.tmp 99) (Go.Operand.tmp 100), type := 0, pos := "ref.go:26", after := #[{ on := 7, ground := Go.Ground.data }, { on := 8, ground := Go.Ground.data }], guard := none }) (v := ?_) rfl (by kernel_rfl) (by kernel_rfl) (by kernel_rfl) (fun _ _ _ h => h) (Or.inl ⟨by rfl, ?_⟩) (by assumption) ?_
                      rotate_left 1
                      · (intro w hSw; (try dsimp only at hSw); go_simp; try with_reducible rfl)
                      try simp only [Act.put, List.setIfInBounds_toArray, List.set_cons_zero, List.set_cons_succ]
                      refine wpAnyH_take (i := 11) (oi := { dst := some 103, op := Go.Op.move (Go.Operand.tmp 6), type := 3, pos := "ref.go:26", after := #[], guard := none }) (v := ?_) rfl (by kernel_rfl) (by kernel_rfl) (by kernel_rfl) (fun _ _ _ h => h) (Or.inl ⟨by rfl, ?_⟩) (by assumption) ?_
                      rotate_left 1
                      · (intro w hSw; (try dsimp only at hSw); go_simp; try with_reducible rfl)
                      try simp only [Act.put, List.setIfInBounds_toArray, List.set_cons_zero, List.set_cons_succ]
                      refine wpAnyH_ready (rs := [5, 10]) (by kernel_rfl) (by simp) ?_
                      refine AllReadyH.cons (o := { dst := some 97, op := Go.Op.load 22 (Go.Operand.tmp 96), type := 22, pos := "ref.go:26", after := #[{ on := 4, ground := Go.Ground.data }], guard := none }) rfl (fun K hK => ?_) ?_
                      · (have kk := KK.out _ (by first | exact HXe.out | exact HXd.out)); obtain ⟨kk1, kk2⟩ := kk; go_simp
                        clear hHeld
                        refine hK.out _ _ ?_ (fun hHeld => ?_)
                        · ((try dsimp only); all_goals exact trivial)
                        clear hK K
                        refine wpAnyH_ready (rs := [10]) (by kernel_rfl) (by simp) ?_
                        refine AllReadyH.cons (o := { dst := some 102, op := Go.Op.load 22 (Go.Operand.tmp 101), type := 22, pos := "ref.go:26", after := #[{ on := 9, ground := Go.Ground.data }], guard := none }) rfl (fun K hK => ?_) AllReadyH.nil
                        (have kk := KK.out _ HXd.out); obtain ⟨kk1, kk2⟩ := kk; go_simp
                        clear hHeld
                        refine hK.out _ _ ?_ (fun hHeld => ?_)
                        · ((try dsimp only); all_goals exact trivial)
                        clear hK K
                        refine wpAnyH_take (i := 12) (oi := { dst := some 104, op := Go.Op.indexAddr 22 (Go.Operand.tmp 102) (Go.Operand.tmp 103), type := 0, pos := "ref.go:26", after := #[{ on := 10, ground := Go.Ground.data }, { on := 11, ground := Go.Ground.data }], guard := none }) (v := ?_) rfl (by kernel_rfl) (by kernel_rfl) (by kernel_rfl) (fun _ _ _ h => h) (Or.inl ⟨by rfl, ?_⟩) (by assumption) ?_
                        rotate_left 1
                        · (intro w hSw; (try dsimp only at hSw); go_simp; try with_reducible rfl)
                        try simp only [Act.put, List.setIfInBounds_toArray, List.set_cons_zero, List.set_cons_succ]
                        refine wpAnyH_ready (rs := [13]) (by kernel_rfl) (by simp) ?_
                        refine AllReadyH.cons (o := { dst := some 105, op := Go.Op.load 5 (Go.Operand.tmp 104), type := 5, pos := "ref.go:26", after := #[{ on := 12, ground := Go.Ground.data }], guard := none }) rfl (fun K hK => ?_) AllReadyH.nil
                        (have kk := KK.out _ HXd.out); obtain ⟨kk1, kk2⟩ := kk; go_simp
                        clear hHeld
                        refine hK.out _ _ ?_ (fun hHeld => ?_)
                        · ((try dsimp only); all_goals exact trivial)
                        clear hK K
                        refine wpAnyH_ready (rs := [14]) (by kernel_rfl) (by simp) ?_
                        refine AllReadyH.cons (o := { dst := some 106, op := Go.Op.call { callee := Go.Callee.value (Go.Operand.func 52), args := #[Go.Operand.tmp 98, Go.Operand.tmp 105], argTypes := #[22, 5] }, type := 22, pos := "ref.go:26", after := #[{ on := 6, ground := Go.Ground.data }, { on := 13, ground := Go.Ground.data }], guard := none }) rfl (fun K hK => ?_) AllReadyH.nil
                        go_simp
                        go_at_call 52
                        (refine (TM.out _ HXd.out).mono ?_); rintro e x1 ⟨A5, c5, rfl, hr5, hb⟩; have h5 := (Kd.R_reads' hr5).2; rw [line_len] at h5; have HC5 := Lib.hid h5; have HXe := Lib.hid (HXd.out.trans (hb.mono HXd.out.size)); clear hb hr5 h5
                        clear hHeld
                        refine hK.out _ _ ?_ (fun hHeld => ?_)
                        · ((try dsimp only); all_goals exact trivial)
                        clear hK K
                        refine wpAnyH_ready (rs := [15]) (by kernel_rfl) (by simp) ?_
                        refine AllReadyH.cons (o := { dst := some 107, op := Go.Op.call { callee := Go.Callee.value (Go.Operand.func 54), args := #[Go.Operand.tmp 97, Go.Operand.tmp 106], argTypes := #[22, 22] }, type := 22, pos := "ref.go:26", after := #[{ on := 5, ground := Go.Ground.data }, { on := 14, ground := Go.Ground.data }, { on := 14, ground := Go.Ground.chain }], guard := none }) rfl (fun K hK => ?_) AllReadyH.nil
                        go_simp
                        go_at_call 54
                        (refine (PM.out A5 c5 _ HXe.out HC5.out.2 HC5.out.1).mono ?_); rintro e x2 ⟨A6, c6, rfl, hr6, hb⟩; have HR6 := Lib.hid hr6; have HXf := Lib.hid (HXe.out.trans (hb.mono HXe.out.size)); clear hb hr6
                        clear hHeld
                        refine hK.out _ _ ?_ (fun hHeld => ?_)
                        · ((try dsimp only); all_goals exact trivial)
                        clear hK K
                        refine wpAnyH_take (i := 16) (oi := { dst := some 108, op := Go.Op.indexAddr 67 (Go.Operand.tmp 92) (Go.Operand.tmp 93), type := 0, pos := "ref.go:26", after := #[{ on := 0, ground := Go.Ground.data }, { on := 1, ground := Go.Ground.data }, { on := 0, ground := Go.Ground.phase }, { on := 1, ground := Go.Ground.phase }, { on := 2, ground := Go.Ground.phase }, { on := 3, ground := Go.Ground.phase }, { on := 4, ground := Go.Ground.phase }, { on := 5, ground := Go.Ground.phase }, { on := 6, ground := Go.Ground.phase }, { on := 7, ground := Go.Ground.phase }, { on := 8, ground := Go.Ground.phase }, { on := 9, ground := Go.Ground.phase }, { on := 10, ground := Go.Ground.phase }, { on := 11, ground := Go.Ground.phase }, { on := 12, ground := Go.Ground.phase }, { on := 13, ground := Go.Ground.phase }, { on := 14, ground := Go.Ground.phase }, { on := 15, ground := Go.Ground.phase }], guard := none }) (v := ?_) rfl (by kernel_rfl) (by kernel_rfl) (by kernel_rfl) (fun _ _ _ h => h) (Or.inl ⟨by rfl, ?_⟩) (by assumption) ?_
                        rotate_left 1
                        · (intro w hSw; (try dsimp only at hSw); go_simp; try with_reducible rfl)
                        try simp only [Act.put, List.setIfInBounds_toArray, List.set_cons_zero, List.set_cons_succ]
                        refine wpAnyH_ready (rs := [17]) (by kernel_rfl) (by simp) ?_
                        refine AllReadyH.cons (o := { dst := none, op := Go.Op.store 22 (Go.Operand.tmp 108) (Go.Operand.tmp 107), type := 0, pos := "ref.go:26", after := #[{ on := 16, ground := Go.Ground.data }, { on := 15, ground := Go.Ground.data }, { on := 15, ground := Go.Ground.chain }, { on := 0, ground := Go.Ground.phase }, { on := 1, ground := Go.Ground.phase }, { on := 2, ground := Go.Ground.phase }, { on := 3, ground := Go.Ground.phase }, { on := 4, ground := Go.Ground.phase }, { on := 5, ground := Go.Ground.phase }, { on := 6, ground := Go.Ground.phase }, { on := 7, ground := Go.Ground.phase }, { on := 8, ground := Go.Ground.phase }, { on := 9, ground := Go.Ground.phase }, { on := 10, ground := Go.Ground.phase }, { on := 11, ground := Go.Ground.phase }, { on := 12, ground := Go.Ground.phase }, { on := 13, ground := Go.Ground.phase }, { on := 14, ground := Go.Ground.phase }, { on := 15, ground := Go.Ground.phase }], guard := none }) rfl (fun K hK => ?_) AllReadyH.nil
                        have HOf := Lib.hid (Kd.R_below HO7.out HXf.out); obtain ⟨_, _, y1, y2, _, _, _⟩ := relem HOf.out q hqi; go_simp
                        clear hHeld
                        refine hK.out _ _ ?_ (fun hHeld => ?_)
                        · ((try dsimp only); all_goals exact trivial)
                        clear hK K
                        refine wpAnyH_done (by kernel_rfl) ?_ _
                        refine NoPanic.normal ?_
                        (go_wp2; go_roundw; (case rel => exact ⟨q + 1, by omega, by go_num, Lib.hid (rowq HOf.out hqi hqt HR6.out (Nat.le_trans HB7.out.size HXe.out.size) (Nat.lt_of_lt_of_le HGQ.out HXe.out.size)), Lib.hid (setx (Kd.R_below HX7.out HXf.out) HOf.out q _), Lib.hid ((HB7.out.trans (HXf.out.mono HB7.out.size)).setCell HGB.out _)⟩); (case measure => simp [intOf]; omega))
                      refine AllReadyH.cons (o := { dst := some 102, op := Go.Op.load 22 (Go.Operand.tmp 101), type := 22, pos := "ref.go:26", after := #[{ on := 9, ground := Go.Ground.data }], guard := none }) rfl (fun K hK => ?_) AllReadyH.nil
                      (have kk := KK.out _ HXd.out); obtain ⟨kk1, kk2⟩ := kk; go_simp
                      clear hHeld
                      refine hK.out _ _ ?_ (fun hHeld => ?_)
                      · ((try dsimp only); all_goals exact trivial)
                      clear hK K
                      refine wpAnyH_take (i := 12) (oi := { dst := some 104, op := Go.Op.indexAddr 22 (Go.Operand.tmp 102) (Go.Operand.tmp 103), type := 0, pos := "ref.go:26", after := #[{ on := 10, ground := Go.Ground.data }, { on := 11, ground := Go.Ground.data }], guard := none }) (v := ?_) rfl (by kernel_rfl) (by kernel_rfl) (by kernel_rfl) (fun _ _ _ h => h) (Or.inl ⟨by rfl, ?_⟩) (by assumption) ?_
                      rotate_left 1
                      · (intro w hSw; (try dsimp only at hSw); go_simp; try with_reducible rfl)
                      try simp only [Act.put, List.setIfInBounds_toArray, List.set_cons_zero, List.set_cons_succ]
                      refine wpAnyH_ready (rs := [5, 13]) (by kernel_rfl) (by simp) ?_
                      refine AllReadyH.cons (o := { dst := some 97, op := Go.Op.load 22 (Go.Operand.tmp 96), type := 22, pos := "ref.go:26", after := #[{ on := 4, ground := Go.Ground.data }], guard := none }) rfl (fun K hK => ?_) ?_
                      · (have kk := KK.out _ (by first | exact HXe.out | exact HXd.out)); obtain ⟨kk1, kk2⟩ := kk; go_simp
                        clear hHeld
                        refine hK.out _ _ ?_ (fun hHeld => ?_)
                        · ((try dsimp only); all_goals exact trivial)
                        clear hK K
                        refine wpAnyH_ready (rs := [13]) (by kernel_rfl) (by simp) ?_
                        refine AllReadyH.cons (o := { dst := some 105, op := Go.Op.load 5 (Go.Operand.tmp 104), type := 5, pos := "ref.go:26", after := #[{ on := 12, ground := Go.Ground.data }], guard := none }) rfl (fun K hK => ?_) AllReadyH.nil
                        (have kk := KK.out _ HXd.out); obtain ⟨kk1, kk2⟩ := kk; go_simp
                        clear hHeld
                        refine hK.out _ _ ?_ (fun hHeld => ?_)
                        · ((try dsimp only); all_goals exact trivial)
                        clear hK K
                        refine wpAnyH_ready (rs := [14]) (by kernel_rfl) (by simp) ?_
                        refine AllReadyH.cons (o := { dst := some 106, op := Go.Op.call { callee := Go.Callee.value (Go.Operand.func 52), args := #[Go.Operand.tmp 98, Go.Operand.tmp 105], argTypes := #[22, 5] }, type := 22, pos := "ref.go:26", after := #[{ on := 6, ground := Go.Ground.data }, { on := 13, ground := Go.Ground.data }], guard := none }) rfl (fun K hK => ?_) AllReadyH.nil
                        go_simp
                        go_at_call 52
                        (refine (TM.out _ HXd.out).mono ?_); rintro e x1 ⟨A5, c5, rfl, hr5, hb⟩; have h5 := (Kd.R_reads' hr5).2; rw [line_len] at h5; have HC5 := Lib.hid h5; have HXe := Lib.hid (HXd.out.trans (hb.mono HXd.out.size)); clear hb hr5 h5
                        clear hHeld
                        refine hK.out _ _ ?_ (fun hHeld => ?_)
                        · ((try dsimp only); all_goals exact trivial)
                        clear hK K
                        refine wpAnyH_ready (rs := [15]) (by kernel_rfl) (by simp) ?_
                        refine AllReadyH.cons (o := { dst := some 107, op := Go.Op.call { callee := Go.Callee.value (Go.Operand.func 54), args := #[Go.Operand.tmp 97, Go.Operand.tmp 106], argTypes := #[22, 22] }, type := 22, pos := "ref.go:26", after := #[{ on := 5, ground := Go.Ground.data }, { on := 14, ground := Go.Ground.data }, { on := 14, ground := Go.Ground.chain }], guard := none }) rfl (fun K hK => ?_) AllReadyH.nil
                        go_simp
                        go_at_call 54
                        (refine (PM.out A5 c5 _ HXe.out HC5.out.2 HC5.out.1).mono ?_); rintro e x2 ⟨A6, c6, rfl, hr6, hb⟩; have HR6 := Lib.hid hr6; have HXf := Lib.hid (HXe.out.trans (hb.mono HXe.out.size)); clear hb hr6
                        clear hHeld
                        refine hK.out _ _ ?_ (fun hHeld => ?_)
                        · ((try dsimp only); all_goals exact trivial)
                        clear hK K
                        refine wpAnyH_take (i := 16) (oi := { dst := some 108, op := Go.Op.indexAddr 67 (Go.Operand.tmp 92) (Go.Operand.tmp 93), type := 0, pos := "ref.go:26", after := #[{ on := 0, ground := Go.Ground.data }, { on := 1, ground := Go.Ground.data }, { on := 0, ground := Go.Ground.phase }, { on := 1, ground := Go.Ground.phase }, { on := 2, ground := Go.Ground.phase }, { on := 3, ground := Go.Ground.phase }, { on := 4, ground := Go.Ground.phase }, { on := 5, ground := Go.Ground.phase }, { on := 6, ground := Go.Ground.phase }, { on := 7, ground := Go.Ground.phase }, { on := 8, ground := Go.Ground.phase }, { on := 9, ground := Go.Ground.phase }, { on := 10, ground := Go.Ground.phase }, { on := 11, ground := Go.Ground.phase }, { on := 12, ground := Go.Ground.phase }, { on := 13, ground := Go.Ground.phase }, { on := 14, ground := Go.Ground.phase }, { on := 15, ground := Go.Ground.phase }], guard := none }) (v := ?_) rfl (by kernel_rfl) (by kernel_rfl) (by kernel_rfl) (fun _ _ _ h => h) (Or.inl ⟨by rfl, ?_⟩) (by assumption) ?_
                        rotate_left 1
                        · (intro w hSw; (try dsimp only at hSw); go_simp; try with_reducible rfl)
                        try simp only [Act.put, List.setIfInBounds_toArray, List.set_cons_zero, List.set_cons_succ]
                        refine wpAnyH_ready (rs := [17]) (by kernel_rfl) (by simp) ?_
                        refine AllReadyH.cons (o := { dst := none, op := Go.Op.store 22 (Go.Operand.tmp 108) (Go.Operand.tmp 107), type := 0, pos := "ref.go:26", after := #[{ on := 16, ground := Go.Ground.data }, { on := 15, ground := Go.Ground.data }, { on := 15, ground := Go.Ground.chain }, { on := 0, ground := Go.Ground.phase }, { on := 1, ground := Go.Ground.phase }, { on := 2, ground := Go.Ground.phase }, { on := 3, ground := Go.Ground.phase }, { on := 4, ground := Go.Ground.phase }, { on := 5, ground := Go.Ground.phase }, { on := 6, ground := Go.Ground.phase }, { on := 7, ground := Go.Ground.phase }, { on := 8, ground := Go.Ground.phase }, { on := 9, ground := Go.Ground.phase }, { on := 10, ground := Go.Ground.phase }, { on := 11, ground := Go.Ground.phase }, { on := 12, ground := Go.Ground.phase }, { on := 13, ground := Go.Ground.phase }, { on := 14, ground := Go.Ground.phase }, { on := 15, ground := Go.Ground.phase }], guard := none }) rfl (fun K hK => ?_) AllReadyH.nil
                        have HOf := Lib.hid (Kd.R_below HO7.out HXf.out); obtain ⟨_, _, y1, y2, _, _, _⟩ := relem HOf.out q hqi; go_simp
                        clear hHeld
                        refine hK.out _ _ ?_ (fun hHeld => ?_)
                        · ((try dsimp only); all_goals exact trivial)
                        clear hK K
                        refine wpAnyH_done (by kernel_rfl) ?_ _
                        refine NoPanic.normal ?_
                        (go_wp2; go_roundw; (case rel => exact ⟨q + 1, by omega, by go_num, Lib.hid (rowq HOf.out hqi hqt HR6.out (Nat.le_trans HB7.out.size HXe.out.size) (Nat.lt_of_lt_of_le HGQ.out HXe.out.size)), Lib.hid (setx (Kd.R_below HX7.out HXf.out) HOf.out q _), Lib.hid ((HB7.out.trans (HXf.out.mono HB7.out.size)).setCell HGB.out _)⟩); (case measure => simp [intOf]; omega))
                      refine AllReadyH.cons (o := { dst := some 105, op := Go.Op.load 5 (Go.Operand.tmp 104), type := 5, pos := "ref.go:26", after := #[{ on := 12, ground := Go.Ground.data }], guard := none }) rfl (fun K hK => ?_) AllReadyH.nil
                      (have kk := KK.out _ HXd.out); obtain ⟨kk1, kk2⟩ := kk; go_simp
                      clear hHeld
                      refine hK.out _ _ ?_ (fun hHeld => ?_)
                      · ((try dsimp only); all_goals exact trivial)
                      clear hK K
                      refine wpAnyH_ready (rs := [5, 14]) (by kernel_rfl) (by simp) ?_
                      refine AllReadyH.cons (o := { dst := some 97, op := Go.Op.load 22 (Go.Operand.tmp 96), type := 22, pos := "ref.go:26", after := #[{ on := 4, ground := Go.Ground.data }], guard := none }) rfl (fun K hK => ?_) ?_
                      · (have kk := KK.out _ (by first | exact HXe.out | exact HXd.out)); obtain ⟨kk1, kk2⟩ := kk; go_simp
                        clear hHeld
                        refine hK.out _ _ ?_ (fun hHeld => ?_)
                        · ((try dsimp only); all_goals exact trivial)
                        clear hK K
                        refine wpAnyH_ready (rs := [14]) (by kernel_rfl) (by simp) ?_
                        refine AllReadyH.cons (o := { dst := some 106, op := Go.Op.call { callee := Go.Callee.value (Go.Operand.func 52), args := #[Go.Operand.tmp 98, Go.Operand.tmp 105], argTypes := #[22, 5] }, type := 22, pos := "ref.go:26", after := #[{ on := 6, ground := Go.Ground.data }, { on := 13, ground := Go.Ground.data }], guard := none }) rfl (fun K hK => ?_) AllReadyH.nil
                        go_simp
                        go_at_call 52
                        (refine (TM.out _ HXd.out).mono ?_); rintro e x1 ⟨A5, c5, rfl, hr5, hb⟩; have h5 := (Kd.R_reads' hr5).2; rw [line_len] at h5; have HC5 := Lib.hid h5; have HXe := Lib.hid (HXd.out.trans (hb.mono HXd.out.size)); clear hb hr5 h5
                        clear hHeld
                        refine hK.out _ _ ?_ (fun hHeld => ?_)
                        · ((try dsimp only); all_goals exact trivial)
                        clear hK K
                        refine wpAnyH_ready (rs := [15]) (by kernel_rfl) (by simp) ?_
                        refine AllReadyH.cons (o := { dst := some 107, op := Go.Op.call { callee := Go.Callee.value (Go.Operand.func 54), args := #[Go.Operand.tmp 97, Go.Operand.tmp 106], argTypes := #[22, 22] }, type := 22, pos := "ref.go:26", after := #[{ on := 5, ground := Go.Ground.data }, { on := 14, ground := Go.Ground.data }, { on := 14, ground := Go.Ground.chain }], guard := none }) rfl (fun K hK => ?_) AllReadyH.nil
                        go_simp
                        go_at_call 54
                        (refine (PM.out A5 c5 _ HXe.out HC5.out.2 HC5.out.1).mono ?_); rintro e x2 ⟨A6, c6, rfl, hr6, hb⟩; have HR6 := Lib.hid hr6; have HXf := Lib.hid (HXe.out.trans (hb.mono HXe.out.size)); clear hb hr6
                        clear hHeld
                        refine hK.out _ _ ?_ (fun hHeld => ?_)
                        · ((try dsimp only); all_goals exact trivial)
                        clear hK K
                        refine wpAnyH_take (i := 16) (oi := { dst := some 108, op := Go.Op.indexAddr 67 (Go.Operand.tmp 92) (Go.Operand.tmp 93), type := 0, pos := "ref.go:26", after := #[{ on := 0, ground := Go.Ground.data }, { on := 1, ground := Go.Ground.data }, { on := 0, ground := Go.Ground.phase }, { on := 1, ground := Go.Ground.phase }, { on := 2, ground := Go.Ground.phase }, { on := 3, ground := Go.Ground.phase }, { on := 4, ground := Go.Ground.phase }, { on := 5, ground := Go.Ground.phase }, { on := 6, ground := Go.Ground.phase }, { on := 7, ground := Go.Ground.phase }, { on := 8, ground := Go.Ground.phase }, { on := 9, ground := Go.Ground.phase }, { on := 10, ground := Go.Ground.phase }, { on := 11, ground := Go.Ground.phase }, { on := 12, ground := Go.Ground.phase }, { on := 13, ground := Go.Ground.phase }, { on := 14, ground := Go.Ground.phase }, { on := 15, ground := Go.Ground.phase }], guard := none }) (v := ?_) rfl (by kernel_rfl) (by kernel_rfl) (by kernel_rfl) (fun _ _ _ h => h) (Or.inl ⟨by rfl, ?_⟩) (by assumption) ?_
                        rotate_left 1
                        · (intro w hSw; (try dsimp only at hSw); go_simp; try with_reducible rfl)
                        try simp only [Act.put, List.setIfInBounds_toArray, List.set_cons_zero, List.set_cons_succ]
                        refine wpAnyH_ready (rs := [17]) (by kernel_rfl) (by simp) ?_
                        refine AllReadyH.cons (o := { dst := none, op := Go.Op.store 22 (Go.Operand.tmp 108) (Go.Operand.tmp 107), type := 0, pos := "ref.go:26", after := #[{ on := 16, ground := Go.Ground.data }, { on := 15, ground := Go.Ground.data }, { on := 15, ground := Go.Ground.chain }, { on := 0, ground := Go.Ground.phase }, { on := 1, ground := Go.Ground.phase }, { on := 2, ground := Go.Ground.phase }, { on := 3, ground := Go.Ground.phase }, { on := 4, ground := Go.Ground.phase }, { on := 5, ground := Go.Ground.phase }, { on := 6, ground := Go.Ground.phase }, { on := 7, ground := Go.Ground.phase }, { on := 8, ground := Go.Ground.phase }, { on := 9, ground := Go.Ground.phase }, { on := 10, ground := Go.Ground.phase }, { on := 11, ground := Go.Ground.phase }, { on := 12, ground := Go.Ground.phase }, { on := 13, ground := Go.Ground.phase }, { on := 14, ground := Go.Ground.phase }, { on := 15, ground := Go.Ground.phase }], guard := none }) rfl (fun K hK => ?_) AllReadyH.nil
                        have HOf := Lib.hid (Kd.R_below HO7.out HXf.out); obtain ⟨_, _, y1, y2, _, _, _⟩ := relem HOf.out q hqi; go_simp
                        clear hHeld
                        refine hK.out _ _ ?_ (fun hHeld => ?_)
                        · ((try dsimp only); all_goals exact trivial)
                        clear hK K
                        refine wpAnyH_done (by kernel_rfl) ?_ _
                        refine NoPanic.normal ?_
                        (go_wp2; go_roundw; (case rel => exact ⟨q + 1, by omega, by go_num, Lib.hid (rowq HOf.out hqi hqt HR6.out (Nat.le_trans HB7.out.size HXe.out.size) (Nat.lt_of_lt_of_le HGQ.out HXe.out.size)), Lib.hid (setx (Kd.R_below HX7.out HXf.out) HOf.out q _), Lib.hid ((HB7.out.trans (HXf.out.mono HB7.out.size)).setCell HGB.out _)⟩); (case measure => simp [intOf]; omega))
                      refine AllReadyH.cons (o := { dst := some 106, op := Go.Op.call { callee := Go.Callee.value (Go.Operand.func 52), args := #[Go.Operand.tmp 98, Go.Operand.tmp 105], argTypes := #[22, 5] }, type := 22, pos := "ref.go:26", after := #[{ on := 6, ground := Go.Ground.data }, { on := 13, ground := Go.Ground.data }], guard := none }) rfl (fun K hK => ?_) AllReadyH.nil
                      go_simp
                      go_at_call 52
                      (refine (TM.out _ HXd.out).mono ?_); rintro e x1 ⟨A5, c5, rfl, hr5, hb⟩; have h5 := (Kd.R_reads' hr5).2; rw [line_len] at h5; have HC5 := Lib.hid h5; have HXe := Lib.hid (HXd.out.trans (hb.mono HXd.out.size)); clear hb hr5 h5
                      clear hHeld
                      refine hK.out _ _ ?_ (fun hHeld => ?_)
                      · ((try dsimp only); all_goals exact trivial)
                      clear hK K
                      refine wpAnyH_ready (rs := [5]) (by kernel_rfl) (by simp) ?_
                      refine AllReadyH.cons (o := { dst := some 97, op := Go.Op.load 22 (Go.Operand.tmp 96), type := 22, pos := "ref.go:26", after := #[{ on := 4, ground := Go.Ground.data }], guard := none }) rfl (fun K hK => ?_) AllReadyH.nil
                      (have kk := KK.out _ (by first | exact HXe.out | exact HXd.out)); obtain ⟨kk1, kk2⟩ := kk; go_simp
                      clear hHeld
                      refine hK.out _ _ ?_ (fun hHeld => ?_)
                      · ((try dsimp only); all_goals exact trivial)
                      clear hK K
                      refine wpAnyH_ready (rs := [15]) (by kernel_rfl) (by simp) ?_
                      refine AllReadyH.cons (o := { dst := some 107, op := Go.Op.call { callee := Go.Callee.value (Go.Operand.func 54), args := #[Go.Operand.tmp 97, Go.Operand.tmp 106], argTypes := #[22, 22] }, type := 22, pos := "ref.go:26", after := #[{ on := 5, ground := Go.Ground.data }, { on := 14, ground := Go.Ground.data }, { on := 14, ground := Go.Ground.chain }], guard := none }) rfl (fun K hK => ?_) AllReadyH.nil
                      go_simp
                      go_at_call 54
                      (refine (PM.out A5 c5 _ HXe.out HC5.out.2 HC5.out.1).mono ?_); rintro e x2 ⟨A6, c6, rfl, hr6, hb⟩; have HR6 := Lib.hid hr6; have HXf := Lib.hid (HXe.out.trans (hb.mono HXe.out.size)); clear hb hr6
                      clear hHeld
                      refine hK.out _ _ ?_ (fun hHeld => ?_)
                      · ((try dsimp only); all_goals exact trivial)
                      clear hK K
                      refine wpAnyH_take (i := 16) (oi := { dst := some 108, op := Go.Op.indexAddr 67 (Go.Operand.tmp 92) (Go.Operand.tmp 93), type := 0, pos := "ref.go:26", after := #[{ on := 0, ground := Go.Ground.data }, { on := 1, ground := Go.Ground.data }, { on := 0, ground := Go.Ground.phase }, { on := 1, ground := Go.Ground.phase }, { on := 2, ground := Go.Ground.phase }, { on := 3, ground := Go.Ground.phase }, { on := 4, ground := Go.Ground.phase }, { on := 5, ground := Go.Ground.phase }, { on := 6, ground := Go.Ground.phase }, { on := 7, ground := Go.Ground.phase }, { on := 8, ground := Go.Ground.phase }, { on := 9, ground := Go.Ground.phase }, { on := 10, ground := Go.Ground.phase }, { on := 11, ground := Go.Ground.phase }, { on := 12, ground := Go.Ground.phase }, { on := 13, ground := Go.Ground.phase }, { on := 14, ground := Go.Ground.phase }, { on := 15, ground := Go.Ground.phase }], guard := none }) (v := ?_) rfl (by kernel_rfl) (by kernel_rfl) (by kernel_rfl) (fun _ _ _ h => h) (Or.inl ⟨by rfl, ?_⟩) (by assumption) ?_
                      rotate_left 1
                      · (intro w hSw; (try dsimp only at hSw); go_simp; try with_reducible rfl)
                      try simp only [Act.put, List.setIfInBounds_toArray, List.set_cons_zero, List.set_cons_succ]
                      refine wpAnyH_ready (rs := [17]) (by kernel_rfl) (by simp) ?_
                      refine AllReadyH.cons (o := { dst := none, op := Go.Op.store 22 (Go.Operand.tmp 108) (Go.Operand.tmp 107), type := 0, pos := "ref.go:26", after := #[{ on := 16, ground := Go.Ground.data }, { on := 15, ground := Go.Ground.data }, { on := 15, ground := Go.Ground.chain }, { on := 0, ground := Go.Ground.phase }, { on := 1, ground := Go.Ground.phase }, { on := 2, ground := Go.Ground.phase }, { on := 3, ground := Go.Ground.phase }, { on := 4, ground := Go.Ground.phase }, { on := 5, ground := Go.Ground.phase }, { on := 6, ground := Go.Ground.phase }, { on := 7, ground := Go.Ground.phase }, { on := 8, ground := Go.Ground.phase }, { on := 9, ground := Go.Ground.phase }, { on := 10, ground := Go.Ground.phase }, { on := 11, ground := Go.Ground.phase }, { on := 12, ground := Go.Ground.phase }, { on := 13, ground := Go.Ground.phase }, { on := 14, ground := Go.Ground.phase }, { on := 15, ground := Go.Ground.phase }], guard := none }) rfl (fun K hK => ?_) AllReadyH.nil
                      have HOf := Lib.hid (Kd.R_below HO7.out HXf.out); obtain ⟨_, _, y1, y2, _, _, _⟩ := relem HOf.out q hqi; go_simp
                      clear hHeld
                      refine hK.out _ _ ?_ (fun hHeld => ?_)
                      · ((try dsimp only); all_goals exact trivial)
                      clear hK K
                      refine wpAnyH_done (by kernel_rfl) ?_ _
                      refine NoPanic.normal ?_
                      (go_wp2; go_roundw; (case rel => exact ⟨q + 1, by omega, by go_num, Lib.hid (rowq HOf.out hqi hqt HR6.out (Nat.le_trans HB7.out.size HXe.out.size) (Nat.lt_of_lt_of_le HGQ.out HXe.out.size)), Lib.hid (setx (Kd.R_below HX7.out HXf.out) HOf.out q _), Lib.hid ((HB7.out.trans (HXf.out.mono HB7.out.size)).setCell HGB.out _)⟩); (case measure => simp [intOf]; omega))
                  · obtain rfl : q = i := by omega
                    have HOe := Lib.hid (show RowsR wr w.heap.size (.slice (some ⟨g, 0, none⟩) q cO) (mat q m (stepI M t k col r)) by
                      rw [mat_congr q m (stepI M t k col r) (fun p => if p < q then stepI M t k col r p else if p = t then (fun j => gmI (M k j) r) else swapI M t k p) (fun p hp j hj => by rw [if_pos hp])]
                      exact HO7.out)
                    go_wp2
                    go_roundw
                    case rel => exact ⟨t + 1, col + 1, stepI M t k col r, by go_num, by go_num, by omega, Lib.hid (.step HS.out htk hk HZ.out hz HRB.out HR1.out), HOe, HB7⟩
                    case measure => simp [intOf]; omega
            · obtain rfl : k = i := by omega
              go_wp2
              go_roundw
              case rel => exact ⟨t, col + 1, M, rfl, by go_num, by omega, Lib.hid (.skip HS.out (fun j h1 h2 => HZ.out j h1 h2)), HO, HB⟩
              case measure => simp [intOf]; omega
        · obtain rfl : col = m := by omega
          go_wp2
          go_ret
          exact ⟨_, t, M, rfl, HO.out, HS.out, HB.out⟩
end Go.Proofs.Ytcneobnplhffmaa.Sol
/- Reed and Solomon's codes: the document's filled, walked. -/
namespace Go.Proofs.Ytcneobnplhffmaa.Rsc
open Go Go.RowKit Go.Proofs.Ytcneobnplhffmaa.PRsEncodes Go.Proofs.Ytcneobnplhffmaa.BRsEncodes Go.Proofs.Ytcneobnplhffmaa.Gf Go.Proofs.Ytcneobnplhffmaa.Gi Go.Proofs.Ytcneobnplhffmaa.Bits Go.Proofs.Ytcneobnplhffmaa.Mem Go.Proofs.Ytcneobnplhffmaa.Alg Go.Proofs.Ytcneobnplhffmaa.Sol Go.Proofs.Ytcneobnplhffmaa.Rws Go.Proofs.Ytcneobnplhffmaa.Cat Go.Proofs.YtcneobnplhffmaaW.PrintWords Go.Proofs.YtcneobnplhffmaaW.PrintLast
set_option linter.unusedVariables false

theorem at_int {k : IntKind} {w : World} {A : Option Addr} {n : Nat} {xs : List Int} (h : (Kd.int k).C w A n xs) (i : Nat) (hi : i < n) : ∃ ad, A = some ad ∧ w.cell? (ad.add i) = some (.int k (xs.getD i 0)) := by
  obtain ⟨ad, c, e, _, hK, hc0⟩ := Kd.C_get h (0 : Int) (i : Int) (by omega) (by omega)
  refine ⟨ad, e, ?_⟩
  have hK' : c = [.int k (xs.getD i 0)] := by simpa [Kd.int, Kd.scalar] using hK
  have hq := hc0 0 (.int k (xs.getD i 0)) (by rw [hK']; rfl)
  simpa [Kd.int, Kd.scalar] using hq
theorem power_calls (i : Nat) (hi : i ≤ 1000000) (W : World) : Calls Try.prog 38 #[.int .i64 i] W fun e w' => ∃ q, e = .returned (.int .u8 (al (i % 255))) ∧ w' = W.drewN q := by
  refine (coldframeref30_power.calls 400 i _ W (power_f 400 i (by decide))).mono ?_
  rintro e w' ⟨rfl, hd⟩
  obtain ⟨q, hq⟩ := hd.out
  exact ⟨q, rfl, hq⟩
theorem rsyn_calls (n r c : Nat) (A : Option Addr) (m : Nat → Int) (W : World) (hC : (Kd.int .u8).C W A n (line n m)) (hc : n ≤ c) (hm : ∀ i, Byt (m i)) (hn : n ≤ 1000) (hr : r ≤ 1000) :
    Calls Try.prog 11 #[.int .i64 r, .slice A n c] W fun e w' => ∃ A' c', e = .returned (.slice A' r c') ∧ (Kd.int .u8).R 5 w' W.heap.size (fun _ => True) (.slice A' r c') (line r (synF n m)) ∧ Below W.heap.size W w' := by
  have h := coldframeref30_Syndromes.calls 5000 r A c (line n m) _ W (by rw [line_len]; exact hC) (by rw [line_len]; exact hc) (rsyn_f n r hn hr m hm)
  rw [line_len] at h
  refine h.mono ?_
  rintro e w' ⟨v, rfl, hR, hB⟩
  obtain ⟨A', c', rfl⟩ := Kd.R_slice hR
  rw [line_len] at hR ⊢
  exact ⟨A', c', rfl, hR, hB⟩
/-- A row with j bytes put in. -/
def fillF (a : Nat → Nat) (x : Nat → Int) (w : Nat → Int) : Nat → Nat → Int
  | 0, i => w i
  | j + 1, i => if i = a j then xorI (fillF a x w j i) (x j) else fillF a x w j i
theorem fillF_byt {a : Nat → Nat} {x w : Nat → Int} (hw : ∀ i, Byt (w i)) (hx : ∀ i, Byt (x i)) : ∀ j i, Byt (fillF a x w j i)
  | 0, i => hw i
  | j + 1, i => by
    unfold fillF
    split
    · exact xorI_byt (fillF_byt hw hx j i) (hx j)
    · exact fillF_byt hw hx j i
theorem fillF_set (n : Nat) (a : Nat → Nat) (x w : Nat → Int) (j : Nat) (h : a j < n) : (line n (fillF a x w j)).set (a j) (xorI (fillF a x w j (a j)) (x j)) = line n (fillF a x w (j + 1)) := by
  rw [line_set n _ _ h]
  refine line_congr n _ _ (fun k hk => ?_)
  show _ = (if k = a j then _ else _)
  by_cases e : k = a j
  · subst e; rw [if_pos rfl]
  · rw [if_neg e, if_neg e]
theorem fillM_row (n q : Nat) (a : Nat → Nat) (s : Nat → Int) (i : Nat) : line q (fillM n q a s i) ++ [s i] = line (q + 1) (fillM n q a s i) := by
  rw [line_succ]
  congr 1
  unfold fillM
  rw [if_neg (Nat.lt_irrefl q)]
/-- What filled tells. -/
def FillPost (r n q : Nat) (a : Nat → Nat) (m : Nat → Int) (w : World) (e : Ending) (w' : World) : Prop :=
  ∃ t M, StepsTo r (fillM n q a (synF n m)) (q + 1) t M ∧ Below w.heap.size w w' ∧
    (((∀ i, q ≤ i → i < r → M i q = 0) ∧ ∃ A c, e = .returned (.tuple #[.slice A n c, .bool true]) ∧ (Kd.int .u8).R 5 w' w.heap.size (fun _ => True) (.slice A n c) (line n (fillF a (fun i => M i q) m q))) ∨
      ((∃ i, q ≤ i ∧ i < r ∧ M i q ≠ 0) ∧ e = .returned (.tuple #[.slice none 0 0, .bool false])))
set_option maxRecDepth 100000 in
set_option maxHeartbeats 4000000 in
theorem filled_any (r n q c0 c1 : Nat) (A0 A1 : Option Addr) (m : Nat → Int) (a : Nat → Nat) (w : World) (hC : (Kd.int .u8).C w A0 n (line n m)) (hc0 : n ≤ c0) (hC1 : (Kd.int .i64).C w A1 q (line q (fun i => (a i : Int)))) (hm : ∀ i, Byt (m i))
    (hr1 : 1 ≤ r) (hr : r ≤ 255) (hn1 : 1 ≤ n) (hn : n ≤ 255) (hq : q ≤ r) (ha : ∀ i, i < q → a i < n) :
    Calls Try.prog 29 #[.int .i64 r, .slice A0 n c0, .slice A1 q c1] w (FillPost r n q a m w) := by
  have SY := Lib.hid (rsyn_calls n r c0 A0 m w hC hc0 hm (by omega) (by omega))
  have HC0 := Lib.hid (fun W (hB : Below w.heap.size w W) => Kd.C_below hC hB)
  have HA := Lib.hid (fun W (hB : Below w.heap.size w W) j (hj : j < q) => show ∃ ad, A1 = some ad ∧ W.cell? (ad.add j) = some (.int .i64 ((a j : Nat) : Int)) by
    obtain ⟨ad, e, h⟩ := at_int (Kd.C_below hC1 hB) j hj
    rw [line_get q _ j hj] at h
    exact ⟨ad, e, h⟩)
  have HM := Lib.hid hm
  have HAN := Lib.hid ha
  have HSB := Lib.hid (fun i => synF_byt (n := n) hm i)
  obtain ⟨s, hs⟩ : ∃ s, s = synF n m := ⟨_, rfl⟩
  have HS := Lib.hid hs
  rw [← hs] at SY HSB
  clear hC hC1 hm ha hs
  go_enter Try.func29, Try.ntmps29
  go_upto_region 3 with (go_at_call 11; (with_reducible refine SY.out.mono ?_); rintro e x0 ⟨A9, c9, rfl, hr9, hb9⟩; have HR9 := Lib.hid hr9; have HX := Lib.hid hb9; clear hr9 hb9)
  have HSC := Lib.hid (fun W (hB : Below x0.heap.size x0 W) j (hj : j < r) => show ∃ ad, A9 = some ad ∧ W.cell? (ad.add j) = some (.int .u8 (s j)) by
    obtain ⟨ad, e, h⟩ := at_int (Kd.C_below (R_C HR9.out).1 hB) j hj
    rw [line_get r s j hj] at h
    exact ⟨ad, e, h⟩)
  clear HR9 SY
  go_wp2
  go_loopw [8, 10, 11, 12] (fun uv iv _ _ wr => ∃ (i : Nat) (u : Value), uv = u ∧ i ≤ r ∧ iv = .int .i64 i ∧ Hid (RowsR wr x0.heap.size u (mat i (q + 1) (fillM n q a s))) ∧ Hid (Below x0.heap.size x0 wr)) (fun _ iv _ _ _ => r - (intOf iv).toNat)
  case atStart => exact ⟨0, _, rfl, by omega, rfl, Lib.hid (Kd.R_nil _ _ _ _ _), Lib.hid (Below.refl _ _)⟩
  case round =>
    obtain ⟨i, u, rfl, hi, rfl, HO, HB⟩ := hrel
    by_cases hlt : i < r
    · have g1 : (i : Int) < (r : Int) := by omega
      have g2 : (0 : Int) ≤ (i : Int) := by omega
      obtain ⟨x1, hx1⟩ : ∃ x1, x1 = wr := ⟨_, rfl⟩
      rw [← hx1] at HO HB ⊢
      clear hx1
      go_wp2
      go_loopw [11, 12] (fun uv kv wr => ∃ (k : Nat) (u : Value), uv = u ∧ k ≤ q ∧ kv = .int .i64 k ∧ Hid ((Kd.int .u8).R 5 wr x1.heap.size (fun _ => True) u (line k (fillM n q a s i))) ∧ Hid (Below x1.heap.size x1 wr)) (fun _ kv _ => q - (intOf kv).toNat)
      case atStart => exact ⟨0, _, rfl, by omega, rfl, Lib.hid (Kd.R_nil _ _ _ _ _), Lib.hid (Below.refl _ _)⟩
      case round =>
        obtain ⟨k, u, rfl, hk, rfl, HR, HB1⟩ := hrel
        have hBw := HX.out.trans ((HB.out.trans (HB1.out.mono HB.out.size)).mono HX.out.size)
        by_cases hkq : k < q
        · obtain ⟨ad1, rfl, hcell⟩ := HA.out wr hBw k hkq
          have han := HAN.out k hkq
          have hle : i * (n - 1 - a k) ≤ 1000000 := Nat.le_trans (Nat.mul_le_mul (show i ≤ 255 by omega) (show n - 1 - a k ≤ 255 by omega)) (by decide)
          have e1 : IntKind.i64.wrap ((n : Int) - 1) = (n : Int) - 1 := IntWalk.i64_in _ (by omega)
          have e2 : IntKind.i64.wrap ((n : Int) - 1 - ((a k : Nat) : Int)) = ((n - 1 - a k : Nat) : Int) := by rw [IntWalk.i64_in _ (by omega)]; omega
          have e3 : IntKind.i64.wrap ((i : Int) * ((n - 1 - a k : Nat) : Int)) = ((i * (n - 1 - a k) : Nat) : Int) := by rw [← Int.natCast_mul, IntWalk.i64_in _ (by omega)]
          have PW := Lib.hid (fun W => power_calls (i * (n - 1 - a k)) hle W)
          have HF := Lib.hid (show fillM n q a s i k = al ((i * (n - 1 - a k)) % 255) by unfold fillM; rw [if_pos hkq])
          obtain ⟨z, hz⟩ : ∃ z, z = al ((i * (n - 1 - a k)) % 255) := ⟨_, rfl⟩
          obtain ⟨p, hp⟩ : ∃ p, p = a k := ⟨_, rfl⟩
          obtain ⟨d, hd⟩ : ∃ d, d = n - 1 - p := ⟨_, rfl⟩
          rw [← hz] at PW HF
          rw [← hp] at hcell e2 e3 PW
          rw [← hd] at e2 e3 PW
          obtain ⟨id, hid⟩ : ∃ id, id = i * d := ⟨_, rfl⟩
          rw [← hid] at e3 PW
          have g3 : (k : Int) < (q : Int) := by omega
          have g4 : (0 : Int) ≤ (k : Int) := by omega
          have E1 := Lib.hid e1
          clear hle hz hp hd hid han
          go_wp2_with (first
            | (go_at_call 38; (with_reducible refine (PW.out _).mono ?_); rintro e w3 ⟨nq, rfl, hw⟩; have HQ := Lib.hid (show Below wr.heap.size wr w3 by rw [hw]; exact pw_below_drewN (Below.refl _ _) nq); clear hw)
            | (at_builtin; refine byte_append (w0 := x1) rfl x1.heap.size rfl _ _ rfl u11 (line k (fillM n q a s i)) z (fun _ => True) rfl rfl (Kd.R_below HR.out HQ.out) (fun _ _ => trivial) (HB1.out.trans (HQ.out.mono HB1.out.size)) (Nat.le_trans HB1.out.size HQ.out.size) (by rw [line_len]; omega) ?_; intro v5 w5 h5 hb5 hg5; have H5 := Lib.hid h5; have HB5 := Lib.hid hb5; clear h5 hb5 hg5))
          go_roundw
          case rel => exact ⟨k + 1, _, rfl, by omega, by go_num, by rw [line_succ, HF.out]; exact H5, HB5⟩
          case measure => simp [intOf]; omega
        · obtain rfl : k = q := by omega
          obtain ⟨ad9, rfl, hcell⟩ := HSC.out wr (HB.out.trans (HB1.out.mono HB.out.size)) i hlt
          have HROW := Lib.hid (fillM_row n k a s i)
          obtain ⟨y, hy⟩ : ∃ y, y = s i := ⟨_, rfl⟩
          rw [← hy] at hcell HROW
          clear hy hBw
          go_wp2_with (first
            | (at_builtin; refine byte_append (w0 := x1) rfl x1.heap.size rfl _ _ rfl u11 (line k (fillM n k a s i)) y (fun _ => True) rfl rfl HR.out (fun _ _ => trivial) HB1.out HB1.out.size (by rw [line_len]; omega) ?_; intro v5 w5 h5 hb5 hg5; rw [HROW.out] at h5; obtain ⟨A7, c7, e7⟩ := Kd.R_slice h5; rw [line_len] at e7; subst e7; have H5 := Lib.hid h5; have HB5 := Lib.hid hb5; clear h5 hb5 hg5)
            | (at_builtin; refine rows_append2 (w0 := x0) (wr := x1) rfl x0.heap.size rfl _ _ rfl u8 _ (mat i (k + 1) (fillM n k a s)) _ rfl rfl HO.out (HB.out.trans (HB5.out.mono HB.out.size)) HB.out.size HB5.out H5.out (by rw [mat_len]; omega) ?_; intro v6 w6 h6 hb6; have H6 := Lib.hid h6; have HB6 := Lib.hid hb6; clear h6 hb6))
          go_roundw
          case rel => exact ⟨i + 1, _, rfl, by omega, by go_num, by rw [mat_succ]; exact H6, HB6⟩
          case measure => simp [intOf]; omega
    · obtain rfl : i = r := by omega
      obtain ⟨A8, c8, e8, hl8, hC8⟩ := Kd.R_reads HO.out
      rw [mat_len] at e8 hl8 hC8
      subst e8
      have ST := Lib.hid (steps_any i (q + 1) c8 A8 (fillM n q a s) wr hC8 (fillM_byt HSB.out) hr1 (by omega) (by omega) (by omega))
      have HXw := Lib.hid (HX.out.trans (HB.out.mono HX.out.size))
      clear hC8 hl8 HO HB
      go_upto_region 13 with (go_at_call 41; (with_reducible refine ST.out.mono ?_); rintro e w5 ⟨u13, t, M, rfl, h7, hst, hb5⟩; have H7 := Lib.hid h7; have HST := Lib.hid hst; have HB5 := Lib.hid (HXw.out.trans (hb5.mono HXw.out.size)); clear h7 hst hb5)
      obtain ⟨A7, c7, e7, hl7, hC7⟩ := Kd.R_reads H7.out
      rw [mat_len] at e7 hl7 hC7
      subst e7
      have HC7 := Lib.hid (fun W (hB : Below w5.heap.size w5 W) => Kd.C_below hC7 hB)
      have HMB := Lib.hid (HST.out.byt (fillM_byt HSB.out))
      obtain ⟨x0', hx0'⟩ : ∃ x0', x0' = w5 := ⟨_, rfl⟩
      rw [← hx0'] at HB5 HC7 ⊢
      clear hx0' hC7 hl7 ST H7 HXw
      have HL0 := Lib.hid (show (Kd.int .u8).R 5 (x0'.alloc (.cells #[] 5)) x0'.heap.size (fun _ => True) (.slice (some ⟨x0'.heap.size, 0, none⟩) 0 0) [] from litR x0' x0'.heap.size (Nat.le_refl _) [] (by simp))
      have HLB := Lib.hid ((Below.refl x0'.heap.size x0').alloc (Nat.le_refl _) (.cells #[] 5))
      have HW0 := Lib.hid (HC0.out _ (HB5.out.trans (HLB.out.mono HB5.out.size)))
      go_upto_region 15 with (at_builtin; refine Kd.R_append_rows (Kd.int .u8) (w0 := x0') x0'.heap.size rfl _ _ 22 5 (.int .u8 0) 1 rfl Try.underlying22 info_byte rfl (by decide) (by decide) _ [] (line n m) A0 n c0 (fun _ => True) (fun _ => False) rfl rfl HL0.out HW0.out (fun _ _ h => h) (fun _ h => h.elim) (fun _ _ => trivial) HLB.out HLB.out.size (by simp; omega) ?_; intro v1 w6 hr2 hb2 hg2 _; obtain ⟨g, c9', hv, hgb, _, _⟩ := Kd.R_form hr2 (by rw [List.nil_append, line_len]; exact hn1); rw [List.nil_append, line_len] at hv; subst hv; have HR2 := Lib.hid hr2; have HB2 := Lib.hid hb2; have HGB := Lib.hid hgb; clear hr2 hb2 hg2 hgb)
      have HR3 := Lib.hid (show (Kd.int .u8).R 5 w6 x0'.heap.size (fun _ => True) (.slice (some ⟨g, 0, none⟩) n c9') (line n (fillF a (fun z => M z q) m 0)) from HR2.out)
      clear HL0 HLB HW0 HR2
      go_loopw [15] (fun jv wr => ∃ (j : Nat), j ≤ i ∧ jv = .int .i64 j ∧ Hid (∀ z, q ≤ z → z < j → M z q = 0) ∧ Hid ((Kd.int .u8).R 5 wr x0'.heap.size (fun _ => True) (.slice (some ⟨g, 0, none⟩) n c9') (line n (fillF a (fun z => M z q) m (min j q)))) ∧ Hid (Below x0'.heap.size x0' wr)) (fun jv _ => i - (intOf jv).toNat)
      case atStart => exact ⟨0, by omega, rfl, Lib.hid (fun z _ hz => absurd hz (Nat.not_lt_zero z)), by rw [Nat.zero_min]; exact HR3, HB2⟩
      case round =>
        clear HR3 HB2
        obtain ⟨j, hj, rfl, HZ, HR, HB⟩ := hrel
        have hBw := HB5.out.trans (HB.out.mono HB5.out.size)
        by_cases hji : j < i
        · obtain ⟨ad7, A6, c6, rfl, hrow, _, hC6⟩ := mrow (HC7.out wr HB.out) j hji
          obtain ⟨ad6, rfl, hel⟩ := at_row hC6 q (by omega)
          rw [line_get (q + 1) (M j) q (by omega)] at hel
          have g1 : (j : Int) < (i : Int) := by omega
          have g2 : (0 : Int) ≤ (j : Int) := by omega
          have g3 : (0 : Int) ≤ (q : Int) := by omega
          have g4 : (q : Int) < (q : Int) + 1 := by omega
          have HEB := Lib.hid (HMB.out j q)
          clear hC6
          by_cases hjq : j < q
          · obtain ⟨ad1, rfl, hcell⟩ := HA.out wr hBw j hjq
            have han := HAN.out j hjq
            rw [Nat.min_eq_left (by omega)] at HR
            obtain ⟨x1, x2⟩ := Kd.R_celln (0 : Int) HR.out ((a j : Nat) : Int) (by omega) (by omega)
            have x3 : rdOf (0 : Int) (line n (fillF a (fun z => M z q) m j)) ((a j : Nat) : Int) = fillF a (fun z => M z q) m j (a j) := by
              have := line_get n (fillF a (fun z => M z q) m j) (a j) han
              rw [← this]; simp [rdOf]
            rw [x3, Int.toNat_natCast] at x1
            rw [Int.toNat_natCast] at x2
            have hpn := fun k => Kd.R_putn (Kd.R_drewN HR.out k) ((a j : Nat) : Int) (xorI (fillF a (fun z => M z q) m j (a j)) (M j q))
            simp only [Int.toNat_natCast] at hpn
            rw [fillF_set n a (fun z => M z q) m j han] at hpn
            have HFB := Lib.hid (fillF_byt HM.out (fun z => HMB.out z q) (a := a) j (a j))
            obtain ⟨y, hy⟩ : ∃ y, y = fillF a (fun z => M z q) m j (a j) := ⟨_, rfl⟩
            obtain ⟨z, hz⟩ : ∃ z, z = M j q := ⟨_, rfl⟩
            obtain ⟨p, hp⟩ : ∃ p, p = a j := ⟨_, rfl⟩
            rw [← hy] at x1 HFB hpn
            rw [← hz] at hel HEB hpn
            rw [← hp] at hcell han x1 x2 hpn
            have hx := xor_bits HFB.out HEB.out
            have HPN := Lib.hid hpn
            have HBn := Lib.hid (fun k => (pw_below_drewN HB.out k).setCell (p := ⟨g, p, none⟩) HGB.out (.int .u8 (xorI y z)))
            have g5 : (j : Int) < (q : Int) := by omega
            have g6 : (p : Int) < (n : Int) := by omega
            have g7 : (0 : Int) ≤ (p : Int) := by omega
            clear hy hz hp hpn hBw x3 han
            go_wp2
            refine wp_region_still_tail 22 (by kernel_rfl) (by kernel_rfl) ?_
            change wpStill _ _ (wr.drewN 1) (fun a' => wpList _ _ _ _ a' (wr.drewN 1)) _ _
            simp only [List.take_succ_cons, List.take_zero, List.drop_succ_cons, List.drop_zero]
            iterate 22 still_step
            refine wpStill_nil ?_
            go_wp2
            go_roundw
            case rel => exact ⟨j + 1, by omega, by go_num, Lib.hid (fun z h1 h2 => absurd h1 (by omega)), by rw [Nat.min_eq_left (by omega)]; exact Lib.hid (HPN.out 1), Lib.hid (HBn.out 1)⟩
            case measure => simp [intOf]; omega
          · have g5 : ¬ (j : Int) < (q : Int) := by omega
            rw [Nat.min_eq_right (by omega)] at HR
            by_cases hz0 : M j q = 0
            · rw [hz0] at hel
              have HZ0 := Lib.hid hz0
              clear hz0
              go_wp2
              go_roundw
              case rel => exact ⟨j + 1, by omega, by go_num, Lib.hid (fun z h1 h2 => by
                rcases Nat.lt_or_ge z j with h | h
                · exact HZ.out z h1 h
                · obtain rfl : z = j := by omega
                  exact HZ0.out), by rw [Nat.min_eq_right (by omega)]; exact HR, HB⟩
              case measure => simp [intOf]; omega
            · have t1 : (M j q != 0) = true := by simp [hz0]
              have t2 : (M j q == 0) = false := by simp [hz0]
              have HZ0 := Lib.hid hz0
              go_wp2
              go_ret2
              exact ⟨t, M, by rw [← HS.out]; exact HST.out, hBw, .inr ⟨⟨j, by omega, hji, HZ0.out⟩, rfl⟩⟩
        · obtain rfl : j = i := by omega
          rw [Nat.min_eq_right hq] at HR
          have HBW := Lib.hid hBw
          clear hBw
          go_wp2
          go_ret2
          exact ⟨t, M, by rw [← HS.out]; exact HST.out, HBW.out, .inl ⟨HZ.out, _, _, rfl, Kd.R_lower HR.out HB5.out.size⟩⟩
end Go.Proofs.Ytcneobnplhffmaa.Rsc
/- Reed and Solomon's codes: the document's generator, walked. -/
namespace Go.Proofs.Ytcneobnplhffmaa.Rsc
open Go Go.RowKit Go.Proofs.Ytcneobnplhffmaa.PRsEncodes Go.Proofs.Ytcneobnplhffmaa.BRsEncodes Go.Proofs.Ytcneobnplhffmaa.Gf Go.Proofs.Ytcneobnplhffmaa.Gi Go.Proofs.Ytcneobnplhffmaa.Bits Go.Proofs.Ytcneobnplhffmaa.Mem Go.Proofs.Ytcneobnplhffmaa.Alg Go.Proofs.Ytcneobnplhffmaa.Sol Go.Proofs.Ytcneobnplhffmaa.Rws Go.Proofs.Ytcneobnplhffmaa.Cat Go.Proofs.YtcneobnplhffmaaW.PrintWords Go.Proofs.YtcneobnplhffmaaW.PrintLast
set_option linter.unusedVariables false

/-- The next one, t bytes of it made. -/
def nx (r t : Nat) : Nat → Int := fun j => if j < t then gen (r + 1) j else if j = t ∧ 0 < t then gen r (t - 1) else 0
theorem nx_byt (r t j : Nat) : Byt (nx r t j) := by
  unfold nx
  split
  · exact gen_byt _ _
  · split
    · exact gen_byt _ _
    · exact byt0
theorem nx_at (r t : Nat) : xorI (nx r t t) (gmI (gen r t) (al r)) = gen (r + 1) t := by
  unfold nx
  rw [if_neg (Nat.lt_irrefl t), gen]
  by_cases h : 0 < t
  · rw [if_pos ⟨rfl, h⟩, if_pos h]
  · rw [if_neg (fun e => h e.2), if_neg h]
theorem nx_step (r t : Nat) (ht : t < r + 1) : ((line (r + 2) (nx r t)).set t (gen (r + 1) t)) = line (r + 2) (fun j => if j = t then gen (r + 1) t else nx r t j) := line_set _ _ _ (by omega) _
theorem nx_step2 (r t : Nat) (ht : t < r + 1) : (line (r + 2) (fun j => if j = t then gen (r + 1) t else nx r t j)).set (t + 1) (gen r t) = line (r + 2) (nx r (t + 1)) := by
  rw [line_set _ _ _ (by omega)]
  refine line_congr _ _ _ (fun j hj => ?_)
  unfold nx
  by_cases e : j = t + 1
  · rw [if_pos e, if_neg (by omega), if_pos (by omega), Nat.add_sub_cancel]
  · rw [if_neg e]
    by_cases h : j = t
    · rw [if_pos h, if_pos (by omega), h]
    · rw [if_neg h]
      by_cases h2 : j < t
      · rw [if_pos h2, if_pos (by omega)]
      · rw [if_neg h2, if_neg (by omega), if_neg (by omega), if_neg (by omega)]
theorem nx_zero (r : Nat) : line (r + 2) (nx r 0) = List.replicate (r + 2) 0 := by
  rw [← line_zero]
  exact line_congr _ _ _ (fun j hj => by unfold nx; rw [if_neg (by omega), if_neg (by omega)])
theorem nx_end (r : Nat) : line (r + 2) (nx r (r + 1)) = line (r + 2) (gen (r + 1)) := by
  refine line_congr _ _ _ (fun j hj => ?_)
  unfold nx
  by_cases h : j < r + 1
  · rw [if_pos h]
  · obtain rfl : j = r + 1 := by omega
    rw [if_neg h, if_pos ⟨rfl, by omega⟩, Nat.add_sub_cancel, gen_lead, gen_lead]
theorem rmul_calls (a b : Int) (ha : Byt a) (hb : Byt b) (W : World) : Calls Try.prog 37 #[.int .u8 a, .int .u8 b] W fun e w' => e = .returned (.int .u8 (gmI a b)) ∧ Below W.heap.size W w' := by
  refine (coldframeref02_Mul.calls 100 a b _ W (mulI 100 a b ha hb (by decide))).mono ?_
  rintro e w' ⟨rfl, hd⟩
  exact ⟨rfl, hd.below⟩
theorem joinC {G : Prop} (Inv : World → Prop) {C : World → Prop} (h1 : (∀ w, Inv w → C w) → G) (h2 : ∀ w, Inv w → C w) : G := h1 h2
theorem cell_of {W : World} {base g n cap : Nat} {f : Nat → Int} (h : (Kd.int .u8).R 5 W base (fun _ => True) (.slice (some ⟨g, 0, none⟩) n cap) (line n f)) (i : Nat) (hi : i < n) : W.cell? ⟨g, i, none⟩ = some (.int .u8 (f i)) ∧ W.frozen? ⟨g, i, none⟩ = false := by
  obtain ⟨x1, x2⟩ := Kd.R_celln (0 : Int) h (i : Int) (by omega) (by omega)
  have x3 : rdOf (0 : Int) (line n f) (i : Int) = f i := by
    rw [← line_get n f i hi]; simp [rdOf]
  rw [x3, Int.toNat_natCast] at x1
  rw [Int.toNat_natCast] at x2
  exact ⟨x1, x2⟩
theorem put_of {W : World} {base g n cap : Nat} {xs : List Int} (h : (Kd.int .u8).R 5 W base (fun _ => True) (.slice (some ⟨g, 0, none⟩) n cap) xs) (i : Nat) (x : Int) : (Kd.int .u8).R 5 (W.setCell ⟨g, i, none⟩ (.int .u8 x)) base (fun _ => True) (.slice (some ⟨g, 0, none⟩) n cap) (xs.set i x) := by
  have := Kd.R_putn h (i : Int) x
  simp only [Int.toNat_natCast] at this
  exact this
set_option maxRecDepth 100000 in
set_option maxHeartbeats 4000000 in
theorem refgen_calls (r : Nat) (hr : r ≤ 100) (w : World) :
    Calls Try.prog 19 #[.int .i64 r] w fun e w' => ∃ A' c', e = .returned (.slice A' (r + 1) c') ∧ (Kd.int .u8).R 5 w' w.heap.size (fun _ => True) (.slice A' (r + 1) c') (line (r + 1) (gen r)) ∧ Below w.heap.size w w' := by
  have HR0 := Lib.hid (litR w w.heap.size (Nat.le_refl _) [1] (by simp))
  have HB0 := Lib.hid ((Below.refl w.heap.size w).alloc (Nat.le_refl _) (.cells (nums .u8 [1]).toArray 5))
  go_enter Try.func19, Try.ntmps19
  go_wp2
  go_loopw [3, 4, 5, 6] (fun uv iv _ _ wr => ∃ (i : Nat) (A : Option Addr) (c : Nat), uv = .slice A (i + 1) c ∧ i ≤ r ∧ iv = .int .i64 i ∧ Hid ((Kd.int .u8).R 5 wr w.heap.size (fun _ => True) (.slice A (i + 1) c) (line (i + 1) (gen i))) ∧ Hid (Below w.heap.size w wr)) (fun _ iv _ _ _ => r - (intOf iv).toNat)
  case atStart => exact ⟨0, _, _, rfl, by omega, rfl, HR0, HB0⟩
  case round =>
    clear HR0 HB0
    obtain ⟨i, A, c, rfl, hi, rfl, HR, HB⟩ := hrel
    by_cases hlt : i < r
    · have g1 : (i : Int) < (r : Int) := by omega
      have g2 : (0 : Int) ≤ (i : Int) := by omega
      have e0 : IntKind.i64.wrap (((i + 1 : Nat) : Int) + 1) = ((i + 2 : Nat) : Int) := by rw [IntWalk.i64_in _ (by omega)]; omega
      have e0' : IntKind.i64.wrap ((i : Int) + 1 + 1) = ((i + 2 : Nat) : Int) := by rw [IntWalk.i64_in _ (by omega)]; omega
      obtain ⟨x1, hx1⟩ : ∃ x1, x1 = wr := ⟨_, rfl⟩
      rw [← hx1] at HR HB ⊢
      clear hx1
      have hCC := (R_C HR.out).1
      obtain ⟨ad3, rfl, _⟩ := at_row hCC 0 (by omega)
      have HC3 := Lib.hid (fun W (hB : Below x1.heap.size x1 W) j (hj : j < i + 1) => show W.cell? (ad3.add j) = some (.int .u8 (gen i j)) by
        obtain ⟨a, e, h⟩ := at_row (Kd.C_below hCC hB) j hj
        injection e with e
        rw [line_get (i + 1) (gen i) j hj, ← e] at h
        exact h)
      clear hCC
      go_wp2_with (at_make; refine Kd.R_make (Kd.int .u8) x1.heap.size 5 rfl (N := 16) rfl 22 _ _ rfl ((i + 2 : Nat) : Int) rfl rfl Try.underlying22 (.int .u8 0) 1 info_byte rfl (by decide) (by decide) 0 (ok := fun _ => True) (okp := fun _ => True) rfl (fun _ hk => hk) trivial (by omega) (by omega) (Below.refl _ _) (Nat.le_refl _) ?_; intro v3 w3 h3 hb3 hg3 hf3; simp only [Int.toNat_natCast] at h3; obtain ⟨g, c3, hv3, hgb, _, _⟩ := Kd.R_form h3 (by rw [List.length_replicate]; omega); rw [List.length_replicate] at hv3; subst hv3; have HN0 := Lib.hid h3; have HNB := Lib.hid hb3; have HGB := Lib.hid hgb; clear h3 hb3 hg3 hf3 hgb)
      have HN1 := Lib.hid (show (Kd.int .u8).R 5 w3 x1.heap.size (fun _ => True) (.slice (some ⟨g, 0, none⟩) (i + 2) c3) (line (i + 2) (nx i 0)) by rw [nx_zero]; exact HN0.out)
      clear HN0 e0 e0'
      go_loopw [6] (fun tv wr => ∃ (t : Nat), t ≤ i + 1 ∧ tv = .int .i64 t ∧ Hid ((Kd.int .u8).R 5 wr x1.heap.size (fun _ => True) (.slice (some ⟨g, 0, none⟩) (i + 2) c3) (line (i + 2) (nx i t))) ∧ Hid (Below x1.heap.size x1 wr)) (fun tv _ => i + 1 - (intOf tv).toNat)
      case atStart => exact ⟨0, by omega, rfl, HN1, HNB⟩
      case round =>
        clear HN1 HNB
        obtain ⟨t, ht, rfl, HN, HNB⟩ := hrel
        by_cases htl : t < i + 1
        · have g3 : (0 : Int) ≤ (t : Int) := by omega
          have g4 : (t : Int) < (i : Int) + 1 := by omega
          have g5 : (t : Int) < (i : Int) + 2 := by omega
          have g6 : (t : Int) + 1 < (i : Int) + 2 := by omega
          have g7 : (0 : Int) ≤ (t : Int) + 1 := by omega
          have g8 : ((t : Int) + 1).toNat = t + 1 := by omega
          have e1 : IntKind.i64.wrap ((t : Int) + 1) = (t : Int) + 1 := IntWalk.i64_in _ (by omega)
          have KC := Lib.hid (fun W (hB : Below x1.heap.size x1 W) => HC3.out W hB t htl)
          have HXY := Lib.hid (cell_of HN.out t (by omega))
          have HAT := Lib.hid (nx_at i t)
          have HYB := Lib.hid (nx_byt i t t)
          have HZB := Lib.hid (gen_byt i t)
          have PW := Lib.hid (fun W => power_calls i (by omega) W)
          rw [al_mod] at PW
          have ML := Lib.hid (fun W => rmul_calls (gen i t) (al i) (gen_byt i t) (al_byt i) W)
          have HPB := Lib.hid (gmI_byt (b := al i) (gen_byt i t))
          obtain ⟨y, hy⟩ : ∃ y, y = nx i t t := ⟨_, rfl⟩
          obtain ⟨z, hz⟩ : ∃ z, z = gen i t := ⟨_, rfl⟩
          obtain ⟨a, ha⟩ : ∃ a, a = al i := ⟨_, rfl⟩
          rw [← hy] at HXY HAT HYB
          rw [← hz] at KC HAT HZB ML HPB
          rw [← ha] at HAT PW ML HPB
          obtain ⟨p, hp⟩ : ∃ p, p = gmI z a := ⟨_, rfl⟩
          rw [← hp] at HAT ML HPB
          have hx := Lib.hid (xor_bits HYB.out HPB.out)
          have HZ := Lib.hid hz
          clear hz hp
          have HY := Lib.hid hy
          have HA := Lib.hid ha
          clear hy ha
          have KG := Lib.hid (fun W (hB : Below wr.heap.size wr W) => show W.cell? ⟨g, t, none⟩ = some (.int .u8 y) ∧ W.frozen? ⟨g, t, none⟩ = false by rw [HY.out]; exact cell_of (Kd.R_below HN.out hB) t (by omega))
          have h5 := hx.out
          go_upto_region 9 with (fail)
          have HQ := Lib.hid (show Below wr.heap.size wr wr.drew from (Below.refl _ _).drew)
          apply joinC (fun W => (Kd.int .u8).R 5 W x1.heap.size (fun _ => True) (.slice (some ⟨g, 0, none⟩) (i + 2) c3) (line (i + 2) (fun j => if j = t then gen (i + 1) t else nx i t j)) ∧ Below x1.heap.size x1 W)
          · intro REST
            refine wp_region_noPanic ?_
            refine wp_region_held_drew (S := (fun W => W.cell? (ad3.add t) = some (.int .u8 z))) (by kernel_rfl) ?_ (fun hHeld => ?_)
            · ((try dsimp only); exact KC.out _ (HNB.out.trans (HQ.out.mono HNB.out.size)))
            refine wpAnyH_take (i := 0) (oi := { dst := some 23, op := Go.Op.move (Go.Operand.tmp 5), type := 22, pos := "ref.go:39", after := #[], guard := none }) (v := ?_) rfl (by kernel_rfl) (by kernel_rfl) (by kernel_rfl) (fun _ _ _ h => h) (Or.inl ⟨by rfl, ?_⟩) (by assumption) ?_
            rotate_left 1
            · (intro w hSw; (try dsimp only at hSw); go_simp; try with_reducible rfl)
            try simp only [Act.put, List.setIfInBounds_toArray, List.set_cons_zero, List.set_cons_succ]
            refine wpAnyH_take (i := 1) (oi := { dst := some 24, op := Go.Op.move (Go.Operand.tmp 6), type := 3, pos := "ref.go:39", after := #[], guard := none }) (v := ?_) rfl (by kernel_rfl) (by kernel_rfl) (by kernel_rfl) (fun _ _ _ h => h) (Or.inl ⟨by rfl, ?_⟩) (by assumption) ?_
            rotate_left 1
            · (intro w hSw; (try dsimp only at hSw); go_simp; try with_reducible rfl)
            try simp only [Act.put, List.setIfInBounds_toArray, List.set_cons_zero, List.set_cons_succ]
            refine wpAnyH_take (i := 2) (oi := { dst := some 25, op := Go.Op.move (Go.Operand.tmp 5), type := 22, pos := "ref.go:39", after := #[], guard := none }) (v := ?_) rfl (by kernel_rfl) (by kernel_rfl) (by kernel_rfl) (fun _ _ _ h => h) (Or.inl ⟨by rfl, ?_⟩) (by assumption) ?_
            rotate_left 1
            · (intro w hSw; (try dsimp only at hSw); go_simp; try with_reducible rfl)
            try simp only [Act.put, List.setIfInBounds_toArray, List.set_cons_zero, List.set_cons_succ]
            refine wpAnyH_take (i := 3) (oi := { dst := some 26, op := Go.Op.move (Go.Operand.tmp 6), type := 3, pos := "ref.go:39", after := #[], guard := none }) (v := ?_) rfl (by kernel_rfl) (by kernel_rfl) (by kernel_rfl) (fun _ _ _ h => h) (Or.inl ⟨by rfl, ?_⟩) (by assumption) ?_
            rotate_left 1
            · (intro w hSw; (try dsimp only at hSw); go_simp; try with_reducible rfl)
            try simp only [Act.put, List.setIfInBounds_toArray, List.set_cons_zero, List.set_cons_succ]
            refine wpAnyH_take (i := 4) (oi := { dst := some 27, op := Go.Op.indexAddr 22 (Go.Operand.tmp 25) (Go.Operand.tmp 26), type := 0, pos := "ref.go:39", after := #[{ on := 2, ground := Go.Ground.data }, { on := 3, ground := Go.Ground.data }], guard := none }) (v := ?_) rfl (by kernel_rfl) (by kernel_rfl) (by kernel_rfl) (fun _ _ _ h => h) (Or.inl ⟨by rfl, ?_⟩) (by assumption) ?_
            rotate_left 1
            · (intro w hSw; (try dsimp only at hSw); go_simp; try with_reducible rfl)
            try simp only [Act.put, List.setIfInBounds_toArray, List.set_cons_zero, List.set_cons_succ]
            refine wpAnyH_take (i := 6) (oi := { dst := some 29, op := Go.Op.move (Go.Operand.tmp 3), type := 22, pos := "ref.go:39", after := #[], guard := none }) (v := ?_) rfl (by kernel_rfl) (by kernel_rfl) (by kernel_rfl) (fun _ _ _ h => h) (Or.inl ⟨by rfl, ?_⟩) (by assumption) ?_
            rotate_left 1
            · (intro w hSw; (try dsimp only at hSw); go_simp; try with_reducible rfl)
            try simp only [Act.put, List.setIfInBounds_toArray, List.set_cons_zero, List.set_cons_succ]
            refine wpAnyH_take (i := 7) (oi := { dst := some 30, op := Go.Op.move (Go.Operand.tmp 6), type := 3, pos := "ref.go:39", after := #[], guard := none }) (v := ?_) rfl (by kernel_rfl) (by kernel_rfl) (by kernel_rfl) (fun _ _ _ h => h) (Or.inl ⟨by rfl, ?_⟩) (by assumption) ?_
            rotate_left 1
            · (intro w hSw; (try dsimp only at hSw); go_simp; try with_reducible rfl)
            try simp only [Act.put, List.setIfInBounds_toArray, List.set_cons_zero, List.set_cons_succ]
            refine wpAnyH_take (i := 8) (oi := { dst := some 31, op := Go.Op.indexAddr 22 (Go.Operand.tmp 29) (Go.Operand.tmp 30), type := 0, pos := "ref.go:39", after := #[{ on := 6, ground := Go.Ground.data }, { on := 7, ground := Go.Ground.data }], guard := none }) (v := ?_) rfl (by kernel_rfl) (by kernel_rfl) (by kernel_rfl) (fun _ _ _ h => h) (Or.inl ⟨by rfl, ?_⟩) (by assumption) ?_
            rotate_left 1
            · (intro w hSw; (try dsimp only at hSw); go_simp; try with_reducible rfl)
            try simp only [Act.put, List.setIfInBounds_toArray, List.set_cons_zero, List.set_cons_succ]
            refine wpAnyH_take (i := 9) (oi := { dst := some 32, op := Go.Op.load 5 (Go.Operand.tmp 31), type := 5, pos := "ref.go:39", after := #[{ on := 8, ground := Go.Ground.data }], guard := none }) (v := ?_) rfl (by kernel_rfl) (by kernel_rfl) (by kernel_rfl) (fun _ _ _ h => h) (Or.inl ⟨by rfl, ?_⟩) (by assumption) ?_
            rotate_left 1
            · (intro w hSw; (try dsimp only at hSw); go_simp; try with_reducible rfl)
            try simp only [Act.put, List.setIfInBounds_toArray, List.set_cons_zero, List.set_cons_succ]
            refine wpAnyH_take (i := 10) (oi := { dst := some 33, op := Go.Op.move (Go.Operand.tmp 4), type := 3, pos := "ref.go:39", after := #[], guard := none }) (v := ?_) rfl (by kernel_rfl) (by kernel_rfl) (by kernel_rfl) (fun _ _ _ h => h) (Or.inl ⟨by rfl, ?_⟩) (by assumption) ?_
            rotate_left 1
            · (intro w hSw; (try dsimp only at hSw); go_simp; try with_reducible rfl)
            try simp only [Act.put, List.setIfInBounds_toArray, List.set_cons_zero, List.set_cons_succ]
            refine wpAnyH_ready (rs := [5, 11]) (by kernel_rfl) (by simp) ?_
            refine AllReadyH.cons (o := { dst := some 28, op := Go.Op.load 5 (Go.Operand.tmp 27), type := 5, pos := "ref.go:39", after := #[{ on := 4, ground := Go.Ground.data }], guard := none }) rfl (fun K hK => ?_) ?_
            · have kk := KG.out _ HQ.out; obtain ⟨kk1, kk2⟩ := kk; go_simp
              clear hHeld
              refine hK.out _ _ ?_ (fun hHeld => ?_)
              · ((try dsimp only); exact KC.out _ (HNB.out.trans (HQ.out.mono HNB.out.size)))
              clear hK K
              refine wpAnyH_ready (rs := [11]) (by kernel_rfl) (by simp) ?_
              refine AllReadyH.cons (o := { dst := some 34, op := Go.Op.call { callee := Go.Callee.value (Go.Operand.func 38), args := #[Go.Operand.tmp 33], argTypes := #[3] }, type := 5, pos := "ref.go:39", after := #[{ on := 10, ground := Go.Ground.data }], guard := none }) rfl (fun K hK => ?_) AllReadyH.nil
              go_simp
              go_at_call 38
              (refine (PW.out _).mono ?_); rintro e u1 ⟨q, rfl, hw⟩
              replace HQ := Lib.hid (HQ.out.trans (show Below _ _ u1 by rw [hw]; exact (pw_below_drewN (Below.refl _ _) q).mono HQ.out.size))
              clear hw
              clear hHeld
              refine hK.out _ _ ?_ (fun hHeld => ?_)
              · ((try dsimp only); exact KC.out _ (HNB.out.trans (HQ.out.mono HNB.out.size)))
              clear hK K
              refine wpAnyH_ready (rs := [12]) (by kernel_rfl) (by simp) ?_
              refine AllReadyH.cons (o := { dst := some 35, op := Go.Op.call { callee := Go.Callee.value (Go.Operand.func 37), args := #[Go.Operand.tmp 32, Go.Operand.tmp 34], argTypes := #[5, 5] }, type := 5, pos := "ref.go:39", after := #[{ on := 9, ground := Go.Ground.data }, { on := 11, ground := Go.Ground.data }, { on := 11, ground := Go.Ground.chain }], guard := none }) rfl (fun K hK => ?_) AllReadyH.nil
              go_simp
              go_at_call 37
              (refine (ML.out _).mono ?_); rintro e u2 ⟨rfl, hb⟩
              replace HQ := Lib.hid (HQ.out.trans (hb.mono HQ.out.size))
              clear hb
              clear hHeld
              refine hK.out _ _ ?_ (fun hHeld => ?_)
              · ((try dsimp only); exact KC.out _ (HNB.out.trans (HQ.out.mono HNB.out.size)))
              clear hK K
              refine wpAnyH_take (i := 13) (oi := { dst := some 36, op := Go.Op.binOp Go.BinOp.xor 5 (Go.Operand.tmp 28) (Go.Operand.tmp 35) 5, type := 5, pos := "ref.go:39", after := #[{ on := 5, ground := Go.Ground.data }, { on := 12, ground := Go.Ground.data }], guard := none }) (v := ?_) rfl (by kernel_rfl) (by kernel_rfl) (by kernel_rfl) (fun _ _ _ h => h) (Or.inl ⟨by rfl, ?_⟩) (by assumption) ?_
              rotate_left 1
              · (intro w hSw; (try dsimp only at hSw); go_simp; try with_reducible rfl)
              try simp only [Act.put, List.setIfInBounds_toArray, List.set_cons_zero, List.set_cons_succ]
              refine wpAnyH_take (i := 14) (oi := { dst := some 37, op := Go.Op.indexAddr 22 (Go.Operand.tmp 23) (Go.Operand.tmp 24), type := 0, pos := "ref.go:39", after := #[{ on := 0, ground := Go.Ground.data }, { on := 1, ground := Go.Ground.data }, { on := 0, ground := Go.Ground.phase }, { on := 1, ground := Go.Ground.phase }, { on := 2, ground := Go.Ground.phase }, { on := 3, ground := Go.Ground.phase }, { on := 4, ground := Go.Ground.phase }, { on := 5, ground := Go.Ground.phase }, { on := 6, ground := Go.Ground.phase }, { on := 7, ground := Go.Ground.phase }, { on := 8, ground := Go.Ground.phase }, { on := 9, ground := Go.Ground.phase }, { on := 10, ground := Go.Ground.phase }, { on := 11, ground := Go.Ground.phase }, { on := 12, ground := Go.Ground.phase }, { on := 13, ground := Go.Ground.phase }], guard := none }) (v := ?_) rfl (by kernel_rfl) (by kernel_rfl) (by kernel_rfl) (fun _ _ _ h => h) (Or.inl ⟨by rfl, ?_⟩) (by assumption) ?_
              rotate_left 1
              · (intro w hSw; (try dsimp only at hSw); go_simp; try with_reducible rfl)
              try simp only [Act.put, List.setIfInBounds_toArray, List.set_cons_zero, List.set_cons_succ]
              refine wpAnyH_ready (rs := [15]) (by kernel_rfl) (by simp) ?_
              refine AllReadyH.cons (o := { dst := none, op := Go.Op.store 5 (Go.Operand.tmp 37) (Go.Operand.tmp 36), type := 0, pos := "ref.go:39", after := #[{ on := 14, ground := Go.Ground.data }, { on := 13, ground := Go.Ground.data }, { on := 12, ground := Go.Ground.chain }, { on := 0, ground := Go.Ground.phase }, { on := 1, ground := Go.Ground.phase }, { on := 2, ground := Go.Ground.phase }, { on := 3, ground := Go.Ground.phase }, { on := 4, ground := Go.Ground.phase }, { on := 5, ground := Go.Ground.phase }, { on := 6, ground := Go.Ground.phase }, { on := 7, ground := Go.Ground.phase }, { on := 8, ground := Go.Ground.phase }, { on := 9, ground := Go.Ground.phase }, { on := 10, ground := Go.Ground.phase }, { on := 11, ground := Go.Ground.phase }, { on := 12, ground := Go.Ground.phase }, { on := 13, ground := Go.Ground.phase }], guard := none }) rfl (fun K hK => ?_) AllReadyH.nil
              have kk := KG.out _ HQ.out; obtain ⟨kk1, kk2⟩ := kk; go_simp
              have HB15 := Lib.hid ((HNB.out.trans (HQ.out.mono HNB.out.size)).setCell (p := ⟨g, t, none⟩) HGB.out (.int .u8 (xorI y p)))
              have hr15 := put_of (Kd.R_below HN.out HQ.out) t (xorI y p)
              rw [show (line (i + 2) (nx i t)).set t (xorI y p) = line (i + 2) (fun j => if j = t then gen (i + 1) t else nx i t j) by rw [HAT.out]; exact nx_step i t htl] at hr15
              have HR15 := Lib.hid hr15
              clear hr15 kk1 kk2
              clear hHeld
              refine hK.out _ _ ?_ (fun hHeld => ?_)
              · ((try dsimp only); exact KC.out _ HB15.out)
              clear hK K
              refine wpAnyH_done (by kernel_rfl) ?_ _
              refine NoPanic.normal ?_
              exact REST _ ⟨HR15.out, HB15.out⟩
            refine AllReadyH.cons (o := { dst := some 34, op := Go.Op.call { callee := Go.Callee.value (Go.Operand.func 38), args := #[Go.Operand.tmp 33], argTypes := #[3] }, type := 5, pos := "ref.go:39", after := #[{ on := 10, ground := Go.Ground.data }], guard := none }) rfl (fun K hK => ?_) AllReadyH.nil
            go_simp
            go_at_call 38
            (refine (PW.out _).mono ?_); rintro e u1 ⟨q, rfl, hw⟩
            replace HQ := Lib.hid (HQ.out.trans (show Below _ _ u1 by rw [hw]; exact (pw_below_drewN (Below.refl _ _) q).mono HQ.out.size))
            clear hw
            clear hHeld
            refine hK.out _ _ ?_ (fun hHeld => ?_)
            · ((try dsimp only); exact KC.out _ (HNB.out.trans (HQ.out.mono HNB.out.size)))
            clear hK K
            refine wpAnyH_ready (rs := [5, 12]) (by kernel_rfl) (by simp) ?_
            refine AllReadyH.cons (o := { dst := some 28, op := Go.Op.load 5 (Go.Operand.tmp 27), type := 5, pos := "ref.go:39", after := #[{ on := 4, ground := Go.Ground.data }], guard := none }) rfl (fun K hK => ?_) ?_
            · have kk := KG.out _ HQ.out; obtain ⟨kk1, kk2⟩ := kk; go_simp
              clear hHeld
              refine hK.out _ _ ?_ (fun hHeld => ?_)
              · ((try dsimp only); exact KC.out _ (HNB.out.trans (HQ.out.mono HNB.out.size)))
              clear hK K
              refine wpAnyH_ready (rs := [12]) (by kernel_rfl) (by simp) ?_
              refine AllReadyH.cons (o := { dst := some 35, op := Go.Op.call { callee := Go.Callee.value (Go.Operand.func 37), args := #[Go.Operand.tmp 32, Go.Operand.tmp 34], argTypes := #[5, 5] }, type := 5, pos := "ref.go:39", after := #[{ on := 9, ground := Go.Ground.data }, { on := 11, ground := Go.Ground.data }, { on := 11, ground := Go.Ground.chain }], guard := none }) rfl (fun K hK => ?_) AllReadyH.nil
              go_simp
              go_at_call 37
              (refine (ML.out _).mono ?_); rintro e u2 ⟨rfl, hb⟩
              replace HQ := Lib.hid (HQ.out.trans (hb.mono HQ.out.size))
              clear hb
              clear hHeld
              refine hK.out _ _ ?_ (fun hHeld => ?_)
              · ((try dsimp only); exact KC.out _ (HNB.out.trans (HQ.out.mono HNB.out.size)))
              clear hK K
              refine wpAnyH_take (i := 13) (oi := { dst := some 36, op := Go.Op.binOp Go.BinOp.xor 5 (Go.Operand.tmp 28) (Go.Operand.tmp 35) 5, type := 5, pos := "ref.go:39", after := #[{ on := 5, ground := Go.Ground.data }, { on := 12, ground := Go.Ground.data }], guard := none }) (v := ?_) rfl (by kernel_rfl) (by kernel_rfl) (by kernel_rfl) (fun _ _ _ h => h) (Or.inl ⟨by rfl, ?_⟩) (by assumption) ?_
              rotate_left 1
              · (intro w hSw; (try dsimp only at hSw); go_simp; try with_reducible rfl)
              try simp only [Act.put, List.setIfInBounds_toArray, List.set_cons_zero, List.set_cons_succ]
              refine wpAnyH_take (i := 14) (oi := { dst := some 37, op := Go.Op.indexAddr 22 (Go.Operand.tmp 23) (Go.Operand.tmp 24), type := 0, pos := "ref.go:39", after := #[{ on := 0, ground := Go.Ground.data }, { on := 1, ground := Go.Ground.data }, { on := 0, ground := Go.Ground.phase }, { on := 1, ground := Go.Ground.phase }, { on := 2, ground := Go.Ground.phase }, { on := 3, ground := Go.Ground.phase }, { on := 4, ground := Go.Ground.phase }, { on := 5, ground := Go.Ground.phase }, { on := 6, ground := Go.Ground.phase }, { on := 7, ground := Go.Ground.phase }, { on := 8, ground := Go.Ground.phase }, { on := 9, ground := Go.Ground.phase }, { on := 10, ground := Go.Ground.phase }, { on := 11, ground := Go.Ground.phase }, { on := 12, ground := Go.Ground.phase }, { on := 13, ground := Go.Ground.phase }], guard := none }) (v := ?_) rfl (by kernel_rfl) (by kernel_rfl) (by kernel_rfl) (fun _ _ _ h => h) (Or.inl ⟨by rfl, ?_⟩) (by assumption) ?_
              rotate_left 1
              · (intro w hSw; (try dsimp only at hSw); go_simp; try with_reducible rfl)
              try simp only [Act.put, List.setIfInBounds_toArray, List.set_cons_zero, List.set_cons_succ]
              refine wpAnyH_ready (rs := [15]) (by kernel_rfl) (by simp) ?_
              refine AllReadyH.cons (o := { dst := none, op := Go.Op.store 5 (Go.Operand.tmp 37) (Go.Operand.tmp 36), type := 0, pos := "ref.go:39", after := #[{ on := 14, ground := Go.Ground.data }, { on := 13, ground := Go.Ground.data }, { on := 12, ground := Go.Ground.chain }, { on := 0, ground := Go.Ground.phase }, { on := 1, ground := Go.Ground.phase }, { on := 2, ground := Go.Ground.phase }, { on := 3, ground := Go.Ground.phase }, { on := 4, ground := Go.Ground.phase }, { on := 5, ground := Go.Ground.phase }, { on := 6, ground := Go.Ground.phase }, { on := 7, ground := Go.Ground.phase }, { on := 8, ground := Go.Ground.phase }, { on := 9, ground := Go.Ground.phase }, { on := 10, ground := Go.Ground.phase }, { on := 11, ground := Go.Ground.phase }, { on := 12, ground := Go.Ground.phase }, { on := 13, ground := Go.Ground.phase }], guard := none }) rfl (fun K hK => ?_) AllReadyH.nil
              have kk := KG.out _ HQ.out; obtain ⟨kk1, kk2⟩ := kk; go_simp
              have HB15 := Lib.hid ((HNB.out.trans (HQ.out.mono HNB.out.size)).setCell (p := ⟨g, t, none⟩) HGB.out (.int .u8 (xorI y p)))
              have hr15 := put_of (Kd.R_below HN.out HQ.out) t (xorI y p)
              rw [show (line (i + 2) (nx i t)).set t (xorI y p) = line (i + 2) (fun j => if j = t then gen (i + 1) t else nx i t j) by rw [HAT.out]; exact nx_step i t htl] at hr15
              have HR15 := Lib.hid hr15
              clear hr15 kk1 kk2
              clear hHeld
              refine hK.out _ _ ?_ (fun hHeld => ?_)
              · ((try dsimp only); exact KC.out _ HB15.out)
              clear hK K
              refine wpAnyH_done (by kernel_rfl) ?_ _
              refine NoPanic.normal ?_
              exact REST _ ⟨HR15.out, HB15.out⟩
            refine AllReadyH.cons (o := { dst := some 35, op := Go.Op.call { callee := Go.Callee.value (Go.Operand.func 37), args := #[Go.Operand.tmp 32, Go.Operand.tmp 34], argTypes := #[5, 5] }, type := 5, pos := "ref.go:39", after := #[{ on := 9, ground := Go.Ground.data }, { on := 11, ground := Go.Ground.data }, { on := 11, ground := Go.Ground.chain }], guard := none }) rfl (fun K hK => ?_) AllReadyH.nil
            go_simp
            go_at_call 37
            (refine (ML.out _).mono ?_); rintro e u2 ⟨rfl, hb⟩
            replace HQ := Lib.hid (HQ.out.trans (hb.mono HQ.out.size))
            clear hb
            clear hHeld
            refine hK.out _ _ ?_ (fun hHeld => ?_)
            · ((try dsimp only); exact KC.out _ (HNB.out.trans (HQ.out.mono HNB.out.size)))
            clear hK K
            refine wpAnyH_ready (rs := [5]) (by kernel_rfl) (by simp) ?_
            refine AllReadyH.cons (o := { dst := some 28, op := Go.Op.load 5 (Go.Operand.tmp 27), type := 5, pos := "ref.go:39", after := #[{ on := 4, ground := Go.Ground.data }], guard := none }) rfl (fun K hK => ?_) AllReadyH.nil
            have kk := KG.out _ HQ.out; obtain ⟨kk1, kk2⟩ := kk; go_simp
            clear hHeld
            refine hK.out _ _ ?_ (fun hHeld => ?_)
            · ((try dsimp only); exact KC.out _ (HNB.out.trans (HQ.out.mono HNB.out.size)))
            clear hK K
            refine wpAnyH_take (i := 13) (oi := { dst := some 36, op := Go.Op.binOp Go.BinOp.xor 5 (Go.Operand.tmp 28) (Go.Operand.tmp 35) 5, type := 5, pos := "ref.go:39", after := #[{ on := 5, ground := Go.Ground.data }, { on := 12, ground := Go.Ground.data }], guard := none }) (v := ?_) rfl (by kernel_rfl) (by kernel_rfl) (by kernel_rfl) (fun _ _ _ h => h) (Or.inl ⟨by rfl, ?_⟩) (by assumption) ?_
            rotate_left 1
            · (intro w hSw; (try dsimp only at hSw); go_simp; try with_reducible rfl)
            try simp only [Act.put, List.setIfInBounds_toArray, List.set_cons_zero, List.set_cons_succ]
            refine wpAnyH_take (i := 14) (oi := { dst := some 37, op := Go.Op.indexAddr 22 (Go.Operand.tmp 23) (Go.Operand.tmp 24), type := 0, pos := "ref.go:39", after := #[{ on := 0, ground := Go.Ground.data }, { on := 1, ground := Go.Ground.data }, { on := 0, ground := Go.Ground.phase }, { on := 1, ground := Go.Ground.phase }, { on := 2, ground := Go.Ground.phase }, { on := 3, ground := Go.Ground.phase }, { on := 4, ground := Go.Ground.phase }, { on := 5, ground := Go.Ground.phase }, { on := 6, ground := Go.Ground.phase }, { on := 7, ground := Go.Ground.phase }, { on := 8, ground := Go.Ground.phase }, { on := 9, ground := Go.Ground.phase }, { on := 10, ground := Go.Ground.phase }, { on := 11, ground := Go.Ground.phase }, { on := 12, ground := Go.Ground.phase }, { on := 13, ground := Go.Ground.phase }], guard := none }) (v := ?_) rfl (by kernel_rfl) (by kernel_rfl) (by kernel_rfl) (fun _ _ _ h => h) (Or.inl ⟨by rfl, ?_⟩) (by assumption) ?_
            rotate_left 1
            · (intro w hSw; (try dsimp only at hSw); go_simp; try with_reducible rfl)
            try simp only [Act.put, List.setIfInBounds_toArray, List.set_cons_zero, List.set_cons_succ]
            refine wpAnyH_ready (rs := [15]) (by kernel_rfl) (by simp) ?_
            refine AllReadyH.cons (o := { dst := none, op := Go.Op.store 5 (Go.Operand.tmp 37) (Go.Operand.tmp 36), type := 0, pos := "ref.go:39", after := #[{ on := 14, ground := Go.Ground.data }, { on := 13, ground := Go.Ground.data }, { on := 12, ground := Go.Ground.chain }, { on := 0, ground := Go.Ground.phase }, { on := 1, ground := Go.Ground.phase }, { on := 2, ground := Go.Ground.phase }, { on := 3, ground := Go.Ground.phase }, { on := 4, ground := Go.Ground.phase }, { on := 5, ground := Go.Ground.phase }, { on := 6, ground := Go.Ground.phase }, { on := 7, ground := Go.Ground.phase }, { on := 8, ground := Go.Ground.phase }, { on := 9, ground := Go.Ground.phase }, { on := 10, ground := Go.Ground.phase }, { on := 11, ground := Go.Ground.phase }, { on := 12, ground := Go.Ground.phase }, { on := 13, ground := Go.Ground.phase }], guard := none }) rfl (fun K hK => ?_) AllReadyH.nil
            have kk := KG.out _ HQ.out; obtain ⟨kk1, kk2⟩ := kk; go_simp
            have HB15 := Lib.hid ((HNB.out.trans (HQ.out.mono HNB.out.size)).setCell (p := ⟨g, t, none⟩) HGB.out (.int .u8 (xorI y p)))
            have hr15 := put_of (Kd.R_below HN.out HQ.out) t (xorI y p)
            rw [show (line (i + 2) (nx i t)).set t (xorI y p) = line (i + 2) (fun j => if j = t then gen (i + 1) t else nx i t j) by rw [HAT.out]; exact nx_step i t htl] at hr15
            have HR15 := Lib.hid hr15
            clear hr15 kk1 kk2
            clear hHeld
            refine hK.out _ _ ?_ (fun hHeld => ?_)
            · ((try dsimp only); exact KC.out _ HB15.out)
            clear hK K
            refine wpAnyH_done (by kernel_rfl) ?_ _
            refine NoPanic.normal ?_
            exact REST _ ⟨HR15.out, HB15.out⟩
          · rintro W9 ⟨hR9, hB9⟩
            have HR9 := Lib.hid hR9
            have HB9 := Lib.hid hB9
            clear hR9 hB9 KG KC h5
            obtain ⟨y1, y2⟩ := cell_of HR9.out (t + 1) (by omega)
            have e9 : (if t + 1 = t then gen (i + 1) t else nx i t (t + 1)) = 0 := by
              rw [if_neg (by omega)]; unfold nx; rw [if_neg (by omega), if_neg (by omega)]
            rw [e9] at y1
            have y3 := HC3.out W9 HB9.out t htl
            rw [← HZ.out] at y3
            have hpn := fun k => put_of (Kd.R_drewN HR9.out k) (t + 1) z
            have hst := nx_step2 i t htl
            rw [← HZ.out] at hst
            simp only [hst] at hpn
            have HPN := Lib.hid hpn
            have HBn := Lib.hid (fun k => (pw_below_drewN HB9.out k).setCell (p := ⟨g, t + 1, none⟩) HGB.out (.int .u8 z))
            have h6 : bits .xor .u8 (0 : Int) z = z := by rw [xor_bits byt0 HZB.out, xor_zero' HZB.out]
            clear hpn hst e9
            go_wp2
            refine wp_region_still_tail 14 (by kernel_rfl) (by kernel_rfl) ?_
            change wpStill _ _ (W9.drewN 1) (fun a' => wpList _ _ _ _ a' (W9.drewN 1)) _ _
            simp only [List.take_succ_cons, List.take_zero, List.drop_succ_cons, List.drop_zero]
            iterate 14 still_step
            refine wpStill_nil ?_
            go_wp2
            go_roundw
            case rel => exact ⟨t + 1, by omega, by go_num, Lib.hid (HPN.out 1), Lib.hid (HBn.out 1)⟩
            case measure => simp [intOf]; omega
        · obtain rfl : t = i + 1 := by omega
          have hN := HN.out
          rw [nx_end] at hN
          have HN2 := Lib.hid hN
          clear hN
          go_wp2
          go_roundw
          case rel => exact ⟨i + 1, _, _, rfl, by omega, by go_num, Lib.hid (Kd.R_lower HN2.out HB.out.size), Lib.hid (HB.out.trans (HNB.out.mono HB.out.size))⟩
          case measure => simp [intOf]; omega
    · obtain rfl : i = r := by omega
      go_wp2
      go_ret
      exact ⟨_, _, rfl, HR.out, HB.out⟩
end Go.Proofs.Ytcneobnplhffmaa.Rsc
/- Reed and Solomon's codes: Encode, walked. -/
namespace Go.Proofs.Ytcneobnplhffmaa.Rsc
open Go Go.RowKit Go.Proofs.Ytcneobnplhffmaa.PRsEncodes Go.Proofs.Ytcneobnplhffmaa.BRsEncodes Go.Proofs.Ytcneobnplhffmaa.Gf Go.Proofs.Ytcneobnplhffmaa.Gi Go.Proofs.Ytcneobnplhffmaa.Bits Go.Proofs.Ytcneobnplhffmaa.Mem Go.Proofs.Ytcneobnplhffmaa.Alg Go.Proofs.Ytcneobnplhffmaa.Sol Go.Proofs.Ytcneobnplhffmaa.Rws Go.Proofs.Ytcneobnplhffmaa.Cat Go.Proofs.YtcneobnplhffmaaW.PrintWords Go.Proofs.YtcneobnplhffmaaW.PrintLast
set_option linter.unusedVariables false

theorem line_append (k r : Nat) (f : Nat → Int) : line (k + r) f = line k f ++ line r (fun i => f (k + i)) := by
  induction r with
  | zero => simp [line]
  | succ r ih => rw [← Nat.add_assoc, line_succ, line_succ, ih, List.append_assoc]
/-- Two rows, laid. -/
theorem rows2_C {X : World} {A A1 : Option Addr} {n c n1 c1 : Nat} {xs ys : List Int} (h : (Kd.int .u8).C X A n xs) (hc : n ≤ c) (h1 : (Kd.int .u8).C X A1 n1 ys) (hc1 : n1 ≤ c1) :
    Kd.C kRow (X.alloc (.cells #[.slice A n c, .slice A1 n1 c1] 22)) (some ⟨X.heap.size, 0, none⟩) 2 [xs, ys] := by
  have hb : Below X.heap.size X (X.alloc (.cells #[.slice A n c, .slice A1 n1 c1] 22)) := (Below.refl _ _).alloc (Nat.le_refl _) _
  have hk := Blk.new X 22 #[.slice A n c, .slice A1 n1 c1]
  have e0 : xs.length = n := h.1
  have e1 : ys.length = n1 := h1.1
  refine ⟨rfl, by decide, fun _ => ⟨_, rfl, fun j p hj => ?_⟩⟩
  match j, hj with
  | 0, hj =>
    injection hj with hj
    subst hj
    refine ⟨[.slice A xs.length c], rfl, ⟨A, c, rfl, by omega, by rw [e0]; exact Kd.C_below h hb⟩, fun i u hu => ?_⟩
    match i, hu with
    | 0, hu =>
      injection hu with hu
      subst hu
      rw [e0]
      exact (hk.cell 0).trans rfl
    | i + 1, hu => cases hu
  | 1, hj =>
    injection hj with hj
    subst hj
    refine ⟨[.slice A1 ys.length c1], rfl, ⟨A1, c1, rfl, by omega, by rw [e1]; exact Kd.C_below h1 hb⟩, fun i u hu => ?_⟩
    match i, hu with
    | 0, hu =>
      injection hu with hu
      subst hu
      rw [e1]
      exact (hk.cell 1).trans rfl
    | i + 1, hu => cases hu
  | j + 2, hj => cases hj
/-- In the round over i, the greatest first. -/
def midF (g : Nat → Int) (r : Nat) (b : Int) (t : Nat → Int) (i : Nat) : Nat → Int := fun q => if i < q then encF g r b t q else t q
theorem midF_start (g : Nat → Int) (r : Nat) (b : Int) (t : Nat → Int) : line r (midF g r b t (r - 1)) = line r t := line_congr r _ _ (fun q hq => by unfold midF; rw [if_neg (by omega)])
theorem midF_step (g : Nat → Int) (r : Nat) (b : Int) (t : Nat → Int) (i : Nat) (hi : i + 1 < r) : (line r (midF g r b t (i + 1))).set (i + 1) (xorI (t i) (gmI (xorI b (t (r - 1))) (g (i + 1)))) = line r (midF g r b t i) := by
  rw [line_set r _ (i + 1) hi]
  refine line_congr r _ _ (fun q hq => ?_)
  unfold midF
  by_cases e : q = i + 1
  · subst e
    rw [if_pos rfl, if_pos (by omega)]
    unfold encF
    rw [if_neg (by omega), Nat.add_sub_cancel]
  · rw [if_neg e]
    by_cases h : i < q
    · rw [if_pos (by omega), if_pos h]
    · rw [if_neg (by omega), if_neg h]
theorem midF_end (g : Nat → Int) (r : Nat) (b : Int) (t : Nat → Int) (hr : 0 < r) : (line r (midF g r b t 0)).set 0 (gmI (xorI b (t (r - 1))) (g 0)) = line r (encF g r b t) := by
  rw [line_set r _ 0 hr]
  refine line_congr r _ _ (fun q hq => ?_)
  unfold midF
  by_cases e : q = 0
  · subst e
    rw [if_pos rfl]
    unfold encF
    rw [if_pos rfl]
  · rw [if_neg e, if_pos (by omega)]
set_option maxRecDepth 100000 in
theorem enc_bad (v : Value) (n k r L c : Nat) (A : Option Addr) (w : World) (hv : IsRs w v n k r) (h : L ≠ k) :
    Calls Try.prog 12 #[v, .slice A L c] w fun e w' => e = .returned (.tuple #[.slice none 0 0, .int .i64 1]) ∧ w' = w := by
  obtain ⟨b, A1, c1, rfl, hb, _, _⟩ := hv
  have y1 : w.cell? ⟨b, 1, none⟩ = some (.int .i64 k) := (hb.cell 1).trans rfl
  have t1 : ((L : Int) != (k : Int)) = true := by simp; omega
  have t2 : ¬ (L : Int) = (k : Int) := by omega
  clear hb h
  go_enter Try.func12, Try.ntmps12
  go_wp2
  go_ret2
  exact ⟨rfl, rfl⟩
set_option maxRecDepth 100000 in
theorem enc_nil (L c : Nat) (A : Option Addr) (w : World) :
    Calls Try.prog 12 #[.pointer none, .slice A L c] w fun e w' => e = .returned (.tuple #[.slice none 0 0, .int .i64 1]) ∧ w' = w := by
  go_enter Try.func12, Try.ntmps12
  go_wp2
  go_ret2
  exact ⟨rfl, rfl⟩
set_option maxRecDepth 100000 in
set_option maxHeartbeats 4000000 in
theorem enc_good (v : Value) (n k r c : Nat) (A : Option Addr) (m : Nat → Int) (w : World) (hv : IsRs w v n k r) (hn : n = k + r) (h1 : 1 ≤ k) (h2 : 1 ≤ r) (h3 : n ≤ 255) (hC : (Kd.int .u8).C w A k (line k m)) (hc : k ≤ c) (hm : ∀ i, Byt (m i)) :
    Calls Try.prog 12 #[v, .slice A k c] w fun e w' => ∃ A' c', e = .returned (.tuple #[.slice A' n c', .int .i64 0]) ∧ (Kd.int .u8).R 5 w' w.heap.size (fun _ => True) (.slice A' n c') (line n (wordF k r m (encT (gen r) r m k))) ∧ Below w.heap.size w w' := by
  obtain ⟨b, A1, c1, rfl, hb, hc1, hG⟩ := hv
  obtain ⟨adg, rfl, _⟩ := at_row hG 0 (by omega)
  obtain ⟨adm, rfl, _⟩ := at_row hC 0 (by omega)
  have y0 : w.cell? ⟨b, 0, none⟩ = some (.int .i64 n) := (hb.cell 0).trans rfl
  have y1 : w.cell? ⟨b, 1, none⟩ = some (.int .i64 k) := (hb.cell 1).trans rfl
  have HY2 := Lib.hid (fun W (hB : Below w.heap.size w W) => show W.cell? ⟨b, 2, none⟩ = some (.slice (some adg) (r + 1) c1) from ((hb.below hB hb.lt).cell 2).trans rfl)
  have HGC := Lib.hid (fun W (hB : Below w.heap.size w W) i (hi : i < r + 1) => show W.cell? (adg.add i) = some (.int .u8 (gen r i)) by
    obtain ⟨a, e, h⟩ := at_row (Kd.C_below hG hB) i hi
    injection e with e
    rw [line_get (r + 1) (gen r) i hi, ← e] at h
    exact h)
  have HMC := Lib.hid (fun W (hB : Below w.heap.size w W) i (hi : i < k) => show W.cell? (adm.add i) = some (.int .u8 (m i)) by
    obtain ⟨a, e, h⟩ := at_row (Kd.C_below hC hB) i hi
    injection e with e
    rw [line_get k m i hi, ← e] at h
    exact h)
  have HCC := Lib.hid hC
  have HCK := Lib.hid hc
  have HM := Lib.hid hm
  have e1 : IntKind.i64.wrap ((n : Int) - (k : Int)) = (r : Int) := by rw [IntWalk.i64_in _ (by omega)]; omega
  have HNK := Lib.hid hn
  have t1 : ((k : Int) != (k : Int)) = false := by simp
  have hr : r ≤ 255 := by omega
  have hk : k ≤ 255 := by omega
  clear hb hC hG hm hn hc1 hc h3
  go_enter Try.func12, Try.ntmps12
  go_wp2
  go_quiet (fail)
  clear y0 y1 e1
  generalize hx : w.drewN _ = x0
  have HX := Lib.hid (show Below w.heap.size w x0 by rw [← hx]; exact pw_below_drewN (Below.refl _ _) _)
  clear hx
  go_wp2_with (at_make; refine Kd.R_make (Kd.int .u8) x0.heap.size 5 rfl (N := 33) rfl 22 _ _ rfl (r : Int) rfl rfl Try.underlying22 (.int .u8 0) 1 info_byte rfl (by decide) (by decide) 0 (ok := fun _ => True) (okp := fun _ => True) rfl (fun _ hk => hk) trivial (by omega) (by omega) (Below.refl _ _) (Nat.le_refl _) ?_; intro v3 w3 h3 hb3 hg3 hf3; simp only [Int.toNat_natCast] at h3; obtain ⟨g, c3, hv3, hgb, _, _⟩ := Kd.R_form h3 (by rw [List.length_replicate]; exact h2); rw [List.length_replicate] at hv3; subst hv3; have HR0 := Lib.hid h3; have HB0 := Lib.hid hb3; have HGB := Lib.hid hgb; clear h3 hb3 hg3 hf3 hgb)
  have HR1 := Lib.hid (show Kd.R (Kd.int .u8) 5 w3 x0.heap.size (fun _ => True) (.slice (some ⟨g, 0, none⟩) r c3) (line r (encT (gen r) r m 0)) by
    rw [show line r (encT (gen r) r m 0) = List.replicate r 0 from line_zero r]; exact HR0.out)
  clear HR0
  go_loopw [9, 10, 11, 36] (fun _ _ _ jv wr => ∃ (j : Nat), j ≤ k ∧ jv = .int .i64 j ∧ Hid (Kd.R (Kd.int .u8) 5 wr x0.heap.size (fun _ => True) (.slice (some ⟨g, 0, none⟩) r c3) (line r (encT (gen r) r m j))) ∧ Hid (Below x0.heap.size x0 wr)) (fun _ _ _ jv _ => k - (intOf jv).toNat)
  case atStart => exact ⟨0, by omega, rfl, HR1, HB0⟩
  case round =>
    clear HR1 HB0
    obtain ⟨j, hj, rfl, HR, HB⟩ := hrel
    by_cases hjk : j < k
    · have hmc := HMC.out wr (HX.out.trans (HB.out.mono HX.out.size)) j hjk
      obtain ⟨t, ht⟩ : ∃ t, t = encT (gen r) r m j := ⟨_, rfl⟩
      have HTB := Lib.hid (show ∀ i, Byt (t i) by rw [ht]; exact encT_byt HM.out j)
      have HT := Lib.hid (show encT (gen r) r m (j + 1) = encF (gen r) r (m j) t by rw [ht]; rfl)
      rw [← ht] at HR
      obtain ⟨x1, x2⟩ := Kd.R_celln (0 : Int) HR.out ((r - 1 : Nat) : Int) (by omega) (by omega)
      have x3 : rdOf (0 : Int) (line r t) ((r - 1 : Nat) : Int) = t (r - 1) := by
        rw [← line_get r t (r - 1) (by omega)]; simp [rdOf]
      rw [x3, Int.toNat_natCast] at x1
      have HMB := Lib.hid (HM.out j)
      obtain ⟨b0, hb0⟩ : ∃ b0, b0 = m j := ⟨_, rfl⟩
      rw [← hb0] at hmc HMB HT
      have f1 : IntKind.i64.wrap ((r : Int) - 1) = ((r - 1 : Nat) : Int) := by rw [IntWalk.i64_in _ (by omega)]; omega
      have f2 : (0 : Int) ≤ ((r - 1 : Nat) : Int) := by omega
      have f3 : ((r - 1 : Nat) : Int) < (r : Int) := by omega
      have g1 : (j : Int) < (k : Int) := by omega
      have g2 : (0 : Int) ≤ (j : Int) := by omega
      obtain ⟨r1, hr1⟩ : ∃ r1, r1 = r - 1 := ⟨_, rfl⟩
      rw [← hr1] at x1 f1 f2 f3
      have HTL := Lib.hid (HTB.out r1)
      obtain ⟨t0, ht0⟩ : ∃ t0, t0 = t r1 := ⟨_, rfl⟩
      rw [← ht0] at x1 HTL
      have AD := Lib.hid (fun W => add_still b0 t0 W HMB.out HTL.out)
      have HFB := Lib.hid (xorI_byt HMB.out HTL.out)
      obtain ⟨f, hf⟩ : ∃ f, f = xorI b0 t0 := ⟨_, rfl⟩
      rw [← hf] at AD HFB
      have HF := Lib.hid (show f = xorI b0 (t (r - 1)) by rw [hf, ht0, hr1])
      have HR1' := Lib.hid hr1
      clear ht hb0 hr1 ht0 hf x2 x3
      go_upto_region 10 with (go_at_call 26; (with_reducible refine (AD.out _).mono ?_); rintro e w4 ⟨rfl, hw4⟩; have hw5 := hw4.symm; subst hw5; clear hw4)
      clear hmc x1
      have HR2 := Lib.hid (show Kd.R (Kd.int .u8) 5 wr x0.heap.size (fun _ => True) (.slice (some ⟨g, 0, none⟩) r c3) (line r (midF (gen r) r b0 t r1)) by rw [HR1'.out, midF_start]; exact HR.out)
      have HB2 := Lib.hid HB.out
      have hr1b : r1 < r := by have := HR1'.out; omega
      clear HR HB f1 f2 f3
      go_loopw [11] (fun iv wr' => ∃ (i : Nat), i < r ∧ iv = .int .i64 i ∧ Hid (Kd.R (Kd.int .u8) 5 wr' x0.heap.size (fun _ => True) (.slice (some ⟨g, 0, none⟩) r c3) (line r (midF (gen r) r b0 t i))) ∧ Hid (Below x0.heap.size x0 wr')) (fun iv _ => (intOf iv).toNat)
      case atStart => exact ⟨r1, hr1b, rfl, HR2, HB2⟩
      case round =>
        clear HR2 HB2
        obtain ⟨i, hi, rfl, HR, HB⟩ := hrel
        have hBw := HX.out.trans (HB.out.mono HX.out.size)
        have ky2 := HY2.out wr hBw
        by_cases h0 : 0 < i
        · obtain ⟨p, hp⟩ : ∃ q, i = q + 1 := ⟨i - 1, by omega⟩
          have ky3 := HGC.out wr hBw i (by omega)
          obtain ⟨x1, x2⟩ := Kd.R_celln (0 : Int) HR.out (p : Int) (by omega) (by omega)
          have x3 : rdOf (0 : Int) (line r (midF (gen r) r b0 t i)) (p : Int) = t p := by
            have := line_get r (midF (gen r) r b0 t i) p (by omega)
            have e : midF (gen r) r b0 t i p = t p := by unfold midF; rw [if_neg (by omega)]
            rw [← e, ← this]; simp [rdOf]
          obtain ⟨x4, x5⟩ := Kd.R_celln (0 : Int) HR.out (i : Int) (by omega) (by omega)
          rw [x3, Int.toNat_natCast] at x1
          rw [Int.toNat_natCast] at x2 x4 x5
          have hpn := fun q => Kd.R_putn (Kd.R_drewN HR.out q) (i : Int) (xorI (t p) (gmI (xorI b0 (t (r - 1))) (gen r i)))
          simp only [Int.toNat_natCast] at hpn
          have hst := midF_step (gen r) r b0 t p (by omega)
          rw [← hp] at hst
          rw [hst, ← HF.out] at hpn
          have HYB := Lib.hid (HTB.out p)
          have HZB := Lib.hid (gen_byt r i)
          obtain ⟨y, hy⟩ : ∃ y, y = t p := ⟨_, rfl⟩
          obtain ⟨z, hz⟩ : ∃ z, z = gen r i := ⟨_, rfl⟩
          rw [← hy] at x1 HYB hpn
          rw [← hz] at ky3 HZB hpn
          have HPN := Lib.hid hpn
          have HBn := Lib.hid (fun q => (pw_below_drewN HB.out q).setCell (p := ⟨g, i, none⟩) HGB.out (.int .u8 (xorI y (gmI f z))))
          have e1 : IntKind.i64.wrap ((i : Int) - 1) = (p : Int) := by rw [IntWalk.i64_in _ (by omega)]; omega
          have g3 : (0 : Int) ≤ (p : Int) := by omega
          have g4 : (p : Int) < (r : Int) := by omega
          have g5 : (0 : Int) < (i : Int) := by omega
          have g6 : (i : Int) < (r : Int) := by omega
          have g7 : (i : Int) < (r : Int) + 1 := by omega
          have g8 : (0 : Int) ≤ (i : Int) := by omega
          have HP := Lib.hid hp
          clear hy hz x3 hpn hBw hst hp
          go_wp2
          refine wp_region_still_tail 18 (by kernel_rfl) (by kernel_rfl) ?_
          change wpStill _ _ (wr.drewN 1) (fun a' => wpList _ _ _ _ a' (wr.drewN 1)) _ _
          simp only [List.take_succ_cons, List.take_zero, List.drop_succ_cons, List.drop_zero]
          iterate 15 still_step
          still_call (mul_still f z (wr.drewN 1) HFB.out HZB.out)
          still_call (add_still y (gmI f z) (wr.drewN 1) HYB.out (gmI_byt HFB.out))
          still_step
          refine wpStill_nil ?_
          go_wp2
          go_roundw
          case rel => exact ⟨p, by have := HP.out; omega, rfl, Lib.hid (HPN.out 1), Lib.hid (HBn.out 1)⟩
          case measure => have := HP.out; simp [intOf]; omega
        · obtain rfl : i = 0 := by omega
          have ky3 := HGC.out wr hBw 0 (by omega)
          obtain ⟨x4, x5⟩ := Kd.R_celln (0 : Int) HR.out (0 : Int) (by omega) (by omega)
          simp only [Int.toNat_zero] at x4 x5
          have hpn := Kd.R_putn HR.out (0 : Int) (gmI (xorI b0 (t (r - 1))) (gen r 0))
          simp only [Int.toNat_zero] at hpn
          rw [midF_end (gen r) r b0 t (by omega), ← HF.out, ← HT.out] at hpn
          have HZB := Lib.hid (gen_byt r 0)
          obtain ⟨z, hz⟩ : ∃ z, z = gen r 0 := ⟨_, rfl⟩
          rw [← hz] at ky3 HZB hpn
          rw [show adg.add 0 = adg by simp [Addr.add]] at ky3
          have HPN := Lib.hid hpn
          have HBn := Lib.hid (HB.out.setCell (p := ⟨g, 0, none⟩) HGB.out (.int .u8 (gmI f z)))
          have g3 : (0 : Int) < (r : Int) := by omega
          have g4 : (0 : Int) < (r : Int) + 1 := by omega
          have ML := Lib.hid (fun W => mul_still f z W HFB.out HZB.out)
          clear hz hpn hBw
          go_wp2_with (go_at_call 27; (with_reducible refine (ML.out _).mono ?_); rintro e w4 ⟨rfl, hw4⟩; have hw5 := hw4.symm; subst hw5; clear hw4)
          go_roundw
          case rel => exact ⟨j + 1, by omega, by go_num, HPN, HBn⟩
          case measure => simp [intOf]; omega
    · obtain rfl : j = k := by omega
      have hkc := HCK.out
      have HRV := Lib.hid (reverse_row r (encT (gen r) r m j) (.slice (some ⟨g, 0, none⟩) r c3) x0 wr HB.out HR.out (by omega))
      have CA := Lib.hid (fun W (hB : Below w.heap.size w W) (hR : (Kd.int .u8).R 5 W x0.heap.size (fun _ => True) (.slice (some ⟨g, 0, none⟩) r c3) (line r (fun i => encT (gen r) r m j (r - 1 - i)))) =>
        concat_any 2 2 (some ⟨W.heap.size, 0, none⟩) [line j m, line r (fun i => encT (gen r) r m j (r - 1 - i))] (W.alloc (.cells #[.slice (some adm) j c, .slice (some ⟨g, 0, none⟩) r c3] 22)) (rows2_C (Kd.C_below HCC.out hB) hkc (R_C hR).1 (R_C hR).2) (by simp [line_len]; omega) (by simp [line_len]; omega))
      have HFL := Lib.hid (show ([line j m, line r (fun i => encT (gen r) r m j (r - 1 - i))] : List (List Int)).flatten = line n (wordF j r m (encT (gen r) r m j)) by
        rw [HNK.out, line_append]
        simp only [List.flatten_cons, List.flatten_nil, List.append_nil]
        congr 1
        · exact line_congr j _ _ (fun i hi => by unfold wordF; rw [if_pos hi])
        · exact line_congr r _ _ (fun i hi => by unfold wordF; rw [if_neg (by omega), if_pos (by omega)]; congr 1; omega))
      rw [HFL.out, line_len] at CA
      obtain ⟨L, hL⟩ : ∃ L, L = line n (wordF j r m (encT (gen r) r m j)) := ⟨_, rfl⟩
      rw [← hL] at CA
      have HL := Lib.hid hL
      clear hL HFL hkc
      go_wp2_with (first
        | (go_at_call 23; (with_reducible refine HRV.out.mono ?_); rintro e w4 ⟨rfl, hr4, hb4⟩; have HR4 := Lib.hid hr4; have HB4 := Lib.hid (HX.out.trans (hb4.mono HX.out.size)); clear hr4 hb4)
        | (go_at_call 28; (refine (CA.out _ HB4.out HR4.out).mono ?_); rintro e w5 ⟨A9, c9, rfl, hr9, hb9⟩; have HR9 := Lib.hid (show (Kd.int .u8).R 5 w5 w.heap.size (fun _ => True) (.slice A9 n c9) L from Kd.R_lower hr9 (by have := HB4.out.size; simp; omega)); have HB9 := Lib.hid (HB4.out.trans ((((Below.refl w4.heap.size w4).alloc (Nat.le_refl _) _).trans (hb9.mono (by simp))).mono HB4.out.size)); clear hr9 hb9))
      go_ret2
      exact ⟨A9, c9, rfl, by rw [← HL.out]; exact HR9.out, HB9.out⟩
end Go.Proofs.Ytcneobnplhffmaa.Rsc
/- Reed and Solomon's codes: the document's Encode; the common calls of the laws. -/
namespace Go.Proofs.Ytcneobnplhffmaa.Rsc
open Go Go.RowKit Go.Proofs.Ytcneobnplhffmaa.PRsEncodes Go.Proofs.Ytcneobnplhffmaa.BRsEncodes Go.Proofs.Ytcneobnplhffmaa.Gf Go.Proofs.Ytcneobnplhffmaa.Gi Go.Proofs.Ytcneobnplhffmaa.Bits Go.Proofs.Ytcneobnplhffmaa.Mem Go.Proofs.Ytcneobnplhffmaa.Alg Go.Proofs.Ytcneobnplhffmaa.Sol Go.Proofs.Ytcneobnplhffmaa.Rws Go.Proofs.Ytcneobnplhffmaa.Cat Go.Proofs.YtcneobnplhffmaaW.PrintWords Go.Proofs.YtcneobnplhffmaaW.PrintLast
set_option linter.unusedVariables false

/-- The one answer of the document's equations is the division's rest. -/
theorem renc_sol {k r : Nat} {m : Nat → Int} (hm : ∀ i, Byt (m i)) (h2 : 1 ≤ r) (hn : k + r ≤ 255) {t : Nat} {M : Mtx} (h : StepsTo r (fillM (k + r) r (fun i => k + i) (synF (k + r) (wordF k r m (fun _ => 0)))) (r + 1) t M) :
    ∀ i, i < r → M i r = encT (gen r) r m k (r - 1 - i) := by
  obtain ⟨q, rfl⟩ : ∃ q, r = q + 1 := ⟨r - 1, by omega⟩
  have hz : ∀ i, Byt ((fun _ => 0 : Nat → Int) i) := fun _ => byt0
  have hw := fun i => wordF_byt (k := k) (r := q + 1) hm hz i
  have hb := fillM_byt (n := k + (q + 1)) (q := q + 1) (a := fun i => k + i) (s := synF (k + (q + 1)) (wordF k (q + 1) m (fun _ => 0))) (fun i => synF_byt hw i)
  have hs := h.solves hb (fun c hc => fillM_inj hn (Nat.le_refl _) (fun j hj => by omega) (fun i j hi hj e => by omega) c hc) (fun i => G.of (encT (gen (q + 1)) (q + 1) m k (q + 1 - 1 - i))) (fun i hi => by
    have e1 : el (fillM (k + (q + 1)) (q + 1) (fun i => k + i) (synF (k + (q + 1)) (wordF k (q + 1) m (fun _ => 0)))) i (q + 1) = G.of (hI (wordF k (q + 1) m (fun _ => 0)) (al i) (k + (q + 1))) := by
      unfold el fillM
      rw [if_neg (Nat.lt_irrefl _)]; rfl
    rw [e1, word_hI hm hz (al_byt i), ev_zero, Fd.add_zero, ← encT_ev (gen_byt _) hm (gen_lead _) (al_byt i) (gen_root _ i hi)]
    unfold ev dotF
    rw [← sum_rev (q + 1) (fun j => pw (G.of (al i)) j * G.of (encT (gen (q + 1)) (q + 1) m k j))]
    refine sum_congr (fun j hj => ?_)
    congr 1
    unfold el fillM
    rw [if_pos hj, al_mod, al_pw]
    congr 3
    show k + (q + 1) - 1 - (k + j) = q + 1 - 1 - j
    omega)
  intro i hi
  exact G.of_inj (h.byt hb i (q + 1)) (encT_byt hm k _) (hs i hi)
theorem fillF_at (k : Nat) (x w : Nat → Int) : ∀ j z, fillF (fun i => k + i) x w j z = if k ≤ z ∧ z < k + j then xorI (w z) (x (z - k)) else w z
  | 0, z => by unfold fillF; rw [if_neg (by omega)]
  | j + 1, z => by
    unfold fillF
    rw [fillF_at k x w j z]
    by_cases e : z = k + j
    · rw [if_pos e, if_neg (by omega), if_pos (by omega), show z - k = j by omega]
    · rw [if_neg e]
      by_cases h : k ≤ z ∧ z < k + j
      · rw [if_pos h, if_pos (by omega)]
      · rw [if_neg h, if_neg (by omega)]
theorem fill_word {k r : Nat} {m t x : Nat → Int} (ht : ∀ i, Byt (t i)) (hx : ∀ i, i < r → x i = t (r - 1 - i)) : line (k + r) (fillF (fun i => k + i) x (wordF k r m (fun _ => 0)) r) = line (k + r) (wordF k r m t) := by
  refine line_congr _ _ _ (fun z hz => ?_)
  rw [fillF_at]
  unfold wordF
  by_cases h : z < k
  · rw [if_neg (by omega), if_pos h, if_pos h]
  · rw [if_pos (by omega), if_neg h, if_neg h, if_pos hz, if_pos hz, hx (z - k) (by omega), show r - 1 - (z - k) = k + r - 1 - z by omega, xor_zero' (ht _)]
theorem info_int : (Try.prog.info? 3).map (fun i => (i.zero, i.size, i.bytes)) = some (some (.int .i64 0), 1, 8) := by kernel_rfl
/-- One number more, appended. -/
theorem int_append {P : Program} {ops : Array Oper} {rest : List Oper} {o : Oper} {a : Act} {Q : Exit → Act → World → Prop} {w0 W : World} (hP : P = Try.prog) (base : Nat) (hgd : o.guard = none) (s x : Operand)
    (ho : o.op = .call { callee := .builtin .append, args := #[s, x], argTypes := #[34, 34] }) (v : Value) (xs : List Int) (y : Int) (ok : Nat → Prop)
    (hs : a.eval s = v) (hx : a.eval x = .slice (some ⟨W.heap.size, 0, none⟩) 1 1) (HR : Kd.R (Kd.int .i64) 3 W base ok v xs) (hok : ∀ k, W.heap.size ≤ k → ok k) (HB : Below base w0 W) (hbase : base ≤ W.heap.size) (hl : xs.length ≤ 1000000)
    (h : ∀ v1 w1, Kd.R (Kd.int .i64) 3 w1 base ok v1 (xs ++ [y]) → Below base w0 w1 → W.grownBy w1 v.ownBlock → wpList P ops Q rest (a.put o.dst v1) w1) :
    wpList P ops Q (o :: rest) a (W.alloc (.cells #[.int .i64 y] 3)) := by
  subst hP
  exact Kd.R_append (Kd.int .i64) (w0 := w0) base hgd s x 34 3 (.int .i64 0) 8 ho Try.underlying34 info_int rfl (by decide) (by decide) v xs y [.int .i64 y] ok (fun _ => False) hs hx rfl (fun _ hk => hk.elim) hok HR HB hbase (by omega) (fun v1 w1 h1 h2 h3 _ => h v1 w1 h1 h2 h3)
theorem wz_line (k r : Nat) (m : Nat → Int) : line k m ++ List.replicate r 0 = line (k + r) (wordF k r m (fun _ => 0)) := by
  rw [line_append, ← line_zero]
  congr 1
  · exact line_congr k _ _ (fun i hi => by unfold wordF; rw [if_pos hi])
  · exact line_congr r _ _ (fun i hi => by unfold wordF; rw [if_neg (by omega), if_pos (by omega)])
set_option maxRecDepth 100000 in
set_option maxHeartbeats 2000000 in
theorem renc_any (k r c : Nat) (A : Option Addr) (m : Nat → Int) (w : World) (h1 : 1 ≤ k) (h2 : 1 ≤ r) (h3 : k + r ≤ 255) (hC : (Kd.int .u8).C w A k (line k m)) (hm : ∀ i, Byt (m i)) :
    Calls Try.prog 13 #[.int .i64 (k + r : Nat), .int .i64 k, .slice A k c] w fun e w' => ∃ A' c', e = .returned (.slice A' (k + r) c') ∧ (Kd.int .u8).R 5 w' w.heap.size (fun _ => True) (.slice A' (k + r) c') (line (k + r) (wordF k r m (encT (gen r) r m k))) ∧ Below w.heap.size w w' := by
  obtain ⟨n, hn⟩ : ∃ n, n = k + r := ⟨_, rfl⟩
  rw [← hn]
  have HL0 := Lib.hid (show (Kd.int .u8).R 5 (w.alloc (.cells #[] 5)) w.heap.size (fun _ => True) (.slice (some ⟨w.heap.size, 0, none⟩) 0 0) [] from litR w w.heap.size (Nat.le_refl _) [] (by simp))
  have HLB := Lib.hid ((Below.refl w.heap.size w).alloc (Nat.le_refl _) (.cells #[] 5))
  have HW0 := Lib.hid (Kd.C_below hC HLB.out)
  have HM := Lib.hid hm
  have HN := Lib.hid hn
  have e1 : IntKind.i64.wrap ((n : Int) - (k : Int)) = (r : Int) := by rw [IntWalk.i64_in _ (by omega)]; omega
  have hnk : n ≤ 255 := by omega
  have hkb : k ≤ 255 := by omega
  have hrb : r ≤ 255 := by omega
  clear hC hm hn h3
  go_enter Try.func13, Try.ntmps13
  go_upto_region 4 with (first
    | (at_builtin; refine Kd.R_append_rows (Kd.int .u8) (w0 := w) w.heap.size rfl _ _ 22 5 (.int .u8 0) 1 rfl Try.underlying22 info_byte rfl (by decide) (by decide) _ [] (line k m) A k c (fun _ => True) (fun _ => False) rfl rfl HL0.out HW0.out (fun _ _ h => h) (fun _ h => h.elim) (fun _ _ => trivial) HLB.out HLB.out.size (by simp; omega) ?_; intro v1 w1 hr2 hb2 hg2 _; rw [List.nil_append] at hr2; obtain ⟨A4, c4, e4⟩ := Kd.R_slice hr2; rw [line_len] at e4; subst e4; have HR2 := Lib.hid hr2; have HB2 := Lib.hid hb2; clear hr2 hb2 hg2)
    | (at_builtin; refine Kd.R_append_zeros (Kd.int .u8) (w0 := w) w.heap.size rfl _ _ 22 3 5 (.int .u8 0) 1 rfl Try.underlying22 Try.underlying3 info_byte rfl (by decide) (by decide) _ (line k m) 0 (r : Int) (fun _ => True) rfl rfl rfl (fun _ _ => trivial) HR2.out (by omega) HB2.out HB2.out.size (by rw [line_len]; omega) ?_; intro v3 w3 hr3 hb3 hg3 _; rw [Int.toNat_natCast, wz_line, ← HN.out] at hr3; obtain ⟨A5, c5, e5⟩ := Kd.R_slice hr3; rw [line_len] at e5; subst e5; have HR3 := Lib.hid hr3; have HB3 := Lib.hid hb3; clear hr3 hb3 hg3))
  clear HL0 HLB HW0 HR2 HB2
  obtain ⟨x0, hx0⟩ : ∃ x0, x0 = w3 := ⟨_, rfl⟩
  rw [← hx0] at HR3 HB3 ⊢
  clear hx0
  go_loopw [8, 9] (fun uv iv wr => ∃ (i : Nat) (u : Value), uv = u ∧ i ≤ r ∧ iv = .int .i64 (k + i : Nat) ∧ Hid ((Kd.int .i64).R 3 wr x0.heap.size (fun _ => True) u (line i (fun j => ((k + j : Nat) : Int)))) ∧ Hid (Below x0.heap.size x0 wr)) (fun _ iv _ => n - (intOf iv).toNat)
  case atStart => exact ⟨0, _, rfl, by omega, rfl, Lib.hid (Kd.R_nil _ _ _ _ _), Lib.hid (Below.refl _ _)⟩
  case round =>
    obtain ⟨i, u, rfl, hi, rfl, HR, HB⟩ := hrel
    have hnn := HN.out
    obtain ⟨p, hp⟩ : ∃ p, p = k + i := ⟨_, rfl⟩
    rw [← hp]
    have HP := Lib.hid hp
    by_cases hlt : i < r
    · have g1 : (p : Int) < (n : Int) := by omega
      clear hp hnn
      go_wp2_with (at_builtin; refine int_append (w0 := x0) rfl x0.heap.size rfl _ _ rfl u8 (line i (fun j => ((k + j : Nat) : Int))) (p : Int) (fun _ => True) rfl rfl HR.out (fun _ _ => trivial) HB.out HB.out.size (by rw [line_len]; omega) ?_; intro v5 w5 h5 hb5 hg5; have H5 := Lib.hid h5; have HB5 := Lib.hid hb5; clear h5 hb5 hg5)
      go_roundw
      case rel => exact ⟨i + 1, _, rfl, by omega, by rw [show k + (i + 1) = p + 1 by rw [HP.out]; omega]; go_num, by rw [line_succ, ← HP.out]; exact H5, HB5⟩
      case measure => simp [intOf]; omega
    · obtain rfl : i = r := by omega
      have g1 : ¬ (p : Int) < (n : Int) := by omega
      obtain ⟨A9, c9, e9⟩ := Kd.R_slice HR.out
      rw [line_len] at e9
      subst e9
      have hC3 := R_C (Kd.R_below HR3.out HB.out)
      obtain ⟨hl9, _, hC9⟩ := Kd.R_reads' HR.out
      rw [line_len] at hC9
      have FA := Lib.hid (filled_any i n i c5 c9 A5 A9 (wordF k i m (fun _ => 0)) (fun j => k + j) wr hC3.1 hC3.2 hC9 (fun j => wordF_byt HM.out (fun _ => byt0) j) h2 (by omega) (by omega) hnk (Nat.le_refl _) (fun j hj => by omega))
      clear hC3 hl9 hC9 hp hnn
      go_wp2_with (go_at_call 29; (with_reducible refine FA.out.mono ?_); rintro e w6 ⟨t, M, hst, hb6, h6⟩; obtain ⟨_, A7, c7, rfl, hr7⟩ := h6.resolve_right (fun h => by obtain ⟨⟨z, z1, z2, _⟩, _⟩ := h; omega); have HST := Lib.hid hst; have HB6 := Lib.hid hb6; have HR7 := Lib.hid hr7; clear hst hb6 h6 hr7)
      go_ret
      have hst := HST.out
      rw [HN.out] at hst
      have hs := renc_sol HM.out h2 (by have := HN.out; omega) hst
      have hf := fill_word (k := k) (r := i) (m := m) (t := encT (gen i) i m k) (x := fun z => M z i) (encT_byt HM.out k) hs
      rw [← HN.out] at hf
      refine ⟨A7, c7, rfl, ?_, HB3.out.trans ((HB.out.trans (HB6.out.mono HB.out.size)).mono HB3.out.size)⟩
      rw [← hf]
      exact Kd.R_lower HR7.out (Nat.le_trans HB3.out.size HB.out.size)
theorem small_f (n k : Int) (b : Bool) (h : decide (1 ≤ k ∧ k < n ∧ n ≤ 16 ∧ n - k ≤ 5) = b) : coldframelaw30_small.f n k = some b := by
  subst h
  unfold coldframelaw30_small.f coldframeref30_Right.f
  by_cases h1 : k ≥ 1
  · rw [if_pos h1]
    by_cases h2 : n > k
    · rw [if_pos h2, bnd]
      by_cases h3 : n ≤ 16
      · rw [if_pos (by simp; omega), if_pos h3, show wrap64 (n - k) = n - k from wrap64_in _ (by omega) (by omega)]
        congr 1; rw [decide_eq_decide]; omega
      · by_cases h4 : n ≤ 255
        · rw [if_pos (by simp; omega), if_neg h3]; congr 1; symm; rw [decide_eq_false_iff_not]; omega
        · rw [if_neg (by simp; omega)]; congr 1; symm; rw [decide_eq_false_iff_not]; omega
    · rw [if_neg h2, bnd, if_neg (by simp)]; congr 1; symm; rw [decide_eq_false_iff_not]; omega
  · rw [if_neg h1, bnd, if_neg (by simp)]; congr 1; symm; rw [decide_eq_false_iff_not]; omega
theorem small_calls (n k : Int) (b : Bool) (w : World) (h : decide (1 ≤ k ∧ k < n ∧ n ≤ 16 ∧ n - k ≤ 5) = b) :
    Calls Try.prog 7 #[.int .i64 n, .int .i64 k] w fun e w' => e = .returned (.bool b) ∧ Below w.heap.size w w' := by
  refine (coldframelaw30_small.calls n k b w (small_f n k b h)).mono ?_
  rintro e w' ⟨rfl, hd⟩
  exact ⟨rfl, hd.below⟩
theorem str_of {w : World} {A : Option Addr} {n c : Nat} {xs : List Int} (h : (Kd.int .u8).C w A n xs) : (convert 22 9 (.slice A n c)).run Try.prog w = .ok (.string (strOfNums xs)) w :=
  Kd.C_string Try.underlying22 Try.underlying5 Try.underlying9 h
theorem awake_word : line 3 (wordF 1 2 (fun i => if i = 0 then 1 else 0) (encT (gen 2) 2 (fun i => if i = 0 then 1 else 0) 1)) = [1, 3, 2] := by decide +kernel
set_option maxRecDepth 100000 in
theorem awake_calls (w : World) : Calls Try.prog 8 #[] w fun e w' => e = .returned (.bool true) ∧ Below w.heap.size w w' := by
  have NG := Lib.hid (show Calls Try.prog 9 #[.int .i64 3, .int .i64 1] w fun e w' => ∃ v, e = .returned (.tuple #[v, .int .i64 0]) ∧ IsRs w' v 3 1 2 ∧ Below w.heap.size w w' from new_good 3 1 2 w rfl (by decide) (by decide) (by decide))
  have EG := Lib.hid (fun v W (hv : IsRs W v 3 1 2) => enc_good v 3 1 2 1 (some ⟨W.heap.size, 0, none⟩) (fun i => if i = 0 then 1 else 0) (W.alloc (.cells #[.int .u8 1] 5)) (hv.below ((Below.refl _ _).alloc (Nat.le_refl _) _)) rfl (by decide) (by decide) (by decide) (R_C (litR W W.heap.size (Nat.le_refl _) [1] (by decide))).1 (by decide) (fun i => by (show Byt (if i = 0 then 1 else 0)); split; exact ⟨by decide, by decide⟩; exact byt0))
  rw [awake_word] at EG
  have ks : ((strOfNums [1, 3, 2]).toList == [1, 3, 2]) = true := by decide +kernel
  go_enter Try.func8, Try.ntmps8
  go_wp2_with (first
    | (go_at_call 9; (with_reducible refine NG.out.mono ?_); rintro e w1 ⟨v, rfl, hv, hb⟩; have HV := Lib.hid hv; have HB := Lib.hid hb; clear hv hb)
    | (go_at_call 12; (refine (EG.out v _ HV.out).mono ?_); rintro e w2 ⟨A3, c3, rfl, hr3, hb3⟩; have k3 := str_of (c := c3) (R_C hr3).1; have HB3 := Lib.hid (HB.out.trans ((((Below.refl w1.heap.size w1).alloc (Nat.le_refl _) _).trans (hb3.mono (by simp))).mono HB.out.size)); clear hr3 hb3))
  go_ret
  exact ⟨rfl, HB3.out⟩
end Go.Proofs.Ytcneobnplhffmaa.Rsc
/- The law RsCodes: the walk. -/
namespace Go.Proofs.Ytcneobnplhffmaa.Rsc
open Go Go.RowKit Go.Proofs.Ytcneobnplhffmaa.PRsEncodes Go.Proofs.Ytcneobnplhffmaa.BRsEncodes Go.Proofs.Ytcneobnplhffmaa.Gf Go.Proofs.Ytcneobnplhffmaa.Gi Go.Proofs.Ytcneobnplhffmaa.Bits Go.Proofs.Ytcneobnplhffmaa.Mem Go.Proofs.Ytcneobnplhffmaa.Alg Go.Proofs.Ytcneobnplhffmaa.Sol Go.Proofs.Ytcneobnplhffmaa.Rws Go.Proofs.Ytcneobnplhffmaa.Cat Go.Proofs.Ytcneobnplhffmaa.Opn Go.Proofs.YtcneobnplhffmaaW.PrintWords Go.Proofs.YtcneobnplhffmaaW.PrintLast
set_option linter.unusedVariables false

set_option maxRecDepth 100000 in
theorem size_nil (w : World) : Calls Try.prog 17 #[.pointer none] w fun e w' => e = .returned (.tuple #[.int .i64 0, .int .i64 0]) ∧ w' = w := by
  go_enter Try.func17, Try.ntmps17
  go_wp2
  go_ret2
  exact ⟨rfl, rfl⟩
set_option maxRecDepth 100000 in
theorem size_any (v : Value) (n k r : Nat) (w : World) (hv : IsRs w v n k r) : Calls Try.prog 17 #[v] w fun e w' => e = .returned (.tuple #[.int .i64 n, .int .i64 k]) ∧ Below w.heap.size w w' := by
  obtain ⟨b, A1, c1, rfl, hb, _, _⟩ := hv
  have y0 : w.cell? ⟨b, 0, none⟩ = some (.int .i64 n) := (hb.cell 0).trans rfl
  have y1 : w.cell? ⟨b, 1, none⟩ = some (.int .i64 k) := (hb.cell 1).trans rfl
  clear hb
  go_enter Try.func17, Try.ntmps17
  go_wp2
  go_quiet (fail)
  go_wp2
  go_ret2
  exact ⟨rfl, by first | exact pw_below_drewN (Below.refl _ _) _ | exact (Below.refl _ _).drew⟩
set_option maxRecDepth 100000 in
theorem gen_nil (w : World) : Calls Try.prog 18 #[.pointer none] w fun e w' => e = .returned (.slice none 0 0) ∧ w' = w := by
  go_enter Try.func18, Try.ntmps18
  go_wp2
  go_ret
  exact ⟨rfl, rfl⟩
set_option maxRecDepth 100000 in
theorem gen_any (v : Value) (n k r : Nat) (w : World) (hv : IsRs w v n k r) (hr : r ≤ 255) : Calls Try.prog 18 #[v] w fun e w' => ∃ A' c', e = .returned (.slice A' (r + 1) c') ∧ (Kd.int .u8).R 5 w' w.heap.size (fun _ => True) (.slice A' (r + 1) c') (line (r + 1) (gen r)) ∧ Below w.heap.size w w' := by
  obtain ⟨b, A1, c1, rfl, hb, hc1, hG⟩ := hv
  have y2 : w.cell? ⟨b, 2, none⟩ = some (.slice A1 (r + 1) c1) := (hb.cell 2).trans rfl
  have CL := Lib.hid (clone_row (r + 1) c1 A1 _ w hG (by omega) (by omega))
  clear hb hc1 hG
  go_enter Try.func18, Try.ntmps18
  go_wp2_with (go_at_call 22; (with_reducible refine CL.out.mono ?_); rintro e w1 ⟨A6, c6, rfl, hr1, hb1⟩; have HR1 := Lib.hid hr1; have HB1 := Lib.hid hb1; clear hr1 hb1)
  go_ret
  exact ⟨A6, c6, rfl, HR1.out, HB1.out⟩
set_option maxRecDepth 100000 in
theorem dec_nil (A A1 : Option Addr) (L c L1 c1 : Nat) (w : World) : Calls Try.prog 14 #[.pointer none, .slice A L c, .slice A1 L1 c1] w fun e w' => e = .returned (.tuple #[.slice none 0 0, .int .i64 0, .int .i64 1]) ∧ w' = w := by
  have SN := Lib.hid (syn_nil L c A w)
  go_enter Try.func14, Try.ntmps14
  go_wp2_with (go_at_call 10; (with_reducible refine SN.out.mono ?_); rintro e w1 ⟨rfl, hw⟩; obtain rfl := hw.symm; clear hw)
  refine bodyPost_ret (v := .tuple #[.slice none 0 0, .int .i64 0, .int .i64 1]) (by simp [results, Try.results14, go_sem]) rfl ⟨rfl, rfl⟩
theorem right_f (n k : Int) : coldframeref30_Right.f n k = some (decide (1 ≤ k ∧ k < n ∧ n ≤ 255)) := by
  unfold coldframeref30_Right.f
  by_cases h1 : k ≥ 1
  · rw [if_pos h1]
    by_cases h2 : n > k
    · rw [if_pos h2]; congr 1; rw [decide_eq_decide]; omega
    · rw [if_neg h2]; congr 1; symm; rw [decide_eq_false_iff_not]; omega
  · rw [if_neg h1]; congr 1; symm; rw [decide_eq_false_iff_not]; omega
theorem right_calls (n k : Int) (b : Bool) (w : World) (h : decide (1 ≤ k ∧ k < n ∧ n ≤ 255) = b) :
    Calls Try.prog 16 #[.int .i64 n, .int .i64 k] w fun e w' => e = .returned (.bool b) ∧ Below w.heap.size w w' := by
  subst h
  refine (coldframeref30_Right.calls n k _ w (right_f n k)).mono ?_
  rintro e w' ⟨rfl, hd⟩
  exact ⟨rfl, hd.below⟩
set_option maxRecDepth 100000 in
theorem rc_long (n k : Int) (A : Option Addr) (L c : Nat) (w : World) (h : 300 < L) :
    Calls Try.prog 6 #[.int .i64 n, .int .i64 k, .slice A L c] w fun e w' => e = .returned (.bool true) ∧ Below w.heap.size w w' := by
  have t1 : (300 : Int) < (L : Int) := by omega
  have HB1 := Lib.hid (Below.refl w.heap.size w)
  clear h
  go_enter Try.func6, Try.ntmps6
  go_wp2_with (go_at_call 8; (with_reducible refine (awake_calls _).mono ?_); rintro e w9 ⟨rfl, hb⟩; have HBn := Lib.hid (HB1.out.trans (hb.mono HB1.out.size)); clear HB1 hb; have HB1 := HBn; clear HBn)
  go_ret
  exact ⟨rfl, HB1.out⟩
set_option maxRecDepth 100000 in
set_option maxHeartbeats 2000000 in
theorem rc_bad (n k : Int) (A : Option Addr) (L c : Nat) (w : World) (hL : L ≤ 300) (h : ¬ (1 ≤ k ∧ k < n ∧ n ≤ 255)) :
    Calls Try.prog 6 #[.int .i64 n, .int .i64 k, .slice A L c] w fun e w' => e = .returned (.bool true) ∧ Below w.heap.size w w' := by
  have t1 : ¬ (300 : Int) < (L : Int) := by omega
  have NB := Lib.hid (new_bad n k w h)
  have RC := Lib.hid (fun W => right_calls n k false W (by simp; omega))
  have HB1 := Lib.hid (Below.refl w.heap.size w)
  clear h hL
  go_enter Try.func6, Try.ntmps6
  go_wp2_with (first
    | (go_at_call 9; (with_reducible refine NB.out.mono ?_); rintro e w2 ⟨rfl, hw⟩; obtain rfl := hw.symm; clear hw)
    | (go_at_call 17; (with_reducible refine (size_nil _).mono ?_); rintro e w3 ⟨rfl, hw⟩; obtain rfl := hw.symm; clear hw)
    | (go_at_call 12; (with_reducible refine (enc_nil _ _ _ _).mono ?_); rintro e w3 ⟨rfl, hw⟩; obtain rfl := hw.symm; clear hw)
    | (go_at_call 10; (with_reducible refine (syn_nil _ _ _ _).mono ?_); rintro e w3 ⟨rfl, hw⟩; obtain rfl := hw.symm; clear hw)
    | (go_at_call 14; (with_reducible refine (dec_nil _ _ _ _ _ _ _).mono ?_); rintro e w3 ⟨rfl, hw⟩; obtain rfl := hw.symm; clear hw)
    | (go_at_call 18; (with_reducible refine (gen_nil _).mono ?_); rintro e w3 ⟨rfl, hw⟩; obtain rfl := hw.symm; clear hw)
    | (go_at_call 16; (with_reducible refine (RC.out _).mono ?_); rintro e w4 ⟨rfl, hb⟩; have HBn := Lib.hid (HB1.out.trans (hb.mono HB1.out.size)); clear HB1 hb; have HB1 := HBn; clear HBn)
    | (go_at_call 8; (with_reducible refine (awake_calls _).mono ?_); rintro e w9 ⟨rfl, hb⟩; have HBn := Lib.hid (HB1.out.trans (hb.mono HB1.out.size)); clear HB1 hb; have HB1 := HBn; clear HBn))
  go_ret
  exact ⟨rfl, HB1.out⟩
set_option maxRecDepth 100000 in
set_option maxHeartbeats 4000000 in
theorem rc_great (n k r : Nat) (A : Option Addr) (L c : Nat) (w : World) (hL : L ≤ 300) (hn : n = k + r) (h1 : 1 ≤ k) (h2 : 1 ≤ r) (h3 : n ≤ 255) (h4 : 40 < r) :
    Calls Try.prog 6 #[.int .i64 n, .int .i64 k, .slice A L c] w fun e w' => e = .returned (.bool true) ∧ Below w.heap.size w w' := by
  have t2 : (40 : Int) < (r : Int) := by omega
  have t3 : decide ((r : Int) > 40) = true := by simp; omega
  have t1 : ¬ (300 : Int) < (L : Int) := by omega
  have NG := Lib.hid (new_good n k r w hn h1 h2 h3)
  have RC := Lib.hid (fun W => right_calls n k true W (by simp; omega))
  have SZ := Lib.hid (fun v W (hv : IsRs W v n k r) => size_any v n k r W hv)
  have GA := Lib.hid (fun v W (hv : IsRs W v n k r) => gen_any v n k r W hv (by omega))
  have e1 : IntKind.i64.wrap ((n : Int) - (k : Int)) = (r : Int) := by rw [IntWalk.i64_in _ (by omega)]; omega
  clear hL hn h1 h2 h3
  go_enter Try.func6, Try.ntmps6
  go_upto_region 13 with (first
    | (go_at_call 9; (with_reducible refine NG.out.mono ?_); rintro e w2 ⟨v, rfl, hcd, hb⟩; have HV := Lib.hid hcd; have HB1 := Lib.hid hb; clear hcd hb)
    | (go_at_call 17; (with_reducible refine (size_nil _).mono ?_); rintro e w3 ⟨rfl, hw⟩; obtain rfl := hw.symm; clear hw)
    | (go_at_call 12; (with_reducible refine (enc_nil _ _ _ _).mono ?_); rintro e w3 ⟨rfl, hw⟩; obtain rfl := hw.symm; clear hw)
    | (go_at_call 10; (with_reducible refine (syn_nil _ _ _ _).mono ?_); rintro e w3 ⟨rfl, hw⟩; obtain rfl := hw.symm; clear hw)
    | (go_at_call 14; (with_reducible refine (dec_nil _ _ _ _ _ _ _).mono ?_); rintro e w3 ⟨rfl, hw⟩; obtain rfl := hw.symm; clear hw)
    | (go_at_call 18; (with_reducible refine (gen_nil _).mono ?_); rintro e w3 ⟨rfl, hw⟩; obtain rfl := hw.symm; clear hw)
    | (go_at_call 16; (with_reducible refine (RC.out _).mono ?_); rintro e w4 ⟨rfl, hb⟩; have HVn := Lib.hid (HV.out.below hb); clear HV; have HV := HVn; clear HVn; have HBn := Lib.hid (HB1.out.trans (hb.mono HB1.out.size)); clear HB1 hb; have HB1 := HBn; clear HBn))
  go_upto_region 14 with (go_at_call 17; (with_reducible refine (SZ.out v _ HV.out).mono ?_); rintro e w5 ⟨rfl, hb⟩; have HVn := Lib.hid (HV.out.below hb); clear HV; have HV := HVn; clear HVn; have HBn := Lib.hid (HB1.out.trans (hb.mono HB1.out.size)); clear HB1 hb; have HB1 := HBn; clear HBn)
  have HBx := Lib.hid (show Below w5.heap.size w5 w5.drew from (Below.refl _ _).drew)
  refine wp_region_noPanic ?_
  refine wp_region_held_drew (S := (fun W => True)) (by kernel_rfl) ?_ (fun hHeld => ?_)
  · ((try dsimp only); all_goals exact trivial)
  refine wpAnyH_take (i := 0) (oi := { dst := some 91, op := Go.Op.move (Go.Operand.tmp 8), type := 26, pos := "law.go:38", after := #[], guard := none }) (v := ?_) rfl (by kernel_rfl) (by kernel_rfl) (by kernel_rfl) (fun _ _ _ h => h) (Or.inl ⟨by rfl, ?_⟩) (by assumption) ?_
  rotate_left 1
  · (intro w hSw; (try dsimp only at hSw); go_simp; try with_reducible rfl)
  try simp only [Act.put, List.setIfInBounds_toArray, List.set_cons_zero, List.set_cons_succ]
  refine wpAnyH_take (i := 1) (oi := { dst := some 92, op := Go.Op.binOp Go.BinOp.eql 26 (Go.Operand.tmp 91) (Go.Operand.const (Go.Value.int Go.IntKind.i64 0)) 26, type := 4, pos := "law.go:38", after := #[{ on := 0, ground := Go.Ground.data }], guard := none }) (v := ?_) rfl (by kernel_rfl) (by kernel_rfl) (by kernel_rfl) (fun _ _ _ h => h) (Or.inl ⟨by rfl, ?_⟩) (by assumption) ?_
  rotate_left 1
  · (intro w hSw; (try dsimp only at hSw); go_simp; try with_reducible rfl)
  try simp only [Act.put, List.setIfInBounds_toArray, List.set_cons_zero, List.set_cons_succ]
  refine wpAnyH_take (i := 2) (oi := { dst := some 93, op := Go.Op.move (Go.Operand.tmp 92), type := 4, pos := "law.go:38", after := #[{ on := 1, ground := Go.Ground.data }], guard := none }) (v := ?_) rfl (by kernel_rfl) (by kernel_rfl) (by kernel_rfl) (fun _ _ _ h => h) (Or.inl ⟨by rfl, ?_⟩) (by assumption) ?_
  rotate_left 1
  · (intro w hSw; (try dsimp only at hSw); go_simp; try with_reducible rfl)
  try simp only [Act.put, List.setIfInBounds_toArray, List.set_cons_zero, List.set_cons_succ]
  refine wpAnyH_take (i := 3) (oi := { dst := some 94, op := Go.Op.move (Go.Operand.tmp 10), type := 3, pos := "law.go:38", after := #[{ on := 2, ground := Go.Ground.guard }], guard := some (2, true) }) (v := ?_) rfl (by kernel_rfl) (by kernel_rfl) (by kernel_rfl) (fun _ _ _ h => h) (Or.inl ⟨by rfl, ?_⟩) (by assumption) ?_
  rotate_left 1
  · (intro w hSw; (try dsimp only at hSw); go_simp; try with_reducible rfl)
  try simp only [Act.put, List.setIfInBounds_toArray, List.set_cons_zero, List.set_cons_succ]
  refine wpAnyH_take (i := 4) (oi := { dst := some 95, op := Go.Op.move (Go.Operand.tmp 0), type := 3, pos := "law.go:38", after := #[{ on := 2, ground := Go.Ground.guard }], guard := some (2, true) }) (v := ?_) rfl (by kernel_rfl) (by kernel_rfl) (by kernel_rfl) (fun _ _ _ h => h) (Or.inl ⟨by rfl, ?_⟩) (by assumption) ?_
  rotate_left 1
  · (intro w hSw; (try dsimp only at hSw); go_simp; try with_reducible rfl)
  try simp only [Act.put, List.setIfInBounds_toArray, List.set_cons_zero, List.set_cons_succ]
  refine wpAnyH_take (i := 5) (oi := { dst := some 96, op := Go.Op.binOp Go.BinOp.eql 3 (Go.Operand.tmp 94) (Go.Operand.tmp 95) 3, type := 4, pos := "law.go:38", after := #[{ on := 3, ground := Go.Ground.data }, { on := 4, ground := Go.Ground.data }, { on := 2, ground := Go.Ground.guard }], guard := some (2, true) }) (v := ?_) rfl (by kernel_rfl) (by kernel_rfl) (by kernel_rfl) (fun _ _ _ h => h) (Or.inl ⟨by rfl, ?_⟩) (by assumption) ?_
  rotate_left 1
  · (intro w hSw; (try dsimp only at hSw); go_simp; try with_reducible rfl)
  try simp only [Act.put, List.setIfInBounds_toArray, List.set_cons_zero, List.set_cons_succ]
  refine wpAnyH_take (i := 6) (oi := { dst := some 97, op := Go.Op.pick (Go.Operand.tmp 93) (Go.Operand.tmp 96) (Go.Operand.const (Go.Value.bool false)), type := 4, pos := "law.go:38", after := #[{ on := 2, ground := Go.Ground.data }, { on := 5, ground := Go.Ground.data }], guard := none }) (v := ?_) rfl (by kernel_rfl) (by kernel_rfl) (by kernel_rfl) (fun _ _ _ h => h) (Or.inl ⟨by rfl, ?_⟩) (by assumption) ?_
  rotate_left 1
  · (intro w hSw; (try dsimp only at hSw); go_simp; try with_reducible rfl)
  try simp only [Act.put, List.setIfInBounds_toArray, List.set_cons_zero, List.set_cons_succ]
  refine wpAnyH_take (i := 7) (oi := { dst := some 98, op := Go.Op.move (Go.Operand.tmp 97), type := 4, pos := "law.go:38", after := #[{ on := 6, ground := Go.Ground.data }, { on := 2, ground := Go.Ground.chain }], guard := none }) (v := ?_) rfl (by kernel_rfl) (by kernel_rfl) (by kernel_rfl) (fun _ _ _ h => h) (Or.inl ⟨by rfl, ?_⟩) (by assumption) ?_
  rotate_left 1
  · (intro w hSw; (try dsimp only at hSw); go_simp; try with_reducible rfl)
  try simp only [Act.put, List.setIfInBounds_toArray, List.set_cons_zero, List.set_cons_succ]
  refine wpAnyH_take (i := 8) (oi := { dst := some 99, op := Go.Op.move (Go.Operand.tmp 11), type := 3, pos := "law.go:38", after := #[{ on := 7, ground := Go.Ground.guard }], guard := some (7, true) }) (v := ?_) rfl (by kernel_rfl) (by kernel_rfl) (by kernel_rfl) (fun _ _ _ h => h) (Or.inl ⟨by rfl, ?_⟩) (by assumption) ?_
  rotate_left 1
  · (intro w hSw; (try dsimp only at hSw); go_simp; try with_reducible rfl)
  try simp only [Act.put, List.setIfInBounds_toArray, List.set_cons_zero, List.set_cons_succ]
  refine wpAnyH_take (i := 9) (oi := { dst := some 100, op := Go.Op.move (Go.Operand.tmp 1), type := 3, pos := "law.go:38", after := #[{ on := 7, ground := Go.Ground.guard }], guard := some (7, true) }) (v := ?_) rfl (by kernel_rfl) (by kernel_rfl) (by kernel_rfl) (fun _ _ _ h => h) (Or.inl ⟨by rfl, ?_⟩) (by assumption) ?_
  rotate_left 1
  · (intro w hSw; (try dsimp only at hSw); go_simp; try with_reducible rfl)
  try simp only [Act.put, List.setIfInBounds_toArray, List.set_cons_zero, List.set_cons_succ]
  refine wpAnyH_take (i := 10) (oi := { dst := some 101, op := Go.Op.binOp Go.BinOp.eql 3 (Go.Operand.tmp 99) (Go.Operand.tmp 100) 3, type := 4, pos := "law.go:38", after := #[{ on := 8, ground := Go.Ground.data }, { on := 9, ground := Go.Ground.data }, { on := 7, ground := Go.Ground.guard }], guard := some (7, true) }) (v := ?_) rfl (by kernel_rfl) (by kernel_rfl) (by kernel_rfl) (fun _ _ _ h => h) (Or.inl ⟨by rfl, ?_⟩) (by assumption) ?_
  rotate_left 1
  · (intro w hSw; (try dsimp only at hSw); go_simp; try with_reducible rfl)
  try simp only [Act.put, List.setIfInBounds_toArray, List.set_cons_zero, List.set_cons_succ]
  refine wpAnyH_take (i := 11) (oi := { dst := some 102, op := Go.Op.pick (Go.Operand.tmp 98) (Go.Operand.tmp 101) (Go.Operand.const (Go.Value.bool false)), type := 4, pos := "law.go:38", after := #[{ on := 7, ground := Go.Ground.data }, { on := 10, ground := Go.Ground.data }], guard := none }) (v := ?_) rfl (by kernel_rfl) (by kernel_rfl) (by kernel_rfl) (fun _ _ _ h => h) (Or.inl ⟨by rfl, ?_⟩) (by assumption) ?_
  rotate_left 1
  · (intro w hSw; (try dsimp only at hSw); go_simp; try with_reducible rfl)
  try simp only [Act.put, List.setIfInBounds_toArray, List.set_cons_zero, List.set_cons_succ]
  refine wpAnyH_take (i := 12) (oi := { dst := some 103, op := Go.Op.move (Go.Operand.tmp 102), type := 4, pos := "law.go:38", after := #[{ on := 11, ground := Go.Ground.data }, { on := 7, ground := Go.Ground.chain }], guard := none }) (v := ?_) rfl (by kernel_rfl) (by kernel_rfl) (by kernel_rfl) (fun _ _ _ h => h) (Or.inl ⟨by rfl, ?_⟩) (by assumption) ?_
  rotate_left 1
  · (intro w hSw; (try dsimp only at hSw); go_simp; try with_reducible rfl)
  try simp only [Act.put, List.setIfInBounds_toArray, List.set_cons_zero, List.set_cons_succ]
  refine wpAnyH_take (i := 13) (oi := { dst := some 104, op := Go.Op.move (Go.Operand.tmp 0), type := 3, pos := "law.go:38", after := #[{ on := 12, ground := Go.Ground.guard }], guard := some (12, true) }) (v := ?_) rfl (by kernel_rfl) (by kernel_rfl) (by kernel_rfl) (fun _ _ _ h => h) (Or.inl ⟨by rfl, ?_⟩) (by assumption) ?_
  rotate_left 1
  · (intro w hSw; (try dsimp only at hSw); go_simp; try with_reducible rfl)
  try simp only [Act.put, List.setIfInBounds_toArray, List.set_cons_zero, List.set_cons_succ]
  refine wpAnyH_take (i := 14) (oi := { dst := some 105, op := Go.Op.move (Go.Operand.tmp 1), type := 3, pos := "law.go:38", after := #[{ on := 12, ground := Go.Ground.guard }], guard := some (12, true) }) (v := ?_) rfl (by kernel_rfl) (by kernel_rfl) (by kernel_rfl) (fun _ _ _ h => h) (Or.inl ⟨by rfl, ?_⟩) (by assumption) ?_
  rotate_left 1
  · (intro w hSw; (try dsimp only at hSw); go_simp; try with_reducible rfl)
  try simp only [Act.put, List.setIfInBounds_toArray, List.set_cons_zero, List.set_cons_succ]
  refine wpAnyH_take (i := 15) (oi := { dst := some 106, op := Go.Op.binOp Go.BinOp.sub 3 (Go.Operand.tmp 104) (Go.Operand.tmp 105) 3, type := 3, pos := "law.go:38", after := #[{ on := 13, ground := Go.Ground.data }, { on := 14, ground := Go.Ground.data }, { on := 12, ground := Go.Ground.guard }], guard := some (12, true) }) (v := ?_) rfl (by kernel_rfl) (by kernel_rfl) (by kernel_rfl) (fun _ _ _ h => h) (Or.inl ⟨by rfl, ?_⟩) (by assumption) ?_
  rotate_left 1
  · (intro w hSw; (try dsimp only at hSw); go_simp; try with_reducible rfl)
  try simp only [Act.put, List.setIfInBounds_toArray, List.set_cons_zero, List.set_cons_succ]
  refine wpAnyH_take (i := 16) (oi := { dst := some 107, op := Go.Op.binOp Go.BinOp.gtr 3 (Go.Operand.tmp 106) (Go.Operand.const (Go.Value.int Go.IntKind.i64 40)) 3, type := 4, pos := "law.go:38", after := #[{ on := 15, ground := Go.Ground.data }, { on := 12, ground := Go.Ground.guard }], guard := some (12, true) }) (v := ?_) rfl (by kernel_rfl) (by kernel_rfl) (by kernel_rfl) (fun _ _ _ h => h) (Or.inl ⟨by rfl, ?_⟩) (by assumption) ?_
  rotate_left 1
  · (intro w hSw; (try dsimp only at hSw); go_simp; try with_reducible rfl)
  try simp only [Act.put, List.setIfInBounds_toArray, List.set_cons_zero, List.set_cons_succ]
  refine wpAnyH_take (i := 17) (oi := { dst := some 108, op := Go.Op.move (Go.Operand.tmp 107), type := 4, pos := "law.go:38", after := #[{ on := 16, ground := Go.Ground.data }, { on := 12, ground := Go.Ground.chain }, { on := 12, ground := Go.Ground.guard }], guard := some (12, true) }) (v := ?_) rfl (by kernel_rfl) (by kernel_rfl) (by kernel_rfl) (fun _ _ _ h => h) (Or.inl ⟨by rfl, ?_⟩) (by assumption) ?_
  rotate_left 1
  · (intro w hSw; (try dsimp only at hSw); go_simp; try with_reducible rfl)
  try simp only [Act.put, List.setIfInBounds_toArray, List.set_cons_zero, List.set_cons_succ]
  refine wpAnyH_take (i := 18) (oi := { dst := some 109, op := Go.Op.move (Go.Operand.tmp 7), type := 25, pos := "law.go:38", after := #[{ on := 17, ground := Go.Ground.guard }], guard := some (17, false) }) (v := undef) rfl (by kernel_rfl) (by kernel_rfl) (by kernel_rfl) (fun _ _ _ h => h) (Or.inr ⟨by rfl, rfl⟩) (by assumption) ?_
  try simp only [Act.put, List.setIfInBounds_toArray, List.set_cons_zero, List.set_cons_succ]
  refine wpAnyH_take (i := 19) (oi := { dst := some 110, op := Go.Op.call { callee := Go.Callee.value (Go.Operand.func 18), args := #[Go.Operand.tmp 109], argTypes := #[25] }, type := 22, pos := "law.go:38", after := #[{ on := 18, ground := Go.Ground.data }, { on := 17, ground := Go.Ground.chain }, { on := 17, ground := Go.Ground.guard }], guard := some (17, false) }) (v := undef) rfl (by kernel_rfl) (by kernel_rfl) (by kernel_rfl) (fun _ _ _ h => h) (Or.inr ⟨by rfl, rfl⟩) (by assumption) ?_
  try simp only [Act.put, List.setIfInBounds_toArray, List.set_cons_zero, List.set_cons_succ]
  refine wpAnyH_take (i := 20) (oi := { dst := some 111, op := Go.Op.convert 22 9 (Go.Operand.tmp 110), type := 9, pos := "law.go:38", after := #[{ on := 19, ground := Go.Ground.data }, { on := 17, ground := Go.Ground.guard }], guard := some (17, false) }) (v := undef) rfl (by kernel_rfl) (by kernel_rfl) (by kernel_rfl) (fun _ _ _ h => h) (Or.inr ⟨by rfl, rfl⟩) (by assumption) ?_
  try simp only [Act.put, List.setIfInBounds_toArray, List.set_cons_zero, List.set_cons_succ]
  refine wpAnyH_take (i := 21) (oi := { dst := some 112, op := Go.Op.move (Go.Operand.tmp 0), type := 3, pos := "law.go:38", after := #[{ on := 17, ground := Go.Ground.guard }], guard := some (17, false) }) (v := undef) rfl (by kernel_rfl) (by kernel_rfl) (by kernel_rfl) (fun _ _ _ h => h) (Or.inr ⟨by rfl, rfl⟩) (by assumption) ?_
  try simp only [Act.put, List.setIfInBounds_toArray, List.set_cons_zero, List.set_cons_succ]
  refine wpAnyH_take (i := 22) (oi := { dst := some 113, op := Go.Op.move (Go.Operand.tmp 1), type := 3, pos := "law.go:38", after := #[{ on := 17, ground := Go.Ground.guard }], guard := some (17, false) }) (v := undef) rfl (by kernel_rfl) (by kernel_rfl) (by kernel_rfl) (fun _ _ _ h => h) (Or.inr ⟨by rfl, rfl⟩) (by assumption) ?_
  try simp only [Act.put, List.setIfInBounds_toArray, List.set_cons_zero, List.set_cons_succ]
  refine wpAnyH_take (i := 23) (oi := { dst := some 114, op := Go.Op.binOp Go.BinOp.sub 3 (Go.Operand.tmp 112) (Go.Operand.tmp 113) 3, type := 3, pos := "law.go:38", after := #[{ on := 21, ground := Go.Ground.data }, { on := 22, ground := Go.Ground.data }, { on := 17, ground := Go.Ground.guard }], guard := some (17, false) }) (v := undef) rfl (by kernel_rfl) (by kernel_rfl) (by kernel_rfl) (fun _ _ _ h => h) (Or.inr ⟨by rfl, rfl⟩) (by assumption) ?_
  try simp only [Act.put, List.setIfInBounds_toArray, List.set_cons_zero, List.set_cons_succ]
  refine wpAnyH_take (i := 24) (oi := { dst := some 115, op := Go.Op.call { callee := Go.Callee.value (Go.Operand.func 19), args := #[Go.Operand.tmp 114], argTypes := #[3] }, type := 22, pos := "law.go:38", after := #[{ on := 23, ground := Go.Ground.data }, { on := 19, ground := Go.Ground.chain }, { on := 17, ground := Go.Ground.guard }], guard := some (17, false) }) (v := undef) rfl (by kernel_rfl) (by kernel_rfl) (by kernel_rfl) (fun _ _ _ h => h) (Or.inr ⟨by rfl, rfl⟩) (by assumption) ?_
  try simp only [Act.put, List.setIfInBounds_toArray, List.set_cons_zero, List.set_cons_succ]
  refine wpAnyH_take (i := 25) (oi := { dst := some 116, op := Go.Op.convert 22 9 (Go.Operand.tmp 115), type := 9, pos := "law.go:38", after := #[{ on := 24, ground := Go.Ground.data }, { on := 17, ground := Go.Ground.guard }], guard := some (17, false) }) (v := undef) rfl (by kernel_rfl) (by kernel_rfl) (by kernel_rfl) (fun _ _ _ h => h) (Or.inr ⟨by rfl, rfl⟩) (by assumption) ?_
  try simp only [Act.put, List.setIfInBounds_toArray, List.set_cons_zero, List.set_cons_succ]
  refine wpAnyH_take (i := 26) (oi := { dst := some 117, op := Go.Op.binOp Go.BinOp.eql 9 (Go.Operand.tmp 111) (Go.Operand.tmp 116) 9, type := 4, pos := "law.go:38", after := #[{ on := 20, ground := Go.Ground.data }, { on := 25, ground := Go.Ground.data }, { on := 17, ground := Go.Ground.guard }], guard := some (17, false) }) (v := undef) rfl (by kernel_rfl) (by kernel_rfl) (by kernel_rfl) (fun _ _ _ h => h) (Or.inr ⟨by rfl, rfl⟩) (by assumption) ?_
  try simp only [Act.put, List.setIfInBounds_toArray, List.set_cons_zero, List.set_cons_succ]
  refine wpAnyH_take (i := 27) (oi := { dst := some 118, op := Go.Op.pick (Go.Operand.tmp 108) (Go.Operand.const (Go.Value.bool true)) (Go.Operand.tmp 117), type := 4, pos := "law.go:38", after := #[{ on := 17, ground := Go.Ground.data }, { on := 26, ground := Go.Ground.data }, { on := 12, ground := Go.Ground.guard }], guard := some (12, true) }) (v := ?_) rfl (by kernel_rfl) (by kernel_rfl) (by kernel_rfl) (fun _ _ _ h => h) (Or.inl ⟨by rfl, ?_⟩) (by assumption) ?_
  rotate_left 1
  · (intro w hSw; (try dsimp only at hSw); go_simp; try with_reducible rfl)
  try simp only [Act.put, List.setIfInBounds_toArray, List.set_cons_zero, List.set_cons_succ]
  refine wpAnyH_take (i := 28) (oi := { dst := some 119, op := Go.Op.pick (Go.Operand.tmp 103) (Go.Operand.tmp 118) (Go.Operand.const (Go.Value.bool false)), type := 4, pos := "law.go:38", after := #[{ on := 12, ground := Go.Ground.data }, { on := 27, ground := Go.Ground.data }], guard := none }) (v := ?_) rfl (by kernel_rfl) (by kernel_rfl) (by kernel_rfl) (fun _ _ _ h => h) (Or.inl ⟨by rfl, ?_⟩) (by assumption) ?_
  rotate_left 1
  · (intro w hSw; (try dsimp only at hSw); go_simp; try with_reducible rfl)
  try simp only [Act.put, List.setIfInBounds_toArray, List.set_cons_zero, List.set_cons_succ]
  refine wpAnyH_take (i := 29) (oi := { dst := some 120, op := Go.Op.move (Go.Operand.tmp 119), type := 4, pos := "law.go:38", after := #[{ on := 28, ground := Go.Ground.data }, { on := 24, ground := Go.Ground.chain }], guard := none }) (v := ?_) rfl (by kernel_rfl) (by kernel_rfl) (by kernel_rfl) (fun _ _ _ h => h) (Or.inl ⟨by rfl, ?_⟩) (by assumption) ?_
  rotate_left 1
  · (intro w hSw; (try dsimp only at hSw); go_simp; try with_reducible rfl)
  try simp only [Act.put, List.setIfInBounds_toArray, List.set_cons_zero, List.set_cons_succ]
  refine wpAnyH_ready (rs := [30]) (by kernel_rfl) (by simp) ?_
  refine AllReadyH.cons (o := { dst := some 121, op := Go.Op.call { callee := Go.Callee.value (Go.Operand.func 8), args := #[], argTypes := #[] }, type := 4, pos := "law.go:38", after := #[{ on := 29, ground := Go.Ground.chain }, { on := 29, ground := Go.Ground.guard }], guard := some (29, true) }) rfl (fun K hK => ?_) AllReadyH.nil
  go_simp
  go_at_call 8
  (refine (awake_calls _).mono ?_); rintro e v7 ⟨rfl, hb⟩
  replace HBx := Lib.hid (HBx.out.trans (hb.mono HBx.out.size))
  clear hb
  clear hHeld
  refine hK.out _ _ ?_ (fun hHeld => ?_)
  · ((try dsimp only); all_goals exact trivial)
  clear hK K
  refine wpAnyH_take (i := 31) (oi := { dst := some 122, op := Go.Op.pick (Go.Operand.tmp 120) (Go.Operand.tmp 121) (Go.Operand.const (Go.Value.bool false)), type := 4, pos := "law.go:38", after := #[{ on := 29, ground := Go.Ground.data }, { on := 30, ground := Go.Ground.data }], guard := none }) (v := ?_) rfl (by kernel_rfl) (by kernel_rfl) (by kernel_rfl) (fun _ _ _ h => h) (Or.inl ⟨by rfl, ?_⟩) (by assumption) ?_
  rotate_left 1
  · (intro w hSw; (try dsimp only at hSw); go_simp; try with_reducible rfl)
  try simp only [Act.put, List.setIfInBounds_toArray, List.set_cons_zero, List.set_cons_succ]
  refine wpAnyH_take (i := 32) (oi := { dst := some 6, op := Go.Op.assign (Go.Operand.tmp 122), type := 4, pos := "law.go:38", after := #[{ on := 31, ground := Go.Ground.data }, { on := 30, ground := Go.Ground.chain }, { on := 0, ground := Go.Ground.phase }, { on := 1, ground := Go.Ground.phase }, { on := 2, ground := Go.Ground.phase }, { on := 3, ground := Go.Ground.phase }, { on := 4, ground := Go.Ground.phase }, { on := 5, ground := Go.Ground.phase }, { on := 6, ground := Go.Ground.phase }, { on := 7, ground := Go.Ground.phase }, { on := 8, ground := Go.Ground.phase }, { on := 9, ground := Go.Ground.phase }, { on := 10, ground := Go.Ground.phase }, { on := 11, ground := Go.Ground.phase }, { on := 12, ground := Go.Ground.phase }, { on := 13, ground := Go.Ground.phase }, { on := 14, ground := Go.Ground.phase }, { on := 15, ground := Go.Ground.phase }, { on := 16, ground := Go.Ground.phase }, { on := 17, ground := Go.Ground.phase }, { on := 18, ground := Go.Ground.phase }, { on := 19, ground := Go.Ground.phase }, { on := 20, ground := Go.Ground.phase }, { on := 21, ground := Go.Ground.phase }, { on := 22, ground := Go.Ground.phase }, { on := 23, ground := Go.Ground.phase }, { on := 24, ground := Go.Ground.phase }, { on := 25, ground := Go.Ground.phase }, { on := 26, ground := Go.Ground.phase }, { on := 27, ground := Go.Ground.phase }, { on := 28, ground := Go.Ground.phase }, { on := 29, ground := Go.Ground.phase }, { on := 30, ground := Go.Ground.phase }, { on := 31, ground := Go.Ground.phase }], guard := none }) (v := ?_) rfl (by kernel_rfl) (by kernel_rfl) (by kernel_rfl) (fun _ _ _ h => h) (Or.inl ⟨by rfl, ?_⟩) (by assumption) ?_
  rotate_left 1
  · (intro w hSw; (try dsimp only at hSw); go_simp; try with_reducible rfl)
  try simp only [Act.put, List.setIfInBounds_toArray, List.set_cons_zero, List.set_cons_succ]
  refine wpAnyH_done (by kernel_rfl) ?_ _
  refine NoPanic.normal ?_
  go_wp2
  go_ret
  exact ⟨rfl, HB1.out.trans (HBx.out.mono HB1.out.size)⟩
set_option maxRecDepth 100000 in
set_option maxHeartbeats 4000000 in
theorem rc_good (n k r : Nat) (A : Option Addr) (L c : Nat) (w : World) (hL : L ≤ 300) (hn : n = k + r) (h1 : 1 ≤ k) (h2 : 1 ≤ r) (h3 : n ≤ 255) (h4 : r ≤ 40) :
    Calls Try.prog 6 #[.int .i64 n, .int .i64 k, .slice A L c] w fun e w' => e = .returned (.bool true) ∧ Below w.heap.size w w' := by
  have t2 : ¬ (40 : Int) < (r : Int) := by omega
  have t3 : decide ((r : Int) > 40) = false := by simp; omega
  have RG := Lib.hid (fun W => refgen_calls r (by omega) W)
  have t1 : ¬ (300 : Int) < (L : Int) := by omega
  have NG := Lib.hid (new_good n k r w hn h1 h2 h3)
  have RC := Lib.hid (fun W => right_calls n k true W (by simp; omega))
  have SZ := Lib.hid (fun v W (hv : IsRs W v n k r) => size_any v n k r W hv)
  have GA := Lib.hid (fun v W (hv : IsRs W v n k r) => gen_any v n k r W hv (by omega))
  have e1 : IntKind.i64.wrap ((n : Int) - (k : Int)) = (r : Int) := by rw [IntWalk.i64_in _ (by omega)]; omega
  clear hL hn h1 h2 h3
  go_enter Try.func6, Try.ntmps6
  go_upto_region 13 with (first
    | (go_at_call 9; (with_reducible refine NG.out.mono ?_); rintro e w2 ⟨v, rfl, hcd, hb⟩; have HV := Lib.hid hcd; have HB1 := Lib.hid hb; clear hcd hb)
    | (go_at_call 17; (with_reducible refine (size_nil _).mono ?_); rintro e w3 ⟨rfl, hw⟩; obtain rfl := hw.symm; clear hw)
    | (go_at_call 12; (with_reducible refine (enc_nil _ _ _ _).mono ?_); rintro e w3 ⟨rfl, hw⟩; obtain rfl := hw.symm; clear hw)
    | (go_at_call 10; (with_reducible refine (syn_nil _ _ _ _).mono ?_); rintro e w3 ⟨rfl, hw⟩; obtain rfl := hw.symm; clear hw)
    | (go_at_call 14; (with_reducible refine (dec_nil _ _ _ _ _ _ _).mono ?_); rintro e w3 ⟨rfl, hw⟩; obtain rfl := hw.symm; clear hw)
    | (go_at_call 18; (with_reducible refine (gen_nil _).mono ?_); rintro e w3 ⟨rfl, hw⟩; obtain rfl := hw.symm; clear hw)
    | (go_at_call 16; (with_reducible refine (RC.out _).mono ?_); rintro e w4 ⟨rfl, hb⟩; have HVn := Lib.hid (HV.out.below hb); clear HV; have HV := HVn; clear HVn; have HBn := Lib.hid (HB1.out.trans (hb.mono HB1.out.size)); clear HB1 hb; have HB1 := HBn; clear HBn))
  go_upto_region 14 with (go_at_call 17; (with_reducible refine (SZ.out v _ HV.out).mono ?_); rintro e w5 ⟨rfl, hb⟩; have HVn := Lib.hid (HV.out.below hb); clear HV; have HV := HVn; clear HVn; have HBn := Lib.hid (HB1.out.trans (hb.mono HB1.out.size)); clear HB1 hb; have HB1 := HBn; clear HBn)
  have HBx := Lib.hid (show Below w5.heap.size w5 w5.drew from (Below.refl _ _).drew)
  obtain ⟨LG, hLG⟩ : ∃ LG, LG = line (r + 1) (gen r) := ⟨_, rfl⟩
  rw [← hLG] at RG GA
  clear hLG
  refine wp_region_noPanic ?_
  refine wp_region_held_drew (S := (fun W => True)) (by kernel_rfl) ?_ (fun hHeld => ?_)
  · ((try dsimp only); all_goals exact trivial)
  refine wpAnyH_take (i := 0) (oi := { dst := some 91, op := Go.Op.move (Go.Operand.tmp 8), type := 26, pos := "law.go:38", after := #[], guard := none }) (v := ?_) rfl (by kernel_rfl) (by kernel_rfl) (by kernel_rfl) (fun _ _ _ h => h) (Or.inl ⟨by rfl, ?_⟩) (by assumption) ?_
  rotate_left 1
  · (intro w hSw; (try dsimp only at hSw); go_simp; try with_reducible rfl)
  try simp only [Act.put, List.setIfInBounds_toArray, List.set_cons_zero, List.set_cons_succ]
  refine wpAnyH_take (i := 1) (oi := { dst := some 92, op := Go.Op.binOp Go.BinOp.eql 26 (Go.Operand.tmp 91) (Go.Operand.const (Go.Value.int Go.IntKind.i64 0)) 26, type := 4, pos := "law.go:38", after := #[{ on := 0, ground := Go.Ground.data }], guard := none }) (v := ?_) rfl (by kernel_rfl) (by kernel_rfl) (by kernel_rfl) (fun _ _ _ h => h) (Or.inl ⟨by rfl, ?_⟩) (by assumption) ?_
  rotate_left 1
  · (intro w hSw; (try dsimp only at hSw); go_simp; try with_reducible rfl)
  try simp only [Act.put, List.setIfInBounds_toArray, List.set_cons_zero, List.set_cons_succ]
  refine wpAnyH_take (i := 2) (oi := { dst := some 93, op := Go.Op.move (Go.Operand.tmp 92), type := 4, pos := "law.go:38", after := #[{ on := 1, ground := Go.Ground.data }], guard := none }) (v := ?_) rfl (by kernel_rfl) (by kernel_rfl) (by kernel_rfl) (fun _ _ _ h => h) (Or.inl ⟨by rfl, ?_⟩) (by assumption) ?_
  rotate_left 1
  · (intro w hSw; (try dsimp only at hSw); go_simp; try with_reducible rfl)
  try simp only [Act.put, List.setIfInBounds_toArray, List.set_cons_zero, List.set_cons_succ]
  refine wpAnyH_take (i := 3) (oi := { dst := some 94, op := Go.Op.move (Go.Operand.tmp 10), type := 3, pos := "law.go:38", after := #[{ on := 2, ground := Go.Ground.guard }], guard := some (2, true) }) (v := ?_) rfl (by kernel_rfl) (by kernel_rfl) (by kernel_rfl) (fun _ _ _ h => h) (Or.inl ⟨by rfl, ?_⟩) (by assumption) ?_
  rotate_left 1
  · (intro w hSw; (try dsimp only at hSw); go_simp; try with_reducible rfl)
  try simp only [Act.put, List.setIfInBounds_toArray, List.set_cons_zero, List.set_cons_succ]
  refine wpAnyH_take (i := 4) (oi := { dst := some 95, op := Go.Op.move (Go.Operand.tmp 0), type := 3, pos := "law.go:38", after := #[{ on := 2, ground := Go.Ground.guard }], guard := some (2, true) }) (v := ?_) rfl (by kernel_rfl) (by kernel_rfl) (by kernel_rfl) (fun _ _ _ h => h) (Or.inl ⟨by rfl, ?_⟩) (by assumption) ?_
  rotate_left 1
  · (intro w hSw; (try dsimp only at hSw); go_simp; try with_reducible rfl)
  try simp only [Act.put, List.setIfInBounds_toArray, List.set_cons_zero, List.set_cons_succ]
  refine wpAnyH_take (i := 5) (oi := { dst := some 96, op := Go.Op.binOp Go.BinOp.eql 3 (Go.Operand.tmp 94) (Go.Operand.tmp 95) 3, type := 4, pos := "law.go:38", after := #[{ on := 3, ground := Go.Ground.data }, { on := 4, ground := Go.Ground.data }, { on := 2, ground := Go.Ground.guard }], guard := some (2, true) }) (v := ?_) rfl (by kernel_rfl) (by kernel_rfl) (by kernel_rfl) (fun _ _ _ h => h) (Or.inl ⟨by rfl, ?_⟩) (by assumption) ?_
  rotate_left 1
  · (intro w hSw; (try dsimp only at hSw); go_simp; try with_reducible rfl)
  try simp only [Act.put, List.setIfInBounds_toArray, List.set_cons_zero, List.set_cons_succ]
  refine wpAnyH_take (i := 6) (oi := { dst := some 97, op := Go.Op.pick (Go.Operand.tmp 93) (Go.Operand.tmp 96) (Go.Operand.const (Go.Value.bool false)), type := 4, pos := "law.go:38", after := #[{ on := 2, ground := Go.Ground.data }, { on := 5, ground := Go.Ground.data }], guard := none }) (v := ?_) rfl (by kernel_rfl) (by kernel_rfl) (by kernel_rfl) (fun _ _ _ h => h) (Or.inl ⟨by rfl, ?_⟩) (by assumption) ?_
  rotate_left 1
  · (intro w hSw; (try dsimp only at hSw); go_simp; try with_reducible rfl)
  try simp only [Act.put, List.setIfInBounds_toArray, List.set_cons_zero, List.set_cons_succ]
  refine wpAnyH_take (i := 7) (oi := { dst := some 98, op := Go.Op.move (Go.Operand.tmp 97), type := 4, pos := "law.go:38", after := #[{ on := 6, ground := Go.Ground.data }, { on := 2, ground := Go.Ground.chain }], guard := none }) (v := ?_) rfl (by kernel_rfl) (by kernel_rfl) (by kernel_rfl) (fun _ _ _ h => h) (Or.inl ⟨by rfl, ?_⟩) (by assumption) ?_
  rotate_left 1
  · (intro w hSw; (try dsimp only at hSw); go_simp; try with_reducible rfl)
  try simp only [Act.put, List.setIfInBounds_toArray, List.set_cons_zero, List.set_cons_succ]
  refine wpAnyH_take (i := 8) (oi := { dst := some 99, op := Go.Op.move (Go.Operand.tmp 11), type := 3, pos := "law.go:38", after := #[{ on := 7, ground := Go.Ground.guard }], guard := some (7, true) }) (v := ?_) rfl (by kernel_rfl) (by kernel_rfl) (by kernel_rfl) (fun _ _ _ h => h) (Or.inl ⟨by rfl, ?_⟩) (by assumption) ?_
  rotate_left 1
  · (intro w hSw; (try dsimp only at hSw); go_simp; try with_reducible rfl)
  try simp only [Act.put, List.setIfInBounds_toArray, List.set_cons_zero, List.set_cons_succ]
  refine wpAnyH_take (i := 9) (oi := { dst := some 100, op := Go.Op.move (Go.Operand.tmp 1), type := 3, pos := "law.go:38", after := #[{ on := 7, ground := Go.Ground.guard }], guard := some (7, true) }) (v := ?_) rfl (by kernel_rfl) (by kernel_rfl) (by kernel_rfl) (fun _ _ _ h => h) (Or.inl ⟨by rfl, ?_⟩) (by assumption) ?_
  rotate_left 1
  · (intro w hSw; (try dsimp only at hSw); go_simp; try with_reducible rfl)
  try simp only [Act.put, List.setIfInBounds_toArray, List.set_cons_zero, List.set_cons_succ]
  refine wpAnyH_take (i := 10) (oi := { dst := some 101, op := Go.Op.binOp Go.BinOp.eql 3 (Go.Operand.tmp 99) (Go.Operand.tmp 100) 3, type := 4, pos := "law.go:38", after := #[{ on := 8, ground := Go.Ground.data }, { on := 9, ground := Go.Ground.data }, { on := 7, ground := Go.Ground.guard }], guard := some (7, true) }) (v := ?_) rfl (by kernel_rfl) (by kernel_rfl) (by kernel_rfl) (fun _ _ _ h => h) (Or.inl ⟨by rfl, ?_⟩) (by assumption) ?_
  rotate_left 1
  · (intro w hSw; (try dsimp only at hSw); go_simp; try with_reducible rfl)
  try simp only [Act.put, List.setIfInBounds_toArray, List.set_cons_zero, List.set_cons_succ]
  refine wpAnyH_take (i := 11) (oi := { dst := some 102, op := Go.Op.pick (Go.Operand.tmp 98) (Go.Operand.tmp 101) (Go.Operand.const (Go.Value.bool false)), type := 4, pos := "law.go:38", after := #[{ on := 7, ground := Go.Ground.data }, { on := 10, ground := Go.Ground.data }], guard := none }) (v := ?_) rfl (by kernel_rfl) (by kernel_rfl) (by kernel_rfl) (fun _ _ _ h => h) (Or.inl ⟨by rfl, ?_⟩) (by assumption) ?_
  rotate_left 1
  · (intro w hSw; (try dsimp only at hSw); go_simp; try with_reducible rfl)
  try simp only [Act.put, List.setIfInBounds_toArray, List.set_cons_zero, List.set_cons_succ]
  refine wpAnyH_take (i := 12) (oi := { dst := some 103, op := Go.Op.move (Go.Operand.tmp 102), type := 4, pos := "law.go:38", after := #[{ on := 11, ground := Go.Ground.data }, { on := 7, ground := Go.Ground.chain }], guard := none }) (v := ?_) rfl (by kernel_rfl) (by kernel_rfl) (by kernel_rfl) (fun _ _ _ h => h) (Or.inl ⟨by rfl, ?_⟩) (by assumption) ?_
  rotate_left 1
  · (intro w hSw; (try dsimp only at hSw); go_simp; try with_reducible rfl)
  try simp only [Act.put, List.setIfInBounds_toArray, List.set_cons_zero, List.set_cons_succ]
  refine wpAnyH_take (i := 13) (oi := { dst := some 104, op := Go.Op.move (Go.Operand.tmp 0), type := 3, pos := "law.go:38", after := #[{ on := 12, ground := Go.Ground.guard }], guard := some (12, true) }) (v := ?_) rfl (by kernel_rfl) (by kernel_rfl) (by kernel_rfl) (fun _ _ _ h => h) (Or.inl ⟨by rfl, ?_⟩) (by assumption) ?_
  rotate_left 1
  · (intro w hSw; (try dsimp only at hSw); go_simp; try with_reducible rfl)
  try simp only [Act.put, List.setIfInBounds_toArray, List.set_cons_zero, List.set_cons_succ]
  refine wpAnyH_take (i := 14) (oi := { dst := some 105, op := Go.Op.move (Go.Operand.tmp 1), type := 3, pos := "law.go:38", after := #[{ on := 12, ground := Go.Ground.guard }], guard := some (12, true) }) (v := ?_) rfl (by kernel_rfl) (by kernel_rfl) (by kernel_rfl) (fun _ _ _ h => h) (Or.inl ⟨by rfl, ?_⟩) (by assumption) ?_
  rotate_left 1
  · (intro w hSw; (try dsimp only at hSw); go_simp; try with_reducible rfl)
  try simp only [Act.put, List.setIfInBounds_toArray, List.set_cons_zero, List.set_cons_succ]
  refine wpAnyH_take (i := 15) (oi := { dst := some 106, op := Go.Op.binOp Go.BinOp.sub 3 (Go.Operand.tmp 104) (Go.Operand.tmp 105) 3, type := 3, pos := "law.go:38", after := #[{ on := 13, ground := Go.Ground.data }, { on := 14, ground := Go.Ground.data }, { on := 12, ground := Go.Ground.guard }], guard := some (12, true) }) (v := ?_) rfl (by kernel_rfl) (by kernel_rfl) (by kernel_rfl) (fun _ _ _ h => h) (Or.inl ⟨by rfl, ?_⟩) (by assumption) ?_
  rotate_left 1
  · (intro w hSw; (try dsimp only at hSw); go_simp; try with_reducible rfl)
  try simp only [Act.put, List.setIfInBounds_toArray, List.set_cons_zero, List.set_cons_succ]
  refine wpAnyH_take (i := 16) (oi := { dst := some 107, op := Go.Op.binOp Go.BinOp.gtr 3 (Go.Operand.tmp 106) (Go.Operand.const (Go.Value.int Go.IntKind.i64 40)) 3, type := 4, pos := "law.go:38", after := #[{ on := 15, ground := Go.Ground.data }, { on := 12, ground := Go.Ground.guard }], guard := some (12, true) }) (v := ?_) rfl (by kernel_rfl) (by kernel_rfl) (by kernel_rfl) (fun _ _ _ h => h) (Or.inl ⟨by rfl, ?_⟩) (by assumption) ?_
  rotate_left 1
  · (intro w hSw; (try dsimp only at hSw); go_simp; try with_reducible rfl)
  try simp only [Act.put, List.setIfInBounds_toArray, List.set_cons_zero, List.set_cons_succ]
  refine wpAnyH_take (i := 17) (oi := { dst := some 108, op := Go.Op.move (Go.Operand.tmp 107), type := 4, pos := "law.go:38", after := #[{ on := 16, ground := Go.Ground.data }, { on := 12, ground := Go.Ground.chain }, { on := 12, ground := Go.Ground.guard }], guard := some (12, true) }) (v := ?_) rfl (by kernel_rfl) (by kernel_rfl) (by kernel_rfl) (fun _ _ _ h => h) (Or.inl ⟨by rfl, ?_⟩) (by assumption) ?_
  rotate_left 1
  · (intro w hSw; (try dsimp only at hSw); go_simp; try with_reducible rfl)
  try simp only [Act.put, List.setIfInBounds_toArray, List.set_cons_zero, List.set_cons_succ]
  refine wpAnyH_take (i := 18) (oi := { dst := some 109, op := Go.Op.move (Go.Operand.tmp 7), type := 25, pos := "law.go:38", after := #[{ on := 17, ground := Go.Ground.guard }], guard := some (17, false) }) (v := ?_) rfl (by kernel_rfl) (by kernel_rfl) (by kernel_rfl) (fun _ _ _ h => h) (Or.inl ⟨by rfl, ?_⟩) (by assumption) ?_
  rotate_left 1
  · (intro w hSw; (try dsimp only at hSw); go_simp; try with_reducible rfl)
  try simp only [Act.put, List.setIfInBounds_toArray, List.set_cons_zero, List.set_cons_succ]
  refine wpAnyH_take (i := 21) (oi := { dst := some 112, op := Go.Op.move (Go.Operand.tmp 0), type := 3, pos := "law.go:38", after := #[{ on := 17, ground := Go.Ground.guard }], guard := some (17, false) }) (v := ?_) rfl (by kernel_rfl) (by kernel_rfl) (by kernel_rfl) (fun _ _ _ h => h) (Or.inl ⟨by rfl, ?_⟩) (by assumption) ?_
  rotate_left 1
  · (intro w hSw; (try dsimp only at hSw); go_simp; try with_reducible rfl)
  try simp only [Act.put, List.setIfInBounds_toArray, List.set_cons_zero, List.set_cons_succ]
  refine wpAnyH_take (i := 22) (oi := { dst := some 113, op := Go.Op.move (Go.Operand.tmp 1), type := 3, pos := "law.go:38", after := #[{ on := 17, ground := Go.Ground.guard }], guard := some (17, false) }) (v := ?_) rfl (by kernel_rfl) (by kernel_rfl) (by kernel_rfl) (fun _ _ _ h => h) (Or.inl ⟨by rfl, ?_⟩) (by assumption) ?_
  rotate_left 1
  · (intro w hSw; (try dsimp only at hSw); go_simp; try with_reducible rfl)
  try simp only [Act.put, List.setIfInBounds_toArray, List.set_cons_zero, List.set_cons_succ]
  refine wpAnyH_take (i := 23) (oi := { dst := some 114, op := Go.Op.binOp Go.BinOp.sub 3 (Go.Operand.tmp 112) (Go.Operand.tmp 113) 3, type := 3, pos := "law.go:38", after := #[{ on := 21, ground := Go.Ground.data }, { on := 22, ground := Go.Ground.data }, { on := 17, ground := Go.Ground.guard }], guard := some (17, false) }) (v := ?_) rfl (by kernel_rfl) (by kernel_rfl) (by kernel_rfl) (fun _ _ _ h => h) (Or.inl ⟨by rfl, ?_⟩) (by assumption) ?_
  rotate_left 1
  · (intro w hSw; (try dsimp only at hSw); go_simp; try with_reducible rfl)
  try simp only [Act.put, List.setIfInBounds_toArray, List.set_cons_zero, List.set_cons_succ]
  refine wpAnyH_ready (rs := [19]) (by kernel_rfl) (by simp) ?_
  refine AllReadyH.cons (o := { dst := some 110, op := Go.Op.call { callee := Go.Callee.value (Go.Operand.func 18), args := #[Go.Operand.tmp 109], argTypes := #[25] }, type := 22, pos := "law.go:38", after := #[{ on := 18, ground := Go.Ground.data }, { on := 17, ground := Go.Ground.chain }, { on := 17, ground := Go.Ground.guard }], guard := some (17, false) }) rfl (fun K hK => ?_) AllReadyH.nil
  go_simp
  go_at_call 18
  (refine (GA.out v _ (HV.out.below HBx.out)).mono ?_); rintro e v5 ⟨A5, c5, rfl, hr5, hb⟩
  have HG := Lib.hid (R_C hr5).1
  have k5 := str_of (c := c5) HG.out
  replace HBx := Lib.hid (HBx.out.trans (hb.mono HBx.out.size))
  clear hb hr5
  clear hHeld
  refine hK.out _ _ ?_ (fun hHeld => ?_)
  · ((try dsimp only); all_goals exact trivial)
  clear hK K
  refine wpAnyH_ready (rs := [20, 24]) (by kernel_rfl) (by simp) ?_
  refine AllReadyH.cons (o := { dst := some 111, op := Go.Op.convert 22 9 (Go.Operand.tmp 110), type := 9, pos := "law.go:38", after := #[{ on := 19, ground := Go.Ground.data }, { on := 17, ground := Go.Ground.guard }], guard := some (17, false) }) rfl (fun K hK => ?_) ?_
  · go_simp
    clear hHeld
    refine hK.out _ _ ?_ (fun hHeld => ?_)
    · ((try dsimp only); all_goals exact trivial)
    clear hK K
    refine wpAnyH_ready (rs := [24]) (by kernel_rfl) (by simp) ?_
    refine AllReadyH.cons (o := { dst := some 115, op := Go.Op.call { callee := Go.Callee.value (Go.Operand.func 19), args := #[Go.Operand.tmp 114], argTypes := #[3] }, type := 22, pos := "law.go:38", after := #[{ on := 23, ground := Go.Ground.data }, { on := 19, ground := Go.Ground.chain }, { on := 17, ground := Go.Ground.guard }], guard := some (17, false) }) rfl (fun K hK => ?_) AllReadyH.nil
    go_simp
    go_at_call 19
    (refine (RG.out _).mono ?_); rintro e v6 ⟨A6, c6, rfl, hr6, hb⟩
    have k6 := str_of (c := c6) (R_C hr6).1
    have k56 := str_of (c := c5) (Kd.C_below HG.out hb)
    replace HBx := Lib.hid (HBx.out.trans (hb.mono HBx.out.size))
    clear hb hr6
    clear hHeld
    refine hK.out _ _ ?_ (fun hHeld => ?_)
    · ((try dsimp only); all_goals exact trivial)
    clear hK K
    refine wpAnyH_ready (rs := [25]) (by kernel_rfl) (by simp) ?_
    refine AllReadyH.cons (o := { dst := some 116, op := Go.Op.convert 22 9 (Go.Operand.tmp 115), type := 9, pos := "law.go:38", after := #[{ on := 24, ground := Go.Ground.data }, { on := 17, ground := Go.Ground.guard }], guard := some (17, false) }) rfl (fun K hK => ?_) AllReadyH.nil
    go_simp
    clear hHeld
    refine hK.out _ _ ?_ (fun hHeld => ?_)
    · ((try dsimp only); all_goals exact trivial)
    clear hK K
    refine wpAnyH_take (i := 26) (oi := { dst := some 117, op := Go.Op.binOp Go.BinOp.eql 9 (Go.Operand.tmp 111) (Go.Operand.tmp 116) 9, type := 4, pos := "law.go:38", after := #[{ on := 20, ground := Go.Ground.data }, { on := 25, ground := Go.Ground.data }, { on := 17, ground := Go.Ground.guard }], guard := some (17, false) }) (v := ?_) rfl (by kernel_rfl) (by kernel_rfl) (by kernel_rfl) (fun _ _ _ h => h) (Or.inl ⟨by rfl, ?_⟩) (by assumption) ?_
    rotate_left 1
    · (intro w hSw; (try dsimp only at hSw); go_simp; try with_reducible rfl)
    try simp only [Act.put, List.setIfInBounds_toArray, List.set_cons_zero, List.set_cons_succ]
    refine wpAnyH_take (i := 27) (oi := { dst := some 118, op := Go.Op.pick (Go.Operand.tmp 108) (Go.Operand.const (Go.Value.bool true)) (Go.Operand.tmp 117), type := 4, pos := "law.go:38", after := #[{ on := 17, ground := Go.Ground.data }, { on := 26, ground := Go.Ground.data }, { on := 12, ground := Go.Ground.guard }], guard := some (12, true) }) (v := ?_) rfl (by kernel_rfl) (by kernel_rfl) (by kernel_rfl) (fun _ _ _ h => h) (Or.inl ⟨by rfl, ?_⟩) (by assumption) ?_
    rotate_left 1
    · (intro w hSw; (try dsimp only at hSw); go_simp; try with_reducible rfl)
    try simp only [Act.put, List.setIfInBounds_toArray, List.set_cons_zero, List.set_cons_succ]
    refine wpAnyH_take (i := 28) (oi := { dst := some 119, op := Go.Op.pick (Go.Operand.tmp 103) (Go.Operand.tmp 118) (Go.Operand.const (Go.Value.bool false)), type := 4, pos := "law.go:38", after := #[{ on := 12, ground := Go.Ground.data }, { on := 27, ground := Go.Ground.data }], guard := none }) (v := ?_) rfl (by kernel_rfl) (by kernel_rfl) (by kernel_rfl) (fun _ _ _ h => h) (Or.inl ⟨by rfl, ?_⟩) (by assumption) ?_
    rotate_left 1
    · (intro w hSw; (try dsimp only at hSw); go_simp; try with_reducible rfl)
    try simp only [Act.put, List.setIfInBounds_toArray, List.set_cons_zero, List.set_cons_succ]
    refine wpAnyH_take (i := 29) (oi := { dst := some 120, op := Go.Op.move (Go.Operand.tmp 119), type := 4, pos := "law.go:38", after := #[{ on := 28, ground := Go.Ground.data }, { on := 24, ground := Go.Ground.chain }], guard := none }) (v := ?_) rfl (by kernel_rfl) (by kernel_rfl) (by kernel_rfl) (fun _ _ _ h => h) (Or.inl ⟨by rfl, ?_⟩) (by assumption) ?_
    rotate_left 1
    · (intro w hSw; (try dsimp only at hSw); go_simp; try with_reducible rfl)
    try simp only [Act.put, List.setIfInBounds_toArray, List.set_cons_zero, List.set_cons_succ]
    refine wpAnyH_ready (rs := [30]) (by kernel_rfl) (by simp) ?_
    refine AllReadyH.cons (o := { dst := some 121, op := Go.Op.call { callee := Go.Callee.value (Go.Operand.func 8), args := #[], argTypes := #[] }, type := 4, pos := "law.go:38", after := #[{ on := 29, ground := Go.Ground.chain }, { on := 29, ground := Go.Ground.guard }], guard := some (29, true) }) rfl (fun K hK => ?_) AllReadyH.nil
    go_simp
    go_at_call 8
    (refine (awake_calls _).mono ?_); rintro e v7 ⟨rfl, hb⟩
    replace HBx := Lib.hid (HBx.out.trans (hb.mono HBx.out.size))
    clear hb
    clear hHeld
    refine hK.out _ _ ?_ (fun hHeld => ?_)
    · ((try dsimp only); all_goals exact trivial)
    clear hK K
    refine wpAnyH_take (i := 31) (oi := { dst := some 122, op := Go.Op.pick (Go.Operand.tmp 120) (Go.Operand.tmp 121) (Go.Operand.const (Go.Value.bool false)), type := 4, pos := "law.go:38", after := #[{ on := 29, ground := Go.Ground.data }, { on := 30, ground := Go.Ground.data }], guard := none }) (v := ?_) rfl (by kernel_rfl) (by kernel_rfl) (by kernel_rfl) (fun _ _ _ h => h) (Or.inl ⟨by rfl, ?_⟩) (by assumption) ?_
    rotate_left 1
    · (intro w hSw; (try dsimp only at hSw); go_simp; try with_reducible rfl)
    try simp only [Act.put, List.setIfInBounds_toArray, List.set_cons_zero, List.set_cons_succ]
    refine wpAnyH_take (i := 32) (oi := { dst := some 6, op := Go.Op.assign (Go.Operand.tmp 122), type := 4, pos := "law.go:38", after := #[{ on := 31, ground := Go.Ground.data }, { on := 30, ground := Go.Ground.chain }, { on := 0, ground := Go.Ground.phase }, { on := 1, ground := Go.Ground.phase }, { on := 2, ground := Go.Ground.phase }, { on := 3, ground := Go.Ground.phase }, { on := 4, ground := Go.Ground.phase }, { on := 5, ground := Go.Ground.phase }, { on := 6, ground := Go.Ground.phase }, { on := 7, ground := Go.Ground.phase }, { on := 8, ground := Go.Ground.phase }, { on := 9, ground := Go.Ground.phase }, { on := 10, ground := Go.Ground.phase }, { on := 11, ground := Go.Ground.phase }, { on := 12, ground := Go.Ground.phase }, { on := 13, ground := Go.Ground.phase }, { on := 14, ground := Go.Ground.phase }, { on := 15, ground := Go.Ground.phase }, { on := 16, ground := Go.Ground.phase }, { on := 17, ground := Go.Ground.phase }, { on := 18, ground := Go.Ground.phase }, { on := 19, ground := Go.Ground.phase }, { on := 20, ground := Go.Ground.phase }, { on := 21, ground := Go.Ground.phase }, { on := 22, ground := Go.Ground.phase }, { on := 23, ground := Go.Ground.phase }, { on := 24, ground := Go.Ground.phase }, { on := 25, ground := Go.Ground.phase }, { on := 26, ground := Go.Ground.phase }, { on := 27, ground := Go.Ground.phase }, { on := 28, ground := Go.Ground.phase }, { on := 29, ground := Go.Ground.phase }, { on := 30, ground := Go.Ground.phase }, { on := 31, ground := Go.Ground.phase }], guard := none }) (v := ?_) rfl (by kernel_rfl) (by kernel_rfl) (by kernel_rfl) (fun _ _ _ h => h) (Or.inl ⟨by rfl, ?_⟩) (by assumption) ?_
    rotate_left 1
    · (intro w hSw; (try dsimp only at hSw); go_simp; try with_reducible rfl)
    try simp only [Act.put, List.setIfInBounds_toArray, List.set_cons_zero, List.set_cons_succ]
    refine wpAnyH_done (by kernel_rfl) ?_ _
    refine NoPanic.normal ?_
    (go_wp2; go_ret; exact ⟨rfl, HB1.out.trans (HBx.out.mono HB1.out.size)⟩)
  refine AllReadyH.cons (o := { dst := some 115, op := Go.Op.call { callee := Go.Callee.value (Go.Operand.func 19), args := #[Go.Operand.tmp 114], argTypes := #[3] }, type := 22, pos := "law.go:38", after := #[{ on := 23, ground := Go.Ground.data }, { on := 19, ground := Go.Ground.chain }, { on := 17, ground := Go.Ground.guard }], guard := some (17, false) }) rfl (fun K hK => ?_) AllReadyH.nil
  go_simp
  go_at_call 19
  (refine (RG.out _).mono ?_); rintro e v6 ⟨A6, c6, rfl, hr6, hb⟩
  have k6 := str_of (c := c6) (R_C hr6).1
  have k56 := str_of (c := c5) (Kd.C_below HG.out hb)
  replace HBx := Lib.hid (HBx.out.trans (hb.mono HBx.out.size))
  clear hb hr6
  clear hHeld
  refine hK.out _ _ ?_ (fun hHeld => ?_)
  · ((try dsimp only); all_goals exact trivial)
  clear hK K
  refine wpAnyH_ready (rs := [20, 25]) (by kernel_rfl) (by simp) ?_
  refine AllReadyH.cons (o := { dst := some 111, op := Go.Op.convert 22 9 (Go.Operand.tmp 110), type := 9, pos := "law.go:38", after := #[{ on := 19, ground := Go.Ground.data }, { on := 17, ground := Go.Ground.guard }], guard := some (17, false) }) rfl (fun K hK => ?_) ?_
  · go_simp
    clear hHeld
    refine hK.out _ _ ?_ (fun hHeld => ?_)
    · ((try dsimp only); all_goals exact trivial)
    clear hK K
    refine wpAnyH_ready (rs := [25]) (by kernel_rfl) (by simp) ?_
    refine AllReadyH.cons (o := { dst := some 116, op := Go.Op.convert 22 9 (Go.Operand.tmp 115), type := 9, pos := "law.go:38", after := #[{ on := 24, ground := Go.Ground.data }, { on := 17, ground := Go.Ground.guard }], guard := some (17, false) }) rfl (fun K hK => ?_) AllReadyH.nil
    go_simp
    clear hHeld
    refine hK.out _ _ ?_ (fun hHeld => ?_)
    · ((try dsimp only); all_goals exact trivial)
    clear hK K
    refine wpAnyH_take (i := 26) (oi := { dst := some 117, op := Go.Op.binOp Go.BinOp.eql 9 (Go.Operand.tmp 111) (Go.Operand.tmp 116) 9, type := 4, pos := "law.go:38", after := #[{ on := 20, ground := Go.Ground.data }, { on := 25, ground := Go.Ground.data }, { on := 17, ground := Go.Ground.guard }], guard := some (17, false) }) (v := ?_) rfl (by kernel_rfl) (by kernel_rfl) (by kernel_rfl) (fun _ _ _ h => h) (Or.inl ⟨by rfl, ?_⟩) (by assumption) ?_
    rotate_left 1
    · (intro w hSw; (try dsimp only at hSw); go_simp; try with_reducible rfl)
    try simp only [Act.put, List.setIfInBounds_toArray, List.set_cons_zero, List.set_cons_succ]
    refine wpAnyH_take (i := 27) (oi := { dst := some 118, op := Go.Op.pick (Go.Operand.tmp 108) (Go.Operand.const (Go.Value.bool true)) (Go.Operand.tmp 117), type := 4, pos := "law.go:38", after := #[{ on := 17, ground := Go.Ground.data }, { on := 26, ground := Go.Ground.data }, { on := 12, ground := Go.Ground.guard }], guard := some (12, true) }) (v := ?_) rfl (by kernel_rfl) (by kernel_rfl) (by kernel_rfl) (fun _ _ _ h => h) (Or.inl ⟨by rfl, ?_⟩) (by assumption) ?_
    rotate_left 1
    · (intro w hSw; (try dsimp only at hSw); go_simp; try with_reducible rfl)
    try simp only [Act.put, List.setIfInBounds_toArray, List.set_cons_zero, List.set_cons_succ]
    refine wpAnyH_take (i := 28) (oi := { dst := some 119, op := Go.Op.pick (Go.Operand.tmp 103) (Go.Operand.tmp 118) (Go.Operand.const (Go.Value.bool false)), type := 4, pos := "law.go:38", after := #[{ on := 12, ground := Go.Ground.data }, { on := 27, ground := Go.Ground.data }], guard := none }) (v := ?_) rfl (by kernel_rfl) (by kernel_rfl) (by kernel_rfl) (fun _ _ _ h => h) (Or.inl ⟨by rfl, ?_⟩) (by assumption) ?_
    rotate_left 1
    · (intro w hSw; (try dsimp only at hSw); go_simp; try with_reducible rfl)
    try simp only [Act.put, List.setIfInBounds_toArray, List.set_cons_zero, List.set_cons_succ]
    refine wpAnyH_take (i := 29) (oi := { dst := some 120, op := Go.Op.move (Go.Operand.tmp 119), type := 4, pos := "law.go:38", after := #[{ on := 28, ground := Go.Ground.data }, { on := 24, ground := Go.Ground.chain }], guard := none }) (v := ?_) rfl (by kernel_rfl) (by kernel_rfl) (by kernel_rfl) (fun _ _ _ h => h) (Or.inl ⟨by rfl, ?_⟩) (by assumption) ?_
    rotate_left 1
    · (intro w hSw; (try dsimp only at hSw); go_simp; try with_reducible rfl)
    try simp only [Act.put, List.setIfInBounds_toArray, List.set_cons_zero, List.set_cons_succ]
    refine wpAnyH_ready (rs := [30]) (by kernel_rfl) (by simp) ?_
    refine AllReadyH.cons (o := { dst := some 121, op := Go.Op.call { callee := Go.Callee.value (Go.Operand.func 8), args := #[], argTypes := #[] }, type := 4, pos := "law.go:38", after := #[{ on := 29, ground := Go.Ground.chain }, { on := 29, ground := Go.Ground.guard }], guard := some (29, true) }) rfl (fun K hK => ?_) AllReadyH.nil
    go_simp
    go_at_call 8
    (refine (awake_calls _).mono ?_); rintro e v7 ⟨rfl, hb⟩
    replace HBx := Lib.hid (HBx.out.trans (hb.mono HBx.out.size))
    clear hb
    clear hHeld
    refine hK.out _ _ ?_ (fun hHeld => ?_)
    · ((try dsimp only); all_goals exact trivial)
    clear hK K
    refine wpAnyH_take (i := 31) (oi := { dst := some 122, op := Go.Op.pick (Go.Operand.tmp 120) (Go.Operand.tmp 121) (Go.Operand.const (Go.Value.bool false)), type := 4, pos := "law.go:38", after := #[{ on := 29, ground := Go.Ground.data }, { on := 30, ground := Go.Ground.data }], guard := none }) (v := ?_) rfl (by kernel_rfl) (by kernel_rfl) (by kernel_rfl) (fun _ _ _ h => h) (Or.inl ⟨by rfl, ?_⟩) (by assumption) ?_
    rotate_left 1
    · (intro w hSw; (try dsimp only at hSw); go_simp; try with_reducible rfl)
    try simp only [Act.put, List.setIfInBounds_toArray, List.set_cons_zero, List.set_cons_succ]
    refine wpAnyH_take (i := 32) (oi := { dst := some 6, op := Go.Op.assign (Go.Operand.tmp 122), type := 4, pos := "law.go:38", after := #[{ on := 31, ground := Go.Ground.data }, { on := 30, ground := Go.Ground.chain }, { on := 0, ground := Go.Ground.phase }, { on := 1, ground := Go.Ground.phase }, { on := 2, ground := Go.Ground.phase }, { on := 3, ground := Go.Ground.phase }, { on := 4, ground := Go.Ground.phase }, { on := 5, ground := Go.Ground.phase }, { on := 6, ground := Go.Ground.phase }, { on := 7, ground := Go.Ground.phase }, { on := 8, ground := Go.Ground.phase }, { on := 9, ground := Go.Ground.phase }, { on := 10, ground := Go.Ground.phase }, { on := 11, ground := Go.Ground.phase }, { on := 12, ground := Go.Ground.phase }, { on := 13, ground := Go.Ground.phase }, { on := 14, ground := Go.Ground.phase }, { on := 15, ground := Go.Ground.phase }, { on := 16, ground := Go.Ground.phase }, { on := 17, ground := Go.Ground.phase }, { on := 18, ground := Go.Ground.phase }, { on := 19, ground := Go.Ground.phase }, { on := 20, ground := Go.Ground.phase }, { on := 21, ground := Go.Ground.phase }, { on := 22, ground := Go.Ground.phase }, { on := 23, ground := Go.Ground.phase }, { on := 24, ground := Go.Ground.phase }, { on := 25, ground := Go.Ground.phase }, { on := 26, ground := Go.Ground.phase }, { on := 27, ground := Go.Ground.phase }, { on := 28, ground := Go.Ground.phase }, { on := 29, ground := Go.Ground.phase }, { on := 30, ground := Go.Ground.phase }, { on := 31, ground := Go.Ground.phase }], guard := none }) (v := ?_) rfl (by kernel_rfl) (by kernel_rfl) (by kernel_rfl) (fun _ _ _ h => h) (Or.inl ⟨by rfl, ?_⟩) (by assumption) ?_
    rotate_left 1
    · (intro w hSw; (try dsimp only at hSw); go_simp; try with_reducible rfl)
    try simp only [Act.put, List.setIfInBounds_toArray, List.set_cons_zero, List.set_cons_succ]
    refine wpAnyH_done (by kernel_rfl) ?_ _
    refine NoPanic.normal ?_
    (go_wp2; go_ret; exact ⟨rfl, HB1.out.trans (HBx.out.mono HB1.out.size)⟩)
  refine AllReadyH.cons (o := { dst := some 116, op := Go.Op.convert 22 9 (Go.Operand.tmp 115), type := 9, pos := "law.go:38", after := #[{ on := 24, ground := Go.Ground.data }, { on := 17, ground := Go.Ground.guard }], guard := some (17, false) }) rfl (fun K hK => ?_) AllReadyH.nil
  go_simp
  clear hHeld
  refine hK.out _ _ ?_ (fun hHeld => ?_)
  · ((try dsimp only); all_goals exact trivial)
  clear hK K
  refine wpAnyH_ready (rs := [20]) (by kernel_rfl) (by simp) ?_
  refine AllReadyH.cons (o := { dst := some 111, op := Go.Op.convert 22 9 (Go.Operand.tmp 110), type := 9, pos := "law.go:38", after := #[{ on := 19, ground := Go.Ground.data }, { on := 17, ground := Go.Ground.guard }], guard := some (17, false) }) rfl (fun K hK => ?_) AllReadyH.nil
  go_simp
  clear hHeld
  refine hK.out _ _ ?_ (fun hHeld => ?_)
  · ((try dsimp only); all_goals exact trivial)
  clear hK K
  refine wpAnyH_take (i := 26) (oi := { dst := some 117, op := Go.Op.binOp Go.BinOp.eql 9 (Go.Operand.tmp 111) (Go.Operand.tmp 116) 9, type := 4, pos := "law.go:38", after := #[{ on := 20, ground := Go.Ground.data }, { on := 25, ground := Go.Ground.data }, { on := 17, ground := Go.Ground.guard }], guard := some (17, false) }) (v := ?_) rfl (by kernel_rfl) (by kernel_rfl) (by kernel_rfl) (fun _ _ _ h => h) (Or.inl ⟨by rfl, ?_⟩) (by assumption) ?_
  rotate_left 1
  · (intro w hSw; (try dsimp only at hSw); go_simp; try with_reducible rfl)
  try simp only [Act.put, List.setIfInBounds_toArray, List.set_cons_zero, List.set_cons_succ]
  refine wpAnyH_take (i := 27) (oi := { dst := some 118, op := Go.Op.pick (Go.Operand.tmp 108) (Go.Operand.const (Go.Value.bool true)) (Go.Operand.tmp 117), type := 4, pos := "law.go:38", after := #[{ on := 17, ground := Go.Ground.data }, { on := 26, ground := Go.Ground.data }, { on := 12, ground := Go.Ground.guard }], guard := some (12, true) }) (v := ?_) rfl (by kernel_rfl) (by kernel_rfl) (by kernel_rfl) (fun _ _ _ h => h) (Or.inl ⟨by rfl, ?_⟩) (by assumption) ?_
  rotate_left 1
  · (intro w hSw; (try dsimp only at hSw); go_simp; try with_reducible rfl)
  try simp only [Act.put, List.setIfInBounds_toArray, List.set_cons_zero, List.set_cons_succ]
  refine wpAnyH_take (i := 28) (oi := { dst := some 119, op := Go.Op.pick (Go.Operand.tmp 103) (Go.Operand.tmp 118) (Go.Operand.const (Go.Value.bool false)), type := 4, pos := "law.go:38", after := #[{ on := 12, ground := Go.Ground.data }, { on := 27, ground := Go.Ground.data }], guard := none }) (v := ?_) rfl (by kernel_rfl) (by kernel_rfl) (by kernel_rfl) (fun _ _ _ h => h) (Or.inl ⟨by rfl, ?_⟩) (by assumption) ?_
  rotate_left 1
  · (intro w hSw; (try dsimp only at hSw); go_simp; try with_reducible rfl)
  try simp only [Act.put, List.setIfInBounds_toArray, List.set_cons_zero, List.set_cons_succ]
  refine wpAnyH_take (i := 29) (oi := { dst := some 120, op := Go.Op.move (Go.Operand.tmp 119), type := 4, pos := "law.go:38", after := #[{ on := 28, ground := Go.Ground.data }, { on := 24, ground := Go.Ground.chain }], guard := none }) (v := ?_) rfl (by kernel_rfl) (by kernel_rfl) (by kernel_rfl) (fun _ _ _ h => h) (Or.inl ⟨by rfl, ?_⟩) (by assumption) ?_
  rotate_left 1
  · (intro w hSw; (try dsimp only at hSw); go_simp; try with_reducible rfl)
  try simp only [Act.put, List.setIfInBounds_toArray, List.set_cons_zero, List.set_cons_succ]
  refine wpAnyH_ready (rs := [30]) (by kernel_rfl) (by simp) ?_
  refine AllReadyH.cons (o := { dst := some 121, op := Go.Op.call { callee := Go.Callee.value (Go.Operand.func 8), args := #[], argTypes := #[] }, type := 4, pos := "law.go:38", after := #[{ on := 29, ground := Go.Ground.chain }, { on := 29, ground := Go.Ground.guard }], guard := some (29, true) }) rfl (fun K hK => ?_) AllReadyH.nil
  go_simp
  go_at_call 8
  (refine (awake_calls _).mono ?_); rintro e v7 ⟨rfl, hb⟩
  replace HBx := Lib.hid (HBx.out.trans (hb.mono HBx.out.size))
  clear hb
  clear hHeld
  refine hK.out _ _ ?_ (fun hHeld => ?_)
  · ((try dsimp only); all_goals exact trivial)
  clear hK K
  refine wpAnyH_take (i := 31) (oi := { dst := some 122, op := Go.Op.pick (Go.Operand.tmp 120) (Go.Operand.tmp 121) (Go.Operand.const (Go.Value.bool false)), type := 4, pos := "law.go:38", after := #[{ on := 29, ground := Go.Ground.data }, { on := 30, ground := Go.Ground.data }], guard := none }) (v := ?_) rfl (by kernel_rfl) (by kernel_rfl) (by kernel_rfl) (fun _ _ _ h => h) (Or.inl ⟨by rfl, ?_⟩) (by assumption) ?_
  rotate_left 1
  · (intro w hSw; (try dsimp only at hSw); go_simp; try with_reducible rfl)
  try simp only [Act.put, List.setIfInBounds_toArray, List.set_cons_zero, List.set_cons_succ]
  refine wpAnyH_take (i := 32) (oi := { dst := some 6, op := Go.Op.assign (Go.Operand.tmp 122), type := 4, pos := "law.go:38", after := #[{ on := 31, ground := Go.Ground.data }, { on := 30, ground := Go.Ground.chain }, { on := 0, ground := Go.Ground.phase }, { on := 1, ground := Go.Ground.phase }, { on := 2, ground := Go.Ground.phase }, { on := 3, ground := Go.Ground.phase }, { on := 4, ground := Go.Ground.phase }, { on := 5, ground := Go.Ground.phase }, { on := 6, ground := Go.Ground.phase }, { on := 7, ground := Go.Ground.phase }, { on := 8, ground := Go.Ground.phase }, { on := 9, ground := Go.Ground.phase }, { on := 10, ground := Go.Ground.phase }, { on := 11, ground := Go.Ground.phase }, { on := 12, ground := Go.Ground.phase }, { on := 13, ground := Go.Ground.phase }, { on := 14, ground := Go.Ground.phase }, { on := 15, ground := Go.Ground.phase }, { on := 16, ground := Go.Ground.phase }, { on := 17, ground := Go.Ground.phase }, { on := 18, ground := Go.Ground.phase }, { on := 19, ground := Go.Ground.phase }, { on := 20, ground := Go.Ground.phase }, { on := 21, ground := Go.Ground.phase }, { on := 22, ground := Go.Ground.phase }, { on := 23, ground := Go.Ground.phase }, { on := 24, ground := Go.Ground.phase }, { on := 25, ground := Go.Ground.phase }, { on := 26, ground := Go.Ground.phase }, { on := 27, ground := Go.Ground.phase }, { on := 28, ground := Go.Ground.phase }, { on := 29, ground := Go.Ground.phase }, { on := 30, ground := Go.Ground.phase }, { on := 31, ground := Go.Ground.phase }], guard := none }) (v := ?_) rfl (by kernel_rfl) (by kernel_rfl) (by kernel_rfl) (fun _ _ _ h => h) (Or.inl ⟨by rfl, ?_⟩) (by assumption) ?_
  rotate_left 1
  · (intro w hSw; (try dsimp only at hSw); go_simp; try with_reducible rfl)
  try simp only [Act.put, List.setIfInBounds_toArray, List.set_cons_zero, List.set_cons_succ]
  refine wpAnyH_done (by kernel_rfl) ?_ _
  refine NoPanic.normal ?_
  (go_wp2; go_ret; exact ⟨rfl, HB1.out.trans (HBx.out.mono HB1.out.size)⟩)
theorem r_u8c {a : Int} (h : (Lit.int .u8 a).wf = true) : 0 ≤ a ∧ a < 256 := by
  simp [Lit.wf, IntKind.min, IntKind.max, IntKind.signed, IntKind.bits] at h; omega
theorem opens_bytesc : Opens (Kd.slice 5 (Kd.int .u8)) (fun l => l.length ≤ 9223372036854775807 ∧ ∀ a ∈ l, (Lit.int .u8 a).wf = true) 22 := opens_slice Try.underlying22 (by kernel_rfl) (opens_int Try.underlying5)
theorem rc_row (n : Int) (_ : (Lit.int .i64 n).wf = true) (k : Int) (_ : (Lit.int .i64 k).wf = true)
    {w : World} (A : Option Addr) (c : Nat) (b : List Int) (_ : (Kd.int .u8).C w A b.length b) (_ : b.length ≤ c) (_ : b.length ≤ 9223372036854775807 ∧ ∀ a ∈ b, (Lit.int .u8 a).wf = true) (_ : World) :
    Calls Try.prog 6 #[.int .i64 n, .int .i64 k, .slice A b.length c] w fun e w' => e = .returned (.bool true) ∧ Below w.heap.size w w' := by
  by_cases hL : 300 < b.length
  · exact rc_long n k A _ c w hL
  by_cases h : 1 ≤ k ∧ k < n ∧ n ≤ 255
  · obtain ⟨k, rfl⟩ := Int.eq_ofNat_of_zero_le (show 0 ≤ k by omega)
    obtain ⟨n, rfl⟩ := Int.eq_ofNat_of_zero_le (show 0 ≤ n by omega)
    by_cases h4 : 40 < n - k
    · exact rc_great n k (n - k) A _ c w (by omega) (by omega) (by omega) (by omega) (by omega) h4
    · exact rc_good n k (n - k) A _ c w (by omega) (by omega) (by omega) (by omega) (by omega) (by omega)
  · exact rc_bad n k A _ c w (by omega) h
end Go.Proofs.Ytcneobnplhffmaa.Rsc
