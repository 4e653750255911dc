/- The statement SolveDets: what its proof rests on, part 3 of 3. -/
import Derived.Test.YtojaekhplohbjaaProg
import Derived.Below
import Derived.Deep.Draws
import Derived.Deep.AppendLies
import Derived.Maps.AppendAt
import Derived.OwnWalk
import Derived.Laws.BytesArg
import Derived.Laws.MakeOwn
import Derived.Laws.OwnMore
import Derived.Deep.OwnRows
import Derived.Tactics
import Derived.Lib.ConvBytes
import Derived.Laws.Slices
import Derived.WalkKit
import Derived.KernelRfl
import Derived.RowKit3
import Derived.Deep.LoopGhost
import Derived.Deep.QuietTactic
import Derived.BigQuiet
import Derived.WideLaws
import Derived.Deep.DeepCutAuto
import Derived.Deep.CutBlock
import Derived.Deep.RegionHeld3
import Derived.Laws.Rows
import Derived.Lib.AppendStr
import Derived.ArgAppend
import Derived.Laws.IdiomCopy
import Derived.OrdersHeld
import Derived.Laws.BitsLemmas
import Derived.RowKit
import Derived.Lib.Hide
import Derived.WalkSpells
import Derived.StillTailTactics
import Derived.Outline
import Derived.Test.YtojaekhplohbjaaPMulx2
import Derived.Test.YtojaekhplohbjaaPOnex1
import Derived.Test.YtojaekhplohbjaaZSolveDetsb
/- Steps: the document's, walked: first the copy. -/
namespace Go.Proofs.Ytojaekhplohbjaa.Sol
open Go Go.RowKit Go.Proofs.Ytojaekhplohbjaa.PSteps Go.Proofs.Ytojaekhplohbjaa.BSteps Go.Proofs.Ytojaekhplohbjaa.Gf Go.Proofs.Ytojaekhplohbjaa.Gi Go.Proofs.Ytojaekhplohbjaa.Bits Go.Proofs.Ytojaekhplohbjaa.Mem Go.Proofs.Ytojaekhplohbjaa.Rws Go.Proofs.YtojaekhplohbjaaW.PrintWords Go.Proofs.YtojaekhplohbjaaW.PrintLast
set_option linter.unusedVariables false

theorem rowq {W : World} {base b1 g n m cap q t k col : Nat} {M : Mtx} {r : Int} {A6 : Option Addr} {c6 : Nat} (h : RowsR W base (.slice (some ⟨g, 0, none⟩) n cap) (mat n m (fun p => if p < q then stepI M t k col r p else if p = t then (fun j => gmI (M k j) r) else swapI M t k p))) (hq : q < n) (hqt : ¬ q = t)
    (hR : (Kd.int .u8).R 5 W b1 (fun _ => True) (.slice A6 m c6) (line m (fun j => xorI (swapI M t k q j) (gmI (gmI (M k j) r) (swapI M t k q col))))) (hb : base ≤ b1) (hg : g < b1) :
    RowsR (W.setCell ⟨g, q, none⟩ (.slice A6 m c6)) base (.slice (some ⟨g, 0, none⟩) n cap) (mat n m (fun p => if p < q + 1 then stepI M t k col r p else if p = t then (fun j => gmI (M k j) r) else swapI M t k p)) := by
  have h1 := rput h q hq (.slice A6 m c6) _ (fun p => some p = (Value.slice A6 m c6).ownBlock) (row_M (Kd.own_of_R hR) hb rfl) (fun p hp => by
    have := Kd.R_base hR p hp.symm
    omega)
  rw [mat_set n m _ q hq] at h1
  rw [mat_congr n m _ (fun p => if p = q then (fun j => xorI (swapI M t k q j) (gmI (gmI (M k j) r) (swapI M t k q col))) else if p < q then stepI M t k col r p else if p = t then (fun j => gmI (M k j) r) else swapI M t k p) (fun p hp j hj => ?_)]
  · exact h1
  · by_cases e : p = q
    · subst e
      rw [if_pos (by omega), if_pos rfl]
      unfold stepI
      rw [if_neg hqt]
    · rw [if_neg e]
      by_cases h1 : p < q
      · rw [if_pos (by omega), if_pos h1]
      · rw [if_neg (by omega), if_neg h1]
theorem setx {W : World} {base b1 g n cap : Nat} {ls : List (List Int)} {v : Value} {xs : List Int} (hR : (Kd.int .u8).R 5 W b1 (fun _ => True) v xs) (h : RowsR W base (.slice (some ⟨g, 0, none⟩) n cap) ls) (q : Nat) (u : Value) : (Kd.int .u8).R 5 (W.setCell ⟨g, q, none⟩ u) b1 (fun _ => True) v xs := by
  obtain ⟨cur, hh⟩ := (rblk h).2
  exact Kd.R_set hR hh (by decide) q u
set_option maxRecDepth 100000 in
set_option maxHeartbeats 4000000 in
theorem steps_any (n m c0 : Nat) (A : Option Addr) (M0 : Mtx) (w : World) (hC : Kd.C kRow w A n (mat n m M0)) (h0 : BytM M0) (hn1 : 1 ≤ n) (hn : n ≤ 1000) (hm1 : 1 ≤ m) (hm : m ≤ 1000) :
    Calls Try.prog 12 #[.slice A n c0] w fun e w' => ∃ u t M, e = .returned u ∧ RowsR w' w.heap.size u (mat n m M) ∧ StepsTo n M0 m t M ∧ Below w.heap.size w w' := by
  have HC := Lib.hid (fun W (hB : Below w.heap.size w W) => Kd.C_below hC hB)
  have H0 := Lib.hid h0
  clear hC h0
  go_enter Try.func12, Try.ntmps12
  go_wp2
  go_loopw [3, 4] (fun u0 iv wr => ∃ (i : Nat) (u : Value), u0 = u ∧ i ≤ n ∧ iv = .int .i64 i ∧ Hid (RowsR wr w.heap.size u (mat i m M0)) ∧ Hid (Below w.heap.size w wr)) (fun _ iv _ => n - (intOf iv).toNat)
  case atStart => exact ⟨0, _, rfl, by omega, rfl, Lib.hid (Kd.R_nil _ _ _ _ _), Lib.hid (Below.refl _ _)⟩
  case round =>
    obtain ⟨i, u, rfl, hi, rfl, HO, HB⟩ := hrel
    by_cases hlt : i < n
    · obtain ⟨ad, A1, c1, rfl, hcell, _, hC1⟩ := mrow (HC.out _ HB.out) i hlt
      have HR1 := Lib.hid (Kd.reads_of_C (d := (0 : Int)) hC1)
      have HL0 := Lib.hid (show (wr.alloc (.cells #[] 5)).ownsRow wr.heap.size 5 1 (.slice (some ⟨wr.heap.size, 0, none⟩) 0 0) ([] : List Int).length (nums .u8 []) from own_lit wr wr.heap.size 5 .u8 [] (Nat.le_refl _) (by simp))
      have g1 : (i : Int) < (n : Int) := by omega
      have g2 : (0 : Int) ≤ (i : Int) := by omega
      have hl := line_len m (M0 i)
      obtain ⟨xs, hxs⟩ : ∃ xs, xs = line m (M0 i) := ⟨_, rfl⟩
      rw [← hxs] at HR1 hl
      have HXS := Lib.hid hxs
      have hcella := pw_cell_below (((Below.refl wr.heap.size wr).alloc (Nat.le_refl _) (.cells #[] 5))) hcell
      clear hC1 hxs
      go_wp2_with (first
        | (at_builtin; refine print_append_row (w0 := wr) wr.heap.size rfl _ _ 36 5 .u8 1 rfl Try.underlying36 info_byte (by decide) _ [] xs _ _ _ rfl rfl HL0.out (ReadsInt.allocS HR1.out _) ((Below.refl _ _).alloc (Nat.le_refl _) _) (by simp) (by simp; omega) ?_; intro v1 w1 ho hb _ _; obtain ⟨A9, c9, rfl⟩ := own_slice ho; have HOW := Lib.hid (clone_R ho hl); have HB1 := Lib.hid hb; clear ho hb)
        | (at_builtin; refine rows_append2 (w0 := w) (wr := wr) rfl w.heap.size rfl _ _ rfl u3 _ (mat i m M0) _ rfl rfl HO.out (HB.out.trans (HB1.out.mono HB.out.size)) HB.out.size HB1.out HOW.out (by rw [mat_len]; omega) ?_; intro v5 w5 h5 hb5; have H5 := Lib.hid h5; have HB5 := Lib.hid hb5; clear h5 hb5))
      go_roundw
      case rel => exact ⟨i + 1, _, rfl, by omega, by go_num, Lib.hid (by rw [mat_succ, ← HXS.out]; exact H5.out), HB5⟩
      case measure => simp [intOf]; omega
    · obtain rfl : i = n := by omega
      obtain ⟨g, cO, hv, hgb, _, _⟩ := Kd.R_form HO.out (by rw [mat_len]; exact hn1)
      rw [mat_len] at hv
      subst hv
      have HGB := Lib.hid hgb
      clear hgb
      go_wp2
      go_loopw [5, 6, 7, 8, 9] (fun tv cv _ _ _ wr => ∃ (t col : Nat) (M : Mtx), tv = .int .i64 t ∧ cv = .int .i64 col ∧ col ≤ m ∧ Hid (StepsTo i M0 col t M) ∧ Hid (RowsR wr w.heap.size (.slice (some ⟨g, 0, none⟩) i cO) (mat i m M)) ∧ Hid (Below w.heap.size w wr)) (fun _ cv _ _ _ _ => m - (intOf cv).toNat)
      case atStart => exact ⟨0, 0, M0, rfl, rfl, by omega, Lib.hid .start, HO, HB⟩
      case round =>
        clear HO HB
        obtain ⟨t, col, M, rfl, rfl, hcol, HS, HO, HB⟩ := hrel
        have hCO := (Kd.R_reads' HO.out).2.2
        rw [mat_len] at hCO
        obtain ⟨ad0, A1, c1, e0, hc0, _, _⟩ := mrow hCO 0 (by omega)
        injection e0 with e0
        subst e0
        rw [addk g 0] at hc0
        have HCO := Lib.hid hCO
        have g0 : (0 : Int) < (i : Int) := by omega
        clear hCO
        by_cases hlt : col < m
        · have g1 : (col : Int) < (m : Int) := by omega
          have g2 : (0 : Int) ≤ (col : Int) := by omega
          have htn := HS.out.le
          go_wp2
          go_loopw [7] (fun kv wr' => ∃ (k : Nat), t ≤ k ∧ k ≤ i ∧ kv = .int .i64 k ∧ wr' = wr ∧ Hid (∀ j, t ≤ j → j < k → M j col = 0)) (fun kv _ => i - (intOf kv).toNat)
          case atStart => exact ⟨t, Nat.le_refl _, htn.2, rfl, rfl, Lib.hid (fun j h1 h2 => absurd h1 (by omega))⟩
          case round =>
            obtain ⟨k, htk, hki, rfl, rfl, HZ⟩ := hrel
            by_cases hk : k < i
            · obtain ⟨adk, A2, c2, e2, hck, hc2, hC2⟩ := mrow HCO.out k hk
              injection e2 with e2
              subst e2
              rw [addk g k] at hck
              obtain ⟨ad2, rfl, hcc⟩ := at_row hC2 col hlt
              rw [line_get m (M k) col hlt] at hcc
              have HC2 := Lib.hid hC2
              have g3 : (k : Int) < (i : Int) := by omega
              have g4 : (0 : Int) ≤ (k : Int) := by omega
              clear hC2
              by_cases hz : M k col = 0
              · rw [hz] at hcc
                go_wp2
                go_roundw
                case rel =>
                  refine ⟨k + 1, by omega, by omega, by go_num, (by first | trivial | rfl), Lib.hid (fun j h1 h2 => ?_)⟩
                  rcases Nat.lt_or_ge j k with h | h
                  · exact HZ.out j h1 h
                  · obtain rfl : j = k := by omega
                    exact hz
                case measure => simp [intOf]; omega
              · have t1 : (M k col == 0) = false := by simp [hz]
                have hby := HS.out.byt H0.out
                obtain ⟨r, hr, hr1, hinv⟩ := inv_any (M k col) (hby k col) hz
                have IV := Lib.hid hinv
                have HR1 := Lib.hid hr1
                have HRB := Lib.hid hr
                have HBY := Lib.hid hby
                have TM := Lib.hid (fun W (hB : Below wr.heap.size wr W) => times_any m c2 (some ad2) (M k) r W (Kd.C_below HC2.out hB) (hby k) hr hc2 hm)
                have KK := Lib.hid (fun W (hB : Below wr.heap.size wr W) => And.intro (pw_cell_below hB hck) (pw_cell_below hB hcc))
                have HXd := Lib.hid (show Below wr.heap.size wr wr.drew from (Below.refl _ _).drew)
                clear hby hinv hr1 hr
                go_upto_region 14 with (fail)
                refine wp_region_noPanic ?_
                refine wp_region_held_drew (S := (fun W => W.cell? ⟨g, k, none⟩ = some (.slice (some ad2) m c2) ∧ W.cell? (ad2.add col) = some (.int .u8 (M k col)))) (by kernel_rfl) ?_ (fun hHeld => ?_)
                · ((try dsimp only); exact KK.out _ HXd.out)
                refine wpAnyH_take (i := 0) (oi := { dst := some 59, op := Go.Op.move (Go.Operand.tmp 3), type := 22, pos := "ref.go:21", after := #[], guard := none }) (v := ?_) rfl (by kernel_rfl) (by kernel_rfl) (by kernel_rfl) (fun _ _ _ h => h) (Or.inl ⟨by rfl, ?_⟩) (by assumption) ?_
                rotate_left 1
                · (intro w hSw; (try dsimp only at hSw); go_simp; try with_reducible rfl)
                try simp only [Act.put, List.setIfInBounds_toArray, List.set_cons_zero, List.set_cons_succ]
                refine wpAnyH_take (i := 1) (oi := { dst := some 60, op := Go.Op.move (Go.Operand.tmp 7), type := 3, pos := "ref.go:21", after := #[], guard := none }) (v := ?_) rfl (by kernel_rfl) (by kernel_rfl) (by kernel_rfl) (fun _ _ _ h => h) (Or.inl ⟨by rfl, ?_⟩) (by assumption) ?_
                rotate_left 1
                · (intro w hSw; (try dsimp only at hSw); go_simp; try with_reducible rfl)
                try simp only [Act.put, List.setIfInBounds_toArray, List.set_cons_zero, List.set_cons_succ]
                refine wpAnyH_take (i := 2) (oi := { dst := some 61, op := Go.Op.indexAddr 22 (Go.Operand.tmp 59) (Go.Operand.tmp 60), type := 0, pos := "ref.go:21", after := #[{ on := 0, ground := Go.Ground.data }, { on := 1, ground := Go.Ground.data }], guard := none }) (v := ?_) rfl (by kernel_rfl) (by kernel_rfl) (by kernel_rfl) (fun _ _ _ h => h) (Or.inl ⟨by rfl, ?_⟩) (by assumption) ?_
                rotate_left 1
                · (intro w hSw; (try dsimp only at hSw); go_simp; try with_reducible rfl)
                try simp only [Act.put, List.setIfInBounds_toArray, List.set_cons_zero, List.set_cons_succ]
                refine wpAnyH_take (i := 3) (oi := { dst := some 62, op := Go.Op.load 36 (Go.Operand.tmp 61), type := 36, pos := "ref.go:21", after := #[{ on := 2, ground := Go.Ground.data }], guard := none }) (v := ?_) rfl (by kernel_rfl) (by kernel_rfl) (by kernel_rfl) (fun _ _ _ h => h) (Or.inl ⟨by rfl, ?_⟩) (by assumption) ?_
                rotate_left 1
                · (intro w hSw; (try dsimp only at hSw); go_simp; try with_reducible rfl)
                try simp only [Act.put, List.setIfInBounds_toArray, List.set_cons_zero, List.set_cons_succ]
                refine wpAnyH_take (i := 4) (oi := { dst := some 63, op := Go.Op.move (Go.Operand.tmp 3), type := 22, pos := "ref.go:21", after := #[], guard := none }) (v := ?_) rfl (by kernel_rfl) (by kernel_rfl) (by kernel_rfl) (fun _ _ _ h => h) (Or.inl ⟨by rfl, ?_⟩) (by assumption) ?_
                rotate_left 1
                · (intro w hSw; (try dsimp only at hSw); go_simp; try with_reducible rfl)
                try simp only [Act.put, List.setIfInBounds_toArray, List.set_cons_zero, List.set_cons_succ]
                refine wpAnyH_take (i := 5) (oi := { dst := some 64, op := Go.Op.move (Go.Operand.tmp 7), type := 3, pos := "ref.go:21", after := #[], guard := none }) (v := ?_) rfl (by kernel_rfl) (by kernel_rfl) (by kernel_rfl) (fun _ _ _ h => h) (Or.inl ⟨by rfl, ?_⟩) (by assumption) ?_
                rotate_left 1
                · (intro w hSw; (try dsimp only at hSw); go_simp; try with_reducible rfl)
                try simp only [Act.put, List.setIfInBounds_toArray, List.set_cons_zero, List.set_cons_succ]
                refine wpAnyH_take (i := 6) (oi := { dst := some 65, op := Go.Op.indexAddr 22 (Go.Operand.tmp 63) (Go.Operand.tmp 64), type := 0, pos := "ref.go:21", after := #[{ on := 4, ground := Go.Ground.data }, { on := 5, ground := Go.Ground.data }], guard := none }) (v := ?_) rfl (by kernel_rfl) (by kernel_rfl) (by kernel_rfl) (fun _ _ _ h => h) (Or.inl ⟨by rfl, ?_⟩) (by assumption) ?_
                rotate_left 1
                · (intro w hSw; (try dsimp only at hSw); go_simp; try with_reducible rfl)
                try simp only [Act.put, List.setIfInBounds_toArray, List.set_cons_zero, List.set_cons_succ]
                refine wpAnyH_take (i := 7) (oi := { dst := some 66, op := Go.Op.load 36 (Go.Operand.tmp 65), type := 36, pos := "ref.go:21", after := #[{ on := 6, ground := Go.Ground.data }], guard := none }) (v := ?_) rfl (by kernel_rfl) (by kernel_rfl) (by kernel_rfl) (fun _ _ _ h => h) (Or.inl ⟨by rfl, ?_⟩) (by assumption) ?_
                rotate_left 1
                · (intro w hSw; (try dsimp only at hSw); go_simp; try with_reducible rfl)
                try simp only [Act.put, List.setIfInBounds_toArray, List.set_cons_zero, List.set_cons_succ]
                refine wpAnyH_take (i := 8) (oi := { dst := some 67, op := Go.Op.move (Go.Operand.tmp 6), type := 3, pos := "ref.go:21", after := #[], guard := none }) (v := ?_) rfl (by kernel_rfl) (by kernel_rfl) (by kernel_rfl) (fun _ _ _ h => h) (Or.inl ⟨by rfl, ?_⟩) (by assumption) ?_
                rotate_left 1
                · (intro w hSw; (try dsimp only at hSw); go_simp; try with_reducible rfl)
                try simp only [Act.put, List.setIfInBounds_toArray, List.set_cons_zero, List.set_cons_succ]
                refine wpAnyH_take (i := 9) (oi := { dst := some 68, op := Go.Op.indexAddr 36 (Go.Operand.tmp 66) (Go.Operand.tmp 67), type := 0, pos := "ref.go:21", after := #[{ on := 7, ground := Go.Ground.data }, { on := 8, ground := Go.Ground.data }], guard := none }) (v := ?_) rfl (by kernel_rfl) (by kernel_rfl) (by kernel_rfl) (fun _ _ _ h => h) (Or.inl ⟨by rfl, ?_⟩) (by assumption) ?_
                rotate_left 1
                · (intro w hSw; (try dsimp only at hSw); go_simp; try with_reducible rfl)
                try simp only [Act.put, List.setIfInBounds_toArray, List.set_cons_zero, List.set_cons_succ]
                refine wpAnyH_take (i := 10) (oi := { dst := some 69, op := Go.Op.load 5 (Go.Operand.tmp 68), type := 5, pos := "ref.go:21", after := #[{ on := 9, ground := Go.Ground.data }], guard := none }) (v := ?_) rfl (by kernel_rfl) (by kernel_rfl) (by kernel_rfl) (fun _ _ _ h => h) (Or.inl ⟨by rfl, ?_⟩) (by assumption) ?_
                rotate_left 1
                · (intro w hSw; (try dsimp only at hSw); go_simp; try with_reducible rfl)
                try simp only [Act.put, List.setIfInBounds_toArray, List.set_cons_zero, List.set_cons_succ]
                refine wpAnyH_ready (rs := [11]) (by kernel_rfl) (by simp) ?_
                refine AllReadyH.cons (o := { dst := some 70, op := Go.Op.call { callee := Go.Callee.value (Go.Operand.func 30), args := #[Go.Operand.tmp 69], argTypes := #[5] }, type := 5, pos := "ref.go:21", after := #[{ on := 10, ground := Go.Ground.data }], guard := none }) rfl (fun K hK => ?_) AllReadyH.nil
                go_simp
                go_at_call 30
                (refine (IV.out _).mono ?_); rintro e x1 ⟨rfl, hb⟩; have HXe := Lib.hid (HXd.out.trans (hb.mono HXd.out.size)); clear hb
                clear hHeld
                refine hK.out _ _ ?_ (fun hHeld => ?_)
                · ((try dsimp only); exact KK.out _ HXe.out)
                clear hK K
                refine wpAnyH_ready (rs := [12]) (by kernel_rfl) (by simp) ?_
                refine AllReadyH.cons (o := { dst := some 71, op := Go.Op.call { callee := Go.Callee.value (Go.Operand.func 29), args := #[Go.Operand.tmp 62, Go.Operand.tmp 70], argTypes := #[36, 5] }, type := 36, pos := "ref.go:21", after := #[{ on := 3, ground := Go.Ground.data }, { on := 11, ground := Go.Ground.data }, { on := 11, ground := Go.Ground.chain }], guard := none }) rfl (fun K hK => ?_) AllReadyH.nil
                go_simp
                go_at_call 29
                (refine (TM.out _ HXe.out).mono ?_); rintro e x2 ⟨A9, c9, rfl, hr9, hb⟩; have HR9 := Lib.hid hr9; have HXf := Lib.hid (HXe.out.trans (hb.mono HXe.out.size)); clear hb hr9
                clear hHeld
                refine hK.out _ _ ?_ (fun hHeld => ?_)
                · ((try dsimp only); exact KK.out _ HXf.out)
                clear hK K
                refine wpAnyH_take (i := 13) (oi := { dst := some 8, op := Go.Op.assign (Go.Operand.tmp 71), type := 36, pos := "ref.go:21", after := #[{ on := 12, ground := Go.Ground.data }, { on := 12, ground := Go.Ground.chain }, { on := 0, ground := Go.Ground.phase }, { on := 1, ground := Go.Ground.phase }, { on := 2, ground := Go.Ground.phase }, { on := 3, ground := Go.Ground.phase }, { on := 4, ground := Go.Ground.phase }, { on := 5, ground := Go.Ground.phase }, { on := 6, ground := Go.Ground.phase }, { on := 7, ground := Go.Ground.phase }, { on := 8, ground := Go.Ground.phase }, { on := 9, ground := Go.Ground.phase }, { on := 10, ground := Go.Ground.phase }, { on := 11, ground := Go.Ground.phase }, { on := 12, ground := Go.Ground.phase }], guard := none }) (v := ?_) rfl (by kernel_rfl) (by kernel_rfl) (by kernel_rfl) (fun _ _ _ h => h) (Or.inl ⟨by rfl, ?_⟩) (by assumption) ?_
                rotate_left 1
                · (intro w hSw; (try dsimp only at hSw); go_simp; try with_reducible rfl)
                try simp only [Act.put, List.setIfInBounds_toArray, List.set_cons_zero, List.set_cons_succ]
                refine wpAnyH_done (by kernel_rfl) ?_ _
                refine NoPanic.normal ?_
                clear hc0 hck hcc KK IV TM
                have HO2 := Lib.hid (Kd.R_below HO.out HXf.out)
                have HB2 := Lib.hid (HB.out.trans (HXf.out.mono HB.out.size))
                have hgw := (rblk HO.out).2
                have hgwr : g < wr.heap.size := by obtain ⟨cur, hh⟩ := hgw; exact (Array.getElem?_eq_some_iff.1 hh).1
                have HGW := Lib.hid hgwr
                obtain ⟨At, ct, z1, z2, _, _, hMt⟩ := relem HO2.out t (by omega)
                obtain ⟨Ak, ck, z3, z4, _, _, _⟩ := relem HO2.out k hk
                rw [mat_get i m M t (by omega), line_len] at z1 hMt
                rw [mat_get i m M k hk, line_len] at z3
                have HMT := Lib.hid hMt
                have g5 : (0 : Int) ≤ (t : Int) := by omega
                have g6 : (t : Int) < (i : Int) := by omega
                clear hMt hgw hgwr
                go_upto_region 16 with (fail)
                obtain ⟨W6, hW6⟩ : ∃ W6, W6 = x2.setCell ⟨g, k, none⟩ (.slice At m ct) := ⟨_, rfl⟩
                have HO6 := Lib.hid (show RowsR W6 w.heap.size (.slice (some ⟨g, 0, none⟩) i cO) (mat i m (swapI M t k)) by
                  have h := rput HO2.out k hk (.slice At m ct) (line m (M t)) _ HMT.out (fun q hq => hq)
                  rw [mat_set i m M k hk, ← hW6] at h
                  exact h)
                have HB6 := Lib.hid (show Below w.heap.size w W6 by rw [hW6]; exact HB2.out.setCell HGB.out _)
                have HR6 := Lib.hid (show (Kd.int .u8).R 5 W6 wr.heap.size (fun _ => True) (.slice A9 m c9) (line m (fun j => gmI (M k j) r)) by
                  obtain ⟨cur, hh⟩ := (rblk HO2.out).2
                  rw [hW6]
                  exact Kd.R_set (Kd.R_lower HR9.out HXe.out.size) hh (by decide) k _)
                rw [← hW6]
                clear hW6 z1 z2 z3 z4 HMT HO2 HB2 HR9 HXf HXe HXd
                obtain ⟨Aj, cj, z1, z2, _, _, _⟩ := relem HO6.out t (by omega)
                go_upto_region 17 with (fail)
                obtain ⟨W7, hW7⟩ : ∃ W7, W7 = W6.setCell ⟨g, t, none⟩ (.slice A9 m c9) := ⟨_, rfl⟩
                have HO7 := Lib.hid (show RowsR W7 w.heap.size (.slice (some ⟨g, 0, none⟩) i cO) (mat i m (fun q => if q < 0 then stepI M t k col r q else if q = t then (fun j => gmI (M k j) r) else swapI M t k q)) by
                  have h := rput HO6.out t (by omega) (.slice A9 m c9) (line m (fun j => gmI (M k j) r)) (fun q => some q = (Value.slice A9 m c9).ownBlock) (row_M (Kd.own_of_R HR6.out) HB.out.size rfl) (fun q hq => by
                    have h1 := Kd.R_base HR6.out q hq.symm
                    have := HGW.out
                    omega)
                  rw [mat_set i m (swapI M t k) t (by omega), ← hW7] at h
                  exact h)
                have HB7 := Lib.hid (show Below w.heap.size w W7 by rw [hW7]; exact HB6.out.setCell HGB.out _)
                have HX7 := Lib.hid (show (Kd.int .u8).R 5 W7 wr.heap.size (fun _ => True) (.slice A9 m c9) (line m (fun j => gmI (M k j) r)) by
                  obtain ⟨cur, hh⟩ := (rblk HO6.out).2
                  have h := Kd.R_set HR6.out hh (by decide) t (.slice A9 m c9)
                  rw [← hW7] at h
                  exact h)
                have hc9 : m ≤ c9 := (Kd.R_reads' HR6.out).2.1
                rw [← hW7]
                clear hW7 z1 z2 HO6 HB6 HR6
                have HSW := Lib.hid (show BytM (swapI M t k) by intro a b; unfold swapI; split <;> exact HBY.out _ _)
                have HC9 := Lib.hid hc9
                clear hc9
                go_wp2
                go_loopw [9] (fun qv wr' => ∃ (q : Nat), q ≤ i ∧ qv = .int .i64 q ∧ Hid (RowsR wr' w.heap.size (.slice (some ⟨g, 0, none⟩) i cO) (mat i m (fun p => if p < q then stepI M t k col r p else if p = t then (fun j => gmI (M k j) r) else swapI M t k p))) ∧ Hid ((Kd.int .u8).R 5 wr' wr.heap.size (fun _ => True) (.slice A9 m c9) (line m (fun j => gmI (M k j) r))) ∧ Hid (Below w.heap.size w wr')) (fun qv _ => i - (intOf qv).toNat)
                case atStart => exact ⟨0, by omega, rfl, HO7, HX7, HB7⟩
                case round =>
                  clear HO7 HX7 HB7
                  obtain ⟨q, hq, rfl, HO7, HX7, HB7⟩ := hrel
                  by_cases hqi : q < i
                  · have g7 : (0 : Int) ≤ (q : Int) := by omega
                    have g8 : (q : Int) < (i : Int) := by omega
                    by_cases hqt : q = t
                    · have t2 : ((q : Int) != (t : Int)) = false := by simp [hqt]
                      go_wp2
                      go_roundw
                      case rel =>
                        refine ⟨q + 1, by omega, by go_num, Lib.hid ?_, HX7, HB7⟩
                        rw [mat_congr i m _ (fun p => if p < q then stepI M t k col r p else if p = t then (fun j => gmI (M k j) r) else swapI M t k p) (fun p hp j hj => ?_)]
                        · exact HO7.out
                        · by_cases h1 : p < q
                          · rw [if_pos (by omega), if_pos h1]
                          · rw [if_neg h1]
                            by_cases h2 : p = t
                            · rw [if_pos (by omega), if_pos h2]; unfold stepI; rw [if_pos h2]
                            · rw [if_neg (by omega)]
                      case measure => simp [intOf]; omega
                    · have t2 : ((q : Int) != (t : Int)) = true := by simp; omega
                      have e1 : (mat i m (fun p => if p < q then stepI M t k col r p else if p = t then (fun j => gmI (M k j) r) else swapI M t k p)).getD q [] = line m (swapI M t k q) := by rw [mat_get i m _ q hqi]; simp [hqt]
                      obtain ⟨Aq, cq, z1, _, l1, hCq, _⟩ := relem HO7.out q hqi
                      rw [e1, line_len] at z1 l1 hCq
                      obtain ⟨adq, rfl, hcb⟩ := at_row hCq col hlt
                      rw [line_get m (swapI M t k q) col hlt] at hcb
                      have KK := Lib.hid (fun W (hB : Below wr.heap.size wr W) => And.intro (pw_cell_below hB z1) (pw_cell_below hB hcb))
                      have hC9' : (Kd.int .u8).C wr A9 m (line m (fun j => gmI (M k j) r)) := by
                        have h := (Kd.R_reads' HX7.out).2.2
                        rw [line_len] at h
                        exact h
                      have TM := Lib.hid (fun W (hB : Below wr.heap.size wr W) => times_any m c9 A9 (fun j => gmI (M k j) r) (swapI M t k q col) W (Kd.C_below hC9' hB) (fun j => gmI_byt (HBY.out k j)) (HSW.out q col) HC9.out hm)
                      have PM := Lib.hid (fun A2 c2 W (hB : Below wr.heap.size wr W) (h2 : (Kd.int .u8).C W A2 m (line m (fun j => gmI (gmI (M k j) r) (swapI M t k q col)))) (hc2 : m ≤ c2) => plus_any m cq c2 (some adq) A2 (swapI M t k q) (fun j => gmI (gmI (M k j) r) (swapI M t k q col)) W (Kd.C_below hCq hB) h2 (HSW.out q) (fun j => gmI_byt (gmI_byt (HBY.out k j))) l1 hc2 hm)
                      have HGQ := Lib.hid (show g < wr.heap.size by obtain ⟨cur, hh⟩ := (rblk HO7.out).2; exact (Array.getElem?_eq_some_iff.1 hh).1)
                      have HXd := Lib.hid (show Below wr.heap.size wr wr.drew from (Below.refl _ _).drew)
                      clear z1 l1 hCq hcb hC9' e1
                      go_upto_region 21 with (fail)
                      refine wp_region_noPanic ?_
                      refine wp_region_held_drew (S := (fun W => True)) (by kernel_rfl) ?_ (fun hHeld => ?_)
                      · ((try dsimp only); all_goals exact trivial)
                      refine wpAnyH_take (i := 0) (oi := { dst := some 92, op := Go.Op.move (Go.Operand.tmp 3), type := 22, pos := "ref.go:26", after := #[], guard := none }) (v := ?_) rfl (by kernel_rfl) (by kernel_rfl) (by kernel_rfl) (fun _ _ _ h => h) (Or.inl ⟨by rfl, ?_⟩) (by assumption) ?_
                      rotate_left 1
                      · (intro w hSw; (try dsimp only at hSw); go_simp; try with_reducible rfl)
                      try simp only [Act.put, List.setIfInBounds_toArray, List.set_cons_zero, List.set_cons_succ]
                      refine wpAnyH_take (i := 1) (oi := { dst := some 93, op := Go.Op.move (Go.Operand.tmp 9), type := 3, pos := "ref.go:26", after := #[], guard := none }) (v := ?_) rfl (by kernel_rfl) (by kernel_rfl) (by kernel_rfl) (fun _ _ _ h => h) (Or.inl ⟨by rfl, ?_⟩) (by assumption) ?_
                      rotate_left 1
                      · (intro w hSw; (try dsimp only at hSw); go_simp; try with_reducible rfl)
                      try simp only [Act.put, List.setIfInBounds_toArray, List.set_cons_zero, List.set_cons_succ]
                      refine wpAnyH_take (i := 2) (oi := { dst := some 94, op := Go.Op.move (Go.Operand.tmp 3), type := 22, pos := "ref.go:26", after := #[], guard := none }) (v := ?_) rfl (by kernel_rfl) (by kernel_rfl) (by kernel_rfl) (fun _ _ _ h => h) (Or.inl ⟨by rfl, ?_⟩) (by assumption) ?_
                      rotate_left 1
                      · (intro w hSw; (try dsimp only at hSw); go_simp; try with_reducible rfl)
                      try simp only [Act.put, List.setIfInBounds_toArray, List.set_cons_zero, List.set_cons_succ]
                      refine wpAnyH_take (i := 3) (oi := { dst := some 95, op := Go.Op.move (Go.Operand.tmp 9), type := 3, pos := "ref.go:26", after := #[], guard := none }) (v := ?_) rfl (by kernel_rfl) (by kernel_rfl) (by kernel_rfl) (fun _ _ _ h => h) (Or.inl ⟨by rfl, ?_⟩) (by assumption) ?_
                      rotate_left 1
                      · (intro w hSw; (try dsimp only at hSw); go_simp; try with_reducible rfl)
                      try simp only [Act.put, List.setIfInBounds_toArray, List.set_cons_zero, List.set_cons_succ]
                      refine wpAnyH_take (i := 4) (oi := { dst := some 96, op := Go.Op.indexAddr 22 (Go.Operand.tmp 94) (Go.Operand.tmp 95), type := 0, pos := "ref.go:26", after := #[{ on := 2, ground := Go.Ground.data }, { on := 3, ground := Go.Ground.data }], guard := none }) (v := ?_) rfl (by kernel_rfl) (by kernel_rfl) (by kernel_rfl) (fun _ _ _ h => h) (Or.inl ⟨by rfl, ?_⟩) (by assumption) ?_
                      rotate_left 1
                      · (intro w hSw; (try dsimp only at hSw); go_simp; try with_reducible rfl)
                      try simp only [Act.put, List.setIfInBounds_toArray, List.set_cons_zero, List.set_cons_succ]
                      refine wpAnyH_take (i := 6) (oi := { dst := some 98, op := Go.Op.move (Go.Operand.tmp 8), type := 36, pos := "ref.go:26", after := #[], guard := none }) (v := ?_) rfl (by kernel_rfl) (by kernel_rfl) (by kernel_rfl) (fun _ _ _ h => h) (Or.inl ⟨by rfl, ?_⟩) (by assumption) ?_
                      rotate_left 1
                      · (intro w hSw; (try dsimp only at hSw); go_simp; try with_reducible rfl)
                      try simp only [Act.put, List.setIfInBounds_toArray, List.set_cons_zero, List.set_cons_succ]
                      refine wpAnyH_take (i := 7) (oi := { dst := some 99, op := Go.Op.move (Go.Operand.tmp 3), type := 22, pos := "ref.go:26", after := #[], guard := none }) (v := ?_) rfl (by kernel_rfl) (by kernel_rfl) (by kernel_rfl) (fun _ _ _ h => h) (Or.inl ⟨by rfl, ?_⟩) (by assumption) ?_
                      rotate_left 1
                      · (intro w hSw; (try dsimp only at hSw); go_simp; try with_reducible rfl)
                      try simp only [Act.put, List.setIfInBounds_toArray, List.set_cons_zero, List.set_cons_succ]
                      refine wpAnyH_take (i := 8) (oi := { dst := some 100, op := Go.Op.move (Go.Operand.tmp 9), type := 3, pos := "ref.go:26", after := #[], guard := none }) (v := ?_) rfl (by kernel_rfl) (by kernel_rfl) (by kernel_rfl) (fun _ _ _ h => h) (Or.inl ⟨by rfl, ?_⟩) (by assumption) ?_
                      rotate_left 1
                      · (intro w hSw; (try dsimp only at hSw); go_simp; try with_reducible rfl)
                      try simp only [Act.put, List.setIfInBounds_toArray, List.set_cons_zero, List.set_cons_succ]
                      refine wpAnyH_take (i := 9) (oi := { dst := some 101, op := Go.Op.indexAddr 22 (Go.Operand.tmp 99) (Go.Operand.tmp 100), type := 0, pos := "ref.go:26", after := #[{ on := 7, ground := Go.Ground.data }, { on := 8, ground := Go.Ground.data }], guard := none }) (v := ?_) rfl (by kernel_rfl) (by kernel_rfl) (by kernel_rfl) (fun _ _ _ h => h) (Or.inl ⟨by rfl, ?_⟩) (by assumption) ?_
                      rotate_left 1
                      · (intro w hSw; (try dsimp only at hSw); go_simp; try with_reducible rfl)
                      try simp only [Act.put, List.setIfInBounds_toArray, List.set_cons_zero, List.set_cons_succ]
                      refine wpAnyH_take (i := 11) (oi := { dst := some 103, op := Go.Op.move (Go.Operand.tmp 6), type := 3, pos := "ref.go:26", after := #[], guard := none }) (v := ?_) rfl (by kernel_rfl) (by kernel_rfl) (by kernel_rfl) (fun _ _ _ h => h) (Or.inl ⟨by rfl, ?_⟩) (by assumption) ?_
                      rotate_left 1
                      · (intro w hSw; (try dsimp only at hSw); go_simp; try with_reducible rfl)
                      try simp only [Act.put, List.setIfInBounds_toArray, List.set_cons_zero, List.set_cons_succ]
                      refine wpAnyH_ready (rs := [5, 10]) (by kernel_rfl) (by simp) ?_
                      refine AllReadyH.cons (o := { dst := some 97, op := Go.Op.load 36 (Go.Operand.tmp 96), type := 36, pos := "ref.go:26", after := #[{ on := 4, ground := Go.Ground.data }], guard := none }) rfl (fun K hK => ?_) ?_
                      · (have kk := KK.out _ (by first | exact HXe.out | exact HXd.out)); obtain ⟨kk1, kk2⟩ := kk; go_simp
                        clear hHeld
                        refine hK.out _ _ ?_ (fun hHeld => ?_)
                        · ((try dsimp only); all_goals exact trivial)
                        clear hK K
                        refine wpAnyH_ready (rs := [10]) (by kernel_rfl) (by simp) ?_
                        refine AllReadyH.cons (o := { dst := some 102, op := Go.Op.load 36 (Go.Operand.tmp 101), type := 36, pos := "ref.go:26", after := #[{ on := 9, ground := Go.Ground.data }], guard := none }) rfl (fun K hK => ?_) AllReadyH.nil
                        (have kk := KK.out _ HXd.out); obtain ⟨kk1, kk2⟩ := kk; go_simp
                        clear hHeld
                        refine hK.out _ _ ?_ (fun hHeld => ?_)
                        · ((try dsimp only); all_goals exact trivial)
                        clear hK K
                        refine wpAnyH_take (i := 12) (oi := { dst := some 104, op := Go.Op.indexAddr 36 (Go.Operand.tmp 102) (Go.Operand.tmp 103), type := 0, pos := "ref.go:26", after := #[{ on := 10, ground := Go.Ground.data }, { on := 11, ground := Go.Ground.data }], guard := none }) (v := ?_) rfl (by kernel_rfl) (by kernel_rfl) (by kernel_rfl) (fun _ _ _ h => h) (Or.inl ⟨by rfl, ?_⟩) (by assumption) ?_
                        rotate_left 1
                        · (intro w hSw; (try dsimp only at hSw); go_simp; try with_reducible rfl)
                        try simp only [Act.put, List.setIfInBounds_toArray, List.set_cons_zero, List.set_cons_succ]
                        refine wpAnyH_ready (rs := [13]) (by kernel_rfl) (by simp) ?_
                        refine AllReadyH.cons (o := { dst := some 105, op := Go.Op.load 5 (Go.Operand.tmp 104), type := 5, pos := "ref.go:26", after := #[{ on := 12, ground := Go.Ground.data }], guard := none }) rfl (fun K hK => ?_) AllReadyH.nil
                        (have kk := KK.out _ HXd.out); obtain ⟨kk1, kk2⟩ := kk; go_simp
                        clear hHeld
                        refine hK.out _ _ ?_ (fun hHeld => ?_)
                        · ((try dsimp only); all_goals exact trivial)
                        clear hK K
                        refine wpAnyH_ready (rs := [14]) (by kernel_rfl) (by simp) ?_
                        refine AllReadyH.cons (o := { dst := some 106, op := Go.Op.call { callee := Go.Callee.value (Go.Operand.func 29), args := #[Go.Operand.tmp 98, Go.Operand.tmp 105], argTypes := #[36, 5] }, type := 36, pos := "ref.go:26", after := #[{ on := 6, ground := Go.Ground.data }, { on := 13, ground := Go.Ground.data }], guard := none }) rfl (fun K hK => ?_) AllReadyH.nil
                        go_simp
                        go_at_call 29
                        (refine (TM.out _ HXd.out).mono ?_); rintro e x1 ⟨A5, c5, rfl, hr5, hb⟩; have h5 := (Kd.R_reads' hr5).2; rw [line_len] at h5; have HC5 := Lib.hid h5; have HXe := Lib.hid (HXd.out.trans (hb.mono HXd.out.size)); clear hb hr5 h5
                        clear hHeld
                        refine hK.out _ _ ?_ (fun hHeld => ?_)
                        · ((try dsimp only); all_goals exact trivial)
                        clear hK K
                        refine wpAnyH_ready (rs := [15]) (by kernel_rfl) (by simp) ?_
                        refine AllReadyH.cons (o := { dst := some 107, op := Go.Op.call { callee := Go.Callee.value (Go.Operand.func 31), args := #[Go.Operand.tmp 97, Go.Operand.tmp 106], argTypes := #[36, 36] }, type := 36, pos := "ref.go:26", after := #[{ on := 5, ground := Go.Ground.data }, { on := 14, ground := Go.Ground.data }, { on := 14, ground := Go.Ground.chain }], guard := none }) rfl (fun K hK => ?_) AllReadyH.nil
                        go_simp
                        go_at_call 31
                        (refine (PM.out A5 c5 _ HXe.out HC5.out.2 HC5.out.1).mono ?_); rintro e x2 ⟨A6, c6, rfl, hr6, hb⟩; have HR6 := Lib.hid hr6; have HXf := Lib.hid (HXe.out.trans (hb.mono HXe.out.size)); clear hb hr6
                        clear hHeld
                        refine hK.out _ _ ?_ (fun hHeld => ?_)
                        · ((try dsimp only); all_goals exact trivial)
                        clear hK K
                        refine wpAnyH_take (i := 16) (oi := { dst := some 108, op := Go.Op.indexAddr 22 (Go.Operand.tmp 92) (Go.Operand.tmp 93), type := 0, pos := "ref.go:26", after := #[{ on := 0, ground := Go.Ground.data }, { on := 1, ground := Go.Ground.data }, { on := 0, ground := Go.Ground.phase }, { on := 1, ground := Go.Ground.phase }, { on := 2, ground := Go.Ground.phase }, { on := 3, ground := Go.Ground.phase }, { on := 4, ground := Go.Ground.phase }, { on := 5, ground := Go.Ground.phase }, { on := 6, ground := Go.Ground.phase }, { on := 7, ground := Go.Ground.phase }, { on := 8, ground := Go.Ground.phase }, { on := 9, ground := Go.Ground.phase }, { on := 10, ground := Go.Ground.phase }, { on := 11, ground := Go.Ground.phase }, { on := 12, ground := Go.Ground.phase }, { on := 13, ground := Go.Ground.phase }, { on := 14, ground := Go.Ground.phase }, { on := 15, ground := Go.Ground.phase }], guard := none }) (v := ?_) rfl (by kernel_rfl) (by kernel_rfl) (by kernel_rfl) (fun _ _ _ h => h) (Or.inl ⟨by rfl, ?_⟩) (by assumption) ?_
                        rotate_left 1
                        · (intro w hSw; (try dsimp only at hSw); go_simp; try with_reducible rfl)
                        try simp only [Act.put, List.setIfInBounds_toArray, List.set_cons_zero, List.set_cons_succ]
                        refine wpAnyH_ready (rs := [17]) (by kernel_rfl) (by simp) ?_
                        refine AllReadyH.cons (o := { dst := none, op := Go.Op.store 36 (Go.Operand.tmp 108) (Go.Operand.tmp 107), type := 0, pos := "ref.go:26", after := #[{ on := 16, ground := Go.Ground.data }, { on := 15, ground := Go.Ground.data }, { on := 15, ground := Go.Ground.chain }, { on := 0, ground := Go.Ground.phase }, { on := 1, ground := Go.Ground.phase }, { on := 2, ground := Go.Ground.phase }, { on := 3, ground := Go.Ground.phase }, { on := 4, ground := Go.Ground.phase }, { on := 5, ground := Go.Ground.phase }, { on := 6, ground := Go.Ground.phase }, { on := 7, ground := Go.Ground.phase }, { on := 8, ground := Go.Ground.phase }, { on := 9, ground := Go.Ground.phase }, { on := 10, ground := Go.Ground.phase }, { on := 11, ground := Go.Ground.phase }, { on := 12, ground := Go.Ground.phase }, { on := 13, ground := Go.Ground.phase }, { on := 14, ground := Go.Ground.phase }, { on := 15, ground := Go.Ground.phase }], guard := none }) rfl (fun K hK => ?_) AllReadyH.nil
                        have HOf := Lib.hid (Kd.R_below HO7.out HXf.out); obtain ⟨_, _, y1, y2, _, _, _⟩ := relem HOf.out q hqi; go_simp
                        clear hHeld
                        refine hK.out _ _ ?_ (fun hHeld => ?_)
                        · ((try dsimp only); all_goals exact trivial)
                        clear hK K
                        refine wpAnyH_done (by kernel_rfl) ?_ _
                        refine NoPanic.normal ?_
                        (go_wp2; go_roundw; (case rel => exact ⟨q + 1, by omega, by go_num, Lib.hid (rowq HOf.out hqi hqt HR6.out (Nat.le_trans HB7.out.size HXe.out.size) (Nat.lt_of_lt_of_le HGQ.out HXe.out.size)), Lib.hid (setx (Kd.R_below HX7.out HXf.out) HOf.out q _), Lib.hid ((HB7.out.trans (HXf.out.mono HB7.out.size)).setCell HGB.out _)⟩); (case measure => simp [intOf]; omega))
                      refine AllReadyH.cons (o := { dst := some 102, op := Go.Op.load 36 (Go.Operand.tmp 101), type := 36, pos := "ref.go:26", after := #[{ on := 9, ground := Go.Ground.data }], guard := none }) rfl (fun K hK => ?_) AllReadyH.nil
                      (have kk := KK.out _ HXd.out); obtain ⟨kk1, kk2⟩ := kk; go_simp
                      clear hHeld
                      refine hK.out _ _ ?_ (fun hHeld => ?_)
                      · ((try dsimp only); all_goals exact trivial)
                      clear hK K
                      refine wpAnyH_take (i := 12) (oi := { dst := some 104, op := Go.Op.indexAddr 36 (Go.Operand.tmp 102) (Go.Operand.tmp 103), type := 0, pos := "ref.go:26", after := #[{ on := 10, ground := Go.Ground.data }, { on := 11, ground := Go.Ground.data }], guard := none }) (v := ?_) rfl (by kernel_rfl) (by kernel_rfl) (by kernel_rfl) (fun _ _ _ h => h) (Or.inl ⟨by rfl, ?_⟩) (by assumption) ?_
                      rotate_left 1
                      · (intro w hSw; (try dsimp only at hSw); go_simp; try with_reducible rfl)
                      try simp only [Act.put, List.setIfInBounds_toArray, List.set_cons_zero, List.set_cons_succ]
                      refine wpAnyH_ready (rs := [5, 13]) (by kernel_rfl) (by simp) ?_
                      refine AllReadyH.cons (o := { dst := some 97, op := Go.Op.load 36 (Go.Operand.tmp 96), type := 36, pos := "ref.go:26", after := #[{ on := 4, ground := Go.Ground.data }], guard := none }) rfl (fun K hK => ?_) ?_
                      · (have kk := KK.out _ (by first | exact HXe.out | exact HXd.out)); obtain ⟨kk1, kk2⟩ := kk; go_simp
                        clear hHeld
                        refine hK.out _ _ ?_ (fun hHeld => ?_)
                        · ((try dsimp only); all_goals exact trivial)
                        clear hK K
                        refine wpAnyH_ready (rs := [13]) (by kernel_rfl) (by simp) ?_
                        refine AllReadyH.cons (o := { dst := some 105, op := Go.Op.load 5 (Go.Operand.tmp 104), type := 5, pos := "ref.go:26", after := #[{ on := 12, ground := Go.Ground.data }], guard := none }) rfl (fun K hK => ?_) AllReadyH.nil
                        (have kk := KK.out _ HXd.out); obtain ⟨kk1, kk2⟩ := kk; go_simp
                        clear hHeld
                        refine hK.out _ _ ?_ (fun hHeld => ?_)
                        · ((try dsimp only); all_goals exact trivial)
                        clear hK K
                        refine wpAnyH_ready (rs := [14]) (by kernel_rfl) (by simp) ?_
                        refine AllReadyH.cons (o := { dst := some 106, op := Go.Op.call { callee := Go.Callee.value (Go.Operand.func 29), args := #[Go.Operand.tmp 98, Go.Operand.tmp 105], argTypes := #[36, 5] }, type := 36, pos := "ref.go:26", after := #[{ on := 6, ground := Go.Ground.data }, { on := 13, ground := Go.Ground.data }], guard := none }) rfl (fun K hK => ?_) AllReadyH.nil
                        go_simp
                        go_at_call 29
                        (refine (TM.out _ HXd.out).mono ?_); rintro e x1 ⟨A5, c5, rfl, hr5, hb⟩; have h5 := (Kd.R_reads' hr5).2; rw [line_len] at h5; have HC5 := Lib.hid h5; have HXe := Lib.hid (HXd.out.trans (hb.mono HXd.out.size)); clear hb hr5 h5
                        clear hHeld
                        refine hK.out _ _ ?_ (fun hHeld => ?_)
                        · ((try dsimp only); all_goals exact trivial)
                        clear hK K
                        refine wpAnyH_ready (rs := [15]) (by kernel_rfl) (by simp) ?_
                        refine AllReadyH.cons (o := { dst := some 107, op := Go.Op.call { callee := Go.Callee.value (Go.Operand.func 31), args := #[Go.Operand.tmp 97, Go.Operand.tmp 106], argTypes := #[36, 36] }, type := 36, pos := "ref.go:26", after := #[{ on := 5, ground := Go.Ground.data }, { on := 14, ground := Go.Ground.data }, { on := 14, ground := Go.Ground.chain }], guard := none }) rfl (fun K hK => ?_) AllReadyH.nil
                        go_simp
                        go_at_call 31
                        (refine (PM.out A5 c5 _ HXe.out HC5.out.2 HC5.out.1).mono ?_); rintro e x2 ⟨A6, c6, rfl, hr6, hb⟩; have HR6 := Lib.hid hr6; have HXf := Lib.hid (HXe.out.trans (hb.mono HXe.out.size)); clear hb hr6
                        clear hHeld
                        refine hK.out _ _ ?_ (fun hHeld => ?_)
                        · ((try dsimp only); all_goals exact trivial)
                        clear hK K
                        refine wpAnyH_take (i := 16) (oi := { dst := some 108, op := Go.Op.indexAddr 22 (Go.Operand.tmp 92) (Go.Operand.tmp 93), type := 0, pos := "ref.go:26", after := #[{ on := 0, ground := Go.Ground.data }, { on := 1, ground := Go.Ground.data }, { on := 0, ground := Go.Ground.phase }, { on := 1, ground := Go.Ground.phase }, { on := 2, ground := Go.Ground.phase }, { on := 3, ground := Go.Ground.phase }, { on := 4, ground := Go.Ground.phase }, { on := 5, ground := Go.Ground.phase }, { on := 6, ground := Go.Ground.phase }, { on := 7, ground := Go.Ground.phase }, { on := 8, ground := Go.Ground.phase }, { on := 9, ground := Go.Ground.phase }, { on := 10, ground := Go.Ground.phase }, { on := 11, ground := Go.Ground.phase }, { on := 12, ground := Go.Ground.phase }, { on := 13, ground := Go.Ground.phase }, { on := 14, ground := Go.Ground.phase }, { on := 15, ground := Go.Ground.phase }], guard := none }) (v := ?_) rfl (by kernel_rfl) (by kernel_rfl) (by kernel_rfl) (fun _ _ _ h => h) (Or.inl ⟨by rfl, ?_⟩) (by assumption) ?_
                        rotate_left 1
                        · (intro w hSw; (try dsimp only at hSw); go_simp; try with_reducible rfl)
                        try simp only [Act.put, List.setIfInBounds_toArray, List.set_cons_zero, List.set_cons_succ]
                        refine wpAnyH_ready (rs := [17]) (by kernel_rfl) (by simp) ?_
                        refine AllReadyH.cons (o := { dst := none, op := Go.Op.store 36 (Go.Operand.tmp 108) (Go.Operand.tmp 107), type := 0, pos := "ref.go:26", after := #[{ on := 16, ground := Go.Ground.data }, { on := 15, ground := Go.Ground.data }, { on := 15, ground := Go.Ground.chain }, { on := 0, ground := Go.Ground.phase }, { on := 1, ground := Go.Ground.phase }, { on := 2, ground := Go.Ground.phase }, { on := 3, ground := Go.Ground.phase }, { on := 4, ground := Go.Ground.phase }, { on := 5, ground := Go.Ground.phase }, { on := 6, ground := Go.Ground.phase }, { on := 7, ground := Go.Ground.phase }, { on := 8, ground := Go.Ground.phase }, { on := 9, ground := Go.Ground.phase }, { on := 10, ground := Go.Ground.phase }, { on := 11, ground := Go.Ground.phase }, { on := 12, ground := Go.Ground.phase }, { on := 13, ground := Go.Ground.phase }, { on := 14, ground := Go.Ground.phase }, { on := 15, ground := Go.Ground.phase }], guard := none }) rfl (fun K hK => ?_) AllReadyH.nil
                        have HOf := Lib.hid (Kd.R_below HO7.out HXf.out); obtain ⟨_, _, y1, y2, _, _, _⟩ := relem HOf.out q hqi; go_simp
                        clear hHeld
                        refine hK.out _ _ ?_ (fun hHeld => ?_)
                        · ((try dsimp only); all_goals exact trivial)
                        clear hK K
                        refine wpAnyH_done (by kernel_rfl) ?_ _
                        refine NoPanic.normal ?_
                        (go_wp2; go_roundw; (case rel => exact ⟨q + 1, by omega, by go_num, Lib.hid (rowq HOf.out hqi hqt HR6.out (Nat.le_trans HB7.out.size HXe.out.size) (Nat.lt_of_lt_of_le HGQ.out HXe.out.size)), Lib.hid (setx (Kd.R_below HX7.out HXf.out) HOf.out q _), Lib.hid ((HB7.out.trans (HXf.out.mono HB7.out.size)).setCell HGB.out _)⟩); (case measure => simp [intOf]; omega))
                      refine AllReadyH.cons (o := { dst := some 105, op := Go.Op.load 5 (Go.Operand.tmp 104), type := 5, pos := "ref.go:26", after := #[{ on := 12, ground := Go.Ground.data }], guard := none }) rfl (fun K hK => ?_) AllReadyH.nil
                      (have kk := KK.out _ HXd.out); obtain ⟨kk1, kk2⟩ := kk; go_simp
                      clear hHeld
                      refine hK.out _ _ ?_ (fun hHeld => ?_)
                      · ((try dsimp only); all_goals exact trivial)
                      clear hK K
                      refine wpAnyH_ready (rs := [5, 14]) (by kernel_rfl) (by simp) ?_
                      refine AllReadyH.cons (o := { dst := some 97, op := Go.Op.load 36 (Go.Operand.tmp 96), type := 36, pos := "ref.go:26", after := #[{ on := 4, ground := Go.Ground.data }], guard := none }) rfl (fun K hK => ?_) ?_
                      · (have kk := KK.out _ (by first | exact HXe.out | exact HXd.out)); obtain ⟨kk1, kk2⟩ := kk; go_simp
                        clear hHeld
                        refine hK.out _ _ ?_ (fun hHeld => ?_)
                        · ((try dsimp only); all_goals exact trivial)
                        clear hK K
                        refine wpAnyH_ready (rs := [14]) (by kernel_rfl) (by simp) ?_
                        refine AllReadyH.cons (o := { dst := some 106, op := Go.Op.call { callee := Go.Callee.value (Go.Operand.func 29), args := #[Go.Operand.tmp 98, Go.Operand.tmp 105], argTypes := #[36, 5] }, type := 36, pos := "ref.go:26", after := #[{ on := 6, ground := Go.Ground.data }, { on := 13, ground := Go.Ground.data }], guard := none }) rfl (fun K hK => ?_) AllReadyH.nil
                        go_simp
                        go_at_call 29
                        (refine (TM.out _ HXd.out).mono ?_); rintro e x1 ⟨A5, c5, rfl, hr5, hb⟩; have h5 := (Kd.R_reads' hr5).2; rw [line_len] at h5; have HC5 := Lib.hid h5; have HXe := Lib.hid (HXd.out.trans (hb.mono HXd.out.size)); clear hb hr5 h5
                        clear hHeld
                        refine hK.out _ _ ?_ (fun hHeld => ?_)
                        · ((try dsimp only); all_goals exact trivial)
                        clear hK K
                        refine wpAnyH_ready (rs := [15]) (by kernel_rfl) (by simp) ?_
                        refine AllReadyH.cons (o := { dst := some 107, op := Go.Op.call { callee := Go.Callee.value (Go.Operand.func 31), args := #[Go.Operand.tmp 97, Go.Operand.tmp 106], argTypes := #[36, 36] }, type := 36, pos := "ref.go:26", after := #[{ on := 5, ground := Go.Ground.data }, { on := 14, ground := Go.Ground.data }, { on := 14, ground := Go.Ground.chain }], guard := none }) rfl (fun K hK => ?_) AllReadyH.nil
                        go_simp
                        go_at_call 31
                        (refine (PM.out A5 c5 _ HXe.out HC5.out.2 HC5.out.1).mono ?_); rintro e x2 ⟨A6, c6, rfl, hr6, hb⟩; have HR6 := Lib.hid hr6; have HXf := Lib.hid (HXe.out.trans (hb.mono HXe.out.size)); clear hb hr6
                        clear hHeld
                        refine hK.out _ _ ?_ (fun hHeld => ?_)
                        · ((try dsimp only); all_goals exact trivial)
                        clear hK K
                        refine wpAnyH_take (i := 16) (oi := { dst := some 108, op := Go.Op.indexAddr 22 (Go.Operand.tmp 92) (Go.Operand.tmp 93), type := 0, pos := "ref.go:26", after := #[{ on := 0, ground := Go.Ground.data }, { on := 1, ground := Go.Ground.data }, { on := 0, ground := Go.Ground.phase }, { on := 1, ground := Go.Ground.phase }, { on := 2, ground := Go.Ground.phase }, { on := 3, ground := Go.Ground.phase }, { on := 4, ground := Go.Ground.phase }, { on := 5, ground := Go.Ground.phase }, { on := 6, ground := Go.Ground.phase }, { on := 7, ground := Go.Ground.phase }, { on := 8, ground := Go.Ground.phase }, { on := 9, ground := Go.Ground.phase }, { on := 10, ground := Go.Ground.phase }, { on := 11, ground := Go.Ground.phase }, { on := 12, ground := Go.Ground.phase }, { on := 13, ground := Go.Ground.phase }, { on := 14, ground := Go.Ground.phase }, { on := 15, ground := Go.Ground.phase }], guard := none }) (v := ?_) rfl (by kernel_rfl) (by kernel_rfl) (by kernel_rfl) (fun _ _ _ h => h) (Or.inl ⟨by rfl, ?_⟩) (by assumption) ?_
                        rotate_left 1
                        · (intro w hSw; (try dsimp only at hSw); go_simp; try with_reducible rfl)
                        try simp only [Act.put, List.setIfInBounds_toArray, List.set_cons_zero, List.set_cons_succ]
                        refine wpAnyH_ready (rs := [17]) (by kernel_rfl) (by simp) ?_
                        refine AllReadyH.cons (o := { dst := none, op := Go.Op.store 36 (Go.Operand.tmp 108) (Go.Operand.tmp 107), type := 0, pos := "ref.go:26", after := #[{ on := 16, ground := Go.Ground.data }, { on := 15, ground := Go.Ground.data }, { on := 15, ground := Go.Ground.chain }, { on := 0, ground := Go.Ground.phase }, { on := 1, ground := Go.Ground.phase }, { on := 2, ground := Go.Ground.phase }, { on := 3, ground := Go.Ground.phase }, { on := 4, ground := Go.Ground.phase }, { on := 5, ground := Go.Ground.phase }, { on := 6, ground := Go.Ground.phase }, { on := 7, ground := Go.Ground.phase }, { on := 8, ground := Go.Ground.phase }, { on := 9, ground := Go.Ground.phase }, { on := 10, ground := Go.Ground.phase }, { on := 11, ground := Go.Ground.phase }, { on := 12, ground := Go.Ground.phase }, { on := 13, ground := Go.Ground.phase }, { on := 14, ground := Go.Ground.phase }, { on := 15, ground := Go.Ground.phase }], guard := none }) rfl (fun K hK => ?_) AllReadyH.nil
                        have HOf := Lib.hid (Kd.R_below HO7.out HXf.out); obtain ⟨_, _, y1, y2, _, _, _⟩ := relem HOf.out q hqi; go_simp
                        clear hHeld
                        refine hK.out _ _ ?_ (fun hHeld => ?_)
                        · ((try dsimp only); all_goals exact trivial)
                        clear hK K
                        refine wpAnyH_done (by kernel_rfl) ?_ _
                        refine NoPanic.normal ?_
                        (go_wp2; go_roundw; (case rel => exact ⟨q + 1, by omega, by go_num, Lib.hid (rowq HOf.out hqi hqt HR6.out (Nat.le_trans HB7.out.size HXe.out.size) (Nat.lt_of_lt_of_le HGQ.out HXe.out.size)), Lib.hid (setx (Kd.R_below HX7.out HXf.out) HOf.out q _), Lib.hid ((HB7.out.trans (HXf.out.mono HB7.out.size)).setCell HGB.out _)⟩); (case measure => simp [intOf]; omega))
                      refine AllReadyH.cons (o := { dst := some 106, op := Go.Op.call { callee := Go.Callee.value (Go.Operand.func 29), args := #[Go.Operand.tmp 98, Go.Operand.tmp 105], argTypes := #[36, 5] }, type := 36, pos := "ref.go:26", after := #[{ on := 6, ground := Go.Ground.data }, { on := 13, ground := Go.Ground.data }], guard := none }) rfl (fun K hK => ?_) AllReadyH.nil
                      go_simp
                      go_at_call 29
                      (refine (TM.out _ HXd.out).mono ?_); rintro e x1 ⟨A5, c5, rfl, hr5, hb⟩; have h5 := (Kd.R_reads' hr5).2; rw [line_len] at h5; have HC5 := Lib.hid h5; have HXe := Lib.hid (HXd.out.trans (hb.mono HXd.out.size)); clear hb hr5 h5
                      clear hHeld
                      refine hK.out _ _ ?_ (fun hHeld => ?_)
                      · ((try dsimp only); all_goals exact trivial)
                      clear hK K
                      refine wpAnyH_ready (rs := [5]) (by kernel_rfl) (by simp) ?_
                      refine AllReadyH.cons (o := { dst := some 97, op := Go.Op.load 36 (Go.Operand.tmp 96), type := 36, pos := "ref.go:26", after := #[{ on := 4, ground := Go.Ground.data }], guard := none }) rfl (fun K hK => ?_) AllReadyH.nil
                      (have kk := KK.out _ (by first | exact HXe.out | exact HXd.out)); obtain ⟨kk1, kk2⟩ := kk; go_simp
                      clear hHeld
                      refine hK.out _ _ ?_ (fun hHeld => ?_)
                      · ((try dsimp only); all_goals exact trivial)
                      clear hK K
                      refine wpAnyH_ready (rs := [15]) (by kernel_rfl) (by simp) ?_
                      refine AllReadyH.cons (o := { dst := some 107, op := Go.Op.call { callee := Go.Callee.value (Go.Operand.func 31), args := #[Go.Operand.tmp 97, Go.Operand.tmp 106], argTypes := #[36, 36] }, type := 36, pos := "ref.go:26", after := #[{ on := 5, ground := Go.Ground.data }, { on := 14, ground := Go.Ground.data }, { on := 14, ground := Go.Ground.chain }], guard := none }) rfl (fun K hK => ?_) AllReadyH.nil
                      go_simp
                      go_at_call 31
                      (refine (PM.out A5 c5 _ HXe.out HC5.out.2 HC5.out.1).mono ?_); rintro e x2 ⟨A6, c6, rfl, hr6, hb⟩; have HR6 := Lib.hid hr6; have HXf := Lib.hid (HXe.out.trans (hb.mono HXe.out.size)); clear hb hr6
                      clear hHeld
                      refine hK.out _ _ ?_ (fun hHeld => ?_)
                      · ((try dsimp only); all_goals exact trivial)
                      clear hK K
                      refine wpAnyH_take (i := 16) (oi := { dst := some 108, op := Go.Op.indexAddr 22 (Go.Operand.tmp 92) (Go.Operand.tmp 93), type := 0, pos := "ref.go:26", after := #[{ on := 0, ground := Go.Ground.data }, { on := 1, ground := Go.Ground.data }, { on := 0, ground := Go.Ground.phase }, { on := 1, ground := Go.Ground.phase }, { on := 2, ground := Go.Ground.phase }, { on := 3, ground := Go.Ground.phase }, { on := 4, ground := Go.Ground.phase }, { on := 5, ground := Go.Ground.phase }, { on := 6, ground := Go.Ground.phase }, { on := 7, ground := Go.Ground.phase }, { on := 8, ground := Go.Ground.phase }, { on := 9, ground := Go.Ground.phase }, { on := 10, ground := Go.Ground.phase }, { on := 11, ground := Go.Ground.phase }, { on := 12, ground := Go.Ground.phase }, { on := 13, ground := Go.Ground.phase }, { on := 14, ground := Go.Ground.phase }, { on := 15, ground := Go.Ground.phase }], guard := none }) (v := ?_) rfl (by kernel_rfl) (by kernel_rfl) (by kernel_rfl) (fun _ _ _ h => h) (Or.inl ⟨by rfl, ?_⟩) (by assumption) ?_
                      rotate_left 1
                      · (intro w hSw; (try dsimp only at hSw); go_simp; try with_reducible rfl)
                      try simp only [Act.put, List.setIfInBounds_toArray, List.set_cons_zero, List.set_cons_succ]
                      refine wpAnyH_ready (rs := [17]) (by kernel_rfl) (by simp) ?_
                      refine AllReadyH.cons (o := { dst := none, op := Go.Op.store 36 (Go.Operand.tmp 108) (Go.Operand.tmp 107), type := 0, pos := "ref.go:26", after := #[{ on := 16, ground := Go.Ground.data }, { on := 15, ground := Go.Ground.data }, { on := 15, ground := Go.Ground.chain }, { on := 0, ground := Go.Ground.phase }, { on := 1, ground := Go.Ground.phase }, { on := 2, ground := Go.Ground.phase }, { on := 3, ground := Go.Ground.phase }, { on := 4, ground := Go.Ground.phase }, { on := 5, ground := Go.Ground.phase }, { on := 6, ground := Go.Ground.phase }, { on := 7, ground := Go.Ground.phase }, { on := 8, ground := Go.Ground.phase }, { on := 9, ground := Go.Ground.phase }, { on := 10, ground := Go.Ground.phase }, { on := 11, ground := Go.Ground.phase }, { on := 12, ground := Go.Ground.phase }, { on := 13, ground := Go.Ground.phase }, { on := 14, ground := Go.Ground.phase }, { on := 15, ground := Go.Ground.phase }], guard := none }) rfl (fun K hK => ?_) AllReadyH.nil
                      have HOf := Lib.hid (Kd.R_below HO7.out HXf.out); obtain ⟨_, _, y1, y2, _, _, _⟩ := relem HOf.out q hqi; go_simp
                      clear hHeld
                      refine hK.out _ _ ?_ (fun hHeld => ?_)
                      · ((try dsimp only); all_goals exact trivial)
                      clear hK K
                      refine wpAnyH_done (by kernel_rfl) ?_ _
                      refine NoPanic.normal ?_
                      (go_wp2; go_roundw; (case rel => exact ⟨q + 1, by omega, by go_num, Lib.hid (rowq HOf.out hqi hqt HR6.out (Nat.le_trans HB7.out.size HXe.out.size) (Nat.lt_of_lt_of_le HGQ.out HXe.out.size)), Lib.hid (setx (Kd.R_below HX7.out HXf.out) HOf.out q _), Lib.hid ((HB7.out.trans (HXf.out.mono HB7.out.size)).setCell HGB.out _)⟩); (case measure => simp [intOf]; omega))
                  · obtain rfl : q = i := by omega
                    have HOe := Lib.hid (show RowsR wr w.heap.size (.slice (some ⟨g, 0, none⟩) q cO) (mat q m (stepI M t k col r)) by
                      rw [mat_congr q m (stepI M t k col r) (fun p => if p < q then stepI M t k col r p else if p = t then (fun j => gmI (M k j) r) else swapI M t k p) (fun p hp j hj => by rw [if_pos hp])]
                      exact HO7.out)
                    go_wp2
                    go_roundw
                    case rel => exact ⟨t + 1, col + 1, stepI M t k col r, by go_num, by go_num, by omega, Lib.hid (.step HS.out htk hk HZ.out hz HRB.out HR1.out), HOe, HB7⟩
                    case measure => simp [intOf]; omega
            · obtain rfl : k = i := by omega
              go_wp2
              go_roundw
              case rel => exact ⟨t, col + 1, M, rfl, by go_num, by omega, Lib.hid (.skip HS.out (fun j h1 h2 => HZ.out j h1 h2)), HO, HB⟩
              case measure => simp [intOf]; omega
        · obtain rfl : col = m := by omega
          go_wp2
          go_ret
          exact ⟨_, t, M, rfl, HO.out, HS.out, HB.out⟩
end Go.Proofs.Ytojaekhplohbjaa.Sol
/- The document's Rank. -/
namespace Go.Proofs.Ytojaekhplohbjaa.Sol
open Go Go.RowKit Go.Proofs.Ytojaekhplohbjaa.PSteps Go.Proofs.Ytojaekhplohbjaa.Gf Go.Proofs.Ytojaekhplohbjaa.Gi Go.Proofs.Ytojaekhplohbjaa.Bits Go.Proofs.Ytojaekhplohbjaa.Mem Go.Proofs.Ytojaekhplohbjaa.Rws Go.Proofs.YtojaekhplohbjaaW.PrintWords Go.Proofs.YtojaekhplohbjaaW.PrintLast
set_option linter.unusedVariables false

/-- What Rank tells. -/
def RankPost (n m : Nat) (M0 : Mtx) (w : World) (e : Ending) (w' : World) : Prop := ∃ t M, e = .returned (.int .i64 (t : Nat)) ∧ StepsTo n M0 m t M ∧ Below w.heap.size w w'
/-- Has a row something among its first k? -/
def someTo (M : Mtx) (i : Nat) : Nat → Bool
  | 0 => false
  | k + 1 => someTo M i k || (M i k != 0)
theorem someTo_iff (M : Mtx) (i : Nat) : ∀ k, someTo M i k = true ↔ ∃ j, j < k ∧ M i j ≠ 0
  | 0 => by simp [someTo]
  | k + 1 => by
    simp only [someTo, Bool.or_eq_true, someTo_iff M i k, bne_iff_ne]
    constructor
    · rintro (⟨j, hj, h⟩ | h)
      · exact ⟨j, by omega, h⟩
      · exact ⟨k, by omega, h⟩
    · rintro ⟨j, hj, h⟩
      by_cases e : j < k
      · exact .inl ⟨j, e, h⟩
      · obtain rfl : j = k := by omega
        exact .inr h
set_option maxRecDepth 100000 in
set_option maxHeartbeats 4000000 in
theorem rrank_any (n m c0 : Nat) (A : Option Addr) (M0 : Mtx) (w : World) (hC : Kd.C kRow w A n (mat n m M0)) (h0 : BytM M0) (hn1 : 1 ≤ n) (hn : n ≤ 1000) (hm1 : 1 ≤ m) (hm : m ≤ 1000) :
    Calls Try.prog 14 #[.slice A n c0] w (RankPost n m M0 w) := by
  have ST := Lib.hid (steps_any n m c0 A M0 w hC h0 hn1 hn hm1 hm)
  have H0 := Lib.hid h0
  clear hC h0
  go_enter Try.func14, Try.ntmps14
  go_upto_region 4 with (go_at_call 12; (with_reducible refine ST.out.mono ?_); rintro e w1 ⟨u, t, M, rfl, hu, hst, hb⟩; have HU := Lib.hid hu; have HST := Lib.hid hst; have HB := Lib.hid hb; clear hu hst hb)
  obtain ⟨A1, c1, e1, _, hC1⟩ := Kd.R_reads HU.out
  rw [mat_len] at e1 hC1
  subst e1
  have HC1 := Lib.hid hC1
  have HSR := Lib.hid (fun i (hi : i < n) => HST.out.some_row H0.out i hi)
  have HLE := Lib.hid HST.out.le
  clear hC1 ST HU
  go_loopw [4, 5, 6, 7] (fun nv iv _ _ wr => ∃ (i : Nat), i ≤ n ∧ iv = .int .i64 i ∧ nv = .int .i64 (min i t : Nat) ∧ wr = w1) (fun _ iv _ _ _ => n - (intOf iv).toNat)
  case atStart => exact ⟨0, by omega, rfl, by simp, rfl⟩
  case round =>
    obtain ⟨i, hi, rfl, rfl, hw⟩ := hrel
    obtain rfl := hw.symm
    by_cases hlt : i < n
    · obtain ⟨ad, A2, c2, e2, hcell, _, hC2⟩ := mrow HC1.out i hlt
      have HAD := Lib.hid e2
      subst e2
      have HC2 := Lib.hid hC2
      have g0 : (0 : Int) ≤ (i : Int) := by omega
      have g1 : (i : Int) < (n : Int) := by omega
      have HLT := Lib.hid hlt
      obtain ⟨mt, hmt⟩ : ∃ mt : Nat, mt = min i t := ⟨_, rfl⟩
      rw [← hmt]
      have hm9 : mt ≤ 1000 := by omega
      have HMT := Lib.hid hmt
      clear hC2 hmt
      go_upto_region 8 with (fail)
      go_loopw [6, 7] (fun sv jv wr' => ∃ (j : Nat), j ≤ m ∧ jv = .int .i64 j ∧ sv = .bool (someTo M i j) ∧ wr' = w1) (fun _ jv _ => m - (intOf jv).toNat)
      case atStart => exact ⟨0, by omega, rfl, rfl, rfl⟩
      case round =>
        obtain ⟨j, hj, rfl, rfl, hw⟩ := hrel
        obtain rfl := hw.symm
        by_cases hjm : j < m
        · obtain ⟨ad2, e3, hcc⟩ := at_row HC2.out j hjm
          subst e3
          rw [line_get m (M i) j hjm] at hcc
          have g2 : (0 : Int) ≤ (j : Int) := by omega
          have g3 : (j : Int) < (m : Int) := by omega
          have HSS := Lib.hid (show someTo M i (j + 1) = (someTo M i j || (M i j != 0)) from rfl)
          obtain ⟨y, hy⟩ : ∃ y, y = M i j := ⟨_, rfl⟩
          rw [← hy] at hcc HSS
          obtain ⟨z, hz⟩ : ∃ z, z = (y != 0) := ⟨_, rfl⟩
          rw [← hz] at HSS
          have hz' : (y != 0) = z := hz.symm
          rcases hs : someTo M i j with _ | _
          · rw [hs] at HSS
            clear hy hz hs
            go_wp2
            go_roundw
            case rel => exact ⟨j + 1, by omega, by go_num, by rw [HSS.out]; rfl, by first | rfl | trivial⟩
            case measure => simp [intOf]; omega
          · rw [hs] at HSS
            clear hy hz hz' hs
            go_wp2
            go_roundw
            case rel => exact ⟨j + 1, by omega, by go_num, by rw [HSS.out]; rfl, by first | rfl | trivial⟩
            case measure => simp [intOf]; omega
        · obtain rfl : j = m := by omega
          have hiff := (someTo_iff M i j).trans (HSR.out i HLT.out)
          by_cases hit : i < t
          · have e : someTo M i j = true := hiff.2 hit
            rw [e]
            have HIT := Lib.hid hit
            clear hiff hit e
            go_wp2
            go_roundw
            case rel => exact ⟨i + 1, by omega, by go_num, by have h1 := HMT.out; have h2 := HIT.out; rw [show min (i + 1) t = mt + 1 by omega]; go_num, by first | rfl | trivial⟩
            case measure => simp [intOf]; omega
          · have e : someTo M i j = false := by
              rcases h : someTo M i j with _ | _
              · rfl
              · exact absurd (hiff.1 h) hit
            rw [e]
            have HIT := Lib.hid hit
            clear hiff hit e
            go_wp2
            go_roundw
            case rel => exact ⟨i + 1, by omega, by go_num, by have h1 := HMT.out; have h2 := HIT.out; rw [show min (i + 1) t = mt by omega], by first | rfl | trivial⟩
            case measure => simp [intOf]; omega
    · obtain rfl : i = n := by omega
      have e : min i t = t := by have := HLE.out; omega
      rw [e]
      clear e
      go_wp2
      go_ret
      exact ⟨t, M, rfl, HST.out, HB.out⟩
end Go.Proofs.Ytojaekhplohbjaa.Sol
/- law04: what its walks share. -/
namespace Go.Proofs.Ytojaekhplohbjaa.Sol
open Go Go.RowKit Go.Proofs.Ytojaekhplohbjaa.Gi Go.Proofs.Ytojaekhplohbjaa.Gf Go.Proofs.Ytojaekhplohbjaa.Mem Go.Proofs.Ytojaekhplohbjaa.Bits Go.Proofs.Ytojaekhplohbjaa.Rws Go.Proofs.YtojaekhplohbjaaW.PrintWords
set_option linter.unusedVariables false

theorem of_mat (n m c : Nat) (A : Option Addr) (C : Mtx) (w : World) (h : Kd.C kRow w A n (mat n m C)) (hc : n ≤ c) (hC : BytM C) (h1 : 1 ≤ n) (h2 : n ≤ 64) (h3 : 1 ≤ m) (h4 : m ≤ 64) :
    Calls Try.prog 8 #[.slice A n c] w fun e w' => ∃ b s cap, e = .returned (.tuple #[.pointer (some ⟨b, 0, none⟩), .int .i64 0]) ∧ Mat.MatIn w' b s n m cap (Mat.flat (mat n m C)) ∧ Below w.heap.size w w' := by
  have e : ((mat n m C).getD 0 []).length = m := by rw [mat_get n m C 0 (by omega), line_len]
  have h := Mat.of_right A c (mat n m C) w w (Below.refl _ _) (show Mat.RowsC w A (mat n m C) by show Kd.C _ w A (mat n m C).length _; rw [mat_len]; exact h) (mat_right n m C h1 h2 h3 h4) (mat_bytes n m hC) (by rw [mat_len]; exact hc)
  rw [mat_len, e] at h
  refine h.mono ?_
  rintro e w' ⟨b, s, cap, rfl, hm, hb, _, _⟩
  exact ⟨b, s, cap, rfl, hm, hb⟩
theorem small_yes (n m c : Nat) (A : Option Addr) (C : Mtx) (w : World) (h : Kd.C kRow w A n (mat n m C)) (hc : n ≤ c) (h1 : 1 ≤ n) (h2 : n ≤ 9) (h3 : 1 ≤ m) (h4 : m ≤ 9) :
    Calls Try.prog 6 #[.slice A n c] w fun e w' => e = .returned (.bool true) ∧ Below w.heap.size w w' := by
  have e : ((mat n m C).getD 0 []).length = m := by rw [mat_get n m C 0 (by omega), line_len]
  have h := small4_calls A c (mat n m C) true w (show Mat.RowsC w A (mat n m C) by show Kd.C _ w A (mat n m C).length _; rw [mat_len]; exact h) (by rw [mat_len]; exact hc) (decide_eq_true ⟨mat_right n m C h1 (by omega) h3 (by omega), by rw [mat_len]; exact h2, by rw [e]; exact h4⟩)
  rw [mat_len] at h
  exact h
theorem same_yes (n m c0 c1 : Nat) (A0 A1 : Option Addr) (X Y : Mtx) (w : World) (hX : Kd.C kRow w A0 n (mat n m X)) (hY : Kd.C kRow w A1 n (mat n m Y)) (bX : BytM X) (bY : BytM Y) (hn : n ≤ 1000) (he : ∀ i, i < n → ∀ j, j < m → X i j = Y i j) :
    Calls Try.prog 10 #[.slice A0 n c0, .slice A1 n c1] w fun e w' => e = .returned (.bool true) ∧ Below w.heap.size w w' := by
  have h := Rws.ref_same A0 A1 c0 c1 (mat n m X) (mat n m Y) w (by rw [Rws.RowsC, mat_len]; exact hX) (by rw [Rws.RowsC, mat_len]; exact hY) (fun l hl => by obtain ⟨i, _, rfl⟩ := List.mem_map.1 hl; exact line_byt m _ (bX i)) (fun l hl => by obtain ⟨i, _, rfl⟩ := List.mem_map.1 hl; exact line_byt m _ (bY i)) (by rw [mat_len]; omega) (by rw [mat_len]; omega)
  rw [mat_len, mat_len, decide_eq_true (mat_congr n m X Y he)] at h
  refine h.mono ?_
  rintro e w' ⟨rfl, q, rfl⟩
  exact ⟨rfl, pw_below_drewN (Below.refl _ _) q⟩
/-- Rows alike in length are a matrix's. -/
theorem rows_mat (ls : List (List Int)) (m : Nat) (h : ∀ l ∈ ls, l.length = m) : mat ls.length m (fun i j => (ls.getD i []).getD j 0) = ls := by
  refine List.ext_getElem (by rw [mat_len]) (fun i h1 h2 => ?_)
  simp only [mat, List.getElem_map, List.getElem_range]
  have hi : ls.getD i [] = ls[i] := by rw [List.getD_eq_getElem?_getD, List.getElem?_eq_getElem h2]; rfl
  have hl : ls[i].length = m := h _ (List.getElem_mem h2)
  rw [hi]
  refine List.ext_getElem (by rw [line_len, hl]) (fun j h3 h4 => ?_)
  simp [line, List.getD_eq_getElem?_getD, h4]
theorem rows_byt {ls : List (List Int)} (h : ∀ l ∈ ls, ∀ x ∈ l, Byt x) : BytM (fun i j => (ls.getD i []).getD j 0) := fun i j => getD_byt (fun x hx => by
  rw [List.getD_eq_getElem?_getD] at hx
  rcases Nat.lt_or_ge i ls.length with hi | hi
  · rw [List.getElem?_eq_getElem hi] at hx
    exact h _ (List.getElem_mem hi) x hx
  · rw [List.getElem?_eq_none hi] at hx; cases hx) j
theorem rows4_in (b s cap n m : Nat) (xs : List Int) (w : World) (h : Mat.MatIn w b s n m cap xs) :
    Calls Try.prog 11 #[.pointer (some ⟨b, 0, none⟩)] w fun e w' => ∃ A c1, e = .returned (.slice A n c1) ∧ n ≤ c1 ∧ Kd.C kRow w' A n (mat n m (mx m xs)) ∧ Below w.heap.size w w' :=
  rows4_any _ n m xs w ⟨b, s, cap, rfl, h⟩
theorem rank_b (b s cap n m : Nat) (xs : List Int) (w : World) (h : Mat.MatIn w b s n m cap xs) :
    Calls Try.prog 13 #[.pointer (some ⟨b, 0, none⟩)] w (RankPost n m (augM m (mx m xs) (mx m xs)) w) :=
  (rank_any b s cap n m xs w h).mono fun e w' h => h
theorem rsteps_C (n m c0 : Nat) (A : Option Addr) (M0 : Mtx) (w : World) (hC : Kd.C kRow w A n (mat n m M0)) (h0 : BytM M0) (hn1 : 1 ≤ n) (hn : n ≤ 1000) (hm1 : 1 ≤ m) (hm : m ≤ 1000) :
    Calls Try.prog 12 #[.slice A n c0] w fun e w' => ∃ A1 c1 t M, e = .returned (.slice A1 n c1) ∧ Kd.C kRow w' A1 n (mat n m M) ∧ StepsTo n M0 m t M ∧ Below w.heap.size w w' := by
  refine (steps_any n m c0 A M0 w hC h0 hn1 hn hm1 hm).mono ?_
  rintro e w' ⟨u, t, M, rfl, hu, hst, hb⟩
  obtain ⟨A1, c1, e1, _, hC1⟩ := Kd.R_reads hu
  rw [mat_len] at e1 hC1
  subst e1
  exact ⟨A1, c1, t, M, rfl, hC1, hst, hb⟩
end Go.Proofs.Ytojaekhplohbjaa.Sol
/- The printed product of the document's answer is the plain one. -/
namespace Go.Proofs.Ytojaekhplohbjaa.BMul
open Go Go.RowKit Go.Proofs.Ytojaekhplohbjaa.PMul Go.Proofs.Ytojaekhplohbjaa.Gf Go.Proofs.Ytojaekhplohbjaa.Bits Go.Proofs.YtojaekhplohbjaaW.PrintWords Go.Proofs.YtojaekhplohbjaaW.PrintLast

theorem ref_bit (i : Nat) : ∀ (k n : Nat), n < 9223372036854775808 → i < 64 → i < k → coldframeref02_bit.f k n i = some ((n / 2 ^ i % 2 : Nat) : Int) := by
  induction i with
  | zero =>
    intro k n hn hi hk
    obtain ⟨k, rfl⟩ : ∃ m, k = m + 1 := ⟨k - 1, by omega⟩
    simp only [coldframeref02_bit.f, coldframeref02_bit.l0]
    rw [if_neg (by omega), Int.tmod_eq_emod_of_nonneg (by omega)]
    congr 1; simp
  | succ i ih =>
    intro k n hn hi hk
    obtain ⟨k, rfl⟩ : ∃ m, k = m + 1 := ⟨k - 1, by omega⟩
    simp only [coldframeref02_bit.f, coldframeref02_bit.l0]
    have e1 : wrap64 (Int.tdiv (n : Int) 2) = ((n / 2 : Nat) : Int) := by
      rw [Int.tdiv_eq_ediv_of_nonneg (by omega), wrap64_in _ (by omega) (by omega)]; omega
    have e2 : wrap64 (((i + 1 : Nat) : Int) - 1) = (i : Int) := by rw [wrap64_in _ (by omega) (by omega)]; omega
    rw [if_pos (by omega), e1, e2]
    have := ih k (n / 2) (by omega) (by omega) (by omega)
    simp only [coldframeref02_bit.f] at this
    rw [this, Nat.div_div_eq_div_mul, Nat.pow_succ, Nat.mul_comm 2]

theorem ref_power (i : Nat) : ∀ (k p : Nat), p * 2 ^ i < 9223372036854775808 → i < 64 → i < k → coldframeref02_power.l0 k i p = some ((p * 2 ^ i : Nat) : Int) := by
  induction i with
  | zero =>
    intro k p hp hi hk
    obtain ⟨k, rfl⟩ : ∃ m, k = m + 1 := ⟨k - 1, by omega⟩
    simp only [coldframeref02_power.l0]
    rw [if_neg (by omega)]
    congr 1; simp
  | succ i ih =>
    intro k p hp hi hk
    obtain ⟨k, rfl⟩ : ∃ m, k = m + 1 := ⟨k - 1, by omega⟩
    simp only [coldframeref02_power.l0]
    have hpos : 0 < 2 ^ i := Nat.two_pow_pos i
    have hle : p * 2 ≤ p * 2 ^ (i + 1) := by
      rw [Nat.pow_succ]; exact Nat.mul_le_mul_left p (by omega)
    have e1 : wrap64 ((p : Int) * 2) = ((p * 2 : Nat) : Int) := by
      rw [wrap64_in _ (by omega) (by omega)]; omega
    have e2 : wrap64 (((i + 1 : Nat) : Int) - 1) = (i : Int) := by rw [wrap64_in _ (by omega) (by omega)]; omega
    have e3 : p * 2 * 2 ^ i = p * 2 ^ (i + 1) := by rw [Nat.pow_succ, Nat.mul_assoc, Nat.mul_comm 2]
    rw [if_pos (by omega), e1, e2, ih k (p * 2) (by omega) (by omega) (by omega), e3]

theorem ref_pow2 (i k : Nat) (hi : i < 62) (hk : i < k) : coldframeref02_power.f k i = some ((2 ^ i : Nat) : Int) := by
  unfold coldframeref02_power.f
  have hp : 2 ^ i ≤ 2 ^ 61 := Nat.pow_le_pow_right (by decide) (by omega)
  have := ref_power i k 1 (by omega) (by omega) hk
  simpa using this

theorem ref_down (n : Nat) : ∀ (k p : Nat), n ≤ 7 → p < 2 ^ 15 → 40 ≤ k → coldframeref02_Mul.l1 (k + n) p ((n : Int) + 7) = some ((redA n p % 256 : Nat) : Int) := by
  induction n with
  | zero =>
    intro k p hn hp hk
    obtain ⟨k, rfl⟩ : ∃ m, k = m + 1 := ⟨k - 1, by omega⟩
    simp only [coldframeref02_Mul.l1, redA]
    rw [if_neg (by omega)]
    congr 1
  | succ n ih =>
    intro k p hn hp hk
    rw [show k + (n + 1) = (k + n) + 1 from rfl]
    simp only [coldframeref02_Mul.l1, redA]
    have e0 : ((n + 1 : Nat) : Int) + 7 = ((n + 8 : Nat) : Int) := by omega
    have e1 : wrap64 (((n + 8 : Nat) : Int) - 8) = (n : Int) := by rw [wrap64_in _ (by omega) (by omega)]; omega
    have e2 : wrap64 (((n + 8 : Nat) : Int) - 1) = (n : Int) + 7 := by rw [wrap64_in _ (by omega) (by omega)]; omega
    rw [e0, if_pos (by omega), ref_bit (n + 8) _ p (by omega) (by omega) (by omega)]
    simp only [bnd]
    rw [e1, e2]
    rcases bit01 (p / 2 ^ (n + 8)) with h | h
    · rw [if_neg (by omega), h, Nat.zero_mul, Nat.xor_zero, ih k p (by omega) hp hk]
    · have hq : 2 ^ n ≤ 2 ^ 6 := Nat.pow_le_pow_right (by decide) (by omega)
      have hm : 285 * 2 ^ n ≤ 285 * 2 ^ 6 := Nat.mul_le_mul_left 285 hq
      have hm' : 285 * 2 ^ n < 2 ^ 15 := Nat.lt_of_le_of_lt hm (by decide)
      have e3 : wrap64 (285 * ((2 ^ n : Nat) : Int)) = ((285 * 2 ^ n : Nat) : Int) := by
        show wrap64 (((285 : Nat) : Int) * ((2 ^ n : Nat) : Int)) = _
        rw [← Int.natCast_mul]; exact wrap64_nat _ (Nat.lt_of_lt_of_le hm' (by decide))
      rw [if_pos (by omega), ref_pow2 n _ (by omega) (by omega)]
      simp only [bnd]
      have hx : p ^^^ 285 * 2 ^ n < 2 ^ 15 := Nat.xor_lt_two_pow hp hm'
      rw [e3, xor_i64 p (285 * 2 ^ n) (Nat.lt_of_lt_of_le hp (by decide)) (Nat.lt_of_lt_of_le hm' (by decide)), h, Nat.one_mul, ih k _ (by omega) hx hk]

theorem ref_up (n : Nat) : ∀ (k a b p i : Nat), n + i = 8 → a < 256 → b < 256 → p < 2 ^ 15 → 60 ≤ k →
    coldframeref02_Mul.l0 (k + n) a b p i = some ((redA 7 (clA n (b / 2 ^ i) p (a * 2 ^ i)) % 256 : Nat) : Int) := by
  induction n with
  | zero =>
    intro k a b p i hi ha hb hp hk
    obtain ⟨k, rfl⟩ : ∃ m, k = m + 7 + 1 := ⟨k - 8, by omega⟩
    simp only [coldframeref02_Mul.l0, clA]
    rw [if_neg (by omega)]
    exact ref_down 7 k p (by omega) hp (by omega)
  | succ n ih =>
    intro k a b p i hi ha hb hp hk
    rw [show k + (n + 1) = (k + n) + 1 from rfl]
    simp only [coldframeref02_Mul.l0, clA]
    have e2 : wrap64 ((i : Int) + 1) = ((i + 1 : Nat) : Int) := by rw [wrap64_in _ (by omega) (by omega)]; omega
    have e4 : b / 2 ^ i / 2 = b / 2 ^ (i + 1) := by rw [Nat.div_div_eq_div_mul, Nat.pow_succ]
    have e5 : a * 2 ^ i * 2 = a * 2 ^ (i + 1) := by rw [Nat.pow_succ, Nat.mul_assoc]
    rw [if_pos (by omega), wrap64_nat b (by omega), wrap64_nat a (by omega), ref_bit i _ b (by omega) (by omega) (by omega)]
    simp only [bnd]
    rw [e2, e4, e5]
    rcases bit01 (b / 2 ^ i) with h | h
    · rw [if_neg (by omega), h, Nat.zero_mul, Nat.xor_zero, ih k a b p (i + 1) (by omega) ha hb hp hk]
    · have hq : 2 ^ i ≤ 2 ^ 7 := Nat.pow_le_pow_right (by decide) (by omega)
      have hm : a * 2 ^ i ≤ 255 * 2 ^ 7 := Nat.mul_le_mul (by omega) hq
      have hm' : a * 2 ^ i < 2 ^ 15 := Nat.lt_of_le_of_lt hm (by decide)
      have e3 : wrap64 ((a : Int) * ((2 ^ i : Nat) : Int)) = ((a * 2 ^ i : Nat) : Int) := by
        rw [← Int.natCast_mul]; exact wrap64_nat _ (Nat.lt_of_lt_of_le hm' (by decide))
      rw [if_pos (by omega), ref_pow2 i _ (by omega) (by omega)]
      simp only [bnd]
      have hx : p ^^^ a * 2 ^ i < 2 ^ 15 := Nat.xor_lt_two_pow hp hm'
      rw [e3, xor_i64 p (a * 2 ^ i) (Nat.lt_of_lt_of_le hp (by decide)) (Nat.lt_of_lt_of_le hm' (by decide)), h, Nat.one_mul, ih k a b _ (i + 1) (by omega) ha hb hx hk]

theorem ref_mul (k a b : Nat) (ha : a < 256) (hb : b < 256) (hk : 68 ≤ k) : coldframeref02_Mul.f k a b = some ((gm a b : Nat) : Int) := by
  unfold coldframeref02_Mul.f
  obtain ⟨k, rfl⟩ : ∃ m, k = m + 8 := ⟨k - 8, by omega⟩
  have h := ref_up 8 k a b 0 0 (by omega) ha hb (by omega) (by omega)
  have h1 := ref_eq a b ha hb
  have h2 := gm_lt a b ha
  simp only [Nat.pow_zero, Nat.div_one, Nat.mul_one, h1, Nat.mod_eq_of_lt h2] at h
  exact h
end Go.Proofs.Ytojaekhplohbjaa.BMul
/- Rows told by a function of places; the reference's product. -/
namespace Go.Proofs.Ytojaekhplohbjaa.Mat
open Go Go.RowKit Go.Proofs.Ytojaekhplohbjaa.Mem Go.Proofs.Ytojaekhplohbjaa.Bits Go.Proofs.Ytojaekhplohbjaa.Gf Go.Proofs.YtojaekhplohbjaaW.PrintWords Go.Proofs.YtojaekhplohbjaaW.PrintLast
set_option linter.unusedVariables false

theorem rows_ext {r c : Nat} {xs : List Int} {ls : List (List Int)} (hl : xs.length = r * c) (h1 : ls.length = r) (h2 : ∀ i, i < r → (ls.getD i []).length = c) (h : ∀ i k, i < r → k < c → xs.getD (i * c + k) 0 = (ls.getD i []).getD k 0) : rowsTo c xs r = ls := by
  refine List.ext_getElem (by rw [rowsTo_len, h1]) (fun i hi hj => ?_)
  have hir : i < r := by rw [rowsTo_len] at hi; exact hi
  simp only [rowsTo, List.getElem_map, List.getElem_range]
  have e : ls[i] = ls.getD i [] := by rw [List.getD_eq_getElem?_getD, List.getElem?_eq_getElem hj, Option.getD_some]
  rw [e]
  have hlen := rowOf_len hl i hir
  refine List.ext_getElem (by rw [hlen, h2 i hir]) (fun k hk hk' => ?_)
  have hkc : k < c := by rw [hlen] at hk; exact hk
  have := h i k hir hkc
  rw [← rowOf_get i k hkc, List.getD_eq_getElem?_getD, List.getD_eq_getElem?_getD, List.getElem?_eq_getElem hk, List.getElem?_eq_getElem hk'] at this
  exact this
theorem zeros_rows (r c : Nat) : rowsTo c (List.replicate (r * c) 0) r = List.replicate r (List.replicate c 0) := by
  refine rows_ext (by simp) (by simp) (fun i hi => by simp [List.getD_eq_getElem?_getD, hi]) (fun i k hi hk => ?_)
  have := idx_lt hi hk
  simp [List.getD_eq_getElem?_getD, hi, hk, this]
theorem zero_loop (c : Nat) (hc : c ≤ 64) (r : Nat) (hr : r ≤ 64) (d : Nat) : ∀ (k i : Nat) (xs : List (List Int)), i + d = r → d < k → xs.length ≤ 64 → xs.length = i →
    POne.coldframeref03_Zero.l0 k r c xs i = some (xs ++ List.replicate d (List.replicate c 0)) := by
  induction d with
  | zero =>
    intro k i xs hd hk hx hxi
    obtain ⟨k, rfl⟩ : ∃ m, k = m + 1 := ⟨k - 1, by omega⟩
    simp only [POne.coldframeref03_Zero.l0]
    rw [if_neg (by omega)]; simp
  | succ d ih =>
    intro k i xs hd hk hx hxi
    obtain ⟨k, rfl⟩ : ∃ m, k = m + 1 := ⟨k - 1, by omega⟩
    simp only [POne.coldframeref03_Zero.l0]
    rw [if_pos (by omega), if_pos (by omega), if_pos (by omega), if_pos (by omega), show wrap64 ((i : Int) + 1) = ((i + 1 : Nat) : Int) by rw [wrap64_in _ (by omega) (by omega)]; omega,
      ih k (i + 1) _ (by omega) (by omega) (by simp; omega) (by simp; omega)]
    simp [List.replicate_succ]
theorem zero_f (k r c : Nat) (hr : r ≤ 64) (hc : c ≤ 64) (hk : 100 ≤ k) : POne.coldframeref03_Zero.f k r c = some (List.replicate r (List.replicate c 0)) := by
  have := zero_loop c hc r hr r k 0 [] (by omega) (by omega) (by simp) rfl
  simpa [POne.coldframeref03_Zero.f] using this
/-- The rows of noughts with the first ones set. -/
def oneRow (n i j : Nat) : List Int := if i < j then (List.replicate n 0).set i 1 else List.replicate n 0
def oneL (n j : Nat) : List (List Int) := (List.range n).map (fun i => oneRow n i j)
theorem oneL_len (n j : Nat) : (oneL n j).length = n := by simp [oneL]
theorem oneL_get (n j i : Nat) (hi : i < n) : (oneL n j).getD i [] = oneRow n i j := by simp [oneL, List.getD_eq_getElem?_getD, hi]
theorem oneRow_len (n i j : Nat) : (oneRow n i j).length = n := by unfold oneRow; split <;> simp
theorem oneL_step (n j : Nat) (hj : j < n) : (oneL n j).set j ((List.replicate n 0).set j 1) = oneL n (j + 1) := by
  refine List.ext_getElem (by simp [oneL_len]) (fun i h1 h2 => ?_)
  rw [List.getElem_set]
  simp only [oneL, List.getElem_map, List.getElem_range]
  by_cases e : j = i
  · subst e; rw [if_pos rfl]; unfold oneRow; rw [if_pos (by omega)]
  · rw [if_neg e]; unfold oneRow
    by_cases h : i < j
    · rw [if_pos h, if_pos (by omega)]
    · rw [if_neg h, if_neg (by omega)]
theorem one_loop (n : Nat) (hn : n ≤ 64) (d : Nat) : ∀ (k i : Nat), i + d = n → d < k → POne.coldframeref03_One.l0 k n (oneL n i) i = some (oneL n n) := by
  induction d with
  | zero =>
    intro k i hd hk
    obtain ⟨k, rfl⟩ : ∃ m, k = m + 1 := ⟨k - 1, by omega⟩
    simp only [POne.coldframeref03_One.l0]
    obtain rfl : i = n := by omega
    rw [if_neg (by omega)]
  | succ d ih =>
    intro k i hd hk
    obtain ⟨k, rfl⟩ : ∃ m, k = m + 1 := ⟨k - 1, by omega⟩
    have hi : i < n := by omega
    have e1 : POne.rd_L1 (oneL n i) (i : Int) = List.replicate n 0 := by
      show (oneL n i).getD i [] = _
      rw [oneL_get n i i hi]; unfold oneRow; rw [if_neg (by omega)]
    simp only [POne.coldframeref03_One.l0]
    rw [e1, if_pos (by omega), if_pos (by omega), if_pos (by rw [oneL_len]; omega), if_pos (by simp; omega), show wrap64 ((i : Int) + 1) = ((i + 1 : Nat) : Int) by rw [wrap64_in _ (by omega) (by omega)]; omega, Int.toNat_natCast, oneL_step n i hi]
    exact ih k (i + 1) (by omega) (by omega)
theorem one_f (n : Nat) (hn : n ≤ 64) : POne.coldframeref03_One.f 100 n = some (oneL n n) := by
  unfold POne.coldframeref03_One.f
  rw [zero_f 100 n n hn hn (Nat.le_refl _)]
  have h0 : List.replicate n (List.replicate n (0 : Int)) = oneL n 0 := by
    refine List.ext_getElem (by simp [oneL_len]) (fun i h1 h2 => ?_)
    simp [oneL, oneRow]
  show POne.coldframeref03_One.l0 100 n _ ((0 : Nat) : Int) = _
  rw [h0]
  exact one_loop n hn n 100 0 (by omega) (by omega)
theorem ones_rows (n : Nat) : rowsTo n (oneTo n n) n = oneL n n := by
  refine rows_ext (oneTo_len n n) (oneL_len n n) (fun i hi => by rw [oneL_get n n i hi, oneRow_len]) (fun i k hi hk => ?_)
  rw [oneTo_get n n (Nat.le_refl _) i k hi hk, oneL_get n n i hi]
  unfold oneRow
  rw [if_pos hi, List.getD_eq_getElem?_getD, List.getElem?_set]
  by_cases e : i = k
  · subst e; rw [if_pos ⟨rfl, hi⟩, if_pos rfl, if_pos (by simpa using hi)]; rfl
  · rw [if_neg (fun h => e h.1), if_neg e]; simp [hk]

def gline (c : Nat) (f : Nat → Int) : List Int := (List.range c).map f
def grid (r c : Nat) (v : Nat → Nat → Int) : List (List Int) := (List.range r).map (fun i => gline c (v i))
theorem gline_len (c : Nat) (f : Nat → Int) : (gline c f).length = c := by simp [gline]
theorem gline_get (c : Nat) (f : Nat → Int) (k : Nat) (hk : k < c) : (gline c f).getD k 0 = f k := by simp [gline, List.getD_eq_getElem?_getD, hk]
theorem gline_congr (c : Nat) (f g : Nat → Int) (h : ∀ k, k < c → f k = g k) : gline c f = gline c g := List.map_congr_left (fun k hk => h k (by simpa using hk))
theorem grid_len (r c : Nat) (v : Nat → Nat → Int) : (grid r c v).length = r := by simp [grid]
theorem grid_get (r c : Nat) (v : Nat → Nat → Int) (i : Nat) (hi : i < r) : (grid r c v).getD i [] = gline c (v i) := by simp [grid, List.getD_eq_getElem?_getD, hi]
theorem grid_congr (r c : Nat) (v u : Nat → Nat → Int) (h : ∀ i k, i < r → k < c → v i k = u i k) : grid r c v = grid r c u :=
  List.map_congr_left (fun i hi => gline_congr c _ _ (fun k hk => h i k (by simpa using hi) hk))
theorem gline_set (c : Nat) (f : Nat → Int) (k : Nat) (hk : k < c) (y : Int) : (gline c f).set k y = gline c (fun k' => if k' = k then y else f k') := by
  refine List.ext_getElem (by simp [gline]) (fun j h1 h2 => ?_)
  rw [List.getElem_set]
  simp only [gline, List.getElem_map, List.getElem_range]
  by_cases e : k = j
  · subst e; simp
  · rw [if_neg e, if_neg (fun h => e h.symm)]
theorem grid_set (r c : Nat) (v : Nat → Nat → Int) (i k : Nat) (hi : i < r) (hk : k < c) (y : Int) :
    (grid r c v).set i (((grid r c v).getD i []).set k y) = grid r c (fun i' k' => if i' = i ∧ k' = k then y else v i' k') := by
  rw [grid_get r c v i hi, gline_set c _ k hk]
  refine List.ext_getElem (by simp [grid]) (fun j h1 h2 => ?_)
  rw [List.getElem_set]
  simp only [grid, List.getElem_map, List.getElem_range]
  by_cases e : i = j
  · subst e
    rw [if_pos rfl]
    exact gline_congr c _ _ (fun k' _ => by by_cases h : k' = k <;> simp [h])
  · rw [if_neg e]
    exact gline_congr c _ _ (fun k' _ => by rw [if_neg (fun h => e h.1.symm)])
theorem rowsTo_grid (r c : Nat) (xs : List Int) (hl : xs.length = r * c) : rowsTo c xs r = grid r c (fun i k => xs.getD (i * c + k) 0) :=
  rows_ext hl (grid_len _ _ _) (fun i hi => by rw [grid_get r c _ i hi, gline_len]) (fun i k hi hk => by rw [grid_get r c _ i hi, gline_get c _ k hk])
theorem zeros_grid (r c : Nat) : List.replicate r (List.replicate c (0 : Int)) = grid r c (fun _ _ => 0) := by
  refine List.ext_getElem (by simp [grid]) (fun i h1 h2 => ?_)
  simp only [grid, List.getElem_map, List.getElem_replicate]
  refine List.ext_getElem (by simp [gline]) (fun k h3 h4 => ?_)
  simp [gline]

theorem refmul_I (K : Nat) (x y : Int) (hx : 0 ≤ x ∧ x < 256) (hy : 0 ≤ y ∧ y < 256) (hK : 68 ≤ K) : PMul.coldframeref02_Mul.f K x y = some (gmI x y) := by
  obtain ⟨x, rfl⟩ := Int.eq_ofNat_of_zero_le hx.1
  obtain ⟨y, rfl⟩ := Int.eq_ofNat_of_zero_le hy.1
  rw [BMul.ref_mul K x y (by omega) (by omega) hK]
  simp [gmI]
theorem xor_I (x y : Int) (hx : 0 ≤ x ∧ x < 256) (hy : 0 ≤ y ∧ y < 256) : bits .xor .u8 x y = xorI x y := by
  obtain ⟨x, rfl⟩ := Int.eq_ofNat_of_zero_le hx.1
  obtain ⟨y, rfl⟩ := Int.eq_ofNat_of_zero_le hy.1
  rw [xor_u8 x y (by omega) (by omega)]
  simp [xorI]
/-- A column. -/
def colOf (n : Nat) (b : List (List Int)) (k : Nat) : List Int := gline n (fun j => (b.getD j []).getD k 0)
/-- The product so far: all ahead of a place, and of that place the first j terms. -/
def mval (n : Nat) (a b : List (List Int)) (i0 k0 j : Nat) (i k : Nat) : Int :=
  if i < i0 ∨ (i = i0 ∧ k < k0) then dotTo (a.getD i []) (colOf n b k) n else if i = i0 ∧ k = k0 then dotTo (a.getD i []) (colOf n b k) j else 0
section
variable (r n c : Nat) (a b : List (List Int)) (hr : a.length = r) (hn : b.length = n) (hn1 : 1 ≤ n) (ha : ∀ i, i < r → (a.getD i []).length = n) (hb : ∀ j, j < n → (b.getD j []).length = c)
  (ba : AllBytes a) (bb : AllBytes b) (r9 : r ≤ 64) (n9 : n ≤ 64) (c9 : c ≤ 64)
include hr hn hn1 ha hb ba bb r9 n9 c9
theorem mul_l2 (i k : Nat) (hi : i < r) (hk : k < c) (d : Nat) : ∀ (K j : Nat), j + d = n → 100 ≤ K →
    PMul.coldframeref03_Mul.l2 (K + d + 1) a b (grid r c (mval n a b i k j)) i k j = PMul.coldframeref03_Mul.l1 K a b (grid r c (mval n a b i k n)) i ((k + 1 : Nat) : Int) := by
  have := r9
  induction d with
  | zero =>
    intro K j hd hK
    obtain rfl : j = n := by omega
    simp only [PMul.coldframeref03_Mul.l2]
    rw [if_neg (by omega), show wrap64 ((k : Int) + 1) = ((k + 1 : Nat) : Int) by rw [wrap64_in _ (by omega) (by omega)]; omega]
  | succ d ih =>
    intro K j hd hK
    have hj : j < n := by omega
    rw [show K + (d + 1) + 1 = (K + d + 1) + 1 by omega]
    simp only [PMul.coldframeref03_Mul.l2]
    have e5 : PMul.rd_L1 (grid r c (mval n a b i k j)) (i : Int) = gline c (mval n a b i k j i) := grid_get r c _ i hi
    have ea : PMul.rd_L1 a (i : Int) = a.getD i [] := rfl
    have eb : PMul.rd_L1 b (j : Int) = b.getD j [] := rfl
    have la := ha i hi
    have lb := hb j hj
    have hdr := dotTo_range (a.getD i []) (colOf n b k) (bytes_getD ba i) j
    have xa := (bytes_getD ba i).getD j
    have xb := (bytes_getD bb j).getD k
    have r1 : rd (a.getD i []) (j : Int) = (a.getD i []).getD j 0 := by simp [rd]
    have r2 : rd (b.getD j []) (k : Int) = (b.getD j []).getD k 0 := by simp [rd]
    have r3 : rd (gline c (mval n a b i k j i)) (k : Int) = dotTo (a.getD i []) (colOf n b k) j := by
      have : rd (gline c (mval n a b i k j i)) (k : Int) = (gline c (mval n a b i k j i)).getD k 0 := by simp [rd]
      rw [this, gline_get c _ k hk]
      unfold mval
      rw [if_neg (by omega), if_pos ⟨rfl, rfl⟩]
    rw [e5, ea, eb, if_pos (by omega), if_pos (by omega), if_pos (by rw [grid_len]; omega), if_pos (by omega), if_pos (by rw [gline_len]; omega), if_pos (by omega), if_pos (by omega), if_pos (by rw [la]; omega), if_pos (by rw [lb]; omega),
      r1, r2, refmul_I _ _ _ xa xb (by omega), bnd, r3, xor_I _ _ hdr (gmI_range _ _ xa.2)]
    have hset : (grid r c (mval n a b i k j)).set ((i : Int)).toNat ((gline c (mval n a b i k j i)).set ((k : Int)).toNat (xorI (dotTo (a.getD i []) (colOf n b k) j) (gmI ((a.getD i []).getD j 0) ((b.getD j []).getD k 0)))) = grid r c (mval n a b i k (j + 1)) := by
      rw [Int.toNat_natCast, Int.toNat_natCast, ← grid_get r c (mval n a b i k j) i hi, grid_set r c _ i k hi hk]
      refine grid_congr r c _ _ (fun i' k' _ _ => ?_)
      by_cases e : i' = i ∧ k' = k
      · obtain ⟨rfl, rfl⟩ := e
        rw [if_pos ⟨rfl, rfl⟩]
        unfold mval
        rw [if_neg (by omega), if_pos ⟨rfl, rfl⟩, dotTo]
        unfold colOf
        rw [gline_get n _ j hj]
      · rw [if_neg e]
        unfold mval
        by_cases h : i' < i ∨ (i' = i ∧ k' < k)
        · rw [if_pos h, if_pos h]
        · rw [if_neg h, if_neg h, if_neg e, if_neg e]
    rw [hset, show wrap64 ((j : Int) + 1) = ((j + 1 : Nat) : Int) by rw [wrap64_in _ (by omega) (by omega)]; omega]
    exact ih K (j + 1) (by omega) hK
theorem mval_next (i k : Nat) (hk : k < c) : grid r c (mval n a b i k n) = grid r c (mval n a b i (k + 1) 0) := by
  have := hr; have := hn; have := hn1; have := ha; have := hb; have := ba; have := bb; have := r9; have := n9; have := c9
  refine grid_congr r c _ _ (fun i' k' _ _ => ?_)
  unfold mval
  by_cases h : i' < i ∨ (i' = i ∧ k' < k)
  · rw [if_pos h, if_pos (by omega)]
  · rw [if_neg h]
    by_cases e : i' = i ∧ k' = k
    · rw [if_pos e, if_pos (by omega)]
    · rw [if_neg e, if_neg (by omega)]
      split <;> rfl
theorem mval_line (i : Nat) : grid r c (mval n a b i c 0) = grid r c (mval n a b (i + 1) 0 0) := by
  have := hr; have := hn; have := hn1; have := ha; have := hb; have := ba; have := bb; have := r9; have := n9; have := c9
  refine grid_congr r c _ _ (fun i' k' _ hk => ?_)
  unfold mval
  by_cases h : i' < i ∨ (i' = i ∧ k' < c)
  · rw [if_pos h, if_pos (by omega)]
  · rw [if_neg h, if_neg (by omega), if_neg (by omega)]
    split <;> rfl
theorem mul_l1 (i : Nat) (hi : i < r) (d : Nat) : ∀ (K k : Nat), k + d = c → 200 ≤ K →
    PMul.coldframeref03_Mul.l1 (K + d * (n + 2) + 1) a b (grid r c (mval n a b i k 0)) i k = PMul.coldframeref03_Mul.l0 K a b (grid r c (mval n a b (i + 1) 0 0)) ((i + 1 : Nat) : Int) := by
  have e0 : PMul.rd_L1 b 0 = b.getD 0 [] := rfl
  have l0 := hb 0 (by omega)
  induction d with
  | zero =>
    intro K k hd hK
    obtain rfl : k = c := by omega
    rw [Nat.zero_mul, Nat.add_zero]
    simp only [PMul.coldframeref03_Mul.l1]
    rw [if_pos (by omega), e0, l0, if_neg (by omega), show wrap64 ((i : Int) + 1) = ((i + 1 : Nat) : Int) by rw [wrap64_in _ (by omega) (by omega)]; omega, mval_line r n k a b hr hn hn1 ha hb ba bb r9 n9 c9]
  | succ d ih =>
    intro K k hd hK
    have hk : k < c := by omega
    rw [show K + (d + 1) * (n + 2) + 1 = (((K + d * (n + 2) + 1) + n + 1)) + 1 by rw [Nat.add_mul]; omega]
    simp only [PMul.coldframeref03_Mul.l1]
    rw [if_pos (by omega), e0, l0, if_pos (by omega)]
    have := mul_l2 r n c a b hr hn hn1 ha hb ba bb r9 n9 c9 i k hi hk n (K + d * (n + 2) + 1) 0 (by omega) (by omega)
    rw [show ((0 : Nat) : Int) = 0 from rfl] at this
    rw [this, mval_next r n c a b hr hn hn1 ha hb ba bb r9 n9 c9 i k hk]
    exact ih K (k + 1) (by omega) hK
theorem mul_l0 (d : Nat) : ∀ (K i : Nat), i + d = r → 300 ≤ K →
    PMul.coldframeref03_Mul.l0 (K + d * (c * (n + 2) + 2)) a b (grid r c (mval n a b i 0 0)) i = some (grid r c (mval n a b r 0 0)) := by
  induction d with
  | zero =>
    intro K i hd hK
    obtain rfl : i = r := by omega
    rw [Nat.zero_mul, Nat.add_zero]
    obtain ⟨K, rfl⟩ : ∃ m, K = m + 1 := ⟨K - 1, by omega⟩
    simp only [PMul.coldframeref03_Mul.l0]
    rw [if_neg (by omega)]
  | succ d ih =>
    intro K i hd hK
    have hi : i < r := by omega
    rw [show K + (d + 1) * (c * (n + 2) + 2) = ((K + d * (c * (n + 2) + 2)) + c * (n + 2) + 1) + 1 by rw [Nat.add_mul]; omega]
    simp only [PMul.coldframeref03_Mul.l0]
    rw [if_pos (by omega)]
    have := mul_l1 r n c a b hr hn hn1 ha hb ba bb r9 n9 c9 i hi c (K + d * (c * (n + 2) + 2)) 0 (by omega) (by omega)
    rw [show ((0 : Nat) : Int) = 0 from rfl] at this
    rw [this]
    exact ih K (i + 1) (by omega) hK
theorem mul_f : PMul.coldframeref03_Mul.f (300 + r * (c * (n + 2) + 2)) a b = some (grid r c (fun i k => dotTo (a.getD i []) (colOf n b k) n)) := by
  have e0 : PMul.rd_L1 b 0 = b.getD 0 [] := rfl
  have l0 := hb 0 (by omega)
  have hz : PMul.coldframeref03_Zero.f (300 + r * (c * (n + 2) + 2)) (r : Int) (c : Int) = some (grid r c (mval n a b 0 0 0)) := by
    have h := zero_mul_f (300 + r * (c * (n + 2) + 2)) r c r9 c9 (by omega)
    rw [h, zeros_grid]
    congr 1
    refine grid_congr r c _ _ (fun i k _ _ => ?_)
    unfold mval
    rw [if_neg (by omega)]
    split <;> rfl
  unfold PMul.coldframeref03_Mul.f
  rw [if_pos (by omega), e0, l0, hr, hz, bnd]
  have := mul_l0 r n c a b hr hn hn1 ha hb ba bb r9 n9 c9 r 300 0 (by omega) (by omega)
  rw [show ((0 : Nat) : Int) = 0 from rfl] at this
  rw [this]
  congr 1
  refine grid_congr r c _ _ (fun i k hi _ => ?_)
  unfold mval
  rw [if_pos (.inl hi)]
where
  zero_mul_loop (c : Nat) (hc : c ≤ 64) (r : Nat) (hr : r ≤ 64) (d : Nat) : ∀ (k i : Nat) (xs : List (List Int)), i + d = r → d < k → xs.length = i →
      PMul.coldframeref03_Zero.l0 k r c xs i = some (xs ++ List.replicate d (List.replicate c 0)) := by
    induction d with
    | zero =>
      intro k i xs hd hk hxi
      obtain ⟨k, rfl⟩ : ∃ m, k = m + 1 := ⟨k - 1, by omega⟩
      simp only [PMul.coldframeref03_Zero.l0]
      rw [if_neg (by omega)]; simp
    | succ d ih =>
      intro k i xs hd hk hxi
      obtain ⟨k, rfl⟩ : ∃ m, k = m + 1 := ⟨k - 1, by omega⟩
      simp only [PMul.coldframeref03_Zero.l0]
      rw [if_pos (by omega), if_pos (by omega), if_pos (by omega), if_pos (by omega), show wrap64 ((i : Int) + 1) = ((i + 1 : Nat) : Int) by rw [wrap64_in _ (by omega) (by omega)]; omega,
        ih k (i + 1) _ (by omega) (by omega) (by simp; omega)]
      simp [List.replicate_succ]
  zero_mul_f (k r c : Nat) (hr : r ≤ 64) (hc : c ≤ 64) (hk : 100 ≤ k) : PMul.coldframeref03_Zero.f k r c = some (List.replicate r (List.replicate c 0)) := by
    have := zero_mul_loop c hc r hr r k 0 [] (by omega) (by omega) rfl
    simpa [PMul.coldframeref03_Zero.f] using this
end
theorem grid_bytes (r c : Nat) (v : Nat → Nat → Int) (h : ∀ i k, 0 ≤ v i k ∧ v i k < 256) : AllBytes (grid r c v) := by
  intro l hl
  obtain ⟨i, _, rfl⟩ := List.mem_map.1 hl
  intro x hx
  obtain ⟨k, _, rfl⟩ := List.mem_map.1 hx
  exact h i k
theorem ref_mul (A0 A1 : Option Addr) (c0 c1 : Nat) (a b : List (List Int)) (r n c : Nat) (w W : World) (hR : RowsC w A0 a) (hR' : RowsC w A1 b) (hB : Below w.heap.size w W) (l0 : a.length ≤ c0) (l1 : b.length ≤ c1)
    (hr : a.length = r) (hn : b.length = n) (hn1 : 1 ≤ n) (ha : ∀ l ∈ a, l.length = n) (hb : ∀ l ∈ b, l.length = c) (ba : AllBytes a) (bb : AllBytes b) (r9 : r ≤ 64) (n9 : n ≤ 64) (c9 : c ≤ 64) :
    Calls Try.prog 17 #[.slice A0 a.length c0, .slice A1 b.length c1] W fun e w' => ∃ A c7, e = .returned (.slice A (grid r c (fun i k => dotTo (a.getD i []) (colOf n b k) n)).length c7) ∧ RowsC w' A (grid r c (fun i k => dotTo (a.getD i []) (colOf n b k) n)) ∧ Below W.heap.size W w' := by
  have hf := mul_f r n c a b hr hn hn1 (fun i hi => ha _ (getD_mem (by omega))) (fun j hj => hb _ (getD_mem (by omega))) ba bb r9 n9 c9
  refine (PMul.coldframeref03_Mul.calls _ A0 c0 a A1 c1 b _ W (Kd.C_below hR hB) l0 (Kd.C_below hR' hB) l1 hf).mono ?_
  rintro e w' ⟨v, rfl, hs, hB⟩
  obtain ⟨A, c7, rfl, _, hC⟩ := Kd.R_reads (Kd.S_R hs)
  exact ⟨A, c7, rfl, hC, hB⟩
theorem one_calls (n : Nat) (hn : n ≤ 64) (W : World) :
    Calls Try.prog 18 #[.int .i64 n] W fun e w' => ∃ A c7, e = .returned (.slice A n c7) ∧ Kd.C (Kd.slice 5 (Kd.int .u8)) w' A n (oneL n n) ∧ Below W.heap.size W w' := by
  refine (POne.coldframeref03_One.calls 100 n _ W (one_f n hn)).mono ?_
  rintro e w' ⟨v, rfl, hs, hB⟩
  obtain ⟨A, c7, rfl, _, hC⟩ := Kd.R_reads (by first | exact hs | exact Kd.S_R hs)
  rw [oneL_len] at hC
  rw [oneL_len]
  exact ⟨A, c7, rfl, hC, hB⟩
end Go.Proofs.Ytojaekhplohbjaa.Mat
/- Equations: the document's product. -/
namespace Go.Proofs.Ytojaekhplohbjaa.Sol
open Go Go.RowKit Go.Proofs.Ytojaekhplohbjaa.Gf Go.Proofs.Ytojaekhplohbjaa.Gi Go.Proofs.Ytojaekhplohbjaa.Alg Go.Proofs.Ytojaekhplohbjaa.Mem Go.Proofs.Ytojaekhplohbjaa.Rws Go.Proofs.YtojaekhplohbjaaW.PrintWords
set_option linter.unusedVariables false

/-- The document's product. -/
def prd (n q : Nat) (A Z : Mtx) : Mtx := fun i k => Mat.dotTo ((mat n n A).getD i []) (Mat.colOf n (mat n q Z) k) n
theorem prd_byt {n q : Nat} {A Z : Mtx} (hA : BytM A) : BytM (prd n q A Z) := fun i k => Mat.dotTo_range _ _ (mat_getD_bytes hA i) n
theorem of_prd {n q : Nat} {A Z : Mtx} (hA : BytM A) (hZ : BytM Z) (i : Nat) (hi : i < n) (l : Nat) (hl : l < q) : G.of (prd n q A Z i l) = dotF n (el A i) (fun j => G.of (Z j l)) := by
  have hcol : Mat.Bytes (Mat.colOf n (mat n q Z) l) := by
    intro x hx
    obtain ⟨j, _, rfl⟩ := List.mem_map.1 hx
    exact (mat_getD_bytes (n := n) (m := q) (A := Z) hZ j).getD l
  unfold prd dotF
  rw [of_dotTo (mat_getD_bytes hA i) hcol]
  refine sum_congr (fun j hj => ?_)
  have e1 : ((mat n n A).getD i []).getD j 0 = A i j := by rw [mat_get n n A i hi, line_get n _ j hj]
  have e2 : (Mat.colOf n (mat n q Z) l).getD j 0 = Z j l := by
    unfold Mat.colOf
    rw [Mat.gline_get n _ j hj, mat_get n q _ j hj, line_get q _ l hl]
  rw [e1, e2]
  rfl
theorem prd_of {n q : Nat} {A B Z : Mtx} (hA : BytM A) (hB : BytM B) (h : Solved n q A B Z) (i : Nat) (hi : i < n) (l : Nat) (hl : l < q) : prd n q A Z i l = B i l :=
  G.of_inj (prd_byt hA i l) (hB i l) ((of_prd hA h.1 i hi l hl).trans (h.2 i hi l hl))
/-- The document's product, called. -/
theorem rmul_calls (n q c0 c1 : Nat) (A0 A1 : Option Addr) (A Z : Mtx) (W : World) (hA : Kd.C kRow W A0 n (mat n n A)) (hZ : Kd.C kRow W A1 n (mat n q Z)) (bA : BytM A) (bZ : BytM Z) (h0 : n ≤ c0) (h1 : n ≤ c1) (n1 : 1 ≤ n) (n2 : n ≤ 64) (q2 : q ≤ 64) :
    Calls Try.prog 17 #[.slice A0 n c0, .slice A1 n c1] W fun e w' => ∃ A7 c7, e = .returned (.slice A7 n c7) ∧ Kd.C kRow w' A7 n (mat n q (prd n q A Z)) ∧ Below W.heap.size W w' := by
  have h := Mat.ref_mul A0 A1 c0 c1 (mat n n A) (mat n q Z) n n q W W (by rw [Mat.RowsC, mat_len]; exact hA) (by rw [Mat.RowsC, mat_len]; exact hZ) (Below.refl _ _) (by rw [mat_len]; exact h0) (by rw [mat_len]; exact h1)
    (mat_len _ _ _) (mat_len _ _ _) n1 (fun l hl => by obtain ⟨i, _, rfl⟩ := List.mem_map.1 hl; exact line_len _ _) (fun l hl => by obtain ⟨i, _, rfl⟩ := List.mem_map.1 hl; exact line_len _ _) (mat_bytes n n bA) (mat_bytes n q bZ) n2 n2 q2
  rw [mat_len, mat_len, Mat.grid_len] at h
  refine h.mono ?_
  rintro e w' ⟨A7, c7, rfl, hC, hb⟩
  rw [Mat.RowsC, Mat.grid_len] at hC
  exact ⟨A7, c7, rfl, hC, hb⟩
theorem oneL_mat (n : Nat) : Mat.oneL n n = mat n n idM := by
  refine List.map_congr_left (fun i hi => ?_)
  have hi' : i < n := by simpa using hi
  unfold Mat.oneRow
  rw [if_pos hi']
  refine List.ext_getElem (by rw [line_len]; simp) (fun j h1 h2 => ?_)
  rw [List.getElem_set]
  simp only [line, List.getElem_map, List.getElem_range, List.getElem_replicate, idM]
theorem rone_calls (n : Nat) (hn : n ≤ 64) (W : World) :
    Calls Try.prog 18 #[.int .i64 n] W fun e w' => ∃ A c7, e = .returned (.slice A n c7) ∧ Kd.C kRow w' A n (mat n n idM) ∧ Below W.heap.size W w' := by
  have h := Mat.one_calls n hn W
  rw [oneL_mat] at h
  exact h
end Go.Proofs.Ytojaekhplohbjaa.Sol
/- Equations: Solve and Invert, by the document's product. -/
namespace Go.Proofs.Ytojaekhplohbjaa.Sol
open Go Go.RowKit Go.Proofs.Ytojaekhplohbjaa.Gf Go.Proofs.Ytojaekhplohbjaa.Gi Go.Proofs.Ytojaekhplohbjaa.Alg Go.Proofs.Ytojaekhplohbjaa.Mem Go.Proofs.Ytojaekhplohbjaa.Rws Go.Proofs.YtojaekhplohbjaaW.PrintWords
set_option linter.unusedVariables false

/-- A pointer to a matrix that solves. -/
def Solves (n q : Nat) (A B : Mtx) (w : World) (e : Ending) (w' : World) : Prop :=
  ∃ b s cap Z, e = .returned (.tuple #[.pointer (some ⟨b, 0, none⟩), .int .i64 0]) ∧ Mat.MatIn w' b s n q cap (Mat.flat (mat n q Z)) ∧ BytM Z ∧ (∀ i, i < n → ∀ l, l < q → prd n q A Z i l = B i l) ∧ Below w.heap.size w w'
theorem SolvesE.prd {n q : Nat} {A B : Mtx} {w w' : World} {e : Ending} (hA : BytM A) (hB : BytM B) (h : SolvesE n q A B w e w') : Solves n q A B w e w' := by
  obtain ⟨b, s, cap, Z, rfl, hm, hs, hb⟩ := h
  exact ⟨b, s, cap, Z, rfl, hm, hs.1, prd_of hA hB hs, hb⟩
section
variable (b s cap b1 s1 cap1 n q t0 : Nat) (A B C0 : Mtx) (w : World)
theorem solve_whole (h : Mat.MatIn w b s n n cap (Mat.flat (mat n n A))) (h' : Mat.MatIn w b1 s1 n q cap1 (Mat.flat (mat n q B))) (hA : BytM A) (hB : BytM B) (hst : StepsTo n A n t0 C0) (ht : t0 = n) :
    Calls Try.prog 15 #[.pointer (some ⟨b, 0, none⟩), .pointer (some ⟨b1, 0, none⟩)] w (Solves n q A B w) :=
  (solve_wholeE b s cap b1 s1 cap1 n q t0 A B C0 w h h' hA hst ht).mono fun e w' hp => hp.prd hA hB
theorem invert_whole (h : Mat.MatIn w b s n n cap (Mat.flat (mat n n A))) (hA : BytM A) (hst : StepsTo n A n t0 C0) (ht : t0 = n) :
    Calls Try.prog 16 #[.pointer (some ⟨b, 0, none⟩)] w (Solves n n A idM w) :=
  (invert_wholeE b s cap n t0 A C0 w h hA hst ht).mono fun e w' hp => hp.prd hA idM_byt
end
theorem rrank_is (n m c0 t0 : Nat) (A : Option Addr) (M0 C0 : Mtx) (w : World) (hC : Kd.C kRow w A n (mat n m M0)) (h0 : BytM M0) (hn1 : 1 ≤ n) (hn : n ≤ 1000) (hm1 : 1 ≤ m) (hm : m ≤ 1000) (hst : StepsTo n M0 m t0 C0) :
    Calls Try.prog 14 #[.slice A n c0] w fun e w' => e = .returned (.int .i64 (t0 : Nat)) ∧ Below w.heap.size w w' := by
  refine (rrank_any n m c0 A M0 w hC h0 hn1 hn hm1 hm).mono ?_
  rintro e w' ⟨t, M, rfl, h, hb⟩
  rw [(StepsTo.same (m := m) h0 h0 (fun _ _ _ _ => rfl) h hst (Nat.le_refl m)).1]
  exact ⟨rfl, hb⟩
end Go.Proofs.Ytojaekhplohbjaa.Sol
/- What an argument of rows may hold, and a matrix behind it. -/
namespace Go.Proofs.Ytojaekhplohbjaa.Sol
open Go Go.RowKit Go.Proofs.Ytojaekhplohbjaa.Gi Go.Proofs.Ytojaekhplohbjaa.Gf Go.Proofs.Ytojaekhplohbjaa.Mem Go.Proofs.Ytojaekhplohbjaa.Bits Go.Proofs.Ytojaekhplohbjaa.Rws Go.Proofs.Ytojaekhplohbjaa.Opn Go.Proofs.YtojaekhplohbjaaW.PrintWords
set_option linter.unusedVariables false
theorem r_u8 {a : Int} (h : (Lit.int .u8 a).wf = true) : 0 ≤ a ∧ a < 256 := by
  simp [Lit.wf, IntKind.min, IntKind.max, IntKind.signed, IntKind.bits] at h; omega
/-- A matrix behind rows that may be one. -/
theorem as_mat {ls : List (List Int)} (h : Small4 ls) (hb : ∀ l ∈ ls, ∀ x ∈ l, Byt x) : ∃ n m M0, ls.length = n ∧ ls = mat n m M0 ∧ BytM M0 ∧ 1 ≤ n ∧ n ≤ 9 ∧ 1 ≤ m ∧ m ≤ 9 := by
  have hr := h.1.r0
  have hc0 := h.1.c0
  exact ⟨ls.length, (ls.getD 0 []).length, _, rfl, (rows_mat ls (ls.getD 0 []).length h.1.even).symm, rows_byt hb, by omega, h.2.1, by omega, h.2.2⟩
def RowsOk (l : List (List Int)) : Prop := l.length ≤ 9223372036854775807 ∧ ∀ a ∈ l, a.length ≤ 9223372036854775807 ∧ ∀ x ∈ a, (Lit.int .u8 x).wf = true
theorem RowsOk.byt {l : List (List Int)} (h : RowsOk l) : ∀ a ∈ l, ∀ x ∈ a, Byt x := fun a ha x hx => r_u8 ((h.2 a ha).2 x hx)
theorem opens_bytes : Opens (Kd.slice 5 (Kd.int .u8)) (fun l => l.length ≤ 9223372036854775807 ∧ ∀ a ∈ l, (Lit.int .u8 a).wf = true) 36 := opens_slice Try.underlying36 (by kernel_rfl) (opens_int Try.underlying5)
theorem opens_rows : Opens (Kd.slice 36 (Kd.slice 5 (Kd.int .u8))) RowsOk 22 := opens_slice Try.underlying22 (by kernel_rfl) opens_bytes
end Go.Proofs.Ytojaekhplohbjaa.Sol
/- Determinants over a field in which twice a thing is nought. -/
namespace Go.Proofs.Ytojaekhplohbjaa.Alg
set_option linter.unusedVariables false
set_option linter.unusedSectionVars false
section
variable {F : Type} [Fd F]
open _root_.Go.Proofs.Ytojaekhplohbjaa.Alg.Fd
def skip (k j : Nat) : Nat := if j < k then j else j + 1
theorem skip_lt {k j n : Nat} (hj : j < n) : skip k j < n + 1 := by unfold skip; split <;> omega
theorem skip_skip {k l : Nat} (h : k ≤ l) (j : Nat) : skip k (skip l j) = skip (l + 1) (skip k j) := by
  unfold skip
  split <;> split <;> split <;> (try split) <;> omega
/-- A matrix without its first row and a column. -/
def minorF (k : Nat) (M : Nat → Nat → F) : Nat → Nat → F := fun i j => M (i + 1) (skip k j)
def detF : Nat → (Nat → Nat → F) → F
  | 0, _ => 1
  | n + 1, M => sum (n + 1) (fun k => M 0 k * detF n (minorF k M))
theorem detF_congr : ∀ (n : Nat) {M N : Nat → Nat → F}, (∀ i j, i < n → j < n → M i j = N i j) → detF n M = detF n N
  | 0, _, _, _ => rfl
  | n + 1, M, N, h => by
    refine sum_congr (fun k hk => ?_)
    rw [h 0 k (by omega) hk, detF_congr n (M := minorF k M) (N := minorF k N) (fun i j hi hj => h (i + 1) _ (by omega) (skip_lt hj))]
/-- A matrix with another row. -/
def rowR (M : Nat → Nat → F) (p : Nat) (r : Nat → F) : Nat → Nat → F := fun i j => if i = p then r j else M i j
theorem minor_row0 (k : Nat) (M : Nat → Nat → F) (r : Nat → F) : minorF k (rowR M 0 r) = minorF k M := by
  funext i j; unfold minorF rowR; rw [if_neg (by omega)]
theorem minor_rowS (k p : Nat) (M : Nat → Nat → F) (r : Nat → F) : minorF k (rowR M (p + 1) r) = rowR (minorF k M) p (fun j => r (skip k j)) := by
  funext i j; unfold minorF rowR
  by_cases e : i = p
  · rw [if_pos e, if_pos (by omega)]
  · rw [if_neg e, if_neg (by omega)]
theorem sum_left' (n : Nat) (a : F) (f : Nat → F) : sum n (fun i => a * f i) = a * sum n f := by
  rw [mul_comm a, ← sum_scale]; exact sum_congr (fun i _ => mul_comm _ _)
theorem detF_lin : ∀ (n p : Nat) (M : Nat → Nat → F) (c d : F) (a b : Nat → F), p < n →
    detF n (rowR M p (fun j => c * a j + d * b j)) = c * detF n (rowR M p a) + d * detF n (rowR M p b)
  | 0, p, M, c, d, a, b, h => absurd h (Nat.not_lt_zero p)
  | n + 1, 0, M, c, d, a, b, _ => by
    unfold detF
    rw [← sum_left', ← sum_left', ← sum_add]
    refine sum_congr (fun k hk => ?_)
    rw [minor_row0, minor_row0, minor_row0]
    show (c * a k + d * b k) * _ = c * (a k * _) + d * (b k * _)
    rw [add_mul, mul_assoc, mul_assoc]
  | n + 1, p + 1, M, c, d, a, b, h => by
    unfold detF
    rw [← sum_left', ← sum_left', ← sum_add]
    refine sum_congr (fun k hk => ?_)
    rw [minor_rowS, minor_rowS, minor_rowS, detF_lin n p _ c d (fun j => a (skip k j)) (fun j => b (skip k j)) (by omega)]
    have e : ∀ r : Nat → F, rowR M (p + 1) r 0 k = M 0 k := fun r => by unfold rowR; rw [if_neg (by omega)]
    rw [e, e, e, mul_add, mul_left_comm, mul_left_comm (M 0 k) d]
theorem rowR_same (M : Nat → Nat → F) (p : Nat) : rowR M p (M p) = M := by
  funext i j; unfold rowR; split
  · rename_i e; rw [e]
  · rfl
theorem rowR_comm (M : Nat → Nat → F) {p q : Nat} (h : p ≠ q) (a b : Nat → F) : rowR (rowR M p a) q b = rowR (rowR M q b) p a := by
  funext i j; unfold rowR
  by_cases e : i = p
  · rw [if_pos e, if_neg (fun e' => h (e.symm.trans e')), if_pos e]
  · rw [if_neg e, if_neg e]
theorem detF_zero {n p : Nat} {M : Nat → Nat → F} (hp : p < n) (h : ∀ j, j < n → M p j = 0) : detF n M = 0 := by
  have e : detF n M = detF n (rowR M p (fun j => 0 * M p j + 0 * M p j)) := detF_congr n (fun i j hi hj => by
    unfold rowR
    by_cases e : i = p
    · rw [if_pos e, e]
      show M p j = 0 * M p j + 0 * M p j
      rw [h j hj, mul_zero, add_zero]
    · rw [if_neg e])
  rw [e, detF_lin n p M 0 0 (M p) (M p) hp, zero_mul, add_zero]
/-- Pairs that are alike come to nought. -/
theorem pair_zero (N : Nat) (f : Nat → Nat → F) (h : ∀ k l, k ≤ l → l < N → f k l = f (l + 1) k) : sum (N + 1) (fun k => sum N (fun l => f k l)) = 0 := by
  have e0 : sum (N + 1) (fun k => sum N (fun l => f k l)) = sum (N + 1) (fun k => sum N (fun l => if k ≤ l then f k l else 0)) + sum (N + 1) (fun k => sum N (fun l => if k ≤ l then 0 else f k l)) := by
    rw [← sum_add]
    refine sum_congr (fun k _ => ?_)
    rw [← sum_add]
    refine sum_congr (fun l _ => ?_)
    by_cases e : k ≤ l
    · rw [if_pos e, if_pos e, add_zero]
    · rw [if_neg e, if_neg e, zero_add]
  have e1 : sum (N + 1) (fun k => sum N (fun l => if k ≤ l then f k l else 0)) = sum N (fun k => sum N (fun l => if k ≤ l then f k l else 0)) := by
    show sum N _ + sum N (fun l => if N ≤ l then f N l else 0) = _
    rw [sum_zero' (n := N) (f := fun l => if N ≤ l then f N l else 0) (fun l hl => if_neg (by omega)), add_zero]
  have e2 : sum (N + 1) (fun k => sum N (fun l => if k ≤ l then 0 else f k l)) = sum N (fun k => sum N (fun l => if k ≤ l then f k l else 0)) := by
    rw [sum_comm]
    refine sum_congr (fun k hk => ?_)
    rw [sum_front, if_pos (Nat.zero_le k), zero_add]
    refine sum_congr (fun l hl => ?_)
    by_cases e : k ≤ l
    · rw [if_neg (by omega), if_pos e, h k l e hl]
    · rw [if_pos (by omega), if_neg e]
  rw [e0, e1, e2, add_self]
theorem detF_two (m : Nat) (M : Nat → Nat → F) (h : ∀ c, M 0 c = M 1 c) : detF (m + 2) M = 0 := by
  have e : detF (m + 2) M = sum (m + 2) (fun k => sum (m + 1) (fun l => M 0 k * (M 1 (skip k l) * detF m (minorF l (minorF k M))))) := by
    show sum (m + 2) (fun k => M 0 k * sum (m + 1) (fun l => M 1 (skip k l) * detF m (minorF l (minorF k M)))) = _
    exact sum_congr (fun k _ => (sum_left' _ _ _).symm)
  rw [e]
  refine pair_zero (m + 1) _ (fun k l hkl hl => ?_)
  have s1 : skip k l = l + 1 := by unfold skip; rw [if_neg (by omega)]
  have s2 : skip (l + 1) k = k := by unfold skip; rw [if_pos (by omega)]
  have d1 : minorF l (minorF k M) = minorF k (minorF (l + 1) M) := by
    funext i j
    show M (i + 1 + 1) (skip k (skip l j)) = M (i + 1 + 1) (skip (l + 1) (skip k j))
    rw [skip_skip hkl]
  rw [s1, s2, d1, ← h, ← h, mul_left_comm]
theorem add4 (a b c d : F) : (a + b) + (c + d) = (a + c) + (b + d) := by rw [add_assoc, add_assoc, add_left_comm b c d]
def swapF (M : Nat → Nat → F) (p q : Nat) : Nat → Nat → F := rowR (rowR M p (M q)) q (M p)
/-- What two rows exchanged come to, if two alike come to nought. -/
theorem swap_of (n : Nat) (alt : ∀ (M : Nat → Nat → F) i j, i < j → j < n → (∀ c, M i c = M j c) → detF n M = 0) (M : Nat → Nat → F) (p q : Nat) (hpq : p < q) (hq : q < n) : detF n (swapF M p q) = detF n M := by
  have key : ∀ a b : Nat → F, detF n (rowR (rowR M p (fun j => 1 * a j + 1 * b j)) q (fun j => 1 * a j + 1 * b j)) =
      (detF n (rowR (rowR M p a) q a) + detF n (rowR (rowR M p a) q b)) + (detF n (rowR (rowR M p b) q a) + detF n (rowR (rowR M p b) q b)) := by
    intro a b
    have r : ∀ x y : Nat → F, rowR (rowR M p x) q y = rowR (rowR M q y) p x := fun x y => rowR_comm M (by omega) x y
    rw [detF_lin n q _ 1 1 a b hq, one_mul, one_mul, r _ a, r _ b, detF_lin n p _ 1 1 a b (by omega), detF_lin n p _ 1 1 a b (by omega), one_mul, one_mul, one_mul, one_mul, r a a, r a b, r b a, r b b]
    exact add4 _ _ _ _
  have al : ∀ a : Nat → F, detF n (rowR (rowR M p a) q a) = 0 := fun a => alt _ p q hpq hq (fun c => by
    unfold rowR
    rw [if_neg (by omega), if_pos rfl, if_pos rfl])
  have k := key (M p) (M q)
  rw [al, al, al, zero_add, add_zero] at k
  have e : rowR (rowR M p (M p)) q (M q) = M := by rw [rowR_same, rowR_same]
  rw [e] at k
  exact (eq_of_add_zero k.symm).symm
theorem detF_alt : ∀ (n : Nat) (M : Nat → Nat → F) (i j : Nat), i < j → j < n → (∀ c, M i c = M j c) → detF n M = 0
  | 0, _, _, j, _, h, _ => absurd h (Nat.not_lt_zero j)
  | n + 1, M, i + 1, 0, h, _, _ => absurd h (Nat.not_lt_zero _)
  | n + 1, M, i + 1, j + 1, h, hj, he => by
    unfold detF
    exact sum_zero' (fun k _ => by rw [detF_alt n (minorF k M) i j (by omega) (by omega) (fun c => he _), mul_zero])
  | n + 1, M, 0, 0, h, _, _ => absurd h (Nat.lt_irrefl 0)
  | 1, M, 0, j + 1, _, h, _ => absurd h (by omega)
  | m + 2, M, 0, 1, _, _, he => detF_two m M he
  | m + 2, M, 0, j + 2, _, hj, he => by
    have hs : detF (m + 2) (swapF M 1 (j + 2)) = detF (m + 2) M := by
      unfold detF
      refine sum_congr (fun k _ => ?_)
      have e1 : minorF k (swapF M 1 (j + 2)) = swapF (minorF k M) 0 (j + 1) := by
        unfold swapF
        rw [minor_rowS, minor_rowS]
        rfl
      have e2 : swapF M 1 (j + 2) 0 k = M 0 k := by unfold swapF rowR; rw [if_neg (by omega), if_neg (by omega)]
      rw [e1, e2, swap_of (m + 1) (fun N a b => detF_alt (m + 1) N a b) _ 0 (j + 1) (by omega) (by omega)]
    rw [← hs]
    refine detF_two m _ (fun c => ?_)
    unfold swapF rowR
    rw [if_neg (by omega), if_neg (by omega), if_neg (by omega), if_pos rfl, he c]
theorem detF_swap (n : Nat) (M : Nat → Nat → F) (p q : Nat) (hpq : p ≤ q) (hq : q < n) : detF n (swapF M p q) = detF n M := by
  rcases Nat.lt_or_ge p q with h | h
  · exact swap_of n (detF_alt n) M p q h hq
  · obtain rfl : p = q := by omega
    unfold swapF
    rw [rowR_same, rowR_same]
theorem detF_alt' (n : Nat) (M : Nat → Nat → F) (i j : Nat) (h : i ≠ j) (hi : i < n) (hj : j < n) (he : ∀ c, M i c = M j c) : detF n M = 0 := by
  rcases Nat.lt_or_ge i j with h' | h'
  · exact detF_alt n M i j h' hj he
  · exact detF_alt n M j i (by omega) hi (fun c => (he c).symm)
theorem detF_one : ∀ (n : Nat) (M : Nat → Nat → F), (∀ i j, i < n → j < n → M i j = if i = j then 1 else 0) → detF n M = 1
  | 0, _, _ => rfl
  | n + 1, M, h => by
    unfold detF
    rw [sum_at (a := 0) (by omega) (fun k hk hne => by rw [h 0 k (by omega) hk, if_neg (fun e => hne e.symm), zero_mul]), h 0 0 (by omega) (by omega), if_pos rfl, one_mul]
    refine detF_one n _ (fun i j hi hj => ?_)
    show M (i + 1) (skip 0 j) = _
    rw [show skip 0 j = j + 1 from by unfold skip; rw [if_neg (by omega)], h (i + 1) (j + 1) (by omega) (by omega)]
    by_cases e : i = j
    · rw [if_pos e, if_pos (by omega)]
    · rw [if_neg e, if_neg (by omega)]
/-- Rows' operations: row k, times c, goes to row t; row t to row k; multiples of the one are added to the others. -/
def opF (M : Nat → Nat → F) (t k : Nat) (c : F) (g : Nat → F) : Nat → Nat → F := fun i j =>
  if i = t then c * M k j else (if i = k then M t j else M i j) + g i * M k j
theorem stepF_op (M : Nat → Nat → F) (t k col : Nat) : stepF M t k col = opF M t k (inv (M k col)) (fun i => inv (M k col) * (if i = k then M t col else M i col)) := by
  funext i j
  unfold stepF opF
  by_cases e : i = t
  · rw [if_pos e, if_pos e, mul_comm]
  · rw [if_neg e, if_neg e, mul_assoc, mul_comm (M k j)]
theorem detF_op (n : Nat) (M : Nat → Nat → F) (t k : Nat) (c : F) (g : Nat → F) (htk : t ≤ k) (hk : k < n) : detF n (opF M t k c g) = c * detF n M := by
  obtain ⟨S, hS⟩ : ∃ S : Nat → Nat → F, S = swapF M t k := ⟨_, rfl⟩
  have dS : detF n S = detF n M := by rw [hS]; exact detF_swap n M t k htk hk
  have S0 : ∀ j, S t j = M k j := fun j => by
    rw [hS]; unfold swapF rowR
    by_cases e : t = k
    · rw [if_pos e, e]
    · rw [if_neg e, if_pos rfl]
  have S1 : ∀ i j, i ≠ t → S i j = if i = k then M t j else M i j := fun i j hi => by
    rw [hS]; unfold swapF rowR
    by_cases e : i = k
    · rw [if_pos e, if_pos e]
    · rw [if_neg e, if_neg hi, if_neg e]
  have hN : ∀ m, m ≤ n → detF n (fun i j => if i < m ∧ i ≠ t then S i j + g i * S t j else S i j) = detF n S := by
    intro m
    induction m with
    | zero => exact fun _ => detF_congr n (fun i j _ _ => if_neg (by omega))
    | succ m ih =>
      intro hm
      by_cases e : m = t
      · rw [← ih (by omega)]
        exact detF_congr n (fun i j _ _ => by
          by_cases h : i < m ∧ i ≠ t
          · rw [if_pos h, if_pos ⟨by omega, h.2⟩]
          · rw [if_neg h, if_neg (by omega)])
      · obtain ⟨N, hN⟩ : ∃ N : Nat → Nat → F, N = fun i j => if i < m ∧ i ≠ t then S i j + g i * S t j else S i j := ⟨_, rfl⟩
        have e1 : (fun i j => if i < m + 1 ∧ i ≠ t then S i j + g i * S t j else S i j) = rowR N m (fun j => 1 * N m j + g m * S t j) := by
          funext i j
          unfold rowR
          by_cases h : i = m
          · subst h
            rw [if_pos ⟨by omega, e⟩, if_pos rfl, hN]
            show _ = 1 * (if i < i ∧ i ≠ t then S i j + g i * S t j else S i j) + g i * S t j
            rw [if_neg (by omega), one_mul]
          · rw [if_neg h, hN]
            show _ = if i < m ∧ i ≠ t then S i j + g i * S t j else S i j
            by_cases h2 : i < m ∧ i ≠ t
            · rw [if_pos ⟨by omega, h2.2⟩, if_pos h2]
            · rw [if_neg (by omega), if_neg h2]
        rw [e1, detF_lin n m N 1 (g m) (N m) (S t) (by omega), rowR_same, one_mul]
        rw [detF_alt' n (rowR N m (S t)) m t e (by omega) (by omega) (fun c => by
          unfold rowR
          rw [if_pos rfl, if_neg (fun h => e h.symm), hN]
          show _ = if t < m ∧ t ≠ t then S t c + g t * S t c else S t c
          rw [if_neg (fun h => h.2 rfl)]), mul_zero, add_zero, hN]
        exact ih (by omega)
  obtain ⟨N, eN⟩ : ∃ N : Nat → Nat → F, N = fun i j => if i < n ∧ i ≠ t then S i j + g i * S t j else S i j := ⟨_, rfl⟩
  have dN : detF n N = detF n S := by rw [eN]; exact hN n (Nat.le_refl n)
  have e2 : detF n (opF M t k c g) = detF n (rowR N t (fun j => c * S t j + 0 * S t j)) := detF_congr n (fun i j hi hj => by
    unfold opF rowR
    by_cases e : i = t
    · rw [if_pos e, if_pos e]
      show c * M k j = c * S t j + 0 * S t j
      rw [zero_mul, add_zero, S0]
    · have e5 : N i j = S i j + g i * S t j := by
        rw [eN]
        exact if_pos ⟨hi, e⟩
      rw [if_neg e, if_neg e, e5, S1 i j e, S0])
  have e3 : rowR N t (S t) = N := by
    have : S t = N t := by
      funext j
      rw [eN]
      show _ = if t < n ∧ t ≠ t then S t j + g t * S t j else S t j
      rw [if_neg (fun h => h.2 rfl)]
    rw [this, rowR_same]
  rw [e2, detF_lin n t N c 0 (S t) (S t) (by omega), zero_mul, add_zero, e3, dN, dS]
/-- Products. -/
def prodF (n : Nat) (M B : Nat → Nat → F) : Nat → Nat → F := fun i j => sum n (fun p => M i p * B p j)
theorem prodF_op (n : Nat) (M B : Nat → Nat → F) (t k : Nat) (c : F) (g : Nat → F) : prodF n (opF M t k c g) B = opF (prodF n M B) t k c g := by
  funext i j
  unfold prodF opF
  by_cases e : i = t
  · simp only [if_pos e]
    rw [← sum_left']
    exact sum_congr (fun p _ => mul_assoc _ _ _)
  · simp only [if_neg e]
    by_cases e2 : i = k
    · simp only [if_pos e2]
      rw [← sum_left', ← sum_add]
      exact sum_congr (fun p _ => by rw [add_mul, mul_assoc])
    · simp only [if_neg e2]
      rw [← sum_left', ← sum_add]
      exact sum_congr (fun p _ => by rw [add_mul, mul_assoc])
theorem prodF_one {n : Nat} {M B : Nat → Nat → F} (h : ∀ i j, i < n → j < n → M i j = if i = j then 1 else 0) (i j : Nat) (hi : i < n) : prodF n M B i j = B i j := by
  unfold prodF
  rw [sum_at (a := i) hi (fun p hp hne => by rw [h i p hi hp, if_neg (fun e => hne e.symm), zero_mul]), h i i hi hi, if_pos rfl, one_mul]
theorem prodF_zero {n : Nat} {M B : Nat → Nat → F} {i : Nat} (h : ∀ p, p < n → M i p = 0) (j : Nat) : prodF n M B i j = 0 :=
  sum_zero' (fun p hp => by rw [h p hp, zero_mul])
end
end Go.Proofs.Ytojaekhplohbjaa.Alg
/- Determinants of bytes: what steps keep; what Det tells. -/
namespace Go.Proofs.Ytojaekhplohbjaa.Sol
open Go Go.RowKit Go.Proofs.Ytojaekhplohbjaa.Gf Go.Proofs.Ytojaekhplohbjaa.Gi Go.Proofs.Ytojaekhplohbjaa.Alg Go.Proofs.Ytojaekhplohbjaa.Mem Go.Proofs.Ytojaekhplohbjaa.Rws Go.Proofs.YtojaekhplohbjaaW.PrintWords
set_option linter.unusedVariables false

/-- The document's determinant, of bytes. -/
def detI : Nat → Mtx → Int
  | 0, _ => 1
  | n + 1, M => (List.range (n + 1)).foldl (fun d k => xorI d (gmI (M 0 k) (detI n (fun i j => M (i + 1) (skip k j))))) 0
/-- Its sum so far. -/
def detK (n : Nat) (M : Mtx) (k : Nat) : Int := (List.range k).foldl (fun d k => xorI d (gmI (M 0 k) (detI n (fun i j => M (i + 1) (skip k j))))) 0
theorem detK_zero (n : Nat) (M : Mtx) : detK n M 0 = 0 := rfl
theorem detK_succ (n : Nat) (M : Mtx) (k : Nat) : detK n M (k + 1) = xorI (detK n M k) (gmI (M 0 k) (detI n (fun i j => M (i + 1) (skip k j)))) := by
  unfold detK
  rw [List.range_succ, List.foldl_append]
  rfl
theorem detI_succ (n : Nat) (M : Mtx) : detI (n + 1) M = detK n M (n + 1) := rfl
theorem byt1 : Byt 1 := ⟨by decide, by decide⟩
theorem detK_of (n : Nat) (M : Mtx) (h : BytM M) (ih : ∀ N : Mtx, BytM N → Byt (detI n N) ∧ G.of (detI n N) = detF n (el N)) : ∀ k, Byt (detK n M k) ∧ G.of (detK n M k) = sum k (fun k => el M 0 k * detF n (minorF k (el M)))
  | 0 => ⟨byt0, rfl⟩
  | k + 1 => by
    obtain ⟨h1, h2⟩ := detK_of n M h ih k
    have h3 := ih (fun i j => M (i + 1) (skip k j)) (fun i j => h _ _)
    rw [detK_succ]
    refine ⟨xorI_byt h1 (gmI_byt (h 0 k)), ?_⟩
    rw [of_xor h1 (gmI_byt (h 0 k)), of_gm (h 0 k) h3.1, h2, h3.2]
    rfl
theorem detI_of : ∀ (n : Nat) (M : Mtx), BytM M → Byt (detI n M) ∧ G.of (detI n M) = detF n (el M)
  | 0, _, _ => ⟨byt1, G.of_one⟩
  | n + 1, M, h => by
    rw [detI_succ]
    exact detK_of n M h (detI_of n) (n + 1)
theorem detI_congr {n : Nat} {M N : Mtx} (hM : BytM M) (hN : BytM N) (h : ∀ i, i < n → ∀ j, j < n → M i j = N i j) : detI n M = detI n N :=
  G.of_inj (detI_of n M hM).1 (detI_of n N hN).1 (by
    rw [(detI_of n M hM).2, (detI_of n N hN).2]
    exact detF_congr n (fun i j hi hj => by unfold el; rw [h i hi j hj]))
/-- Steps multiply the determinant, and every product's, by something. -/
theorem StepsTo.det {n : Nat} {M0 : Mtx} (h0 : BytM M0) {col t : Nat} {M : Mtx} (h : StepsTo n M0 col t M) :
    ∃ c : G, c ≠ 0 ∧ detF n (el M) = c * detF n (el M0) ∧ ∀ B, detF n (prodF n (el M) B) = c * detF n (prodF n (el M0) B) := by
  induction h with
  | start => exact ⟨1, Fd.zero_ne_one.symm, (Alg.one_mul _).symm, fun B => (Alg.one_mul _).symm⟩
  | skip _ _ ih => exact ih
  | @step col t k r M hs htk hk hz hp hr h1 ih =>
    obtain ⟨c, hc, h2, h3⟩ := ih
    refine ⟨Fd.inv (el M k col) * c, mul_ne_zero (inv_ne_zero (of_ne (hs.byt h0 k col) hp)) hc, ?_, fun B => ?_⟩
    · rw [stepI_el (hs.byt h0) hr h1, stepF_op, detF_op n _ t k _ _ htk hk, h2, Fd.mul_assoc]
    · rw [stepI_el (hs.byt h0) hr h1, stepF_op, prodF_op, detF_op n _ t k _ _ htk hk, h3, Fd.mul_assoc]
theorem StepsTo.lastZero {n : Nat} {M0 : Mtx} (h0 : BytM M0) {t : Nat} {M : Mtx} (h : StepsTo n M0 n t M) (i : Nat) (hi : i < n) (ht : t ≤ i) (j : Nat) (hj : j < n) : el M i j = 0 := by
  have := (h.some_row h0 i hi)
  rcases Int.decEq (M i j) 0 with e | e
  · exact absurd (this.1 ⟨j, hj, e⟩) (by omega)
  · unfold el; rw [e]; rfl
theorem StepsTo.full1 {n : Nat} {M0 : Mtx} (h0 : BytM M0) {M : Mtx} (h : StepsTo n M0 n n M) (i j : Nat) (hi : i < n) (hj : j < n) : el M i j = if i = j then 1 else 0 := h.oneFull h0 rfl i j hi hj
/-- All rows are needed just if the determinant isn't nought. -/
theorem StepsTo.det_iff {n : Nat} {M0 : Mtx} (h0 : BytM M0) {t : Nat} {M : Mtx} (h : StepsTo n M0 n t M) : detF n (el M0) ≠ 0 ↔ t = n := by
  obtain ⟨c, hc, h2, _⟩ := h.det h0
  constructor
  · intro hne
    rcases Nat.lt_or_ge t n with ht | ht
    · have hz := detF_zero (n := n) (p := t) (M := el M) ht (fun j hj => h.lastZero h0 t ht (Nat.le_refl t) j hj)
      rw [hz] at h2
      rcases mul_eq_zero h2.symm with e | e
      · exact absurd e hc
      · exact absurd e hne
    · exact Nat.le_antisymm h.le.1 ht
  · rintro rfl he
    rw [he, mul_zero, detF_one t _ (fun i j hi hj => h.full1 h0 i j hi hj)] at h2
    exact Fd.zero_ne_one h2.symm
/-- A product's determinant. -/
theorem det_mul {n : Nat} {A : Mtx} (hA : BytM A) (B : Nat → Nat → G) : detF n (prodF n (el A) B) = detF n (el A) * detF n B := by
  obtain ⟨t, M, h⟩ := StepsTo.ex n hA n
  obtain ⟨c, hc, h2, h3⟩ := h.det hA
  by_cases ht : t = n
  · subst ht
    rw [detF_one t _ (fun i j hi hj => h.full1 hA i j hi hj)] at h2
    have h4 := h3 B
    rw [detF_congr t (fun i j hi hj => prodF_one (fun i j hi hj => h.full1 hA i j hi hj) i j hi)] at h4
    refine mul_left_cancel hc ?_
    rw [← h4, ← Fd.mul_assoc, ← h2, Alg.one_mul]
  · have h5 : detF n (el A) = 0 := Classical.byContradiction (fun e => ht ((h.det_iff hA).1 e))
    have hlt : t < n := by have := h.le.1; omega
    rw [h5, zero_mul]
    have hz := detF_zero (n := n) (p := t) (M := prodF n (el M) B) hlt (fun j hj => prodF_zero (fun p hp => h.lastZero hA t hlt (Nat.le_refl t) p hp) j)
    have h4 := h3 B
    rw [hz] at h4
    rcases mul_eq_zero h4.symm with e | e
    · exact absurd e hc
    · exact e
/-- One column more. -/
theorem StepsTo.more {n : Nat} {M0 : Mtx} (h0 : BytM M0) {col t : Nat} {M : Mtx} (h : StepsTo n M0 col t M) : ∃ t' M', StepsTo n M0 (col + 1) t' M' ∧ t' ≤ t + 1 := by
  by_cases hx : ∃ k, k < n ∧ (t ≤ k ∧ M k col ≠ 0)
  · obtain ⟨k, hk, ⟨h1, h2⟩, hl⟩ := least_of _ _ hx
    obtain ⟨r, hr, hr1⟩ := inv_ex (h.byt h0 k col) h2
    exact ⟨t + 1, _, .step h h1 hk (fun j h3 h4 => by
      rcases Int.decEq (M j col) 0 with e | e
      · exact absurd ⟨h3, e⟩ (hl j h4)
      · exact e) h2 hr hr1, Nat.le_refl _⟩
  · exact ⟨t, M, .skip h (fun j h3 h4 => by
      rcases Int.decEq (M j col) 0 with e | e
      · exact absurd ⟨j, h4, h3, e⟩ hx
      · exact e), Nat.le_succ _⟩
theorem StepsTo.on {n : Nat} {M0 : Mtx} (h0 : BytM M0) {col t : Nat} {M : Mtx} (h : StepsTo n M0 col t M) : ∀ m, ∃ t' M', StepsTo n M0 (col + m) t' M' ∧ t' ≤ t + m
  | 0 => ⟨t, M, h, Nat.le_refl _⟩
  | m + 1 => by
    obtain ⟨t1, M1, h1, l1⟩ := StepsTo.on h0 h m
    obtain ⟨t2, M2, h2, l2⟩ := h1.more h0
    exact ⟨t2, M2, h2, by omega⟩
theorem DetTo.steps {n : Nat} {C0 : Mtx} {col : Nat} {d : Int} {C : Mtx} (h : DetTo n C0 col d C) : StepsTo n C0 col col C := by
  induction h with
  | start => exact .start
  | step _ h1 h2 h3 h4 h5 h6 ih => exact .step ih h1 h2 h3 h4 h5 h6
theorem DetTo.det {n : Nat} {C0 : Mtx} (h0 : BytM C0) {col : Nat} {d : Int} {C : Mtx} (h : DetTo n C0 col d C) : G.of d * detF n (el C) = detF n (el C0) := by
  induction h with
  | start => rw [G.of_one, Alg.one_mul]
  | @step col k r d C hs h1 h2 h3 h4 hr h6 ih =>
    have hb := hs.byt h0
    have hne : el C k col ≠ 0 := of_ne (hb.1 k col) h4
    rw [stepI_el hb.1 hr h6, stepF_op, detF_op n _ col k _ _ h1 h2, of_gm hb.2 (hb.1 k col), ← ih, Fd.mul_assoc, ← Fd.mul_assoc (G.of (C k col)), show G.of (C k col) = el C k col from rfl, Fd.mul_inv _ hne, Alg.one_mul]
theorem DetPost.is {n : Nat} {C0 : Mtx} (h0 : BytM C0) {d : Int} (h : DetPost n C0 d) : Byt d ∧ G.of d = detF n (el C0) := by
  rcases h with ⟨C, h⟩ | ⟨rfl, col, d', C, hc, h, hz⟩
  · refine ⟨(h.byt h0).2, ?_⟩
    rw [← h.det h0, detF_one n _ (fun i j hi hj => h.steps.full1 h0 i j hi hj), Fd.mul_one]
  · refine ⟨byt0, ?_⟩
    obtain ⟨t', M', h1, l1⟩ := (StepsTo.skip h.steps hz).on h0 (n - (col + 1))
    rw [show col + 1 + (n - (col + 1)) = n by omega] at h1
    have : detF n (el C0) = 0 := Classical.byContradiction (fun e => by
      have := (h1.det_iff h0).1 e
      omega)
    rw [this]; rfl
theorem detI_iff {n : Nat} {M0 : Mtx} (h0 : BytM M0) {t : Nat} {M : Mtx} (h : StepsTo n M0 n t M) : detI n M0 ≠ 0 ↔ t = n := by
  rw [← h.det_iff h0, ← (detI_of n M0 h0).2]
  have hb := (detI_of n M0 h0).1
  constructor
  · exact fun e => of_ne hb e
  · intro e e2
    rw [e2] at e
    exact e rfl
/-- What Det tells of a matrix is the document's. -/
theorem det_is {n : Nat} {A : Mtx} (hA : BytM A) (hM : Mat.Bytes (Mat.flat (mat n n A))) {d : Int} (h : DetPost n (augM n (mx n (Mat.flat (mat n n A))) (mx n (Mat.flat (mat n n A)))) d) : d = detI n A := by
  have hx := augM_byt (m := n) (mx_byt (c := n) hM) (mx_byt (c := n) hM)
  obtain ⟨h1, h2⟩ := h.is hx
  have h3 := detI_of n A hA
  refine G.of_inj h1 h3.1 ?_
  rw [h2, h3.2]
  exact detF_congr n (fun i j hi hj => by unfold el augM; rw [if_pos hj, flat_mx n n A i j hi hj])
end Go.Proofs.Ytojaekhplohbjaa.Sol
/- The document's determinant, walked. -/
namespace Go.Proofs.Ytojaekhplohbjaa.Sol
open Go Go.RowKit Go.Proofs.Ytojaekhplohbjaa.PSteps Go.Proofs.Ytojaekhplohbjaa.Gf Go.Proofs.Ytojaekhplohbjaa.Gi Go.Proofs.Ytojaekhplohbjaa.Bits Go.Proofs.Ytojaekhplohbjaa.Mem Go.Proofs.Ytojaekhplohbjaa.Rws Go.Proofs.Ytojaekhplohbjaa.Alg Go.Proofs.YtojaekhplohbjaaW.PrintWords Go.Proofs.YtojaekhplohbjaaW.PrintLast
set_option linter.unusedVariables false

theorem rmulc (a b : Int) (ha : Byt a) (hb : Byt b) (W : World) : Calls Try.prog 34 #[.int .u8 a, .int .u8 b] W fun e w' => e = .returned (.int .u8 (gmI a b)) ∧ Below W.heap.size W w' := by
  refine (coldframeref02_Mul.calls 100 a b _ W (mulI 100 a b ha hb (by omega))).mono ?_
  rintro e w' ⟨rfl, hD⟩
  obtain ⟨n, rfl⟩ := hD.out
  exact ⟨rfl, pw_below_drewN (Below.refl _ _) n⟩
/-- A row without one element. -/
theorem line_skip (n : Nat) (f : Nat → Int) (k : Nat) (hk : k < n + 1) : (line (n + 1) f).take k ++ (line (n + 1) f).drop (k + 1) = line n (fun j => f (skip k j)) := by
  refine List.ext_getElem (by simp [line_len]; omega) (fun j h1 h2 => ?_)
  rw [line_len] at h2
  rw [List.getElem_append]
  by_cases e : j < k
  · rw [dif_pos (by simp [line_len]; omega)]
    simp only [line, List.getElem_take, List.getElem_map, List.getElem_range]
    unfold skip; rw [if_pos e]
  · rw [dif_neg (by simp [line_len]; omega)]
    simp only [line, List.getElem_drop, List.getElem_map, List.getElem_range, List.length_take, List.length_map, List.length_range]
    unfold skip; rw [if_neg e]
    congr 1
    omega
/-- One row more, appended, within a region. -/
theorem rows_append2_stepD {P : Program} {ops : Array Oper} {o : Oper} {a : Act} {Q : Exit → Act → World → Prop} {Kc : Act → World → Prop} {w0 W wr : World} (hP : P = Try.prog) (base : Nat) (hw : Region.wanted o (yielded ops a.tmps) = true) (s x : Operand)
    (ho : o.op = .call { callee := .builtin .append, args := #[s, x], argTypes := #[22, 22] }) (v u : Value) (ls : List (List Int)) (ys : List Int)
    (hs : a.eval s = v) (hx : a.eval x = .slice (some ⟨W.heap.size, 0, none⟩) 1 1) (HR : RowsR wr base v ls) (HB : Below base w0 W) (hbase : base ≤ wr.heap.size) (hB : Below wr.heap.size wr W)
    (hu : (Kd.int .u8).R 5 W wr.heap.size (fun _ => True) u ys) (hl : ls.length ≤ 1000000)
    (h : ∀ v1 w1, RowsR w1 base v1 (ls ++ [ys]) → Below base w0 w1 → Kc (a.put o.dst v1) w1) :
    if Region.wanted o (yielded ops a.tmps) = true then Oper.wp P o a (W.alloc (.cells #[u] 36)) Kc Q else Kc (a.put o.dst undef) (W.alloc (.cells #[u] 36)) := by
  subst hP
  have hown : W.ownsRow wr.heap.size 5 1 u ys.length (nums .u8 ys) := Kd.own_of_R hu
  refine Kd.R_append_step kRow (w0 := w0) base hw s x 22 36 (.slice none 0 0) 24 ho Try.underlying22 info_rows rfl (by decide) (by decide) v ls ys [u] (fun _ => True)
    (fun k => some k = u.ownBlock) hs hx (row_M hown hbase rfl) ?_ (fun _ _ => trivial) (Kd.R_below HR hB) HB (Nat.le_trans hbase hB.size) (by omega) (fun v1 w1 h1 h2 _ _ => h v1 w1 h1 h2)
  intro k hk
  refine ⟨trivial, fun e => ?_⟩
  have h1 := own_base hown k hk.symm
  have := Kd.R_lt HR k e.symm
  omega
theorem lit0 {w X : World} (h : Below w.heap.size w X) : (Kd.int .u8).R 5 (X.alloc (.cells #[] 5)) w.heap.size (fun _ => True) (.slice (some ⟨X.heap.size, 0, none⟩) 0 0) ([] : List Int) :=
  Kd.R_of_own (own_lit X w.heap.size 5 .u8 [] h.size (by simp)) (fun _ _ => trivial)
/-- The rows behind the first, without a column. -/
def minI (k : Nat) (M : Mtx) : Mtx := fun i j => M (i + 1) (skip k j)
set_option maxRecDepth 100000 in
set_option maxHeartbeats 4000000 in
theorem rdet_any : ∀ (n c0 : Nat) (A : Option Addr) (M : Mtx) (w : World), Kd.C kRow w A n (mat n n M) → BytM M → n ≤ 100 →
    Calls Try.prog 20 #[.slice A n c0] w fun e w' => e = .returned (.int .u8 (detI n M)) ∧ Below w.heap.size w w' := by
  intro n
  induction n with
  | zero =>
    intro c0 A M w hC h0 hn
    go_enter Try.func20, Try.ntmps20
    go_wp2
    go_ret
    exact ⟨rfl, Below.refl _ _⟩
  | succ n ih =>
    intro c0 A M w hC h0 hn
    have HC := Lib.hid (fun W (hB : Below w.heap.size w W) => Kd.C_below hC hB)
    have H0 := Lib.hid h0
    have IH := Lib.hid ih
    have t0 : (((n + 1 : Nat) : Int) == (0 : Int)) = false := by simp; omega
    clear hC h0 ih
    obtain ⟨m, hm⟩ : ∃ m, m = n + 1 := ⟨_, rfl⟩
    rw [← hm] at HC t0 hn ⊢
    have HM := Lib.hid hm
    clear hm
    go_enter Try.func20, Try.ntmps20
    go_wp2
    go_loopw [3, 4, 5, 6] (fun dv kv _ _ wr => ∃ (k : Nat), dv = .int .u8 (detK n M k) ∧ kv = .int .i64 k ∧ k ≤ m ∧ Hid (Below w.heap.size w wr)) (fun _ kv _ _ _ => m - (intOf kv).toNat)
    case atStart => exact ⟨0, rfl, rfl, by omega, Lib.hid (Below.refl _ _)⟩
    case round =>
      obtain ⟨k, rfl, rfl, hk, HB⟩ := hrel
      by_cases hlt : k < m
      · obtain ⟨ad, A1, c1, rfl, hcell, _, hC1⟩ := mrow (HC.out _ HB.out) 0 (by omega)
        rw [show ad.add 0 = ad from rfl] at hcell
        obtain ⟨ad1, rfl, hcc⟩ := at_row hC1 k hlt
        rw [line_get m (M 0) k hlt] at hcc
        have g1 : (k : Int) < (m : Int) := by omega
        have g2 : (0 : Int) ≤ (k : Int) := by omega
        have g3 : (0 : Int) < (m : Int) := by omega
        clear hC1
        by_cases hz : M 0 k = 0
        · rw [hz] at hcc
          have hd : detK n M (k + 1) = detK n M k := by
            have hb := (detK_of n M H0.out (detI_of n) k).1
            rw [detK_succ, hz, gmI_zl, xorI_z hb]
          have HD := Lib.hid hd
          clear hd
          go_wp2
          go_roundw
          case rel => exact ⟨k + 1, by rw [HD.out], by go_num, by omega, HB⟩
          case measure => simp [intOf]; omega
        · have t1 : (M 0 k == 0) = false := by simp [hz]
          obtain ⟨N, hN⟩ : ∃ N : Mtx, N = minI k M := ⟨_, rfl⟩
          have HN := Lib.hid hN
          clear hN
          go_wp2
          go_loopw [5, 6] (fun u0 iv wr => ∃ (i : Nat) (u : Value), u0 = u ∧ 1 ≤ i ∧ i ≤ m ∧ iv = .int .i64 i ∧ Hid (RowsR wr w.heap.size u (mat (i - 1) n N)) ∧ Hid (Below w.heap.size w wr)) (fun _ iv _ => m - (intOf iv).toNat)
          case atStart => exact ⟨1, _, rfl, by omega, by omega, rfl, Lib.hid (Kd.R_nil _ _ _ _ _), HB⟩
          case round =>
            clear HB hcell hcc
            obtain ⟨i, u, rfl, hi1, him, rfl, HO, HB⟩ := hrel
            by_cases hi : i < m
            · obtain ⟨ad', A2, c2, e2, hc0, hc2, hC2⟩ := mrow (HC.out _ (Below.refl _ _)) i hi
              injection e2 with e2
              subst e2
              have HR1 := Lib.hid (Kd.reads_of_C (d := (0 : Int)) hC2)
              have gi1 : (i : Int) < (m : Int) := by omega
              have gi2 : (0 : Int) ≤ (i : Int) := by omega
              obtain ⟨i0, hinf, hzz⟩ := Option.map_eq_some_iff.1 info_byte
              simp only [Prod.mk.injEq] at hzz
              have k1 := cut_to (P := Try.prog) 36 5 .i64 Try.underlying36 hinf A2 m c2 (k : Int) (by omega) (by omega) hc2
              have k2 := cut_from (P := Try.prog) 36 5 .i64 Try.underlying36 hinf 1 hzz.2.1 A2 m c2 ((k : Int) + 1) (by omega) (by omega)
              have ek : ((k : Int) + 1).toNat = k + 1 := by omega
              simp only [Int.toNat_natCast, ek, Nat.mul_one] at k1 k2
              obtain ⟨A3, hA3⟩ : ∃ A3, A3 = if c2 = k + 1 then A2 else A2.map (·.add (k + 1)) := ⟨_, rfl⟩
              rw [← hA3] at k2
              have wr1 : IntKind.i64.wrap ((k : Int) + 1) = (k : Int) + 1 := IntWalk.i64_in _ (by omega)
              have HRA := Lib.hid (fun W (hB : Below wr.heap.size wr W) => (Kd.C_of_reads (d := (0 : Int)) ((HR1.out.below (HB.out.trans (hB.mono HB.out.size))).take_ k (by omega)) : (Kd.int .u8).C W A2 k ((line m (M i)).take k)))
              have HRB := Lib.hid (fun W (hB : Below wr.heap.size wr W) => (Kd.C_of_reads (d := (0 : Int)) (show ReadsInt W .u8 A3 (m - (k + 1)) ((line m (M i)).drop (k + 1)) by rw [hA3]; exact (HR1.out.below (HB.out.trans (hB.mono HB.out.size))).drop_ (k + 1) (by omega) hc2) : (Kd.int .u8).C W A3 (m - (k + 1)) ((line m (M i)).drop (k + 1))))
              obtain ⟨xs, hxs⟩ : ∃ xs, xs = (line m (M i)).take k := ⟨_, rfl⟩
              obtain ⟨ys, hys⟩ : ∃ ys, ys = (line m (M i)).drop (k + 1) := ⟨_, rfl⟩
              rw [← hxs] at HRA
              rw [← hys] at HRB
              have hxl : xs.length = k := by rw [hxs, List.length_take, line_len]; omega
              have hyl : ys.length = m - (k + 1) := by rw [hys, List.length_drop, line_len]
              have HXY := Lib.hid (show xs ++ ys = line n (N (i - 1)) by
                rw [hxs, hys, HM.out, line_skip n (M i) k (by have := HM.out; omega), HN.out]
                unfold minI
                rw [show i - 1 + 1 = i by omega])
              have HXL := Lib.hid hxl
              have HYL := Lib.hid hyl
              have KK0 := Lib.hid (fun W (hB : Below w.heap.size w W) => (⟨pw_cell_below hB hc0, k1 W, k2 W⟩ : W.cell? (ad.add i) = some (.slice A2 m c2) ∧ (Instr.slice 36 (.slice A2 m c2) none (some (.int .i64 k)) none).run Try.prog W = .ok (.slice A2 k c2) W ∧ (Instr.slice 36 (.slice A2 m c2) (some (.int .i64 ((k : Int) + 1))) none none).run Try.prog W = .ok (.slice A3 (m - (k + 1)) (c2 - (k + 1))) W))
              have KK := Lib.hid (fun W (hB : Below wr.heap.size wr W) => KK0.out W (HB.out.trans (hB.mono HB.out.size)))
              have HZ := Lib.hid (show Below wr.heap.size wr wr.drew from (Below.refl _ _).drew)
              clear ek hC2 hA3 hinf hzz hxs hys hxl hyl k1 k2 hc0
              go_upto_region 12 with (fail)
              refine wp_region_noPanic ?_
              refine wp_region_held_drew (S := (fun W => W.cell? (ad.add i) = some (.slice A2 m c2) ∧ (Instr.slice 36 (.slice A2 m c2) none (some (.int .i64 k)) none).run Try.prog W = .ok (.slice A2 k c2) W ∧ (Instr.slice 36 (.slice A2 m c2) (some (.int .i64 ((k : Int) + 1))) none none).run Try.prog W = .ok (.slice A3 (m - (k + 1)) (c2 - (k + 1))) W)) (by kernel_rfl) ?_ (fun hHeld => ?_)
              · ((try dsimp only); exact KK.out _ HZ.out)
              refine wpAnyH_take (i := 0) (oi := { dst := some 29, op := Go.Op.move (Go.Operand.tmp 5), type := 22, pos := "ref.go:80", after := #[], guard := none }) (v := ?_) rfl (by kernel_rfl) (by kernel_rfl) (by kernel_rfl) (fun _ _ _ h => h) (Or.inl ⟨by rfl, ?_⟩) (by assumption) ?_
              rotate_left 1
              · (intro w hSw; (try dsimp only at hSw); go_simp; try with_reducible rfl)
              try simp only [Act.put, List.setIfInBounds_toArray, List.set_cons_zero, List.set_cons_succ]
              refine wpAnyH_take (i := 2) (oi := { dst := some 31, op := Go.Op.move (Go.Operand.tmp 0), type := 22, pos := "ref.go:80", after := #[], guard := none }) (v := ?_) rfl (by kernel_rfl) (by kernel_rfl) (by kernel_rfl) (fun _ _ _ h => h) (Or.inl ⟨by rfl, ?_⟩) (by assumption) ?_
              rotate_left 1
              · (intro w hSw; (try dsimp only at hSw); go_simp; try with_reducible rfl)
              try simp only [Act.put, List.setIfInBounds_toArray, List.set_cons_zero, List.set_cons_succ]
              refine wpAnyH_take (i := 3) (oi := { dst := some 32, op := Go.Op.move (Go.Operand.tmp 6), type := 3, pos := "ref.go:80", after := #[], guard := none }) (v := ?_) rfl (by kernel_rfl) (by kernel_rfl) (by kernel_rfl) (fun _ _ _ h => h) (Or.inl ⟨by rfl, ?_⟩) (by assumption) ?_
              rotate_left 1
              · (intro w hSw; (try dsimp only at hSw); go_simp; try with_reducible rfl)
              try simp only [Act.put, List.setIfInBounds_toArray, List.set_cons_zero, List.set_cons_succ]
              refine wpAnyH_take (i := 4) (oi := { dst := some 33, op := Go.Op.indexAddr 22 (Go.Operand.tmp 31) (Go.Operand.tmp 32), type := 0, pos := "ref.go:80", after := #[{ on := 2, ground := Go.Ground.data }, { on := 3, ground := Go.Ground.data }], guard := none }) (v := ?_) rfl (by kernel_rfl) (by kernel_rfl) (by kernel_rfl) (fun _ _ _ h => h) (Or.inl ⟨by rfl, ?_⟩) (by assumption) ?_
              rotate_left 1
              · (intro w hSw; (try dsimp only at hSw); go_simp; try with_reducible rfl)
              try simp only [Act.put, List.setIfInBounds_toArray, List.set_cons_zero, List.set_cons_succ]
              refine wpAnyH_take (i := 5) (oi := { dst := some 34, op := Go.Op.load 36 (Go.Operand.tmp 33), type := 36, pos := "ref.go:80", after := #[{ on := 4, ground := Go.Ground.data }], guard := none }) (v := ?_) rfl (by kernel_rfl) (by kernel_rfl) (by kernel_rfl) (fun _ _ _ h => h) (Or.inl ⟨by rfl, ?_⟩) (by assumption) ?_
              rotate_left 1
              · (intro w hSw; (try dsimp only at hSw); go_simp; try with_reducible rfl)
              try simp only [Act.put, List.setIfInBounds_toArray, List.set_cons_zero, List.set_cons_succ]
              refine wpAnyH_take (i := 6) (oi := { dst := some 35, op := Go.Op.move (Go.Operand.tmp 4), type := 3, pos := "ref.go:80", after := #[], guard := none }) (v := ?_) rfl (by kernel_rfl) (by kernel_rfl) (by kernel_rfl) (fun _ _ _ h => h) (Or.inl ⟨by rfl, ?_⟩) (by assumption) ?_
              rotate_left 1
              · (intro w hSw; (try dsimp only at hSw); go_simp; try with_reducible rfl)
              try simp only [Act.put, List.setIfInBounds_toArray, List.set_cons_zero, List.set_cons_succ]
              refine wpAnyH_take (i := 7) (oi := { dst := some 36, op := Go.Op.slice 36 (Go.Operand.tmp 34) none (some (Go.Operand.tmp 35)) none, type := 36, pos := "ref.go:80", after := #[{ on := 5, ground := Go.Ground.data }, { on := 6, ground := Go.Ground.data }], guard := none }) (v := ?_) rfl (by kernel_rfl) (by kernel_rfl) (by kernel_rfl) (fun _ _ _ h => h) (Or.inl ⟨by rfl, ?_⟩) (by assumption) ?_
              rotate_left 1
              · (intro w hSw; (try dsimp only at hSw); go_simp; try with_reducible rfl)
              try simp only [Act.put, List.setIfInBounds_toArray, List.set_cons_zero, List.set_cons_succ]
              refine wpAnyH_take (i := 9) (oi := { dst := some 38, op := Go.Op.move (Go.Operand.tmp 0), type := 22, pos := "ref.go:80", after := #[], guard := none }) (v := ?_) rfl (by kernel_rfl) (by kernel_rfl) (by kernel_rfl) (fun _ _ _ h => h) (Or.inl ⟨by rfl, ?_⟩) (by assumption) ?_
              rotate_left 1
              · (intro w hSw; (try dsimp only at hSw); go_simp; try with_reducible rfl)
              try simp only [Act.put, List.setIfInBounds_toArray, List.set_cons_zero, List.set_cons_succ]
              refine wpAnyH_take (i := 10) (oi := { dst := some 39, op := Go.Op.move (Go.Operand.tmp 6), type := 3, pos := "ref.go:80", after := #[], guard := none }) (v := ?_) rfl (by kernel_rfl) (by kernel_rfl) (by kernel_rfl) (fun _ _ _ h => h) (Or.inl ⟨by rfl, ?_⟩) (by assumption) ?_
              rotate_left 1
              · (intro w hSw; (try dsimp only at hSw); go_simp; try with_reducible rfl)
              try simp only [Act.put, List.setIfInBounds_toArray, List.set_cons_zero, List.set_cons_succ]
              refine wpAnyH_take (i := 11) (oi := { dst := some 40, op := Go.Op.indexAddr 22 (Go.Operand.tmp 38) (Go.Operand.tmp 39), type := 0, pos := "ref.go:80", after := #[{ on := 9, ground := Go.Ground.data }, { on := 10, ground := Go.Ground.data }], guard := none }) (v := ?_) rfl (by kernel_rfl) (by kernel_rfl) (by kernel_rfl) (fun _ _ _ h => h) (Or.inl ⟨by rfl, ?_⟩) (by assumption) ?_
              rotate_left 1
              · (intro w hSw; (try dsimp only at hSw); go_simp; try with_reducible rfl)
              try simp only [Act.put, List.setIfInBounds_toArray, List.set_cons_zero, List.set_cons_succ]
              refine wpAnyH_take (i := 12) (oi := { dst := some 41, op := Go.Op.load 36 (Go.Operand.tmp 40), type := 36, pos := "ref.go:80", after := #[{ on := 11, ground := Go.Ground.data }], guard := none }) (v := ?_) rfl (by kernel_rfl) (by kernel_rfl) (by kernel_rfl) (fun _ _ _ h => h) (Or.inl ⟨by rfl, ?_⟩) (by assumption) ?_
              rotate_left 1
              · (intro w hSw; (try dsimp only at hSw); go_simp; try with_reducible rfl)
              try simp only [Act.put, List.setIfInBounds_toArray, List.set_cons_zero, List.set_cons_succ]
              refine wpAnyH_take (i := 13) (oi := { dst := some 42, op := Go.Op.move (Go.Operand.tmp 4), type := 3, pos := "ref.go:80", after := #[], guard := none }) (v := ?_) rfl (by kernel_rfl) (by kernel_rfl) (by kernel_rfl) (fun _ _ _ h => h) (Or.inl ⟨by rfl, ?_⟩) (by assumption) ?_
              rotate_left 1
              · (intro w hSw; (try dsimp only at hSw); go_simp; try with_reducible rfl)
              try simp only [Act.put, List.setIfInBounds_toArray, List.set_cons_zero, List.set_cons_succ]
              refine wpAnyH_take (i := 14) (oi := { dst := some 43, op := Go.Op.binOp Go.BinOp.add 3 (Go.Operand.tmp 42) (Go.Operand.const (Go.Value.int Go.IntKind.i64 1)) 3, type := 3, pos := "ref.go:80", after := #[{ on := 13, ground := Go.Ground.data }], guard := none }) (v := ?_) rfl (by kernel_rfl) (by kernel_rfl) (by kernel_rfl) (fun _ _ _ h => h) (Or.inl ⟨by rfl, ?_⟩) (by assumption) ?_
              rotate_left 1
              · (intro w hSw; (try dsimp only at hSw); go_simp; try with_reducible rfl)
              try simp only [Act.put, List.setIfInBounds_toArray, List.set_cons_zero, List.set_cons_succ]
              refine wpAnyH_take (i := 15) (oi := { dst := some 44, op := Go.Op.slice 36 (Go.Operand.tmp 41) (some (Go.Operand.tmp 43)) none none, type := 36, pos := "ref.go:80", after := #[{ on := 12, ground := Go.Ground.data }, { on := 14, ground := Go.Ground.data }], guard := none }) (v := ?_) rfl (by kernel_rfl) (by kernel_rfl) (by kernel_rfl) (fun _ _ _ h => h) (Or.inl ⟨by rfl, ?_⟩) (by assumption) ?_
              rotate_left 1
              · (intro w hSw; (try dsimp only at hSw); go_simp; try with_reducible rfl)
              try simp only [Act.put, List.setIfInBounds_toArray, List.set_cons_zero, List.set_cons_succ]
              refine wpAnyH_ready (rs := [1]) (by kernel_rfl) (by simp) ?_
              refine AllReadyH.cons (o := { dst := some 30, op := Go.Op.buildSlice 36 0 #[], type := 36, pos := "ref.go:80", after := #[], guard := none }) rfl (fun K hK => ?_) AllReadyH.nil
              go_simp
              have HE := Lib.hid (lit0 (w := wr) (X := wr.drew) HZ.out)
              replace HZ := Lib.hid (HZ.out.alloc HZ.out.size (.cells #[] 5))
              clear hHeld
              refine hK.out _ _ ?_ (fun hHeld => ?_)
              · ((try dsimp only); exact KK.out _ HZ.out)
              clear hK K
              refine wpAnyH_ready (rs := [8]) (by kernel_rfl) (by simp) ?_
              refine AllReadyH.cons (o := { dst := some 37, op := Go.Op.call { callee := Go.Callee.builtin Go.Builtin.append, args := #[Go.Operand.tmp 30, Go.Operand.tmp 36], argTypes := #[36, 36] }, type := 36, pos := "ref.go:80", after := #[{ on := 1, ground := Go.Ground.data }, { on := 7, ground := Go.Ground.data }], guard := none }) rfl (fun K hK => ?_) AllReadyH.nil
              refine Kd.R_append_rows_step (Kd.int .u8) (w0 := wr) wr.heap.size (by rfl) (.tmp 30) (.tmp 36) 36 5 (.int .u8 0) 1 rfl Try.underlying36 info_byte rfl (by decide) (by decide) _ [] xs _ _ _ (fun _ => True) (fun _ => False) rfl rfl HE.out (HRA.out _ HZ.out) (fun _ _ h => h) (fun _ h => h.elim) (fun _ _ => trivial) HZ.out HZ.out.size (by simp; omega) ?_
              intro v2 x2 ho hb _ _
              rw [List.nil_append] at ho
              obtain ⟨A6, c6, e6⟩ := Kd.R_slice ho
              rw [HXL.out] at e6
              subst e6
              have HR6 := Lib.hid ho
              replace HZ := Lib.hid hb
              clear ho hb HE
              clear hHeld
              refine hK.out _ _ ?_ (fun hHeld => ?_)
              · ((try dsimp only); exact KK.out _ HZ.out)
              clear hK K
              refine wpAnyH_ready (rs := [16]) (by kernel_rfl) (by simp) ?_
              refine AllReadyH.cons (o := { dst := some 45, op := Go.Op.call { callee := Go.Callee.builtin Go.Builtin.append, args := #[Go.Operand.tmp 37, Go.Operand.tmp 44], argTypes := #[36, 36] }, type := 36, pos := "ref.go:80", after := #[{ on := 8, ground := Go.Ground.data }, { on := 15, ground := Go.Ground.data }, { on := 8, ground := Go.Ground.chain }], guard := none }) rfl (fun K hK => ?_) AllReadyH.nil
              refine Kd.R_append_rows_step (Kd.int .u8) (w0 := wr) wr.heap.size (by rfl) (.tmp 37) (.tmp 44) 36 5 (.int .u8 0) 1 rfl Try.underlying36 info_byte rfl (by decide) (by decide) (.slice A6 k c6) xs ys _ _ _ (fun _ => True) (fun _ => False) rfl rfl HR6.out (HRB.out _ HZ.out) (fun _ _ h => h) (fun _ h => h.elim) (fun _ _ => trivial) HZ.out HZ.out.size (by have := HXL.out; omega) ?_
              intro v3 x3 ho hb _ _
              rw [HXY.out] at ho
              obtain ⟨A7, c7, e7⟩ := Kd.R_slice ho
              rw [line_len] at e7
              subst e7
              have HR7 := Lib.hid ho
              replace HZ := Lib.hid hb
              clear ho hb HR6
              clear hHeld
              refine hK.out _ _ ?_ (fun hHeld => ?_)
              · ((try dsimp only); exact KK.out _ HZ.out)
              clear hK K
              refine wpAnyH_ready (rs := [17]) (by kernel_rfl) (by simp) ?_
              refine AllReadyH.cons (o := { dst := some 46, op := Go.Op.buildSlice 22 1 #[(0, Go.Operand.tmp 45)], type := 22, pos := "ref.go:80", after := #[{ on := 16, ground := Go.Ground.data }], guard := none }) rfl (fun K hK => ?_) AllReadyH.nil
              go_simp
              have HZ5 := Lib.hid (HZ.out.alloc HZ.out.size (.cells #[.slice A7 n c7] 36))
              clear hHeld
              refine hK.out _ _ ?_ (fun hHeld => ?_)
              · ((try dsimp only); exact KK.out _ HZ5.out)
              clear hK K
              refine wpAnyH_ready (rs := [18]) (by kernel_rfl) (by simp) ?_
              refine AllReadyH.cons (o := { dst := some 47, op := Go.Op.call { callee := Go.Callee.builtin Go.Builtin.append, args := #[Go.Operand.tmp 29, Go.Operand.tmp 46], argTypes := #[22, 22] }, type := 22, pos := "ref.go:80", after := #[{ on := 0, ground := Go.Ground.data }, { on := 17, ground := Go.Ground.data }, { on := 16, ground := Go.Ground.chain }], guard := none }) rfl (fun K hK => ?_) AllReadyH.nil
              refine rows_append2_stepD (w0 := w) (wr := wr) rfl w.heap.size (by rfl) (.tmp 29) (.tmp 46) rfl u5 _ (mat (i - 1) n N) (line n (N (i - 1))) rfl rfl HO.out (HB.out.trans (HZ.out.mono HB.out.size)) HB.out.size HZ.out HR7.out (by rw [mat_len]; omega) ?_
              intro v7 x7 h7 hb7
              have H5 := Lib.hid h7
              have HB5 := Lib.hid hb7
              clear h7 hb7
              clear hHeld
              refine hK.out _ _ ?_ (fun hHeld => ?_)
              · ((try dsimp only); exact KK0.out _ HB5.out)
              clear hK K
              refine wpAnyH_take (i := 19) (oi := { dst := some 5, op := Go.Op.assign (Go.Operand.tmp 47), type := 22, pos := "ref.go:80", after := #[{ on := 18, ground := Go.Ground.data }, { on := 18, ground := Go.Ground.chain }, { on := 0, ground := Go.Ground.phase }, { on := 1, ground := Go.Ground.phase }, { on := 2, ground := Go.Ground.phase }, { on := 3, ground := Go.Ground.phase }, { on := 4, ground := Go.Ground.phase }, { on := 5, ground := Go.Ground.phase }, { on := 6, ground := Go.Ground.phase }, { on := 7, ground := Go.Ground.phase }, { on := 8, ground := Go.Ground.phase }, { on := 9, ground := Go.Ground.phase }, { on := 10, ground := Go.Ground.phase }, { on := 11, ground := Go.Ground.phase }, { on := 12, ground := Go.Ground.phase }, { on := 13, ground := Go.Ground.phase }, { on := 14, ground := Go.Ground.phase }, { on := 15, ground := Go.Ground.phase }, { on := 16, ground := Go.Ground.phase }, { on := 17, ground := Go.Ground.phase }, { on := 18, ground := Go.Ground.phase }], guard := none }) (v := ?_) rfl (by kernel_rfl) (by kernel_rfl) (by kernel_rfl) (fun _ _ _ h => h) (Or.inl ⟨by rfl, ?_⟩) (by assumption) ?_
              rotate_left 1
              · (intro w hSw; (try dsimp only at hSw); go_simp; try with_reducible rfl)
              try simp only [Act.put, List.setIfInBounds_toArray, List.set_cons_zero, List.set_cons_succ]
              refine wpAnyH_done (by kernel_rfl) ?_ _
              refine NoPanic.normal ?_
              go_wp2
              go_roundw
              case rel => exact ⟨i + 1, _, rfl, by omega, by omega, by go_num, Lib.hid (by rw [show i + 1 - 1 = (i - 1) + 1 by omega, mat_succ]; exact H5.out), HB5⟩
              case measure => simp [intOf]; omega
            · obtain rfl : i = m := by omega
              obtain ⟨A5, c5, e5, _, hC5⟩ := Kd.R_reads HO.out
              rw [mat_len, show i - 1 = n by have := HM.out; omega] at e5 hC5
              subst e5
              have HC5 := Lib.hid hC5
              clear hC5
              obtain ⟨ad', A1, c1, e2, hcell, _, hC1⟩ := mrow (HC.out _ HB.out) 0 (by omega)
              injection e2 with e2
              subst e2
              rw [show ad.add 0 = ad from rfl] at hcell
              obtain ⟨ad1, rfl, hcc⟩ := at_row hC1 k hlt
              rw [line_get i (M 0) k hlt] at hcc
              have KK := Lib.hid (fun W (hB : Below wr.heap.size wr W) => And.intro (pw_cell_below hB hcell) (pw_cell_below hB hcc))
              have HXd := Lib.hid (show Below wr.heap.size wr wr.drew from (Below.refl _ _).drew)
              have HNB := Lib.hid (show BytM N by rw [HN.out]; exact fun i j => H0.out _ _)
              have DT := Lib.hid (fun W (hB : Below wr.heap.size wr W) => IH.out c5 A5 N W (Kd.C_below HC5.out hB) HNB.out (by have := HM.out; omega))
              have ML := Lib.hid (fun W => rmulc (M 0 k) (detI n N) (H0.out 0 k) (detI_of n N HNB.out).1 W)
              have HD := Lib.hid (show detK n M (k + 1) = xorI (detK n M k) (gmI (M 0 k) (detI n N)) by rw [detK_succ, HN.out]; rfl)
              have gN : 0 < i := by omega
              have xr : bits .xor .u8 (detK n M k) (gmI (M 0 k) (detI n N)) = detK n M (k + 1) := by rw [HD.out]; exact xor_bits (detK_of n M H0.out (detI_of n) k).1 (gmI_byt (H0.out 0 k))
              clear hC1 hcell hcc
              go_upto_region 13 with (fail)
              refine wp_region_noPanic ?_
              refine wp_region_held_drew (S := (fun W => W.cell? ad = some (.slice (some ad1) i c1) ∧ W.cell? (ad1.add k) = some (.int .u8 (M 0 k)))) (by kernel_rfl) ?_ (fun hHeld => ?_)
              · ((try dsimp only); exact KK.out _ HXd.out)
              refine wpAnyH_take (i := 0) (oi := { dst := some 48, op := Go.Op.move (Go.Operand.tmp 3), type := 5, pos := "ref.go:82", after := #[], guard := none }) (v := ?_) rfl (by kernel_rfl) (by kernel_rfl) (by kernel_rfl) (fun _ _ _ h => h) (Or.inl ⟨by rfl, ?_⟩) (by assumption) ?_
              rotate_left 1
              · (intro w hSw; (try dsimp only at hSw); go_simp; try with_reducible rfl)
              try simp only [Act.put, List.setIfInBounds_toArray, List.set_cons_zero, List.set_cons_succ]
              refine wpAnyH_take (i := 1) (oi := { dst := some 49, op := Go.Op.move (Go.Operand.tmp 0), type := 22, pos := "ref.go:82", after := #[], guard := none }) (v := ?_) rfl (by kernel_rfl) (by kernel_rfl) (by kernel_rfl) (fun _ _ _ h => h) (Or.inl ⟨by rfl, ?_⟩) (by assumption) ?_
              rotate_left 1
              · (intro w hSw; (try dsimp only at hSw); go_simp; try with_reducible rfl)
              try simp only [Act.put, List.setIfInBounds_toArray, List.set_cons_zero, List.set_cons_succ]
              refine wpAnyH_take (i := 2) (oi := { dst := some 50, op := Go.Op.indexAddr 22 (Go.Operand.tmp 49) (Go.Operand.const (Go.Value.int Go.IntKind.i64 0)), type := 0, pos := "ref.go:82", after := #[{ on := 1, ground := Go.Ground.data }], guard := none }) (v := ?_) rfl (by kernel_rfl) (by kernel_rfl) (by kernel_rfl) (fun _ _ _ h => h) (Or.inl ⟨by rfl, ?_⟩) (by assumption) ?_
              rotate_left 1
              · (intro w hSw; (try dsimp only at hSw); go_simp; try with_reducible rfl)
              try simp only [Act.put, List.setIfInBounds_toArray, List.set_cons_zero, List.set_cons_succ]
              refine wpAnyH_take (i := 3) (oi := { dst := some 51, op := Go.Op.load 36 (Go.Operand.tmp 50), type := 36, pos := "ref.go:82", after := #[{ on := 2, ground := Go.Ground.data }], guard := none }) (v := ?_) rfl (by kernel_rfl) (by kernel_rfl) (by kernel_rfl) (fun _ _ _ h => h) (Or.inl ⟨by rfl, ?_⟩) (by assumption) ?_
              rotate_left 1
              · (intro w hSw; (try dsimp only at hSw); go_simp; try with_reducible rfl)
              try simp only [Act.put, List.setIfInBounds_toArray, List.set_cons_zero, List.set_cons_succ]
              refine wpAnyH_take (i := 4) (oi := { dst := some 52, op := Go.Op.move (Go.Operand.tmp 4), type := 3, pos := "ref.go:82", after := #[], guard := none }) (v := ?_) rfl (by kernel_rfl) (by kernel_rfl) (by kernel_rfl) (fun _ _ _ h => h) (Or.inl ⟨by rfl, ?_⟩) (by assumption) ?_
              rotate_left 1
              · (intro w hSw; (try dsimp only at hSw); go_simp; try with_reducible rfl)
              try simp only [Act.put, List.setIfInBounds_toArray, List.set_cons_zero, List.set_cons_succ]
              refine wpAnyH_take (i := 5) (oi := { dst := some 53, op := Go.Op.indexAddr 36 (Go.Operand.tmp 51) (Go.Operand.tmp 52), type := 0, pos := "ref.go:82", after := #[{ on := 3, ground := Go.Ground.data }, { on := 4, ground := Go.Ground.data }], guard := none }) (v := ?_) rfl (by kernel_rfl) (by kernel_rfl) (by kernel_rfl) (fun _ _ _ h => h) (Or.inl ⟨by rfl, ?_⟩) (by assumption) ?_
              rotate_left 1
              · (intro w hSw; (try dsimp only at hSw); go_simp; try with_reducible rfl)
              try simp only [Act.put, List.setIfInBounds_toArray, List.set_cons_zero, List.set_cons_succ]
              refine wpAnyH_take (i := 6) (oi := { dst := some 54, op := Go.Op.load 5 (Go.Operand.tmp 53), type := 5, pos := "ref.go:82", after := #[{ on := 5, ground := Go.Ground.data }], guard := none }) (v := ?_) rfl (by kernel_rfl) (by kernel_rfl) (by kernel_rfl) (fun _ _ _ h => h) (Or.inl ⟨by rfl, ?_⟩) (by assumption) ?_
              rotate_left 1
              · (intro w hSw; (try dsimp only at hSw); go_simp; try with_reducible rfl)
              try simp only [Act.put, List.setIfInBounds_toArray, List.set_cons_zero, List.set_cons_succ]
              refine wpAnyH_take (i := 7) (oi := { dst := some 55, op := Go.Op.move (Go.Operand.tmp 5), type := 22, pos := "ref.go:82", after := #[], guard := none }) (v := ?_) rfl (by kernel_rfl) (by kernel_rfl) (by kernel_rfl) (fun _ _ _ h => h) (Or.inl ⟨by rfl, ?_⟩) (by assumption) ?_
              rotate_left 1
              · (intro w hSw; (try dsimp only at hSw); go_simp; try with_reducible rfl)
              try simp only [Act.put, List.setIfInBounds_toArray, List.set_cons_zero, List.set_cons_succ]
              refine wpAnyH_ready (rs := [8]) (by kernel_rfl) (by simp) ?_
              refine AllReadyH.cons (o := { dst := some 56, op := Go.Op.call { callee := Go.Callee.value (Go.Operand.func 20), args := #[Go.Operand.tmp 55], argTypes := #[22] }, type := 5, pos := "ref.go:82", after := #[{ on := 7, ground := Go.Ground.data }], guard := none }) rfl (fun K hK => ?_) AllReadyH.nil
              go_simp
              go_at_call 20
              (refine (DT.out _ HXd.out).mono ?_); rintro e x1 ⟨rfl, hb⟩; have HXe := Lib.hid (HXd.out.trans (hb.mono HXd.out.size)); clear hb
              clear hHeld
              refine hK.out _ _ ?_ (fun hHeld => ?_)
              · ((try dsimp only); exact KK.out _ HXe.out)
              clear hK K
              refine wpAnyH_ready (rs := [9]) (by kernel_rfl) (by simp) ?_
              refine AllReadyH.cons (o := { dst := some 57, op := Go.Op.call { callee := Go.Callee.value (Go.Operand.func 34), args := #[Go.Operand.tmp 54, Go.Operand.tmp 56], argTypes := #[5, 5] }, type := 5, pos := "ref.go:82", after := #[{ on := 6, ground := Go.Ground.data }, { on := 8, ground := Go.Ground.data }, { on := 8, ground := Go.Ground.chain }], guard := none }) rfl (fun K hK => ?_) AllReadyH.nil
              go_simp
              go_at_call 34
              (refine (ML.out _).mono ?_); rintro e x2 ⟨rfl, hb⟩; have HXf := Lib.hid (HXe.out.trans (hb.mono HXe.out.size)); clear hb
              clear hHeld
              refine hK.out _ _ ?_ (fun hHeld => ?_)
              · ((try dsimp only); exact KK.out _ HXf.out)
              clear hK K
              refine wpAnyH_take (i := 10) (oi := { dst := some 58, op := Go.Op.binOp Go.BinOp.xor 5 (Go.Operand.tmp 48) (Go.Operand.tmp 57) 5, type := 5, pos := "ref.go:82", after := #[{ on := 0, ground := Go.Ground.data }, { on := 9, ground := Go.Ground.data }], guard := none }) (v := ?_) rfl (by kernel_rfl) (by kernel_rfl) (by kernel_rfl) (fun _ _ _ h => h) (Or.inl ⟨by rfl, ?_⟩) (by assumption) ?_
              rotate_left 1
              · (intro w hSw; (try dsimp only at hSw); go_simp; try with_reducible rfl)
              try simp only [Act.put, List.setIfInBounds_toArray, List.set_cons_zero, List.set_cons_succ]
              refine wpAnyH_take (i := 11) (oi := { dst := some 3, op := Go.Op.assign (Go.Operand.tmp 58), type := 5, pos := "ref.go:82", after := #[{ on := 10, ground := Go.Ground.data }, { on := 9, ground := Go.Ground.chain }, { on := 0, ground := Go.Ground.phase }, { on := 1, ground := Go.Ground.phase }, { on := 2, ground := Go.Ground.phase }, { on := 3, ground := Go.Ground.phase }, { on := 4, ground := Go.Ground.phase }, { on := 5, ground := Go.Ground.phase }, { on := 6, ground := Go.Ground.phase }, { on := 7, ground := Go.Ground.phase }, { on := 8, ground := Go.Ground.phase }, { on := 9, ground := Go.Ground.phase }, { on := 10, ground := Go.Ground.phase }], guard := none }) (v := ?_) rfl (by kernel_rfl) (by kernel_rfl) (by kernel_rfl) (fun _ _ _ h => h) (Or.inl ⟨by rfl, ?_⟩) (by assumption) ?_
              rotate_left 1
              · (intro w hSw; (try dsimp only at hSw); go_simp; try with_reducible rfl)
              try simp only [Act.put, List.setIfInBounds_toArray, List.set_cons_zero, List.set_cons_succ]
              refine wpAnyH_done (by kernel_rfl) ?_ _
              refine NoPanic.normal ?_
              have HBN := Lib.hid (HB.out.trans (HXf.out.mono HB.out.size))
              go_wp2
              go_roundw
              case rel => exact ⟨k + 1, rfl, by go_num, by omega, HBN⟩
              case measure => simp [intOf]; omega
      · obtain rfl : k = m := by omega
        have HF := Lib.hid (show detK n M k = detI k M by rw [HM.out]; rfl)
        go_wp2
        go_ret
        exact ⟨congrArg (fun x => Ending.returned (.int .u8 x)) HF.out, HB.out⟩
end Go.Proofs.Ytojaekhplohbjaa.Sol
/- product, of the law's helpers. -/
namespace Go.Proofs.Ytojaekhplohbjaa.Sol
open Go Go.RowKit Go.Proofs.Ytojaekhplohbjaa.Gf Go.Proofs.Ytojaekhplohbjaa.Gi Go.Proofs.Ytojaekhplohbjaa.Alg Go.Proofs.Ytojaekhplohbjaa.Mem Go.Proofs.Ytojaekhplohbjaa.Rws Go.Proofs.Ytojaekhplohbjaa.Bits Go.Proofs.YtojaekhplohbjaaW.PrintWords
set_option linter.unusedVariables false

theorem lit_row {W : World} {A : Option Addr} {c : Nat} {a : Int} (h : (Kd.int .u8).C W A 1 [a]) (hc : 1 ≤ c) : Kd.C kRow (W.alloc (.cells #[.slice A 1 c] 36)) (some ⟨W.heap.size, 0, none⟩) 1 [[a]] := by
  refine ⟨rfl, by decide, fun _ => ⟨_, rfl, fun j p hj => ?_⟩⟩
  have hj0 : j = 0 ∧ p = [a] := by
    cases j with
    | zero => exact ⟨rfl, by simpa using hj.symm⟩
    | succ j => simp at hj
  obtain ⟨rfl, rfl⟩ := hj0
  refine ⟨[.slice A 1 c], rfl, ⟨A, c, rfl, hc, Kd.C_below h ((Below.refl _ _).alloc (Nat.le_refl _) _)⟩, fun i u hu => ?_⟩
  cases i with
  | zero =>
    simp at hu
    subst hu
    have e : (W.alloc (.cells #[.slice A 1 c] 36)).heap[W.heap.size]? = some (.cells #[.slice A 1 c] 36) := by
      show (W.heap.push _)[W.heap.size]? = _
      simp
    show World.cell? _ ⟨W.heap.size, 0, none⟩ = _
    unfold World.cell?
    rw [e]
    rfl
  | succ i => simp at hu
theorem lit1 {w X : World} (v : Int) (h : Below w.heap.size w X) : (Kd.int .u8).C (X.alloc (.cells #[.int .u8 v] 5)) (some ⟨X.heap.size, 0, none⟩) 1 [v] := by
  have ho := own_lit X X.heap.size 5 .u8 [v] (Nat.le_refl _) (by simp)
  exact (Kd.R_reads' (Kd.R_of_own (enc := Value.int .u8) (h1 := fun _ => rfl) ho (fun _ _ => trivial) : Kd.R (Kd.int .u8) 5 _ _ (fun _ => True) _ [v])).2.2
theorem prd_11 (a b : Int) (ha : Byt a) (hb : Byt b) : prd 1 1 (fun _ _ => a) (fun _ _ => b) 0 0 = gmI a b := by
  refine G.of_inj (prd_byt (fun _ _ => ha) 0 0) (gmI_byt ha) ?_
  rw [of_prd (fun _ _ => ha) (fun _ _ => hb) 0 (by omega) 0 (by omega), of_gm ha hb]
  unfold dotF
  show 0 + _ = _
  rw [Alg.zero_add]
  rfl
set_option maxRecDepth 100000 in
theorem product_calls (p a b : Int) (w : World) (ha : Byt a) (hb : Byt b) :
    Calls Try.prog 22 #[.int .u8 p, .int .u8 a, .int .u8 b] w fun e w' => e = .returned (.bool (gmI a b == p)) ∧ Below w.heap.size w w' := by
  have HA := Lib.hid ha
  have HBb := Lib.hid hb
  have h1 := lit1 (w := w) (X := w) a (Below.refl _ _)
  have h2 := lit_row h1 (Nat.le_refl 1)
  have h3 := lit1 (w := _) (X := (w.alloc (.cells #[.int .u8 a] 5)).alloc (.cells #[.slice (some ⟨w.heap.size, 0, none⟩) 1 1] 36)) b (Below.refl _ _)
  have h4 := lit_row h3 (Nat.le_refl 1)
  have b1 := (Below.refl w.heap.size w).alloc (Nat.le_refl _) (.cells #[.int .u8 a] 5)
  have b2 := b1.alloc b1.size (.cells #[.slice (some ⟨w.heap.size, 0, none⟩) 1 1] 36)
  obtain ⟨X, hX⟩ : ∃ X, X = (w.alloc (.cells #[.int .u8 a] 5)).alloc (.cells #[.slice (some ⟨w.heap.size, 0, none⟩) 1 1] 36) := ⟨_, rfl⟩
  rw [← hX] at h2 h3 h4 b2
  have c3 := (Below.refl X.heap.size X).alloc (Nat.le_refl _) (.cells #[.int .u8 b] 5)
  have c4 := c3.alloc c3.size (.cells #[.slice (some ⟨X.heap.size, 0, none⟩) 1 1] 36)
  have h5 := Kd.C_below h2 c4
  have hB := b2.trans (c4.mono b2.size)
  rw [hX] at h4 h5 hB
  have s1 : ∀ (W : World) o, (W.alloc o).heap.size = W.heap.size + 1 := fun W o => by simp
  simp only [s1] at h4 h5 hB
  have HX := Lib.hid (rmul_calls 1 1 1 1 _ _ (fun _ _ => a) (fun _ _ => b) _ h5 h4 (fun _ _ => ha) (fun _ _ => hb) (Nat.le_refl 1) (Nat.le_refl 1) (Nat.le_refl 1) (by decide) (by decide))
  have HB := Lib.hid hB
  clear h1 h2 h3 h4 h5 hB s1 b1 b2 c3 c4 hX
  go_enter Try.func22, Try.ntmps22
  go_upto_region 2 with (go_at_call 17; (with_reducible refine HX.out.mono ?_); rintro e w1 ⟨A7, c7, rfl, hC, hb⟩; have HC := Lib.hid hC; have HB1 := Lib.hid (HB.out.trans (hb.mono HB.out.size)); clear hC hb)
  obtain ⟨ad, A1, c1, rfl, hcell, _, hC1⟩ := mrow HC.out 0 (by omega)
  rw [show ad.add 0 = ad from rfl] at hcell
  obtain ⟨ad1, rfl, hcc⟩ := at_row hC1 0 (by omega)
  rw [line_get 1 _ 0 (by omega), prd_11 a b HA.out HBb.out, show ad1.add 0 = ad1 from rfl] at hcc
  clear hC1
  go_wp2
  go_ret
  exact ⟨rfl, HB1.out⟩
end Go.Proofs.Ytojaekhplohbjaa.Sol
/- Matrices as lists of bytes: what their products and turnings come to, in the field. -/
namespace Go.Proofs.Ytojaekhplohbjaa.Mat
open Go Go.RowKit Go.Proofs.Ytojaekhplohbjaa.Alg Go.Proofs.Ytojaekhplohbjaa.Gf

/-- The element at a place. -/
def el (c : Nat) (xs : List Int) (i k : Nat) : G := G.of (xs.getD (i * c + k) 0)

theorem getD_range {xs : List Int} (h : Bytes xs) (n : Nat) : 0 ≤ xs.getD n 0 ∧ xs.getD n 0 < 256 := h.getD n
theorem el_int {xs : List Int} (h : Bytes xs) (c i k : Nat) : (el c xs i k).int = xs.getD (i * c + k) 0 := G.int_of _ (h.getD _)
theorem xorI_G {a b : Int} (ha : 0 ≤ a ∧ a < 256) (hb : 0 ≤ b ∧ b < 256) : xorI a b = (G.of a + G.of b).int := by
  have e1 : a.toNat % 256 = a.toNat := by omega
  have e2 : b.toNat % 256 = b.toNat := by omega
  show ((a.toNat ^^^ b.toNat : Nat) : Int) = ((a.toNat % 256 ^^^ b.toNat % 256 : Nat) : Int)
  rw [e1, e2]
theorem gmI_G {a b : Int} (ha : 0 ≤ a ∧ a < 256) (hb : 0 ≤ b ∧ b < 256) : gmI a b = (G.of a * G.of b).int := by
  have e1 : a.toNat % 256 = a.toNat := by omega
  have e2 : b.toNat % 256 = b.toNat := by omega
  show ((gm a.toNat b.toNat : Nat) : Int) = ((gm (a.toNat % 256) (b.toNat % 256) : Nat) : Int)
  rw [e1, e2]
theorem dotTo_G {xs ys : List Int} (hx : Bytes xs) (hy : Bytes ys) (n : Nat) : dotTo xs ys n = (sum n (fun j => G.of (xs.getD j 0) * G.of (ys.getD j 0))).int := by
  induction n with
  | zero => rfl
  | succ n ih =>
    rw [dotTo, ih, gmI_G (hx.getD n) (hy.getD n), xorI_G (G.int_range _) (G.int_range _), G.of_int, G.of_int]
    rfl

theorem fillRow_len (c : Nat) (f : Nat → Nat → Int) (i : Nat) (ys : List Int) : ∀ k, (fillRow c f i k ys).length = ys.length
  | 0 => rfl
  | k + 1 => by rw [fillRow, List.length_set, fillRow_len c f i ys k]
theorem fillTo_len (r c : Nat) (f : Nat → Nat → Int) : ∀ i, (fillTo r c f i).length = r * c
  | 0 => by simp [fillTo]
  | i + 1 => by rw [fillTo, fillRow_len, fillTo_len r c f i]
theorem fillRow_get (c : Nat) (f : Nat → Nat → Int) (i : Nat) (ys : List Int) (k : Nat) (hi : i * c + c ≤ ys.length) : k ≤ c → ∀ n, (fillRow c f i k ys).getD n 0 = if i * c ≤ n ∧ n < i * c + k then f i (n - i * c) else ys.getD n 0 := by
  induction k with
  | zero => intro _ n; rw [if_neg (by omega)]; rfl
  | succ k ih =>
    intro hk n
    rw [fillRow, List.getD_eq_getElem?_getD, List.getElem?_set]
    by_cases e : i * c + k = n
    · subst e
      rw [if_pos rfl, if_pos (by rw [fillRow_len]; omega), if_pos (by omega)]
      simp
    · rw [if_neg e, ← List.getD_eq_getElem?_getD, ih (by omega)]
      by_cases h1 : i * c ≤ n ∧ n < i * c + k
      · rw [if_pos h1, if_pos (by omega)]
      · rw [if_neg h1, if_neg (by omega)]
theorem fillTo_get (r c : Nat) (f : Nat → Nat → Int) (m : Nat) (hm : m ≤ r) : ∀ i k, i < m → k < c → (fillTo r c f m).getD (i * c + k) 0 = f i k := by
  induction m with
  | zero => intro i k hi; omega
  | succ m ih =>
    intro i k hi hk
    have hle : m * c + c ≤ r * c := by
      have : (m + 1) * c ≤ r * c := Nat.mul_le_mul_right c hm
      rwa [Nat.add_mul, Nat.one_mul] at this
    rw [fillTo, fillRow_get _ _ _ _ _ (by rw [fillTo_len]; exact hle) (Nat.le_refl _)]
    by_cases e : i = m
    · subst e
      rw [if_pos (by omega)]
      congr 1; omega
    · have h1 : (i + 1) * c ≤ m * c := Nat.mul_le_mul_right c (by omega)
      rw [Nat.add_mul, Nat.one_mul] at h1
      rw [if_neg (by omega)]
      exact ih (by omega) i k (by omega) hk

theorem turnRow_get (r c : Nat) (xs : List Int) (i : Nat) (ys : List Int) (hi : i < r) (k : Nat) (hl : ys.length = r * c) : k ≤ c → ∀ j l, j < r → l < c →
    (turnRow r c xs i k ys).getD (l * r + j) 0 = if j = i ∧ l < k then xs.getD (i * c + l) 0 else ys.getD (l * r + j) 0 := by
  induction k with
  | zero => intro _ j l _ _; rw [if_neg (by omega)]; rfl
  | succ k ih =>
    intro hk j l hj hl'
    rw [turnRow, List.getD_eq_getElem?_getD, List.getElem?_set]
    have hkr : k * r + i < c * r := by
      have : (k + 1) * r ≤ c * r := Nat.mul_le_mul_right r (by omega)
      rw [Nat.add_mul] at this; omega
    by_cases e : k * r + i = l * r + j
    · have e2 : k = l ∧ i = j := by
        have h1 : (k * r + i) / r = k := by rw [Nat.mul_comm, Nat.mul_add_div (by omega), Nat.div_eq_of_lt hi]; omega
        have h2 : (l * r + j) / r = l := by rw [Nat.mul_comm, Nat.mul_add_div (by omega), Nat.div_eq_of_lt hj]; omega
        have : k = l := by rw [← h1, e, h2]
        subst this
        exact ⟨rfl, by omega⟩
      obtain ⟨rfl, rfl⟩ := e2
      rw [if_pos rfl, if_pos (by rw [turnRow_len, hl, Nat.mul_comm r c]; exact hkr), if_pos (by omega)]
      simp
    · rw [if_neg e, ← List.getD_eq_getElem?_getD, ih (by omega) j l hj hl']
      by_cases h1 : j = i ∧ l < k
      · rw [if_pos h1, if_pos (by omega)]
      · rw [if_neg h1]
        by_cases h2 : j = i ∧ l < k + 1
        · exfalso
          obtain ⟨rfl, h3⟩ := h2
          have : l = k := by
            by_cases h4 : l < k
            · exact absurd ⟨rfl, h4⟩ h1
            · omega
          subst this
          exact e rfl
        · rw [if_neg h2]
theorem turnTo_len (r c : Nat) (xs : List Int) : ∀ i, (turnTo r c xs i).length = r * c
  | 0 => by simp [turnTo]
  | i + 1 => by rw [turnTo, turnRow_len, turnTo_len r c xs i]
theorem turnTo_get (r c : Nat) (xs : List Int) (m : Nat) (hm : m ≤ r) : ∀ j l, j < m → l < c → (turnTo r c xs m).getD (l * r + j) 0 = xs.getD (j * c + l) 0 := by
  induction m with
  | zero => intro j l h; omega
  | succ m ih =>
    intro j l hj hl
    rw [turnTo, turnRow_get r c xs m _ (by omega) c (turnTo_len r c xs m) (Nat.le_refl _) j l (by omega) hl]
    by_cases e : j = m
    · subst e; rw [if_pos ⟨rfl, hl⟩]
    · rw [if_neg (by omega)]; exact ih (by omega) j l (by omega) hl

theorem mat_ext {r c : Nat} {xs ys : List Int} (hx : xs.length = r * c) (hy : ys.length = r * c) (h : ∀ i k, i < r → k < c → xs.getD (i * c + k) 0 = ys.getD (i * c + k) 0) : xs = ys := by
  apply List.ext_getElem (by omega)
  intro t h1 h2
  by_cases hc : c = 0
  · subst hc; omega
  have hi : t / c < r := by rw [Nat.div_lt_iff_lt_mul (by omega)]; omega
  have hk : t % c < c := Nat.mod_lt _ (by omega)
  have := h (t / c) (t % c) hi hk
  rw [show t / c * c + t % c = t by rw [Nat.mul_comm]; exact Nat.div_add_mod t c] at this
  rw [List.getD_eq_getElem?_getD, List.getD_eq_getElem?_getD, List.getElem?_eq_getElem h1, List.getElem?_eq_getElem h2] at this
  simpa using this

/-- The product of two matrices. -/
def prodL (r n c : Nat) (xs ys : List Int) : List Int := fillTo r c (prodAt n xs (turnTo n c ys n)) r
def turnL (r c : Nat) (xs : List Int) : List Int := turnTo r c xs r
theorem prodL_len (r n c : Nat) (xs ys : List Int) : (prodL r n c xs ys).length = r * c := fillTo_len _ _ _ _
theorem turnL_len (r c : Nat) (xs : List Int) : (turnL r c xs).length = r * c := turnTo_len _ _ _ _
theorem fillRow_bytes (c : Nat) (f : Nat → Nat → Int) (hf : ∀ i k, 0 ≤ f i k ∧ f i k < 256) (i : Nat) (ys : List Int) (hy : Bytes ys) : ∀ k, Bytes (fillRow c f i k ys)
  | 0 => hy
  | k + 1 => (fillRow_bytes c f hf i ys hy k).set _ _ (hf i k).1 (hf i k).2
theorem fillTo_bytes (r c : Nat) (f : Nat → Nat → Int) (hf : ∀ i k, 0 ≤ f i k ∧ f i k < 256) : ∀ i, Bytes (fillTo r c f i)
  | 0 => Bytes.zeros _
  | i + 1 => fillRow_bytes c f hf i _ (fillTo_bytes r c f hf i) c
theorem turnRow_bytes (r c : Nat) (xs : List Int) (hx : Bytes xs) (i : Nat) (ys : List Int) (hy : Bytes ys) : ∀ k, Bytes (turnRow r c xs i k ys)
  | 0 => hy
  | k + 1 => (turnRow_bytes r c xs hx i ys hy k).set _ _ (hx.getD _).1 (hx.getD _).2
theorem turnTo_bytes (r c : Nat) (xs : List Int) (hx : Bytes xs) : ∀ i, Bytes (turnTo r c xs i)
  | 0 => Bytes.zeros _
  | i + 1 => turnRow_bytes r c xs hx i _ (turnTo_bytes r c xs hx i) c
theorem rowOf_bytes {c : Nat} {xs : List Int} (h : Bytes xs) (i : Nat) : Bytes (rowOf c xs i) := (h.take _).drop _
theorem prodL_bytes (r n c : Nat) (xs ys : List Int) (hx : Bytes xs) : Bytes (prodL r n c xs ys) :=
  fillTo_bytes _ _ _ (fun i _ => dotTo_range _ _ (rowOf_bytes hx i) n) _
theorem turnL_bytes (r c : Nat) (xs : List Int) (hx : Bytes xs) : Bytes (turnL r c xs) := turnTo_bytes _ _ _ hx _

theorem el_turnL (r c : Nat) (xs : List Int) (i k : Nat) (hi : i < r) (hk : k < c) : el r (turnL r c xs) k i = el c xs i k := by
  unfold el turnL
  rw [turnTo_get r c xs r (Nat.le_refl _) i k hi hk]
theorem el_prodL (r n c : Nat) (xs ys : List Int) (hx : Bytes xs) (hy : Bytes ys) (i k : Nat) (hi : i < r) (hk : k < c) :
    el c (prodL r n c xs ys) i k = sum n (fun j => el n xs i j * el c ys j k) := by
  unfold prodL
  have : el c (fillTo r c (prodAt n xs (turnTo n c ys n)) r) i k = G.of (prodAt n xs (turnTo n c ys n) i k) := by
    unfold el
    rw [fillTo_get r c _ r (Nat.le_refl _) i k hi hk]
  rw [this]
  unfold prodAt
  rw [dotTo_G (rowOf_bytes hx i) (rowOf_bytes (turnTo_bytes n c ys hy n) k), G.of_int]
  refine sum_congr (fun j hj => ?_)
  rw [rowOf_get i j hj, rowOf_get k j hj, turnTo_get n c ys n (Nat.le_refl _) j k hj hk]
  rfl
theorem mat_ext_el {r c : Nat} {xs ys : List Int} (bx : Bytes xs) (by' : Bytes ys) (hx : xs.length = r * c) (hy : ys.length = r * c) (h : ∀ i k, i < r → k < c → el c xs i k = el c ys i k) : xs = ys :=
  mat_ext hx hy (fun i k hi hk => by rw [← el_int bx, ← el_int by', h i k hi hk])

/-- Products may be taken together in any way. -/
theorem prodL_assoc (r n m c : Nat) (xs ys zs : List Int) (hx : Bytes xs) (hy : Bytes ys) (hz : Bytes zs) :
    prodL r m c (prodL r n m xs ys) zs = prodL r n c xs (prodL n m c ys zs) := by
  have hxy := prodL_bytes r n m xs ys hx
  have hyz := prodL_bytes n m c ys zs hy
  refine mat_ext_el (prodL_bytes _ _ _ _ _ hxy) (prodL_bytes _ _ _ _ _ hx) (prodL_len _ _ _ _ _) (prodL_len _ _ _ _ _) (fun i k hi hk => ?_)
  rw [el_prodL r m c _ zs hxy hz i k hi hk, el_prodL r n c xs _ hx hyz i k hi hk]
  rw [sum_congr (fun l hl => by rw [el_prodL r n m xs ys hx hy i l hi hl])]
  rw [prod_assoc]
  exact sum_congr (fun j hj => by rw [el_prodL n m c ys zs hy hz j k hj hk])
/-- A product turned is that of both, turned, the other way round. -/
theorem prodL_turn (r n c : Nat) (xs ys : List Int) (hx : Bytes xs) (hy : Bytes ys) :
    prodL c n r (turnL n c ys) (turnL r n xs) = turnL r c (prodL r n c xs ys) := by
  have hxy := prodL_bytes r n c xs ys hx
  refine mat_ext_el (r := c) (c := r) (prodL_bytes _ _ _ _ _ (turnL_bytes _ _ _ hy)) (turnL_bytes _ _ _ hxy) (prodL_len _ _ _ _ _) (by rw [turnL_len, Nat.mul_comm]) (fun k i hk hi => ?_)
  rw [el_prodL c n r _ _ (turnL_bytes _ _ _ hy) (turnL_bytes _ _ _ hx) k i hk hi, el_turnL r c _ i k hi hk, el_prodL r n c xs ys hx hy i k hi hk]
  refine sum_congr (fun j hj => ?_)
  rw [el_turnL n c ys j k hj hk, el_turnL r n xs i j hi hj, Fd.mul_comm]
theorem mul_goodP (v u : Value) (r n c : Nat) (xs ys : List Int) (w : World) (h : IsMat w v r n xs) (h' : IsMat w u n c ys) :
    Calls Try.prog 21 #[v, u] w fun e w' => ∃ b s cap, e = .returned (.tuple #[.pointer (some ⟨b, 0, none⟩), .int .i64 0]) ∧ MatIn w' b s r c cap (prodL r n c xs ys) ∧ Below w.heap.size w w' ∧ w.heap.size ≤ b ∧ w.heap.size ≤ s :=
  mul_good v u r n c xs ys w h h'
theorem turned_anyP (v : Value) (r c : Nat) (xs : List Int) (w : World) (h : IsMat w v r c xs) :
    Calls Try.prog 39 #[v] w fun e w' => ∃ b s cap, e = .returned (.pointer (some ⟨b, 0, none⟩)) ∧ MatIn w' b s c r cap (turnL r c xs) ∧ Below w.heap.size w w' ∧ w.heap.size ≤ b ∧ w.heap.size ≤ s :=
  turned_any v r c xs w h
end Go.Proofs.Ytojaekhplohbjaa.Mat
/- The statement SolveDets, walked by hand. -/
namespace Go.Proofs.Ytojaekhplohbjaa.Sol
open Go Go.RowKit Go.Proofs.Ytojaekhplohbjaa.Gi Go.Proofs.Ytojaekhplohbjaa.Gf Go.Proofs.Ytojaekhplohbjaa.Alg Go.Proofs.Ytojaekhplohbjaa.Mem Go.Proofs.Ytojaekhplohbjaa.Bits Go.Proofs.Ytojaekhplohbjaa.Rws Go.Proofs.Ytojaekhplohbjaa.Opn Go.Proofs.YtojaekhplohbjaaW.PrintWords
set_option linter.unusedVariables false

set_option maxRecDepth 100000 in
theorem sd_no1 (A A1 : Option Addr) (c0 c1 k : Nat) (ls : List (List Int)) (w : World) (h : Mat.RowsC w A ls) (hl : ls.length ≤ c0) (hn : ¬ Small4 ls) :
    Calls Try.prog 5 #[.slice A ls.length c0, .slice A1 k c1] w fun e w' => e = .returned (.bool true) ∧ Below w.heap.size w w' := by
  have SM := Lib.hid (small4_calls A c0 ls false w h hl (decide_eq_false hn))
  clear h hn
  go_enter Try.func5, Try.ntmps5
  go_wp2_with (first
    | (go_at_call 6; (with_reducible refine SM.out.mono ?_); rintro e w1 ⟨rfl, hb⟩; have HB := Lib.hid hb; clear hb)
    | (go_at_call 7; (with_reducible refine (awake4 _).mono ?_); rintro e w9 ⟨rfl, hb⟩; have HB9 := Lib.hid (HB.out.trans (hb.mono HB.out.size)); clear hb))
  go_ret
  exact ⟨rfl, HB9.out⟩
set_option maxRecDepth 100000 in
theorem sd_no2 (A A1 : Option Addr) (c0 c1 : Nat) (la lb : List (List Int)) (w : World) (h : Mat.RowsC w A la) (hl : la.length ≤ c0) (hy : Small4 la) (h' : Mat.RowsC w A1 lb) (hl' : lb.length ≤ c1) (hn : ¬ Small4 lb) :
    Calls Try.prog 5 #[.slice A la.length c0, .slice A1 lb.length c1] w fun e w' => e = .returned (.bool true) ∧ Below w.heap.size w w' := by
  have SM := Lib.hid (small4_calls A c0 la true w h hl (decide_eq_true hy))
  have SN := Lib.hid (fun W (hB : Below w.heap.size w W) => small4_calls A1 c1 lb false W (Kd.C_below h' hB) hl' (decide_eq_false hn))
  clear h hn h' hy
  go_enter Try.func5, Try.ntmps5
  go_wp2_with (first
    | (go_at_call 6; (first
        | ((with_reducible refine SM.out.mono ?_); rintro e w1 ⟨rfl, hb⟩; have HB := Lib.hid hb; clear hb)
        | ((with_reducible refine (SN.out _ HB.out).mono ?_); rintro e w1 ⟨rfl, hb⟩; have HBn := Lib.hid (HB.out.trans (hb.mono HB.out.size)); clear HB hb; have HB := HBn; clear HBn)))
    | (go_at_call 7; (with_reducible refine (awake4 _).mono ?_); rintro e w9 ⟨rfl, hb⟩; have HB9 := Lib.hid (HB.out.trans (hb.mono HB.out.size)); clear hb))
  go_ret
  exact ⟨rfl, HB9.out⟩
/-- A product's determinant is the product. -/
theorem det_prd {n : Nat} {A B : Mtx} (hA : BytM A) (hB : BytM B) : detI n (prd n n A B) = gmI (detI n A) (detI n B) := by
  have h1 := detI_of n A hA
  have h2 := detI_of n B hB
  have h3 := detI_of n (prd n n A B) (prd_byt hA)
  refine G.of_inj h3.1 (gmI_byt h1.1) ?_
  rw [h3.2, of_gm h1.1 h2.1, h1.2, h2.2, ← det_mul hA (el B)]
  exact detF_congr n (fun i j hi hj => by
    show G.of (prd n n A B i j) = _
    rw [of_prd hA hB i hi j hj]
    rfl)
/-- Det, called. -/
theorem det_mat (n b s cap : Nat) (A : Mtx) (w : World) (hA : BytM A) (h : Mat.MatIn w b s n n cap (Mat.flat (mat n n A))) :
    Calls Try.prog 19 #[.pointer (some ⟨b, 0, none⟩)] w fun e w' => e = .returned (.tuple #[.int .u8 (detI n A), .int .i64 0]) ∧ Below w.heap.size w w' := by
  refine (det_good b s cap n _ w h).mono ?_
  rintro e w' ⟨d, rfl, hd, hb⟩
  rw [det_is hA h.byt hd]
  exact ⟨rfl, hb⟩
/-- The error that Invert tells. -/
def erI (t n : Nat) : Int := if t = n then 0 else 23
theorem inv_any2 (n t0 b s cap : Nat) (A C0 : Mtx) (w : World) (h : Mat.MatIn w b s n n cap (Mat.flat (mat n n A))) (hA : BytM A) (hst : StepsTo n A n t0 C0) :
    Calls Try.prog 16 #[.pointer (some ⟨b, 0, none⟩)] w fun e w' => ∃ v, e = .returned (.tuple #[.pointer v, .int .i64 (erI t0 n)]) ∧ Below w.heap.size w w' := by
  by_cases ht : t0 = n
  · refine (invert_wholeE b s cap n t0 A C0 w h hA hst ht).mono ?_
    rintro e w' ⟨b1, s1, cap1, Z, rfl, _, _, hb⟩
    exact ⟨_, by rw [erI, if_pos ht], hb⟩
  · refine (invert_sing b s cap n t0 A C0 w h hA hst (by have := hst.le.1; omega)).mono ?_
    rintro e w' ⟨rfl, hb⟩
    exact ⟨_, by rw [erI, if_neg ht], hb⟩
theorem er_iff {n t0 : Nat} {A C0 : Mtx} (hA : BytM A) (hst : StepsTo n A n t0 C0) : (detI n A != 0) = (erI t0 n == 0) := by
  have h := detI_iff hA hst
  by_cases ht : t0 = n
  · rw [erI, if_pos ht]
    have := h.2 ht
    simp [this]
  · rw [erI, if_neg ht]
    have : detI n A = 0 := Int.decEq _ _ |>.byContradiction (fun e => ht (h.1 e))
    simp [this]
theorem mat_flat_len (n m : Nat) (M : Mtx) : (Mat.flat (mat n m M)).length = n * m := by
  induction n with
  | zero => simp [mat, Mat.flat]
  | succ n ih =>
    rw [mat_succ]
    unfold Mat.flat at ih ⊢
    rw [List.flatten_append, List.length_append, ih, Nat.succ_mul]
    simp [line_len]
theorem mul_mat (n b s cap b1 s1 cap1 : Nat) (A B : Mtx) (w : World) (hA : BytM A) (hB : BytM B) (h : Mat.MatIn w b s n n cap (Mat.flat (mat n n A))) (h' : Mat.MatIn w b1 s1 n n cap1 (Mat.flat (mat n n B))) :
    Calls Try.prog 21 #[.pointer (some ⟨b, 0, none⟩), .pointer (some ⟨b1, 0, none⟩)] w fun e w' => ∃ b s cap, e = .returned (.tuple #[.pointer (some ⟨b, 0, none⟩), .int .i64 0]) ∧ Mat.MatIn w' b s n n cap (Mat.flat (mat n n (prd n n A B))) ∧ Below w.heap.size w w' := by
  refine (Mat.mul_goodP _ _ n n n _ _ w ⟨b, s, cap, rfl, h⟩ ⟨b1, s1, cap1, rfl, h'⟩).mono ?_
  rintro e w' ⟨b2, s2, cap2, rfl, hp, hb, _⟩
  refine ⟨b2, s2, cap2, rfl, ?_, hb⟩
  have bA := Mat.flat_bytes (mat_bytes n n hA)
  have bB := Mat.flat_bytes (mat_bytes n n hB)
  have bP := Mat.flat_bytes (mat_bytes n n (prd_byt (n := n) (q := n) (Z := B) hA))
  have e : Mat.prodL n n n (Mat.flat (mat n n A)) (Mat.flat (mat n n B)) = Mat.flat (mat n n (prd n n A B)) := by
    refine Mat.mat_ext_el (r := n) (c := n) (Mat.prodL_bytes _ _ _ _ _ bA) bP (Mat.prodL_len _ _ _ _ _) (mat_flat_len n n _) (fun i k hi hk => ?_)
    rw [Mat.el_prodL n n n _ _ bA bB i k hi hk]
    have e1 := flat_mx n n (prd n n A B) i k hi hk
    unfold mx at e1
    unfold Mat.el
    rw [e1, of_prd hA hB i hi k hk]
    unfold dotF
    refine sum_congr (fun j hj => ?_)
    have e2 := flat_mx n n A i j hi hj
    have e3 := flat_mx n n B j k hj hk
    unfold mx at e2 e3
    rw [e2, e3]
    rfl
  rw [e] at hp
  exact hp
theorem mul_other (n k q b s cap b1 s1 cap1 : Nat) (xs ys : List Int) (w : World) (h : Mat.MatIn w b s n n cap xs) (h' : Mat.MatIn w b1 s1 k q cap1 ys) (hne : n ≠ k) :
    Calls Try.prog 21 #[.pointer (some ⟨b, 0, none⟩), .pointer (some ⟨b1, 0, none⟩)] w fun e w' => e = .returned (.tuple #[.pointer none, .int .i64 1]) ∧ Below w.heap.size w w' := by
  refine (Mat.mul_bad _ _ n n k q xs ys w ⟨b, s, cap, rfl, h⟩ ⟨b1, s1, cap1, rfl, h'⟩ hne).mono ?_
  rintro e w' ⟨rfl, j, rfl⟩
  exact ⟨rfl, pw_below_drewN (Below.refl _ _) j⟩
theorem mul_ok (n q b s cap b1 s1 cap1 : Nat) (xs ys : List Int) (w : World) (h : Mat.MatIn w b s n n cap xs) (h' : Mat.MatIn w b1 s1 n q cap1 ys) :
    Calls Try.prog 21 #[.pointer (some ⟨b, 0, none⟩), .pointer (some ⟨b1, 0, none⟩)] w fun e w' => ∃ b, e = .returned (.tuple #[.pointer (some ⟨b, 0, none⟩), .int .i64 0]) ∧ Below w.heap.size w w' :=
  (Mat.mul_good _ _ n n q _ _ w ⟨b, s, cap, rfl, h⟩ ⟨b1, s1, cap1, rfl, h'⟩).mono fun e w' ⟨b2, s2, cap2, he, hp, hb, _⟩ => ⟨b2, he, hb⟩
section
variable (n m k q c0 c1 : Nat) (A A1 : Option Addr) (M0 B0 : Mtx) (w : World)
set_option maxRecDepth 100000 in
theorem sd_long (hA : Kd.C kRow w A n (mat n m M0)) (hA1 : Kd.C kRow w A1 k (mat k q B0)) (hM : BytM M0) (hB : BytM B0) (hN : n ≤ c0 ∧ 1 ≤ n ∧ n ≤ 9 ∧ 1 ≤ m ∧ m ≤ 9) (hK : k ≤ c1 ∧ 1 ≤ k ∧ k ≤ 9 ∧ 1 ≤ q ∧ q ≤ 9) (hne : ¬ (n ≤ 6 ∧ k ≤ 6)) :
    Calls Try.prog 5 #[.slice A n c0, .slice A1 k c1] w fun e w' => e = .returned (.bool true) ∧ Below w.heap.size w w' := by
  have HR := Lib.hid hA
  have HRB := Lib.hid hA1
  have H0 := Lib.hid hM
  have HB0 := Lib.hid hB
  have HN := Lib.hid hN
  have HK := Lib.hid hK
  have HB := Lib.hid (Below.refl w.heap.size w)
  clear hA hA1 hM hB hN hK
  rcases Nat.lt_or_ge 6 n with h6 | h6
  · have g6 : (6 : Int) < (n : Int) := by omega
    clear hne h6
    go_enter Try.func5, Try.ntmps5
    go_wp2_with (first
      | (go_at_call 6; (first
          | (with_reducible refine (small_yes n _ c0 A M0 _ HR.out HN.out.1 HN.out.2.1 HN.out.2.2.1 HN.out.2.2.2.1 HN.out.2.2.2.2).mono ?_)
          | (with_reducible refine (small_yes k q c1 A1 B0 _ HRB.out HK.out.1 HK.out.2.1 HK.out.2.2.1 HK.out.2.2.2.1 HK.out.2.2.2.2).mono ?_)); rintro e w1 ⟨rfl, hb⟩; (try replace HX1 := Lib.hid (Kd.C_below HX1.out hb)); (try replace HX2 := Lib.hid (Kd.C_below HX2.out hb)); (try replace HX3 := Lib.hid (Kd.C_below HX3.out hb)); (try replace HM := Lib.hid (HM.out.below hb)); (try replace HMB := Lib.hid (HMB.out.below hb)); (try replace HP := Lib.hid (HP.out.below hb)); replace HR := Lib.hid (Kd.C_below HR.out hb); replace HRB := Lib.hid (Kd.C_below HRB.out hb); replace HB := Lib.hid (HB.out.trans (hb.mono HB.out.size)); clear hb)
      | (go_at_call 8; (first
          | ((with_reducible refine (of_mat n _ c0 A M0 _ HR.out HN.out.1 H0.out HN.out.2.1 (Nat.le_trans HN.out.2.2.1 (by decide)) HN.out.2.2.2.1 (Nat.le_trans HN.out.2.2.2.2 (by decide))).mono ?_); rintro e w2 ⟨b, s, cap, rfl, hm, hb⟩; (try replace HX1 := Lib.hid (Kd.C_below HX1.out hb)); (try replace HX2 := Lib.hid (Kd.C_below HX2.out hb)); (try replace HX3 := Lib.hid (Kd.C_below HX3.out hb)); (try replace HM := Lib.hid (HM.out.below hb)); (try replace HMB := Lib.hid (HMB.out.below hb)); (try replace HP := Lib.hid (HP.out.below hb)); replace HR := Lib.hid (Kd.C_below HR.out hb); replace HRB := Lib.hid (Kd.C_below HRB.out hb); replace HB := Lib.hid (HB.out.trans (hb.mono HB.out.size)); clear hb; have HM := Lib.hid hm; clear hm)
          | ((with_reducible refine (of_mat k q c1 A1 B0 _ HRB.out HK.out.1 HB0.out HK.out.2.1 (Nat.le_trans HK.out.2.2.1 (by decide)) HK.out.2.2.2.1 (Nat.le_trans HK.out.2.2.2.2 (by decide))).mono ?_); rintro e w2 ⟨bb, sb, capb, rfl, hm, hb⟩; (try replace HX1 := Lib.hid (Kd.C_below HX1.out hb)); (try replace HX2 := Lib.hid (Kd.C_below HX2.out hb)); (try replace HX3 := Lib.hid (Kd.C_below HX3.out hb)); (try replace HM := Lib.hid (HM.out.below hb)); (try replace HMB := Lib.hid (HMB.out.below hb)); (try replace HP := Lib.hid (HP.out.below hb)); replace HR := Lib.hid (Kd.C_below HR.out hb); replace HRB := Lib.hid (Kd.C_below HRB.out hb); replace HB := Lib.hid (HB.out.trans (hb.mono HB.out.size)); clear hb; have HMB := Lib.hid hm; clear hm)))
      | (go_at_call 7; (with_reducible refine (awake4 _).mono ?_); rintro e w9 ⟨rfl, hb⟩; have HB9 := Lib.hid (HB.out.trans (hb.mono HB.out.size)); clear hb))
    go_ret
    exact ⟨rfl, HB9.out⟩
  · have g6 : ¬ (6 : Int) < (n : Int) := by omega
    have g7 : (6 : Int) < (k : Int) := by omega
    clear hne h6
    go_enter Try.func5, Try.ntmps5
    go_wp2_with (first
      | (go_at_call 6; (first
          | (with_reducible refine (small_yes n _ c0 A M0 _ HR.out HN.out.1 HN.out.2.1 HN.out.2.2.1 HN.out.2.2.2.1 HN.out.2.2.2.2).mono ?_)
          | (with_reducible refine (small_yes k q c1 A1 B0 _ HRB.out HK.out.1 HK.out.2.1 HK.out.2.2.1 HK.out.2.2.2.1 HK.out.2.2.2.2).mono ?_)); rintro e w1 ⟨rfl, hb⟩; (try replace HX1 := Lib.hid (Kd.C_below HX1.out hb)); (try replace HX2 := Lib.hid (Kd.C_below HX2.out hb)); (try replace HX3 := Lib.hid (Kd.C_below HX3.out hb)); (try replace HM := Lib.hid (HM.out.below hb)); (try replace HMB := Lib.hid (HMB.out.below hb)); (try replace HP := Lib.hid (HP.out.below hb)); replace HR := Lib.hid (Kd.C_below HR.out hb); replace HRB := Lib.hid (Kd.C_below HRB.out hb); replace HB := Lib.hid (HB.out.trans (hb.mono HB.out.size)); clear hb)
      | (go_at_call 8; (first
          | ((with_reducible refine (of_mat n _ c0 A M0 _ HR.out HN.out.1 H0.out HN.out.2.1 (Nat.le_trans HN.out.2.2.1 (by decide)) HN.out.2.2.2.1 (Nat.le_trans HN.out.2.2.2.2 (by decide))).mono ?_); rintro e w2 ⟨b, s, cap, rfl, hm, hb⟩; (try replace HX1 := Lib.hid (Kd.C_below HX1.out hb)); (try replace HX2 := Lib.hid (Kd.C_below HX2.out hb)); (try replace HX3 := Lib.hid (Kd.C_below HX3.out hb)); (try replace HM := Lib.hid (HM.out.below hb)); (try replace HMB := Lib.hid (HMB.out.below hb)); (try replace HP := Lib.hid (HP.out.below hb)); replace HR := Lib.hid (Kd.C_below HR.out hb); replace HRB := Lib.hid (Kd.C_below HRB.out hb); replace HB := Lib.hid (HB.out.trans (hb.mono HB.out.size)); clear hb; have HM := Lib.hid hm; clear hm)
          | ((with_reducible refine (of_mat k q c1 A1 B0 _ HRB.out HK.out.1 HB0.out HK.out.2.1 (Nat.le_trans HK.out.2.2.1 (by decide)) HK.out.2.2.2.1 (Nat.le_trans HK.out.2.2.2.2 (by decide))).mono ?_); rintro e w2 ⟨bb, sb, capb, rfl, hm, hb⟩; (try replace HX1 := Lib.hid (Kd.C_below HX1.out hb)); (try replace HX2 := Lib.hid (Kd.C_below HX2.out hb)); (try replace HX3 := Lib.hid (Kd.C_below HX3.out hb)); (try replace HM := Lib.hid (HM.out.below hb)); (try replace HMB := Lib.hid (HMB.out.below hb)); (try replace HP := Lib.hid (HP.out.below hb)); replace HR := Lib.hid (Kd.C_below HR.out hb); replace HRB := Lib.hid (Kd.C_below HRB.out hb); replace HB := Lib.hid (HB.out.trans (hb.mono HB.out.size)); clear hb; have HMB := Lib.hid hm; clear hm)))
      | (go_at_call 7; (with_reducible refine (awake4 _).mono ?_); rintro e w9 ⟨rfl, hb⟩; have HB9 := Lib.hid (HB.out.trans (hb.mono HB.out.size)); clear hb))
    go_ret
    exact ⟨rfl, HB9.out⟩
set_option maxRecDepth 100000 in
set_option maxHeartbeats 4000000 in
theorem sd_rect (hA : Kd.C kRow w A n (mat n m M0)) (hA1 : Kd.C kRow w A1 k (mat k q B0)) (hM : BytM M0) (hB : BytM B0) (hN : n ≤ c0 ∧ 1 ≤ n ∧ n ≤ 9 ∧ 1 ≤ m ∧ m ≤ 9) (hK : k ≤ c1 ∧ 1 ≤ k ∧ k ≤ 9 ∧ 1 ≤ q ∧ q ≤ 9) (h6 : n ≤ 6) (h7 : k ≤ 6) (hne : n ≠ m) :
    Calls Try.prog 5 #[.slice A n c0, .slice A1 k c1] w fun e w' => e = .returned (.bool true) ∧ Below w.heap.size w w' := by
  have HR := Lib.hid hA
  have HRB := Lib.hid hA1
  have H0 := Lib.hid hM
  have HB0 := Lib.hid hB
  have HN := Lib.hid hN
  have HK := Lib.hid hK
  have HB := Lib.hid (Below.refl w.heap.size w)
  have g6 : ¬ (6 : Int) < (n : Int) := by omega
  have g7 : ¬ (6 : Int) < (k : Int) := by omega
  have g0 : (0 : Int) < (n : Int) := by omega
  have gk : (0 : Int) < (k : Int) := by omega
  have HNE := Lib.hid hne
  have t1 : ((n : Int) != (m : Int)) = true := by simp; omega
  clear hA hA1 hM hB hN hK h6 h7 hne
  go_enter Try.func5, Try.ntmps5
  go_upto_region 6 with (first
    | (go_at_call 6; (first
        | (with_reducible refine (small_yes n _ c0 A M0 _ HR.out HN.out.1 HN.out.2.1 HN.out.2.2.1 HN.out.2.2.2.1 HN.out.2.2.2.2).mono ?_)
        | (with_reducible refine (small_yes k q c1 A1 B0 _ HRB.out HK.out.1 HK.out.2.1 HK.out.2.2.1 HK.out.2.2.2.1 HK.out.2.2.2.2).mono ?_)); rintro e w1 ⟨rfl, hb⟩; (try replace HX1 := Lib.hid (Kd.C_below HX1.out hb)); (try replace HX2 := Lib.hid (Kd.C_below HX2.out hb)); (try replace HX3 := Lib.hid (Kd.C_below HX3.out hb)); (try replace HM := Lib.hid (HM.out.below hb)); (try replace HMB := Lib.hid (HMB.out.below hb)); (try replace HP := Lib.hid (HP.out.below hb)); replace HR := Lib.hid (Kd.C_below HR.out hb); replace HRB := Lib.hid (Kd.C_below HRB.out hb); replace HB := Lib.hid (HB.out.trans (hb.mono HB.out.size)); clear hb)
    | (go_at_call 8; (first
        | ((with_reducible refine (of_mat n _ c0 A M0 _ HR.out HN.out.1 H0.out HN.out.2.1 (Nat.le_trans HN.out.2.2.1 (by decide)) HN.out.2.2.2.1 (Nat.le_trans HN.out.2.2.2.2 (by decide))).mono ?_); rintro e w2 ⟨b, s, cap, rfl, hm, hb⟩; (try replace HX1 := Lib.hid (Kd.C_below HX1.out hb)); (try replace HX2 := Lib.hid (Kd.C_below HX2.out hb)); (try replace HX3 := Lib.hid (Kd.C_below HX3.out hb)); (try replace HM := Lib.hid (HM.out.below hb)); (try replace HMB := Lib.hid (HMB.out.below hb)); (try replace HP := Lib.hid (HP.out.below hb)); replace HR := Lib.hid (Kd.C_below HR.out hb); replace HRB := Lib.hid (Kd.C_below HRB.out hb); replace HB := Lib.hid (HB.out.trans (hb.mono HB.out.size)); clear hb; have HM := Lib.hid hm; clear hm)
        | ((with_reducible refine (of_mat k q c1 A1 B0 _ HRB.out HK.out.1 HB0.out HK.out.2.1 (Nat.le_trans HK.out.2.2.1 (by decide)) HK.out.2.2.2.1 (Nat.le_trans HK.out.2.2.2.2 (by decide))).mono ?_); rintro e w2 ⟨bb, sb, capb, rfl, hm, hb⟩; (try replace HX1 := Lib.hid (Kd.C_below HX1.out hb)); (try replace HX2 := Lib.hid (Kd.C_below HX2.out hb)); (try replace HX3 := Lib.hid (Kd.C_below HX3.out hb)); (try replace HM := Lib.hid (HM.out.below hb)); (try replace HMB := Lib.hid (HMB.out.below hb)); (try replace HP := Lib.hid (HP.out.below hb)); replace HR := Lib.hid (Kd.C_below HR.out hb); replace HRB := Lib.hid (Kd.C_below HRB.out hb); replace HB := Lib.hid (HB.out.trans (hb.mono HB.out.size)); clear hb; have HMB := Lib.hid hm; clear hm)))
    | (go_at_call 19; ((with_reducible refine (det_sizes b s cap n m _ _ HM.out HNE.out).mono ?_); rintro e w3 ⟨rfl, hb⟩; (try replace HX1 := Lib.hid (Kd.C_below HX1.out hb)); (try replace HX2 := Lib.hid (Kd.C_below HX2.out hb)); (try replace HX3 := Lib.hid (Kd.C_below HX3.out hb)); (try replace HM := Lib.hid (HM.out.below hb)); (try replace HMB := Lib.hid (HMB.out.below hb)); (try replace HP := Lib.hid (HP.out.below hb)); replace HR := Lib.hid (Kd.C_below HR.out hb); replace HRB := Lib.hid (Kd.C_below HRB.out hb); replace HB := Lib.hid (HB.out.trans (hb.mono HB.out.size)); clear hb)))
  obtain ⟨ad, A2, c2, e2, hcell, _, _⟩ := mrow HR.out 0 (by omega)
  rw [show ad.add 0 = ad from rfl] at hcell
  have HAD := Lib.hid e2
  subst e2
  go_wp2_with (first
    | (go_at_call 7; (with_reducible refine (awake4 _).mono ?_); rintro e w9 ⟨rfl, hb⟩; have HB9 := Lib.hid (HB.out.trans (hb.mono HB.out.size)); clear hb))
  go_ret
  exact ⟨rfl, HB9.out⟩
end
section
variable (n k q c0 c1 t0 : Nat) (A A1 : Option Addr) (M0 B0 C0 : Mtx) (w : World)
set_option maxRecDepth 100000 in
set_option maxHeartbeats 4000000 in
theorem sd_other (hA : Kd.C kRow w A n (mat n n M0)) (hA1 : Kd.C kRow w A1 k (mat k q B0)) (hM : BytM M0) (hB : BytM B0) (hN : n ≤ c0 ∧ 1 ≤ n ∧ n ≤ 9 ∧ 1 ≤ n ∧ n ≤ 9) (hK : k ≤ c1 ∧ 1 ≤ k ∧ k ≤ 9 ∧ 1 ≤ q ∧ q ≤ 9) (h6 : n ≤ 6) (h7 : k ≤ 6) (hst : StepsTo n M0 n t0 C0) (hne : k ≠ n) :
    Calls Try.prog 5 #[.slice A n c0, .slice A1 k c1] w fun e w' => e = .returned (.bool true) ∧ Below w.heap.size w w' := by
  have HR := Lib.hid hA
  have HRB := Lib.hid hA1
  have H0 := Lib.hid hM
  have HB0 := Lib.hid hB
  have HN := Lib.hid hN
  have HK := Lib.hid hK
  have HST := Lib.hid hst
  have HB := Lib.hid (Below.refl w.heap.size w)
  have g6 : ¬ (6 : Int) < (n : Int) := by omega
  have g7 : ¬ (6 : Int) < (k : Int) := by omega
  have g0 : (0 : Int) < (n : Int) := by omega
  have gk : (0 : Int) < (k : Int) := by omega
  have t1 : ((n : Int) != (n : Int)) = false := by simp
  obtain ⟨bv, hbv⟩ : ∃ bv : Bool, bv = (erI t0 n == 0) := ⟨_, rfl⟩
  have te : (detI n M0 != 0) = bv := by rw [hbv]; exact er_iff hM hst
  have ter := hbv.symm
  have HNE := Lib.hid (fun e : n = k => hne e.symm)
  clear hA hA1 hM hB hN hK h6 h7 hst hbv hne
  go_enter Try.func5, Try.ntmps5
  go_upto_region 6 with (first
    | (go_at_call 6; (first
        | (with_reducible refine (small_yes n _ c0 A M0 _ HR.out HN.out.1 HN.out.2.1 HN.out.2.2.1 HN.out.2.2.2.1 HN.out.2.2.2.2).mono ?_)
        | (with_reducible refine (small_yes k q c1 A1 B0 _ HRB.out HK.out.1 HK.out.2.1 HK.out.2.2.1 HK.out.2.2.2.1 HK.out.2.2.2.2).mono ?_)); rintro e w1 ⟨rfl, hb⟩; (try replace HX1 := Lib.hid (Kd.C_below HX1.out hb)); (try replace HX2 := Lib.hid (Kd.C_below HX2.out hb)); (try replace HX3 := Lib.hid (Kd.C_below HX3.out hb)); (try replace HM := Lib.hid (HM.out.below hb)); (try replace HMB := Lib.hid (HMB.out.below hb)); (try replace HP := Lib.hid (HP.out.below hb)); replace HR := Lib.hid (Kd.C_below HR.out hb); replace HRB := Lib.hid (Kd.C_below HRB.out hb); replace HB := Lib.hid (HB.out.trans (hb.mono HB.out.size)); clear hb)
    | (go_at_call 8; (first
        | ((with_reducible refine (of_mat n _ c0 A M0 _ HR.out HN.out.1 H0.out HN.out.2.1 (Nat.le_trans HN.out.2.2.1 (by decide)) HN.out.2.2.2.1 (Nat.le_trans HN.out.2.2.2.2 (by decide))).mono ?_); rintro e w2 ⟨b, s, cap, rfl, hm, hb⟩; (try replace HX1 := Lib.hid (Kd.C_below HX1.out hb)); (try replace HX2 := Lib.hid (Kd.C_below HX2.out hb)); (try replace HX3 := Lib.hid (Kd.C_below HX3.out hb)); (try replace HM := Lib.hid (HM.out.below hb)); (try replace HMB := Lib.hid (HMB.out.below hb)); (try replace HP := Lib.hid (HP.out.below hb)); replace HR := Lib.hid (Kd.C_below HR.out hb); replace HRB := Lib.hid (Kd.C_below HRB.out hb); replace HB := Lib.hid (HB.out.trans (hb.mono HB.out.size)); clear hb; have HM := Lib.hid hm; clear hm)
        | ((with_reducible refine (of_mat k q c1 A1 B0 _ HRB.out HK.out.1 HB0.out HK.out.2.1 (Nat.le_trans HK.out.2.2.1 (by decide)) HK.out.2.2.2.1 (Nat.le_trans HK.out.2.2.2.2 (by decide))).mono ?_); rintro e w2 ⟨bb, sb, capb, rfl, hm, hb⟩; (try replace HX1 := Lib.hid (Kd.C_below HX1.out hb)); (try replace HX2 := Lib.hid (Kd.C_below HX2.out hb)); (try replace HX3 := Lib.hid (Kd.C_below HX3.out hb)); (try replace HM := Lib.hid (HM.out.below hb)); (try replace HMB := Lib.hid (HMB.out.below hb)); (try replace HP := Lib.hid (HP.out.below hb)); replace HR := Lib.hid (Kd.C_below HR.out hb); replace HRB := Lib.hid (Kd.C_below HRB.out hb); replace HB := Lib.hid (HB.out.trans (hb.mono HB.out.size)); clear hb; have HMB := Lib.hid hm; clear hm)))
    | (go_at_call 19; ((with_reducible refine (det_mat n b s cap M0 _ H0.out HM.out).mono ?_); rintro e w3 ⟨rfl, hb⟩; (try replace HX1 := Lib.hid (Kd.C_below HX1.out hb)); (try replace HX2 := Lib.hid (Kd.C_below HX2.out hb)); (try replace HX3 := Lib.hid (Kd.C_below HX3.out hb)); (try replace HM := Lib.hid (HM.out.below hb)); (try replace HMB := Lib.hid (HMB.out.below hb)); (try replace HP := Lib.hid (HP.out.below hb)); replace HR := Lib.hid (Kd.C_below HR.out hb); replace HRB := Lib.hid (Kd.C_below HRB.out hb); replace HB := Lib.hid (HB.out.trans (hb.mono HB.out.size)); clear hb)))
  obtain ⟨ad, A2, c2, e2, hcell, _, _⟩ := mrow HR.out 0 (by omega)
  rw [show ad.add 0 = ad from rfl] at hcell
  have HAD := Lib.hid e2
  subst e2
  go_wp2_with (first
    | (go_at_call 16; (with_reducible refine (inv_any2 n t0 b s cap M0 C0 _ HM.out H0.out HST.out).mono ?_); rintro e w4 ⟨v, rfl, hb⟩; (try replace HX1 := Lib.hid (Kd.C_below HX1.out hb)); (try replace HX2 := Lib.hid (Kd.C_below HX2.out hb)); (try replace HX3 := Lib.hid (Kd.C_below HX3.out hb)); (try replace HM := Lib.hid (HM.out.below hb)); (try replace HMB := Lib.hid (HMB.out.below hb)); (try replace HP := Lib.hid (HP.out.below hb)); replace HR := Lib.hid (Kd.C_below HR.out hb); replace HRB := Lib.hid (Kd.C_below HRB.out hb); replace HB := Lib.hid (HB.out.trans (hb.mono HB.out.size)); clear hb)
    | (go_at_call 20; (with_reducible refine (rdet_any n c0 _ M0 _ HR.out H0.out (Nat.le_trans HN.out.2.2.1 (by decide))).mono ?_); rintro e w5 ⟨rfl, hb⟩; (try replace HX1 := Lib.hid (Kd.C_below HX1.out hb)); (try replace HX2 := Lib.hid (Kd.C_below HX2.out hb)); (try replace HX3 := Lib.hid (Kd.C_below HX3.out hb)); (try replace HM := Lib.hid (HM.out.below hb)); (try replace HMB := Lib.hid (HMB.out.below hb)); (try replace HP := Lib.hid (HP.out.below hb)); replace HR := Lib.hid (Kd.C_below HR.out hb); replace HRB := Lib.hid (Kd.C_below HRB.out hb); replace HB := Lib.hid (HB.out.trans (hb.mono HB.out.size)); clear hb)
    | (go_at_call 21; (with_reducible refine (mul_other n k q b s cap bb sb capb _ _ _ HM.out HMB.out HNE.out).mono ?_); rintro e w6 ⟨rfl, hb⟩; (try replace HX1 := Lib.hid (Kd.C_below HX1.out hb)); (try replace HX2 := Lib.hid (Kd.C_below HX2.out hb)); (try replace HX3 := Lib.hid (Kd.C_below HX3.out hb)); (try replace HM := Lib.hid (HM.out.below hb)); (try replace HMB := Lib.hid (HMB.out.below hb)); (try replace HP := Lib.hid (HP.out.below hb)); replace HR := Lib.hid (Kd.C_below HR.out hb); replace HRB := Lib.hid (Kd.C_below HRB.out hb); replace HB := Lib.hid (HB.out.trans (hb.mono HB.out.size)); clear hb)
    | (go_at_call 7; (with_reducible refine (awake4 _).mono ?_); rintro e w9 ⟨rfl, hb⟩; have HB9 := Lib.hid (HB.out.trans (hb.mono HB.out.size)); clear hb))
  go_ret
  exact ⟨rfl, HB9.out⟩
set_option maxRecDepth 100000 in
set_option maxHeartbeats 4000000 in
theorem sd_wide (hA : Kd.C kRow w A n (mat n n M0)) (hA1 : Kd.C kRow w A1 n (mat n q B0)) (hM : BytM M0) (hB : BytM B0) (hN : n ≤ c0 ∧ 1 ≤ n ∧ n ≤ 9 ∧ 1 ≤ n ∧ n ≤ 9) (hK : n ≤ c1 ∧ 1 ≤ n ∧ n ≤ 9 ∧ 1 ≤ q ∧ q ≤ 9) (h6 : n ≤ 6) (h7 : n ≤ 6) (hst : StepsTo n M0 n t0 C0) (hne : q ≠ n) :
    Calls Try.prog 5 #[.slice A n c0, .slice A1 n c1] w fun e w' => e = .returned (.bool true) ∧ Below w.heap.size w w' := by
  have HR := Lib.hid hA
  have HRB := Lib.hid hA1
  have H0 := Lib.hid hM
  have HB0 := Lib.hid hB
  have HN := Lib.hid hN
  have HK := Lib.hid hK
  have HST := Lib.hid hst
  have HB := Lib.hid (Below.refl w.heap.size w)
  have g6 : ¬ (6 : Int) < (n : Int) := by omega
  have g7 : ¬ (6 : Int) < (n : Int) := by omega
  have g0 : (0 : Int) < (n : Int) := by omega
  have gk : (0 : Int) < (n : Int) := by omega
  have t1 : ((n : Int) != (n : Int)) = false := by simp
  obtain ⟨bv, hbv⟩ : ∃ bv : Bool, bv = (erI t0 n == 0) := ⟨_, rfl⟩
  have te : (detI n M0 != 0) = bv := by rw [hbv]; exact er_iff hM hst
  have ter := hbv.symm
  have t4 : ((n : Int) != (q : Int)) = true := by simp; omega
  clear hA hA1 hM hB hN hK h6 h7 hst hbv hne
  go_enter Try.func5, Try.ntmps5
  go_upto_region 6 with (first
    | (go_at_call 6; (first
        | (with_reducible refine (small_yes n _ c0 A M0 _ HR.out HN.out.1 HN.out.2.1 HN.out.2.2.1 HN.out.2.2.2.1 HN.out.2.2.2.2).mono ?_)
        | (with_reducible refine (small_yes n q c1 A1 B0 _ HRB.out HK.out.1 HK.out.2.1 HK.out.2.2.1 HK.out.2.2.2.1 HK.out.2.2.2.2).mono ?_)); rintro e w1 ⟨rfl, hb⟩; (try replace HX1 := Lib.hid (Kd.C_below HX1.out hb)); (try replace HX2 := Lib.hid (Kd.C_below HX2.out hb)); (try replace HX3 := Lib.hid (Kd.C_below HX3.out hb)); (try replace HM := Lib.hid (HM.out.below hb)); (try replace HMB := Lib.hid (HMB.out.below hb)); (try replace HP := Lib.hid (HP.out.below hb)); replace HR := Lib.hid (Kd.C_below HR.out hb); replace HRB := Lib.hid (Kd.C_below HRB.out hb); replace HB := Lib.hid (HB.out.trans (hb.mono HB.out.size)); clear hb)
    | (go_at_call 8; (first
        | ((with_reducible refine (of_mat n _ c0 A M0 _ HR.out HN.out.1 H0.out HN.out.2.1 (Nat.le_trans HN.out.2.2.1 (by decide)) HN.out.2.2.2.1 (Nat.le_trans HN.out.2.2.2.2 (by decide))).mono ?_); rintro e w2 ⟨b, s, cap, rfl, hm, hb⟩; (try replace HX1 := Lib.hid (Kd.C_below HX1.out hb)); (try replace HX2 := Lib.hid (Kd.C_below HX2.out hb)); (try replace HX3 := Lib.hid (Kd.C_below HX3.out hb)); (try replace HM := Lib.hid (HM.out.below hb)); (try replace HMB := Lib.hid (HMB.out.below hb)); (try replace HP := Lib.hid (HP.out.below hb)); replace HR := Lib.hid (Kd.C_below HR.out hb); replace HRB := Lib.hid (Kd.C_below HRB.out hb); replace HB := Lib.hid (HB.out.trans (hb.mono HB.out.size)); clear hb; have HM := Lib.hid hm; clear hm)
        | ((with_reducible refine (of_mat n q c1 A1 B0 _ HRB.out HK.out.1 HB0.out HK.out.2.1 (Nat.le_trans HK.out.2.2.1 (by decide)) HK.out.2.2.2.1 (Nat.le_trans HK.out.2.2.2.2 (by decide))).mono ?_); rintro e w2 ⟨bb, sb, capb, rfl, hm, hb⟩; (try replace HX1 := Lib.hid (Kd.C_below HX1.out hb)); (try replace HX2 := Lib.hid (Kd.C_below HX2.out hb)); (try replace HX3 := Lib.hid (Kd.C_below HX3.out hb)); (try replace HM := Lib.hid (HM.out.below hb)); (try replace HMB := Lib.hid (HMB.out.below hb)); (try replace HP := Lib.hid (HP.out.below hb)); replace HR := Lib.hid (Kd.C_below HR.out hb); replace HRB := Lib.hid (Kd.C_below HRB.out hb); replace HB := Lib.hid (HB.out.trans (hb.mono HB.out.size)); clear hb; have HMB := Lib.hid hm; clear hm)))
    | (go_at_call 19; ((with_reducible refine (det_mat n b s cap M0 _ H0.out HM.out).mono ?_); rintro e w3 ⟨rfl, hb⟩; (try replace HX1 := Lib.hid (Kd.C_below HX1.out hb)); (try replace HX2 := Lib.hid (Kd.C_below HX2.out hb)); (try replace HX3 := Lib.hid (Kd.C_below HX3.out hb)); (try replace HM := Lib.hid (HM.out.below hb)); (try replace HMB := Lib.hid (HMB.out.below hb)); (try replace HP := Lib.hid (HP.out.below hb)); replace HR := Lib.hid (Kd.C_below HR.out hb); replace HRB := Lib.hid (Kd.C_below HRB.out hb); replace HB := Lib.hid (HB.out.trans (hb.mono HB.out.size)); clear hb)))
  obtain ⟨ad, A2, c2, e2, hcell, _, _⟩ := mrow HR.out 0 (by omega)
  rw [show ad.add 0 = ad from rfl] at hcell
  have HAD := Lib.hid e2
  subst e2
  go_upto_region 12 with (first
    | (go_at_call 16; (with_reducible refine (inv_any2 n t0 b s cap M0 C0 _ HM.out H0.out HST.out).mono ?_); rintro e w4 ⟨v, rfl, hb⟩; (try replace HX1 := Lib.hid (Kd.C_below HX1.out hb)); (try replace HX2 := Lib.hid (Kd.C_below HX2.out hb)); (try replace HX3 := Lib.hid (Kd.C_below HX3.out hb)); (try replace HM := Lib.hid (HM.out.below hb)); (try replace HMB := Lib.hid (HMB.out.below hb)); (try replace HP := Lib.hid (HP.out.below hb)); replace HR := Lib.hid (Kd.C_below HR.out hb); replace HRB := Lib.hid (Kd.C_below HRB.out hb); replace HB := Lib.hid (HB.out.trans (hb.mono HB.out.size)); clear hb)
    | (go_at_call 20; (with_reducible refine (rdet_any n c0 _ M0 _ HR.out H0.out (Nat.le_trans HN.out.2.2.1 (by decide))).mono ?_); rintro e w5 ⟨rfl, hb⟩; (try replace HX1 := Lib.hid (Kd.C_below HX1.out hb)); (try replace HX2 := Lib.hid (Kd.C_below HX2.out hb)); (try replace HX3 := Lib.hid (Kd.C_below HX3.out hb)); (try replace HM := Lib.hid (HM.out.below hb)); (try replace HMB := Lib.hid (HMB.out.below hb)); (try replace HP := Lib.hid (HP.out.below hb)); replace HR := Lib.hid (Kd.C_below HR.out hb); replace HRB := Lib.hid (Kd.C_below HRB.out hb); replace HB := Lib.hid (HB.out.trans (hb.mono HB.out.size)); clear hb)
    | (go_at_call 21; (with_reducible refine (mul_ok n q b s cap bb sb capb _ _ _ HM.out HMB.out).mono ?_); rintro e w6 ⟨bp, rfl, hb⟩; (try replace HX1 := Lib.hid (Kd.C_below HX1.out hb)); (try replace HX2 := Lib.hid (Kd.C_below HX2.out hb)); (try replace HX3 := Lib.hid (Kd.C_below HX3.out hb)); (try replace HM := Lib.hid (HM.out.below hb)); (try replace HMB := Lib.hid (HMB.out.below hb)); (try replace HP := Lib.hid (HP.out.below hb)); replace HR := Lib.hid (Kd.C_below HR.out hb); replace HRB := Lib.hid (Kd.C_below HRB.out hb); replace HB := Lib.hid (HB.out.trans (hb.mono HB.out.size)); clear hb))
  obtain ⟨ad', A3, c3, e3, hcell3, _, _⟩ := mrow HRB.out 0 (by omega)
  rw [show ad'.add 0 = ad' from rfl] at hcell3
  subst e3
  go_wp2_with ((go_at_call 7; (with_reducible refine (awake4 _).mono ?_); rintro e w9 ⟨rfl, hb⟩; have HB9 := Lib.hid (HB.out.trans (hb.mono HB.out.size)); clear hb))
  go_ret
  exact ⟨rfl, HB9.out⟩
set_option maxRecDepth 100000 in
set_option maxHeartbeats 4000000 in
theorem sd_full (hA : Kd.C kRow w A n (mat n n M0)) (hA1 : Kd.C kRow w A1 n (mat n n B0)) (hM : BytM M0) (hB : BytM B0) (hN : n ≤ c0 ∧ 1 ≤ n ∧ n ≤ 9 ∧ 1 ≤ n ∧ n ≤ 9) (hK : n ≤ c1 ∧ 1 ≤ n ∧ n ≤ 9 ∧ 1 ≤ n ∧ n ≤ 9) (h6 : n ≤ 6) (h7 : n ≤ 6) (hst : StepsTo n M0 n t0 C0) :
    Calls Try.prog 5 #[.slice A n c0, .slice A1 n c1] w fun e w' => e = .returned (.bool true) ∧ Below w.heap.size w w' := by
  have HR := Lib.hid hA
  have HRB := Lib.hid hA1
  have H0 := Lib.hid hM
  have HB0 := Lib.hid hB
  have HN := Lib.hid hN
  have HK := Lib.hid hK
  have HST := Lib.hid hst
  have HB := Lib.hid (Below.refl w.heap.size w)
  have g6 : ¬ (6 : Int) < (n : Int) := by omega
  have g7 : ¬ (6 : Int) < (n : Int) := by omega
  have g0 : (0 : Int) < (n : Int) := by omega
  have gk : (0 : Int) < (n : Int) := by omega
  have t1 : ((n : Int) != (n : Int)) = false := by simp
  obtain ⟨bv, hbv⟩ : ∃ bv : Bool, bv = (erI t0 n == 0) := ⟨_, rfl⟩
  have te : (detI n M0 != 0) = bv := by rw [hbv]; exact er_iff hM hst
  have ter := hbv.symm
  have HPD := Lib.hid (det_prd (n := n) hM hB)
  have HPB := Lib.hid (prd_byt (n := n) (q := n) (Z := B0) hM)
  have HDB := Lib.hid (And.intro (detI_of n M0 hM).1 (detI_of n B0 hB).1)
  have t5 : (gmI (detI n M0) (detI n B0) == detI n (prd n n M0 B0)) = true := by rw [HPD.out]; simp
  clear hA hA1 hM hB hN hK h6 h7 hst hbv
  go_enter Try.func5, Try.ntmps5
  go_upto_region 6 with (first
    | (go_at_call 6; (first
        | (with_reducible refine (small_yes n _ c0 A M0 _ HR.out HN.out.1 HN.out.2.1 HN.out.2.2.1 HN.out.2.2.2.1 HN.out.2.2.2.2).mono ?_)
        | (with_reducible refine (small_yes n n c1 A1 B0 _ HRB.out HK.out.1 HK.out.2.1 HK.out.2.2.1 HK.out.2.2.2.1 HK.out.2.2.2.2).mono ?_)); rintro e w1 ⟨rfl, hb⟩; (try replace HX1 := Lib.hid (Kd.C_below HX1.out hb)); (try replace HX2 := Lib.hid (Kd.C_below HX2.out hb)); (try replace HX3 := Lib.hid (Kd.C_below HX3.out hb)); (try replace HM := Lib.hid (HM.out.below hb)); (try replace HMB := Lib.hid (HMB.out.below hb)); (try replace HP := Lib.hid (HP.out.below hb)); replace HR := Lib.hid (Kd.C_below HR.out hb); replace HRB := Lib.hid (Kd.C_below HRB.out hb); replace HB := Lib.hid (HB.out.trans (hb.mono HB.out.size)); clear hb)
    | (go_at_call 8; (first
        | ((with_reducible refine (of_mat n _ c0 A M0 _ HR.out HN.out.1 H0.out HN.out.2.1 (Nat.le_trans HN.out.2.2.1 (by decide)) HN.out.2.2.2.1 (Nat.le_trans HN.out.2.2.2.2 (by decide))).mono ?_); rintro e w2 ⟨b, s, cap, rfl, hm, hb⟩; (try replace HX1 := Lib.hid (Kd.C_below HX1.out hb)); (try replace HX2 := Lib.hid (Kd.C_below HX2.out hb)); (try replace HX3 := Lib.hid (Kd.C_below HX3.out hb)); (try replace HM := Lib.hid (HM.out.below hb)); (try replace HMB := Lib.hid (HMB.out.below hb)); (try replace HP := Lib.hid (HP.out.below hb)); replace HR := Lib.hid (Kd.C_below HR.out hb); replace HRB := Lib.hid (Kd.C_below HRB.out hb); replace HB := Lib.hid (HB.out.trans (hb.mono HB.out.size)); clear hb; have HM := Lib.hid hm; clear hm)
        | ((with_reducible refine (of_mat n n c1 A1 B0 _ HRB.out HK.out.1 HB0.out HK.out.2.1 (Nat.le_trans HK.out.2.2.1 (by decide)) HK.out.2.2.2.1 (Nat.le_trans HK.out.2.2.2.2 (by decide))).mono ?_); rintro e w2 ⟨bb, sb, capb, rfl, hm, hb⟩; (try replace HX1 := Lib.hid (Kd.C_below HX1.out hb)); (try replace HX2 := Lib.hid (Kd.C_below HX2.out hb)); (try replace HX3 := Lib.hid (Kd.C_below HX3.out hb)); (try replace HM := Lib.hid (HM.out.below hb)); (try replace HMB := Lib.hid (HMB.out.below hb)); (try replace HP := Lib.hid (HP.out.below hb)); replace HR := Lib.hid (Kd.C_below HR.out hb); replace HRB := Lib.hid (Kd.C_below HRB.out hb); replace HB := Lib.hid (HB.out.trans (hb.mono HB.out.size)); clear hb; have HMB := Lib.hid hm; clear hm)))
    | (go_at_call 19; ((with_reducible refine (det_mat n b s cap M0 _ H0.out HM.out).mono ?_); rintro e w3 ⟨rfl, hb⟩; (try replace HX1 := Lib.hid (Kd.C_below HX1.out hb)); (try replace HX2 := Lib.hid (Kd.C_below HX2.out hb)); (try replace HX3 := Lib.hid (Kd.C_below HX3.out hb)); (try replace HM := Lib.hid (HM.out.below hb)); (try replace HMB := Lib.hid (HMB.out.below hb)); (try replace HP := Lib.hid (HP.out.below hb)); replace HR := Lib.hid (Kd.C_below HR.out hb); replace HRB := Lib.hid (Kd.C_below HRB.out hb); replace HB := Lib.hid (HB.out.trans (hb.mono HB.out.size)); clear hb)))
  obtain ⟨ad, A2, c2, e2, hcell, _, _⟩ := mrow HR.out 0 (by omega)
  rw [show ad.add 0 = ad from rfl] at hcell
  have HAD := Lib.hid e2
  subst e2
  go_upto_region 12 with (first
    | (go_at_call 16; (with_reducible refine (inv_any2 n t0 b s cap M0 C0 _ HM.out H0.out HST.out).mono ?_); rintro e w4 ⟨v, rfl, hb⟩; (try replace HX1 := Lib.hid (Kd.C_below HX1.out hb)); (try replace HX2 := Lib.hid (Kd.C_below HX2.out hb)); (try replace HX3 := Lib.hid (Kd.C_below HX3.out hb)); (try replace HM := Lib.hid (HM.out.below hb)); (try replace HMB := Lib.hid (HMB.out.below hb)); (try replace HP := Lib.hid (HP.out.below hb)); replace HR := Lib.hid (Kd.C_below HR.out hb); replace HRB := Lib.hid (Kd.C_below HRB.out hb); replace HB := Lib.hid (HB.out.trans (hb.mono HB.out.size)); clear hb)
    | (go_at_call 20; (with_reducible refine (rdet_any n c0 _ M0 _ HR.out H0.out (Nat.le_trans HN.out.2.2.1 (by decide))).mono ?_); rintro e w5 ⟨rfl, hb⟩; (try replace HX1 := Lib.hid (Kd.C_below HX1.out hb)); (try replace HX2 := Lib.hid (Kd.C_below HX2.out hb)); (try replace HX3 := Lib.hid (Kd.C_below HX3.out hb)); (try replace HM := Lib.hid (HM.out.below hb)); (try replace HMB := Lib.hid (HMB.out.below hb)); (try replace HP := Lib.hid (HP.out.below hb)); replace HR := Lib.hid (Kd.C_below HR.out hb); replace HRB := Lib.hid (Kd.C_below HRB.out hb); replace HB := Lib.hid (HB.out.trans (hb.mono HB.out.size)); clear hb)
    | (go_at_call 21; (with_reducible refine (mul_mat n b s cap bb sb capb M0 B0 _ H0.out HB0.out HM.out HMB.out).mono ?_); rintro e w6 ⟨bp, sp, capp, rfl, hm, hb⟩; (try replace HX1 := Lib.hid (Kd.C_below HX1.out hb)); (try replace HX2 := Lib.hid (Kd.C_below HX2.out hb)); (try replace HX3 := Lib.hid (Kd.C_below HX3.out hb)); (try replace HM := Lib.hid (HM.out.below hb)); (try replace HMB := Lib.hid (HMB.out.below hb)); (try replace HP := Lib.hid (HP.out.below hb)); replace HR := Lib.hid (Kd.C_below HR.out hb); replace HRB := Lib.hid (Kd.C_below HRB.out hb); replace HB := Lib.hid (HB.out.trans (hb.mono HB.out.size)); clear hb; have HP := Lib.hid hm; clear hm))
  obtain ⟨ad', A3, c3, e3, hcell3, _, _⟩ := mrow HRB.out 0 (by omega)
  rw [show ad'.add 0 = ad' from rfl] at hcell3
  subst e3
  go_wp2_with (first
    | (go_at_call 19; ((with_reducible refine (det_mat n bp sp capp _ _ HPB.out HP.out).mono ?_); rintro e w3 ⟨rfl, hb⟩; (try replace HX1 := Lib.hid (Kd.C_below HX1.out hb)); (try replace HX2 := Lib.hid (Kd.C_below HX2.out hb)); (try replace HX3 := Lib.hid (Kd.C_below HX3.out hb)); (try replace HM := Lib.hid (HM.out.below hb)); (try replace HMB := Lib.hid (HMB.out.below hb)); (try replace HP := Lib.hid (HP.out.below hb)); replace HR := Lib.hid (Kd.C_below HR.out hb); replace HRB := Lib.hid (Kd.C_below HRB.out hb); replace HB := Lib.hid (HB.out.trans (hb.mono HB.out.size)); clear hb))
    | (go_at_call 17; (with_reducible refine (rmul_calls n n c0 c1 _ _ M0 B0 _ HR.out HRB.out H0.out HB0.out HN.out.1 HK.out.1 HN.out.2.1 (Nat.le_trans HN.out.2.2.1 (by decide)) (Nat.le_trans HN.out.2.2.1 (by decide))).mono ?_); rintro e w7 ⟨A7, c7, rfl, hx, hb⟩; (try replace HX1 := Lib.hid (Kd.C_below HX1.out hb)); (try replace HX2 := Lib.hid (Kd.C_below HX2.out hb)); (try replace HX3 := Lib.hid (Kd.C_below HX3.out hb)); (try replace HM := Lib.hid (HM.out.below hb)); (try replace HMB := Lib.hid (HMB.out.below hb)); (try replace HP := Lib.hid (HP.out.below hb)); replace HR := Lib.hid (Kd.C_below HR.out hb); replace HRB := Lib.hid (Kd.C_below HRB.out hb); replace HB := Lib.hid (HB.out.trans (hb.mono HB.out.size)); clear hb; have HX1 := Lib.hid hx; clear hx)
    | (go_at_call 20; (first
        | ((with_reducible refine (rdet_any n c7 A7 (prd n n M0 B0) _ HX1.out HPB.out (Nat.le_trans HN.out.2.2.1 (by decide))).mono ?_); rintro e w5 ⟨rfl, hb⟩; (try replace HX1 := Lib.hid (Kd.C_below HX1.out hb)); (try replace HX2 := Lib.hid (Kd.C_below HX2.out hb)); (try replace HX3 := Lib.hid (Kd.C_below HX3.out hb)); (try replace HM := Lib.hid (HM.out.below hb)); (try replace HMB := Lib.hid (HMB.out.below hb)); (try replace HP := Lib.hid (HP.out.below hb)); replace HR := Lib.hid (Kd.C_below HR.out hb); replace HRB := Lib.hid (Kd.C_below HRB.out hb); replace HB := Lib.hid (HB.out.trans (hb.mono HB.out.size)); clear hb)
        | ((with_reducible refine (rdet_any n c1 _ B0 _ HRB.out HB0.out (Nat.le_trans HN.out.2.2.1 (by decide))).mono ?_); rintro e w5 ⟨rfl, hb⟩; (try replace HX1 := Lib.hid (Kd.C_below HX1.out hb)); (try replace HX2 := Lib.hid (Kd.C_below HX2.out hb)); (try replace HX3 := Lib.hid (Kd.C_below HX3.out hb)); (try replace HM := Lib.hid (HM.out.below hb)); (try replace HMB := Lib.hid (HMB.out.below hb)); (try replace HP := Lib.hid (HP.out.below hb)); replace HR := Lib.hid (Kd.C_below HR.out hb); replace HRB := Lib.hid (Kd.C_below HRB.out hb); replace HB := Lib.hid (HB.out.trans (hb.mono HB.out.size)); clear hb)))
    | (go_at_call 22; (with_reducible refine (product_calls _ _ _ _ HDB.out.1 HDB.out.2).mono ?_); rintro e w8 ⟨rfl, hb⟩; (try replace HX1 := Lib.hid (Kd.C_below HX1.out hb)); (try replace HX2 := Lib.hid (Kd.C_below HX2.out hb)); (try replace HX3 := Lib.hid (Kd.C_below HX3.out hb)); (try replace HM := Lib.hid (HM.out.below hb)); (try replace HMB := Lib.hid (HMB.out.below hb)); (try replace HP := Lib.hid (HP.out.below hb)); replace HR := Lib.hid (Kd.C_below HR.out hb); replace HRB := Lib.hid (Kd.C_below HRB.out hb); replace HB := Lib.hid (HB.out.trans (hb.mono HB.out.size)); clear hb)
    | (go_at_call 7; (with_reducible refine (awake4 _).mono ?_); rintro e w9 ⟨rfl, hb⟩; have HB9 := Lib.hid (HB.out.trans (hb.mono HB.out.size)); clear hb))
  go_ret
  exact ⟨rfl, HB9.out⟩
end
theorem sd_main {w : World} (A : Option Addr) (c : Nat) (la : List (List Int)) (hA : Kd.C kRow w A la.length la) (hc : la.length ≤ c) (oka : RowsOk la) (A1 : Option Addr) (c1 : Nat) (lb : List (List Int)) (hB : Kd.C kRow w A1 lb.length lb) (hc1 : lb.length ≤ c1) (okb : RowsOk lb) (_ : World) :
    Calls Try.prog 5 #[.slice A la.length c, .slice A1 lb.length c1] w fun e w' => e = .returned (.bool true) ∧ Below w.heap.size w w' := by
  by_cases ha : Small4 la
  · by_cases hb : Small4 lb
    · obtain ⟨n, m, M0, en, rfl, hM, n1, n2, m1, m2⟩ := as_mat ha oka.byt
      obtain ⟨k, q, B0, ek, rfl, hB0, k1, k2, q1, q2⟩ := as_mat hb okb.byt
      rw [en] at hA hc ⊢
      rw [ek] at hB hc1 ⊢
      have hN := And.intro hc (And.intro n1 (And.intro n2 (And.intro m1 m2)))
      have hK := And.intro hc1 (And.intro k1 (And.intro k2 (And.intro q1 q2)))
      by_cases h6 : n ≤ 6 ∧ k ≤ 6
      · by_cases hm : n = m
        · subst hm
          obtain ⟨t0, C0, hst⟩ := StepsTo.ex n hM n
          by_cases hk : k = n
          · subst hk
            by_cases hq : q = k
            · subst hq
              exact sd_full q c c1 t0 A A1 M0 B0 C0 w hA hB hM hB0 hN hK h6.1 h6.2 hst
            · exact sd_wide k q c c1 t0 A A1 M0 B0 C0 w hA hB hM hB0 hN hK h6.1 h6.2 hst hq
          · exact sd_other n k q c c1 t0 A A1 M0 B0 C0 w hA hB hM hB0 hN hK h6.1 h6.2 hst hk
        · exact sd_rect n m k q c c1 A A1 M0 B0 w hA hB hM hB0 hN hK h6.1 h6.2 hm
      · exact sd_long n m k q c c1 A A1 M0 B0 w hA hB hM hB0 hN hK h6
    · exact sd_no2 A A1 c c1 la lb w hA hc ha hB hc1 hb
  · exact sd_no1 A A1 c c1 _ la w hA hc ha
end Go.Proofs.Ytojaekhplohbjaa.Sol
