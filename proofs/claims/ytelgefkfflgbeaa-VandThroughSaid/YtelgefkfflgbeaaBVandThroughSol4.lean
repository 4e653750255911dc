/- Steps: the document's, walked: first the copy. -/
import Derived.Test.YtelgefkfflgbeaaProg
import Derived.Below
import Derived.Deep.Draws
import Derived.Deep.AppendLies
import Derived.Maps.AppendAt
import Derived.OwnWalk
import Derived.Laws.BytesArg
import Derived.Laws.MakeOwn
import Derived.Laws.OwnMore
import Derived.Deep.OwnRows
import Derived.Tactics
import Derived.Lib.ConvBytes
import Derived.Laws.Slices
import Derived.WalkKit
import Derived.KernelRfl
import Derived.RowKit3
import Derived.Deep.LoopGhost
import Derived.Deep.QuietTactic
import Derived.BigQuiet
import Derived.WideLaws
import Derived.Deep.DeepCutAuto
import Derived.Deep.CutBlock
import Derived.Deep.RegionHeld3
import Derived.Laws.Rows
import Derived.Lib.AppendStr
import Derived.ArgAppend
import Derived.Laws.IdiomCopy
import Derived.OrdersHeld
import Derived.Laws.BitsLemmas
import Derived.RowKit
import Derived.Lib.Hide
import Derived.WalkSpells
import Derived.StillTailTactics
import Derived.Outline
import Derived.OrdersHeld
import Derived.Deep.RegionHeld3
import Derived.Test.YtelgefkfflgbeaaMem
import Derived.Test.YtelgefkfflgbeaaSol2
import Derived.Test.YtelgefkfflgbeaaRput
import Derived.Test.YtelgefkfflgbeaaBVandThroughSol1
namespace Go.Proofs.Ytelgefkfflgbeaa.Sol
open Go Go.RowKit Go.Proofs.Ytelgefkfflgbeaa.PVandThrough Go.Proofs.Ytelgefkfflgbeaa.BVandThrough Go.Proofs.Ytelgefkfflgbeaa.Gf Go.Proofs.Ytelgefkfflgbeaa.Gi Go.Proofs.Ytelgefkfflgbeaa.Bits Go.Proofs.Ytelgefkfflgbeaa.Mem Go.Proofs.Ytelgefkfflgbeaa.Rws Go.Proofs.YtelgefkfflgbeaaW.PrintWords Go.Proofs.YtelgefkfflgbeaaW.PrintLast
set_option linter.unusedVariables false

def mat (n m : Nat) (M : Mtx) : List (List Int) := (List.range n).map (fun i => line m (M i))
theorem mat_len (n m : Nat) (M : Mtx) : (mat n m M).length = n := by simp [mat]
theorem mat_get (n m : Nat) (M : Mtx) (i : Nat) (hi : i < n) : (mat n m M).getD i [] = line m (M i) := by simp [mat, List.getD_eq_getElem?_getD, hi]
theorem mat_succ (n m : Nat) (M : Mtx) : mat (n + 1) m M = mat n m M ++ [line m (M n)] := by simp [mat, List.range_succ]
theorem mat_congr (n m : Nat) (M M' : Mtx) (h : ∀ i, i < n → ∀ j, j < m → M i j = M' i j) : mat n m M = mat n m M' := List.map_congr_left (fun i hi => line_congr m _ _ (h i (by simpa using hi)))
theorem mat_set (n m : Nat) (M : Mtx) (i : Nat) (hi : i < n) (r : Nat → Int) : (mat n m M).set i (line m r) = mat n m (fun i' => if i' = i then r else M i') := by
  refine List.ext_getElem (by simp [mat]) (fun q h1 h2 => ?_)
  simp [mat, List.getElem_set]
  by_cases e : i = q
  · subst e; simp
  · rw [if_neg e, if_neg (fun e' => e e'.symm)]
theorem at_row {w : World} {A : Option Addr} {n : Nat} {xs : List Int} (h : (Kd.int .u8).C w A n xs) (i : Nat) (hi : i < n) : ∃ ad, A = some ad ∧ w.cell? (ad.add i) = some (.int .u8 (xs.getD i 0)) := by
  obtain ⟨ad, c, e, _, hK, hc0⟩ := Kd.C_get h (0 : Int) (i : Int) (by omega) (by omega)
  refine ⟨ad, e, ?_⟩
  have hK' : c = [.int .u8 (xs.getD i 0)] := by simpa [Kd.int, Kd.scalar] using hK
  have hq := hc0 0 (.int .u8 (xs.getD i 0)) (by rw [hK']; rfl)
  simpa [Kd.int, Kd.scalar] using hq
theorem mrow {w : World} {A : Option Addr} {n m : Nat} {M : Mtx} (h : Kd.C kRow w A n (mat n m M)) (i : Nat) (hi : i < n) :
    ∃ ad A0 c0, A = some ad ∧ w.cell? (ad.add i) = some (.slice A0 m c0) ∧ m ≤ c0 ∧ (Kd.int .u8).C w A0 m (line m (M i)) := by
  obtain ⟨ad, c, e, _, hK, hc0⟩ := Kd.C_get h [] (i : Int) (by omega) (by omega)
  obtain ⟨A0, c0, rfl, l0, g0⟩ := hK
  have e1 : ((mat n m M).getD i []) = line m (M i) := mat_get n m M i hi
  have hq : w.cell? (ad.add i) = some (.slice A0 ((mat n m M).getD i []).length c0) := by simpa [Kd.slice] using hc0 0 _ rfl
  rw [e1, line_len] at hq
  rw [Int.toNat_natCast, e1, line_len] at l0 g0
  exact ⟨ad, A0, c0, e, hq, l0, g0⟩
theorem addk (g k : Nat) : (⟨g, 0, none⟩ : Addr).add k = ⟨g, k, none⟩ := by by_cases h : k = 0 <;> simp [Addr.add, h]
theorem clone_R {W : World} {base c9 m : Nat} {A9 : Option Addr} {xs : List Int} (h : W.ownsRow base 5 1 (.slice A9 ([] ++ xs).length c9) ([] ++ xs).length (nums .u8 ([] ++ xs))) (hl : xs.length = m) : (Kd.int .u8).R 5 W base (fun _ => True) (.slice A9 m c9) xs := by
  subst hl
  rw [List.nil_append] at h
  exact Kd.R_of_own h (fun _ _ => trivial)
theorem rowq {W : World} {base b1 g n m cap q t k col : Nat} {M : Mtx} {r : Int} {A6 : Option Addr} {c6 : Nat} (h : RowsR W base (.slice (some ⟨g, 0, none⟩) n cap) (mat n m (fun p => if p < q then stepI M t k col r p else if p = t then (fun j => gmI (M k j) r) else swapI M t k p))) (hq : q < n) (hqt : ¬ q = t)
    (hR : (Kd.int .u8).R 5 W b1 (fun _ => True) (.slice A6 m c6) (line m (fun j => xorI (swapI M t k q j) (gmI (gmI (M k j) r) (swapI M t k q col))))) (hb : base ≤ b1) (hg : g < b1) :
    RowsR (W.setCell ⟨g, q, none⟩ (.slice A6 m c6)) base (.slice (some ⟨g, 0, none⟩) n cap) (mat n m (fun p => if p < q + 1 then stepI M t k col r p else if p = t then (fun j => gmI (M k j) r) else swapI M t k p)) := by
  have h1 := rput h q hq (.slice A6 m c6) _ (fun p => some p = (Value.slice A6 m c6).ownBlock) (row_M (Kd.own_of_R hR) hb rfl) (fun p hp => by
    have := Kd.R_base hR p hp.symm
    omega)
  rw [mat_set n m _ q hq] at h1
  rw [mat_congr n m _ (fun p => if p = q then (fun j => xorI (swapI M t k q j) (gmI (gmI (M k j) r) (swapI M t k q col))) else if p < q then stepI M t k col r p else if p = t then (fun j => gmI (M k j) r) else swapI M t k p) (fun p hp j hj => ?_)]
  · exact h1
  · by_cases e : p = q
    · subst e
      rw [if_pos (by omega), if_pos rfl]
      unfold stepI
      rw [if_neg hqt]
    · rw [if_neg e]
      by_cases h1 : p < q
      · rw [if_pos (by omega), if_pos h1]
      · rw [if_neg (by omega), if_neg h1]
theorem setx {W : World} {base b1 g n cap : Nat} {ls : List (List Int)} {v : Value} {xs : List Int} (hR : (Kd.int .u8).R 5 W b1 (fun _ => True) v xs) (h : RowsR W base (.slice (some ⟨g, 0, none⟩) n cap) ls) (q : Nat) (u : Value) : (Kd.int .u8).R 5 (W.setCell ⟨g, q, none⟩ u) b1 (fun _ => True) v xs := by
  obtain ⟨cur, hh⟩ := (rblk h).2
  exact Kd.R_set hR hh (by decide) q u
set_option maxRecDepth 100000 in
set_option maxHeartbeats 4000000 in
theorem steps_any (n m c0 : Nat) (A : Option Addr) (M0 : Mtx) (w : World) (hC : Kd.C kRow w A n (mat n m M0)) (h0 : BytM M0) (hn1 : 1 ≤ n) (hn : n ≤ 1000) (hm1 : 1 ≤ m) (hm : m ≤ 1000) :
    Calls Try.prog 32 #[.slice A n c0] w fun e w' => ∃ u t M, e = .returned u ∧ RowsR w' w.heap.size u (mat n m M) ∧ StepsTo n M0 m t M ∧ Below w.heap.size w w' := by
  have HC := Lib.hid (fun W (hB : Below w.heap.size w W) => Kd.C_below hC hB)
  have H0 := Lib.hid h0
  clear hC h0
  go_enter Try.func32, Try.ntmps32
  go_wp2
  go_loopw [3, 4] (fun u0 iv wr => ∃ (i : Nat) (u : Value), u0 = u ∧ i ≤ n ∧ iv = .int .i64 i ∧ Hid (RowsR wr w.heap.size u (mat i m M0)) ∧ Hid (Below w.heap.size w wr)) (fun _ iv _ => n - (intOf iv).toNat)
  case atStart => exact ⟨0, _, rfl, by omega, rfl, Lib.hid (Kd.R_nil _ _ _ _ _), Lib.hid (Below.refl _ _)⟩
  case round =>
    obtain ⟨i, u, rfl, hi, rfl, HO, HB⟩ := hrel
    by_cases hlt : i < n
    · obtain ⟨ad, A1, c1, rfl, hcell, _, hC1⟩ := mrow (HC.out _ HB.out) i hlt
      have HR1 := Lib.hid (Kd.reads_of_C (d := (0 : Int)) hC1)
      have HL0 := Lib.hid (show (wr.alloc (.cells #[] 5)).ownsRow wr.heap.size 5 1 (.slice (some ⟨wr.heap.size, 0, none⟩) 0 0) ([] : List Int).length (nums .u8 []) from own_lit wr wr.heap.size 5 .u8 [] (Nat.le_refl _) (by simp))
      have g1 : (i : Int) < (n : Int) := by omega
      have g2 : (0 : Int) ≤ (i : Int) := by omega
      have hl := line_len m (M0 i)
      obtain ⟨xs, hxs⟩ : ∃ xs, xs = line m (M0 i) := ⟨_, rfl⟩
      rw [← hxs] at HR1 hl
      have HXS := Lib.hid hxs
      have hcella := pw_cell_below (((Below.refl wr.heap.size wr).alloc (Nat.le_refl _) (.cells #[] 5))) hcell
      clear hC1 hxs
      go_wp2_with (first
        | (at_builtin; refine print_append_row (w0 := wr) wr.heap.size rfl _ _ 22 5 .u8 1 rfl Try.underlying22 info_byte (by decide) _ [] xs _ _ _ rfl rfl HL0.out (ReadsInt.allocS HR1.out _) ((Below.refl _ _).alloc (Nat.le_refl _) _) (by simp) (by simp; omega) ?_; intro v1 w1 ho hb _ _; obtain ⟨A9, c9, rfl⟩ := own_slice ho; have HOW := Lib.hid (clone_R ho hl); have HB1 := Lib.hid hb; clear ho hb)
        | (at_builtin; refine rows_append2 (w0 := w) (wr := wr) rfl w.heap.size rfl _ _ rfl u3 _ (mat i m M0) _ rfl rfl HO.out (HB.out.trans (HB1.out.mono HB.out.size)) HB.out.size HB1.out HOW.out (by rw [mat_len]; omega) ?_; intro v5 w5 h5 hb5; have H5 := Lib.hid h5; have HB5 := Lib.hid hb5; clear h5 hb5))
      go_roundw
      case rel => exact ⟨i + 1, _, rfl, by omega, by go_num, Lib.hid (by rw [mat_succ, ← HXS.out]; exact H5.out), HB5⟩
      case measure => simp [intOf]; omega
    · obtain rfl : i = n := by omega
      obtain ⟨g, cO, hv, hgb, _, _⟩ := Kd.R_form HO.out (by rw [mat_len]; exact hn1)
      rw [mat_len] at hv
      subst hv
      have HGB := Lib.hid hgb
      clear hgb
      go_wp2
      go_loopw [5, 6, 7, 8, 9] (fun tv cv _ _ _ wr => ∃ (t col : Nat) (M : Mtx), tv = .int .i64 t ∧ cv = .int .i64 col ∧ col ≤ m ∧ Hid (StepsTo i M0 col t M) ∧ Hid (RowsR wr w.heap.size (.slice (some ⟨g, 0, none⟩) i cO) (mat i m M)) ∧ Hid (Below w.heap.size w wr)) (fun _ cv _ _ _ _ => m - (intOf cv).toNat)
      case atStart => exact ⟨0, 0, M0, rfl, rfl, by omega, Lib.hid .start, HO, HB⟩
      case round =>
        clear HO HB
        obtain ⟨t, col, M, rfl, rfl, hcol, HS, HO, HB⟩ := hrel
        have hCO := (Kd.R_reads' HO.out).2.2
        rw [mat_len] at hCO
        obtain ⟨ad0, A1, c1, e0, hc0, _, _⟩ := mrow hCO 0 (by omega)
        injection e0 with e0
        subst e0
        rw [addk g 0] at hc0
        have HCO := Lib.hid hCO
        have g0 : (0 : Int) < (i : Int) := by omega
        clear hCO
        by_cases hlt : col < m
        · have g1 : (col : Int) < (m : Int) := by omega
          have g2 : (0 : Int) ≤ (col : Int) := by omega
          have htn := HS.out.le
          go_wp2
          go_loopw [7] (fun kv wr' => ∃ (k : Nat), t ≤ k ∧ k ≤ i ∧ kv = .int .i64 k ∧ wr' = wr ∧ Hid (∀ j, t ≤ j → j < k → M j col = 0)) (fun kv _ => i - (intOf kv).toNat)
          case atStart => exact ⟨t, Nat.le_refl _, htn.2, rfl, rfl, Lib.hid (fun j h1 h2 => absurd h1 (by omega))⟩
          case round =>
            obtain ⟨k, htk, hki, rfl, rfl, HZ⟩ := hrel
            by_cases hk : k < i
            · obtain ⟨adk, A2, c2, e2, hck, hc2, hC2⟩ := mrow HCO.out k hk
              injection e2 with e2
              subst e2
              rw [addk g k] at hck
              obtain ⟨ad2, rfl, hcc⟩ := at_row hC2 col hlt
              rw [line_get m (M k) col hlt] at hcc
              have HC2 := Lib.hid hC2
              have g3 : (k : Int) < (i : Int) := by omega
              have g4 : (0 : Int) ≤ (k : Int) := by omega
              clear hC2
              by_cases hz : M k col = 0
              · rw [hz] at hcc
                go_wp2
                go_roundw
                case rel =>
                  refine ⟨k + 1, by omega, by omega, by go_num, (by first | trivial | rfl), Lib.hid (fun j h1 h2 => ?_)⟩
                  rcases Nat.lt_or_ge j k with h | h
                  · exact HZ.out j h1 h
                  · obtain rfl : j = k := by omega
                    exact hz
                case measure => simp [intOf]; omega
              · have t1 : (M k col == 0) = false := by simp [hz]
                have hby := HS.out.byt H0.out
                obtain ⟨r, hr, hr1, hinv⟩ := inv_any (M k col) (hby k col) hz
                have IV := Lib.hid hinv
                have HR1 := Lib.hid hr1
                have HRB := Lib.hid hr
                have HBY := Lib.hid hby
                have TM := Lib.hid (fun W (hB : Below wr.heap.size wr W) => times_any m c2 (some ad2) (M k) r W (Kd.C_below HC2.out hB) (hby k) hr hc2 hm)
                have KK := Lib.hid (fun W (hB : Below wr.heap.size wr W) => And.intro (pw_cell_below hB hck) (pw_cell_below hB hcc))
                have HXd := Lib.hid (show Below wr.heap.size wr wr.drew from (Below.refl _ _).drew)
                clear hby hinv hr1 hr
                go_upto_region 14 with (fail)
                refine wp_region_noPanic ?_
                refine wp_region_held_drew (S := (fun W => W.cell? ⟨g, k, none⟩ = some (.slice (some ad2) m c2) ∧ W.cell? (ad2.add col) = some (.int .u8 (M k col)))) (by kernel_rfl) ?_ (fun hHeld => ?_)
                · ((try dsimp only); exact KK.out _ HXd.out)
                refine wpAnyH_take (i := 0) (oi := { dst := some 59, op := Go.Op.move (Go.Operand.tmp 3), type := 52, pos := "ref.go:21", after := #[], guard := none }) (v := ?_) rfl (by kernel_rfl) (by kernel_rfl) (by kernel_rfl) (fun _ _ _ h => h) (Or.inl ⟨by rfl, ?_⟩) (by assumption) ?_
                rotate_left 1
                · (intro w hSw; (try dsimp only at hSw); go_simp; try with_reducible rfl)
                try simp only [Act.put, List.setIfInBounds_toArray, List.set_cons_zero, List.set_cons_succ]
                refine wpAnyH_take (i := 1) (oi := { dst := some 60, op := Go.Op.move (Go.Operand.tmp 7), type := 3, pos := "ref.go:21", after := #[], guard := none }) (v := ?_) rfl (by kernel_rfl) (by kernel_rfl) (by kernel_rfl) (fun _ _ _ h => h) (Or.inl ⟨by rfl, ?_⟩) (by assumption) ?_
                rotate_left 1
                · (intro w hSw; (try dsimp only at hSw); go_simp; try with_reducible rfl)
                try simp only [Act.put, List.setIfInBounds_toArray, List.set_cons_zero, List.set_cons_succ]
                refine wpAnyH_take (i := 2) (oi := { dst := some 61, op := Go.Op.indexAddr 52 (Go.Operand.tmp 59) (Go.Operand.tmp 60), type := 0, pos := "ref.go:21", after := #[{ on := 0, ground := Go.Ground.data }, { on := 1, ground := Go.Ground.data }], guard := none }) (v := ?_) rfl (by kernel_rfl) (by kernel_rfl) (by kernel_rfl) (fun _ _ _ h => h) (Or.inl ⟨by rfl, ?_⟩) (by assumption) ?_
                rotate_left 1
                · (intro w hSw; (try dsimp only at hSw); go_simp; try with_reducible rfl)
                try simp only [Act.put, List.setIfInBounds_toArray, List.set_cons_zero, List.set_cons_succ]
                refine wpAnyH_take (i := 3) (oi := { dst := some 62, op := Go.Op.load 22 (Go.Operand.tmp 61), type := 22, pos := "ref.go:21", after := #[{ on := 2, ground := Go.Ground.data }], guard := none }) (v := ?_) rfl (by kernel_rfl) (by kernel_rfl) (by kernel_rfl) (fun _ _ _ h => h) (Or.inl ⟨by rfl, ?_⟩) (by assumption) ?_
                rotate_left 1
                · (intro w hSw; (try dsimp only at hSw); go_simp; try with_reducible rfl)
                try simp only [Act.put, List.setIfInBounds_toArray, List.set_cons_zero, List.set_cons_succ]
                refine wpAnyH_take (i := 4) (oi := { dst := some 63, op := Go.Op.move (Go.Operand.tmp 3), type := 52, pos := "ref.go:21", after := #[], guard := none }) (v := ?_) rfl (by kernel_rfl) (by kernel_rfl) (by kernel_rfl) (fun _ _ _ h => h) (Or.inl ⟨by rfl, ?_⟩) (by assumption) ?_
                rotate_left 1
                · (intro w hSw; (try dsimp only at hSw); go_simp; try with_reducible rfl)
                try simp only [Act.put, List.setIfInBounds_toArray, List.set_cons_zero, List.set_cons_succ]
                refine wpAnyH_take (i := 5) (oi := { dst := some 64, op := Go.Op.move (Go.Operand.tmp 7), type := 3, pos := "ref.go:21", after := #[], guard := none }) (v := ?_) rfl (by kernel_rfl) (by kernel_rfl) (by kernel_rfl) (fun _ _ _ h => h) (Or.inl ⟨by rfl, ?_⟩) (by assumption) ?_
                rotate_left 1
                · (intro w hSw; (try dsimp only at hSw); go_simp; try with_reducible rfl)
                try simp only [Act.put, List.setIfInBounds_toArray, List.set_cons_zero, List.set_cons_succ]
                refine wpAnyH_take (i := 6) (oi := { dst := some 65, op := Go.Op.indexAddr 52 (Go.Operand.tmp 63) (Go.Operand.tmp 64), type := 0, pos := "ref.go:21", after := #[{ on := 4, ground := Go.Ground.data }, { on := 5, ground := Go.Ground.data }], guard := none }) (v := ?_) rfl (by kernel_rfl) (by kernel_rfl) (by kernel_rfl) (fun _ _ _ h => h) (Or.inl ⟨by rfl, ?_⟩) (by assumption) ?_
                rotate_left 1
                · (intro w hSw; (try dsimp only at hSw); go_simp; try with_reducible rfl)
                try simp only [Act.put, List.setIfInBounds_toArray, List.set_cons_zero, List.set_cons_succ]
                refine wpAnyH_take (i := 7) (oi := { dst := some 66, op := Go.Op.load 22 (Go.Operand.tmp 65), type := 22, pos := "ref.go:21", after := #[{ on := 6, ground := Go.Ground.data }], guard := none }) (v := ?_) rfl (by kernel_rfl) (by kernel_rfl) (by kernel_rfl) (fun _ _ _ h => h) (Or.inl ⟨by rfl, ?_⟩) (by assumption) ?_
                rotate_left 1
                · (intro w hSw; (try dsimp only at hSw); go_simp; try with_reducible rfl)
                try simp only [Act.put, List.setIfInBounds_toArray, List.set_cons_zero, List.set_cons_succ]
                refine wpAnyH_take (i := 8) (oi := { dst := some 67, op := Go.Op.move (Go.Operand.tmp 6), type := 3, pos := "ref.go:21", after := #[], guard := none }) (v := ?_) rfl (by kernel_rfl) (by kernel_rfl) (by kernel_rfl) (fun _ _ _ h => h) (Or.inl ⟨by rfl, ?_⟩) (by assumption) ?_
                rotate_left 1
                · (intro w hSw; (try dsimp only at hSw); go_simp; try with_reducible rfl)
                try simp only [Act.put, List.setIfInBounds_toArray, List.set_cons_zero, List.set_cons_succ]
                refine wpAnyH_take (i := 9) (oi := { dst := some 68, op := Go.Op.indexAddr 22 (Go.Operand.tmp 66) (Go.Operand.tmp 67), type := 0, pos := "ref.go:21", after := #[{ on := 7, ground := Go.Ground.data }, { on := 8, ground := Go.Ground.data }], guard := none }) (v := ?_) rfl (by kernel_rfl) (by kernel_rfl) (by kernel_rfl) (fun _ _ _ h => h) (Or.inl ⟨by rfl, ?_⟩) (by assumption) ?_
                rotate_left 1
                · (intro w hSw; (try dsimp only at hSw); go_simp; try with_reducible rfl)
                try simp only [Act.put, List.setIfInBounds_toArray, List.set_cons_zero, List.set_cons_succ]
                refine wpAnyH_take (i := 10) (oi := { dst := some 69, op := Go.Op.load 5 (Go.Operand.tmp 68), type := 5, pos := "ref.go:21", after := #[{ on := 9, ground := Go.Ground.data }], guard := none }) (v := ?_) rfl (by kernel_rfl) (by kernel_rfl) (by kernel_rfl) (fun _ _ _ h => h) (Or.inl ⟨by rfl, ?_⟩) (by assumption) ?_
                rotate_left 1
                · (intro w hSw; (try dsimp only at hSw); go_simp; try with_reducible rfl)
                try simp only [Act.put, List.setIfInBounds_toArray, List.set_cons_zero, List.set_cons_succ]
                refine wpAnyH_ready (rs := [11]) (by kernel_rfl) (by simp) ?_
                refine AllReadyH.cons (o := { dst := some 70, op := Go.Op.call { callee := Go.Callee.value (Go.Operand.func 45), args := #[Go.Operand.tmp 69], argTypes := #[5] }, type := 5, pos := "ref.go:21", after := #[{ on := 10, ground := Go.Ground.data }], guard := none }) rfl (fun K hK => ?_) AllReadyH.nil
                go_simp
                go_at_call 45
                (refine (IV.out _).mono ?_); rintro e x1 ⟨rfl, hb⟩; have HXe := Lib.hid (HXd.out.trans (hb.mono HXd.out.size)); clear hb
                clear hHeld
                refine hK.out _ _ ?_ (fun hHeld => ?_)
                · ((try dsimp only); exact KK.out _ HXe.out)
                clear hK K
                refine wpAnyH_ready (rs := [12]) (by kernel_rfl) (by simp) ?_
                refine AllReadyH.cons (o := { dst := some 71, op := Go.Op.call { callee := Go.Callee.value (Go.Operand.func 44), args := #[Go.Operand.tmp 62, Go.Operand.tmp 70], argTypes := #[22, 5] }, type := 22, pos := "ref.go:21", after := #[{ on := 3, ground := Go.Ground.data }, { on := 11, ground := Go.Ground.data }, { on := 11, ground := Go.Ground.chain }], guard := none }) rfl (fun K hK => ?_) AllReadyH.nil
                go_simp
                go_at_call 44
                (refine (TM.out _ HXe.out).mono ?_); rintro e x2 ⟨A9, c9, rfl, hr9, hb⟩; have HR9 := Lib.hid hr9; have HXf := Lib.hid (HXe.out.trans (hb.mono HXe.out.size)); clear hb hr9
                clear hHeld
                refine hK.out _ _ ?_ (fun hHeld => ?_)
                · ((try dsimp only); exact KK.out _ HXf.out)
                clear hK K
                refine wpAnyH_take (i := 13) (oi := { dst := some 8, op := Go.Op.assign (Go.Operand.tmp 71), type := 22, pos := "ref.go:21", after := #[{ on := 12, ground := Go.Ground.data }, { on := 12, ground := Go.Ground.chain }, { on := 0, ground := Go.Ground.phase }, { on := 1, ground := Go.Ground.phase }, { on := 2, ground := Go.Ground.phase }, { on := 3, ground := Go.Ground.phase }, { on := 4, ground := Go.Ground.phase }, { on := 5, ground := Go.Ground.phase }, { on := 6, ground := Go.Ground.phase }, { on := 7, ground := Go.Ground.phase }, { on := 8, ground := Go.Ground.phase }, { on := 9, ground := Go.Ground.phase }, { on := 10, ground := Go.Ground.phase }, { on := 11, ground := Go.Ground.phase }, { on := 12, ground := Go.Ground.phase }], guard := none }) (v := ?_) rfl (by kernel_rfl) (by kernel_rfl) (by kernel_rfl) (fun _ _ _ h => h) (Or.inl ⟨by rfl, ?_⟩) (by assumption) ?_
                rotate_left 1
                · (intro w hSw; (try dsimp only at hSw); go_simp; try with_reducible rfl)
                try simp only [Act.put, List.setIfInBounds_toArray, List.set_cons_zero, List.set_cons_succ]
                refine wpAnyH_done (by kernel_rfl) ?_ _
                refine NoPanic.normal ?_
                clear hc0 hck hcc KK IV TM
                have HO2 := Lib.hid (Kd.R_below HO.out HXf.out)
                have HB2 := Lib.hid (HB.out.trans (HXf.out.mono HB.out.size))
                have hgw := (rblk HO.out).2
                have hgwr : g < wr.heap.size := by obtain ⟨cur, hh⟩ := hgw; exact (Array.getElem?_eq_some_iff.1 hh).1
                have HGW := Lib.hid hgwr
                obtain ⟨At, ct, z1, z2, _, _, hMt⟩ := relem HO2.out t (by omega)
                obtain ⟨Ak, ck, z3, z4, _, _, _⟩ := relem HO2.out k hk
                rw [mat_get i m M t (by omega), line_len] at z1 hMt
                rw [mat_get i m M k hk, line_len] at z3
                have HMT := Lib.hid hMt
                have g5 : (0 : Int) ≤ (t : Int) := by omega
                have g6 : (t : Int) < (i : Int) := by omega
                clear hMt hgw hgwr
                go_upto_region 16 with (fail)
                obtain ⟨W6, hW6⟩ : ∃ W6, W6 = x2.setCell ⟨g, k, none⟩ (.slice At m ct) := ⟨_, rfl⟩
                have HO6 := Lib.hid (show RowsR W6 w.heap.size (.slice (some ⟨g, 0, none⟩) i cO) (mat i m (swapI M t k)) by
                  have h := rput HO2.out k hk (.slice At m ct) (line m (M t)) _ HMT.out (fun q hq => hq)
                  rw [mat_set i m M k hk, ← hW6] at h
                  exact h)
                have HB6 := Lib.hid (show Below w.heap.size w W6 by rw [hW6]; exact HB2.out.setCell HGB.out _)
                have HR6 := Lib.hid (show (Kd.int .u8).R 5 W6 wr.heap.size (fun _ => True) (.slice A9 m c9) (line m (fun j => gmI (M k j) r)) by
                  obtain ⟨cur, hh⟩ := (rblk HO2.out).2
                  rw [hW6]
                  exact Kd.R_set (Kd.R_lower HR9.out HXe.out.size) hh (by decide) k _)
                rw [← hW6]
                clear hW6 z1 z2 z3 z4 HMT HO2 HB2 HR9 HXf HXe HXd
                obtain ⟨Aj, cj, z1, z2, _, _, _⟩ := relem HO6.out t (by omega)
                go_upto_region 17 with (fail)
                obtain ⟨W7, hW7⟩ : ∃ W7, W7 = W6.setCell ⟨g, t, none⟩ (.slice A9 m c9) := ⟨_, rfl⟩
                have HO7 := Lib.hid (show RowsR W7 w.heap.size (.slice (some ⟨g, 0, none⟩) i cO) (mat i m (fun q => if q < 0 then stepI M t k col r q else if q = t then (fun j => gmI (M k j) r) else swapI M t k q)) by
                  have h := rput HO6.out t (by omega) (.slice A9 m c9) (line m (fun j => gmI (M k j) r)) (fun q => some q = (Value.slice A9 m c9).ownBlock) (row_M (Kd.own_of_R HR6.out) HB.out.size rfl) (fun q hq => by
                    have h1 := Kd.R_base HR6.out q hq.symm
                    have := HGW.out
                    omega)
                  rw [mat_set i m (swapI M t k) t (by omega), ← hW7] at h
                  exact h)
                have HB7 := Lib.hid (show Below w.heap.size w W7 by rw [hW7]; exact HB6.out.setCell HGB.out _)
                have HX7 := Lib.hid (show (Kd.int .u8).R 5 W7 wr.heap.size (fun _ => True) (.slice A9 m c9) (line m (fun j => gmI (M k j) r)) by
                  obtain ⟨cur, hh⟩ := (rblk HO6.out).2
                  have h := Kd.R_set HR6.out hh (by decide) t (.slice A9 m c9)
                  rw [← hW7] at h
                  exact h)
                have hc9 : m ≤ c9 := (Kd.R_reads' HR6.out).2.1
                rw [← hW7]
                clear hW7 z1 z2 HO6 HB6 HR6
                have HSW := Lib.hid (show BytM (swapI M t k) by intro a b; unfold swapI; split <;> exact HBY.out _ _)
                have HC9 := Lib.hid hc9
                clear hc9
                go_wp2
                go_loopw [9] (fun qv wr' => ∃ (q : Nat), q ≤ i ∧ qv = .int .i64 q ∧ Hid (RowsR wr' w.heap.size (.slice (some ⟨g, 0, none⟩) i cO) (mat i m (fun p => if p < q then stepI M t k col r p else if p = t then (fun j => gmI (M k j) r) else swapI M t k p))) ∧ Hid ((Kd.int .u8).R 5 wr' wr.heap.size (fun _ => True) (.slice A9 m c9) (line m (fun j => gmI (M k j) r))) ∧ Hid (Below w.heap.size w wr')) (fun qv _ => i - (intOf qv).toNat)
                case atStart => exact ⟨0, by omega, rfl, HO7, HX7, HB7⟩
                case round =>
                  clear HO7 HX7 HB7
                  obtain ⟨q, hq, rfl, HO7, HX7, HB7⟩ := hrel
                  by_cases hqi : q < i
                  · have g7 : (0 : Int) ≤ (q : Int) := by omega
                    have g8 : (q : Int) < (i : Int) := by omega
                    by_cases hqt : q = t
                    · have t2 : ((q : Int) != (t : Int)) = false := by simp [hqt]
                      go_wp2
                      go_roundw
                      case rel =>
                        refine ⟨q + 1, by omega, by go_num, Lib.hid ?_, HX7, HB7⟩
                        rw [mat_congr i m _ (fun p => if p < q then stepI M t k col r p else if p = t then (fun j => gmI (M k j) r) else swapI M t k p) (fun p hp j hj => ?_)]
                        · exact HO7.out
                        · by_cases h1 : p < q
                          · rw [if_pos (by omega), if_pos h1]
                          · rw [if_neg h1]
                            by_cases h2 : p = t
                            · rw [if_pos (by omega), if_pos h2]; unfold stepI; rw [if_pos h2]
                            · rw [if_neg (by omega)]
                      case measure => simp [intOf]; omega
                    · have t2 : ((q : Int) != (t : Int)) = true := by simp; omega
                      have e1 : (mat i m (fun p => if p < q then stepI M t k col r p else if p = t then (fun j => gmI (M k j) r) else swapI M t k p)).getD q [] = line m (swapI M t k q) := by rw [mat_get i m _ q hqi]; simp [hqt]
                      obtain ⟨Aq, cq, z1, _, l1, hCq, _⟩ := relem HO7.out q hqi
                      rw [e1, line_len] at z1 l1 hCq
                      obtain ⟨adq, rfl, hcb⟩ := at_row hCq col hlt
                      rw [line_get m (swapI M t k q) col hlt] at hcb
                      have KK := Lib.hid (fun W (hB : Below wr.heap.size wr W) => And.intro (pw_cell_below hB z1) (pw_cell_below hB hcb))
                      have hC9' : (Kd.int .u8).C wr A9 m (line m (fun j => gmI (M k j) r)) := by
                        have h := (Kd.R_reads' HX7.out).2.2
                        rw [line_len] at h
                        exact h
                      have TM := Lib.hid (fun W (hB : Below wr.heap.size wr W) => times_any m c9 A9 (fun j => gmI (M k j) r) (swapI M t k q col) W (Kd.C_below hC9' hB) (fun j => gmI_byt (HBY.out k j)) (HSW.out q col) HC9.out hm)
                      have PM := Lib.hid (fun A2 c2 W (hB : Below wr.heap.size wr W) (h2 : (Kd.int .u8).C W A2 m (line m (fun j => gmI (gmI (M k j) r) (swapI M t k q col)))) (hc2 : m ≤ c2) => plus_any m cq c2 (some adq) A2 (swapI M t k q) (fun j => gmI (gmI (M k j) r) (swapI M t k q col)) W (Kd.C_below hCq hB) h2 (HSW.out q) (fun j => gmI_byt (gmI_byt (HBY.out k j))) l1 hc2 hm)
                      have HGQ := Lib.hid (show g < wr.heap.size by obtain ⟨cur, hh⟩ := (rblk HO7.out).2; exact (Array.getElem?_eq_some_iff.1 hh).1)
                      have HXd := Lib.hid (show Below wr.heap.size wr wr.drew from (Below.refl _ _).drew)
                      clear z1 l1 hCq hcb hC9' e1
                      go_upto_region 21 with (fail)
                      refine wp_region_noPanic ?_
                      refine wp_region_held_drew (S := (fun W => True)) (by kernel_rfl) ?_ (fun hHeld => ?_)
                      · ((try dsimp only); all_goals exact trivial)
                      refine wpAnyH_take (i := 0) (oi := { dst := some 92, op := Go.Op.move (Go.Operand.tmp 3), type := 52, pos := "ref.go:26", after := #[], guard := none }) (v := ?_) rfl (by kernel_rfl) (by kernel_rfl) (by kernel_rfl) (fun _ _ _ h => h) (Or.inl ⟨by rfl, ?_⟩) (by assumption) ?_
                      rotate_left 1
                      · (intro w hSw; (try dsimp only at hSw); go_simp; try with_reducible rfl)
                      try simp only [Act.put, List.setIfInBounds_toArray, List.set_cons_zero, List.set_cons_succ]
                      refine wpAnyH_take (i := 1) (oi := { dst := some 93, op := Go.Op.move (Go.Operand.tmp 9), type := 3, pos := "ref.go:26", after := #[], guard := none }) (v := ?_) rfl (by kernel_rfl) (by kernel_rfl) (by kernel_rfl) (fun _ _ _ h => h) (Or.inl ⟨by rfl, ?_⟩) (by assumption) ?_
                      rotate_left 1
                      · (intro w hSw; (try dsimp only at hSw); go_simp; try with_reducible rfl)
                      try simp only [Act.put, List.setIfInBounds_toArray, List.set_cons_zero, List.set_cons_succ]
                      refine wpAnyH_take (i := 2) (oi := { dst := some 94, op := Go.Op.move (Go.Operand.tmp 3), type := 52, pos := "ref.go:26", after := #[], guard := none }) (v := ?_) rfl (by kernel_rfl) (by kernel_rfl) (by kernel_rfl) (fun _ _ _ h => h) (Or.inl ⟨by rfl, ?_⟩) (by assumption) ?_
                      rotate_left 1
                      · (intro w hSw; (try dsimp only at hSw); go_simp; try with_reducible rfl)
                      try simp only [Act.put, List.setIfInBounds_toArray, List.set_cons_zero, List.set_cons_succ]
                      refine wpAnyH_take (i := 3) (oi := { dst := some 95, op := Go.Op.move (Go.Operand.tmp 9), type := 3, pos := "ref.go:26", after := #[], guard := none }) (v := ?_) rfl (by kernel_rfl) (by kernel_rfl) (by kernel_rfl) (fun _ _ _ h => h) (Or.inl ⟨by rfl, ?_⟩) (by assumption) ?_
                      rotate_left 1
                      · (intro w hSw; (try dsimp only at hSw); go_simp; try with_reducible rfl)
                      try simp only [Act.put, List.setIfInBounds_toArray, List.set_cons_zero, List.set_cons_succ]
                      refine wpAnyH_take (i := 4) (oi := { dst := some 96, op := Go.Op.indexAddr 52 (Go.Operand.tmp 94) (Go.Operand.tmp 95), type := 0, pos := "ref.go:26", after := #[{ on := 2, ground := Go.Ground.data }, { on := 3, ground := Go.Ground.data }], guard := none }) (v := ?_) rfl (by kernel_rfl) (by kernel_rfl) (by kernel_rfl) (fun _ _ _ h => h) (Or.inl ⟨by rfl, ?_⟩) (by assumption) ?_
                      rotate_left 1
                      · (intro w hSw; (try dsimp only at hSw); go_simp; try with_reducible rfl)
                      try simp only [Act.put, List.setIfInBounds_toArray, List.set_cons_zero, List.set_cons_succ]
                      refine wpAnyH_take (i := 6) (oi := { dst := some 98, op := Go.Op.move (Go.Operand.tmp 8), type := 22, pos := "ref.go:26", after := #[], guard := none }) (v := ?_) rfl (by kernel_rfl) (by kernel_rfl) (by kernel_rfl) (fun _ _ _ h => h) (Or.inl ⟨by rfl, ?_⟩) (by assumption) ?_
                      rotate_left 1
                      · (intro w hSw; (try dsimp only at hSw); go_simp; try with_reducible rfl)
                      try simp only [Act.put, List.setIfInBounds_toArray, List.set_cons_zero, List.set_cons_succ]
                      refine wpAnyH_take (i := 7) (oi := { dst := some 99, op := Go.Op.move (Go.Operand.tmp 3), type := 52, pos := "ref.go:26", after := #[], guard := none }) (v := ?_) rfl (by kernel_rfl) (by kernel_rfl) (by kernel_rfl) (fun _ _ _ h => h) (Or.inl ⟨by rfl, ?_⟩) (by assumption) ?_
                      rotate_left 1
                      · (intro w hSw; (try dsimp only at hSw); go_simp; try with_reducible rfl)
                      try simp only [Act.put, List.setIfInBounds_toArray, List.set_cons_zero, List.set_cons_succ]
                      refine wpAnyH_take (i := 8) (oi := { dst := some 100, op := Go.Op.move (Go.Operand.tmp 9), type := 3, pos := "ref.go:26", after := #[], guard := none }) (v := ?_) rfl (by kernel_rfl) (by kernel_rfl) (by kernel_rfl) (fun _ _ _ h => h) (Or.inl ⟨by rfl, ?_⟩) (by assumption) ?_
                      rotate_left 1
                      · (intro w hSw; (try dsimp only at hSw); go_simp; try with_reducible rfl)
                      try simp only [Act.put, List.setIfInBounds_toArray, List.set_cons_zero, List.set_cons_succ]
                      refine wpAnyH_take (i := 9) (oi := { dst := some 101, op := Go.Op.indexAddr 52 (Go.Operand.tmp 99) (Go.Operand.tmp 100), type := 0, pos := "ref.go:26", after := #[{ on := 7, ground := Go.Ground.data }, { on := 8, ground := Go.Ground.data }], guard := none }) (v := ?_) rfl (by kernel_rfl) (by kernel_rfl) (by kernel_rfl) (fun _ _ _ h => h) (Or.inl ⟨by rfl, ?_⟩) (by assumption) ?_
                      rotate_left 1
                      · (intro w hSw; (try dsimp only at hSw); go_simp; try with_reducible rfl)
                      try simp only [Act.put, List.setIfInBounds_toArray, List.set_cons_zero, List.set_cons_succ]
                      refine wpAnyH_take (i := 11) (oi := { dst := some 103, op := Go.Op.move (Go.Operand.tmp 6), type := 3, pos := "ref.go:26", after := #[], guard := none }) (v := ?_) rfl (by kernel_rfl) (by kernel_rfl) (by kernel_rfl) (fun _ _ _ h => h) (Or.inl ⟨by rfl, ?_⟩) (by assumption) ?_
                      rotate_left 1
                      · (intro w hSw; (try dsimp only at hSw); go_simp; try with_reducible rfl)
                      try simp only [Act.put, List.setIfInBounds_toArray, List.set_cons_zero, List.set_cons_succ]
                      refine wpAnyH_ready (rs := [5, 10]) (by kernel_rfl) (by simp) ?_
                      refine AllReadyH.cons (o := { dst := some 97, op := Go.Op.load 22 (Go.Operand.tmp 96), type := 22, pos := "ref.go:26", after := #[{ on := 4, ground := Go.Ground.data }], guard := none }) rfl (fun K hK => ?_) ?_
                      · (have kk := KK.out _ (by first | exact HXe.out | exact HXd.out)); obtain ⟨kk1, kk2⟩ := kk; go_simp
                        clear hHeld
                        refine hK.out _ _ ?_ (fun hHeld => ?_)
                        · ((try dsimp only); all_goals exact trivial)
                        clear hK K
                        refine wpAnyH_ready (rs := [10]) (by kernel_rfl) (by simp) ?_
                        refine AllReadyH.cons (o := { dst := some 102, op := Go.Op.load 22 (Go.Operand.tmp 101), type := 22, pos := "ref.go:26", after := #[{ on := 9, ground := Go.Ground.data }], guard := none }) rfl (fun K hK => ?_) AllReadyH.nil
                        (have kk := KK.out _ HXd.out); obtain ⟨kk1, kk2⟩ := kk; go_simp
                        clear hHeld
                        refine hK.out _ _ ?_ (fun hHeld => ?_)
                        · ((try dsimp only); all_goals exact trivial)
                        clear hK K
                        refine wpAnyH_take (i := 12) (oi := { dst := some 104, op := Go.Op.indexAddr 22 (Go.Operand.tmp 102) (Go.Operand.tmp 103), type := 0, pos := "ref.go:26", after := #[{ on := 10, ground := Go.Ground.data }, { on := 11, ground := Go.Ground.data }], guard := none }) (v := ?_) rfl (by kernel_rfl) (by kernel_rfl) (by kernel_rfl) (fun _ _ _ h => h) (Or.inl ⟨by rfl, ?_⟩) (by assumption) ?_
                        rotate_left 1
                        · (intro w hSw; (try dsimp only at hSw); go_simp; try with_reducible rfl)
                        try simp only [Act.put, List.setIfInBounds_toArray, List.set_cons_zero, List.set_cons_succ]
                        refine wpAnyH_ready (rs := [13]) (by kernel_rfl) (by simp) ?_
                        refine AllReadyH.cons (o := { dst := some 105, op := Go.Op.load 5 (Go.Operand.tmp 104), type := 5, pos := "ref.go:26", after := #[{ on := 12, ground := Go.Ground.data }], guard := none }) rfl (fun K hK => ?_) AllReadyH.nil
                        (have kk := KK.out _ HXd.out); obtain ⟨kk1, kk2⟩ := kk; go_simp
                        clear hHeld
                        refine hK.out _ _ ?_ (fun hHeld => ?_)
                        · ((try dsimp only); all_goals exact trivial)
                        clear hK K
                        refine wpAnyH_ready (rs := [14]) (by kernel_rfl) (by simp) ?_
                        refine AllReadyH.cons (o := { dst := some 106, op := Go.Op.call { callee := Go.Callee.value (Go.Operand.func 44), args := #[Go.Operand.tmp 98, Go.Operand.tmp 105], argTypes := #[22, 5] }, type := 22, pos := "ref.go:26", after := #[{ on := 6, ground := Go.Ground.data }, { on := 13, ground := Go.Ground.data }], guard := none }) rfl (fun K hK => ?_) AllReadyH.nil
                        go_simp
                        go_at_call 44
                        (refine (TM.out _ HXd.out).mono ?_); rintro e x1 ⟨A5, c5, rfl, hr5, hb⟩; have h5 := (Kd.R_reads' hr5).2; rw [line_len] at h5; have HC5 := Lib.hid h5; have HXe := Lib.hid (HXd.out.trans (hb.mono HXd.out.size)); clear hb hr5 h5
                        clear hHeld
                        refine hK.out _ _ ?_ (fun hHeld => ?_)
                        · ((try dsimp only); all_goals exact trivial)
                        clear hK K
                        refine wpAnyH_ready (rs := [15]) (by kernel_rfl) (by simp) ?_
                        refine AllReadyH.cons (o := { dst := some 107, op := Go.Op.call { callee := Go.Callee.value (Go.Operand.func 46), args := #[Go.Operand.tmp 97, Go.Operand.tmp 106], argTypes := #[22, 22] }, type := 22, pos := "ref.go:26", after := #[{ on := 5, ground := Go.Ground.data }, { on := 14, ground := Go.Ground.data }, { on := 14, ground := Go.Ground.chain }], guard := none }) rfl (fun K hK => ?_) AllReadyH.nil
                        go_simp
                        go_at_call 46
                        (refine (PM.out A5 c5 _ HXe.out HC5.out.2 HC5.out.1).mono ?_); rintro e x2 ⟨A6, c6, rfl, hr6, hb⟩; have HR6 := Lib.hid hr6; have HXf := Lib.hid (HXe.out.trans (hb.mono HXe.out.size)); clear hb hr6
                        clear hHeld
                        refine hK.out _ _ ?_ (fun hHeld => ?_)
                        · ((try dsimp only); all_goals exact trivial)
                        clear hK K
                        refine wpAnyH_take (i := 16) (oi := { dst := some 108, op := Go.Op.indexAddr 52 (Go.Operand.tmp 92) (Go.Operand.tmp 93), type := 0, pos := "ref.go:26", after := #[{ on := 0, ground := Go.Ground.data }, { on := 1, ground := Go.Ground.data }, { on := 0, ground := Go.Ground.phase }, { on := 1, ground := Go.Ground.phase }, { on := 2, ground := Go.Ground.phase }, { on := 3, ground := Go.Ground.phase }, { on := 4, ground := Go.Ground.phase }, { on := 5, ground := Go.Ground.phase }, { on := 6, ground := Go.Ground.phase }, { on := 7, ground := Go.Ground.phase }, { on := 8, ground := Go.Ground.phase }, { on := 9, ground := Go.Ground.phase }, { on := 10, ground := Go.Ground.phase }, { on := 11, ground := Go.Ground.phase }, { on := 12, ground := Go.Ground.phase }, { on := 13, ground := Go.Ground.phase }, { on := 14, ground := Go.Ground.phase }, { on := 15, ground := Go.Ground.phase }], guard := none }) (v := ?_) rfl (by kernel_rfl) (by kernel_rfl) (by kernel_rfl) (fun _ _ _ h => h) (Or.inl ⟨by rfl, ?_⟩) (by assumption) ?_
                        rotate_left 1
                        · (intro w hSw; (try dsimp only at hSw); go_simp; try with_reducible rfl)
                        try simp only [Act.put, List.setIfInBounds_toArray, List.set_cons_zero, List.set_cons_succ]
                        refine wpAnyH_ready (rs := [17]) (by kernel_rfl) (by simp) ?_
                        refine AllReadyH.cons (o := { dst := none, op := Go.Op.store 22 (Go.Operand.tmp 108) (Go.Operand.tmp 107), type := 0, pos := "ref.go:26", after := #[{ on := 16, ground := Go.Ground.data }, { on := 15, ground := Go.Ground.data }, { on := 15, ground := Go.Ground.chain }, { on := 0, ground := Go.Ground.phase }, { on := 1, ground := Go.Ground.phase }, { on := 2, ground := Go.Ground.phase }, { on := 3, ground := Go.Ground.phase }, { on := 4, ground := Go.Ground.phase }, { on := 5, ground := Go.Ground.phase }, { on := 6, ground := Go.Ground.phase }, { on := 7, ground := Go.Ground.phase }, { on := 8, ground := Go.Ground.phase }, { on := 9, ground := Go.Ground.phase }, { on := 10, ground := Go.Ground.phase }, { on := 11, ground := Go.Ground.phase }, { on := 12, ground := Go.Ground.phase }, { on := 13, ground := Go.Ground.phase }, { on := 14, ground := Go.Ground.phase }, { on := 15, ground := Go.Ground.phase }], guard := none }) rfl (fun K hK => ?_) AllReadyH.nil
                        have HOf := Lib.hid (Kd.R_below HO7.out HXf.out); obtain ⟨_, _, y1, y2, _, _, _⟩ := relem HOf.out q hqi; go_simp
                        clear hHeld
                        refine hK.out _ _ ?_ (fun hHeld => ?_)
                        · ((try dsimp only); all_goals exact trivial)
                        clear hK K
                        refine wpAnyH_done (by kernel_rfl) ?_ _
                        refine NoPanic.normal ?_
                        (go_wp2; go_roundw; (case rel => exact ⟨q + 1, by omega, by go_num, Lib.hid (rowq HOf.out hqi hqt HR6.out (Nat.le_trans HB7.out.size HXe.out.size) (Nat.lt_of_lt_of_le HGQ.out HXe.out.size)), Lib.hid (setx (Kd.R_below HX7.out HXf.out) HOf.out q _), Lib.hid ((HB7.out.trans (HXf.out.mono HB7.out.size)).setCell HGB.out _)⟩); (case measure => simp [intOf]; omega))
                      refine AllReadyH.cons (o := { dst := some 102, op := Go.Op.load 22 (Go.Operand.tmp 101), type := 22, pos := "ref.go:26", after := #[{ on := 9, ground := Go.Ground.data }], guard := none }) rfl (fun K hK => ?_) AllReadyH.nil
                      (have kk := KK.out _ HXd.out); obtain ⟨kk1, kk2⟩ := kk; go_simp
                      clear hHeld
                      refine hK.out _ _ ?_ (fun hHeld => ?_)
                      · ((try dsimp only); all_goals exact trivial)
                      clear hK K
                      refine wpAnyH_take (i := 12) (oi := { dst := some 104, op := Go.Op.indexAddr 22 (Go.Operand.tmp 102) (Go.Operand.tmp 103), type := 0, pos := "ref.go:26", after := #[{ on := 10, ground := Go.Ground.data }, { on := 11, ground := Go.Ground.data }], guard := none }) (v := ?_) rfl (by kernel_rfl) (by kernel_rfl) (by kernel_rfl) (fun _ _ _ h => h) (Or.inl ⟨by rfl, ?_⟩) (by assumption) ?_
                      rotate_left 1
                      · (intro w hSw; (try dsimp only at hSw); go_simp; try with_reducible rfl)
                      try simp only [Act.put, List.setIfInBounds_toArray, List.set_cons_zero, List.set_cons_succ]
                      refine wpAnyH_ready (rs := [5, 13]) (by kernel_rfl) (by simp) ?_
                      refine AllReadyH.cons (o := { dst := some 97, op := Go.Op.load 22 (Go.Operand.tmp 96), type := 22, pos := "ref.go:26", after := #[{ on := 4, ground := Go.Ground.data }], guard := none }) rfl (fun K hK => ?_) ?_
                      · (have kk := KK.out _ (by first | exact HXe.out | exact HXd.out)); obtain ⟨kk1, kk2⟩ := kk; go_simp
                        clear hHeld
                        refine hK.out _ _ ?_ (fun hHeld => ?_)
                        · ((try dsimp only); all_goals exact trivial)
                        clear hK K
                        refine wpAnyH_ready (rs := [13]) (by kernel_rfl) (by simp) ?_
                        refine AllReadyH.cons (o := { dst := some 105, op := Go.Op.load 5 (Go.Operand.tmp 104), type := 5, pos := "ref.go:26", after := #[{ on := 12, ground := Go.Ground.data }], guard := none }) rfl (fun K hK => ?_) AllReadyH.nil
                        (have kk := KK.out _ HXd.out); obtain ⟨kk1, kk2⟩ := kk; go_simp
                        clear hHeld
                        refine hK.out _ _ ?_ (fun hHeld => ?_)
                        · ((try dsimp only); all_goals exact trivial)
                        clear hK K
                        refine wpAnyH_ready (rs := [14]) (by kernel_rfl) (by simp) ?_
                        refine AllReadyH.cons (o := { dst := some 106, op := Go.Op.call { callee := Go.Callee.value (Go.Operand.func 44), args := #[Go.Operand.tmp 98, Go.Operand.tmp 105], argTypes := #[22, 5] }, type := 22, pos := "ref.go:26", after := #[{ on := 6, ground := Go.Ground.data }, { on := 13, ground := Go.Ground.data }], guard := none }) rfl (fun K hK => ?_) AllReadyH.nil
                        go_simp
                        go_at_call 44
                        (refine (TM.out _ HXd.out).mono ?_); rintro e x1 ⟨A5, c5, rfl, hr5, hb⟩; have h5 := (Kd.R_reads' hr5).2; rw [line_len] at h5; have HC5 := Lib.hid h5; have HXe := Lib.hid (HXd.out.trans (hb.mono HXd.out.size)); clear hb hr5 h5
                        clear hHeld
                        refine hK.out _ _ ?_ (fun hHeld => ?_)
                        · ((try dsimp only); all_goals exact trivial)
                        clear hK K
                        refine wpAnyH_ready (rs := [15]) (by kernel_rfl) (by simp) ?_
                        refine AllReadyH.cons (o := { dst := some 107, op := Go.Op.call { callee := Go.Callee.value (Go.Operand.func 46), args := #[Go.Operand.tmp 97, Go.Operand.tmp 106], argTypes := #[22, 22] }, type := 22, pos := "ref.go:26", after := #[{ on := 5, ground := Go.Ground.data }, { on := 14, ground := Go.Ground.data }, { on := 14, ground := Go.Ground.chain }], guard := none }) rfl (fun K hK => ?_) AllReadyH.nil
                        go_simp
                        go_at_call 46
                        (refine (PM.out A5 c5 _ HXe.out HC5.out.2 HC5.out.1).mono ?_); rintro e x2 ⟨A6, c6, rfl, hr6, hb⟩; have HR6 := Lib.hid hr6; have HXf := Lib.hid (HXe.out.trans (hb.mono HXe.out.size)); clear hb hr6
                        clear hHeld
                        refine hK.out _ _ ?_ (fun hHeld => ?_)
                        · ((try dsimp only); all_goals exact trivial)
                        clear hK K
                        refine wpAnyH_take (i := 16) (oi := { dst := some 108, op := Go.Op.indexAddr 52 (Go.Operand.tmp 92) (Go.Operand.tmp 93), type := 0, pos := "ref.go:26", after := #[{ on := 0, ground := Go.Ground.data }, { on := 1, ground := Go.Ground.data }, { on := 0, ground := Go.Ground.phase }, { on := 1, ground := Go.Ground.phase }, { on := 2, ground := Go.Ground.phase }, { on := 3, ground := Go.Ground.phase }, { on := 4, ground := Go.Ground.phase }, { on := 5, ground := Go.Ground.phase }, { on := 6, ground := Go.Ground.phase }, { on := 7, ground := Go.Ground.phase }, { on := 8, ground := Go.Ground.phase }, { on := 9, ground := Go.Ground.phase }, { on := 10, ground := Go.Ground.phase }, { on := 11, ground := Go.Ground.phase }, { on := 12, ground := Go.Ground.phase }, { on := 13, ground := Go.Ground.phase }, { on := 14, ground := Go.Ground.phase }, { on := 15, ground := Go.Ground.phase }], guard := none }) (v := ?_) rfl (by kernel_rfl) (by kernel_rfl) (by kernel_rfl) (fun _ _ _ h => h) (Or.inl ⟨by rfl, ?_⟩) (by assumption) ?_
                        rotate_left 1
                        · (intro w hSw; (try dsimp only at hSw); go_simp; try with_reducible rfl)
                        try simp only [Act.put, List.setIfInBounds_toArray, List.set_cons_zero, List.set_cons_succ]
                        refine wpAnyH_ready (rs := [17]) (by kernel_rfl) (by simp) ?_
                        refine AllReadyH.cons (o := { dst := none, op := Go.Op.store 22 (Go.Operand.tmp 108) (Go.Operand.tmp 107), type := 0, pos := "ref.go:26", after := #[{ on := 16, ground := Go.Ground.data }, { on := 15, ground := Go.Ground.data }, { on := 15, ground := Go.Ground.chain }, { on := 0, ground := Go.Ground.phase }, { on := 1, ground := Go.Ground.phase }, { on := 2, ground := Go.Ground.phase }, { on := 3, ground := Go.Ground.phase }, { on := 4, ground := Go.Ground.phase }, { on := 5, ground := Go.Ground.phase }, { on := 6, ground := Go.Ground.phase }, { on := 7, ground := Go.Ground.phase }, { on := 8, ground := Go.Ground.phase }, { on := 9, ground := Go.Ground.phase }, { on := 10, ground := Go.Ground.phase }, { on := 11, ground := Go.Ground.phase }, { on := 12, ground := Go.Ground.phase }, { on := 13, ground := Go.Ground.phase }, { on := 14, ground := Go.Ground.phase }, { on := 15, ground := Go.Ground.phase }], guard := none }) rfl (fun K hK => ?_) AllReadyH.nil
                        have HOf := Lib.hid (Kd.R_below HO7.out HXf.out); obtain ⟨_, _, y1, y2, _, _, _⟩ := relem HOf.out q hqi; go_simp
                        clear hHeld
                        refine hK.out _ _ ?_ (fun hHeld => ?_)
                        · ((try dsimp only); all_goals exact trivial)
                        clear hK K
                        refine wpAnyH_done (by kernel_rfl) ?_ _
                        refine NoPanic.normal ?_
                        (go_wp2; go_roundw; (case rel => exact ⟨q + 1, by omega, by go_num, Lib.hid (rowq HOf.out hqi hqt HR6.out (Nat.le_trans HB7.out.size HXe.out.size) (Nat.lt_of_lt_of_le HGQ.out HXe.out.size)), Lib.hid (setx (Kd.R_below HX7.out HXf.out) HOf.out q _), Lib.hid ((HB7.out.trans (HXf.out.mono HB7.out.size)).setCell HGB.out _)⟩); (case measure => simp [intOf]; omega))
                      refine AllReadyH.cons (o := { dst := some 105, op := Go.Op.load 5 (Go.Operand.tmp 104), type := 5, pos := "ref.go:26", after := #[{ on := 12, ground := Go.Ground.data }], guard := none }) rfl (fun K hK => ?_) AllReadyH.nil
                      (have kk := KK.out _ HXd.out); obtain ⟨kk1, kk2⟩ := kk; go_simp
                      clear hHeld
                      refine hK.out _ _ ?_ (fun hHeld => ?_)
                      · ((try dsimp only); all_goals exact trivial)
                      clear hK K
                      refine wpAnyH_ready (rs := [5, 14]) (by kernel_rfl) (by simp) ?_
                      refine AllReadyH.cons (o := { dst := some 97, op := Go.Op.load 22 (Go.Operand.tmp 96), type := 22, pos := "ref.go:26", after := #[{ on := 4, ground := Go.Ground.data }], guard := none }) rfl (fun K hK => ?_) ?_
                      · (have kk := KK.out _ (by first | exact HXe.out | exact HXd.out)); obtain ⟨kk1, kk2⟩ := kk; go_simp
                        clear hHeld
                        refine hK.out _ _ ?_ (fun hHeld => ?_)
                        · ((try dsimp only); all_goals exact trivial)
                        clear hK K
                        refine wpAnyH_ready (rs := [14]) (by kernel_rfl) (by simp) ?_
                        refine AllReadyH.cons (o := { dst := some 106, op := Go.Op.call { callee := Go.Callee.value (Go.Operand.func 44), args := #[Go.Operand.tmp 98, Go.Operand.tmp 105], argTypes := #[22, 5] }, type := 22, pos := "ref.go:26", after := #[{ on := 6, ground := Go.Ground.data }, { on := 13, ground := Go.Ground.data }], guard := none }) rfl (fun K hK => ?_) AllReadyH.nil
                        go_simp
                        go_at_call 44
                        (refine (TM.out _ HXd.out).mono ?_); rintro e x1 ⟨A5, c5, rfl, hr5, hb⟩; have h5 := (Kd.R_reads' hr5).2; rw [line_len] at h5; have HC5 := Lib.hid h5; have HXe := Lib.hid (HXd.out.trans (hb.mono HXd.out.size)); clear hb hr5 h5
                        clear hHeld
                        refine hK.out _ _ ?_ (fun hHeld => ?_)
                        · ((try dsimp only); all_goals exact trivial)
                        clear hK K
                        refine wpAnyH_ready (rs := [15]) (by kernel_rfl) (by simp) ?_
                        refine AllReadyH.cons (o := { dst := some 107, op := Go.Op.call { callee := Go.Callee.value (Go.Operand.func 46), args := #[Go.Operand.tmp 97, Go.Operand.tmp 106], argTypes := #[22, 22] }, type := 22, pos := "ref.go:26", after := #[{ on := 5, ground := Go.Ground.data }, { on := 14, ground := Go.Ground.data }, { on := 14, ground := Go.Ground.chain }], guard := none }) rfl (fun K hK => ?_) AllReadyH.nil
                        go_simp
                        go_at_call 46
                        (refine (PM.out A5 c5 _ HXe.out HC5.out.2 HC5.out.1).mono ?_); rintro e x2 ⟨A6, c6, rfl, hr6, hb⟩; have HR6 := Lib.hid hr6; have HXf := Lib.hid (HXe.out.trans (hb.mono HXe.out.size)); clear hb hr6
                        clear hHeld
                        refine hK.out _ _ ?_ (fun hHeld => ?_)
                        · ((try dsimp only); all_goals exact trivial)
                        clear hK K
                        refine wpAnyH_take (i := 16) (oi := { dst := some 108, op := Go.Op.indexAddr 52 (Go.Operand.tmp 92) (Go.Operand.tmp 93), type := 0, pos := "ref.go:26", after := #[{ on := 0, ground := Go.Ground.data }, { on := 1, ground := Go.Ground.data }, { on := 0, ground := Go.Ground.phase }, { on := 1, ground := Go.Ground.phase }, { on := 2, ground := Go.Ground.phase }, { on := 3, ground := Go.Ground.phase }, { on := 4, ground := Go.Ground.phase }, { on := 5, ground := Go.Ground.phase }, { on := 6, ground := Go.Ground.phase }, { on := 7, ground := Go.Ground.phase }, { on := 8, ground := Go.Ground.phase }, { on := 9, ground := Go.Ground.phase }, { on := 10, ground := Go.Ground.phase }, { on := 11, ground := Go.Ground.phase }, { on := 12, ground := Go.Ground.phase }, { on := 13, ground := Go.Ground.phase }, { on := 14, ground := Go.Ground.phase }, { on := 15, ground := Go.Ground.phase }], guard := none }) (v := ?_) rfl (by kernel_rfl) (by kernel_rfl) (by kernel_rfl) (fun _ _ _ h => h) (Or.inl ⟨by rfl, ?_⟩) (by assumption) ?_
                        rotate_left 1
                        · (intro w hSw; (try dsimp only at hSw); go_simp; try with_reducible rfl)
                        try simp only [Act.put, List.setIfInBounds_toArray, List.set_cons_zero, List.set_cons_succ]
                        refine wpAnyH_ready (rs := [17]) (by kernel_rfl) (by simp) ?_
                        refine AllReadyH.cons (o := { dst := none, op := Go.Op.store 22 (Go.Operand.tmp 108) (Go.Operand.tmp 107), type := 0, pos := "ref.go:26", after := #[{ on := 16, ground := Go.Ground.data }, { on := 15, ground := Go.Ground.data }, { on := 15, ground := Go.Ground.chain }, { on := 0, ground := Go.Ground.phase }, { on := 1, ground := Go.Ground.phase }, { on := 2, ground := Go.Ground.phase }, { on := 3, ground := Go.Ground.phase }, { on := 4, ground := Go.Ground.phase }, { on := 5, ground := Go.Ground.phase }, { on := 6, ground := Go.Ground.phase }, { on := 7, ground := Go.Ground.phase }, { on := 8, ground := Go.Ground.phase }, { on := 9, ground := Go.Ground.phase }, { on := 10, ground := Go.Ground.phase }, { on := 11, ground := Go.Ground.phase }, { on := 12, ground := Go.Ground.phase }, { on := 13, ground := Go.Ground.phase }, { on := 14, ground := Go.Ground.phase }, { on := 15, ground := Go.Ground.phase }], guard := none }) rfl (fun K hK => ?_) AllReadyH.nil
                        have HOf := Lib.hid (Kd.R_below HO7.out HXf.out); obtain ⟨_, _, y1, y2, _, _, _⟩ := relem HOf.out q hqi; go_simp
                        clear hHeld
                        refine hK.out _ _ ?_ (fun hHeld => ?_)
                        · ((try dsimp only); all_goals exact trivial)
                        clear hK K
                        refine wpAnyH_done (by kernel_rfl) ?_ _
                        refine NoPanic.normal ?_
                        (go_wp2; go_roundw; (case rel => exact ⟨q + 1, by omega, by go_num, Lib.hid (rowq HOf.out hqi hqt HR6.out (Nat.le_trans HB7.out.size HXe.out.size) (Nat.lt_of_lt_of_le HGQ.out HXe.out.size)), Lib.hid (setx (Kd.R_below HX7.out HXf.out) HOf.out q _), Lib.hid ((HB7.out.trans (HXf.out.mono HB7.out.size)).setCell HGB.out _)⟩); (case measure => simp [intOf]; omega))
                      refine AllReadyH.cons (o := { dst := some 106, op := Go.Op.call { callee := Go.Callee.value (Go.Operand.func 44), args := #[Go.Operand.tmp 98, Go.Operand.tmp 105], argTypes := #[22, 5] }, type := 22, pos := "ref.go:26", after := #[{ on := 6, ground := Go.Ground.data }, { on := 13, ground := Go.Ground.data }], guard := none }) rfl (fun K hK => ?_) AllReadyH.nil
                      go_simp
                      go_at_call 44
                      (refine (TM.out _ HXd.out).mono ?_); rintro e x1 ⟨A5, c5, rfl, hr5, hb⟩; have h5 := (Kd.R_reads' hr5).2; rw [line_len] at h5; have HC5 := Lib.hid h5; have HXe := Lib.hid (HXd.out.trans (hb.mono HXd.out.size)); clear hb hr5 h5
                      clear hHeld
                      refine hK.out _ _ ?_ (fun hHeld => ?_)
                      · ((try dsimp only); all_goals exact trivial)
                      clear hK K
                      refine wpAnyH_ready (rs := [5]) (by kernel_rfl) (by simp) ?_
                      refine AllReadyH.cons (o := { dst := some 97, op := Go.Op.load 22 (Go.Operand.tmp 96), type := 22, pos := "ref.go:26", after := #[{ on := 4, ground := Go.Ground.data }], guard := none }) rfl (fun K hK => ?_) AllReadyH.nil
                      (have kk := KK.out _ (by first | exact HXe.out | exact HXd.out)); obtain ⟨kk1, kk2⟩ := kk; go_simp
                      clear hHeld
                      refine hK.out _ _ ?_ (fun hHeld => ?_)
                      · ((try dsimp only); all_goals exact trivial)
                      clear hK K
                      refine wpAnyH_ready (rs := [15]) (by kernel_rfl) (by simp) ?_
                      refine AllReadyH.cons (o := { dst := some 107, op := Go.Op.call { callee := Go.Callee.value (Go.Operand.func 46), args := #[Go.Operand.tmp 97, Go.Operand.tmp 106], argTypes := #[22, 22] }, type := 22, pos := "ref.go:26", after := #[{ on := 5, ground := Go.Ground.data }, { on := 14, ground := Go.Ground.data }, { on := 14, ground := Go.Ground.chain }], guard := none }) rfl (fun K hK => ?_) AllReadyH.nil
                      go_simp
                      go_at_call 46
                      (refine (PM.out A5 c5 _ HXe.out HC5.out.2 HC5.out.1).mono ?_); rintro e x2 ⟨A6, c6, rfl, hr6, hb⟩; have HR6 := Lib.hid hr6; have HXf := Lib.hid (HXe.out.trans (hb.mono HXe.out.size)); clear hb hr6
                      clear hHeld
                      refine hK.out _ _ ?_ (fun hHeld => ?_)
                      · ((try dsimp only); all_goals exact trivial)
                      clear hK K
                      refine wpAnyH_take (i := 16) (oi := { dst := some 108, op := Go.Op.indexAddr 52 (Go.Operand.tmp 92) (Go.Operand.tmp 93), type := 0, pos := "ref.go:26", after := #[{ on := 0, ground := Go.Ground.data }, { on := 1, ground := Go.Ground.data }, { on := 0, ground := Go.Ground.phase }, { on := 1, ground := Go.Ground.phase }, { on := 2, ground := Go.Ground.phase }, { on := 3, ground := Go.Ground.phase }, { on := 4, ground := Go.Ground.phase }, { on := 5, ground := Go.Ground.phase }, { on := 6, ground := Go.Ground.phase }, { on := 7, ground := Go.Ground.phase }, { on := 8, ground := Go.Ground.phase }, { on := 9, ground := Go.Ground.phase }, { on := 10, ground := Go.Ground.phase }, { on := 11, ground := Go.Ground.phase }, { on := 12, ground := Go.Ground.phase }, { on := 13, ground := Go.Ground.phase }, { on := 14, ground := Go.Ground.phase }, { on := 15, ground := Go.Ground.phase }], guard := none }) (v := ?_) rfl (by kernel_rfl) (by kernel_rfl) (by kernel_rfl) (fun _ _ _ h => h) (Or.inl ⟨by rfl, ?_⟩) (by assumption) ?_
                      rotate_left 1
                      · (intro w hSw; (try dsimp only at hSw); go_simp; try with_reducible rfl)
                      try simp only [Act.put, List.setIfInBounds_toArray, List.set_cons_zero, List.set_cons_succ]
                      refine wpAnyH_ready (rs := [17]) (by kernel_rfl) (by simp) ?_
                      refine AllReadyH.cons (o := { dst := none, op := Go.Op.store 22 (Go.Operand.tmp 108) (Go.Operand.tmp 107), type := 0, pos := "ref.go:26", after := #[{ on := 16, ground := Go.Ground.data }, { on := 15, ground := Go.Ground.data }, { on := 15, ground := Go.Ground.chain }, { on := 0, ground := Go.Ground.phase }, { on := 1, ground := Go.Ground.phase }, { on := 2, ground := Go.Ground.phase }, { on := 3, ground := Go.Ground.phase }, { on := 4, ground := Go.Ground.phase }, { on := 5, ground := Go.Ground.phase }, { on := 6, ground := Go.Ground.phase }, { on := 7, ground := Go.Ground.phase }, { on := 8, ground := Go.Ground.phase }, { on := 9, ground := Go.Ground.phase }, { on := 10, ground := Go.Ground.phase }, { on := 11, ground := Go.Ground.phase }, { on := 12, ground := Go.Ground.phase }, { on := 13, ground := Go.Ground.phase }, { on := 14, ground := Go.Ground.phase }, { on := 15, ground := Go.Ground.phase }], guard := none }) rfl (fun K hK => ?_) AllReadyH.nil
                      have HOf := Lib.hid (Kd.R_below HO7.out HXf.out); obtain ⟨_, _, y1, y2, _, _, _⟩ := relem HOf.out q hqi; go_simp
                      clear hHeld
                      refine hK.out _ _ ?_ (fun hHeld => ?_)
                      · ((try dsimp only); all_goals exact trivial)
                      clear hK K
                      refine wpAnyH_done (by kernel_rfl) ?_ _
                      refine NoPanic.normal ?_
                      (go_wp2; go_roundw; (case rel => exact ⟨q + 1, by omega, by go_num, Lib.hid (rowq HOf.out hqi hqt HR6.out (Nat.le_trans HB7.out.size HXe.out.size) (Nat.lt_of_lt_of_le HGQ.out HXe.out.size)), Lib.hid (setx (Kd.R_below HX7.out HXf.out) HOf.out q _), Lib.hid ((HB7.out.trans (HXf.out.mono HB7.out.size)).setCell HGB.out _)⟩); (case measure => simp [intOf]; omega))
                  · obtain rfl : q = i := by omega
                    have HOe := Lib.hid (show RowsR wr w.heap.size (.slice (some ⟨g, 0, none⟩) q cO) (mat q m (stepI M t k col r)) by
                      rw [mat_congr q m (stepI M t k col r) (fun p => if p < q then stepI M t k col r p else if p = t then (fun j => gmI (M k j) r) else swapI M t k p) (fun p hp j hj => by rw [if_pos hp])]
                      exact HO7.out)
                    go_wp2
                    go_roundw
                    case rel => exact ⟨t + 1, col + 1, stepI M t k col r, by go_num, by go_num, by omega, Lib.hid (.step HS.out htk hk HZ.out hz HRB.out HR1.out), HOe, HB7⟩
                    case measure => simp [intOf]; omega
            · obtain rfl : k = i := by omega
              go_wp2
              go_roundw
              case rel => exact ⟨t, col + 1, M, rfl, by go_num, by omega, Lib.hid (.skip HS.out (fun j h1 h2 => HZ.out j h1 h2)), HO, HB⟩
              case measure => simp [intOf]; omega
        · obtain rfl : col = m := by omega
          go_wp2
          go_ret
          exact ⟨_, t, M, rfl, HO.out, HS.out, HB.out⟩
end Go.Proofs.Ytelgefkfflgbeaa.Sol
