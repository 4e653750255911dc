/- Rows of powers, and the matrix of points. -/
import Derived.Test.YtelgefkfflgbeaaProg
import Derived.Below
import Derived.Deep.Draws
import Derived.Deep.AppendLies
import Derived.Maps.AppendAt
import Derived.OwnWalk
import Derived.Laws.BytesArg
import Derived.Laws.MakeOwn
import Derived.Laws.OwnMore
import Derived.Deep.OwnRows
import Derived.Tactics
import Derived.Lib.ConvBytes
import Derived.Laws.Slices
import Derived.WalkKit
import Derived.KernelRfl
import Derived.RowKit3
import Derived.Deep.LoopGhost
import Derived.Deep.QuietTactic
import Derived.BigQuiet
import Derived.WideLaws
import Derived.Deep.DeepCutAuto
import Derived.Deep.CutBlock
import Derived.Deep.RegionHeld3
import Derived.Laws.Rows
import Derived.Lib.AppendStr
import Derived.ArgAppend
import Derived.Laws.IdiomCopy
import Derived.OrdersHeld
import Derived.Laws.BitsLemmas
import Derived.RowKit
import Derived.Lib.Hide
import Derived.WalkSpells
import Derived.StillTailTactics
import Derived.Outline
import Derived.Test.YtelgefkfflgbeaaBVandPointsVPtsL
import Derived.Test.YtelgefkfflgbeaaBVandRowsGfRefPow
import Derived.Test.YtelgefkfflgbeaaMatR
namespace Go.Proofs.Ytelgefkfflgbeaa.VRows
open Go Go.RowKit Go.Proofs.Ytelgefkfflgbeaa.PVandRows Go.Proofs.Ytelgefkfflgbeaa.BVandRows Go.Proofs.Ytelgefkfflgbeaa.Gf Go.Proofs.Ytelgefkfflgbeaa.Bits Go.Proofs.Ytelgefkfflgbeaa.Mem Go.Proofs.Ytelgefkfflgbeaa.VPts Go.Proofs.Ytelgefkfflgbeaa.Mat Go.Proofs.YtelgefkfflgbeaaW.PrintWords Go.Proofs.YtelgefkfflgbeaaW.PrintLast
set_option linter.unusedVariables false

def pows (x n : Nat) : List Int := (List.range n).map (fun i => ((gp x i : Nat) : Int))
theorem pows_succ (x n : Nat) : pows x (n + 1) = pows x n ++ [((gp x n : Nat) : Int)] := by simp [pows, List.range_succ]
theorem pows_len (x n : Nat) : (pows x n).length = n := by simp [pows]
theorem pows_bytes (x n : Nat) (hx : x < 256) : Bytes (pows x n) := by
  intro y hy
  obtain ⟨i, _, rfl⟩ := List.mem_map.1 hy
  have := gp_lt x hx i
  omega
theorem vinc (i : Nat) (h : i < 1000000) : wrap64 ((i : Int) + 1) = ((i + 1 : Nat) : Int) := by rw [wrap64_in _ (by omega) (by omega)]; omega
theorem vrow_loop (x : Nat) (hx : x < 256) (n : Nat) (hn : n ≤ 100) (d : Nat) : ∀ (k i : Nat), i + d = n → 20 + d ≤ k → vand_Row.l0 k x (pows x i) ((gp x i : Nat) : Int) n i = some (pows x n) := by
  induction d with
  | zero =>
    intro k i hd hk
    obtain ⟨k, rfl⟩ : ∃ m, k = m + 1 := ⟨k - 1, by omega⟩
    obtain rfl : i = n := by omega
    simp only [vand_Row.l0]
    rw [if_neg (by omega)]
  | succ d ih =>
    intro k i hd hk
    obtain ⟨k, rfl⟩ : ∃ m, k = m + 1 := ⟨k - 1, by omega⟩
    simp only [vand_Row.l0]
    rw [if_pos (by omega), if_pos (by rw [pows_len]; omega), gf_mul k (gp x i) x (gp_lt x hx i) hx (by omega), bnd, vinc i (by omega), ← pows_succ, gp_succ]
    exact ih k (i + 1) (by omega) (by omega)
theorem vrow_f (x : Nat) (hx : x < 256) (n : Int) (hn : n ≤ 100) : vand_Row.f 200 x n = some (pows x n.toNat) := by
  have h0 := vrow_loop x hx n.toNat (by omega) n.toNat 200 0 (by omega) (by omega)
  unfold vand_Row.f
  have : mx n 0 = ((n.toNat : Nat) : Int) := by
    unfold mx
    split <;> omega
  rw [this]
  exact h0
theorem rrow_loop (x : Nat) (hx : x < 256) (n : Nat) (hn : n ≤ 100) (d : Nat) : ∀ (k i : Nat), i + d = n → 200 + d ≤ k → coldframeref05_Row.l0 k x n (pows x i) i = some (pows x n) := by
  induction d with
  | zero =>
    intro k i hd hk
    obtain ⟨k, rfl⟩ : ∃ m, k = m + 1 := ⟨k - 1, by omega⟩
    obtain rfl : i = n := by omega
    simp only [coldframeref05_Row.l0]
    rw [if_neg (by omega)]
  | succ d ih =>
    intro k i hd hk
    obtain ⟨k, rfl⟩ : ∃ m, k = m + 1 := ⟨k - 1, by omega⟩
    simp only [coldframeref05_Row.l0]
    rw [if_pos (by omega), ref_pow k x i hx (by omega) (by omega), bnd, if_pos (by rw [pows_len]; omega), vinc i (by omega), ← pows_succ]
    exact ih k (i + 1) (by omega) (by omega)
theorem rrow_neg (k : Nat) (x n : Int) (h : n ≤ 0) : coldframeref05_Row.l0 (k + 1) x n [] 0 = some [] := by
  simp only [coldframeref05_Row.l0]
  rw [if_neg (by omega)]
theorem rrow_f (x : Nat) (hx : x < 256) (n : Int) (hn : n ≤ 100) : coldframeref05_Row.f 400 x n = some (pows x n.toNat) := by
  unfold coldframeref05_Row.f
  by_cases h : 0 ≤ n
  · obtain ⟨n, rfl⟩ := Int.eq_ofNat_of_zero_le h
    exact rrow_loop x hx n (by omega) n 400 0 (by omega) (by omega)
  · have : n.toNat = 0 := by omega
    rw [this]
    exact rrow_neg 399 x n (by omega)
/-- A row of powers. -/
theorem row_calls (x : Nat) (hx : x < 256) (n : Int) (hn : n ≤ 100) (W : World) :
    Calls Try.prog 15 #[.int .u8 x, .int .i64 n] W fun e w' => ∃ A c, e = .returned (.slice A n.toNat c) ∧ Kd.R (Kd.int .u8) 5 w' W.heap.size (fun _ => True) (.slice A n.toNat c) (pows x n.toNat) ∧ Below W.heap.size W w' := by
  refine (vand_Row.calls 200 x n _ W (vrow_f x hx n hn)).mono ?_
  rintro e w' ⟨v, rfl, hr, hb⟩
  obtain ⟨A, c, rfl⟩ := Kd.R_slice hr
  rw [pows_len] at *
  exact ⟨A, c, rfl, hr, hb⟩
theorem refrow_calls (x : Nat) (hx : x < 256) (n : Int) (hn : n ≤ 100) (W : World) :
    Calls Try.prog 16 #[.int .u8 x, .int .i64 n] W fun e w' => ∃ A c, e = .returned (.slice A n.toNat c) ∧ Kd.R (Kd.int .u8) 5 w' W.heap.size (fun _ => True) (.slice A n.toNat c) (pows x n.toNat) ∧ Below W.heap.size W w' := by
  refine (coldframeref05_Row.calls 400 x n _ W (rrow_f x hx n hn)).mono ?_
  rintro e w' ⟨v, rfl, hr, hb⟩
  obtain ⟨A, c, rfl⟩ := Kd.R_slice hr
  rw [pows_len] at *
  exact ⟨A, c, rfl, hr, hb⟩
/-- The rows of the first k points. -/
def rowsL (f : Nat → Nat) (n k : Nat) : List (List Int) := (List.range k).map (fun i => pows (f i) n)
theorem rowsL_succ (f : Nat → Nat) (n k : Nat) : rowsL f n (k + 1) = rowsL f n k ++ [pows (f k) n] := by simp [rowsL, List.range_succ]
theorem rowsL_len (f : Nat → Nat) (n k : Nat) : (rowsL f n k).length = k := by simp [rowsL]
theorem rowsL_bytes (f : Nat → Nat) (n k : Nat) (hf : ∀ i, f i < 256) : AllBytes (rowsL f n k) := by
  intro l hl
  obtain ⟨i, _, rfl⟩ := List.mem_map.1 hl
  exact pows_bytes _ _ (hf i)
theorem rowsL_get (f : Nat → Nat) (n k i : Nat) (hi : i < k) : (rowsL f n k).getD i [] = pows (f i) n := by simp [rowsL, List.getD_eq_getElem?_getD, hi]
theorem rowsL_even (f : Nat → Nat) (n k : Nat) : ∀ l ∈ rowsL f n k, l.length = n := by
  intro l hl
  obtain ⟨i, _, rfl⟩ := List.mem_map.1 hl
  exact pows_len _ _
theorem rowsL_right (f : Nat → Nat) (n k : Nat) : RightP (rowsL f n k) ↔ 1 ≤ k ∧ k ≤ 64 ∧ 1 ≤ n ∧ n ≤ 64 := by
  constructor
  · intro h
    have h0 := h.r0
    have h1 := h.r1
    have h2 := h.c0
    have h3 := h.c1
    rw [rowsL_len] at h0 h1
    rw [rowsL_get f n k 0 (by omega), pows_len] at h2 h3
    omega
  · intro h
    have hl : ((rowsL f n k).getD 0 []).length = n := by rw [rowsL_get f n k 0 (by omega), pows_len]
    exact ⟨by rw [rowsL_len]; omega, by rw [rowsL_len]; omega, by rw [hl]; omega, by rw [hl]; omega, fun l hm => by rw [hl]; exact rowsL_even f n k l hm⟩

/-- One row more, appended, beside a block that is kept. -/
theorem rows_appendG {P : Program} {ops : Array Oper} {rest : List Oper} {o : Oper} {a : Act} {Q : Exit → Act → World → Prop} {w0 W wr : World} (hP : P = Try.prog) (base g0 : Nat) (hgd : o.guard = none) (s x : Operand)
    (ho : o.op = .call { callee := .builtin .append, args := #[s, x], argTypes := #[52, 52] }) (v : Value) (ls : List (List Int)) (ys : List Int) (u : Value)
    (hs : a.eval s = v) (hx : a.eval x = .slice (some ⟨W.heap.size, 0, none⟩) 1 1) (HR : Kd.R kRow 22 wr base (fun b => b ≠ g0) v ls) (hg0 : g0 < wr.heap.size) (HB : Below base w0 wr) (hbase : base ≤ wr.heap.size) (hB : Below wr.heap.size wr W)
    (hu : Kd.R (Kd.int .u8) 5 W wr.heap.size (fun _ => True) u ys) (hl : ls.length ≤ 1000000)
    (h : ∀ v1 w1, Kd.R kRow 22 w1 base (fun b => b ≠ g0) v1 (ls ++ [ys]) → Below base w0 w1 → W.grownBy w1 v.ownBlock → wpList P ops Q rest (a.put o.dst v1) w1) :
    wpList P ops Q (o :: rest) a (W.alloc (.cells #[u] 22)) := by
  subst hP
  have hM : kRow.M W base (fun k => wr.heap.size ≤ k) ys [u] := by
    refine ⟨u, rfl, ?_⟩
    have h1 := Kd.R_mono (Kd.R_bound hu) (ok' := fun k => wr.heap.size ≤ k) (fun k hk => hk.2.1)
    exact Kd.R_lower h1 hbase
  refine Kd.R_append kRow (w0 := w0) base hgd s x 52 22 (.slice none 0 0) 24 ho Try.underlying52 info_rows rfl (by decide) (by decide) v ls ys [u] (fun b => b ≠ g0)
    (fun k => wr.heap.size ≤ k) hs hx hM ?_ (fun k hk => by have := hB.size; omega) (Kd.R_below HR hB) ?_ (Nat.le_trans hbase hB.size) (by omega) (fun v1 w1 h1 h2 h3 _ => h v1 w1 h1 h2 h3)
  · intro k hk
    refine ⟨by omega, fun e => ?_⟩
    have := Kd.R_lt HR k e.symm
    omega
  · exact HB.trans (hB.mono hbase)

/-- The matrix of points: that one is there twice, or what Of tells of the rows. -/
def MatrixPost (f : Nat → Nat) (m : Nat) (n : Int) (w : World) (e : Ending) (w' : World) : Prop :=
  (((∃ k, k < m ∧ hit f k (f k) = true) ∨ ¬ (1 ≤ m ∧ m ≤ 64 ∧ 1 ≤ n ∧ n ≤ 64)) ∧ e = .returned (.tuple #[.pointer none, .int .i64 1]) ∧ Below w.heap.size w w') ∨
  ((∀ k, k < m → hit f k (f k) = false) ∧ (1 ≤ m ∧ m ≤ 64 ∧ 1 ≤ n ∧ n ≤ 64) ∧ ∃ b s cap, e = .returned (.tuple #[.pointer (some ⟨b, 0, none⟩), .int .i64 0]) ∧ MatIn w' b s m n.toNat cap (flat (rowsL f n.toNat m)) ∧ Below w.heap.size w w')
set_option maxRecDepth 100000 in
theorem matrix_wide (A : Option Addr) (c0 m : Nat) (n : Int) (w : World) (hn : 64 < n) :
    Calls Try.prog 17 #[.slice A m c0, .int .i64 n] w fun e w' => e = .returned (.tuple #[.pointer none, .int .i64 1]) ∧ Below w.heap.size w w' := by
  have hz := zero_256
  go_enter Try.func17, Try.ntmps17
  go_wp2
  repeat (go_quiet (fail); try go_wp2)
  go_ret2
  exact ⟨rfl, (by repeat (first | exact Below.refl _ _ | apply pw_below_drewN | refine Below.alloc ?_ (Nat.le_refl _) _))⟩
theorem of_rows (f : Nat → Nat) (hf : ∀ i, f i < 256) (n m : Nat) (A : Option Addr) (c : Nat) (w : World) (h : RowsC w A (rowsL f n m)) (hl : m ≤ c) (hm : m ≤ 100) :
    Calls Try.prog 33 #[.slice A m c] w fun e w' => (¬ (1 ≤ m ∧ m ≤ 64 ∧ 1 ≤ n ∧ n ≤ 64) ∧ e = .returned (.tuple #[.pointer none, .int .i64 1]) ∧ Below w.heap.size w w') ∨
      ((1 ≤ m ∧ m ≤ 64 ∧ 1 ≤ n ∧ n ≤ 64) ∧ ∃ b s cap, e = .returned (.tuple #[.pointer (some ⟨b, 0, none⟩), .int .i64 0]) ∧ MatIn w' b s m n cap (flat (rowsL f n m)) ∧ Below w.heap.size w w') := by
  have e1 : m = (rowsL f n m).length := (rowsL_len f n m).symm
  by_cases hr : 1 ≤ m ∧ m ≤ 64 ∧ 1 ≤ n ∧ n ≤ 64
  · have h1 := of_right A c (rowsL f n m) w w (Below.refl _ _) h ((rowsL_right f n m).2 hr) (rowsL_bytes f n m hf) (by rw [rowsL_len]; exact hl)
    have e2 : ((rowsL f n m).getD 0 []).length = n := by rw [rowsL_get f n m 0 (by omega), pows_len]
    rw [← e1, e2] at h1
    refine h1.mono ?_
    rintro e w' ⟨b, s, cap, rfl, hm, hb, _, _⟩
    exact .inr ⟨hr, b, s, cap, rfl, hm, hb⟩
  · have h1 := of_bad A c (rowsL f n m) w h (rowsL_bytes f n m hf) (by rw [rowsL_len]; exact hl) (by rw [rowsL_len]; omega) (fun hR => hr ((rowsL_right f n m).1 hR))
    rw [← e1] at h1
    refine h1.mono ?_
    rintro e w' ⟨rfl, hb⟩
    exact .inl ⟨hr, rfl, hb⟩

set_option maxRecDepth 100000 in
set_option maxHeartbeats 2000000 in
theorem matrix_walk (A : Option Addr) (c0 : Nat) (ps : List Int) (n : Int) (w : World) (hr : ReadsInt w .u8 A ps.length ps) (hb : Bytes ps) (hm : ps.length ≤ 100) (hn : n ≤ 64) :
    Calls Try.prog 17 #[.slice A ps.length c0, .int .i64 n] w (MatrixPost (fun i => (ps.getD i 0).toNat) ps.length n w) := by
  have hz := zero_256
  have t1 : decide (n > 64) = false := by simp; omega
  have t1' : ¬ (64 : Int) < n := by omega
  obtain ⟨f, hf⟩ : ∃ f : Nat → Nat, f = fun i => (ps.getD i 0).toNat := ⟨_, rfl⟩
  have hfb : ∀ i, f i < 256 := fun i => by have := hb.getD i; rw [hf]; show (ps.getD i 0).toNat < 256; omega
  have hfp : ∀ i, ps.getD i 0 = ((f i : Nat) : Int) := fun i => by have := hb.getD i; rw [hf]; show _ = (((ps.getD i 0).toNat : Nat) : Int); omega
  rw [← hf]
  have HR := Lib.hid hr
  have HF := Lib.hid hfb
  have HP := Lib.hid hfp
  have HN := Lib.hid hn
  obtain ⟨m, hmm⟩ : ∃ m, m = ps.length := ⟨_, rfl⟩
  rw [← hmm] at HR hm ⊢
  clear hf hfb hfp hr hb hmm hn
  go_enter Try.func17, Try.ntmps17
  go_upto_region 6 with (fail)
  repeat (go_quiet (fail); try go_upto_region 6 with (fail))
  clear hz t1 t1'
  have HB0 := Lib.hid (show Below w.heap.size w (w.alloc (.cells Z256 46)) from (Below.refl _ _).alloc (Nat.le_refl _) _)
  have HG0 := Lib.hid (show ∃ cs, Blk (w.alloc (.cells Z256 46)) w.heap.size 46 cs ∧ Seen f 0 cs from ⟨Z256, Blk.new _ _ _, seen0 f⟩)
  have HR0 := Lib.hid (Kd.R_nil kRow 22 (w.alloc (.cells Z256 46)) w.heap.size (fun b => b ≠ w.heap.size))
  go_loopw [7, 9, 14] (fun v7 _ i wr => ∃ (k : Nat), k ≤ m ∧ i = .int .i64 (k : Nat) ∧ Hid (∀ j, j < k → hit f j (f j) = false) ∧ Hid (Kd.R kRow 22 wr w.heap.size (fun b => b ≠ w.heap.size) v7 (rowsL f n.toNat k)) ∧ Hid (∃ cs, Blk wr w.heap.size 46 cs ∧ Seen f k cs) ∧ Hid (Below w.heap.size w wr)) (fun _ _ i _ => m - (intOf i).toNat)
  case atStart => exact ⟨0, by omega, rfl, Lib.hid (fun j hj => by omega), HR0, HG0, HB0⟩
  case round =>
    obtain ⟨k, hk, rfl, HD, HK, HG, HB⟩ := hrel
    clear HB0 HG0 HR0
    obtain ⟨A7, c7, rfl⟩ := Kd.R_slice HK.out
    by_cases hlt : k < m
    · obtain ⟨ad, eA, hcell⟩ := (HR.out.below HB.out).at_ (k : Int) (by omega) (by omega)
      subst eA
      have hc1 : wr.cell? (ad.add k) = some (.int .u8 (f k)) := by
        rw [← HP.out k]; simpa [rd] using hcell
      have hp := HF.out k
      obtain ⟨p, hpp⟩ : ∃ p, p = f k := ⟨_, rfl⟩
      rw [← hpp] at hp hc1
      obtain ⟨cs, hbk, hs⟩ := HG.out
      have hc := (hbk.cell p).trans (hs.2 p hp)
      have hfz := hbk.frozen p
      have HPP := Lib.hid hpp
      have HBL := Lib.hid hbk
      have HSN := Lib.hid hs
      have p0 : (0 : Int) ≤ (p : Int) := by omega
      have p1 : (p : Int) < 256 := by omega
      have p2 : ((p : Int)).toNat = p := by omega
      clear hpp hbk hs HG hcell
      by_cases hh : hit f k p = true
      · rw [hh] at hc
        have HH := Lib.hid hh
        clear hh
        go_wp2
        go_ret2
        exact .inl ⟨.inl ⟨k, hlt, by rw [← HPP.out]; exact HH.out⟩, rfl, HB.out⟩
      · rw [Bool.eq_false_iff.mpr hh] at hc
        have HH := Lib.hid (Bool.eq_false_iff.mpr hh)
        have HRS := Lib.hid (Kd.R_far HK.out (p := ⟨w.heap.size, p, none⟩) (fun b hb => hb) (.bool true))
        have HBS := Lib.hid (HB.out.setCell (p := ⟨w.heap.size, p, none⟩) (Nat.le_refl _) (.bool true))
        have HGS := Lib.hid (HBL.out.set_ p (.bool true))
        have HSZ := Lib.hid HB.out.size
        have HGL := Lib.hid HBL.out.lt
        have HN1 := Lib.hid (show n ≤ 100 by have := HN.out; omega)
        have HAW := Lib.hid (Kd.R_away HK.out (g := w.heap.size) (fun b hb => hb))
        have HPF := Lib.hid hp
        clear hh
        go_wp2_with (first
          | (go_at_call 15; (with_reducible refine (row_calls _ HPF.out _ HN1.out _).mono ?_); rintro e w1 ⟨A5, c5, rfl, hr5, hb5⟩; have HR5 := Lib.hid hr5; have HB5 := Lib.hid hb5; have HG5 := Lib.hid (HGS.out.below hb5 (by simpa using HGL.out)); clear hr5 hb5)
          | (at_builtin; refine rows_appendG (w0 := w) rfl w.heap.size w.heap.size rfl _ _ rfl _ (rowsL f n.toNat k) (pows p n.toNat) _ rfl rfl HRS.out (by simpa using HGL.out) HBS.out (by simpa using HSZ.out) HB5.out HR5.out (by rw [rowsL_len]; omega) ?_; intro v1 w2 h1 h2 h3; have HR1 := Lib.hid h1; have HB1 := Lib.hid h2; have HG1 := Lib.hid (HG5.out.grown h3 HAW.out); clear h1 h2 h3))
        go_roundw
        case rel => exact ⟨k + 1, by omega, by go_num, Lib.hid (fun j hj => by
            by_cases e : j < k
            · exact HD.out j e
            · obtain rfl : j = k := by omega
              rw [← HPP.out]; exact HH.out), by rw [rowsL_succ, ← HPP.out]; exact HR1, Lib.hid ⟨_, HG1.out, by rw [HPP.out]; exact seen_more f k cs HSN.out (by rw [← HPP.out]; exact HPF.out)⟩, HB1⟩
        case measure => simp [intOf]; omega
    · obtain rfl : k = m := by omega
      obtain ⟨hl7, hlc, hC7⟩ := Kd.R_reads' HK.out
      have hOF := of_rows f HF.out n.toNat k A7 c7 wr hC7 (by rw [rowsL_len] at hlc; exact hlc) hm
      have hlen := rowsL_len f n.toNat k
      rw [hlen]
      clear hC7 hl7 hlc hlen
      by_cases hg : 1 ≤ k ∧ k ≤ 64 ∧ 1 ≤ n.toNat ∧ n.toNat ≤ 64
      · have HOF := Lib.hid (hOF.mono (R' := fun e w' => ∃ b s cap, e = .returned (.tuple #[.pointer (some ⟨b, 0, none⟩), .int .i64 0]) ∧ MatIn w' b s k n.toNat cap (flat (rowsL f n.toNat k)) ∧ Below wr.heap.size wr w') (fun e w' h => h.elim (fun h => absurd hg h.1) (fun h => h.2)))
        have HG2 := Lib.hid (show 1 ≤ k ∧ k ≤ 64 ∧ 1 ≤ n ∧ n ≤ 64 by omega)
        clear hOF hg
        go_wp2_with (go_at_call 33; (with_reducible refine HOF.out.mono ?_); rintro e w1 ⟨b, s, cap, rfl, hmt, hb⟩; have HMT := Lib.hid hmt; have HBX := Lib.hid hb; clear hmt hb)
        go_ret2
        exact .inr ⟨HD.out, HG2.out, b, s, cap, rfl, HMT.out, HB.out.trans (HBX.out.mono HB.out.size)⟩
      · have HOF := Lib.hid (hOF.mono (R' := fun e w' => e = .returned (.tuple #[.pointer none, .int .i64 1]) ∧ Below wr.heap.size wr w') (fun e w' h => h.elim (fun h => h.2) (fun h => absurd h.1 hg)))
        have HG2 := Lib.hid (show ¬ (1 ≤ k ∧ k ≤ 64 ∧ 1 ≤ n ∧ n ≤ 64) by omega)
        clear hOF hg
        go_wp2_with (go_at_call 33; (with_reducible refine HOF.out.mono ?_); rintro e w1 ⟨rfl, hb⟩; have HBX := Lib.hid hb; clear hb)
        go_ret2
        exact .inl ⟨.inr HG2.out, rfl, HB.out.trans (HBX.out.mono HB.out.size)⟩
end Go.Proofs.Ytelgefkfflgbeaa.VRows
