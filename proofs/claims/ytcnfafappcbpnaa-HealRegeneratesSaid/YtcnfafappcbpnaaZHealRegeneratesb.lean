/- The statement HealRegenerates: what its proof rests on, part 2 of 4. -/
import Derived.Test.YtcnfafappcbpnaaProg
import Derived.Below
import Derived.Deep.Draws
import Derived.Deep.AppendLies
import Derived.Maps.AppendAt
import Derived.OwnWalk
import Derived.Laws.BytesArg
import Derived.Laws.MakeOwn
import Derived.Laws.OwnMore
import Derived.Deep.OwnRows
import Derived.Tactics
import Derived.Lib.ConvBytes
import Derived.Laws.Slices
import Derived.WalkKit
import Derived.KernelRfl
import Derived.RowKit3
import Derived.Deep.LoopGhost
import Derived.Deep.QuietTactic
import Derived.BigQuiet
import Derived.WideLaws
import Derived.Deep.DeepCutAuto
import Derived.Deep.CutBlock
import Derived.Deep.RegionHeld3
import Derived.Laws.Rows
import Derived.Lib.AppendStr
import Derived.ArgAppend
import Derived.Laws.IdiomCopy
import Derived.OrdersHeld
import Derived.Laws.BitsLemmas
import Derived.RowKit
import Derived.Lib.Hide
import Derived.WalkSpells
import Derived.StillTailTactics
import Derived.Outline
import Derived.Test.YtcnfafappcbpnaaPHealFragmentsx2
import Derived.Test.YtcnfafappcbpnaaZHealRegeneratesa
/- solve: the rows of a matrix, a row's multiple, and a multiple added to another one. -/
namespace Go.Proofs.Ytcnfafappcbpnaa.Sol
open Go Go.RowKit Go.Proofs.Ytcnfafappcbpnaa.Gi Go.Proofs.Ytcnfafappcbpnaa.Mem Go.Proofs.Ytcnfafappcbpnaa.Bits Go.Proofs.YtcnfafappcbpnaaW.PrintWords
set_option linter.unusedVariables false

/-- A matrix's elements, told by places. -/
def mx (c : Nat) (xs : List Int) : Mtx := fun i j => xs.getD (i * c + j) 0
theorem rowOf_line {r c : Nat} {xs : List Int} (hl : xs.length = r * c) (i : Nat) (hi : i < r) : Mat.rowOf c xs i = line c (mx c xs i) := by
  refine List.ext_getElem (by rw [Mat.rowOf_len hl i hi, line_len]) (fun j h1 h2 => ?_)
  rw [Mat.rowOf_len hl i hi] at h1
  have e1 := Mat.rowOf_get (xs := xs) i j h1
  have e2 := line_get c (mx c xs i) j h1
  rw [List.getD_eq_getElem?_getD, List.getElem?_eq_getElem (by rw [Mat.rowOf_len hl i hi]; exact h1)] at e1
  rw [List.getD_eq_getElem?_getD, List.getElem?_eq_getElem h2] at e2
  simp only [Option.getD_some] at e1 e2
  rw [e1, e2]; rfl
theorem mx_byt {c : Nat} {xs : List Int} (h : Mat.Bytes xs) : BytM (mx c xs) := fun i j => h.getD _
theorem Grid.snoc {wr W w1 : World} {lo n m : Nat} {v v1 u : Value} {R : Nat → Value} {M : Mtx} (h : Grid wr lo wr.heap.size v n m R M) (hlo : lo ≤ wr.heap.size) (hb : Below wr.heap.size wr W) (hu : W.ownsRow wr.heap.size 5 1 u m (nums .u8 (line m (M n))))
    (ho : w1.ownsRow lo 22 1 v1 (n + 1) (heads n R ++ [u])) (hg : W.grownBy w1 v.ownBlock) : Grid w1 lo w1.heap.size v1 (n + 1) m (fun q => if q = n then u else R q) M := by
  have hW := h.below hb
  have hrow : ∀ q, q < n + 1 → w1.ownsRow lo 5 1 (if q = n then u else R q) m (nums .u8 (line m (M q))) := fun q hq => by
    by_cases e : q = n
    · subst e
      rw [if_pos rfl]
      exact (own_weaken hu hlo).kept hg (own_type_ne hu hW.hd (by decide))
    · rw [if_neg e]
      exact (hW.row q (by omega)).kept hg (own_type_ne (hW.row q (by omega)) hW.hd (by decide))
  refine ⟨?_, hrow, fun i j hi hj hne k hk => ?_, fun k hk => own_lt ho k hk, fun i hi k hk => own_lt (hrow i hi) k hk⟩
  · rw [heads_succ, heads_congr n (fun q => if q = n then u else R q) R (fun i hi => if_neg (by omega))]
    simpa using ho
  · by_cases e1 : i = n
    · subst e1
      simp only [if_true] at hk
      rw [if_neg (by omega)]
      intro e2
      have h1 := own_base hu k hk
      have h2 := h.rhi j (by omega) k e2
      omega
    · simp only [if_neg e1] at hk
      by_cases e2 : j = n
      · subst e2
        rw [if_pos rfl]
        intro e3
        have h1 := own_base hu k e3
        have h2 := h.rhi i (by omega) k hk
        omega
      · rw [if_neg e2]
        exact h.apart i j (by omega) (by omega) hne k hk
theorem info_rows2 : (Try.prog.info? 22).map (fun i => (i.zero, i.size, i.bytes)) = some (some (.slice none 0 0), 1, 24) := by kernel_rfl
theorem row_cell {W : World} {base e size n : Nat} {u : Value} {xs : List Value} (h : W.ownsRow base e size u n xs) : ∀ x ∈ [u], x.oneCell' = true := by
  obtain ⟨A, c, rfl⟩ := own_slice h
  intro x hx
  rw [List.mem_singleton.1 hx]
  rfl
/-- A head appended. -/
theorem head_append {P : Program} {ops : Array Oper} {rest : List Oper} {o : Oper} {a : Act} {Q : Exit → Act → World → Prop} {w0 W : World} (hP : P = Try.prog) (base : Nat) (hgd : o.guard = none) (s x : Operand)
    (ho : o.op = .call { callee := .builtin .append, args := #[s, x], argTypes := #[39, 39] }) (v u : Value) (n : Nat) (xs : List Value)
    (hs : a.eval s = v) (hx : a.eval x = .slice (some ⟨W.heap.size, 0, none⟩) 1 1) (hu : ∀ y ∈ [u], y.oneCell' = true) (HO : W.ownsRow base 22 1 v n xs) (HB : Below base w0 W) (hbase : base ≤ W.heap.size) (hn : n ≤ 1000000)
    (h : ∀ v1 w1, w1.ownsRow base 22 1 v1 (n + 1) (xs ++ [u]) → Below base w0 w1 → W.grownBy w1 v.ownBlock → wpList P ops Q rest (a.put o.dst v1) w1) :
    wpList P ops Q (o :: rest) a (W.alloc (.cells #[u] 22)) := by
  subst hP
  exact print_append_cells (w0 := w0) base hgd s x 39 22 (.slice none 0 0) 1 24 ho Try.underlying39 info_rows2 rfl (by decide) (by decide) v n xs [u] hs hx rfl hu HO HB hbase (by omega) (fun v1 w1 h1 h2 h3 _ => h v1 w1 h1 h2 h3)
set_option maxRecDepth 100000 in
set_option maxHeartbeats 2000000 in
theorem srows_any (v : Value) (r c : Nat) (xs : List Int) (w : World) (h : Mat.IsMat w v r c xs) :
    Calls Try.prog 75 #[v] w fun e w' => ∃ u R, e = .returned u ∧ Grid w' w.heap.size w'.heap.size u r c R (mx c xs) ∧ Below w.heap.size w w' := by
  have hr64 : r ≤ 64 := by obtain ⟨b, s, cap, rfl, hm⟩ := h; exact hm.r1
  have hlen : xs.length = r * c := by obtain ⟨b, s, cap, rfl, hm⟩ := h; exact hm.len
  have SZ := Lib.hid (Mat.size_any v r c xs w h)
  have RW := Lib.hid (fun W (hB : Below w.heap.size w W) i (hi : i < r) => Mat.row_in v r c xs i W (h.below hB) hi)
  have RL := Lib.hid (fun i (hi : i < r) => rowOf_line hlen i hi)
  clear h hlen
  go_enter Try.func75, Try.ntmps75
  go_upto_region 4 with (go_at_call 50; (with_reducible refine SZ.out.mono ?_); rintro e w0 ⟨rfl, nd, hw0⟩; have HB0 := Lib.hid (show Below w.heap.size w w0 by rw [hw0]; exact pw_below_drewN (Below.refl _ _) nd); have HG0 := Lib.hid (show Grid w0 w.heap.size w0.heap.size (.slice none 0 0) 0 c (fun _ => .slice none 0 0) (mx c xs) from ⟨own_nil _ _ _ _, fun i hi => absurd hi (Nat.not_lt_zero i), fun i j hi => absurd hi (Nat.not_lt_zero i), fun k hk => (by cases hk), fun i hi => absurd hi (Nat.not_lt_zero i)⟩); clear hw0)
  go_loopw [3, 6, 13] (fun u0 _ iv wr => ∃ (i : Nat) (u : Value) (R : Nat → Value), u0 = u ∧ i ≤ r ∧ iv = .int .i64 i ∧ Hid (Grid wr w.heap.size wr.heap.size u i c R (mx c xs)) ∧ Hid (Below w.heap.size w wr)) (fun _ _ iv _ => r - (intOf iv).toNat)
  case atStart => exact ⟨0, _, _, rfl, by omega, rfl, HG0, HB0⟩
  case round =>
    clear HG0 HB0
    obtain ⟨i, u, R, rfl, hi, rfl, HG, HB⟩ := hrel
    by_cases hlt : i < r
    · have RW1 := Lib.hid (RW.out wr HB.out i hlt)
      rw [RL.out i hlt] at RW1
      go_wp2_with (first
        | (go_at_call 54; (with_reducible refine RW1.out.mono ?_); rintro e w1 ⟨u1, rfl, h1, hb1⟩; obtain ⟨A1, c1, rfl⟩ := own_slice h1; have H1 := Lib.hid h1; have HB1 := Lib.hid hb1; clear h1 hb1)
        | (at_builtin; refine head_append (w0 := w) rfl w.heap.size rfl _ _ rfl u3 _ i (heads i R) rfl rfl (row_cell H1.out) (pw_own_below HG.out.hd HB1.out) (HB.out.trans (HB1.out.mono HB.out.size)) (Nat.le_trans HB.out.size HB1.out.size) (by omega) ?_; intro v2 w2 ho hb hg; have HG2 := Lib.hid (Grid.snoc HG.out HB.out.size HB1.out H1.out ho hg); have HB2 := Lib.hid hb; clear ho hb hg))
      go_roundw
      case rel => exact ⟨i + 1, _, _, rfl, by omega, by go_num, HG2, HB2⟩
      case measure => simp [intOf]; omega
    · obtain rfl : i = r := by omega
      go_wp2
      go_ret
      exact ⟨_, _, rfl, HG.out, HB.out⟩
/-- The first k multiplied. -/
def scl (f : Nat → Int) (x : Int) (k : Nat) : Nat → Int := fun j => if j < k then gmI (f j) x else f j
theorem scl_set (m : Nat) (f : Nat → Int) (x : Int) (k : Nat) (hk : k < m) : (line m (scl f x k)).set k (gmI (f k) x) = line m (scl f x (k + 1)) := by
  rw [line_set m _ k hk]
  refine line_congr m _ _ (fun j hj => ?_)
  unfold scl
  by_cases e : j = k
  · subst e; rw [if_pos rfl, if_pos (by omega)]
  · rw [if_neg e]
    by_cases h : j < k
    · rw [if_pos h, if_pos (by omega)]
    · rw [if_neg h, if_neg (by omega)]
theorem own_elem {w : World} {lo b c m : Nat} {f : Nat → Int} (h : w.ownsRow lo 5 1 (.slice (some ⟨b, 0, none⟩) m c) m (nums .u8 (line m f))) (j : Nat) (hj : j < m) : w.cell? ⟨b, j, none⟩ = some (.int .u8 (f j)) ∧ w.frozen? ⟨b, j, none⟩ = false := by
  refine ⟨?_, h.frozenAt j⟩
  rw [h.cellAt j (by omega)]
  simp [nums, line, hj]
theorem nums_line_set (m : Nat) (f g : Nat → Int) (k : Nat) (y : Int) (h : (line m f).set k y = line m g) : (nums .u8 (line m f)).set k (.int .u8 y) = nums .u8 (line m g) := by
  rw [← h]; simp [nums, List.map_set]
set_option maxRecDepth 100000 in
set_option maxHeartbeats 2000000 in
theorem scale_any (lo b c m : Nat) (f : Nat → Int) (x : Int) (w : World) (hr : w.ownsRow lo 5 1 (.slice (some ⟨b, 0, none⟩) m c) m (nums .u8 (line m f))) (hf : ∀ j, Byt (f j)) (hx : Byt x) (hm : m ≤ 1000000) :
    Calls Try.prog 82 #[.slice (some ⟨b, 0, none⟩) m c, .int .u8 x] w fun e w' => e = .returned (.tuple #[]) ∧ w'.ownsRow lo 5 1 (.slice (some ⟨b, 0, none⟩) m c) m (nums .u8 (line m (fun j => gmI (f j) x))) ∧ w.grownBy w' (some b) := by
  have HF := Lib.hid hf
  have HX := Lib.hid hx
  have HR0 := Lib.hid (show w.ownsRow lo 5 1 (.slice (some ⟨b, 0, none⟩) m c) m (nums .u8 (line m (scl f x 0))) by
    rw [line_congr m (scl f x 0) f (fun j _ => by unfold scl; rw [if_neg (Nat.not_lt_zero j)])]; exact hr)
  have HG0 := Lib.hid (World.grownBy.refl w (some b))
  clear hf hx hr
  go_enter Try.func82, Try.ntmps82
  go_upto_region 1 with (fail)
  go_loopw [4, 7] (fun _ iv wr => ∃ (i : Nat), i ≤ m ∧ iv = .int .i64 i ∧ Hid (wr.ownsRow lo 5 1 (.slice (some ⟨b, 0, none⟩) m c) m (nums .u8 (line m (scl f x i)))) ∧ Hid (w.grownBy wr (some b))) (fun _ iv _ => m - (intOf iv).toNat)
  case atStart => exact ⟨0, by omega, rfl, HR0, HG0⟩
  case round =>
    clear HR0 HG0
    obtain ⟨i, hi, rfl, HR, HG⟩ := hrel
    by_cases hlt : i < m
    · obtain ⟨t1, t2⟩ := own_elem HR.out i hlt
      rw [show scl f x i i = f i by unfold scl; rw [if_neg (Nat.lt_irrefl i)]] at t1
      have hst := HR.out.stored i (.int .u8 (gmI (f i) x))
      rw [nums_line_set m _ _ i _ (scl_set m f x i hlt)] at hst
      have hyb := HF.out i
      obtain ⟨y, hy⟩ : ∃ y, y = f i := ⟨_, rfl⟩
      rw [← hy] at t1 hst hyb
      have HY := Lib.hid hyb
      have HR1 := Lib.hid hst.1
      have HG1 := Lib.hid (World.grownBy.trans HG.out hst.2)
      have g0 : (0 : Int) ≤ (i : Int) := by omega
      have g1 : (i : Int) < (m : Int) := by omega
      clear hy hst hyb
      go_wp2_with (go_at_call 26; (with_reducible refine (mul_still y x _ HY.out HX.out).mono ?_); rintro e w' ⟨rfl, rfl⟩)
      go_roundw
      case rel => exact ⟨i + 1, by omega, by go_num, HR1, HG1⟩
      case measure => simp [intOf]; omega
    · obtain rfl : i = m := by omega
      go_wp2
      first | go_end0 | ((try simp only [Exit.inBlock, Exit.then]); refine bodyPost_ret (results_none rfl _ _ _) rfl ?_)
      refine ⟨rfl, ?_, HG.out⟩
      rw [line_congr i (fun j => gmI (f j) x) (scl f x i) (fun j hj => by unfold scl; rw [if_pos hj])]
      exact HR.out
/-- The first k added to. -/
def adl (f g : Nat → Int) (x : Int) (k : Nat) : Nat → Int := fun j => if j < k then xorI (f j) (gmI (g j) x) else f j
theorem adl_set (m : Nat) (f g : Nat → Int) (x : Int) (k : Nat) (hk : k < m) : (line m (adl f g x k)).set k (xorI (f k) (gmI (g k) x)) = line m (adl f g x (k + 1)) := by
  rw [line_set m _ k hk]
  refine line_congr m _ _ (fun j hj => ?_)
  unfold adl
  by_cases e : j = k
  · subst e; rw [if_pos rfl, if_pos (by omega)]
  · rw [if_neg e]
    by_cases h : j < k
    · rw [if_pos h, if_pos (by omega)]
    · rw [if_neg h, if_neg (by omega)]
set_option maxRecDepth 100000 in
set_option maxHeartbeats 2000000 in
theorem sadd_any (lo b c b2 c2 m : Nat) (f g : Nat → Int) (x : Int) (w : World) (hr : w.ownsRow lo 5 1 (.slice (some ⟨b, 0, none⟩) m c) m (nums .u8 (line m f))) (hr2 : w.ownsRow lo 5 1 (.slice (some ⟨b2, 0, none⟩) m c2) m (nums .u8 (line m g)))
    (hne : b2 ≠ b) (hf : ∀ j, Byt (f j)) (hg : ∀ j, Byt (g j)) (hx : Byt x) (hm : m ≤ 1000000) :
    Calls Try.prog 83 #[.slice (some ⟨b, 0, none⟩) m c, .slice (some ⟨b2, 0, none⟩) m c2, .int .u8 x] w fun e w' => e = .returned (.tuple #[]) ∧ w'.ownsRow lo 5 1 (.slice (some ⟨b, 0, none⟩) m c) m (nums .u8 (line m (fun j => xorI (f j) (gmI (g j) x)))) ∧ w.grownBy w' (some b) := by
  have HF := Lib.hid hf
  have HGB := Lib.hid hg
  have HX := Lib.hid hx
  have HNE := Lib.hid hne
  have HR0 := Lib.hid (show w.ownsRow lo 5 1 (.slice (some ⟨b, 0, none⟩) m c) m (nums .u8 (line m (adl f g x 0))) by
    rw [line_congr m (adl f g x 0) f (fun j _ => by unfold adl; rw [if_neg (Nat.not_lt_zero j)])]; exact hr)
  have HS0 := Lib.hid hr2
  have HG0 := Lib.hid (World.grownBy.refl w (some b))
  clear hf hg hx hr hr2 hne
  go_enter Try.func83, Try.ntmps83
  go_upto_region 1 with (fail)
  go_loopw [6, 9] (fun _ iv wr => ∃ (i : Nat), i ≤ m ∧ iv = .int .i64 i ∧ Hid (wr.ownsRow lo 5 1 (.slice (some ⟨b, 0, none⟩) m c) m (nums .u8 (line m (adl f g x i)))) ∧ Hid (wr.ownsRow lo 5 1 (.slice (some ⟨b2, 0, none⟩) m c2) m (nums .u8 (line m g))) ∧ Hid (w.grownBy wr (some b))) (fun _ iv _ => m - (intOf iv).toNat)
  case atStart => exact ⟨0, by omega, rfl, HR0, HS0, HG0⟩
  case round =>
    clear HR0 HS0 HG0
    obtain ⟨i, hi, rfl, HR, HS, HG⟩ := hrel
    by_cases hlt : i < m
    · obtain ⟨t1, t2⟩ := own_elem HR.out i hlt
      obtain ⟨t3, _⟩ := own_elem HS.out i hlt
      rw [show adl f g x i i = f i by unfold adl; rw [if_neg (Nat.lt_irrefl i)]] at t1
      have hst := fun q => World.ownsRow.stored (w := wr.drewN q) HR.out i (.int .u8 (xorI (f i) (gmI (g i) x)))
      simp only [nums_line_set m _ _ i _ (adl_set m f g x i hlt)] at hst
      have hyb := HF.out i
      have hzb := HGB.out i
      obtain ⟨y, hy⟩ : ∃ y, y = f i := ⟨_, rfl⟩
      obtain ⟨z, hz⟩ : ∃ z, z = g i := ⟨_, rfl⟩
      rw [← hy] at t1 hst hyb
      rw [← hz] at t3 hst hzb
      have HY := Lib.hid hyb
      have HZ := Lib.hid hzb
      have HR1 := Lib.hid (hst 1).1
      have HS1 := Lib.hid (World.ownsRow.kept (w := wr.drewN 1) HS.out (hst 1).2 (.inr (fun e => HNE.out (by injection e))))
      have HG1 := Lib.hid (World.grownBy.trans HG.out (World.grownBy.trans (show wr.grownBy (wr.drewN 1) (some b) from ⟨rfl, rfl, rfl, Nat.le_refl _, fun _ _ _ => rfl⟩) (hst 1).2))
      have g0 : (0 : Int) ≤ (i : Int) := by omega
      have g1 : (i : Int) < (m : Int) := by omega
      clear hy hz hst hyb hzb
      go_wp2
      refine wp_region_still_tail 14 (by kernel_rfl) (by kernel_rfl) ?_
      change wpStill _ _ (wr.drewN 1) (fun a' => wpList _ _ _ _ a' (wr.drewN 1)) _ _
      simp only [List.take_succ_cons, List.take_zero, List.drop_succ_cons, List.drop_zero]
      iterate 11 still_step
      still_call (mul_still z x (wr.drewN 1) HZ.out HX.out)
      still_call (add_still y (gmI z x) (wr.drewN 1) HY.out (gmI_byt HZ.out))
      still_step
      refine wpStill_nil ?_
      go_wp2
      go_roundw
      case rel => exact ⟨i + 1, by omega, by go_num, HR1, HS1, HG1⟩
      case measure => simp [intOf]; omega
    · obtain rfl : i = m := by omega
      go_wp2
      first | go_end0 | ((try simp only [Exit.inBlock, Exit.then]); refine bodyPost_ret (results_none rfl _ _ _) rfl ?_)
      refine ⟨rfl, ?_, HG.out⟩
      rw [line_congr i (fun j => xorI (f j) (gmI (g j) x)) (adl f g x i) (fun j hj => by unfold adl; rw [if_pos hj])]
      exact HR.out
end Go.Proofs.Ytcnfafappcbpnaa.Sol
/- solve: rows that are brought to steps, and other ones that go along. -/
namespace Go.Proofs.Ytcnfafappcbpnaa.Sol
open Go Go.RowKit Go.Proofs.Ytcnfafappcbpnaa.Gi Go.Proofs.Ytcnfafappcbpnaa.Mem Go.Proofs.Ytcnfafappcbpnaa.Bits Go.Proofs.Ytcnfafappcbpnaa.Rws Go.Proofs.YtcnfafappcbpnaaW.PrintWords
set_option linter.unusedVariables false

/-- Rows apart are rows. -/
theorem Grid.rows {w : World} {lo hi n m : Nat} {v : Value} {R : Nat → Value} {M : Mtx} (h : Grid w lo hi v n m R M) : RowsR w lo v (mat n m M) := by
  refine ⟨fun _ _ => trivial, heads n R, by rw [mat_len]; exact h.hd, by rw [heads_len, mat_len]; exact (Nat.mul_one n).symm, fun j p hj => ?_⟩
  have hjn : j < n := by
    have := (List.getElem?_eq_some_iff.1 hj).1
    rwa [mat_len] at this
  have hp : p = line m (M j) := by
    rw [show (mat n m M)[j]? = some (line m (M j)) by simp [mat, hjn]] at hj
    injection hj with hj
    exact hj.symm
  subst hp
  refine ⟨R j, ?_, Kd.R_of_own (by rw [line_len]; exact h.row j hjn) (fun k hk => ⟨trivial, fun e => ?_⟩)⟩
  · show ((heads n R).drop (j * 1)).take 1 = [R j]
    rw [Nat.mul_one, List.drop_eq_getElem_cons (by rw [heads_len]; exact hjn)]
    simp [heads]
  · rcases own_type_ne (h.row j hjn) h.hd (by decide) with e1 | e1
    · rw [e1] at hk; cases hk
    · exact e1 (by rw [hk]; exact e)
/-- Nothing but blocks from lo on and below top has changed. -/
structure Insd (lo top : Nat) (w w' : World) : Prop where
  os : w'.os = w.os
  tape : w'.tape = w.tape
  output : w'.output = w.output
  size : w.heap.size ≤ w'.heap.size
  block : ∀ k, k < w.heap.size → (k < lo ∨ top ≤ k) → w'.heap[k]? = w.heap[k]?
theorem Insd.refl (lo top : Nat) (w : World) : Insd lo top w w := ⟨rfl, rfl, rfl, Nat.le_refl _, fun _ _ _ => rfl⟩
theorem Insd.trans {lo top : Nat} {w w1 w2 : World} (h : Insd lo top w w1) (h' : Insd lo top w1 w2) : Insd lo top w w2 :=
  ⟨h'.os.trans h.os, h'.tape.trans h.tape, h'.output.trans h.output, Nat.le_trans h.size h'.size, fun k hk ho => (h'.block k (Nat.lt_of_lt_of_le hk h.size) ho).trans (h.block k hk ho)⟩
theorem Insd.grown {lo top b : Nat} {w w' : World} (hg : w.grownBy w' (some b)) (h1 : lo ≤ b) (h2 : b < top) : Insd lo top w w' :=
  ⟨hg.os, hg.tape, hg.output, hg.size, fun k hk ho => hg.block k hk (fun e => by injection e with e; omega)⟩
theorem Insd.drewN {lo top : Nat} (w : World) (q : Nat) : Insd lo top w (w.drewN q) := ⟨rfl, rfl, rfl, Nat.le_refl _, fun _ _ _ => rfl⟩
theorem Insd.below {lo top : Nat} {w w' : World} (h : Insd lo top w w') (hl : lo ≤ w.heap.size) : Below lo w w' := ⟨h.os, h.tape, h.output, h.size, fun k hk => h.block k (Nat.lt_of_lt_of_le hk hl) (.inl hk)⟩
theorem Insd.own {lo top base n size : Nat} {e : TypeId} {w w' : World} {v : Value} {xs : List Value} (h : Insd lo top w w') (ho : w.ownsRow base e size v n xs) (hb : top ≤ base) : w'.ownsRow base e size v n xs :=
  own_move ho (fun k hk => h.block k (own_lt ho k hk) (.inr (Nat.le_trans hb (own_base ho k hk))))
theorem Insd.blk {lo top p t : Nat} {w w' : World} {cs : Array Value} (h : Insd lo top w w') (hb : Blk w p t cs) (hp : top ≤ p) : Blk w' p t cs := (h.block p hb.lt (.inr hp)).trans hb
/-- A pointer's work: rows, and others that go along; C is both side by side. -/
structure Work (w : World) (lo mid top p : Nat) (va vb : Value) (n m q : Nat) (Ra Rb : Nat → Value) (C : Mtx) : Prop where
  blk : Blk w p 100 #[va, vb]
  ga : Grid w lo mid va n m Ra C
  gb : Grid w mid top vb n q Rb (fun i j => C i (m + j))
  l1 : lo ≤ mid
  l2 : mid ≤ top
  l3 : top ≤ p
section
variable {w w' : World} {lo mid top p n m q : Nat} {va vb : Value} {Ra Rb : Nat → Value} {C : Mtx}
theorem Work.below (h : Work w lo mid top p va vb n m q Ra Rb C) (hb : Below w.heap.size w w') : Work w' lo mid top p va vb n m q Ra Rb C :=
  ⟨h.blk.below hb h.blk.lt, h.ga.below hb, h.gb.below hb, h.l1, h.l2, h.l3⟩
theorem Work.cells (h : Work w lo mid top p va vb n m q Ra Rb C) : w.cell? ⟨p, 0, none⟩ = some va ∧ w.cell? ⟨p, 1, none⟩ = some vb := ⟨(h.blk.cell 0).trans rfl, (h.blk.cell 1).trans rfl⟩
theorem Work.grown (h : Work w lo mid top p va vb n m q Ra Rb C) {b : Nat} (hg : w.grownBy w' (some b)) (hb : p < b) : Work w' lo mid top p va vb n m q Ra Rb C :=
  ⟨h.blk.grown hg (fun e => by injection e with e; omega), h.ga.grown hg (.inr (by have := h.l2; have := h.l3; omega)), h.gb.grown hg (.inr (by have := h.l3; omega)), h.l1, h.l2, h.l3⟩
theorem Work.congr (h : Work w lo mid top p va vb n m q Ra Rb C) {C' : Mtx} (hc : ∀ i, i < n → ∀ j, j < m + q → C i j = C' i j) : Work w lo mid top p va vb n m q Ra Rb C' :=
  ⟨h.blk, h.ga.congr (fun i hi j hj => hc i hi j (by omega)), h.gb.congr (fun i hi j hj => hc i hi (m + j) (by omega)), h.l1, h.l2, h.l3⟩
/-- A row of the first ones put anew. -/
theorem Work.putA (h : Work w lo mid top p va vb n m q Ra Rb C) (i : Nat) (hi : i < n) {b c : Nat} (e : Ra i = .slice (some ⟨b, 0, none⟩) m c) (hl : lo ≤ b) (hh : b < mid) (hg : w.grownBy w' (some b)) (f : Nat → Int) (hr : w'.ownsRow lo 5 1 (Ra i) m (nums .u8 (line m f))) :
    Work w' lo mid top p va vb n m q Ra Rb (fun p j => if p = i then (if j < m then f j else C i j) else C p j) := by
  refine ⟨h.blk.grown hg (fun e => by injection e with e; have := h.l2; have := h.l3; omega), (h.ga.put i hi e hg f hr).congr (fun p _ j hj => ?_), (h.gb.grown hg (.inl hh)).congr (fun p _ j hj => ?_), h.l1, h.l2, h.l3⟩
  · by_cases hp : p = i
    · subst hp; rw [if_pos rfl, if_pos rfl, if_pos hj]
    · rw [if_neg hp, if_neg hp]
  · by_cases hp : p = i
    · subst hp; rw [if_pos rfl, if_neg (by omega)]
    · rw [if_neg hp]
/-- A row of the others put anew. -/
theorem Work.putB (h : Work w lo mid top p va vb n m q Ra Rb C) (i : Nat) (hi : i < n) {b c : Nat} (e : Rb i = .slice (some ⟨b, 0, none⟩) q c) (hl : mid ≤ b) (hh : b < top) (hg : w.grownBy w' (some b)) (f : Nat → Int) (hr : w'.ownsRow mid 5 1 (Rb i) q (nums .u8 (line q f))) :
    Work w' lo mid top p va vb n m q Ra Rb (fun p j => if p = i then (if j < m then C i j else f (j - m)) else C p j) := by
  refine ⟨h.blk.grown hg (fun e => by injection e with e; have := h.l3; omega), (h.ga.grown hg (.inr hl)).congr (fun p _ j hj => ?_), (h.gb.put i hi e hg f hr).congr (fun p _ j hj => ?_), h.l1, h.l2, h.l3⟩
  · by_cases hp : p = i
    · subst hp; rw [if_pos rfl, if_pos hj]
    · rw [if_neg hp]
  · by_cases hp : p = i
    · subst hp; rw [if_pos rfl, if_pos rfl, if_neg (by omega), Nat.add_sub_cancel_left]
    · rw [if_neg hp, if_neg hp]
end
set_option maxRecDepth 100000 in
theorem swith_any (v u : Value) (n m q : Nat) (xs ys : List Int) (w : World) (h : Mat.IsMat w v n m xs) (h' : Mat.IsMat w u n q ys) :
    Calls Try.prog 66 #[v, u] w fun e w' => ∃ mid top p va vb Ra Rb, e = .returned (.pointer (some ⟨p, 0, none⟩)) ∧ Work w' w.heap.size mid top p va vb n m q Ra Rb (fun i j => if j < m then mx m xs i j else mx q ys i (j - m)) ∧ Below w.heap.size w w' := by
  have R1 := Lib.hid (fun W (hB : Below w.heap.size w W) => srows_any v n m xs W (h.below hB))
  have R2 := Lib.hid (fun W (hB : Below w.heap.size w W) => srows_any u n q ys W (h'.below hB))
  have HB := Lib.hid (Below.refl w.heap.size w)
  clear h h'
  go_enter Try.func66, Try.ntmps66
  go_wp2_with (go_at_call 75; (first
    | ((with_reducible refine (R1.out _ HB.out).mono ?_); rintro e w1 ⟨va, Ra, rfl, hg1, hb1⟩; obtain ⟨A1, c1, rfl⟩ := own_slice hg1.hd; have HG1 := Lib.hid hg1; have HB1 := Lib.hid (HB.out.trans (hb1.mono HB.out.size)); clear hg1 hb1)
    | ((with_reducible refine (R2.out _ HB1.out).mono ?_); rintro e w2 ⟨vb, Rb, rfl, hg2, hb2⟩; obtain ⟨A2, c2, rfl⟩ := own_slice hg2.hd; have HG2 := Lib.hid hg2; have HG1' := Lib.hid (HG1.out.below hb2); have HS := Lib.hid hb2.size; have HB2 := Lib.hid (HB1.out.trans (hb2.mono HB1.out.size)); clear hg2 hb2)))
  go_ret
  refine ⟨w1.heap.size, w2.heap.size, w2.heap.size, .slice A1 n c1, .slice A2 n c2, Ra, Rb, rfl, ⟨Blk.new w2 _ _, ?_, ?_, HB1.out.size, HS.out, Nat.le_refl _⟩, HB2.out.alloc HB2.out.size _⟩
  · exact (HG1'.out.below ((Below.refl _ _).alloc (Nat.le_refl _) _)).congr (fun i _ j hj => by rw [if_pos hj])
  · exact (HG2.out.below ((Below.refl _ _).alloc (Nat.le_refl _) _)).congr (fun i _ j hj => by rw [if_neg (by omega), Nat.add_sub_cancel_left])
/-- What pivot tells. -/
def PivPost (n fr col : Nat) (C : Mtx) (r : Int) : Prop := (r = -1 ∧ ∀ j, fr ≤ j → j < n → C j col = 0) ∨ ∃ k : Nat, r = k ∧ fr ≤ k ∧ k < n ∧ (∀ j, fr ≤ j → j < k → C j col = 0) ∧ C k col ≠ 0
set_option maxRecDepth 100000 in
theorem pivot_any (lo mid top p n m q fr col : Nat) (va vb : Value) (Ra Rb : Nat → Value) (C : Mtx) (w : World) (h : Work w lo mid top p va vb n m q Ra Rb C) (hn1 : 1 ≤ n) (hn : n ≤ 1000000) (hf : fr ≤ n) (hc : col < m) :
    Calls Try.prog 76 #[.pointer (some ⟨p, 0, none⟩), .int .i64 fr, .int .i64 col] w fun e w' => ∃ r, e = .returned (.int .i64 r) ∧ PivPost n fr col C r ∧ w' = w := by
  obtain ⟨g, cg, rfl, _⟩ := h.ga.form (by omega)
  have hva := h.cells.1
  have HE := Lib.hid (fun i (hi : i < n) => show ∃ b c, w.cell? ⟨g, i, none⟩ = some (.slice (some ⟨b, 0, none⟩) m c) ∧ w.cell? ⟨b, col, none⟩ = some (.int .u8 (C i col)) by
    obtain ⟨b, c, e, _⟩ := h.ga.rform (by omega) i hi
    have h1 := (h.ga.head i hi).1
    rw [e] at h1
    exact ⟨b, c, h1, (h.ga.elem i hi e col hc).1⟩)
  have g2 : (0 : Int) ≤ (col : Int) := by omega
  have g3 : (col : Int) < (m : Int) := by omega
  clear h
  go_enter Try.func76, Try.ntmps76
  go_upto_region 2 with (fail)
  go_loopw [7] (fun iv wr => ∃ (i : Nat), fr ≤ i ∧ i ≤ n ∧ iv = .int .i64 i ∧ wr = w ∧ Hid (∀ j, fr ≤ j → j < i → C j col = 0)) (fun iv _ => n - (intOf iv).toNat)
  case atStart => exact ⟨fr, Nat.le_refl _, hf, rfl, rfl, Lib.hid (fun j h1 h2 => absurd h1 (by omega))⟩
  case round =>
    obtain ⟨i, hfi, hi, rfl, rfl, HZ⟩ := hrel
    by_cases hlt : i < n
    · obtain ⟨b, c, h1, h2⟩ := HE.out i hlt
      have g0 : (0 : Int) ≤ (i : Int) := by omega
      have g1 : (i : Int) < (n : Int) := by omega
      by_cases hz : C i col = 0
      · rw [hz] at h2
        go_wp2
        go_roundw
        case rel =>
          refine ⟨i + 1, by omega, by omega, by go_num, (by first | trivial | rfl), Lib.hid (fun j h1 h2 => ?_)⟩
          rcases Nat.lt_or_ge j i with h | h
          · exact HZ.out j h1 h
          · obtain rfl : j = i := by omega
            exact hz
        case measure => simp [intOf]; omega
      · have t1 : (C i col != 0) = true := by simp [hz]
        have HN := Lib.hid hz
        clear hz
        go_wp2
        go_ret
        exact ⟨_, rfl, .inr ⟨i, rfl, hfi, hlt, HZ.out, HN.out⟩, rfl⟩
    · obtain rfl : i = n := by omega
      go_wp2
      go_ret
      exact ⟨_, rfl, .inl ⟨rfl, HZ.out⟩, rfl⟩
end Go.Proofs.Ytcnfafappcbpnaa.Sol
/- solve: swap, clear. -/
namespace Go.Proofs.Ytcnfafappcbpnaa.Sol
open Go Go.RowKit Go.Proofs.Ytcnfafappcbpnaa.Gi Go.Proofs.Ytcnfafappcbpnaa.Mem Go.Proofs.Ytcnfafappcbpnaa.Bits Go.Proofs.Ytcnfafappcbpnaa.Rws Go.Proofs.YtcnfafappcbpnaaW.PrintWords
set_option linter.unusedVariables false

theorem joinW {G : Prop} (Inv : World → Prop) {C : World → Prop} (h1 : (∀ w, Inv w → C w) → G) (h2 : ∀ w, Inv w → C w) : G := h1 h2
/-- Two rows in each other's place. -/
def swpR {α : Type} (R : Nat → α) (i k : Nat) : Nat → α := fun q => if q = k then R i else if q = i then R k else R q
theorem Grid.head2 {w : World} {lo hi n m g c : Nat} {R : Nat → Value} {M : Mtx} (h : Grid w lo hi (.slice (some ⟨g, 0, none⟩) n c) n m R M) (i k : Nat) (hi' : i < n) (hk : k < n) :
    (w.setCell ⟨g, i, none⟩ (R k)).cell? ⟨g, k, none⟩ = some (R k) ∧ (w.setCell ⟨g, i, none⟩ (R k)).frozen? ⟨g, k, none⟩ = false := by
  have h1 := (h.hd.stored i (R k)).1
  refine ⟨?_, h1.frozenAt k⟩
  rw [h1.cellAt k (by omega), heads_set n R i hi', heads_get n _ k hk]
  split <;> rfl
theorem Grid.insd {w : World} {lo hi n m g c : Nat} {R : Nat → Value} {M : Mtx} (h : Grid w lo hi (.slice (some ⟨g, 0, none⟩) n c) n m R M) (i k : Nat) (u u' : Value) : w.grownBy ((w.setCell ⟨g, i, none⟩ u).setCell ⟨g, k, none⟩ u') (some g) :=
  World.grownBy.trans (h.hd.stored i u).2 ((h.hd.stored i u).1.stored k u').2
/-- What the two exchanges come to. -/
theorem swap_end {w W W9 : World} {lo mid top p n m q i k g cg g' cg' b1 c1 b2 c2 b3 c3 b4 c4 : Nat} {va vb : Value} {Ra Rb : Nat → Value} {C : Mtx}
    (HE : Ra i = .slice (some ⟨b1, 0, none⟩) m c1 ∧ Ra k = .slice (some ⟨b2, 0, none⟩) m c2 ∧ Rb i = .slice (some ⟨b3, 0, none⟩) q c3 ∧ Rb k = .slice (some ⟨b4, 0, none⟩) q c4)
    (H : Work w lo mid top p va vb n m q Ra Rb C) (HBK : Blk W p 100 #[.slice (some ⟨g, 0, none⟩) n cg, .slice (some ⟨g', 0, none⟩) n cg']) (HG : w.grownBy W (some g))
    (HW1 : Grid W lo mid (.slice (some ⟨g, 0, none⟩) n cg) n m (fun r => if r = k then .slice (some ⟨b1, 0, none⟩) m c1 else if r = i then .slice (some ⟨b2, 0, none⟩) m c2 else Ra r) (fun r => if r = k then C i else if r = i then C k else C r))
    (HW2 : Grid W9 mid top (.slice (some ⟨g', 0, none⟩) n cg') n q (fun r => if r = k then .slice (some ⟨b3, 0, none⟩) q c3 else if r = i then .slice (some ⟨b4, 0, none⟩) q c4 else Rb r) (fun r => if r = k then (fun j => C i (m + j)) else if r = i then (fun j => C k (m + j)) else fun j => C r (m + j)) ∧ W.grownBy W9 (some g'))
    (hgl : lo ≤ g) (hgh : g < mid) (hgl' : mid ≤ g') (hgh' : g' < top) :
    Ending.returned (.tuple #[]) = Ending.returned (.tuple #[]) ∧ Work W9 lo mid top p (.slice (some ⟨g, 0, none⟩) n cg) (.slice (some ⟨g', 0, none⟩) n cg') n m q (swpR Ra i k) (swpR Rb i k) (swpR C i k) ∧ Insd lo top w W9 := by
  have HG2 : W.grownBy W9 (some g') := HW2.2
  have X := (Insd.grown HG hgl (show g < top by have := H.l2; omega)).trans (Insd.grown HG2 (show lo ≤ g' by have := H.l1; omega) hgh')
  have hbk2 := HBK.grown HG2 (fun e => by injection e with e; have := H.l3; omega)
  have h1 := HW1
  rw [← HE.1, ← HE.2.1] at h1
  have h1' := h1.grown HG2 (.inr hgl')
  have h2 := HW2.1
  rw [← HE.2.2.1, ← HE.2.2.2] at h2
  have h2' : Grid W9 mid top (.slice (some ⟨g', 0, none⟩) n cg') n q (swpR Rb i k) (fun r j => swpR C i k r (m + j)) := h2.congr (fun q' _ j _ => by
    unfold swpR
    by_cases e1 : q' = k
    · rw [if_pos e1, if_pos e1]
    · rw [if_neg e1, if_neg e1]
      by_cases e2 : q' = i
      · rw [if_pos e2, if_pos e2]
      · rw [if_neg e2, if_neg e2])
  exact ⟨rfl, ⟨hbk2, h1', h2', H.l1, H.l2, H.l3⟩, X⟩
set_option maxRecDepth 100000 in
set_option maxHeartbeats 2000000 in
theorem swap_any (lo mid top p n m q i k : Nat) (va vb : Value) (Ra Rb : Nat → Value) (C : Mtx) (w : World) (h : Work w lo mid top p va vb n m q Ra Rb C) (hn : n ≤ 1000000) (hi : i < n) (hk : k < n) (hm : 1 ≤ m) (hq : 1 ≤ q) :
    Calls Try.prog 77 #[.pointer (some ⟨p, 0, none⟩), .int .i64 i, .int .i64 k] w fun e w' => e = .returned (.tuple #[]) ∧ Work w' lo mid top p va vb n m q (swpR Ra i k) (swpR Rb i k) (swpR C i k) ∧ Insd lo top w w' := by
  obtain ⟨g, cg, rfl, _, hgl, hgh, _⟩ := h.ga.form (by omega)
  obtain ⟨g', cg', rfl, _, hgl', hgh', _⟩ := h.gb.form (by omega)
  obtain ⟨hva, hvb⟩ := h.cells
  obtain ⟨b1, c1, e1, _⟩ := h.ga.rform (by omega) i hi
  obtain ⟨b2, c2, e2, _⟩ := h.ga.rform (by omega) k hk
  obtain ⟨b3, c3, e3, _⟩ := h.gb.rform (by omega) i hi
  obtain ⟨b4, c4, e4, _⟩ := h.gb.rform (by omega) k hk
  have z1 := (h.ga.head i hi).1
  have z2 := (h.ga.head k hk).1
  have f1 := (h.ga.head i hi).2
  have f2 := (h.ga.head k hk).2
  rw [e1] at z1
  rw [e2] at z2
  have g0 : (0 : Int) ≤ (i : Int) := by omega
  have g1 : (i : Int) < (n : Int) := by omega
  have g2 : (0 : Int) ≤ (k : Int) := by omega
  have g3 : (k : Int) < (n : Int) := by omega
  have H := Lib.hid h
  have HE := Lib.hid (And.intro e1 (And.intro e2 (And.intro e3 e4)))
  obtain ⟨y1, y2⟩ := h.ga.head2 i k hi hk
  have HW1 := Lib.hid (And.intro (h.ga.swap i k hi hk) (h.ga.insd i k (Ra k) (Ra i)))
  have hpg : p ≠ g := by have := h.l2; have := h.l3; omega
  have sv1 := (World.cell?_setCell_other w ⟨g, i, none⟩ ⟨p, 0, none⟩ (.slice (some ⟨b2, 0, none⟩) m c2) (fun e => hpg (by injection e with e1; exact e1.symm))).trans hva
  have sv2 := (World.cell?_setCell_other (w.setCell ⟨g, i, none⟩ (.slice (some ⟨b2, 0, none⟩) m c2)) ⟨g, k, none⟩ ⟨p, 0, none⟩ (.slice (some ⟨b1, 0, none⟩) m c1) (fun e => hpg (by injection e with e1; exact e1.symm))).trans sv1
  rw [e2] at y1 y2
  rw [e1, e2] at HW1
  clear h e1 e2 e3 e4
  go_enter Try.func77, Try.ntmps77
  go_wp2
  go_upto_region 0 with (fail)
  apply joinW (fun W => W = ((w.setCell ⟨g, i, none⟩ (.slice (some ⟨b2, 0, none⟩) m c2)).setCell ⟨g, k, none⟩ (.slice (some ⟨b1, 0, none⟩) m c1)).drew)
  · intro REST
    refine wp_region_noPanic ?_
    refine wp_region_held_drew (S := (fun W => W.cell? ⟨p, 0, none⟩ = some (.slice (some ⟨g, 0, none⟩) n cg))) (by kernel_rfl) ?_ (fun hHeld => ?_)
    · ((try dsimp only); first | exact hva | exact sv1 | exact sv2)
    refine wpAnyH_take (i := 0) (oi := { dst := some 6, op := Go.Op.move (Go.Operand.tmp 0), type := 96, pos := "solve.go:52", after := #[], guard := none }) (v := ?_) rfl (by kernel_rfl) (by kernel_rfl) (by kernel_rfl) (fun _ _ _ h => h) (Or.inl ⟨by rfl, ?_⟩) (by assumption) ?_
    rotate_left 1
    · (intro w hSw; (try dsimp only at hSw); go_simp; try with_reducible rfl)
    try simp only [Act.put, List.setIfInBounds_toArray, List.set_cons_zero, List.set_cons_succ]
    refine wpAnyH_take (i := 1) (oi := { dst := some 7, op := Go.Op.nilCheck (Go.Operand.tmp 6), type := 0, pos := "solve.go:52", after := #[{ on := 0, ground := Go.Ground.data }], guard := none }) (v := ?_) rfl (by kernel_rfl) (by kernel_rfl) (by kernel_rfl) (fun _ _ _ h => h) (Or.inl ⟨by rfl, ?_⟩) (by assumption) ?_
    rotate_left 1
    · (intro w hSw; (try dsimp only at hSw); go_simp; try with_reducible rfl)
    try simp only [Act.put, List.setIfInBounds_toArray, List.set_cons_zero, List.set_cons_succ]
    refine wpAnyH_take (i := 2) (oi := { dst := some 8, op := Go.Op.fieldAddr 100 (Go.Operand.tmp 7) 0, type := 0, pos := "solve.go:52", after := #[{ on := 1, ground := Go.Ground.data }], guard := none }) (v := ?_) rfl (by kernel_rfl) (by kernel_rfl) (by kernel_rfl) (fun _ _ _ h => h) (Or.inl ⟨by rfl, ?_⟩) (by assumption) ?_
    rotate_left 1
    · (intro w hSw; (try dsimp only at hSw); go_simp; try with_reducible rfl)
    try simp only [Act.put, List.setIfInBounds_toArray, List.set_cons_zero, List.set_cons_succ]
    refine wpAnyH_take (i := 3) (oi := { dst := some 9, op := Go.Op.load 39 (Go.Operand.tmp 8), type := 39, pos := "solve.go:52", after := #[{ on := 2, ground := Go.Ground.data }], guard := none }) (v := ?_) rfl (by kernel_rfl) (by kernel_rfl) (by kernel_rfl) (fun _ _ _ h => h) (Or.inl ⟨by rfl, ?_⟩) (by assumption) ?_
    rotate_left 1
    · (intro w hSw; (try dsimp only at hSw); go_simp; try with_reducible rfl)
    try simp only [Act.put, List.setIfInBounds_toArray, List.set_cons_zero, List.set_cons_succ]
    refine wpAnyH_take (i := 4) (oi := { dst := some 10, op := Go.Op.move (Go.Operand.tmp 1), type := 3, pos := "solve.go:52", after := #[], guard := none }) (v := ?_) rfl (by kernel_rfl) (by kernel_rfl) (by kernel_rfl) (fun _ _ _ h => h) (Or.inl ⟨by rfl, ?_⟩) (by assumption) ?_
    rotate_left 1
    · (intro w hSw; (try dsimp only at hSw); go_simp; try with_reducible rfl)
    try simp only [Act.put, List.setIfInBounds_toArray, List.set_cons_zero, List.set_cons_succ]
    refine wpAnyH_take (i := 5) (oi := { dst := some 11, op := Go.Op.move (Go.Operand.tmp 0), type := 96, pos := "solve.go:52", after := #[], guard := none }) (v := ?_) rfl (by kernel_rfl) (by kernel_rfl) (by kernel_rfl) (fun _ _ _ h => h) (Or.inl ⟨by rfl, ?_⟩) (by assumption) ?_
    rotate_left 1
    · (intro w hSw; (try dsimp only at hSw); go_simp; try with_reducible rfl)
    try simp only [Act.put, List.setIfInBounds_toArray, List.set_cons_zero, List.set_cons_succ]
    refine wpAnyH_take (i := 6) (oi := { dst := some 12, op := Go.Op.nilCheck (Go.Operand.tmp 11), type := 0, pos := "solve.go:52", after := #[{ on := 5, ground := Go.Ground.data }], guard := none }) (v := ?_) rfl (by kernel_rfl) (by kernel_rfl) (by kernel_rfl) (fun _ _ _ h => h) (Or.inl ⟨by rfl, ?_⟩) (by assumption) ?_
    rotate_left 1
    · (intro w hSw; (try dsimp only at hSw); go_simp; try with_reducible rfl)
    try simp only [Act.put, List.setIfInBounds_toArray, List.set_cons_zero, List.set_cons_succ]
    refine wpAnyH_take (i := 7) (oi := { dst := some 13, op := Go.Op.fieldAddr 100 (Go.Operand.tmp 12) 0, type := 0, pos := "solve.go:52", after := #[{ on := 6, ground := Go.Ground.data }], guard := none }) (v := ?_) rfl (by kernel_rfl) (by kernel_rfl) (by kernel_rfl) (fun _ _ _ h => h) (Or.inl ⟨by rfl, ?_⟩) (by assumption) ?_
    rotate_left 1
    · (intro w hSw; (try dsimp only at hSw); go_simp; try with_reducible rfl)
    try simp only [Act.put, List.setIfInBounds_toArray, List.set_cons_zero, List.set_cons_succ]
    refine wpAnyH_take (i := 8) (oi := { dst := some 14, op := Go.Op.load 39 (Go.Operand.tmp 13), type := 39, pos := "solve.go:52", after := #[{ on := 7, ground := Go.Ground.data }], guard := none }) (v := ?_) rfl (by kernel_rfl) (by kernel_rfl) (by kernel_rfl) (fun _ _ _ h => h) (Or.inl ⟨by rfl, ?_⟩) (by assumption) ?_
    rotate_left 1
    · (intro w hSw; (try dsimp only at hSw); go_simp; try with_reducible rfl)
    try simp only [Act.put, List.setIfInBounds_toArray, List.set_cons_zero, List.set_cons_succ]
    refine wpAnyH_take (i := 9) (oi := { dst := some 15, op := Go.Op.move (Go.Operand.tmp 2), type := 3, pos := "solve.go:52", after := #[{ on := 25, ground := Go.Ground.gcOnly Go.Departure.lateStores }], guard := none }) (v := ?_) rfl (by kernel_rfl) (by kernel_rfl) (by kernel_rfl) (fun _ _ _ h => h) (Or.inl ⟨by rfl, ?_⟩) (by assumption) ?_
    rotate_left 1
    · (intro w hSw; (try dsimp only at hSw); go_simp; try with_reducible rfl)
    try simp only [Act.put, List.setIfInBounds_toArray, List.set_cons_zero, List.set_cons_succ]
    refine wpAnyH_take (i := 10) (oi := { dst := some 16, op := Go.Op.move (Go.Operand.tmp 0), type := 96, pos := "solve.go:52", after := #[], guard := none }) (v := ?_) rfl (by kernel_rfl) (by kernel_rfl) (by kernel_rfl) (fun _ _ _ h => h) (Or.inl ⟨by rfl, ?_⟩) (by assumption) ?_
    rotate_left 1
    · (intro w hSw; (try dsimp only at hSw); go_simp; try with_reducible rfl)
    try simp only [Act.put, List.setIfInBounds_toArray, List.set_cons_zero, List.set_cons_succ]
    refine wpAnyH_take (i := 11) (oi := { dst := some 17, op := Go.Op.nilCheck (Go.Operand.tmp 16), type := 0, pos := "solve.go:52", after := #[{ on := 10, ground := Go.Ground.data }], guard := none }) (v := ?_) rfl (by kernel_rfl) (by kernel_rfl) (by kernel_rfl) (fun _ _ _ h => h) (Or.inl ⟨by rfl, ?_⟩) (by assumption) ?_
    rotate_left 1
    · (intro w hSw; (try dsimp only at hSw); go_simp; try with_reducible rfl)
    try simp only [Act.put, List.setIfInBounds_toArray, List.set_cons_zero, List.set_cons_succ]
    refine wpAnyH_take (i := 12) (oi := { dst := some 18, op := Go.Op.fieldAddr 100 (Go.Operand.tmp 17) 0, type := 0, pos := "solve.go:52", after := #[{ on := 11, ground := Go.Ground.data }], guard := none }) (v := ?_) rfl (by kernel_rfl) (by kernel_rfl) (by kernel_rfl) (fun _ _ _ h => h) (Or.inl ⟨by rfl, ?_⟩) (by assumption) ?_
    rotate_left 1
    · (intro w hSw; (try dsimp only at hSw); go_simp; try with_reducible rfl)
    try simp only [Act.put, List.setIfInBounds_toArray, List.set_cons_zero, List.set_cons_succ]
    refine wpAnyH_take (i := 13) (oi := { dst := some 19, op := Go.Op.load 39 (Go.Operand.tmp 18), type := 39, pos := "solve.go:52", after := #[{ on := 12, ground := Go.Ground.data }], guard := none }) (v := ?_) rfl (by kernel_rfl) (by kernel_rfl) (by kernel_rfl) (fun _ _ _ h => h) (Or.inl ⟨by rfl, ?_⟩) (by assumption) ?_
    rotate_left 1
    · (intro w hSw; (try dsimp only at hSw); go_simp; try with_reducible rfl)
    try simp only [Act.put, List.setIfInBounds_toArray, List.set_cons_zero, List.set_cons_succ]
    refine wpAnyH_take (i := 14) (oi := { dst := some 20, op := Go.Op.move (Go.Operand.tmp 2), type := 3, pos := "solve.go:52", after := #[], guard := none }) (v := ?_) rfl (by kernel_rfl) (by kernel_rfl) (by kernel_rfl) (fun _ _ _ h => h) (Or.inl ⟨by rfl, ?_⟩) (by assumption) ?_
    rotate_left 1
    · (intro w hSw; (try dsimp only at hSw); go_simp; try with_reducible rfl)
    try simp only [Act.put, List.setIfInBounds_toArray, List.set_cons_zero, List.set_cons_succ]
    refine wpAnyH_take (i := 15) (oi := { dst := some 21, op := Go.Op.indexAddr 39 (Go.Operand.tmp 19) (Go.Operand.tmp 20), type := 0, pos := "solve.go:52", after := #[{ on := 13, ground := Go.Ground.data }, { on := 14, ground := Go.Ground.data }], guard := none }) (v := ?_) rfl (by kernel_rfl) (by kernel_rfl) (by kernel_rfl) (fun _ _ _ h => h) (Or.inl ⟨by rfl, ?_⟩) (by assumption) ?_
    rotate_left 1
    · (intro w hSw; (try dsimp only at hSw); go_simp; try with_reducible rfl)
    try simp only [Act.put, List.setIfInBounds_toArray, List.set_cons_zero, List.set_cons_succ]
    refine wpAnyH_take (i := 17) (oi := { dst := some 23, op := Go.Op.move (Go.Operand.tmp 0), type := 96, pos := "solve.go:52", after := #[], guard := none }) (v := ?_) rfl (by kernel_rfl) (by kernel_rfl) (by kernel_rfl) (fun _ _ _ h => h) (Or.inl ⟨by rfl, ?_⟩) (by assumption) ?_
    rotate_left 1
    · (intro w hSw; (try dsimp only at hSw); go_simp; try with_reducible rfl)
    try simp only [Act.put, List.setIfInBounds_toArray, List.set_cons_zero, List.set_cons_succ]
    refine wpAnyH_take (i := 18) (oi := { dst := some 24, op := Go.Op.nilCheck (Go.Operand.tmp 23), type := 0, pos := "solve.go:52", after := #[{ on := 17, ground := Go.Ground.data }], guard := none }) (v := ?_) rfl (by kernel_rfl) (by kernel_rfl) (by kernel_rfl) (fun _ _ _ h => h) (Or.inl ⟨by rfl, ?_⟩) (by assumption) ?_
    rotate_left 1
    · (intro w hSw; (try dsimp only at hSw); go_simp; try with_reducible rfl)
    try simp only [Act.put, List.setIfInBounds_toArray, List.set_cons_zero, List.set_cons_succ]
    refine wpAnyH_take (i := 19) (oi := { dst := some 25, op := Go.Op.fieldAddr 100 (Go.Operand.tmp 24) 0, type := 0, pos := "solve.go:52", after := #[{ on := 18, ground := Go.Ground.data }], guard := none }) (v := ?_) rfl (by kernel_rfl) (by kernel_rfl) (by kernel_rfl) (fun _ _ _ h => h) (Or.inl ⟨by rfl, ?_⟩) (by assumption) ?_
    rotate_left 1
    · (intro w hSw; (try dsimp only at hSw); go_simp; try with_reducible rfl)
    try simp only [Act.put, List.setIfInBounds_toArray, List.set_cons_zero, List.set_cons_succ]
    refine wpAnyH_take (i := 20) (oi := { dst := some 26, op := Go.Op.load 39 (Go.Operand.tmp 25), type := 39, pos := "solve.go:52", after := #[{ on := 19, ground := Go.Ground.data }], guard := none }) (v := ?_) rfl (by kernel_rfl) (by kernel_rfl) (by kernel_rfl) (fun _ _ _ h => h) (Or.inl ⟨by rfl, ?_⟩) (by assumption) ?_
    rotate_left 1
    · (intro w hSw; (try dsimp only at hSw); go_simp; try with_reducible rfl)
    try simp only [Act.put, List.setIfInBounds_toArray, List.set_cons_zero, List.set_cons_succ]
    refine wpAnyH_take (i := 21) (oi := { dst := some 27, op := Go.Op.move (Go.Operand.tmp 1), type := 3, pos := "solve.go:52", after := #[], guard := none }) (v := ?_) rfl (by kernel_rfl) (by kernel_rfl) (by kernel_rfl) (fun _ _ _ h => h) (Or.inl ⟨by rfl, ?_⟩) (by assumption) ?_
    rotate_left 1
    · (intro w hSw; (try dsimp only at hSw); go_simp; try with_reducible rfl)
    try simp only [Act.put, List.setIfInBounds_toArray, List.set_cons_zero, List.set_cons_succ]
    refine wpAnyH_take (i := 22) (oi := { dst := some 28, op := Go.Op.indexAddr 39 (Go.Operand.tmp 26) (Go.Operand.tmp 27), type := 0, pos := "solve.go:52", after := #[{ on := 20, ground := Go.Ground.data }, { on := 21, ground := Go.Ground.data }], guard := none }) (v := ?_) rfl (by kernel_rfl) (by kernel_rfl) (by kernel_rfl) (fun _ _ _ h => h) (Or.inl ⟨by rfl, ?_⟩) (by assumption) ?_
    rotate_left 1
    · (intro w hSw; (try dsimp only at hSw); go_simp; try with_reducible rfl)
    try simp only [Act.put, List.setIfInBounds_toArray, List.set_cons_zero, List.set_cons_succ]
    refine wpAnyH_ready (rs := [16, 23]) (by kernel_rfl) (by simp) ?_
    refine AllReadyH.cons (o := { dst := some 22, op := Go.Op.load 22 (Go.Operand.tmp 21), type := 22, pos := "solve.go:52", after := #[{ on := 15, ground := Go.Ground.data }], guard := none }) rfl (fun K hK => ?_) ?_
    · go_simp
      clear hHeld
      refine hK.out _ _ ?_ (fun hHeld => ?_)
      · ((try dsimp only); first | exact hva | exact sv1 | exact sv2)
      clear hK K
      refine wpAnyH_ready (rs := [23]) (by kernel_rfl) (by simp) ?_
      refine AllReadyH.cons (o := { dst := some 29, op := Go.Op.load 22 (Go.Operand.tmp 28), type := 22, pos := "solve.go:52", after := #[{ on := 22, ground := Go.Ground.data }], guard := none }) rfl (fun K hK => ?_) AllReadyH.nil
      go_simp
      clear hHeld
      refine hK.out _ _ ?_ (fun hHeld => ?_)
      · ((try dsimp only); first | exact hva | exact sv1 | exact sv2)
      clear hK K
      refine wpAnyH_take (i := 24) (oi := { dst := some 30, op := Go.Op.indexAddr 39 (Go.Operand.tmp 9) (Go.Operand.tmp 10), type := 0, pos := "solve.go:52", after := #[{ on := 3, ground := Go.Ground.data }, { on := 4, ground := Go.Ground.data }, { on := 0, ground := Go.Ground.phase }, { on := 1, ground := Go.Ground.phase }, { on := 2, ground := Go.Ground.phase }, { on := 3, ground := Go.Ground.phase }, { on := 4, ground := Go.Ground.phase }, { on := 5, ground := Go.Ground.textOnly Go.Departure.lateStores }, { on := 6, ground := Go.Ground.textOnly Go.Departure.lateStoresUnsure }, { on := 7, ground := Go.Ground.textOnly Go.Departure.lateStoresUnsure }, { on := 8, ground := Go.Ground.phase }, { on := 9, ground := Go.Ground.textOnly Go.Departure.lateStores }, { on := 10, ground := Go.Ground.phase }, { on := 11, ground := Go.Ground.phase }, { on := 12, ground := Go.Ground.phase }, { on := 13, ground := Go.Ground.phase }, { on := 14, ground := Go.Ground.phase }, { on := 15, ground := Go.Ground.phase }, { on := 16, ground := Go.Ground.phase }, { on := 17, ground := Go.Ground.textOnly Go.Departure.lateStores }, { on := 18, ground := Go.Ground.textOnly Go.Departure.lateStoresUnsure }, { on := 19, ground := Go.Ground.textOnly Go.Departure.lateStoresUnsure }, { on := 20, ground := Go.Ground.phase }, { on := 21, ground := Go.Ground.textOnly Go.Departure.lateStores }, { on := 22, ground := Go.Ground.textOnly Go.Departure.lateStoresUnsure }, { on := 23, ground := Go.Ground.phase }], guard := none }) (v := ?_) rfl (by kernel_rfl) (by kernel_rfl) (by kernel_rfl) (fun _ _ _ h => h) (Or.inl ⟨by rfl, ?_⟩) (by assumption) ?_
      rotate_left 1
      · (intro w hSw; (try dsimp only at hSw); go_simp; try with_reducible rfl)
      try simp only [Act.put, List.setIfInBounds_toArray, List.set_cons_zero, List.set_cons_succ]
      refine wpAnyH_ready (rs := [25]) (by kernel_rfl) (by simp) ?_
      refine AllReadyH.cons (o := { dst := none, op := Go.Op.store 22 (Go.Operand.tmp 30) (Go.Operand.tmp 22), type := 0, pos := "solve.go:52", after := #[{ on := 24, ground := Go.Ground.data }, { on := 16, ground := Go.Ground.data }, { on := 0, ground := Go.Ground.phase }, { on := 1, ground := Go.Ground.phase }, { on := 2, ground := Go.Ground.phase }, { on := 3, ground := Go.Ground.phase }, { on := 4, ground := Go.Ground.phase }, { on := 5, ground := Go.Ground.textOnly Go.Departure.lateStores }, { on := 6, ground := Go.Ground.textOnly Go.Departure.lateStoresUnsure }, { on := 7, ground := Go.Ground.textOnly Go.Departure.lateStoresUnsure }, { on := 8, ground := Go.Ground.phase }, { on := 9, ground := Go.Ground.textOnly Go.Departure.lateStores }, { on := 10, ground := Go.Ground.phase }, { on := 11, ground := Go.Ground.phase }, { on := 12, ground := Go.Ground.phase }, { on := 13, ground := Go.Ground.phase }, { on := 14, ground := Go.Ground.phase }, { on := 15, ground := Go.Ground.phase }, { on := 16, ground := Go.Ground.phase }, { on := 17, ground := Go.Ground.textOnly Go.Departure.lateStores }, { on := 18, ground := Go.Ground.textOnly Go.Departure.lateStoresUnsure }, { on := 19, ground := Go.Ground.textOnly Go.Departure.lateStoresUnsure }, { on := 20, ground := Go.Ground.phase }, { on := 21, ground := Go.Ground.textOnly Go.Departure.lateStores }, { on := 22, ground := Go.Ground.textOnly Go.Departure.lateStoresUnsure }, { on := 23, ground := Go.Ground.phase }], guard := none }) rfl (fun K hK => ?_) AllReadyH.nil
      go_simp
      clear hHeld
      refine hK.out _ _ ?_ (fun hHeld => ?_)
      · ((try dsimp only); first | exact hva | exact sv1 | exact sv2)
      clear hK K
      refine wpAnyH_take (i := 26) (oi := { dst := some 31, op := Go.Op.indexAddr 39 (Go.Operand.tmp 14) (Go.Operand.tmp 15), type := 0, pos := "solve.go:52", after := #[{ on := 8, ground := Go.Ground.data }, { on := 9, ground := Go.Ground.data }, { on := 0, ground := Go.Ground.phase }, { on := 1, ground := Go.Ground.phase }, { on := 2, ground := Go.Ground.phase }, { on := 3, ground := Go.Ground.phase }, { on := 4, ground := Go.Ground.phase }, { on := 5, ground := Go.Ground.phase }, { on := 6, ground := Go.Ground.phase }, { on := 7, ground := Go.Ground.phase }, { on := 8, ground := Go.Ground.phase }, { on := 9, ground := Go.Ground.phase }, { on := 10, ground := Go.Ground.phase }, { on := 11, ground := Go.Ground.phase }, { on := 12, ground := Go.Ground.phase }, { on := 13, ground := Go.Ground.phase }, { on := 14, ground := Go.Ground.phase }, { on := 15, ground := Go.Ground.phase }, { on := 16, ground := Go.Ground.phase }, { on := 17, ground := Go.Ground.phase }, { on := 18, ground := Go.Ground.phase }, { on := 19, ground := Go.Ground.phase }, { on := 20, ground := Go.Ground.phase }, { on := 21, ground := Go.Ground.phase }, { on := 22, ground := Go.Ground.phase }, { on := 23, ground := Go.Ground.phase }, { on := 24, ground := Go.Ground.phase }, { on := 25, ground := Go.Ground.phase }], guard := none }) (v := ?_) rfl (by kernel_rfl) (by kernel_rfl) (by kernel_rfl) (fun _ _ _ h => h) (Or.inl ⟨by rfl, ?_⟩) (by assumption) ?_
      rotate_left 1
      · (intro w hSw; (try dsimp only at hSw); go_simp; try with_reducible rfl)
      try simp only [Act.put, List.setIfInBounds_toArray, List.set_cons_zero, List.set_cons_succ]
      refine wpAnyH_ready (rs := [27]) (by kernel_rfl) (by simp) ?_
      refine AllReadyH.cons (o := { dst := none, op := Go.Op.store 22 (Go.Operand.tmp 31) (Go.Operand.tmp 29), type := 0, pos := "solve.go:52", after := #[{ on := 26, ground := Go.Ground.data }, { on := 23, ground := Go.Ground.data }, { on := 25, ground := Go.Ground.chain }, { on := 0, ground := Go.Ground.phase }, { on := 1, ground := Go.Ground.phase }, { on := 2, ground := Go.Ground.phase }, { on := 3, ground := Go.Ground.phase }, { on := 4, ground := Go.Ground.phase }, { on := 5, ground := Go.Ground.phase }, { on := 6, ground := Go.Ground.phase }, { on := 7, ground := Go.Ground.phase }, { on := 8, ground := Go.Ground.phase }, { on := 9, ground := Go.Ground.phase }, { on := 10, ground := Go.Ground.phase }, { on := 11, ground := Go.Ground.phase }, { on := 12, ground := Go.Ground.phase }, { on := 13, ground := Go.Ground.phase }, { on := 14, ground := Go.Ground.phase }, { on := 15, ground := Go.Ground.phase }, { on := 16, ground := Go.Ground.phase }, { on := 17, ground := Go.Ground.phase }, { on := 18, ground := Go.Ground.phase }, { on := 19, ground := Go.Ground.phase }, { on := 20, ground := Go.Ground.phase }, { on := 21, ground := Go.Ground.phase }, { on := 22, ground := Go.Ground.phase }, { on := 23, ground := Go.Ground.phase }, { on := 24, ground := Go.Ground.phase }, { on := 25, ground := Go.Ground.phase }], guard := none }) rfl (fun K hK => ?_) AllReadyH.nil
      go_simp
      clear hHeld
      refine hK.out _ _ ?_ (fun hHeld => ?_)
      · ((try dsimp only); first | exact hva | exact sv1 | exact sv2)
      clear hK K
      refine wpAnyH_done (by kernel_rfl) ?_ _
      refine NoPanic.normal ?_
      exact REST _ rfl
    refine AllReadyH.cons (o := { dst := some 29, op := Go.Op.load 22 (Go.Operand.tmp 28), type := 22, pos := "solve.go:52", after := #[{ on := 22, ground := Go.Ground.data }], guard := none }) rfl (fun K hK => ?_) AllReadyH.nil
    go_simp
    clear hHeld
    refine hK.out _ _ ?_ (fun hHeld => ?_)
    · ((try dsimp only); first | exact hva | exact sv1 | exact sv2)
    clear hK K
    refine wpAnyH_ready (rs := [16]) (by kernel_rfl) (by simp) ?_
    refine AllReadyH.cons (o := { dst := some 22, op := Go.Op.load 22 (Go.Operand.tmp 21), type := 22, pos := "solve.go:52", after := #[{ on := 15, ground := Go.Ground.data }], guard := none }) rfl (fun K hK => ?_) AllReadyH.nil
    go_simp
    clear hHeld
    refine hK.out _ _ ?_ (fun hHeld => ?_)
    · ((try dsimp only); first | exact hva | exact sv1 | exact sv2)
    clear hK K
    refine wpAnyH_take (i := 24) (oi := { dst := some 30, op := Go.Op.indexAddr 39 (Go.Operand.tmp 9) (Go.Operand.tmp 10), type := 0, pos := "solve.go:52", after := #[{ on := 3, ground := Go.Ground.data }, { on := 4, ground := Go.Ground.data }, { on := 0, ground := Go.Ground.phase }, { on := 1, ground := Go.Ground.phase }, { on := 2, ground := Go.Ground.phase }, { on := 3, ground := Go.Ground.phase }, { on := 4, ground := Go.Ground.phase }, { on := 5, ground := Go.Ground.textOnly Go.Departure.lateStores }, { on := 6, ground := Go.Ground.textOnly Go.Departure.lateStoresUnsure }, { on := 7, ground := Go.Ground.textOnly Go.Departure.lateStoresUnsure }, { on := 8, ground := Go.Ground.phase }, { on := 9, ground := Go.Ground.textOnly Go.Departure.lateStores }, { on := 10, ground := Go.Ground.phase }, { on := 11, ground := Go.Ground.phase }, { on := 12, ground := Go.Ground.phase }, { on := 13, ground := Go.Ground.phase }, { on := 14, ground := Go.Ground.phase }, { on := 15, ground := Go.Ground.phase }, { on := 16, ground := Go.Ground.phase }, { on := 17, ground := Go.Ground.textOnly Go.Departure.lateStores }, { on := 18, ground := Go.Ground.textOnly Go.Departure.lateStoresUnsure }, { on := 19, ground := Go.Ground.textOnly Go.Departure.lateStoresUnsure }, { on := 20, ground := Go.Ground.phase }, { on := 21, ground := Go.Ground.textOnly Go.Departure.lateStores }, { on := 22, ground := Go.Ground.textOnly Go.Departure.lateStoresUnsure }, { on := 23, ground := Go.Ground.phase }], guard := none }) (v := ?_) rfl (by kernel_rfl) (by kernel_rfl) (by kernel_rfl) (fun _ _ _ h => h) (Or.inl ⟨by rfl, ?_⟩) (by assumption) ?_
    rotate_left 1
    · (intro w hSw; (try dsimp only at hSw); go_simp; try with_reducible rfl)
    try simp only [Act.put, List.setIfInBounds_toArray, List.set_cons_zero, List.set_cons_succ]
    refine wpAnyH_ready (rs := [25]) (by kernel_rfl) (by simp) ?_
    refine AllReadyH.cons (o := { dst := none, op := Go.Op.store 22 (Go.Operand.tmp 30) (Go.Operand.tmp 22), type := 0, pos := "solve.go:52", after := #[{ on := 24, ground := Go.Ground.data }, { on := 16, ground := Go.Ground.data }, { on := 0, ground := Go.Ground.phase }, { on := 1, ground := Go.Ground.phase }, { on := 2, ground := Go.Ground.phase }, { on := 3, ground := Go.Ground.phase }, { on := 4, ground := Go.Ground.phase }, { on := 5, ground := Go.Ground.textOnly Go.Departure.lateStores }, { on := 6, ground := Go.Ground.textOnly Go.Departure.lateStoresUnsure }, { on := 7, ground := Go.Ground.textOnly Go.Departure.lateStoresUnsure }, { on := 8, ground := Go.Ground.phase }, { on := 9, ground := Go.Ground.textOnly Go.Departure.lateStores }, { on := 10, ground := Go.Ground.phase }, { on := 11, ground := Go.Ground.phase }, { on := 12, ground := Go.Ground.phase }, { on := 13, ground := Go.Ground.phase }, { on := 14, ground := Go.Ground.phase }, { on := 15, ground := Go.Ground.phase }, { on := 16, ground := Go.Ground.phase }, { on := 17, ground := Go.Ground.textOnly Go.Departure.lateStores }, { on := 18, ground := Go.Ground.textOnly Go.Departure.lateStoresUnsure }, { on := 19, ground := Go.Ground.textOnly Go.Departure.lateStoresUnsure }, { on := 20, ground := Go.Ground.phase }, { on := 21, ground := Go.Ground.textOnly Go.Departure.lateStores }, { on := 22, ground := Go.Ground.textOnly Go.Departure.lateStoresUnsure }, { on := 23, ground := Go.Ground.phase }], guard := none }) rfl (fun K hK => ?_) AllReadyH.nil
    go_simp
    clear hHeld
    refine hK.out _ _ ?_ (fun hHeld => ?_)
    · ((try dsimp only); first | exact hva | exact sv1 | exact sv2)
    clear hK K
    refine wpAnyH_take (i := 26) (oi := { dst := some 31, op := Go.Op.indexAddr 39 (Go.Operand.tmp 14) (Go.Operand.tmp 15), type := 0, pos := "solve.go:52", after := #[{ on := 8, ground := Go.Ground.data }, { on := 9, ground := Go.Ground.data }, { on := 0, ground := Go.Ground.phase }, { on := 1, ground := Go.Ground.phase }, { on := 2, ground := Go.Ground.phase }, { on := 3, ground := Go.Ground.phase }, { on := 4, ground := Go.Ground.phase }, { on := 5, ground := Go.Ground.phase }, { on := 6, ground := Go.Ground.phase }, { on := 7, ground := Go.Ground.phase }, { on := 8, ground := Go.Ground.phase }, { on := 9, ground := Go.Ground.phase }, { on := 10, ground := Go.Ground.phase }, { on := 11, ground := Go.Ground.phase }, { on := 12, ground := Go.Ground.phase }, { on := 13, ground := Go.Ground.phase }, { on := 14, ground := Go.Ground.phase }, { on := 15, ground := Go.Ground.phase }, { on := 16, ground := Go.Ground.phase }, { on := 17, ground := Go.Ground.phase }, { on := 18, ground := Go.Ground.phase }, { on := 19, ground := Go.Ground.phase }, { on := 20, ground := Go.Ground.phase }, { on := 21, ground := Go.Ground.phase }, { on := 22, ground := Go.Ground.phase }, { on := 23, ground := Go.Ground.phase }, { on := 24, ground := Go.Ground.phase }, { on := 25, ground := Go.Ground.phase }], guard := none }) (v := ?_) rfl (by kernel_rfl) (by kernel_rfl) (by kernel_rfl) (fun _ _ _ h => h) (Or.inl ⟨by rfl, ?_⟩) (by assumption) ?_
    rotate_left 1
    · (intro w hSw; (try dsimp only at hSw); go_simp; try with_reducible rfl)
    try simp only [Act.put, List.setIfInBounds_toArray, List.set_cons_zero, List.set_cons_succ]
    refine wpAnyH_ready (rs := [27]) (by kernel_rfl) (by simp) ?_
    refine AllReadyH.cons (o := { dst := none, op := Go.Op.store 22 (Go.Operand.tmp 31) (Go.Operand.tmp 29), type := 0, pos := "solve.go:52", after := #[{ on := 26, ground := Go.Ground.data }, { on := 23, ground := Go.Ground.data }, { on := 25, ground := Go.Ground.chain }, { on := 0, ground := Go.Ground.phase }, { on := 1, ground := Go.Ground.phase }, { on := 2, ground := Go.Ground.phase }, { on := 3, ground := Go.Ground.phase }, { on := 4, ground := Go.Ground.phase }, { on := 5, ground := Go.Ground.phase }, { on := 6, ground := Go.Ground.phase }, { on := 7, ground := Go.Ground.phase }, { on := 8, ground := Go.Ground.phase }, { on := 9, ground := Go.Ground.phase }, { on := 10, ground := Go.Ground.phase }, { on := 11, ground := Go.Ground.phase }, { on := 12, ground := Go.Ground.phase }, { on := 13, ground := Go.Ground.phase }, { on := 14, ground := Go.Ground.phase }, { on := 15, ground := Go.Ground.phase }, { on := 16, ground := Go.Ground.phase }, { on := 17, ground := Go.Ground.phase }, { on := 18, ground := Go.Ground.phase }, { on := 19, ground := Go.Ground.phase }, { on := 20, ground := Go.Ground.phase }, { on := 21, ground := Go.Ground.phase }, { on := 22, ground := Go.Ground.phase }, { on := 23, ground := Go.Ground.phase }, { on := 24, ground := Go.Ground.phase }, { on := 25, ground := Go.Ground.phase }], guard := none }) rfl (fun K hK => ?_) AllReadyH.nil
    go_simp
    clear hHeld
    refine hK.out _ _ ?_ (fun hHeld => ?_)
    · ((try dsimp only); first | exact hva | exact sv1 | exact sv2)
    clear hK K
    refine wpAnyH_done (by kernel_rfl) ?_ _
    refine NoPanic.normal ?_
    exact REST _ rfl
  rintro W hW
  have HG := Lib.hid (show w.grownBy W (some g) by rw [hW]; exact World.grownBy.trans HW1.out.2 ⟨rfl, rfl, rfl, Nat.le_refl _, fun _ _ _ => rfl⟩)
  have HW1' := Lib.hid (HW1.out.1.drewN 1)
  change Hid (Grid (World.drew _) _ _ _ _ _ _ _) at HW1'
  rw [← hW] at HW1'
  clear sv1 sv2
  have hgb := H.out.gb.grown HG.out (.inl (by omega))
  have hbk := H.out.blk.grown HG.out (fun e => by injection e with e; have := H.out.l2; have := H.out.l3; omega)
  obtain ⟨e3, e4⟩ := HE.out.2.2
  have hvb2 : W.cell? ⟨p, 1, none⟩ = some (.slice (some ⟨g', 0, none⟩) n cg') := (hbk.cell 1).trans rfl
  have z3 := (hgb.head i hi).1
  have z4 := (hgb.head k hk).1
  have f3 := (hgb.head i hi).2
  have f4 := (hgb.head k hk).2
  rw [e3] at z3
  rw [e4] at z4
  obtain ⟨y3, y4⟩ := hgb.head2 i k hi hk
  have HW2 := Lib.hid (And.intro (hgb.swap i k hi hk) (hgb.insd i k (Rb k) (Rb i)))
  have hpg2 : p ≠ g' := by have := H.out.l3; omega
  have sv1 := (World.cell?_setCell_other W ⟨g', i, none⟩ ⟨p, 1, none⟩ (.slice (some ⟨b4, 0, none⟩) q c4) (fun e => hpg2 (by injection e with e1; exact e1.symm))).trans hvb2
  have sv2 := (World.cell?_setCell_other (W.setCell ⟨g', i, none⟩ (.slice (some ⟨b4, 0, none⟩) q c4)) ⟨g', k, none⟩ ⟨p, 1, none⟩ (.slice (some ⟨b3, 0, none⟩) q c3) (fun e => hpg2 (by injection e with e1; exact e1.symm))).trans sv1
  rw [e4] at y3 y4
  rw [e3, e4] at HW2
  have HBK := Lib.hid hbk
  clear hgb hbk e3 e4 hW y1 y2 z1 z2 f1 f2 hva hvb
  go_upto_region 1 with (fail)
  apply joinW (fun V => V = ((W.setCell ⟨g', i, none⟩ (.slice (some ⟨b4, 0, none⟩) q c4)).setCell ⟨g', k, none⟩ (.slice (some ⟨b3, 0, none⟩) q c3)).drew)
  · intro REST
    refine wp_region_noPanic ?_
    refine wp_region_held_drew (S := (fun W => W.cell? ⟨p, 1, none⟩ = some (.slice (some ⟨g', 0, none⟩) n cg'))) (by kernel_rfl) ?_ (fun hHeld => ?_)
    · ((try dsimp only); first | exact hvb2 | exact sv1 | exact sv2)
    refine wpAnyH_take (i := 0) (oi := { dst := some 32, op := Go.Op.move (Go.Operand.tmp 0), type := 96, pos := "solve.go:53", after := #[], guard := none }) (v := ?_) rfl (by kernel_rfl) (by kernel_rfl) (by kernel_rfl) (fun _ _ _ h => h) (Or.inl ⟨by rfl, ?_⟩) (by assumption) ?_
    rotate_left 1
    · (intro w hSw; (try dsimp only at hSw); go_simp; try with_reducible rfl)
    try simp only [Act.put, List.setIfInBounds_toArray, List.set_cons_zero, List.set_cons_succ]
    refine wpAnyH_take (i := 1) (oi := { dst := some 33, op := Go.Op.nilCheck (Go.Operand.tmp 32), type := 0, pos := "solve.go:53", after := #[{ on := 0, ground := Go.Ground.data }], guard := none }) (v := ?_) rfl (by kernel_rfl) (by kernel_rfl) (by kernel_rfl) (fun _ _ _ h => h) (Or.inl ⟨by rfl, ?_⟩) (by assumption) ?_
    rotate_left 1
    · (intro w hSw; (try dsimp only at hSw); go_simp; try with_reducible rfl)
    try simp only [Act.put, List.setIfInBounds_toArray, List.set_cons_zero, List.set_cons_succ]
    refine wpAnyH_take (i := 2) (oi := { dst := some 34, op := Go.Op.fieldAddr 100 (Go.Operand.tmp 33) 1, type := 0, pos := "solve.go:53", after := #[{ on := 1, ground := Go.Ground.data }], guard := none }) (v := ?_) rfl (by kernel_rfl) (by kernel_rfl) (by kernel_rfl) (fun _ _ _ h => h) (Or.inl ⟨by rfl, ?_⟩) (by assumption) ?_
    rotate_left 1
    · (intro w hSw; (try dsimp only at hSw); go_simp; try with_reducible rfl)
    try simp only [Act.put, List.setIfInBounds_toArray, List.set_cons_zero, List.set_cons_succ]
    refine wpAnyH_take (i := 3) (oi := { dst := some 35, op := Go.Op.load 39 (Go.Operand.tmp 34), type := 39, pos := "solve.go:53", after := #[{ on := 2, ground := Go.Ground.data }], guard := none }) (v := ?_) rfl (by kernel_rfl) (by kernel_rfl) (by kernel_rfl) (fun _ _ _ h => h) (Or.inl ⟨by rfl, ?_⟩) (by assumption) ?_
    rotate_left 1
    · (intro w hSw; (try dsimp only at hSw); go_simp; try with_reducible rfl)
    try simp only [Act.put, List.setIfInBounds_toArray, List.set_cons_zero, List.set_cons_succ]
    refine wpAnyH_take (i := 4) (oi := { dst := some 36, op := Go.Op.move (Go.Operand.tmp 1), type := 3, pos := "solve.go:53", after := #[], guard := none }) (v := ?_) rfl (by kernel_rfl) (by kernel_rfl) (by kernel_rfl) (fun _ _ _ h => h) (Or.inl ⟨by rfl, ?_⟩) (by assumption) ?_
    rotate_left 1
    · (intro w hSw; (try dsimp only at hSw); go_simp; try with_reducible rfl)
    try simp only [Act.put, List.setIfInBounds_toArray, List.set_cons_zero, List.set_cons_succ]
    refine wpAnyH_take (i := 5) (oi := { dst := some 37, op := Go.Op.move (Go.Operand.tmp 0), type := 96, pos := "solve.go:53", after := #[], guard := none }) (v := ?_) rfl (by kernel_rfl) (by kernel_rfl) (by kernel_rfl) (fun _ _ _ h => h) (Or.inl ⟨by rfl, ?_⟩) (by assumption) ?_
    rotate_left 1
    · (intro w hSw; (try dsimp only at hSw); go_simp; try with_reducible rfl)
    try simp only [Act.put, List.setIfInBounds_toArray, List.set_cons_zero, List.set_cons_succ]
    refine wpAnyH_take (i := 6) (oi := { dst := some 38, op := Go.Op.nilCheck (Go.Operand.tmp 37), type := 0, pos := "solve.go:53", after := #[{ on := 5, ground := Go.Ground.data }], guard := none }) (v := ?_) rfl (by kernel_rfl) (by kernel_rfl) (by kernel_rfl) (fun _ _ _ h => h) (Or.inl ⟨by rfl, ?_⟩) (by assumption) ?_
    rotate_left 1
    · (intro w hSw; (try dsimp only at hSw); go_simp; try with_reducible rfl)
    try simp only [Act.put, List.setIfInBounds_toArray, List.set_cons_zero, List.set_cons_succ]
    refine wpAnyH_take (i := 7) (oi := { dst := some 39, op := Go.Op.fieldAddr 100 (Go.Operand.tmp 38) 1, type := 0, pos := "solve.go:53", after := #[{ on := 6, ground := Go.Ground.data }], guard := none }) (v := ?_) rfl (by kernel_rfl) (by kernel_rfl) (by kernel_rfl) (fun _ _ _ h => h) (Or.inl ⟨by rfl, ?_⟩) (by assumption) ?_
    rotate_left 1
    · (intro w hSw; (try dsimp only at hSw); go_simp; try with_reducible rfl)
    try simp only [Act.put, List.setIfInBounds_toArray, List.set_cons_zero, List.set_cons_succ]
    refine wpAnyH_take (i := 8) (oi := { dst := some 40, op := Go.Op.load 39 (Go.Operand.tmp 39), type := 39, pos := "solve.go:53", after := #[{ on := 7, ground := Go.Ground.data }], guard := none }) (v := ?_) rfl (by kernel_rfl) (by kernel_rfl) (by kernel_rfl) (fun _ _ _ h => h) (Or.inl ⟨by rfl, ?_⟩) (by assumption) ?_
    rotate_left 1
    · (intro w hSw; (try dsimp only at hSw); go_simp; try with_reducible rfl)
    try simp only [Act.put, List.setIfInBounds_toArray, List.set_cons_zero, List.set_cons_succ]
    refine wpAnyH_take (i := 9) (oi := { dst := some 41, op := Go.Op.move (Go.Operand.tmp 2), type := 3, pos := "solve.go:53", after := #[{ on := 25, ground := Go.Ground.gcOnly Go.Departure.lateStores }], guard := none }) (v := ?_) rfl (by kernel_rfl) (by kernel_rfl) (by kernel_rfl) (fun _ _ _ h => h) (Or.inl ⟨by rfl, ?_⟩) (by assumption) ?_
    rotate_left 1
    · (intro w hSw; (try dsimp only at hSw); go_simp; try with_reducible rfl)
    try simp only [Act.put, List.setIfInBounds_toArray, List.set_cons_zero, List.set_cons_succ]
    refine wpAnyH_take (i := 10) (oi := { dst := some 42, op := Go.Op.move (Go.Operand.tmp 0), type := 96, pos := "solve.go:53", after := #[], guard := none }) (v := ?_) rfl (by kernel_rfl) (by kernel_rfl) (by kernel_rfl) (fun _ _ _ h => h) (Or.inl ⟨by rfl, ?_⟩) (by assumption) ?_
    rotate_left 1
    · (intro w hSw; (try dsimp only at hSw); go_simp; try with_reducible rfl)
    try simp only [Act.put, List.setIfInBounds_toArray, List.set_cons_zero, List.set_cons_succ]
    refine wpAnyH_take (i := 11) (oi := { dst := some 43, op := Go.Op.nilCheck (Go.Operand.tmp 42), type := 0, pos := "solve.go:53", after := #[{ on := 10, ground := Go.Ground.data }], guard := none }) (v := ?_) rfl (by kernel_rfl) (by kernel_rfl) (by kernel_rfl) (fun _ _ _ h => h) (Or.inl ⟨by rfl, ?_⟩) (by assumption) ?_
    rotate_left 1
    · (intro w hSw; (try dsimp only at hSw); go_simp; try with_reducible rfl)
    try simp only [Act.put, List.setIfInBounds_toArray, List.set_cons_zero, List.set_cons_succ]
    refine wpAnyH_take (i := 12) (oi := { dst := some 44, op := Go.Op.fieldAddr 100 (Go.Operand.tmp 43) 1, type := 0, pos := "solve.go:53", after := #[{ on := 11, ground := Go.Ground.data }], guard := none }) (v := ?_) rfl (by kernel_rfl) (by kernel_rfl) (by kernel_rfl) (fun _ _ _ h => h) (Or.inl ⟨by rfl, ?_⟩) (by assumption) ?_
    rotate_left 1
    · (intro w hSw; (try dsimp only at hSw); go_simp; try with_reducible rfl)
    try simp only [Act.put, List.setIfInBounds_toArray, List.set_cons_zero, List.set_cons_succ]
    refine wpAnyH_take (i := 13) (oi := { dst := some 45, op := Go.Op.load 39 (Go.Operand.tmp 44), type := 39, pos := "solve.go:53", after := #[{ on := 12, ground := Go.Ground.data }], guard := none }) (v := ?_) rfl (by kernel_rfl) (by kernel_rfl) (by kernel_rfl) (fun _ _ _ h => h) (Or.inl ⟨by rfl, ?_⟩) (by assumption) ?_
    rotate_left 1
    · (intro w hSw; (try dsimp only at hSw); go_simp; try with_reducible rfl)
    try simp only [Act.put, List.setIfInBounds_toArray, List.set_cons_zero, List.set_cons_succ]
    refine wpAnyH_take (i := 14) (oi := { dst := some 46, op := Go.Op.move (Go.Operand.tmp 2), type := 3, pos := "solve.go:53", after := #[], guard := none }) (v := ?_) rfl (by kernel_rfl) (by kernel_rfl) (by kernel_rfl) (fun _ _ _ h => h) (Or.inl ⟨by rfl, ?_⟩) (by assumption) ?_
    rotate_left 1
    · (intro w hSw; (try dsimp only at hSw); go_simp; try with_reducible rfl)
    try simp only [Act.put, List.setIfInBounds_toArray, List.set_cons_zero, List.set_cons_succ]
    refine wpAnyH_take (i := 15) (oi := { dst := some 47, op := Go.Op.indexAddr 39 (Go.Operand.tmp 45) (Go.Operand.tmp 46), type := 0, pos := "solve.go:53", after := #[{ on := 13, ground := Go.Ground.data }, { on := 14, ground := Go.Ground.data }], guard := none }) (v := ?_) rfl (by kernel_rfl) (by kernel_rfl) (by kernel_rfl) (fun _ _ _ h => h) (Or.inl ⟨by rfl, ?_⟩) (by assumption) ?_
    rotate_left 1
    · (intro w hSw; (try dsimp only at hSw); go_simp; try with_reducible rfl)
    try simp only [Act.put, List.setIfInBounds_toArray, List.set_cons_zero, List.set_cons_succ]
    refine wpAnyH_take (i := 17) (oi := { dst := some 49, op := Go.Op.move (Go.Operand.tmp 0), type := 96, pos := "solve.go:53", after := #[], guard := none }) (v := ?_) rfl (by kernel_rfl) (by kernel_rfl) (by kernel_rfl) (fun _ _ _ h => h) (Or.inl ⟨by rfl, ?_⟩) (by assumption) ?_
    rotate_left 1
    · (intro w hSw; (try dsimp only at hSw); go_simp; try with_reducible rfl)
    try simp only [Act.put, List.setIfInBounds_toArray, List.set_cons_zero, List.set_cons_succ]
    refine wpAnyH_take (i := 18) (oi := { dst := some 50, op := Go.Op.nilCheck (Go.Operand.tmp 49), type := 0, pos := "solve.go:53", after := #[{ on := 17, ground := Go.Ground.data }], guard := none }) (v := ?_) rfl (by kernel_rfl) (by kernel_rfl) (by kernel_rfl) (fun _ _ _ h => h) (Or.inl ⟨by rfl, ?_⟩) (by assumption) ?_
    rotate_left 1
    · (intro w hSw; (try dsimp only at hSw); go_simp; try with_reducible rfl)
    try simp only [Act.put, List.setIfInBounds_toArray, List.set_cons_zero, List.set_cons_succ]
    refine wpAnyH_take (i := 19) (oi := { dst := some 51, op := Go.Op.fieldAddr 100 (Go.Operand.tmp 50) 1, type := 0, pos := "solve.go:53", after := #[{ on := 18, ground := Go.Ground.data }], guard := none }) (v := ?_) rfl (by kernel_rfl) (by kernel_rfl) (by kernel_rfl) (fun _ _ _ h => h) (Or.inl ⟨by rfl, ?_⟩) (by assumption) ?_
    rotate_left 1
    · (intro w hSw; (try dsimp only at hSw); go_simp; try with_reducible rfl)
    try simp only [Act.put, List.setIfInBounds_toArray, List.set_cons_zero, List.set_cons_succ]
    refine wpAnyH_take (i := 20) (oi := { dst := some 52, op := Go.Op.load 39 (Go.Operand.tmp 51), type := 39, pos := "solve.go:53", after := #[{ on := 19, ground := Go.Ground.data }], guard := none }) (v := ?_) rfl (by kernel_rfl) (by kernel_rfl) (by kernel_rfl) (fun _ _ _ h => h) (Or.inl ⟨by rfl, ?_⟩) (by assumption) ?_
    rotate_left 1
    · (intro w hSw; (try dsimp only at hSw); go_simp; try with_reducible rfl)
    try simp only [Act.put, List.setIfInBounds_toArray, List.set_cons_zero, List.set_cons_succ]
    refine wpAnyH_take (i := 21) (oi := { dst := some 53, op := Go.Op.move (Go.Operand.tmp 1), type := 3, pos := "solve.go:53", after := #[], guard := none }) (v := ?_) rfl (by kernel_rfl) (by kernel_rfl) (by kernel_rfl) (fun _ _ _ h => h) (Or.inl ⟨by rfl, ?_⟩) (by assumption) ?_
    rotate_left 1
    · (intro w hSw; (try dsimp only at hSw); go_simp; try with_reducible rfl)
    try simp only [Act.put, List.setIfInBounds_toArray, List.set_cons_zero, List.set_cons_succ]
    refine wpAnyH_take (i := 22) (oi := { dst := some 54, op := Go.Op.indexAddr 39 (Go.Operand.tmp 52) (Go.Operand.tmp 53), type := 0, pos := "solve.go:53", after := #[{ on := 20, ground := Go.Ground.data }, { on := 21, ground := Go.Ground.data }], guard := none }) (v := ?_) rfl (by kernel_rfl) (by kernel_rfl) (by kernel_rfl) (fun _ _ _ h => h) (Or.inl ⟨by rfl, ?_⟩) (by assumption) ?_
    rotate_left 1
    · (intro w hSw; (try dsimp only at hSw); go_simp; try with_reducible rfl)
    try simp only [Act.put, List.setIfInBounds_toArray, List.set_cons_zero, List.set_cons_succ]
    refine wpAnyH_ready (rs := [16, 23]) (by kernel_rfl) (by simp) ?_
    refine AllReadyH.cons (o := { dst := some 48, op := Go.Op.load 22 (Go.Operand.tmp 47), type := 22, pos := "solve.go:53", after := #[{ on := 15, ground := Go.Ground.data }], guard := none }) rfl (fun K hK => ?_) ?_
    · go_simp
      clear hHeld
      refine hK.out _ _ ?_ (fun hHeld => ?_)
      · ((try dsimp only); first | exact hvb2 | exact sv1 | exact sv2)
      clear hK K
      refine wpAnyH_ready (rs := [23]) (by kernel_rfl) (by simp) ?_
      refine AllReadyH.cons (o := { dst := some 55, op := Go.Op.load 22 (Go.Operand.tmp 54), type := 22, pos := "solve.go:53", after := #[{ on := 22, ground := Go.Ground.data }], guard := none }) rfl (fun K hK => ?_) AllReadyH.nil
      go_simp
      clear hHeld
      refine hK.out _ _ ?_ (fun hHeld => ?_)
      · ((try dsimp only); first | exact hvb2 | exact sv1 | exact sv2)
      clear hK K
      refine wpAnyH_take (i := 24) (oi := { dst := some 56, op := Go.Op.indexAddr 39 (Go.Operand.tmp 35) (Go.Operand.tmp 36), type := 0, pos := "solve.go:53", after := #[{ on := 3, ground := Go.Ground.data }, { on := 4, ground := Go.Ground.data }, { on := 0, ground := Go.Ground.phase }, { on := 1, ground := Go.Ground.phase }, { on := 2, ground := Go.Ground.phase }, { on := 3, ground := Go.Ground.phase }, { on := 4, ground := Go.Ground.phase }, { on := 5, ground := Go.Ground.textOnly Go.Departure.lateStores }, { on := 6, ground := Go.Ground.textOnly Go.Departure.lateStoresUnsure }, { on := 7, ground := Go.Ground.textOnly Go.Departure.lateStoresUnsure }, { on := 8, ground := Go.Ground.phase }, { on := 9, ground := Go.Ground.textOnly Go.Departure.lateStores }, { on := 10, ground := Go.Ground.phase }, { on := 11, ground := Go.Ground.phase }, { on := 12, ground := Go.Ground.phase }, { on := 13, ground := Go.Ground.phase }, { on := 14, ground := Go.Ground.phase }, { on := 15, ground := Go.Ground.phase }, { on := 16, ground := Go.Ground.phase }, { on := 17, ground := Go.Ground.textOnly Go.Departure.lateStores }, { on := 18, ground := Go.Ground.textOnly Go.Departure.lateStoresUnsure }, { on := 19, ground := Go.Ground.textOnly Go.Departure.lateStoresUnsure }, { on := 20, ground := Go.Ground.phase }, { on := 21, ground := Go.Ground.textOnly Go.Departure.lateStores }, { on := 22, ground := Go.Ground.textOnly Go.Departure.lateStoresUnsure }, { on := 23, ground := Go.Ground.phase }], guard := none }) (v := ?_) rfl (by kernel_rfl) (by kernel_rfl) (by kernel_rfl) (fun _ _ _ h => h) (Or.inl ⟨by rfl, ?_⟩) (by assumption) ?_
      rotate_left 1
      · (intro w hSw; (try dsimp only at hSw); go_simp; try with_reducible rfl)
      try simp only [Act.put, List.setIfInBounds_toArray, List.set_cons_zero, List.set_cons_succ]
      refine wpAnyH_ready (rs := [25]) (by kernel_rfl) (by simp) ?_
      refine AllReadyH.cons (o := { dst := none, op := Go.Op.store 22 (Go.Operand.tmp 56) (Go.Operand.tmp 48), type := 0, pos := "solve.go:53", after := #[{ on := 24, ground := Go.Ground.data }, { on := 16, ground := Go.Ground.data }, { on := 0, ground := Go.Ground.phase }, { on := 1, ground := Go.Ground.phase }, { on := 2, ground := Go.Ground.phase }, { on := 3, ground := Go.Ground.phase }, { on := 4, ground := Go.Ground.phase }, { on := 5, ground := Go.Ground.textOnly Go.Departure.lateStores }, { on := 6, ground := Go.Ground.textOnly Go.Departure.lateStoresUnsure }, { on := 7, ground := Go.Ground.textOnly Go.Departure.lateStoresUnsure }, { on := 8, ground := Go.Ground.phase }, { on := 9, ground := Go.Ground.textOnly Go.Departure.lateStores }, { on := 10, ground := Go.Ground.phase }, { on := 11, ground := Go.Ground.phase }, { on := 12, ground := Go.Ground.phase }, { on := 13, ground := Go.Ground.phase }, { on := 14, ground := Go.Ground.phase }, { on := 15, ground := Go.Ground.phase }, { on := 16, ground := Go.Ground.phase }, { on := 17, ground := Go.Ground.textOnly Go.Departure.lateStores }, { on := 18, ground := Go.Ground.textOnly Go.Departure.lateStoresUnsure }, { on := 19, ground := Go.Ground.textOnly Go.Departure.lateStoresUnsure }, { on := 20, ground := Go.Ground.phase }, { on := 21, ground := Go.Ground.textOnly Go.Departure.lateStores }, { on := 22, ground := Go.Ground.textOnly Go.Departure.lateStoresUnsure }, { on := 23, ground := Go.Ground.phase }], guard := none }) rfl (fun K hK => ?_) AllReadyH.nil
      go_simp
      clear hHeld
      refine hK.out _ _ ?_ (fun hHeld => ?_)
      · ((try dsimp only); first | exact hvb2 | exact sv1 | exact sv2)
      clear hK K
      refine wpAnyH_take (i := 26) (oi := { dst := some 57, op := Go.Op.indexAddr 39 (Go.Operand.tmp 40) (Go.Operand.tmp 41), type := 0, pos := "solve.go:53", after := #[{ on := 8, ground := Go.Ground.data }, { on := 9, ground := Go.Ground.data }, { on := 0, ground := Go.Ground.phase }, { on := 1, ground := Go.Ground.phase }, { on := 2, ground := Go.Ground.phase }, { on := 3, ground := Go.Ground.phase }, { on := 4, ground := Go.Ground.phase }, { on := 5, ground := Go.Ground.phase }, { on := 6, ground := Go.Ground.phase }, { on := 7, ground := Go.Ground.phase }, { on := 8, ground := Go.Ground.phase }, { on := 9, ground := Go.Ground.phase }, { on := 10, ground := Go.Ground.phase }, { on := 11, ground := Go.Ground.phase }, { on := 12, ground := Go.Ground.phase }, { on := 13, ground := Go.Ground.phase }, { on := 14, ground := Go.Ground.phase }, { on := 15, ground := Go.Ground.phase }, { on := 16, ground := Go.Ground.phase }, { on := 17, ground := Go.Ground.phase }, { on := 18, ground := Go.Ground.phase }, { on := 19, ground := Go.Ground.phase }, { on := 20, ground := Go.Ground.phase }, { on := 21, ground := Go.Ground.phase }, { on := 22, ground := Go.Ground.phase }, { on := 23, ground := Go.Ground.phase }, { on := 24, ground := Go.Ground.phase }, { on := 25, ground := Go.Ground.phase }], guard := none }) (v := ?_) rfl (by kernel_rfl) (by kernel_rfl) (by kernel_rfl) (fun _ _ _ h => h) (Or.inl ⟨by rfl, ?_⟩) (by assumption) ?_
      rotate_left 1
      · (intro w hSw; (try dsimp only at hSw); go_simp; try with_reducible rfl)
      try simp only [Act.put, List.setIfInBounds_toArray, List.set_cons_zero, List.set_cons_succ]
      refine wpAnyH_ready (rs := [27]) (by kernel_rfl) (by simp) ?_
      refine AllReadyH.cons (o := { dst := none, op := Go.Op.store 22 (Go.Operand.tmp 57) (Go.Operand.tmp 55), type := 0, pos := "solve.go:53", after := #[{ on := 26, ground := Go.Ground.data }, { on := 23, ground := Go.Ground.data }, { on := 25, ground := Go.Ground.chain }, { on := 0, ground := Go.Ground.phase }, { on := 1, ground := Go.Ground.phase }, { on := 2, ground := Go.Ground.phase }, { on := 3, ground := Go.Ground.phase }, { on := 4, ground := Go.Ground.phase }, { on := 5, ground := Go.Ground.phase }, { on := 6, ground := Go.Ground.phase }, { on := 7, ground := Go.Ground.phase }, { on := 8, ground := Go.Ground.phase }, { on := 9, ground := Go.Ground.phase }, { on := 10, ground := Go.Ground.phase }, { on := 11, ground := Go.Ground.phase }, { on := 12, ground := Go.Ground.phase }, { on := 13, ground := Go.Ground.phase }, { on := 14, ground := Go.Ground.phase }, { on := 15, ground := Go.Ground.phase }, { on := 16, ground := Go.Ground.phase }, { on := 17, ground := Go.Ground.phase }, { on := 18, ground := Go.Ground.phase }, { on := 19, ground := Go.Ground.phase }, { on := 20, ground := Go.Ground.phase }, { on := 21, ground := Go.Ground.phase }, { on := 22, ground := Go.Ground.phase }, { on := 23, ground := Go.Ground.phase }, { on := 24, ground := Go.Ground.phase }, { on := 25, ground := Go.Ground.phase }], guard := none }) rfl (fun K hK => ?_) AllReadyH.nil
      go_simp
      clear hHeld
      refine hK.out _ _ ?_ (fun hHeld => ?_)
      · ((try dsimp only); first | exact hvb2 | exact sv1 | exact sv2)
      clear hK K
      refine wpAnyH_done (by kernel_rfl) ?_ _
      refine NoPanic.normal ?_
      exact REST _ rfl
    refine AllReadyH.cons (o := { dst := some 55, op := Go.Op.load 22 (Go.Operand.tmp 54), type := 22, pos := "solve.go:53", after := #[{ on := 22, ground := Go.Ground.data }], guard := none }) rfl (fun K hK => ?_) AllReadyH.nil
    go_simp
    clear hHeld
    refine hK.out _ _ ?_ (fun hHeld => ?_)
    · ((try dsimp only); first | exact hvb2 | exact sv1 | exact sv2)
    clear hK K
    refine wpAnyH_ready (rs := [16]) (by kernel_rfl) (by simp) ?_
    refine AllReadyH.cons (o := { dst := some 48, op := Go.Op.load 22 (Go.Operand.tmp 47), type := 22, pos := "solve.go:53", after := #[{ on := 15, ground := Go.Ground.data }], guard := none }) rfl (fun K hK => ?_) AllReadyH.nil
    go_simp
    clear hHeld
    refine hK.out _ _ ?_ (fun hHeld => ?_)
    · ((try dsimp only); first | exact hvb2 | exact sv1 | exact sv2)
    clear hK K
    refine wpAnyH_take (i := 24) (oi := { dst := some 56, op := Go.Op.indexAddr 39 (Go.Operand.tmp 35) (Go.Operand.tmp 36), type := 0, pos := "solve.go:53", after := #[{ on := 3, ground := Go.Ground.data }, { on := 4, ground := Go.Ground.data }, { on := 0, ground := Go.Ground.phase }, { on := 1, ground := Go.Ground.phase }, { on := 2, ground := Go.Ground.phase }, { on := 3, ground := Go.Ground.phase }, { on := 4, ground := Go.Ground.phase }, { on := 5, ground := Go.Ground.textOnly Go.Departure.lateStores }, { on := 6, ground := Go.Ground.textOnly Go.Departure.lateStoresUnsure }, { on := 7, ground := Go.Ground.textOnly Go.Departure.lateStoresUnsure }, { on := 8, ground := Go.Ground.phase }, { on := 9, ground := Go.Ground.textOnly Go.Departure.lateStores }, { on := 10, ground := Go.Ground.phase }, { on := 11, ground := Go.Ground.phase }, { on := 12, ground := Go.Ground.phase }, { on := 13, ground := Go.Ground.phase }, { on := 14, ground := Go.Ground.phase }, { on := 15, ground := Go.Ground.phase }, { on := 16, ground := Go.Ground.phase }, { on := 17, ground := Go.Ground.textOnly Go.Departure.lateStores }, { on := 18, ground := Go.Ground.textOnly Go.Departure.lateStoresUnsure }, { on := 19, ground := Go.Ground.textOnly Go.Departure.lateStoresUnsure }, { on := 20, ground := Go.Ground.phase }, { on := 21, ground := Go.Ground.textOnly Go.Departure.lateStores }, { on := 22, ground := Go.Ground.textOnly Go.Departure.lateStoresUnsure }, { on := 23, ground := Go.Ground.phase }], guard := none }) (v := ?_) rfl (by kernel_rfl) (by kernel_rfl) (by kernel_rfl) (fun _ _ _ h => h) (Or.inl ⟨by rfl, ?_⟩) (by assumption) ?_
    rotate_left 1
    · (intro w hSw; (try dsimp only at hSw); go_simp; try with_reducible rfl)
    try simp only [Act.put, List.setIfInBounds_toArray, List.set_cons_zero, List.set_cons_succ]
    refine wpAnyH_ready (rs := [25]) (by kernel_rfl) (by simp) ?_
    refine AllReadyH.cons (o := { dst := none, op := Go.Op.store 22 (Go.Operand.tmp 56) (Go.Operand.tmp 48), type := 0, pos := "solve.go:53", after := #[{ on := 24, ground := Go.Ground.data }, { on := 16, ground := Go.Ground.data }, { on := 0, ground := Go.Ground.phase }, { on := 1, ground := Go.Ground.phase }, { on := 2, ground := Go.Ground.phase }, { on := 3, ground := Go.Ground.phase }, { on := 4, ground := Go.Ground.phase }, { on := 5, ground := Go.Ground.textOnly Go.Departure.lateStores }, { on := 6, ground := Go.Ground.textOnly Go.Departure.lateStoresUnsure }, { on := 7, ground := Go.Ground.textOnly Go.Departure.lateStoresUnsure }, { on := 8, ground := Go.Ground.phase }, { on := 9, ground := Go.Ground.textOnly Go.Departure.lateStores }, { on := 10, ground := Go.Ground.phase }, { on := 11, ground := Go.Ground.phase }, { on := 12, ground := Go.Ground.phase }, { on := 13, ground := Go.Ground.phase }, { on := 14, ground := Go.Ground.phase }, { on := 15, ground := Go.Ground.phase }, { on := 16, ground := Go.Ground.phase }, { on := 17, ground := Go.Ground.textOnly Go.Departure.lateStores }, { on := 18, ground := Go.Ground.textOnly Go.Departure.lateStoresUnsure }, { on := 19, ground := Go.Ground.textOnly Go.Departure.lateStoresUnsure }, { on := 20, ground := Go.Ground.phase }, { on := 21, ground := Go.Ground.textOnly Go.Departure.lateStores }, { on := 22, ground := Go.Ground.textOnly Go.Departure.lateStoresUnsure }, { on := 23, ground := Go.Ground.phase }], guard := none }) rfl (fun K hK => ?_) AllReadyH.nil
    go_simp
    clear hHeld
    refine hK.out _ _ ?_ (fun hHeld => ?_)
    · ((try dsimp only); first | exact hvb2 | exact sv1 | exact sv2)
    clear hK K
    refine wpAnyH_take (i := 26) (oi := { dst := some 57, op := Go.Op.indexAddr 39 (Go.Operand.tmp 40) (Go.Operand.tmp 41), type := 0, pos := "solve.go:53", after := #[{ on := 8, ground := Go.Ground.data }, { on := 9, ground := Go.Ground.data }, { on := 0, ground := Go.Ground.phase }, { on := 1, ground := Go.Ground.phase }, { on := 2, ground := Go.Ground.phase }, { on := 3, ground := Go.Ground.phase }, { on := 4, ground := Go.Ground.phase }, { on := 5, ground := Go.Ground.phase }, { on := 6, ground := Go.Ground.phase }, { on := 7, ground := Go.Ground.phase }, { on := 8, ground := Go.Ground.phase }, { on := 9, ground := Go.Ground.phase }, { on := 10, ground := Go.Ground.phase }, { on := 11, ground := Go.Ground.phase }, { on := 12, ground := Go.Ground.phase }, { on := 13, ground := Go.Ground.phase }, { on := 14, ground := Go.Ground.phase }, { on := 15, ground := Go.Ground.phase }, { on := 16, ground := Go.Ground.phase }, { on := 17, ground := Go.Ground.phase }, { on := 18, ground := Go.Ground.phase }, { on := 19, ground := Go.Ground.phase }, { on := 20, ground := Go.Ground.phase }, { on := 21, ground := Go.Ground.phase }, { on := 22, ground := Go.Ground.phase }, { on := 23, ground := Go.Ground.phase }, { on := 24, ground := Go.Ground.phase }, { on := 25, ground := Go.Ground.phase }], guard := none }) (v := ?_) rfl (by kernel_rfl) (by kernel_rfl) (by kernel_rfl) (fun _ _ _ h => h) (Or.inl ⟨by rfl, ?_⟩) (by assumption) ?_
    rotate_left 1
    · (intro w hSw; (try dsimp only at hSw); go_simp; try with_reducible rfl)
    try simp only [Act.put, List.setIfInBounds_toArray, List.set_cons_zero, List.set_cons_succ]
    refine wpAnyH_ready (rs := [27]) (by kernel_rfl) (by simp) ?_
    refine AllReadyH.cons (o := { dst := none, op := Go.Op.store 22 (Go.Operand.tmp 57) (Go.Operand.tmp 55), type := 0, pos := "solve.go:53", after := #[{ on := 26, ground := Go.Ground.data }, { on := 23, ground := Go.Ground.data }, { on := 25, ground := Go.Ground.chain }, { on := 0, ground := Go.Ground.phase }, { on := 1, ground := Go.Ground.phase }, { on := 2, ground := Go.Ground.phase }, { on := 3, ground := Go.Ground.phase }, { on := 4, ground := Go.Ground.phase }, { on := 5, ground := Go.Ground.phase }, { on := 6, ground := Go.Ground.phase }, { on := 7, ground := Go.Ground.phase }, { on := 8, ground := Go.Ground.phase }, { on := 9, ground := Go.Ground.phase }, { on := 10, ground := Go.Ground.phase }, { on := 11, ground := Go.Ground.phase }, { on := 12, ground := Go.Ground.phase }, { on := 13, ground := Go.Ground.phase }, { on := 14, ground := Go.Ground.phase }, { on := 15, ground := Go.Ground.phase }, { on := 16, ground := Go.Ground.phase }, { on := 17, ground := Go.Ground.phase }, { on := 18, ground := Go.Ground.phase }, { on := 19, ground := Go.Ground.phase }, { on := 20, ground := Go.Ground.phase }, { on := 21, ground := Go.Ground.phase }, { on := 22, ground := Go.Ground.phase }, { on := 23, ground := Go.Ground.phase }, { on := 24, ground := Go.Ground.phase }, { on := 25, ground := Go.Ground.phase }], guard := none }) rfl (fun K hK => ?_) AllReadyH.nil
    go_simp
    clear hHeld
    refine hK.out _ _ ?_ (fun hHeld => ?_)
    · ((try dsimp only); first | exact hvb2 | exact sv1 | exact sv2)
    clear hK K
    refine wpAnyH_done (by kernel_rfl) ?_ _
    refine NoPanic.normal ?_
    exact REST _ rfl
  rintro W9 hW9
  go_wp2
  first | go_end0 | ((try simp only [Exit.inBlock, Exit.then]); refine bodyPost_ret (results_none rfl _ _ _) rfl ?_)
  have HW2' := Lib.hid (HW2.out.1.drewN 1)
  change Hid (Grid (World.drew _) _ _ _ _ _ _ _) at HW2'
  rw [← hW9] at HW2'
  have HG9 := Lib.hid (show W.grownBy W9 (some g') by rw [hW9]; exact World.grownBy.trans HW2.out.2 ⟨rfl, rfl, rfl, Nat.le_refl _, fun _ _ _ => rfl⟩)
  refine swap_end HE.out H.out HBK.out HG.out HW1'.out ⟨HW2'.out, HG9.out⟩ hgl hgh hgl' hgh'
end Go.Proofs.Ytcnfafappcbpnaa.Sol
/- solve: all other rows brought to nought in a column. -/
namespace Go.Proofs.Ytcnfafappcbpnaa.Sol
open Go Go.RowKit Go.Proofs.Ytcnfafappcbpnaa.Gi Go.Proofs.Ytcnfafappcbpnaa.Gf Go.Proofs.Ytcnfafappcbpnaa.Mem Go.Proofs.Ytcnfafappcbpnaa.Bits Go.Proofs.Ytcnfafappcbpnaa.Rws Go.Proofs.YtcnfafappcbpnaaW.PrintWords
set_option linter.unusedVariables false

/-- The first i rows cleared; row t made one. -/
def clrTo (C : Mtx) (t col : Nat) (r : Int) (i : Nat) : Mtx := fun p j => if p = t then gmI (C t j) r else if p < i then xorI (C p j) (gmI (gmI (C t j) r) (C p col)) else C p j
theorem clrTo_byt {C : Mtx} (hC : BytM C) (t col : Nat) {r : Int} (hr : Byt r) (i : Nat) : BytM (clrTo C t col r i) := by
  intro p j
  unfold clrTo
  split
  · exact gmI_byt (hC _ _)
  · split
    · exact xorI_byt (hC _ _) (gmI_byt (gmI_byt (hC _ _)))
    · exact hC _ _
theorem gm0 (a : Int) : gmI a 0 = 0 := by unfold gmI; simp [gm_zero_right]
theorem xor0 {a : Int} (h : Byt a) : xorI a 0 = a := by unfold xorI; have := h.1; simp; omega
theorem clrTo_skip {C : Mtx} (hC : BytM C) (t col : Nat) (r : Int) (i : Nat) (h : i = t ∨ C i col = 0) (p j : Nat) : clrTo C t col r i p j = clrTo C t col r (i + 1) p j := by
  unfold clrTo
  by_cases e : p = t
  · rw [if_pos e, if_pos e]
  · rw [if_neg e, if_neg e]
    by_cases e1 : p < i
    · rw [if_pos e1, if_pos (by omega)]
    · rw [if_neg e1]
      by_cases e2 : p = i
      · subst e2
        rcases h with h | h
        · exact absurd h e
        · rw [if_pos (by omega), h, gm0, xor0 (hC _ _)]
      · rw [if_neg (by omega)]
theorem clrTo_at (C : Mtx) (t col : Nat) (r : Int) (i j : Nat) (h : i ≠ t) : clrTo C t col r i i j = C i j := by unfold clrTo; rw [if_neg h, if_neg (Nat.lt_irrefl i)]
theorem clrTo_t (C : Mtx) (t col : Nat) (r : Int) (i j : Nat) : clrTo C t col r i t j = gmI (C t j) r := by unfold clrTo; rw [if_pos rfl]
theorem clrTo_next (C : Mtx) (t col : Nat) (r : Int) (i p j : Nat) (h : i ≠ t) : (if p = i then xorI (C i j) (gmI (gmI (C t j) r) (C i col)) else clrTo C t col r i p j) = clrTo C t col r (i + 1) p j := by
  unfold clrTo
  by_cases e : p = i
  · subst e
    rw [if_pos rfl, if_neg h, if_pos (by omega)]
  · rw [if_neg e]
    by_cases e1 : p = t
    · rw [if_pos e1, if_pos e1]
    · rw [if_neg e1, if_neg e1]
      by_cases e2 : p < i
      · rw [if_pos e2, if_pos (by omega)]
      · rw [if_neg e2, if_neg (by omega)]
theorem Work.drewN {w : World} {lo mid top p n m q : Nat} {va vb : Value} {Ra Rb : Nat → Value} {C : Mtx} (h : Work w lo mid top p va vb n m q Ra Rb C) (k : Nat) : Work (w.drewN k) lo mid top p va vb n m q Ra Rb C :=
  ⟨h.blk.drewN k, h.ga.drewN k, h.gb.drewN k, h.l1, h.l2, h.l3⟩
set_option maxRecDepth 100000 in
set_option maxHeartbeats 4000000 in
theorem clear_any (lo mid top p n m q t col : Nat) (va vb : Value) (Ra Rb : Nat → Value) (C : Mtx) (w : World) (h : Work w lo mid top p va vb n m q Ra Rb C) (hC : BytM C) (hn : n ≤ 1000) (ht : t < n) (hc : col < m) (hm : m ≤ 1000) (hq1 : 1 ≤ q) (hq : q ≤ 1000) (hz : C t col ≠ 0) :
    ∃ r, Byt r ∧ gmI (C t col) r = 1 ∧ Calls Try.prog 78 #[.pointer (some ⟨p, 0, none⟩), .int .i64 t, .int .i64 col] w fun e w' => e = .returned (.tuple #[]) ∧ Work w' lo mid top p va vb n m q Ra Rb (clrTo C t col r n) ∧ Insd lo top w w' := by
  obtain ⟨r, hr, hr1, IV⟩ := inv_still (C t col) w (hC t col) hz
  refine ⟨r, hr, hr1, ?_⟩
  have HIV := Lib.hid IV
  have HR := Lib.hid hr
  have HC := Lib.hid hC
  obtain ⟨g, cg, rfl, _, hgl, hgh, _⟩ := h.ga.form (by omega)
  obtain ⟨g', cg', rfl, _, hgl', hgh', _⟩ := h.gb.form (by omega)
  obtain ⟨hva, hvb⟩ := h.cells
  obtain ⟨b1, c1, e1, _, l1, l2, _⟩ := h.ga.rform (by omega) t ht
  obtain ⟨b2, c2, e2, _, l3, l4, _⟩ := h.gb.rform (by omega) t ht
  have z1 := (h.ga.head t ht).1
  rw [e1] at z1
  have z2 := (h.ga.elem t ht e1 col hc).1
  have hrow := h.ga.row t ht
  rw [e1] at hrow
  have SC := Lib.hid (scale_any lo b1 c1 m (C t) r w hrow (hC t) hr (by omega))
  have g0 : (0 : Int) ≤ (t : Int) := by omega
  have g1 : (t : Int) < (n : Int) := by omega
  have g2 : (0 : Int) ≤ (col : Int) := by omega
  have g3 : (col : Int) < (m : Int) := by omega
  have H := Lib.hid h
  have E1 := Lib.hid e1
  have E2 := Lib.hid e2
  obtain ⟨y, hy⟩ : ∃ y, y = C t col := ⟨_, rfl⟩
  rw [← hy] at z2 HIV
  clear h hC hr hr1 IV hz hrow e1 e2 hy
  go_enter Try.func78, Try.ntmps78
  go_upto_region 2 with (first
    | (go_at_call 79; (with_reducible refine (HIV.out _).mono ?_); rintro e w' ⟨rfl, hw⟩; obtain rfl := hw.symm)
    | (go_at_call 82; (with_reducible refine SC.out.mono ?_); rintro e w1 ⟨rfl, hr1, hg1⟩; have HR1 := Lib.hid hr1; have HG1 := Lib.hid hg1; clear hr1 hg1))
  have hr1 := HR1.out
  rw [← E1.out] at hr1
  have hw1 := H.out.putA t ht E1.out l1 l2 HG1.out _ hr1
  have HI1 := Lib.hid (Insd.grown HG1.out l1 (show b1 < top by have := H.out.l2; omega))
  clear hr1 hva hvb z1 z2 SC HIV
  obtain ⟨hva, hvb⟩ := hw1.cells
  have z1 := (hw1.gb.head t ht).1
  rw [E2.out] at z1
  have hrow := hw1.gb.row t ht
  rw [E2.out] at hrow
  rw [line_congr q _ (fun j => C t (m + j)) (fun j _ => by show (if t = t then (if m + j < m then _ else C t (m + j)) else _) = _; rw [if_pos rfl, if_neg (by omega)])] at hrow
  have SC := Lib.hid (scale_any mid b2 c2 q (fun j => C t (m + j)) r w1 hrow (fun j => HC.out t (m + j)) HR.out (by omega))
  have HW1 := Lib.hid hw1
  clear hw1 hrow
  go_upto_region 3 with (go_at_call 82; (with_reducible refine SC.out.mono ?_); rintro e w2 ⟨rfl, hr1, hg1⟩; have HR2 := Lib.hid hr1; have HG2 := Lib.hid hg1; clear hr1 hg1)
  have hr2 := HR2.out
  rw [← E2.out] at hr2
  have hw2 := HW1.out.putB t ht E2.out l3 l4 HG2.out _ hr2
  have HW2 := Lib.hid (show Work w2 lo mid top p _ _ n m q Ra Rb (clrTo C t col r 0) from hw2.congr (fun i hi j hj => by
    unfold clrTo
    by_cases e : i = t
    · subst e
      rw [if_pos rfl, if_pos rfl]
      by_cases ej : j < m
      · rw [if_pos ej, if_pos rfl, if_pos ej]
      · rw [if_neg ej, show m + (j - m) = j by omega, if_pos rfl]
    · rw [if_neg e, if_neg e, if_neg e, if_neg (Nat.not_lt_zero i)]))
  have HI2 := Lib.hid (HI1.out.trans (Insd.grown HG2.out (show lo ≤ b2 by have := H.out.l1; omega) l4))
  clear hr2 hw2 hva hvb z1 SC HW1 HI1 HR1 HR2 HG1 HG2
  have hva := HW2.out.cells.1
  go_upto_region 4 with (fail)
  clear hva
  go_loopw [8, 9, 47] (fun _ _ iv wr => ∃ (i : Nat), i ≤ n ∧ iv = .int .i64 i ∧ Hid (Work wr lo mid top p (.slice (some ⟨g, 0, none⟩) n cg) (.slice (some ⟨g', 0, none⟩) n cg') n m q Ra Rb (clrTo C t col r i)) ∧ Hid (Insd lo top w wr)) (fun _ _ iv _ => n - (intOf iv).toNat)
  case atStart => exact ⟨0, by omega, rfl, HW2, HI2⟩
  case round =>
    clear HW2 HI2
    obtain ⟨i, hi, rfl, HW, HI⟩ := hrel
    by_cases hlt : i < n
    · have hva := HW.out.cells.1
      obtain ⟨b3, c3, e3, _, l5, l6, _⟩ := HW.out.ga.rform (by omega) i hlt
      have z3 := (HW.out.ga.head i hlt).1
      rw [e3] at z3
      have z4 := (HW.out.ga.elem i hlt e3 col hc).1
      have E3 := Lib.hid e3
      have g4 : (0 : Int) ≤ (i : Int) := by omega
      have g5 : (i : Int) < (n : Int) := by omega
      clear e3
      by_cases hit : i = t
      · have t1 : ((i : Int) != (t : Int)) = false := by simp; omega
        have HT := Lib.hid hit
        obtain ⟨f, hf⟩ : ∃ f, f = clrTo C t col r i i col := ⟨_, rfl⟩
        rw [← hf] at z4
        clear hit hf
        go_wp2
        go_roundw
        case rel => exact ⟨i + 1, by omega, by go_num, Lib.hid (HW.out.congr (fun p' _ j _ => clrTo_skip HC.out t col r i (.inl HT.out) p' j)), HI⟩
        case measure => simp [intOf]; omega
      · have t1 : ((i : Int) != (t : Int)) = true := by simp; omega
        have HT := Lib.hid hit
        rw [clrTo_at C t col r i col hit] at z4
        clear hit
        by_cases hz : C i col = 0
        · rw [hz] at z4
          have HZ := Lib.hid hz
          clear hz
          go_wp2
          go_roundw
          case rel => exact ⟨i + 1, by omega, by go_num, Lib.hid (HW.out.congr (fun p' _ j _ => clrTo_skip HC.out t col r i (.inr HZ.out) p' j)), HI⟩
          case measure => simp [intOf]; omega
        · have t2 : (C i col != 0) = true := by simp [hz]
          have z5 := (HW.out.ga.head t ht).1
          rw [E1.out] at z5
          have hri := (HW.out.drewN 1).ga.row i hlt
          have hrt := (HW.out.drewN 1).ga.row t ht
          rw [E3.out, line_congr m _ (C i) (fun j _ => clrTo_at C t col r i j HT.out)] at hri
          rw [E1.out, line_congr m _ (fun j => gmI (C t j) r) (fun j _ => clrTo_t C t col r i j)] at hrt
          have HNE := Lib.hid (show b1 ≠ b3 from fun e => HW.out.ga.apart t i ht hlt (fun e => HT.out e.symm) b1 (by rw [E1.out]; rfl) (by rw [E3.out, e]; rfl))
          have SA := Lib.hid (sadd_any lo b3 c3 b1 c1 m (C i) (fun j => gmI (C t j) r) (C i col) (wr.drewN 1) hri hrt HNE.out (HC.out i) (fun j => gmI_byt (HC.out t j)) (HC.out i col) (by omega))
          obtain ⟨rl, hrl⟩ : ∃ rl, rl = line m (fun j => xorI (C i j) (gmI (gmI (C t j) r) (C i col))) := ⟨_, rfl⟩
          rw [← hrl] at SA
          have HRL := Lib.hid hrl
          obtain ⟨f, hf⟩ : ∃ f, f = C i col := ⟨_, rfl⟩
          rw [← hf] at z4 t2 SA
          have HF := Lib.hid hf
          clear hz hri hrt hrl hf
          go_upto_region 8 with (fail)
          refine wp_region_still_tail 15 (by kernel_rfl) (by kernel_rfl) ?_
          change wpStill _ _ (wr.drewN 1) (fun a' => wpList _ _ _ _ a' (wr.drewN 1)) _ _
          simp only [List.take_succ_cons, List.take_zero, List.drop_succ_cons, List.drop_zero]
          iterate 15 still_step
          refine wpStill_nil ?_
          go_upto_region 9 with (go_at_call 83; (with_reducible refine SA.out.mono ?_); rintro e w3 ⟨rfl, hr1, hg1⟩; have HR3 := Lib.hid hr1; have HG3 := Lib.hid hg1; clear hr1 hg1)
          have hr3 := HR3.out
          rw [← E3.out, HRL.out] at hr3
          have hw3 := (HW.out.drewN 1).putA i hlt E3.out l5 l6 HG3.out _ hr3
          have HI3 := Lib.hid ((HI.out.trans (Insd.drewN wr 1)).trans (Insd.grown HG3.out l5 (show b3 < top by have := HW.out.l2; omega)))
          clear hr3 hva z3 z4 z5 SA
          obtain ⟨_, hvb⟩ := hw3.cells
          obtain ⟨b4, c4, e4, _, l7, l8, _⟩ := hw3.gb.rform (by omega) i hlt
          have z6 := (hw3.gb.head i hlt).1
          have z7 := (hw3.gb.head t ht).1
          have hri := (hw3.drewN 1).gb.row i hlt
          have hrt := (hw3.drewN 1).gb.row t ht
          have HN4 := Lib.hid (show b2 ≠ b4 from fun e => hw3.gb.apart t i ht hlt (fun e => HT.out e.symm) b2 (by rw [E2.out]; rfl) (by rw [e4, e]; rfl))
          rw [e4] at z6 hri
          rw [E2.out] at z7 hrt
          rw [line_congr q _ (fun j => C i (m + j)) (fun j _ => by show (if i = i then (if m + j < m then _ else _) else _) = _; rw [if_pos rfl, if_neg (by omega), clrTo_at C t col r i (m + j) HT.out])] at hri
          rw [line_congr q _ (fun j => gmI (C t (m + j)) r) (fun j _ => by show (if t = i then _ else _) = _; rw [if_neg (fun e => HT.out e.symm), clrTo_t C t col r i (m + j)])] at hrt
          have SA := Lib.hid (sadd_any mid b4 c4 b2 c2 q (fun j => C i (m + j)) (fun j => gmI (C t (m + j)) r) f (w3.drewN 1) hri hrt HN4.out (fun j => HC.out i (m + j)) (fun j => gmI_byt (HC.out t (m + j))) (by rw [HF.out]; exact HC.out i col) (by omega))
          obtain ⟨rl2, hrl2⟩ : ∃ rl, rl = line q (fun j => xorI (C i (m + j)) (gmI (gmI (C t (m + j)) r) f)) := ⟨_, rfl⟩
          rw [← hrl2] at SA
          have HRL2 := Lib.hid hrl2
          have HW3 := Lib.hid hw3
          have E4 := Lib.hid e4
          clear hw3 e4 hri hrt hrl2
          refine wp_region_still_tail 15 (by kernel_rfl) (by kernel_rfl) ?_
          change wpStill _ _ (w3.drewN 1) (fun a' => wpList _ _ _ _ a' (w3.drewN 1)) _ _
          simp only [List.take_succ_cons, List.take_zero, List.drop_succ_cons, List.drop_zero]
          iterate 15 still_step
          refine wpStill_nil ?_
          go_wp2_with (go_at_call 83; (with_reducible refine SA.out.mono ?_); rintro e w4 ⟨rfl, hr1, hg1⟩; have HR4 := Lib.hid hr1; have HG4 := Lib.hid hg1; clear hr1 hg1)
          go_roundw
          case rel =>
            have hr4 := HR4.out
            rw [← E4.out, HRL2.out] at hr4
            have hw4 := (HW3.out.drewN 1).putB i hlt E4.out l7 l8 HG4.out _ hr4
            refine ⟨i + 1, by omega, by go_num, Lib.hid (hw4.congr (fun p' hp j hj => ?_)), Lib.hid ((HI3.out.trans (Insd.drewN w3 1)).trans (Insd.grown HG4.out (show lo ≤ b4 by have := HW.out.l1; omega) l8))⟩
            rw [← clrTo_next C t col r i p' j HT.out]
            by_cases ep : p' = i
            · subst ep
              rw [if_pos rfl, if_pos rfl]
              by_cases ej : j < m
              · rw [if_pos ej, if_pos rfl, if_pos ej]
              · rw [if_neg ej, HF.out, show m + (j - m) = j by omega, if_pos rfl]
            · rw [if_neg ep, if_neg ep, if_neg ep]
          case measure => simp [intOf]; omega
    · obtain rfl : i = n := by omega
      go_wp2
      first | go_end0 | ((try simp only [Exit.inBlock, Exit.then]); refine bodyPost_ret (results_none rfl _ _ _) rfl ?_)
      exact ⟨rfl, HW.out, HI.out⟩
end Go.Proofs.Ytcnfafappcbpnaa.Sol
/- solve: rows brought to steps. -/
namespace Go.Proofs.Ytcnfafappcbpnaa.Sol
open Go Go.RowKit Go.Proofs.Ytcnfafappcbpnaa.Gi Go.Proofs.Ytcnfafappcbpnaa.Gf Go.Proofs.Ytcnfafappcbpnaa.Mem Go.Proofs.Ytcnfafappcbpnaa.Bits Go.Proofs.Ytcnfafappcbpnaa.Rws Go.Proofs.YtcnfafappcbpnaaW.PrintWords
set_option linter.unusedVariables false

theorem swp_step (n : Nat) (C : Mtx) (t k col : Nat) (r : Int) (i : Nat) (hi : i < n) (j : Nat) : clrTo (swpR C t k) t col r n i j = stepI C t k col r i j := by
  have et : ∀ j, swpR C t k t j = C k j := fun j => by
    unfold swpR
    by_cases e : t = k
    · rw [if_pos e, e]
    · rw [if_neg e, if_pos rfl]
  unfold clrTo stepI
  by_cases e : i = t
  · rw [if_pos e, if_pos e, et]
  · rw [if_neg e, if_neg e, if_pos hi, et]
    have es : ∀ j, swpR C t k i j = swapI C t k i j := fun j => by
      unfold swpR swapI
      by_cases e1 : i = k
      · rw [if_pos e1, if_pos e1]
      · rw [if_neg e1, if_neg e, if_neg e1]
    rw [es, es]
theorem swp_byt {C : Mtx} (h : BytM C) (t k : Nat) : BytM (swpR C t k) := by
  intro i j
  unfold swpR
  split
  · exact h _ _
  · split <;> exact h _ _
theorem StepsTo.fill {n : Nat} {M0 M : Mtx} {col : Nat} (h : StepsTo n M0 col n M) : ∀ d, StepsTo n M0 (col + d) n M
  | 0 => h
  | d + 1 => (StepsTo.fill h d).skip (fun j h1 h2 => absurd h1 (by omega))
theorem grown_any {w w' : World} {row : Option Nat} (hg : w.grownBy w' row) (b : Nat) (h : row = none ∨ row = some b) : w.grownBy w' (some b) := by
  rcases h with h | h
  · subst h; exact ⟨hg.os, hg.tape, hg.output, hg.size, fun k hk _ => hg.block k hk (by simp)⟩
  · subst h; exact hg
theorem Work.grow {w w' : World} {lo mid top p n m q e sz k : Nat} {va vb u : Value} {Ra Rb : Nat → Value} {C : Mtx} {xs : List Value} (h : Work w lo mid top p va vb n m q Ra Rb C) (ho : w.ownsRow (p + 1) e sz u k xs) (hg : w.grownBy w' u.ownBlock) :
    Work w' lo mid top p va vb n m q Ra Rb C := by
  rcases hb : u.ownBlock with _ | b
  · exact h.grown (grown_any hg (p + 1) (.inl hb)) (by omega)
  · rw [hb] at hg
    exact h.grown hg (by have := own_base ho b hb; omega)
theorem info_int : (Try.prog.info? 3).map (fun i => (i.zero, i.size, i.bytes)) = some (some (.int .i64 0), 1, 8) := by kernel_rfl
set_option maxRecDepth 100000 in
set_option maxHeartbeats 4000000 in
theorem ssteps_any (lo mid top p n m q : Nat) (va vb : Value) (Ra Rb : Nat → Value) (C0 : Mtx) (w : World) (h : Work w lo mid top p va vb n m q Ra Rb C0) (hC : BytM C0) (hn1 : 1 ≤ n) (hn : n ≤ 1000) (hm1 : 1 ≤ m) (hm : m ≤ 1000) (hq1 : 1 ≤ q) (hq : q ≤ 1000) (hlo : lo ≤ w.heap.size) :
    Calls Try.prog 67 #[.pointer (some ⟨p, 0, none⟩)] w fun e w' => ∃ A c t Ra' Rb' C, e = .returned (.slice A t c) ∧ Work w' lo mid top p va vb n m q Ra' Rb' C ∧ StepsTo n C0 m t C ∧ Below lo w w' := by
  obtain ⟨g, cg, rfl, _⟩ := h.ga.form (by omega)
  have hva := h.cells.1
  obtain ⟨b0, c0, e0, _⟩ := h.ga.rform (by omega) 0 (by omega)
  have z0 := (h.ga.head 0 (by omega)).1
  rw [e0] at z0
  have H := Lib.hid h
  have HC0 := Lib.hid hC
  have t0 : ((n : Int) == 0) = false := by simp; omega
  have g9 : (0 : Int) < (n : Int) := by omega
  have HLO := Lib.hid hlo
  have HPL := Lib.hid h.blk.lt
  clear h hC e0 hlo
  go_enter Try.func67, Try.ntmps67
  go_upto_region 5 with (fail)
  clear hva z0
  go_loopw [3, 4, 5, 6, 20] (fun uv _ _ _ cv wr => ∃ (t col : Nat) (C : Mtx) (Ra Rb : Nat → Value) (u : Value) (cols : List Int), uv = u ∧ cv = .int .i64 col ∧ col ≤ m ∧ t < n ∧ cols.length = t ∧ Hid (wr.ownsRow (p + 1) 3 1 u cols.length (nums .i64 cols)) ∧ Hid (Work wr lo mid top p (.slice (some ⟨g, 0, none⟩) n cg) vb n m q Ra Rb C) ∧ Hid (StepsTo n C0 col t C) ∧ Hid (Below lo w wr)) (fun _ _ _ _ cv _ => m - (intOf cv).toNat)
  case atStart => exact ⟨0, 0, C0, Ra, Rb, _, [], rfl, rfl, by omega, by omega, rfl, Lib.hid (own_nil _ _ _ _), H, Lib.hid .start, Lib.hid (Below.refl _ _)⟩
  case round =>
    clear H
    obtain ⟨t, col, C, Ra, Rb, u, cols, rfl, rfl, hcol, htn, htl, HO, HW, HS, HB⟩ := hrel
    by_cases hlt : col < m
    · obtain ⟨A3, c3, e3⟩ := own_slice HO.out
      subst e3
      rw [htl] at HO ⊢
      have g0 : (0 : Int) ≤ (col : Int) := by omega
      have g1 : (col : Int) < (m : Int) := by omega
      have PV := Lib.hid (pivot_any lo mid top p n m q t col _ vb Ra Rb C wr HW.out hn1 (by omega) (by omega) hlt)
      have HTL := Lib.hid htl
      clear htl
      go_upto_region 9 with (go_at_call 76; (with_reducible refine PV.out.mono ?_); rintro e w1 ⟨r, rfl, hp, hw⟩; obtain rfl := hw.symm; have HP := Lib.hid hp; clear hp)
      clear PV
      rcases HP.out with ⟨er, hzz⟩ | ⟨k, er, htk, hkn, hzk, hnz⟩
      · have HZ := Lib.hid hzz
        have r0 : r < 0 := by omega
        clear er hzz HP
        go_wp2
        go_roundw
        case rel => exact ⟨t, col + 1, C, Ra, Rb, _, cols, rfl, by go_num, by omega, htn, HTL.out, by rw [HTL.out]; exact HO, HW, Lib.hid (HS.out.skip HZ.out), HB⟩
        case measure => simp [intOf]; omega
      · subst er
        have HZ := Lib.hid hzk
        have HN := Lib.hid hnz
        have HBY := Lib.hid (HS.out.byt HC0.out)
        have SW := Lib.hid (swap_any lo mid top p n m q t k _ vb Ra Rb C wr HW.out (by omega) htn hkn hm1 hq1)
        have r0 : ¬ (k : Int) < 0 := by omega
        clear hzk hnz HP
        go_upto_region 11 with (go_at_call 77; (with_reducible refine SW.out.mono ?_); rintro e w1 ⟨rfl, hw1, hi1⟩; have HW1 := Lib.hid hw1; have HI1 := Lib.hid hi1; clear hw1 hi1)
        have hnz2 : swpR C t k t col ≠ 0 := by
          have : swpR C t k t col = C k col := by
            unfold swpR
            by_cases e : t = k
            · rw [if_pos e, e]
            · rw [if_neg e, if_pos rfl]
          rw [this]; exact HN.out
        obtain ⟨r, hr, hr1, CL⟩ := clear_any lo mid top p n m q t col _ vb _ _ _ w1 HW1.out (swp_byt HBY.out t k) hn htn hlt hm hq1 hq hnz2
        have hr1' : gmI (C k col) r = 1 := by
          have : swpR C t k t col = C k col := by
            unfold swpR
            by_cases e : t = k
            · rw [if_pos e, e]
            · rw [if_neg e, if_pos rfl]
          rw [← this]; exact hr1
        have HST := Lib.hid (StepsTo.step HS.out htk hkn HZ.out HN.out hr hr1')
        have HCL := Lib.hid CL
        clear CL hr hr1 hr1' hnz2 SW
        go_upto_region 12 with (go_at_call 78; (with_reducible refine HCL.out.mono ?_); rintro e w2 ⟨rfl, hw2, hi2⟩; have HW2 := Lib.hid (hw2.congr (fun i hi j _ => swp_step n C t k col r i hi j)); have HI2 := Lib.hid (HI1.out.trans hi2); clear hw2 hi2)
        have HO2 := Lib.hid (HI2.out.own HO.out (by have := HW.out.l3; omega))
        have HB2 := Lib.hid (HB.out.trans (HI2.out.below (Nat.le_trans HLO.out HB.out.size)))
        have HPS := Lib.hid HW2.out.blk.lt
        clear HCL HI1 HI2 HW1 HO HW HB
        go_upto_region 13 with (at_builtin; refine print_append_num (w0 := w2) (p + 1) rfl _ _ 38 3 .i64 8 rfl Try.underlying38 info_int (by decide) (.slice A3 t c3) cols (col : Int) rfl rfl (by rw [HTL.out]; exact HO2.out) (Below.refl _ _) (by have := HPS.out; omega) (by have := HTL.out; omega) ?_; intro v3 w3 ho hb hg _; obtain ⟨A4, c4, e4⟩ := own_slice ho; rw [show (cols ++ [(col : Int)]).length = t + 1 by have := HTL.out; simp [this]] at e4 ho; subst e4; have HO3 := Lib.hid ho; have HB3 := Lib.hid (HB2.out.trans (hb.mono (show lo ≤ p + 1 by have := HW2.out.l1; have := HW2.out.l2; have := HW2.out.l3; omega))); have HW3 := Lib.hid (HW2.out.grow HO2.out hg); clear ho hb hg)
        have hva := HW3.out.cells.1
        by_cases hfull : t + 1 = n
        · have tt : ((t : Int) + 1 == (n : Int)) = true := by simp; omega
          have HF := Lib.hid hfull
          clear hfull
          go_wp2
          go_ret
          refine ⟨A4, c4, t + 1, _, _, _, rfl, HW3.out, ?_, HB3.out⟩
          have h1 := HST.out
          have h2 := StepsTo.fill (n := n) (by rw [HF.out] at h1; exact h1) (m - (col + 1))
          rw [show col + 1 + (m - (col + 1)) = m by omega] at h2
          rw [HF.out]; exact h2
        · have tt : ((t : Int) + 1 == (n : Int)) = false := by simp; omega
          have HF := Lib.hid hfull
          clear hfull
          go_wp2
          go_roundw
          case rel => exact ⟨t + 1, col + 1, _, _, _, _, cols ++ [(col : Int)], rfl, by go_num, by omega, by have := HF.out; omega, by have := HTL.out; simp [this], by rw [show (cols ++ [(col : Int)]).length = t + 1 by have := HTL.out; simp [this]]; exact HO3, HW3, HST, HB3⟩
          case measure => simp [intOf]; omega
    · obtain rfl : col = m := by omega
      obtain ⟨A3, c3, e3⟩ := own_slice HO.out
      subst e3
      rw [htl]
      have HTL := Lib.hid htl
      clear htl
      go_wp2
      go_ret
      exact ⟨A3, c3, t, _, _, _, rfl, HW.out, HS.out, HB.out⟩
end Go.Proofs.Ytcnfafappcbpnaa.Sol
/- solve: Rank, Steps, Solve, Invert, walked. -/
namespace Go.Proofs.Ytcnfafappcbpnaa.Sol
open Go Go.RowKit Go.Proofs.Ytcnfafappcbpnaa.Gi Go.Proofs.Ytcnfafappcbpnaa.Gf Go.Proofs.Ytcnfafappcbpnaa.Mem Go.Proofs.Ytcnfafappcbpnaa.Bits Go.Proofs.Ytcnfafappcbpnaa.Rws Go.Proofs.YtcnfafappcbpnaaW.PrintWords
set_option linter.unusedVariables false

/-- Two matrices side by side. -/
def augM (m : Nat) (A B : Mtx) : Mtx := fun i j => if j < m then A i j else B i (j - m)
theorem augM_byt {m : Nat} {A B : Mtx} (hA : BytM A) (hB : BytM B) : BytM (augM m A B) := by
  intro i j
  unfold augM
  split
  · exact hA _ _
  · exact hB _ _
theorem mat_right (n m : Nat) (C : Mtx) (h1 : 1 ≤ n) (h2 : n ≤ 64) (h3 : 1 ≤ m) (h4 : m ≤ 64) : Mat.RightP (mat n m C) := by
  have e : ((mat n m C).getD 0 []).length = m := by rw [mat_get n m C 0 (by omega), line_len]
  refine ⟨by rw [mat_len]; exact h1, by rw [mat_len]; exact h2, by rw [e]; exact h3, by rw [e]; exact h4, fun l hl => ?_⟩
  obtain ⟨i, _, rfl⟩ := List.mem_map.1 hl
  rw [e, line_len]
theorem mat_bytes (n m : Nat) {C : Mtx} (h : BytM C) : Mat.AllBytes (mat n m C) := by
  intro l hl
  obtain ⟨i, _, rfl⟩ := List.mem_map.1 hl
  exact line_byt m _ (h i)
theorem of_grid (n m lo hi c : Nat) (A : Option Addr) (R : Nat → Value) (C : Mtx) (w : World) (h : Grid w lo hi (.slice A n c) n m R C) (hC : BytM C) (h1 : 1 ≤ n) (h2 : n ≤ 64) (h3 : 1 ≤ m) (h4 : m ≤ 64) :
    Calls Try.prog 33 #[.slice A n c] w fun e w' => ∃ b s cap, e = .returned (.tuple #[.pointer (some ⟨b, 0, none⟩), .int .i64 0]) ∧ Mat.MatIn w' b s n m cap (Mat.flat (mat n m C)) ∧ Below w.heap.size w w' := by
  obtain ⟨hl, hc, hC'⟩ := Kd.R_reads' h.rows
  have e : ((mat n m C).getD 0 []).length = m := by rw [mat_get n m C 0 (by omega), line_len]
  have h := Mat.of_right A c (mat n m C) w w (Below.refl _ _) hC' (mat_right n m C h1 h2 h3 h4) (mat_bytes n m hC) (by omega)
  rw [mat_len, e] at h
  refine h.mono ?_
  rintro e w' ⟨b, s, cap, rfl, hm, hb, _, _⟩
  exact ⟨b, s, cap, rfl, hm, hb⟩
theorem flat_mx (n m : Nat) (C : Mtx) (i j : Nat) (hi : i < n) (hj : j < m) : mx m (Mat.flat (mat n m C)) i j = C i j := by
  unfold mx
  rw [Mat.flat_getD m (mat n m C) (fun l hl => by obtain ⟨q, _, rfl⟩ := List.mem_map.1 hl; exact line_len _ _) i j (by rw [mat_len]; exact hi) hj, mat_get n m C i hi, line_get m _ j hj]
theorem swith_aug (v u : Value) (n m q : Nat) (xs ys : List Int) (w : World) (h : Mat.IsMat w v n m xs) (h' : Mat.IsMat w u n q ys) :
    Calls Try.prog 66 #[v, u] w fun e w' => ∃ mid top p va vb Ra Rb, e = .returned (.pointer (some ⟨p, 0, none⟩)) ∧ Work w' w.heap.size mid top p va vb n m q Ra Rb (augM m (mx m xs) (mx q ys)) ∧ Below w.heap.size w w' :=
  swith_any v u n m q xs ys w h h'
section
variable (b s cap n m : Nat) (xs : List Int) (w : World)
end
end Go.Proofs.Ytcnfafappcbpnaa.Sol
/- solve: Solve, Invert, Det, walked. -/
namespace Go.Proofs.Ytcnfafappcbpnaa.Sol
open Go Go.RowKit Go.Proofs.Ytcnfafappcbpnaa.Gi Go.Proofs.Ytcnfafappcbpnaa.Gf Go.Proofs.Ytcnfafappcbpnaa.Mem Go.Proofs.Ytcnfafappcbpnaa.Bits Go.Proofs.Ytcnfafappcbpnaa.Rws Go.Proofs.YtcnfafappcbpnaaW.PrintWords
set_option linter.unusedVariables false

/-- What Solve tells of matrices that fit. -/
def SolvePost (n q : Nat) (C0 : Mtx) (w : World) (e : Ending) (w' : World) : Prop :=
  Below w.heap.size w w' ∧ ∃ t C, StepsTo n C0 n t C ∧ ((t < n ∧ e = .returned (.tuple #[.pointer none, .int .i64 23])) ∨
    (t = n ∧ ∃ b s cap, e = .returned (.tuple #[.pointer (some ⟨b, 0, none⟩), .int .i64 0]) ∧ Mat.MatIn w' b s n q cap (Mat.flat (mat n q (fun i j => C i (n + j))))))
theorem BytM.shift {C : Mtx} (h : BytM C) (n : Nat) : BytM (fun i j => C i (n + j)) := fun i j => h i (n + j)
theorem size_b (v : Value) (r c : Nat) (xs : List Int) (w : World) (h : Mat.IsMat w v r c xs) :
    Calls Try.prog 50 #[v] w fun e w' => e = .returned (.tuple #[.int .i64 r, .int .i64 c]) ∧ Below w.heap.size w w' := by
  refine (Mat.size_any v r c xs w h).mono ?_
  rintro e w' ⟨rfl, q, rfl⟩
  exact ⟨rfl, pw_below_drewN (Below.refl _ _) q⟩
theorem size_nb (w : World) :
    Calls Try.prog 50 #[.pointer none] w fun e w' => e = .returned (.tuple #[.int .i64 0, .int .i64 0]) ∧ Below w.heap.size w w' := by
  refine (Mat.size_nil w).mono ?_
  rintro e w' ⟨rfl, q, rfl⟩
  exact ⟨rfl, pw_below_drewN (Below.refl _ _) q⟩
section
variable (b s cap b1 s1 cap1 n m k q : Nat) (xs ys : List Int) (w : World)
set_option maxRecDepth 100000 in
set_option maxHeartbeats 2000000 in
theorem solve_good (h : Mat.MatIn w b s n n cap xs) (h' : Mat.MatIn w b1 s1 n q cap1 ys) :
    Calls Try.prog 52 #[.pointer (some ⟨b, 0, none⟩), .pointer (some ⟨b1, 0, none⟩)] w (SolvePost n q (augM n (mx n xs) (mx q ys)) w) := by
  have WT := Lib.hid (fun W (hB : Below w.heap.size w W) => swith_aug _ _ n n q xs ys W ⟨b, s, cap, rfl, h.below hB⟩ ⟨b1, s1, cap1, rfl, h'.below hB⟩)
  have SA := Lib.hid (fun W (hB : Below w.heap.size w W) => size_b _ n n xs W ⟨b, s, cap, rfl, h.below hB⟩)
  have SB := Lib.hid (fun W (hB : Below w.heap.size w W) => size_b _ n q ys W ⟨b1, s1, cap1, rfl, h'.below hB⟩)
  have BY := Lib.hid (augM_byt (m := n) (mx_byt (c := n) h.byt) (mx_byt (c := q) h'.byt))
  have N1 := Lib.hid (And.intro h.r0 (show n ≤ 1000 by have := h.r1; omega))
  have M1 := N1
  have Q1 := Lib.hid (And.intro h'.c0 (show q ≤ 1000 by have := h'.c1; omega))
  have NM := Lib.hid (And.intro h.r1 h'.c1)
  have HB := Lib.hid (Below.refl w.heap.size w)
  have t1 : ((n : Int) != (n : Int)) = false := by simp
  clear h h'
  go_enter Try.func52, Try.ntmps52
  go_wp2_with (first
    | (go_at_call 50; (first | (with_reducible refine (SA.out _ HB.out).mono ?_) | (with_reducible refine (SB.out _ HB.out).mono ?_)); rintro e w0 ⟨rfl, hb⟩; have HBn := Lib.hid (HB.out.trans (hb.mono HB.out.size)); clear HB hb; have HB := HBn; clear HBn)
    | (go_at_call 66; (with_reducible refine (WT.out _ HB.out).mono ?_); rintro e w1 ⟨mid, top, p, va, vb, Ra, Rb, rfl, hw, hb⟩; have HW := Lib.hid hw; have HS := Lib.hid hb.size; have HL := Lib.hid HB.out.size; have HBn := Lib.hid (HB.out.trans (hb.mono HB.out.size)); clear HB hb; have HB := HBn; clear HBn; clear hw)
    | (go_at_call 67; (with_reducible refine (ssteps_any _ mid top p _ _ _ va vb Ra Rb _ w1 HW.out BY.out N1.out.1 N1.out.2 M1.out.1 M1.out.2 Q1.out.1 Q1.out.2 HS.out).mono ?_); rintro e w2 ⟨A2, c2, t, Ra', Rb', C, rfl, hw2, hst, hb2⟩; obtain ⟨A3, c3, e3⟩ := own_slice hw2.gb.hd; subst e3; have hvb := hw2.cells.2; have HW2 := Lib.hid hw2; have HST := Lib.hid hst; have HB3 := Lib.hid (HB.out.trans (hb2.mono HL.out)); clear HB hw2 hst hb2)
    | (go_at_call 33; (with_reducible refine (of_grid n q _ _ c3 A3 Rb' (fun i j => C i (n + j)) _ HW2.out.gb (BytM.shift (HST.out.byt BY.out) n) N1.out.1 NM.out.1 Q1.out.1 NM.out.2).mono ?_); rintro e w3 ⟨b', s', cap', rfl, hm, hb⟩; have HM := Lib.hid hm; have HB4 := Lib.hid (HB3.out.trans (hb.mono HB3.out.size)); clear hm hb))
  · go_ret2
    exact ⟨HB3.out, t, C, HST.out, .inl ⟨by omega, rfl⟩⟩
  · go_ret2
    exact ⟨HB4.out, t, C, HST.out, .inr ⟨by have := HST.out.le; omega, b', s', cap', rfl, HM.out⟩⟩
theorem solve_sizes (h : Mat.MatIn w b s n m cap xs) (h' : Mat.MatIn w b1 s1 k q cap1 ys) (hne : n ≠ m ∨ k ≠ n) :
    Calls Try.prog 52 #[.pointer (some ⟨b, 0, none⟩), .pointer (some ⟨b1, 0, none⟩)] w fun e w' => e = .returned (.tuple #[.pointer none, .int .i64 1]) ∧ Below w.heap.size w w' := by
  have SA := Lib.hid (fun W (hB : Below w.heap.size w W) => size_b _ n m xs W ⟨b, s, cap, rfl, h.below hB⟩)
  have SB := Lib.hid (fun W (hB : Below w.heap.size w W) => size_b _ k q ys W ⟨b1, s1, cap1, rfl, h'.below hB⟩)
  have HB := Lib.hid (Below.refl w.heap.size w)
  have hh : ((n : Int) != (m : Int)) = true ∨ (((n : Int) != (m : Int)) = false ∧ ((k : Int) != (n : Int)) = true) := by
    by_cases e : n = m
    · exact .inr ⟨by simp [e], by rcases hne with h | h; (· exact absurd e h); (· simp; omega)⟩
    · exact .inl (by simp; omega)
  clear h h' hne
  rcases hh with h1 | ⟨h1, h2⟩
  all_goals
    go_enter Try.func52, Try.ntmps52
    go_wp2_with (go_at_call 50; (first | (with_reducible refine (SA.out _ HB.out).mono ?_) | (with_reducible refine (SB.out _ HB.out).mono ?_)); rintro e w0 ⟨rfl, hb⟩; have HBn := Lib.hid (HB.out.trans (hb.mono HB.out.size)); clear HB hb; have HB := HBn; clear HBn)
    go_ret2
    exact ⟨rfl, HB.out⟩
theorem solve_nil (h' : Mat.MatIn w b1 s1 k q cap1 ys) :
    Calls Try.prog 52 #[.pointer none, .pointer (some ⟨b1, 0, none⟩)] w fun e w' => e = .returned (.tuple #[.pointer none, .int .i64 1]) ∧ Below w.heap.size w w' := by
  have SA := Lib.hid (fun W => size_nb W)
  have SB := Lib.hid (fun W (hB : Below w.heap.size w W) => size_b _ k q ys W ⟨b1, s1, cap1, rfl, h'.below hB⟩)
  have HB := Lib.hid (Below.refl w.heap.size w)
  clear h'
  go_enter Try.func52, Try.ntmps52
  go_wp2_with (go_at_call 50; (first | (with_reducible refine (SA.out _).mono ?_) | (with_reducible refine (SB.out _ HB.out).mono ?_)); rintro e w0 ⟨rfl, hb⟩; have HBn := Lib.hid (HB.out.trans (hb.mono HB.out.size)); clear HB hb; have HB := HBn; clear HBn)
  go_ret2
  exact ⟨rfl, HB.out⟩
theorem invert_nil :
    Calls Try.prog 34 #[.pointer none] w fun e w' => e = .returned (.tuple #[.pointer none, .int .i64 1]) ∧ Below w.heap.size w w' := by
  have SA := Lib.hid (fun W => size_nb W)
  have HB := Lib.hid (Below.refl w.heap.size w)
  go_enter Try.func34, Try.ntmps34
  go_wp2_with (go_at_call 50; (with_reducible refine (SA.out _).mono ?_); rintro e w0 ⟨rfl, hb⟩; have HBn := Lib.hid (HB.out.trans (hb.mono HB.out.size)); clear HB hb; have HB := HBn; clear HBn)
  go_ret2
  exact ⟨rfl, HB.out⟩
theorem invert_sizes (h : Mat.MatIn w b s n m cap xs) (hne : n ≠ m) :
    Calls Try.prog 34 #[.pointer (some ⟨b, 0, none⟩)] w fun e w' => e = .returned (.tuple #[.pointer none, .int .i64 1]) ∧ Below w.heap.size w w' := by
  have SA := Lib.hid (fun W (hB : Below w.heap.size w W) => size_b _ n m xs W ⟨b, s, cap, rfl, h.below hB⟩)
  have HB := Lib.hid (Below.refl w.heap.size w)
  have h1 : ((n : Int) != (m : Int)) = true := by simp; omega
  clear h hne
  go_enter Try.func34, Try.ntmps34
  go_wp2_with (go_at_call 50; (with_reducible refine (SA.out _ HB.out).mono ?_); rintro e w0 ⟨rfl, hb⟩; have HBn := Lib.hid (HB.out.trans (hb.mono HB.out.size)); clear HB hb; have HB := HBn; clear HBn)
  go_ret2
  exact ⟨rfl, HB.out⟩
theorem invert_good (h : Mat.MatIn w b s n n cap xs) :
    Calls Try.prog 34 #[.pointer (some ⟨b, 0, none⟩)] w (SolvePost n n (augM n (mx n xs) (mx n (Mat.oneTo n n))) w) := by
  have SA := Lib.hid (fun W (hB : Below w.heap.size w W) => size_b _ n n xs W ⟨b, s, cap, rfl, h.below hB⟩)
  have HH := Lib.hid (fun W (hB : Below w.heap.size w W) => h.below hB)
  have ON := Lib.hid (fun W => Mat.one_good n W h.r0 h.r1)
  have HB := Lib.hid (Below.refl w.heap.size w)
  have h1 : ((n : Int) != (n : Int)) = false := by simp
  clear h
  go_enter Try.func34, Try.ntmps34
  go_upto_region 5 with (first
    | (go_at_call 50; (with_reducible refine (SA.out _ HB.out).mono ?_); rintro e w0 ⟨rfl, hb⟩; have HBn := Lib.hid (HB.out.trans (hb.mono HB.out.size)); clear HB hb; have HB := HBn; clear HBn)
    | (go_at_call 51; (with_reducible refine (ON.out _).mono ?_); rintro e w1 ⟨b1, s1, cap1, rfl, hm, hb, _, _⟩; have HM := Lib.hid hm; have HBn := Lib.hid (HB.out.trans (hb.mono HB.out.size)); clear HB hb; have HB := HBn; clear HBn; clear hm))
  have SG := Lib.hid (solve_good b s cap b1 s1 cap1 n n xs (Mat.oneTo n n) w1 (HH.out _ HB.out) HM.out)
  go_wp2_with (go_at_call 52; (with_reducible refine SG.out.mono ?_); rintro e w2 ⟨hb, t, C, hst, hd⟩; have HST := Lib.hid hst; have HB2 := Lib.hid (HB.out.trans (hb.mono HB.out.size)); clear hst hb; rcases hd with ⟨htn, rfl⟩ | ⟨htn, b', s', cap', rfl, hm⟩)
  · go_ret2
    exact ⟨HB2.out, t, C, HST.out, .inl ⟨htn, rfl⟩⟩
  · go_ret2
    exact ⟨HB2.out, t, C, HST.out, .inr ⟨htn, b', s', cap', rfl, hm⟩⟩
end
/-- What Det comes to, column by column. -/
inductive DetTo (n : Nat) (C0 : Mtx) : Nat → Int → Mtx → Prop
  | start : DetTo n C0 0 1 C0
  | step {col k : Nat} {r d : Int} {C : Mtx} : DetTo n C0 col d C → col ≤ k → k < n → (∀ j, col ≤ j → j < k → C j col = 0) → C k col ≠ 0 → Byt r → gmI (C k col) r = 1 → DetTo n C0 (col + 1) (gmI d (C k col)) (stepI C col k col r)
theorem DetTo.byt {n : Nat} {C0 : Mtx} (h0 : BytM C0) {col : Nat} {d : Int} {C : Mtx} (h : DetTo n C0 col d C) : BytM C ∧ Byt d := by
  induction h with
  | start => exact ⟨h0, ⟨by decide, by decide⟩⟩
  | step _ _ _ _ _ hr _ ih => exact ⟨stepI_byt ih.1 hr, gmI_byt ih.2⟩
/-- What Det tells. -/
def DetPost (n : Nat) (C0 : Mtx) (d : Int) : Prop := (∃ C, DetTo n C0 n d C) ∨ (d = 0 ∧ ∃ col d' C, col < n ∧ DetTo n C0 col d' C ∧ ∀ j, col ≤ j → j < n → C j col = 0)
theorem swp_at (C : Mtx) (t k col : Nat) : swpR C t k t col = C k col := by
  unfold swpR
  by_cases e : t = k
  · rw [if_pos e, e]
  · rw [if_neg e, if_pos rfl]
section
variable (b s cap n m : Nat) (xs : List Int) (w : World)
end
end Go.Proofs.Ytcnfafappcbpnaa.Sol
/- What the product of two matrices comes to. -/
namespace Go.Proofs.Ytcnfafappcbpnaa.Mat
open Go Go.RowKit Go.Proofs.Ytcnfafappcbpnaa.Mem Go.Proofs.Ytcnfafappcbpnaa.Bits Go.Proofs.Ytcnfafappcbpnaa.Gf Go.Proofs.YtcnfafappcbpnaaW.PrintWords
set_option linter.unusedVariables false

/-- A matrix filled: k elements of row i, set into ys .. -/
def fillRow (c : Nat) (f : Nat → Nat → Int) (i : Nat) : Nat → List Int → List Int
  | 0, ys => ys
  | k + 1, ys => (fillRow c f i k ys).set (i * c + k) (f i k)
/-- .. and i rows. -/
def fillTo (r c : Nat) (f : Nat → Nat → Int) : Nat → List Int
  | 0 => List.replicate (r * c) 0
  | i + 1 => fillRow c f i c (fillTo r c f i)

theorem cell_far {w : World} {p q : Addr} {v : Value} (h : q.block ≠ p.block) (u : Value) (hc : w.cell? q = some v) : (w.setCell p u).cell? q = some v := by
  rw [World.cell?_setCell_other w p q u (fun e => h (by rw [e]))]; exact hc
/-- The elements of a product. -/
def prodAt (n : Nat) (xs zs : List Int) (i k : Nat) : Int := dotTo (rowOf n xs i) (rowOf n zs k) n

theorem mid_of (w : World) (b s r c cap : Nat) (xs : List Int) (h : MatIn w b s r c cap xs) (i : Nat) (hi : i < r) (q p p2 : Nat) (hq : q = r * c) (hp : p = i * c) (hp2 : p2 = (i + 1) * c) :
    (∀ W : World, (Instr.slice 22 (.slice (some ⟨s, 0, none⟩) q cap) (some (.int .i64 (p : Int))) (some (.int .i64 (p2 : Int))) none).run Try.prog W = .ok (.slice (some ⟨s, p, none⟩) c (cap - p)) W) ∧
    ReadsInt w .u8 (some ⟨s, p, none⟩) c (rowOf c xs i) ∧ Bytes (rowOf c xs i) ∧ IntKind.i64.wrap ((i : Int) * (c : Int)) = (p : Int) ∧ IntKind.i64.wrap ((i : Int) + 1) = (i : Int) + 1 ∧
    IntKind.i64.wrap (((i : Int) + 1) * (c : Int)) = (p2 : Int) := by
  subst hq; subst hp; subst hp2
  have hrc := h.rc
  have hle : (i + 1) * c ≤ r * c := Nat.mul_le_mul_right c hi
  have hlt : i * c < (i + 1) * c := by rw [Nat.add_mul]; have := h.c0; omega
  obtain ⟨kc, hr⟩ := mid_cut s cap (r * c) xs (i * c) ((i + 1) * c) h.len hlt hle h.capLe
  have hR := hr w (by have := h.reads; rwa [h.len] at this)
  have hd : (i + 1) * c - i * c = c := by rw [Nat.add_mul]; omega
  rw [hd] at kc
  change ReadsInt w .u8 _ (rowOf c xs i).length (rowOf c xs i) at hR
  rw [rowOf_len h.len i hi] at hR
  refine ⟨kc, hR, (h.byt.take _).drop _, ?_, IntWalk.i64_in _ (by have := h.r1; omega), ?_⟩
  · rw [← Int.natCast_mul]; exact IntWalk.i64_in _ (by omega)
  · rw [show ((i : Int) + 1) = ((i + 1 : Nat) : Int) by omega, ← Int.natCast_mul]; exact IntWalk.i64_in _ (by omega)

end Go.Proofs.Ytcnfafappcbpnaa.Mat
/- The matrix One, place by place. -/
namespace Go.Proofs.Ytcnfafappcbpnaa.Mat
open Go Go.RowKit Go.Proofs.Ytcnfafappcbpnaa.Mem Go.Proofs.Ytcnfafappcbpnaa.Bits Go.Proofs.Ytcnfafappcbpnaa.Gf Go.Proofs.YtcnfafappcbpnaaW.PrintWords
set_option linter.unusedVariables false

theorem oneTo_len (n : Nat) : ∀ k, (oneTo n k).length = n * n
  | 0 => by simp [oneTo]
  | k + 1 => by rw [oneTo, List.length_set, oneTo_len n k]
theorem oneTo_get (n : Nat) (j : Nat) (hj : j ≤ n) : ∀ i k, i < n → k < n → (oneTo n j).getD (i * n + k) 0 = if i = k ∧ i < j then 1 else 0 := by
  induction j with
  | zero =>
    intro i k hi hk
    have := idx_lt hi hk
    rw [if_neg (by omega)]
    simp [oneTo, List.getD_eq_getElem?_getD, this]
  | succ j ih =>
    intro i k hi hk
    have hlt := idx_lt hi hk
    have hjj := idx_lt (show j < n by omega) (show j < n by omega)
    rw [oneTo, List.getD_eq_getElem?_getD, List.getElem?_set]
    by_cases e : j * n + j = i * n + k
    · rw [if_pos e, if_pos (by rw [oneTo_len]; exact hjj)]
      have hij : j = i := by
        have h1 := Nat.div_mod_unique (a := j * n + j) (b := n) (c := j) (d := j) (by omega)
        have h2 := Nat.div_mod_unique (a := i * n + k) (b := n) (c := k) (d := i) (by omega)
        have h3 := (h1.2 ⟨by rw [Nat.mul_comm n j]; omega, by omega⟩).1
        have h4 := (h2.2 ⟨by rw [Nat.mul_comm n i]; omega, by omega⟩).1
        rw [e] at h3; omega
      subst hij
      rw [if_pos ⟨by omega, by omega⟩]; rfl
    · rw [if_neg e, ← List.getD_eq_getElem?_getD, ih (by omega) i k hi hk]
      by_cases h : i = k ∧ i < j
      · rw [if_pos h, if_pos ⟨h.1, by omega⟩]
      · rw [if_neg h, if_neg]
        rintro ⟨rfl, h'⟩
        have : i = j := by omega
        subst this
        exact e rfl
end Go.Proofs.Ytcnfafappcbpnaa.Mat
/- Equations: what Solve leaves solves them; Solve and Invert, by whether all rows are needed; no program of any law. -/
namespace Go.Proofs.Ytcnfafappcbpnaa.Sol
open Go Go.RowKit Go.Proofs.Ytcnfafappcbpnaa.Gf Go.Proofs.Ytcnfafappcbpnaa.Gi Go.Proofs.Ytcnfafappcbpnaa.Alg Go.Proofs.Ytcnfafappcbpnaa.Mem Go.Proofs.Ytcnfafappcbpnaa.Rws Go.Proofs.YtcnfafappcbpnaaW.PrintWords
set_option linter.unusedVariables false

theorem StepsTo.oneFull {n : Nat} {M0 : Mtx} (h0 : BytM M0) {col t : Nat} {M : Mtx} (h : StepsTo n M0 col t M) : t = col → OneTo (el M) n col := by
  induction h with
  | start => exact fun _ i j _ hj => absurd hj (Nat.not_lt_zero j)
  | skip hs _ _ => exact fun e => absurd hs.le.1 (by omega)
  | @step col t k r M hs htk hk hz hp hr h1 ih =>
    intro e
    have e' : t = col := by omega
    subst e'
    rw [stepI_el (hs.byt h0) hr h1]
    exact stepF_one (el M) n k t (ih rfl) hk htk (of_ne (hs.byt h0 k t) hp)
/-- What Solve leaves solves the equations. -/
theorem StepsTo.eqs {n q : Nat} {A B : Mtx} (hA : BytM A) (hB : BytM B) {C : Mtx} (h : StepsTo n (augM n A B) n n C) (i : Nat) (hi : i < n) (l : Nat) (hl : l < q) :
    dotF n (el A i) (fun j => G.of (C j (n + l))) = G.of (B i l) := by
  have h0 := augM_byt (m := n) hA hB
  have ho := h.oneFull h0 rfl
  obtain ⟨c, hcn, hcl, hcz⟩ : ∃ c : Nat → G, (∀ j, j < n → c j = G.of (C j (n + l))) ∧ c (n + l) = 1 ∧ ∀ j, ¬ j < n → j ≠ n + l → c j = 0 :=
    ⟨fun j => if j < n then G.of (C j (n + l)) else if j = n + l then 1 else 0, fun j hj => by simp [hj], by simp only [if_true]; rw [if_neg (by omega)], fun j h1 h2 => by simp [h1, h2]⟩
  have hk := (h.ker (m := n + q) h0 c).1 (fun p hp => by
    unfold dotF
    rw [sum_at2 (a := p) (b := n + l) (by omega) (by omega) (by omega) (fun j _ h1 h2 => ?_)]
    · rw [hcn p hp, hcl, ho p p hp hp, if_pos rfl, Alg.one_mul, Fd.mul_one]
      exact Fd.add_self _
    · by_cases hj : j < n
      · rw [ho p j hp hj, if_neg (fun e => h1 e.symm), zero_mul]
      · rw [hcz j hj h2, mul_zero])
  have h1 := hk i hi
  unfold dotF at h1
  rw [sum_split] at h1
  have e1 : sum n (fun j => el (augM n A B) i j * c j) = dotF n (el A i) (fun j => G.of (C j (n + l))) := by
    unfold dotF
    exact sum_congr (fun j hj => by rw [hcn j hj]; unfold el augM; rw [if_pos hj])
  have e2 : sum q (fun j => el (augM n A B) i (n + j) * c (n + j)) = G.of (B i l) := by
    rw [sum_at (a := l) hl (fun j _ hne => by rw [hcz (n + j) (by omega) (by omega), mul_zero]), hcl, Fd.mul_one]
    unfold el augM
    rw [if_neg (by omega), Nat.add_sub_cancel_left]
  rw [e1, e2] at h1
  exact eq_of_add_zero h1
theorem of_dotTo {xs ys : List Int} (hx : Mat.Bytes xs) (hy : Mat.Bytes ys) : ∀ k, G.of (Mat.dotTo xs ys k) = sum k (fun j => G.of (xs.getD j 0) * G.of (ys.getD j 0))
  | 0 => rfl
  | k + 1 => by
    show G.of (xorI (Mat.dotTo xs ys k) (gmI (xs.getD k 0) (ys.getD k 0))) = _
    rw [of_xor (Mat.dotTo_range xs ys hx k) (gmI_byt (hx.getD k)), of_gm (hx.getD k) (hy.getD k), of_dotTo hx hy k]
    rfl
theorem line_bytes {m : Nat} {f : Nat → Int} (h : ∀ i, Byt (f i)) : Mat.Bytes (line m f) := line_byt m f h
theorem mat_getD_bytes {n m : Nat} {A : Mtx} (h : BytM A) (i : Nat) : Mat.Bytes ((mat n m A).getD i []) := by
  rcases Nat.lt_or_ge i n with hi | hi
  · rw [mat_get n m A i hi]; exact line_bytes (h i)
  · rw [List.getD_eq_getElem?_getD, List.getElem?_eq_none (by rw [mat_len]; exact hi)]
    intro x hx; cases hx
/-- The matrix by which a product is what it was. -/
def idM : Mtx := fun i j => if i = j then 1 else 0
theorem idM_byt : BytM idM := fun i j => by unfold idM; split; exact ⟨by decide, by decide⟩; exact byt0
theorem mx_one (n i j : Nat) (hi : i < n) (hj : j < n) : mx n (Mat.oneTo n n) i j = idM i j := by
  unfold mx idM
  rw [Mat.oneTo_get n n (Nat.le_refl _) i j hi hj]
  by_cases e : i = j
  · rw [if_pos ⟨e, hi⟩, if_pos e]
  · rw [if_neg (fun h => e h.1), if_neg e]
theorem inv_ex {a : Int} (ha : Byt a) (h : a ≠ 0) : ∃ r, Byt r ∧ gmI a r = 1 := by
  obtain ⟨x, hx, rfl⟩ := byt_nat ha
  exact ⟨((ginv x : Nat) : Int), by have := ginv_lt x hx; exact ⟨by omega, by omega⟩, by simp only [gmI, Int.toNat_natCast]; rw [gm_inv x hx (by omega)]; rfl⟩
theorem least_of (P : Nat → Prop) : ∀ m, (∃ k, k < m ∧ P k) → ∃ k, k < m ∧ P k ∧ ∀ j, j < k → ¬ P j
  | 0, ⟨k, hk, _⟩ => by omega
  | m + 1, ⟨k, hk, h⟩ => by
    by_cases hm : ∃ k, k < m ∧ P k
    · obtain ⟨k, hk, h, hl⟩ := least_of P m hm
      exact ⟨k, by omega, h, hl⟩
    · have : k = m := by
        rcases Nat.lt_or_ge k m with h' | h'
        · exact absurd ⟨k, h', h⟩ hm
        · omega
      subst this
      exact ⟨k, by omega, h, fun j hj hp => hm ⟨j, hj, hp⟩⟩
/-- Steps always comes to something. -/
theorem StepsTo.ex (n : Nat) {M0 : Mtx} (h0 : BytM M0) : ∀ col, ∃ t M, StepsTo n M0 col t M
  | 0 => ⟨0, M0, .start⟩
  | col + 1 => by
    obtain ⟨t, M, h⟩ := StepsTo.ex n h0 col
    by_cases hx : ∃ k, k < n ∧ (t ≤ k ∧ M k col ≠ 0)
    · obtain ⟨k, hk, ⟨h1, h2⟩, hl⟩ := least_of _ _ hx
      obtain ⟨r, hr, hr1⟩ := inv_ex (h.byt h0 k col) h2
      exact ⟨t + 1, _, .step h h1 hk (fun j h3 h4 => by
        rcases Int.decEq (M j col) 0 with e | e
        · exact absurd ⟨h3, e⟩ (hl j h4)
        · exact e) h2 hr hr1⟩
    · exact ⟨t, M, .skip h (fun j h3 h4 => by
        rcases Int.decEq (M j col) 0 with e | e
        · exact absurd ⟨j, h4, h3, e⟩ hx
        · exact e)⟩
theorem mat_mx (n m : Nat) (C : Mtx) : mat n m (mx m (Mat.flat (mat n m C))) = mat n m C := mat_congr n m _ _ (fun i hi j hj => flat_mx n m C i j hi hj)
/-- A matrix of bytes that solves. -/
def Solved (n q : Nat) (A B Z : Mtx) : Prop := BytM Z ∧ ∀ i, i < n → ∀ l, l < q → dotF n (el A i) (fun j => G.of (Z j l)) = G.of (B i l)
/-- A pointer to a matrix that solves. -/
def SolvesE (n q : Nat) (A B : Mtx) (w : World) (e : Ending) (w' : World) : Prop :=
  ∃ b s cap Z, e = .returned (.tuple #[.pointer (some ⟨b, 0, none⟩), .int .i64 0]) ∧ Mat.MatIn w' b s n q cap (Mat.flat (mat n q Z)) ∧ Solved n q A B Z ∧ Below w.heap.size w w'
section
variable (b s cap b1 s1 cap1 n q t0 : Nat) (A B C0 : Mtx) (w : World)
theorem post_wholeE {e : Ending} {w' : World} {B2 : Mtx} (hA : BytM A) (hM : Mat.Bytes (Mat.flat (mat n n A))) (hB2 : BytM B2) (hst : StepsTo n A n t0 C0) (ht : t0 = n) (h : SolvePost n q (augM n (mx n (Mat.flat (mat n n A))) B2) w e w')
    (he : ∀ i, i < n → ∀ l, l < q → B2 i l = B i l) : SolvesE n q A B w e w' := by
  obtain ⟨hb, t, C, hs, hd⟩ := h
  have hx := augM_byt (m := n) (mx_byt (c := n) hM) hB2
  have hsame := (StepsTo.same (m := n) hx hA (fun i hi j hj => by unfold augM; rw [if_pos hj, flat_mx n n A i j hi hj]) hs hst (Nat.le_refl n)).1
  rcases hd with ⟨h1, _⟩ | ⟨h1, b', s', cap', rfl, hm⟩
  · omega
  · subst h1
    refine ⟨b', s', cap', _, rfl, hm, ⟨fun i j => hs.byt hx i (t + j), fun i hi l hl => ?_⟩, hb⟩
    rw [← he i hi l hl, ← hs.eqs (q := q) (mx_byt (c := t) hM) hB2 i hi l hl]
    unfold dotF
    exact sum_congr (fun j hj => by unfold el; rw [flat_mx t t A i j hi hj])
theorem post_sing {e : Ending} {w' : World} {B2 : Mtx} (hA : BytM A) (hM : Mat.Bytes (Mat.flat (mat n n A))) (hB2 : BytM B2) (hst : StepsTo n A n t0 C0) (ht : t0 < n) (h : SolvePost n q (augM n (mx n (Mat.flat (mat n n A))) B2) w e w') :
    e = .returned (.tuple #[.pointer none, .int .i64 23]) ∧ Below w.heap.size w w' := by
  obtain ⟨hb, t, C, hs, hd⟩ := h
  have hx := augM_byt (m := n) (mx_byt (c := n) hM) hB2
  have hsame := (StepsTo.same (m := n) hx hA (fun i hi j hj => by unfold augM; rw [if_pos hj, flat_mx n n A i j hi hj]) hs hst (Nat.le_refl n)).1
  rcases hd with ⟨h1, he⟩ | ⟨h1, _⟩
  · exact ⟨he, hb⟩
  · omega
theorem solve_wholeE (h : Mat.MatIn w b s n n cap (Mat.flat (mat n n A))) (h' : Mat.MatIn w b1 s1 n q cap1 (Mat.flat (mat n q B))) (hA : BytM A) (hst : StepsTo n A n t0 C0) (ht : t0 = n) :
    Calls Try.prog 52 #[.pointer (some ⟨b, 0, none⟩), .pointer (some ⟨b1, 0, none⟩)] w (SolvesE n q A B w) :=
  (solve_good b s cap b1 s1 cap1 n q _ _ w h h').mono fun e w' hp => post_wholeE n q t0 A B C0 w hA h.byt (mx_byt h'.byt) hst ht hp (fun i hi l hl => flat_mx n q B i l hi hl)
theorem solve_sing (h : Mat.MatIn w b s n n cap (Mat.flat (mat n n A))) (h' : Mat.MatIn w b1 s1 n q cap1 (Mat.flat (mat n q B))) (hA : BytM A) (hst : StepsTo n A n t0 C0) (ht : t0 < n) :
    Calls Try.prog 52 #[.pointer (some ⟨b, 0, none⟩), .pointer (some ⟨b1, 0, none⟩)] w fun e w' => e = .returned (.tuple #[.pointer none, .int .i64 23]) ∧ Below w.heap.size w w' :=
  (solve_good b s cap b1 s1 cap1 n q _ _ w h h').mono fun e w' hp => post_sing n q t0 A C0 w hA h.byt (mx_byt h'.byt) hst ht hp
theorem oneTo_bytes (n : Nat) : Mat.Bytes (Mat.oneTo n n) := by
  have h : ∀ k, Mat.Bytes (Mat.oneTo n k) := by
    intro k
    induction k with
    | zero => exact Mat.Bytes.zeros _
    | succ k ih => exact ih.set _ 1 (by decide) (by decide)
  exact h n
theorem invert_wholeE (h : Mat.MatIn w b s n n cap (Mat.flat (mat n n A))) (hA : BytM A) (hst : StepsTo n A n t0 C0) (ht : t0 = n) :
    Calls Try.prog 34 #[.pointer (some ⟨b, 0, none⟩)] w (SolvesE n n A idM w) :=
  (invert_good b s cap n _ w h).mono fun e w' hp => post_wholeE n n t0 A idM C0 w hA h.byt (mx_byt (oneTo_bytes n)) hst ht hp (fun i hi l hl => mx_one n i l hi hl)
theorem invert_sing (h : Mat.MatIn w b s n n cap (Mat.flat (mat n n A))) (hA : BytM A) (hst : StepsTo n A n t0 C0) (ht : t0 < n) :
    Calls Try.prog 34 #[.pointer (some ⟨b, 0, none⟩)] w fun e w' => e = .returned (.tuple #[.pointer none, .int .i64 23]) ∧ Below w.heap.size w w' :=
  (invert_good b s cap n _ w h).mono fun e w' hp => post_sing n n t0 A C0 w hA h.byt (mx_byt (oneTo_bytes n)) hst ht hp
end
end Go.Proofs.Ytcnfafappcbpnaa.Sol
/- Equations whose rows are the powers of unlike elements. No program. -/
namespace Go.Proofs.Ytcnfafappcbpnaa.Sol
open Go.Proofs.Ytcnfafappcbpnaa.Gf Go.Proofs.Ytcnfafappcbpnaa.Gi Go.Proofs.Ytcnfafappcbpnaa.Alg
set_option linter.unusedVariables false

def pw (x : G) : Nat → G
  | 0 => 1
  | n + 1 => pw x n * x
theorem pw_succ' (x : G) : ∀ n, pw x (n + 1) = x * pw x n
  | 0 => by show 1 * x = x * 1; rw [Alg.one_mul, Fd.mul_one]
  | n + 1 => by
    show pw x (n + 1) * x = x * (pw x n * x)
    rw [pw_succ' x n, Fd.mul_assoc]
theorem of_gp (x n : Nat) (hx : x < 256) : G.of ((gp x n : Nat) : Int) = pw (G.of (x : Int)) n := by
  induction n with
  | zero => exact G.of_one
  | succ n ih =>
    have h := of_gm (a := ((gp x n : Nat) : Int)) (b := (x : Int)) (by have := gp_lt x hx n; exact ⟨by omega, by omega⟩) ⟨by omega, by omega⟩
    show G.of _ = pw _ n * _
    rw [← ih, ← h]
    congr 1
theorem sum_shift (n : Nat) (f : Nat → G) : sum (n + 1) f = f 0 + sum n (fun i => f (i + 1)) := by
  induction n with
  | zero => show 0 + f 0 = f 0 + 0; rw [Alg.zero_add, Fd.add_zero]
  | succ n ih =>
    show sum (n + 1) f + f (n + 1) = f 0 + (sum n (fun i => f (i + 1)) + f (n + 1))
    rw [ih, Fd.add_assoc]
theorem sum_left (n : Nat) (a : G) (f : Nat → G) : sum n (fun i => a * f i) = a * sum n f := by
  rw [Fd.mul_comm a, ← sum_scale]; exact sum_congr (fun i _ => Fd.mul_comm _ _)
/-- A polynomial's value is the sum of its terms. -/
theorem hor_sum (x : G) : ∀ (n : Nat) (c : Nat → G), hor ((List.range n).map c) x = sum n (fun j => pw x j * c j)
  | 0, _ => rfl
  | n + 1, c => by
    rw [List.range_succ_eq_map, List.map_cons, List.map_map, sum_shift]
    show c 0 + x * hor ((List.range n).map (c ∘ Nat.succ)) x = 1 * c 0 + _
    rw [hor_sum x n (c ∘ Nat.succ), Alg.one_mul, ← sum_left]
    congr 1
    refine sum_congr (fun j _ => ?_)
    show x * (pw x j * c (j + 1)) = pw x (j + 1) * c (j + 1)
    rw [pw_succ', Fd.mul_assoc]
/-- Of powers of unlike elements nothing but nought comes to nought. -/
theorem powers_inj (n : Nat) (x : Nat → G) (hx : ∀ i j, i < n → j < n → x i = x j → i = j) (M : Nat → Nat → G) (hM : ∀ i j, i < n → j < n → M i j = pw (x i) j)
    (c : Nat → G) (h : ∀ i, i < n → dotF n (M i) c = 0) : ∀ j, j < n → c j = 0 := by
  intro j hj
  refine noughts ((List.range n).map c) ((List.range n).map x) ?_ (by simp) (fun p hp => ?_) (c j) (List.mem_map.2 ⟨j, List.mem_range.2 hj, rfl⟩)
  · rw [List.nodup_iff_pairwise_ne, List.pairwise_map]
    exact List.Pairwise.imp_of_mem (fun {a b} ha hb hne e => hne (hx a b (List.mem_range.1 ha) (List.mem_range.1 hb) e)) (List.nodup_range)
  · obtain ⟨i, hi, rfl⟩ := List.mem_map.1 hp
    have hi' := List.mem_range.1 hi
    rw [hor_sum, ← h i hi']
    unfold dotF
    exact sum_congr (fun k hk => by rw [hM i k hi' hk])
/-- The document's way: what Steps makes of the points' powers and values, its last column, is the one polynomial through them. -/
theorem StepsTo.through {n : Nat} {M0 : Mtx} (h0 : BytM M0) (x : Nat → G) (hx : ∀ i j, i < n → j < n → x i = x j → i = j) (hM : ∀ i j, i < n → j < n → el M0 i j = pw (x i) j)
    {t : Nat} {M : Mtx} (h : StepsTo n M0 (n + 1) t M) (p : Nat → G) (hp : ∀ i, i < n → hor ((List.range n).map p) (x i) = el M0 i n) : ∀ i, i < n → el M i n = p i := by
  refine h.solves h0 (powers_inj n x hx (el M0) hM) p (fun i hi => ?_)
  rw [← hp i hi, hor_sum]
  unfold dotF
  exact sum_congr (fun k hk => by rw [hM i k hi hk])
end Go.Proofs.Ytcnfafappcbpnaa.Sol
/- The printed product of two elements is the plain one. -/
namespace Go.Proofs.Ytcnfafappcbpnaa.BHealFragments
open Go Go.RowKit Go.Proofs.Ytcnfafappcbpnaa.PHealFragments Go.Proofs.Ytcnfafappcbpnaa.Gf Go.Proofs.Ytcnfafappcbpnaa.Bits Go.Proofs.YtcnfafappcbpnaaW.PrintWords Go.Proofs.YtcnfafappcbpnaaW.PrintLast

theorem xt_is (x : Nat) (h : x < 256) : (if 255 < x * 2 then x * 2 ^^^ 285 else x * 2) = xt x := by
  have e : ∀ x, x < 256 → (if 255 < x * 2 then x * 2 ^^^ 285 else x * 2) = xt x := by decide +kernel
  exact e x h

theorem gf_mul_loop (n : Nat) : ∀ (k b p x : Nat), b < 2 ^ n → p < 256 → x < 256 → n < k → n ≤ 8 → gf_Mul.l0 k b p x = some ((gmA n b p x : Nat) : Int) := by
  induction n with
  | zero =>
    intro k b p x hb hp hx hk hn
    obtain ⟨k, rfl⟩ : ∃ m, k = m + 1 := ⟨k - 1, by omega⟩
    simp only [gf_Mul.l0, gmA]
    rw [if_neg (by simp at hb; omega)]
    congr 1; omega
  | succ n ih =>
    intro k b p x hb hp hx hk hn
    obtain ⟨k, rfl⟩ : ∃ m, k = m + 1 := ⟨k - 1, by omega⟩
    have hb8 : b < 256 := Nat.lt_of_lt_of_le hb (Nat.pow_le_pow_right (by decide) hn)
    by_cases h0 : b = 0
    · subst h0
      simp only [gf_Mul.l0]
      rw [if_neg (by omega), gmA_zero]
      congr 1; omega
    have hx2 : wrap64 ((x : Int) * 2) = ((x * 2 : Nat) : Int) := by rw [wrap64_in _ (by omega) (by omega)]; omega
    have hb2 : (b : Int) / 2 = ((b / 2 : Nat) : Int) := by omega
    have hlt : b / 2 < 2 ^ n := by rw [Nat.pow_succ] at hb; omega
    have e1 : bits .xor .i64 (p : Int) (x : Int) = ((p ^^^ x : Nat) : Int) := xor_i64 p x (by omega) (by omega)
    have e2 : bits .xor .i64 ((x * 2 : Nat) : Int) 285 = ((x * 2 ^^^ 285 : Nat) : Int) := xor_i64 (x * 2) 285 (by omega) (by omega)
    have hpx : p ^^^ x < 256 := by
      have : p ^^^ x < 2 ^ 8 := Nat.xor_lt_two_pow (by omega) (by omega)
      simpa using this
    simp only [gf_Mul.l0, gmA]
    rw [if_pos (by omega), and1_u8 b hb8, hx2, hb2, e1, e2]
    have hxt := xt_is x hx
    have hxl := xt_lt x
    rcases bit01 b with h | h
    · rw [if_neg (by omega), h, Nat.zero_mul, Nat.xor_zero]
      by_cases hc : 255 < x * 2
      · rw [if_pos (by omega)]
        rw [if_pos hc] at hxt
        rw [hxt, ih k _ _ _ hlt hp hxl (by omega) (by omega)]
      · rw [if_neg (by omega)]
        rw [if_neg hc] at hxt
        rw [hxt, ih k _ _ _ hlt hp hxl (by omega) (by omega)]
    · rw [if_pos (by omega), h, Nat.one_mul]
      by_cases hc : 255 < x * 2
      · rw [if_pos (by omega)]
        rw [if_pos hc] at hxt
        rw [hxt, ih k _ _ _ hlt hpx hxl (by omega) (by omega)]
      · rw [if_neg (by omega)]
        rw [if_neg hc] at hxt
        rw [hxt, ih k _ _ _ hlt hpx hxl (by omega) (by omega)]

theorem gf_mul (k a b : Nat) (ha : a < 256) (hb : b < 256) (hk : 9 ≤ k) : gf_Mul.f k a b = some ((gm a b : Nat) : Int) := by
  unfold gf_Mul.f gm
  rw [wrap64_nat a (by omega)]
  exact gf_mul_loop 8 k b 0 a (by omega) (by omega) ha (by omega) (by omega)
end Go.Proofs.Ytcnfafappcbpnaa.BHealFragments
/- The printed powers are the plain ones. -/
namespace Go.Proofs.Ytcnfafappcbpnaa.BHealFragments
open Go Go.RowKit Go.Proofs.Ytcnfafappcbpnaa.PHealFragments Go.Proofs.Ytcnfafappcbpnaa.Gf Go.Proofs.Ytcnfafappcbpnaa.Bits Go.Proofs.YtcnfafappcbpnaaW.PrintWords Go.Proofs.YtcnfafappcbpnaaW.PrintLast

theorem gf_pow_loop (m : Nat) : ∀ (k a n p : Nat), a < 256 → p < 256 → n < 2 ^ m → n < 9223372036854775808 → 10 + m ≤ k →
    gf_Pow.l0 k a n p = some ((gm p (gp a n) : Nat) : Int) := by
  induction m with
  | zero =>
    intro k a n p ha hp hn hn2 hk
    obtain ⟨k, rfl⟩ : ∃ m, k = m + 1 := ⟨k - 1, by omega⟩
    have h0 : n = 0 := by simp at hn; exact hn
    subst h0
    simp only [gf_Pow.l0, gp]
    rw [if_neg (by omega), gm_one]
  | succ m ih =>
    intro k a n p ha hp hn hn2 hk
    obtain ⟨k, rfl⟩ : ∃ m, k = m + 1 := ⟨k - 1, by omega⟩
    simp only [gf_Pow.l0]
    by_cases h0 : n = 0
    · subst h0
      rw [if_neg (by omega), gp, gm_one]
    have hh : n / 2 < 2 ^ m := by rw [Nat.pow_succ] at hn; omega
    have hsq := gm_lt a a ha
    rw [if_pos (by omega), and1_i64 n hn2, show (n : Int) / 2 = ((n / 2 : Nat) : Int) by omega]
    rcases bit01 n with h | h
    · rw [if_neg (by omega), gf_mul k a a ha ha (by omega)]
      simp only [bnd]
      rw [ih k _ _ p hsq hp hh (by omega) (by omega), gp_sq a ha, show 2 * (n / 2) = n by omega]
    · rw [if_pos (by omega), gf_mul k p a hp ha (by omega)]
      simp only [bnd]
      rw [gf_mul k a a ha ha (by omega)]
      simp only [bnd]
      rw [ih k _ _ _ hsq (gm_lt p a hp) hh (by omega) (by omega), gp_sq a ha, gm_assoc _ _ _ hp ha (gp_lt a ha _), gm_comm a _ ha (gp_lt a ha _), gp_succ,
        show 2 * (n / 2) + 1 = n by omega]

theorem gf_pow (k a n : Nat) (ha : a < 256) (hn : n < 9223372036854775808) (hk : 80 ≤ k) : gf_Pow.f k a n = some ((gp a n : Nat) : Int) := by
  have h := gf_pow_loop 63 k a n 1 ha (by decide) hn hn (by omega)
  rw [gm_one_left _ (gp_lt a ha n)] at h
  exact h
theorem gf_pow_neg (k a : Nat) (n : Int) (hn : n ≤ 0) (hk : 1 ≤ k) : gf_Pow.f k a n = some 1 := by
  obtain ⟨k, rfl⟩ : ∃ m, k = m + 1 := ⟨k - 1, by omega⟩
  simp only [gf_Pow.f, gf_Pow.l0]
  rw [if_neg (by omega)]
end Go.Proofs.Ytcnfafappcbpnaa.BHealFragments
/- The first elements whose powers are unlike. -/
namespace Go.Proofs.Ytcnfafappcbpnaa.VPts
open Go Go.Proofs.Ytcnfafappcbpnaa.Gf

/-- Was y one of the first k? -/
def hit (f : Nat → Nat) : Nat → Nat → Bool
  | 0, _ => false
  | k + 1, y => hit f k y || f k == y
def firsts (f : Nat → Nat) : Nat → List Int
  | 0 => []
  | k + 1 => if hit f k (f k) then firsts f k else firsts f k ++ [(k : Int)]
def pws (f : Nat → Nat) : Nat → List Int
  | 0 => []
  | k + 1 => if hit f k (f k) then pws f k else pws f k ++ [(f k : Int)]
theorem pws_succ (f : Nat → Nat) (k : Nat) : pws f (k + 1) = if hit f k (f k) then pws f k else pws f k ++ [(f k : Int)] := rfl
theorem firsts_succ (f : Nat → Nat) (k : Nat) : firsts f (k + 1) = if hit f k (f k) then firsts f k else firsts f k ++ [(k : Int)] := rfl
theorem hit_succ (f : Nat → Nat) (k y : Nat) : hit f (k + 1) y = (hit f k y || f k == y) := rfl
theorem mem_pws (f : Nat → Nat) (k y : Nat) : ((y : Int) ∈ pws f k) ↔ hit f k y = true := by
  induction k with
  | zero => simp [pws, hit]
  | succ k ih =>
    rw [pws_succ, hit_succ]
    by_cases h : hit f k (f k) = true
    · rw [if_pos h, ih]
      constructor
      · intro h2; simp [h2]
      · intro h2
        rcases (Bool.or_eq_true _ _).mp h2 with h3 | h3
        · exact h3
        · rw [beq_iff_eq] at h3; rw [← h3]; exact h
    · rw [if_neg h, List.mem_append, ih]
      simp
      constructor
      · rintro (h2 | h2)
        · exact .inl h2
        · exact .inr (by omega)
      · rintro (h2 | h2)
        · exact .inl h2
        · exact .inr (by omega)
theorem len_same (f : Nat → Nat) (k : Nat) : (pws f k).length = (firsts f k).length := by
  induction k with
  | zero => rfl
  | succ k ih => rw [pws_succ, firsts_succ]; by_cases h : hit f k (f k) = true <;> simp [h, ih]
theorem len_le (f : Nat → Nat) (k : Nat) : (firsts f k).length ≤ k := by
  induction k with
  | zero => simp [firsts]
  | succ k ih => rw [firsts_succ]; by_cases h : hit f k (f k) = true <;> simp [h] <;> omega
theorem pws_nodup (f : Nat → Nat) (k : Nat) : (pws f k).Nodup := by
  induction k with
  | zero => simp [pws]
  | succ k ih =>
    rw [pws_succ]
    by_cases h : hit f k (f k) = true
    · rw [if_pos h]; exact ih
    · rw [if_neg h, List.nodup_append]
      refine ⟨ih, by simp, ?_⟩
      intro a ha b hb
      simp at hb
      subst hb
      intro e
      subst e
      exact h ((mem_pws f k _).mp ha)
theorem pre (f : Nat → Nat) (k d : Nat) : firsts f k <+: firsts f (k + d) := by
  induction d with
  | zero => exact List.prefix_refl _
  | succ d ih =>
    rw [← Nat.add_assoc]
    rw [firsts_succ]
    by_cases h : hit f (k + d) (f (k + d)) = true
    · rw [if_pos h]; exact ih
    · rw [if_neg h]; exact ih.trans (List.prefix_append _ _)
/-- Where it stops: at 256, or as soon as there are n. -/
def Stop (f : Nat → Nat) (n k : Nat) : Prop := k ≤ 256 ∧ (firsts f k).length ≤ n ∧ (k = 256 ∨ (firsts f k).length = n)
theorem stop_one (f : Nat → Nat) (n k k' : Nat) (h : Stop f n k) (h' : Stop f n k') : firsts f k = firsts f k' := by
  have key : ∀ a b, Stop f n a → Stop f n b → a ≤ b → firsts f a = firsts f b := by
    intro a b ha hb hab
    obtain ⟨d, rfl⟩ : ∃ d, b = a + d := ⟨b - a, by omega⟩
    rcases ha.2.2 with h1 | h1
    · have : d = 0 := by have := hb.1; omega
      subst this; rfl
    · have hp := pre f a d
      exact hp.eq_of_length_le (by rw [h1]; exact hb.2.1)
  rcases Nat.le_total k k' with h1 | h1
  · exact key _ _ h h' h1
  · exact (key _ _ h' h h1).symm
theorem firsts_bytes (f : Nat → Nat) (k : Nat) (hk : k ≤ 256) : ∀ x ∈ firsts f k, 0 ≤ x ∧ x < 256 := by
  induction k with
  | zero => intro x hx; cases hx
  | succ k ih =>
    intro x hx
    rw [firsts_succ] at hx
    by_cases h : hit f k (f k) = true
    · rw [if_pos h] at hx; exact ih (by omega) x hx
    · rw [if_neg h, List.mem_append] at hx
      rcases hx with hx | hx
      · exact ih (by omega) x hx
      · simp at hx; omega
theorem gp_zero (n : Nat) (h : 0 < n) : gp 0 n = 0 := by
  obtain ⟨m, rfl⟩ : ∃ m, n = m + 1 := ⟨n - 1, by omega⟩
  show gm (gp 0 m) 0 = 0
  exact gm_zero_right _
theorem gp_255n (a n : Nat) (ha : a < 256) (h0 : a ≠ 0) (hn : 0 < n) : gp a (n % 255) = gp a n := by
  rw [gp_mod a ha n hn]
  rcases Nat.eq_zero_or_pos (n % 255) with h | h
  · rw [h, show (n - 1) % 255 + 1 = 255 by omega, gp_255 a ha h0]; rfl
  · congr 1; omega
end Go.Proofs.Ytcnfafappcbpnaa.VPts
/- vand.Points, walked by hand. -/
namespace Go.Proofs.Ytcnfafappcbpnaa.VPts
open Go Go.RowKit Go.Proofs.Ytcnfafappcbpnaa.PHealFragments Go.Proofs.Ytcnfafappcbpnaa.BHealFragments Go.Proofs.Ytcnfafappcbpnaa.Gf Go.Proofs.Ytcnfafappcbpnaa.Bits Go.Proofs.Ytcnfafappcbpnaa.Mem Go.Proofs.YtcnfafappcbpnaaW.PrintWords Go.Proofs.YtcnfafappcbpnaaW.PrintLast
set_option linter.unusedVariables false

def Z256 : Array Value := Array.replicate 256 (.bool false)
theorem zero_256 (w : World) : (zeroValue 72).run Try.prog w = .ok (.agg Z256) w := by kernel_rfl
theorem info_byte : (Try.prog.info? 5).map (fun i => (i.zero, i.size, i.bytes)) = some (some (.int .u8 0), 1, 1) := by kernel_rfl
/-- The cells tell what was hit behind k rounds. -/
def Seen (f : Nat → Nat) (k : Nat) (cs : Array Value) : Prop := cs.size = 256 ∧ ∀ y, y < 256 → cs[y]? = some (.bool (hit f k y))
theorem seen0 (f : Nat → Nat) : Seen f 0 Z256 := by
  refine ⟨by simp [Z256], fun y hy => ?_⟩
  simp [Z256, hit, hy]
theorem seen_same (f : Nat → Nat) (k : Nat) (cs : Array Value) (h : Seen f k cs) (hh : hit f k (f k) = true) : Seen f (k + 1) cs := by
  refine ⟨h.1, fun y hy => ?_⟩
  rw [h.2 y hy, hit_succ]
  by_cases e : f k = y
  · subst e; simp [hh]
  · simp [e]
theorem seen_more (f : Nat → Nat) (k : Nat) (cs : Array Value) (h : Seen f k cs) (hf : f k < 256) : Seen f (k + 1) (cs.setIfInBounds (f k) (.bool true)) := by
  refine ⟨by simp [h.1], fun y hy => ?_⟩
  rw [hit_succ, Array.getElem?_setIfInBounds]
  by_cases e : f k = y
  · subst e; simp [h.1, hf]
  · rw [if_neg e, h.2 y hy]; simp [e]

theorem byte_append {P : Program} {ops : Array Oper} {rest : List Oper} {o : Oper} {a : Act} {Q : Exit → Act → World → Prop} {w0 W : World} (hP : P = Try.prog) (base : Nat) (hgd : o.guard = none) (s x : Operand)
    (ho : o.op = .call { callee := .builtin .append, args := #[s, x], argTypes := #[22, 22] }) (v : Value) (xs : List Int) (y : Int) (ok : Nat → Prop)
    (hs : a.eval s = v) (hx : a.eval x = .slice (some ⟨W.heap.size, 0, none⟩) 1 1) (HR : Kd.R (Kd.int .u8) 5 W base ok v xs) (hok : ∀ k, W.heap.size ≤ k → ok k) (HB : Below base w0 W) (hbase : base ≤ W.heap.size) (hl : xs.length ≤ 1000000)
    (h : ∀ v1 w1, Kd.R (Kd.int .u8) 5 w1 base ok v1 (xs ++ [y]) → Below base w0 w1 → W.grownBy w1 v.ownBlock → wpList P ops Q rest (a.put o.dst v1) w1) :
    wpList P ops Q (o :: rest) a (W.alloc (.cells #[.int .u8 y] 5)) := by
  subst hP
  exact Kd.R_append (Kd.int .u8) (w0 := w0) base hgd s x 22 5 (.int .u8 0) 1 ho Try.underlying22 info_byte rfl (by decide) (by decide) v xs y [.int .u8 y] ok (fun _ => False) hs hx rfl (fun _ hk => hk.elim) hok HR HB hbase (by omega) (fun v1 w1 h1 h2 h3 _ => h v1 w1 h1 h2 h3)

set_option maxRecDepth 100000 in
theorem points_bad (n e : Int) (w : World) (h : n < 1 ∨ e < 1) :
    Calls Try.prog 21 #[.int .i64 n, .int .i64 e] w fun e' w' => e' = .returned (.tuple #[.slice none 0 0, .int .i64 1]) ∧ Below w.heap.size w w' := by
  have hz := zero_256
  by_cases h1 : n < 1
  · have t1 : decide (n < 1) = true := by simp; omega
    clear h h1
    go_enter Try.func21, Try.ntmps21
    go_wp2
    repeat (go_quiet (fail); try go_wp2)
    go_ret2
    exact ⟨rfl, (by repeat (first | exact Below.refl _ _ | apply pw_below_drewN | refine Below.alloc ?_ (Nat.le_refl _) _))⟩
  · have t1 : decide (n < 1) = false := by simp; omega
    have t2 : decide (e < 1) = true := by simp; omega
    clear h h1
    go_enter Try.func21, Try.ntmps21
    go_wp2
    repeat (go_quiet (fail); try go_wp2)
    go_ret2
    exact ⟨rfl, (by repeat (first | exact Below.refl _ _ | apply pw_below_drewN | refine Below.alloc ?_ (Nat.le_refl _) _))⟩

set_option maxRecDepth 100000 in
theorem points_good (n e : Nat) (w : World) (h1 : 1 ≤ n) (h2 : 1 ≤ e) (he : e < 9223372036854775808) :
    Calls Try.prog 21 #[.int .i64 n, .int .i64 e] w fun e' w' => ∃ v q, Stop (fun x => gp x e) n q ∧
      e' = .returned (.tuple #[v, .int .i64 (if (firsts (fun x => gp x e) q).length < n then 1 else 0)]) ∧ Kd.R (Kd.int .u8) 5 w' w.heap.size (fun _ => True) v (if (firsts (fun x => gp x e) q).length < n then [] else firsts (fun x => gp x e) q) ∧ Below w.heap.size w w' := by
  have hz := zero_256
  have t1 : decide ((n : Int) < 1) = false := by simp; omega
  have t2 : decide ((e : Int) < 1) = false := by simp; omega
  obtain ⟨f, hf⟩ : ∃ f : Nat → Nat, f = fun x => gp x e := ⟨_, rfl⟩
  rw [← hf]
  have HF := Lib.hid hf
  clear hf
  go_enter Try.func21, Try.ntmps21
  go_upto_region 6 with (fail)
  repeat (go_quiet (fail); try go_upto_region 6 with (fail))
  clear hz t1 t2
  have HB0 := Lib.hid (show Below w.heap.size w (w.alloc (.cells Z256 72)) from (Below.refl _ _).alloc (Nat.le_refl _) _)
  have HG0 := Lib.hid (show ∃ cs, Blk (w.alloc (.cells Z256 72)) w.heap.size 72 cs ∧ Seen f 0 cs from ⟨Z256, Blk.new _ _ _, seen0 f⟩)
  have HR0 := Lib.hid (Kd.R_nil (Kd.int .u8) 5 (w.alloc (.cells Z256 72)) w.heap.size (fun b => b ≠ w.heap.size))
  go_loopw [7, 8] (fun v7 v8 wr => ∃ (k : Nat), k ≤ 256 ∧ (firsts f k).length ≤ n ∧ v8 = .int .i64 (k : Nat) ∧ Hid (Kd.R (Kd.int .u8) 5 wr w.heap.size (fun b => b ≠ w.heap.size) v7 (firsts f k)) ∧ Hid (∃ cs, Blk wr w.heap.size 72 cs ∧ Seen f k cs) ∧ Hid (Below w.heap.size w wr)) (fun _ v8 _ => 256 - (intOf v8).toNat)
  case atStart => exact ⟨0, by omega, by simp [firsts], rfl, HR0, HG0, HB0⟩
  case round =>
    obtain ⟨k, hk, hle, rfl, HR, HG, HB⟩ := hrel
    clear HB0 HG0 HR0
    obtain ⟨A7, c7, rfl⟩ := Kd.R_slice HR.out
    obtain ⟨ln, hln⟩ : ∃ ln, ln = (firsts f k).length := ⟨_, rfl⟩
    rw [← hln] at hle ⊢
    have HLN := Lib.hid hln
    by_cases hlt : k < 256 ∧ ln < n
    · obtain ⟨g1, g2⟩ := hlt
      have t1 : decide ((k : Int) < 256) = true := by simp; omega
      have t2 : decide ((ln : Int) < (n : Int)) = true := by simp; omega
      have e8 : (k : Int) % 256 = (k : Int) := by omega
      have e9 : IntKind.u8.wrap (k : Int) = (k : Int) := by rw [IntKind.wrap_u8]; omega
      have hp := gp_lt k g1 e
      have HP := Lib.hid (gf_pow 200 k e g1 he (by omega))
      rw [show gp k e = f k by rw [HF.out]] at hp HP
      obtain ⟨p, hpp⟩ : ∃ p, p = f k := ⟨_, rfl⟩
      rw [← hpp] at hp HP
      obtain ⟨cs, hb, hs⟩ := HG.out
      have hc := (hb.cell p).trans (hs.2 p hp)
      have HPP := Lib.hid hpp
      have HBL := Lib.hid hb
      have HSN := Lib.hid hs
      have p0 : (0 : Int) ≤ (p : Int) := by omega
      have p1 : (p : Int) < 256 := by omega
      have p2 : ((p : Int)).toNat = p := by omega
      clear hln hpp hb hs HG
      by_cases hh : hit f k p = true
      · rw [hh] at hc
        go_wp2_with ((go_at_call 43; (with_reducible refine (gf_Pow.calls 200 _ _ _ _ HP.out).mono ?_); rintro e w' ⟨rfl, ⟨nd, rfl⟩⟩))
        have ef : firsts f (k + 1) = firsts f k := by rw [firsts_succ, if_pos (by rw [← HPP.out]; exact hh)]
        go_roundw
        case rel => exact ⟨k + 1, by omega, by rw [ef, ← HLN.out]; exact hle, by go_num, by rw [ef, HLN.out]; exact Lib.hid (Kd.R_drewN HR.out _), Lib.hid ⟨cs, HBL.out.drewN _, seen_same f k cs HSN.out (by rw [← HPP.out]; exact hh)⟩, Lib.hid (pw_below_drewN HB.out _)⟩
        case measure => simp [intOf]; omega
      · rw [Bool.eq_false_iff.mpr hh] at hc
        have ef : firsts f (k + 1) = firsts f k ++ [(k : Int)] := by rw [firsts_succ, if_neg (by rw [← HPP.out]; exact hh)]
        have hfz := HBL.out.frozen p
        have HEF := Lib.hid ef
        clear ef
        have hrlt := Kd.R_away HR.out (g := w.heap.size) (fun b hb => hb)
        have HAW := Lib.hid hrlt
        have HRS := Lib.hid (fun m => Kd.R_far (Kd.R_drewN HR.out m) (p := ⟨w.heap.size, p, none⟩) (fun b hb => hb) (.bool true))
        have HBS := Lib.hid (fun m => (pw_below_drewN HB.out m).setCell (p := ⟨w.heap.size, p, none⟩) (Nat.le_refl _) (.bool true))
        have HGS := Lib.hid (fun m => (HBL.out.drewN m).set_ p (.bool true))
        have HSZ := Lib.hid HB.out.size
        have HOK := Lib.hid (show ∀ m b, ((wr.drewN m).setCell ⟨w.heap.size, p, none⟩ (.bool true)).heap.size ≤ b → b ≠ w.heap.size from fun m b hb => by
          have h3 : wr.heap.size ≤ b := by simpa using hb
          have := HBL.out.lt
          omega)
        clear hrlt
        go_wp2_with (first
          | (go_at_call 43; (with_reducible refine (gf_Pow.calls 200 _ _ _ _ HP.out).mono ?_); rintro e w' ⟨rfl, ⟨nd, rfl⟩⟩)
          | (at_builtin; refine byte_append (w0 := w) rfl w.heap.size rfl _ _ rfl _ (firsts f k) (k : Int) (fun b => b ≠ w.heap.size) rfl ?hx ?hR ?hok ?hB ?hba ?hl ?_; (case hx => first | rfl | (go_simp; done) | simp [go_sem]); (case hR => rw [HLN.out]; exact HRS.out _); (case hok => exact HOK.out _); (case hB => exact HBS.out _); (case hba => simpa using HSZ.out); (case hl => have := len_le f k; omega); intro v1 w1 h1 h2 h3; have HR1 := Lib.hid h1; have HB1 := Lib.hid h2; have HG1 := Lib.hid ((HGS.out _).grown h3 (by first | exact HAW.out | (rw [HLN.out]; exact HAW.out) | (rw [HLN.out] at *; exact HAW.out))); clear h1 h2 h3))
        go_roundw
        case rel => exact ⟨k + 1, by omega, by rw [HEF.out]; simp; rw [← HLN.out]; omega, by go_num, by rw [HEF.out]; exact HR1, Lib.hid ⟨_, HG1.out, by rw [HPP.out]; exact seen_more f k cs HSN.out (by rw [← HPP.out]; exact hp)⟩, HB1⟩
        case measure => simp [intOf]; omega
    · by_cases g1 : k < 256
      · have t1 : decide ((k : Int) < 256) = true := by simp; omega
        have t2 : decide ((ln : Int) < (n : Int)) = false := by simp; omega
        have hst : Stop f n k := ⟨hk, by rw [← HLN.out]; exact hle, .inr (by rw [← HLN.out]; omega)⟩
        have HST := Lib.hid hst
        have g3 : ¬ ln < n := by omega
        clear hst hlt
        go_wp2
        refine bodyPost_ret (v := .tuple #[.slice A7 ln c7, .int .i64 0]) (by simp [results, Try.results21, go_sem]) rfl ⟨.slice A7 ln c7, k, HST.out, ?_, ?_, ?_⟩
        · rw [← HLN.out, if_neg (by simpa using t2)]
        · rw [← HLN.out, if_neg (by simpa using t2), HLN.out]; exact Kd.R_mono HR.out (fun _ _ => trivial)
        · exact HB.out
      · have t1 : decide ((k : Int) < 256) = false := by simp; omega
        obtain rfl : k = 256 := by omega
        by_cases g2 : ln < n
        · have t2 : decide ((ln : Int) < (n : Int)) = true := by simp; omega
          have HST := Lib.hid (show Stop f n 256 from ⟨hk, by rw [← HLN.out]; exact hle, .inl rfl⟩)
          clear hlt g1
          go_wp2
          refine bodyPost_ret (v := .tuple #[.slice none 0 0, .int .i64 1]) (by simp [results, Try.results21, go_sem]) rfl ⟨.slice none 0 0, 256, HST.out, ?_, ?_, ?_⟩
          · rw [← HLN.out, if_pos g2]
          · rw [← HLN.out, if_pos g2]; exact Kd.R_nil _ _ _ _ _
          · exact HB.out
        · have t2 : decide ((ln : Int) < (n : Int)) = false := by simp; omega
          have HST := Lib.hid (show Stop f n 256 from ⟨hk, by rw [← HLN.out]; exact hle, .inl rfl⟩)
          have g3 : ¬ ln < n := by omega
          clear hlt g1
          go_wp2
          refine bodyPost_ret (v := .tuple #[.slice A7 ln c7, .int .i64 0]) (by simp [results, Try.results21, go_sem]) rfl ⟨.slice A7 ln c7, 256, HST.out, ?_, ?_, ?_⟩
          · rw [← HLN.out, if_neg g2]
          · rw [← HLN.out, if_neg g2, HLN.out]; exact Kd.R_mono HR.out (fun _ _ => trivial)
          · exact HB.out
end Go.Proofs.Ytcnfafappcbpnaa.VPts
/- Codes and plans: msr.New, K, Parts, Symbols. -/
namespace Go.Proofs.Ytcnfafappcbpnaa.Str
open Go Go.RowKit Go.Proofs.Ytcnfafappcbpnaa.PHealFragments Go.Proofs.Ytcnfafappcbpnaa.BHealFragments Go.Proofs.Ytcnfafappcbpnaa.Gf Go.Proofs.Ytcnfafappcbpnaa.Bits Go.Proofs.Ytcnfafappcbpnaa.Mem Go.Proofs.Ytcnfafappcbpnaa.VPts Go.Proofs.YtcnfafappcbpnaaW.PrintWords Go.Proofs.YtcnfafappcbpnaaW.PrintLast
set_option linter.unusedVariables false

theorem many1 : 24 ≤ (firsts (fun x => gp x 1) 40).length := by decide +kernel
theorem many2 : 24 ≤ (firsts (fun x => gp x 2) 40).length := by decide +kernel
theorem many3 : 24 ≤ (firsts (fun x => gp x 3) 40).length := by decide +kernel
theorem many4 : 24 ≤ (firsts (fun x => gp x 4) 40).length := by decide +kernel
theorem many5 : 24 ≤ (firsts (fun x => gp x 5) 40).length := by decide +kernel
theorem many6 : 24 ≤ (firsts (fun x => gp x 6) 40).length := by decide +kernel
theorem many7 : 24 ≤ (firsts (fun x => gp x 7) 40).length := by decide +kernel
theorem many (e : Nat) (h1 : 1 ≤ e) (h7 : e ≤ 7) : 24 ≤ (firsts (fun x => gp x e) 40).length := by
  rcases (show e = 1 ∨ e = 2 ∨ e = 3 ∨ e = 4 ∨ e = 5 ∨ e = 6 ∨ e = 7 by omega) with rfl | rfl | rfl | rfl | rfl | rfl | rfl
  · exact many1
  · exact many2
  · exact many3
  · exact many4
  · exact many5
  · exact many6
  · exact many7
theorem stop_len (f : Nat → Nat) (n q : Nat) (h : Stop f n q) (h24 : 24 ≤ (firsts f 40).length) (hn : n ≤ 24) : (firsts f q).length = n := by
  obtain ⟨h1, h2, h3 | h3⟩ := h
  · subst h3
    have hp := (pre f 40 216).length_le
    have hp : (firsts f 40).length ≤ (firsts f 256).length := hp
    omega
  · exact h3
/-- A pointer to a code. -/
def IsCode (w : World) (v : Value) (n k : Nat) : Prop := ∃ b A c, v = .pointer (some ⟨b, 0, none⟩) ∧ Blk w b 53 #[.int .i64 n, .int .i64 k, .slice A n c]
theorem IsCode.below {w w' : World} {v : Value} {n k : Nat} (h : IsCode w v n k) (hb : Below w.heap.size w w') : IsCode w' v n k := by
  obtain ⟨b, A, c, e, h⟩ := h
  exact ⟨b, A, c, e, h.below hb h.lt⟩
theorem drewB (W : World) (n : Nat) : Below W.heap.size W (W.drewN n) := pw_below_drewN (Below.refl _ _) n
theorem below_of_drewN {w w' : World} {n : Nat} (h : Below (w.drewN n).heap.size (w.drewN n) w') : Below w.heap.size w w' := ⟨h.os, h.tape, h.output, h.size, h.block⟩

set_option maxRecDepth 100000 in
theorem k_any (v : Value) (n k : Nat) (w : World) (h : IsCode w v n k) :
    Calls Try.prog 28 #[v] w fun e w' => e = .returned (.int .i64 k) ∧ w' = w := by
  obtain ⟨b, A, c, rfl, h⟩ := h
  have h1 := (h.cell 1).trans rfl
  simp at h1
  go_enter Try.func28, Try.ntmps28
  go_wp2
  go_ret
  exact ⟨rfl, rfl⟩
set_option maxRecDepth 100000 in
theorem parts_any (v : Value) (n k : Nat) (w : World) (h : IsCode w v n k) (h1 : 1 ≤ k) (h2 : k ≤ 100) :
    Calls Try.prog 23 #[v] w fun e w' => e = .returned (.int .i64 ((k - 1 : Nat) : Int)) ∧ w' = w := by
  have H := Lib.hid h
  have e1 : IntKind.i64.wrap ((k : Int) - 1) = ((k - 1 : Nat) : Int) := by rw [IntWalk.i64_in _ (by omega)]; omega
  obtain ⟨q, hq⟩ : ∃ q, q = k - 1 := ⟨_, rfl⟩
  rw [← hq] at e1 ⊢
  have e2 : max (q : Int) 0 = (q : Int) := by omega
  clear h hq h1 h2
  go_enter Try.func23, Try.ntmps23
  go_wp2_with (go_at_call 28; (with_reducible refine (k_any _ _ _ _ H.out).mono ?_); rintro e w1 ⟨rfl, rfl⟩)
  go_ret
  exact ⟨rfl, rfl⟩
set_option maxRecDepth 100000 in
theorem symbols_any (v : Value) (n k s : Nat) (w : World) (h : IsCode w v n k) (h1 : 1 ≤ k) (h2 : k ≤ 100) (hs : k * (k - 1) = s) :
    Calls Try.prog 41 #[v] w fun e w' => e = .returned (.int .i64 s) ∧ w' = w := by
  have HP := Lib.hid (parts_any v n k w h h1 h2)
  have H := Lib.hid h
  have hle : k * (k - 1) ≤ 100 * 100 := Nat.mul_le_mul h2 (by omega)
  have e1 : IntKind.i64.wrap ((k : Int) * ((k - 1 : Nat) : Int)) = (s : Int) := by
    rw [← Int.natCast_mul, IntWalk.i64_in _ (by omega), hs]
  obtain ⟨q, hq⟩ : ∃ q, q = k - 1 := ⟨_, rfl⟩
  rw [← hq] at e1 HP
  clear h hq hs hle h1 h2
  go_enter Try.func41, Try.ntmps41
  go_wp2_with (first
    | (go_at_call 28; (with_reducible refine (k_any _ _ _ _ H.out).mono ?_); rintro e w1 ⟨rfl, rfl⟩)
    | (go_at_call 23; (with_reducible refine HP.out.mono ?_); rintro e w1 ⟨rfl, rfl⟩))
  go_ret
  exact ⟨rfl, rfl⟩
/-- There are points enough. -/
theorem points_full (n e : Nat) (w : World) (h1 : 1 ≤ n) (h4 : n ≤ 24) (h2 : 1 ≤ e) (h3 : e ≤ 7) :
    Calls Try.prog 21 #[.int .i64 n, .int .i64 e] w fun e' w' => ∃ A c xs, e' = .returned (.tuple #[.slice A n c, .int .i64 0]) ∧ Kd.R (Kd.int .u8) 5 w' w.heap.size (fun _ => True) (.slice A n c) xs ∧ xs.length = n ∧ Below w.heap.size w w' := by
  refine (points_good n e w h1 h2 (by omega)).mono ?_
  rintro e' w1 ⟨v, q1, hq1, rfl, hr, hb⟩
  have hl := stop_len _ _ _ hq1 (many e h2 h3) h4
  have hn : ¬ (firsts (fun x => gp x e) q1).length < n := by omega
  rw [if_neg hn] at hr
  obtain ⟨A, c, rfl⟩ := Kd.R_slice hr
  rw [if_neg hn]
  have e2 : Value.slice A (firsts (fun x => gp x e) q1).length c = Value.slice A n c := by rw [hl]
  rw [e2] at hr ⊢
  exact ⟨A, c, _, rfl, hr, hl, hb⟩
set_option maxRecDepth 100000 in
theorem new_code (n k : Nat) (w : World) (h1 : 2 ≤ k) (h2 : k ≤ 8) (h3 : 2 * k - 1 ≤ n) (h4 : n ≤ 24) :
    Calls Try.prog 9 #[.int .i64 n, .int .i64 k] w fun e w' => ∃ v, e = .returned (.tuple #[v, .int .i64 0]) ∧ IsCode w' v n k ∧ Below w.heap.size w w' := by
  have e1 : IntKind.i64.wrap (2 * (k : Int)) = 2 * (k : Int) := IntWalk.i64_in _ (by omega)
  have e2 : IntKind.i64.wrap (2 * (k : Int) - 1) = 2 * (k : Int) - 1 := IntWalk.i64_in _ (by omega)
  have e3 : IntKind.i64.wrap ((k : Int) - 1) = ((k - 1 : Nat) : Int) := by rw [IntWalk.i64_in _ (by omega)]; omega
  have PG := Lib.hid (fun W => points_full n (k - 1) W (by omega) (by omega) (by omega) (by omega))
  have t1 : ¬ (k : Int) < 2 := by omega
  have t2 : ¬ (8 : Int) < (k : Int) := by omega
  have t3 : ¬ (n : Int) < 2 * (k : Int) - 1 := by omega
  have t4 : ¬ (24 : Int) < (n : Int) := by omega
  obtain ⟨q, hq⟩ : ∃ q, q = k - 1 := ⟨_, rfl⟩
  rw [← hq] at e3 PG
  clear hq h1 h2 h3 h4
  go_enter Try.func9, Try.ntmps9
  go_wp2_with (go_at_call 21; (with_reducible refine (PG.out _).mono ?_); rintro e w1 ⟨A5, c5, xs, rfl, hr, hxl, hb⟩; have HB := Lib.hid hb; clear hr hb hxl)
  refine bodyPost_ret (v := .tuple #[.pointer (some ⟨w1.heap.size, 0, none⟩), .int .i64 0]) (by simp [results, Try.results9, go_sem]) rfl ⟨_, rfl, ⟨_, _, _, rfl, Blk.new _ _ _⟩, HB.out.alloc HB.out.size _⟩
end Go.Proofs.Ytcnfafappcbpnaa.Str
/- Rows of powers: the program's. -/
namespace Go.Proofs.Ytcnfafappcbpnaa.BHealFragments
open Go Go.RowKit Go.Proofs.Ytcnfafappcbpnaa.PHealFragments Go.Proofs.Ytcnfafappcbpnaa.Gf Go.Proofs.Ytcnfafappcbpnaa.Bits Go.Proofs.Ytcnfafappcbpnaa.Rws Go.Proofs.YtcnfafappcbpnaaW.PrintWords Go.Proofs.YtcnfafappcbpnaaW.PrintLast
set_option linter.unusedVariables false

def pows (x n : Nat) : List Int := (List.range n).map (fun i => ((gp x i : Nat) : Int))
theorem pows_succ (x n : Nat) : pows x (n + 1) = pows x n ++ [((gp x n : Nat) : Int)] := by simp [pows, List.range_succ]
theorem pows_len (x n : Nat) : (pows x n).length = n := by simp [pows]
theorem pows_bytes (x n : Nat) (hx : x < 256) : Bytes (pows x n) := by
  intro y hy
  obtain ⟨i, _, rfl⟩ := List.mem_map.1 hy
  have := gp_lt x hx i
  omega
theorem vinc (i : Nat) (h : i < 1000000) : wrap64 ((i : Int) + 1) = ((i + 1 : Nat) : Int) := by rw [wrap64_in _ (by omega) (by omega)]; omega
theorem vrow_loop (x : Nat) (hx : x < 256) (n : Nat) (hn : n ≤ 100) (d : Nat) : ∀ (k i : Nat), i + d = n → 20 + d ≤ k → vand_Row.l0 k x (pows x i) ((gp x i : Nat) : Int) n i = some (pows x n) := by
  induction d with
  | zero =>
    intro k i hd hk
    obtain ⟨k, rfl⟩ : ∃ m, k = m + 1 := ⟨k - 1, by omega⟩
    obtain rfl : i = n := by omega
    simp only [vand_Row.l0]
    rw [if_neg (by omega)]
  | succ d ih =>
    intro k i hd hk
    obtain ⟨k, rfl⟩ : ∃ m, k = m + 1 := ⟨k - 1, by omega⟩
    simp only [vand_Row.l0]
    rw [if_pos (by omega), if_pos (by rw [pows_len]; omega), gf_mul k (gp x i) x (gp_lt x hx i) hx (by omega), bnd, vinc i (by omega), ← pows_succ, gp_succ]
    exact ih k (i + 1) (by omega) (by omega)
theorem vrow_f (x : Nat) (hx : x < 256) (n : Int) (hn : n ≤ 100) : vand_Row.f 200 x n = some (pows x n.toNat) := by
  have h0 := vrow_loop x hx n.toNat (by omega) n.toNat 200 0 (by omega) (by omega)
  unfold vand_Row.f
  have : mx n 0 = ((n.toNat : Nat) : Int) := by
    unfold mx
    split <;> omega
  rw [this]
  exact h0
/-- A row of powers. -/
theorem row_calls (x : Nat) (hx : x < 256) (n : Int) (hn : n ≤ 100) (W : World) :
    Calls Try.prog 48 #[.int .u8 x, .int .i64 n] W fun e w' => ∃ A c, e = .returned (.slice A n.toNat c) ∧ Kd.R (Kd.int .u8) 5 w' W.heap.size (fun _ => True) (.slice A n.toNat c) (pows x n.toNat) ∧ Below W.heap.size W w' := by
  refine (vand_Row.calls 200 x n _ W (vrow_f x hx n hn)).mono ?_
  rintro e w' ⟨v, rfl, hr, hb⟩
  obtain ⟨A, c, rfl⟩ := Kd.R_slice hr
  rw [pows_len] at *
  exact ⟨A, c, rfl, hr, hb⟩
end Go.Proofs.Ytcnfafappcbpnaa.BHealFragments
/- Codes with their points: New, Row, place. -/
namespace Go.Proofs.Ytcnfafappcbpnaa.Str
open Go Go.RowKit Go.Proofs.Ytcnfafappcbpnaa.PHealFragments Go.Proofs.Ytcnfafappcbpnaa.BHealFragments Go.Proofs.Ytcnfafappcbpnaa.BHealFragments Go.Proofs.Ytcnfafappcbpnaa.Gf Go.Proofs.Ytcnfafappcbpnaa.Bits Go.Proofs.Ytcnfafappcbpnaa.Mem Go.Proofs.Ytcnfafappcbpnaa.VPts Go.Proofs.Ytcnfafappcbpnaa.Rws Go.Proofs.YtcnfafappcbpnaaW.PrintWords Go.Proofs.YtcnfafappcbpnaaW.PrintLast
set_option linter.unusedVariables false

/-- The points of a code. -/
def ptsL (n e : Nat) : List Int := (firsts (fun x => gp x e) 40).take n
theorem ptsL_len (n e : Nat) (h1 : 1 ≤ e) (h7 : e ≤ 7) (hn : n ≤ 24) : (ptsL n e).length = n := by
  have := many e h1 h7
  unfold ptsL
  rw [List.length_take]; omega
theorem ptsL_bytes (n e : Nat) : ∀ x ∈ ptsL n e, 0 ≤ x ∧ x < 256 := fun x hx => firsts_bytes _ 40 (by decide) x (List.mem_of_mem_take hx)
theorem stop_pts (n e q : Nat) (h : Stop (fun x => gp x e) n q) (h1 : 1 ≤ e) (h7 : e ≤ 7) (hn : n ≤ 24) : firsts (fun x => gp x e) q = ptsL n e := by
  have h24 := many e h1 h7
  have hl := stop_len _ _ _ h h24 hn
  unfold ptsL
  rcases Nat.le_total q 40 with hq | hq
  · have hp := pre (fun x => gp x e) q (40 - q)
    rw [show q + (40 - q) = 40 by omega] at hp
    have := List.prefix_iff_eq_take.1 hp
    rw [hl] at this
    exact this
  · have hp := pre (fun x => gp x e) 40 (q - 40)
    rw [show 40 + (q - 40) = q by omega] at hp
    have hle := hp.length_le
    have he := List.IsPrefix.eq_of_length_le hp (by omega)
    rw [he, List.take_of_length_le (by omega)]
/-- A pointer to a code, with its points. -/
def IsCodeP (w : World) (v : Value) (n k : Nat) : Prop := ∃ b A c, v = .pointer (some ⟨b, 0, none⟩) ∧ Blk w b 53 #[.int .i64 n, .int .i64 k, .slice A n c] ∧ n ≤ c ∧ (Kd.int .u8).C w A n (ptsL n (k - 1))
theorem IsCodeP.below {w w' : World} {v : Value} {n k : Nat} (h : IsCodeP w v n k) (hb : Below w.heap.size w w') : IsCodeP w' v n k := by
  obtain ⟨b, A, c, e, h, hc, hp⟩ := h
  exact ⟨b, A, c, e, h.below hb h.lt, hc, Kd.C_below hp hb⟩
theorem IsCodeP.code {w : World} {v : Value} {n k : Nat} (h : IsCodeP w v n k) : IsCode w v n k := by
  obtain ⟨b, A, c, e, h, _⟩ := h
  exact ⟨b, A, c, e, h⟩
theorem points_pts (n e : Nat) (w : World) (h1 : 1 ≤ n) (h4 : n ≤ 24) (h2 : 1 ≤ e) (h3 : e ≤ 7) :
    Calls Try.prog 21 #[.int .i64 n, .int .i64 e] w fun e' w' => ∃ A c, e' = .returned (.tuple #[.slice A n c, .int .i64 0]) ∧ n ≤ c ∧ (Kd.int .u8).C w' A n (ptsL n e) ∧ Below w.heap.size w w' := by
  refine (points_good n e w h1 h2 (by omega)).mono ?_
  rintro e' w1 ⟨v, q1, hq1, rfl, hr, hb⟩
  have hl := stop_len _ _ _ hq1 (many e h2 h3) h4
  have hn : ¬ (firsts (fun x => gp x e) q1).length < n := by omega
  rw [if_neg hn] at hr
  obtain ⟨A, c, rfl, hc, hC⟩ := Kd.R_reads hr
  rw [if_neg hn]
  have e2 : Value.slice A (firsts (fun x => gp x e) q1).length c = Value.slice A n c := by rw [hl]
  rw [e2]
  rw [hl, stop_pts n e q1 hq1 h2 h3 h4] at hC
  exact ⟨A, c, rfl, by omega, hC, hb⟩
set_option maxRecDepth 100000 in
theorem new_codeP (n k : Nat) (w : World) (h1 : 2 ≤ k) (h2 : k ≤ 8) (h3 : 2 * k - 1 ≤ n) (h4 : n ≤ 24) :
    Calls Try.prog 9 #[.int .i64 n, .int .i64 k] w fun e w' => ∃ v, e = .returned (.tuple #[v, .int .i64 0]) ∧ IsCodeP w' v n k ∧ Below w.heap.size w w' := by
  have e1 : IntKind.i64.wrap (2 * (k : Int)) = 2 * (k : Int) := IntWalk.i64_in _ (by omega)
  have e2 : IntKind.i64.wrap (2 * (k : Int) - 1) = 2 * (k : Int) - 1 := IntWalk.i64_in _ (by omega)
  have e3 : IntKind.i64.wrap ((k : Int) - 1) = ((k - 1 : Nat) : Int) := by rw [IntWalk.i64_in _ (by omega)]; omega
  have PG := Lib.hid (fun W => points_pts n (k - 1) W (by omega) (by omega) (by omega) (by omega))
  have t1 : ¬ (k : Int) < 2 := by omega
  have t2 : ¬ (8 : Int) < (k : Int) := by omega
  have t3 : ¬ (n : Int) < 2 * (k : Int) - 1 := by omega
  have t4 : ¬ (24 : Int) < (n : Int) := by omega
  obtain ⟨q, hq⟩ : ∃ q, q = k - 1 := ⟨_, rfl⟩
  have HQ := Lib.hid hq
  rw [← hq] at e3 PG
  clear hq h1 h2 h3 h4
  go_enter Try.func9, Try.ntmps9
  go_wp2_with (go_at_call 21; (with_reducible refine (PG.out _).mono ?_); rintro e w1 ⟨A5, c5, rfl, hc5, hr, hb⟩; have HB := Lib.hid hb; have HR := Lib.hid hr; have HC := Lib.hid hc5; clear hr hb hc5)
  refine bodyPost_ret (v := .tuple #[.pointer (some ⟨w1.heap.size, 0, none⟩), .int .i64 0]) (by simp [results, Try.results9, go_sem]) rfl ⟨_, rfl, ⟨_, _, _, rfl, Blk.new _ _ _, HC.out, ?_⟩, HB.out.alloc HB.out.size _⟩
  rw [← HQ.out]
  exact Kd.C_below HR.out ((Below.refl _ _).alloc (Nat.le_refl _) _)
/-- The point of a slot. -/
def ptN (n k slot : Nat) : Nat := ((ptsL n (k - 1)).getD slot 0).toNat
theorem ptN_lt (n k slot : Nat) : ptN n k slot < 256 := by
  unfold ptN
  rcases Nat.lt_or_ge slot (ptsL n (k - 1)).length with h | h
  · have := ptsL_bytes n (k - 1) _ (List.getElem_mem h)
    rw [List.getD_eq_getElem?_getD, List.getElem?_eq_getElem h]
    simp only [Option.getD_some]
    omega
  · rw [List.getD_eq_getElem?_getD, List.getElem?_eq_none h]; decide
theorem ptN_eq (n k slot : Nat) : (ptsL n (k - 1)).getD slot 0 = (ptN n k slot : Int) := by
  unfold ptN
  rcases Nat.lt_or_ge slot (ptsL n (k - 1)).length with h | h
  · have := ptsL_bytes n (k - 1) _ (List.getElem_mem h)
    rw [List.getD_eq_getElem?_getD, List.getElem?_eq_getElem h]
    simp only [Option.getD_some]
    omega
  · rw [List.getD_eq_getElem?_getD, List.getElem?_eq_none h]; rfl
set_option maxRecDepth 100000 in
set_option maxHeartbeats 1000000 in
/-- The row of a slot. -/
theorem row_any (v : Value) (n k slot : Nat) (w : World) (hc : IsCodeP w v n k) (k1 : 2 ≤ k) (k2 : k ≤ 8) (n2 : n ≤ 24) (hs : slot < n) :
    Calls Try.prog 32 #[v, .int .i64 slot] w fun e w' => ∃ A c, e = .returned (.slice A (2 * k - 2) c) ∧ Kd.R (Kd.int .u8) 5 w' w.heap.size (fun _ => True) (.slice A (2 * k - 2) c) (pows (ptN n k slot) (2 * k - 2)) ∧ Below w.heap.size w w' := by
  obtain ⟨b, A, c, rfl, hb, hnc, hP⟩ := hc
  have y0 : w.cell? ⟨b, 0, none⟩ = some (.int .i64 n) := (hb.cell 0).trans rfl
  have y1 : w.cell? ⟨b, 1, none⟩ = some (.int .i64 k) := (hb.cell 1).trans rfl
  have y2 : w.cell? ⟨b, 2, none⟩ = some (.slice A n c) := (hb.cell 2).trans rfl
  obtain ⟨ad, cc, rfl, _, hK, hcell⟩ := Kd.C_get hP 0 (slot : Int) (by omega) (by omega)
  have y3 : w.cell? (ad.add slot) = some (.int .u8 (ptN n k slot)) := by
    have hK' : cc = [.int .u8 ((ptsL n (k - 1)).getD slot 0)] := hK
    subst hK'
    have := hcell 0 _ rfl
    rw [ptN_eq] at this
    simpa [Kd.int, Kd.scalar] using this
  obtain ⟨x, hx⟩ : ∃ x, x = ptN n k slot := ⟨_, rfl⟩
  have hx2 : x < 256 := by rw [hx]; exact ptN_lt n k slot
  rw [← hx] at y3 ⊢
  obtain ⟨m, hm⟩ : ∃ m, m = 2 * k - 2 := ⟨_, rfl⟩
  have RC := Lib.hid (fun W => row_calls x hx2 (m : Int) (by omega) W)
  have e1 : IntKind.i64.wrap (2 * (k : Int)) = 2 * (k : Int) := IntWalk.i64_in _ (by omega)
  have e2 : IntKind.i64.wrap (2 * (k : Int) - 2) = (m : Int) := by rw [IntWalk.i64_in _ (by omega)]; omega
  have e3 : ¬ (n : Int) ≤ (slot : Int) := by omega
  have e4 : decide ((slot : Int) < 0) = false := by simp
  have e5 : (slot : Int) < (n : Int) := by omega
  rw [← hm]
  clear hb hP hK hcell hx hx2 hm k1 k2 n2 hs hnc
  go_enter Try.func32, Try.ntmps32
  go_wp2
  refine wp_region_still_tail 13 (by kernel_rfl) (by kernel_rfl) ?_
  change wpStill _ _ _ (fun a' => wpList _ _ _ _ a' _) _ _
  simp only [List.take_succ_cons, List.take_zero, List.drop_succ_cons, List.drop_zero]
  repeat still_step
  refine wpStill_nil ?_
  go_wp2_with (go_at_call 48; (with_reducible refine (RC.out _).mono ?_); rintro e w1 ⟨A5, c5, rfl, hr, hb⟩; have HR := Lib.hid hr; have HB := Lib.hid hb; clear hr hb)
  go_ret
  exact ⟨_, _, rfl, by simpa using HR.out, (Below.refl w.heap.size w).drew.trans HB.out⟩
/-- Which part stands at a row and a column. -/
def placeN (a r c : Nat) : Nat := (if r < a then 0 else a * (a + 1) / 2) + min (if r < a then r else r - a) c * a - min (if r < a then r else r - a) c * (min (if r < a then r else r - a) c - 1) / 2 + max (if r < a then r else r - a) c - min (if r < a then r else r - a) c
theorem ret_int {k : IntKind} {a b : Int} (h : a = b) : Ending.returned (.int k a) = Ending.returned (.int k b) := by rw [h]
theorem tri_le (i : Nat) (h : i ≤ 7) : i * (i - 1) ≤ 42 := by
  have h2 := Nat.mul_le_mul h (show i - 1 ≤ 6 by omega)
  omega
theorem tri_int (i : Nat) : (i : Int) * ((i : Int) - 1) = ((i * (i - 1) : Nat) : Int) := by
  cases i with
  | zero => simp
  | succ i => rw [show ((i + 1 : Nat) : Int) - 1 = (i : Int) by omega]; simp
set_option maxRecDepth 100000 in
set_option maxHeartbeats 1000000 in
theorem place_any (v : Value) (n k r c : Nat) (w : World) (hc : IsCode w v n k) (k1 : 2 ≤ k) (k2 : k ≤ 8) (hr : r < 2 * (k - 1)) (hcl : c < k - 1) :
    Calls Try.prog 62 #[v, .int .i64 r, .int .i64 c] w fun e w' => e = .returned (.int .i64 (placeN (k - 1) r c)) ∧ w' = w := by
  obtain ⟨b, A, c0, rfl, hb⟩ := hc
  have y1 : w.cell? ⟨b, 1, none⟩ = some (.int .i64 k) := (hb.cell 1).trans rfl
  obtain ⟨a, ha⟩ : ∃ a, a = k - 1 := ⟨_, rfl⟩
  rw [← ha] at hr hcl ⊢
  have e0 : IntKind.i64.wrap ((k : Int) - 1) = (a : Int) := by rw [IntWalk.i64_in _ (by omega)]; omega
  have a7 : a ≤ 7 := by omega
  clear hb ha k1 k2
  by_cases h : r < a
  · obtain ⟨B, hB⟩ : ∃ B, B = 0 := ⟨_, rfl⟩
    have lB : B ≤ 28 := by omega
    have HBB := Lib.hid hB
    have h1 : ¬ (a : Int) ≤ (r : Int) := by omega
    rcases Nat.lt_trichotomy r c with hm | hm | hm
    · obtain ⟨i, hi⟩ : ∃ i, i = r := ⟨_, rfl⟩
      obtain ⟨j, hj⟩ : ∃ j, j = c := ⟨_, rfl⟩
      have G : placeN a r c = B + i * a - i * (i - 1) / 2 + j - i := by unfold placeN; rw [if_pos h, if_pos h, Nat.min_eq_left (by omega), Nat.max_eq_right (by omega), hi, hj, hB]
      have li : i ≤ 7 := by omega
      have lj : j ≤ 7 := by omega
      obtain ⟨q, hq⟩ : ∃ q, q = i * a := ⟨_, rfl⟩
      obtain ⟨t, ht⟩ : ∃ t, t = i * (i - 1) := ⟨_, rfl⟩
      have lq : q ≤ 49 := by rw [hq]; exact Nat.mul_le_mul li a7
      have lt : t ≤ 42 := by rw [ht]; exact tri_le i li
      have hq2 : t / 2 ≤ B + q := by
        have : i * (i - 1) ≤ i * a := Nat.mul_le_mul_left i (by omega)
        omega
      have e1 : IntKind.i64.wrap ((i : Int) * (a : Int)) = (q : Int) := by rw [← Int.natCast_mul, ← hq, IntWalk.i64_in _ (by omega)]
      have e2 : IntKind.i64.wrap ((i : Int) - 1) = (i : Int) - 1 := IntWalk.i64_in _ (by omega)
      have e3 : IntKind.i64.wrap ((i : Int) * ((i : Int) - 1)) = (t : Int) := by rw [tri_int, ← ht, IntWalk.i64_in _ (by omega)]
      have e7 : IntKind.i64.wrap ((t : Int).tdiv 2) = ((t / 2 : Nat) : Int) := by rw [Int.tdiv_eq_ediv_of_nonneg (by omega), IntWalk.i64_in _ (by omega)]; omega
      have e8 : IntKind.i64.wrap ((B : Int) + (q : Int)) = (B : Int) + (q : Int) := IntWalk.i64_in _ (by omega)
      rw [← hq, ← ht] at G
      have HG := Lib.hid G
      clear hq ht G
      subst hi hj hB
      have h2 : (i : Int) < (j : Int) := by omega
      go_enter Try.func62, Try.ntmps62
      go_wp2
      go_ret
      exact ⟨ret_int (by rw [HG.out]; have := HBB.out; omega), rfl⟩
    · obtain ⟨i, hi⟩ : ∃ i, i = r := ⟨_, rfl⟩
      obtain ⟨j, hj⟩ : ∃ j, j = c := ⟨_, rfl⟩
      have G : placeN a r c = B + i * a - i * (i - 1) / 2 + j - i := by unfold placeN; rw [if_pos h, if_pos h, Nat.min_eq_left (by omega), Nat.max_eq_right (by omega), hi, hj, hB]
      have li : i ≤ 7 := by omega
      have lj : j ≤ 7 := by omega
      obtain ⟨q, hq⟩ : ∃ q, q = i * a := ⟨_, rfl⟩
      obtain ⟨t, ht⟩ : ∃ t, t = i * (i - 1) := ⟨_, rfl⟩
      have lq : q ≤ 49 := by rw [hq]; exact Nat.mul_le_mul li a7
      have lt : t ≤ 42 := by rw [ht]; exact tri_le i li
      have hq2 : t / 2 ≤ B + q := by
        have : i * (i - 1) ≤ i * a := Nat.mul_le_mul_left i (by omega)
        omega
      have e1 : IntKind.i64.wrap ((i : Int) * (a : Int)) = (q : Int) := by rw [← Int.natCast_mul, ← hq, IntWalk.i64_in _ (by omega)]
      have e2 : IntKind.i64.wrap ((i : Int) - 1) = (i : Int) - 1 := IntWalk.i64_in _ (by omega)
      have e3 : IntKind.i64.wrap ((i : Int) * ((i : Int) - 1)) = (t : Int) := by rw [tri_int, ← ht, IntWalk.i64_in _ (by omega)]
      have e7 : IntKind.i64.wrap ((t : Int).tdiv 2) = ((t / 2 : Nat) : Int) := by rw [Int.tdiv_eq_ediv_of_nonneg (by omega), IntWalk.i64_in _ (by omega)]; omega
      have e8 : IntKind.i64.wrap ((B : Int) + (q : Int)) = (B : Int) + (q : Int) := IntWalk.i64_in _ (by omega)
      rw [← hq, ← ht] at G
      have HG := Lib.hid G
      clear hq ht G
      subst hi hj hB
      subst hm
      go_enter Try.func62, Try.ntmps62
      go_wp2
      go_ret
      exact ⟨ret_int (by rw [HG.out]; have := HBB.out; omega), rfl⟩
    · obtain ⟨i, hi⟩ : ∃ i, i = c := ⟨_, rfl⟩
      obtain ⟨j, hj⟩ : ∃ j, j = r := ⟨_, rfl⟩
      have G : placeN a r c = B + i * a - i * (i - 1) / 2 + j - i := by unfold placeN; rw [if_pos h, if_pos h, Nat.min_eq_right (by omega), Nat.max_eq_left (by omega), hi, hj, hB]
      have li : i ≤ 7 := by omega
      have lj : j ≤ 7 := by omega
      obtain ⟨q, hq⟩ : ∃ q, q = i * a := ⟨_, rfl⟩
      obtain ⟨t, ht⟩ : ∃ t, t = i * (i - 1) := ⟨_, rfl⟩
      have lq : q ≤ 49 := by rw [hq]; exact Nat.mul_le_mul li a7
      have lt : t ≤ 42 := by rw [ht]; exact tri_le i li
      have hq2 : t / 2 ≤ B + q := by
        have : i * (i - 1) ≤ i * a := Nat.mul_le_mul_left i (by omega)
        omega
      have e1 : IntKind.i64.wrap ((i : Int) * (a : Int)) = (q : Int) := by rw [← Int.natCast_mul, ← hq, IntWalk.i64_in _ (by omega)]
      have e2 : IntKind.i64.wrap ((i : Int) - 1) = (i : Int) - 1 := IntWalk.i64_in _ (by omega)
      have e3 : IntKind.i64.wrap ((i : Int) * ((i : Int) - 1)) = (t : Int) := by rw [tri_int, ← ht, IntWalk.i64_in _ (by omega)]
      have e7 : IntKind.i64.wrap ((t : Int).tdiv 2) = ((t / 2 : Nat) : Int) := by rw [Int.tdiv_eq_ediv_of_nonneg (by omega), IntWalk.i64_in _ (by omega)]; omega
      have e8 : IntKind.i64.wrap ((B : Int) + (q : Int)) = (B : Int) + (q : Int) := IntWalk.i64_in _ (by omega)
      rw [← hq, ← ht] at G
      have HG := Lib.hid G
      clear hq ht G
      subst hi hj hB
      have h2 : (i : Int) < (j : Int) := by omega
      go_enter Try.func62, Try.ntmps62
      go_wp2
      go_ret
      exact ⟨ret_int (by rw [HG.out]; have := HBB.out; omega), rfl⟩
  · have p1 : a * (a + 1) ≤ 56 := by have := Nat.mul_le_mul a7 (show a + 1 ≤ 8 by omega); omega
    obtain ⟨p, hp⟩ : ∃ p, p = a * (a + 1) := ⟨_, rfl⟩
    rw [← hp] at p1
    obtain ⟨B, hB⟩ : ∃ B, B = p / 2 := ⟨_, rfl⟩
    have lB : B ≤ 28 := by omega
    have HBB := Lib.hid hB
    have f4 : IntKind.i64.wrap ((a : Int) * ((a : Int) + 1)) = (p : Int) := by rw [show (a : Int) * ((a : Int) + 1) = ((a * (a + 1) : Nat) : Int) by rw [Int.natCast_mul, Int.natCast_add]; rfl, ← hp, IntWalk.i64_in _ (by omega)]
    have f5 : IntKind.i64.wrap ((a : Int) + 1) = (a : Int) + 1 := IntWalk.i64_in _ (by omega)
    have f6 : IntKind.i64.wrap ((p : Int).tdiv 2) = (B : Int) := by rw [Int.tdiv_eq_ediv_of_nonneg (by omega), IntWalk.i64_in _ (by omega)]; omega
    have h1 : (a : Int) ≤ (r : Int) := by omega
    obtain ⟨r', hr'⟩ : ∃ r', r' = r - a := ⟨_, rfl⟩
    have f7 : IntKind.i64.wrap ((r : Int) - (a : Int)) = (r' : Int) := by rw [IntWalk.i64_in _ (by omega)]; omega
    rcases Nat.lt_trichotomy r' c with hm | hm | hm
    · obtain ⟨i, hi⟩ : ∃ i, i = r' := ⟨_, rfl⟩
      obtain ⟨j, hj⟩ : ∃ j, j = c := ⟨_, rfl⟩
      have G : placeN a r c = B + i * a - i * (i - 1) / 2 + j - i := by unfold placeN; rw [if_neg h, if_neg h, ← hr', Nat.min_eq_left (by omega), Nat.max_eq_right (by omega), hi, hj, hB, hp]
      have li : i ≤ 7 := by omega
      have lj : j ≤ 7 := by omega
      obtain ⟨q, hq⟩ : ∃ q, q = i * a := ⟨_, rfl⟩
      obtain ⟨t, ht⟩ : ∃ t, t = i * (i - 1) := ⟨_, rfl⟩
      have lq : q ≤ 49 := by rw [hq]; exact Nat.mul_le_mul li a7
      have lt : t ≤ 42 := by rw [ht]; exact tri_le i li
      have hq2 : t / 2 ≤ B + q := by
        have : i * (i - 1) ≤ i * a := Nat.mul_le_mul_left i (by omega)
        omega
      have e1 : IntKind.i64.wrap ((i : Int) * (a : Int)) = (q : Int) := by rw [← Int.natCast_mul, ← hq, IntWalk.i64_in _ (by omega)]
      have e2 : IntKind.i64.wrap ((i : Int) - 1) = (i : Int) - 1 := IntWalk.i64_in _ (by omega)
      have e3 : IntKind.i64.wrap ((i : Int) * ((i : Int) - 1)) = (t : Int) := by rw [tri_int, ← ht, IntWalk.i64_in _ (by omega)]
      have e7 : IntKind.i64.wrap ((t : Int).tdiv 2) = ((t / 2 : Nat) : Int) := by rw [Int.tdiv_eq_ediv_of_nonneg (by omega), IntWalk.i64_in _ (by omega)]; omega
      have e8 : IntKind.i64.wrap ((B : Int) + (q : Int)) = (B : Int) + (q : Int) := IntWalk.i64_in _ (by omega)
      rw [← hq, ← ht] at G
      have HG := Lib.hid G
      clear hq ht G
      have lr : r' < a := by omega
      clear hr' hB hp
      subst hi hj
      have h2 : (i : Int) < (j : Int) := by omega
      go_enter Try.func62, Try.ntmps62
      go_wp2
      go_ret
      exact ⟨ret_int (by rw [HG.out]; have := HBB.out; omega), rfl⟩
    · obtain ⟨i, hi⟩ : ∃ i, i = r' := ⟨_, rfl⟩
      obtain ⟨j, hj⟩ : ∃ j, j = c := ⟨_, rfl⟩
      have G : placeN a r c = B + i * a - i * (i - 1) / 2 + j - i := by unfold placeN; rw [if_neg h, if_neg h, ← hr', Nat.min_eq_left (by omega), Nat.max_eq_right (by omega), hi, hj, hB, hp]
      have li : i ≤ 7 := by omega
      have lj : j ≤ 7 := by omega
      obtain ⟨q, hq⟩ : ∃ q, q = i * a := ⟨_, rfl⟩
      obtain ⟨t, ht⟩ : ∃ t, t = i * (i - 1) := ⟨_, rfl⟩
      have lq : q ≤ 49 := by rw [hq]; exact Nat.mul_le_mul li a7
      have lt : t ≤ 42 := by rw [ht]; exact tri_le i li
      have hq2 : t / 2 ≤ B + q := by
        have : i * (i - 1) ≤ i * a := Nat.mul_le_mul_left i (by omega)
        omega
      have e1 : IntKind.i64.wrap ((i : Int) * (a : Int)) = (q : Int) := by rw [← Int.natCast_mul, ← hq, IntWalk.i64_in _ (by omega)]
      have e2 : IntKind.i64.wrap ((i : Int) - 1) = (i : Int) - 1 := IntWalk.i64_in _ (by omega)
      have e3 : IntKind.i64.wrap ((i : Int) * ((i : Int) - 1)) = (t : Int) := by rw [tri_int, ← ht, IntWalk.i64_in _ (by omega)]
      have e7 : IntKind.i64.wrap ((t : Int).tdiv 2) = ((t / 2 : Nat) : Int) := by rw [Int.tdiv_eq_ediv_of_nonneg (by omega), IntWalk.i64_in _ (by omega)]; omega
      have e8 : IntKind.i64.wrap ((B : Int) + (q : Int)) = (B : Int) + (q : Int) := IntWalk.i64_in _ (by omega)
      rw [← hq, ← ht] at G
      have HG := Lib.hid G
      clear hq ht G
      have lr : r' < a := by omega
      clear hr' hB hp
      subst hi hj
      subst hm
      go_enter Try.func62, Try.ntmps62
      go_wp2
      go_ret
      exact ⟨ret_int (by rw [HG.out]; have := HBB.out; omega), rfl⟩
    · obtain ⟨i, hi⟩ : ∃ i, i = c := ⟨_, rfl⟩
      obtain ⟨j, hj⟩ : ∃ j, j = r' := ⟨_, rfl⟩
      have G : placeN a r c = B + i * a - i * (i - 1) / 2 + j - i := by unfold placeN; rw [if_neg h, if_neg h, ← hr', Nat.min_eq_right (by omega), Nat.max_eq_left (by omega), hi, hj, hB, hp]
      have li : i ≤ 7 := by omega
      have lj : j ≤ 7 := by omega
      obtain ⟨q, hq⟩ : ∃ q, q = i * a := ⟨_, rfl⟩
      obtain ⟨t, ht⟩ : ∃ t, t = i * (i - 1) := ⟨_, rfl⟩
      have lq : q ≤ 49 := by rw [hq]; exact Nat.mul_le_mul li a7
      have lt : t ≤ 42 := by rw [ht]; exact tri_le i li
      have hq2 : t / 2 ≤ B + q := by
        have : i * (i - 1) ≤ i * a := Nat.mul_le_mul_left i (by omega)
        omega
      have e1 : IntKind.i64.wrap ((i : Int) * (a : Int)) = (q : Int) := by rw [← Int.natCast_mul, ← hq, IntWalk.i64_in _ (by omega)]
      have e2 : IntKind.i64.wrap ((i : Int) - 1) = (i : Int) - 1 := IntWalk.i64_in _ (by omega)
      have e3 : IntKind.i64.wrap ((i : Int) * ((i : Int) - 1)) = (t : Int) := by rw [tri_int, ← ht, IntWalk.i64_in _ (by omega)]
      have e7 : IntKind.i64.wrap ((t : Int).tdiv 2) = ((t / 2 : Nat) : Int) := by rw [Int.tdiv_eq_ediv_of_nonneg (by omega), IntWalk.i64_in _ (by omega)]; omega
      have e8 : IntKind.i64.wrap ((B : Int) + (q : Int)) = (B : Int) + (q : Int) := IntWalk.i64_in _ (by omega)
      rw [← hq, ← ht] at G
      have HG := Lib.hid G
      clear hq ht G
      have lr : r' < a := by omega
      clear hr' hB hp
      subst hi hj
      have h2 : (i : Int) < (j : Int) := by omega
      go_enter Try.func62, Try.ntmps62
      go_wp2
      go_ret
      exact ⟨ret_int (by rw [HG.out]; have := HBB.out; omega), rfl⟩
end Go.Proofs.Ytcnfafappcbpnaa.Str
/- The printed product of the document's answer is the plain one. -/
namespace Go.Proofs.Ytcnfafappcbpnaa.BHealFragments
open Go Go.RowKit Go.Proofs.Ytcnfafappcbpnaa.PHealFragments Go.Proofs.Ytcnfafappcbpnaa.Gf Go.Proofs.Ytcnfafappcbpnaa.Bits Go.Proofs.YtcnfafappcbpnaaW.PrintWords Go.Proofs.YtcnfafappcbpnaaW.PrintLast

theorem ref_bit (i : Nat) : ∀ (k n : Nat), n < 9223372036854775808 → i < 64 → i < k → coldframeref02_bit.f k n i = some ((n / 2 ^ i % 2 : Nat) : Int) := by
  induction i with
  | zero =>
    intro k n hn hi hk
    obtain ⟨k, rfl⟩ : ∃ m, k = m + 1 := ⟨k - 1, by omega⟩
    simp only [coldframeref02_bit.f, coldframeref02_bit.l0]
    rw [if_neg (by omega), Int.tmod_eq_emod_of_nonneg (by omega)]
    congr 1; simp
  | succ i ih =>
    intro k n hn hi hk
    obtain ⟨k, rfl⟩ : ∃ m, k = m + 1 := ⟨k - 1, by omega⟩
    simp only [coldframeref02_bit.f, coldframeref02_bit.l0]
    have e1 : wrap64 (Int.tdiv (n : Int) 2) = ((n / 2 : Nat) : Int) := by
      rw [Int.tdiv_eq_ediv_of_nonneg (by omega), wrap64_in _ (by omega) (by omega)]; omega
    have e2 : wrap64 (((i + 1 : Nat) : Int) - 1) = (i : Int) := by rw [wrap64_in _ (by omega) (by omega)]; omega
    rw [if_pos (by omega), e1, e2]
    have := ih k (n / 2) (by omega) (by omega) (by omega)
    simp only [coldframeref02_bit.f] at this
    rw [this, Nat.div_div_eq_div_mul, Nat.pow_succ, Nat.mul_comm 2]

theorem ref_power (i : Nat) : ∀ (k p : Nat), p * 2 ^ i < 9223372036854775808 → i < 64 → i < k → coldframeref02_power.l0 k i p = some ((p * 2 ^ i : Nat) : Int) := by
  induction i with
  | zero =>
    intro k p hp hi hk
    obtain ⟨k, rfl⟩ : ∃ m, k = m + 1 := ⟨k - 1, by omega⟩
    simp only [coldframeref02_power.l0]
    rw [if_neg (by omega)]
    congr 1; simp
  | succ i ih =>
    intro k p hp hi hk
    obtain ⟨k, rfl⟩ : ∃ m, k = m + 1 := ⟨k - 1, by omega⟩
    simp only [coldframeref02_power.l0]
    have hpos : 0 < 2 ^ i := Nat.two_pow_pos i
    have hle : p * 2 ≤ p * 2 ^ (i + 1) := by
      rw [Nat.pow_succ]; exact Nat.mul_le_mul_left p (by omega)
    have e1 : wrap64 ((p : Int) * 2) = ((p * 2 : Nat) : Int) := by
      rw [wrap64_in _ (by omega) (by omega)]; omega
    have e2 : wrap64 (((i + 1 : Nat) : Int) - 1) = (i : Int) := by rw [wrap64_in _ (by omega) (by omega)]; omega
    have e3 : p * 2 * 2 ^ i = p * 2 ^ (i + 1) := by rw [Nat.pow_succ, Nat.mul_assoc, Nat.mul_comm 2]
    rw [if_pos (by omega), e1, e2, ih k (p * 2) (by omega) (by omega) (by omega), e3]

theorem ref_pow2 (i k : Nat) (hi : i < 62) (hk : i < k) : coldframeref02_power.f k i = some ((2 ^ i : Nat) : Int) := by
  unfold coldframeref02_power.f
  have hp : 2 ^ i ≤ 2 ^ 61 := Nat.pow_le_pow_right (by decide) (by omega)
  have := ref_power i k 1 (by omega) (by omega) hk
  simpa using this

theorem ref_down (n : Nat) : ∀ (k p : Nat), n ≤ 7 → p < 2 ^ 15 → 40 ≤ k → coldframeref02_Mul.l1 (k + n) p ((n : Int) + 7) = some ((redA n p % 256 : Nat) : Int) := by
  induction n with
  | zero =>
    intro k p hn hp hk
    obtain ⟨k, rfl⟩ : ∃ m, k = m + 1 := ⟨k - 1, by omega⟩
    simp only [coldframeref02_Mul.l1, redA]
    rw [if_neg (by omega)]
    congr 1
  | succ n ih =>
    intro k p hn hp hk
    rw [show k + (n + 1) = (k + n) + 1 from rfl]
    simp only [coldframeref02_Mul.l1, redA]
    have e0 : ((n + 1 : Nat) : Int) + 7 = ((n + 8 : Nat) : Int) := by omega
    have e1 : wrap64 (((n + 8 : Nat) : Int) - 8) = (n : Int) := by rw [wrap64_in _ (by omega) (by omega)]; omega
    have e2 : wrap64 (((n + 8 : Nat) : Int) - 1) = (n : Int) + 7 := by rw [wrap64_in _ (by omega) (by omega)]; omega
    rw [e0, if_pos (by omega), ref_bit (n + 8) _ p (by omega) (by omega) (by omega)]
    simp only [bnd]
    rw [e1, e2]
    rcases bit01 (p / 2 ^ (n + 8)) with h | h
    · rw [if_neg (by omega), h, Nat.zero_mul, Nat.xor_zero, ih k p (by omega) hp hk]
    · have hq : 2 ^ n ≤ 2 ^ 6 := Nat.pow_le_pow_right (by decide) (by omega)
      have hm : 285 * 2 ^ n ≤ 285 * 2 ^ 6 := Nat.mul_le_mul_left 285 hq
      have hm' : 285 * 2 ^ n < 2 ^ 15 := Nat.lt_of_le_of_lt hm (by decide)
      have e3 : wrap64 (285 * ((2 ^ n : Nat) : Int)) = ((285 * 2 ^ n : Nat) : Int) := by
        show wrap64 (((285 : Nat) : Int) * ((2 ^ n : Nat) : Int)) = _
        rw [← Int.natCast_mul]; exact wrap64_nat _ (Nat.lt_of_lt_of_le hm' (by decide))
      rw [if_pos (by omega), ref_pow2 n _ (by omega) (by omega)]
      simp only [bnd]
      have hx : p ^^^ 285 * 2 ^ n < 2 ^ 15 := Nat.xor_lt_two_pow hp hm'
      rw [e3, xor_i64 p (285 * 2 ^ n) (Nat.lt_of_lt_of_le hp (by decide)) (Nat.lt_of_lt_of_le hm' (by decide)), h, Nat.one_mul, ih k _ (by omega) hx hk]

theorem ref_up (n : Nat) : ∀ (k a b p i : Nat), n + i = 8 → a < 256 → b < 256 → p < 2 ^ 15 → 60 ≤ k →
    coldframeref02_Mul.l0 (k + n) a b p i = some ((redA 7 (clA n (b / 2 ^ i) p (a * 2 ^ i)) % 256 : Nat) : Int) := by
  induction n with
  | zero =>
    intro k a b p i hi ha hb hp hk
    obtain ⟨k, rfl⟩ : ∃ m, k = m + 7 + 1 := ⟨k - 8, by omega⟩
    simp only [coldframeref02_Mul.l0, clA]
    rw [if_neg (by omega)]
    exact ref_down 7 k p (by omega) hp (by omega)
  | succ n ih =>
    intro k a b p i hi ha hb hp hk
    rw [show k + (n + 1) = (k + n) + 1 from rfl]
    simp only [coldframeref02_Mul.l0, clA]
    have e2 : wrap64 ((i : Int) + 1) = ((i + 1 : Nat) : Int) := by rw [wrap64_in _ (by omega) (by omega)]; omega
    have e4 : b / 2 ^ i / 2 = b / 2 ^ (i + 1) := by rw [Nat.div_div_eq_div_mul, Nat.pow_succ]
    have e5 : a * 2 ^ i * 2 = a * 2 ^ (i + 1) := by rw [Nat.pow_succ, Nat.mul_assoc]
    rw [if_pos (by omega), wrap64_nat b (by omega), wrap64_nat a (by omega), ref_bit i _ b (by omega) (by omega) (by omega)]
    simp only [bnd]
    rw [e2, e4, e5]
    rcases bit01 (b / 2 ^ i) with h | h
    · rw [if_neg (by omega), h, Nat.zero_mul, Nat.xor_zero, ih k a b p (i + 1) (by omega) ha hb hp hk]
    · have hq : 2 ^ i ≤ 2 ^ 7 := Nat.pow_le_pow_right (by decide) (by omega)
      have hm : a * 2 ^ i ≤ 255 * 2 ^ 7 := Nat.mul_le_mul (by omega) hq
      have hm' : a * 2 ^ i < 2 ^ 15 := Nat.lt_of_le_of_lt hm (by decide)
      have e3 : wrap64 ((a : Int) * ((2 ^ i : Nat) : Int)) = ((a * 2 ^ i : Nat) : Int) := by
        rw [← Int.natCast_mul]; exact wrap64_nat _ (Nat.lt_of_lt_of_le hm' (by decide))
      rw [if_pos (by omega), ref_pow2 i _ (by omega) (by omega)]
      simp only [bnd]
      have hx : p ^^^ a * 2 ^ i < 2 ^ 15 := Nat.xor_lt_two_pow hp hm'
      rw [e3, xor_i64 p (a * 2 ^ i) (Nat.lt_of_lt_of_le hp (by decide)) (Nat.lt_of_lt_of_le hm' (by decide)), h, Nat.one_mul, ih k a b _ (i + 1) (by omega) ha hb hx hk]

theorem ref_mul (k a b : Nat) (ha : a < 256) (hb : b < 256) (hk : 68 ≤ k) : coldframeref02_Mul.f k a b = some ((gm a b : Nat) : Int) := by
  unfold coldframeref02_Mul.f
  obtain ⟨k, rfl⟩ : ∃ m, k = m + 8 := ⟨k - 8, by omega⟩
  have h := ref_up 8 k a b 0 0 (by omega) ha hb (by omega) (by omega)
  have h1 := ref_eq a b ha hb
  have h2 := gm_lt a b ha
  simp only [Nat.pow_zero, Nat.div_one, Nat.mul_one, h1, Nat.mod_eq_of_lt h2] at h
  exact h
end Go.Proofs.Ytcnfafappcbpnaa.BHealFragments
/- The printed powers of the document's answer are the plain ones. -/
namespace Go.Proofs.Ytcnfafappcbpnaa.BHealFragments
open Go Go.RowKit Go.Proofs.Ytcnfafappcbpnaa.PHealFragments Go.Proofs.Ytcnfafappcbpnaa.Gf Go.Proofs.Ytcnfafappcbpnaa.Bits Go.Proofs.YtcnfafappcbpnaaW.PrintWords Go.Proofs.YtcnfafappcbpnaaW.PrintLast

theorem ref_pow_loop (d : Nat) : ∀ (k a n i : Nat), a < 256 → n < 1000 → i + d = n → 70 + d ≤ k →
    coldframeref02_Pow.l0 k a n (gp a i : Nat) i = some ((gp a n : Nat) : Int) := by
  induction d with
  | zero =>
    intro k a n i ha hn hi hk
    obtain ⟨k, rfl⟩ : ∃ m, k = m + 1 := ⟨k - 1, by omega⟩
    simp only [coldframeref02_Pow.l0]
    rw [if_neg (by omega), show i = n by omega]
  | succ d ih =>
    intro k a n i ha hn hi hk
    obtain ⟨k, rfl⟩ : ∃ m, k = m + 1 := ⟨k - 1, by omega⟩
    simp only [coldframeref02_Pow.l0]
    rw [if_pos (by omega), ref_mul k _ a (gp_lt a ha i) ha (by omega)]
    simp only [bnd]
    rw [show wrap64 ((i : Int) + 1) = ((i + 1 : Nat) : Int) by rw [wrap64_in _ (by omega) (by omega)]; omega]
    exact ih k a n (i + 1) ha hn (by omega) (by omega)

theorem ref_pow (k a n : Nat) (ha : a < 256) (hn : n < 1000) (hk : 70 + n ≤ k) : coldframeref02_Pow.f k a n = some ((gp a n : Nat) : Int) :=
  ref_pow_loop n k a n 0 ha hn (by omega) hk

end Go.Proofs.Ytcnfafappcbpnaa.BHealFragments
/- Rows of powers: the reference's. -/
namespace Go.Proofs.Ytcnfafappcbpnaa.BHealFragments
open Go Go.RowKit Go.Proofs.Ytcnfafappcbpnaa.PHealFragments Go.Proofs.Ytcnfafappcbpnaa.Gf Go.Proofs.Ytcnfafappcbpnaa.Bits Go.Proofs.Ytcnfafappcbpnaa.Rws Go.Proofs.Ytcnfafappcbpnaa.BHealFragments Go.Proofs.YtcnfafappcbpnaaW.PrintWords Go.Proofs.YtcnfafappcbpnaaW.PrintLast
set_option linter.unusedVariables false

theorem rrow_loop (x : Nat) (hx : x < 256) (n : Nat) (hn : n ≤ 100) (d : Nat) : ∀ (k i : Nat), i + d = n → 200 + d ≤ k → coldframeref05_Row.l0 k x n (pows x i) i = some (pows x n) := by
  induction d with
  | zero =>
    intro k i hd hk
    obtain ⟨k, rfl⟩ : ∃ m, k = m + 1 := ⟨k - 1, by omega⟩
    obtain rfl : i = n := by omega
    simp only [coldframeref05_Row.l0]
    rw [if_neg (by omega)]
  | succ d ih =>
    intro k i hd hk
    obtain ⟨k, rfl⟩ : ∃ m, k = m + 1 := ⟨k - 1, by omega⟩
    simp only [coldframeref05_Row.l0]
    rw [if_pos (by omega), ref_pow k x i hx (by omega) (by omega), bnd, if_pos (by rw [pows_len]; omega), vinc i (by omega), ← pows_succ]
    exact ih k (i + 1) (by omega) (by omega)
theorem rrow_neg (k : Nat) (x n : Int) (h : n ≤ 0) : coldframeref05_Row.l0 (k + 1) x n [] 0 = some [] := by
  simp only [coldframeref05_Row.l0]
  rw [if_neg (by omega)]
theorem rrow_f (x : Nat) (hx : x < 256) (n : Int) (hn : n ≤ 100) : coldframeref05_Row.f 400 x n = some (pows x n.toNat) := by
  unfold coldframeref05_Row.f
  by_cases h : 0 ≤ n
  · obtain ⟨n, rfl⟩ := Int.eq_ofNat_of_zero_le h
    exact rrow_loop x hx n (by omega) n 400 0 (by omega) (by omega)
  · have : n.toNat = 0 := by omega
    rw [this]
    exact rrow_neg 399 x n (by omega)
theorem refrow_calls (x : Nat) (hx : x < 256) (n : Int) (hn : n ≤ 100) (W : World) :
    Calls Try.prog 45 #[.int .u8 x, .int .i64 n] W fun e w' => ∃ A c, e = .returned (.slice A n.toNat c) ∧ Kd.R (Kd.int .u8) 5 w' W.heap.size (fun _ => True) (.slice A n.toNat c) (pows x n.toNat) ∧ Below W.heap.size W w' := by
  refine (coldframeref05_Row.calls 400 x n _ W (rrow_f x hx n hn)).mono ?_
  rintro e w' ⟨v, rfl, hr, hb⟩
  obtain ⟨A, c, rfl⟩ := Kd.R_slice hr
  rw [pows_len] at *
  exact ⟨A, c, rfl, hr, hb⟩
end Go.Proofs.Ytcnfafappcbpnaa.BHealFragments
/- The printed Twice, power and Points of the document are the plain ones. -/
namespace Go.Proofs.Ytcnfafappcbpnaa.BHealFragments
open Go Go.RowKit Go.Proofs.Ytcnfafappcbpnaa.PHealFragments Go.Proofs.Ytcnfafappcbpnaa.Gf Go.Proofs.Ytcnfafappcbpnaa.Bits Go.Proofs.Ytcnfafappcbpnaa.VPts Go.Proofs.YtcnfafappcbpnaaW.PrintWords Go.Proofs.YtcnfafappcbpnaaW.PrintLast

theorem inc64 (i : Nat) (h : i < 1000000) : wrap64 ((i : Int) + 1) = ((i + 1 : Nat) : Int) := by rw [wrap64_in _ (by omega) (by omega)]; omega
theorem twice_pass (d : Nat) : ∀ (m : Nat) (xs : List Int) (i j : Nat), j + d = i → i < xs.length → xs.length ≤ 1000 → (∀ q, j ≤ q → q < i → rd xs (i : Int) ≠ rd xs (q : Int)) →
    coldframeref05_Twice.l1 (d + 1 + m) xs i j = coldframeref05_Twice.l0 m xs ((i + 1 : Nat) : Int) := by
  induction d with
  | zero =>
    intro m xs i j hd hi hl hn
    rw [show 0 + 1 + m = m + 1 by omega]
    simp only [coldframeref05_Twice.l1]
    rw [if_neg (by omega), inc64 i (by omega)]
  | succ d ih =>
    intro m xs i j hd hi hl hn
    rw [show d + 1 + 1 + m = (d + 1 + m) + 1 by omega]
    simp only [coldframeref05_Twice.l1]
    rw [if_pos (by omega), if_pos (by omega), if_pos (by omega), if_pos (by omega), if_pos (by omega), if_neg (hn j (Nat.le_refl _) (by omega)), inc64 j (by omega)]
    exact ih m xs i (j + 1) (by omega) hi hl (fun q h1 h2 => hn q (by omega) h2)
theorem twice_hit (d : Nat) : ∀ (m : Nat) (xs : List Int) (i j : Nat), j + d = i → i < xs.length → xs.length ≤ 1000 → (∃ q, j ≤ q ∧ q < i ∧ rd xs (i : Int) = rd xs (q : Int)) →
    coldframeref05_Twice.l1 (d + 1 + m) xs i j = some true := by
  induction d with
  | zero =>
    intro m xs i j hd hi hl ⟨q, h1, h2, _⟩
    omega
  | succ d ih =>
    intro m xs i j hd hi hl ⟨q, h1, h2, h3⟩
    rw [show d + 1 + 1 + m = (d + 1 + m) + 1 by omega]
    simp only [coldframeref05_Twice.l1]
    rw [if_pos (by omega), if_pos (by omega), if_pos (by omega), if_pos (by omega), if_pos (by omega)]
    by_cases h : rd xs (i : Int) = rd xs (j : Int)
    · rw [if_pos h]
    · rw [if_neg h, inc64 j (by omega)]
      exact ih m xs i (j + 1) (by omega) hi hl ⟨q, by rcases Nat.lt_or_ge j q with h4 | h4; exact h4; exact absurd (by rw [h3, show q = j by omega]) h, h2, h3⟩
/-- A row that holds no element twice up to i, and b behind it. -/
theorem twice_from (b : Bool) (xs : List Int) (hl : xs.length ≤ 290) (n : Nat) (hn : n ≤ xs.length) (h0 : ∀ i, i < n → ∀ q, q < i → rd xs (i : Int) ≠ rd xs (q : Int))
    (hb : ∀ k, 600 ≤ k → coldframeref05_Twice.l0 k xs (n : Int) = some b) (d : Nat) : ∀ (k i : Nat), i + d = n → 600 + 300 * d ≤ k → coldframeref05_Twice.l0 k xs (i : Int) = some b := by
  induction d with
  | zero => intro k i hd hk; obtain rfl : i = n := by omega
            exact hb k (by omega)
  | succ d ih =>
    intro k i hd hk
    obtain ⟨k, rfl⟩ : ∃ m, k = m + 1 := ⟨k - 1, by omega⟩
    simp only [coldframeref05_Twice.l0]
    rw [if_pos (by omega)]
    have := twice_pass i (k - i - 1) xs i 0 (by omega) (by omega) (by omega) (fun q _ h2 => h0 i (by omega) q h2)
    rw [show i + 1 + (k - i - 1) = k by omega] at this
    have h3 := ih (k - i - 1) (i + 1) (by omega) (by omega)
    rw [← h3]
    exact this
theorem twice_no (xs : List Int) (hl : xs.length ≤ 290) (h0 : ∀ i, i < xs.length → ∀ q, q < i → rd xs (i : Int) ≠ rd xs (q : Int)) (k : Nat) (hk : 90000 ≤ k) : coldframeref05_Twice.f k xs = some false := by
  unfold coldframeref05_Twice.f
  have := twice_from false xs hl xs.length (Nat.le_refl _) h0 (fun k hk => by
    obtain ⟨k, rfl⟩ : ∃ m, k = m + 1 := ⟨k - 1, by omega⟩
    simp only [coldframeref05_Twice.l0]
    rw [if_neg (by omega)]) xs.length k 0 (by omega) (by omega)
  exact this
theorem twice_yes (xs : List Int) (hl : xs.length ≤ 290) (n : Nat) (hn : n < xs.length) (h0 : ∀ i, i < n → ∀ q, q < i → rd xs (i : Int) ≠ rd xs (q : Int)) (h1 : ∃ q, q < n ∧ rd xs (n : Int) = rd xs (q : Int)) (k : Nat) (hk : 90000 ≤ k) :
    coldframeref05_Twice.f k xs = some true := by
  unfold coldframeref05_Twice.f
  have := twice_from true xs hl n (by omega) h0 (fun k hk => by
    obtain ⟨k, rfl⟩ : ∃ m, k = m + 1 := ⟨k - 1, by omega⟩
    simp only [coldframeref05_Twice.l0]
    rw [if_pos (by omega)]
    obtain ⟨q, h2, h3⟩ := h1
    have := twice_hit n (k - n - 1) xs n 0 (by omega) hn (by omega) ⟨q, by omega, h2, h3⟩
    rw [show n + 1 + (k - n - 1) = k by omega] at this
    exact this) n k 0 (by omega) (by omega)
  exact this
theorem rd_in (xs : List Int) (i : Nat) (h : i < xs.length) : rd xs (i : Int) = xs[i] := by unfold rd; simp [h]
theorem twice_new (p : List Int) (y : Int) (hp : p.Nodup) (hl : p.length ≤ 280) (k : Nat) (hk : 90000 ≤ k) : coldframeref05_Twice.f k (p ++ [y]) = some (decide (y ∈ p)) := by
  have hlen : (p ++ [y]).length = p.length + 1 := by simp
  have h0 : ∀ i, i < p.length → ∀ q, q < i → rd (p ++ [y]) (i : Int) ≠ rd (p ++ [y]) (q : Int) := by
    intro i hi q hq
    rw [rd_in _ i (by omega), rd_in _ q (by omega), List.getElem_append_left hi, List.getElem_append_left (by omega)]
    intro e
    have := (List.getElem_inj hp).mp e
    omega
  by_cases hy : y ∈ p
  · rw [twice_yes (p ++ [y]) (by omega) p.length (by omega) h0 ?_ k hk]
    · simp [hy]
    · obtain ⟨q, hq, e⟩ := List.getElem_of_mem hy
      refine ⟨q, hq, ?_⟩
      rw [rd_in _ p.length (by omega), rd_in _ q (by omega), List.getElem_append_left hq, e]
      simp
  · rw [twice_no (p ++ [y]) (by omega) ?_ k hk]
    · simp [hy]
    · intro i hi q hq
      by_cases h : i < p.length
      · exact h0 i h q hq
      · obtain rfl : i = p.length := by omega
        rw [rd_in _ p.length (by omega), rd_in _ q (by omega), List.getElem_append_left hq]
        simp
        intro e
        exact hy (by rw [e]; exact List.getElem_mem hq)
theorem ref5_power (k a n : Nat) (ha : a < 256) (h1 : 0 < n) (hn : n < 9223372036854775808) (hk : 400 ≤ k) : coldframeref05_power.f k a n = some ((gp a n : Nat) : Int) := by
  unfold coldframeref05_power.f
  by_cases h : a = 0
  · subst h
    rw [if_pos (by rfl), gp_zero n h1]; rfl
  · rw [if_neg (by omega), Int.tmod_eq_emod_of_nonneg (by omega), show ((n : Int) % 255) = ((n % 255 : Nat) : Int) by omega, ref_pow k a (n % 255) ha (by omega) (by omega)]
    simp only [bnd]
    rw [gp_255n a n ha h h1]
theorem ref_points_loop (n e : Nat) (hn1 : n ≤ 256) (he : 0 < e) (he2 : e < 9223372036854775808) (d : Nat) : ∀ (K k : Nat), k + d = 256 → (firsts (fun x => gp x e) k).length ≤ n → 100000 + 2 * d ≤ K →
    ∃ q, Stop (fun x => gp x e) n q ∧ coldframeref05_Points.l0 K n e (firsts (fun x => gp x e) k) (pws (fun x => gp x e) k) k = some (if (firsts (fun x => gp x e) q).length < n then [] else firsts (fun x => gp x e) q) := by
  induction d with
  | zero =>
    intro K k hd hk hK
    obtain ⟨K, rfl⟩ : ∃ m, K = m + 1 + 1 := ⟨K - 2, by omega⟩
    refine ⟨k, ⟨by omega, hk, .inl (by omega)⟩, ?_⟩
    simp only [coldframeref05_Points.l0, coldframeref05_Points.j1]
    rw [if_neg (by omega), if_neg (by decide)]
    by_cases h : (firsts (fun x => gp x e) k).length < n
    · rw [if_pos (by omega), if_pos h]
    · rw [if_neg (by omega), if_neg h]
  | succ d ih =>
    intro K k hd hk hK
    obtain ⟨K, rfl⟩ : ∃ m, K = m + 1 + 1 := ⟨K - 2, by omega⟩
    simp only [coldframeref05_Points.l0, coldframeref05_Points.j1]
    rw [if_pos (by omega)]
    by_cases h : (firsts (fun x => gp x e) k).length < n
    · rw [if_pos (by simp; omega), show ((k : Int)) % 256 = (k : Int) by omega, ref5_power K k e (by omega) he he2 (by omega)]
      have hle := len_le (fun x => gp x e) k
      have hsm := len_same (fun x => gp x e) k
      simp only [bnd, List.nil_append]
      rw [if_pos (by simp; omega), if_pos (by omega), twice_new _ _ (pws_nodup _ k) (by omega) K (by omega)]
      simp only [bnd]
      have hm := mem_pws (fun x => gp x e) k (gp k e)
      by_cases hh : hit (fun x => gp x e) k (gp k e) = true
      · have ef : firsts (fun x => gp x e) (k + 1) = firsts (fun x => gp x e) k := by rw [firsts_succ, if_pos hh]
        have ep : pws (fun x => gp x e) (k + 1) = pws (fun x => gp x e) k := by rw [pws_succ, if_pos hh]
        rw [if_pos (by simp [hm, hh]), inc64 k (by omega)]
        have := ih K (k + 1) (by omega) (by rw [ef]; exact hk) (by omega)
        rw [ef, ep] at this
        exact this
      · have ef : firsts (fun x => gp x e) (k + 1) = firsts (fun x => gp x e) k ++ [(k : Int)] := by rw [firsts_succ, if_neg hh]
        have ep : pws (fun x => gp x e) (k + 1) = pws (fun x => gp x e) k ++ [((gp k e : Nat) : Int)] := by rw [pws_succ, if_neg hh]
        rw [if_neg (by simp [hm, hh]), if_pos (by omega), if_pos (by omega), inc64 k (by omega)]
        have := ih K (k + 1) (by omega) (by rw [ef]; simp; omega) (by omega)
        rw [ef, ep] at this
        exact this
    · rw [if_neg (by simp; omega)]
      refine ⟨k, ⟨by omega, hk, .inr (by omega)⟩, ?_⟩
      rw [if_neg (by omega), if_neg h]
theorem ref_points (n e : Nat) (hn1 : n ≤ 256) (he : 0 < e) (he2 : e < 9223372036854775808) :
    ∃ q, Stop (fun x => gp x e) n q ∧ coldframeref05_Points.f 200000 n e = some (if (firsts (fun x => gp x e) q).length < n then [] else firsts (fun x => gp x e) q) := by
  unfold coldframeref05_Points.f
  exact ref_points_loop n e hn1 he he2 256 200000 0 (by omega) (by simp [firsts]) (by omega)
end Go.Proofs.Ytcnfafappcbpnaa.BHealFragments
/- The rows of the document's codes. -/
namespace Go.Proofs.Ytcnfafappcbpnaa.Str
open Go Go.RowKit Go.Proofs.Ytcnfafappcbpnaa.PHealFragments Go.Proofs.Ytcnfafappcbpnaa.BHealFragments Go.Proofs.Ytcnfafappcbpnaa.BHealFragments Go.Proofs.Ytcnfafappcbpnaa.Gf Go.Proofs.Ytcnfafappcbpnaa.Bits Go.Proofs.Ytcnfafappcbpnaa.Mem Go.Proofs.Ytcnfafappcbpnaa.VPts Go.Proofs.Ytcnfafappcbpnaa.Rws Go.Proofs.YtcnfafappcbpnaaW.PrintWords Go.Proofs.YtcnfafappcbpnaaW.PrintLast
set_option linter.unusedVariables false

theorem ref_pts (n e : Nat) (h1 : 1 ≤ e) (h7 : e ≤ 7) (hn : n ≤ 24) : coldframeref05_Points.f 200000 n e = some (ptsL n e) := by
  obtain ⟨q, hq, h⟩ := ref_points n e (by omega) (by omega) (by omega)
  have hl := stop_len _ _ _ hq (many e h1 h7) hn
  rw [h, if_neg (by omega), stop_pts n e q hq h1 h7 hn]
/-- The first m rows. -/
def rowsM (n k m : Nat) : List (List Int) := (List.range m).map (fun i => pows (ptN n k i) (2 * k - 2))
theorem rowsM_succ (n k m : Nat) : rowsM n k (m + 1) = rowsM n k m ++ [pows (ptN n k m) (2 * k - 2)] := by simp [rowsM, List.range_succ]
theorem rowsM_len (n k m : Nat) : (rowsM n k m).length = m := by simp [rowsM]
theorem rowsM_get (n k m i : Nat) (hi : i < m) : (rowsM n k m).getD i [] = pows (ptN n k i) (2 * k - 2) := by simp [rowsM, List.getD_eq_getElem?_getD, hi]
theorem rows_loop (n k : Nat) (k1 : 2 ≤ k) (k2 : k ≤ 8) (n2 : n ≤ 24) (d : Nat) : ∀ (K i : Nat), i + d = n → 1000 + d ≤ K → coldframeref06_Rows.l0 K k (ptsL n (k - 1)) (rowsM n k i) i = some (rowsM n k n) := by
  have hl := ptsL_len n (k - 1) (by omega) (by omega) n2
  induction d with
  | zero =>
    intro K i hd hK
    obtain ⟨K, rfl⟩ : ∃ m, K = m + 1 := ⟨K - 1, by omega⟩
    obtain rfl : i = n := by omega
    simp only [coldframeref06_Rows.l0]
    rw [if_neg (by omega)]
  | succ d ih =>
    intro K i hd hK
    obtain ⟨K, rfl⟩ : ∃ m, K = m + 1 := ⟨K - 1, by omega⟩
    simp only [coldframeref06_Rows.l0]
    have e1 : wrap64 ((wrap64 (2 * (k : Int))) - 2) = ((2 * k - 2 : Nat) : Int) := by rw [wrap64_in (2 * (k : Int)) (by omega) (by omega), wrap64_in _ (by omega) (by omega)]; omega
    have e2 : rd (ptsL n (k - 1)) (i : Int) = (ptN n k i : Int) := by
      rw [← ptN_eq]; simp [rd]
    have hr := rrow_f (ptN n k i) (ptN_lt n k i) ((2 * k - 2 : Nat) : Int) (by omega)
    have hr2 : coldframeref05_Row.f K (ptN n k i : Int) ((2 * k - 2 : Nat) : Int) = some (pows (ptN n k i) (2 * k - 2)) := by
      have hm : ∀ d, coldframeref05_Row.f (400 + d) (ptN n k i : Int) ((2 * k - 2 : Nat) : Int) = some (pows (ptN n k i) (2 * k - 2)) := by
        intro d
        induction d with
        | zero => simpa using hr
        | succ d ih => exact coldframeref05_Row.mono _ _ _ _ ih
      have := hm (K - 400)
      rwa [show 400 + (K - 400) = K by omega] at this
    rw [if_pos (by omega), if_pos (by omega), e1, e2, hr2, bnd, if_pos (by rw [rowsM_len]; omega), vinc i (by omega), ← rowsM_succ]
    exact ih K (i + 1) (by omega) (by omega)
theorem rows_f (n k : Nat) (k1 : 2 ≤ k) (k2 : k ≤ 8) (n2 : n ≤ 24) : coldframeref06_Rows.f 200000 n k = some (rowsM n k n) := by
  unfold coldframeref06_Rows.f
  rw [show wrap64 ((k : Int) - 1) = ((k - 1 : Nat) : Int) by rw [wrap64_in _ (by omega) (by omega)]; omega, ref_pts n (k - 1) (by omega) (by omega) n2, bnd]
  exact rows_loop n k k1 k2 n2 n 200000 0 (by omega) (by omega)
theorem rows_calls (n k : Nat) (w : World) (k1 : 2 ≤ k) (k2 : k ≤ 8) (n2 : n ≤ 24) :
    Calls Try.prog 29 #[.int .i64 n, .int .i64 k] w fun e w' => ∃ A c, e = .returned (.slice A n c) ∧ n ≤ c ∧ Kd.C kRow w' A n (rowsM n k n) ∧ Below w.heap.size w w' := by
  refine (coldframeref06_Rows.calls 200000 n k _ w (rows_f n k k1 k2 n2)).mono ?_
  rintro e w' ⟨v, rfl, hr, hb⟩
  obtain ⟨A, c, rfl, hc, hC⟩ := Kd.S_reads hr
  rw [rowsM_len] at hc hC
  rw [rowsM_len]
  exact ⟨A, c, rfl, hc, hC, hb⟩
end Go.Proofs.Ytcnfafappcbpnaa.Str
