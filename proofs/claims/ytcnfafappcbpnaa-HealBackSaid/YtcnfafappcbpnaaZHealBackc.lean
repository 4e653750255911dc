/- The statement HealBack: what its proof rests on, part 3 of 4. -/
import Derived.Test.YtcnfafappcbpnaaProg
import Derived.Below
import Derived.Deep.Draws
import Derived.Deep.AppendLies
import Derived.Maps.AppendAt
import Derived.OwnWalk
import Derived.Laws.BytesArg
import Derived.Laws.MakeOwn
import Derived.Laws.OwnMore
import Derived.Deep.OwnRows
import Derived.Tactics
import Derived.Lib.ConvBytes
import Derived.Laws.Slices
import Derived.WalkKit
import Derived.KernelRfl
import Derived.RowKit3
import Derived.Deep.LoopGhost
import Derived.Deep.QuietTactic
import Derived.BigQuiet
import Derived.WideLaws
import Derived.Deep.DeepCutAuto
import Derived.Deep.CutBlock
import Derived.Deep.RegionHeld3
import Derived.Laws.Rows
import Derived.Lib.AppendStr
import Derived.ArgAppend
import Derived.Laws.IdiomCopy
import Derived.OrdersHeld
import Derived.Laws.BitsLemmas
import Derived.RowKit
import Derived.Lib.Hide
import Derived.WalkSpells
import Derived.StillTailTactics
import Derived.Outline
import Derived.Test.YtcnfafappcbpnaaWApart
import Derived.Test.YtcnfafappcbpnaaPStepsx1
import Derived.Test.YtcnfafappcbpnaaZHealBackb
namespace Go.Proofs.Ytcnfafappcbpnaa.Hl
open Go Go.RowKit Go.Proofs.Ytcnfafappcbpnaa.Gf Go.Proofs.Ytcnfafappcbpnaa.Gi Go.Proofs.Ytcnfafappcbpnaa.Bits Go.Proofs.Ytcnfafappcbpnaa.Mem Go.Proofs.Ytcnfafappcbpnaa.Alg Go.Proofs.Ytcnfafappcbpnaa.Sol Go.Proofs.Ytcnfafappcbpnaa.VPts Go.Proofs.Ytcnfafappcbpnaa.Str Go.Proofs.Ytcnfafappcbpnaa.Rws Go.Proofs.Ytcnfafappcbpnaa.Par Go.Proofs.Ytcnfafappcbpnaa.Mdc Go.Proofs.Ytcnfafappcbpnaa.BHealFragments Go.Proofs.YtcnfafappcbpnaaW.PrintWords
set_option linter.unusedVariables false
theorem dotF_comm (a : Nat) (x y : Nat → G) : dotF a x y = dotF a y x := sum_congr (fun i _ => Fd.mul_comm _ _)
theorem dot_line (a c1 c2 : Nat) (A1 A2 : Option Addr) (x y : Nat → Int) (w : World) (h1 : (Kd.int .u8).C w A1 a (line a x)) (h2 : (Kd.int .u8).C w A2 a (line a y)) (hx : ∀ i, Byt (x i)) (hy : ∀ i, Byt (y i)) (a1 : 1 ≤ a) (a7 : a ≤ 64) :
    Calls Try.prog 70 #[.slice A1 a c1, .slice A2 a c2] w fun e w' => e = .returned (.int .u8 (dotF a (fun i => G.of (x i)) (fun i => G.of (y i))).int) ∧ ∃ n, w' = w.drewN n := by
  obtain ⟨ad1, rfl, _⟩ := Sol.at_row h1 0 (by omega)
  obtain ⟨ad2, rfl, _⟩ := Sol.at_row h2 0 (by omega)
  have b1 : Mat.Bytes (line a x) := line_byt _ _ hx
  have b2 : Mat.Bytes (line a y) := line_byt _ _ hy
  have h := Mat.dot_le ad1 ad2 c1 c2 a a (line a x) (line a y) w (Kd.reads_of_C (d := (0 : Int)) h1) (Kd.reads_of_C (d := (0 : Int)) h2) b1 b2 (by omega) (Nat.le_refl _)
  have e : Mat.dotTo (line a x) (line a y) a = (dotF a (fun i => G.of (x i)) (fun i => G.of (y i))).int := by
    rw [← G.int_of _ (Mat.dotTo_range _ _ b1 a), of_dotTo b1 b2 a]
    congr 1
    exact sum_congr (fun i hi => by rw [line_get _ _ _ hi, line_get _ _ _ hi])
  rw [e] at h
  exact h
def avI (a : Nat) (f : Nat → Nat) (X : Mtx) : Mtx := fun i j => (dotF a (el X i) (el (powM f) j)).int
def lamI (a : Nat) (f : Nat → Nat) (i : Nat) : Int := ((gp (f i) a : Nat) : Int)
theorem avI_byt (a : Nat) (f : Nat → Nat) (X : Mtx) (i j : Nat) : Byt (avI a f X i j) := G.int_range _
theorem twoS_byt (a : Nat) (f : Nat → Nat) (S : Mtx) (i j : Nat) : Byt (twoS a f S i j) := G.int_range _
theorem oneS_byt (a : Nat) (f : Nat → Nat) (S : Mtx) (i j : Nat) : Byt (oneS a f S i j) := G.int_range _
theorem lamI_byt {a : Nat} {f : Nat → Nat} (hf : ∀ i, f i < 256) (i : Nat) : Byt (lamI a f i) := gp_byt _ _ (hf i)
def TwoX (k a : Nat) (f : Nat → Nat) (S1 S2 X : Mtx) : Prop := ∀ i, i < k → ∀ c, c < a → G.of (X i c) = dotF a (el (powM f) i) (fun r => G.of (S1 r c)) + G.of (lamI a f i) * dotF a (el (powM f) i) (fun r => G.of (S2 r c))
theorem av_two {k a : Nat} {f : Nat → Nat} {S1 S2 X : Mtx} (hX : TwoX k a f S1 S2 X) (i j : Nat) (hi : i < k) : G.of (avI a f X i j) = G.of (twoS a f S1 i j) + G.of (lamI a f i) * G.of (twoS a f S2 i j) := by
  unfold avI
  rw [G.of_int, dotF_comm]
  exact dot_two (lam := fun i => G.of (lamI a f i)) i (hX i hi) j
theorem half_div {k a : Nat} {f : Nat → Nat} (hf : ∀ i, f i < 256) {S1 S2 X : Mtx} (hX : TwoX k a f S1 S2 X) (h1 : ∀ r u, r < a → u < a → S1 r u = S1 u r) (h2 : ∀ r u, r < a → u < a → S2 r u = S2 u r) (i j : Nat) (hi : i < k) (hj : j < k) :
    xorI (avI a f X i j) (avI a f X j i) = gmI (twoS a f S2 i j) (xorI (lamI a f i) (lamI a f j)) := by
  refine G.of_inj (xorI_byt (avI_byt _ _ _ _ _) (avI_byt _ _ _ _ _)) (gmI_byt (twoS_byt _ _ _ _ _)) ?_
  rw [of_xor (avI_byt _ _ _ _ _) (avI_byt _ _ _ _ _), of_gm (twoS_byt _ _ _ _ _) (xorI_byt (lamI_byt hf _) (lamI_byt hf _)), of_xor (lamI_byt hf _) (lamI_byt hf _), av_two hX i j hi, av_two hX j i hj, twoS_sym h1 j i, twoS_sym h2 j i]
  generalize G.of (twoS a f S1 i j) = p
  generalize G.of (twoS a f S2 i j) = q
  rw [Fd.mul_add, Fd.mul_comm q, Fd.mul_comm q, Fd.add_assoc, add_left_comm (G.of (lamI a f i) * q), add_cancel]
theorem half_p {k a : Nat} {f : Nat → Nat} (hf : ∀ i, f i < 256) {S1 S2 X : Mtx} (hX : TwoX k a f S1 S2 X) (i j : Nat) (hi : i < k) :
    xorI (avI a f X i j) (gmI (lamI a f i) (twoS a f S2 i j)) = twoS a f S1 i j := by
  refine G.of_inj (xorI_byt (avI_byt _ _ _ _ _) (gmI_byt (lamI_byt hf _))) (twoS_byt _ _ _ _ _) ?_
  rw [of_xor (avI_byt _ _ _ _ _) (gmI_byt (lamI_byt hf _)), of_gm (lamI_byt hf _) (twoS_byt _ _ _ _ _), av_two hX i j hi, Fd.add_assoc, Fd.add_self, Fd.add_zero]
theorem xor_ne {x y : Int} (hx : Byt x) (hy : Byt y) (h : x ≠ y) : xorI x y ≠ 0 := by
  intro e
  refine h (G.of_inj hx hy (eq_of_add_zero ?_))
  rw [← of_xor hx hy, e, G.of_zero]
def Dn (k : Nat) (P M : Mtx) (i j : Nat) : Prop := ∀ r c, r < k → c < r → (r < i ∨ (r = i ∧ c < j)) → M r c = P r c ∧ M c r = P r c
theorem Dn.start (k : Nat) (P M : Mtx) : Dn k P M 0 0 := fun r c _ _ h => by omega
theorem Dn.next {k : Nat} {P M : Mtx} {i : Nat} (h : Dn k P M i i) : Dn k P M (i + 1) 0 := fun r c h1 h2 h3 => h r c h1 h2 (by omega)
theorem Dn.step {k : Nat} {P M : Mtx} {i j : Nat} {y : Int} (h : Dn k P M i j) (hy : y = P i j) (hj : j < i) : Dn k P (fun p q => if p = j ∧ q = i then y else (fun p q => if p = i ∧ q = j then y else M p q) p q) i (j + 1) := by
  intro r c h1 h2 h3
  by_cases e : r = i ∧ c = j
  · obtain ⟨rfl, rfl⟩ := e
    constructor
    · show (if r = c ∧ c = r then y else if r = r ∧ c = c then y else M r c) = _
      rw [if_neg (by omega), if_pos ⟨rfl, rfl⟩, hy]
    · show (if c = c ∧ r = r then y else _) = _
      rw [if_pos ⟨rfl, rfl⟩, hy]
  · have h4 := h r c h1 h2 (by omega)
    constructor
    · show (if r = j ∧ c = i then y else if r = i ∧ c = j then y else M r c) = _
      rw [if_neg (by omega), if_neg e]
      exact h4.1
    · show (if c = j ∧ r = i then y else if c = i ∧ r = j then y else M c r) = _
      rw [if_neg (by omega), if_neg (by omega)]
      exact h4.2
theorem Dn.all {k : Nat} {P M : Mtx} (h : Dn k P M k 0) (hs : ∀ i j, P i j = P j i) (i j : Nat) (hi : i < k) (hj : j < k) (hne : j ≠ i) : M i j = P i j := by
  rcases Nat.lt_or_ge j i with e | e
  · exact (h i j hi e (by omega)).1
  · rw [hs i j]
    exact (h j i hj (by omega) (by omega)).2
theorem byt_if {M : Mtx} (h : BytM M) (r c : Nat) {y : Int} (hy : Byt y) : BytM (fun p q => if p = r ∧ q = c then y else M p q) := fun p q => by
  show Byt (if p = r ∧ q = c then y else M p q)
  split
  · exact hy
  · exact h p q
theorem made_rows (k : Nat) (g : Nat → Nat) : madeCells #[Value.slice none 0 0] k = spA k 0 g := by
  rw [← spA_zero]
  apply Array.ext
  · simp [madeCells]
  · intro i h1 h2
    simp [madeCells, Nat.mod_one]
theorem made_bytes (k : Nat) : madeCells #[Value.int .u8 0] k = rowA k (fun _ => 0) := by
  rw [← rowA_zero]
  apply Array.ext
  · simp [madeCells]
  · intro i h1 h2
    simp [madeCells, Nat.mod_one]
theorem mk_rows (k : Nat) (hk : k ≤ 8) (W : World) : (Instr.makeSlice 39 (.int .i64 (k : Int)) (.int .i64 (k : Int))).run Try.prog W = .ok (.slice (some ⟨W.heap.size, 0, none⟩) k k) (W.alloc (.cells (spA k 0 (fun _ => 0)) 22)) := by
  rw [← made_rows]
  exact print_make_of 39 22 (.slice none 0 0) 24 Try.underlying39 info_rows rfl (by decide) k (by omega) W
theorem mk_bytes (k : Nat) (hk : k ≤ 8) (W : World) : (Instr.makeSlice 22 (.int .i64 (k : Int)) (.int .i64 (k : Int))).run Try.prog W = .ok (.slice (some ⟨W.heap.size, 0, none⟩) k k) (W.alloc (.cells (rowA k (fun _ => 0)) 5)) := by
  rw [← made_bytes]
  exact print_make_of 22 5 (.int .u8 0) 1 Try.underlying22 Rws.info_byte rfl (by decide) k (by omega) W
theorem sq2_start {W : World} {base k bp bq : Nat} (h1 : Blk W bp 22 (spA k 0 (fun _ => 0))) (h2 : Blk W bq 22 (spA k 0 (fun _ => 0))) (hp : base ≤ bp) (hq : base ≤ bq) (hne : bp ≠ bq) (M N : Mtx) : Sq2 W base k 0 bp bq (fun _ => 0) (fun _ => 0) M N :=
  ⟨⟨h1, fun r hr => absurd hr (Nat.not_lt_zero r), hp, fun r hr => absurd hr (Nat.not_lt_zero r), fun r q hr => absurd hr (Nat.not_lt_zero r)⟩, ⟨h2, fun r hr => absurd hr (Nat.not_lt_zero r), hq, fun r hr => absurd hr (Nat.not_lt_zero r), fun r q hr => absurd hr (Nat.not_lt_zero r)⟩, hne, fun r s hr => absurd hr (Nat.not_lt_zero r)⟩
theorem sq2_swap {W : World} {base k i bp bq : Nat} {gp gq : Nat → Nat} {M N : Mtx} (h : Sq2 W base k i bp bq gp gq M N) : Sq2 W base k i bq bp gq gp N M := ⟨h.q, h.p, fun e => h.ne e.symm, fun r s hr hs e => h.nes s r hs hr e.symm⟩
theorem sq2_made (k : Nat) (w : World) (M N : Mtx) : Sq2 ((w.alloc (.cells (spA k 0 (fun _ => 0)) 22)).alloc (.cells (spA k 0 (fun _ => 0)) 22)).drew w.heap.size k 0 w.heap.size (w.heap.size + 1) (fun _ => 0) (fun _ => 0) M N := by
  refine sq2_start (((Blk.new w _ _).alloc _).drew) ?_ (Nat.le_refl _) (Nat.le_succ _) (by omega) M N
  have h := (Blk.new (w.alloc (.cells (spA k 0 (fun _ => 0)) 22)) 22 (spA k 0 (fun _ => 0))).drew
  rw [show (w.alloc (.cells (spA k 0 (fun _ => 0)) 22)).heap.size = w.heap.size + 1 by simp] at h
  exact h
def zM : Mtx := fun _ _ => 0
theorem zM_byt : BytM zM := fun _ _ => byt0
theorem sq2_more {W : World} {base k i bp bq B0 b1 b2 : Nat} {gp gq : Nat → Nat} (h : Sq2 W base k i bp bq gp gq zM zM) (hi : i < k) (hb : base ≤ B0) (hl : ∀ r, r < i → gp r < B0 ∧ gq r < B0) (h1 : Blk W b1 5 (rowA k (fun _ => 0))) (h2 : Blk W b2 5 (rowA k (fun _ => 0))) (l1 : B0 ≤ b1) (l2 : B0 ≤ b2) (hne : b1 ≠ b2) :
    Sq2 ((W.setCell ⟨bp, i, none⟩ (rowV k b1)).setCell ⟨bq, i, none⟩ (rowV k b2)) base k (i + 1) bp bq (fun r => if r = i then b1 else gp r) (fun r => if r = i then b2 else gq r) zM zM := by
  have hp1 : bp ≠ b1 := h.p.sp.ne_ h1 (by decide)
  have hp2 : bp ≠ b2 := h.p.sp.ne_ h2 (by decide)
  have hq1 : bq ≠ b1 := h.q.sp.ne_ h1 (by decide)
  have hq2 : bq ≠ b2 := h.q.sp.ne_ h2 (by decide)
  have p1 := h.p.more hi h1 (by omega) (fun r hr e => by have := (hl r hr).1; omega)
  have p2 := p1.far (p := ⟨bq, i, none⟩) (fun e => h.ne e.symm) (fun r hr e => by
    have e' : bq = (if r = i then b1 else gp r) := e
    by_cases hri : r = i
    · rw [if_pos hri] at e'; exact hq1 e'
    · rw [if_neg hri] at e'
      exact h.q.sp.ne_ (h.p.rows r (by omega)) (by decide) e') (rowV k b2)
  have q1 := h.q.far (p := ⟨bp, i, none⟩) (fun e => h.ne e) (fun r hr e => h.p.sp.ne_ (h.q.rows r hr) (by decide) e) (rowV k b1)
  have q2 := q1.more hi (h2.far (p := ⟨bp, i, none⟩) (fun e => hp2 e.symm) _) (by omega) (fun r hr e => by have := (hl r hr).2; omega)
  refine ⟨p2, q2, h.ne, fun r s hr hs e => ?_⟩
  have e' : (if r = i then b1 else gp r) = (if s = i then b2 else gq s) := e
  by_cases e1 : r = i <;> by_cases e2 : s = i
  · rw [if_pos e1, if_pos e2] at e'; exact hne e'
  · rw [if_pos e1, if_neg e2] at e'; have := (hl s (by omega)).2; omega
  · rw [if_neg e1, if_pos e2] at e'; have := (hl r (by omega)).1; omega
  · rw [if_neg e1, if_neg e2] at e'; exact h.nes r s (by omega) (by omega) e'
theorem sq2_lts {W : World} {base k i bp bq : Nat} {gp gq : Nat → Nat} {M N : Mtx} (h : Sq2 W base k i bp bq gp gq M N) : ∀ r, r < i → gp r < W.heap.size ∧ gq r < W.heap.size := fun r hr => ⟨(h.p.rows r hr).lt, (h.q.rows r hr).lt⟩
theorem sq_cells {W : World} {base k i b : Nat} {g : Nat → Nat} {M : Mtx} (h : Sq W base k i b g M) (hi : i ≤ k) (r : Nat) (hr : r < i) : W.cell? ⟨b, r, none⟩ = some (.slice (some ⟨g r, 0, none⟩) k k) := (h.sp.cell r).trans (spA_get k i g r hr hi)
theorem sq_cell {W : World} {base k i b : Nat} {g : Nat → Nat} {M : Mtx} (h : Sq W base k i b g M) (r : Nat) (hr : r < i) (c : Nat) (hc : c < k) : W.cell? ⟨g r, c, none⟩ = some (.int .u8 (M r c)) ∧ W.frozen? ⟨g r, c, none⟩ = false := ⟨((h.rows r hr).cell c).trans (rowA_get k (M r) c hc), (h.rows r hr).frozen c⟩
theorem sq_hole {W : World} {base k i b : Nat} {g : Nat → Nat} {M : Mtx} (h : Sq W base k i b g M) (hi : i < k) : W.cell? ⟨b, i, none⟩ = some (.slice none 0 0) ∧ W.frozen? ⟨b, i, none⟩ = false := by
  refine ⟨(h.sp.cell i).trans ?_, h.sp.frozen i⟩
  rw [spA_at, if_pos hi, if_neg (by omega)]
theorem alloc_setCell (w : World) (o : Obj) (p : Addr) (v : Value) (h : p.block < w.heap.size) : (w.setCell p v).alloc o = (w.alloc o).setCell p v := by
  unfold World.alloc World.setCell
  congr 1
  apply Array.ext
  · simp
  · intro i h1 h2
    by_cases e : i < w.heap.size
    · simp [Array.getElem_push, Array.getElem_modify, e]
    · have hi : i = w.heap.size := by simp at h1; omega
      have hp : ¬ p.block = i := by omega
      simp [Array.getElem_push, Array.getElem_modify, e, hp]
abbrev zO (k : Nat) : Obj := .cells (rowA k (fun _ => 0)) 5
theorem sq2_orders {wr : World} {base k i bp bq : Nat} {gp gq : Nat → Nat} (h : Sq2 wr base k i bp bq gp gq zM zM) (hi : i < k) (hb : base ≤ wr.heap.size) :
    (∃ gp' gq', Sq2 ((((wr.alloc (zO k)).alloc (zO k)).setCell ⟨bp, i, none⟩ (rowV k wr.heap.size)).setCell ⟨bq, i, none⟩ (rowV k (wr.heap.size + 1))).drew base k (i + 1) bp bq gp' gq' zM zM) ∧
    (∃ gp' gq', Sq2 ((((wr.alloc (zO k)).alloc (zO k)).setCell ⟨bp, i, none⟩ (rowV k (wr.heap.size + 1))).setCell ⟨bq, i, none⟩ (rowV k wr.heap.size)).drew base k (i + 1) bp bq gp' gq' zM zM) ∧
    (∃ gp' gq', Sq2 ((((wr.alloc (zO k)).setCell ⟨bp, i, none⟩ (rowV k wr.heap.size)).alloc (zO k)).setCell ⟨bq, i, none⟩ (rowV k (wr.heap.size + 1))).drew base k (i + 1) bp bq gp' gq' zM zM) := by
  have hbl : Below wr.heap.size wr ((wr.alloc (zO k)).alloc (zO k)) := ((Below.refl _ _).alloc (Nat.le_refl _) _).alloc (by simp) _
  have h2 := h.below hbl
  have b1 : Blk ((wr.alloc (zO k)).alloc (zO k)) wr.heap.size 5 (rowA k (fun _ => 0)) := (Blk.new wr _ _).alloc _
  have b2 : Blk ((wr.alloc (zO k)).alloc (zO k)) (wr.heap.size + 1) 5 (rowA k (fun _ => 0)) := by
    have := Blk.new (wr.alloc (zO k)) 5 (rowA k (fun _ => 0))
    rw [World.size_alloc] at this
    exact this
  have hA := sq2_more h2 hi hb (sq2_lts h) b1 b2 (Nat.le_refl _) (Nat.le_succ _) (by omega)
  have hB := sq2_more h2 hi hb (sq2_lts h) b2 b1 (Nat.le_succ _) (Nat.le_refl _) (by omega)
  refine ⟨⟨_, _, hA.below (Below.refl _ _).drew⟩, ⟨_, _, hB.below (Below.refl _ _).drew⟩, ?_⟩
  rw [alloc_setCell (wr.alloc (zO k)) (zO k) ⟨bp, i, none⟩ (rowV k wr.heap.size) (by have := h.p.sp.lt; simp; omega)]
  exact ⟨_, _, hA.below (Below.refl _ _).drew⟩
theorem sq2_holes {wr : World} {base k i bp bq : Nat} {gp gq : Nat → Nat} (h : Sq2 wr base k i bp bq gp gq zM zM) (hi : i < k) (v : Value) :
    let A := (wr.alloc (zO k)).alloc (zO k)
    let C := wr.alloc (zO k)
    (A.cell? ⟨bp, i, none⟩ = some (.slice none 0 0) ∧ A.frozen? ⟨bp, i, none⟩ = false) ∧ (C.cell? ⟨bp, i, none⟩ = some (.slice none 0 0) ∧ C.frozen? ⟨bp, i, none⟩ = false) ∧
    ((A.setCell ⟨bp, i, none⟩ v).cell? ⟨bq, i, none⟩ = some (.slice none 0 0) ∧ (A.setCell ⟨bp, i, none⟩ v).frozen? ⟨bq, i, none⟩ = false) ∧
    (((C.setCell ⟨bp, i, none⟩ v).alloc (zO k)).cell? ⟨bq, i, none⟩ = some (.slice none 0 0) ∧ ((C.setCell ⟨bp, i, none⟩ v).alloc (zO k)).frozen? ⟨bq, i, none⟩ = false) := by
  have hC : Below wr.heap.size wr (wr.alloc (zO k)) := (Below.refl _ _).alloc (Nat.le_refl _) _
  have hA : Below wr.heap.size wr ((wr.alloc (zO k)).alloc (zO k)) := hC.alloc (by simp) _
  have hq := sq_hole ((h.below hA).q) hi
  have hq2 : (((wr.alloc (zO k)).alloc (zO k)).setCell ⟨bp, i, none⟩ v).cell? ⟨bq, i, none⟩ = some (.slice none 0 0) ∧ (((wr.alloc (zO k)).alloc (zO k)).setCell ⟨bp, i, none⟩ v).frozen? ⟨bq, i, none⟩ = false := by
    have hs := (h.below hA).q.far (p := ⟨bp, i, none⟩) (fun e => h.ne e) (fun r hr e => h.p.sp.ne_ (h.q.rows r hr) (by decide) e) v
    exact sq_hole hs hi
  refine ⟨sq_hole ((h.below hA).p) hi, sq_hole ((h.below hC).p) hi, hq2, ?_⟩
  rw [alloc_setCell (wr.alloc (zO k)) (zO k) ⟨bp, i, none⟩ v (by have := h.p.sp.lt; simp; omega)]
  exact hq2
theorem sq2_below3 {w wr : World} {k i bp bq : Nat} (hb : Below w.heap.size w wr) (h1 : w.heap.size ≤ bp) (h2 : w.heap.size ≤ bq) (v u : Value) :
    Below w.heap.size w ((((wr.alloc (zO k)).alloc (zO k)).setCell ⟨bp, i, none⟩ v).setCell ⟨bq, i, none⟩ u).drew ∧ Below w.heap.size w ((((wr.alloc (zO k)).setCell ⟨bp, i, none⟩ v).alloc (zO k)).setCell ⟨bq, i, none⟩ u).drew :=
  ⟨((((hb.alloc hb.size _).alloc (by have := hb.size; simp; omega) _).setCell (p := ⟨bp, i, none⟩) h1 v).setCell (p := ⟨bq, i, none⟩) h2 u).drew, ((((hb.alloc hb.size _).setCell (p := ⟨bp, i, none⟩) h1 v).alloc (by have := hb.size; simp; omega) _).setCell (p := ⟨bq, i, none⟩) h2 u).drew⟩
set_option maxRecDepth 100000 in
set_option maxHeartbeats 8000000 in
theorem halves_any (v : Value) (n k c cx a : Nat) (A Ax : Option Addr) (s : Nat → Int) (h : Nat → Hd) (x : Nat → List Int) (X S1 S2 : Mtx) (w : World) (hc : IsCodeP w v n k) (k1 : 2 ≤ k) (k2 : k ≤ 8) (n2 : n ≤ 24) (ha : a = k - 1) (hp : PA w A k s h x) (hs : ∀ i, i < k → 0 ≤ s i ∧ s i < n)
    (hinj : ∀ i j, i < k → j < k → ptS n k s i = ptS n k s j → i = j) (hlam : ∀ i j, i < k → j < k → lamI a (ptS n k s) i = lamI a (ptS n k s) j → i = j) (hXC : Kd.C kRow w Ax k (mat k a X)) (hXb : BytM X) (hS1 : BytM S1) (hS2 : BytM S2)
    (sy1 : ∀ r u, r < a → u < a → S1 r u = S1 u r) (sy2 : ∀ r u, r < a → u < a → S2 r u = S2 u r) (hX : TwoX k a (ptS n k s) S1 S2 X) :
    Calls Try.prog 59 #[v, .slice A k c, .slice Ax k cx] w fun e w' => ∃ A1 c1 A2 c2, e = .returned (.tuple #[.slice A1 a c1, .slice A2 a c2]) ∧ RowsR w' w.heap.size (.slice A1 a c1) (mat a a S1) ∧ RowsR w' w.heap.size (.slice A2 a c2) (mat a a S2) ∧ Below w.heap.size w w' := by
  have MR := mk_rows k k2
  have MB := mk_bytes k k2
  have hc0 := Lib.hid hc
  obtain ⟨b, Ac, cc, rfl, hb, _⟩ := hc
  have y1 : w.cell? ⟨b, 1, none⟩ = some (.int .i64 k) := (hb.cell 1).trans rfl
  have HY := Lib.hid (fun W (hB : Below w.heap.size w W) => pw_cell_below hB y1)
  have HB0 := Lib.hid (show Below w.heap.size w w.drew from (Below.refl _ _).drew)
  have HPX := Lib.hid (fun W (hB : Below w.heap.size w W) => hp.below hB)
  have HX := Lib.hid (fun W (hB : Below w.heap.size w W) => Kd.C_below hXC hB)
  have HIN := Lib.hid hinj
  have HLA := Lib.hid hlam
  have HSS := Lib.hid hs
  have HS1 := Lib.hid (And.intro hS1 sy1)
  have HS2 := Lib.hid (And.intro hS2 sy2)
  have HXX := Lib.hid (And.intro hXb hX)
  have HA := Lib.hid ha
  have a1 : 1 ≤ a := by omega
  have a7 : a ≤ 7 := by omega
  obtain ⟨f, hf⟩ : ∃ f, f = ptS n k s := ⟨_, rfl⟩
  have hfb : ∀ i, f i < 256 := fun i => by rw [hf]; exact ptN_lt n k _
  rw [← hf] at HIN HLA HXX
  have HF := Lib.hid hf
  have HFB := Lib.hid hfb
  have SH := Lib.hid (fun W (hB : Below w.heap.size w W) i (hi : i < k) => show Calls Try.prog 71 #[.pointer (some ⟨b, 0, none⟩), .int .i64 (s i)] W fun e w' => ∃ A c, e = .returned (.slice A a c) ∧ Kd.R (Kd.int .u8) 5 w' W.heap.size (fun _ => True) (.slice A a c) (line a (powM f i)) ∧ Below W.heap.size W w' by
    have h0 := hs i hi
    have h1 := short_any _ n k (s i).toNat W (hc0.out.below hB) k1 k2 n2 (by omega)
    rw [show (((s i).toNat : Nat) : Int) = s i by omega] at h1
    rw [ha, hf]
    exact h1)
  have FC := Lib.hid (fun W (hB : Below w.heap.size w W) i (hi : i < k) => show Calls Try.prog 72 #[.pointer (some ⟨b, 0, none⟩), .int .i64 (s i)] W fun e w' => e = .returned (.int .u8 (lamI a f i)) ∧ ∃ q, w' = W.drewN q by
    have h0 := hs i hi
    have h1 := codefactor_any _ n k (s i).toNat W (hc0.out.below hB) k1 k2 n2 (by omega)
    rw [show (((s i).toNat : Nat) : Int) = s i by omega] at h1
    unfold lamI
    rw [ha, hf]
    exact h1)
  have DT := Lib.hid (fun W (hB : Below w.heap.size w W) i j (hi : i < k) c' A' c8 A8 (h1 : (Kd.int .u8).C W A' a (line a (X i))) (h2 : (Kd.int .u8).C W A8 a (line a (powM f j))) => show Calls Try.prog 70 #[.slice A' a c', .slice A8 a c8] W fun e w' => e = .returned (.int .u8 (avI a f X i j)) ∧ ∃ n, w' = W.drewN n from
    dot_line a c' c8 A' A8 (X i) (powM f j) W h1 h2 (fun q => hXb i q) (fun q => powM_byt hfb j q) a1 (by omega))
  have HPS := Lib.hid (fun W (hB : Below w.heap.size w W) i (hi : i < k) => show ∃ ad, A = some ad ∧ W.cell? (ad.add (i * 2)) = some (.int .i64 (s i)) by
    obtain ⟨ad, e, h1, _⟩ := (hp.below hB) i hi
    exact ⟨ad, e, h1⟩)
  obtain ⟨adA, rfl, _⟩ := HPS.out w (Below.refl _ _) 0 (by omega)
  obtain ⟨adX, _, _, rfl, _⟩ := mrow hXC 0 (by omega)
  have HXR := Lib.hid (fun i (hi : i < k) => show ∃ A0 c0, w.cell? (adX.add i) = some (.slice A0 a c0) ∧ (Kd.int .u8).C w A0 a (line a (X i)) by
    obtain ⟨ad, A0, c0, e, h1, _, h2⟩ := mrow hXC i hi
    injection e with e
    subst e
    exact ⟨A0, c0, h1, h2⟩)
  have HKA := Lib.hid (show k = a + 1 by omega)
  clear hb hp hXC hinj hlam hs hS1 sy1 hS2 sy2 hXb hX ha hf hfb HX
  go_enter Try.func59, Try.ntmps59
  go_upto_region 1 with (fail)
  have HP1 := Lib.hid (sq2_made k w zM zM)
  have HP2 := Lib.hid (sq2_swap (sq2_made k w zM zM))
  have HBe := Lib.hid (show Below w.heap.size w ((w.alloc (.cells (spA k 0 (fun _ => 0)) 22)).alloc (.cells (spA k 0 (fun _ => 0)) 22)).drew from ((((Below.refl _ _).alloc (Nat.le_refl _) _).alloc (by simp) _).drew))
  go_cut [8, 9] (fun pv qv wc => ∃ (bp bq : Nat) (gp gq : Nat → Nat), pv = rowV k bp ∧ qv = rowV k bq ∧ Hid (Sq2 wc w.heap.size k 0 bp bq gp gq zM zM) ∧ Hid (Below w.heap.size w wc))
  case first =>
    refine wp_region_noPanic ?_
    refine wp_region_held_drew (S := (fun W => W.cell? ⟨b, 1, none⟩ = some (.int .i64 k))) (by kernel_rfl) ?_ (fun hHeld => ?_)
    · ((try dsimp only); exact HY.out _ HB0.out)
    refine wpAnyH_take (i := 0) (oi := { dst := some 19, op := .move (.tmp 0), type := 25, pos := _, after := _, guard := none }) (v := ?_) rfl (by kernel_rfl) (by kernel_rfl) (by kernel_rfl) (fun _ _ _ h => h) (Or.inl ⟨by rfl, ?_⟩) (by assumption) ?_
    rotate_left 1
    · (intro w hSw; (try dsimp only at hSw); go_simp; try with_reducible rfl)
    try simp only [Act.put, List.setIfInBounds_toArray, List.set_cons_zero, List.set_cons_succ]
    refine wpAnyH_take (i := 1) (oi := { dst := some 20, op := .nilCheck (.tmp 19), type := 0, pos := _, after := _, guard := none }) (v := ?_) rfl (by kernel_rfl) (by kernel_rfl) (by kernel_rfl) (fun _ _ _ h => h) (Or.inl ⟨by rfl, ?_⟩) (by assumption) ?_
    rotate_left 1
    · (intro w hSw; (try dsimp only at hSw); go_simp; try with_reducible rfl)
    try simp only [Act.put, List.setIfInBounds_toArray, List.set_cons_zero, List.set_cons_succ]
    refine wpAnyH_take (i := 2) (oi := { dst := some 21, op := .fieldAddr 53 (.tmp 20) 1, type := 0, pos := _, after := _, guard := none }) (v := ?_) rfl (by kernel_rfl) (by kernel_rfl) (by kernel_rfl) (fun _ _ _ h => h) (Or.inl ⟨by rfl, ?_⟩) (by assumption) ?_
    rotate_left 1
    · (intro w hSw; (try dsimp only at hSw); go_simp; try with_reducible rfl)
    try simp only [Act.put, List.setIfInBounds_toArray, List.set_cons_zero, List.set_cons_succ]
    refine wpAnyH_take (i := 3) (oi := { dst := some 22, op := .load 3 (.tmp 21), type := 3, pos := _, after := _, guard := none }) (v := ?_) rfl (by kernel_rfl) (by kernel_rfl) (by kernel_rfl) (fun _ _ _ h => h) (Or.inl ⟨by rfl, ?_⟩) (by assumption) ?_
    rotate_left 1
    · (intro w hSw; (try dsimp only at hSw); go_simp; try with_reducible rfl)
    try simp only [Act.put, List.setIfInBounds_toArray, List.set_cons_zero, List.set_cons_succ]
    refine wpAnyH_take (i := 5) (oi := { dst := some 24, op := .move (.tmp 0), type := 25, pos := _, after := _, guard := none }) (v := ?_) rfl (by kernel_rfl) (by kernel_rfl) (by kernel_rfl) (fun _ _ _ h => h) (Or.inl ⟨by rfl, ?_⟩) (by assumption) ?_
    rotate_left 1
    · (intro w hSw; (try dsimp only at hSw); go_simp; try with_reducible rfl)
    try simp only [Act.put, List.setIfInBounds_toArray, List.set_cons_zero, List.set_cons_succ]
    refine wpAnyH_take (i := 6) (oi := { dst := some 25, op := .nilCheck (.tmp 24), type := 0, pos := _, after := _, guard := none }) (v := ?_) rfl (by kernel_rfl) (by kernel_rfl) (by kernel_rfl) (fun _ _ _ h => h) (Or.inl ⟨by rfl, ?_⟩) (by assumption) ?_
    rotate_left 1
    · (intro w hSw; (try dsimp only at hSw); go_simp; try with_reducible rfl)
    try simp only [Act.put, List.setIfInBounds_toArray, List.set_cons_zero, List.set_cons_succ]
    refine wpAnyH_take (i := 7) (oi := { dst := some 26, op := .fieldAddr 53 (.tmp 25) 1, type := 0, pos := _, after := _, guard := none }) (v := ?_) rfl (by kernel_rfl) (by kernel_rfl) (by kernel_rfl) (fun _ _ _ h => h) (Or.inl ⟨by rfl, ?_⟩) (by assumption) ?_
    rotate_left 1
    · (intro w hSw; (try dsimp only at hSw); go_simp; try with_reducible rfl)
    try simp only [Act.put, List.setIfInBounds_toArray, List.set_cons_zero, List.set_cons_succ]
    refine wpAnyH_take (i := 8) (oi := { dst := some 27, op := .load 3 (.tmp 26), type := 3, pos := _, after := _, guard := none }) (v := ?_) rfl (by kernel_rfl) (by kernel_rfl) (by kernel_rfl) (fun _ _ _ h => h) (Or.inl ⟨by rfl, ?_⟩) (by assumption) ?_
    rotate_left 1
    · (intro w hSw; (try dsimp only at hSw); go_simp; try with_reducible rfl)
    try simp only [Act.put, List.setIfInBounds_toArray, List.set_cons_zero, List.set_cons_succ]
    refine wpAnyH_ready (rs := [4, 9]) (by kernel_rfl) (by simp) ?_
    refine AllReadyH.cons (o := { dst := some 23, op := .makeSlice 39 (.tmp 22) (.tmp 22), type := 39, pos := _, after := _, guard := none }) rfl (fun K hK => ?_) ?_
    · rw [if_pos (by rfl)]; go_simp
      (try have HBx := Lib.hid (HB0.out.alloc HB0.out.size (.cells (spA k 0 (fun _ => 0)) 22)))
      clear hHeld
      refine hK.out _ _ ?_ (fun hHeld => ?_)
      · ((try dsimp only); (first | exact HY.out _ HBx.out | exact HY.out _ (HBx.out.alloc HBx.out.size _)))
      clear hK K
      refine wpAnyH_take (i := 10) (oi := { dst := some 8, op := .assign (.tmp 23), type := 39, pos := _, after := _, guard := none }) (v := ?_) rfl (by kernel_rfl) (by kernel_rfl) (by kernel_rfl) (fun _ _ _ h => h) (Or.inl ⟨by rfl, ?_⟩) (by assumption) ?_
      rotate_left 1
      · (intro w hSw; (try dsimp only at hSw); go_simp; try with_reducible rfl)
      try simp only [Act.put, List.setIfInBounds_toArray, List.set_cons_zero, List.set_cons_succ]
      refine wpAnyH_ready (rs := [9]) (by kernel_rfl) (by simp) ?_
      refine AllReadyH.cons (o := { dst := some 28, op := .makeSlice 39 (.tmp 27) (.tmp 27), type := 39, pos := _, after := _, guard := none }) rfl (fun K hK => ?_) AllReadyH.nil
      rw [if_pos (by rfl)]; go_simp
      (try have HBx := Lib.hid (HB0.out.alloc HB0.out.size (.cells (spA k 0 (fun _ => 0)) 22)))
      clear hHeld
      refine hK.out _ _ ?_ (fun hHeld => ?_)
      · ((try dsimp only); (first | exact HY.out _ HBx.out | exact HY.out _ (HBx.out.alloc HBx.out.size _)))
      clear hK K
      refine wpAnyH_take (i := 11) (oi := { dst := some 9, op := .assign (.tmp 28), type := 39, pos := _, after := _, guard := none }) (v := ?_) rfl (by kernel_rfl) (by kernel_rfl) (by kernel_rfl) (fun _ _ _ h => h) (Or.inl ⟨by rfl, ?_⟩) (by assumption) ?_
      rotate_left 1
      · (intro w hSw; (try dsimp only at hSw); go_simp; try with_reducible rfl)
      try simp only [Act.put, List.setIfInBounds_toArray, List.set_cons_zero, List.set_cons_succ]
      refine wpAnyH_done (by kernel_rfl) ?_ _
      refine NoPanic.normal ?_
      (go_wp2; go_meet; (case rel => first | exact ⟨w.heap.size, w.heap.size + 1, _, _, rfl, rfl, HP1, HBe⟩ | exact ⟨w.heap.size + 1, w.heap.size, _, _, rfl, rfl, HP2, HBe⟩))
    refine AllReadyH.cons (o := { dst := some 28, op := .makeSlice 39 (.tmp 27) (.tmp 27), type := 39, pos := _, after := _, guard := none }) rfl (fun K hK => ?_) AllReadyH.nil
    rw [if_pos (by rfl)]; go_simp
    (try have HBx := Lib.hid (HB0.out.alloc HB0.out.size (.cells (spA k 0 (fun _ => 0)) 22)))
    clear hHeld
    refine hK.out _ _ ?_ (fun hHeld => ?_)
    · ((try dsimp only); (first | exact HY.out _ HBx.out | exact HY.out _ (HBx.out.alloc HBx.out.size _)))
    clear hK K
    refine wpAnyH_ready (rs := [4]) (by kernel_rfl) (by simp) ?_
    refine AllReadyH.cons (o := { dst := some 23, op := .makeSlice 39 (.tmp 22) (.tmp 22), type := 39, pos := _, after := _, guard := none }) rfl (fun K hK => ?_) AllReadyH.nil
    rw [if_pos (by rfl)]; go_simp
    (try have HBx := Lib.hid (HB0.out.alloc HB0.out.size (.cells (spA k 0 (fun _ => 0)) 22)))
    clear hHeld
    refine hK.out _ _ ?_ (fun hHeld => ?_)
    · ((try dsimp only); (first | exact HY.out _ HBx.out | exact HY.out _ (HBx.out.alloc HBx.out.size _)))
    clear hK K
    refine wpAnyH_take (i := 10) (oi := { dst := some 8, op := .assign (.tmp 23), type := 39, pos := _, after := _, guard := none }) (v := ?_) rfl (by kernel_rfl) (by kernel_rfl) (by kernel_rfl) (fun _ _ _ h => h) (Or.inl ⟨by rfl, ?_⟩) (by assumption) ?_
    rotate_left 1
    · (intro w hSw; (try dsimp only at hSw); go_simp; try with_reducible rfl)
    try simp only [Act.put, List.setIfInBounds_toArray, List.set_cons_zero, List.set_cons_succ]
    refine wpAnyH_take (i := 11) (oi := { dst := some 9, op := .assign (.tmp 28), type := 39, pos := _, after := _, guard := none }) (v := ?_) rfl (by kernel_rfl) (by kernel_rfl) (by kernel_rfl) (fun _ _ _ h => h) (Or.inl ⟨by rfl, ?_⟩) (by assumption) ?_
    rotate_left 1
    · (intro w hSw; (try dsimp only at hSw); go_simp; try with_reducible rfl)
    try simp only [Act.put, List.setIfInBounds_toArray, List.set_cons_zero, List.set_cons_succ]
    refine wpAnyH_done (by kernel_rfl) ?_ _
    refine NoPanic.normal ?_
    (go_wp2; go_meet; (case rel => first | exact ⟨w.heap.size, w.heap.size + 1, _, _, rfl, rfl, HP1, HBe⟩ | exact ⟨w.heap.size + 1, w.heap.size, _, _, rfl, rfl, HP2, HBe⟩))
  case rest =>
    clear HP1 HP2 HBe HB0
    obtain ⟨bp, bq, gp0, gq0, rfl, rfl, HQ0, HB0⟩ := hcut
    simp only [rowV]
    go_upto_region 3 with (fail)
    go_loopw [10, 31] (fun _ iv wr => ∃ (i : Nat) (gp gq : Nat → Nat), i ≤ k ∧ iv = .int .i64 i ∧ Hid (Sq2 wr w.heap.size k i bp bq gp gq zM zM) ∧ Hid (Below w.heap.size w wr)) (fun _ iv _ => k - (intOf iv).toNat)
    case atStart => exact ⟨0, _, _, by omega, rfl, HQ0, HB0⟩
    case round =>
      clear HQ0 HB0
      obtain ⟨i, gp, gq, hi, rfl, HQ, HB⟩ := hrel
      by_cases hlt : i < k
      · have g1 : (i : Int) < (k : Int) := by omega
        have g2 : (0 : Int) ≤ (i : Int) := by omega
        go_upto_region 5 with (fail)
        have HZ := Lib.hid (show Below w.heap.size w wr.drew from HB.out.drew)
        obtain ⟨HQA, HQB, HQC⟩ : (Hid _ ∧ Hid _ ∧ Hid _) := ⟨Lib.hid (sq2_orders HQ.out hlt HB.out.size).1, Lib.hid (sq2_orders HQ.out hlt HB.out.size).2.1, Lib.hid (sq2_orders HQ.out hlt HB.out.size).2.2⟩
        have HBB := Lib.hid (fun v u => sq2_below3 (k := k) (i := i) HB.out HQ.out.p.lo HQ.out.q.lo v u)
        have HHO := Lib.hid (fun v => sq2_holes HQ.out hlt v)
        obtain ⟨⟨c1, c2⟩, ⟨c3, c4⟩, _⟩ := HHO.out (rowV k 0)
        obtain ⟨_, _, ⟨d1, d2⟩, ⟨d3, d4⟩⟩ := HHO.out (rowV k wr.heap.size)
        obtain ⟨_, _, ⟨e1, e2⟩, ⟨e3, e4⟩⟩ := HHO.out (rowV k (wr.heap.size + 1))
        simp only [rowV] at d1 d2 d3 d4 e1 e2 e3 e4
        refine wp_region_noPanic ?_
        refine wp_region_held_drew (S := (fun W => W.cell? ⟨b, 1, none⟩ = some (.int .i64 k))) (by kernel_rfl) ?_ (fun hHeld => ?_)
        · ((try dsimp only); exact HY.out _ HZ.out)
        refine wpAnyH_take (i := 0) (oi := { dst := some 34, op := .move (.tmp 8), type := 39, pos := _, after := _, guard := none }) (v := ?_) rfl (by kernel_rfl) (by kernel_rfl) (by kernel_rfl) (fun _ _ _ h => h) (Or.inl ⟨by rfl, ?_⟩) (by assumption) ?_
        rotate_left 1
        · (intro w hSw; (try dsimp only at hSw); go_simp; try with_reducible rfl)
        try simp only [Act.put, List.setIfInBounds_toArray, List.set_cons_zero, List.set_cons_succ]
        refine wpAnyH_take (i := 1) (oi := { dst := some 35, op := .move (.tmp 10), type := 3, pos := _, after := _, guard := none }) (v := ?_) rfl (by kernel_rfl) (by kernel_rfl) (by kernel_rfl) (fun _ _ _ h => h) (Or.inl ⟨by rfl, ?_⟩) (by assumption) ?_
        rotate_left 1
        · (intro w hSw; (try dsimp only at hSw); go_simp; try with_reducible rfl)
        try simp only [Act.put, List.setIfInBounds_toArray, List.set_cons_zero, List.set_cons_succ]
        refine wpAnyH_take (i := 2) (oi := { dst := some 36, op := .move (.tmp 9), type := 39, pos := _, after := _, guard := none }) (v := ?_) rfl (by kernel_rfl) (by kernel_rfl) (by kernel_rfl) (fun _ _ _ h => h) (Or.inl ⟨by rfl, ?_⟩) (by assumption) ?_
        rotate_left 1
        · (intro w hSw; (try dsimp only at hSw); go_simp; try with_reducible rfl)
        try simp only [Act.put, List.setIfInBounds_toArray, List.set_cons_zero, List.set_cons_succ]
        refine wpAnyH_take (i := 3) (oi := { dst := some 37, op := .move (.tmp 10), type := 3, pos := _, after := _, guard := none }) (v := ?_) rfl (by kernel_rfl) (by kernel_rfl) (by kernel_rfl) (fun _ _ _ h => h) (Or.inl ⟨by rfl, ?_⟩) (by assumption) ?_
        rotate_left 1
        · (intro w hSw; (try dsimp only at hSw); go_simp; try with_reducible rfl)
        try simp only [Act.put, List.setIfInBounds_toArray, List.set_cons_zero, List.set_cons_succ]
        refine wpAnyH_take (i := 4) (oi := { dst := some 38, op := .move (.tmp 0), type := 25, pos := _, after := _, guard := none }) (v := ?_) rfl (by kernel_rfl) (by kernel_rfl) (by kernel_rfl) (fun _ _ _ h => h) (Or.inl ⟨by rfl, ?_⟩) (by assumption) ?_
        rotate_left 1
        · (intro w hSw; (try dsimp only at hSw); go_simp; try with_reducible rfl)
        try simp only [Act.put, List.setIfInBounds_toArray, List.set_cons_zero, List.set_cons_succ]
        refine wpAnyH_take (i := 5) (oi := { dst := some 39, op := .nilCheck (.tmp 38), type := 0, pos := _, after := _, guard := none }) (v := ?_) rfl (by kernel_rfl) (by kernel_rfl) (by kernel_rfl) (fun _ _ _ h => h) (Or.inl ⟨by rfl, ?_⟩) (by assumption) ?_
        rotate_left 1
        · (intro w hSw; (try dsimp only at hSw); go_simp; try with_reducible rfl)
        try simp only [Act.put, List.setIfInBounds_toArray, List.set_cons_zero, List.set_cons_succ]
        refine wpAnyH_take (i := 6) (oi := { dst := some 40, op := .fieldAddr 53 (.tmp 39) 1, type := 0, pos := _, after := _, guard := none }) (v := ?_) rfl (by kernel_rfl) (by kernel_rfl) (by kernel_rfl) (fun _ _ _ h => h) (Or.inl ⟨by rfl, ?_⟩) (by assumption) ?_
        rotate_left 1
        · (intro w hSw; (try dsimp only at hSw); go_simp; try with_reducible rfl)
        try simp only [Act.put, List.setIfInBounds_toArray, List.set_cons_zero, List.set_cons_succ]
        refine wpAnyH_take (i := 7) (oi := { dst := some 41, op := .load 3 (.tmp 40), type := 3, pos := _, after := _, guard := none }) (v := ?_) rfl (by kernel_rfl) (by kernel_rfl) (by kernel_rfl) (fun _ _ _ h => h) (Or.inl ⟨by rfl, ?_⟩) (by assumption) ?_
        rotate_left 1
        · (intro w hSw; (try dsimp only at hSw); go_simp; try with_reducible rfl)
        try simp only [Act.put, List.setIfInBounds_toArray, List.set_cons_zero, List.set_cons_succ]
        refine wpAnyH_take (i := 9) (oi := { dst := some 43, op := .move (.tmp 0), type := 25, pos := _, after := _, guard := none }) (v := ?_) rfl (by kernel_rfl) (by kernel_rfl) (by kernel_rfl) (fun _ _ _ h => h) (Or.inl ⟨by rfl, ?_⟩) (by assumption) ?_
        rotate_left 1
        · (intro w hSw; (try dsimp only at hSw); go_simp; try with_reducible rfl)
        try simp only [Act.put, List.setIfInBounds_toArray, List.set_cons_zero, List.set_cons_succ]
        refine wpAnyH_take (i := 10) (oi := { dst := some 44, op := .nilCheck (.tmp 43), type := 0, pos := _, after := _, guard := none }) (v := ?_) rfl (by kernel_rfl) (by kernel_rfl) (by kernel_rfl) (fun _ _ _ h => h) (Or.inl ⟨by rfl, ?_⟩) (by assumption) ?_
        rotate_left 1
        · (intro w hSw; (try dsimp only at hSw); go_simp; try with_reducible rfl)
        try simp only [Act.put, List.setIfInBounds_toArray, List.set_cons_zero, List.set_cons_succ]
        refine wpAnyH_take (i := 11) (oi := { dst := some 45, op := .fieldAddr 53 (.tmp 44) 1, type := 0, pos := _, after := _, guard := none }) (v := ?_) rfl (by kernel_rfl) (by kernel_rfl) (by kernel_rfl) (fun _ _ _ h => h) (Or.inl ⟨by rfl, ?_⟩) (by assumption) ?_
        rotate_left 1
        · (intro w hSw; (try dsimp only at hSw); go_simp; try with_reducible rfl)
        try simp only [Act.put, List.setIfInBounds_toArray, List.set_cons_zero, List.set_cons_succ]
        refine wpAnyH_take (i := 12) (oi := { dst := some 46, op := .load 3 (.tmp 45), type := 3, pos := _, after := _, guard := none }) (v := ?_) rfl (by kernel_rfl) (by kernel_rfl) (by kernel_rfl) (fun _ _ _ h => h) (Or.inl ⟨by rfl, ?_⟩) (by assumption) ?_
        rotate_left 1
        · (intro w hSw; (try dsimp only at hSw); go_simp; try with_reducible rfl)
        try simp only [Act.put, List.setIfInBounds_toArray, List.set_cons_zero, List.set_cons_succ]
        refine wpAnyH_ready (rs := [8, 13]) (by kernel_rfl) (by simp) ?_
        refine AllReadyH.cons (o := { dst := some 42, op := .makeSlice 22 (.tmp 41) (.tmp 41), type := 22, pos := _, after := _, guard := none }) rfl (fun K hK => ?_) ?_
        · rw [if_pos (by rfl)]; go_simp
          replace HZ := Lib.hid (HZ.out.alloc HZ.out.size (.cells (rowA k (fun _ => 0)) 5))
          clear hHeld
          refine hK.out _ _ ?_ (fun hHeld => ?_)
          · ((try dsimp only); exact HY.out _ HZ.out)
          clear hK K
          refine wpAnyH_take (i := 14) (oi := { dst := some 48, op := .indexAddr 39 (.tmp 34) (.tmp 35), type := 0, pos := _, after := _, guard := none }) (v := ?_) rfl (by kernel_rfl) (by kernel_rfl) (by kernel_rfl) (fun _ _ _ h => h) (Or.inl ⟨by rfl, ?_⟩) (by assumption) ?_
          rotate_left 1
          · (intro w hSw; (try dsimp only at hSw); go_simp; try with_reducible rfl)
          try simp only [Act.put, List.setIfInBounds_toArray, List.set_cons_zero, List.set_cons_succ]
          refine wpAnyH_ready (rs := [13, 15]) (by kernel_rfl) (by simp) ?_
          refine AllReadyH.cons (o := { dst := some 47, op := .makeSlice 22 (.tmp 46) (.tmp 46), type := 22, pos := _, after := _, guard := none }) rfl (fun K hK => ?_) ?_
          · rw [if_pos (by rfl)]; go_simp
            first | replace HZ := Lib.hid (HZ.out.alloc HZ.out.size (.cells (rowA k (fun _ => 0)) 5)) | replace HZ := Lib.hid ((HZ.out (rowV k wr.heap.size)).alloc (HZ.out (rowV k wr.heap.size)).size (.cells (rowA k (fun _ => 0)) 5))
            clear hHeld
            refine hK.out _ _ ?_ (fun hHeld => ?_)
            · ((try dsimp only); exact HY.out _ HZ.out)
            clear hK K
            refine wpAnyH_ready (rs := [15]) (by kernel_rfl) (by simp) ?_
            refine AllReadyH.cons (o := { dst := none, op := .store 22 (.tmp 48) (.tmp 42), type := 0, pos := _, after := _, guard := none }) rfl (fun K hK => ?_) AllReadyH.nil
            go_simp
            have HZ := Lib.hid (fun v => HZ.out.setCell (p := ⟨bp, i, none⟩) HQ.out.p.lo v)
            clear hHeld
            refine hK.out _ _ ?_ (fun hHeld => ?_)
            · ((try dsimp only); exact HY.out _ (HZ.out _))
            clear hK K
            refine wpAnyH_take (i := 16) (oi := { dst := some 49, op := .indexAddr 39 (.tmp 36) (.tmp 37), type := 0, pos := _, after := _, guard := none }) (v := ?_) rfl (by kernel_rfl) (by kernel_rfl) (by kernel_rfl) (fun _ _ _ h => h) (Or.inl ⟨by rfl, ?_⟩) (by assumption) ?_
            rotate_left 1
            · (intro w hSw; (try dsimp only at hSw); go_simp; try with_reducible rfl)
            try simp only [Act.put, List.setIfInBounds_toArray, List.set_cons_zero, List.set_cons_succ]
            refine wpAnyH_ready (rs := [17]) (by kernel_rfl) (by simp) ?_
            refine AllReadyH.cons (o := { dst := none, op := .store 22 (.tmp 49) (.tmp 47), type := 0, pos := _, after := _, guard := none }) rfl (fun K hK => ?_) AllReadyH.nil
            go_simp
            clear hHeld
            refine hK.out _ _ ?_ (fun hHeld => ?_)
            · ((try dsimp only); (first | exact HY.out _ (HBB.out _ _).1 | exact HY.out _ (HBB.out _ _).2))
            clear hK K
            refine wpAnyH_done (by kernel_rfl) ?_ _
            refine NoPanic.normal ?_
            (go_wp2; go_roundw; (case rel => first | (obtain ⟨q1, q2, hq⟩ := HQA.out; exact ⟨i + 1, q1, q2, by omega, by go_num, Lib.hid hq, Lib.hid (HBB.out _ _).1⟩) | (obtain ⟨q1, q2, hq⟩ := HQB.out; exact ⟨i + 1, q1, q2, by omega, by go_num, Lib.hid hq, Lib.hid (HBB.out _ _).1⟩) | (obtain ⟨q1, q2, hq⟩ := HQC.out; exact ⟨i + 1, q1, q2, by omega, by go_num, Lib.hid hq, Lib.hid (HBB.out _ _).2⟩)); (case measure => simp [intOf]; omega))
          refine AllReadyH.cons (o := { dst := none, op := .store 22 (.tmp 48) (.tmp 42), type := 0, pos := _, after := _, guard := none }) rfl (fun K hK => ?_) AllReadyH.nil
          go_simp
          have HZ := Lib.hid (fun v => HZ.out.setCell (p := ⟨bp, i, none⟩) HQ.out.p.lo v)
          clear hHeld
          refine hK.out _ _ ?_ (fun hHeld => ?_)
          · ((try dsimp only); exact HY.out _ (HZ.out _))
          clear hK K
          refine wpAnyH_ready (rs := [13]) (by kernel_rfl) (by simp) ?_
          refine AllReadyH.cons (o := { dst := some 47, op := .makeSlice 22 (.tmp 46) (.tmp 46), type := 22, pos := _, after := _, guard := none }) rfl (fun K hK => ?_) AllReadyH.nil
          rw [if_pos (by rfl)]; go_simp
          first | replace HZ := Lib.hid (HZ.out.alloc HZ.out.size (.cells (rowA k (fun _ => 0)) 5)) | replace HZ := Lib.hid ((HZ.out (rowV k wr.heap.size)).alloc (HZ.out (rowV k wr.heap.size)).size (.cells (rowA k (fun _ => 0)) 5))
          clear hHeld
          refine hK.out _ _ ?_ (fun hHeld => ?_)
          · ((try dsimp only); exact HY.out _ HZ.out)
          clear hK K
          refine wpAnyH_take (i := 16) (oi := { dst := some 49, op := .indexAddr 39 (.tmp 36) (.tmp 37), type := 0, pos := _, after := _, guard := none }) (v := ?_) rfl (by kernel_rfl) (by kernel_rfl) (by kernel_rfl) (fun _ _ _ h => h) (Or.inl ⟨by rfl, ?_⟩) (by assumption) ?_
          rotate_left 1
          · (intro w hSw; (try dsimp only at hSw); go_simp; try with_reducible rfl)
          try simp only [Act.put, List.setIfInBounds_toArray, List.set_cons_zero, List.set_cons_succ]
          refine wpAnyH_ready (rs := [17]) (by kernel_rfl) (by simp) ?_
          refine AllReadyH.cons (o := { dst := none, op := .store 22 (.tmp 49) (.tmp 47), type := 0, pos := _, after := _, guard := none }) rfl (fun K hK => ?_) AllReadyH.nil
          go_simp
          clear hHeld
          refine hK.out _ _ ?_ (fun hHeld => ?_)
          · ((try dsimp only); (first | exact HY.out _ (HBB.out _ _).1 | exact HY.out _ (HBB.out _ _).2))
          clear hK K
          refine wpAnyH_done (by kernel_rfl) ?_ _
          refine NoPanic.normal ?_
          (go_wp2; go_roundw; (case rel => first | (obtain ⟨q1, q2, hq⟩ := HQA.out; exact ⟨i + 1, q1, q2, by omega, by go_num, Lib.hid hq, Lib.hid (HBB.out _ _).1⟩) | (obtain ⟨q1, q2, hq⟩ := HQB.out; exact ⟨i + 1, q1, q2, by omega, by go_num, Lib.hid hq, Lib.hid (HBB.out _ _).1⟩) | (obtain ⟨q1, q2, hq⟩ := HQC.out; exact ⟨i + 1, q1, q2, by omega, by go_num, Lib.hid hq, Lib.hid (HBB.out _ _).2⟩)); (case measure => simp [intOf]; omega))
        refine AllReadyH.cons (o := { dst := some 47, op := .makeSlice 22 (.tmp 46) (.tmp 46), type := 22, pos := _, after := _, guard := none }) rfl (fun K hK => ?_) AllReadyH.nil
        rw [if_pos (by rfl)]; go_simp
        first | replace HZ := Lib.hid (HZ.out.alloc HZ.out.size (.cells (rowA k (fun _ => 0)) 5)) | replace HZ := Lib.hid ((HZ.out (rowV k wr.heap.size)).alloc (HZ.out (rowV k wr.heap.size)).size (.cells (rowA k (fun _ => 0)) 5))
        clear hHeld
        refine hK.out _ _ ?_ (fun hHeld => ?_)
        · ((try dsimp only); exact HY.out _ HZ.out)
        clear hK K
        refine wpAnyH_ready (rs := [8]) (by kernel_rfl) (by simp) ?_
        refine AllReadyH.cons (o := { dst := some 42, op := .makeSlice 22 (.tmp 41) (.tmp 41), type := 22, pos := _, after := _, guard := none }) rfl (fun K hK => ?_) AllReadyH.nil
        rw [if_pos (by rfl)]; go_simp
        replace HZ := Lib.hid (HZ.out.alloc HZ.out.size (.cells (rowA k (fun _ => 0)) 5))
        clear hHeld
        refine hK.out _ _ ?_ (fun hHeld => ?_)
        · ((try dsimp only); exact HY.out _ HZ.out)
        clear hK K
        refine wpAnyH_take (i := 14) (oi := { dst := some 48, op := .indexAddr 39 (.tmp 34) (.tmp 35), type := 0, pos := _, after := _, guard := none }) (v := ?_) rfl (by kernel_rfl) (by kernel_rfl) (by kernel_rfl) (fun _ _ _ h => h) (Or.inl ⟨by rfl, ?_⟩) (by assumption) ?_
        rotate_left 1
        · (intro w hSw; (try dsimp only at hSw); go_simp; try with_reducible rfl)
        try simp only [Act.put, List.setIfInBounds_toArray, List.set_cons_zero, List.set_cons_succ]
        refine wpAnyH_ready (rs := [15]) (by kernel_rfl) (by simp) ?_
        refine AllReadyH.cons (o := { dst := none, op := .store 22 (.tmp 48) (.tmp 42), type := 0, pos := _, after := _, guard := none }) rfl (fun K hK => ?_) AllReadyH.nil
        go_simp
        have HZ := Lib.hid (fun v => HZ.out.setCell (p := ⟨bp, i, none⟩) HQ.out.p.lo v)
        clear hHeld
        refine hK.out _ _ ?_ (fun hHeld => ?_)
        · ((try dsimp only); exact HY.out _ (HZ.out _))
        clear hK K
        refine wpAnyH_take (i := 16) (oi := { dst := some 49, op := .indexAddr 39 (.tmp 36) (.tmp 37), type := 0, pos := _, after := _, guard := none }) (v := ?_) rfl (by kernel_rfl) (by kernel_rfl) (by kernel_rfl) (fun _ _ _ h => h) (Or.inl ⟨by rfl, ?_⟩) (by assumption) ?_
        rotate_left 1
        · (intro w hSw; (try dsimp only at hSw); go_simp; try with_reducible rfl)
        try simp only [Act.put, List.setIfInBounds_toArray, List.set_cons_zero, List.set_cons_succ]
        refine wpAnyH_ready (rs := [17]) (by kernel_rfl) (by simp) ?_
        refine AllReadyH.cons (o := { dst := none, op := .store 22 (.tmp 49) (.tmp 47), type := 0, pos := _, after := _, guard := none }) rfl (fun K hK => ?_) AllReadyH.nil
        go_simp
        clear hHeld
        refine hK.out _ _ ?_ (fun hHeld => ?_)
        · ((try dsimp only); (first | exact HY.out _ (HBB.out _ _).1 | exact HY.out _ (HBB.out _ _).2))
        clear hK K
        refine wpAnyH_done (by kernel_rfl) ?_ _
        refine NoPanic.normal ?_
        (go_wp2; go_roundw; (case rel => first | (obtain ⟨q1, q2, hq⟩ := HQA.out; exact ⟨i + 1, q1, q2, by omega, by go_num, Lib.hid hq, Lib.hid (HBB.out _ _).1⟩) | (obtain ⟨q1, q2, hq⟩ := HQB.out; exact ⟨i + 1, q1, q2, by omega, by go_num, Lib.hid hq, Lib.hid (HBB.out _ _).1⟩) | (obtain ⟨q1, q2, hq⟩ := HQC.out; exact ⟨i + 1, q1, q2, by omega, by go_num, Lib.hid hq, Lib.hid (HBB.out _ _).2⟩)); (case measure => simp [intOf]; omega))
      · obtain rfl : k = i := by omega
        obtain ⟨x2, hx2⟩ : ∃ x2, x2 = wr := ⟨_, rfl⟩
        have HQ0 := Lib.hid (show Sq2 wr w.heap.size k k bp bq gp gq zM zM from HQ.out)
        have HB0 := Lib.hid (show Below w.heap.size w wr from HB.out)
        clear HQ HB hx2 x2
        go_upto_region 8 with (fail)
        go_loopw [11, 12, 13, 14, 15, 16, 17, 18, 53] (fun _ _ _ _ _ _ _ _ iv wr => ∃ (i : Nat) (M N : Mtx), i ≤ k ∧ iv = .int .i64 i ∧ Hid (Dn k (twoS a f S1) M i 0 ∧ BytM M) ∧ Hid (Dn k (twoS a f S2) N i 0 ∧ BytM N) ∧ Hid (Sq2 wr w.heap.size k k bp bq gp gq M N) ∧ Hid (Below w.heap.size w wr)) (fun _ _ _ _ _ _ _ _ iv _ => k - (intOf iv).toNat)
        case atStart => exact ⟨0, _, _, by omega, rfl, Lib.hid ⟨Dn.start _ _ _, zM_byt⟩, Lib.hid ⟨Dn.start _ _ _, zM_byt⟩, HQ0, HB0⟩
        case round =>
          clear HQ0 HB0
          obtain ⟨i, M, N, hi, rfl, HM, HN, HQ, HB⟩ := hrel
          by_cases hlt : i < k
          · have g1 : (i : Int) < (k : Int) := by omega
            have g2 : (0 : Int) ≤ (i : Int) := by omega
            go_upto_region 11 with (fail)
            go_loopw [12, 13, 14, 15, 16, 17, 18, 57] (fun _ _ _ _ _ _ _ jv wr => ∃ (j : Nat) (M N : Mtx), j ≤ i ∧ jv = .int .i64 j ∧ Hid (Dn k (twoS a f S1) M i j ∧ BytM M) ∧ Hid (Dn k (twoS a f S2) N i j ∧ BytM N) ∧ Hid (Sq2 wr w.heap.size k k bp bq gp gq M N) ∧ Hid (Below w.heap.size w wr)) (fun _ _ _ _ _ _ _ jv _ => i - (intOf jv).toNat)
            case atStart => exact ⟨0, M, N, by omega, rfl, HM, HN, HQ, HB⟩
            case round =>
              clear HM HN HQ HB M N
              obtain ⟨j, M, N, hj, rfl, HM, HN, HQ, HB⟩ := hrel
              by_cases hji : j < i
              · have g3 : (j : Int) < (i : Int) := by omega
                have g4 : (0 : Int) ≤ (j : Int) := by omega
                have g5 : (j : Int) < (k : Int) := by omega
                have hik : i < k := by omega
                have hjk : j < k := by omega
                have g6 : (i : Int) < (k : Int) := by omega
                obtain ⟨A3, c3, kx3, kr3⟩ := HXR.out i hik
                obtain ⟨A4, c4, kx4, kr4⟩ := HXR.out j hjk
                obtain ⟨ad, e, ks3⟩ := HPS.out w (Below.refl _ _) i hik
                injection e with e
                subst e
                obtain ⟨ad, e, ks4⟩ := HPS.out w (Below.refl _ _) j hjk
                injection e with e
                subst e
                obtain ⟨si, hsi⟩ : ∃ si, si = s i := ⟨_, rfl⟩
                obtain ⟨sj, hsj⟩ : ∃ sj, sj = s j := ⟨_, rfl⟩
                have SHi := Lib.hid (fun W hB => SH.out W hB i hik)
                have SHj := Lib.hid (fun W hB => SH.out W hB j hjk)
                have FCi := Lib.hid (fun W hB => FC.out W hB i hik)
                have FCj := Lib.hid (fun W hB => FC.out W hB j hjk)
                rw [← hsi] at ks3 SHi FCi
                rw [← hsj] at ks4 SHj FCj
                have DTi := Lib.hid (fun W (hB : Below w.heap.size w W) c8 A8 h2 => DT.out W hB i j hik c3 A3 c8 A8 (Kd.C_below kr3 hB) h2)
                have DTj := Lib.hid (fun W (hB : Below w.heap.size w W) c8 A8 h2 => DT.out W hB j i hjk c4 A4 c8 A8 (Kd.C_below kr4 hB) h2)
                have KK := Lib.hid (fun W (hB : Below w.heap.size w W) => (⟨pw_cell_below hB kx3, pw_cell_below hB kx4, pw_cell_below hB ks3, pw_cell_below hB ks4⟩ : W.cell? (adX.add i) = some (.slice A3 a c3) ∧ W.cell? (adX.add j) = some (.slice A4 a c4) ∧ W.cell? (adA.add (i * 2)) = some (.int .i64 si) ∧ W.cell? (adA.add (j * 2)) = some (.int .i64 sj)))
                have hdv := half_div HFB.out HXX.out.2 HS1.out.2 HS2.out.2 i j hik hjk
                have hpp := half_p HFB.out HXX.out.2 i j hik
                have hlne : xorI (lamI a f i) (lamI a f j) ≠ 0 := xor_ne (lamI_byt HFB.out i) (lamI_byt HFB.out j) (fun e => by have := HLA.out i j hik hjk e; omega)
                obtain ⟨av, hav⟩ : ∃ av, av = avI a f X i j := ⟨_, rfl⟩
                obtain ⟨bv, hbv⟩ : ∃ bv, bv = avI a f X j i := ⟨_, rfl⟩
                obtain ⟨li, hli⟩ : ∃ li, li = lamI a f i := ⟨_, rfl⟩
                obtain ⟨lj, hlj⟩ : ∃ lj, lj = lamI a f j := ⟨_, rfl⟩
                obtain ⟨y, hy⟩ : ∃ y, y = twoS a f S2 i j := ⟨_, rfl⟩
                obtain ⟨z, hz⟩ : ∃ z, z = twoS a f S1 i j := ⟨_, rfl⟩
                have BV := Lib.hid (show Byt av ∧ Byt bv ∧ Byt li ∧ Byt lj ∧ Byt y ∧ Byt z by rw [hav, hbv, hli, hlj, hy, hz]; exact ⟨avI_byt _ _ _ _ _, avI_byt _ _ _ _ _, lamI_byt HFB.out _, lamI_byt HFB.out _, twoS_byt _ _ _ _ _, twoS_byt _ _ _ _ _⟩)
                rw [← hav, ← hbv, ← hli, ← hlj, ← hy] at hdv
                rw [← hav, ← hli, ← hy, ← hz] at hpp
                rw [← hli, ← hlj] at hlne
                rw [← hav] at DTi
                rw [← hbv] at DTj
                rw [← hli] at FCi
                rw [← hlj] at FCj
                have HY2 := Lib.hid hy
                have HZ2 := Lib.hid hz
                have ADa := Lib.hid (fun W => show Calls Try.prog 25 #[.int .u8 av, .int .u8 bv] W fun e w' => e = .returned (.int .u8 (gmI y (xorI li lj))) ∧ w' = W by rw [← hdv]; exact add_still av bv W BV.out.1 BV.out.2.1)
                have ADb := Lib.hid (fun W => add_still li lj W BV.out.2.2.1 BV.out.2.2.2.1)
                have DV := Lib.hid (fun W => div_is y (xorI li lj) BV.out.2.2.2.2.1 (xorI_byt BV.out.2.2.1 BV.out.2.2.2.1) hlne W)
                have ML := Lib.hid (fun W => mul_still li y W BV.out.2.2.1 BV.out.2.2.2.2.1)
                have ADc := Lib.hid (fun W => show Calls Try.prog 25 #[.int .u8 av, .int .u8 (gmI li y)] W fun e w' => e = .returned (.int .u8 z) ∧ w' = W by rw [← hpp]; exact add_still av (gmI li y) W BV.out.1 (gmI_byt BV.out.2.2.1))
                obtain ⟨gy, hgy⟩ : ∃ gy, gy = gmI li y := ⟨_, rfl⟩
                obtain ⟨xl, hxl⟩ : ∃ xl, xl = xorI li lj := ⟨_, rfl⟩
                obtain ⟨gd, hgd⟩ : ∃ gd, gd = gmI y xl := ⟨_, rfl⟩
                rw [← hgy] at ML ADc
                rw [← hxl] at ADa ADb DV
                rw [← hgd] at ADa DV
                clear hav hbv hli hlj hy hz hdv hpp hlne hsi hsj kx3 kx4 kr3 kr4 ks3 ks4 hgy hxl hgd hik hjk
                go_upto_region 13 with (fail)
                have HZ := Lib.hid (show Below w.heap.size w wr.drew from HB.out.drew)
                have HQZ := Lib.hid (show Sq2 wr.drew w.heap.size k k bp bq gp gq M N from HQ.out.below (Below.refl _ _).drew)
                clear HB HQ
                refine wp_region_noPanic ?_
                refine wp_region_held_drew (S := (fun W => W.cell? (adX.add i) = some (.slice A3 a c3) ∧ W.cell? (adX.add j) = some (.slice A4 a c4) ∧ W.cell? (adA.add (i * 2)) = some (.int .i64 si) ∧ W.cell? (adA.add (j * 2)) = some (.int .i64 sj))) (by kernel_rfl) ?_ (fun hHeld => ?_)
                · ((try dsimp only); exact KK.out _ HZ.out)
                refine wpAnyH_take (i := 0) (oi := { dst := some 60, op := .move (.tmp 2), type := 39, pos := _, after := _, guard := none }) (v := ?_) rfl (by kernel_rfl) (by kernel_rfl) (by kernel_rfl) (fun _ _ _ h => h) (Or.inl ⟨by rfl, ?_⟩) (by assumption) ?_
                rotate_left 1
                · (intro w hSw; (try dsimp only at hSw); go_simp; try with_reducible rfl)
                try simp only [Act.put, List.setIfInBounds_toArray, List.set_cons_zero, List.set_cons_succ]
                refine wpAnyH_take (i := 1) (oi := { dst := some 61, op := .move (.tmp 11), type := 3, pos := _, after := _, guard := none }) (v := ?_) rfl (by kernel_rfl) (by kernel_rfl) (by kernel_rfl) (fun _ _ _ h => h) (Or.inl ⟨by rfl, ?_⟩) (by assumption) ?_
                rotate_left 1
                · (intro w hSw; (try dsimp only at hSw); go_simp; try with_reducible rfl)
                try simp only [Act.put, List.setIfInBounds_toArray, List.set_cons_zero, List.set_cons_succ]
                refine wpAnyH_take (i := 2) (oi := { dst := some 62, op := .indexAddr 39 (.tmp 60) (.tmp 61), type := 0, pos := _, after := _, guard := none }) (v := ?_) rfl (by kernel_rfl) (by kernel_rfl) (by kernel_rfl) (fun _ _ _ h => h) (Or.inl ⟨by rfl, ?_⟩) (by assumption) ?_
                rotate_left 1
                · (intro w hSw; (try dsimp only at hSw); go_simp; try with_reducible rfl)
                try simp only [Act.put, List.setIfInBounds_toArray, List.set_cons_zero, List.set_cons_succ]
                refine wpAnyH_take (i := 3) (oi := { dst := some 63, op := .load 22 (.tmp 62), type := 22, pos := _, after := _, guard := none }) (v := ?_) rfl (by kernel_rfl) (by kernel_rfl) (by kernel_rfl) (fun _ _ _ h => h) (Or.inl ⟨by rfl, ?_⟩) (by assumption) ?_
                rotate_left 1
                · (intro w hSw; (try dsimp only at hSw); go_simp; try with_reducible rfl)
                try simp only [Act.put, List.setIfInBounds_toArray, List.set_cons_zero, List.set_cons_succ]
                refine wpAnyH_take (i := 4) (oi := { dst := some 64, op := .move (.tmp 0), type := 25, pos := _, after := _, guard := none }) (v := ?_) rfl (by kernel_rfl) (by kernel_rfl) (by kernel_rfl) (fun _ _ _ h => h) (Or.inl ⟨by rfl, ?_⟩) (by assumption) ?_
                rotate_left 1
                · (intro w hSw; (try dsimp only at hSw); go_simp; try with_reducible rfl)
                try simp only [Act.put, List.setIfInBounds_toArray, List.set_cons_zero, List.set_cons_succ]
                refine wpAnyH_take (i := 5) (oi := { dst := some 65, op := .move (.tmp 1), type := 35, pos := _, after := _, guard := none }) (v := ?_) rfl (by kernel_rfl) (by kernel_rfl) (by kernel_rfl) (fun _ _ _ h => h) (Or.inl ⟨by rfl, ?_⟩) (by assumption) ?_
                rotate_left 1
                · (intro w hSw; (try dsimp only at hSw); go_simp; try with_reducible rfl)
                try simp only [Act.put, List.setIfInBounds_toArray, List.set_cons_zero, List.set_cons_succ]
                refine wpAnyH_take (i := 6) (oi := { dst := some 66, op := .move (.tmp 12), type := 3, pos := _, after := _, guard := none }) (v := ?_) rfl (by kernel_rfl) (by kernel_rfl) (by kernel_rfl) (fun _ _ _ h => h) (Or.inl ⟨by rfl, ?_⟩) (by assumption) ?_
                rotate_left 1
                · (intro w hSw; (try dsimp only at hSw); go_simp; try with_reducible rfl)
                try simp only [Act.put, List.setIfInBounds_toArray, List.set_cons_zero, List.set_cons_succ]
                refine wpAnyH_take (i := 7) (oi := { dst := some 67, op := .indexAddr 35 (.tmp 65) (.tmp 66), type := 0, pos := _, after := _, guard := none }) (v := ?_) rfl (by kernel_rfl) (by kernel_rfl) (by kernel_rfl) (fun _ _ _ h => h) (Or.inl ⟨by rfl, ?_⟩) (by assumption) ?_
                rotate_left 1
                · (intro w hSw; (try dsimp only at hSw); go_simp; try with_reducible rfl)
                try simp only [Act.put, List.setIfInBounds_toArray, List.set_cons_zero, List.set_cons_succ]
                refine wpAnyH_take (i := 8) (oi := { dst := some 68, op := .fieldAddr 37 (.tmp 67) 0, type := 0, pos := _, after := _, guard := none }) (v := ?_) rfl (by kernel_rfl) (by kernel_rfl) (by kernel_rfl) (fun _ _ _ h => h) (Or.inl ⟨by rfl, ?_⟩) (by assumption) ?_
                rotate_left 1
                · (intro w hSw; (try dsimp only at hSw); go_simp; try with_reducible rfl)
                try simp only [Act.put, List.setIfInBounds_toArray, List.set_cons_zero, List.set_cons_succ]
                refine wpAnyH_take (i := 9) (oi := { dst := some 69, op := .load 3 (.tmp 68), type := 3, pos := _, after := _, guard := none }) (v := ?_) rfl (by kernel_rfl) (by kernel_rfl) (by kernel_rfl) (fun _ _ _ h => h) (Or.inl ⟨by rfl, ?_⟩) (by assumption) ?_
                rotate_left 1
                · (intro w hSw; (try dsimp only at hSw); go_simp; try with_reducible rfl)
                try simp only [Act.put, List.setIfInBounds_toArray, List.set_cons_zero, List.set_cons_succ]
                refine wpAnyH_ready (rs := [10]) (by kernel_rfl) (by simp) ?_
                refine AllReadyH.cons (o := { dst := some 70, op := .call { callee := .value (.func 71), args := #[.tmp 64, .tmp 69], argTypes := #[25, 3] }, type := 22, pos := _, after := _, guard := none }) rfl (fun K hK => ?_) AllReadyH.nil
                go_simp
                go_at_call 71
                (refine (SHj.out _ HZ.out).mono ?_); rintro e x1 ⟨A8, c8, rfl, hr8, hb⟩
                have HR8 := Lib.hid hr8
                replace HQZ := Lib.hid (HQZ.out.below hb)
                replace HZ := Lib.hid (HZ.out.trans (hb.mono HZ.out.size))
                clear hr8 hb
                clear hHeld
                refine hK.out _ _ ?_ (fun hHeld => ?_)
                · ((try dsimp only); exact KK.out _ HZ.out)
                clear hK K
                refine wpAnyH_ready (rs := [11]) (by kernel_rfl) (by simp) ?_
                refine AllReadyH.cons (o := { dst := some 71, op := .call { callee := .value (.func 70), args := #[.tmp 63, .tmp 70], argTypes := #[22, 22] }, type := 5, pos := _, after := _, guard := none }) rfl (fun K hK => ?_) AllReadyH.nil
                go_simp
                go_at_call 70
                (refine (DTi.out _ HZ.out _ _ (by have h := (Kd.R_reads' HR8.out).2.2; rw [line_len] at h; exact h)).mono ?_); rintro e x2 ⟨rfl, nd, hx2⟩
                replace HQZ := Lib.hid (show Sq2 x2 w.heap.size k k bp bq gp gq M N by rw [hx2]; exact HQZ.out.below (pw_below_drewN (Below.refl _ _) nd))
                replace HZ := Lib.hid (show Below w.heap.size w x2 by rw [hx2]; exact pw_below_drewN HZ.out nd)
                clear hx2 HR8
                clear hHeld
                refine hK.out _ _ ?_ (fun hHeld => ?_)
                · ((try dsimp only); exact KK.out _ HZ.out)
                clear hK K
                refine wpAnyH_take (i := 12) (oi := { dst := some 13, op := .assign (.tmp 71), type := 5, pos := _, after := _, guard := none }) (v := ?_) rfl (by kernel_rfl) (by kernel_rfl) (by kernel_rfl) (fun _ _ _ h => h) (Or.inl ⟨by rfl, ?_⟩) (by assumption) ?_
                rotate_left 1
                · (intro w hSw; (try dsimp only at hSw); go_simp; try with_reducible rfl)
                try simp only [Act.put, List.setIfInBounds_toArray, List.set_cons_zero, List.set_cons_succ]
                refine wpAnyH_done (by kernel_rfl) ?_ _
                refine NoPanic.normal ?_
                clear hHeld
                go_upto_region 14 with (fail)
                replace HZ := Lib.hid (show Below w.heap.size w x2.drew from HZ.out.drew)
                replace HQZ := Lib.hid (show Sq2 x2.drew w.heap.size k k bp bq gp gq M N from HQZ.out.below (Below.refl _ _).drew)
                refine wp_region_noPanic ?_
                refine wp_region_held_drew (S := (fun W => W.cell? (adX.add i) = some (.slice A3 a c3) ∧ W.cell? (adX.add j) = some (.slice A4 a c4) ∧ W.cell? (adA.add (i * 2)) = some (.int .i64 si) ∧ W.cell? (adA.add (j * 2)) = some (.int .i64 sj))) (by kernel_rfl) ?_ (fun hHeld => ?_)
                · ((try dsimp only); exact KK.out _ HZ.out)
                refine wpAnyH_take (i := 0) (oi := { dst := some 72, op := .move (.tmp 2), type := 39, pos := _, after := _, guard := none }) (v := ?_) rfl (by kernel_rfl) (by kernel_rfl) (by kernel_rfl) (fun _ _ _ h => h) (Or.inl ⟨by rfl, ?_⟩) (by assumption) ?_
                rotate_left 1
                · (intro w hSw; (try dsimp only at hSw); go_simp; try with_reducible rfl)
                try simp only [Act.put, List.setIfInBounds_toArray, List.set_cons_zero, List.set_cons_succ]
                refine wpAnyH_take (i := 1) (oi := { dst := some 73, op := .move (.tmp 12), type := 3, pos := _, after := _, guard := none }) (v := ?_) rfl (by kernel_rfl) (by kernel_rfl) (by kernel_rfl) (fun _ _ _ h => h) (Or.inl ⟨by rfl, ?_⟩) (by assumption) ?_
                rotate_left 1
                · (intro w hSw; (try dsimp only at hSw); go_simp; try with_reducible rfl)
                try simp only [Act.put, List.setIfInBounds_toArray, List.set_cons_zero, List.set_cons_succ]
                refine wpAnyH_take (i := 2) (oi := { dst := some 74, op := .indexAddr 39 (.tmp 72) (.tmp 73), type := 0, pos := _, after := _, guard := none }) (v := ?_) rfl (by kernel_rfl) (by kernel_rfl) (by kernel_rfl) (fun _ _ _ h => h) (Or.inl ⟨by rfl, ?_⟩) (by assumption) ?_
                rotate_left 1
                · (intro w hSw; (try dsimp only at hSw); go_simp; try with_reducible rfl)
                try simp only [Act.put, List.setIfInBounds_toArray, List.set_cons_zero, List.set_cons_succ]
                refine wpAnyH_take (i := 3) (oi := { dst := some 75, op := .load 22 (.tmp 74), type := 22, pos := _, after := _, guard := none }) (v := ?_) rfl (by kernel_rfl) (by kernel_rfl) (by kernel_rfl) (fun _ _ _ h => h) (Or.inl ⟨by rfl, ?_⟩) (by assumption) ?_
                rotate_left 1
                · (intro w hSw; (try dsimp only at hSw); go_simp; try with_reducible rfl)
                try simp only [Act.put, List.setIfInBounds_toArray, List.set_cons_zero, List.set_cons_succ]
                refine wpAnyH_take (i := 4) (oi := { dst := some 76, op := .move (.tmp 0), type := 25, pos := _, after := _, guard := none }) (v := ?_) rfl (by kernel_rfl) (by kernel_rfl) (by kernel_rfl) (fun _ _ _ h => h) (Or.inl ⟨by rfl, ?_⟩) (by assumption) ?_
                rotate_left 1
                · (intro w hSw; (try dsimp only at hSw); go_simp; try with_reducible rfl)
                try simp only [Act.put, List.setIfInBounds_toArray, List.set_cons_zero, List.set_cons_succ]
                refine wpAnyH_take (i := 5) (oi := { dst := some 77, op := .move (.tmp 1), type := 35, pos := _, after := _, guard := none }) (v := ?_) rfl (by kernel_rfl) (by kernel_rfl) (by kernel_rfl) (fun _ _ _ h => h) (Or.inl ⟨by rfl, ?_⟩) (by assumption) ?_
                rotate_left 1
                · (intro w hSw; (try dsimp only at hSw); go_simp; try with_reducible rfl)
                try simp only [Act.put, List.setIfInBounds_toArray, List.set_cons_zero, List.set_cons_succ]
                refine wpAnyH_take (i := 6) (oi := { dst := some 78, op := .move (.tmp 11), type := 3, pos := _, after := _, guard := none }) (v := ?_) rfl (by kernel_rfl) (by kernel_rfl) (by kernel_rfl) (fun _ _ _ h => h) (Or.inl ⟨by rfl, ?_⟩) (by assumption) ?_
                rotate_left 1
                · (intro w hSw; (try dsimp only at hSw); go_simp; try with_reducible rfl)
                try simp only [Act.put, List.setIfInBounds_toArray, List.set_cons_zero, List.set_cons_succ]
                refine wpAnyH_take (i := 7) (oi := { dst := some 79, op := .indexAddr 35 (.tmp 77) (.tmp 78), type := 0, pos := _, after := _, guard := none }) (v := ?_) rfl (by kernel_rfl) (by kernel_rfl) (by kernel_rfl) (fun _ _ _ h => h) (Or.inl ⟨by rfl, ?_⟩) (by assumption) ?_
                rotate_left 1
                · (intro w hSw; (try dsimp only at hSw); go_simp; try with_reducible rfl)
                try simp only [Act.put, List.setIfInBounds_toArray, List.set_cons_zero, List.set_cons_succ]
                refine wpAnyH_take (i := 8) (oi := { dst := some 80, op := .fieldAddr 37 (.tmp 79) 0, type := 0, pos := _, after := _, guard := none }) (v := ?_) rfl (by kernel_rfl) (by kernel_rfl) (by kernel_rfl) (fun _ _ _ h => h) (Or.inl ⟨by rfl, ?_⟩) (by assumption) ?_
                rotate_left 1
                · (intro w hSw; (try dsimp only at hSw); go_simp; try with_reducible rfl)
                try simp only [Act.put, List.setIfInBounds_toArray, List.set_cons_zero, List.set_cons_succ]
                refine wpAnyH_take (i := 9) (oi := { dst := some 81, op := .load 3 (.tmp 80), type := 3, pos := _, after := _, guard := none }) (v := ?_) rfl (by kernel_rfl) (by kernel_rfl) (by kernel_rfl) (fun _ _ _ h => h) (Or.inl ⟨by rfl, ?_⟩) (by assumption) ?_
                rotate_left 1
                · (intro w hSw; (try dsimp only at hSw); go_simp; try with_reducible rfl)
                try simp only [Act.put, List.setIfInBounds_toArray, List.set_cons_zero, List.set_cons_succ]
                refine wpAnyH_ready (rs := [10]) (by kernel_rfl) (by simp) ?_
                refine AllReadyH.cons (o := { dst := some 82, op := .call { callee := .value (.func 71), args := #[.tmp 76, .tmp 81], argTypes := #[25, 3] }, type := 22, pos := _, after := _, guard := none }) rfl (fun K hK => ?_) AllReadyH.nil
                go_simp
                go_at_call 71
                (refine (SHi.out _ HZ.out).mono ?_); rintro e x3 ⟨A8, c8, rfl, hr8, hb⟩
                have HR8 := Lib.hid hr8
                replace HQZ := Lib.hid (HQZ.out.below hb)
                replace HZ := Lib.hid (HZ.out.trans (hb.mono HZ.out.size))
                clear hr8 hb
                clear hHeld
                refine hK.out _ _ ?_ (fun hHeld => ?_)
                · ((try dsimp only); exact KK.out _ HZ.out)
                clear hK K
                refine wpAnyH_ready (rs := [11]) (by kernel_rfl) (by simp) ?_
                refine AllReadyH.cons (o := { dst := some 83, op := .call { callee := .value (.func 70), args := #[.tmp 75, .tmp 82], argTypes := #[22, 22] }, type := 5, pos := _, after := _, guard := none }) rfl (fun K hK => ?_) AllReadyH.nil
                go_simp
                go_at_call 70
                (refine (DTj.out _ HZ.out _ _ (by have h := (Kd.R_reads' HR8.out).2.2; rw [line_len] at h; exact h)).mono ?_); rintro e x4 ⟨rfl, nd, hx4⟩
                replace HQZ := Lib.hid (show Sq2 x4 w.heap.size k k bp bq gp gq M N by rw [hx4]; exact HQZ.out.below (pw_below_drewN (Below.refl _ _) nd))
                replace HZ := Lib.hid (show Below w.heap.size w x4 by rw [hx4]; exact pw_below_drewN HZ.out nd)
                clear hx4 HR8
                clear hHeld
                refine hK.out _ _ ?_ (fun hHeld => ?_)
                · ((try dsimp only); exact KK.out _ HZ.out)
                clear hK K
                refine wpAnyH_take (i := 12) (oi := { dst := some 14, op := .assign (.tmp 83), type := 5, pos := _, after := _, guard := none }) (v := ?_) rfl (by kernel_rfl) (by kernel_rfl) (by kernel_rfl) (fun _ _ _ h => h) (Or.inl ⟨by rfl, ?_⟩) (by assumption) ?_
                rotate_left 1
                · (intro w hSw; (try dsimp only at hSw); go_simp; try with_reducible rfl)
                try simp only [Act.put, List.setIfInBounds_toArray, List.set_cons_zero, List.set_cons_succ]
                refine wpAnyH_done (by kernel_rfl) ?_ _
                refine NoPanic.normal ?_
                clear hHeld SHi SHj DTi DTj
                go_upto_region 15 with (fail)
                obtain ⟨_, _, ks3, ks4⟩ := KK.out _ HZ.out
                go_quiet ((go_at_call 72; with_reducible (first | exact Calls.quiet_of (FCi.out _ (pw_below_drewN HZ.out _)) | exact Calls.quiet_of (FCj.out _ (pw_below_drewN HZ.out _)))))
                obtain ⟨x5, hx5⟩ : ∃ x5, x5 = x4.drewN nq := ⟨_, rfl⟩
                rw [← hx5]
                replace HQZ := Lib.hid (show Sq2 x5 w.heap.size k k bp bq gp gq M N by rw [hx5]; exact HQZ.out.below (pw_below_drewN (Below.refl _ _) nq))
                replace HZ := Lib.hid (show Below w.heap.size w x5 by rw [hx5]; exact pw_below_drewN HZ.out nq)
                clear hx5 ks3 ks4 FCi FCj
                go_upto_region 17 with (first
                  | (go_at_call 25; (with_reducible (first | refine (ADa.out _).mono ?_ | refine (ADb.out _).mono ?_)); rintro e u ⟨rfl, hu⟩; have hu' := hu.symm; subst hu'; clear hu)
                  | (go_at_call 73; (with_reducible refine (DV.out _).mono ?_); rintro e u ⟨rfl, hu⟩; have hu' := hu.symm; subst hu'; clear hu))
                clear ADa ADb DV
                have hik : i < k := by omega
                have hjk : j < k := by omega
                have q1 := sq_cells HQZ.out.q (Nat.le_refl _) i hik
                have q2 := sq_cells HQZ.out.q (Nat.le_refl _) j hjk
                have q3 := sq_cell HQZ.out.q i hik j hjk
                have HP2 := Lib.hid (HQZ.out.putq i j hik y)
                have q4 := sq_cell HP2.out.q j hjk i hik
                have HP3 := Lib.hid (HP2.out.putq j i hjk y)
                obtain ⟨q3, q3'⟩ := q3
                obtain ⟨q4, q4'⟩ := q4
                have p1 := sq_cells HP2.out.q (Nat.le_refl _) i hik
                have p2 := sq_cells HP2.out.q (Nat.le_refl _) j hjk
                have HK1 := Lib.hid (And.intro q1 q2)
                have HK2 := Lib.hid (And.intro p1 p2)
                have p3 := sq_cells HP3.out.q (Nat.le_refl _) i hik
                have p4 := sq_cells HP3.out.q (Nat.le_refl _) j hjk
                have HK3 := Lib.hid (And.intro p3 p4)
                clear p1 p2 p3 p4 q1 q2
                refine wp_region_noPanic ?_
                refine wp_region_held_drew (S := (fun W => W.cell? ⟨bq, i, none⟩ = some (.slice (some ⟨gq i, 0, none⟩) k k) ∧ W.cell? ⟨bq, j, none⟩ = some (.slice (some ⟨gq j, 0, none⟩) k k))) (by kernel_rfl) ?_ (fun hHeld => ?_)
                · ((try dsimp only); exact HK1.out)
                refine wpAnyH_take (i := 0) (oi := { dst := some 108, op := .move (.tmp 9), type := 39, pos := _, after := _, guard := none }) (v := ?_) rfl (by kernel_rfl) (by kernel_rfl) (by kernel_rfl) (fun _ _ _ h => h) (Or.inl ⟨by rfl, ?_⟩) (by assumption) ?_
                rotate_left 1
                · (intro w hSw; (try dsimp only at hSw); go_simp; try with_reducible rfl)
                try simp only [Act.put, List.setIfInBounds_toArray, List.set_cons_zero, List.set_cons_succ]
                refine wpAnyH_take (i := 1) (oi := { dst := some 109, op := .move (.tmp 11), type := 3, pos := _, after := _, guard := none }) (v := ?_) rfl (by kernel_rfl) (by kernel_rfl) (by kernel_rfl) (fun _ _ _ h => h) (Or.inl ⟨by rfl, ?_⟩) (by assumption) ?_
                rotate_left 1
                · (intro w hSw; (try dsimp only at hSw); go_simp; try with_reducible rfl)
                try simp only [Act.put, List.setIfInBounds_toArray, List.set_cons_zero, List.set_cons_succ]
                refine wpAnyH_take (i := 2) (oi := { dst := some 110, op := .indexAddr 39 (.tmp 108) (.tmp 109), type := 0, pos := _, after := _, guard := none }) (v := ?_) rfl (by kernel_rfl) (by kernel_rfl) (by kernel_rfl) (fun _ _ _ h => h) (Or.inl ⟨by rfl, ?_⟩) (by assumption) ?_
                rotate_left 1
                · (intro w hSw; (try dsimp only at hSw); go_simp; try with_reducible rfl)
                try simp only [Act.put, List.setIfInBounds_toArray, List.set_cons_zero, List.set_cons_succ]
                refine wpAnyH_take (i := 3) (oi := { dst := some 111, op := .load 22 (.tmp 110), type := 22, pos := _, after := _, guard := none }) (v := ?_) rfl (by kernel_rfl) (by kernel_rfl) (by kernel_rfl) (fun _ _ _ h => h) (Or.inl ⟨by rfl, ?_⟩) (by assumption) ?_
                rotate_left 1
                · (intro w hSw; (try dsimp only at hSw); go_simp; try with_reducible rfl)
                try simp only [Act.put, List.setIfInBounds_toArray, List.set_cons_zero, List.set_cons_succ]
                refine wpAnyH_take (i := 4) (oi := { dst := some 112, op := .move (.tmp 12), type := 3, pos := _, after := _, guard := none }) (v := ?_) rfl (by kernel_rfl) (by kernel_rfl) (by kernel_rfl) (fun _ _ _ h => h) (Or.inl ⟨by rfl, ?_⟩) (by assumption) ?_
                rotate_left 1
                · (intro w hSw; (try dsimp only at hSw); go_simp; try with_reducible rfl)
                try simp only [Act.put, List.setIfInBounds_toArray, List.set_cons_zero, List.set_cons_succ]
                refine wpAnyH_take (i := 5) (oi := { dst := some 113, op := .move (.tmp 9), type := 39, pos := _, after := _, guard := none }) (v := ?_) rfl (by kernel_rfl) (by kernel_rfl) (by kernel_rfl) (fun _ _ _ h => h) (Or.inl ⟨by rfl, ?_⟩) (by assumption) ?_
                rotate_left 1
                · (intro w hSw; (try dsimp only at hSw); go_simp; try with_reducible rfl)
                try simp only [Act.put, List.setIfInBounds_toArray, List.set_cons_zero, List.set_cons_succ]
                refine wpAnyH_take (i := 6) (oi := { dst := some 114, op := .move (.tmp 12), type := 3, pos := _, after := _, guard := none }) (v := ?_) rfl (by kernel_rfl) (by kernel_rfl) (by kernel_rfl) (fun _ _ _ h => h) (Or.inl ⟨by rfl, ?_⟩) (by assumption) ?_
                rotate_left 1
                · (intro w hSw; (try dsimp only at hSw); go_simp; try with_reducible rfl)
                try simp only [Act.put, List.setIfInBounds_toArray, List.set_cons_zero, List.set_cons_succ]
                refine wpAnyH_take (i := 7) (oi := { dst := some 115, op := .indexAddr 39 (.tmp 113) (.tmp 114), type := 0, pos := _, after := _, guard := none }) (v := ?_) rfl (by kernel_rfl) (by kernel_rfl) (by kernel_rfl) (fun _ _ _ h => h) (Or.inl ⟨by rfl, ?_⟩) (by assumption) ?_
                rotate_left 1
                · (intro w hSw; (try dsimp only at hSw); go_simp; try with_reducible rfl)
                try simp only [Act.put, List.setIfInBounds_toArray, List.set_cons_zero, List.set_cons_succ]
                refine wpAnyH_take (i := 8) (oi := { dst := some 116, op := .load 22 (.tmp 115), type := 22, pos := _, after := _, guard := none }) (v := ?_) rfl (by kernel_rfl) (by kernel_rfl) (by kernel_rfl) (fun _ _ _ h => h) (Or.inl ⟨by rfl, ?_⟩) (by assumption) ?_
                rotate_left 1
                · (intro w hSw; (try dsimp only at hSw); go_simp; try with_reducible rfl)
                try simp only [Act.put, List.setIfInBounds_toArray, List.set_cons_zero, List.set_cons_succ]
                refine wpAnyH_take (i := 9) (oi := { dst := some 117, op := .move (.tmp 11), type := 3, pos := _, after := _, guard := none }) (v := ?_) rfl (by kernel_rfl) (by kernel_rfl) (by kernel_rfl) (fun _ _ _ h => h) (Or.inl ⟨by rfl, ?_⟩) (by assumption) ?_
                rotate_left 1
                · (intro w hSw; (try dsimp only at hSw); go_simp; try with_reducible rfl)
                try simp only [Act.put, List.setIfInBounds_toArray, List.set_cons_zero, List.set_cons_succ]
                refine wpAnyH_take (i := 10) (oi := { dst := some 118, op := .move (.tmp 17), type := 5, pos := _, after := _, guard := none }) (v := ?_) rfl (by kernel_rfl) (by kernel_rfl) (by kernel_rfl) (fun _ _ _ h => h) (Or.inl ⟨by rfl, ?_⟩) (by assumption) ?_
                rotate_left 1
                · (intro w hSw; (try dsimp only at hSw); go_simp; try with_reducible rfl)
                try simp only [Act.put, List.setIfInBounds_toArray, List.set_cons_zero, List.set_cons_succ]
                refine wpAnyH_take (i := 11) (oi := { dst := some 119, op := .move (.tmp 17), type := 5, pos := _, after := _, guard := none }) (v := ?_) rfl (by kernel_rfl) (by kernel_rfl) (by kernel_rfl) (fun _ _ _ h => h) (Or.inl ⟨by rfl, ?_⟩) (by assumption) ?_
                rotate_left 1
                · (intro w hSw; (try dsimp only at hSw); go_simp; try with_reducible rfl)
                try simp only [Act.put, List.setIfInBounds_toArray, List.set_cons_zero, List.set_cons_succ]
                refine wpAnyH_take (i := 12) (oi := { dst := some 120, op := .indexAddr 22 (.tmp 111) (.tmp 112), type := 0, pos := _, after := _, guard := none }) (v := ?_) rfl (by kernel_rfl) (by kernel_rfl) (by kernel_rfl) (fun _ _ _ h => h) (Or.inl ⟨by rfl, ?_⟩) (by assumption) ?_
                rotate_left 1
                · (intro w hSw; (try dsimp only at hSw); go_simp; try with_reducible rfl)
                try simp only [Act.put, List.setIfInBounds_toArray, List.set_cons_zero, List.set_cons_succ]
                refine wpAnyH_ready (rs := [13]) (by kernel_rfl) (by simp) ?_
                refine AllReadyH.cons (o := { dst := none, op := .store 5 (.tmp 120) (.tmp 118), type := 0, pos := _, after := _, guard := none }) rfl (fun K hK => ?_) AllReadyH.nil
                go_simp
                clear hHeld
                refine hK.out _ _ ?_ (fun hHeld => ?_)
                · ((try dsimp only); exact HK2.out)
                clear hK K
                refine wpAnyH_take (i := 14) (oi := { dst := some 121, op := .indexAddr 22 (.tmp 116) (.tmp 117), type := 0, pos := _, after := _, guard := none }) (v := ?_) rfl (by kernel_rfl) (by kernel_rfl) (by kernel_rfl) (fun _ _ _ h => h) (Or.inl ⟨by rfl, ?_⟩) (by assumption) ?_
                rotate_left 1
                · (intro w hSw; (try dsimp only at hSw); go_simp; try with_reducible rfl)
                try simp only [Act.put, List.setIfInBounds_toArray, List.set_cons_zero, List.set_cons_succ]
                refine wpAnyH_ready (rs := [15]) (by kernel_rfl) (by simp) ?_
                refine AllReadyH.cons (o := { dst := none, op := .store 5 (.tmp 121) (.tmp 119), type := 0, pos := _, after := _, guard := none }) rfl (fun K hK => ?_) AllReadyH.nil
                go_simp
                clear hHeld
                refine hK.out _ _ ?_ (fun hHeld => ?_)
                · ((try dsimp only); exact HK3.out)
                clear hK K
                refine wpAnyH_done (by kernel_rfl) ?_ _
                refine NoPanic.normal ?_
                clear hHeld HK1 HK2 HK3 q3 q3' q4 q4'
                obtain ⟨x6, hx6⟩ : ∃ x6, x6 = ((x5.setCell ⟨gq i, j, none⟩ (.int .u8 y)).setCell ⟨gq j, i, none⟩ (.int .u8 y)).drew := ⟨_, rfl⟩
                rw [← hx6]
                obtain ⟨N', hN'⟩ : ∃ N' : Mtx, N' = (fun p q => if p = j ∧ q = i then y else (fun p q => if p = i ∧ q = j then y else N p q) p q) := ⟨_, rfl⟩
                have HQ6 := Lib.hid (show Sq2 x6 w.heap.size k k bp bq gp gq M N' by rw [hx6, hN']; exact HP3.out.below (Below.refl _ _).drew)
                have HZ6 := Lib.hid (show Below w.heap.size w x6 by rw [hx6]; exact ((HZ.out.setCell (p := ⟨gq i, j, none⟩) (HQZ.out.q.los i hik) _).setCell (p := ⟨gq j, i, none⟩) (HQZ.out.q.los j hjk) _).drew)
                have HN6 := Lib.hid (show Dn k (twoS a f S2) N' i (j + 1) ∧ BytM N' by rw [hN']; exact ⟨HN.out.1.step HY2.out hji, byt_if (byt_if HN.out.2 i j BV.out.2.2.2.2.1) j i BV.out.2.2.2.2.1⟩)
                clear hx6 hN' HP2 HP3 HQZ HZ HN N x5 KK
                have p1 := sq_cells HQ6.out.p (Nat.le_refl _) i hik
                obtain ⟨p2, p2'⟩ := sq_cell HQ6.out.p i hik j hjk
                go_upto_region 18 with (fail)
                refine wp_region_still_tail 11 (by kernel_rfl) (by kernel_rfl) ?_
                change wpStill _ _ (x6.drewN 1) (fun a' => wpList _ _ _ _ a' (x6.drewN 1)) _ _
                simp only [List.take_succ_cons, List.take_zero, List.drop_succ_cons, List.drop_zero]
                iterate 8 still_step
                still_call (ML.out (x6.drewN 1))
                still_call (ADc.out (x6.drewN 1))
                repeat still_step
                refine wpStill_nil ?_
                go_upto_region 19 with (fail)
                obtain ⟨x7, hx7⟩ : ∃ x7, x7 = (x6.drewN 1).setCell ⟨gp i, j, none⟩ (.int .u8 z) := ⟨_, rfl⟩
                rw [← hx7]
                have HP7 := Lib.hid ((HQ6.out.below (pw_below_drewN (Below.refl _ _) 1)).putp i j hik z)
                rw [← hx7] at HP7
                have HZ7 := Lib.hid (show Below w.heap.size w x7 by rw [hx7]; exact (pw_below_drewN HZ6.out 1).setCell (p := ⟨gp i, j, none⟩) (HQ6.out.p.los i hik) _)
                clear hx7 p1 p2 p2' HQ6 HZ6 ML ADc x6
                have p1 := sq_cells HP7.out.p (Nat.le_refl _) i hik
                have p2 := sq_cells HP7.out.p (Nat.le_refl _) j hjk
                obtain ⟨p3, _⟩ := sq_cell HP7.out.p i hik j hjk
                rw [if_pos ⟨rfl, rfl⟩] at p3
                obtain ⟨p4, p4'⟩ := sq_cell HP7.out.p j hjk i hik
                obtain ⟨zz, hzz⟩ : ∃ zz, zz = (if j = i ∧ i = j then z else M j i) := ⟨_, rfl⟩
                rw [← hzz] at p4
                clear hzz
                have HP8 := Lib.hid ((HP7.out.below (pw_below_drewN (Below.refl _ _) 1)).putp j i hjk z)
                have HZ8 := Lib.hid ((pw_below_drewN HZ7.out 1).setCell (p := ⟨gp j, i, none⟩) (HP7.out.p.los j hjk) (.int .u8 z))
                refine wp_region_still_tail 13 (by kernel_rfl) (by kernel_rfl) ?_
                change wpStill _ _ (x7.drewN 1) (fun a' => wpList _ _ _ _ a' (x7.drewN 1)) _ _
                simp only [List.take_succ_cons, List.take_zero, List.drop_succ_cons, List.drop_zero]
                repeat still_step
                refine wpStill_nil ?_
                go_wp2
                go_roundw
                case rel => exact ⟨j + 1, _, N', by omega, by go_num, Lib.hid ⟨HM.out.1.step HZ2.out hji, byt_if (byt_if HM.out.2 i j BV.out.2.2.2.2.2) j i BV.out.2.2.2.2.2⟩, HN6, HP8, HZ8⟩
                case measure => simp [intOf]; omega
              · obtain rfl : i = j := by omega
                go_wp2
                go_roundw
                case rel => exact ⟨i + 1, M, N, by omega, by go_num, Lib.hid ⟨HM.out.1.next, HM.out.2⟩, Lib.hid ⟨HN.out.1.next, HN.out.2⟩, HQ, HB⟩
                case measure => simp [intOf]; omega
          · obtain rfl : k = i := by omega
            have WH := Lib.hid (fun W (hB : Below w.heap.size w W) bb (P S : Mtx) (hP : Kd.C kRow W (some ⟨bb, 0, none⟩) k (mat k k P)) (hPb : BytM P) (hSb : BytM S) (sy : ∀ r u, r < a → u < a → S r u = S u r) (hD : Dn k (twoS a f S) P k 0) =>
              show Calls Try.prog 74 #[.pointer (some ⟨b, 0, none⟩), .slice (some adA) k c, .slice (some ⟨bb, 0, none⟩) k k] W fun e w' => ∃ A' c', e = .returned (.slice A' a c') ∧ RowsR w' W.heap.size (.slice A' a c') (mat a a S) ∧ Below W.heap.size W w' from
              whole_any _ n k c k a (some adA) (some ⟨bb, 0, none⟩) s h x P (oneS a f S) S W (hc0.out.below hB) k1 k2 n2 HA.out (HPX.out W hB) HSS.out (fun i j hi hj e => HIN.out i j hi hj (by rw [HF.out]; exact e)) hP hPb (oneS_byt a f S) hSb
                (fun i j hi hj hne => by rw [← HF.out, twoS_of, hD.all (twoS_sym sy) i j (by have := HKA.out; omega) hj hne]) (fun i u hi hu => by rw [← HF.out, oneS_of]))
            have W1 := Lib.hid (WH.out wr HB.out bp M S1 (HQ.out.p.reads (by omega)) HM.out.2 HS1.out.1 HS1.out.2 HM.out.1)
            have W2 := Lib.hid (fun W (hB : Below wr.heap.size wr W) => WH.out W (HB.out.trans (hB.mono HB.out.size)) bq N S2 ((HQ.out.below hB).q.reads (by omega)) HN.out.2 HS2.out.1 HS2.out.2 HN.out.1)
            clear WH HM HN HQ
            go_upto_region 22 with (fail)
            go_wp2_with (first
              | (go_at_call 74; (with_reducible refine W1.out.mono ?_); rintro e w1 ⟨A1, c1, rfl, hr, hb⟩; have HR1 := Lib.hid hr; have HB1 := Lib.hid hb; have W2' := Lib.hid (W2.out _ hb); clear W1 W2 hr hb)
              | (go_at_call 74; (with_reducible refine W2'.out.mono ?_); rintro e w2 ⟨A2, c2, rfl, hr, hb⟩; have HR2 := Lib.hid hr; have HB2 := Lib.hid hb; clear hr hb))
            go_ret2
            exact ⟨A1, c1, A2, c2, rfl, Kd.R_lower (Kd.R_below HR1.out HB2.out) HB.out.size, Kd.R_lower HR2.out (Nat.le_trans HB.out.size HB1.out.size), (HB.out.trans (HB1.out.mono HB.out.size)).trans (HB2.out.mono (Nat.le_trans HB.out.size HB1.out.size))⟩
set_option maxRecDepth 100000 in
set_option maxHeartbeats 8000000 in
theorem put_keep (K : World → Prop) (v : Value) (n k a fr pt sz L g cap c B2 : Nat) (A : Option Addr) (M : Mtx) (F T : Nat → Int) (w0 w : World) (hc : IsCode w0 v n k) (k1 : 2 ≤ k) (k2 : k ≤ 8) (ha : a = k - 1) (hfr : fr = 0 ∨ fr = a) (hsz : sz ≤ 100) (hB : Below w0.heap.size w0 w) (hg : w0.heap.size ≤ g) (hg2 : g < B2)
    (hpt : pt < sz) (hL : ∀ i kk, i ≤ kk → kk < a → placeN a (fr + i) kk * sz + pt < L) (hL2 : L ≤ 10000) (hM : ∀ i kk, i ≤ kk → kk < a → M i kk = T (placeN a (fr + i) kk * sz + pt))
    (ho : (Kd.int .u8).R 5 w w0.heap.size (fun _ => True) (.slice (some ⟨g, 0, none⟩) L cap) (line L F)) (hh : RowsR w B2 (.slice A a c) (mat a a M)) (hK0 : K w) (hKs : ∀ W (p : Addr) (u : Value), p.block = g → K W → K (W.setCell p u)) (hKd : ∀ W j, K W → K (W.drewN j)) :
    Calls Try.prog 60 #[v, .slice (some ⟨g, 0, none⟩) L cap, .slice A a c, .int .i64 fr, .int .i64 pt, .int .i64 sz] w fun e w' => e = .returned (.tuple #[]) ∧ ∃ F', Put a fr sz pt a 0 F T F' ∧ (Kd.int .u8).R 5 w' w0.heap.size (fun _ => True) (.slice (some ⟨g, 0, none⟩) L cap) (line L F') ∧ K w' ∧ Below w0.heap.size w0 w' := by
  have PL := Lib.hid (fun W r j (hB : Below w0.heap.size w0 W) (hr : r < 2 * a) (hj : j < a) => show Calls Try.prog 62 #[v, .int .i64 r, .int .i64 j] W fun e w' => e = .returned (.int .i64 (placeN a r j)) ∧ w' = W by
    rw [ha] at hr hj ⊢
    exact place_any v n k r j W (hc.below hB) k1 k2 hr hj)
  have HM := Lib.hid hM
  have HL := Lib.hid hL
  have HO0 := Lib.hid ho
  have HH0 := Lib.hid (show Kd.R kRow 22 w B2 (fun q => B2 ≤ q) (.slice A a c) (mat a a M) from Kd.R_mono (Kd.R_bound hh) (fun q hq => hq.2.1))
  have HB0 := Lib.hid hB
  have HK0 := Lib.hid hK0
  have HKS := Lib.hid hKs
  have HKD := Lib.hid hKd
  have HG := Lib.hid hg
  have HG2 := Lib.hid hg2
  have a7 : a ≤ 7 := by omega
  have HFR := Lib.hid (show fr + a ≤ 2 * a by rcases hfr with h | h <;> omega)
  clear hM hL ho hh hK0 hKs hKd hB hc ha hfr hg hg2 k1 k2
  go_enter Try.func60, Try.ntmps60
  go_upto_region 1 with (fail)
  go_loopw [12, 13, 16] (fun _ _ iv wr => ∃ (i : Nat) (F' : Nat → Int), i ≤ a ∧ iv = .int .i64 i ∧ Hid (Put a fr sz pt i 0 F T F') ∧ Hid ((Kd.int .u8).R 5 wr w0.heap.size (fun _ => True) (.slice (some ⟨g, 0, none⟩) L cap) (line L F')) ∧ Hid (Kd.R kRow 22 wr B2 (fun q => B2 ≤ q) (.slice A a c) (mat a a M)) ∧ Hid (K wr) ∧ Hid (Below w0.heap.size w0 wr)) (fun _ _ iv _ => a - (intOf iv).toNat)
  case atStart => exact ⟨0, F, by omega, rfl, Lib.hid (Put.start _ _ _ _ _ _), HO0, HH0, HK0, HB0⟩
  case round =>
    clear HO0 HH0 HB0 HK0
    obtain ⟨i, F', hi, rfl, HP, HO, HH, HK, HB⟩ := hrel
    by_cases hlt : i < a
    · have g1 : (i : Int) < (a : Int) := by omega
      have g2 : (0 : Int) ≤ (i : Int) := by omega
      go_upto_region 4 with (fail)
      go_loopw [13] (fun jv wr => ∃ (j : Nat) (F' : Nat → Int), i ≤ j ∧ j ≤ a ∧ jv = .int .i64 j ∧ Hid (Put a fr sz pt i j F T F') ∧ Hid ((Kd.int .u8).R 5 wr w0.heap.size (fun _ => True) (.slice (some ⟨g, 0, none⟩) L cap) (line L F')) ∧ Hid (Kd.R kRow 22 wr B2 (fun q => B2 ≤ q) (.slice A a c) (mat a a M)) ∧ Hid (K wr) ∧ Hid (Below w0.heap.size w0 wr)) (fun jv _ => a - (intOf jv).toNat)
      case atStart => exact ⟨i, F', by omega, by omega, rfl, Lib.hid HP.out.into, HO, HH, HK, HB⟩
      case round =>
        clear HP HO HH HK HB F'
        obtain ⟨j, F', hij, hj, rfl, HP, HO, HH, HK, HB⟩ := hrel
        by_cases hja : j < a
        · have g3 : (j : Int) < (a : Int) := by omega
          have g4 : (0 : Int) ≤ (j : Int) := by omega
          obtain ⟨u, hu⟩ : ∃ u, u = placeN a (fr + i) j := ⟨_, rfl⟩
          have PLC := Lib.hid (PL.out (wr.drewN 1) (fr + i) j (pw_below_drewN HB.out 1) (by have := HFR.out; omega) hja)
          have hpL := HL.out i j hij hja
          have hMT := HM.out i j hij hja
          rw [← hu] at PLC hpL hMT
          obtain ⟨ms, hms⟩ : ∃ ms, ms = u * sz := ⟨_, rfl⟩
          obtain ⟨p, hp⟩ : ∃ p, p = ms + pt := ⟨_, rfl⟩
          rw [← hms, ← hp] at hpL hMT
          have HPS := Lib.hid (HP.out.step (p := p) (kk := j) (by rw [hp, hms, hu]))
          obtain ⟨r, hr⟩ : ∃ r, r = fr + i := ⟨_, rfl⟩
          have hr14 : r ≤ 14 := by have := HFR.out; omega
          have hu2 : u ≤ 10000 := by
            have : u * 1 ≤ u * sz := Nat.mul_le_mul_left u (by omega)
            omega
          have v1 : IntKind.i64.wrap ((fr : Int) + (i : Int)) = (r : Int) := by rw [IntWalk.i64_in _ (by omega)]; omega
          have v2 : (fr : Int) + (i : Int) = (r : Int) := by omega
          have v3 : IntKind.i64.wrap (r : Int) = (r : Int) := IntWalk.i64_in _ (by omega)
          have v4 : IntKind.i64.wrap ((u : Int) * (sz : Int)) = (ms : Int) := by rw [hms, ← Int.natCast_mul]; exact IntWalk.i64_in _ (by omega)
          have v5 : IntKind.i64.wrap ((ms : Int) + (pt : Int)) = (p : Int) := by rw [IntWalk.i64_in _ (by omega)]; omega
          have v6 : (ms : Int) + (pt : Int) = (p : Int) := by omega
          have v7 : IntKind.i64.wrap (p : Int) = (p : Int) := IntWalk.i64_in _ (by omega)
          have t1 : (0 : Int) ≤ (p : Int) := by omega
          have t2 : (p : Int) < (L : Int) := by omega
          rw [← hr] at PLC
          have hC := (Kd.R_reads' HH.out).2.2
          rw [mat_len] at hC
          obtain ⟨a3, A3, c3, rfl, kp1, _, hc3⟩ := mrow hC i hlt
          obtain ⟨p3, rfl, kp2⟩ := Sol.at_row hc3 j hja
          rw [line_get _ _ _ hja, hMT] at kp2
          obtain ⟨x1', x2'⟩ := cell_of HO.out p hpL
          obtain ⟨y, hy⟩ : ∃ y, y = T p := ⟨_, rfl⟩
          have hpn := fun j => put_of (Kd.R_drewN HO.out j) p y
          simp only [line_set L _ _ hpL] at hpn
          rw [← hy] at HPS kp2
          have HPN := Lib.hid hpn
          have HBn := Lib.hid (fun j => (pw_below_drewN HB.out j).setCell (p := ⟨g, p, none⟩) HG.out (.int .u8 y))
          have HKn := Lib.hid (HKS.out _ ⟨g, p, none⟩ (.int .u8 y) rfl (HKD.out wr 1 HK.out))
          have HHn := Lib.hid (fun j => Kd.R_far (Kd.R_drewN HH.out j) (p := ⟨g, p, none⟩) (fun q hq e => by have := HG2.out; have e' : q = g := e; omega) (.int .u8 y))
          clear hC hc3 hpL hMT hms hp hu hr hy hpn hr14 hu2
          go_wp2
          refine wp_region_still_tail 19 (by kernel_rfl) (by kernel_rfl) ?_
          change wpStill _ _ (wr.drewN 1) (fun a' => wpList _ _ _ _ a' (wr.drewN 1)) _ _
          simp only [List.take_succ_cons, List.take_zero, List.drop_succ_cons, List.drop_zero]
          iterate 6 still_step
          still_call PLC.out
          iterate 12 still_step
          refine wpStill_nil ?_
          go_wp2
          go_roundw
          case rel => exact ⟨j + 1, _, by omega, by omega, by go_num, HPS, Lib.hid (HPN.out 1), Lib.hid (HHn.out 1), HKn, Lib.hid (HBn.out 1)⟩
          case measure => simp [intOf]; omega
        · obtain rfl : a = j := by omega
          go_wp2
          go_roundw
          case rel => exact ⟨i + 1, F', by omega, by go_num, Lib.hid HP.out.next, HO, HH, HK, HB⟩
          case measure => simp [intOf]; omega
    · obtain rfl : a = i := by omega
      go_wp2
      first | go_end0 | ((try simp only [Exit.inBlock, Exit.then]); refine bodyPost_ret (results_none rfl _ _ _) rfl ?_)
      exact ⟨rfl, F', HP.out, HO.out, HK.out, HB.out⟩
theorem tmod_nat (a b : Nat) : Int.tmod (a : Int) (b : Int) = ((a % b : Nat) : Int) := by simp [Int.tmod]
theorem tdiv_nat (a b : Nat) : Int.tdiv (a : Int) (b : Int) = ((a / b : Nat) : Int) := by simp [Int.tdiv]
def colX (x : Nat → List Int) (sz c : Nat) : Mtx := fun i q => (x i).getD (q * sz + c) 0
def MsgOf (k a sz : Nat) (f : Nat → Nat) (x : Nat → List Int) (B : Nat → Nat → Int) : Prop :=
  ∀ c, c < sz → TwoX k a f (fun r q => B (placeN a r q) c) (fun r q => B (placeN a (a + r) q) c) (colX x sz c)
def outB (B : Nat → Nat → Int) (sz : Nat) : Nat → Int := fun pos => B (pos / sz) (pos % sz)
theorem outB_at (B : Nat → Nat → Int) (sz u c : Nat) (hc : c < sz) : outB B sz (u * sz + c) = B u c := by
  unfold outB
  have h1 : (u * sz + c) / sz = u := by rw [Nat.mul_comm, Nat.mul_add_div (by omega), Nat.div_eq_of_lt hc, Nat.add_zero]
  have h2 : (u * sz + c) % sz = c := by rw [Nat.mul_comm, Nat.mul_add_mod, Nat.mod_eq_of_lt hc]
  rw [h1, h2]
def Cols (sz L c : Nat) (T F : Nat → Int) : Prop := ∀ pos, pos < L → pos % sz < c → F pos = T pos
theorem Cols.more {a sz L c : Nat} {B : Nat → Nat → Int} {F F1 F2 : Nat → Int} (a1 : 1 ≤ a) (a7 : a ≤ 7) (hL : L = (a + 1) * a * sz) (h : Cols sz L c (outB B sz) F) (hc : c < sz) (h1 : Put a 0 sz c a 0 F (outB B sz) F1) (h2 : Put a a sz c a 0 F1 (outB B sz) F2) : Cols sz L (c + 1) (outB B sz) F2 := by
  intro pos hp hm
  by_cases e : pos % sz < c
  · exact h2.1 pos (h1.1 pos (h pos hp e))
  · have hpc : pos % sz = c := by omega
    have hps : pos = pos / sz * sz + c := by
      have := Nat.div_add_mod pos sz
      rw [Nat.mul_comm] at this
      omega
    have hu : pos / sz < (a + 1) * a := by
      rw [Nat.div_lt_iff_lt_mul (by omega)]
      rw [← hL]
      exact hp
    obtain ⟨i, hi, j, hj, hij, hpl⟩ := place_all a (pos / sz) a7 hu
    rcases hpl with hpl | hpl
    · have := h1.2 i j hij hj (Or.inl (by omega))
      rw [Nat.zero_add, hpl, ← hps] at this
      exact h2.1 pos this
    · have := h2.2 i j hij hj (Or.inl (by omega))
      rw [hpl, ← hps] at this
      exact this
theorem Cols.all {sz L : Nat} {T F : Nat → Int} (hs : 1 ≤ sz) (h : Cols sz L sz T F) : line L F = line L T := line_congr L F T (fun pos hp => h pos hp (Nat.mod_lt _ (by omega)))
theorem place_sz {a sz L u c : Nat} (hL : L = (a + 1) * a * sz) (hu : u < (a + 1) * a) (hc : c < sz) : u * sz + c < L := by
  have h2 : (u + 1) * sz ≤ (a + 1) * a * sz := Nat.mul_le_mul_right sz (by omega)
  rw [Nat.add_mul, Nat.one_mul] at h2
  omega
def xsL (k j q : Nat) (X : Mtx) (a : Nat) : List (List Int) := (List.range k).map (fun r => if r < j then line a (X r) else if r = j then line q (X r) else [])
theorem xsL_len (k j q : Nat) (X : Mtx) (a : Nat) : (xsL k j q X a).length = k := by simp [xsL]
theorem xsL_zero (k : Nat) (X : Mtx) (a : Nat) : xsL k 0 0 X a = List.replicate k [] := by
  refine List.ext_getElem (by simp [xsL]) (fun i h1 h2 => ?_)
  simp [xsL]
  by_cases e : i = 0
  · simp [e, line]
  · simp [e]
theorem xsL_get (k j q : Nat) (X : Mtx) (a : Nat) (hj : j < k) : (xsL k j q X a).getD j [] = line q (X j) := by simp [xsL, List.getD_eq_getElem?_getD, hj]
theorem xsL_set (k j q : Nat) (X : Mtx) (a : Nat) (hj : j < k) : (xsL k j q X a).set j (line q (X j) ++ [X j q]) = xsL k j (q + 1) X a := by
  refine List.ext_getElem (by simp [xsL]) (fun i h1 h2 => ?_)
  rw [List.getElem_set]
  simp only [xsL, List.getElem_map, List.getElem_range]
  by_cases e : j = i
  · subst e
    simp [line_succ]
  · rw [if_neg e]
    have e' : ¬ i = j := fun h => e h.symm
    simp [e']
theorem xsL_next (k j : Nat) (X : Mtx) (a : Nat) : xsL k j a X a = xsL k (j + 1) 0 X a := by
  refine List.ext_getElem (by simp [xsL]) (fun i h1 h2 => ?_)
  simp only [xsL, List.getElem_map, List.getElem_range]
  by_cases e : i < j
  · rw [if_pos e, if_pos (by omega)]
  · by_cases e2 : i = j
    · subst e2; simp
    · rw [if_neg e, if_neg e2, if_neg (by omega)]
      by_cases e3 : i = j + 1
      · rw [if_pos e3]; rfl
      · rw [if_neg e3]
theorem xsL_all (k : Nat) (X : Mtx) (a : Nat) : xsL k k 0 X a = mat k a X := by
  refine List.ext_getElem (by simp [xsL, mat]) (fun i h1 h2 => ?_)
  have : i < k := by simpa [xsL] using h1
  simp [xsL, mat, this]
set_option maxRecDepth 100000 in
set_option maxHeartbeats 8000000 in
theorem decode_good (v : Value) (n k N c a sz L : Nat) (A : Option Addr) (s : Nat → Int) (h : Nat → Hd) (x : Nat → List Int) (m : Nat → Nat) (B : Nat → Nat → Int) (w : World) (hc : IsCodeP w v n k) (k1 : 2 ≤ k) (k2 : k ≤ 8) (n2 : n ≤ 24) (ha : a = k - 1) (hp : PA w A N s h x) (hm : ∀ i, (x i).length = m i) (hN : N ≤ 100) (hNc : N ≤ c)
    (hok : okTo n s m N) (hk : k ≤ N) (hsz : m 0 = sz * a) (hs1 : 1 ≤ sz) (hs2 : sz ≤ 100) (hL : L = (a + 1) * a * sz) (hxb : ∀ q i, Byt ((x q).getD i 0)) (hB : ∀ u q, Byt (B u q)) (hX : MsgOf k a sz (ptS n k s) x B) :
    Calls Try.prog 37 #[v, .slice A N c] w fun e w' => ∃ A' c', e = .returned (.tuple #[.slice A' L c', .int .i64 0]) ∧ (Kd.int .u8).R 5 w' w.heap.size (fun _ => True) (.slice A' L c') (line L (outB B sz)) ∧ Below w.heap.size w w' := by
  have HPP := Lib.hid (fun W (hB : Below w.heap.size w W) => show Calls Try.prog 23 #[v] W fun e w' => e = .returned (.int .i64 a) ∧ w' = W by rw [ha]; exact parts_any v n k W (hc.below hB).code (by omega) (by omega))
  have HRT := Lib.hid (mright_any v n k N c A s h x w hc.code hp m hm hN n2)
  have HBC := Lib.hid (fun W (hB : Below w.heap.size w W) => hc.below hB)
  have RB := Lib.hid (show Calls Try.prog 58 #[v, .slice A N c] w fun e w' => e = .returned (.bool true) ∧ Below w.heap.size w w' from HRT.out.mono (by
    rintro e w' ⟨bb, rfl, hbb, hB⟩
    refine ⟨?_, hB⟩
    rw [hbb.2 hok]))
  have SY := Lib.hid (fun W (hB : Below w.heap.size w W) => show Calls Try.prog 41 #[v] W fun e w' => e = .returned (.int .i64 ((a + 1) * a : Nat)) ∧ w' = W from symbols_any v n k ((a + 1) * a) W (hc.below hB).code (by omega) (by omega) (by rw [ha, show k - 1 + 1 = k by omega]))
  have a1 : 1 ≤ a := by omega
  have a7 : a ≤ 7 := by omega
  have hS56 : (a + 1) * a ≤ 56 := Nat.mul_le_mul (show a + 1 ≤ 8 by omega) a7
  have hL1 : L ≤ 5600 := by rw [hL]; exact Nat.mul_le_mul hS56 hs2
  have hL0 : 1 ≤ L := by
    rw [hL]
    exact Nat.mul_le_mul (Nat.mul_le_mul (show 1 ≤ a + 1 by omega) a1) hs1
  have HPX := Lib.hid (fun W (hB : Below w.heap.size w W) => (hp.below hB).fewer hk)
  have hx0 : (x 0).length = sz * a := by rw [hm, hsz]
  have HXL := Lib.hid (fun i (hi : i < k) => show (x i).length = sz * a by rw [hm, (hok i (by omega)).2.2.2.1, hsz])
  obtain ⟨adA, rfl, kp1, kp2, kp3, kp4, kp5⟩ := hp 0 (by omega)
  have e0 : adA.add (0 * 2) = adA := by simp [Addr.add]
  rw [e0] at kp1 kp2
  obtain ⟨⟨A0, m0, c0⟩, hh0⟩ : ∃ q, q = h 0 := ⟨_, rfl⟩
  rw [← hh0] at kp2 kp3
  have kp2' : w.cell? ⟨adA.block, adA.off + 1, none⟩ = some (.slice A0 m0 c0) := kp2
  obtain rfl : m0 = sz * a := by have : (x 0).length = m0 := kp3; omega
  obtain ⟨M0, hM0⟩ : ∃ M0, M0 = sz * a := ⟨_, rfl⟩
  have d1 : Int.tmod (M0 : Int) (a : Int) = 0 := by rw [tmod_nat, hM0, Nat.mul_mod_left]; rfl
  have d2 : Int.tdiv (M0 : Int) (a : Int) = (sz : Int) := by rw [tdiv_nat, hM0, Nat.mul_div_cancel _ (by omega)]
  have d3 : (M0 : Int) % (a : Int) = 0 := by rw [hM0, Int.natCast_mul]; exact Int.mul_emod_left _ _
  have d4 : (M0 : Int) / (a : Int) = (sz : Int) := by rw [hM0, Int.natCast_mul]; exact Int.mul_ediv_cancel _ (by omega)
  rw [← hM0] at kp2'
  have HM0 := Lib.hid hM0
  have HL0 := Lib.hid hL
  have KP2 := Lib.hid (fun W (hB : Below w.heap.size w W) => pw_cell_below hB kp2')
  obtain ⟨S0, hS0⟩ : ∃ S0, S0 = (a + 1) * a := ⟨_, rfl⟩
  rw [← hS0] at SY hL hS56
  have hS0' := Lib.hid hS0
  have d5 : IntKind.i64.wrap ((S0 : Int) * (sz : Int)) = (L : Int) := by rw [hL, ← Int.natCast_mul]; exact IntWalk.i64_in _ (by omega)
  have d6 : (S0 : Int) * (sz : Int) = (L : Int) := by rw [hL, ← Int.natCast_mul]
  have g3 : ¬ (N : Int) < (k : Int) := by omega
  have g4 : (k : Int) ≤ (N : Int) := by omega
  have g5 : (k : Int) ≤ (c : Int) := by omega
  have g6 : (0 : Int) < (N : Int) := by omega
  have g7 : (0 : Int) < (k : Int) := by omega
  have g8 : (0 : Int) < (a : Int) := by omega
  have g9 : (a : Int) ≠ 0 := by omega
  have g10 : ((a : Int) == 0) = false := by simp; omega
  have HXB := Lib.hid hxb
  have HBB := Lib.hid hB
  have HXM := Lib.hid hX
  have HOK := Lib.hid (fun i (hi : i < k) => show 0 ≤ s i ∧ s i < n from ⟨(hok i (by omega)).1, (hok i (by omega)).2.1⟩)
  have HIN := Lib.hid (show ∀ i j, i < k → j < k → ptS n k s i = ptS n k s j → i = j from ptS_inj (n := n) (k := k) (d := k) k1 k2 n2 hok hk)
  have HKA := Lib.hid (show k = a + 1 by omega)
  have HAK := Lib.hid ha
  obtain ⟨b, Ac, cc, rfl, hbk, hnc, hpt⟩ := hc
  have HBK := Lib.hid (fun W (hB : Below w.heap.size w W) => show W.cell? ⟨b, 1, none⟩ = some (.int .i64 k) from ((hbk.below hB hbk.lt).cell 1).trans rfl)
  clear hp hm hok hsz hL hxb hB hX ha kp1 kp2 kp3 kp4 kp5 e0 hh0 hM0 hS0 hx0 HRT hNc hk hbk hnc hpt kp2'
  go_enter Try.func37, Try.ntmps37
  go_upto_region 3 with (go_at_call 58; (with_reducible refine RB.out.mono ?_); rintro e w1 ⟨rfl, hb⟩; have HB1 := Lib.hid hb; clear hb)
  have y1 := HBK.out w1 HB1.out
  have y2 := KP2.out w1 HB1.out
  go_upto_region 5 with (fail)
  go_quiet ((go_at_call 23; exact Calls.quiet_of_same (HPP.out _ (pw_below_drewN HB1.out _))))
  have HBq := Lib.hid (pw_below_drewN HB1.out nq)
  obtain ⟨w2, hw2⟩ : ∃ w2, w2 = w1.drewN nq := ⟨_, rfl⟩
  rw [← hw2] at HBq ⊢
  clear y1 y2 hw2 HB1 RB d1 d3
  have y1 := HBK.out w2 HBq.out
  have y2 := KP2.out w2 HBq.out
  go_upto_region 8 with (fail)
  go_quiet ((go_at_call 23; exact Calls.quiet_of_same (HPP.out _ (pw_below_drewN HBq.out _))))
  have HBr := Lib.hid (pw_below_drewN HBq.out nq)
  obtain ⟨w3, hw3⟩ : ∃ w3, w3 = w2.drewN nq := ⟨_, rfl⟩
  rw [← hw3] at HBr ⊢
  clear y1 y2 hw3 HBq d2 d4 w2
  go_upto_region 11 with (first
    | (go_at_call 41; (with_reducible refine (SY.out _ HBr.out).mono ?_); rintro e u ⟨rfl, hu⟩; have hu' := hu.symm; subst hu'; clear hu)
    | (at_make; refine Kd.R_make (Kd.int .u8) w.heap.size 5 rfl (N := 60) rfl 22 _ _ rfl (L : Int) rfl rfl Try.underlying22 (.int .u8 0) 1 Rws.info_byte rfl (by decide) (by decide) 0 (ok := fun _ => True) (okp := fun _ => True) rfl (fun _ hk => hk) trivial (by omega) (by omega) HBr.out HBr.out.size ?_; intro v4 w4 h4 hb4 hg4 hf4; simp only [Int.toNat_natCast] at h4; obtain ⟨g, c4, hv4, hgb, _, _, _⟩ := Kd.R_form h4 (by rw [List.length_replicate]; omega); rw [List.length_replicate] at hv4; subst hv4; have HO0 := Lib.hid h4; have HB0 := Lib.hid hb4; have HGB := Lib.hid hgb; clear h4 hb4 hg4 hf4 hgb))
  clear SY d5 d6 HBr
  have HO1 := Lib.hid (show (Kd.int .u8).R 5 w4 w.heap.size (fun _ => True) (.slice (some ⟨g, 0, none⟩) L c4) (line L (fun _ => 0)) by rw [line_zero]; exact HO0.out)
  clear HO0
  go_loopw [8, 9, 10, 11, 12, 13, 14, 62] (fun _ _ _ _ _ _ _ iv wr => ∃ (i : Nat) (F : Nat → Int), i ≤ sz ∧ iv = .int .i64 i ∧ Hid (Cols sz L i (outB B sz) F) ∧ Hid ((Kd.int .u8).R 5 wr w.heap.size (fun _ => True) (.slice (some ⟨g, 0, none⟩) L c4) (line L F)) ∧ Hid (Below w.heap.size w wr)) (fun _ _ _ _ _ _ _ iv _ => sz - (intOf iv).toNat)
  case atStart => exact ⟨0, _, by omega, rfl, Lib.hid (fun pos _ h => absurd h (Nat.not_lt_zero _)), HO1, HB0⟩
  case round =>
    clear HO1 HB0
    obtain ⟨i, F, hi, rfl, HC, HO, HB⟩ := hrel
    by_cases hlt : i < sz
    · have q1 : (i : Int) < (sz : Int) := by omega
      have q2 : (0 : Int) ≤ (i : Int) := by omega
      have y1 := HBK.out wr HB.out
      obtain ⟨x1, hx1⟩ : ∃ x1, x1 = wr := ⟨_, rfl⟩
      rw [← hx1] at HO HB
      have HX1 := Lib.hid hx1
      go_upto_region 15 with (at_make; refine Kd.S_make kRow (w0 := x1) x1.heap.size 22 rfl (N := 69) rfl 39 _ _ rfl (k : Int) rfl rfl Try.underlying39 (.slice none 0 0) 24 info_rows rfl (by decide) (by decide) [] (ok := fun _ => True) (okp := fun _ => True) ⟨_, rfl, Kd.R_nil _ _ _ _ _⟩ (fun _ hk => hk) trivial (by omega) (by omega) (by rw [HX1.out]; exact Below.refl _ _) (by rw [HX1.out]; exact Nat.le_refl _) ?_; intro v5 w5 h5 hb5 hg5 hf5; simp only [Int.toNat_natCast] at h5; obtain ⟨bx, cx, hv5, hxb, _, _, _⟩ := Kd.S_form h5 (by rw [List.length_replicate]; omega); rw [List.length_replicate] at hv5; subst hv5; have HS0 := Lib.hid h5; have HQ0 := Lib.hid hb5; clear h5 hb5 hg5 hf5 hxb)
      clear hx1 HX1 y1
      have HS1 := Lib.hid (show RowsSB w5 x1.heap.size (.slice (some ⟨bx, 0, none⟩) k cx) (xsL k 0 0 (colX x sz i) a) by rw [xsL_zero]; exact HS0.out)
      clear HS0
      go_loopw [10, 11, 12, 72] (fun _ _ _ jv wr => ∃ (j : Nat), j ≤ k ∧ jv = .int .i64 j ∧ Hid (RowsSB wr x1.heap.size (.slice (some ⟨bx, 0, none⟩) k cx) (xsL k j 0 (colX x sz i) a)) ∧ Hid (Below x1.heap.size x1 wr)) (fun _ _ _ jv _ => k - (intOf jv).toNat)
      case atStart => exact ⟨0, by omega, rfl, HS1, HQ0⟩
      case round =>
        clear HS1 HQ0
        obtain ⟨j, hj, rfl, HS, HQ⟩ := hrel
        by_cases hji : j < k
        · have q3 : (j : Int) < (k : Int) := by omega
          have q4 : (0 : Int) ≤ (j : Int) := by omega
          have hBW := HB.out.trans (HQ.out.mono HB.out.size)
          obtain ⟨ad, e, kc1, kc2, kc3, kc4, kc5⟩ := HPX.out wr hBW j hji
          injection e with e
          subst e
          obtain ⟨⟨A2, m2, c2⟩, hh2⟩ : ∃ q, q = h j := ⟨_, rfl⟩
          rw [← hh2] at kc2 kc3 kc4 kc5
          have hk2 : wr.cell? ⟨(adA.add (j * 2)).block, (adA.add (j * 2)).off + 1, none⟩ = some (.slice A2 m2 c2) := kc2
          have kc5' : (Kd.int .u8).C wr A2 m2 (x j) := kc5
          have hm2 : m2 = M0 := by have h1 := HXL.out j hji; have h2 : (x j).length = m2 := kc3; rw [HM0.out]; omega
          rw [hm2] at hk2 kc5'
          have HDT1 := Lib.hid (fun W (hB : Below w.heap.size w W) => show (Kd.int .u8).C W A2 M0 (x j) by
            obtain ⟨ad, e, _, _, _, _, h5⟩ := HPX.out W hB j hji
            rw [← hh2] at h5
            rw [← hm2]
            exact h5)
          obtain ⟨sj, hsj⟩ : ∃ sj, sj = s j := ⟨_, rfl⟩
          rw [← hsj] at kc1
          obtain ⟨W1, hW1⟩ : ∃ W1, W1 = wr.alloc (.cells #[.int .i64 sj, .slice A2 M0 c2] 37) := ⟨_, rfl⟩
          have hb1 : Below wr.heap.size wr W1 := by rw [hW1]; exact (Below.refl _ _).alloc (Nat.le_refl _) _
          have HBP := Lib.hid (show Blk W1 wr.heap.size 37 #[.int .i64 sj, .slice A2 M0 c2] by rw [hW1]; exact Blk.new _ _ _)
          have HW1 := Lib.hid hW1
          have HQ1 := Lib.hid (HQ.out.trans (hb1.mono HQ.out.size))
          have HS1 := Lib.hid (Kd.S_below HS.out hb1)
          have HBW := Lib.hid (hBW.trans (hb1.mono hBW.size))
          obtain ⟨b1, hb1'⟩ : ∃ b1, b1 = wr.heap.size := ⟨_, rfl⟩
          rw [← hb1'] at HBP
          have HB1' := Lib.hid hb1'
          have HPR := Lib.hid (show x1.heap.size ≤ b1 by rw [hb1']; exact HQ.out.size)
          clear kc2 kc3 kc4 kc5 kc5' hh2 hm2 hsj hW1 hb1 hb1' HS HQ
          go_upto_region 17 with (fail)
          rw [← HW1.out, ← HB1'.out]
          clear kc1 hk2 HW1 HB1' hBW
          go_upto_region 18 with (go_at_call 23; (with_reducible refine (HPP.out _ HBW.out).mono ?_); rintro e u ⟨rfl, hu⟩; have hu' := hu.symm; subst hu'; clear hu)
          go_loopw [12, 79] (fun _ qv wr => ∃ (q : Nat), q ≤ a ∧ qv = .int .i64 q ∧ Hid (RowsSB wr x1.heap.size (.slice (some ⟨bx, 0, none⟩) k cx) (xsL k j q (colX x sz i) a)) ∧ Hid (Blk wr b1 37 #[.int .i64 sj, .slice A2 M0 c2]) ∧ Hid (Below x1.heap.size x1 wr)) (fun _ qv _ => a - (intOf qv).toNat)
          case atStart => exact ⟨0, by omega, rfl, HS1, HBP, HQ1⟩
          case round =>
            clear HS1 HBP HQ1
            obtain ⟨q, hq, rfl, HS, HBP, HQ⟩ := hrel
            by_cases hqa : q < a
            · have q5 : (q : Int) < (a : Int) := by omega
              have q6 : (0 : Int) ≤ (q : Int) := by omega
              have hpm : q * sz + i < M0 := by
                have h2 : (q + 1) * sz ≤ a * sz := Nat.mul_le_mul_right sz hqa
                rw [Nat.add_mul, Nat.one_mul] at h2
                have := HM0.out
                rw [Nat.mul_comm] at this
                omega
              have hM7 : M0 ≤ 700 := by rw [HM0.out]; exact Nat.mul_le_mul hs2 a7
              obtain ⟨qs, hqs⟩ : ∃ qs, qs = q * sz := ⟨_, rfl⟩
              obtain ⟨p, hp⟩ : ∃ p, p = qs + i := ⟨_, rfl⟩
              have hBW := HB.out.trans (HQ.out.mono HB.out.size)
              obtain ⟨ad2, rfl, kd⟩ := Sol.at_row (HDT1.out wr hBW) p (by omega)
              obtain ⟨z, hz⟩ : ∃ z, z = (x j).getD p 0 := ⟨_, rfl⟩
              rw [← hz] at kd
              have HZX := Lib.hid (show colX x sz i j q = z by unfold colX; rw [hz, hp, hqs])
              have KD := Lib.hid (fun W (hB : Below w.heap.size w W) => show W.cell? (ad2.add p) = some (.int .u8 z) by
                obtain ⟨ad3, e, kd3⟩ := Sol.at_row (HDT1.out W hB) p (by omega)
                injection e with e
                subst e
                rw [hz]
                exact kd3)
              obtain ⟨u, cu1, ⟨oku, hu⟩, hcu, hst⟩ := rows_app HS.out j hji
              have cu2 := hcu (wr.alloc (.cells #[.int .u8 z] 5)) ((Below.refl _ _).alloc (Nat.le_refl _) _)
              rw [xsL_get k j q _ a hji] at hu
              have hu' := Kd.R_mono hu (ok' := fun _ => True) (fun _ _ => trivial)
              have HU := Lib.hid hu'
              have HST := Lib.hid hst
              have HXS := Lib.hid (show (xsL k j q (colX x sz i) a).set j (line q (colX x sz i j) ++ [z]) = xsL k j (q + 1) (colX x sz i) a by rw [← HZX.out, xsL_set k j q _ a hji])
              have v1 : IntKind.i64.wrap ((q : Int) * (sz : Int)) = (qs : Int) := by rw [hqs, ← Int.natCast_mul]; exact IntWalk.i64_in _ (by rw [← hqs]; omega)
              have v2 : (q : Int) * (sz : Int) = (qs : Int) := by rw [hqs, ← Int.natCast_mul]
              have v3 : IntKind.i64.wrap ((qs : Int) + (i : Int)) = (p : Int) := by rw [IntWalk.i64_in _ (by omega)]; omega
              have v4 : (qs : Int) + (i : Int) = (p : Int) := by omega
              have v5 : IntKind.i64.wrap (p : Int) = (p : Int) := IntWalk.i64_in _ (by omega)
              have v6 : IntKind.i64.wrap (qs : Int) = (qs : Int) := IntWalk.i64_in _ (by omega)
              have t1 : (0 : Int) ≤ (p : Int) := by omega
              have t2 : (p : Int) < (M0 : Int) := by omega
              have t3 : p < M0 := by omega
              have HQ7 := Lib.hid (show q ≤ 7 by omega)
              have HNE := Lib.hid (show b1 ≠ bx ∧ x1.heap.size ≤ bx from ⟨fun e => Kd.S_ne HS.out HBP.out (by decide) (by rw [e]; rfl), Kd.S_base HS.out bx rfl⟩)
              clear hu hu' hst hcu hz hp hqs kd hpm hM7
              go_upto_region 20 with (fail)
              have HZ := Lib.hid (show Below x1.heap.size x1 wr.drew from HQ.out.drew)
              have HBz := Lib.hid (show Blk wr.drew b1 37 #[.int .i64 sj, .slice (some ad2) M0 c2] from HBP.out.drew)
              have KK := Lib.hid (fun W (h1 : Blk W b1 37 #[.int .i64 sj, .slice (some ad2) M0 c2]) (h2 : Below x1.heap.size x1 W) => (⟨(h1.cell 1).trans rfl, KD.out W (HB.out.trans (h2.mono HB.out.size))⟩ : W.cell? ⟨b1, 1, none⟩ = some (.slice (some ad2) M0 c2) ∧ W.cell? (ad2.add p) = some (.int .u8 z)))
              refine wp_region_noPanic ?_
              refine wp_region_held_drew (S := (fun W => W.cell? ⟨b1, 1, none⟩ = some (.slice (some ad2) M0 c2) ∧ W.cell? (ad2.add p) = some (.int .u8 z))) (by kernel_rfl) ?_ (fun hHeld => ?_)
              · ((try dsimp only); exact KK.out _ HBz.out HZ.out)
              refine wpAnyH_take (i := 0) (oi := { dst := some 82, op := .move (.tmp 9), type := 39, pos := _, after := _, guard := none }) (v := ?_) rfl (by kernel_rfl) (by kernel_rfl) (by kernel_rfl) (fun _ _ _ h => h) (Or.inl ⟨by rfl, ?_⟩) (by assumption) ?_
              rotate_left 1
              · (intro w hSw; (try dsimp only at hSw); go_simp; try with_reducible rfl)
              try simp only [Act.put, List.setIfInBounds_toArray, List.set_cons_zero, List.set_cons_succ]
              refine wpAnyH_take (i := 1) (oi := { dst := some 83, op := .move (.tmp 10), type := 3, pos := _, after := _, guard := none }) (v := ?_) rfl (by kernel_rfl) (by kernel_rfl) (by kernel_rfl) (fun _ _ _ h => h) (Or.inl ⟨by rfl, ?_⟩) (by assumption) ?_
              rotate_left 1
              · (intro w hSw; (try dsimp only at hSw); go_simp; try with_reducible rfl)
              try simp only [Act.put, List.setIfInBounds_toArray, List.set_cons_zero, List.set_cons_succ]
              refine wpAnyH_take (i := 2) (oi := { dst := some 84, op := .move (.tmp 9), type := 39, pos := _, after := _, guard := none }) (v := ?_) rfl (by kernel_rfl) (by kernel_rfl) (by kernel_rfl) (fun _ _ _ h => h) (Or.inl ⟨by rfl, ?_⟩) (by assumption) ?_
              rotate_left 1
              · (intro w hSw; (try dsimp only at hSw); go_simp; try with_reducible rfl)
              try simp only [Act.put, List.setIfInBounds_toArray, List.set_cons_zero, List.set_cons_succ]
              refine wpAnyH_take (i := 3) (oi := { dst := some 85, op := .move (.tmp 10), type := 3, pos := _, after := _, guard := none }) (v := ?_) rfl (by kernel_rfl) (by kernel_rfl) (by kernel_rfl) (fun _ _ _ h => h) (Or.inl ⟨by rfl, ?_⟩) (by assumption) ?_
              rotate_left 1
              · (intro w hSw; (try dsimp only at hSw); go_simp; try with_reducible rfl)
              try simp only [Act.put, List.setIfInBounds_toArray, List.set_cons_zero, List.set_cons_succ]
              refine wpAnyH_take (i := 4) (oi := { dst := some 86, op := .indexAddr 39 (.tmp 84) (.tmp 85), type := 0, pos := _, after := _, guard := none }) (v := ?_) rfl (by kernel_rfl) (by kernel_rfl) (by kernel_rfl) (fun _ _ _ h => h) (Or.inl ⟨by rfl, ?_⟩) (by assumption) ?_
              rotate_left 1
              · (intro w hSw; (try dsimp only at hSw); go_simp; try with_reducible rfl)
              try simp only [Act.put, List.setIfInBounds_toArray, List.set_cons_zero, List.set_cons_succ]
              refine wpAnyH_take (i := 6) (oi := { dst := some 88, op := .fieldAddr 37 (.tmp 11) 1, type := 0, pos := _, after := _, guard := none }) (v := ?_) rfl (by kernel_rfl) (by kernel_rfl) (by kernel_rfl) (fun _ _ _ h => h) (Or.inl ⟨by rfl, ?_⟩) (by assumption) ?_
              rotate_left 1
              · (intro w hSw; (try dsimp only at hSw); go_simp; try with_reducible rfl)
              try simp only [Act.put, List.setIfInBounds_toArray, List.set_cons_zero, List.set_cons_succ]
              refine wpAnyH_take (i := 7) (oi := { dst := some 89, op := .load 22 (.tmp 88), type := 22, pos := _, after := _, guard := none }) (v := ?_) rfl (by kernel_rfl) (by kernel_rfl) (by kernel_rfl) (fun _ _ _ h => h) (Or.inl ⟨by rfl, ?_⟩) (by assumption) ?_
              rotate_left 1
              · (intro w hSw; (try dsimp only at hSw); go_simp; try with_reducible rfl)
              try simp only [Act.put, List.setIfInBounds_toArray, List.set_cons_zero, List.set_cons_succ]
              refine wpAnyH_take (i := 8) (oi := { dst := some 90, op := .move (.tmp 12), type := 3, pos := _, after := _, guard := none }) (v := ?_) rfl (by kernel_rfl) (by kernel_rfl) (by kernel_rfl) (fun _ _ _ h => h) (Or.inl ⟨by rfl, ?_⟩) (by assumption) ?_
              rotate_left 1
              · (intro w hSw; (try dsimp only at hSw); go_simp; try with_reducible rfl)
              try simp only [Act.put, List.setIfInBounds_toArray, List.set_cons_zero, List.set_cons_succ]
              refine wpAnyH_take (i := 9) (oi := { dst := some 91, op := .move (.tmp 6), type := 3, pos := _, after := _, guard := none }) (v := ?_) rfl (by kernel_rfl) (by kernel_rfl) (by kernel_rfl) (fun _ _ _ h => h) (Or.inl ⟨by rfl, ?_⟩) (by assumption) ?_
              rotate_left 1
              · (intro w hSw; (try dsimp only at hSw); go_simp; try with_reducible rfl)
              try simp only [Act.put, List.setIfInBounds_toArray, List.set_cons_zero, List.set_cons_succ]
              refine wpAnyH_take (i := 10) (oi := { dst := some 92, op := .binOp .mul 3 (.tmp 90) (.tmp 91) 3, type := 3, pos := _, after := _, guard := none }) (v := ?_) rfl (by kernel_rfl) (by kernel_rfl) (by kernel_rfl) (fun _ _ _ h => h) (Or.inl ⟨by rfl, ?_⟩) (by assumption) ?_
              rotate_left 1
              · (intro w hSw; (try dsimp only at hSw); go_simp; try with_reducible rfl)
              try simp only [Act.put, List.setIfInBounds_toArray, List.set_cons_zero, List.set_cons_succ]
              refine wpAnyH_take (i := 11) (oi := { dst := some 93, op := .move (.tmp 8), type := 3, pos := _, after := _, guard := none }) (v := ?_) rfl (by kernel_rfl) (by kernel_rfl) (by kernel_rfl) (fun _ _ _ h => h) (Or.inl ⟨by rfl, ?_⟩) (by assumption) ?_
              rotate_left 1
              · (intro w hSw; (try dsimp only at hSw); go_simp; try with_reducible rfl)
              try simp only [Act.put, List.setIfInBounds_toArray, List.set_cons_zero, List.set_cons_succ]
              refine wpAnyH_take (i := 12) (oi := { dst := some 94, op := .binOp .add 3 (.tmp 92) (.tmp 93) 3, type := 3, pos := _, after := _, guard := none }) (v := ?_) rfl (by kernel_rfl) (by kernel_rfl) (by kernel_rfl) (fun _ _ _ h => h) (Or.inl ⟨by rfl, ?_⟩) (by assumption) ?_
              rotate_left 1
              · (intro w hSw; (try dsimp only at hSw); go_simp; try with_reducible rfl)
              try simp only [Act.put, List.setIfInBounds_toArray, List.set_cons_zero, List.set_cons_succ]
              refine wpAnyH_take (i := 13) (oi := { dst := some 95, op := .indexAddr 22 (.tmp 89) (.tmp 94), type := 0, pos := _, after := _, guard := none }) (v := ?_) rfl (by kernel_rfl) (by kernel_rfl) (by kernel_rfl) (fun _ _ _ h => h) (Or.inl ⟨by rfl, ?_⟩) (by assumption) ?_
              rotate_left 1
              · (intro w hSw; (try dsimp only at hSw); go_simp; try with_reducible rfl)
              try simp only [Act.put, List.setIfInBounds_toArray, List.set_cons_zero, List.set_cons_succ]
              refine wpAnyH_take (i := 14) (oi := { dst := some 96, op := .load 5 (.tmp 95), type := 5, pos := _, after := _, guard := none }) (v := ?_) rfl (by kernel_rfl) (by kernel_rfl) (by kernel_rfl) (fun _ _ _ h => h) (Or.inl ⟨by rfl, ?_⟩) (by assumption) ?_
              rotate_left 1
              · (intro w hSw; (try dsimp only at hSw); go_simp; try with_reducible rfl)
              try simp only [Act.put, List.setIfInBounds_toArray, List.set_cons_zero, List.set_cons_succ]
              refine wpAnyH_ready (rs := [5, 15]) (by kernel_rfl) (by simp) ?_
              refine AllReadyH.cons (o := { dst := some 87, op := .load 22 (.tmp 86), type := 22, pos := _, after := _, guard := none }) rfl (fun K hK => ?_) ?_
              · go_simp
                clear hHeld
                refine hK.out _ _ ?_ (fun hHeld => ?_)
                · ((try dsimp only); exact KK.out _ HBz.out HZ.out)
                clear hK K
                refine wpAnyH_ready (rs := [15]) (by kernel_rfl) (by simp) ?_
                refine AllReadyH.cons (o := { dst := some 97, op := .buildSlice 22 1 #[(0, .tmp 96)], type := 22, pos := _, after := _, guard := none }) rfl (fun K hK => ?_) AllReadyH.nil
                go_simp
                replace HBz := Lib.hid (HBz.out.alloc (.cells #[.int .u8 z] 5))
                replace HZ := Lib.hid (HZ.out.alloc HZ.out.size (.cells #[.int .u8 z] 5))
                clear hHeld
                refine hK.out _ _ ?_ (fun hHeld => ?_)
                · ((try dsimp only); exact KK.out _ HBz.out HZ.out)
                clear hK K
                refine wpAnyH_ready (rs := [16]) (by kernel_rfl) (by simp) ?_
                refine AllReadyH.cons (o := { dst := some 98, op := .call { callee := .builtin .append, args := #[.tmp 87, .tmp 97], argTypes := #[22, 22] }, type := 22, pos := _, after := _, guard := none }) rfl (fun K hK => ?_) AllReadyH.nil
                refine Kd.R_append_rows_step (Kd.int .u8) (w0 := x1) x1.heap.size (by rfl) (.tmp 87) (.tmp 97) 22 5 (.int .u8 0) 1 rfl Try.underlying22 Rws.info_byte rfl (by decide) (by decide) u (line q (colX x sz i j)) [z] _ _ _ (fun _ => True) (fun _ => False) rfl rfl (Kd.R_alloc (Kd.R_drew HU.out) _) ((Kd.R_reads' (lit1W (X := wr.drew) x1.heap.size HQ.out.size z)).2.2) (fun _ _ h => h) (fun _ h => h.elim) (fun _ _ => trivial) HZ.out HZ.out.size (by rw [line_len]; have := HQ7.out; simp; omega) ?_
                intro v7 x7 ho hb hg hat
                obtain ⟨A7, c7, e7⟩ := Kd.R_slice ho
                rw [show (line q (colX x sz i j) ++ [z]).length = q + 1 by simp [line_len]] at e7
                subst e7
                obtain ⟨f1, f2, f3⟩ := HST.out _ x7 _ _ (((Below.refl _ _).drew).alloc (Nat.le_refl _) _) ho hg hat
                rw [HXS.out] at f3
                have HS7 := Lib.hid f3
                have HB7 := Lib.hid (HBz.out.grown hg (Kd.R_ne (Kd.R_alloc (Kd.R_drew HU.out) (.cells #[.int .u8 z] 5)) HBz.out (by decide)))
                have HZ7 := Lib.hid hb
                have HB8 := Lib.hid (HB7.out.far (p := ⟨bx, j, none⟩) HNE.out.1 (.slice A7 (q + 1) c7))
                have HZ8 := Lib.hid (HZ7.out.setCell (p := ⟨bx, j, none⟩) HNE.out.2 (.slice A7 (q + 1) c7))
                clear ho hb hg hat f3
                clear hHeld
                refine hK.out _ _ ?_ (fun hHeld => ?_)
                · ((try dsimp only); exact KK.out _ HB7.out HZ7.out)
                clear hK K
                refine wpAnyH_take (i := 17) (oi := { dst := some 99, op := .indexAddr 39 (.tmp 82) (.tmp 83), type := 0, pos := _, after := _, guard := none }) (v := ?_) rfl (by kernel_rfl) (by kernel_rfl) (by kernel_rfl) (fun _ _ _ h => h) (Or.inl ⟨by rfl, ?_⟩) (by assumption) ?_
                rotate_left 1
                · (intro w hSw; (try dsimp only at hSw); go_simp; try with_reducible rfl)
                try simp only [Act.put, List.setIfInBounds_toArray, List.set_cons_zero, List.set_cons_succ]
                refine wpAnyH_ready (rs := [18]) (by kernel_rfl) (by simp) ?_
                refine AllReadyH.cons (o := { dst := none, op := .store 22 (.tmp 99) (.tmp 98), type := 0, pos := _, after := _, guard := none }) rfl (fun K hK => ?_) AllReadyH.nil
                go_simp
                clear hHeld
                refine hK.out _ _ ?_ (fun hHeld => ?_)
                · ((try dsimp only); exact KK.out _ HB8.out HZ8.out)
                clear hK K
                refine wpAnyH_done (by kernel_rfl) ?_ _
                refine NoPanic.normal ?_
                (go_wp2; go_roundw; (case rel => exact ⟨q + 1, by omega, by go_num, HS7, HB8, HZ8⟩); (case measure => simp [intOf]; omega))
              refine AllReadyH.cons (o := { dst := some 97, op := .buildSlice 22 1 #[(0, .tmp 96)], type := 22, pos := _, after := _, guard := none }) rfl (fun K hK => ?_) AllReadyH.nil
              go_simp
              replace HBz := Lib.hid (HBz.out.alloc (.cells #[.int .u8 z] 5))
              replace HZ := Lib.hid (HZ.out.alloc HZ.out.size (.cells #[.int .u8 z] 5))
              clear hHeld
              refine hK.out _ _ ?_ (fun hHeld => ?_)
              · ((try dsimp only); exact KK.out _ HBz.out HZ.out)
              clear hK K
              refine wpAnyH_ready (rs := [5]) (by kernel_rfl) (by simp) ?_
              refine AllReadyH.cons (o := { dst := some 87, op := .load 22 (.tmp 86), type := 22, pos := _, after := _, guard := none }) rfl (fun K hK => ?_) AllReadyH.nil
              go_simp
              clear hHeld
              refine hK.out _ _ ?_ (fun hHeld => ?_)
              · ((try dsimp only); exact KK.out _ HBz.out HZ.out)
              clear hK K
              refine wpAnyH_ready (rs := [16]) (by kernel_rfl) (by simp) ?_
              refine AllReadyH.cons (o := { dst := some 98, op := .call { callee := .builtin .append, args := #[.tmp 87, .tmp 97], argTypes := #[22, 22] }, type := 22, pos := _, after := _, guard := none }) rfl (fun K hK => ?_) AllReadyH.nil
              refine Kd.R_append_rows_step (Kd.int .u8) (w0 := x1) x1.heap.size (by rfl) (.tmp 87) (.tmp 97) 22 5 (.int .u8 0) 1 rfl Try.underlying22 Rws.info_byte rfl (by decide) (by decide) u (line q (colX x sz i j)) [z] _ _ _ (fun _ => True) (fun _ => False) rfl rfl (Kd.R_alloc (Kd.R_drew HU.out) _) ((Kd.R_reads' (lit1W (X := wr.drew) x1.heap.size HQ.out.size z)).2.2) (fun _ _ h => h) (fun _ h => h.elim) (fun _ _ => trivial) HZ.out HZ.out.size (by rw [line_len]; have := HQ7.out; simp; omega) ?_
              intro v7 x7 ho hb hg hat
              obtain ⟨A7, c7, e7⟩ := Kd.R_slice ho
              rw [show (line q (colX x sz i j) ++ [z]).length = q + 1 by simp [line_len]] at e7
              subst e7
              obtain ⟨f1, f2, f3⟩ := HST.out _ x7 _ _ (((Below.refl _ _).drew).alloc (Nat.le_refl _) _) ho hg hat
              rw [HXS.out] at f3
              have HS7 := Lib.hid f3
              have HB7 := Lib.hid (HBz.out.grown hg (Kd.R_ne (Kd.R_alloc (Kd.R_drew HU.out) (.cells #[.int .u8 z] 5)) HBz.out (by decide)))
              have HZ7 := Lib.hid hb
              have HB8 := Lib.hid (HB7.out.far (p := ⟨bx, j, none⟩) HNE.out.1 (.slice A7 (q + 1) c7))
              have HZ8 := Lib.hid (HZ7.out.setCell (p := ⟨bx, j, none⟩) HNE.out.2 (.slice A7 (q + 1) c7))
              clear ho hb hg hat f3
              clear hHeld
              refine hK.out _ _ ?_ (fun hHeld => ?_)
              · ((try dsimp only); exact KK.out _ HB7.out HZ7.out)
              clear hK K
              refine wpAnyH_take (i := 17) (oi := { dst := some 99, op := .indexAddr 39 (.tmp 82) (.tmp 83), type := 0, pos := _, after := _, guard := none }) (v := ?_) rfl (by kernel_rfl) (by kernel_rfl) (by kernel_rfl) (fun _ _ _ h => h) (Or.inl ⟨by rfl, ?_⟩) (by assumption) ?_
              rotate_left 1
              · (intro w hSw; (try dsimp only at hSw); go_simp; try with_reducible rfl)
              try simp only [Act.put, List.setIfInBounds_toArray, List.set_cons_zero, List.set_cons_succ]
              refine wpAnyH_ready (rs := [18]) (by kernel_rfl) (by simp) ?_
              refine AllReadyH.cons (o := { dst := none, op := .store 22 (.tmp 99) (.tmp 98), type := 0, pos := _, after := _, guard := none }) rfl (fun K hK => ?_) AllReadyH.nil
              go_simp
              clear hHeld
              refine hK.out _ _ ?_ (fun hHeld => ?_)
              · ((try dsimp only); exact KK.out _ HB8.out HZ8.out)
              clear hK K
              refine wpAnyH_done (by kernel_rfl) ?_ _
              refine NoPanic.normal ?_
              (go_wp2; go_roundw; (case rel => exact ⟨q + 1, by omega, by go_num, HS7, HB8, HZ8⟩); (case measure => simp [intOf]; omega))
            · obtain rfl : a = q := by omega
              go_wp2
              go_roundw
              case rel => exact ⟨j + 1, by omega, by go_num, Lib.hid (by rw [← xsL_next]; exact HS.out), HQ⟩
              case measure => simp [intOf]; omega
        · obtain rfl : k = j := by omega
          have hBW := HB.out.trans (HQ.out.mono HB.out.size)
          obtain ⟨f, hf⟩ : ∃ f, f = ptS n k s := ⟨_, rfl⟩
          have hfb : ∀ i, f i < 256 := fun i => by rw [hf]; exact ptN_lt n k _
          have hXr := (Kd.S_reads' HS.out).2.2
          rw [xsL_len, xsL_all] at hXr
          have hgx : g < x1.heap.size := Kd.R_lt HO.out g rfl
          have HG := Lib.hid hgx
          have HV := Lib.hid (show Calls Try.prog 59 #[.pointer (some ⟨b, 0, none⟩), .slice (some adA) k c, .slice (some ⟨bx, 0, none⟩) k cx] wr fun e w' => ∃ A1 c1 A2 c2, e = .returned (.tuple #[.slice A1 a c1, .slice A2 a c2]) ∧ RowsR w' wr.heap.size (.slice A1 a c1) (mat a a (fun r q => B (placeN a r q) i)) ∧ RowsR w' wr.heap.size (.slice A2 a c2) (mat a a (fun r q => B (placeN a (a + r) q) i)) ∧ Below wr.heap.size wr w' from
            halves_any _ n k c cx a (some adA) (some ⟨bx, 0, none⟩) s h x (colX x sz i) _ _ wr (HBC.out wr hBW) k1 k2 n2 HAK.out (HPX.out wr hBW) HOK.out HIN.out
              (fun i' j' hi' hj' e => HIN.out i' j' hi' hj' (by
                have h1 := HOK.out i' hi'
                have h2 := HOK.out j' hj'
                have e2 : gp (ptN n k (s i').toNat) (k - 1) = gp (ptN n k (s j').toNat) (k - 1) := by
                  have e3 : ((gp (ptS n k s i') a : Nat) : Int) = ((gp (ptS n k s j') a : Nat) : Int) := e
                  rw [HAK.out] at e3
                  exact Int.ofNat_inj.1 e3
                have := lam_inj n k (s i').toNat (s j').toNat k1 k2 n2 (by omega) (by omega) e2
                show ptN n k (s i').toNat = ptN n k (s j').toNat
                rw [this]))
              hXr (fun r q => HXB.out r _) (fun r q => HBB.out _ _) (fun r q => HBB.out _ _) (fun r u hr hu => by rw [(place_sym a r u a7 hr hu).1]) (fun r u hr hu => by rw [(place_sym a r u a7 hr hu).2]) (HXM.out i hlt))
          clear hXr hf hfb f
          have PU1 := Lib.hid (fun W A1 c1 M2 A2 c2 (hB : Below wr.heap.size wr W) (h1 : RowsR W wr.heap.size (.slice A1 a c1) (mat a a (fun r q => B (placeN a r q) i))) (h2 : RowsR W wr.heap.size (.slice A2 a c2) (mat a a M2)) =>
            show Calls Try.prog 60 #[.pointer (some ⟨b, 0, none⟩), .slice (some ⟨g, 0, none⟩) L c4, .slice A1 a c1, .int .i64 0, .int .i64 i, .int .i64 sz] W fun e w' => e = .returned (.tuple #[]) ∧ ∃ F', Put a 0 sz i a 0 F (outB B sz) F' ∧ (Kd.int .u8).R 5 w' w.heap.size (fun _ => True) (.slice (some ⟨g, 0, none⟩) L c4) (line L F') ∧ Kd.R kRow 22 w' wr.heap.size (fun q => wr.heap.size ≤ q) (.slice A2 a c2) (mat a a M2) ∧ Below w.heap.size w w' from
            put_keep (fun W => Kd.R kRow 22 W wr.heap.size (fun q => wr.heap.size ≤ q) (.slice A2 a c2) (mat a a M2)) (.pointer (some ⟨b, 0, none⟩)) n k a 0 i sz L g c4 c1 wr.heap.size A1 _ F (outB B sz) w W (HBC.out w (Below.refl _ _)).code k1 k2 HAK.out (Or.inl rfl) hs2 (hBW.trans (hB.mono hBW.size)) (Kd.R_base HO.out g rfl) (by have := HG.out; have := HQ.out.size; omega) hlt
            (fun i' kk h1 h2 => place_sz HL0.out (by rw [Nat.zero_add]; exact place_lt a i' kk a1 a7 (by omega) h2) hlt) (by omega) (fun i' kk h1 h2 => by rw [Nat.zero_add, outB_at _ _ _ _ hlt]) (Kd.R_below (Kd.R_below HO.out HQ.out) (hB.mono (Nat.le_refl _))) h1
            (Kd.R_mono (Kd.R_bound h2) (fun q hq => hq.2.1)) (fun W' p u hp hk => Kd.R_far hk (fun q hq e => by have := HG.out; have := HQ.out.size; have e' : q = p.block := e; omega) u) (fun W' j hk => Kd.R_drewN hk j))
          have PU2 := Lib.hid (fun W A2 c2 F1 (hB : Below w.heap.size w W) (ho : (Kd.int .u8).R 5 W w.heap.size (fun _ => True) (.slice (some ⟨g, 0, none⟩) L c4) (line L F1)) (h2 : Kd.R kRow 22 W wr.heap.size (fun q => wr.heap.size ≤ q) (.slice A2 a c2) (mat a a (fun r q => B (placeN a (a + r) q) i))) =>
            put_any (.pointer (some ⟨b, 0, none⟩)) n k a a i sz L g c4 c2 wr.heap.size A2 _ F1 (outB B sz) w W (HBC.out w (Below.refl _ _)).code k1 k2 HAK.out (Or.inr rfl) hs2 hB (Kd.R_base HO.out g rfl) (by have := HG.out; have := HQ.out.size; omega) hlt
            (fun i' kk h1 h2 => place_sz HL0.out (place_lt a (a + i') kk a1 a7 (by omega) h2) hlt) (by omega) (fun i' kk h1 h2 => by rw [outB_at _ _ _ _ hlt]) ho (Kd.R_mono h2 (fun _ _ => trivial)))
          have HBW := Lib.hid hBW
          clear hBW HS HQ hgx
          go_wp2_with (first
            | (go_at_call 59; (with_reducible refine HV.out.mono ?_); rintro e w6 ⟨A1, c1, A2, c2, rfl, hr1, hr2, hb⟩; have HP1 := Lib.hid (PU1.out _ _ c1 _ _ c2 hb hr1 hr2); clear HV PU1 hr1 hr2 hb)
            | (go_at_call 60; (with_reducible refine HP1.out.mono ?_); rintro e w7 ⟨rfl, F1, hp1, ho, hk, hb⟩; have HU1 := Lib.hid hp1; have HB7 := Lib.hid hb; have HP2 := Lib.hid (PU2.out _ _ c2 _ hb ho hk); clear HP1 PU2 hp1 ho hk hb)
            | (go_at_call 23; (with_reducible refine (HPP.out _ HB7.out).mono ?_); rintro e u ⟨rfl, hu⟩; have hu' := hu.symm; subst hu'; clear hu)
            | (go_at_call 60; (with_reducible refine HP2.out.mono ?_); rintro e w8 ⟨rfl, F2, hp2, ho, hb⟩; have HU2 := Lib.hid hp2; have HO8 := Lib.hid ho; have HB8 := Lib.hid hb; clear HP2 hp2 ho hb))
          go_roundw
          case rel => exact ⟨i + 1, F2, by omega, by go_num, Lib.hid (HC.out.more a1 a7 HL0.out hlt HU1.out HU2.out), HO8, HB8⟩
          case measure => simp [intOf]; omega
    · obtain rfl : sz = i := by omega
      go_wp2
      go_ret2
      exact ⟨_, _, rfl, by rw [← HC.out.all hs1]; exact HO.out, HB.out⟩
end Go.Proofs.Ytcnfafappcbpnaa.Hl
namespace Go.Proofs.Ytcnfafappcbpnaa.Hl
open Go Go.RowKit Go.Proofs.Ytcnfafappcbpnaa.Gf Go.Proofs.Ytcnfafappcbpnaa.Gi Go.Proofs.Ytcnfafappcbpnaa.Bits Go.Proofs.Ytcnfafappcbpnaa.Mem Go.Proofs.Ytcnfafappcbpnaa.VPts Go.Proofs.Ytcnfafappcbpnaa.Str Go.Proofs.Ytcnfafappcbpnaa.Rws Go.Proofs.Ytcnfafappcbpnaa.Par Go.Proofs.Ytcnfafappcbpnaa.BHealFragments Go.Proofs.YtcnfafappcbpnaaW.PrintWords
set_option linter.unusedVariables false
end Go.Proofs.Ytcnfafappcbpnaa.Hl
namespace Go.Proofs.Ytcnfafappcbpnaa.Plc
open Go Go.RowKit Go.Proofs.Ytcnfafappcbpnaa.Mem Go.Proofs.Ytcnfafappcbpnaa.Bits Go.Proofs.YtcnfafappcbpnaaW.PrintWords Go.Proofs.YtcnfafappcbpnaaW.PrintLast
set_option linter.unusedVariables false
def placeN (a r c : Nat) : Nat := (if r < a then 0 else a * (a + 1) / 2) + min (if r < a then r else r - a) c * a - min (if r < a then r else r - a) c * (min (if r < a then r else r - a) c - 1) / 2 + max (if r < a then r else r - a) c - min (if r < a then r else r - a) c
def put (o : List (List Int)) (i j : Nat) (v : Int) : List (List Int) := o.set i ((o.getD i []).set j v)
def run (a : Nat) : List (Nat × Nat × Nat) → List (List Int) → Nat → List (List Int)
  | [], o, _ => o
  | (h, i, j) :: r, o, n => run a r (put (put o (h * a + i) j n) (h * a + j) i n) (n + 1)
def zeros (a m : Nat) : List (List Int) := List.replicate m (List.replicate a 0)
theorem info_int : (Try.prog.info? 3).map (fun i => (i.zero, i.size, i.bytes)) = some (some (.int .i64 0), 1, 8) := by kernel_rfl
end Go.Proofs.Ytcnfafappcbpnaa.Plc
namespace Go.Proofs.Ytcnfafappcbpnaa.BSteps
open Go Go.RowKit Go.Proofs.Ytcnfafappcbpnaa.PSteps Go.Proofs.Ytcnfafappcbpnaa.Gf Go.Proofs.Ytcnfafappcbpnaa.Bits Go.Proofs.YtcnfafappcbpnaaW.PrintWords Go.Proofs.YtcnfafappcbpnaaW.PrintLast
end Go.Proofs.Ytcnfafappcbpnaa.BSteps
namespace Go.Proofs.Ytcnfafappcbpnaa.Sol
open Go Go.RowKit Go.Proofs.Ytcnfafappcbpnaa.PSteps Go.Proofs.Ytcnfafappcbpnaa.BSteps Go.Proofs.Ytcnfafappcbpnaa.Gf Go.Proofs.Ytcnfafappcbpnaa.Gi Go.Proofs.Ytcnfafappcbpnaa.Bits Go.Proofs.Ytcnfafappcbpnaa.Rws Go.Proofs.YtcnfafappcbpnaaW.PrintWords Go.Proofs.YtcnfafappcbpnaaW.PrintLast
set_option linter.unusedVariables false
end Go.Proofs.Ytcnfafappcbpnaa.Sol
namespace Go.Proofs.Ytcnfafappcbpnaa.Sol
open Go Go.RowKit Go.Proofs.Ytcnfafappcbpnaa.PSteps Go.Proofs.Ytcnfafappcbpnaa.BSteps Go.Proofs.Ytcnfafappcbpnaa.Gf Go.Proofs.Ytcnfafappcbpnaa.Gi Go.Proofs.Ytcnfafappcbpnaa.Bits Go.Proofs.Ytcnfafappcbpnaa.Mem Go.Proofs.Ytcnfafappcbpnaa.Rws Go.Proofs.YtcnfafappcbpnaaW.PrintWords Go.Proofs.YtcnfafappcbpnaaW.PrintLast
set_option linter.unusedVariables false
end Go.Proofs.Ytcnfafappcbpnaa.Sol
namespace Go.Proofs.Ytcnfafappcbpnaa.Hl
open Go Go.RowKit Go.Proofs.Ytcnfafappcbpnaa.Gf Go.Proofs.Ytcnfafappcbpnaa.Gi Go.Proofs.Ytcnfafappcbpnaa.Bits Go.Proofs.Ytcnfafappcbpnaa.Mem Go.Proofs.Ytcnfafappcbpnaa.Alg Go.Proofs.Ytcnfafappcbpnaa.Sol Go.Proofs.Ytcnfafappcbpnaa.VPts Go.Proofs.Ytcnfafappcbpnaa.Str Go.Proofs.Ytcnfafappcbpnaa.Rws Go.Proofs.Ytcnfafappcbpnaa.Par Go.Proofs.Ytcnfafappcbpnaa.BHealFragments Go.Proofs.YtcnfafappcbpnaaW.PrintWords
set_option linter.unusedVariables false
end Go.Proofs.Ytcnfafappcbpnaa.Hl
namespace Go.Proofs.Ytcnfafappcbpnaa.Hl
open Go Go.RowKit Go.Proofs.Ytcnfafappcbpnaa.Gf Go.Proofs.Ytcnfafappcbpnaa.Gi Go.Proofs.Ytcnfafappcbpnaa.Bits Go.Proofs.Ytcnfafappcbpnaa.Mem Go.Proofs.Ytcnfafappcbpnaa.Alg Go.Proofs.Ytcnfafappcbpnaa.Sol Go.Proofs.Ytcnfafappcbpnaa.VPts Go.Proofs.Ytcnfafappcbpnaa.Str Go.Proofs.Ytcnfafappcbpnaa.Rws Go.Proofs.Ytcnfafappcbpnaa.Par Go.Proofs.Ytcnfafappcbpnaa.Mdc Go.Proofs.Ytcnfafappcbpnaa.BHealFragments Go.Proofs.YtcnfafappcbpnaaW.PrintWords Go.Proofs.YtcnfafappcbpnaaW.PrintLast
set_option linter.unusedVariables false
theorem ii_row {w : World} {A : Option Addr} {n : Nat} {xs : List Int} (h : (Kd.int .i64).C w A n xs) (i : Nat) (hi : i < n) : ∃ ad, A = some ad ∧ w.cell? (ad.add i) = some (.int .i64 (xs.getD i 0)) := by
  obtain ⟨ad, e, hc⟩ := Kd.at_int h (i : Int) (by omega) (by omega)
  simp only [Int.toNat_natCast] at hc
  exact ⟨ad, e, by simpa [rd] using hc⟩
end Go.Proofs.Ytcnfafappcbpnaa.Hl
namespace Go.Proofs.Ytcnfafappcbpnaa.Hl
open Go Go.RowKit Go.Proofs.Ytcnfafappcbpnaa.Gf Go.Proofs.Ytcnfafappcbpnaa.Gi Go.Proofs.Ytcnfafappcbpnaa.Bits Go.Proofs.Ytcnfafappcbpnaa.Mem Go.Proofs.Ytcnfafappcbpnaa.Alg Go.Proofs.Ytcnfafappcbpnaa.Sol Go.Proofs.Ytcnfafappcbpnaa.VPts Go.Proofs.Ytcnfafappcbpnaa.Str Go.Proofs.Ytcnfafappcbpnaa.Rws Go.Proofs.Ytcnfafappcbpnaa.Par Go.Proofs.Ytcnfafappcbpnaa.Mdc Go.Proofs.Ytcnfafappcbpnaa.BHealFragments Go.Proofs.YtcnfafappcbpnaaW.PrintWords
set_option linter.unusedVariables false
end Go.Proofs.Ytcnfafappcbpnaa.Hl
namespace Go.Proofs.Ytcnfafappcbpnaa.Str
open Go Go.RowKit Go.Proofs.Ytcnfafappcbpnaa.PHealFragments Go.Proofs.Ytcnfafappcbpnaa.BHealFragments Go.Proofs.Ytcnfafappcbpnaa.BHealFragments Go.Proofs.Ytcnfafappcbpnaa.Gf Go.Proofs.Ytcnfafappcbpnaa.Gi Go.Proofs.Ytcnfafappcbpnaa.Bits Go.Proofs.Ytcnfafappcbpnaa.Mem Go.Proofs.Ytcnfafappcbpnaa.VPts Go.Proofs.Ytcnfafappcbpnaa.Rws Go.Proofs.Ytcnfafappcbpnaa.Plc Go.Proofs.YtcnfafappcbpnaaW.PrintWords Go.Proofs.YtcnfafappcbpnaaW.PrintLast
set_option linter.unusedVariables false
theorem placeN_lt (a r c : Nat) (h1 : 1 ≤ a) (h7 : a ≤ 7) (hr : r < 2 * a) (hc : c < a) : Plc.placeN a r c < (a + 1) * a := by
  have h : ∀ a, a < 8 → ∀ r, r < 2 * a → ∀ c, c < a → Plc.placeN a r c < (a + 1) * a := by decide +kernel
  exact h a (by omega) r hr c hc
def symV (x a sz : Nat) (b : List Int) (j i : Nat) : Int := dotN (fun r => ((gp x r : Nat) : Int)) (fun r => b.getD (Plc.placeN a r j * sz + i) 0) (2 * a)
def symTo (x a sz : Nat) (b : List Int) (j i m : Nat) : Int := dotN (fun r => ((gp x r : Nat) : Int)) (fun r => b.getD (Plc.placeN a r j * sz + i) 0) m
theorem symTo_succ (x a sz : Nat) (b : List Int) (j i m : Nat) : symTo x a sz b j i (m + 1) = xorI (symTo x a sz b j i m) (gmI ((gp x m : Nat) : Int) (b.getD (Plc.placeN a m j * sz + i) 0)) := rfl
theorem symTo_byt (x a sz : Nat) (b : List Int) (j i m : Nat) (hx : x < 256) : Byt (symTo x a sz b j i m) := dotN_byt (fun j => gp_byt x j hx) m
def shardTo (x a sz : Nat) (b : List Int) (m : Nat) : List Int := ((List.range m).map (fun j => line sz (symV x a sz b j))).flatten
theorem shardTo_succ (x a sz : Nat) (b : List Int) (m : Nat) : shardTo x a sz b (m + 1) = shardTo x a sz b m ++ line sz (symV x a sz b m) := by
  unfold shardTo; rw [List.range_succ, List.map_append, List.flatten_append]; simp
theorem shardTo_len (x a sz : Nat) (b : List Int) (m : Nat) : (shardTo x a sz b m).length = m * sz := by
  induction m with
  | zero => simp [shardTo]
  | succ m ih => rw [shardTo_succ, List.length_append, ih, line_len, Nat.add_mul, Nat.one_mul]
def shardL (x a sz : Nat) (b : List Int) : List Int := shardTo x a sz b a
theorem shardL_len (x a sz : Nat) (b : List Int) : (shardL x a sz b).length = a * sz := shardTo_len _ _ _ _ _
theorem shardL_byt (x a sz : Nat) (b : List Int) (hx : x < 256) : ∀ y ∈ shardL x a sz b, Byt y := by
  intro y hy
  obtain ⟨l, hl, hy⟩ := List.mem_flatten.1 hy
  obtain ⟨j, _, rfl⟩ := List.mem_map.1 hl
  exact line_byt sz _ (fun i => symTo_byt x a sz b j i (2 * a) hx) y hy
def shardsM (n k sz : Nat) (b : List Int) (m : Nat) : List (List Int) := (List.range m).map (fun i => shardL (ptN n k i) (k - 1) sz b)
theorem shardsM_succ (n k sz : Nat) (b : List Int) (m : Nat) : shardsM n k sz b (m + 1) = shardsM n k sz b m ++ [shardL (ptN n k m) (k - 1) sz b] := by simp [shardsM, List.range_succ]
theorem shardsM_len (n k sz : Nat) (b : List Int) (m : Nat) : (shardsM n k sz b m).length = m := by simp [shardsM]
def kP (sz : Nat) : Kd (Option Addr × Nat) := Kd.scalar (fun p => .slice p.1 sz p.2) (fun _ => rfl)
def chunkA (A : Option Addr) (c lo : Nat) : Option Addr := if c = lo then A else A.map (·.add lo)
def chunkP (A : Option Addr) (c sz m : Nat) : List (Option Addr × Nat) := (List.range m).map (fun i => (chunkA A c (i * sz), c - i * sz))
theorem chunkP_succ (A : Option Addr) (c sz m : Nat) : chunkP A c sz (m + 1) = chunkP A c sz m ++ [(chunkA A c (m * sz), c - m * sz)] := by simp [chunkP, List.range_succ]
theorem chunkP_len (A : Option Addr) (c sz m : Nat) : (chunkP A c sz m).length = m := by simp [chunkP]
def chunks (b : List Int) (sz m : Nat) : List (List Int) := (List.range m).map (fun i => (b.drop (i * sz)).take sz)
theorem chunks_len (b : List Int) (sz m : Nat) : (chunks b sz m).length = m := by simp [chunks]
theorem chunks_get (b : List Int) (sz m i : Nat) (hi : i < m) : (chunks b sz m).getD i [] = (b.drop (i * sz)).take sz := by simp [chunks, List.getD_eq_getElem?_getD, hi]
theorem chunk_len (b : List Int) (sz m i : Nat) (hi : i < m) (h : b.length = m * sz) : ((b.drop (i * sz)).take sz).length = sz := by
  have : (i + 1) * sz ≤ m * sz := Nat.mul_le_mul_right sz hi
  rw [Nat.add_mul, Nat.one_mul] at this
  rw [List.length_take, List.length_drop]; omega
theorem chunk_get (b : List Int) (sz i j : Nat) (hj : j < sz) : ((b.drop (i * sz)).take sz).getD j 0 = b.getD (i * sz + j) 0 := by
  rw [List.getD_eq_getElem?_getD, List.getElem?_take, if_pos hj, List.getElem?_drop, ← List.getD_eq_getElem?_getD]
theorem chunks_C {w : World} {A A' : Option Addr} {L c sz m : Nat} {b : List Int} (h : (Kd.int .u8).C w A L b) (hc : L ≤ c) (hL : L = m * sz) (hP : Kd.C (kP sz) w A' m (chunkP A c sz m)) : Kd.C kRow w A' m (chunks b sz m) := by
  have hb : b.length = m * sz := by have := h.1; omega
  refine ⟨chunks_len _ _ _, hP.2.1, fun hn => ?_⟩
  obtain ⟨ad, e, hcell⟩ := hP.2.2 hn
  refine ⟨ad, e, fun j p hj => ?_⟩
  have hjm : j < m := by have := (List.getElem?_eq_some_iff.1 hj).1; rwa [chunks_len] at this
  have hp : p = (b.drop (j * sz)).take sz := by
    simp [chunks, hjm] at hj; exact hj.symm
  subst hp
  obtain ⟨cs, h1, h2, h3⟩ := hcell j (chunkA A c (j * sz), c - j * sz) (by simp [chunkP, hjm])
  have h2' : cs = [.slice (chunkA A c (j * sz)) sz (c - j * sz)] := h2
  subst h2'
  have hle : (j + 1) * sz ≤ m * sz := Nat.mul_le_mul_right sz hjm
  rw [Nat.add_mul, Nat.one_mul] at hle
  have hcl := chunk_len b sz m j hjm hb
  have hr := ((Kd.reads_of_C (d := (0 : Int)) h).drop_ (j * sz) (by omega) hc).take_ sz (by omega)
  refine ⟨_, rfl, ⟨chunkA A c (j * sz), c - j * sz, by rw [hcl], by omega, ?_⟩, h3⟩
  rw [hcl]
  exact Kd.C_of_reads (d := (0 : Int)) hr
set_option maxRecDepth 100000 in
set_option maxHeartbeats 2000000 in
theorem parts_good (s sz L : Nat) (A : Option Addr) (c : Nat) (b : List Int) (w : World) (hr : (Kd.int .u8).C w A L b) (hc : L ≤ c) (hLs : L = s * sz) (hs : 1 ≤ s) (hsz : 1 ≤ sz) (hs2 : s ≤ 56) (hL1 : L ≤ 1000) :
    Calls Try.prog 40 #[.slice A L c, .int .i64 s] w fun e w' => ∃ A' c', e = .returned (.tuple #[.slice A' s c', .bool true]) ∧ s ≤ c' ∧ Kd.C kRow w' A' s (chunks b sz s) ∧ Below w.heap.size w w' := by
  have HS := Lib.hid (fun W (hB : Below w.heap.size w W) => Kd.C_below hr hB)
  have HC := Lib.hid hc
  have HLS := Lib.hid hLs
  have hL0 : 1 * 1 ≤ s * sz := Nat.mul_le_mul hs hsz
  have d2 : (L : Int) % (s : Int) = 0 := by rw [hLs, Int.natCast_mul]; exact Int.mul_emod_right _ _
  have d4 : (L : Int) / (s : Int) = (sz : Int) := by rw [hLs, Int.natCast_mul, Int.mul_comm]; exact Int.mul_ediv_cancel _ (by omega)
  have d3 : ((L : Int) == 0) = false := by simp; omega
  have d5 : decide ((s : Int) < 1) = false := by simp; omega
  have HB0 := Lib.hid (Below.refl w.heap.size w)
  have t1 : (1 : Int) ≤ (s : Int) := by omega
  have sz1 : sz ≤ L := by rw [hLs]; exact Nat.le_mul_of_pos_left sz (by omega)
  clear hr hc hLs hL0
  go_enter Try.func40, Try.ntmps40
  go_wp2
  rw [d2]
  clear d2 d4 d3 d5
  go_loopw [7, 8, 28] (fun u0 _ iv wr => ∃ (i : Nat) (u : Value), u0 = u ∧ i ≤ s ∧ iv = .int .i64 i ∧ Hid (Kd.R (kP sz) 22 wr w.heap.size (fun _ => True) u (chunkP A c sz i)) ∧ Hid (Below w.heap.size w wr)) (fun _ _ iv _ => s - (intOf iv).toNat)
  case atStart => exact ⟨0, _, rfl, by omega, rfl, Lib.hid (Kd.R_nil _ _ _ _ _), HB0⟩
  case round =>
    clear HB0
    obtain ⟨i, u, rfl, hi, rfl, HO, HB2⟩ := hrel
    by_cases hlt : i < s
    · have hle : (i + 1) * sz ≤ s * sz := Nat.mul_le_mul_right sz hlt
      have hls := HLS.out
      have hcl := HC.out
      obtain ⟨po, hpo⟩ : ∃ po, po = i * sz := ⟨_, rfl⟩
      have hpo2 : (i + 1) * sz = po + sz := by rw [Nat.add_mul, Nat.one_mul, hpo]
      rw [hpo2] at hle
      have e1 : IntKind.i64.wrap ((i : Int) * (sz : Int)) = (po : Int) := by rw [hpo, ← Int.natCast_mul]; exact IntWalk.i64_in _ (by omega)
      have e2 : IntKind.i64.wrap (((i : Int) + 1) * (sz : Int)) = (po : Int) + (sz : Int) := by
        rw [show ((i : Int) + 1) * (sz : Int) = ((po + sz : Nat) : Int) by rw [← hpo2, Int.natCast_mul, Int.natCast_add]; rfl, IntWalk.i64_in _ (by omega)]; omega
      have e3 : IntKind.i64.wrap ((i : Int) + 1) = (i : Int) + 1 := IntWalk.i64_in _ (by omega)
      have g1 : (i : Int) < (s : Int) := by omega
      obtain ⟨i0, hi0, hz⟩ := Option.map_eq_some_iff.1 VPts.info_byte
      simp only [Prod.mk.injEq] at hz
      have kc := cut_mid (P := Try.prog) 22 5 .i64 .i64 Try.underlying22 hi0 1 hz.2.1 A L c (po : Int) ((po : Int) + (sz : Int)) (by omega) (by omega) (by omega) (by omega)
      rw [show ((po : Int) + (sz : Int)).toNat - ((po : Int)).toNat = sz by omega, Int.toNat_natCast, Nat.mul_one] at kc
      obtain ⟨A2, hA2⟩ : ∃ A2, A2 = chunkA A c po := ⟨_, rfl⟩
      rw [show (if c = po then A else A.map (·.add po)) = A2 from hA2.symm] at kc
      obtain ⟨c2, hc2⟩ : ∃ c2, c2 = c - po := ⟨_, rfl⟩
      rw [← hc2] at kc
      have HX := Lib.hid (show chunkP A c sz (i + 1) = chunkP A c sz i ++ [(A2, c2)] by rw [chunkP_succ, ← hpo, ← hA2, ← hc2])
      clear hpo2 hle hls hcl hpo hz hi0 hA2 hc2
      go_wp2_with (at_builtin; refine Kd.R_append (kP sz) (w0 := w) w.heap.size rfl _ _ 39 22 (.slice none 0 0) 24 rfl Try.underlying39 info_rows rfl (show 0 < 1 from Nat.one_pos) (by decide) u7 (chunkP A c sz i) (A2, c2) [.slice A2 sz c2] (fun _ => True) (fun _ => False) rfl rfl rfl (fun _ hk => hk.elim) (fun _ _ => trivial) HO.out HB2.out HB2.out.size (by rw [chunkP_len]; omega) ?_; intro v1 w1 h1 h2 h3 h4; have H1 := Lib.hid h1; have H2 := Lib.hid h2; clear h1 h2 h3 h4)
      go_roundw
      case rel =>
        have hfin := Lib.hid (show Kd.R (kP sz) 22 w1 w.heap.size (fun _ => True) v1 (chunkP A c sz (i + 1)) by rw [HX.out]; exact H1.out)
        exact ⟨i + 1, v1, rfl, by omega, by go_num, hfin, H2⟩
      case measure => simp [intOf]; omega
    · obtain rfl : i = s := by omega
      obtain ⟨A7, c7, rfl, hl7, hC7⟩ := Kd.R_reads HO.out
      rw [chunkP_len] at hC7 hl7 ⊢
      have HC7 := Lib.hid hC7
      have HL7 := Lib.hid hl7
      clear hl7 hC7
      go_wp2
      go_ret2
      exact ⟨A7, c7, rfl, HL7.out, chunks_C (HS.out _ HB2.out) HC.out HLS.out HC7.out, HB2.out⟩
def RowE (w : World) (ad : Addr) (n : Nat) (xs : List Int) : Prop := ∀ j, j < n → w.cell? (ad.add j) = some (.int .u8 (xs.getD j 0))
theorem RowE.of {w : World} {A : Option Addr} {n : Nat} {xs : List Int} (h : (Kd.int .u8).C w A n xs) (hn : 0 < n) : ∃ ad, A = some ad ∧ RowE w ad n xs := by
  obtain ⟨ad, e, _⟩ := at_row h 0 hn
  refine ⟨ad, e, fun j hj => ?_⟩
  obtain ⟨ad', e', hc⟩ := at_row h j hj
  rw [e] at e'
  injection e' with e'
  subst e'
  exact hc
theorem RowE.far {w : World} {ad : Addr} {n : Nat} {xs : List Int} (h : RowE w ad n xs) {p : Addr} (hp : ad.block ≠ p.block) (u : Value) : RowE (w.setCell p u) ad n xs :=
  fun j hj => (World.cell?_setCell_other w p (ad.add j) u (fun e => hp (by rw [e, block_of_add]))).trans (h j hj)
theorem RowE.drewN {w : World} {ad : Addr} {n : Nat} {xs : List Int} (h : RowE w ad n xs) (q : Nat) : RowE (w.drewN q) ad n xs := h
def mixL (n : Nat) (f : Int) (xs ls : Nat → Int) (i : Nat) : List Int := line n (fun j => if j < i then xorI (xs j) (gmI (ls j) f) else xs j)
theorem mixL_zero (n : Nat) (f : Int) (xs ls : Nat → Int) : mixL n f xs ls 0 = line n xs := line_congr n _ _ (fun j _ => by rw [if_neg (Nat.not_lt_zero j)])
theorem mixL_set (n : Nat) (f : Int) (xs ls : Nat → Int) (i : Nat) (hi : i < n) : (mixL n f xs ls i).set i (xorI (xs i) (gmI (ls i) f)) = mixL n f xs ls (i + 1) := by
  unfold mixL
  rw [line_set n _ i hi]
  refine line_congr n _ _ (fun k hk => ?_)
  by_cases e : k = i
  · subst e; rw [if_pos rfl, if_pos (by omega)]
  · rw [if_neg e]
    by_cases h : k < i
    · rw [if_pos h, if_pos (by omega)]
    · rw [if_neg h, if_neg (by omega)]
theorem mixL_get (n : Nat) (f : Int) (xs ls : Nat → Int) (i : Nat) (hi : i < n) : (mixL n f xs ls i).getD i 0 = xs i := by
  unfold mixL
  rw [line_get n _ i hi, if_neg (Nat.lt_irrefl i)]
theorem gm0 (a : Int) : gmI a 0 = 0 := by unfold gmI; simp [gm_zero_right]
theorem xor0 {a : Int} (h : Byt a) : xorI a 0 = a := by unfold xorI; have := h.1; simp; omega
set_option maxRecDepth 100000 in
set_option maxHeartbeats 4000000 in
theorem mix_any (n g ct c1 base : Nat) (ad : Addr) (f : Int) (xs ls : Nat → Int) (w0 w : World) (hf : Byt f) (hxs : ∀ j, Byt (xs j)) (hls : ∀ j, Byt (ls j)) (hB : Below base w0 w) (hg : base ≤ g)
    (hR : Kd.R (Kd.int .u8) 5 w base (fun _ => True) (.slice (some ⟨g, 0, none⟩) n ct) (line n xs)) (hrow : RowE w ad n (line n ls)) (hne : ad.block ≠ g) (hn : n ≤ 1000000) :
    Calls Try.prog 61 #[.slice (some ⟨g, 0, none⟩) n ct, .slice (some ad) n c1, .int .u8 f] w fun e w' => e = .returned (.tuple #[]) ∧ Kd.R (Kd.int .u8) 5 w' base (fun _ => True) (.slice (some ⟨g, 0, none⟩) n ct) (line n (fun j => xorI (xs j) (gmI (ls j) f))) ∧ Below base w0 w' := by
  by_cases hf0 : f = 0
  · have t1 : (f == 0) = true := by simp [hf0]
    have HR := Lib.hid (show Kd.R (Kd.int .u8) 5 w base (fun _ => True) (.slice (some ⟨g, 0, none⟩) n ct) (line n (fun j => xorI (xs j) (gmI (ls j) f))) by
      rw [line_congr n (fun j => xorI (xs j) (gmI (ls j) f)) xs (fun j _ => by show xorI _ _ = _; rw [hf0, gm0, xor0 (hxs j)])]; exact hR)
    have HB := Lib.hid hB
    clear hR hrow hB hf0 hf hxs hls
    go_enter Try.func61, Try.ntmps61
    go_wp2
    first | go_end0 | ((try simp only [Exit.inBlock, Exit.then]); refine bodyPost_ret (results_none rfl _ _ _) rfl ?_)
    exact ⟨rfl, HR.out, HB.out⟩
  · have t1 : (f == 0) = false := by simp [hf0]
    have HF := Lib.hid hf
    have HXS := Lib.hid hxs
    have HLS := Lib.hid hls
    have HG := Lib.hid hg
    have HNE := Lib.hid hne
    have HR := Lib.hid (show Kd.R (Kd.int .u8) 5 w base (fun _ => True) (.slice (some ⟨g, 0, none⟩) n ct) (mixL n f xs ls 0) by rw [mixL_zero]; exact hR)
    have HROW := Lib.hid hrow
    have HB := Lib.hid hB
    clear hR hrow hB hf0 hf hxs hls hg hne
    go_enter Try.func61, Try.ntmps61
    go_wp2
    go_loopw [6, 7, 12] (fun _ _ iv wr => ∃ (i : Nat), i ≤ n ∧ iv = .int .i64 i ∧ Hid (Kd.R (Kd.int .u8) 5 wr base (fun _ => True) (.slice (some ⟨g, 0, none⟩) n ct) (mixL n f xs ls i)) ∧ Hid (RowE wr ad n (line n ls)) ∧ Hid (Below base w0 wr)) (fun _ _ iv _ => n - (intOf iv).toNat)
    case atStart => exact ⟨0, by omega, rfl, HR, HROW, HB⟩
    case round =>
      clear HR HROW HB
      obtain ⟨i, hi, rfl, HR, HROW, HB⟩ := hrel
      by_cases hlt : i < n
      · obtain ⟨t1', t2'⟩ := Kd.R_celln (0 : Int) HR.out (i : Int) (by omega) (by omega)
        have t3' : rdOf (0 : Int) (mixL n f xs ls i) (i : Int) = xs i := by
          rw [← mixL_get n f xs ls i hlt]; simp [rdOf]
        rw [t3'] at t1'
        have hcell := HROW.out i hlt
        rw [line_get n ls i hlt] at hcell
        have hpn := fun q => Kd.R_putn (Kd.R_drewN HR.out q) (i : Int) (xorI (xs i) (gmI (ls i) f))
        simp only [Int.toNat_natCast] at t1' t2' hpn
        rw [mixL_set n f xs ls i hlt] at hpn
        have hyb := HXS.out i
        have hzb := HLS.out i
        obtain ⟨y, hy⟩ : ∃ y, y = xs i := ⟨_, rfl⟩
        obtain ⟨z, hz⟩ : ∃ z, z = ls i := ⟨_, rfl⟩
        rw [← hy] at t1' hyb hpn
        rw [← hz] at hcell hzb hpn
        have HZB := Lib.hid hzb
        have HYB := Lib.hid hyb
        have HPN := Lib.hid hpn
        have HBn := Lib.hid (fun q => (pw_below_drewN HB.out q).setCell (p := ⟨g, i, none⟩) HG.out (.int .u8 (xorI y (gmI z f))))
        have HRn := Lib.hid (fun q => (HROW.out.drewN q).far (p := ⟨g, i, none⟩) HNE.out (.int .u8 (xorI y (gmI z f))))
        have g0 : (0 : Int) ≤ (i : Int) := by omega
        have g1 : (i : Int) < (n : Int) := by omega
        clear hy hz hyb hzb t3' hpn
        go_wp2
        refine wp_region_still_tail 11 (by kernel_rfl) (by kernel_rfl) ?_
        change wpStill _ _ (wr.drewN 1) (fun a' => wpList _ _ _ _ a' (wr.drewN 1)) _ _
        simp only [List.take_succ_cons, List.take_zero, List.drop_succ_cons, List.drop_zero]
        iterate 8 still_step
        still_call (mul_still z f (wr.drewN 1) HZB.out HF.out)
        still_call (add_still y (gmI z f) (wr.drewN 1) HYB.out (gmI_byt HZB.out))
        still_step
        refine wpStill_nil ?_
        go_wp2
        go_roundw
        case rel => exact ⟨i + 1, by omega, by go_num, Lib.hid (HPN.out 1), Lib.hid (HRn.out 1), Lib.hid (HBn.out 1)⟩
        case measure => simp [intOf]; omega
      · obtain rfl : i = n := by omega
        go_wp2
        first | go_end0 | ((try simp only [Exit.inBlock, Exit.then]); refine bodyPost_ret (results_none rfl _ _ _) rfl ?_)
        have e : mixL i f xs ls i = line i (fun j => xorI (xs j) (gmI (ls j) f)) := line_congr i _ _ (fun j hj => by rw [if_pos hj])
        exact ⟨rfl, by rw [← e]; exact HR.out, HB.out⟩
theorem chunk_line (b : List Int) (sz p m : Nat) (hp : p < m) (hb : b.length = m * sz) : (b.drop (p * sz)).take sz = line sz (fun i => b.getD (p * sz + i) 0) := by
  have hl := chunk_len b sz m p hp hb
  refine List.ext_getElem (by rw [hl, line_len]) (fun j h1 h2 => ?_)
  have hj : j < sz := by rwa [hl] at h1
  have e1 := chunk_get b sz p j hj
  rw [List.getD_eq_getElem?_getD, List.getElem?_eq_getElem h1] at e1
  have e2 := line_get sz (fun i => b.getD (p * sz + i) 0) j hj
  rw [List.getD_eq_getElem?_getD, List.getElem?_eq_getElem h2] at e2
  simp only [Option.getD_some] at e1 e2
  rw [e1, e2]
set_option maxRecDepth 100000 in
set_option maxHeartbeats 4000000 in
theorem mshard_any (v : Value) (n k slot s sz L : Nat) (A : Option Addr) (c : Nat) (b : List Int) (w : World) (hc : IsCodeP w v n k) (k1 : 2 ≤ k) (k2 : k ≤ 8) (n2 : n ≤ 24) (hsl : slot < n) (hs : k * (k - 1) = s)
    (hC : Kd.C kRow w A s (chunks b sz s)) (hL : L = b.length) (hLs : L = s * sz) (hsz : 1 ≤ sz) (hL1 : L ≤ 1000) (hbyt : ∀ x ∈ b, Byt x) :
    Calls Try.prog 42 #[v, .int .i64 slot, .slice A s c] w fun e w' => ∃ u, e = .returned u ∧ Kd.R (Kd.int .u8) 5 w' w.heap.size (fun _ => True) u (shardL (ptN n k slot) (k - 1) sz b) ∧ Below w.heap.size w w' := by
  have RO := Lib.hid (row_any v n k slot w hc k1 k2 n2 hsl)
  have PP := Lib.hid (fun W (hB : Below w.heap.size w W) => parts_any v n k W (hc.below hB).code (by omega) (by omega))
  have PL := Lib.hid (fun W r j (hr : r < 2 * (k - 1)) (hj : j < k - 1) (hB : Below w.heap.size w W) => place_any v n k r j W (hc.below hB).code k1 k2 hr hj)
  have hx2 := ptN_lt n k slot
  obtain ⟨x, hx⟩ : ∃ x, x = ptN n k slot := ⟨_, rfl⟩
  rw [← hx] at RO hx2 ⊢
  obtain ⟨a, ha⟩ : ∃ a, a = k - 1 := ⟨_, rfl⟩
  rw [show 2 * k - 2 = 2 * a by omega] at RO
  rw [← ha] at PP PL hs ⊢
  have a1 : 1 ≤ a := by omega
  have a7 : a ≤ 7 := by omega
  have hss : s = (a + 1) * a := by rw [← hs, show k = a + 1 by omega]
  have HPL := Lib.hid (fun r j (hr : r < 2 * a) (hj : j < a) => show Plc.placeN a r j < s by rw [hss]; exact placeN_lt a r j a1 a7 hr hj)
  have hs56 : s ≤ 56 := by rw [← hs]; exact Nat.mul_le_mul k2 a7
  have hs1 : 1 ≤ s := by rw [hss]; exact Nat.mul_pos (by omega) (by omega)
  have HC := Lib.hid (fun W (hB : Below w.heap.size w W) => Kd.C_below hC hB)
  have HBL := Lib.hid (show b.length = s * sz by omega)
  have HBY := Lib.hid hbyt
  have HX := Lib.hid hx2
  have sz1 : sz ≤ 1000 := by have : sz ≤ s * sz := Nat.le_mul_of_pos_left sz (by omega)
                             omega
  obtain ⟨q, hq⟩ : ∃ q, q = 2 * a := ⟨_, rfl⟩
  rw [← hq] at RO HPL PL
  have HQ := Lib.hid hq
  have hq14 : q ≤ 14 := by omega
  have HB0 := Lib.hid (Below.refl w.heap.size w)
  obtain ⟨L9, hl9⟩ : ∃ L9, L9 = a * sz := ⟨_, rfl⟩
  clear hx ha hs hss hC hL hLs hbyt hx2 k1 k2 n2 hsl hq hc
  go_enter Try.func42, Try.ntmps42
  go_upto_region 4 with (first
    | (go_at_call 32; (with_reducible refine RO.out.mono ?_); rintro e w1 ⟨A8, c8, rfl, hr8, hb⟩; have hc8 := (Kd.R_reads' hr8).2.2; rw [pows_len] at hc8; have HR8 := Lib.hid hc8; have HB1 := Lib.hid hb; clear hr8 hb hc8)
    | (go_at_call 23; (with_reducible refine (PP.out _ HB1.out).mono ?_); rintro e u1 ⟨rfl, hu⟩; subst hu))
  obtain ⟨W1, hW1⟩ : ∃ W1, W1 = u1 := ⟨_, rfl⟩
  rw [← hW1] at HR8 HB1 ⊢
  clear hW1 RO
  go_loopw [7, 9, 10, 11, 12, 18, 28] (fun u0 _ _ _ _ jv _ wr => ∃ (j : Nat) (u : Value), u0 = u ∧ j ≤ a ∧ jv = .int .i64 j ∧ Hid (Kd.R (Kd.int .u8) 5 wr W1.heap.size (fun _ => True) u (shardTo x a sz b j)) ∧ Hid (Below W1.heap.size W1 wr)) (fun _ _ _ _ _ jv _ _ => a - (intOf jv).toNat)
  case atStart => exact ⟨0, _, rfl, by omega, rfl, Lib.hid (by unfold shardTo; exact Kd.R_nil _ _ _ _ _), Lib.hid (Below.refl _ _)⟩
  case round =>
    obtain ⟨j, u, rfl, hj, rfl, HO, HB2⟩ := hrel
    by_cases hja : j < a
    · have hBw := HB1.out.trans (HB2.out.mono HB1.out.size)
      obtain ⟨adm, A3, c3, rfl, hm0, _, _⟩ := rowsN_get (HC.out _ hBw) 0 (by omega)
      rw [chunks_get b sz s 0 (by omega), chunk_len b sz s 0 (by omega) HBL.out] at hm0
      rw [show adm.add 0 = adm by simp [Addr.add]] at hm0
      have HM0 := Lib.hid hm0
      have HBW := Lib.hid hBw
      have g1 : (j : Int) < (a : Int) := by omega
      have g2 : (0 : Int) < (s : Int) := by omega
      clear hBw
      go_upto_region 7 with (at_make; refine Kd.R_make (Kd.int .u8) wr.heap.size 5 rfl (N := 25) rfl 22 _ _ rfl (sz : Int) rfl rfl Try.underlying22 (.int .u8 0) 1 VPts.info_byte rfl (by decide) (by decide) 0 (ok := fun _ => True) (okp := fun _ => True) rfl (fun _ hk => hk) trivial (by omega) (by omega) (Below.refl _ _) (Nat.le_refl _) ?_; intro v3 w3 h3 hb3 hg3 hf3; simp only [Int.toNat_natCast] at h3; obtain ⟨g, cg, hv3, hgb, hgl, _⟩ := Kd.R_form h3 (by rw [List.length_replicate]; exact hsz); rw [List.length_replicate] at hv3; subst hv3; have HXX := Lib.hid h3; have HB3 := Lib.hid hb3; have HGB := Lib.hid hgb; clear h3 hb3 hg3 hf3 hgb hgl)
      clear hm0
      have HXR := Lib.hid (show Kd.R (Kd.int .u8) 5 w3 wr.heap.size (fun _ => True) (.slice (some ⟨g, 0, none⟩) sz cg) (line sz (fun i => symTo x a sz b j i 0)) by
        rw [show line sz (fun i => symTo x a sz b j i 0) = List.replicate sz 0 from line_zero sz]; exact HXX.out)
      clear HXX
      obtain ⟨wo, hwo⟩ : ∃ wo, wo = wr := ⟨_, rfl⟩
      rw [← hwo] at HXR HB3 HGB HO HB2 HBW HM0
      clear hwo
      go_upto_region 8 with (fail)
      go_loopw [11, 12, 28] (fun _ _ rv wr' => ∃ (r : Nat), r ≤ q ∧ rv = .int .i64 r ∧ Hid (Kd.R (Kd.int .u8) 5 wr' wo.heap.size (fun _ => True) (.slice (some ⟨g, 0, none⟩) sz cg) (line sz (fun i => symTo x a sz b j i r))) ∧ Hid (Below wo.heap.size wo wr')) (fun _ _ rv _ => q - (intOf rv).toNat)
      case atStart => exact ⟨0, by omega, rfl, HXR, HB3⟩
      case round =>
        clear HXR HB3
        obtain ⟨r, hr, rfl, HXR, HB3⟩ := hrel
        by_cases hrq : r < q
        · have hB := HB2.out.trans (HB3.out.mono HB2.out.size)
          have hBw := HB1.out.trans (hB.mono HB1.out.size)
          have hpl := HPL.out r j hrq hja
          obtain ⟨p, hp⟩ : ∃ p, p = Plc.placeN a r j := ⟨_, rfl⟩
          have hp' : placeN a r j = p := hp.symm
          rw [← hp] at hpl
          obtain ⟨adr, rfl, hc1⟩ := at_row (Kd.C_below HR8.out hB) r hrq
          rw [show (pows x q).getD r 0 = ((gp x r : Nat) : Int) from pows_get x q r hrq] at hc1
          obtain ⟨adm', A5, c5, e5, hm5, _, hC5⟩ := rowsN_get (HC.out _ HBW.out) p hpl
          injection e5 with e5
          subst e5
          rw [chunks_get b sz s p hpl, chunk_line b sz p s hpl HBL.out, line_len] at hm5 hC5
          obtain ⟨ad5, rfl, hrow5⟩ := RowE.of hC5 (by omega)
          have hblk5 : ad5.block < wo.heap.size := by
            have := World.block_lt_of_cell? _ _ (hrow5 0 (by omega))
            rwa [block_of_add] at this
          have hm5' := pw_cell_below HB3.out hm5
          have hrow' : RowE wr ad5 sz (line sz (fun i => b.getD (p * sz + i) 0)) := fun i hi => pw_cell_below HB3.out (hrow5 i hi)
          have hgb := gp_byt x r HX.out
          obtain ⟨f, hf⟩ : ∃ f, f = ((gp x r : Nat) : Int) := ⟨_, rfl⟩
          rw [← hf] at hc1 hgb
          have MX := Lib.hid (mix_any sz g cg c5 wo.heap.size ad5 f (fun i => symTo x a sz b j i r) (fun i => b.getD (p * sz + i) 0) wo wr hgb (fun i => symTo_byt x a sz b j i r HX.out) (fun i => getD_byt HBY.out _) HB3.out HGB.out HXR.out hrow' (by have : wo.heap.size ≤ g := HGB.out; omega) (by omega))
          have HNX := Lib.hid (show line sz (fun i => xorI (symTo x a sz b j i r) (gmI (b.getD (p * sz + i) 0) f)) = line sz (fun i => symTo x a sz b j i (r + 1)) from line_congr sz _ _ (fun i _ => by rw [symTo_succ, ← hp, ← hf, gmI_comm hgb (getD_byt HBY.out _)]))
          have PLr := Lib.hid (PL.out wr r j hrq hja hBw)
          rw [hp'] at PLr
          have g6 : (r : Int) < (q : Int) := by omega
          have g7 : (0 : Int) ≤ (r : Int) := by omega
          have g8 : (0 : Int) ≤ (p : Int) := by omega
          have g9 : (p : Int) < (s : Int) := by omega
          clear hB hBw hpl hp hp' hm5 hC5 hrow5 hblk5 hrow' hgb hf
          go_wp2_with (first
            | (go_at_call 62; (with_reducible refine PLr.out.mono ?_); rintro e u2 ⟨rfl, hu⟩; subst hu)
            | (go_at_call 61; (with_reducible refine MX.out.mono ?_); rintro e w4 ⟨rfl, hr4, hb4⟩; have HR4 := Lib.hid hr4; have HB4 := Lib.hid hb4; clear hr4 hb4))
          go_roundw
          case rel => exact ⟨r + 1, by omega, by go_num, Lib.hid (by rw [← HNX.out]; exact HR4.out), HB4⟩
          case measure => simp [intOf]; omega
        · obtain rfl : r = q := by omega
          have hown := Kd.own_of_R (Kd.R_below HO.out HB3.out)
          have hrd := Kd.reads_of_C (d := (0 : Int)) (Kd.R_reads' HXR.out).2.2
          rw [line_len] at hrd
          have HN := Lib.hid (show shardTo x a sz b j ++ line sz (fun i => symTo x a sz b j i r) = shardTo x a sz b (j + 1) by rw [shardTo_succ, HQ.out]; rfl)
          have HOWN := Lib.hid hown
          have HRD := Lib.hid hrd
          have hlen : (shardTo x a sz b j).length ≤ 7000 := by rw [shardTo_len]; exact Nat.mul_le_mul (show j ≤ 7 by omega) sz1
          have HLEN := Lib.hid hlen
          clear hown hrd hlen
          go_wp2_with (at_builtin; refine print_append_row (w0 := W1) (k := .u8) W1.heap.size rfl _ _ 22 5 1 rfl Try.underlying22 VPts.info_byte (by decide) u7 (shardTo x a sz b j) (line sz (fun i => symTo x a sz b j i r)) _ _ _ rfl rfl HOWN.out HRD.out (HB2.out.trans (HB3.out.mono HB2.out.size)) (Nat.le_trans HB2.out.size HB3.out.size) (by have := HLEN.out; omega) ?_; intro v5 w5 h1 h2 h3 h4; have H1 := Lib.hid h1; have H2 := Lib.hid h2; clear h1 h2 h3 h4)
          go_roundw
          case rel => exact ⟨j + 1, _, rfl, by omega, by go_num, Lib.hid (Kd.R_of_own (by have := H1.out; rw [HN.out] at this; exact this) (fun _ _ => trivial)), H2⟩
          case measure => simp [intOf]; omega
    · obtain rfl : j = a := by omega
      go_wp2
      go_ret
      exact ⟨_, rfl, Kd.R_lower HO.out HB1.out.size, HB1.out.trans (HB2.out.mono HB1.out.size)⟩
set_option maxRecDepth 100000 in
set_option maxHeartbeats 2000000 in
theorem encode_good (v : Value) (n k s sz L : Nat) (A : Option Addr) (c : Nat) (b : List Int) (w : World) (hc : IsCodeP w v n k) (k1 : 2 ≤ k) (k2 : k ≤ 8) (n2 : n ≤ 24) (hs : k * (k - 1) = s) (hr : (Kd.int .u8).C w A L b) (hLc : L ≤ c) (hLs : L = s * sz) (hsz : 1 ≤ sz) (hL1 : L ≤ 1000) (hbyt : ∀ x ∈ b, Byt x) :
    Calls Try.prog 19 #[v, .slice A L c] w fun e w' => ∃ A' c', e = .returned (.tuple #[.slice A' n c', .int .i64 0]) ∧ RowsR w' w.heap.size (.slice A' n c') (shardsM n k sz b n) ∧ Kd.C kRow w' A' n (shardsM n k sz b n) ∧ Below w.heap.size w w' := by
  have hs56 : k * (k - 1) ≤ 8 * 7 := Nat.mul_le_mul k2 (by omega)
  have hs2 : 2 * 1 ≤ k * (k - 1) := Nat.mul_le_mul k1 (by omega)
  have hLb : L = b.length := by have := hr.1; omega
  have SY := Lib.hid (symbols_any v n k s w hc.code (by omega) (by omega) hs)
  have PG := Lib.hid (parts_good s sz L A c b w hr hLc hLs (by omega) hsz (by omega) hL1)
  have SH := Lib.hid (fun i A1 c1 W (hi : i < n) (hB : Below w.heap.size w W) (hC : Kd.C kRow W A1 s (chunks b sz s)) => mshard_any v n k i s sz L A1 c1 b W (hc.below hB) k1 k2 n2 hi hs hC hLb hLs hsz hL1 hbyt)
  have HV := Lib.hid (fun W (hB : Below w.heap.size w W) => hc.below hB)
  obtain ⟨bb, A0, c0, rfl, hblk, _⟩ := hc
  have HBK := Lib.hid hblk
  have HB := Lib.hid (Below.refl w.heap.size w)
  clear hblk hs hs56 hs2 k1 k2 hr hLc hLs hsz hL1 hbyt hLb
  go_enter Try.func19, Try.ntmps19
  go_upto_region 5 with (first
    | (go_at_call 41; (with_reducible refine SY.out.mono ?_); rintro e u1 ⟨rfl, hu⟩; subst hu)
    | (go_at_call 40; (with_reducible refine PG.out.mono ?_); rintro e w2 ⟨A2, c2, rfl, hl2, hC2, hb⟩; have HC2 := Lib.hid hC2; have HB2 := Lib.hid hb; have HBK2 := Lib.hid (Blk.below HBK.out hb (Blk.lt HBK.out)); clear hl2 hC2 hb))
  have y0 : w2.cell? ⟨bb, 0, none⟩ = some (.int .i64 n) := (HBK2.out.cell 0).trans rfl
  go_upto_region 6 with (fail)
  clear y0
  go_loopw [8, 9, 23] (fun u0 _ iv wr => ∃ (i : Nat) (u : Value), u0 = u ∧ i ≤ n ∧ iv = .int .i64 i ∧ Hid (RowsR wr w2.heap.size u (shardsM n k sz b i)) ∧ Hid (Below w2.heap.size w2 wr)) (fun _ _ iv _ => n - (intOf iv).toNat)
  case atStart => exact ⟨0, _, rfl, by omega, rfl, Lib.hid (Kd.R_nil _ _ _ _ _), Lib.hid (Below.refl _ _)⟩
  case round =>
    obtain ⟨i, u, rfl, hi, rfl, HO, HB3⟩ := hrel
    by_cases hlt : i < n
    · have hBw := HB2.out.trans (HB3.out.mono HB2.out.size)
      have SHi := Lib.hid (SH.out i A2 c2 wr hlt hBw (Kd.C_below HC2.out HB3.out))
      have g1 : (i : Int) < (n : Int) := by omega
      clear hBw
      go_wp2_with (first
        | (go_at_call 42; (with_reducible refine SHi.out.mono ?_); rintro e w4 ⟨v4, rfl, hr4, hb4⟩; obtain ⟨A5, c5, rfl⟩ := Kd.R_slice hr4; have HR4 := Lib.hid hr4; have HB4 := Lib.hid hb4; clear hr4 hb4)
        | (at_builtin; refine rows_append2 (w0 := w2) rfl w2.heap.size rfl _ _ rfl u8 _ (shardsM n k sz b i) _ rfl rfl HO.out (HB3.out.trans (HB4.out.mono HB3.out.size)) HB3.out.size HB4.out HR4.out (by rw [shardsM_len]; omega) ?_; intro v5 w5 h5 hb5; have H5 := Lib.hid h5; have HB5 := Lib.hid hb5; clear h5 hb5))
      go_roundw
      case rel => exact ⟨i + 1, _, rfl, by omega, by go_num, Lib.hid (by rw [shardsM_succ]; exact H5.out), HB5⟩
      case measure => simp [intOf]; omega
    · obtain rfl : i = n := by omega
      obtain ⟨A7, c7, rfl, hl7, hC7⟩ := Kd.R_reads HO.out
      have hro := HO.out
      rw [shardsM_len] at hro hC7 hl7 ⊢
      have HC7 := Lib.hid hC7
      have HL7 := Lib.hid (Kd.R_lower hro HB2.out.size)
      clear hl7 hC7 hro
      go_wp2
      go_ret2
      exact ⟨A7, c7, rfl, HL7.out, HC7.out, HB2.out.trans (HB3.out.mono HB2.out.size)⟩
end Go.Proofs.Ytcnfafappcbpnaa.Str
namespace Go.Proofs.Ytcnfafappcbpnaa.Hl
open Go Go.RowKit Go.Proofs.Ytcnfafappcbpnaa.Gf Go.Proofs.Ytcnfafappcbpnaa.Gi Go.Proofs.Ytcnfafappcbpnaa.Bits Go.Proofs.Ytcnfafappcbpnaa.Mem Go.Proofs.Ytcnfafappcbpnaa.Alg Go.Proofs.Ytcnfafappcbpnaa.Sol Go.Proofs.Ytcnfafappcbpnaa.VPts Go.Proofs.Ytcnfafappcbpnaa.Str Go.Proofs.Ytcnfafappcbpnaa.Rws Go.Proofs.Ytcnfafappcbpnaa.Par Go.Proofs.Ytcnfafappcbpnaa.Mdc Go.Proofs.Ytcnfafappcbpnaa.BHealFragments Go.Proofs.YtcnfafappcbpnaaW.PrintWords
set_option linter.unusedVariables false
theorem shardTo_get (x a sz : Nat) (b : List Int) (j i : Nat) (hi : i < sz) : ∀ m, j < m → (shardTo x a sz b m).getD (j * sz + i) 0 = symV x a sz b j i
  | 0, h => absurd h (Nat.not_lt_zero j)
  | m + 1, h => by
    rw [shardTo_succ, List.getD_eq_getElem?_getD]
    by_cases e : j < m
    · have hl : j * sz + i < (shardTo x a sz b m).length := by
        rw [shardTo_len]
        have h2 : (j + 1) * sz ≤ m * sz := Nat.mul_le_mul_right sz e
        rw [Nat.add_mul, Nat.one_mul] at h2
        omega
      rw [List.getElem?_append_left hl, ← List.getD_eq_getElem?_getD]
      exact shardTo_get x a sz b j i hi m e
    · have hj : j = m := by omega
      subst hj
      rw [List.getElem?_append_right (by rw [shardTo_len]; omega), shardTo_len, Nat.add_sub_cancel_left, ← List.getD_eq_getElem?_getD, line_get _ _ _ hi]
theorem dotN_sum {f g : Nat → Int} (hf : ∀ i, Byt (f i)) (hg : ∀ i, Byt (g i)) : ∀ n, G.of (dotN f g n) = sum n (fun r => G.of (f r) * G.of (g r))
  | 0 => rfl
  | n + 1 => by
    show G.of (xorI (dotN f g n) (gmI (f n) (g n))) = sum n _ + _
    rw [of_xor (dotN_byt hf n) (gmI_byt (hf n)), of_gm (hf n) (hg n), dotN_sum hf hg n]
theorem sym_two {x a sz : Nat} {b : List Int} (hx : x < 256) (hb : ∀ y ∈ b, Byt y) (q c : Nat) :
    G.of (symV x a sz b q c) = dotF a (fun r => G.of ((gp x r : Nat) : Int)) (fun r => G.of (b.getD (placeN a r q * sz + c) 0)) + G.of ((gp x a : Nat) : Int) * dotF a (fun r => G.of ((gp x r : Nat) : Int)) (fun r => G.of (b.getD (placeN a (a + r) q * sz + c) 0)) := by
  unfold symV
  rw [dotN_sum (fun r => gp_byt x r hx) (fun r => getD_byt hb _), Nat.two_mul, sum_split]
  congr 1
  unfold dotF
  rw [← sum_left]
  refine sum_congr (fun r hr => ?_)
  rw [← Fd.mul_assoc]
  congr 1
  rw [gp_add x hx, ← gmI_nat, of_gm (gp_byt _ _ hx) (gp_byt _ _ hx)]
def msgB (b : List Int) (sz : Nat) : Nat → Nat → Int := fun u c => b.getD (u * sz + c) 0
theorem shards_msg {n k a sz : Nat} {s : Nat → Int} {b : List Int} (hb : ∀ y ∈ b, Byt y) : MsgOf k a sz (ptS n k s) (fun i => shardL (ptN n k (s i).toNat) a sz b) (msgB b sz) := by
  intro c hc i hi q hq
  show G.of ((shardL (ptN n k (s i).toNat) a sz b).getD (q * sz + c) 0) = _
  unfold shardL
  rw [shardTo_get _ _ _ _ q c hc a hq, sym_two (ptN_lt n k _) hb q c]
  rfl
theorem msg_line {b : List Int} {L sz : Nat} (hL : b.length = L) : line L (outB (msgB b sz) sz) = b := by
  subst hL
  refine List.ext_getElem (by simp [line_len]) (fun i h1 h2 => ?_)
  simp only [line, List.getElem_map, List.getElem_range]
  unfold outB msgB
  rw [show i / sz * sz + i % sz = i by rw [Nat.mul_comm]; exact Nat.div_add_mod i sz, List.getD_eq_getElem?_getD, List.getElem?_eq_getElem h2]
  rfl
structure Pk (n i : Nat) (p : Nat → Nat) (lf : List Nat) : Prop where
  len : lf.length + i = n
  nd : lf.Nodup
  lt : ∀ x ∈ lf, x < n
  pk : ∀ j, j < i → p j < n ∧ p j ∉ lf
  ne : ∀ j j', j < i → j' < j → p j' ≠ p j
theorem Pk.start (n : Nat) (p : Nat → Nat) : Pk n 0 p (List.range n) := ⟨by simp, List.nodup_range, fun x hx => by simpa using hx, fun j hj => absurd hj (Nat.not_lt_zero j), fun j j' hj => absurd hj (Nat.not_lt_zero j)⟩
theorem Pk.step {n i : Nat} {p : Nat → Nat} {lf : List Nat} (h : Pk n i p lf) (t : Nat) (ht : t < lf.length) : Pk n (i + 1) (fun j => if j = i then lf[t] else p j) (lf.eraseIdx t) := by
  have hsub : ∀ x, x ∈ lf.eraseIdx t → x ∈ lf := fun x hx => (List.eraseIdx_sublist lf t).subset hx
  have hnot : lf[t] ∉ lf.eraseIdx t := by
    intro hm
    obtain ⟨q, hq, hne, e⟩ := List.mem_eraseIdx_iff_getElem.1 hm
    exact hne ((List.getElem_inj h.nd).1 e)
  refine ⟨by rw [List.length_eraseIdx_of_lt ht]; have := h.len; omega, h.nd.sublist (List.eraseIdx_sublist lf t), fun x hx => h.lt x (hsub x hx), fun j hj => ?_, fun j j' hj hjj => ?_⟩
  · by_cases e : j = i
    · simp only [e, if_pos]
      exact ⟨h.lt _ (List.getElem_mem ht), hnot⟩
    · simp only [if_neg e]
      have := h.pk j (by omega)
      exact ⟨this.1, fun hm => this.2 (hsub _ hm)⟩
  · by_cases e : j = i
    · have e' : ¬ j' = i := by omega
      simp only [e, if_pos, if_neg e']
      intro ee
      exact (h.pk j' (by omega)).2 (by rw [ee]; exact List.getElem_mem ht)
    · have e' : ¬ j' = i := by omega
      simp only [if_neg e, if_neg e']
      exact h.ne j j' (by omega) hjj
abbrev kPH : Kd (Int × Hd) := Kd.pair (Kd.int .i64) kH
theorem info_part : (Try.prog.info? 37).map (fun i => (i.zero, i.size, i.bytes)) = some (some (.agg #[.int .i64 0, .slice none 0 0]), 2, 32) := by kernel_rfl
theorem pa_ofH {w : World} {A : Option Addr} {N : Nat} {q : Nat → Int × Hd} {x : Nat → List Int} (hC : Kd.C kPH w A N ((List.range N).map q)) (hx : ∀ i, i < N → (x i).length = (q i).2.2.1 ∧ (q i).2.2.1 ≤ (q i).2.2.2 ∧ (Kd.int .u8).C w (q i).2.1 (q i).2.2.1 (x i)) : PA w A N (fun i => (q i).1) (fun i => (q i).2) x := by
  intro i hi
  obtain ⟨ad, c, e, _, hK, hc0⟩ := Kd.C_get hC (0, (none, 0, 0)) (i : Int) (by omega) (by omega)
  rw [Int.toNat_natCast] at hK hc0
  have e0 : ((List.range N).map q).getD i (0, (none, 0, 0)) = q i := by simp [List.getD_eq_getElem?_getD, hi]
  rw [e0] at hK
  obtain ⟨c1, c2, hcc, hK1, hK2⟩ := hK
  have e1 : c1 = [.int .i64 (q i).1] := hK1
  have e2 : c2 = [hv (q i).2] := hK2
  subst e1
  subst e2
  subst hcc
  have h0 := hc0 0 _ rfl
  have h1 := hc0 1 _ rfl
  obtain ⟨h3, h4, h5⟩ := hx i hi
  exact ⟨ad, e, by simpa [Kd.pair, kH, Kd.int, Kd.scalar] using h0, by rw [← add_field ad (i * 2) 1 (by decide)]; simpa [Kd.pair, kH, Kd.int, Kd.scalar] using h1, h3, h4, h5⟩
def nI (lf : List Nat) : List Int := lf.map (fun x : Nat => (x : Int))
theorem nI_len (lf : List Nat) : (nI lf).length = lf.length := by simp [nI]
theorem nI_get (lf : List Nat) (t : Nat) (ht : t < lf.length) : (nI lf).getD t 0 = (lf[t] : Int) := by simp [nI, List.getD_eq_getElem?_getD, ht]
theorem nI_erase (lf : List Nat) (t : Nat) : (nI lf).take t ++ (nI lf).drop (t + 1) = nI (lf.eraseIdx t) := by
  unfold nI
  rw [List.eraseIdx_eq_take_drop_succ, List.map_append, List.map_take, List.map_drop]
def hlist (p : Nat → Nat) (hh : Nat → Hd) (i : Nat) : List (Int × Hd) := (List.range i).map (fun j => (((p j : Nat) : Int), hh (p j)))
theorem hlist_len (p : Nat → Nat) (hh : Nat → Hd) (i : Nat) : (hlist p hh i).length = i := by simp [hlist]
theorem hlist_succ (p : Nat → Nat) (hh : Nat → Hd) (i v : Nat) : hlist p hh i ++ [((v : Int), hh v)] = hlist (fun j => if j = i then v else p j) hh (i + 1) := by
  unfold hlist
  rw [List.range_succ, List.map_append]
  congr 1
  · refine List.map_congr_left (fun j hj => ?_)
    have h2 : j < i := by simpa using hj
    have h3 : ¬ j = i := by omega
    show (((p j : Nat) : Int), hh (p j)) = (((if j = i then v else p j : Nat) : Int), hh (if j = i then v else p j))
    rw [if_neg h3]
  · simp
theorem heads_ex {w : World} {A : Option Addr} {n k sz : Nat} {b : List Int} (h : Kd.C kRow w A n (shardsM n k sz b n)) : ∃ hh : Nat → Hd, ∀ i, i < n → ∃ ad, A = some ad ∧ w.cell? (ad.add i) = some (hv (hh i)) ∧ (hh i).2.1 = (k - 1) * sz ∧ (hh i).2.1 ≤ (hh i).2.2 ∧ (Kd.int .u8).C w (hh i).1 (hh i).2.1 (shardL (ptN n k i) (k - 1) sz b) := by
  have hx : ∀ i, ∃ q : Hd, i < n → ∃ ad, A = some ad ∧ w.cell? (ad.add i) = some (hv q) ∧ q.2.1 = (k - 1) * sz ∧ q.2.1 ≤ q.2.2 ∧ (Kd.int .u8).C w q.1 q.2.1 (shardL (ptN n k i) (k - 1) sz b) := by
    intro i
    by_cases hi : i < n
    · obtain ⟨ad, A0, c0, e, h1, h2, h3⟩ := Str.rowsN_get h i hi
      have e1 : (shardsM n k sz b n).getD i [] = shardL (ptN n k i) (k - 1) sz b := by simp [shardsM, List.getD_eq_getElem?_getD, hi]
      rw [e1, shardL_len] at h1 h2 h3
      exact ⟨(A0, (k - 1) * sz, c0), fun _ => ⟨ad, e, h1, rfl, h2, h3⟩⟩
    · exact ⟨(none, 0, 0), fun h => absurd h hi⟩
  exact ⟨fun i => Classical.choose (hx i), fun i hi => Classical.choose_spec (hx i) hi⟩
theorem lit0i {w X : World} (h : Below w.heap.size w X) : (Kd.int .i64).R 3 (X.alloc (.cells #[] 3)) w.heap.size (fun _ => True) (.slice (some ⟨X.heap.size, 0, none⟩) 0 0) ([] : List Int) :=
  Kd.R_of_own (enc := Value.int .i64) (own_lit X w.heap.size 3 .i64 [] h.size (by simp)) (fun _ _ => trivial)
def qlist (p : Nat → Nat) (fh : Nat → Hd) (i : Nat) : List (Int × Hd) := (List.range i).map (fun j => (((p j : Nat) : Int), fh j))
theorem qlist_len (p : Nat → Nat) (fh : Nat → Hd) (i : Nat) : (qlist p fh i).length = i := by simp [qlist]
theorem qlist_succ (p : Nat → Nat) (fh : Nat → Hd) (i v : Nat) (q : Hd) : qlist p fh i ++ [((v : Int), q)] = qlist (fun j => if j = i then v else p j) (fun j => if j = i then q else fh j) (i + 1) := by
  unfold qlist
  rw [List.range_succ, List.map_append]
  congr 1
  · refine List.map_congr_left (fun j hj => ?_)
    have h2 : j < i := by simpa using hj
    have h3 : ¬ j = i := by omega
    show (((p j : Nat) : Int), fh j) = (((if j = i then v else p j : Nat) : Int), if j = i then q else fh j)
    rw [if_neg h3, if_neg h3]
  · simp
structure Pks (S : Nat → Prop) (c i : Nat) (p : Nat → Nat) (lf : List Nat) : Prop where
  len : lf.length + i = c
  nd : lf.Nodup
  lt : ∀ x ∈ lf, S x
  pk : ∀ j, j < i → S (p j) ∧ p j ∉ lf
  ne : ∀ j j', j < i → j' < j → p j' ≠ p j
theorem Pks.start (n at_ : Nat) (hat : at_ < n) (p : Nat → Nat) : Pks (fun x => x < n ∧ x ≠ at_) (n - 1) 0 p ((List.range n).filter (fun x => decide (x ≠ at_))) := by
  refine ⟨?_, List.nodup_range.filter _, fun x hx => by simpa using hx, fun j hj => absurd hj (Nat.not_lt_zero j), fun j j' hj => absurd hj (Nat.not_lt_zero j)⟩
  have h : ∀ m, ((List.range m).filter (fun x => decide (x ≠ at_))).length = if at_ < m then m - 1 else m := by
    intro m
    induction m with
    | zero => rfl
    | succ m ih =>
      rw [List.range_succ, List.filter_append, List.length_append, ih]
      by_cases e : m = at_
      · subst e
        simp
      · have e2 : [m].filter (fun x => decide (x ≠ at_)) = [m] := by simp [e]
        rw [e2]
        by_cases e3 : at_ < m
        · rw [if_pos e3, if_pos (by omega)]
          show m - 1 + 1 = m + 1 - 1
          omega
        · rw [if_neg e3, if_neg (by omega)]
          rfl
  rw [h n, if_pos hat]
  omega
theorem Pks.step {S : Nat → Prop} {c i : Nat} {p : Nat → Nat} {lf : List Nat} (h : Pks S c i p lf) (t : Nat) (ht : t < lf.length) : Pks S c (i + 1) (fun j => if j = i then lf[t] else p j) (lf.eraseIdx t) := by
  have hsub : ∀ x, x ∈ lf.eraseIdx t → x ∈ lf := fun x hx => (List.eraseIdx_sublist lf t).subset hx
  have hnot : lf[t] ∉ lf.eraseIdx t := by
    intro hm
    obtain ⟨q, hq, hne, e⟩ := List.mem_eraseIdx_iff_getElem.1 hm
    exact hne ((List.getElem_inj h.nd).1 e)
  refine ⟨by rw [List.length_eraseIdx_of_lt ht]; have := h.len; omega, h.nd.sublist (List.eraseIdx_sublist lf t), fun x hx => h.lt x (hsub x hx), fun j hj => ?_, fun j j' hj hjj => ?_⟩
  · by_cases e : j = i
    · simp only [e, if_pos]
      exact ⟨h.lt _ (List.getElem_mem ht), hnot⟩
    · simp only [if_neg e]
      have := h.pk j (by omega)
      exact ⟨this.1, fun hm => this.2 (hsub _ hm)⟩
  · by_cases e : j = i
    · have e' : ¬ j' = i := by omega
      simp only [e, if_pos, if_neg e']
      intro ee
      exact (h.pk j' (by omega)).2 (by rw [ee]; exact List.getElem_mem ht)
    · have e' : ¬ j' = i := by omega
      simp only [if_neg e, if_neg e']
      exact h.ne j j' (by omega) hjj
structure TwoP (W : World) (base : Nat) (u d : Value) (xs ys : List (Int × Hd)) : Prop where
  l : Kd.R kPH 37 W base (But d) u xs
  w : Kd.R kPH 37 W base (But u) d ys
section
variable {W w1 : World} {base b : Nat} {u d v1 : Value} {xs ys zs : List (Int × Hd)} {p : Int × Hd}
theorem TwoP.below (h : TwoP W base u d xs ys) (hb : Below W.heap.size W w1) : TwoP w1 base u d xs ys := ⟨Kd.R_below h.l hb, Kd.R_below h.w hb⟩
theorem TwoP.appL (h : TwoP W base u d xs ys) (hr : Kd.R kPH 37 w1 base (But d) v1 zs) (hg : W.grownBy w1 u.ownBlock) (hat : v1.ownBlock = u.ownBlock ∨ ∃ b, v1.ownBlock = some b ∧ W.heap.size ≤ b) : TwoP w1 base v1 d zs ys := ⟨hr, Kd.R_after h.w hg hat⟩
theorem TwoP.appW (h : TwoP W base u d xs ys) (hr : Kd.R kPH 37 w1 base (But u) v1 zs) (hg : W.grownBy w1 d.ownBlock) (hat : v1.ownBlock = d.ownBlock ∨ ∃ b, v1.ownBlock = some b ∧ W.heap.size ≤ b) : TwoP w1 base u v1 xs zs := ⟨Kd.R_after h.l hg hat, hr⟩
structure BoxP (W : World) (b : Nat) (p : Int × Hd) (u d : Value) : Prop where
  blk : Blk W b 37 #[.int .i64 p.1, hv p.2]
  nu : some b ≠ u.ownBlock
  nd : some b ≠ d.ownBlock
theorem BoxP.new (h : TwoP W base u d xs ys) (p : Int × Hd) : BoxP (W.alloc (.cells #[.int .i64 p.1, hv p.2] 37)) W.heap.size p u d :=
  ⟨Blk.new _ _ _, fun e => by have := Kd.R_lt h.l _ e.symm; omega, fun e => by have := Kd.R_lt h.w _ e.symm; omega⟩
theorem BoxP.below (h : BoxP W b p u d) (hb : Below W.heap.size W w1) : BoxP w1 b p u d := ⟨h.blk.below hb h.blk.lt, h.nu, h.nd⟩
theorem BoxP.appL (h : BoxP W b p u d) (hg : W.grownBy w1 u.ownBlock) (hat : v1.ownBlock = u.ownBlock ∨ ∃ b, v1.ownBlock = some b ∧ W.heap.size ≤ b) : BoxP w1 b p v1 d :=
  ⟨h.blk.grown hg h.nu, fun e => by
    rcases hat with h1 | ⟨b', h1, h2⟩
    · exact h.nu (by rw [e, h1])
    · rw [h1] at e; injection e with e; have := h.blk.lt; omega, h.nd⟩
theorem BoxP.appW (h : BoxP W b p u d) (hg : W.grownBy w1 d.ownBlock) (hat : v1.ownBlock = d.ownBlock ∨ ∃ b, v1.ownBlock = some b ∧ W.heap.size ≤ b) : BoxP w1 b p u v1 :=
  ⟨h.blk.grown hg h.nd, h.nu, fun e => by
    rcases hat with h1 | ⟨b', h1, h2⟩
    · exact h.nd (by rw [e, h1])
    · rw [h1] at e; injection e with e; have := h.blk.lt; omega⟩
theorem BoxP.reads (h : BoxP W b p u d) : Kd.C kPH W (some ⟨b, 0, none⟩) 1 [p] := by
  refine ⟨rfl, by decide, fun _ => ⟨_, rfl, fun j q hj => ?_⟩⟩
  have hj0 : j = 0 := by have := (List.getElem?_eq_some_iff.1 hj).1; simp at this; exact this
  subst hj0
  have hq : q = p := by simp at hj; exact hj.symm
  subst hq
  refine ⟨[.int .i64 q.1, hv q.2], rfl, ⟨[.int .i64 q.1], [hv q.2], rfl, rfl, rfl⟩, fun i u hu => ?_⟩
  rcases i with _ | _ | i
  · simp at hu; subst hu
    exact (h.blk.cell 0).trans rfl
  · simp at hu; subst hu
    have : (⟨b, 0, none⟩ : Addr).add (0 * kPH.sz + 1) = ⟨b, 1, none⟩ := by simp [Addr.add]
    rw [this]
    exact (h.blk.cell 1).trans rfl
  · simp at hu
end
def Ov (W0 W : World) : Prop := W0.heap.size ≤ W.heap.size ∧ ∀ (k : Nat) (cells : Array Value) (t : TypeId) (fr : Nat × Nat), W0.heap[k]? = some (Obj.cells cells t fr) → t ≠ 37 → W.heap[k]? = W0.heap[k]?
theorem Ov.refl (W : World) : Ov W W := ⟨Nat.le_refl _, fun _ _ _ _ _ _ => rfl⟩
theorem Ov.below {W0 W w1 : World} (h : Ov W0 W) (hb : Below W.heap.size W w1) : Ov W0 w1 :=
  ⟨Nat.le_trans h.1 hb.size, fun k cells t fr h1 h2 => by
    have h3 := h.2 k cells t fr h1 h2
    have hk : k < W.heap.size := by
      rcases Nat.lt_or_ge k W.heap.size with h4 | h4
      · exact h4
      · rw [Array.getElem?_eq_none h4, h1] at h3; cases h3
    exact (hb.block k hk).trans h3⟩
theorem Ov.grown {W0 W w1 : World} {base : Nat} {ok : Nat → Prop} {u : Value} {xs : List (Int × Hd)} (h : Ov W0 W) (hr : Kd.R kPH 37 W base ok u xs) (hg : W.grownBy w1 u.ownBlock) : Ov W0 w1 :=
  ⟨Nat.le_trans h.1 hg.size, fun k cells t fr h1 h2 => by
    have h3 := h.2 k cells t fr h1 h2
    have hk : k < W.heap.size := by
      rcases Nat.lt_or_ge k W.heap.size with h4 | h4
      · exact h4
      · rw [Array.getElem?_eq_none h4, h1] at h3; cases h3
    refine (hg.block k hk (fun e => ?_)).trans h3
    obtain ⟨cs, hcs⟩ := Kd.R_typed hr k e.symm
    rw [h3, h1] at hcs
    injection hcs with hcs
    injection hcs with _ ht
    exact h2 ht⟩
theorem Ov.R {α : Type} {d : Kd α} {e base : Nat} {ok : Nat → Prop} {W0 W : World} {v : Value} {xs : List α} (h : Ov W0 W) (hr : Kd.R d e W0 base ok v xs) (ht : ∀ q, q ∈ e :: d.E → q ≠ 37) : Kd.R d e W base ok v xs := by
  refine Kd.R_mono (Kd.R_step (Kd.R_bound hr) (fun k hk _ => ?_)) (fun k hk => hk.1)
  obtain ⟨_, _, _, q, hq, cells, hc⟩ := hk
  exact h.2 k cells q (0, 0) hc (ht q hq)
theorem parts_app_step {P : Program} {ops : Array Oper} {o : Oper} {a : Act} {Q : Exit → Act → World → Prop} {Kc : Act → World → Prop} {w0 W : World} (hP : P = Try.prog) (base : Nat) (hw : Region.wanted o (yielded ops a.tmps) = true) (s x : Operand)
    (ho : o.op = .call { callee := .builtin .append, args := #[s, x], argTypes := #[35, 35] }) {b c : Nat} {u d : Value} (v : Value) (xs : List (Int × Hd)) (p : Int × Hd) (ok : Nat → Prop)
    (hs : a.eval s = v) (hx : a.eval x = .slice (some ⟨b, 0, none⟩) 1 c) (HO : Kd.R kPH 37 W base ok v xs) (hbx : BoxP W b p u d) (hfresh : ∀ k, W.heap.size ≤ k → ok k) (HB : Below base w0 W) (hbase : base ≤ W.heap.size) (hl : xs.length ≤ 1000000)
    (h : ∀ v1 w1, Kd.R kPH 37 w1 base ok v1 (xs ++ [p]) → Below base w0 w1 → W.grownBy w1 v.ownBlock → (v1.ownBlock = v.ownBlock ∨ ∃ b, v1.ownBlock = some b ∧ W.heap.size ≤ b) → Kc (a.put o.dst v1) w1) :
    if Region.wanted o (yielded ops a.tmps) = true then Oper.wp P o a W Kc Q else Kc (a.put o.dst undef) W := by
  subst hP
  exact Kd.R_append_rows_step (Rr := kPH.K W) kPH (w0 := w0) base hw s x 35 37 (.agg #[.int .i64 0, .slice none 0 0]) 32 ho Try.underlying35 info_part rfl (by decide) (by decide) v xs [p] (some ⟨b, 0, none⟩) 1 c ok (fun _ => False) hs hx HO hbx.reads
    (fun q cs hq => by
      obtain ⟨c1, c2, e, h1, h2⟩ := hq
      exact ⟨c1, c2, e, h1, h2⟩) (fun _ hk => hk.elim) hfresh HB hbase (by omega) h
end Go.Proofs.Ytcnfafappcbpnaa.Hl
namespace Go.Proofs.Ytcnfafappcbpnaa.Str
open Go Go.RowKit Go.Proofs.Ytcnfafappcbpnaa.PHealFragments Go.Proofs.Ytcnfafappcbpnaa.BHealFragments Go.Proofs.Ytcnfafappcbpnaa.Gf Go.Proofs.Ytcnfafappcbpnaa.Gi Go.Proofs.Ytcnfafappcbpnaa.Bits Go.Proofs.Ytcnfafappcbpnaa.Mem Go.Proofs.Ytcnfafappcbpnaa.VPts Go.Proofs.Ytcnfafappcbpnaa.Rws Go.Proofs.YtcnfafappcbpnaaW.PrintWords Go.Proofs.YtcnfafappcbpnaaW.PrintLast
set_option linter.unusedVariables false
set_option maxRecDepth 100000 in
set_option maxHeartbeats 4000000 in
theorem fragment_own (v : Value) (n k lost sz L : Nat) (A0 : Option Addr) (c0 : Nat) (sh : List Int) (w : World) (hc : IsCodeP w v n k) (k1 : 2 ≤ k) (k2 : k ≤ 8) (n2 : n ≤ 24) (hs : lost < n)
    (hr : (Kd.int .u8).C w A0 L sh) (hL : L = sh.length) (hLs : L = (k - 1) * sz) (hsz : 1 ≤ sz) (hL1 : L ≤ 1000) (hbyt : ∀ x ∈ sh, Byt x) :
    Calls Try.prog 10 #[v, .int .i64 lost, .slice A0 L c0] w fun e w' => ∃ A c, e = .returned (.tuple #[.slice A sz c, .int .i64 0]) ∧ Kd.R (Kd.int .u8) 5 w' w.heap.size (fun _ => True) (.slice A sz c) (fragL (ptN n k lost) (k - 1) sz sh) ∧ Below w.heap.size w w' := by
  have NN := Lib.hid (fun W (hB : Below w.heap.size w W) => n_any v n k W (hc.below hB).code)
  have PP := Lib.hid (fun W (hB : Below w.heap.size w W) => parts_any v n k W (hc.below hB).code (by omega) (by omega))
  have HF := Lib.hid (fun W (hB : Below w.heap.size w W) => half_any v n k lost W (hc.below hB) k1 k2 n2 hs)
  have hx2 := ptN_lt n k lost
  obtain ⟨x, hx⟩ : ∃ x, x = ptN n k lost := ⟨_, rfl⟩
  rw [← hx] at HF hx2 ⊢
  obtain ⟨a, ha⟩ : ∃ a, a = k - 1 := ⟨_, rfl⟩
  rw [← ha] at PP HF hLs ⊢
  have a1 : 1 ≤ a := by omega
  have a7 : a ≤ 7 := by omega
  have HS := Lib.hid (fun W (hB : Below w.heap.size w W) => Kd.C_below hr hB)
  have HBY := Lib.hid hbyt
  have HX := Lib.hid hx2
  have l1 : (1 : Int) ≤ (L : Int) := by have := Nat.mul_le_mul a1 hsz; omega
  have sz1 : sz ≤ L := by rw [hLs]; exact Nat.le_mul_of_pos_left sz (by omega)
  have d1 : (L : Int) % (a : Int) = 0 := by rw [hLs, Int.natCast_mul]; exact Int.mul_emod_right _ _
  have d2 : (L : Int) / (a : Int) = (sz : Int) := by rw [hLs, Int.natCast_mul, Int.mul_comm]; exact Int.mul_ediv_cancel _ (by omega)
  have t1 : ¬ (n : Int) ≤ (lost : Int) := by omega
  have t2 : (lost : Int) < (n : Int) := by omega
  have t3 : ((L : Int) == 0) = false := by simp; omega
  have t4 : decide ((lost : Int) < 0) = false := by simp
  obtain ⟨b, A, c, rfl, _⟩ := hc
  have HLS := Lib.hid hLs
  have HB0 := Lib.hid (Below.refl w.heap.size w)
  clear hx ha k1 k2 n2 hs hr hL hLs hbyt hx2
  go_enter Try.func10, Try.ntmps10
  go_upto_region 3 with (first
    | (go_at_call 22; (with_reducible refine (NN.out _ (Below.refl _ _)).mono ?_); rintro e w ⟨rfl, rfl⟩)
    | (go_at_call 23; (with_reducible refine (PP.out _ (Below.refl _ _)).mono ?_); rintro e w ⟨rfl, rfl⟩))
  have hmk : ∀ W : World, True := fun _ => trivial
  go_upto_region 6 with (first
    | (go_at_call 23; (with_reducible refine (PP.out _ (Below.refl _ _)).mono ?_); rintro e w ⟨rfl, rfl⟩)
    | (at_make; refine Kd.R_make (Kd.int .u8) w.heap.size 5 rfl (N := 44) rfl 22 _ _ rfl (sz : Int) rfl rfl Try.underlying22 (.int .u8 0) 1 VPts.info_byte rfl (by decide) (by decide) 0 (ok := fun _ => True) (okp := fun _ => True) rfl (fun _ hk => hk) trivial (by omega) (by omega) (Below.refl _ _) (Nat.le_refl _) ?_; intro v3 w3 h3 hb3 hg3 hf3; simp only [Int.toNat_natCast] at h3; obtain ⟨g, c3, hv3, hgb, _, _, _⟩ := Kd.R_form h3 (by rw [List.length_replicate]; exact hsz); rw [List.length_replicate] at hv3; subst hv3; have HO := Lib.hid h3; have HB3 := Lib.hid hb3; have HGB := Lib.hid hgb; clear h3 hb3 hg3 hf3 hgb)
    | (go_at_call 24; (with_reducible refine (HF.out _ HB3.out).mono ?_); rintro e w4 ⟨A4, c4, rfl, hc4, hC4, had, hb⟩; have HAD := Lib.hid had; have HR4 := Lib.hid hC4; have HGL := Lib.hid (Kd.R_lt HO.out g rfl); have HO4 := Lib.hid (Kd.R_below HO.out hb); have HB4 := Lib.hid (HB3.out.trans (hb.mono HB3.out.size)); clear hc4 hC4 had hb))
  obtain ⟨ad4, rfl, hrow⟩ := RowAt.of HR4.out (by omega)
  have HROW := Lib.hid hrow
  have HNE := Lib.hid (show ad4.block ≠ g from by have h1 : w3.heap.size ≤ ad4.block := HAD.out ad4 rfl; have h2 : g < w3.heap.size := HGL.out; omega)
  have HO5 := Lib.hid (show Kd.R (Kd.int .u8) 5 w4 w.heap.size (fun _ => True) (.slice (some ⟨g, 0, none⟩) sz c3) (fragL x 0 sz sh) by rw [fragL_zero]; exact HO4.out)
  clear hrow HR4 HO HO4 HAD HGL
  go_loopw [49, 10, 11, 12] (fun iv _ _ _ wr => ∃ (m : Nat), m ≤ a ∧ iv = .int .i64 m ∧ Hid (Kd.R (Kd.int .u8) 5 wr w.heap.size (fun _ => True) (.slice (some ⟨g, 0, none⟩) sz c3) (fragL x m sz sh)) ∧ Hid (RowAt wr ad4 a (pows x a)) ∧ Hid (Below w.heap.size w wr)) (fun iv _ _ _ _ => a - (intOf iv).toNat)
  case atStart => exact ⟨0, by omega, rfl, HO5, HROW, HB4⟩
  case round =>
    clear HO5 HROW HB4
    obtain ⟨m, hm, rfl, HO5, HROW, HB4⟩ := hrel
    by_cases hlt : m < a
    · have hcell := HROW.out m hlt
      rw [pows_get x a m hlt] at hcell
      have e0 : (0 : Int) ≤ (m : Int) := by omega
      have e1 : (m : Int) < (a : Int) := by omega
      obtain ⟨f, hf⟩ : ∃ f, f = ((gp x m : Nat) : Int) := ⟨_, rfl⟩
      have hfb : Byt f := by rw [hf]; exact gp_byt x m HX.out
      rw [← hf] at hcell
      have HFF := Lib.hid hf
      have HFB := Lib.hid hfb
      obtain ⟨po, hpo⟩ : ∃ po, po = m * sz := ⟨_, rfl⟩
      have hpl : po + sz ≤ L := by
        have h1 := HLS.out
        have h2 : (m + 1) * sz ≤ a * sz := Nat.mul_le_mul_right sz hlt
        rw [Nat.add_mul, Nat.one_mul] at h2
        omega
      have e2 : IntKind.i64.wrap ((m : Int) * (sz : Int)) = (po : Int) := by rw [hpo, ← Int.natCast_mul]; exact IntWalk.i64_in _ (by omega)
      have HPO := Lib.hid hpo
      clear hf hfb hpo
      go_upto_region 9 with (fail)
      obtain ⟨wo, hwo⟩ : ∃ wo : World, wo = wr := ⟨_, rfl⟩
      have HM0 := Lib.hid (show Kd.R (Kd.int .u8) 5 wr w.heap.size (fun _ => True) (.slice (some ⟨g, 0, none⟩) sz c3) (fragMid x m sz sh 0) by rw [fragMid_zero]; exact HO5.out)
      clear hcell hwo HO5
      go_loopw [56, 12] (fun iv _ wr => ∃ (i : Nat), i ≤ sz ∧ iv = .int .i64 i ∧ Hid (Kd.R (Kd.int .u8) 5 wr w.heap.size (fun _ => True) (.slice (some ⟨g, 0, none⟩) sz c3) (fragMid x m sz sh i)) ∧ Hid (RowAt wr ad4 a (pows x a)) ∧ Hid (Below w.heap.size w wr)) (fun iv _ _ => sz - (intOf iv).toNat)
      case atStart => exact ⟨0, by omega, rfl, HM0, HROW, HB4⟩
      case round =>
        clear HM0 HROW HB4
        obtain ⟨i, hi, rfl, HO5, HROW, HB4⟩ := hrel
        by_cases hli : i < sz
        · obtain ⟨t1', t2'⟩ := Kd.R_celln (0 : Int) HO5.out (i : Int) (by omega) (by omega)
          have t3' : rdOf (0 : Int) (fragMid x m sz sh i) (i : Int) = fragTo x m sz sh i := by
            rw [← fragMid_get x m sz sh i hli]; simp [rdOf]
          rw [t3'] at t1'
          obtain ⟨ad0, hA0, hcell⟩ := at_row (HS.out _ HB4.out) (po + i) (by omega)
          have hpn := fun q => Kd.R_putn (Kd.R_drewN HO5.out q) (i : Int) (fragTo x (m + 1) sz sh i)
          simp only [Int.toNat_natCast] at t1' t2' hpn
          rw [fragMid_set x m sz sh i hli] at hpn
          have hfs := fragTo_succ x m sz sh i
          rw [← HPO.out, ← HFF.out] at hfs
          have hyb := fragTo_byt x m sz sh i HX.out
          have hzb := getD_byt HBY.out (po + i)
          obtain ⟨y, hy⟩ : ∃ y, y = fragTo x m sz sh i := ⟨_, rfl⟩
          obtain ⟨z, hz⟩ : ∃ z, z = sh.getD (po + i) 0 := ⟨_, rfl⟩
          rw [← hy] at t1' hfs hyb
          rw [← hz] at hcell hfs hzb
          rw [hfs, gmI_comm HFB.out hzb] at hpn
          have HZB := Lib.hid hzb
          have HYB := Lib.hid hyb
          have HPN := Lib.hid hpn
          have HBn := Lib.hid (fun q => (pw_below_drewN HB4.out q).setCell (p := ⟨g, i, none⟩) HGB.out (.int .u8 (xorI y (gmI z f))))
          have HRn := Lib.hid (fun q => (HROW.out.drewN q).far (p := ⟨g, i, none⟩) HNE.out (.int .u8 (xorI y (gmI z f))))
          subst hA0
          have g0 : (0 : Int) ≤ (i : Int) := by omega
          have g1 : (i : Int) < (sz : Int) := by omega
          have g2 : IntKind.i64.wrap ((po : Int) + (i : Int)) = (po : Int) + (i : Int) := IntWalk.i64_in _ (by omega)
          have g3 : (0 : Int) ≤ (po : Int) + (i : Int) := by omega
          have g4 : (po : Int) + (i : Int) < (L : Int) := by omega
          have g5 : ((po : Int) + (i : Int)).toNat = po + i := by omega
          clear hy hz hfs hyb hzb t3' hpn
          go_wp2
          refine wp_region_still_tail 18 (by kernel_rfl) (by kernel_rfl) ?_
          change wpStill _ _ (wr.drewN 1) (fun a' => wpList _ _ _ _ a' (wr.drewN 1)) _ _
          simp only [List.take_succ_cons, List.take_zero, List.drop_succ_cons, List.drop_zero]
          iterate 15 still_step
          still_call (mul_still z f (wr.drewN 1) HZB.out HFB.out)
          still_call (add_still y (gmI z f) (wr.drewN 1) HYB.out (gmI_byt HZB.out))
          still_step
          refine wpStill_nil ?_
          go_wp2
          go_roundw
          case rel => exact ⟨i + 1, by omega, by go_num, Lib.hid (HPN.out 1), Lib.hid (HRn.out 1), Lib.hid (HBn.out 1)⟩
          case measure => simp [intOf]; omega
        · obtain rfl : i = sz := by omega
          go_wp2
          go_roundw
          case rel => exact ⟨m + 1, by omega, by go_num, Lib.hid (by rw [← fragMid_full]; exact HO5.out), HROW, HB4⟩
          case measure => simp [intOf]; omega
    · obtain rfl : m = a := by omega
      go_wp2
      go_ret2
      exact ⟨_, _, rfl, HO5.out, HB4.out⟩
end Go.Proofs.Ytcnfafappcbpnaa.Str
namespace Go.Proofs.Ytcnfafappcbpnaa.Hl
open Go Go.RowKit Go.Proofs.Ytcnfafappcbpnaa.Gf Go.Proofs.Ytcnfafappcbpnaa.Gi Go.Proofs.Ytcnfafappcbpnaa.Bits Go.Proofs.Ytcnfafappcbpnaa.Mem Go.Proofs.Ytcnfafappcbpnaa.Alg Go.Proofs.Ytcnfafappcbpnaa.Sol Go.Proofs.Ytcnfafappcbpnaa.VPts Go.Proofs.Ytcnfafappcbpnaa.Str Go.Proofs.Ytcnfafappcbpnaa.Rws Go.Proofs.Ytcnfafappcbpnaa.Par Go.Proofs.Ytcnfafappcbpnaa.Mdc Go.Proofs.Ytcnfafappcbpnaa.BHealFragments Go.Proofs.YtcnfafappcbpnaaW.PrintWords
set_option linter.unusedVariables false
theorem line_getD (l : List Int) (n : Nat) (h : l.length = n) : line n (fun i => l.getD i 0) = l := by
  subst h
  refine List.ext_getElem (by simp [line_len]) (fun i h1 h2 => ?_)
  simp only [line, List.getElem_map, List.getElem_range]
  rw [List.getD_eq_getElem?_getD, List.getElem?_eq_getElem h2]
  rfl
def yV (xa a sz : Nat) (b : List Int) (c : Nat) : Nat → G := fun u => sum a (fun q => G.of ((gp xa q : Nat) : Int) * G.of (b.getD (placeN a u q * sz + c) 0))
theorem frag_two {xa xp a sz : Nat} {b : List Int} (hxa : xa < 256) (hxp : xp < 256) (hb : ∀ y ∈ b, Byt y) (c : Nat) (hc : c < sz) :
    G.of ((fragL xa a sz (shardL xp a sz b)).getD c 0) = sum (2 * a) (fun u => G.of ((gp xp u : Nat) : Int) * yV xa a sz b c u) := by
  have hs : ∀ q i, Byt (symV xp a sz b q i) := fun q i => symTo_byt xp a sz b q i (2 * a) hxp
  have e1 : (fragL xa a sz (shardL xp a sz b)).getD c 0 = dotN (fun q => ((gp xa q : Nat) : Int)) (fun q => symV xp a sz b q c) a := by
    unfold fragL
    rw [line_get _ _ _ hc]
    unfold fragTo
    refine dotN_congr a (fun q hq => ⟨rfl, ?_⟩)
    unfold shardL
    exact shardTo_get _ _ _ _ q c hc a hq
  rw [e1, dotN_sum (fun q => gp_byt xa q hxa) (fun q => hs q c)]
  have e2 : ∀ q, G.of (symV xp a sz b q c) = sum (2 * a) (fun u => G.of ((gp xp u : Nat) : Int) * G.of (b.getD (placeN a u q * sz + c) 0)) := by
    intro q
    unfold symV
    exact dotN_sum (fun u => gp_byt xp u hxp) (fun u => getD_byt hb _) (2 * a)
  rw [sum_congr (g := fun q => sum (2 * a) (fun u => G.of ((gp xp u : Nat) : Int) * (G.of ((gp xa q : Nat) : Int) * G.of (b.getD (placeN a u q * sz + c) 0)))) (fun q hq => by
    rw [e2 q, ← sum_left]
    exact sum_congr (fun u hu => mul_left_comm _ _ _)), sum_comm]
  exact sum_congr (fun u hu => by unfold yV; rw [← sum_left])
theorem sym_y {xa a sz : Nat} {b : List Int} (hxa : xa < 256) (hb : ∀ y ∈ b, Byt y) (a7 : a ≤ 7) (j c : Nat) (hj : j < a) :
    G.of (symV xa a sz b j c) = yV xa a sz b c j + G.of ((gp xa a : Nat) : Int) * yV xa a sz b c (a + j) := by
  rw [sym_two hxa hb]
  unfold yV dotF
  congr 1
  · exact sum_congr (fun r hr => by rw [(place_sym a j r a7 hj hr).1])
  · congr 1
    exact sum_congr (fun r hr => by rw [(place_sym a j r a7 hj hr).2])
theorem inv_y {d : Nat} {A Z : Mtx} {D : Nat → Int} {Y : Nat → G} (hinj : Inj d A) (hs : ∀ i, i < d → ∀ q, q < d → dotF d (el A i) (fun j => G.of (Z j q)) = G.of (idM i q)) (hD : ∀ i, i < d → G.of (D i) = dotF d (el A i) Y) (j : Nat) (hj : j < d) :
    sum d (fun u => G.of (Z j u) * G.of (D u)) = Y j := by
  refine hinj.uniq (x := fun j => sum d (fun u => G.of (Z j u) * G.of (D u))) (y := Y) (fun i hi => ?_) j hj
  rw [← hD i hi]
  unfold dotF
  rw [sum_congr (g := fun q => sum d (fun u => el A i q * G.of (Z q u) * G.of (D u))) (fun q hq => by rw [← sum_left]; exact sum_congr (fun u hu => (Fd.mul_assoc _ _ _).symm)), sum_comm]
  rw [sum_congr (g := fun u => G.of (idM i u) * G.of (D u)) (fun u hu => by rw [sum_scale]; congr 1; exact hs i hi u hu)]
  rw [sum_at (a := i) hi (fun u hu hne => by unfold idM; rw [if_neg (fun e => hne e.symm), G.of_zero, zero_mul])]
  unfold idM
  rw [if_pos rfl, G.of_one, one_mul]
theorem regen_back {n k N a sz at_ : Nat} {s : Nat → Int} {m : Nat → Nat} {b : List Int} {Z : Mtx} (k1 : 2 ≤ k) (k2 : k ≤ 8) (n2 : n ≤ 24) (ha : a = k - 1) (hok : okTo n s m N) (hN : 2 * k - 2 ≤ N) (s1 : 1 ≤ sz) (hb : ∀ y ∈ b, Byt y) (hZ : BytM Z)
    (hs : ∀ i, i < 2 * k - 2 → ∀ q, q < 2 * k - 2 → dotF (2 * k - 2) (el (powM (ptS n k s)) i) (fun j => G.of (Z j q)) = G.of (idM i q)) :
    line (a * sz) (fun pos => outT (fun i => fragL (ptN n k at_) a sz (shardL (ptN n k (s i).toNat) a sz b)) a Z ((gp (ptN n k at_) a : Nat) : Int) (pos / sz) (pos % sz) (2 * k - 2)) = shardL (ptN n k at_) a sz b := by
  have hxa := ptN_lt n k at_
  have hd : 2 * k - 2 = 2 * a := by omega
  rw [hd] at hs hN ⊢
  have hfb : ∀ i, ptS n k s i < 256 := fun i => ptN_lt n k _
  have hinj : Inj (2 * a) (powM (ptS n k s)) := powM_inj hfb (fun i j hi hj e => ptS_inj (n := n) (k := k) (d := 2 * a) k1 k2 n2 hok hN i j hi hj e)
  rw [← line_getD (shardL (ptN n k at_) a sz b) (a * sz) (shardL_len _ _ _ _)]
  refine line_congr _ _ _ (fun pos hp => ?_)
  have h1 : pos % sz < sz := Nat.mod_lt _ (by omega)
  have h2 : pos / sz < a := Nat.div_lt_of_lt_mul (by rw [Nat.mul_comm]; exact hp)
  have e0 : pos = pos / sz * sz + pos % sz := by rw [Nat.mul_comm]; exact (Nat.div_add_mod pos sz).symm
  have e1 : (shardL (ptN n k at_) a sz b).getD pos 0 = symV (ptN n k at_) a sz b (pos / sz) (pos % sz) := by
    unfold shardL
    conv => lhs; rw [e0]
    exact shardTo_get _ _ _ _ _ _ h1 a h2
  rw [e1]
  obtain ⟨D, hDd⟩ : ∃ D : Nat → Int, D = fun t => (fragL (ptN n k at_) a sz (shardL (ptN n k (s t).toNat) a sz b)).getD (pos % sz) 0 := ⟨_, rfl⟩
  have hDb : ∀ t, Byt (D t) := fun t => by
    rw [hDd]
    exact getD_byt (line_byt _ _ (fun i => dotN_byt (fun j => gp_byt _ _ hxa) a)) _
  show dotN (fun t => (fragL (ptN n k at_) a sz (shardL (ptN n k (s t).toNat) a sz b)).getD (pos % sz) 0) (fun t => mixY a Z _ (pos / sz) t) (2 * a) = _
  rw [← hDd]
  have hF := gp_byt (ptN n k at_) a hxa
  refine G.of_inj (dotN_byt hDb _) (symTo_byt _ _ _ _ _ _ _ hxa) ?_
  have hDY : ∀ i, i < 2 * a → G.of (D i) = dotF (2 * a) (el (powM (ptS n k s)) i) (yV (ptN n k at_) a sz b (pos % sz)) := by
    intro i hi
    rw [hDd]
    exact frag_two hxa (ptN_lt n k _) hb _ h1
  have hy1 := inv_y hinj hs hDY (pos / sz) (by omega)
  have hy2 := inv_y hinj hs hDY (a + pos / sz) (by omega)
  show _ = G.of (symV (ptN n k at_) a sz b (pos / sz) (pos % sz))
  rw [sym_y hxa hb (by omega) (pos / sz) (pos % sz) h2, ← hy1, ← hy2, dotN_sum hDb (fun t => mixY_byt hZ _ _)]
  rw [← sum_left, ← sum_add]
  refine sum_congr (fun t ht => ?_)
  unfold mixY
  rw [of_xor (hZ _ _) (gmI_byt (hZ _ _)), of_gm (hZ _ _) hF, Fd.mul_add, Fd.mul_comm (G.of (D t)), Nat.add_comm a (pos / sz)]
  congr 1
  rw [Fd.mul_comm (G.of (D t)), Fd.mul_comm (G.of (Z (pos / sz + a) t)), Fd.mul_assoc]
def DecGood (L : Nat) (b : List Int) (w : World) (e : Ending) (w' : World) : Prop := ∃ A' c', e = .returned (.tuple #[.slice A' L c', .int .i64 0]) ∧ (Kd.int .u8).R 5 w' w.heap.size (fun _ => True) (.slice A' L c') b ∧ Below w.heap.size w w'
theorem shards_at {w : World} {A : Option Addr} {n k sz : Nat} {b : List Int} (h : Kd.C kRow w A n (shardsM n k sz b n)) (i : Nat) (hi : i < n) :
    ∃ ad A0 c0, A = some ad ∧ w.cell? (ad.add i) = some (.slice A0 ((k - 1) * sz) c0) ∧ (k - 1) * sz ≤ c0 ∧ (Kd.int .u8).C w A0 ((k - 1) * sz) (shardL (ptN n k i) (k - 1) sz b) := by
  obtain ⟨ad, A0, c0, e, h1, h2, h3⟩ := Str.rowsN_get h i hi
  have e1 : (shardsM n k sz b n).getD i [] = shardL (ptN n k i) (k - 1) sz b := by simp [shardsM, List.getD_eq_getElem?_getD, hi]
  rw [e1, shardL_len] at h1 h2 h3
  exact ⟨ad, A0, c0, e, h1, h2, h3⟩
set_option maxRecDepth 100000 in
set_option maxHeartbeats 1000000 in
theorem whole_good (v A : Value) (n k s sz L lost : Nat) (b : List Int) (w : World) (hc : IsCodeP w v n k) (k1 : 2 ≤ k) (k2 : k ≤ 8) (n2 : n ≤ 24) (hs : k * (k - 1) = s) (hLs : L = s * sz) (hsz : 1 ≤ sz) (hL1 : L ≤ 1000) (hbl : b.length = L) (hbyt : ∀ x ∈ b, Byt x) (hlost : lost < n)
    (DC : Calls Try.prog 37 #[v, A] w (DecGood L b w)) :
    Calls Try.prog 16 #[v, .int .i64 lost, A] w fun e w' => ∃ A2 c2, e = .returned (.tuple #[.slice A2 ((k - 1) * sz) c2, .int .i64 0]) ∧ (Kd.int .u8).C w' A2 ((k - 1) * sz) (shardL (ptN n k lost) (k - 1) sz b) ∧ Below w.heap.size w w' := by
  have D := Lib.hid DC
  have EN := Lib.hid (fun W A1 c1 (hB : Below w.heap.size w W) (h : (Kd.int .u8).R 5 W w.heap.size (fun _ => True) (.slice A1 L c1) b) => show Calls Try.prog 19 #[v, .slice A1 L c1] W fun e w' => ∃ A' c', e = .returned (.tuple #[.slice A' n c', .int .i64 0]) ∧ RowsR w' W.heap.size (.slice A' n c') (shardsM n k sz b n) ∧ Kd.C kRow w' A' n (shardsM n k sz b n) ∧ Below W.heap.size W w' from
    encode_good v n k s sz L A1 c1 b W (hc.below hB) k1 k2 n2 hs (by rw [← hbl]; exact (Kd.R_reads' h).2.2) (Kd.R_reads' h).2.1 hLs hsz hL1 hbyt)
  have HL := Lib.hid hlost
  have h1 : (lost : Int) < (n : Int) := by omega
  have h2 : ¬ (n : Int) ≤ (lost : Int) := by omega
  have h3 : decide ((lost : Int) < 0) = false := by simp
  have h4 : (0 : Int) ≤ (lost : Int) := by omega
  have h5 : decide ((lost : Int) ≥ (n : Int)) = false := by simp; omega
  clear DC hc hs hLs hsz hL1 hbl hbyt k1 k2 hlost
  go_enter Try.func16, Try.ntmps16
  go_wp2_with (first
    | (go_at_call 37; (with_reducible refine D.out.mono ?_); rintro e w1 ⟨A1, c1, rfl, hr, hb⟩; have HB1 := Lib.hid hb; have EN1 := Lib.hid (EN.out w1 A1 c1 hb hr); clear hr hb)
    | (go_at_call 19; (with_reducible refine EN1.out.mono ?_); rintro e w2 ⟨A2, c2, rfl, _, hC, hb⟩; have HB2 := Lib.hid (HB1.out.trans (hb.mono HB1.out.size)); obtain ⟨ad, A3, c3, rfl, kc, _, hC3⟩ := shards_at hC lost HL.out; have HC3 := Lib.hid hC3; clear hC hb hC3))
  go_ret2
  exact ⟨A3, c3, rfl, HC3.out, HB2.out⟩
end Go.Proofs.Ytcnfafappcbpnaa.Hl
