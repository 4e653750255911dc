/- The statement SolveEquations: what its proof rests on, part 2 of 3. -/
import Derived.Test.YtojaekhplohbjaaProg
import Derived.Below
import Derived.Deep.Draws
import Derived.Deep.AppendLies
import Derived.Maps.AppendAt
import Derived.OwnWalk
import Derived.Laws.BytesArg
import Derived.Laws.MakeOwn
import Derived.Laws.OwnMore
import Derived.Deep.OwnRows
import Derived.Tactics
import Derived.Lib.ConvBytes
import Derived.Laws.Slices
import Derived.WalkKit
import Derived.KernelRfl
import Derived.RowKit3
import Derived.Deep.LoopGhost
import Derived.Deep.QuietTactic
import Derived.BigQuiet
import Derived.WideLaws
import Derived.Deep.DeepCutAuto
import Derived.Deep.CutBlock
import Derived.Deep.RegionHeld3
import Derived.Laws.Rows
import Derived.Lib.AppendStr
import Derived.ArgAppend
import Derived.Laws.IdiomCopy
import Derived.OrdersHeld
import Derived.Laws.BitsLemmas
import Derived.RowKit
import Derived.Lib.Hide
import Derived.WalkSpells
import Derived.StillTailTactics
import Derived.Outline
import Derived.Lib.Strings
import Derived.Test.YtojaekhplohbjaaPsmallx1
import Derived.Test.YtojaekhplohbjaaPStepsx1
import Derived.Test.YtojaekhplohbjaaPMulx2
import Derived.Test.YtojaekhplohbjaaZSolveEquationsa
/- solve: swap, clear. -/
namespace Go.Proofs.Ytojaekhplohbjaa.Sol
open Go Go.RowKit Go.Proofs.Ytojaekhplohbjaa.Gi Go.Proofs.Ytojaekhplohbjaa.Mem Go.Proofs.Ytojaekhplohbjaa.Bits Go.Proofs.Ytojaekhplohbjaa.Rws Go.Proofs.YtojaekhplohbjaaW.PrintWords
set_option linter.unusedVariables false

theorem joinW {G : Prop} (Inv : World → Prop) {C : World → Prop} (h1 : (∀ w, Inv w → C w) → G) (h2 : ∀ w, Inv w → C w) : G := h1 h2
/-- Two rows in each other's place. -/
def swpR {α : Type} (R : Nat → α) (i k : Nat) : Nat → α := fun q => if q = k then R i else if q = i then R k else R q
theorem Grid.head2 {w : World} {lo hi n m g c : Nat} {R : Nat → Value} {M : Mtx} (h : Grid w lo hi (.slice (some ⟨g, 0, none⟩) n c) n m R M) (i k : Nat) (hi' : i < n) (hk : k < n) :
    (w.setCell ⟨g, i, none⟩ (R k)).cell? ⟨g, k, none⟩ = some (R k) ∧ (w.setCell ⟨g, i, none⟩ (R k)).frozen? ⟨g, k, none⟩ = false := by
  have h1 := (h.hd.stored i (R k)).1
  refine ⟨?_, h1.frozenAt k⟩
  rw [h1.cellAt k (by omega), heads_set n R i hi', heads_get n _ k hk]
  split <;> rfl
theorem Grid.insd {w : World} {lo hi n m g c : Nat} {R : Nat → Value} {M : Mtx} (h : Grid w lo hi (.slice (some ⟨g, 0, none⟩) n c) n m R M) (i k : Nat) (u u' : Value) : w.grownBy ((w.setCell ⟨g, i, none⟩ u).setCell ⟨g, k, none⟩ u') (some g) :=
  World.grownBy.trans (h.hd.stored i u).2 ((h.hd.stored i u).1.stored k u').2
/-- What the two exchanges come to. -/
theorem swap_end {w W W9 : World} {lo mid top p n m q i k g cg g' cg' b1 c1 b2 c2 b3 c3 b4 c4 : Nat} {va vb : Value} {Ra Rb : Nat → Value} {C : Mtx}
    (HE : Ra i = .slice (some ⟨b1, 0, none⟩) m c1 ∧ Ra k = .slice (some ⟨b2, 0, none⟩) m c2 ∧ Rb i = .slice (some ⟨b3, 0, none⟩) q c3 ∧ Rb k = .slice (some ⟨b4, 0, none⟩) q c4)
    (H : Work w lo mid top p va vb n m q Ra Rb C) (HBK : Blk W p 51 #[.slice (some ⟨g, 0, none⟩) n cg, .slice (some ⟨g', 0, none⟩) n cg']) (HG : w.grownBy W (some g))
    (HW1 : Grid W lo mid (.slice (some ⟨g, 0, none⟩) n cg) n m (fun r => if r = k then .slice (some ⟨b1, 0, none⟩) m c1 else if r = i then .slice (some ⟨b2, 0, none⟩) m c2 else Ra r) (fun r => if r = k then C i else if r = i then C k else C r))
    (HW2 : Grid W9 mid top (.slice (some ⟨g', 0, none⟩) n cg') n q (fun r => if r = k then .slice (some ⟨b3, 0, none⟩) q c3 else if r = i then .slice (some ⟨b4, 0, none⟩) q c4 else Rb r) (fun r => if r = k then (fun j => C i (m + j)) else if r = i then (fun j => C k (m + j)) else fun j => C r (m + j)) ∧ W.grownBy W9 (some g'))
    (hgl : lo ≤ g) (hgh : g < mid) (hgl' : mid ≤ g') (hgh' : g' < top) :
    Ending.returned (.tuple #[]) = Ending.returned (.tuple #[]) ∧ Work W9 lo mid top p (.slice (some ⟨g, 0, none⟩) n cg) (.slice (some ⟨g', 0, none⟩) n cg') n m q (swpR Ra i k) (swpR Rb i k) (swpR C i k) ∧ Insd lo top w W9 := by
  have HG2 : W.grownBy W9 (some g') := HW2.2
  have X := (Insd.grown HG hgl (show g < top by have := H.l2; omega)).trans (Insd.grown HG2 (show lo ≤ g' by have := H.l1; omega) hgh')
  have hbk2 := HBK.grown HG2 (fun e => by injection e with e; have := H.l3; omega)
  have h1 := HW1
  rw [← HE.1, ← HE.2.1] at h1
  have h1' := h1.grown HG2 (.inr hgl')
  have h2 := HW2.1
  rw [← HE.2.2.1, ← HE.2.2.2] at h2
  have h2' : Grid W9 mid top (.slice (some ⟨g', 0, none⟩) n cg') n q (swpR Rb i k) (fun r j => swpR C i k r (m + j)) := h2.congr (fun q' _ j _ => by
    unfold swpR
    by_cases e1 : q' = k
    · rw [if_pos e1, if_pos e1]
    · rw [if_neg e1, if_neg e1]
      by_cases e2 : q' = i
      · rw [if_pos e2, if_pos e2]
      · rw [if_neg e2, if_neg e2])
  exact ⟨rfl, ⟨hbk2, h1', h2', H.l1, H.l2, H.l3⟩, X⟩
set_option maxRecDepth 100000 in
set_option maxHeartbeats 2000000 in
theorem swap_any (lo mid top p n m q i k : Nat) (va vb : Value) (Ra Rb : Nat → Value) (C : Mtx) (w : World) (h : Work w lo mid top p va vb n m q Ra Rb C) (hn : n ≤ 1000000) (hi : i < n) (hk : k < n) (hm : 1 ≤ m) (hq : 1 ≤ q) :
    Calls Try.prog 36 #[.pointer (some ⟨p, 0, none⟩), .int .i64 i, .int .i64 k] w fun e w' => e = .returned (.tuple #[]) ∧ Work w' lo mid top p va vb n m q (swpR Ra i k) (swpR Rb i k) (swpR C i k) ∧ Insd lo top w w' := by
  obtain ⟨g, cg, rfl, _, hgl, hgh, _⟩ := h.ga.form (by omega)
  obtain ⟨g', cg', rfl, _, hgl', hgh', _⟩ := h.gb.form (by omega)
  obtain ⟨hva, hvb⟩ := h.cells
  obtain ⟨b1, c1, e1, _⟩ := h.ga.rform (by omega) i hi
  obtain ⟨b2, c2, e2, _⟩ := h.ga.rform (by omega) k hk
  obtain ⟨b3, c3, e3, _⟩ := h.gb.rform (by omega) i hi
  obtain ⟨b4, c4, e4, _⟩ := h.gb.rform (by omega) k hk
  have z1 := (h.ga.head i hi).1
  have z2 := (h.ga.head k hk).1
  have f1 := (h.ga.head i hi).2
  have f2 := (h.ga.head k hk).2
  rw [e1] at z1
  rw [e2] at z2
  have g0 : (0 : Int) ≤ (i : Int) := by omega
  have g1 : (i : Int) < (n : Int) := by omega
  have g2 : (0 : Int) ≤ (k : Int) := by omega
  have g3 : (k : Int) < (n : Int) := by omega
  have H := Lib.hid h
  have HE := Lib.hid (And.intro e1 (And.intro e2 (And.intro e3 e4)))
  obtain ⟨y1, y2⟩ := h.ga.head2 i k hi hk
  have HW1 := Lib.hid (And.intro (h.ga.swap i k hi hk) (h.ga.insd i k (Ra k) (Ra i)))
  have hpg : p ≠ g := by have := h.l2; have := h.l3; omega
  have sv1 := (World.cell?_setCell_other w ⟨g, i, none⟩ ⟨p, 0, none⟩ (.slice (some ⟨b2, 0, none⟩) m c2) (fun e => hpg (by injection e with e1; exact e1.symm))).trans hva
  have sv2 := (World.cell?_setCell_other (w.setCell ⟨g, i, none⟩ (.slice (some ⟨b2, 0, none⟩) m c2)) ⟨g, k, none⟩ ⟨p, 0, none⟩ (.slice (some ⟨b1, 0, none⟩) m c1) (fun e => hpg (by injection e with e1; exact e1.symm))).trans sv1
  rw [e2] at y1 y2
  rw [e1, e2] at HW1
  clear h e1 e2 e3 e4
  go_enter Try.func36, Try.ntmps36
  go_wp2
  go_upto_region 0 with (fail)
  apply joinW (fun W => W = ((w.setCell ⟨g, i, none⟩ (.slice (some ⟨b2, 0, none⟩) m c2)).setCell ⟨g, k, none⟩ (.slice (some ⟨b1, 0, none⟩) m c1)).drew)
  · intro REST
    refine wp_region_noPanic ?_
    refine wp_region_held_drew (S := (fun W => W.cell? ⟨p, 0, none⟩ = some (.slice (some ⟨g, 0, none⟩) n cg))) (by kernel_rfl) ?_ (fun hHeld => ?_)
    · ((try dsimp only); first | exact hva | exact sv1 | exact sv2)
    refine wpAnyH_take (i := 0) (oi := { dst := some 6, op := Go.Op.move (Go.Operand.tmp 0), type := 46, pos := "solve.go:52", after := #[], guard := none }) (v := ?_) rfl (by kernel_rfl) (by kernel_rfl) (by kernel_rfl) (fun _ _ _ h => h) (Or.inl ⟨by rfl, ?_⟩) (by assumption) ?_
    rotate_left 1
    · (intro w hSw; (try dsimp only at hSw); go_simp; try with_reducible rfl)
    try simp only [Act.put, List.setIfInBounds_toArray, List.set_cons_zero, List.set_cons_succ]
    refine wpAnyH_take (i := 1) (oi := { dst := some 7, op := Go.Op.nilCheck (Go.Operand.tmp 6), type := 0, pos := "solve.go:52", after := #[{ on := 0, ground := Go.Ground.data }], guard := none }) (v := ?_) rfl (by kernel_rfl) (by kernel_rfl) (by kernel_rfl) (fun _ _ _ h => h) (Or.inl ⟨by rfl, ?_⟩) (by assumption) ?_
    rotate_left 1
    · (intro w hSw; (try dsimp only at hSw); go_simp; try with_reducible rfl)
    try simp only [Act.put, List.setIfInBounds_toArray, List.set_cons_zero, List.set_cons_succ]
    refine wpAnyH_take (i := 2) (oi := { dst := some 8, op := Go.Op.fieldAddr 51 (Go.Operand.tmp 7) 0, type := 0, pos := "solve.go:52", after := #[{ on := 1, ground := Go.Ground.data }], guard := none }) (v := ?_) rfl (by kernel_rfl) (by kernel_rfl) (by kernel_rfl) (fun _ _ _ h => h) (Or.inl ⟨by rfl, ?_⟩) (by assumption) ?_
    rotate_left 1
    · (intro w hSw; (try dsimp only at hSw); go_simp; try with_reducible rfl)
    try simp only [Act.put, List.setIfInBounds_toArray, List.set_cons_zero, List.set_cons_succ]
    refine wpAnyH_take (i := 3) (oi := { dst := some 9, op := Go.Op.load 22 (Go.Operand.tmp 8), type := 22, pos := "solve.go:52", after := #[{ on := 2, ground := Go.Ground.data }], guard := none }) (v := ?_) rfl (by kernel_rfl) (by kernel_rfl) (by kernel_rfl) (fun _ _ _ h => h) (Or.inl ⟨by rfl, ?_⟩) (by assumption) ?_
    rotate_left 1
    · (intro w hSw; (try dsimp only at hSw); go_simp; try with_reducible rfl)
    try simp only [Act.put, List.setIfInBounds_toArray, List.set_cons_zero, List.set_cons_succ]
    refine wpAnyH_take (i := 4) (oi := { dst := some 10, op := Go.Op.move (Go.Operand.tmp 1), type := 3, pos := "solve.go:52", after := #[], guard := none }) (v := ?_) rfl (by kernel_rfl) (by kernel_rfl) (by kernel_rfl) (fun _ _ _ h => h) (Or.inl ⟨by rfl, ?_⟩) (by assumption) ?_
    rotate_left 1
    · (intro w hSw; (try dsimp only at hSw); go_simp; try with_reducible rfl)
    try simp only [Act.put, List.setIfInBounds_toArray, List.set_cons_zero, List.set_cons_succ]
    refine wpAnyH_take (i := 5) (oi := { dst := some 11, op := Go.Op.move (Go.Operand.tmp 0), type := 46, pos := "solve.go:52", after := #[], guard := none }) (v := ?_) rfl (by kernel_rfl) (by kernel_rfl) (by kernel_rfl) (fun _ _ _ h => h) (Or.inl ⟨by rfl, ?_⟩) (by assumption) ?_
    rotate_left 1
    · (intro w hSw; (try dsimp only at hSw); go_simp; try with_reducible rfl)
    try simp only [Act.put, List.setIfInBounds_toArray, List.set_cons_zero, List.set_cons_succ]
    refine wpAnyH_take (i := 6) (oi := { dst := some 12, op := Go.Op.nilCheck (Go.Operand.tmp 11), type := 0, pos := "solve.go:52", after := #[{ on := 5, ground := Go.Ground.data }], guard := none }) (v := ?_) rfl (by kernel_rfl) (by kernel_rfl) (by kernel_rfl) (fun _ _ _ h => h) (Or.inl ⟨by rfl, ?_⟩) (by assumption) ?_
    rotate_left 1
    · (intro w hSw; (try dsimp only at hSw); go_simp; try with_reducible rfl)
    try simp only [Act.put, List.setIfInBounds_toArray, List.set_cons_zero, List.set_cons_succ]
    refine wpAnyH_take (i := 7) (oi := { dst := some 13, op := Go.Op.fieldAddr 51 (Go.Operand.tmp 12) 0, type := 0, pos := "solve.go:52", after := #[{ on := 6, ground := Go.Ground.data }], guard := none }) (v := ?_) rfl (by kernel_rfl) (by kernel_rfl) (by kernel_rfl) (fun _ _ _ h => h) (Or.inl ⟨by rfl, ?_⟩) (by assumption) ?_
    rotate_left 1
    · (intro w hSw; (try dsimp only at hSw); go_simp; try with_reducible rfl)
    try simp only [Act.put, List.setIfInBounds_toArray, List.set_cons_zero, List.set_cons_succ]
    refine wpAnyH_take (i := 8) (oi := { dst := some 14, op := Go.Op.load 22 (Go.Operand.tmp 13), type := 22, pos := "solve.go:52", after := #[{ on := 7, ground := Go.Ground.data }], guard := none }) (v := ?_) rfl (by kernel_rfl) (by kernel_rfl) (by kernel_rfl) (fun _ _ _ h => h) (Or.inl ⟨by rfl, ?_⟩) (by assumption) ?_
    rotate_left 1
    · (intro w hSw; (try dsimp only at hSw); go_simp; try with_reducible rfl)
    try simp only [Act.put, List.setIfInBounds_toArray, List.set_cons_zero, List.set_cons_succ]
    refine wpAnyH_take (i := 9) (oi := { dst := some 15, op := Go.Op.move (Go.Operand.tmp 2), type := 3, pos := "solve.go:52", after := #[{ on := 25, ground := Go.Ground.gcOnly Go.Departure.lateStores }], guard := none }) (v := ?_) rfl (by kernel_rfl) (by kernel_rfl) (by kernel_rfl) (fun _ _ _ h => h) (Or.inl ⟨by rfl, ?_⟩) (by assumption) ?_
    rotate_left 1
    · (intro w hSw; (try dsimp only at hSw); go_simp; try with_reducible rfl)
    try simp only [Act.put, List.setIfInBounds_toArray, List.set_cons_zero, List.set_cons_succ]
    refine wpAnyH_take (i := 10) (oi := { dst := some 16, op := Go.Op.move (Go.Operand.tmp 0), type := 46, pos := "solve.go:52", after := #[], guard := none }) (v := ?_) rfl (by kernel_rfl) (by kernel_rfl) (by kernel_rfl) (fun _ _ _ h => h) (Or.inl ⟨by rfl, ?_⟩) (by assumption) ?_
    rotate_left 1
    · (intro w hSw; (try dsimp only at hSw); go_simp; try with_reducible rfl)
    try simp only [Act.put, List.setIfInBounds_toArray, List.set_cons_zero, List.set_cons_succ]
    refine wpAnyH_take (i := 11) (oi := { dst := some 17, op := Go.Op.nilCheck (Go.Operand.tmp 16), type := 0, pos := "solve.go:52", after := #[{ on := 10, ground := Go.Ground.data }], guard := none }) (v := ?_) rfl (by kernel_rfl) (by kernel_rfl) (by kernel_rfl) (fun _ _ _ h => h) (Or.inl ⟨by rfl, ?_⟩) (by assumption) ?_
    rotate_left 1
    · (intro w hSw; (try dsimp only at hSw); go_simp; try with_reducible rfl)
    try simp only [Act.put, List.setIfInBounds_toArray, List.set_cons_zero, List.set_cons_succ]
    refine wpAnyH_take (i := 12) (oi := { dst := some 18, op := Go.Op.fieldAddr 51 (Go.Operand.tmp 17) 0, type := 0, pos := "solve.go:52", after := #[{ on := 11, ground := Go.Ground.data }], guard := none }) (v := ?_) rfl (by kernel_rfl) (by kernel_rfl) (by kernel_rfl) (fun _ _ _ h => h) (Or.inl ⟨by rfl, ?_⟩) (by assumption) ?_
    rotate_left 1
    · (intro w hSw; (try dsimp only at hSw); go_simp; try with_reducible rfl)
    try simp only [Act.put, List.setIfInBounds_toArray, List.set_cons_zero, List.set_cons_succ]
    refine wpAnyH_take (i := 13) (oi := { dst := some 19, op := Go.Op.load 22 (Go.Operand.tmp 18), type := 22, pos := "solve.go:52", after := #[{ on := 12, ground := Go.Ground.data }], guard := none }) (v := ?_) rfl (by kernel_rfl) (by kernel_rfl) (by kernel_rfl) (fun _ _ _ h => h) (Or.inl ⟨by rfl, ?_⟩) (by assumption) ?_
    rotate_left 1
    · (intro w hSw; (try dsimp only at hSw); go_simp; try with_reducible rfl)
    try simp only [Act.put, List.setIfInBounds_toArray, List.set_cons_zero, List.set_cons_succ]
    refine wpAnyH_take (i := 14) (oi := { dst := some 20, op := Go.Op.move (Go.Operand.tmp 2), type := 3, pos := "solve.go:52", after := #[], guard := none }) (v := ?_) rfl (by kernel_rfl) (by kernel_rfl) (by kernel_rfl) (fun _ _ _ h => h) (Or.inl ⟨by rfl, ?_⟩) (by assumption) ?_
    rotate_left 1
    · (intro w hSw; (try dsimp only at hSw); go_simp; try with_reducible rfl)
    try simp only [Act.put, List.setIfInBounds_toArray, List.set_cons_zero, List.set_cons_succ]
    refine wpAnyH_take (i := 15) (oi := { dst := some 21, op := Go.Op.indexAddr 22 (Go.Operand.tmp 19) (Go.Operand.tmp 20), type := 0, pos := "solve.go:52", after := #[{ on := 13, ground := Go.Ground.data }, { on := 14, ground := Go.Ground.data }], guard := none }) (v := ?_) rfl (by kernel_rfl) (by kernel_rfl) (by kernel_rfl) (fun _ _ _ h => h) (Or.inl ⟨by rfl, ?_⟩) (by assumption) ?_
    rotate_left 1
    · (intro w hSw; (try dsimp only at hSw); go_simp; try with_reducible rfl)
    try simp only [Act.put, List.setIfInBounds_toArray, List.set_cons_zero, List.set_cons_succ]
    refine wpAnyH_take (i := 17) (oi := { dst := some 23, op := Go.Op.move (Go.Operand.tmp 0), type := 46, pos := "solve.go:52", after := #[], guard := none }) (v := ?_) rfl (by kernel_rfl) (by kernel_rfl) (by kernel_rfl) (fun _ _ _ h => h) (Or.inl ⟨by rfl, ?_⟩) (by assumption) ?_
    rotate_left 1
    · (intro w hSw; (try dsimp only at hSw); go_simp; try with_reducible rfl)
    try simp only [Act.put, List.setIfInBounds_toArray, List.set_cons_zero, List.set_cons_succ]
    refine wpAnyH_take (i := 18) (oi := { dst := some 24, op := Go.Op.nilCheck (Go.Operand.tmp 23), type := 0, pos := "solve.go:52", after := #[{ on := 17, ground := Go.Ground.data }], guard := none }) (v := ?_) rfl (by kernel_rfl) (by kernel_rfl) (by kernel_rfl) (fun _ _ _ h => h) (Or.inl ⟨by rfl, ?_⟩) (by assumption) ?_
    rotate_left 1
    · (intro w hSw; (try dsimp only at hSw); go_simp; try with_reducible rfl)
    try simp only [Act.put, List.setIfInBounds_toArray, List.set_cons_zero, List.set_cons_succ]
    refine wpAnyH_take (i := 19) (oi := { dst := some 25, op := Go.Op.fieldAddr 51 (Go.Operand.tmp 24) 0, type := 0, pos := "solve.go:52", after := #[{ on := 18, ground := Go.Ground.data }], guard := none }) (v := ?_) rfl (by kernel_rfl) (by kernel_rfl) (by kernel_rfl) (fun _ _ _ h => h) (Or.inl ⟨by rfl, ?_⟩) (by assumption) ?_
    rotate_left 1
    · (intro w hSw; (try dsimp only at hSw); go_simp; try with_reducible rfl)
    try simp only [Act.put, List.setIfInBounds_toArray, List.set_cons_zero, List.set_cons_succ]
    refine wpAnyH_take (i := 20) (oi := { dst := some 26, op := Go.Op.load 22 (Go.Operand.tmp 25), type := 22, pos := "solve.go:52", after := #[{ on := 19, ground := Go.Ground.data }], guard := none }) (v := ?_) rfl (by kernel_rfl) (by kernel_rfl) (by kernel_rfl) (fun _ _ _ h => h) (Or.inl ⟨by rfl, ?_⟩) (by assumption) ?_
    rotate_left 1
    · (intro w hSw; (try dsimp only at hSw); go_simp; try with_reducible rfl)
    try simp only [Act.put, List.setIfInBounds_toArray, List.set_cons_zero, List.set_cons_succ]
    refine wpAnyH_take (i := 21) (oi := { dst := some 27, op := Go.Op.move (Go.Operand.tmp 1), type := 3, pos := "solve.go:52", after := #[], guard := none }) (v := ?_) rfl (by kernel_rfl) (by kernel_rfl) (by kernel_rfl) (fun _ _ _ h => h) (Or.inl ⟨by rfl, ?_⟩) (by assumption) ?_
    rotate_left 1
    · (intro w hSw; (try dsimp only at hSw); go_simp; try with_reducible rfl)
    try simp only [Act.put, List.setIfInBounds_toArray, List.set_cons_zero, List.set_cons_succ]
    refine wpAnyH_take (i := 22) (oi := { dst := some 28, op := Go.Op.indexAddr 22 (Go.Operand.tmp 26) (Go.Operand.tmp 27), type := 0, pos := "solve.go:52", after := #[{ on := 20, ground := Go.Ground.data }, { on := 21, ground := Go.Ground.data }], guard := none }) (v := ?_) rfl (by kernel_rfl) (by kernel_rfl) (by kernel_rfl) (fun _ _ _ h => h) (Or.inl ⟨by rfl, ?_⟩) (by assumption) ?_
    rotate_left 1
    · (intro w hSw; (try dsimp only at hSw); go_simp; try with_reducible rfl)
    try simp only [Act.put, List.setIfInBounds_toArray, List.set_cons_zero, List.set_cons_succ]
    refine wpAnyH_ready (rs := [16, 23]) (by kernel_rfl) (by simp) ?_
    refine AllReadyH.cons (o := { dst := some 22, op := Go.Op.load 36 (Go.Operand.tmp 21), type := 36, pos := "solve.go:52", after := #[{ on := 15, ground := Go.Ground.data }], guard := none }) rfl (fun K hK => ?_) ?_
    · go_simp
      clear hHeld
      refine hK.out _ _ ?_ (fun hHeld => ?_)
      · ((try dsimp only); first | exact hva | exact sv1 | exact sv2)
      clear hK K
      refine wpAnyH_ready (rs := [23]) (by kernel_rfl) (by simp) ?_
      refine AllReadyH.cons (o := { dst := some 29, op := Go.Op.load 36 (Go.Operand.tmp 28), type := 36, pos := "solve.go:52", after := #[{ on := 22, ground := Go.Ground.data }], guard := none }) rfl (fun K hK => ?_) AllReadyH.nil
      go_simp
      clear hHeld
      refine hK.out _ _ ?_ (fun hHeld => ?_)
      · ((try dsimp only); first | exact hva | exact sv1 | exact sv2)
      clear hK K
      refine wpAnyH_take (i := 24) (oi := { dst := some 30, op := Go.Op.indexAddr 22 (Go.Operand.tmp 9) (Go.Operand.tmp 10), type := 0, pos := "solve.go:52", after := #[{ on := 3, ground := Go.Ground.data }, { on := 4, ground := Go.Ground.data }, { on := 0, ground := Go.Ground.phase }, { on := 1, ground := Go.Ground.phase }, { on := 2, ground := Go.Ground.phase }, { on := 3, ground := Go.Ground.phase }, { on := 4, ground := Go.Ground.phase }, { on := 5, ground := Go.Ground.textOnly Go.Departure.lateStores }, { on := 6, ground := Go.Ground.textOnly Go.Departure.lateStoresUnsure }, { on := 7, ground := Go.Ground.textOnly Go.Departure.lateStoresUnsure }, { on := 8, ground := Go.Ground.phase }, { on := 9, ground := Go.Ground.textOnly Go.Departure.lateStores }, { on := 10, ground := Go.Ground.phase }, { on := 11, ground := Go.Ground.phase }, { on := 12, ground := Go.Ground.phase }, { on := 13, ground := Go.Ground.phase }, { on := 14, ground := Go.Ground.phase }, { on := 15, ground := Go.Ground.phase }, { on := 16, ground := Go.Ground.phase }, { on := 17, ground := Go.Ground.textOnly Go.Departure.lateStores }, { on := 18, ground := Go.Ground.textOnly Go.Departure.lateStoresUnsure }, { on := 19, ground := Go.Ground.textOnly Go.Departure.lateStoresUnsure }, { on := 20, ground := Go.Ground.phase }, { on := 21, ground := Go.Ground.textOnly Go.Departure.lateStores }, { on := 22, ground := Go.Ground.textOnly Go.Departure.lateStoresUnsure }, { on := 23, ground := Go.Ground.phase }], guard := none }) (v := ?_) rfl (by kernel_rfl) (by kernel_rfl) (by kernel_rfl) (fun _ _ _ h => h) (Or.inl ⟨by rfl, ?_⟩) (by assumption) ?_
      rotate_left 1
      · (intro w hSw; (try dsimp only at hSw); go_simp; try with_reducible rfl)
      try simp only [Act.put, List.setIfInBounds_toArray, List.set_cons_zero, List.set_cons_succ]
      refine wpAnyH_ready (rs := [25]) (by kernel_rfl) (by simp) ?_
      refine AllReadyH.cons (o := { dst := none, op := Go.Op.store 36 (Go.Operand.tmp 30) (Go.Operand.tmp 22), type := 0, pos := "solve.go:52", after := #[{ on := 24, ground := Go.Ground.data }, { on := 16, ground := Go.Ground.data }, { on := 0, ground := Go.Ground.phase }, { on := 1, ground := Go.Ground.phase }, { on := 2, ground := Go.Ground.phase }, { on := 3, ground := Go.Ground.phase }, { on := 4, ground := Go.Ground.phase }, { on := 5, ground := Go.Ground.textOnly Go.Departure.lateStores }, { on := 6, ground := Go.Ground.textOnly Go.Departure.lateStoresUnsure }, { on := 7, ground := Go.Ground.textOnly Go.Departure.lateStoresUnsure }, { on := 8, ground := Go.Ground.phase }, { on := 9, ground := Go.Ground.textOnly Go.Departure.lateStores }, { on := 10, ground := Go.Ground.phase }, { on := 11, ground := Go.Ground.phase }, { on := 12, ground := Go.Ground.phase }, { on := 13, ground := Go.Ground.phase }, { on := 14, ground := Go.Ground.phase }, { on := 15, ground := Go.Ground.phase }, { on := 16, ground := Go.Ground.phase }, { on := 17, ground := Go.Ground.textOnly Go.Departure.lateStores }, { on := 18, ground := Go.Ground.textOnly Go.Departure.lateStoresUnsure }, { on := 19, ground := Go.Ground.textOnly Go.Departure.lateStoresUnsure }, { on := 20, ground := Go.Ground.phase }, { on := 21, ground := Go.Ground.textOnly Go.Departure.lateStores }, { on := 22, ground := Go.Ground.textOnly Go.Departure.lateStoresUnsure }, { on := 23, ground := Go.Ground.phase }], guard := none }) rfl (fun K hK => ?_) AllReadyH.nil
      go_simp
      clear hHeld
      refine hK.out _ _ ?_ (fun hHeld => ?_)
      · ((try dsimp only); first | exact hva | exact sv1 | exact sv2)
      clear hK K
      refine wpAnyH_take (i := 26) (oi := { dst := some 31, op := Go.Op.indexAddr 22 (Go.Operand.tmp 14) (Go.Operand.tmp 15), type := 0, pos := "solve.go:52", after := #[{ on := 8, ground := Go.Ground.data }, { on := 9, ground := Go.Ground.data }, { on := 0, ground := Go.Ground.phase }, { on := 1, ground := Go.Ground.phase }, { on := 2, ground := Go.Ground.phase }, { on := 3, ground := Go.Ground.phase }, { on := 4, ground := Go.Ground.phase }, { on := 5, ground := Go.Ground.phase }, { on := 6, ground := Go.Ground.phase }, { on := 7, ground := Go.Ground.phase }, { on := 8, ground := Go.Ground.phase }, { on := 9, ground := Go.Ground.phase }, { on := 10, ground := Go.Ground.phase }, { on := 11, ground := Go.Ground.phase }, { on := 12, ground := Go.Ground.phase }, { on := 13, ground := Go.Ground.phase }, { on := 14, ground := Go.Ground.phase }, { on := 15, ground := Go.Ground.phase }, { on := 16, ground := Go.Ground.phase }, { on := 17, ground := Go.Ground.phase }, { on := 18, ground := Go.Ground.phase }, { on := 19, ground := Go.Ground.phase }, { on := 20, ground := Go.Ground.phase }, { on := 21, ground := Go.Ground.phase }, { on := 22, ground := Go.Ground.phase }, { on := 23, ground := Go.Ground.phase }, { on := 24, ground := Go.Ground.phase }, { on := 25, ground := Go.Ground.phase }], guard := none }) (v := ?_) rfl (by kernel_rfl) (by kernel_rfl) (by kernel_rfl) (fun _ _ _ h => h) (Or.inl ⟨by rfl, ?_⟩) (by assumption) ?_
      rotate_left 1
      · (intro w hSw; (try dsimp only at hSw); go_simp; try with_reducible rfl)
      try simp only [Act.put, List.setIfInBounds_toArray, List.set_cons_zero, List.set_cons_succ]
      refine wpAnyH_ready (rs := [27]) (by kernel_rfl) (by simp) ?_
      refine AllReadyH.cons (o := { dst := none, op := Go.Op.store 36 (Go.Operand.tmp 31) (Go.Operand.tmp 29), type := 0, pos := "solve.go:52", after := #[{ on := 26, ground := Go.Ground.data }, { on := 23, ground := Go.Ground.data }, { on := 25, ground := Go.Ground.chain }, { on := 0, ground := Go.Ground.phase }, { on := 1, ground := Go.Ground.phase }, { on := 2, ground := Go.Ground.phase }, { on := 3, ground := Go.Ground.phase }, { on := 4, ground := Go.Ground.phase }, { on := 5, ground := Go.Ground.phase }, { on := 6, ground := Go.Ground.phase }, { on := 7, ground := Go.Ground.phase }, { on := 8, ground := Go.Ground.phase }, { on := 9, ground := Go.Ground.phase }, { on := 10, ground := Go.Ground.phase }, { on := 11, ground := Go.Ground.phase }, { on := 12, ground := Go.Ground.phase }, { on := 13, ground := Go.Ground.phase }, { on := 14, ground := Go.Ground.phase }, { on := 15, ground := Go.Ground.phase }, { on := 16, ground := Go.Ground.phase }, { on := 17, ground := Go.Ground.phase }, { on := 18, ground := Go.Ground.phase }, { on := 19, ground := Go.Ground.phase }, { on := 20, ground := Go.Ground.phase }, { on := 21, ground := Go.Ground.phase }, { on := 22, ground := Go.Ground.phase }, { on := 23, ground := Go.Ground.phase }, { on := 24, ground := Go.Ground.phase }, { on := 25, ground := Go.Ground.phase }], guard := none }) rfl (fun K hK => ?_) AllReadyH.nil
      go_simp
      clear hHeld
      refine hK.out _ _ ?_ (fun hHeld => ?_)
      · ((try dsimp only); first | exact hva | exact sv1 | exact sv2)
      clear hK K
      refine wpAnyH_done (by kernel_rfl) ?_ _
      refine NoPanic.normal ?_
      exact REST _ rfl
    refine AllReadyH.cons (o := { dst := some 29, op := Go.Op.load 36 (Go.Operand.tmp 28), type := 36, pos := "solve.go:52", after := #[{ on := 22, ground := Go.Ground.data }], guard := none }) rfl (fun K hK => ?_) AllReadyH.nil
    go_simp
    clear hHeld
    refine hK.out _ _ ?_ (fun hHeld => ?_)
    · ((try dsimp only); first | exact hva | exact sv1 | exact sv2)
    clear hK K
    refine wpAnyH_ready (rs := [16]) (by kernel_rfl) (by simp) ?_
    refine AllReadyH.cons (o := { dst := some 22, op := Go.Op.load 36 (Go.Operand.tmp 21), type := 36, pos := "solve.go:52", after := #[{ on := 15, ground := Go.Ground.data }], guard := none }) rfl (fun K hK => ?_) AllReadyH.nil
    go_simp
    clear hHeld
    refine hK.out _ _ ?_ (fun hHeld => ?_)
    · ((try dsimp only); first | exact hva | exact sv1 | exact sv2)
    clear hK K
    refine wpAnyH_take (i := 24) (oi := { dst := some 30, op := Go.Op.indexAddr 22 (Go.Operand.tmp 9) (Go.Operand.tmp 10), type := 0, pos := "solve.go:52", after := #[{ on := 3, ground := Go.Ground.data }, { on := 4, ground := Go.Ground.data }, { on := 0, ground := Go.Ground.phase }, { on := 1, ground := Go.Ground.phase }, { on := 2, ground := Go.Ground.phase }, { on := 3, ground := Go.Ground.phase }, { on := 4, ground := Go.Ground.phase }, { on := 5, ground := Go.Ground.textOnly Go.Departure.lateStores }, { on := 6, ground := Go.Ground.textOnly Go.Departure.lateStoresUnsure }, { on := 7, ground := Go.Ground.textOnly Go.Departure.lateStoresUnsure }, { on := 8, ground := Go.Ground.phase }, { on := 9, ground := Go.Ground.textOnly Go.Departure.lateStores }, { on := 10, ground := Go.Ground.phase }, { on := 11, ground := Go.Ground.phase }, { on := 12, ground := Go.Ground.phase }, { on := 13, ground := Go.Ground.phase }, { on := 14, ground := Go.Ground.phase }, { on := 15, ground := Go.Ground.phase }, { on := 16, ground := Go.Ground.phase }, { on := 17, ground := Go.Ground.textOnly Go.Departure.lateStores }, { on := 18, ground := Go.Ground.textOnly Go.Departure.lateStoresUnsure }, { on := 19, ground := Go.Ground.textOnly Go.Departure.lateStoresUnsure }, { on := 20, ground := Go.Ground.phase }, { on := 21, ground := Go.Ground.textOnly Go.Departure.lateStores }, { on := 22, ground := Go.Ground.textOnly Go.Departure.lateStoresUnsure }, { on := 23, ground := Go.Ground.phase }], guard := none }) (v := ?_) rfl (by kernel_rfl) (by kernel_rfl) (by kernel_rfl) (fun _ _ _ h => h) (Or.inl ⟨by rfl, ?_⟩) (by assumption) ?_
    rotate_left 1
    · (intro w hSw; (try dsimp only at hSw); go_simp; try with_reducible rfl)
    try simp only [Act.put, List.setIfInBounds_toArray, List.set_cons_zero, List.set_cons_succ]
    refine wpAnyH_ready (rs := [25]) (by kernel_rfl) (by simp) ?_
    refine AllReadyH.cons (o := { dst := none, op := Go.Op.store 36 (Go.Operand.tmp 30) (Go.Operand.tmp 22), type := 0, pos := "solve.go:52", after := #[{ on := 24, ground := Go.Ground.data }, { on := 16, ground := Go.Ground.data }, { on := 0, ground := Go.Ground.phase }, { on := 1, ground := Go.Ground.phase }, { on := 2, ground := Go.Ground.phase }, { on := 3, ground := Go.Ground.phase }, { on := 4, ground := Go.Ground.phase }, { on := 5, ground := Go.Ground.textOnly Go.Departure.lateStores }, { on := 6, ground := Go.Ground.textOnly Go.Departure.lateStoresUnsure }, { on := 7, ground := Go.Ground.textOnly Go.Departure.lateStoresUnsure }, { on := 8, ground := Go.Ground.phase }, { on := 9, ground := Go.Ground.textOnly Go.Departure.lateStores }, { on := 10, ground := Go.Ground.phase }, { on := 11, ground := Go.Ground.phase }, { on := 12, ground := Go.Ground.phase }, { on := 13, ground := Go.Ground.phase }, { on := 14, ground := Go.Ground.phase }, { on := 15, ground := Go.Ground.phase }, { on := 16, ground := Go.Ground.phase }, { on := 17, ground := Go.Ground.textOnly Go.Departure.lateStores }, { on := 18, ground := Go.Ground.textOnly Go.Departure.lateStoresUnsure }, { on := 19, ground := Go.Ground.textOnly Go.Departure.lateStoresUnsure }, { on := 20, ground := Go.Ground.phase }, { on := 21, ground := Go.Ground.textOnly Go.Departure.lateStores }, { on := 22, ground := Go.Ground.textOnly Go.Departure.lateStoresUnsure }, { on := 23, ground := Go.Ground.phase }], guard := none }) rfl (fun K hK => ?_) AllReadyH.nil
    go_simp
    clear hHeld
    refine hK.out _ _ ?_ (fun hHeld => ?_)
    · ((try dsimp only); first | exact hva | exact sv1 | exact sv2)
    clear hK K
    refine wpAnyH_take (i := 26) (oi := { dst := some 31, op := Go.Op.indexAddr 22 (Go.Operand.tmp 14) (Go.Operand.tmp 15), type := 0, pos := "solve.go:52", after := #[{ on := 8, ground := Go.Ground.data }, { on := 9, ground := Go.Ground.data }, { on := 0, ground := Go.Ground.phase }, { on := 1, ground := Go.Ground.phase }, { on := 2, ground := Go.Ground.phase }, { on := 3, ground := Go.Ground.phase }, { on := 4, ground := Go.Ground.phase }, { on := 5, ground := Go.Ground.phase }, { on := 6, ground := Go.Ground.phase }, { on := 7, ground := Go.Ground.phase }, { on := 8, ground := Go.Ground.phase }, { on := 9, ground := Go.Ground.phase }, { on := 10, ground := Go.Ground.phase }, { on := 11, ground := Go.Ground.phase }, { on := 12, ground := Go.Ground.phase }, { on := 13, ground := Go.Ground.phase }, { on := 14, ground := Go.Ground.phase }, { on := 15, ground := Go.Ground.phase }, { on := 16, ground := Go.Ground.phase }, { on := 17, ground := Go.Ground.phase }, { on := 18, ground := Go.Ground.phase }, { on := 19, ground := Go.Ground.phase }, { on := 20, ground := Go.Ground.phase }, { on := 21, ground := Go.Ground.phase }, { on := 22, ground := Go.Ground.phase }, { on := 23, ground := Go.Ground.phase }, { on := 24, ground := Go.Ground.phase }, { on := 25, ground := Go.Ground.phase }], guard := none }) (v := ?_) rfl (by kernel_rfl) (by kernel_rfl) (by kernel_rfl) (fun _ _ _ h => h) (Or.inl ⟨by rfl, ?_⟩) (by assumption) ?_
    rotate_left 1
    · (intro w hSw; (try dsimp only at hSw); go_simp; try with_reducible rfl)
    try simp only [Act.put, List.setIfInBounds_toArray, List.set_cons_zero, List.set_cons_succ]
    refine wpAnyH_ready (rs := [27]) (by kernel_rfl) (by simp) ?_
    refine AllReadyH.cons (o := { dst := none, op := Go.Op.store 36 (Go.Operand.tmp 31) (Go.Operand.tmp 29), type := 0, pos := "solve.go:52", after := #[{ on := 26, ground := Go.Ground.data }, { on := 23, ground := Go.Ground.data }, { on := 25, ground := Go.Ground.chain }, { on := 0, ground := Go.Ground.phase }, { on := 1, ground := Go.Ground.phase }, { on := 2, ground := Go.Ground.phase }, { on := 3, ground := Go.Ground.phase }, { on := 4, ground := Go.Ground.phase }, { on := 5, ground := Go.Ground.phase }, { on := 6, ground := Go.Ground.phase }, { on := 7, ground := Go.Ground.phase }, { on := 8, ground := Go.Ground.phase }, { on := 9, ground := Go.Ground.phase }, { on := 10, ground := Go.Ground.phase }, { on := 11, ground := Go.Ground.phase }, { on := 12, ground := Go.Ground.phase }, { on := 13, ground := Go.Ground.phase }, { on := 14, ground := Go.Ground.phase }, { on := 15, ground := Go.Ground.phase }, { on := 16, ground := Go.Ground.phase }, { on := 17, ground := Go.Ground.phase }, { on := 18, ground := Go.Ground.phase }, { on := 19, ground := Go.Ground.phase }, { on := 20, ground := Go.Ground.phase }, { on := 21, ground := Go.Ground.phase }, { on := 22, ground := Go.Ground.phase }, { on := 23, ground := Go.Ground.phase }, { on := 24, ground := Go.Ground.phase }, { on := 25, ground := Go.Ground.phase }], guard := none }) rfl (fun K hK => ?_) AllReadyH.nil
    go_simp
    clear hHeld
    refine hK.out _ _ ?_ (fun hHeld => ?_)
    · ((try dsimp only); first | exact hva | exact sv1 | exact sv2)
    clear hK K
    refine wpAnyH_done (by kernel_rfl) ?_ _
    refine NoPanic.normal ?_
    exact REST _ rfl
  rintro W hW
  have HG := Lib.hid (show w.grownBy W (some g) by rw [hW]; exact World.grownBy.trans HW1.out.2 ⟨rfl, rfl, rfl, Nat.le_refl _, fun _ _ _ => rfl⟩)
  have HW1' := Lib.hid (HW1.out.1.drewN 1)
  change Hid (Grid (World.drew _) _ _ _ _ _ _ _) at HW1'
  rw [← hW] at HW1'
  clear sv1 sv2
  have hgb := H.out.gb.grown HG.out (.inl (by omega))
  have hbk := H.out.blk.grown HG.out (fun e => by injection e with e; have := H.out.l2; have := H.out.l3; omega)
  obtain ⟨e3, e4⟩ := HE.out.2.2
  have hvb2 : W.cell? ⟨p, 1, none⟩ = some (.slice (some ⟨g', 0, none⟩) n cg') := (hbk.cell 1).trans rfl
  have z3 := (hgb.head i hi).1
  have z4 := (hgb.head k hk).1
  have f3 := (hgb.head i hi).2
  have f4 := (hgb.head k hk).2
  rw [e3] at z3
  rw [e4] at z4
  obtain ⟨y3, y4⟩ := hgb.head2 i k hi hk
  have HW2 := Lib.hid (And.intro (hgb.swap i k hi hk) (hgb.insd i k (Rb k) (Rb i)))
  have hpg2 : p ≠ g' := by have := H.out.l3; omega
  have sv1 := (World.cell?_setCell_other W ⟨g', i, none⟩ ⟨p, 1, none⟩ (.slice (some ⟨b4, 0, none⟩) q c4) (fun e => hpg2 (by injection e with e1; exact e1.symm))).trans hvb2
  have sv2 := (World.cell?_setCell_other (W.setCell ⟨g', i, none⟩ (.slice (some ⟨b4, 0, none⟩) q c4)) ⟨g', k, none⟩ ⟨p, 1, none⟩ (.slice (some ⟨b3, 0, none⟩) q c3) (fun e => hpg2 (by injection e with e1; exact e1.symm))).trans sv1
  rw [e4] at y3 y4
  rw [e3, e4] at HW2
  have HBK := Lib.hid hbk
  clear hgb hbk e3 e4 hW y1 y2 z1 z2 f1 f2 hva hvb
  go_upto_region 1 with (fail)
  apply joinW (fun V => V = ((W.setCell ⟨g', i, none⟩ (.slice (some ⟨b4, 0, none⟩) q c4)).setCell ⟨g', k, none⟩ (.slice (some ⟨b3, 0, none⟩) q c3)).drew)
  · intro REST
    refine wp_region_noPanic ?_
    refine wp_region_held_drew (S := (fun W => W.cell? ⟨p, 1, none⟩ = some (.slice (some ⟨g', 0, none⟩) n cg'))) (by kernel_rfl) ?_ (fun hHeld => ?_)
    · ((try dsimp only); first | exact hvb2 | exact sv1 | exact sv2)
    refine wpAnyH_take (i := 0) (oi := { dst := some 32, op := Go.Op.move (Go.Operand.tmp 0), type := 46, pos := "solve.go:53", after := #[], guard := none }) (v := ?_) rfl (by kernel_rfl) (by kernel_rfl) (by kernel_rfl) (fun _ _ _ h => h) (Or.inl ⟨by rfl, ?_⟩) (by assumption) ?_
    rotate_left 1
    · (intro w hSw; (try dsimp only at hSw); go_simp; try with_reducible rfl)
    try simp only [Act.put, List.setIfInBounds_toArray, List.set_cons_zero, List.set_cons_succ]
    refine wpAnyH_take (i := 1) (oi := { dst := some 33, op := Go.Op.nilCheck (Go.Operand.tmp 32), type := 0, pos := "solve.go:53", after := #[{ on := 0, ground := Go.Ground.data }], guard := none }) (v := ?_) rfl (by kernel_rfl) (by kernel_rfl) (by kernel_rfl) (fun _ _ _ h => h) (Or.inl ⟨by rfl, ?_⟩) (by assumption) ?_
    rotate_left 1
    · (intro w hSw; (try dsimp only at hSw); go_simp; try with_reducible rfl)
    try simp only [Act.put, List.setIfInBounds_toArray, List.set_cons_zero, List.set_cons_succ]
    refine wpAnyH_take (i := 2) (oi := { dst := some 34, op := Go.Op.fieldAddr 51 (Go.Operand.tmp 33) 1, type := 0, pos := "solve.go:53", after := #[{ on := 1, ground := Go.Ground.data }], guard := none }) (v := ?_) rfl (by kernel_rfl) (by kernel_rfl) (by kernel_rfl) (fun _ _ _ h => h) (Or.inl ⟨by rfl, ?_⟩) (by assumption) ?_
    rotate_left 1
    · (intro w hSw; (try dsimp only at hSw); go_simp; try with_reducible rfl)
    try simp only [Act.put, List.setIfInBounds_toArray, List.set_cons_zero, List.set_cons_succ]
    refine wpAnyH_take (i := 3) (oi := { dst := some 35, op := Go.Op.load 22 (Go.Operand.tmp 34), type := 22, pos := "solve.go:53", after := #[{ on := 2, ground := Go.Ground.data }], guard := none }) (v := ?_) rfl (by kernel_rfl) (by kernel_rfl) (by kernel_rfl) (fun _ _ _ h => h) (Or.inl ⟨by rfl, ?_⟩) (by assumption) ?_
    rotate_left 1
    · (intro w hSw; (try dsimp only at hSw); go_simp; try with_reducible rfl)
    try simp only [Act.put, List.setIfInBounds_toArray, List.set_cons_zero, List.set_cons_succ]
    refine wpAnyH_take (i := 4) (oi := { dst := some 36, op := Go.Op.move (Go.Operand.tmp 1), type := 3, pos := "solve.go:53", after := #[], guard := none }) (v := ?_) rfl (by kernel_rfl) (by kernel_rfl) (by kernel_rfl) (fun _ _ _ h => h) (Or.inl ⟨by rfl, ?_⟩) (by assumption) ?_
    rotate_left 1
    · (intro w hSw; (try dsimp only at hSw); go_simp; try with_reducible rfl)
    try simp only [Act.put, List.setIfInBounds_toArray, List.set_cons_zero, List.set_cons_succ]
    refine wpAnyH_take (i := 5) (oi := { dst := some 37, op := Go.Op.move (Go.Operand.tmp 0), type := 46, pos := "solve.go:53", after := #[], guard := none }) (v := ?_) rfl (by kernel_rfl) (by kernel_rfl) (by kernel_rfl) (fun _ _ _ h => h) (Or.inl ⟨by rfl, ?_⟩) (by assumption) ?_
    rotate_left 1
    · (intro w hSw; (try dsimp only at hSw); go_simp; try with_reducible rfl)
    try simp only [Act.put, List.setIfInBounds_toArray, List.set_cons_zero, List.set_cons_succ]
    refine wpAnyH_take (i := 6) (oi := { dst := some 38, op := Go.Op.nilCheck (Go.Operand.tmp 37), type := 0, pos := "solve.go:53", after := #[{ on := 5, ground := Go.Ground.data }], guard := none }) (v := ?_) rfl (by kernel_rfl) (by kernel_rfl) (by kernel_rfl) (fun _ _ _ h => h) (Or.inl ⟨by rfl, ?_⟩) (by assumption) ?_
    rotate_left 1
    · (intro w hSw; (try dsimp only at hSw); go_simp; try with_reducible rfl)
    try simp only [Act.put, List.setIfInBounds_toArray, List.set_cons_zero, List.set_cons_succ]
    refine wpAnyH_take (i := 7) (oi := { dst := some 39, op := Go.Op.fieldAddr 51 (Go.Operand.tmp 38) 1, type := 0, pos := "solve.go:53", after := #[{ on := 6, ground := Go.Ground.data }], guard := none }) (v := ?_) rfl (by kernel_rfl) (by kernel_rfl) (by kernel_rfl) (fun _ _ _ h => h) (Or.inl ⟨by rfl, ?_⟩) (by assumption) ?_
    rotate_left 1
    · (intro w hSw; (try dsimp only at hSw); go_simp; try with_reducible rfl)
    try simp only [Act.put, List.setIfInBounds_toArray, List.set_cons_zero, List.set_cons_succ]
    refine wpAnyH_take (i := 8) (oi := { dst := some 40, op := Go.Op.load 22 (Go.Operand.tmp 39), type := 22, pos := "solve.go:53", after := #[{ on := 7, ground := Go.Ground.data }], guard := none }) (v := ?_) rfl (by kernel_rfl) (by kernel_rfl) (by kernel_rfl) (fun _ _ _ h => h) (Or.inl ⟨by rfl, ?_⟩) (by assumption) ?_
    rotate_left 1
    · (intro w hSw; (try dsimp only at hSw); go_simp; try with_reducible rfl)
    try simp only [Act.put, List.setIfInBounds_toArray, List.set_cons_zero, List.set_cons_succ]
    refine wpAnyH_take (i := 9) (oi := { dst := some 41, op := Go.Op.move (Go.Operand.tmp 2), type := 3, pos := "solve.go:53", after := #[{ on := 25, ground := Go.Ground.gcOnly Go.Departure.lateStores }], guard := none }) (v := ?_) rfl (by kernel_rfl) (by kernel_rfl) (by kernel_rfl) (fun _ _ _ h => h) (Or.inl ⟨by rfl, ?_⟩) (by assumption) ?_
    rotate_left 1
    · (intro w hSw; (try dsimp only at hSw); go_simp; try with_reducible rfl)
    try simp only [Act.put, List.setIfInBounds_toArray, List.set_cons_zero, List.set_cons_succ]
    refine wpAnyH_take (i := 10) (oi := { dst := some 42, op := Go.Op.move (Go.Operand.tmp 0), type := 46, pos := "solve.go:53", after := #[], guard := none }) (v := ?_) rfl (by kernel_rfl) (by kernel_rfl) (by kernel_rfl) (fun _ _ _ h => h) (Or.inl ⟨by rfl, ?_⟩) (by assumption) ?_
    rotate_left 1
    · (intro w hSw; (try dsimp only at hSw); go_simp; try with_reducible rfl)
    try simp only [Act.put, List.setIfInBounds_toArray, List.set_cons_zero, List.set_cons_succ]
    refine wpAnyH_take (i := 11) (oi := { dst := some 43, op := Go.Op.nilCheck (Go.Operand.tmp 42), type := 0, pos := "solve.go:53", after := #[{ on := 10, ground := Go.Ground.data }], guard := none }) (v := ?_) rfl (by kernel_rfl) (by kernel_rfl) (by kernel_rfl) (fun _ _ _ h => h) (Or.inl ⟨by rfl, ?_⟩) (by assumption) ?_
    rotate_left 1
    · (intro w hSw; (try dsimp only at hSw); go_simp; try with_reducible rfl)
    try simp only [Act.put, List.setIfInBounds_toArray, List.set_cons_zero, List.set_cons_succ]
    refine wpAnyH_take (i := 12) (oi := { dst := some 44, op := Go.Op.fieldAddr 51 (Go.Operand.tmp 43) 1, type := 0, pos := "solve.go:53", after := #[{ on := 11, ground := Go.Ground.data }], guard := none }) (v := ?_) rfl (by kernel_rfl) (by kernel_rfl) (by kernel_rfl) (fun _ _ _ h => h) (Or.inl ⟨by rfl, ?_⟩) (by assumption) ?_
    rotate_left 1
    · (intro w hSw; (try dsimp only at hSw); go_simp; try with_reducible rfl)
    try simp only [Act.put, List.setIfInBounds_toArray, List.set_cons_zero, List.set_cons_succ]
    refine wpAnyH_take (i := 13) (oi := { dst := some 45, op := Go.Op.load 22 (Go.Operand.tmp 44), type := 22, pos := "solve.go:53", after := #[{ on := 12, ground := Go.Ground.data }], guard := none }) (v := ?_) rfl (by kernel_rfl) (by kernel_rfl) (by kernel_rfl) (fun _ _ _ h => h) (Or.inl ⟨by rfl, ?_⟩) (by assumption) ?_
    rotate_left 1
    · (intro w hSw; (try dsimp only at hSw); go_simp; try with_reducible rfl)
    try simp only [Act.put, List.setIfInBounds_toArray, List.set_cons_zero, List.set_cons_succ]
    refine wpAnyH_take (i := 14) (oi := { dst := some 46, op := Go.Op.move (Go.Operand.tmp 2), type := 3, pos := "solve.go:53", after := #[], guard := none }) (v := ?_) rfl (by kernel_rfl) (by kernel_rfl) (by kernel_rfl) (fun _ _ _ h => h) (Or.inl ⟨by rfl, ?_⟩) (by assumption) ?_
    rotate_left 1
    · (intro w hSw; (try dsimp only at hSw); go_simp; try with_reducible rfl)
    try simp only [Act.put, List.setIfInBounds_toArray, List.set_cons_zero, List.set_cons_succ]
    refine wpAnyH_take (i := 15) (oi := { dst := some 47, op := Go.Op.indexAddr 22 (Go.Operand.tmp 45) (Go.Operand.tmp 46), type := 0, pos := "solve.go:53", after := #[{ on := 13, ground := Go.Ground.data }, { on := 14, ground := Go.Ground.data }], guard := none }) (v := ?_) rfl (by kernel_rfl) (by kernel_rfl) (by kernel_rfl) (fun _ _ _ h => h) (Or.inl ⟨by rfl, ?_⟩) (by assumption) ?_
    rotate_left 1
    · (intro w hSw; (try dsimp only at hSw); go_simp; try with_reducible rfl)
    try simp only [Act.put, List.setIfInBounds_toArray, List.set_cons_zero, List.set_cons_succ]
    refine wpAnyH_take (i := 17) (oi := { dst := some 49, op := Go.Op.move (Go.Operand.tmp 0), type := 46, pos := "solve.go:53", after := #[], guard := none }) (v := ?_) rfl (by kernel_rfl) (by kernel_rfl) (by kernel_rfl) (fun _ _ _ h => h) (Or.inl ⟨by rfl, ?_⟩) (by assumption) ?_
    rotate_left 1
    · (intro w hSw; (try dsimp only at hSw); go_simp; try with_reducible rfl)
    try simp only [Act.put, List.setIfInBounds_toArray, List.set_cons_zero, List.set_cons_succ]
    refine wpAnyH_take (i := 18) (oi := { dst := some 50, op := Go.Op.nilCheck (Go.Operand.tmp 49), type := 0, pos := "solve.go:53", after := #[{ on := 17, ground := Go.Ground.data }], guard := none }) (v := ?_) rfl (by kernel_rfl) (by kernel_rfl) (by kernel_rfl) (fun _ _ _ h => h) (Or.inl ⟨by rfl, ?_⟩) (by assumption) ?_
    rotate_left 1
    · (intro w hSw; (try dsimp only at hSw); go_simp; try with_reducible rfl)
    try simp only [Act.put, List.setIfInBounds_toArray, List.set_cons_zero, List.set_cons_succ]
    refine wpAnyH_take (i := 19) (oi := { dst := some 51, op := Go.Op.fieldAddr 51 (Go.Operand.tmp 50) 1, type := 0, pos := "solve.go:53", after := #[{ on := 18, ground := Go.Ground.data }], guard := none }) (v := ?_) rfl (by kernel_rfl) (by kernel_rfl) (by kernel_rfl) (fun _ _ _ h => h) (Or.inl ⟨by rfl, ?_⟩) (by assumption) ?_
    rotate_left 1
    · (intro w hSw; (try dsimp only at hSw); go_simp; try with_reducible rfl)
    try simp only [Act.put, List.setIfInBounds_toArray, List.set_cons_zero, List.set_cons_succ]
    refine wpAnyH_take (i := 20) (oi := { dst := some 52, op := Go.Op.load 22 (Go.Operand.tmp 51), type := 22, pos := "solve.go:53", after := #[{ on := 19, ground := Go.Ground.data }], guard := none }) (v := ?_) rfl (by kernel_rfl) (by kernel_rfl) (by kernel_rfl) (fun _ _ _ h => h) (Or.inl ⟨by rfl, ?_⟩) (by assumption) ?_
    rotate_left 1
    · (intro w hSw; (try dsimp only at hSw); go_simp; try with_reducible rfl)
    try simp only [Act.put, List.setIfInBounds_toArray, List.set_cons_zero, List.set_cons_succ]
    refine wpAnyH_take (i := 21) (oi := { dst := some 53, op := Go.Op.move (Go.Operand.tmp 1), type := 3, pos := "solve.go:53", after := #[], guard := none }) (v := ?_) rfl (by kernel_rfl) (by kernel_rfl) (by kernel_rfl) (fun _ _ _ h => h) (Or.inl ⟨by rfl, ?_⟩) (by assumption) ?_
    rotate_left 1
    · (intro w hSw; (try dsimp only at hSw); go_simp; try with_reducible rfl)
    try simp only [Act.put, List.setIfInBounds_toArray, List.set_cons_zero, List.set_cons_succ]
    refine wpAnyH_take (i := 22) (oi := { dst := some 54, op := Go.Op.indexAddr 22 (Go.Operand.tmp 52) (Go.Operand.tmp 53), type := 0, pos := "solve.go:53", after := #[{ on := 20, ground := Go.Ground.data }, { on := 21, ground := Go.Ground.data }], guard := none }) (v := ?_) rfl (by kernel_rfl) (by kernel_rfl) (by kernel_rfl) (fun _ _ _ h => h) (Or.inl ⟨by rfl, ?_⟩) (by assumption) ?_
    rotate_left 1
    · (intro w hSw; (try dsimp only at hSw); go_simp; try with_reducible rfl)
    try simp only [Act.put, List.setIfInBounds_toArray, List.set_cons_zero, List.set_cons_succ]
    refine wpAnyH_ready (rs := [16, 23]) (by kernel_rfl) (by simp) ?_
    refine AllReadyH.cons (o := { dst := some 48, op := Go.Op.load 36 (Go.Operand.tmp 47), type := 36, pos := "solve.go:53", after := #[{ on := 15, ground := Go.Ground.data }], guard := none }) rfl (fun K hK => ?_) ?_
    · go_simp
      clear hHeld
      refine hK.out _ _ ?_ (fun hHeld => ?_)
      · ((try dsimp only); first | exact hvb2 | exact sv1 | exact sv2)
      clear hK K
      refine wpAnyH_ready (rs := [23]) (by kernel_rfl) (by simp) ?_
      refine AllReadyH.cons (o := { dst := some 55, op := Go.Op.load 36 (Go.Operand.tmp 54), type := 36, pos := "solve.go:53", after := #[{ on := 22, ground := Go.Ground.data }], guard := none }) rfl (fun K hK => ?_) AllReadyH.nil
      go_simp
      clear hHeld
      refine hK.out _ _ ?_ (fun hHeld => ?_)
      · ((try dsimp only); first | exact hvb2 | exact sv1 | exact sv2)
      clear hK K
      refine wpAnyH_take (i := 24) (oi := { dst := some 56, op := Go.Op.indexAddr 22 (Go.Operand.tmp 35) (Go.Operand.tmp 36), type := 0, pos := "solve.go:53", after := #[{ on := 3, ground := Go.Ground.data }, { on := 4, ground := Go.Ground.data }, { on := 0, ground := Go.Ground.phase }, { on := 1, ground := Go.Ground.phase }, { on := 2, ground := Go.Ground.phase }, { on := 3, ground := Go.Ground.phase }, { on := 4, ground := Go.Ground.phase }, { on := 5, ground := Go.Ground.textOnly Go.Departure.lateStores }, { on := 6, ground := Go.Ground.textOnly Go.Departure.lateStoresUnsure }, { on := 7, ground := Go.Ground.textOnly Go.Departure.lateStoresUnsure }, { on := 8, ground := Go.Ground.phase }, { on := 9, ground := Go.Ground.textOnly Go.Departure.lateStores }, { on := 10, ground := Go.Ground.phase }, { on := 11, ground := Go.Ground.phase }, { on := 12, ground := Go.Ground.phase }, { on := 13, ground := Go.Ground.phase }, { on := 14, ground := Go.Ground.phase }, { on := 15, ground := Go.Ground.phase }, { on := 16, ground := Go.Ground.phase }, { on := 17, ground := Go.Ground.textOnly Go.Departure.lateStores }, { on := 18, ground := Go.Ground.textOnly Go.Departure.lateStoresUnsure }, { on := 19, ground := Go.Ground.textOnly Go.Departure.lateStoresUnsure }, { on := 20, ground := Go.Ground.phase }, { on := 21, ground := Go.Ground.textOnly Go.Departure.lateStores }, { on := 22, ground := Go.Ground.textOnly Go.Departure.lateStoresUnsure }, { on := 23, ground := Go.Ground.phase }], guard := none }) (v := ?_) rfl (by kernel_rfl) (by kernel_rfl) (by kernel_rfl) (fun _ _ _ h => h) (Or.inl ⟨by rfl, ?_⟩) (by assumption) ?_
      rotate_left 1
      · (intro w hSw; (try dsimp only at hSw); go_simp; try with_reducible rfl)
      try simp only [Act.put, List.setIfInBounds_toArray, List.set_cons_zero, List.set_cons_succ]
      refine wpAnyH_ready (rs := [25]) (by kernel_rfl) (by simp) ?_
      refine AllReadyH.cons (o := { dst := none, op := Go.Op.store 36 (Go.Operand.tmp 56) (Go.Operand.tmp 48), type := 0, pos := "solve.go:53", after := #[{ on := 24, ground := Go.Ground.data }, { on := 16, ground := Go.Ground.data }, { on := 0, ground := Go.Ground.phase }, { on := 1, ground := Go.Ground.phase }, { on := 2, ground := Go.Ground.phase }, { on := 3, ground := Go.Ground.phase }, { on := 4, ground := Go.Ground.phase }, { on := 5, ground := Go.Ground.textOnly Go.Departure.lateStores }, { on := 6, ground := Go.Ground.textOnly Go.Departure.lateStoresUnsure }, { on := 7, ground := Go.Ground.textOnly Go.Departure.lateStoresUnsure }, { on := 8, ground := Go.Ground.phase }, { on := 9, ground := Go.Ground.textOnly Go.Departure.lateStores }, { on := 10, ground := Go.Ground.phase }, { on := 11, ground := Go.Ground.phase }, { on := 12, ground := Go.Ground.phase }, { on := 13, ground := Go.Ground.phase }, { on := 14, ground := Go.Ground.phase }, { on := 15, ground := Go.Ground.phase }, { on := 16, ground := Go.Ground.phase }, { on := 17, ground := Go.Ground.textOnly Go.Departure.lateStores }, { on := 18, ground := Go.Ground.textOnly Go.Departure.lateStoresUnsure }, { on := 19, ground := Go.Ground.textOnly Go.Departure.lateStoresUnsure }, { on := 20, ground := Go.Ground.phase }, { on := 21, ground := Go.Ground.textOnly Go.Departure.lateStores }, { on := 22, ground := Go.Ground.textOnly Go.Departure.lateStoresUnsure }, { on := 23, ground := Go.Ground.phase }], guard := none }) rfl (fun K hK => ?_) AllReadyH.nil
      go_simp
      clear hHeld
      refine hK.out _ _ ?_ (fun hHeld => ?_)
      · ((try dsimp only); first | exact hvb2 | exact sv1 | exact sv2)
      clear hK K
      refine wpAnyH_take (i := 26) (oi := { dst := some 57, op := Go.Op.indexAddr 22 (Go.Operand.tmp 40) (Go.Operand.tmp 41), type := 0, pos := "solve.go:53", after := #[{ on := 8, ground := Go.Ground.data }, { on := 9, ground := Go.Ground.data }, { on := 0, ground := Go.Ground.phase }, { on := 1, ground := Go.Ground.phase }, { on := 2, ground := Go.Ground.phase }, { on := 3, ground := Go.Ground.phase }, { on := 4, ground := Go.Ground.phase }, { on := 5, ground := Go.Ground.phase }, { on := 6, ground := Go.Ground.phase }, { on := 7, ground := Go.Ground.phase }, { on := 8, ground := Go.Ground.phase }, { on := 9, ground := Go.Ground.phase }, { on := 10, ground := Go.Ground.phase }, { on := 11, ground := Go.Ground.phase }, { on := 12, ground := Go.Ground.phase }, { on := 13, ground := Go.Ground.phase }, { on := 14, ground := Go.Ground.phase }, { on := 15, ground := Go.Ground.phase }, { on := 16, ground := Go.Ground.phase }, { on := 17, ground := Go.Ground.phase }, { on := 18, ground := Go.Ground.phase }, { on := 19, ground := Go.Ground.phase }, { on := 20, ground := Go.Ground.phase }, { on := 21, ground := Go.Ground.phase }, { on := 22, ground := Go.Ground.phase }, { on := 23, ground := Go.Ground.phase }, { on := 24, ground := Go.Ground.phase }, { on := 25, ground := Go.Ground.phase }], guard := none }) (v := ?_) rfl (by kernel_rfl) (by kernel_rfl) (by kernel_rfl) (fun _ _ _ h => h) (Or.inl ⟨by rfl, ?_⟩) (by assumption) ?_
      rotate_left 1
      · (intro w hSw; (try dsimp only at hSw); go_simp; try with_reducible rfl)
      try simp only [Act.put, List.setIfInBounds_toArray, List.set_cons_zero, List.set_cons_succ]
      refine wpAnyH_ready (rs := [27]) (by kernel_rfl) (by simp) ?_
      refine AllReadyH.cons (o := { dst := none, op := Go.Op.store 36 (Go.Operand.tmp 57) (Go.Operand.tmp 55), type := 0, pos := "solve.go:53", after := #[{ on := 26, ground := Go.Ground.data }, { on := 23, ground := Go.Ground.data }, { on := 25, ground := Go.Ground.chain }, { on := 0, ground := Go.Ground.phase }, { on := 1, ground := Go.Ground.phase }, { on := 2, ground := Go.Ground.phase }, { on := 3, ground := Go.Ground.phase }, { on := 4, ground := Go.Ground.phase }, { on := 5, ground := Go.Ground.phase }, { on := 6, ground := Go.Ground.phase }, { on := 7, ground := Go.Ground.phase }, { on := 8, ground := Go.Ground.phase }, { on := 9, ground := Go.Ground.phase }, { on := 10, ground := Go.Ground.phase }, { on := 11, ground := Go.Ground.phase }, { on := 12, ground := Go.Ground.phase }, { on := 13, ground := Go.Ground.phase }, { on := 14, ground := Go.Ground.phase }, { on := 15, ground := Go.Ground.phase }, { on := 16, ground := Go.Ground.phase }, { on := 17, ground := Go.Ground.phase }, { on := 18, ground := Go.Ground.phase }, { on := 19, ground := Go.Ground.phase }, { on := 20, ground := Go.Ground.phase }, { on := 21, ground := Go.Ground.phase }, { on := 22, ground := Go.Ground.phase }, { on := 23, ground := Go.Ground.phase }, { on := 24, ground := Go.Ground.phase }, { on := 25, ground := Go.Ground.phase }], guard := none }) rfl (fun K hK => ?_) AllReadyH.nil
      go_simp
      clear hHeld
      refine hK.out _ _ ?_ (fun hHeld => ?_)
      · ((try dsimp only); first | exact hvb2 | exact sv1 | exact sv2)
      clear hK K
      refine wpAnyH_done (by kernel_rfl) ?_ _
      refine NoPanic.normal ?_
      exact REST _ rfl
    refine AllReadyH.cons (o := { dst := some 55, op := Go.Op.load 36 (Go.Operand.tmp 54), type := 36, pos := "solve.go:53", after := #[{ on := 22, ground := Go.Ground.data }], guard := none }) rfl (fun K hK => ?_) AllReadyH.nil
    go_simp
    clear hHeld
    refine hK.out _ _ ?_ (fun hHeld => ?_)
    · ((try dsimp only); first | exact hvb2 | exact sv1 | exact sv2)
    clear hK K
    refine wpAnyH_ready (rs := [16]) (by kernel_rfl) (by simp) ?_
    refine AllReadyH.cons (o := { dst := some 48, op := Go.Op.load 36 (Go.Operand.tmp 47), type := 36, pos := "solve.go:53", after := #[{ on := 15, ground := Go.Ground.data }], guard := none }) rfl (fun K hK => ?_) AllReadyH.nil
    go_simp
    clear hHeld
    refine hK.out _ _ ?_ (fun hHeld => ?_)
    · ((try dsimp only); first | exact hvb2 | exact sv1 | exact sv2)
    clear hK K
    refine wpAnyH_take (i := 24) (oi := { dst := some 56, op := Go.Op.indexAddr 22 (Go.Operand.tmp 35) (Go.Operand.tmp 36), type := 0, pos := "solve.go:53", after := #[{ on := 3, ground := Go.Ground.data }, { on := 4, ground := Go.Ground.data }, { on := 0, ground := Go.Ground.phase }, { on := 1, ground := Go.Ground.phase }, { on := 2, ground := Go.Ground.phase }, { on := 3, ground := Go.Ground.phase }, { on := 4, ground := Go.Ground.phase }, { on := 5, ground := Go.Ground.textOnly Go.Departure.lateStores }, { on := 6, ground := Go.Ground.textOnly Go.Departure.lateStoresUnsure }, { on := 7, ground := Go.Ground.textOnly Go.Departure.lateStoresUnsure }, { on := 8, ground := Go.Ground.phase }, { on := 9, ground := Go.Ground.textOnly Go.Departure.lateStores }, { on := 10, ground := Go.Ground.phase }, { on := 11, ground := Go.Ground.phase }, { on := 12, ground := Go.Ground.phase }, { on := 13, ground := Go.Ground.phase }, { on := 14, ground := Go.Ground.phase }, { on := 15, ground := Go.Ground.phase }, { on := 16, ground := Go.Ground.phase }, { on := 17, ground := Go.Ground.textOnly Go.Departure.lateStores }, { on := 18, ground := Go.Ground.textOnly Go.Departure.lateStoresUnsure }, { on := 19, ground := Go.Ground.textOnly Go.Departure.lateStoresUnsure }, { on := 20, ground := Go.Ground.phase }, { on := 21, ground := Go.Ground.textOnly Go.Departure.lateStores }, { on := 22, ground := Go.Ground.textOnly Go.Departure.lateStoresUnsure }, { on := 23, ground := Go.Ground.phase }], guard := none }) (v := ?_) rfl (by kernel_rfl) (by kernel_rfl) (by kernel_rfl) (fun _ _ _ h => h) (Or.inl ⟨by rfl, ?_⟩) (by assumption) ?_
    rotate_left 1
    · (intro w hSw; (try dsimp only at hSw); go_simp; try with_reducible rfl)
    try simp only [Act.put, List.setIfInBounds_toArray, List.set_cons_zero, List.set_cons_succ]
    refine wpAnyH_ready (rs := [25]) (by kernel_rfl) (by simp) ?_
    refine AllReadyH.cons (o := { dst := none, op := Go.Op.store 36 (Go.Operand.tmp 56) (Go.Operand.tmp 48), type := 0, pos := "solve.go:53", after := #[{ on := 24, ground := Go.Ground.data }, { on := 16, ground := Go.Ground.data }, { on := 0, ground := Go.Ground.phase }, { on := 1, ground := Go.Ground.phase }, { on := 2, ground := Go.Ground.phase }, { on := 3, ground := Go.Ground.phase }, { on := 4, ground := Go.Ground.phase }, { on := 5, ground := Go.Ground.textOnly Go.Departure.lateStores }, { on := 6, ground := Go.Ground.textOnly Go.Departure.lateStoresUnsure }, { on := 7, ground := Go.Ground.textOnly Go.Departure.lateStoresUnsure }, { on := 8, ground := Go.Ground.phase }, { on := 9, ground := Go.Ground.textOnly Go.Departure.lateStores }, { on := 10, ground := Go.Ground.phase }, { on := 11, ground := Go.Ground.phase }, { on := 12, ground := Go.Ground.phase }, { on := 13, ground := Go.Ground.phase }, { on := 14, ground := Go.Ground.phase }, { on := 15, ground := Go.Ground.phase }, { on := 16, ground := Go.Ground.phase }, { on := 17, ground := Go.Ground.textOnly Go.Departure.lateStores }, { on := 18, ground := Go.Ground.textOnly Go.Departure.lateStoresUnsure }, { on := 19, ground := Go.Ground.textOnly Go.Departure.lateStoresUnsure }, { on := 20, ground := Go.Ground.phase }, { on := 21, ground := Go.Ground.textOnly Go.Departure.lateStores }, { on := 22, ground := Go.Ground.textOnly Go.Departure.lateStoresUnsure }, { on := 23, ground := Go.Ground.phase }], guard := none }) rfl (fun K hK => ?_) AllReadyH.nil
    go_simp
    clear hHeld
    refine hK.out _ _ ?_ (fun hHeld => ?_)
    · ((try dsimp only); first | exact hvb2 | exact sv1 | exact sv2)
    clear hK K
    refine wpAnyH_take (i := 26) (oi := { dst := some 57, op := Go.Op.indexAddr 22 (Go.Operand.tmp 40) (Go.Operand.tmp 41), type := 0, pos := "solve.go:53", after := #[{ on := 8, ground := Go.Ground.data }, { on := 9, ground := Go.Ground.data }, { on := 0, ground := Go.Ground.phase }, { on := 1, ground := Go.Ground.phase }, { on := 2, ground := Go.Ground.phase }, { on := 3, ground := Go.Ground.phase }, { on := 4, ground := Go.Ground.phase }, { on := 5, ground := Go.Ground.phase }, { on := 6, ground := Go.Ground.phase }, { on := 7, ground := Go.Ground.phase }, { on := 8, ground := Go.Ground.phase }, { on := 9, ground := Go.Ground.phase }, { on := 10, ground := Go.Ground.phase }, { on := 11, ground := Go.Ground.phase }, { on := 12, ground := Go.Ground.phase }, { on := 13, ground := Go.Ground.phase }, { on := 14, ground := Go.Ground.phase }, { on := 15, ground := Go.Ground.phase }, { on := 16, ground := Go.Ground.phase }, { on := 17, ground := Go.Ground.phase }, { on := 18, ground := Go.Ground.phase }, { on := 19, ground := Go.Ground.phase }, { on := 20, ground := Go.Ground.phase }, { on := 21, ground := Go.Ground.phase }, { on := 22, ground := Go.Ground.phase }, { on := 23, ground := Go.Ground.phase }, { on := 24, ground := Go.Ground.phase }, { on := 25, ground := Go.Ground.phase }], guard := none }) (v := ?_) rfl (by kernel_rfl) (by kernel_rfl) (by kernel_rfl) (fun _ _ _ h => h) (Or.inl ⟨by rfl, ?_⟩) (by assumption) ?_
    rotate_left 1
    · (intro w hSw; (try dsimp only at hSw); go_simp; try with_reducible rfl)
    try simp only [Act.put, List.setIfInBounds_toArray, List.set_cons_zero, List.set_cons_succ]
    refine wpAnyH_ready (rs := [27]) (by kernel_rfl) (by simp) ?_
    refine AllReadyH.cons (o := { dst := none, op := Go.Op.store 36 (Go.Operand.tmp 57) (Go.Operand.tmp 55), type := 0, pos := "solve.go:53", after := #[{ on := 26, ground := Go.Ground.data }, { on := 23, ground := Go.Ground.data }, { on := 25, ground := Go.Ground.chain }, { on := 0, ground := Go.Ground.phase }, { on := 1, ground := Go.Ground.phase }, { on := 2, ground := Go.Ground.phase }, { on := 3, ground := Go.Ground.phase }, { on := 4, ground := Go.Ground.phase }, { on := 5, ground := Go.Ground.phase }, { on := 6, ground := Go.Ground.phase }, { on := 7, ground := Go.Ground.phase }, { on := 8, ground := Go.Ground.phase }, { on := 9, ground := Go.Ground.phase }, { on := 10, ground := Go.Ground.phase }, { on := 11, ground := Go.Ground.phase }, { on := 12, ground := Go.Ground.phase }, { on := 13, ground := Go.Ground.phase }, { on := 14, ground := Go.Ground.phase }, { on := 15, ground := Go.Ground.phase }, { on := 16, ground := Go.Ground.phase }, { on := 17, ground := Go.Ground.phase }, { on := 18, ground := Go.Ground.phase }, { on := 19, ground := Go.Ground.phase }, { on := 20, ground := Go.Ground.phase }, { on := 21, ground := Go.Ground.phase }, { on := 22, ground := Go.Ground.phase }, { on := 23, ground := Go.Ground.phase }, { on := 24, ground := Go.Ground.phase }, { on := 25, ground := Go.Ground.phase }], guard := none }) rfl (fun K hK => ?_) AllReadyH.nil
    go_simp
    clear hHeld
    refine hK.out _ _ ?_ (fun hHeld => ?_)
    · ((try dsimp only); first | exact hvb2 | exact sv1 | exact sv2)
    clear hK K
    refine wpAnyH_done (by kernel_rfl) ?_ _
    refine NoPanic.normal ?_
    exact REST _ rfl
  rintro W9 hW9
  go_wp2
  first | go_end0 | ((try simp only [Exit.inBlock, Exit.then]); refine bodyPost_ret (results_none rfl _ _ _) rfl ?_)
  have HW2' := Lib.hid (HW2.out.1.drewN 1)
  change Hid (Grid (World.drew _) _ _ _ _ _ _ _) at HW2'
  rw [← hW9] at HW2'
  have HG9 := Lib.hid (show W.grownBy W9 (some g') by rw [hW9]; exact World.grownBy.trans HW2.out.2 ⟨rfl, rfl, rfl, Nat.le_refl _, fun _ _ _ => rfl⟩)
  refine swap_end HE.out H.out HBK.out HG.out HW1'.out ⟨HW2'.out, HG9.out⟩ hgl hgh hgl' hgh'
end Go.Proofs.Ytojaekhplohbjaa.Sol
/- solve: all other rows brought to nought in a column. -/
namespace Go.Proofs.Ytojaekhplohbjaa.Sol
open Go Go.RowKit Go.Proofs.Ytojaekhplohbjaa.Gi Go.Proofs.Ytojaekhplohbjaa.Gf Go.Proofs.Ytojaekhplohbjaa.Mem Go.Proofs.Ytojaekhplohbjaa.Bits Go.Proofs.Ytojaekhplohbjaa.Rws Go.Proofs.YtojaekhplohbjaaW.PrintWords
set_option linter.unusedVariables false

/-- The first i rows cleared; row t made one. -/
def clrTo (C : Mtx) (t col : Nat) (r : Int) (i : Nat) : Mtx := fun p j => if p = t then gmI (C t j) r else if p < i then xorI (C p j) (gmI (gmI (C t j) r) (C p col)) else C p j
theorem clrTo_byt {C : Mtx} (hC : BytM C) (t col : Nat) {r : Int} (hr : Byt r) (i : Nat) : BytM (clrTo C t col r i) := by
  intro p j
  unfold clrTo
  split
  · exact gmI_byt (hC _ _)
  · split
    · exact xorI_byt (hC _ _) (gmI_byt (gmI_byt (hC _ _)))
    · exact hC _ _
theorem gm0 (a : Int) : gmI a 0 = 0 := by unfold gmI; simp [gm_zero_right]
theorem xor0 {a : Int} (h : Byt a) : xorI a 0 = a := by unfold xorI; have := h.1; simp; omega
theorem clrTo_skip {C : Mtx} (hC : BytM C) (t col : Nat) (r : Int) (i : Nat) (h : i = t ∨ C i col = 0) (p j : Nat) : clrTo C t col r i p j = clrTo C t col r (i + 1) p j := by
  unfold clrTo
  by_cases e : p = t
  · rw [if_pos e, if_pos e]
  · rw [if_neg e, if_neg e]
    by_cases e1 : p < i
    · rw [if_pos e1, if_pos (by omega)]
    · rw [if_neg e1]
      by_cases e2 : p = i
      · subst e2
        rcases h with h | h
        · exact absurd h e
        · rw [if_pos (by omega), h, gm0, xor0 (hC _ _)]
      · rw [if_neg (by omega)]
theorem clrTo_at (C : Mtx) (t col : Nat) (r : Int) (i j : Nat) (h : i ≠ t) : clrTo C t col r i i j = C i j := by unfold clrTo; rw [if_neg h, if_neg (Nat.lt_irrefl i)]
theorem clrTo_t (C : Mtx) (t col : Nat) (r : Int) (i j : Nat) : clrTo C t col r i t j = gmI (C t j) r := by unfold clrTo; rw [if_pos rfl]
theorem clrTo_next (C : Mtx) (t col : Nat) (r : Int) (i p j : Nat) (h : i ≠ t) : (if p = i then xorI (C i j) (gmI (gmI (C t j) r) (C i col)) else clrTo C t col r i p j) = clrTo C t col r (i + 1) p j := by
  unfold clrTo
  by_cases e : p = i
  · subst e
    rw [if_pos rfl, if_neg h, if_pos (by omega)]
  · rw [if_neg e]
    by_cases e1 : p = t
    · rw [if_pos e1, if_pos e1]
    · rw [if_neg e1, if_neg e1]
      by_cases e2 : p < i
      · rw [if_pos e2, if_pos (by omega)]
      · rw [if_neg e2, if_neg (by omega)]
theorem Work.drewN {w : World} {lo mid top p n m q : Nat} {va vb : Value} {Ra Rb : Nat → Value} {C : Mtx} (h : Work w lo mid top p va vb n m q Ra Rb C) (k : Nat) : Work (w.drewN k) lo mid top p va vb n m q Ra Rb C :=
  ⟨h.blk.drewN k, h.ga.drewN k, h.gb.drewN k, h.l1, h.l2, h.l3⟩
set_option maxRecDepth 100000 in
set_option maxHeartbeats 4000000 in
theorem clear_any (lo mid top p n m q t col : Nat) (va vb : Value) (Ra Rb : Nat → Value) (C : Mtx) (w : World) (h : Work w lo mid top p va vb n m q Ra Rb C) (hC : BytM C) (hn : n ≤ 1000) (ht : t < n) (hc : col < m) (hm : m ≤ 1000) (hq1 : 1 ≤ q) (hq : q ≤ 1000) (hz : C t col ≠ 0) :
    ∃ r, Byt r ∧ gmI (C t col) r = 1 ∧ Calls Try.prog 38 #[.pointer (some ⟨p, 0, none⟩), .int .i64 t, .int .i64 col] w fun e w' => e = .returned (.tuple #[]) ∧ Work w' lo mid top p va vb n m q Ra Rb (clrTo C t col r n) ∧ Insd lo top w w' := by
  obtain ⟨r, hr, hr1, IV⟩ := inv_still (C t col) w (hC t col) hz
  refine ⟨r, hr, hr1, ?_⟩
  have HIV := Lib.hid IV
  have HR := Lib.hid hr
  have HC := Lib.hid hC
  obtain ⟨g, cg, rfl, _, hgl, hgh, _⟩ := h.ga.form (by omega)
  obtain ⟨g', cg', rfl, _, hgl', hgh', _⟩ := h.gb.form (by omega)
  obtain ⟨hva, hvb⟩ := h.cells
  obtain ⟨b1, c1, e1, _, l1, l2, _⟩ := h.ga.rform (by omega) t ht
  obtain ⟨b2, c2, e2, _, l3, l4, _⟩ := h.gb.rform (by omega) t ht
  have z1 := (h.ga.head t ht).1
  rw [e1] at z1
  have z2 := (h.ga.elem t ht e1 col hc).1
  have hrow := h.ga.row t ht
  rw [e1] at hrow
  have SC := Lib.hid (scale_any lo b1 c1 m (C t) r w hrow (hC t) hr (by omega))
  have g0 : (0 : Int) ≤ (t : Int) := by omega
  have g1 : (t : Int) < (n : Int) := by omega
  have g2 : (0 : Int) ≤ (col : Int) := by omega
  have g3 : (col : Int) < (m : Int) := by omega
  have H := Lib.hid h
  have E1 := Lib.hid e1
  have E2 := Lib.hid e2
  obtain ⟨y, hy⟩ : ∃ y, y = C t col := ⟨_, rfl⟩
  rw [← hy] at z2 HIV
  clear h hC hr hr1 IV hz hrow e1 e2 hy
  go_enter Try.func38, Try.ntmps38
  go_upto_region 2 with (first
    | (go_at_call 46; (with_reducible refine (HIV.out _).mono ?_); rintro e w' ⟨rfl, hw⟩; obtain rfl := hw.symm)
    | (go_at_call 47; (with_reducible refine SC.out.mono ?_); rintro e w1 ⟨rfl, hr1, hg1⟩; have HR1 := Lib.hid hr1; have HG1 := Lib.hid hg1; clear hr1 hg1))
  have hr1 := HR1.out
  rw [← E1.out] at hr1
  have hw1 := H.out.putA t ht E1.out l1 l2 HG1.out _ hr1
  have HI1 := Lib.hid (Insd.grown HG1.out l1 (show b1 < top by have := H.out.l2; omega))
  clear hr1 hva hvb z1 z2 SC HIV
  obtain ⟨hva, hvb⟩ := hw1.cells
  have z1 := (hw1.gb.head t ht).1
  rw [E2.out] at z1
  have hrow := hw1.gb.row t ht
  rw [E2.out] at hrow
  rw [line_congr q _ (fun j => C t (m + j)) (fun j _ => by show (if t = t then (if m + j < m then _ else C t (m + j)) else _) = _; rw [if_pos rfl, if_neg (by omega)])] at hrow
  have SC := Lib.hid (scale_any mid b2 c2 q (fun j => C t (m + j)) r w1 hrow (fun j => HC.out t (m + j)) HR.out (by omega))
  have HW1 := Lib.hid hw1
  clear hw1 hrow
  go_upto_region 3 with (go_at_call 47; (with_reducible refine SC.out.mono ?_); rintro e w2 ⟨rfl, hr1, hg1⟩; have HR2 := Lib.hid hr1; have HG2 := Lib.hid hg1; clear hr1 hg1)
  have hr2 := HR2.out
  rw [← E2.out] at hr2
  have hw2 := HW1.out.putB t ht E2.out l3 l4 HG2.out _ hr2
  have HW2 := Lib.hid (show Work w2 lo mid top p _ _ n m q Ra Rb (clrTo C t col r 0) from hw2.congr (fun i hi j hj => by
    unfold clrTo
    by_cases e : i = t
    · subst e
      rw [if_pos rfl, if_pos rfl]
      by_cases ej : j < m
      · rw [if_pos ej, if_pos rfl, if_pos ej]
      · rw [if_neg ej, show m + (j - m) = j by omega, if_pos rfl]
    · rw [if_neg e, if_neg e, if_neg e, if_neg (Nat.not_lt_zero i)]))
  have HI2 := Lib.hid (HI1.out.trans (Insd.grown HG2.out (show lo ≤ b2 by have := H.out.l1; omega) l4))
  clear hr2 hw2 hva hvb z1 SC HW1 HI1 HR1 HR2 HG1 HG2
  have hva := HW2.out.cells.1
  go_upto_region 4 with (fail)
  clear hva
  go_loopw [8, 9, 47] (fun _ _ iv wr => ∃ (i : Nat), i ≤ n ∧ iv = .int .i64 i ∧ Hid (Work wr lo mid top p (.slice (some ⟨g, 0, none⟩) n cg) (.slice (some ⟨g', 0, none⟩) n cg') n m q Ra Rb (clrTo C t col r i)) ∧ Hid (Insd lo top w wr)) (fun _ _ iv _ => n - (intOf iv).toNat)
  case atStart => exact ⟨0, by omega, rfl, HW2, HI2⟩
  case round =>
    clear HW2 HI2
    obtain ⟨i, hi, rfl, HW, HI⟩ := hrel
    by_cases hlt : i < n
    · have hva := HW.out.cells.1
      obtain ⟨b3, c3, e3, _, l5, l6, _⟩ := HW.out.ga.rform (by omega) i hlt
      have z3 := (HW.out.ga.head i hlt).1
      rw [e3] at z3
      have z4 := (HW.out.ga.elem i hlt e3 col hc).1
      have E3 := Lib.hid e3
      have g4 : (0 : Int) ≤ (i : Int) := by omega
      have g5 : (i : Int) < (n : Int) := by omega
      clear e3
      by_cases hit : i = t
      · have t1 : ((i : Int) != (t : Int)) = false := by simp; omega
        have HT := Lib.hid hit
        obtain ⟨f, hf⟩ : ∃ f, f = clrTo C t col r i i col := ⟨_, rfl⟩
        rw [← hf] at z4
        clear hit hf
        go_wp2
        go_roundw
        case rel => exact ⟨i + 1, by omega, by go_num, Lib.hid (HW.out.congr (fun p' _ j _ => clrTo_skip HC.out t col r i (.inl HT.out) p' j)), HI⟩
        case measure => simp [intOf]; omega
      · have t1 : ((i : Int) != (t : Int)) = true := by simp; omega
        have HT := Lib.hid hit
        rw [clrTo_at C t col r i col hit] at z4
        clear hit
        by_cases hz : C i col = 0
        · rw [hz] at z4
          have HZ := Lib.hid hz
          clear hz
          go_wp2
          go_roundw
          case rel => exact ⟨i + 1, by omega, by go_num, Lib.hid (HW.out.congr (fun p' _ j _ => clrTo_skip HC.out t col r i (.inr HZ.out) p' j)), HI⟩
          case measure => simp [intOf]; omega
        · have t2 : (C i col != 0) = true := by simp [hz]
          have z5 := (HW.out.ga.head t ht).1
          rw [E1.out] at z5
          have hri := (HW.out.drewN 1).ga.row i hlt
          have hrt := (HW.out.drewN 1).ga.row t ht
          rw [E3.out, line_congr m _ (C i) (fun j _ => clrTo_at C t col r i j HT.out)] at hri
          rw [E1.out, line_congr m _ (fun j => gmI (C t j) r) (fun j _ => clrTo_t C t col r i j)] at hrt
          have HNE := Lib.hid (show b1 ≠ b3 from fun e => HW.out.ga.apart t i ht hlt (fun e => HT.out e.symm) b1 (by rw [E1.out]; rfl) (by rw [E3.out, e]; rfl))
          have SA := Lib.hid (sadd_any lo b3 c3 b1 c1 m (C i) (fun j => gmI (C t j) r) (C i col) (wr.drewN 1) hri hrt HNE.out (HC.out i) (fun j => gmI_byt (HC.out t j)) (HC.out i col) (by omega))
          obtain ⟨rl, hrl⟩ : ∃ rl, rl = line m (fun j => xorI (C i j) (gmI (gmI (C t j) r) (C i col))) := ⟨_, rfl⟩
          rw [← hrl] at SA
          have HRL := Lib.hid hrl
          obtain ⟨f, hf⟩ : ∃ f, f = C i col := ⟨_, rfl⟩
          rw [← hf] at z4 t2 SA
          have HF := Lib.hid hf
          clear hz hri hrt hrl hf
          go_upto_region 8 with (fail)
          refine wp_region_still_tail 15 (by kernel_rfl) (by kernel_rfl) ?_
          change wpStill _ _ (wr.drewN 1) (fun a' => wpList _ _ _ _ a' (wr.drewN 1)) _ _
          simp only [List.take_succ_cons, List.take_zero, List.drop_succ_cons, List.drop_zero]
          iterate 15 still_step
          refine wpStill_nil ?_
          go_upto_region 9 with (go_at_call 48; (with_reducible refine SA.out.mono ?_); rintro e w3 ⟨rfl, hr1, hg1⟩; have HR3 := Lib.hid hr1; have HG3 := Lib.hid hg1; clear hr1 hg1)
          have hr3 := HR3.out
          rw [← E3.out, HRL.out] at hr3
          have hw3 := (HW.out.drewN 1).putA i hlt E3.out l5 l6 HG3.out _ hr3
          have HI3 := Lib.hid ((HI.out.trans (Insd.drewN wr 1)).trans (Insd.grown HG3.out l5 (show b3 < top by have := HW.out.l2; omega)))
          clear hr3 hva z3 z4 z5 SA
          obtain ⟨_, hvb⟩ := hw3.cells
          obtain ⟨b4, c4, e4, _, l7, l8, _⟩ := hw3.gb.rform (by omega) i hlt
          have z6 := (hw3.gb.head i hlt).1
          have z7 := (hw3.gb.head t ht).1
          have hri := (hw3.drewN 1).gb.row i hlt
          have hrt := (hw3.drewN 1).gb.row t ht
          have HN4 := Lib.hid (show b2 ≠ b4 from fun e => hw3.gb.apart t i ht hlt (fun e => HT.out e.symm) b2 (by rw [E2.out]; rfl) (by rw [e4, e]; rfl))
          rw [e4] at z6 hri
          rw [E2.out] at z7 hrt
          rw [line_congr q _ (fun j => C i (m + j)) (fun j _ => by show (if i = i then (if m + j < m then _ else _) else _) = _; rw [if_pos rfl, if_neg (by omega), clrTo_at C t col r i (m + j) HT.out])] at hri
          rw [line_congr q _ (fun j => gmI (C t (m + j)) r) (fun j _ => by show (if t = i then _ else _) = _; rw [if_neg (fun e => HT.out e.symm), clrTo_t C t col r i (m + j)])] at hrt
          have SA := Lib.hid (sadd_any mid b4 c4 b2 c2 q (fun j => C i (m + j)) (fun j => gmI (C t (m + j)) r) f (w3.drewN 1) hri hrt HN4.out (fun j => HC.out i (m + j)) (fun j => gmI_byt (HC.out t (m + j))) (by rw [HF.out]; exact HC.out i col) (by omega))
          obtain ⟨rl2, hrl2⟩ : ∃ rl, rl = line q (fun j => xorI (C i (m + j)) (gmI (gmI (C t (m + j)) r) f)) := ⟨_, rfl⟩
          rw [← hrl2] at SA
          have HRL2 := Lib.hid hrl2
          have HW3 := Lib.hid hw3
          have E4 := Lib.hid e4
          clear hw3 e4 hri hrt hrl2
          refine wp_region_still_tail 15 (by kernel_rfl) (by kernel_rfl) ?_
          change wpStill _ _ (w3.drewN 1) (fun a' => wpList _ _ _ _ a' (w3.drewN 1)) _ _
          simp only [List.take_succ_cons, List.take_zero, List.drop_succ_cons, List.drop_zero]
          iterate 15 still_step
          refine wpStill_nil ?_
          go_wp2_with (go_at_call 48; (with_reducible refine SA.out.mono ?_); rintro e w4 ⟨rfl, hr1, hg1⟩; have HR4 := Lib.hid hr1; have HG4 := Lib.hid hg1; clear hr1 hg1)
          go_roundw
          case rel =>
            have hr4 := HR4.out
            rw [← E4.out, HRL2.out] at hr4
            have hw4 := (HW3.out.drewN 1).putB i hlt E4.out l7 l8 HG4.out _ hr4
            refine ⟨i + 1, by omega, by go_num, Lib.hid (hw4.congr (fun p' hp j hj => ?_)), Lib.hid ((HI3.out.trans (Insd.drewN w3 1)).trans (Insd.grown HG4.out (show lo ≤ b4 by have := HW.out.l1; omega) l8))⟩
            rw [← clrTo_next C t col r i p' j HT.out]
            by_cases ep : p' = i
            · subst ep
              rw [if_pos rfl, if_pos rfl]
              by_cases ej : j < m
              · rw [if_pos ej, if_pos rfl, if_pos ej]
              · rw [if_neg ej, HF.out, show m + (j - m) = j by omega, if_pos rfl]
            · rw [if_neg ep, if_neg ep, if_neg ep]
          case measure => simp [intOf]; omega
    · obtain rfl : i = n := by omega
      go_wp2
      first | go_end0 | ((try simp only [Exit.inBlock, Exit.then]); refine bodyPost_ret (results_none rfl _ _ _) rfl ?_)
      exact ⟨rfl, HW.out, HI.out⟩
end Go.Proofs.Ytojaekhplohbjaa.Sol
/- solve: rows brought to steps. -/
namespace Go.Proofs.Ytojaekhplohbjaa.Sol
open Go Go.RowKit Go.Proofs.Ytojaekhplohbjaa.Gi Go.Proofs.Ytojaekhplohbjaa.Gf Go.Proofs.Ytojaekhplohbjaa.Mem Go.Proofs.Ytojaekhplohbjaa.Bits Go.Proofs.Ytojaekhplohbjaa.Rws Go.Proofs.YtojaekhplohbjaaW.PrintWords
set_option linter.unusedVariables false

theorem swp_step (n : Nat) (C : Mtx) (t k col : Nat) (r : Int) (i : Nat) (hi : i < n) (j : Nat) : clrTo (swpR C t k) t col r n i j = stepI C t k col r i j := by
  have et : ∀ j, swpR C t k t j = C k j := fun j => by
    unfold swpR
    by_cases e : t = k
    · rw [if_pos e, e]
    · rw [if_neg e, if_pos rfl]
  unfold clrTo stepI
  by_cases e : i = t
  · rw [if_pos e, if_pos e, et]
  · rw [if_neg e, if_neg e, if_pos hi, et]
    have es : ∀ j, swpR C t k i j = swapI C t k i j := fun j => by
      unfold swpR swapI
      by_cases e1 : i = k
      · rw [if_pos e1, if_pos e1]
      · rw [if_neg e1, if_neg e, if_neg e1]
    rw [es, es]
theorem swp_byt {C : Mtx} (h : BytM C) (t k : Nat) : BytM (swpR C t k) := by
  intro i j
  unfold swpR
  split
  · exact h _ _
  · split <;> exact h _ _
theorem StepsTo.fill {n : Nat} {M0 M : Mtx} {col : Nat} (h : StepsTo n M0 col n M) : ∀ d, StepsTo n M0 (col + d) n M
  | 0 => h
  | d + 1 => (StepsTo.fill h d).skip (fun j h1 h2 => absurd h1 (by omega))
theorem grown_any {w w' : World} {row : Option Nat} (hg : w.grownBy w' row) (b : Nat) (h : row = none ∨ row = some b) : w.grownBy w' (some b) := by
  rcases h with h | h
  · subst h; exact ⟨hg.os, hg.tape, hg.output, hg.size, fun k hk _ => hg.block k hk (by simp)⟩
  · subst h; exact hg
theorem Work.grow {w w' : World} {lo mid top p n m q e sz k : Nat} {va vb u : Value} {Ra Rb : Nat → Value} {C : Mtx} {xs : List Value} (h : Work w lo mid top p va vb n m q Ra Rb C) (ho : w.ownsRow (p + 1) e sz u k xs) (hg : w.grownBy w' u.ownBlock) :
    Work w' lo mid top p va vb n m q Ra Rb C := by
  rcases hb : u.ownBlock with _ | b
  · exact h.grown (grown_any hg (p + 1) (.inl hb)) (by omega)
  · rw [hb] at hg
    exact h.grown hg (by have := own_base ho b hb; omega)
theorem info_int : (Try.prog.info? 3).map (fun i => (i.zero, i.size, i.bytes)) = some (some (.int .i64 0), 1, 8) := by kernel_rfl
set_option maxRecDepth 100000 in
set_option maxHeartbeats 4000000 in
theorem ssteps_any (lo mid top p n m q : Nat) (va vb : Value) (Ra Rb : Nat → Value) (C0 : Mtx) (w : World) (h : Work w lo mid top p va vb n m q Ra Rb C0) (hC : BytM C0) (hn1 : 1 ≤ n) (hn : n ≤ 1000) (hm1 : 1 ≤ m) (hm : m ≤ 1000) (hq1 : 1 ≤ q) (hq : q ≤ 1000) (hlo : lo ≤ w.heap.size) :
    Calls Try.prog 26 #[.pointer (some ⟨p, 0, none⟩)] w fun e w' => ∃ A c t Ra' Rb' C, e = .returned (.slice A t c) ∧ Work w' lo mid top p va vb n m q Ra' Rb' C ∧ StepsTo n C0 m t C ∧ Below lo w w' := by
  obtain ⟨g, cg, rfl, _⟩ := h.ga.form (by omega)
  have hva := h.cells.1
  obtain ⟨b0, c0, e0, _⟩ := h.ga.rform (by omega) 0 (by omega)
  have z0 := (h.ga.head 0 (by omega)).1
  rw [e0] at z0
  have H := Lib.hid h
  have HC0 := Lib.hid hC
  have t0 : ((n : Int) == 0) = false := by simp; omega
  have g9 : (0 : Int) < (n : Int) := by omega
  have HLO := Lib.hid hlo
  have HPL := Lib.hid h.blk.lt
  clear h hC e0 hlo
  go_enter Try.func26, Try.ntmps26
  go_upto_region 5 with (fail)
  clear hva z0
  go_loopw [3, 4, 5, 6, 20] (fun uv _ _ _ cv wr => ∃ (t col : Nat) (C : Mtx) (Ra Rb : Nat → Value) (u : Value) (cols : List Int), uv = u ∧ cv = .int .i64 col ∧ col ≤ m ∧ t < n ∧ cols.length = t ∧ Hid (wr.ownsRow (p + 1) 3 1 u cols.length (nums .i64 cols)) ∧ Hid (Work wr lo mid top p (.slice (some ⟨g, 0, none⟩) n cg) vb n m q Ra Rb C) ∧ Hid (StepsTo n C0 col t C) ∧ Hid (Below lo w wr)) (fun _ _ _ _ cv _ => m - (intOf cv).toNat)
  case atStart => exact ⟨0, 0, C0, Ra, Rb, _, [], rfl, rfl, by omega, by omega, rfl, Lib.hid (own_nil _ _ _ _), H, Lib.hid .start, Lib.hid (Below.refl _ _)⟩
  case round =>
    clear H
    obtain ⟨t, col, C, Ra, Rb, u, cols, rfl, rfl, hcol, htn, htl, HO, HW, HS, HB⟩ := hrel
    by_cases hlt : col < m
    · obtain ⟨A3, c3, e3⟩ := own_slice HO.out
      subst e3
      rw [htl] at HO ⊢
      have g0 : (0 : Int) ≤ (col : Int) := by omega
      have g1 : (col : Int) < (m : Int) := by omega
      have PV := Lib.hid (pivot_any lo mid top p n m q t col _ vb Ra Rb C wr HW.out hn1 (by omega) (by omega) hlt)
      have HTL := Lib.hid htl
      clear htl
      go_upto_region 9 with (go_at_call 35; (with_reducible refine PV.out.mono ?_); rintro e w1 ⟨r, rfl, hp, hw⟩; obtain rfl := hw.symm; have HP := Lib.hid hp; clear hp)
      clear PV
      rcases HP.out with ⟨er, hzz⟩ | ⟨k, er, htk, hkn, hzk, hnz⟩
      · have HZ := Lib.hid hzz
        have r0 : r < 0 := by omega
        clear er hzz HP
        go_wp2
        go_roundw
        case rel => exact ⟨t, col + 1, C, Ra, Rb, _, cols, rfl, by go_num, by omega, htn, HTL.out, by rw [HTL.out]; exact HO, HW, Lib.hid (HS.out.skip HZ.out), HB⟩
        case measure => simp [intOf]; omega
      · subst er
        have HZ := Lib.hid hzk
        have HN := Lib.hid hnz
        have HBY := Lib.hid (HS.out.byt HC0.out)
        have SW := Lib.hid (swap_any lo mid top p n m q t k _ vb Ra Rb C wr HW.out (by omega) htn hkn hm1 hq1)
        have r0 : ¬ (k : Int) < 0 := by omega
        clear hzk hnz HP
        go_upto_region 11 with (go_at_call 36; (with_reducible refine SW.out.mono ?_); rintro e w1 ⟨rfl, hw1, hi1⟩; have HW1 := Lib.hid hw1; have HI1 := Lib.hid hi1; clear hw1 hi1)
        have hnz2 : swpR C t k t col ≠ 0 := by
          have : swpR C t k t col = C k col := by
            unfold swpR
            by_cases e : t = k
            · rw [if_pos e, e]
            · rw [if_neg e, if_pos rfl]
          rw [this]; exact HN.out
        obtain ⟨r, hr, hr1, CL⟩ := clear_any lo mid top p n m q t col _ vb _ _ _ w1 HW1.out (swp_byt HBY.out t k) hn htn hlt hm hq1 hq hnz2
        have hr1' : gmI (C k col) r = 1 := by
          have : swpR C t k t col = C k col := by
            unfold swpR
            by_cases e : t = k
            · rw [if_pos e, e]
            · rw [if_neg e, if_pos rfl]
          rw [← this]; exact hr1
        have HST := Lib.hid (StepsTo.step HS.out htk hkn HZ.out HN.out hr hr1')
        have HCL := Lib.hid CL
        clear CL hr hr1 hr1' hnz2 SW
        go_upto_region 12 with (go_at_call 38; (with_reducible refine HCL.out.mono ?_); rintro e w2 ⟨rfl, hw2, hi2⟩; have HW2 := Lib.hid (hw2.congr (fun i hi j _ => swp_step n C t k col r i hi j)); have HI2 := Lib.hid (HI1.out.trans hi2); clear hw2 hi2)
        have HO2 := Lib.hid (HI2.out.own HO.out (by have := HW.out.l3; omega))
        have HB2 := Lib.hid (HB.out.trans (HI2.out.below (Nat.le_trans HLO.out HB.out.size)))
        have HPS := Lib.hid HW2.out.blk.lt
        clear HCL HI1 HI2 HW1 HO HW HB
        go_upto_region 13 with (at_builtin; refine print_append_num (w0 := w2) (p + 1) rfl _ _ 48 3 .i64 8 rfl Try.underlying48 info_int (by decide) (.slice A3 t c3) cols (col : Int) rfl rfl (by rw [HTL.out]; exact HO2.out) (Below.refl _ _) (by have := HPS.out; omega) (by have := HTL.out; omega) ?_; intro v3 w3 ho hb hg _; obtain ⟨A4, c4, e4⟩ := own_slice ho; rw [show (cols ++ [(col : Int)]).length = t + 1 by have := HTL.out; simp [this]] at e4 ho; subst e4; have HO3 := Lib.hid ho; have HB3 := Lib.hid (HB2.out.trans (hb.mono (show lo ≤ p + 1 by have := HW2.out.l1; have := HW2.out.l2; have := HW2.out.l3; omega))); have HW3 := Lib.hid (HW2.out.grow HO2.out hg); clear ho hb hg)
        have hva := HW3.out.cells.1
        by_cases hfull : t + 1 = n
        · have tt : ((t : Int) + 1 == (n : Int)) = true := by simp; omega
          have HF := Lib.hid hfull
          clear hfull
          go_wp2
          go_ret
          refine ⟨A4, c4, t + 1, _, _, _, rfl, HW3.out, ?_, HB3.out⟩
          have h1 := HST.out
          have h2 := StepsTo.fill (n := n) (by rw [HF.out] at h1; exact h1) (m - (col + 1))
          rw [show col + 1 + (m - (col + 1)) = m by omega] at h2
          rw [HF.out]; exact h2
        · have tt : ((t : Int) + 1 == (n : Int)) = false := by simp; omega
          have HF := Lib.hid hfull
          clear hfull
          go_wp2
          go_roundw
          case rel => exact ⟨t + 1, col + 1, _, _, _, _, cols ++ [(col : Int)], rfl, by go_num, by omega, by have := HF.out; omega, by have := HTL.out; simp [this], by rw [show (cols ++ [(col : Int)]).length = t + 1 by have := HTL.out; simp [this]]; exact HO3, HW3, HST, HB3⟩
          case measure => simp [intOf]; omega
    · obtain rfl : col = m := by omega
      obtain ⟨A3, c3, e3⟩ := own_slice HO.out
      subst e3
      rw [htl]
      have HTL := Lib.hid htl
      clear htl
      go_wp2
      go_ret
      exact ⟨A3, c3, t, _, _, _, rfl, HW.out, HS.out, HB.out⟩
end Go.Proofs.Ytojaekhplohbjaa.Sol
/- solve: Rank, Steps, Solve, Invert, walked. -/
namespace Go.Proofs.Ytojaekhplohbjaa.Sol
open Go Go.RowKit Go.Proofs.Ytojaekhplohbjaa.Gi Go.Proofs.Ytojaekhplohbjaa.Gf Go.Proofs.Ytojaekhplohbjaa.Mem Go.Proofs.Ytojaekhplohbjaa.Bits Go.Proofs.Ytojaekhplohbjaa.Rws Go.Proofs.YtojaekhplohbjaaW.PrintWords
set_option linter.unusedVariables false

/-- Two matrices side by side. -/
def augM (m : Nat) (A B : Mtx) : Mtx := fun i j => if j < m then A i j else B i (j - m)
theorem augM_byt {m : Nat} {A B : Mtx} (hA : BytM A) (hB : BytM B) : BytM (augM m A B) := by
  intro i j
  unfold augM
  split
  · exact hA _ _
  · exact hB _ _
theorem mat_right (n m : Nat) (C : Mtx) (h1 : 1 ≤ n) (h2 : n ≤ 64) (h3 : 1 ≤ m) (h4 : m ≤ 64) : Mat.RightP (mat n m C) := by
  have e : ((mat n m C).getD 0 []).length = m := by rw [mat_get n m C 0 (by omega), line_len]
  refine ⟨by rw [mat_len]; exact h1, by rw [mat_len]; exact h2, by rw [e]; exact h3, by rw [e]; exact h4, fun l hl => ?_⟩
  obtain ⟨i, _, rfl⟩ := List.mem_map.1 hl
  rw [e, line_len]
theorem mat_bytes (n m : Nat) {C : Mtx} (h : BytM C) : Mat.AllBytes (mat n m C) := by
  intro l hl
  obtain ⟨i, _, rfl⟩ := List.mem_map.1 hl
  exact line_byt m _ (h i)
theorem of_grid (n m lo hi c : Nat) (A : Option Addr) (R : Nat → Value) (C : Mtx) (w : World) (h : Grid w lo hi (.slice A n c) n m R C) (hC : BytM C) (h1 : 1 ≤ n) (h2 : n ≤ 64) (h3 : 1 ≤ m) (h4 : m ≤ 64) :
    Calls Try.prog 8 #[.slice A n c] w fun e w' => ∃ b s cap, e = .returned (.tuple #[.pointer (some ⟨b, 0, none⟩), .int .i64 0]) ∧ Mat.MatIn w' b s n m cap (Mat.flat (mat n m C)) ∧ Below w.heap.size w w' := by
  obtain ⟨hl, hc, hC'⟩ := Kd.R_reads' h.rows
  have e : ((mat n m C).getD 0 []).length = m := by rw [mat_get n m C 0 (by omega), line_len]
  have h := Mat.of_right A c (mat n m C) w w (Below.refl _ _) hC' (mat_right n m C h1 h2 h3 h4) (mat_bytes n m hC) (by omega)
  rw [mat_len, e] at h
  refine h.mono ?_
  rintro e w' ⟨b, s, cap, rfl, hm, hb, _, _⟩
  exact ⟨b, s, cap, rfl, hm, hb⟩
theorem flat_mx (n m : Nat) (C : Mtx) (i j : Nat) (hi : i < n) (hj : j < m) : mx m (Mat.flat (mat n m C)) i j = C i j := by
  unfold mx
  rw [Mat.flat_getD m (mat n m C) (fun l hl => by obtain ⟨q, _, rfl⟩ := List.mem_map.1 hl; exact line_len _ _) i j (by rw [mat_len]; exact hi) hj, mat_get n m C i hi, line_get m _ j hj]
theorem swith_aug (v u : Value) (n m q : Nat) (xs ys : List Int) (w : World) (h : Mat.IsMat w v n m xs) (h' : Mat.IsMat w u n q ys) :
    Calls Try.prog 25 #[v, u] w fun e w' => ∃ mid top p va vb Ra Rb, e = .returned (.pointer (some ⟨p, 0, none⟩)) ∧ Work w' w.heap.size mid top p va vb n m q Ra Rb (augM m (mx m xs) (mx q ys)) ∧ Below w.heap.size w w' :=
  swith_any v u n m q xs ys w h h'
section
variable (b s cap n m : Nat) (xs : List Int) (w : World)
set_option maxRecDepth 100000 in
set_option maxHeartbeats 2000000 in
theorem rank_any (h : Mat.MatIn w b s n m cap xs) :
    Calls Try.prog 13 #[.pointer (some ⟨b, 0, none⟩)] w fun e w' => ∃ t C, e = .returned (.int .i64 (t : Nat)) ∧ StepsTo n (augM m (mx m xs) (mx m xs)) m t C ∧ Below w.heap.size w w' := by
  have WT := Lib.hid (fun W (hB : Below w.heap.size w W) => swith_aug _ _ n m m xs xs W ⟨b, s, cap, rfl, h.below hB⟩ ⟨b, s, cap, rfl, h.below hB⟩)
  have BY := Lib.hid (augM_byt (m := m) (mx_byt (c := m) h.byt) (mx_byt (c := m) h.byt))
  have N1 := Lib.hid (And.intro h.r0 (show n ≤ 1000 by have := h.r1; omega))
  have M1 := Lib.hid (And.intro h.c0 (show m ≤ 1000 by have := h.c1; omega))
  have Q1 := M1
  have HB := Lib.hid (Below.refl w.heap.size w)
  clear h
  go_enter Try.func13, Try.ntmps13
  go_wp2_with (first
  | (go_at_call 25; (with_reducible refine (WT.out _ HB.out).mono ?_); rintro e w1 ⟨mid, top, p, va, vb, Ra, Rb, rfl, hw, hb⟩; have HW := Lib.hid hw; have HS := Lib.hid hb.size; have HBn := Lib.hid (HB.out.trans (hb.mono HB.out.size)); have HL := Lib.hid HB.out.size; clear HB hw hb; have HB := HBn; clear HBn)
  | (go_at_call 26; (with_reducible refine (ssteps_any _ mid top p _ _ _ va vb Ra Rb _ w1 HW.out BY.out N1.out.1 N1.out.2 M1.out.1 M1.out.2 Q1.out.1 Q1.out.2 HS.out).mono ?_); rintro e w2 ⟨A2, c2, t, Ra', Rb', C, rfl, hw2, hst, hb2⟩; have HW2 := Lib.hid hw2; have HST := Lib.hid hst; have HBn := Lib.hid (HB.out.trans (hb2.mono HL.out)); clear HB hw2 hst hb2; have HB := HBn; clear HBn))
  go_ret
  exact ⟨t, C, rfl, HST.out, HB.out⟩
theorem rank_nil :
    Calls Try.prog 13 #[.pointer none] w fun e w' => e = .returned (.int .i64 0) ∧ w' = w := by
  go_enter Try.func13, Try.ntmps13
  go_wp2
  go_ret
  exact ⟨rfl, rfl⟩
set_option maxRecDepth 100000 in
set_option maxHeartbeats 2000000 in
theorem steps_mat (h : Mat.MatIn w b s n m cap xs) :
    Calls Try.prog 9 #[.pointer (some ⟨b, 0, none⟩)] w fun e w' => ∃ t C b' s' cap', e = .returned (.tuple #[.pointer (some ⟨b', 0, none⟩), .int .i64 0]) ∧ StepsTo n (augM m (mx m xs) (mx m xs)) m t C ∧ Mat.MatIn w' b' s' n m cap' (Mat.flat (mat n m C)) ∧ Below w.heap.size w w' := by
  have WT := Lib.hid (fun W (hB : Below w.heap.size w W) => swith_aug _ _ n m m xs xs W ⟨b, s, cap, rfl, h.below hB⟩ ⟨b, s, cap, rfl, h.below hB⟩)
  have BY := Lib.hid (augM_byt (m := m) (mx_byt (c := m) h.byt) (mx_byt (c := m) h.byt))
  have N1 := Lib.hid (And.intro h.r0 (show n ≤ 1000 by have := h.r1; omega))
  have M1 := Lib.hid (And.intro h.c0 (show m ≤ 1000 by have := h.c1; omega))
  have NM := Lib.hid (And.intro h.r1 h.c1)
  have Q1 := M1
  have HB := Lib.hid (Below.refl w.heap.size w)
  clear h
  go_enter Try.func9, Try.ntmps9
  go_upto_region 5 with (first
  | (go_at_call 25; (with_reducible refine (WT.out _ HB.out).mono ?_); rintro e w1 ⟨mid, top, p, va, vb, Ra, Rb, rfl, hw, hb⟩; have HW := Lib.hid hw; have HS := Lib.hid hb.size; have HBn := Lib.hid (HB.out.trans (hb.mono HB.out.size)); have HL := Lib.hid HB.out.size; clear HB hw hb; have HB := HBn; clear HBn)
  | (go_at_call 26; (with_reducible refine (ssteps_any _ mid top p _ _ _ va vb Ra Rb _ w1 HW.out BY.out N1.out.1 N1.out.2 M1.out.1 M1.out.2 Q1.out.1 Q1.out.2 HS.out).mono ?_); rintro e w2 ⟨A2, c2, t, Ra', Rb', C, rfl, hw2, hst, hb2⟩; have HW2 := Lib.hid hw2; have HST := Lib.hid hst; have HBn := Lib.hid (HB.out.trans (hb2.mono HL.out)); clear HB hw2 hst hb2; have HB := HBn; clear HBn))
  have hva := HW2.out.cells.1
  obtain ⟨A3, c3, e3⟩ := own_slice HW2.out.ga.hd
  subst e3
  have OF := Lib.hid (of_grid n m _ _ c3 A3 Ra' C w2 HW2.out.ga (HST.out.byt BY.out) N1.out.1 NM.out.1 M1.out.1 NM.out.2)
  go_wp2_with (go_at_call 8; (with_reducible refine OF.out.mono ?_); rintro e w3 ⟨b', s', cap', rfl, hm, hb⟩; have HM := Lib.hid hm; have HB3 := Lib.hid (HB.out.trans (hb.mono HB.out.size)); clear hm hb)
  go_ret2
  exact ⟨t, C, b', s', cap', rfl, HST.out, HM.out, HB3.out⟩
theorem steps_nil :
    Calls Try.prog 9 #[.pointer none] w fun e w' => e = .returned (.tuple #[.pointer none, .int .i64 1]) ∧ w' = w := by
  go_enter Try.func9, Try.ntmps9
  go_wp2
  go_ret2
  exact ⟨rfl, rfl⟩
end
end Go.Proofs.Ytojaekhplohbjaa.Sol
/- solve: Solve, Invert, Det, walked. -/
namespace Go.Proofs.Ytojaekhplohbjaa.Sol
open Go Go.RowKit Go.Proofs.Ytojaekhplohbjaa.Gi Go.Proofs.Ytojaekhplohbjaa.Gf Go.Proofs.Ytojaekhplohbjaa.Mem Go.Proofs.Ytojaekhplohbjaa.Bits Go.Proofs.Ytojaekhplohbjaa.Rws Go.Proofs.YtojaekhplohbjaaW.PrintWords
set_option linter.unusedVariables false

/-- What Solve tells of matrices that fit. -/
def SolvePost (n q : Nat) (C0 : Mtx) (w : World) (e : Ending) (w' : World) : Prop :=
  Below w.heap.size w w' ∧ ∃ t C, StepsTo n C0 n t C ∧ ((t < n ∧ e = .returned (.tuple #[.pointer none, .int .i64 23])) ∨
    (t = n ∧ ∃ b s cap, e = .returned (.tuple #[.pointer (some ⟨b, 0, none⟩), .int .i64 0]) ∧ Mat.MatIn w' b s n q cap (Mat.flat (mat n q (fun i j => C i (n + j))))))
theorem BytM.shift {C : Mtx} (h : BytM C) (n : Nat) : BytM (fun i j => C i (n + j)) := fun i j => h i (n + j)
theorem size_b (v : Value) (r c : Nat) (xs : List Int) (w : World) (h : Mat.IsMat w v r c xs) :
    Calls Try.prog 27 #[v] w fun e w' => e = .returned (.tuple #[.int .i64 r, .int .i64 c]) ∧ Below w.heap.size w w' := by
  refine (Mat.size_any v r c xs w h).mono ?_
  rintro e w' ⟨rfl, q, rfl⟩
  exact ⟨rfl, pw_below_drewN (Below.refl _ _) q⟩
theorem size_nb (w : World) :
    Calls Try.prog 27 #[.pointer none] w fun e w' => e = .returned (.tuple #[.int .i64 0, .int .i64 0]) ∧ Below w.heap.size w w' := by
  refine (Mat.size_nil w).mono ?_
  rintro e w' ⟨rfl, q, rfl⟩
  exact ⟨rfl, pw_below_drewN (Below.refl _ _) q⟩
section
variable (b s cap b1 s1 cap1 n m k q : Nat) (xs ys : List Int) (w : World)
set_option maxRecDepth 100000 in
set_option maxHeartbeats 2000000 in
theorem solve_good (h : Mat.MatIn w b s n n cap xs) (h' : Mat.MatIn w b1 s1 n q cap1 ys) :
    Calls Try.prog 15 #[.pointer (some ⟨b, 0, none⟩), .pointer (some ⟨b1, 0, none⟩)] w (SolvePost n q (augM n (mx n xs) (mx q ys)) w) := by
  have WT := Lib.hid (fun W (hB : Below w.heap.size w W) => swith_aug _ _ n n q xs ys W ⟨b, s, cap, rfl, h.below hB⟩ ⟨b1, s1, cap1, rfl, h'.below hB⟩)
  have SA := Lib.hid (fun W (hB : Below w.heap.size w W) => size_b _ n n xs W ⟨b, s, cap, rfl, h.below hB⟩)
  have SB := Lib.hid (fun W (hB : Below w.heap.size w W) => size_b _ n q ys W ⟨b1, s1, cap1, rfl, h'.below hB⟩)
  have BY := Lib.hid (augM_byt (m := n) (mx_byt (c := n) h.byt) (mx_byt (c := q) h'.byt))
  have N1 := Lib.hid (And.intro h.r0 (show n ≤ 1000 by have := h.r1; omega))
  have M1 := N1
  have Q1 := Lib.hid (And.intro h'.c0 (show q ≤ 1000 by have := h'.c1; omega))
  have NM := Lib.hid (And.intro h.r1 h'.c1)
  have HB := Lib.hid (Below.refl w.heap.size w)
  have t1 : ((n : Int) != (n : Int)) = false := by simp
  clear h h'
  go_enter Try.func15, Try.ntmps15
  go_wp2_with (first
    | (go_at_call 27; (first | (with_reducible refine (SA.out _ HB.out).mono ?_) | (with_reducible refine (SB.out _ HB.out).mono ?_)); rintro e w0 ⟨rfl, hb⟩; have HBn := Lib.hid (HB.out.trans (hb.mono HB.out.size)); clear HB hb; have HB := HBn; clear HBn)
    | (go_at_call 25; (with_reducible refine (WT.out _ HB.out).mono ?_); rintro e w1 ⟨mid, top, p, va, vb, Ra, Rb, rfl, hw, hb⟩; have HW := Lib.hid hw; have HS := Lib.hid hb.size; have HL := Lib.hid HB.out.size; have HBn := Lib.hid (HB.out.trans (hb.mono HB.out.size)); clear HB hb; have HB := HBn; clear HBn; clear hw)
    | (go_at_call 26; (with_reducible refine (ssteps_any _ mid top p _ _ _ va vb Ra Rb _ w1 HW.out BY.out N1.out.1 N1.out.2 M1.out.1 M1.out.2 Q1.out.1 Q1.out.2 HS.out).mono ?_); rintro e w2 ⟨A2, c2, t, Ra', Rb', C, rfl, hw2, hst, hb2⟩; obtain ⟨A3, c3, e3⟩ := own_slice hw2.gb.hd; subst e3; have hvb := hw2.cells.2; have HW2 := Lib.hid hw2; have HST := Lib.hid hst; have HB3 := Lib.hid (HB.out.trans (hb2.mono HL.out)); clear HB hw2 hst hb2)
    | (go_at_call 8; (with_reducible refine (of_grid n q _ _ c3 A3 Rb' (fun i j => C i (n + j)) _ HW2.out.gb (BytM.shift (HST.out.byt BY.out) n) N1.out.1 NM.out.1 Q1.out.1 NM.out.2).mono ?_); rintro e w3 ⟨b', s', cap', rfl, hm, hb⟩; have HM := Lib.hid hm; have HB4 := Lib.hid (HB3.out.trans (hb.mono HB3.out.size)); clear hm hb))
  · go_ret2
    exact ⟨HB3.out, t, C, HST.out, .inl ⟨by omega, rfl⟩⟩
  · go_ret2
    exact ⟨HB4.out, t, C, HST.out, .inr ⟨by have := HST.out.le; omega, b', s', cap', rfl, HM.out⟩⟩
theorem solve_sizes (h : Mat.MatIn w b s n m cap xs) (h' : Mat.MatIn w b1 s1 k q cap1 ys) (hne : n ≠ m ∨ k ≠ n) :
    Calls Try.prog 15 #[.pointer (some ⟨b, 0, none⟩), .pointer (some ⟨b1, 0, none⟩)] w fun e w' => e = .returned (.tuple #[.pointer none, .int .i64 1]) ∧ Below w.heap.size w w' := by
  have SA := Lib.hid (fun W (hB : Below w.heap.size w W) => size_b _ n m xs W ⟨b, s, cap, rfl, h.below hB⟩)
  have SB := Lib.hid (fun W (hB : Below w.heap.size w W) => size_b _ k q ys W ⟨b1, s1, cap1, rfl, h'.below hB⟩)
  have HB := Lib.hid (Below.refl w.heap.size w)
  have hh : ((n : Int) != (m : Int)) = true ∨ (((n : Int) != (m : Int)) = false ∧ ((k : Int) != (n : Int)) = true) := by
    by_cases e : n = m
    · exact .inr ⟨by simp [e], by rcases hne with h | h; (· exact absurd e h); (· simp; omega)⟩
    · exact .inl (by simp; omega)
  clear h h' hne
  rcases hh with h1 | ⟨h1, h2⟩
  all_goals
    go_enter Try.func15, Try.ntmps15
    go_wp2_with (go_at_call 27; (first | (with_reducible refine (SA.out _ HB.out).mono ?_) | (with_reducible refine (SB.out _ HB.out).mono ?_)); rintro e w0 ⟨rfl, hb⟩; have HBn := Lib.hid (HB.out.trans (hb.mono HB.out.size)); clear HB hb; have HB := HBn; clear HBn)
    go_ret2
    exact ⟨rfl, HB.out⟩
theorem solve_nil (h' : Mat.MatIn w b1 s1 k q cap1 ys) :
    Calls Try.prog 15 #[.pointer none, .pointer (some ⟨b1, 0, none⟩)] w fun e w' => e = .returned (.tuple #[.pointer none, .int .i64 1]) ∧ Below w.heap.size w w' := by
  have SA := Lib.hid (fun W => size_nb W)
  have SB := Lib.hid (fun W (hB : Below w.heap.size w W) => size_b _ k q ys W ⟨b1, s1, cap1, rfl, h'.below hB⟩)
  have HB := Lib.hid (Below.refl w.heap.size w)
  clear h'
  go_enter Try.func15, Try.ntmps15
  go_wp2_with (go_at_call 27; (first | (with_reducible refine (SA.out _).mono ?_) | (with_reducible refine (SB.out _ HB.out).mono ?_)); rintro e w0 ⟨rfl, hb⟩; have HBn := Lib.hid (HB.out.trans (hb.mono HB.out.size)); clear HB hb; have HB := HBn; clear HBn)
  go_ret2
  exact ⟨rfl, HB.out⟩
theorem invert_nil :
    Calls Try.prog 16 #[.pointer none] w fun e w' => e = .returned (.tuple #[.pointer none, .int .i64 1]) ∧ Below w.heap.size w w' := by
  have SA := Lib.hid (fun W => size_nb W)
  have HB := Lib.hid (Below.refl w.heap.size w)
  go_enter Try.func16, Try.ntmps16
  go_wp2_with (go_at_call 27; (with_reducible refine (SA.out _).mono ?_); rintro e w0 ⟨rfl, hb⟩; have HBn := Lib.hid (HB.out.trans (hb.mono HB.out.size)); clear HB hb; have HB := HBn; clear HBn)
  go_ret2
  exact ⟨rfl, HB.out⟩
theorem invert_sizes (h : Mat.MatIn w b s n m cap xs) (hne : n ≠ m) :
    Calls Try.prog 16 #[.pointer (some ⟨b, 0, none⟩)] w fun e w' => e = .returned (.tuple #[.pointer none, .int .i64 1]) ∧ Below w.heap.size w w' := by
  have SA := Lib.hid (fun W (hB : Below w.heap.size w W) => size_b _ n m xs W ⟨b, s, cap, rfl, h.below hB⟩)
  have HB := Lib.hid (Below.refl w.heap.size w)
  have h1 : ((n : Int) != (m : Int)) = true := by simp; omega
  clear h hne
  go_enter Try.func16, Try.ntmps16
  go_wp2_with (go_at_call 27; (with_reducible refine (SA.out _ HB.out).mono ?_); rintro e w0 ⟨rfl, hb⟩; have HBn := Lib.hid (HB.out.trans (hb.mono HB.out.size)); clear HB hb; have HB := HBn; clear HBn)
  go_ret2
  exact ⟨rfl, HB.out⟩
theorem invert_good (h : Mat.MatIn w b s n n cap xs) :
    Calls Try.prog 16 #[.pointer (some ⟨b, 0, none⟩)] w (SolvePost n n (augM n (mx n xs) (mx n (Mat.oneTo n n))) w) := by
  have SA := Lib.hid (fun W (hB : Below w.heap.size w W) => size_b _ n n xs W ⟨b, s, cap, rfl, h.below hB⟩)
  have HH := Lib.hid (fun W (hB : Below w.heap.size w W) => h.below hB)
  have ON := Lib.hid (fun W => Mat.one_good n W h.r0 h.r1)
  have HB := Lib.hid (Below.refl w.heap.size w)
  have h1 : ((n : Int) != (n : Int)) = false := by simp
  clear h
  go_enter Try.func16, Try.ntmps16
  go_upto_region 5 with (first
    | (go_at_call 27; (with_reducible refine (SA.out _ HB.out).mono ?_); rintro e w0 ⟨rfl, hb⟩; have HBn := Lib.hid (HB.out.trans (hb.mono HB.out.size)); clear HB hb; have HB := HBn; clear HBn)
    | (go_at_call 32; (with_reducible refine (ON.out _).mono ?_); rintro e w1 ⟨b1, s1, cap1, rfl, hm, hb, _, _⟩; have HM := Lib.hid hm; have HBn := Lib.hid (HB.out.trans (hb.mono HB.out.size)); clear HB hb; have HB := HBn; clear HBn; clear hm))
  have SG := Lib.hid (solve_good b s cap b1 s1 cap1 n n xs (Mat.oneTo n n) w1 (HH.out _ HB.out) HM.out)
  go_wp2_with (go_at_call 15; (with_reducible refine SG.out.mono ?_); rintro e w2 ⟨hb, t, C, hst, hd⟩; have HST := Lib.hid hst; have HB2 := Lib.hid (HB.out.trans (hb.mono HB.out.size)); clear hst hb; rcases hd with ⟨htn, rfl⟩ | ⟨htn, b', s', cap', rfl, hm⟩)
  · go_ret2
    exact ⟨HB2.out, t, C, HST.out, .inl ⟨htn, rfl⟩⟩
  · go_ret2
    exact ⟨HB2.out, t, C, HST.out, .inr ⟨htn, b', s', cap', rfl, hm⟩⟩
end
/-- What Det comes to, column by column. -/
inductive DetTo (n : Nat) (C0 : Mtx) : Nat → Int → Mtx → Prop
  | start : DetTo n C0 0 1 C0
  | step {col k : Nat} {r d : Int} {C : Mtx} : DetTo n C0 col d C → col ≤ k → k < n → (∀ j, col ≤ j → j < k → C j col = 0) → C k col ≠ 0 → Byt r → gmI (C k col) r = 1 → DetTo n C0 (col + 1) (gmI d (C k col)) (stepI C col k col r)
theorem DetTo.byt {n : Nat} {C0 : Mtx} (h0 : BytM C0) {col : Nat} {d : Int} {C : Mtx} (h : DetTo n C0 col d C) : BytM C ∧ Byt d := by
  induction h with
  | start => exact ⟨h0, ⟨by decide, by decide⟩⟩
  | step _ _ _ _ _ hr _ ih => exact ⟨stepI_byt ih.1 hr, gmI_byt ih.2⟩
/-- What Det tells. -/
def DetPost (n : Nat) (C0 : Mtx) (d : Int) : Prop := (∃ C, DetTo n C0 n d C) ∨ (d = 0 ∧ ∃ col d' C, col < n ∧ DetTo n C0 col d' C ∧ ∀ j, col ≤ j → j < n → C j col = 0)
theorem swp_at (C : Mtx) (t k col : Nat) : swpR C t k t col = C k col := by
  unfold swpR
  by_cases e : t = k
  · rw [if_pos e, e]
  · rw [if_neg e, if_pos rfl]
section
variable (b s cap n m : Nat) (xs : List Int) (w : World)
theorem det_nil :
    Calls Try.prog 19 #[.pointer none] w fun e w' => e = .returned (.tuple #[.int .u8 0, .int .i64 1]) ∧ Below w.heap.size w w' := by
  have SA := Lib.hid (fun W => size_nb W)
  have HB := Lib.hid (Below.refl w.heap.size w)
  go_enter Try.func19, Try.ntmps19
  go_wp2_with (go_at_call 27; (with_reducible refine (SA.out _).mono ?_); rintro e w0 ⟨rfl, hb⟩; have HBn := Lib.hid (HB.out.trans (hb.mono HB.out.size)); clear HB hb; have HB := HBn; clear HBn)
  go_ret2
  exact ⟨rfl, HB.out⟩
theorem det_sizes (h : Mat.MatIn w b s n m cap xs) (hne : n ≠ m) :
    Calls Try.prog 19 #[.pointer (some ⟨b, 0, none⟩)] w fun e w' => e = .returned (.tuple #[.int .u8 0, .int .i64 1]) ∧ Below w.heap.size w w' := by
  have SA := Lib.hid (fun W (hB : Below w.heap.size w W) => size_b _ n m xs W ⟨b, s, cap, rfl, h.below hB⟩)
  have HB := Lib.hid (Below.refl w.heap.size w)
  have h1 : ((n : Int) != (m : Int)) = true := by simp; omega
  clear h hne
  go_enter Try.func19, Try.ntmps19
  go_wp2_with (go_at_call 27; (with_reducible refine (SA.out _ HB.out).mono ?_); rintro e w0 ⟨rfl, hb⟩; have HBn := Lib.hid (HB.out.trans (hb.mono HB.out.size)); clear HB hb; have HB := HBn; clear HBn)
  go_ret2
  exact ⟨rfl, HB.out⟩
set_option maxRecDepth 100000 in
set_option maxHeartbeats 4000000 in
theorem det_good (h : Mat.MatIn w b s n n cap xs) :
    Calls Try.prog 19 #[.pointer (some ⟨b, 0, none⟩)] w fun e w' => ∃ d, e = .returned (.tuple #[.int .u8 d, .int .i64 0]) ∧ DetPost n (augM n (mx n xs) (mx n xs)) d ∧ Below w.heap.size w w' := by
  have WT := Lib.hid (fun W (hB : Below w.heap.size w W) => swith_aug _ _ n n n xs xs W ⟨b, s, cap, rfl, h.below hB⟩ ⟨b, s, cap, rfl, h.below hB⟩)
  have SA := Lib.hid (fun W (hB : Below w.heap.size w W) => size_b _ n n xs W ⟨b, s, cap, rfl, h.below hB⟩)
  have BY := Lib.hid (augM_byt (m := n) (mx_byt (c := n) h.byt) (mx_byt (c := n) h.byt))
  have n1 := h.r0
  have n2 := h.r1
  have HB := Lib.hid (Below.refl w.heap.size w)
  have t1 : ((n : Int) != (n : Int)) = false := by simp
  obtain ⟨C0, hC0⟩ : ∃ C0, C0 = augM n (mx n xs) (mx n xs) := ⟨_, rfl⟩
  rw [← hC0] at WT BY ⊢
  clear h hC0
  go_enter Try.func19, Try.ntmps19
  go_upto_region 7 with (first
    | (go_at_call 27; (with_reducible refine (SA.out _ HB.out).mono ?_); rintro e w0 ⟨rfl, hb⟩; have HBn := Lib.hid (HB.out.trans (hb.mono HB.out.size)); clear HB hb; have HB := HBn; clear HBn)
    | (go_at_call 25; (with_reducible refine (WT.out _ HB.out).mono ?_); rintro e w1 ⟨mid, top, p, va, vb, Ra, Rb, rfl, hw, hb⟩; have HW := Lib.hid hw; have HL := Lib.hid HB.out.size; have HS := Lib.hid hb.size; have HBn := Lib.hid (HB.out.trans (hb.mono HB.out.size)); clear HB hb; have HB := HBn; clear HBn; clear hw))
  obtain ⟨g, cg, eva, _⟩ := HW.out.ga.form (by omega)
  subst eva
  clear SA WT
  obtain ⟨lo, hlo⟩ : ∃ lo, lo = w0.heap.size := ⟨_, rfl⟩
  rw [← hlo] at HW HL HS
  clear hlo
  go_loopw [7, 8, 9, 26] (fun dv _ _ cv wr => ∃ (col : Nat) (d : Int) (C : Mtx) (Ra Rb : Nat → Value), dv = .int .u8 d ∧ cv = .int .i64 col ∧ col ≤ n ∧ Hid (lo ≤ wr.heap.size) ∧ Hid (Work wr lo mid top p (.slice (some ⟨g, 0, none⟩) n cg) vb n n n Ra Rb C) ∧ Hid (DetTo n C0 col d C) ∧ Hid (Below w.heap.size w wr)) (fun _ _ _ cv _ => n - (intOf cv).toNat)
  case atStart => exact ⟨0, 1, C0, Ra, Rb, rfl, rfl, by omega, HS, HW, Lib.hid .start, HB⟩
  case round =>
    clear HS HW HB
    obtain ⟨col, d, C, Ra, Rb, rfl, rfl, hcol, HS, HW, HD, HB⟩ := hrel
    by_cases hlt : col < n
    · have g0 : (0 : Int) ≤ (col : Int) := by omega
      have g1 : (col : Int) < (n : Int) := by omega
      have PV := Lib.hid (pivot_any lo mid top p n n n col col _ vb Ra Rb C wr HW.out n1 (by omega) (by omega) hlt)
      go_upto_region 10 with (go_at_call 35; (with_reducible refine PV.out.mono ?_); rintro e w2 ⟨r, rfl, hp, hw⟩; obtain rfl := hw.symm; have HP := Lib.hid hp; clear hp)
      clear PV
      rcases HP.out with ⟨er, hzz⟩ | ⟨k, er, htk, hkn, hzk, hnz⟩
      · have HZ := Lib.hid hzz
        have r0 : r < 0 := by omega
        clear er hzz HP
        go_wp2
        go_ret2
        exact ⟨0, rfl, .inr ⟨rfl, col, d, C, hlt, HD.out, HZ.out⟩, HB.out⟩
      · subst er
        have HZ := Lib.hid hzk
        have HN := Lib.hid hnz
        have HBY := Lib.hid (HD.out.byt BY.out)
        have SW := Lib.hid (swap_any lo mid top p n n n col k _ vb Ra Rb C wr HW.out (by omega) hlt hkn (by omega) (by omega))
        have r0 : ¬ (k : Int) < 0 := by omega
        clear hzk hnz HP
        go_upto_region 13 with (go_at_call 36; (with_reducible refine SW.out.mono ?_); rintro e w2 ⟨rfl, hw2, hi2⟩; have HW2 := Lib.hid hw2; have HI2 := Lib.hid hi2; clear hw2 hi2)
        have hnz2 : swpR C col k col col ≠ 0 := by rw [swp_at]; exact HN.out
        obtain ⟨r, hr, hr1, CL⟩ := clear_any lo mid top p n n n col col _ vb _ _ _ w2 HW2.out (swp_byt HBY.out.1 col k) (by omega) hlt hlt (by omega) (by omega) (by omega) hnz2
        rw [swp_at] at hr1
        have HST := Lib.hid (DetTo.step HD.out htk hkn HZ.out HN.out hr hr1)
        have HCL := Lib.hid CL
        have hva := HW2.out.cells.1
        obtain ⟨b3, c3, e3, _⟩ := HW2.out.ga.rform (by omega) col hlt
        have z3 := (HW2.out.ga.head col hlt).1
        rw [e3] at z3
        have z4 := (HW2.out.ga.elem col hlt e3 col hlt).1
        rw [swp_at] at z4
        have ML := Lib.hid (fun W => mul_still d (C k col) W HBY.out.2 (HBY.out.1 k col))
        obtain ⟨y, hy⟩ : ∃ y, y = C k col := ⟨_, rfl⟩
        rw [← hy] at z4 ML HST
        clear CL hr hr1 hnz2 SW e3 hy
        go_wp2_with (first
          | (go_at_call 37; (with_reducible refine (ML.out _).mono ?_); rintro e w3 ⟨rfl, hw⟩; obtain rfl := hw.symm)
          | (go_at_call 38; (with_reducible refine HCL.out.mono ?_); rintro e w4 ⟨rfl, hw2, hi2⟩; have HW4 := Lib.hid (hw2.congr (fun i hi j _ => swp_step n C col k col r i hi j)); have HI4 := Lib.hid (HI2.out.trans hi2); clear hw2 hi2))
        go_roundw
        case rel => exact ⟨col + 1, _, _, _, _, rfl, by go_num, by omega, Lib.hid (Nat.le_trans HS.out HI4.out.size), HW4, HST, Lib.hid (HB.out.trans ((HI4.out.below HS.out).mono HL.out))⟩
        case measure => simp [intOf]; omega
    · obtain rfl : col = n := by omega
      go_wp2
      go_ret2
      exact ⟨d, rfl, .inl ⟨C, HD.out⟩, HB.out⟩
end
end Go.Proofs.Ytojaekhplohbjaa.Sol
/- law04: the rows of a matrix; the chapter's example. -/
namespace Go.Proofs.Ytojaekhplohbjaa.Sol
open Go Go.RowKit Go.Proofs.Ytojaekhplohbjaa.Gi Go.Proofs.Ytojaekhplohbjaa.Gf Go.Proofs.Ytojaekhplohbjaa.Mem Go.Proofs.Ytojaekhplohbjaa.Bits Go.Proofs.Ytojaekhplohbjaa.Rws Go.Proofs.YtojaekhplohbjaaW.PrintWords
set_option linter.unusedVariables false

theorem rowsTo_mat {r c : Nat} {xs : List Int} (hl : xs.length = r * c) : Mat.rowsTo c xs r = mat r c (mx c xs) := List.map_congr_left (fun i hi => rowOf_line hl i (by simpa using hi))
set_option maxRecDepth 100000 in
theorem rows4_any (v : Value) (r c : Nat) (xs : List Int) (w : World) (h : Mat.IsMat w v r c xs) :
    Calls Try.prog 11 #[v] w fun e w' => ∃ A c1, e = .returned (.slice A r c1) ∧ r ≤ c1 ∧ Kd.C kRow w' A r (mat r c (mx c xs)) ∧ Below w.heap.size w w' := by
  have hr64 : r ≤ 64 := by obtain ⟨b, s, cap, _, h⟩ := h; exact h.r1
  have hlen : xs.length = r * c := by obtain ⟨b, s, cap, _, h⟩ := h; exact h.len
  have HLN := Lib.hid hlen
  have H := Lib.hid h
  obtain ⟨b, rfl⟩ := h.ptr
  clear h hlen
  go_enter Try.func11, Try.ntmps11
  go_wp2_with (go_at_call 27; refine (Mat.size_any _ _ _ _ _ H.out).mono ?_; rintro e w' ⟨rfl, n, rfl⟩)
  go_loopw [5, 6] (fun u i wr => ∃ (k : Nat), k ≤ r ∧ i = .int .i64 k ∧ Hid (RowsR wr w.heap.size u (Mat.rowsTo c xs k)) ∧ Hid (Below w.heap.size w wr)) (fun _ i _ => r - (intOf i).toNat)
  case atStart => exact ⟨0, by omega, rfl, Lib.hid (Kd.R_nil _ _ _ _ _), Lib.hid (pw_below_drewN (Below.refl _ _) n)⟩
  case round =>
    obtain ⟨k, hk, rfl, HR, HW⟩ := hrel
    by_cases hlt : k < r
    · have h100 : (k : Int) < 100 := by omega
      have HI := Lib.hid (H.out.below HW.out)
      have hpos := Lib.hid (show 0 < c by obtain ⟨_, _, _, _, h⟩ := H.out; exact h.c0)
      have hyl := Lib.hid (show (Mat.rowOf c xs k).length = c by obtain ⟨_, _, _, _, h⟩ := H.out; exact Mat.rowOf_len h.len k hlt)
      have hll := Lib.hid (show (Mat.rowsTo c xs k).length ≤ 1000000 by rw [Mat.rowsTo_len]; omega)
      go_wp2_with (first
        | (go_at_call 28; refine (Mat.row_in _ _ _ _ k _ HI.out hlt).mono ?_; rintro e w1 ⟨u1, rfl, hu, hB⟩; obtain ⟨g, cap', rfl, hg1, hg2⟩ := hu.form hpos.out; have HU := Lib.hid hu; have HB := Lib.hid hB; clear hu hB)
        | (at_builtin; refine Rws.rows_append rfl w.heap.size rfl _ _ rfl _ _ _ g cap' c rfl rfl HR.out HW.out HW.out.size HB.out HU.out hyl.out hg1 hll.out ?_; intro v2 w2 h2 hb2; have H2 := Lib.hid h2; have HB2 := Lib.hid hb2; clear h2 hb2))
      go_roundw
      case rel => exact ⟨k + 1, by omega, by go_num, by rw [Mat.rowsTo_succ]; exact H2, HB2⟩
      case measure => simp [intOf]; omega
    · obtain rfl : k = r := by omega
      obtain ⟨A, c1, e1, hl1, hC1⟩ := Kd.R_reads HR.out
      rw [Mat.rowsTo_len] at e1 hl1 hC1
      rw [rowsTo_mat HLN.out] at hC1
      subst e1
      have HC1 := Lib.hid (And.intro hl1 hC1)
      clear hl1 hC1
      go_wp2
      go_ret
      exact ⟨A, c1, rfl, HC1.out.1, HC1.out.2, HW.out⟩
theorem gmI_one' {r : Int} (h : Byt r) : gmI 1 r = r := by
  have := gmI_comm (a := 1) (b := r) ⟨by decide, by decide⟩ h
  rw [this]; unfold gmI; rw [show (1 : Int).toNat = 1 from rfl, gm_one]; have := h.1; omega
/-- The example's determinant. -/
theorem det_1234 (C0 : Mtx) (h0 : BytM C0) (e00 : C0 0 0 = 1) (e01 : C0 0 1 = 2) (e10 : C0 1 0 = 3) (e11 : C0 1 1 = 4) (d : Int) (h : DetPost 2 C0 d) : d = 2 := by
  have one : ∀ col d C, DetTo 2 C0 col d C → (col = 1 → d = 1 ∧ C 1 1 = 2) ∧ (col = 2 → d = 2) := by
    intro col d C h
    induction h with
    | start => exact ⟨fun h => absurd h (by decide), fun h => absurd h (by decide)⟩
    | @step col k r d C hd hk1 hk2 hz hn hr h1 ih =>
      refine ⟨fun hc => ?_, fun hc => ?_⟩
      · obtain rfl : col = 0 := by omega
        cases hd
        have ek : k = 0 := by
          rcases Nat.eq_zero_or_pos k with e | e
          · exact e
          · have := hz 0 (Nat.le_refl _) e
            rw [e00] at this; exact absurd this (by decide)
        subst ek
        rw [e00] at h1 ⊢
        have er : r = 1 := by rw [← gmI_one' hr]; exact h1
        subst er
        refine ⟨by decide, ?_⟩
        unfold stepI swapI
        simp only [show ¬ (1 : Nat) = 0 by decide, if_false, e01, e10, e11]
        decide
      · obtain rfl : col = 1 := by omega
        obtain ⟨e1, e2⟩ := ih.1 rfl
        obtain rfl : k = 1 := by omega
        rw [e1, e2]; decide
  rcases h with ⟨C, h⟩ | ⟨rfl, col, d', C, hc, h, hz⟩
  · exact (one 2 d C h).2 rfl
  · exfalso
    rcases Nat.eq_zero_or_pos col with e | e
    · subst e
      cases h
      have := hz 0 (Nat.le_refl _) (by omega)
      rw [e00] at this; exact absurd this (by decide)
    · obtain rfl : col = 1 := by omega
      have := hz 1 (Nat.le_refl _) (by omega)
      rw [((one 1 d' C h).1 rfl).2] at this; exact absurd this (by decide)
def litR (g : Nat) (i : Nat) : Value := .slice (some ⟨g + i, 0, none⟩) 2 2
def litM : Mtx := fun i j => 2 * (i : Int) + j + 1
theorem lit_grid (w : World) : Grid (((w.alloc (.cells #[.int .u8 1, .int .u8 2] 5)).alloc (.cells #[.int .u8 3, .int .u8 4] 5)).alloc (.cells #[.slice (some ⟨w.heap.size, 0, none⟩) 2 2, .slice (some ⟨w.heap.size + 1, 0, none⟩) 2 2] 36))
    w.heap.size (w.heap.size + 3) (.slice (some ⟨w.heap.size + 2, 0, none⟩) 2 2) 2 2 (litR w.heap.size) litM := by
  have s1 : (w.alloc (.cells #[.int .u8 1, .int .u8 2] 5)).heap.size = w.heap.size + 1 := by simp
  have s2 : ((w.alloc (.cells #[.int .u8 1, .int .u8 2] 5)).alloc (.cells #[.int .u8 3, .int .u8 4] 5)).heap.size = w.heap.size + 2 := by simp
  refine ⟨?_, fun i hi => ?_, fun i j hi hj hne k hk e => ?_, fun k hk => ?_, fun i hi k hk => ?_⟩
  · have h := World.ownsRow_lit (base := w.heap.size) (e := 36) (size := 1) ((w.alloc (.cells #[.int .u8 1, .int .u8 2] 5)).alloc (.cells #[.int .u8 3, .int .u8 4] 5)) #[.slice (some ⟨w.heap.size, 0, none⟩) 2 2, .slice (some ⟨w.heap.size + 1, 0, none⟩) 2 2] 2 (by omega) (by decide) (by simp)
    rw [s2] at h
    exact h
  · have h1 := (own_lit w w.heap.size 5 .u8 [1, 2] (Nat.le_refl _) (by simp))
    have h2 := (own_lit (w.alloc (.cells #[.int .u8 1, .int .u8 2] 5)) w.heap.size 5 .u8 [3, 4] (by omega) (by simp))
    rw [s1] at h2
    by_cases e : i = 0
    · subst e
      exact (h1.alloc _).alloc _
    · obtain rfl : i = 1 := by omega
      exact h2.alloc _
  · simp only [litR, Value.ownBlock, Option.some.injEq] at hk e
    omega
  · simp only [Value.ownBlock, Option.some.injEq] at hk
    omega
  · simp only [litR, Value.ownBlock, Option.some.injEq] at hk
    omega
theorem litM_byt : BytM (fun i j => if i < 2 ∧ j < 2 then litM i j else 0) := by
  intro i j
  by_cases h : i < 2 ∧ j < 2
  · simp only [if_pos h, litM]; exact ⟨by omega, by omega⟩
  · simp only [if_neg h]; exact byt0
set_option maxRecDepth 100000 in
theorem awake4 (w : World) : Calls Try.prog 7 #[] w fun e w' => e = .returned (.bool true) ∧ Below w.heap.size w w' := by
  have OF := Lib.hid (of_grid 2 2 _ _ 2 _ _ _ _ ((lit_grid w).congr (M' := fun i j => if i < 2 ∧ j < 2 then litM i j else 0) (fun i hi j hj => by rw [if_pos ⟨hi, hj⟩])) litM_byt (by omega) (by omega) (by omega) (by omega))
  have HB := Lib.hid (show Below w.heap.size w (((w.alloc (.cells #[.int .u8 1, .int .u8 2] 5)).alloc (.cells #[.int .u8 3, .int .u8 4] 5)).alloc (.cells #[.slice (some ⟨w.heap.size, 0, none⟩) 2 2, .slice (some ⟨w.heap.size + 1, 0, none⟩) 2 2] 36)) from (((Below.refl _ _).alloc (Nat.le_refl _) _).alloc (by simp) _).alloc (by simp; omega) _)
  obtain ⟨W, hW⟩ : ∃ W, W = (((w.alloc (.cells #[.int .u8 1, .int .u8 2] 5)).alloc (.cells #[.int .u8 3, .int .u8 4] 5)).alloc (.cells #[.slice (some ⟨w.heap.size, 0, none⟩) 2 2, .slice (some ⟨w.heap.size + 1, 0, none⟩) 2 2] 36)) := ⟨_, rfl⟩
  go_enter Try.func7, Try.ntmps7
  go_upto_region 2 with (go_at_call 8; (refine OF.out.mono ?_); rintro e w1 ⟨b, s, cap, rfl, hm, hb⟩; have HM := Lib.hid hm; have HB1 := Lib.hid (HB.out.trans (hb.mono HB.out.size)); clear hm hb)
  have DG := Lib.hid (det_good b s cap 2 _ w1 HM.out)
  go_upto_region 3 with (go_at_call 19; (with_reducible refine DG.out.mono ?_); rintro e w2 ⟨d, rfl, hd, hb⟩; have HD := Lib.hid hd; have HB2 := Lib.hid (HB1.out.trans (hb.mono HB1.out.size)); clear hd hb)
  have hby : BytM (augM 2 (mx 2 (Mat.flat (mat 2 2 (fun i j => if i < 2 ∧ j < 2 then litM i j else 0)))) (mx 2 (Mat.flat (mat 2 2 (fun i j => if i < 2 ∧ j < 2 then litM i j else 0))))) := augM_byt (mx_byt HM.out.byt) (mx_byt HM.out.byt)
  have hat : ∀ i j, i < 2 → j < 2 → augM 2 (mx 2 (Mat.flat (mat 2 2 (fun i j => if i < 2 ∧ j < 2 then litM i j else 0)))) (mx 2 (Mat.flat (mat 2 2 (fun i j => if i < 2 ∧ j < 2 then litM i j else 0)))) i j = litM i j := fun i j hi hj => by
    unfold augM
    rw [if_pos hj, flat_mx 2 2 _ i j hi hj, if_pos ⟨hi, hj⟩]
  have hd2 := det_1234 _ hby (hat 0 0 (by omega) (by omega)) (hat 0 1 (by omega) (by omega)) (hat 1 0 (by omega) (by omega)) (hat 1 1 (by omega) (by omega)) d HD.out
  subst hd2
  clear hby hat
  go_wp2
  go_ret
  exact ⟨rfl, HB2.out⟩
end Go.Proofs.Ytojaekhplohbjaa.Sol
/- The reference's Same: are rows alike? -/
namespace Go.Proofs.Ytojaekhplohbjaa.Rws
open Go Go.RowKit Go.Proofs.Ytojaekhplohbjaa.Mem Go.Proofs.Ytojaekhplohbjaa.Bits Go.Proofs.YtojaekhplohbjaaW.PrintWords
set_option linter.unusedVariables false

theorem getD_mem {ls : List (List Int)} {i : Nat} (hi : i < ls.length) : ls.getD i [] ∈ ls := by
  rw [List.getD_eq_getElem?_getD, List.getElem?_eq_getElem hi, Option.getD_some]
  exact List.getElem_mem _
theorem bytes_getD {ls : List (List Int)} (h : AllBytes ls) (k : Nat) : Bytes (ls.getD k []) := by
  rcases Nat.lt_or_ge k ls.length with hk | hk
  · exact h _ (getD_mem hk)
  · rw [List.getD_eq_getElem?_getD, List.getElem?_eq_none hk]; intro x hx; cases hx
theorem nat8_inj {x y : Int} (h0 : 0 ≤ x ∧ x < 256) (h1 : 0 ≤ y ∧ y < 256) (h : UInt8.ofNat x.toNat = UInt8.ofNat y.toNat) : x = y := by
  have := congrArg UInt8.toNat h
  simp at this
  omega
theorem str_inj : ∀ {xs ys : List Int}, Bytes xs → Bytes ys → (strOfNums xs).data.toList = (strOfNums ys).data.toList → xs = ys := by
  intro xs ys hx hy h
  rw [strOfNums_data, strOfNums_data] at h
  induction xs generalizing ys with
  | nil => cases ys with
    | nil => rfl
    | cons y ys => simp at h
  | cons x xs ih => cases ys with
    | nil => simp at h
    | cons y ys =>
      simp only [List.map_cons, List.cons.injEq] at h
      rw [nat8_inj (hx x (by simp)) (hy y (by simp)) h.1, ih (fun z hz => hx z (by simp [hz])) (fun z hz => hy z (by simp [hz])) h.2]
theorem str_eq {xs ys : List Int} (hx : Bytes xs) (hy : Bytes ys) : ((strOfNums xs).toList == (strOfNums ys).toList) = decide (xs = ys) := by
  by_cases h : xs = ys
  · subst h; simp
  · rw [decide_eq_false h]
    refine beq_eq_false_iff_ne.mpr fun e => h (str_inj hx hy ?_)
    rwa [Go.Lib.toList_data, Go.Lib.toList_data] at e
theorem take_eq_step {a b : List (List Int)} {k : Nat} (h : a.take k = b.take k) (ha : k < a.length) (hb : k < b.length) (he : a.getD k [] = b.getD k []) : a.take (k + 1) = b.take (k + 1) := by
  rw [List.getD_eq_getElem?_getD, List.getD_eq_getElem?_getD, List.getElem?_eq_getElem ha, List.getElem?_eq_getElem hb] at he
  simp only [Option.getD_some] at he
  rw [List.take_succ_eq_append_getElem ha, List.take_succ_eq_append_getElem hb, h, he]

set_option maxRecDepth 100000 in
set_option maxHeartbeats 1000000 in
theorem ref_same (A0 A1 : Option Addr) (c0 c1 : Nat) (a b : List (List Int)) (w : World) (hA : RowsC w A0 a) (hB : RowsC w A1 b) (ba : AllBytes a) (bb : AllBytes b) (la : a.length ≤ 1000000) (lb : b.length ≤ 1000000) :
    Calls Try.prog 10 #[.slice A0 a.length c0, .slice A1 b.length c1] w fun e w' => e = .returned (.bool (decide (a = b))) ∧ ∃ n, w' = w.drewN n := by
  have HA := Lib.hid hA
  have HB := Lib.hid hB
  have BA := Lib.hid ba
  have BB := Lib.hid bb
  clear hA hB ba bb
  obtain ⟨n, hn⟩ : ∃ n, n = a.length := ⟨_, rfl⟩
  obtain ⟨m, hm⟩ : ∃ n, n = b.length := ⟨_, rfl⟩
  rw [← hn] at la ⊢
  rw [← hm] at lb ⊢
  have HN := Lib.hid hn
  have HM := Lib.hid hm
  clear hn hm
  go_enter Try.func10, Try.ntmps10
  go_wp2
  repeat (go_quiet (fail); try go_wp2)
  go_loopw [5] (fun i wr => ∃ (k : Nat), k ≤ n ∧ k ≤ m ∧ i = .int .i64 k ∧ Hid (a.take k = b.take k) ∧ Hid (∃ j, wr = w.drewN j)) (fun i _ => n - (intOf i).toNat)
  case atStart => exact ⟨0, by omega, by omega, rfl, Lib.hid rfl, Lib.hid ⟨0, rfl⟩⟩
  case round =>
    obtain ⟨k, hkn, hkm, rfl, HT, HW⟩ := hrel
    by_cases h1 : k < n
    · by_cases h2 : k < m
      · obtain ⟨ad, A2, k2, rfl, ca, _, ra⟩ := HA.out.get k (by rw [← HN.out]; exact h1)
        obtain ⟨bd, A3, k3, rfl, cb, _, rb⟩ := HB.out.get k (by rw [← HM.out]; exact h2)
        have hs := str_eq (bytes_getD BA.out k) (bytes_getD BB.out k)
        have HC1 := Lib.hid (fun q => Kd.C_string (P := Try.prog) (A := A2) (c := k2) Try.underlying36 Try.underlying5 Try.underlying9 (Kd.C_drewN ra q))
        have HC2 := Lib.hid (fun q => Kd.C_string (P := Try.prog) (A := A3) (c := k3) Try.underlying36 Try.underlying5 Try.underlying9 (Kd.C_drewN rb q))
        have HS := Lib.hid (fun (e : a.getD k [] = b.getD k []) => take_eq_step HT.out (by rw [← HN.out]; exact h1) (by rw [← HM.out]; exact h2) e)
        obtain ⟨j, hw⟩ := HW.out
        have hc1 := HC1.out j
        have hc2 := HC2.out j
        have hd1 := HC1.out (j + 1)
        have hd2 := HC2.out (j + 1)
        rw [← World.drewN_drewN, ← hw] at hd1 hd2
        rw [← hw] at hc1 hc2
        have ca : wr.cell? (ad.add k) = some (.slice A2 (a.getD k []).length k2) := by rw [hw]; exact ca
        have cb : wr.cell? (bd.add k) = some (.slice A3 (b.getD k []).length k3) := by rw [hw]; exact cb
        clear hw
        obtain ⟨x, hx⟩ : ∃ x, x = a.getD k [] := ⟨_, rfl⟩
        obtain ⟨y, hy⟩ : ∃ y, y = b.getD k [] := ⟨_, rfl⟩
        rw [← hx] at ca hs hc1 hd1
        rw [← hy] at cb hs hc2 hd2
        have HX := Lib.hid hx
        have HY := Lib.hid hy
        have p0 : (0 : Int) ≤ (k : Int) := by omega
        have p1 : (k : Int) < (n : Int) := by omega
        have p2 : (k : Int) < (m : Int) := by omega
        clear hx hy ra rb HC1 HC2
        by_cases he : x = y
        · rw [decide_eq_true he] at hs
          have hs2 : ((strOfNums x).toList != (strOfNums y).toList) = false := by simpa [bne] using hs
          have HE := Lib.hid he
          clear he
          go_wp2
          refine wp_region_still_tail 10 (by kernel_rfl) (by kernel_rfl) ?_
          change wpStill _ _ (wr.drewN 1) (fun a' => wpList _ _ _ _ a' (wr.drewN 1)) _ _
          simp only [List.take_succ_cons, List.take_zero, List.drop_succ_cons, List.drop_zero]
          repeat still_step
          refine wpStill_nil ?_
          go_wp2
          go_roundw
          case rel => exact ⟨k + 1, by omega, by omega, by go_num, Lib.hid (HS.out (by rw [← HX.out, ← HY.out]; exact HE.out)), Lib.hid (by obtain ⟨j, hw⟩ := HW.out; rw [hw]; first | exact ⟨_, rfl⟩ | exact ⟨_, World.drewN_drewN _ _ _⟩ | exact ⟨j + 1, rfl⟩)⟩
          case measure => simp [intOf]; omega
        · rw [decide_eq_false he] at hs
          have hs2 : ((strOfNums x).toList != (strOfNums y).toList) = true := by simpa [bne] using hs
          have HE := Lib.hid he
          clear he
          go_wp2
          refine wp_region_still_tail 10 (by kernel_rfl) (by kernel_rfl) ?_
          change wpStill _ _ (wr.drewN 1) (fun a' => wpList _ _ _ _ a' (wr.drewN 1)) _ _
          simp only [List.take_succ_cons, List.take_zero, List.drop_succ_cons, List.drop_zero]
          repeat still_step
          refine wpStill_nil ?_
          go_wp2
          go_ret
          refine ⟨?_, by obtain ⟨j, hw⟩ := HW.out; rw [hw]; first | exact ⟨_, rfl⟩ | exact ⟨_, World.drewN_drewN _ _ _⟩ | exact ⟨j + 1, rfl⟩⟩
          rw [decide_eq_false (fun e => HE.out (by rw [HX.out, HY.out, e]))]
          rfl
      · obtain rfl : k = m := by omega
        go_wp2
        repeat (go_quiet (fail); try go_wp2)
        go_ret
        refine ⟨?_, by obtain ⟨j, hw⟩ := HW.out; rw [hw]; first | exact ⟨_, rfl⟩ | exact ⟨_, World.drewN_drewN _ _ _⟩ | exact ⟨j + 1, rfl⟩⟩
        rw [decide_eq_false (fun e => by have := HN.out; have := HM.out; rw [e] at *; omega)]
        simp; omega
    · obtain rfl : k = n := by omega
      go_wp2
      repeat (go_quiet (fail); try go_wp2)
      go_ret
      refine ⟨?_, by obtain ⟨j, hw⟩ := HW.out; rw [hw]; first | exact ⟨_, rfl⟩ | exact ⟨_, World.drewN_drewN _ _ _⟩ | exact ⟨j + 1, rfl⟩⟩
      by_cases he : k = m
      · subst he
        rw [decide_eq_true (by have h := HT.out; rw [List.take_of_length_le (by rw [← HN.out]; omega), List.take_of_length_le (by rw [← HM.out]; omega)] at h; exact h)]
        simp
      · rw [decide_eq_false (fun e => by have := HN.out; have := HM.out; rw [e] at *; omega)]
        simp; omega
end Go.Proofs.Ytojaekhplohbjaa.Rws
/- May rows be a matrix, a small one: as printed. -/
namespace Go.Proofs.Ytojaekhplohbjaa.Sol
open Go Go.RowKit Go.Proofs.Ytojaekhplohbjaa.Psmall Go.Proofs.Ytojaekhplohbjaa.Bits Go.Proofs.YtojaekhplohbjaaW.PrintWords Go.Proofs.YtojaekhplohbjaaW.PrintLast
set_option linter.unusedVariables false

theorem right_loop (d : Nat) : ∀ (k i : Nat) (ls : List (List Int)), 1 ≤ ls.length → ls.length ≤ 64 → i + d = ls.length → d < k →
    coldframeref03_Right.l0 k ls i = some (decide (∀ l ∈ ls.drop i, l.length = (ls.getD 0 []).length)) := by
  induction d with
  | zero =>
    intro k i ls h0 h1 hd hk
    obtain ⟨k, rfl⟩ : ∃ m, k = m + 1 := ⟨k - 1, by omega⟩
    simp only [coldframeref03_Right.l0]
    rw [if_neg (by omega), List.drop_of_length_le (by omega)]; simp
  | succ d ih =>
    intro k i ls h0 h1 hd hk
    obtain ⟨k, rfl⟩ : ∃ m, k = m + 1 := ⟨k - 1, by omega⟩
    have hi : i < ls.length := by omega
    simp only [coldframeref03_Right.l0]
    have e1 : rd_L1 ls (i : Int) = ls[i] := by simp [rd_L1, hi]
    have e2 : rd_L1 ls 0 = ls.getD 0 [] := by simp [rd_L1]
    rw [if_pos (by omega), if_pos (by omega), if_pos (by omega), e1, e2, show wrap64 ((i : Int) + 1) = ((i + 1 : Nat) : Int) by rw [wrap64_in _ (by omega) (by omega)]; omega, List.drop_eq_getElem_cons hi]
    by_cases hc : ls[i].length = (ls.getD 0 []).length
    · rw [if_pos (by rw [hc]), ih k (i + 1) ls h0 h1 (by omega) (by omega)]
      congr 1
      rw [decide_eq_decide, List.forall_mem_cons]
      exact ⟨fun h => ⟨hc, h⟩, fun h => h.2⟩
    · rw [if_neg (by omega)]
      congr 1
      symm
      rw [decide_eq_false_iff_not, List.forall_mem_cons]
      exact fun h => hc h.1
theorem right_f (k : Nat) (ls : List (List Int)) (hk : 100 ≤ k) : coldframeref03_Right.f k ls = some (decide (Mat.RightP ls)) := by
  obtain ⟨k, rfl⟩ : ∃ m, k = m + 1 := ⟨k - 1, by omega⟩
  have no : ¬ Mat.RightP ls → coldframeref03_Right.j0 (k + 1) ls true = some (decide (Mat.RightP ls)) := by
    intro h
    simp only [coldframeref03_Right.j0]
    rw [if_pos trivial, decide_eq_false h]
  have e2 : rd_L1 ls 0 = ls.getD 0 [] := by simp [rd_L1]
  unfold coldframeref03_Right.f
  rw [e2]
  by_cases h1 : (ls.length : Int) < 1
  · rw [if_pos h1]; exact no (fun h => by have := h.r0; omega)
  rw [if_neg h1]
  by_cases h2 : (ls.length : Int) > 64
  · rw [if_pos h2]; exact no (fun h => by have := h.r1; omega)
  rw [if_neg h2, if_pos (by omega)]
  by_cases h3 : ((ls.getD 0 []).length : Int) < 1
  · rw [if_pos h3]; exact no (fun h => by have := h.c0; omega)
  rw [if_neg h3]
  by_cases h4 : ((ls.getD 0 []).length : Int) > 64
  · rw [show decide (((ls.getD 0 []).length : Int) > 64) = true by simpa using h4]; exact no (fun h => by have := h.c1; omega)
  rw [show decide (((ls.getD 0 []).length : Int) > 64) = false by simpa using h4]
  simp only [coldframeref03_Right.j0]
  rw [if_neg (by decide)]
  have := right_loop ls.length k 0 ls (by omega) (by omega) (by omega) (by omega)
  rw [List.drop_zero] at this
  rw [show (0 : Int) = ((0 : Nat) : Int) from rfl, this]
  congr 1
  rw [decide_eq_decide]
  exact ⟨fun h => ⟨by omega, by omega, by omega, by omega, h⟩, fun h => h.even⟩
/-- A small matrix. -/
def Small4 (ls : List (List Int)) : Prop := Mat.RightP ls ∧ ls.length ≤ 9 ∧ (ls.getD 0 []).length ≤ 9
instance (ls : List (List Int)) : Decidable (Small4 ls) := by unfold Small4; exact inferInstance
theorem small4_f (ls : List (List Int)) : coldframelaw04_small.f 200 ls = some (decide (Small4 ls)) := by
  have e2 : rd_L1 ls 0 = ls.getD 0 [] := by simp [rd_L1]
  unfold coldframelaw04_small.f
  rw [right_f 200 ls (by omega)]
  simp only [bnd]
  by_cases h : Mat.RightP ls
  · rw [if_pos (decide_eq_true h)]
    have := h.r0
    by_cases h9 : (ls.length : Int) ≤ 9
    · rw [if_pos h9, if_pos (by omega), e2]
      congr 1
      rw [decide_eq_decide]
      exact ⟨fun g => ⟨h, by omega, by omega⟩, fun g => by have := g.2.2; omega⟩
    · rw [if_neg h9, decide_eq_false (fun g => h9 (by have := g.2.1; omega))]
  · rw [if_neg (by simp [h]), decide_eq_false (fun g => h g.1)]
theorem small4_calls (A0 : Option Addr) (c0 : Nat) (ls : List (List Int)) (b : Bool) (w : World) (h : Mat.RowsC w A0 ls) (hl : ls.length ≤ c0) (hb : decide (Small4 ls) = b) :
    Calls Try.prog 6 #[.slice A0 ls.length c0] w fun e w' => e = .returned (.bool b) ∧ Below w.heap.size w w' := by
  refine (coldframelaw04_small.calls 200 A0 c0 ls b w h hl (by rw [small4_f, hb])).mono ?_
  rintro e w' ⟨rfl, hd⟩
  refine ⟨rfl, ?_⟩
  first | exact hd | (obtain ⟨nd, rfl⟩ := hd; exact pw_below_drewN (Below.refl _ _) nd)
end Go.Proofs.Ytojaekhplohbjaa.Sol
/- The printed product of the document's answer is the plain one. -/
namespace Go.Proofs.Ytojaekhplohbjaa.BSteps
open Go Go.RowKit Go.Proofs.Ytojaekhplohbjaa.PSteps Go.Proofs.Ytojaekhplohbjaa.Gf Go.Proofs.Ytojaekhplohbjaa.Bits Go.Proofs.YtojaekhplohbjaaW.PrintWords Go.Proofs.YtojaekhplohbjaaW.PrintLast

theorem ref_bit (i : Nat) : ∀ (k n : Nat), n < 9223372036854775808 → i < 64 → i < k → coldframeref02_bit.f k n i = some ((n / 2 ^ i % 2 : Nat) : Int) := by
  induction i with
  | zero =>
    intro k n hn hi hk
    obtain ⟨k, rfl⟩ : ∃ m, k = m + 1 := ⟨k - 1, by omega⟩
    simp only [coldframeref02_bit.f, coldframeref02_bit.l0]
    rw [if_neg (by omega), Int.tmod_eq_emod_of_nonneg (by omega)]
    congr 1; simp
  | succ i ih =>
    intro k n hn hi hk
    obtain ⟨k, rfl⟩ : ∃ m, k = m + 1 := ⟨k - 1, by omega⟩
    simp only [coldframeref02_bit.f, coldframeref02_bit.l0]
    have e1 : wrap64 (Int.tdiv (n : Int) 2) = ((n / 2 : Nat) : Int) := by
      rw [Int.tdiv_eq_ediv_of_nonneg (by omega), wrap64_in _ (by omega) (by omega)]; omega
    have e2 : wrap64 (((i + 1 : Nat) : Int) - 1) = (i : Int) := by rw [wrap64_in _ (by omega) (by omega)]; omega
    rw [if_pos (by omega), e1, e2]
    have := ih k (n / 2) (by omega) (by omega) (by omega)
    simp only [coldframeref02_bit.f] at this
    rw [this, Nat.div_div_eq_div_mul, Nat.pow_succ, Nat.mul_comm 2]

theorem ref_power (i : Nat) : ∀ (k p : Nat), p * 2 ^ i < 9223372036854775808 → i < 64 → i < k → coldframeref02_power.l0 k i p = some ((p * 2 ^ i : Nat) : Int) := by
  induction i with
  | zero =>
    intro k p hp hi hk
    obtain ⟨k, rfl⟩ : ∃ m, k = m + 1 := ⟨k - 1, by omega⟩
    simp only [coldframeref02_power.l0]
    rw [if_neg (by omega)]
    congr 1; simp
  | succ i ih =>
    intro k p hp hi hk
    obtain ⟨k, rfl⟩ : ∃ m, k = m + 1 := ⟨k - 1, by omega⟩
    simp only [coldframeref02_power.l0]
    have hpos : 0 < 2 ^ i := Nat.two_pow_pos i
    have hle : p * 2 ≤ p * 2 ^ (i + 1) := by
      rw [Nat.pow_succ]; exact Nat.mul_le_mul_left p (by omega)
    have e1 : wrap64 ((p : Int) * 2) = ((p * 2 : Nat) : Int) := by
      rw [wrap64_in _ (by omega) (by omega)]; omega
    have e2 : wrap64 (((i + 1 : Nat) : Int) - 1) = (i : Int) := by rw [wrap64_in _ (by omega) (by omega)]; omega
    have e3 : p * 2 * 2 ^ i = p * 2 ^ (i + 1) := by rw [Nat.pow_succ, Nat.mul_assoc, Nat.mul_comm 2]
    rw [if_pos (by omega), e1, e2, ih k (p * 2) (by omega) (by omega) (by omega), e3]

theorem ref_pow2 (i k : Nat) (hi : i < 62) (hk : i < k) : coldframeref02_power.f k i = some ((2 ^ i : Nat) : Int) := by
  unfold coldframeref02_power.f
  have hp : 2 ^ i ≤ 2 ^ 61 := Nat.pow_le_pow_right (by decide) (by omega)
  have := ref_power i k 1 (by omega) (by omega) hk
  simpa using this

theorem ref_down (n : Nat) : ∀ (k p : Nat), n ≤ 7 → p < 2 ^ 15 → 40 ≤ k → coldframeref02_Mul.l1 (k + n) p ((n : Int) + 7) = some ((redA n p % 256 : Nat) : Int) := by
  induction n with
  | zero =>
    intro k p hn hp hk
    obtain ⟨k, rfl⟩ : ∃ m, k = m + 1 := ⟨k - 1, by omega⟩
    simp only [coldframeref02_Mul.l1, redA]
    rw [if_neg (by omega)]
    congr 1
  | succ n ih =>
    intro k p hn hp hk
    rw [show k + (n + 1) = (k + n) + 1 from rfl]
    simp only [coldframeref02_Mul.l1, redA]
    have e0 : ((n + 1 : Nat) : Int) + 7 = ((n + 8 : Nat) : Int) := by omega
    have e1 : wrap64 (((n + 8 : Nat) : Int) - 8) = (n : Int) := by rw [wrap64_in _ (by omega) (by omega)]; omega
    have e2 : wrap64 (((n + 8 : Nat) : Int) - 1) = (n : Int) + 7 := by rw [wrap64_in _ (by omega) (by omega)]; omega
    rw [e0, if_pos (by omega), ref_bit (n + 8) _ p (by omega) (by omega) (by omega)]
    simp only [bnd]
    rw [e1, e2]
    rcases bit01 (p / 2 ^ (n + 8)) with h | h
    · rw [if_neg (by omega), h, Nat.zero_mul, Nat.xor_zero, ih k p (by omega) hp hk]
    · have hq : 2 ^ n ≤ 2 ^ 6 := Nat.pow_le_pow_right (by decide) (by omega)
      have hm : 285 * 2 ^ n ≤ 285 * 2 ^ 6 := Nat.mul_le_mul_left 285 hq
      have hm' : 285 * 2 ^ n < 2 ^ 15 := Nat.lt_of_le_of_lt hm (by decide)
      have e3 : wrap64 (285 * ((2 ^ n : Nat) : Int)) = ((285 * 2 ^ n : Nat) : Int) := by
        show wrap64 (((285 : Nat) : Int) * ((2 ^ n : Nat) : Int)) = _
        rw [← Int.natCast_mul]; exact wrap64_nat _ (Nat.lt_of_lt_of_le hm' (by decide))
      rw [if_pos (by omega), ref_pow2 n _ (by omega) (by omega)]
      simp only [bnd]
      have hx : p ^^^ 285 * 2 ^ n < 2 ^ 15 := Nat.xor_lt_two_pow hp hm'
      rw [e3, xor_i64 p (285 * 2 ^ n) (Nat.lt_of_lt_of_le hp (by decide)) (Nat.lt_of_lt_of_le hm' (by decide)), h, Nat.one_mul, ih k _ (by omega) hx hk]

theorem ref_up (n : Nat) : ∀ (k a b p i : Nat), n + i = 8 → a < 256 → b < 256 → p < 2 ^ 15 → 60 ≤ k →
    coldframeref02_Mul.l0 (k + n) a b p i = some ((redA 7 (clA n (b / 2 ^ i) p (a * 2 ^ i)) % 256 : Nat) : Int) := by
  induction n with
  | zero =>
    intro k a b p i hi ha hb hp hk
    obtain ⟨k, rfl⟩ : ∃ m, k = m + 7 + 1 := ⟨k - 8, by omega⟩
    simp only [coldframeref02_Mul.l0, clA]
    rw [if_neg (by omega)]
    exact ref_down 7 k p (by omega) hp (by omega)
  | succ n ih =>
    intro k a b p i hi ha hb hp hk
    rw [show k + (n + 1) = (k + n) + 1 from rfl]
    simp only [coldframeref02_Mul.l0, clA]
    have e2 : wrap64 ((i : Int) + 1) = ((i + 1 : Nat) : Int) := by rw [wrap64_in _ (by omega) (by omega)]; omega
    have e4 : b / 2 ^ i / 2 = b / 2 ^ (i + 1) := by rw [Nat.div_div_eq_div_mul, Nat.pow_succ]
    have e5 : a * 2 ^ i * 2 = a * 2 ^ (i + 1) := by rw [Nat.pow_succ, Nat.mul_assoc]
    rw [if_pos (by omega), wrap64_nat b (by omega), wrap64_nat a (by omega), ref_bit i _ b (by omega) (by omega) (by omega)]
    simp only [bnd]
    rw [e2, e4, e5]
    rcases bit01 (b / 2 ^ i) with h | h
    · rw [if_neg (by omega), h, Nat.zero_mul, Nat.xor_zero, ih k a b p (i + 1) (by omega) ha hb hp hk]
    · have hq : 2 ^ i ≤ 2 ^ 7 := Nat.pow_le_pow_right (by decide) (by omega)
      have hm : a * 2 ^ i ≤ 255 * 2 ^ 7 := Nat.mul_le_mul (by omega) hq
      have hm' : a * 2 ^ i < 2 ^ 15 := Nat.lt_of_le_of_lt hm (by decide)
      have e3 : wrap64 ((a : Int) * ((2 ^ i : Nat) : Int)) = ((a * 2 ^ i : Nat) : Int) := by
        rw [← Int.natCast_mul]; exact wrap64_nat _ (Nat.lt_of_lt_of_le hm' (by decide))
      rw [if_pos (by omega), ref_pow2 i _ (by omega) (by omega)]
      simp only [bnd]
      have hx : p ^^^ a * 2 ^ i < 2 ^ 15 := Nat.xor_lt_two_pow hp hm'
      rw [e3, xor_i64 p (a * 2 ^ i) (Nat.lt_of_lt_of_le hp (by decide)) (Nat.lt_of_lt_of_le hm' (by decide)), h, Nat.one_mul, ih k a b _ (i + 1) (by omega) ha hb hx hk]

theorem ref_mul (k a b : Nat) (ha : a < 256) (hb : b < 256) (hk : 68 ≤ k) : coldframeref02_Mul.f k a b = some ((gm a b : Nat) : Int) := by
  unfold coldframeref02_Mul.f
  obtain ⟨k, rfl⟩ : ∃ m, k = m + 8 := ⟨k - 8, by omega⟩
  have h := ref_up 8 k a b 0 0 (by omega) ha hb (by omega) (by omega)
  have h1 := ref_eq a b ha hb
  have h2 := gm_lt a b ha
  simp only [Nat.pow_zero, Nat.div_one, Nat.mul_one, h1, Nat.mod_eq_of_lt h2] at h
  exact h
end Go.Proofs.Ytojaekhplohbjaa.BSteps
/- Steps: the document's times, plus and Inv, as printed. -/
namespace Go.Proofs.Ytojaekhplohbjaa.Sol
open Go Go.RowKit Go.Proofs.Ytojaekhplohbjaa.PSteps Go.Proofs.Ytojaekhplohbjaa.BSteps Go.Proofs.Ytojaekhplohbjaa.Gf Go.Proofs.Ytojaekhplohbjaa.Gi Go.Proofs.Ytojaekhplohbjaa.Bits Go.Proofs.Ytojaekhplohbjaa.Rws Go.Proofs.YtojaekhplohbjaaW.PrintWords Go.Proofs.YtojaekhplohbjaaW.PrintLast
set_option linter.unusedVariables false

/-- The first i by f, the others nought. -/
def upto (m : Nat) (f : Nat → Int) (i : Nat) : List Int := line m (fun j => if j < i then f j else 0)
theorem upto_zero (m : Nat) (f : Nat → Int) : upto m f 0 = List.replicate m 0 := by
  rw [← line_zero]; exact line_congr m _ _ (fun j _ => by rw [if_neg (Nat.not_lt_zero j)])
theorem upto_full (m : Nat) (f : Nat → Int) : upto m f m = line m f := line_congr m _ _ (fun j hj => by rw [if_pos hj])
theorem upto_len (m : Nat) (f : Nat → Int) (i : Nat) : (upto m f i).length = m := line_len _ _
theorem upto_set (m : Nat) (f : Nat → Int) (i : Nat) (hi : i < m) : (upto m f i).set i (f i) = upto m f (i + 1) := by
  unfold upto
  rw [line_set m _ i hi]
  refine line_congr m _ _ (fun k hk => ?_)
  by_cases e : k = i
  · subst e; rw [if_pos rfl, if_pos (by omega)]
  · rw [if_neg e]
    by_cases h : k < i
    · rw [if_pos h, if_pos (by omega)]
    · rw [if_neg h, if_neg (by omega)]
theorem rd_line (m : Nat) (f : Nat → Int) (i : Nat) (hi : i < m) : rd (line m f) (i : Int) = f i := by
  have h := line_get m f i hi
  simpa [rd, List.getD_eq_getElem?_getD] using h
theorem inc (i : Nat) (h : i < 1000000) : wrap64 ((i : Int) + 1) = ((i + 1 : Nat) : Int) := by rw [wrap64_in _ (by omega) (by omega)]; omega
theorem mulI (k : Nat) (a b : Int) (ha : Byt a) (hb : Byt b) (hk : 68 ≤ k) : coldframeref02_Mul.f k a b = some (gmI a b) := by
  obtain ⟨x, hx, rfl⟩ := byt_nat ha
  obtain ⟨y, hy, rfl⟩ := byt_nat hb
  rw [ref_mul k x y hx hy hk]; simp [gmI]
theorem times_loop (m : Nat) (hm : m ≤ 1000) (f : Nat → Int) (x : Int) (hf : ∀ i, Byt (f i)) (hx : Byt x) (d : Nat) : ∀ (k i : Nat), i + d = m → 100 + d ≤ k → coldframeref04_times.l0 k (line m f) x (upto m (fun i => gmI (f i) x) i) (i : Int) = some (line m (fun i => gmI (f i) x)) := by
  induction d with
  | zero =>
    intro k i hi hk
    obtain ⟨k, rfl⟩ : ∃ q, k = q + 1 := ⟨k - 1, by omega⟩
    obtain rfl : i = m := by omega
    simp only [coldframeref04_times.l0]
    rw [line_len, if_neg (by omega), upto_full]
  | succ d ih =>
    intro k i hi hk
    obtain ⟨k, rfl⟩ : ∃ q, k = q + 1 := ⟨k - 1, by omega⟩
    simp only [coldframeref04_times.l0]
    rw [line_len, if_pos (by omega), if_pos (by omega), rd_line m f i (by omega), mulI k _ _ (hf i) hx (by omega), Option.bind_some, upto_len, if_pos (by omega), Int.toNat_natCast, upto_set m (fun i => gmI (f i) x) i (by omega), inc i (by omega)]
    exact ih k (i + 1) (by omega) (by omega)
theorem times_f (m : Nat) (hm : m ≤ 1000) (f : Nat → Int) (x : Int) (hf : ∀ i, Byt (f i)) (hx : Byt x) : coldframeref04_times.f 2000 (line m f) x = some (line m (fun i => gmI (f i) x)) := by
  unfold coldframeref04_times.f
  rw [line_len, if_pos (by omega), if_pos (by omega), Int.toNat_natCast, ← upto_zero m (fun i => gmI (f i) x)]
  exact times_loop m hm f x hf hx m 2000 0 (by omega) (by omega)
theorem plus_loop (m : Nat) (hm : m ≤ 1000) (f g : Nat → Int) (hf : ∀ i, Byt (f i)) (hg : ∀ i, Byt (g i)) (d : Nat) : ∀ (k i : Nat), i + d = m → 100 + d ≤ k → coldframeref04_plus.l0 k (line m f) (line m g) (upto m (fun i => xorI (f i) (g i)) i) (i : Int) = some (line m (fun i => xorI (f i) (g i))) := by
  induction d with
  | zero =>
    intro k i hi hk
    obtain ⟨k, rfl⟩ : ∃ q, k = q + 1 := ⟨k - 1, by omega⟩
    obtain rfl : i = m := by omega
    simp only [coldframeref04_plus.l0]
    rw [line_len, if_neg (by omega), upto_full]
  | succ d ih =>
    intro k i hi hk
    obtain ⟨k, rfl⟩ : ∃ q, k = q + 1 := ⟨k - 1, by omega⟩
    simp only [coldframeref04_plus.l0]
    rw [line_len, if_pos (by omega), if_pos (by omega), line_len, if_pos (by omega), upto_len, if_pos (by omega), rd_line m f i (by omega), rd_line m g i (by omega), xor_bits (hf i) (hg i), Int.toNat_natCast, upto_set m (fun i => xorI (f i) (g i)) i (by omega), inc i (by omega)]
    exact ih k (i + 1) (by omega) (by omega)
theorem plus_f (m : Nat) (hm : m ≤ 1000) (f g : Nat → Int) (hf : ∀ i, Byt (f i)) (hg : ∀ i, Byt (g i)) : coldframeref04_plus.f 2000 (line m f) (line m g) = some (line m (fun i => xorI (f i) (g i))) := by
  unfold coldframeref04_plus.f
  rw [line_len, if_pos (by omega), if_pos (by omega), Int.toNat_natCast, ← upto_zero m (fun i => xorI (f i) (g i))]
  exact plus_loop m hm f g hf hg m 2000 0 (by omega) (by omega)
theorem inv_loop (a : Int) (ha : Byt a) (d : Nat) : ∀ (k b : Nat), b + d = 256 → (∃ j : Nat, b ≤ j ∧ j < 256 ∧ gmI a j = 1) → 100 + d ≤ k → ∃ r, Byt r ∧ gmI a r = 1 ∧ coldframeref02_Inv.l0 k a (b : Int) = some r := by
  induction d with
  | zero => intro k b hb ⟨j, h1, h2, _⟩; omega
  | succ d ih =>
    intro k b hb hj hk
    obtain ⟨k, rfl⟩ : ∃ q, k = q + 1 := ⟨k - 1, by omega⟩
    simp only [coldframeref02_Inv.l0]
    have e : ((b : Int) % 256) = (b : Int) := by omega
    rw [if_pos (by omega), e, mulI k a b ha ⟨by omega, by omega⟩ (by omega), Option.bind_some]
    by_cases h1 : gmI a b = 1
    · rw [if_pos h1]; exact ⟨_, ⟨by omega, by omega⟩, h1, rfl⟩
    · rw [if_neg h1, inc b (by omega)]
      obtain ⟨j, j1, j2, j3⟩ := hj
      have hne : j ≠ b := fun e => h1 (by rw [← e]; exact j3)
      exact ih k (b + 1) (by omega) ⟨j, by omega, j2, j3⟩ (by omega)
theorem inv_f (a : Int) (ha : Byt a) (h0 : a ≠ 0) : ∃ r, Byt r ∧ gmI a r = 1 ∧ coldframeref02_Inv.f 2000 a = some r := by
  obtain ⟨x, hx, rfl⟩ := byt_nat ha
  refine inv_loop x ha 255 2000 1 rfl ⟨ginv x, ?_, ginv_lt x hx, ?_⟩ (by omega)
  · rcases Nat.eq_zero_or_pos (ginv x) with h | h
    · have := gm_inv x hx (by omega)
      rw [h, gm_zero_right] at this
      cases this
    · exact h
  · simp only [gmI, Int.toNat_natCast, gm_inv x hx (by omega)]; rfl
theorem times_any (m c0 : Nat) (A : Option Addr) (f : Nat → Int) (x : Int) (w : World) (hC : (Kd.int .u8).C w A m (line m f)) (hf : ∀ i, Byt (f i)) (hx : Byt x) (hc : m ≤ c0) (hm : m ≤ 1000) :
    Calls Try.prog 29 #[.slice A m c0, .int .u8 x] w fun e w' => ∃ A' c', e = .returned (.slice A' m c') ∧ Kd.R (Kd.int .u8) 5 w' w.heap.size (fun _ => True) (.slice A' m c') (line m (fun i => gmI (f i) x)) ∧ Below w.heap.size w w' := by
  have h := coldframeref04_times.calls 2000 A c0 (line m f) x _ w (by rw [line_len]; exact hC) (by rw [line_len]; exact hc) (times_f m hm f x hf hx)
  rw [line_len] at h
  refine h.mono ?_
  rintro e w' ⟨v, rfl, hR, hB⟩
  obtain ⟨A', c', rfl⟩ := Kd.R_slice hR
  rw [line_len] at hR ⊢
  exact ⟨A', c', rfl, hR, hB⟩
theorem plus_any (m c0 c1 : Nat) (A A1 : Option Addr) (f g : Nat → Int) (w : World) (hC : (Kd.int .u8).C w A m (line m f)) (hC1 : (Kd.int .u8).C w A1 m (line m g)) (hf : ∀ i, Byt (f i)) (hg : ∀ i, Byt (g i)) (hc : m ≤ c0) (hc1 : m ≤ c1) (hm : m ≤ 1000) :
    Calls Try.prog 31 #[.slice A m c0, .slice A1 m c1] w fun e w' => ∃ A' c', e = .returned (.slice A' m c') ∧ Kd.R (Kd.int .u8) 5 w' w.heap.size (fun _ => True) (.slice A' m c') (line m (fun i => xorI (f i) (g i))) ∧ Below w.heap.size w w' := by
  have h := coldframeref04_plus.calls 2000 A c0 (line m f) A1 c1 (line m g) _ w (by rw [line_len]; exact hC) (by rw [line_len]; exact hc) (by rw [line_len]; exact hC1) (by rw [line_len]; exact hc1) (plus_f m hm f g hf hg)
  rw [line_len, line_len] at h
  refine h.mono ?_
  rintro e w' ⟨v, rfl, hR, hB⟩
  obtain ⟨A', c', rfl⟩ := Kd.R_slice hR
  rw [line_len] at hR ⊢
  exact ⟨A', c', rfl, hR, hB⟩
theorem inv_any (a : Int) (ha : Byt a) (h0 : a ≠ 0) : ∃ r, Byt r ∧ gmI a r = 1 ∧ ∀ w, Calls Try.prog 30 #[.int .u8 a] w fun e w' => e = .returned (.int .u8 r) ∧ Below w.heap.size w w' := by
  obtain ⟨r, h1, h2, h3⟩ := inv_f a ha h0
  refine ⟨r, h1, h2, fun w => (coldframeref02_Inv.calls 2000 a r w h3).mono ?_⟩
  rintro e w' ⟨rfl, hD⟩
  obtain ⟨n, rfl⟩ := hD.out
  exact ⟨rfl, pw_below_drewN (Below.refl _ _) n⟩
end Go.Proofs.Ytojaekhplohbjaa.Sol
/- Steps: the document's, walked: first the copy. -/
namespace Go.Proofs.Ytojaekhplohbjaa.Sol
open Go Go.RowKit Go.Proofs.Ytojaekhplohbjaa.PSteps Go.Proofs.Ytojaekhplohbjaa.BSteps Go.Proofs.Ytojaekhplohbjaa.Gf Go.Proofs.Ytojaekhplohbjaa.Gi Go.Proofs.Ytojaekhplohbjaa.Bits Go.Proofs.Ytojaekhplohbjaa.Mem Go.Proofs.Ytojaekhplohbjaa.Rws Go.Proofs.YtojaekhplohbjaaW.PrintWords Go.Proofs.YtojaekhplohbjaaW.PrintLast
set_option linter.unusedVariables false

theorem rowq {W : World} {base b1 g n m cap q t k col : Nat} {M : Mtx} {r : Int} {A6 : Option Addr} {c6 : Nat} (h : RowsR W base (.slice (some ⟨g, 0, none⟩) n cap) (mat n m (fun p => if p < q then stepI M t k col r p else if p = t then (fun j => gmI (M k j) r) else swapI M t k p))) (hq : q < n) (hqt : ¬ q = t)
    (hR : (Kd.int .u8).R 5 W b1 (fun _ => True) (.slice A6 m c6) (line m (fun j => xorI (swapI M t k q j) (gmI (gmI (M k j) r) (swapI M t k q col))))) (hb : base ≤ b1) (hg : g < b1) :
    RowsR (W.setCell ⟨g, q, none⟩ (.slice A6 m c6)) base (.slice (some ⟨g, 0, none⟩) n cap) (mat n m (fun p => if p < q + 1 then stepI M t k col r p else if p = t then (fun j => gmI (M k j) r) else swapI M t k p)) := by
  have h1 := rput h q hq (.slice A6 m c6) _ (fun p => some p = (Value.slice A6 m c6).ownBlock) (row_M (Kd.own_of_R hR) hb rfl) (fun p hp => by
    have := Kd.R_base hR p hp.symm
    omega)
  rw [mat_set n m _ q hq] at h1
  rw [mat_congr n m _ (fun p => if p = q then (fun j => xorI (swapI M t k q j) (gmI (gmI (M k j) r) (swapI M t k q col))) else if p < q then stepI M t k col r p else if p = t then (fun j => gmI (M k j) r) else swapI M t k p) (fun p hp j hj => ?_)]
  · exact h1
  · by_cases e : p = q
    · subst e
      rw [if_pos (by omega), if_pos rfl]
      unfold stepI
      rw [if_neg hqt]
    · rw [if_neg e]
      by_cases h1 : p < q
      · rw [if_pos (by omega), if_pos h1]
      · rw [if_neg (by omega), if_neg h1]
theorem setx {W : World} {base b1 g n cap : Nat} {ls : List (List Int)} {v : Value} {xs : List Int} (hR : (Kd.int .u8).R 5 W b1 (fun _ => True) v xs) (h : RowsR W base (.slice (some ⟨g, 0, none⟩) n cap) ls) (q : Nat) (u : Value) : (Kd.int .u8).R 5 (W.setCell ⟨g, q, none⟩ u) b1 (fun _ => True) v xs := by
  obtain ⟨cur, hh⟩ := (rblk h).2
  exact Kd.R_set hR hh (by decide) q u
set_option maxRecDepth 100000 in
set_option maxHeartbeats 4000000 in
theorem steps_any (n m c0 : Nat) (A : Option Addr) (M0 : Mtx) (w : World) (hC : Kd.C kRow w A n (mat n m M0)) (h0 : BytM M0) (hn1 : 1 ≤ n) (hn : n ≤ 1000) (hm1 : 1 ≤ m) (hm : m ≤ 1000) :
    Calls Try.prog 12 #[.slice A n c0] w fun e w' => ∃ u t M, e = .returned u ∧ RowsR w' w.heap.size u (mat n m M) ∧ StepsTo n M0 m t M ∧ Below w.heap.size w w' := by
  have HC := Lib.hid (fun W (hB : Below w.heap.size w W) => Kd.C_below hC hB)
  have H0 := Lib.hid h0
  clear hC h0
  go_enter Try.func12, Try.ntmps12
  go_wp2
  go_loopw [3, 4] (fun u0 iv wr => ∃ (i : Nat) (u : Value), u0 = u ∧ i ≤ n ∧ iv = .int .i64 i ∧ Hid (RowsR wr w.heap.size u (mat i m M0)) ∧ Hid (Below w.heap.size w wr)) (fun _ iv _ => n - (intOf iv).toNat)
  case atStart => exact ⟨0, _, rfl, by omega, rfl, Lib.hid (Kd.R_nil _ _ _ _ _), Lib.hid (Below.refl _ _)⟩
  case round =>
    obtain ⟨i, u, rfl, hi, rfl, HO, HB⟩ := hrel
    by_cases hlt : i < n
    · obtain ⟨ad, A1, c1, rfl, hcell, _, hC1⟩ := mrow (HC.out _ HB.out) i hlt
      have HR1 := Lib.hid (Kd.reads_of_C (d := (0 : Int)) hC1)
      have HL0 := Lib.hid (show (wr.alloc (.cells #[] 5)).ownsRow wr.heap.size 5 1 (.slice (some ⟨wr.heap.size, 0, none⟩) 0 0) ([] : List Int).length (nums .u8 []) from own_lit wr wr.heap.size 5 .u8 [] (Nat.le_refl _) (by simp))
      have g1 : (i : Int) < (n : Int) := by omega
      have g2 : (0 : Int) ≤ (i : Int) := by omega
      have hl := line_len m (M0 i)
      obtain ⟨xs, hxs⟩ : ∃ xs, xs = line m (M0 i) := ⟨_, rfl⟩
      rw [← hxs] at HR1 hl
      have HXS := Lib.hid hxs
      have hcella := pw_cell_below (((Below.refl wr.heap.size wr).alloc (Nat.le_refl _) (.cells #[] 5))) hcell
      clear hC1 hxs
      go_wp2_with (first
        | (at_builtin; refine print_append_row (w0 := wr) wr.heap.size rfl _ _ 36 5 .u8 1 rfl Try.underlying36 info_byte (by decide) _ [] xs _ _ _ rfl rfl HL0.out (ReadsInt.allocS HR1.out _) ((Below.refl _ _).alloc (Nat.le_refl _) _) (by simp) (by simp; omega) ?_; intro v1 w1 ho hb _ _; obtain ⟨A9, c9, rfl⟩ := own_slice ho; have HOW := Lib.hid (clone_R ho hl); have HB1 := Lib.hid hb; clear ho hb)
        | (at_builtin; refine rows_append2 (w0 := w) (wr := wr) rfl w.heap.size rfl _ _ rfl u3 _ (mat i m M0) _ rfl rfl HO.out (HB.out.trans (HB1.out.mono HB.out.size)) HB.out.size HB1.out HOW.out (by rw [mat_len]; omega) ?_; intro v5 w5 h5 hb5; have H5 := Lib.hid h5; have HB5 := Lib.hid hb5; clear h5 hb5))
      go_roundw
      case rel => exact ⟨i + 1, _, rfl, by omega, by go_num, Lib.hid (by rw [mat_succ, ← HXS.out]; exact H5.out), HB5⟩
      case measure => simp [intOf]; omega
    · obtain rfl : i = n := by omega
      obtain ⟨g, cO, hv, hgb, _, _⟩ := Kd.R_form HO.out (by rw [mat_len]; exact hn1)
      rw [mat_len] at hv
      subst hv
      have HGB := Lib.hid hgb
      clear hgb
      go_wp2
      go_loopw [5, 6, 7, 8, 9] (fun tv cv _ _ _ wr => ∃ (t col : Nat) (M : Mtx), tv = .int .i64 t ∧ cv = .int .i64 col ∧ col ≤ m ∧ Hid (StepsTo i M0 col t M) ∧ Hid (RowsR wr w.heap.size (.slice (some ⟨g, 0, none⟩) i cO) (mat i m M)) ∧ Hid (Below w.heap.size w wr)) (fun _ cv _ _ _ _ => m - (intOf cv).toNat)
      case atStart => exact ⟨0, 0, M0, rfl, rfl, by omega, Lib.hid .start, HO, HB⟩
      case round =>
        clear HO HB
        obtain ⟨t, col, M, rfl, rfl, hcol, HS, HO, HB⟩ := hrel
        have hCO := (Kd.R_reads' HO.out).2.2
        rw [mat_len] at hCO
        obtain ⟨ad0, A1, c1, e0, hc0, _, _⟩ := mrow hCO 0 (by omega)
        injection e0 with e0
        subst e0
        rw [addk g 0] at hc0
        have HCO := Lib.hid hCO
        have g0 : (0 : Int) < (i : Int) := by omega
        clear hCO
        by_cases hlt : col < m
        · have g1 : (col : Int) < (m : Int) := by omega
          have g2 : (0 : Int) ≤ (col : Int) := by omega
          have htn := HS.out.le
          go_wp2
          go_loopw [7] (fun kv wr' => ∃ (k : Nat), t ≤ k ∧ k ≤ i ∧ kv = .int .i64 k ∧ wr' = wr ∧ Hid (∀ j, t ≤ j → j < k → M j col = 0)) (fun kv _ => i - (intOf kv).toNat)
          case atStart => exact ⟨t, Nat.le_refl _, htn.2, rfl, rfl, Lib.hid (fun j h1 h2 => absurd h1 (by omega))⟩
          case round =>
            obtain ⟨k, htk, hki, rfl, rfl, HZ⟩ := hrel
            by_cases hk : k < i
            · obtain ⟨adk, A2, c2, e2, hck, hc2, hC2⟩ := mrow HCO.out k hk
              injection e2 with e2
              subst e2
              rw [addk g k] at hck
              obtain ⟨ad2, rfl, hcc⟩ := at_row hC2 col hlt
              rw [line_get m (M k) col hlt] at hcc
              have HC2 := Lib.hid hC2
              have g3 : (k : Int) < (i : Int) := by omega
              have g4 : (0 : Int) ≤ (k : Int) := by omega
              clear hC2
              by_cases hz : M k col = 0
              · rw [hz] at hcc
                go_wp2
                go_roundw
                case rel =>
                  refine ⟨k + 1, by omega, by omega, by go_num, (by first | trivial | rfl), Lib.hid (fun j h1 h2 => ?_)⟩
                  rcases Nat.lt_or_ge j k with h | h
                  · exact HZ.out j h1 h
                  · obtain rfl : j = k := by omega
                    exact hz
                case measure => simp [intOf]; omega
              · have t1 : (M k col == 0) = false := by simp [hz]
                have hby := HS.out.byt H0.out
                obtain ⟨r, hr, hr1, hinv⟩ := inv_any (M k col) (hby k col) hz
                have IV := Lib.hid hinv
                have HR1 := Lib.hid hr1
                have HRB := Lib.hid hr
                have HBY := Lib.hid hby
                have TM := Lib.hid (fun W (hB : Below wr.heap.size wr W) => times_any m c2 (some ad2) (M k) r W (Kd.C_below HC2.out hB) (hby k) hr hc2 hm)
                have KK := Lib.hid (fun W (hB : Below wr.heap.size wr W) => And.intro (pw_cell_below hB hck) (pw_cell_below hB hcc))
                have HXd := Lib.hid (show Below wr.heap.size wr wr.drew from (Below.refl _ _).drew)
                clear hby hinv hr1 hr
                go_upto_region 14 with (fail)
                refine wp_region_noPanic ?_
                refine wp_region_held_drew (S := (fun W => W.cell? ⟨g, k, none⟩ = some (.slice (some ad2) m c2) ∧ W.cell? (ad2.add col) = some (.int .u8 (M k col)))) (by kernel_rfl) ?_ (fun hHeld => ?_)
                · ((try dsimp only); exact KK.out _ HXd.out)
                refine wpAnyH_take (i := 0) (oi := { dst := some 59, op := Go.Op.move (Go.Operand.tmp 3), type := 22, pos := "ref.go:21", after := #[], guard := none }) (v := ?_) rfl (by kernel_rfl) (by kernel_rfl) (by kernel_rfl) (fun _ _ _ h => h) (Or.inl ⟨by rfl, ?_⟩) (by assumption) ?_
                rotate_left 1
                · (intro w hSw; (try dsimp only at hSw); go_simp; try with_reducible rfl)
                try simp only [Act.put, List.setIfInBounds_toArray, List.set_cons_zero, List.set_cons_succ]
                refine wpAnyH_take (i := 1) (oi := { dst := some 60, op := Go.Op.move (Go.Operand.tmp 7), type := 3, pos := "ref.go:21", after := #[], guard := none }) (v := ?_) rfl (by kernel_rfl) (by kernel_rfl) (by kernel_rfl) (fun _ _ _ h => h) (Or.inl ⟨by rfl, ?_⟩) (by assumption) ?_
                rotate_left 1
                · (intro w hSw; (try dsimp only at hSw); go_simp; try with_reducible rfl)
                try simp only [Act.put, List.setIfInBounds_toArray, List.set_cons_zero, List.set_cons_succ]
                refine wpAnyH_take (i := 2) (oi := { dst := some 61, op := Go.Op.indexAddr 22 (Go.Operand.tmp 59) (Go.Operand.tmp 60), type := 0, pos := "ref.go:21", after := #[{ on := 0, ground := Go.Ground.data }, { on := 1, ground := Go.Ground.data }], guard := none }) (v := ?_) rfl (by kernel_rfl) (by kernel_rfl) (by kernel_rfl) (fun _ _ _ h => h) (Or.inl ⟨by rfl, ?_⟩) (by assumption) ?_
                rotate_left 1
                · (intro w hSw; (try dsimp only at hSw); go_simp; try with_reducible rfl)
                try simp only [Act.put, List.setIfInBounds_toArray, List.set_cons_zero, List.set_cons_succ]
                refine wpAnyH_take (i := 3) (oi := { dst := some 62, op := Go.Op.load 36 (Go.Operand.tmp 61), type := 36, pos := "ref.go:21", after := #[{ on := 2, ground := Go.Ground.data }], guard := none }) (v := ?_) rfl (by kernel_rfl) (by kernel_rfl) (by kernel_rfl) (fun _ _ _ h => h) (Or.inl ⟨by rfl, ?_⟩) (by assumption) ?_
                rotate_left 1
                · (intro w hSw; (try dsimp only at hSw); go_simp; try with_reducible rfl)
                try simp only [Act.put, List.setIfInBounds_toArray, List.set_cons_zero, List.set_cons_succ]
                refine wpAnyH_take (i := 4) (oi := { dst := some 63, op := Go.Op.move (Go.Operand.tmp 3), type := 22, pos := "ref.go:21", after := #[], guard := none }) (v := ?_) rfl (by kernel_rfl) (by kernel_rfl) (by kernel_rfl) (fun _ _ _ h => h) (Or.inl ⟨by rfl, ?_⟩) (by assumption) ?_
                rotate_left 1
                · (intro w hSw; (try dsimp only at hSw); go_simp; try with_reducible rfl)
                try simp only [Act.put, List.setIfInBounds_toArray, List.set_cons_zero, List.set_cons_succ]
                refine wpAnyH_take (i := 5) (oi := { dst := some 64, op := Go.Op.move (Go.Operand.tmp 7), type := 3, pos := "ref.go:21", after := #[], guard := none }) (v := ?_) rfl (by kernel_rfl) (by kernel_rfl) (by kernel_rfl) (fun _ _ _ h => h) (Or.inl ⟨by rfl, ?_⟩) (by assumption) ?_
                rotate_left 1
                · (intro w hSw; (try dsimp only at hSw); go_simp; try with_reducible rfl)
                try simp only [Act.put, List.setIfInBounds_toArray, List.set_cons_zero, List.set_cons_succ]
                refine wpAnyH_take (i := 6) (oi := { dst := some 65, op := Go.Op.indexAddr 22 (Go.Operand.tmp 63) (Go.Operand.tmp 64), type := 0, pos := "ref.go:21", after := #[{ on := 4, ground := Go.Ground.data }, { on := 5, ground := Go.Ground.data }], guard := none }) (v := ?_) rfl (by kernel_rfl) (by kernel_rfl) (by kernel_rfl) (fun _ _ _ h => h) (Or.inl ⟨by rfl, ?_⟩) (by assumption) ?_
                rotate_left 1
                · (intro w hSw; (try dsimp only at hSw); go_simp; try with_reducible rfl)
                try simp only [Act.put, List.setIfInBounds_toArray, List.set_cons_zero, List.set_cons_succ]
                refine wpAnyH_take (i := 7) (oi := { dst := some 66, op := Go.Op.load 36 (Go.Operand.tmp 65), type := 36, pos := "ref.go:21", after := #[{ on := 6, ground := Go.Ground.data }], guard := none }) (v := ?_) rfl (by kernel_rfl) (by kernel_rfl) (by kernel_rfl) (fun _ _ _ h => h) (Or.inl ⟨by rfl, ?_⟩) (by assumption) ?_
                rotate_left 1
                · (intro w hSw; (try dsimp only at hSw); go_simp; try with_reducible rfl)
                try simp only [Act.put, List.setIfInBounds_toArray, List.set_cons_zero, List.set_cons_succ]
                refine wpAnyH_take (i := 8) (oi := { dst := some 67, op := Go.Op.move (Go.Operand.tmp 6), type := 3, pos := "ref.go:21", after := #[], guard := none }) (v := ?_) rfl (by kernel_rfl) (by kernel_rfl) (by kernel_rfl) (fun _ _ _ h => h) (Or.inl ⟨by rfl, ?_⟩) (by assumption) ?_
                rotate_left 1
                · (intro w hSw; (try dsimp only at hSw); go_simp; try with_reducible rfl)
                try simp only [Act.put, List.setIfInBounds_toArray, List.set_cons_zero, List.set_cons_succ]
                refine wpAnyH_take (i := 9) (oi := { dst := some 68, op := Go.Op.indexAddr 36 (Go.Operand.tmp 66) (Go.Operand.tmp 67), type := 0, pos := "ref.go:21", after := #[{ on := 7, ground := Go.Ground.data }, { on := 8, ground := Go.Ground.data }], guard := none }) (v := ?_) rfl (by kernel_rfl) (by kernel_rfl) (by kernel_rfl) (fun _ _ _ h => h) (Or.inl ⟨by rfl, ?_⟩) (by assumption) ?_
                rotate_left 1
                · (intro w hSw; (try dsimp only at hSw); go_simp; try with_reducible rfl)
                try simp only [Act.put, List.setIfInBounds_toArray, List.set_cons_zero, List.set_cons_succ]
                refine wpAnyH_take (i := 10) (oi := { dst := some 69, op := Go.Op.load 5 (Go.Operand.tmp 68), type := 5, pos := "ref.go:21", after := #[{ on := 9, ground := Go.Ground.data }], guard := none }) (v := ?_) rfl (by kernel_rfl) (by kernel_rfl) (by kernel_rfl) (fun _ _ _ h => h) (Or.inl ⟨by rfl, ?_⟩) (by assumption) ?_
                rotate_left 1
                · (intro w hSw; (try dsimp only at hSw); go_simp; try with_reducible rfl)
                try simp only [Act.put, List.setIfInBounds_toArray, List.set_cons_zero, List.set_cons_succ]
                refine wpAnyH_ready (rs := [11]) (by kernel_rfl) (by simp) ?_
                refine AllReadyH.cons (o := { dst := some 70, op := Go.Op.call { callee := Go.Callee.value (Go.Operand.func 30), args := #[Go.Operand.tmp 69], argTypes := #[5] }, type := 5, pos := "ref.go:21", after := #[{ on := 10, ground := Go.Ground.data }], guard := none }) rfl (fun K hK => ?_) AllReadyH.nil
                go_simp
                go_at_call 30
                (refine (IV.out _).mono ?_); rintro e x1 ⟨rfl, hb⟩; have HXe := Lib.hid (HXd.out.trans (hb.mono HXd.out.size)); clear hb
                clear hHeld
                refine hK.out _ _ ?_ (fun hHeld => ?_)
                · ((try dsimp only); exact KK.out _ HXe.out)
                clear hK K
                refine wpAnyH_ready (rs := [12]) (by kernel_rfl) (by simp) ?_
                refine AllReadyH.cons (o := { dst := some 71, op := Go.Op.call { callee := Go.Callee.value (Go.Operand.func 29), args := #[Go.Operand.tmp 62, Go.Operand.tmp 70], argTypes := #[36, 5] }, type := 36, pos := "ref.go:21", after := #[{ on := 3, ground := Go.Ground.data }, { on := 11, ground := Go.Ground.data }, { on := 11, ground := Go.Ground.chain }], guard := none }) rfl (fun K hK => ?_) AllReadyH.nil
                go_simp
                go_at_call 29
                (refine (TM.out _ HXe.out).mono ?_); rintro e x2 ⟨A9, c9, rfl, hr9, hb⟩; have HR9 := Lib.hid hr9; have HXf := Lib.hid (HXe.out.trans (hb.mono HXe.out.size)); clear hb hr9
                clear hHeld
                refine hK.out _ _ ?_ (fun hHeld => ?_)
                · ((try dsimp only); exact KK.out _ HXf.out)
                clear hK K
                refine wpAnyH_take (i := 13) (oi := { dst := some 8, op := Go.Op.assign (Go.Operand.tmp 71), type := 36, pos := "ref.go:21", after := #[{ on := 12, ground := Go.Ground.data }, { on := 12, ground := Go.Ground.chain }, { on := 0, ground := Go.Ground.phase }, { on := 1, ground := Go.Ground.phase }, { on := 2, ground := Go.Ground.phase }, { on := 3, ground := Go.Ground.phase }, { on := 4, ground := Go.Ground.phase }, { on := 5, ground := Go.Ground.phase }, { on := 6, ground := Go.Ground.phase }, { on := 7, ground := Go.Ground.phase }, { on := 8, ground := Go.Ground.phase }, { on := 9, ground := Go.Ground.phase }, { on := 10, ground := Go.Ground.phase }, { on := 11, ground := Go.Ground.phase }, { on := 12, ground := Go.Ground.phase }], guard := none }) (v := ?_) rfl (by kernel_rfl) (by kernel_rfl) (by kernel_rfl) (fun _ _ _ h => h) (Or.inl ⟨by rfl, ?_⟩) (by assumption) ?_
                rotate_left 1
                · (intro w hSw; (try dsimp only at hSw); go_simp; try with_reducible rfl)
                try simp only [Act.put, List.setIfInBounds_toArray, List.set_cons_zero, List.set_cons_succ]
                refine wpAnyH_done (by kernel_rfl) ?_ _
                refine NoPanic.normal ?_
                clear hc0 hck hcc KK IV TM
                have HO2 := Lib.hid (Kd.R_below HO.out HXf.out)
                have HB2 := Lib.hid (HB.out.trans (HXf.out.mono HB.out.size))
                have hgw := (rblk HO.out).2
                have hgwr : g < wr.heap.size := by obtain ⟨cur, hh⟩ := hgw; exact (Array.getElem?_eq_some_iff.1 hh).1
                have HGW := Lib.hid hgwr
                obtain ⟨At, ct, z1, z2, _, _, hMt⟩ := relem HO2.out t (by omega)
                obtain ⟨Ak, ck, z3, z4, _, _, _⟩ := relem HO2.out k hk
                rw [mat_get i m M t (by omega), line_len] at z1 hMt
                rw [mat_get i m M k hk, line_len] at z3
                have HMT := Lib.hid hMt
                have g5 : (0 : Int) ≤ (t : Int) := by omega
                have g6 : (t : Int) < (i : Int) := by omega
                clear hMt hgw hgwr
                go_upto_region 16 with (fail)
                obtain ⟨W6, hW6⟩ : ∃ W6, W6 = x2.setCell ⟨g, k, none⟩ (.slice At m ct) := ⟨_, rfl⟩
                have HO6 := Lib.hid (show RowsR W6 w.heap.size (.slice (some ⟨g, 0, none⟩) i cO) (mat i m (swapI M t k)) by
                  have h := rput HO2.out k hk (.slice At m ct) (line m (M t)) _ HMT.out (fun q hq => hq)
                  rw [mat_set i m M k hk, ← hW6] at h
                  exact h)
                have HB6 := Lib.hid (show Below w.heap.size w W6 by rw [hW6]; exact HB2.out.setCell HGB.out _)
                have HR6 := Lib.hid (show (Kd.int .u8).R 5 W6 wr.heap.size (fun _ => True) (.slice A9 m c9) (line m (fun j => gmI (M k j) r)) by
                  obtain ⟨cur, hh⟩ := (rblk HO2.out).2
                  rw [hW6]
                  exact Kd.R_set (Kd.R_lower HR9.out HXe.out.size) hh (by decide) k _)
                rw [← hW6]
                clear hW6 z1 z2 z3 z4 HMT HO2 HB2 HR9 HXf HXe HXd
                obtain ⟨Aj, cj, z1, z2, _, _, _⟩ := relem HO6.out t (by omega)
                go_upto_region 17 with (fail)
                obtain ⟨W7, hW7⟩ : ∃ W7, W7 = W6.setCell ⟨g, t, none⟩ (.slice A9 m c9) := ⟨_, rfl⟩
                have HO7 := Lib.hid (show RowsR W7 w.heap.size (.slice (some ⟨g, 0, none⟩) i cO) (mat i m (fun q => if q < 0 then stepI M t k col r q else if q = t then (fun j => gmI (M k j) r) else swapI M t k q)) by
                  have h := rput HO6.out t (by omega) (.slice A9 m c9) (line m (fun j => gmI (M k j) r)) (fun q => some q = (Value.slice A9 m c9).ownBlock) (row_M (Kd.own_of_R HR6.out) HB.out.size rfl) (fun q hq => by
                    have h1 := Kd.R_base HR6.out q hq.symm
                    have := HGW.out
                    omega)
                  rw [mat_set i m (swapI M t k) t (by omega), ← hW7] at h
                  exact h)
                have HB7 := Lib.hid (show Below w.heap.size w W7 by rw [hW7]; exact HB6.out.setCell HGB.out _)
                have HX7 := Lib.hid (show (Kd.int .u8).R 5 W7 wr.heap.size (fun _ => True) (.slice A9 m c9) (line m (fun j => gmI (M k j) r)) by
                  obtain ⟨cur, hh⟩ := (rblk HO6.out).2
                  have h := Kd.R_set HR6.out hh (by decide) t (.slice A9 m c9)
                  rw [← hW7] at h
                  exact h)
                have hc9 : m ≤ c9 := (Kd.R_reads' HR6.out).2.1
                rw [← hW7]
                clear hW7 z1 z2 HO6 HB6 HR6
                have HSW := Lib.hid (show BytM (swapI M t k) by intro a b; unfold swapI; split <;> exact HBY.out _ _)
                have HC9 := Lib.hid hc9
                clear hc9
                go_wp2
                go_loopw [9] (fun qv wr' => ∃ (q : Nat), q ≤ i ∧ qv = .int .i64 q ∧ Hid (RowsR wr' w.heap.size (.slice (some ⟨g, 0, none⟩) i cO) (mat i m (fun p => if p < q then stepI M t k col r p else if p = t then (fun j => gmI (M k j) r) else swapI M t k p))) ∧ Hid ((Kd.int .u8).R 5 wr' wr.heap.size (fun _ => True) (.slice A9 m c9) (line m (fun j => gmI (M k j) r))) ∧ Hid (Below w.heap.size w wr')) (fun qv _ => i - (intOf qv).toNat)
                case atStart => exact ⟨0, by omega, rfl, HO7, HX7, HB7⟩
                case round =>
                  clear HO7 HX7 HB7
                  obtain ⟨q, hq, rfl, HO7, HX7, HB7⟩ := hrel
                  by_cases hqi : q < i
                  · have g7 : (0 : Int) ≤ (q : Int) := by omega
                    have g8 : (q : Int) < (i : Int) := by omega
                    by_cases hqt : q = t
                    · have t2 : ((q : Int) != (t : Int)) = false := by simp [hqt]
                      go_wp2
                      go_roundw
                      case rel =>
                        refine ⟨q + 1, by omega, by go_num, Lib.hid ?_, HX7, HB7⟩
                        rw [mat_congr i m _ (fun p => if p < q then stepI M t k col r p else if p = t then (fun j => gmI (M k j) r) else swapI M t k p) (fun p hp j hj => ?_)]
                        · exact HO7.out
                        · by_cases h1 : p < q
                          · rw [if_pos (by omega), if_pos h1]
                          · rw [if_neg h1]
                            by_cases h2 : p = t
                            · rw [if_pos (by omega), if_pos h2]; unfold stepI; rw [if_pos h2]
                            · rw [if_neg (by omega)]
                      case measure => simp [intOf]; omega
                    · have t2 : ((q : Int) != (t : Int)) = true := by simp; omega
                      have e1 : (mat i m (fun p => if p < q then stepI M t k col r p else if p = t then (fun j => gmI (M k j) r) else swapI M t k p)).getD q [] = line m (swapI M t k q) := by rw [mat_get i m _ q hqi]; simp [hqt]
                      obtain ⟨Aq, cq, z1, _, l1, hCq, _⟩ := relem HO7.out q hqi
                      rw [e1, line_len] at z1 l1 hCq
                      obtain ⟨adq, rfl, hcb⟩ := at_row hCq col hlt
                      rw [line_get m (swapI M t k q) col hlt] at hcb
                      have KK := Lib.hid (fun W (hB : Below wr.heap.size wr W) => And.intro (pw_cell_below hB z1) (pw_cell_below hB hcb))
                      have hC9' : (Kd.int .u8).C wr A9 m (line m (fun j => gmI (M k j) r)) := by
                        have h := (Kd.R_reads' HX7.out).2.2
                        rw [line_len] at h
                        exact h
                      have TM := Lib.hid (fun W (hB : Below wr.heap.size wr W) => times_any m c9 A9 (fun j => gmI (M k j) r) (swapI M t k q col) W (Kd.C_below hC9' hB) (fun j => gmI_byt (HBY.out k j)) (HSW.out q col) HC9.out hm)
                      have PM := Lib.hid (fun A2 c2 W (hB : Below wr.heap.size wr W) (h2 : (Kd.int .u8).C W A2 m (line m (fun j => gmI (gmI (M k j) r) (swapI M t k q col)))) (hc2 : m ≤ c2) => plus_any m cq c2 (some adq) A2 (swapI M t k q) (fun j => gmI (gmI (M k j) r) (swapI M t k q col)) W (Kd.C_below hCq hB) h2 (HSW.out q) (fun j => gmI_byt (gmI_byt (HBY.out k j))) l1 hc2 hm)
                      have HGQ := Lib.hid (show g < wr.heap.size by obtain ⟨cur, hh⟩ := (rblk HO7.out).2; exact (Array.getElem?_eq_some_iff.1 hh).1)
                      have HXd := Lib.hid (show Below wr.heap.size wr wr.drew from (Below.refl _ _).drew)
                      clear z1 l1 hCq hcb hC9' e1
                      go_upto_region 21 with (fail)
                      refine wp_region_noPanic ?_
                      refine wp_region_held_drew (S := (fun W => True)) (by kernel_rfl) ?_ (fun hHeld => ?_)
                      · ((try dsimp only); all_goals exact trivial)
                      refine wpAnyH_take (i := 0) (oi := { dst := some 92, op := Go.Op.move (Go.Operand.tmp 3), type := 22, pos := "ref.go:26", after := #[], guard := none }) (v := ?_) rfl (by kernel_rfl) (by kernel_rfl) (by kernel_rfl) (fun _ _ _ h => h) (Or.inl ⟨by rfl, ?_⟩) (by assumption) ?_
                      rotate_left 1
                      · (intro w hSw; (try dsimp only at hSw); go_simp; try with_reducible rfl)
                      try simp only [Act.put, List.setIfInBounds_toArray, List.set_cons_zero, List.set_cons_succ]
                      refine wpAnyH_take (i := 1) (oi := { dst := some 93, op := Go.Op.move (Go.Operand.tmp 9), type := 3, pos := "ref.go:26", after := #[], guard := none }) (v := ?_) rfl (by kernel_rfl) (by kernel_rfl) (by kernel_rfl) (fun _ _ _ h => h) (Or.inl ⟨by rfl, ?_⟩) (by assumption) ?_
                      rotate_left 1
                      · (intro w hSw; (try dsimp only at hSw); go_simp; try with_reducible rfl)
                      try simp only [Act.put, List.setIfInBounds_toArray, List.set_cons_zero, List.set_cons_succ]
                      refine wpAnyH_take (i := 2) (oi := { dst := some 94, op := Go.Op.move (Go.Operand.tmp 3), type := 22, pos := "ref.go:26", after := #[], guard := none }) (v := ?_) rfl (by kernel_rfl) (by kernel_rfl) (by kernel_rfl) (fun _ _ _ h => h) (Or.inl ⟨by rfl, ?_⟩) (by assumption) ?_
                      rotate_left 1
                      · (intro w hSw; (try dsimp only at hSw); go_simp; try with_reducible rfl)
                      try simp only [Act.put, List.setIfInBounds_toArray, List.set_cons_zero, List.set_cons_succ]
                      refine wpAnyH_take (i := 3) (oi := { dst := some 95, op := Go.Op.move (Go.Operand.tmp 9), type := 3, pos := "ref.go:26", after := #[], guard := none }) (v := ?_) rfl (by kernel_rfl) (by kernel_rfl) (by kernel_rfl) (fun _ _ _ h => h) (Or.inl ⟨by rfl, ?_⟩) (by assumption) ?_
                      rotate_left 1
                      · (intro w hSw; (try dsimp only at hSw); go_simp; try with_reducible rfl)
                      try simp only [Act.put, List.setIfInBounds_toArray, List.set_cons_zero, List.set_cons_succ]
                      refine wpAnyH_take (i := 4) (oi := { dst := some 96, op := Go.Op.indexAddr 22 (Go.Operand.tmp 94) (Go.Operand.tmp 95), type := 0, pos := "ref.go:26", after := #[{ on := 2, ground := Go.Ground.data }, { on := 3, ground := Go.Ground.data }], guard := none }) (v := ?_) rfl (by kernel_rfl) (by kernel_rfl) (by kernel_rfl) (fun _ _ _ h => h) (Or.inl ⟨by rfl, ?_⟩) (by assumption) ?_
                      rotate_left 1
                      · (intro w hSw; (try dsimp only at hSw); go_simp; try with_reducible rfl)
                      try simp only [Act.put, List.setIfInBounds_toArray, List.set_cons_zero, List.set_cons_succ]
                      refine wpAnyH_take (i := 6) (oi := { dst := some 98, op := Go.Op.move (Go.Operand.tmp 8), type := 36, pos := "ref.go:26", after := #[], guard := none }) (v := ?_) rfl (by kernel_rfl) (by kernel_rfl) (by kernel_rfl) (fun _ _ _ h => h) (Or.inl ⟨by rfl, ?_⟩) (by assumption) ?_
                      rotate_left 1
                      · (intro w hSw; (try dsimp only at hSw); go_simp; try with_reducible rfl)
                      try simp only [Act.put, List.setIfInBounds_toArray, List.set_cons_zero, List.set_cons_succ]
                      refine wpAnyH_take (i := 7) (oi := { dst := some 99, op := Go.Op.move (Go.Operand.tmp 3), type := 22, pos := "ref.go:26", after := #[], guard := none }) (v := ?_) rfl (by kernel_rfl) (by kernel_rfl) (by kernel_rfl) (fun _ _ _ h => h) (Or.inl ⟨by rfl, ?_⟩) (by assumption) ?_
                      rotate_left 1
                      · (intro w hSw; (try dsimp only at hSw); go_simp; try with_reducible rfl)
                      try simp only [Act.put, List.setIfInBounds_toArray, List.set_cons_zero, List.set_cons_succ]
                      refine wpAnyH_take (i := 8) (oi := { dst := some 100, op := Go.Op.move (Go.Operand.tmp 9), type := 3, pos := "ref.go:26", after := #[], guard := none }) (v := ?_) rfl (by kernel_rfl) (by kernel_rfl) (by kernel_rfl) (fun _ _ _ h => h) (Or.inl ⟨by rfl, ?_⟩) (by assumption) ?_
                      rotate_left 1
                      · (intro w hSw; (try dsimp only at hSw); go_simp; try with_reducible rfl)
                      try simp only [Act.put, List.setIfInBounds_toArray, List.set_cons_zero, List.set_cons_succ]
                      refine wpAnyH_take (i := 9) (oi := { dst := some 101, op := Go.Op.indexAddr 22 (Go.Operand.tmp 99) (Go.Operand.tmp 100), type := 0, pos := "ref.go:26", after := #[{ on := 7, ground := Go.Ground.data }, { on := 8, ground := Go.Ground.data }], guard := none }) (v := ?_) rfl (by kernel_rfl) (by kernel_rfl) (by kernel_rfl) (fun _ _ _ h => h) (Or.inl ⟨by rfl, ?_⟩) (by assumption) ?_
                      rotate_left 1
                      · (intro w hSw; (try dsimp only at hSw); go_simp; try with_reducible rfl)
                      try simp only [Act.put, List.setIfInBounds_toArray, List.set_cons_zero, List.set_cons_succ]
                      refine wpAnyH_take (i := 11) (oi := { dst := some 103, op := Go.Op.move (Go.Operand.tmp 6), type := 3, pos := "ref.go:26", after := #[], guard := none }) (v := ?_) rfl (by kernel_rfl) (by kernel_rfl) (by kernel_rfl) (fun _ _ _ h => h) (Or.inl ⟨by rfl, ?_⟩) (by assumption) ?_
                      rotate_left 1
                      · (intro w hSw; (try dsimp only at hSw); go_simp; try with_reducible rfl)
                      try simp only [Act.put, List.setIfInBounds_toArray, List.set_cons_zero, List.set_cons_succ]
                      refine wpAnyH_ready (rs := [5, 10]) (by kernel_rfl) (by simp) ?_
                      refine AllReadyH.cons (o := { dst := some 97, op := Go.Op.load 36 (Go.Operand.tmp 96), type := 36, pos := "ref.go:26", after := #[{ on := 4, ground := Go.Ground.data }], guard := none }) rfl (fun K hK => ?_) ?_
                      · (have kk := KK.out _ (by first | exact HXe.out | exact HXd.out)); obtain ⟨kk1, kk2⟩ := kk; go_simp
                        clear hHeld
                        refine hK.out _ _ ?_ (fun hHeld => ?_)
                        · ((try dsimp only); all_goals exact trivial)
                        clear hK K
                        refine wpAnyH_ready (rs := [10]) (by kernel_rfl) (by simp) ?_
                        refine AllReadyH.cons (o := { dst := some 102, op := Go.Op.load 36 (Go.Operand.tmp 101), type := 36, pos := "ref.go:26", after := #[{ on := 9, ground := Go.Ground.data }], guard := none }) rfl (fun K hK => ?_) AllReadyH.nil
                        (have kk := KK.out _ HXd.out); obtain ⟨kk1, kk2⟩ := kk; go_simp
                        clear hHeld
                        refine hK.out _ _ ?_ (fun hHeld => ?_)
                        · ((try dsimp only); all_goals exact trivial)
                        clear hK K
                        refine wpAnyH_take (i := 12) (oi := { dst := some 104, op := Go.Op.indexAddr 36 (Go.Operand.tmp 102) (Go.Operand.tmp 103), type := 0, pos := "ref.go:26", after := #[{ on := 10, ground := Go.Ground.data }, { on := 11, ground := Go.Ground.data }], guard := none }) (v := ?_) rfl (by kernel_rfl) (by kernel_rfl) (by kernel_rfl) (fun _ _ _ h => h) (Or.inl ⟨by rfl, ?_⟩) (by assumption) ?_
                        rotate_left 1
                        · (intro w hSw; (try dsimp only at hSw); go_simp; try with_reducible rfl)
                        try simp only [Act.put, List.setIfInBounds_toArray, List.set_cons_zero, List.set_cons_succ]
                        refine wpAnyH_ready (rs := [13]) (by kernel_rfl) (by simp) ?_
                        refine AllReadyH.cons (o := { dst := some 105, op := Go.Op.load 5 (Go.Operand.tmp 104), type := 5, pos := "ref.go:26", after := #[{ on := 12, ground := Go.Ground.data }], guard := none }) rfl (fun K hK => ?_) AllReadyH.nil
                        (have kk := KK.out _ HXd.out); obtain ⟨kk1, kk2⟩ := kk; go_simp
                        clear hHeld
                        refine hK.out _ _ ?_ (fun hHeld => ?_)
                        · ((try dsimp only); all_goals exact trivial)
                        clear hK K
                        refine wpAnyH_ready (rs := [14]) (by kernel_rfl) (by simp) ?_
                        refine AllReadyH.cons (o := { dst := some 106, op := Go.Op.call { callee := Go.Callee.value (Go.Operand.func 29), args := #[Go.Operand.tmp 98, Go.Operand.tmp 105], argTypes := #[36, 5] }, type := 36, pos := "ref.go:26", after := #[{ on := 6, ground := Go.Ground.data }, { on := 13, ground := Go.Ground.data }], guard := none }) rfl (fun K hK => ?_) AllReadyH.nil
                        go_simp
                        go_at_call 29
                        (refine (TM.out _ HXd.out).mono ?_); rintro e x1 ⟨A5, c5, rfl, hr5, hb⟩; have h5 := (Kd.R_reads' hr5).2; rw [line_len] at h5; have HC5 := Lib.hid h5; have HXe := Lib.hid (HXd.out.trans (hb.mono HXd.out.size)); clear hb hr5 h5
                        clear hHeld
                        refine hK.out _ _ ?_ (fun hHeld => ?_)
                        · ((try dsimp only); all_goals exact trivial)
                        clear hK K
                        refine wpAnyH_ready (rs := [15]) (by kernel_rfl) (by simp) ?_
                        refine AllReadyH.cons (o := { dst := some 107, op := Go.Op.call { callee := Go.Callee.value (Go.Operand.func 31), args := #[Go.Operand.tmp 97, Go.Operand.tmp 106], argTypes := #[36, 36] }, type := 36, pos := "ref.go:26", after := #[{ on := 5, ground := Go.Ground.data }, { on := 14, ground := Go.Ground.data }, { on := 14, ground := Go.Ground.chain }], guard := none }) rfl (fun K hK => ?_) AllReadyH.nil
                        go_simp
                        go_at_call 31
                        (refine (PM.out A5 c5 _ HXe.out HC5.out.2 HC5.out.1).mono ?_); rintro e x2 ⟨A6, c6, rfl, hr6, hb⟩; have HR6 := Lib.hid hr6; have HXf := Lib.hid (HXe.out.trans (hb.mono HXe.out.size)); clear hb hr6
                        clear hHeld
                        refine hK.out _ _ ?_ (fun hHeld => ?_)
                        · ((try dsimp only); all_goals exact trivial)
                        clear hK K
                        refine wpAnyH_take (i := 16) (oi := { dst := some 108, op := Go.Op.indexAddr 22 (Go.Operand.tmp 92) (Go.Operand.tmp 93), type := 0, pos := "ref.go:26", after := #[{ on := 0, ground := Go.Ground.data }, { on := 1, ground := Go.Ground.data }, { on := 0, ground := Go.Ground.phase }, { on := 1, ground := Go.Ground.phase }, { on := 2, ground := Go.Ground.phase }, { on := 3, ground := Go.Ground.phase }, { on := 4, ground := Go.Ground.phase }, { on := 5, ground := Go.Ground.phase }, { on := 6, ground := Go.Ground.phase }, { on := 7, ground := Go.Ground.phase }, { on := 8, ground := Go.Ground.phase }, { on := 9, ground := Go.Ground.phase }, { on := 10, ground := Go.Ground.phase }, { on := 11, ground := Go.Ground.phase }, { on := 12, ground := Go.Ground.phase }, { on := 13, ground := Go.Ground.phase }, { on := 14, ground := Go.Ground.phase }, { on := 15, ground := Go.Ground.phase }], guard := none }) (v := ?_) rfl (by kernel_rfl) (by kernel_rfl) (by kernel_rfl) (fun _ _ _ h => h) (Or.inl ⟨by rfl, ?_⟩) (by assumption) ?_
                        rotate_left 1
                        · (intro w hSw; (try dsimp only at hSw); go_simp; try with_reducible rfl)
                        try simp only [Act.put, List.setIfInBounds_toArray, List.set_cons_zero, List.set_cons_succ]
                        refine wpAnyH_ready (rs := [17]) (by kernel_rfl) (by simp) ?_
                        refine AllReadyH.cons (o := { dst := none, op := Go.Op.store 36 (Go.Operand.tmp 108) (Go.Operand.tmp 107), type := 0, pos := "ref.go:26", after := #[{ on := 16, ground := Go.Ground.data }, { on := 15, ground := Go.Ground.data }, { on := 15, ground := Go.Ground.chain }, { on := 0, ground := Go.Ground.phase }, { on := 1, ground := Go.Ground.phase }, { on := 2, ground := Go.Ground.phase }, { on := 3, ground := Go.Ground.phase }, { on := 4, ground := Go.Ground.phase }, { on := 5, ground := Go.Ground.phase }, { on := 6, ground := Go.Ground.phase }, { on := 7, ground := Go.Ground.phase }, { on := 8, ground := Go.Ground.phase }, { on := 9, ground := Go.Ground.phase }, { on := 10, ground := Go.Ground.phase }, { on := 11, ground := Go.Ground.phase }, { on := 12, ground := Go.Ground.phase }, { on := 13, ground := Go.Ground.phase }, { on := 14, ground := Go.Ground.phase }, { on := 15, ground := Go.Ground.phase }], guard := none }) rfl (fun K hK => ?_) AllReadyH.nil
                        have HOf := Lib.hid (Kd.R_below HO7.out HXf.out); obtain ⟨_, _, y1, y2, _, _, _⟩ := relem HOf.out q hqi; go_simp
                        clear hHeld
                        refine hK.out _ _ ?_ (fun hHeld => ?_)
                        · ((try dsimp only); all_goals exact trivial)
                        clear hK K
                        refine wpAnyH_done (by kernel_rfl) ?_ _
                        refine NoPanic.normal ?_
                        (go_wp2; go_roundw; (case rel => exact ⟨q + 1, by omega, by go_num, Lib.hid (rowq HOf.out hqi hqt HR6.out (Nat.le_trans HB7.out.size HXe.out.size) (Nat.lt_of_lt_of_le HGQ.out HXe.out.size)), Lib.hid (setx (Kd.R_below HX7.out HXf.out) HOf.out q _), Lib.hid ((HB7.out.trans (HXf.out.mono HB7.out.size)).setCell HGB.out _)⟩); (case measure => simp [intOf]; omega))
                      refine AllReadyH.cons (o := { dst := some 102, op := Go.Op.load 36 (Go.Operand.tmp 101), type := 36, pos := "ref.go:26", after := #[{ on := 9, ground := Go.Ground.data }], guard := none }) rfl (fun K hK => ?_) AllReadyH.nil
                      (have kk := KK.out _ HXd.out); obtain ⟨kk1, kk2⟩ := kk; go_simp
                      clear hHeld
                      refine hK.out _ _ ?_ (fun hHeld => ?_)
                      · ((try dsimp only); all_goals exact trivial)
                      clear hK K
                      refine wpAnyH_take (i := 12) (oi := { dst := some 104, op := Go.Op.indexAddr 36 (Go.Operand.tmp 102) (Go.Operand.tmp 103), type := 0, pos := "ref.go:26", after := #[{ on := 10, ground := Go.Ground.data }, { on := 11, ground := Go.Ground.data }], guard := none }) (v := ?_) rfl (by kernel_rfl) (by kernel_rfl) (by kernel_rfl) (fun _ _ _ h => h) (Or.inl ⟨by rfl, ?_⟩) (by assumption) ?_
                      rotate_left 1
                      · (intro w hSw; (try dsimp only at hSw); go_simp; try with_reducible rfl)
                      try simp only [Act.put, List.setIfInBounds_toArray, List.set_cons_zero, List.set_cons_succ]
                      refine wpAnyH_ready (rs := [5, 13]) (by kernel_rfl) (by simp) ?_
                      refine AllReadyH.cons (o := { dst := some 97, op := Go.Op.load 36 (Go.Operand.tmp 96), type := 36, pos := "ref.go:26", after := #[{ on := 4, ground := Go.Ground.data }], guard := none }) rfl (fun K hK => ?_) ?_
                      · (have kk := KK.out _ (by first | exact HXe.out | exact HXd.out)); obtain ⟨kk1, kk2⟩ := kk; go_simp
                        clear hHeld
                        refine hK.out _ _ ?_ (fun hHeld => ?_)
                        · ((try dsimp only); all_goals exact trivial)
                        clear hK K
                        refine wpAnyH_ready (rs := [13]) (by kernel_rfl) (by simp) ?_
                        refine AllReadyH.cons (o := { dst := some 105, op := Go.Op.load 5 (Go.Operand.tmp 104), type := 5, pos := "ref.go:26", after := #[{ on := 12, ground := Go.Ground.data }], guard := none }) rfl (fun K hK => ?_) AllReadyH.nil
                        (have kk := KK.out _ HXd.out); obtain ⟨kk1, kk2⟩ := kk; go_simp
                        clear hHeld
                        refine hK.out _ _ ?_ (fun hHeld => ?_)
                        · ((try dsimp only); all_goals exact trivial)
                        clear hK K
                        refine wpAnyH_ready (rs := [14]) (by kernel_rfl) (by simp) ?_
                        refine AllReadyH.cons (o := { dst := some 106, op := Go.Op.call { callee := Go.Callee.value (Go.Operand.func 29), args := #[Go.Operand.tmp 98, Go.Operand.tmp 105], argTypes := #[36, 5] }, type := 36, pos := "ref.go:26", after := #[{ on := 6, ground := Go.Ground.data }, { on := 13, ground := Go.Ground.data }], guard := none }) rfl (fun K hK => ?_) AllReadyH.nil
                        go_simp
                        go_at_call 29
                        (refine (TM.out _ HXd.out).mono ?_); rintro e x1 ⟨A5, c5, rfl, hr5, hb⟩; have h5 := (Kd.R_reads' hr5).2; rw [line_len] at h5; have HC5 := Lib.hid h5; have HXe := Lib.hid (HXd.out.trans (hb.mono HXd.out.size)); clear hb hr5 h5
                        clear hHeld
                        refine hK.out _ _ ?_ (fun hHeld => ?_)
                        · ((try dsimp only); all_goals exact trivial)
                        clear hK K
                        refine wpAnyH_ready (rs := [15]) (by kernel_rfl) (by simp) ?_
                        refine AllReadyH.cons (o := { dst := some 107, op := Go.Op.call { callee := Go.Callee.value (Go.Operand.func 31), args := #[Go.Operand.tmp 97, Go.Operand.tmp 106], argTypes := #[36, 36] }, type := 36, pos := "ref.go:26", after := #[{ on := 5, ground := Go.Ground.data }, { on := 14, ground := Go.Ground.data }, { on := 14, ground := Go.Ground.chain }], guard := none }) rfl (fun K hK => ?_) AllReadyH.nil
                        go_simp
                        go_at_call 31
                        (refine (PM.out A5 c5 _ HXe.out HC5.out.2 HC5.out.1).mono ?_); rintro e x2 ⟨A6, c6, rfl, hr6, hb⟩; have HR6 := Lib.hid hr6; have HXf := Lib.hid (HXe.out.trans (hb.mono HXe.out.size)); clear hb hr6
                        clear hHeld
                        refine hK.out _ _ ?_ (fun hHeld => ?_)
                        · ((try dsimp only); all_goals exact trivial)
                        clear hK K
                        refine wpAnyH_take (i := 16) (oi := { dst := some 108, op := Go.Op.indexAddr 22 (Go.Operand.tmp 92) (Go.Operand.tmp 93), type := 0, pos := "ref.go:26", after := #[{ on := 0, ground := Go.Ground.data }, { on := 1, ground := Go.Ground.data }, { on := 0, ground := Go.Ground.phase }, { on := 1, ground := Go.Ground.phase }, { on := 2, ground := Go.Ground.phase }, { on := 3, ground := Go.Ground.phase }, { on := 4, ground := Go.Ground.phase }, { on := 5, ground := Go.Ground.phase }, { on := 6, ground := Go.Ground.phase }, { on := 7, ground := Go.Ground.phase }, { on := 8, ground := Go.Ground.phase }, { on := 9, ground := Go.Ground.phase }, { on := 10, ground := Go.Ground.phase }, { on := 11, ground := Go.Ground.phase }, { on := 12, ground := Go.Ground.phase }, { on := 13, ground := Go.Ground.phase }, { on := 14, ground := Go.Ground.phase }, { on := 15, ground := Go.Ground.phase }], guard := none }) (v := ?_) rfl (by kernel_rfl) (by kernel_rfl) (by kernel_rfl) (fun _ _ _ h => h) (Or.inl ⟨by rfl, ?_⟩) (by assumption) ?_
                        rotate_left 1
                        · (intro w hSw; (try dsimp only at hSw); go_simp; try with_reducible rfl)
                        try simp only [Act.put, List.setIfInBounds_toArray, List.set_cons_zero, List.set_cons_succ]
                        refine wpAnyH_ready (rs := [17]) (by kernel_rfl) (by simp) ?_
                        refine AllReadyH.cons (o := { dst := none, op := Go.Op.store 36 (Go.Operand.tmp 108) (Go.Operand.tmp 107), type := 0, pos := "ref.go:26", after := #[{ on := 16, ground := Go.Ground.data }, { on := 15, ground := Go.Ground.data }, { on := 15, ground := Go.Ground.chain }, { on := 0, ground := Go.Ground.phase }, { on := 1, ground := Go.Ground.phase }, { on := 2, ground := Go.Ground.phase }, { on := 3, ground := Go.Ground.phase }, { on := 4, ground := Go.Ground.phase }, { on := 5, ground := Go.Ground.phase }, { on := 6, ground := Go.Ground.phase }, { on := 7, ground := Go.Ground.phase }, { on := 8, ground := Go.Ground.phase }, { on := 9, ground := Go.Ground.phase }, { on := 10, ground := Go.Ground.phase }, { on := 11, ground := Go.Ground.phase }, { on := 12, ground := Go.Ground.phase }, { on := 13, ground := Go.Ground.phase }, { on := 14, ground := Go.Ground.phase }, { on := 15, ground := Go.Ground.phase }], guard := none }) rfl (fun K hK => ?_) AllReadyH.nil
                        have HOf := Lib.hid (Kd.R_below HO7.out HXf.out); obtain ⟨_, _, y1, y2, _, _, _⟩ := relem HOf.out q hqi; go_simp
                        clear hHeld
                        refine hK.out _ _ ?_ (fun hHeld => ?_)
                        · ((try dsimp only); all_goals exact trivial)
                        clear hK K
                        refine wpAnyH_done (by kernel_rfl) ?_ _
                        refine NoPanic.normal ?_
                        (go_wp2; go_roundw; (case rel => exact ⟨q + 1, by omega, by go_num, Lib.hid (rowq HOf.out hqi hqt HR6.out (Nat.le_trans HB7.out.size HXe.out.size) (Nat.lt_of_lt_of_le HGQ.out HXe.out.size)), Lib.hid (setx (Kd.R_below HX7.out HXf.out) HOf.out q _), Lib.hid ((HB7.out.trans (HXf.out.mono HB7.out.size)).setCell HGB.out _)⟩); (case measure => simp [intOf]; omega))
                      refine AllReadyH.cons (o := { dst := some 105, op := Go.Op.load 5 (Go.Operand.tmp 104), type := 5, pos := "ref.go:26", after := #[{ on := 12, ground := Go.Ground.data }], guard := none }) rfl (fun K hK => ?_) AllReadyH.nil
                      (have kk := KK.out _ HXd.out); obtain ⟨kk1, kk2⟩ := kk; go_simp
                      clear hHeld
                      refine hK.out _ _ ?_ (fun hHeld => ?_)
                      · ((try dsimp only); all_goals exact trivial)
                      clear hK K
                      refine wpAnyH_ready (rs := [5, 14]) (by kernel_rfl) (by simp) ?_
                      refine AllReadyH.cons (o := { dst := some 97, op := Go.Op.load 36 (Go.Operand.tmp 96), type := 36, pos := "ref.go:26", after := #[{ on := 4, ground := Go.Ground.data }], guard := none }) rfl (fun K hK => ?_) ?_
                      · (have kk := KK.out _ (by first | exact HXe.out | exact HXd.out)); obtain ⟨kk1, kk2⟩ := kk; go_simp
                        clear hHeld
                        refine hK.out _ _ ?_ (fun hHeld => ?_)
                        · ((try dsimp only); all_goals exact trivial)
                        clear hK K
                        refine wpAnyH_ready (rs := [14]) (by kernel_rfl) (by simp) ?_
                        refine AllReadyH.cons (o := { dst := some 106, op := Go.Op.call { callee := Go.Callee.value (Go.Operand.func 29), args := #[Go.Operand.tmp 98, Go.Operand.tmp 105], argTypes := #[36, 5] }, type := 36, pos := "ref.go:26", after := #[{ on := 6, ground := Go.Ground.data }, { on := 13, ground := Go.Ground.data }], guard := none }) rfl (fun K hK => ?_) AllReadyH.nil
                        go_simp
                        go_at_call 29
                        (refine (TM.out _ HXd.out).mono ?_); rintro e x1 ⟨A5, c5, rfl, hr5, hb⟩; have h5 := (Kd.R_reads' hr5).2; rw [line_len] at h5; have HC5 := Lib.hid h5; have HXe := Lib.hid (HXd.out.trans (hb.mono HXd.out.size)); clear hb hr5 h5
                        clear hHeld
                        refine hK.out _ _ ?_ (fun hHeld => ?_)
                        · ((try dsimp only); all_goals exact trivial)
                        clear hK K
                        refine wpAnyH_ready (rs := [15]) (by kernel_rfl) (by simp) ?_
                        refine AllReadyH.cons (o := { dst := some 107, op := Go.Op.call { callee := Go.Callee.value (Go.Operand.func 31), args := #[Go.Operand.tmp 97, Go.Operand.tmp 106], argTypes := #[36, 36] }, type := 36, pos := "ref.go:26", after := #[{ on := 5, ground := Go.Ground.data }, { on := 14, ground := Go.Ground.data }, { on := 14, ground := Go.Ground.chain }], guard := none }) rfl (fun K hK => ?_) AllReadyH.nil
                        go_simp
                        go_at_call 31
                        (refine (PM.out A5 c5 _ HXe.out HC5.out.2 HC5.out.1).mono ?_); rintro e x2 ⟨A6, c6, rfl, hr6, hb⟩; have HR6 := Lib.hid hr6; have HXf := Lib.hid (HXe.out.trans (hb.mono HXe.out.size)); clear hb hr6
                        clear hHeld
                        refine hK.out _ _ ?_ (fun hHeld => ?_)
                        · ((try dsimp only); all_goals exact trivial)
                        clear hK K
                        refine wpAnyH_take (i := 16) (oi := { dst := some 108, op := Go.Op.indexAddr 22 (Go.Operand.tmp 92) (Go.Operand.tmp 93), type := 0, pos := "ref.go:26", after := #[{ on := 0, ground := Go.Ground.data }, { on := 1, ground := Go.Ground.data }, { on := 0, ground := Go.Ground.phase }, { on := 1, ground := Go.Ground.phase }, { on := 2, ground := Go.Ground.phase }, { on := 3, ground := Go.Ground.phase }, { on := 4, ground := Go.Ground.phase }, { on := 5, ground := Go.Ground.phase }, { on := 6, ground := Go.Ground.phase }, { on := 7, ground := Go.Ground.phase }, { on := 8, ground := Go.Ground.phase }, { on := 9, ground := Go.Ground.phase }, { on := 10, ground := Go.Ground.phase }, { on := 11, ground := Go.Ground.phase }, { on := 12, ground := Go.Ground.phase }, { on := 13, ground := Go.Ground.phase }, { on := 14, ground := Go.Ground.phase }, { on := 15, ground := Go.Ground.phase }], guard := none }) (v := ?_) rfl (by kernel_rfl) (by kernel_rfl) (by kernel_rfl) (fun _ _ _ h => h) (Or.inl ⟨by rfl, ?_⟩) (by assumption) ?_
                        rotate_left 1
                        · (intro w hSw; (try dsimp only at hSw); go_simp; try with_reducible rfl)
                        try simp only [Act.put, List.setIfInBounds_toArray, List.set_cons_zero, List.set_cons_succ]
                        refine wpAnyH_ready (rs := [17]) (by kernel_rfl) (by simp) ?_
                        refine AllReadyH.cons (o := { dst := none, op := Go.Op.store 36 (Go.Operand.tmp 108) (Go.Operand.tmp 107), type := 0, pos := "ref.go:26", after := #[{ on := 16, ground := Go.Ground.data }, { on := 15, ground := Go.Ground.data }, { on := 15, ground := Go.Ground.chain }, { on := 0, ground := Go.Ground.phase }, { on := 1, ground := Go.Ground.phase }, { on := 2, ground := Go.Ground.phase }, { on := 3, ground := Go.Ground.phase }, { on := 4, ground := Go.Ground.phase }, { on := 5, ground := Go.Ground.phase }, { on := 6, ground := Go.Ground.phase }, { on := 7, ground := Go.Ground.phase }, { on := 8, ground := Go.Ground.phase }, { on := 9, ground := Go.Ground.phase }, { on := 10, ground := Go.Ground.phase }, { on := 11, ground := Go.Ground.phase }, { on := 12, ground := Go.Ground.phase }, { on := 13, ground := Go.Ground.phase }, { on := 14, ground := Go.Ground.phase }, { on := 15, ground := Go.Ground.phase }], guard := none }) rfl (fun K hK => ?_) AllReadyH.nil
                        have HOf := Lib.hid (Kd.R_below HO7.out HXf.out); obtain ⟨_, _, y1, y2, _, _, _⟩ := relem HOf.out q hqi; go_simp
                        clear hHeld
                        refine hK.out _ _ ?_ (fun hHeld => ?_)
                        · ((try dsimp only); all_goals exact trivial)
                        clear hK K
                        refine wpAnyH_done (by kernel_rfl) ?_ _
                        refine NoPanic.normal ?_
                        (go_wp2; go_roundw; (case rel => exact ⟨q + 1, by omega, by go_num, Lib.hid (rowq HOf.out hqi hqt HR6.out (Nat.le_trans HB7.out.size HXe.out.size) (Nat.lt_of_lt_of_le HGQ.out HXe.out.size)), Lib.hid (setx (Kd.R_below HX7.out HXf.out) HOf.out q _), Lib.hid ((HB7.out.trans (HXf.out.mono HB7.out.size)).setCell HGB.out _)⟩); (case measure => simp [intOf]; omega))
                      refine AllReadyH.cons (o := { dst := some 106, op := Go.Op.call { callee := Go.Callee.value (Go.Operand.func 29), args := #[Go.Operand.tmp 98, Go.Operand.tmp 105], argTypes := #[36, 5] }, type := 36, pos := "ref.go:26", after := #[{ on := 6, ground := Go.Ground.data }, { on := 13, ground := Go.Ground.data }], guard := none }) rfl (fun K hK => ?_) AllReadyH.nil
                      go_simp
                      go_at_call 29
                      (refine (TM.out _ HXd.out).mono ?_); rintro e x1 ⟨A5, c5, rfl, hr5, hb⟩; have h5 := (Kd.R_reads' hr5).2; rw [line_len] at h5; have HC5 := Lib.hid h5; have HXe := Lib.hid (HXd.out.trans (hb.mono HXd.out.size)); clear hb hr5 h5
                      clear hHeld
                      refine hK.out _ _ ?_ (fun hHeld => ?_)
                      · ((try dsimp only); all_goals exact trivial)
                      clear hK K
                      refine wpAnyH_ready (rs := [5]) (by kernel_rfl) (by simp) ?_
                      refine AllReadyH.cons (o := { dst := some 97, op := Go.Op.load 36 (Go.Operand.tmp 96), type := 36, pos := "ref.go:26", after := #[{ on := 4, ground := Go.Ground.data }], guard := none }) rfl (fun K hK => ?_) AllReadyH.nil
                      (have kk := KK.out _ (by first | exact HXe.out | exact HXd.out)); obtain ⟨kk1, kk2⟩ := kk; go_simp
                      clear hHeld
                      refine hK.out _ _ ?_ (fun hHeld => ?_)
                      · ((try dsimp only); all_goals exact trivial)
                      clear hK K
                      refine wpAnyH_ready (rs := [15]) (by kernel_rfl) (by simp) ?_
                      refine AllReadyH.cons (o := { dst := some 107, op := Go.Op.call { callee := Go.Callee.value (Go.Operand.func 31), args := #[Go.Operand.tmp 97, Go.Operand.tmp 106], argTypes := #[36, 36] }, type := 36, pos := "ref.go:26", after := #[{ on := 5, ground := Go.Ground.data }, { on := 14, ground := Go.Ground.data }, { on := 14, ground := Go.Ground.chain }], guard := none }) rfl (fun K hK => ?_) AllReadyH.nil
                      go_simp
                      go_at_call 31
                      (refine (PM.out A5 c5 _ HXe.out HC5.out.2 HC5.out.1).mono ?_); rintro e x2 ⟨A6, c6, rfl, hr6, hb⟩; have HR6 := Lib.hid hr6; have HXf := Lib.hid (HXe.out.trans (hb.mono HXe.out.size)); clear hb hr6
                      clear hHeld
                      refine hK.out _ _ ?_ (fun hHeld => ?_)
                      · ((try dsimp only); all_goals exact trivial)
                      clear hK K
                      refine wpAnyH_take (i := 16) (oi := { dst := some 108, op := Go.Op.indexAddr 22 (Go.Operand.tmp 92) (Go.Operand.tmp 93), type := 0, pos := "ref.go:26", after := #[{ on := 0, ground := Go.Ground.data }, { on := 1, ground := Go.Ground.data }, { on := 0, ground := Go.Ground.phase }, { on := 1, ground := Go.Ground.phase }, { on := 2, ground := Go.Ground.phase }, { on := 3, ground := Go.Ground.phase }, { on := 4, ground := Go.Ground.phase }, { on := 5, ground := Go.Ground.phase }, { on := 6, ground := Go.Ground.phase }, { on := 7, ground := Go.Ground.phase }, { on := 8, ground := Go.Ground.phase }, { on := 9, ground := Go.Ground.phase }, { on := 10, ground := Go.Ground.phase }, { on := 11, ground := Go.Ground.phase }, { on := 12, ground := Go.Ground.phase }, { on := 13, ground := Go.Ground.phase }, { on := 14, ground := Go.Ground.phase }, { on := 15, ground := Go.Ground.phase }], guard := none }) (v := ?_) rfl (by kernel_rfl) (by kernel_rfl) (by kernel_rfl) (fun _ _ _ h => h) (Or.inl ⟨by rfl, ?_⟩) (by assumption) ?_
                      rotate_left 1
                      · (intro w hSw; (try dsimp only at hSw); go_simp; try with_reducible rfl)
                      try simp only [Act.put, List.setIfInBounds_toArray, List.set_cons_zero, List.set_cons_succ]
                      refine wpAnyH_ready (rs := [17]) (by kernel_rfl) (by simp) ?_
                      refine AllReadyH.cons (o := { dst := none, op := Go.Op.store 36 (Go.Operand.tmp 108) (Go.Operand.tmp 107), type := 0, pos := "ref.go:26", after := #[{ on := 16, ground := Go.Ground.data }, { on := 15, ground := Go.Ground.data }, { on := 15, ground := Go.Ground.chain }, { on := 0, ground := Go.Ground.phase }, { on := 1, ground := Go.Ground.phase }, { on := 2, ground := Go.Ground.phase }, { on := 3, ground := Go.Ground.phase }, { on := 4, ground := Go.Ground.phase }, { on := 5, ground := Go.Ground.phase }, { on := 6, ground := Go.Ground.phase }, { on := 7, ground := Go.Ground.phase }, { on := 8, ground := Go.Ground.phase }, { on := 9, ground := Go.Ground.phase }, { on := 10, ground := Go.Ground.phase }, { on := 11, ground := Go.Ground.phase }, { on := 12, ground := Go.Ground.phase }, { on := 13, ground := Go.Ground.phase }, { on := 14, ground := Go.Ground.phase }, { on := 15, ground := Go.Ground.phase }], guard := none }) rfl (fun K hK => ?_) AllReadyH.nil
                      have HOf := Lib.hid (Kd.R_below HO7.out HXf.out); obtain ⟨_, _, y1, y2, _, _, _⟩ := relem HOf.out q hqi; go_simp
                      clear hHeld
                      refine hK.out _ _ ?_ (fun hHeld => ?_)
                      · ((try dsimp only); all_goals exact trivial)
                      clear hK K
                      refine wpAnyH_done (by kernel_rfl) ?_ _
                      refine NoPanic.normal ?_
                      (go_wp2; go_roundw; (case rel => exact ⟨q + 1, by omega, by go_num, Lib.hid (rowq HOf.out hqi hqt HR6.out (Nat.le_trans HB7.out.size HXe.out.size) (Nat.lt_of_lt_of_le HGQ.out HXe.out.size)), Lib.hid (setx (Kd.R_below HX7.out HXf.out) HOf.out q _), Lib.hid ((HB7.out.trans (HXf.out.mono HB7.out.size)).setCell HGB.out _)⟩); (case measure => simp [intOf]; omega))
                  · obtain rfl : q = i := by omega
                    have HOe := Lib.hid (show RowsR wr w.heap.size (.slice (some ⟨g, 0, none⟩) q cO) (mat q m (stepI M t k col r)) by
                      rw [mat_congr q m (stepI M t k col r) (fun p => if p < q then stepI M t k col r p else if p = t then (fun j => gmI (M k j) r) else swapI M t k p) (fun p hp j hj => by rw [if_pos hp])]
                      exact HO7.out)
                    go_wp2
                    go_roundw
                    case rel => exact ⟨t + 1, col + 1, stepI M t k col r, by go_num, by go_num, by omega, Lib.hid (.step HS.out htk hk HZ.out hz HRB.out HR1.out), HOe, HB7⟩
                    case measure => simp [intOf]; omega
            · obtain rfl : k = i := by omega
              go_wp2
              go_roundw
              case rel => exact ⟨t, col + 1, M, rfl, by go_num, by omega, Lib.hid (.skip HS.out (fun j h1 h2 => HZ.out j h1 h2)), HO, HB⟩
              case measure => simp [intOf]; omega
        · obtain rfl : col = m := by omega
          go_wp2
          go_ret
          exact ⟨_, t, M, rfl, HO.out, HS.out, HB.out⟩
end Go.Proofs.Ytojaekhplohbjaa.Sol
/- The document's Rank. -/
namespace Go.Proofs.Ytojaekhplohbjaa.Sol
open Go Go.RowKit Go.Proofs.Ytojaekhplohbjaa.PSteps Go.Proofs.Ytojaekhplohbjaa.Gf Go.Proofs.Ytojaekhplohbjaa.Gi Go.Proofs.Ytojaekhplohbjaa.Bits Go.Proofs.Ytojaekhplohbjaa.Mem Go.Proofs.Ytojaekhplohbjaa.Rws Go.Proofs.YtojaekhplohbjaaW.PrintWords Go.Proofs.YtojaekhplohbjaaW.PrintLast
set_option linter.unusedVariables false

/-- What Rank tells. -/
def RankPost (n m : Nat) (M0 : Mtx) (w : World) (e : Ending) (w' : World) : Prop := ∃ t M, e = .returned (.int .i64 (t : Nat)) ∧ StepsTo n M0 m t M ∧ Below w.heap.size w w'
/-- Has a row something among its first k? -/
def someTo (M : Mtx) (i : Nat) : Nat → Bool
  | 0 => false
  | k + 1 => someTo M i k || (M i k != 0)
theorem someTo_iff (M : Mtx) (i : Nat) : ∀ k, someTo M i k = true ↔ ∃ j, j < k ∧ M i j ≠ 0
  | 0 => by simp [someTo]
  | k + 1 => by
    simp only [someTo, Bool.or_eq_true, someTo_iff M i k, bne_iff_ne]
    constructor
    · rintro (⟨j, hj, h⟩ | h)
      · exact ⟨j, by omega, h⟩
      · exact ⟨k, by omega, h⟩
    · rintro ⟨j, hj, h⟩
      by_cases e : j < k
      · exact .inl ⟨j, e, h⟩
      · obtain rfl : j = k := by omega
        exact .inr h
set_option maxRecDepth 100000 in
set_option maxHeartbeats 4000000 in
theorem rrank_any (n m c0 : Nat) (A : Option Addr) (M0 : Mtx) (w : World) (hC : Kd.C kRow w A n (mat n m M0)) (h0 : BytM M0) (hn1 : 1 ≤ n) (hn : n ≤ 1000) (hm1 : 1 ≤ m) (hm : m ≤ 1000) :
    Calls Try.prog 14 #[.slice A n c0] w (RankPost n m M0 w) := by
  have ST := Lib.hid (steps_any n m c0 A M0 w hC h0 hn1 hn hm1 hm)
  have H0 := Lib.hid h0
  clear hC h0
  go_enter Try.func14, Try.ntmps14
  go_upto_region 4 with (go_at_call 12; (with_reducible refine ST.out.mono ?_); rintro e w1 ⟨u, t, M, rfl, hu, hst, hb⟩; have HU := Lib.hid hu; have HST := Lib.hid hst; have HB := Lib.hid hb; clear hu hst hb)
  obtain ⟨A1, c1, e1, _, hC1⟩ := Kd.R_reads HU.out
  rw [mat_len] at e1 hC1
  subst e1
  have HC1 := Lib.hid hC1
  have HSR := Lib.hid (fun i (hi : i < n) => HST.out.some_row H0.out i hi)
  have HLE := Lib.hid HST.out.le
  clear hC1 ST HU
  go_loopw [4, 5, 6, 7] (fun nv iv _ _ wr => ∃ (i : Nat), i ≤ n ∧ iv = .int .i64 i ∧ nv = .int .i64 (min i t : Nat) ∧ wr = w1) (fun _ iv _ _ _ => n - (intOf iv).toNat)
  case atStart => exact ⟨0, by omega, rfl, by simp, rfl⟩
  case round =>
    obtain ⟨i, hi, rfl, rfl, hw⟩ := hrel
    obtain rfl := hw.symm
    by_cases hlt : i < n
    · obtain ⟨ad, A2, c2, e2, hcell, _, hC2⟩ := mrow HC1.out i hlt
      have HAD := Lib.hid e2
      subst e2
      have HC2 := Lib.hid hC2
      have g0 : (0 : Int) ≤ (i : Int) := by omega
      have g1 : (i : Int) < (n : Int) := by omega
      have HLT := Lib.hid hlt
      obtain ⟨mt, hmt⟩ : ∃ mt : Nat, mt = min i t := ⟨_, rfl⟩
      rw [← hmt]
      have hm9 : mt ≤ 1000 := by omega
      have HMT := Lib.hid hmt
      clear hC2 hmt
      go_upto_region 8 with (fail)
      go_loopw [6, 7] (fun sv jv wr' => ∃ (j : Nat), j ≤ m ∧ jv = .int .i64 j ∧ sv = .bool (someTo M i j) ∧ wr' = w1) (fun _ jv _ => m - (intOf jv).toNat)
      case atStart => exact ⟨0, by omega, rfl, rfl, rfl⟩
      case round =>
        obtain ⟨j, hj, rfl, rfl, hw⟩ := hrel
        obtain rfl := hw.symm
        by_cases hjm : j < m
        · obtain ⟨ad2, e3, hcc⟩ := at_row HC2.out j hjm
          subst e3
          rw [line_get m (M i) j hjm] at hcc
          have g2 : (0 : Int) ≤ (j : Int) := by omega
          have g3 : (j : Int) < (m : Int) := by omega
          have HSS := Lib.hid (show someTo M i (j + 1) = (someTo M i j || (M i j != 0)) from rfl)
          obtain ⟨y, hy⟩ : ∃ y, y = M i j := ⟨_, rfl⟩
          rw [← hy] at hcc HSS
          obtain ⟨z, hz⟩ : ∃ z, z = (y != 0) := ⟨_, rfl⟩
          rw [← hz] at HSS
          have hz' : (y != 0) = z := hz.symm
          rcases hs : someTo M i j with _ | _
          · rw [hs] at HSS
            clear hy hz hs
            go_wp2
            go_roundw
            case rel => exact ⟨j + 1, by omega, by go_num, by rw [HSS.out]; rfl, by first | rfl | trivial⟩
            case measure => simp [intOf]; omega
          · rw [hs] at HSS
            clear hy hz hz' hs
            go_wp2
            go_roundw
            case rel => exact ⟨j + 1, by omega, by go_num, by rw [HSS.out]; rfl, by first | rfl | trivial⟩
            case measure => simp [intOf]; omega
        · obtain rfl : j = m := by omega
          have hiff := (someTo_iff M i j).trans (HSR.out i HLT.out)
          by_cases hit : i < t
          · have e : someTo M i j = true := hiff.2 hit
            rw [e]
            have HIT := Lib.hid hit
            clear hiff hit e
            go_wp2
            go_roundw
            case rel => exact ⟨i + 1, by omega, by go_num, by have h1 := HMT.out; have h2 := HIT.out; rw [show min (i + 1) t = mt + 1 by omega]; go_num, by first | rfl | trivial⟩
            case measure => simp [intOf]; omega
          · have e : someTo M i j = false := by
              rcases h : someTo M i j with _ | _
              · rfl
              · exact absurd (hiff.1 h) hit
            rw [e]
            have HIT := Lib.hid hit
            clear hiff hit e
            go_wp2
            go_roundw
            case rel => exact ⟨i + 1, by omega, by go_num, by have h1 := HMT.out; have h2 := HIT.out; rw [show min (i + 1) t = mt by omega], by first | rfl | trivial⟩
            case measure => simp [intOf]; omega
    · obtain rfl : i = n := by omega
      have e : min i t = t := by have := HLE.out; omega
      rw [e]
      clear e
      go_wp2
      go_ret
      exact ⟨t, M, rfl, HST.out, HB.out⟩
end Go.Proofs.Ytojaekhplohbjaa.Sol
/- law04: what its walks share. -/
namespace Go.Proofs.Ytojaekhplohbjaa.Sol
open Go Go.RowKit Go.Proofs.Ytojaekhplohbjaa.Gi Go.Proofs.Ytojaekhplohbjaa.Gf Go.Proofs.Ytojaekhplohbjaa.Mem Go.Proofs.Ytojaekhplohbjaa.Bits Go.Proofs.Ytojaekhplohbjaa.Rws Go.Proofs.YtojaekhplohbjaaW.PrintWords
set_option linter.unusedVariables false

theorem of_mat (n m c : Nat) (A : Option Addr) (C : Mtx) (w : World) (h : Kd.C kRow w A n (mat n m C)) (hc : n ≤ c) (hC : BytM C) (h1 : 1 ≤ n) (h2 : n ≤ 64) (h3 : 1 ≤ m) (h4 : m ≤ 64) :
    Calls Try.prog 8 #[.slice A n c] w fun e w' => ∃ b s cap, e = .returned (.tuple #[.pointer (some ⟨b, 0, none⟩), .int .i64 0]) ∧ Mat.MatIn w' b s n m cap (Mat.flat (mat n m C)) ∧ Below w.heap.size w w' := by
  have e : ((mat n m C).getD 0 []).length = m := by rw [mat_get n m C 0 (by omega), line_len]
  have h := Mat.of_right A c (mat n m C) w w (Below.refl _ _) (show Mat.RowsC w A (mat n m C) by show Kd.C _ w A (mat n m C).length _; rw [mat_len]; exact h) (mat_right n m C h1 h2 h3 h4) (mat_bytes n m hC) (by rw [mat_len]; exact hc)
  rw [mat_len, e] at h
  refine h.mono ?_
  rintro e w' ⟨b, s, cap, rfl, hm, hb, _, _⟩
  exact ⟨b, s, cap, rfl, hm, hb⟩
theorem small_yes (n m c : Nat) (A : Option Addr) (C : Mtx) (w : World) (h : Kd.C kRow w A n (mat n m C)) (hc : n ≤ c) (h1 : 1 ≤ n) (h2 : n ≤ 9) (h3 : 1 ≤ m) (h4 : m ≤ 9) :
    Calls Try.prog 6 #[.slice A n c] w fun e w' => e = .returned (.bool true) ∧ Below w.heap.size w w' := by
  have e : ((mat n m C).getD 0 []).length = m := by rw [mat_get n m C 0 (by omega), line_len]
  have h := small4_calls A c (mat n m C) true w (show Mat.RowsC w A (mat n m C) by show Kd.C _ w A (mat n m C).length _; rw [mat_len]; exact h) (by rw [mat_len]; exact hc) (decide_eq_true ⟨mat_right n m C h1 (by omega) h3 (by omega), by rw [mat_len]; exact h2, by rw [e]; exact h4⟩)
  rw [mat_len] at h
  exact h
theorem same_yes (n m c0 c1 : Nat) (A0 A1 : Option Addr) (X Y : Mtx) (w : World) (hX : Kd.C kRow w A0 n (mat n m X)) (hY : Kd.C kRow w A1 n (mat n m Y)) (bX : BytM X) (bY : BytM Y) (hn : n ≤ 1000) (he : ∀ i, i < n → ∀ j, j < m → X i j = Y i j) :
    Calls Try.prog 10 #[.slice A0 n c0, .slice A1 n c1] w fun e w' => e = .returned (.bool true) ∧ Below w.heap.size w w' := by
  have h := Rws.ref_same A0 A1 c0 c1 (mat n m X) (mat n m Y) w (by rw [Rws.RowsC, mat_len]; exact hX) (by rw [Rws.RowsC, mat_len]; exact hY) (fun l hl => by obtain ⟨i, _, rfl⟩ := List.mem_map.1 hl; exact line_byt m _ (bX i)) (fun l hl => by obtain ⟨i, _, rfl⟩ := List.mem_map.1 hl; exact line_byt m _ (bY i)) (by rw [mat_len]; omega) (by rw [mat_len]; omega)
  rw [mat_len, mat_len, decide_eq_true (mat_congr n m X Y he)] at h
  refine h.mono ?_
  rintro e w' ⟨rfl, q, rfl⟩
  exact ⟨rfl, pw_below_drewN (Below.refl _ _) q⟩
/-- Rows alike in length are a matrix's. -/
theorem rows_mat (ls : List (List Int)) (m : Nat) (h : ∀ l ∈ ls, l.length = m) : mat ls.length m (fun i j => (ls.getD i []).getD j 0) = ls := by
  refine List.ext_getElem (by rw [mat_len]) (fun i h1 h2 => ?_)
  simp only [mat, List.getElem_map, List.getElem_range]
  have hi : ls.getD i [] = ls[i] := by rw [List.getD_eq_getElem?_getD, List.getElem?_eq_getElem h2]; rfl
  have hl : ls[i].length = m := h _ (List.getElem_mem h2)
  rw [hi]
  refine List.ext_getElem (by rw [line_len, hl]) (fun j h3 h4 => ?_)
  simp [line, List.getD_eq_getElem?_getD, h4]
theorem rows_byt {ls : List (List Int)} (h : ∀ l ∈ ls, ∀ x ∈ l, Byt x) : BytM (fun i j => (ls.getD i []).getD j 0) := fun i j => getD_byt (fun x hx => by
  rw [List.getD_eq_getElem?_getD] at hx
  rcases Nat.lt_or_ge i ls.length with hi | hi
  · rw [List.getElem?_eq_getElem hi] at hx
    exact h _ (List.getElem_mem hi) x hx
  · rw [List.getElem?_eq_none hi] at hx; cases hx) j
theorem rows4_in (b s cap n m : Nat) (xs : List Int) (w : World) (h : Mat.MatIn w b s n m cap xs) :
    Calls Try.prog 11 #[.pointer (some ⟨b, 0, none⟩)] w fun e w' => ∃ A c1, e = .returned (.slice A n c1) ∧ n ≤ c1 ∧ Kd.C kRow w' A n (mat n m (mx m xs)) ∧ Below w.heap.size w w' :=
  rows4_any _ n m xs w ⟨b, s, cap, rfl, h⟩
theorem rank_b (b s cap n m : Nat) (xs : List Int) (w : World) (h : Mat.MatIn w b s n m cap xs) :
    Calls Try.prog 13 #[.pointer (some ⟨b, 0, none⟩)] w (RankPost n m (augM m (mx m xs) (mx m xs)) w) :=
  (rank_any b s cap n m xs w h).mono fun e w' h => h
theorem rsteps_C (n m c0 : Nat) (A : Option Addr) (M0 : Mtx) (w : World) (hC : Kd.C kRow w A n (mat n m M0)) (h0 : BytM M0) (hn1 : 1 ≤ n) (hn : n ≤ 1000) (hm1 : 1 ≤ m) (hm : m ≤ 1000) :
    Calls Try.prog 12 #[.slice A n c0] w fun e w' => ∃ A1 c1 t M, e = .returned (.slice A1 n c1) ∧ Kd.C kRow w' A1 n (mat n m M) ∧ StepsTo n M0 m t M ∧ Below w.heap.size w w' := by
  refine (steps_any n m c0 A M0 w hC h0 hn1 hn hm1 hm).mono ?_
  rintro e w' ⟨u, t, M, rfl, hu, hst, hb⟩
  obtain ⟨A1, c1, e1, _, hC1⟩ := Kd.R_reads hu
  rw [mat_len] at e1 hC1
  subst e1
  exact ⟨A1, c1, t, M, rfl, hC1, hst, hb⟩
end Go.Proofs.Ytojaekhplohbjaa.Sol
/- The printed product of the document's answer is the plain one. -/
namespace Go.Proofs.Ytojaekhplohbjaa.BMul
open Go Go.RowKit Go.Proofs.Ytojaekhplohbjaa.PMul Go.Proofs.Ytojaekhplohbjaa.Gf Go.Proofs.Ytojaekhplohbjaa.Bits Go.Proofs.YtojaekhplohbjaaW.PrintWords Go.Proofs.YtojaekhplohbjaaW.PrintLast

theorem ref_bit (i : Nat) : ∀ (k n : Nat), n < 9223372036854775808 → i < 64 → i < k → coldframeref02_bit.f k n i = some ((n / 2 ^ i % 2 : Nat) : Int) := by
  induction i with
  | zero =>
    intro k n hn hi hk
    obtain ⟨k, rfl⟩ : ∃ m, k = m + 1 := ⟨k - 1, by omega⟩
    simp only [coldframeref02_bit.f, coldframeref02_bit.l0]
    rw [if_neg (by omega), Int.tmod_eq_emod_of_nonneg (by omega)]
    congr 1; simp
  | succ i ih =>
    intro k n hn hi hk
    obtain ⟨k, rfl⟩ : ∃ m, k = m + 1 := ⟨k - 1, by omega⟩
    simp only [coldframeref02_bit.f, coldframeref02_bit.l0]
    have e1 : wrap64 (Int.tdiv (n : Int) 2) = ((n / 2 : Nat) : Int) := by
      rw [Int.tdiv_eq_ediv_of_nonneg (by omega), wrap64_in _ (by omega) (by omega)]; omega
    have e2 : wrap64 (((i + 1 : Nat) : Int) - 1) = (i : Int) := by rw [wrap64_in _ (by omega) (by omega)]; omega
    rw [if_pos (by omega), e1, e2]
    have := ih k (n / 2) (by omega) (by omega) (by omega)
    simp only [coldframeref02_bit.f] at this
    rw [this, Nat.div_div_eq_div_mul, Nat.pow_succ, Nat.mul_comm 2]

theorem ref_power (i : Nat) : ∀ (k p : Nat), p * 2 ^ i < 9223372036854775808 → i < 64 → i < k → coldframeref02_power.l0 k i p = some ((p * 2 ^ i : Nat) : Int) := by
  induction i with
  | zero =>
    intro k p hp hi hk
    obtain ⟨k, rfl⟩ : ∃ m, k = m + 1 := ⟨k - 1, by omega⟩
    simp only [coldframeref02_power.l0]
    rw [if_neg (by omega)]
    congr 1; simp
  | succ i ih =>
    intro k p hp hi hk
    obtain ⟨k, rfl⟩ : ∃ m, k = m + 1 := ⟨k - 1, by omega⟩
    simp only [coldframeref02_power.l0]
    have hpos : 0 < 2 ^ i := Nat.two_pow_pos i
    have hle : p * 2 ≤ p * 2 ^ (i + 1) := by
      rw [Nat.pow_succ]; exact Nat.mul_le_mul_left p (by omega)
    have e1 : wrap64 ((p : Int) * 2) = ((p * 2 : Nat) : Int) := by
      rw [wrap64_in _ (by omega) (by omega)]; omega
    have e2 : wrap64 (((i + 1 : Nat) : Int) - 1) = (i : Int) := by rw [wrap64_in _ (by omega) (by omega)]; omega
    have e3 : p * 2 * 2 ^ i = p * 2 ^ (i + 1) := by rw [Nat.pow_succ, Nat.mul_assoc, Nat.mul_comm 2]
    rw [if_pos (by omega), e1, e2, ih k (p * 2) (by omega) (by omega) (by omega), e3]

theorem ref_pow2 (i k : Nat) (hi : i < 62) (hk : i < k) : coldframeref02_power.f k i = some ((2 ^ i : Nat) : Int) := by
  unfold coldframeref02_power.f
  have hp : 2 ^ i ≤ 2 ^ 61 := Nat.pow_le_pow_right (by decide) (by omega)
  have := ref_power i k 1 (by omega) (by omega) hk
  simpa using this

theorem ref_down (n : Nat) : ∀ (k p : Nat), n ≤ 7 → p < 2 ^ 15 → 40 ≤ k → coldframeref02_Mul.l1 (k + n) p ((n : Int) + 7) = some ((redA n p % 256 : Nat) : Int) := by
  induction n with
  | zero =>
    intro k p hn hp hk
    obtain ⟨k, rfl⟩ : ∃ m, k = m + 1 := ⟨k - 1, by omega⟩
    simp only [coldframeref02_Mul.l1, redA]
    rw [if_neg (by omega)]
    congr 1
  | succ n ih =>
    intro k p hn hp hk
    rw [show k + (n + 1) = (k + n) + 1 from rfl]
    simp only [coldframeref02_Mul.l1, redA]
    have e0 : ((n + 1 : Nat) : Int) + 7 = ((n + 8 : Nat) : Int) := by omega
    have e1 : wrap64 (((n + 8 : Nat) : Int) - 8) = (n : Int) := by rw [wrap64_in _ (by omega) (by omega)]; omega
    have e2 : wrap64 (((n + 8 : Nat) : Int) - 1) = (n : Int) + 7 := by rw [wrap64_in _ (by omega) (by omega)]; omega
    rw [e0, if_pos (by omega), ref_bit (n + 8) _ p (by omega) (by omega) (by omega)]
    simp only [bnd]
    rw [e1, e2]
    rcases bit01 (p / 2 ^ (n + 8)) with h | h
    · rw [if_neg (by omega), h, Nat.zero_mul, Nat.xor_zero, ih k p (by omega) hp hk]
    · have hq : 2 ^ n ≤ 2 ^ 6 := Nat.pow_le_pow_right (by decide) (by omega)
      have hm : 285 * 2 ^ n ≤ 285 * 2 ^ 6 := Nat.mul_le_mul_left 285 hq
      have hm' : 285 * 2 ^ n < 2 ^ 15 := Nat.lt_of_le_of_lt hm (by decide)
      have e3 : wrap64 (285 * ((2 ^ n : Nat) : Int)) = ((285 * 2 ^ n : Nat) : Int) := by
        show wrap64 (((285 : Nat) : Int) * ((2 ^ n : Nat) : Int)) = _
        rw [← Int.natCast_mul]; exact wrap64_nat _ (Nat.lt_of_lt_of_le hm' (by decide))
      rw [if_pos (by omega), ref_pow2 n _ (by omega) (by omega)]
      simp only [bnd]
      have hx : p ^^^ 285 * 2 ^ n < 2 ^ 15 := Nat.xor_lt_two_pow hp hm'
      rw [e3, xor_i64 p (285 * 2 ^ n) (Nat.lt_of_lt_of_le hp (by decide)) (Nat.lt_of_lt_of_le hm' (by decide)), h, Nat.one_mul, ih k _ (by omega) hx hk]

theorem ref_up (n : Nat) : ∀ (k a b p i : Nat), n + i = 8 → a < 256 → b < 256 → p < 2 ^ 15 → 60 ≤ k →
    coldframeref02_Mul.l0 (k + n) a b p i = some ((redA 7 (clA n (b / 2 ^ i) p (a * 2 ^ i)) % 256 : Nat) : Int) := by
  induction n with
  | zero =>
    intro k a b p i hi ha hb hp hk
    obtain ⟨k, rfl⟩ : ∃ m, k = m + 7 + 1 := ⟨k - 8, by omega⟩
    simp only [coldframeref02_Mul.l0, clA]
    rw [if_neg (by omega)]
    exact ref_down 7 k p (by omega) hp (by omega)
  | succ n ih =>
    intro k a b p i hi ha hb hp hk
    rw [show k + (n + 1) = (k + n) + 1 from rfl]
    simp only [coldframeref02_Mul.l0, clA]
    have e2 : wrap64 ((i : Int) + 1) = ((i + 1 : Nat) : Int) := by rw [wrap64_in _ (by omega) (by omega)]; omega
    have e4 : b / 2 ^ i / 2 = b / 2 ^ (i + 1) := by rw [Nat.div_div_eq_div_mul, Nat.pow_succ]
    have e5 : a * 2 ^ i * 2 = a * 2 ^ (i + 1) := by rw [Nat.pow_succ, Nat.mul_assoc]
    rw [if_pos (by omega), wrap64_nat b (by omega), wrap64_nat a (by omega), ref_bit i _ b (by omega) (by omega) (by omega)]
    simp only [bnd]
    rw [e2, e4, e5]
    rcases bit01 (b / 2 ^ i) with h | h
    · rw [if_neg (by omega), h, Nat.zero_mul, Nat.xor_zero, ih k a b p (i + 1) (by omega) ha hb hp hk]
    · have hq : 2 ^ i ≤ 2 ^ 7 := Nat.pow_le_pow_right (by decide) (by omega)
      have hm : a * 2 ^ i ≤ 255 * 2 ^ 7 := Nat.mul_le_mul (by omega) hq
      have hm' : a * 2 ^ i < 2 ^ 15 := Nat.lt_of_le_of_lt hm (by decide)
      have e3 : wrap64 ((a : Int) * ((2 ^ i : Nat) : Int)) = ((a * 2 ^ i : Nat) : Int) := by
        rw [← Int.natCast_mul]; exact wrap64_nat _ (Nat.lt_of_lt_of_le hm' (by decide))
      rw [if_pos (by omega), ref_pow2 i _ (by omega) (by omega)]
      simp only [bnd]
      have hx : p ^^^ a * 2 ^ i < 2 ^ 15 := Nat.xor_lt_two_pow hp hm'
      rw [e3, xor_i64 p (a * 2 ^ i) (Nat.lt_of_lt_of_le hp (by decide)) (Nat.lt_of_lt_of_le hm' (by decide)), h, Nat.one_mul, ih k a b _ (i + 1) (by omega) ha hb hx hk]

theorem ref_mul (k a b : Nat) (ha : a < 256) (hb : b < 256) (hk : 68 ≤ k) : coldframeref02_Mul.f k a b = some ((gm a b : Nat) : Int) := by
  unfold coldframeref02_Mul.f
  obtain ⟨k, rfl⟩ : ∃ m, k = m + 8 := ⟨k - 8, by omega⟩
  have h := ref_up 8 k a b 0 0 (by omega) ha hb (by omega) (by omega)
  have h1 := ref_eq a b ha hb
  have h2 := gm_lt a b ha
  simp only [Nat.pow_zero, Nat.div_one, Nat.mul_one, h1, Nat.mod_eq_of_lt h2] at h
  exact h
end Go.Proofs.Ytojaekhplohbjaa.BMul
