/- The statement SolveDets: what its proof rests on, part 2 of 3. -/
import Derived.Test.YtojaekhplohbjaaProg
import Derived.Below
import Derived.Deep.Draws
import Derived.Deep.AppendLies
import Derived.Maps.AppendAt
import Derived.OwnWalk
import Derived.Laws.BytesArg
import Derived.Laws.MakeOwn
import Derived.Laws.OwnMore
import Derived.Deep.OwnRows
import Derived.Tactics
import Derived.Lib.ConvBytes
import Derived.Laws.Slices
import Derived.WalkKit
import Derived.KernelRfl
import Derived.RowKit3
import Derived.Deep.LoopGhost
import Derived.Deep.QuietTactic
import Derived.BigQuiet
import Derived.WideLaws
import Derived.Deep.DeepCutAuto
import Derived.Deep.CutBlock
import Derived.Deep.RegionHeld3
import Derived.Laws.Rows
import Derived.Lib.AppendStr
import Derived.ArgAppend
import Derived.Laws.IdiomCopy
import Derived.OrdersHeld
import Derived.Laws.BitsLemmas
import Derived.RowKit
import Derived.Lib.Hide
import Derived.WalkSpells
import Derived.StillTailTactics
import Derived.Outline
import Derived.Lib.Strings
import Derived.Test.YtojaekhplohbjaaPsmallx1
import Derived.Test.YtojaekhplohbjaaPStepsx1
import Derived.Test.YtojaekhplohbjaaZSolveDetsa
/- solve: swap, clear. -/
namespace Go.Proofs.Ytojaekhplohbjaa.Sol
open Go Go.RowKit Go.Proofs.Ytojaekhplohbjaa.Gi Go.Proofs.Ytojaekhplohbjaa.Mem Go.Proofs.Ytojaekhplohbjaa.Bits Go.Proofs.Ytojaekhplohbjaa.Rws Go.Proofs.YtojaekhplohbjaaW.PrintWords
set_option linter.unusedVariables false

theorem joinW {G : Prop} (Inv : World → Prop) {C : World → Prop} (h1 : (∀ w, Inv w → C w) → G) (h2 : ∀ w, Inv w → C w) : G := h1 h2
/-- Two rows in each other's place. -/
def swpR {α : Type} (R : Nat → α) (i k : Nat) : Nat → α := fun q => if q = k then R i else if q = i then R k else R q
theorem Grid.head2 {w : World} {lo hi n m g c : Nat} {R : Nat → Value} {M : Mtx} (h : Grid w lo hi (.slice (some ⟨g, 0, none⟩) n c) n m R M) (i k : Nat) (hi' : i < n) (hk : k < n) :
    (w.setCell ⟨g, i, none⟩ (R k)).cell? ⟨g, k, none⟩ = some (R k) ∧ (w.setCell ⟨g, i, none⟩ (R k)).frozen? ⟨g, k, none⟩ = false := by
  have h1 := (h.hd.stored i (R k)).1
  refine ⟨?_, h1.frozenAt k⟩
  rw [h1.cellAt k (by omega), heads_set n R i hi', heads_get n _ k hk]
  split <;> rfl
theorem Grid.insd {w : World} {lo hi n m g c : Nat} {R : Nat → Value} {M : Mtx} (h : Grid w lo hi (.slice (some ⟨g, 0, none⟩) n c) n m R M) (i k : Nat) (u u' : Value) : w.grownBy ((w.setCell ⟨g, i, none⟩ u).setCell ⟨g, k, none⟩ u') (some g) :=
  World.grownBy.trans (h.hd.stored i u).2 ((h.hd.stored i u).1.stored k u').2
/-- What the two exchanges come to. -/
theorem swap_end {w W W9 : World} {lo mid top p n m q i k g cg g' cg' b1 c1 b2 c2 b3 c3 b4 c4 : Nat} {va vb : Value} {Ra Rb : Nat → Value} {C : Mtx}
    (HE : Ra i = .slice (some ⟨b1, 0, none⟩) m c1 ∧ Ra k = .slice (some ⟨b2, 0, none⟩) m c2 ∧ Rb i = .slice (some ⟨b3, 0, none⟩) q c3 ∧ Rb k = .slice (some ⟨b4, 0, none⟩) q c4)
    (H : Work w lo mid top p va vb n m q Ra Rb C) (HBK : Blk W p 51 #[.slice (some ⟨g, 0, none⟩) n cg, .slice (some ⟨g', 0, none⟩) n cg']) (HG : w.grownBy W (some g))
    (HW1 : Grid W lo mid (.slice (some ⟨g, 0, none⟩) n cg) n m (fun r => if r = k then .slice (some ⟨b1, 0, none⟩) m c1 else if r = i then .slice (some ⟨b2, 0, none⟩) m c2 else Ra r) (fun r => if r = k then C i else if r = i then C k else C r))
    (HW2 : Grid W9 mid top (.slice (some ⟨g', 0, none⟩) n cg') n q (fun r => if r = k then .slice (some ⟨b3, 0, none⟩) q c3 else if r = i then .slice (some ⟨b4, 0, none⟩) q c4 else Rb r) (fun r => if r = k then (fun j => C i (m + j)) else if r = i then (fun j => C k (m + j)) else fun j => C r (m + j)) ∧ W.grownBy W9 (some g'))
    (hgl : lo ≤ g) (hgh : g < mid) (hgl' : mid ≤ g') (hgh' : g' < top) :
    Ending.returned (.tuple #[]) = Ending.returned (.tuple #[]) ∧ Work W9 lo mid top p (.slice (some ⟨g, 0, none⟩) n cg) (.slice (some ⟨g', 0, none⟩) n cg') n m q (swpR Ra i k) (swpR Rb i k) (swpR C i k) ∧ Insd lo top w W9 := by
  have HG2 : W.grownBy W9 (some g') := HW2.2
  have X := (Insd.grown HG hgl (show g < top by have := H.l2; omega)).trans (Insd.grown HG2 (show lo ≤ g' by have := H.l1; omega) hgh')
  have hbk2 := HBK.grown HG2 (fun e => by injection e with e; have := H.l3; omega)
  have h1 := HW1
  rw [← HE.1, ← HE.2.1] at h1
  have h1' := h1.grown HG2 (.inr hgl')
  have h2 := HW2.1
  rw [← HE.2.2.1, ← HE.2.2.2] at h2
  have h2' : Grid W9 mid top (.slice (some ⟨g', 0, none⟩) n cg') n q (swpR Rb i k) (fun r j => swpR C i k r (m + j)) := h2.congr (fun q' _ j _ => by
    unfold swpR
    by_cases e1 : q' = k
    · rw [if_pos e1, if_pos e1]
    · rw [if_neg e1, if_neg e1]
      by_cases e2 : q' = i
      · rw [if_pos e2, if_pos e2]
      · rw [if_neg e2, if_neg e2])
  exact ⟨rfl, ⟨hbk2, h1', h2', H.l1, H.l2, H.l3⟩, X⟩
set_option maxRecDepth 100000 in
set_option maxHeartbeats 2000000 in
theorem swap_any (lo mid top p n m q i k : Nat) (va vb : Value) (Ra Rb : Nat → Value) (C : Mtx) (w : World) (h : Work w lo mid top p va vb n m q Ra Rb C) (hn : n ≤ 1000000) (hi : i < n) (hk : k < n) (hm : 1 ≤ m) (hq : 1 ≤ q) :
    Calls Try.prog 36 #[.pointer (some ⟨p, 0, none⟩), .int .i64 i, .int .i64 k] w fun e w' => e = .returned (.tuple #[]) ∧ Work w' lo mid top p va vb n m q (swpR Ra i k) (swpR Rb i k) (swpR C i k) ∧ Insd lo top w w' := by
  obtain ⟨g, cg, rfl, _, hgl, hgh, _⟩ := h.ga.form (by omega)
  obtain ⟨g', cg', rfl, _, hgl', hgh', _⟩ := h.gb.form (by omega)
  obtain ⟨hva, hvb⟩ := h.cells
  obtain ⟨b1, c1, e1, _⟩ := h.ga.rform (by omega) i hi
  obtain ⟨b2, c2, e2, _⟩ := h.ga.rform (by omega) k hk
  obtain ⟨b3, c3, e3, _⟩ := h.gb.rform (by omega) i hi
  obtain ⟨b4, c4, e4, _⟩ := h.gb.rform (by omega) k hk
  have z1 := (h.ga.head i hi).1
  have z2 := (h.ga.head k hk).1
  have f1 := (h.ga.head i hi).2
  have f2 := (h.ga.head k hk).2
  rw [e1] at z1
  rw [e2] at z2
  have g0 : (0 : Int) ≤ (i : Int) := by omega
  have g1 : (i : Int) < (n : Int) := by omega
  have g2 : (0 : Int) ≤ (k : Int) := by omega
  have g3 : (k : Int) < (n : Int) := by omega
  have H := Lib.hid h
  have HE := Lib.hid (And.intro e1 (And.intro e2 (And.intro e3 e4)))
  obtain ⟨y1, y2⟩ := h.ga.head2 i k hi hk
  have HW1 := Lib.hid (And.intro (h.ga.swap i k hi hk) (h.ga.insd i k (Ra k) (Ra i)))
  have hpg : p ≠ g := by have := h.l2; have := h.l3; omega
  have sv1 := (World.cell?_setCell_other w ⟨g, i, none⟩ ⟨p, 0, none⟩ (.slice (some ⟨b2, 0, none⟩) m c2) (fun e => hpg (by injection e with e1; exact e1.symm))).trans hva
  have sv2 := (World.cell?_setCell_other (w.setCell ⟨g, i, none⟩ (.slice (some ⟨b2, 0, none⟩) m c2)) ⟨g, k, none⟩ ⟨p, 0, none⟩ (.slice (some ⟨b1, 0, none⟩) m c1) (fun e => hpg (by injection e with e1; exact e1.symm))).trans sv1
  rw [e2] at y1 y2
  rw [e1, e2] at HW1
  clear h e1 e2 e3 e4
  go_enter Try.func36, Try.ntmps36
  go_wp2
  go_upto_region 0 with (fail)
  apply joinW (fun W => W = ((w.setCell ⟨g, i, none⟩ (.slice (some ⟨b2, 0, none⟩) m c2)).setCell ⟨g, k, none⟩ (.slice (some ⟨b1, 0, none⟩) m c1)).drew)
  · intro REST
    refine wp_region_noPanic ?_
    refine wp_region_held_drew (S := (fun W => W.cell? ⟨p, 0, none⟩ = some (.slice (some ⟨g, 0, none⟩) n cg))) (by kernel_rfl) ?_ (fun hHeld => ?_)
    · ((try dsimp only); first | exact hva | exact sv1 | exact sv2)
    refine wpAnyH_take (i := 0) (oi := { dst := some 6, op := Go.Op.move (Go.Operand.tmp 0), type := 46, pos := "solve.go:52", after := #[], guard := none }) (v := ?_) rfl (by kernel_rfl) (by kernel_rfl) (by kernel_rfl) (fun _ _ _ h => h) (Or.inl ⟨by rfl, ?_⟩) (by assumption) ?_
    rotate_left 1
    · (intro w hSw; (try dsimp only at hSw); go_simp; try with_reducible rfl)
    try simp only [Act.put, List.setIfInBounds_toArray, List.set_cons_zero, List.set_cons_succ]
    refine wpAnyH_take (i := 1) (oi := { dst := some 7, op := Go.Op.nilCheck (Go.Operand.tmp 6), type := 0, pos := "solve.go:52", after := #[{ on := 0, ground := Go.Ground.data }], guard := none }) (v := ?_) rfl (by kernel_rfl) (by kernel_rfl) (by kernel_rfl) (fun _ _ _ h => h) (Or.inl ⟨by rfl, ?_⟩) (by assumption) ?_
    rotate_left 1
    · (intro w hSw; (try dsimp only at hSw); go_simp; try with_reducible rfl)
    try simp only [Act.put, List.setIfInBounds_toArray, List.set_cons_zero, List.set_cons_succ]
    refine wpAnyH_take (i := 2) (oi := { dst := some 8, op := Go.Op.fieldAddr 51 (Go.Operand.tmp 7) 0, type := 0, pos := "solve.go:52", after := #[{ on := 1, ground := Go.Ground.data }], guard := none }) (v := ?_) rfl (by kernel_rfl) (by kernel_rfl) (by kernel_rfl) (fun _ _ _ h => h) (Or.inl ⟨by rfl, ?_⟩) (by assumption) ?_
    rotate_left 1
    · (intro w hSw; (try dsimp only at hSw); go_simp; try with_reducible rfl)
    try simp only [Act.put, List.setIfInBounds_toArray, List.set_cons_zero, List.set_cons_succ]
    refine wpAnyH_take (i := 3) (oi := { dst := some 9, op := Go.Op.load 22 (Go.Operand.tmp 8), type := 22, pos := "solve.go:52", after := #[{ on := 2, ground := Go.Ground.data }], guard := none }) (v := ?_) rfl (by kernel_rfl) (by kernel_rfl) (by kernel_rfl) (fun _ _ _ h => h) (Or.inl ⟨by rfl, ?_⟩) (by assumption) ?_
    rotate_left 1
    · (intro w hSw; (try dsimp only at hSw); go_simp; try with_reducible rfl)
    try simp only [Act.put, List.setIfInBounds_toArray, List.set_cons_zero, List.set_cons_succ]
    refine wpAnyH_take (i := 4) (oi := { dst := some 10, op := Go.Op.move (Go.Operand.tmp 1), type := 3, pos := "solve.go:52", after := #[], guard := none }) (v := ?_) rfl (by kernel_rfl) (by kernel_rfl) (by kernel_rfl) (fun _ _ _ h => h) (Or.inl ⟨by rfl, ?_⟩) (by assumption) ?_
    rotate_left 1
    · (intro w hSw; (try dsimp only at hSw); go_simp; try with_reducible rfl)
    try simp only [Act.put, List.setIfInBounds_toArray, List.set_cons_zero, List.set_cons_succ]
    refine wpAnyH_take (i := 5) (oi := { dst := some 11, op := Go.Op.move (Go.Operand.tmp 0), type := 46, pos := "solve.go:52", after := #[], guard := none }) (v := ?_) rfl (by kernel_rfl) (by kernel_rfl) (by kernel_rfl) (fun _ _ _ h => h) (Or.inl ⟨by rfl, ?_⟩) (by assumption) ?_
    rotate_left 1
    · (intro w hSw; (try dsimp only at hSw); go_simp; try with_reducible rfl)
    try simp only [Act.put, List.setIfInBounds_toArray, List.set_cons_zero, List.set_cons_succ]
    refine wpAnyH_take (i := 6) (oi := { dst := some 12, op := Go.Op.nilCheck (Go.Operand.tmp 11), type := 0, pos := "solve.go:52", after := #[{ on := 5, ground := Go.Ground.data }], guard := none }) (v := ?_) rfl (by kernel_rfl) (by kernel_rfl) (by kernel_rfl) (fun _ _ _ h => h) (Or.inl ⟨by rfl, ?_⟩) (by assumption) ?_
    rotate_left 1
    · (intro w hSw; (try dsimp only at hSw); go_simp; try with_reducible rfl)
    try simp only [Act.put, List.setIfInBounds_toArray, List.set_cons_zero, List.set_cons_succ]
    refine wpAnyH_take (i := 7) (oi := { dst := some 13, op := Go.Op.fieldAddr 51 (Go.Operand.tmp 12) 0, type := 0, pos := "solve.go:52", after := #[{ on := 6, ground := Go.Ground.data }], guard := none }) (v := ?_) rfl (by kernel_rfl) (by kernel_rfl) (by kernel_rfl) (fun _ _ _ h => h) (Or.inl ⟨by rfl, ?_⟩) (by assumption) ?_
    rotate_left 1
    · (intro w hSw; (try dsimp only at hSw); go_simp; try with_reducible rfl)
    try simp only [Act.put, List.setIfInBounds_toArray, List.set_cons_zero, List.set_cons_succ]
    refine wpAnyH_take (i := 8) (oi := { dst := some 14, op := Go.Op.load 22 (Go.Operand.tmp 13), type := 22, pos := "solve.go:52", after := #[{ on := 7, ground := Go.Ground.data }], guard := none }) (v := ?_) rfl (by kernel_rfl) (by kernel_rfl) (by kernel_rfl) (fun _ _ _ h => h) (Or.inl ⟨by rfl, ?_⟩) (by assumption) ?_
    rotate_left 1
    · (intro w hSw; (try dsimp only at hSw); go_simp; try with_reducible rfl)
    try simp only [Act.put, List.setIfInBounds_toArray, List.set_cons_zero, List.set_cons_succ]
    refine wpAnyH_take (i := 9) (oi := { dst := some 15, op := Go.Op.move (Go.Operand.tmp 2), type := 3, pos := "solve.go:52", after := #[{ on := 25, ground := Go.Ground.gcOnly Go.Departure.lateStores }], guard := none }) (v := ?_) rfl (by kernel_rfl) (by kernel_rfl) (by kernel_rfl) (fun _ _ _ h => h) (Or.inl ⟨by rfl, ?_⟩) (by assumption) ?_
    rotate_left 1
    · (intro w hSw; (try dsimp only at hSw); go_simp; try with_reducible rfl)
    try simp only [Act.put, List.setIfInBounds_toArray, List.set_cons_zero, List.set_cons_succ]
    refine wpAnyH_take (i := 10) (oi := { dst := some 16, op := Go.Op.move (Go.Operand.tmp 0), type := 46, pos := "solve.go:52", after := #[], guard := none }) (v := ?_) rfl (by kernel_rfl) (by kernel_rfl) (by kernel_rfl) (fun _ _ _ h => h) (Or.inl ⟨by rfl, ?_⟩) (by assumption) ?_
    rotate_left 1
    · (intro w hSw; (try dsimp only at hSw); go_simp; try with_reducible rfl)
    try simp only [Act.put, List.setIfInBounds_toArray, List.set_cons_zero, List.set_cons_succ]
    refine wpAnyH_take (i := 11) (oi := { dst := some 17, op := Go.Op.nilCheck (Go.Operand.tmp 16), type := 0, pos := "solve.go:52", after := #[{ on := 10, ground := Go.Ground.data }], guard := none }) (v := ?_) rfl (by kernel_rfl) (by kernel_rfl) (by kernel_rfl) (fun _ _ _ h => h) (Or.inl ⟨by rfl, ?_⟩) (by assumption) ?_
    rotate_left 1
    · (intro w hSw; (try dsimp only at hSw); go_simp; try with_reducible rfl)
    try simp only [Act.put, List.setIfInBounds_toArray, List.set_cons_zero, List.set_cons_succ]
    refine wpAnyH_take (i := 12) (oi := { dst := some 18, op := Go.Op.fieldAddr 51 (Go.Operand.tmp 17) 0, type := 0, pos := "solve.go:52", after := #[{ on := 11, ground := Go.Ground.data }], guard := none }) (v := ?_) rfl (by kernel_rfl) (by kernel_rfl) (by kernel_rfl) (fun _ _ _ h => h) (Or.inl ⟨by rfl, ?_⟩) (by assumption) ?_
    rotate_left 1
    · (intro w hSw; (try dsimp only at hSw); go_simp; try with_reducible rfl)
    try simp only [Act.put, List.setIfInBounds_toArray, List.set_cons_zero, List.set_cons_succ]
    refine wpAnyH_take (i := 13) (oi := { dst := some 19, op := Go.Op.load 22 (Go.Operand.tmp 18), type := 22, pos := "solve.go:52", after := #[{ on := 12, ground := Go.Ground.data }], guard := none }) (v := ?_) rfl (by kernel_rfl) (by kernel_rfl) (by kernel_rfl) (fun _ _ _ h => h) (Or.inl ⟨by rfl, ?_⟩) (by assumption) ?_
    rotate_left 1
    · (intro w hSw; (try dsimp only at hSw); go_simp; try with_reducible rfl)
    try simp only [Act.put, List.setIfInBounds_toArray, List.set_cons_zero, List.set_cons_succ]
    refine wpAnyH_take (i := 14) (oi := { dst := some 20, op := Go.Op.move (Go.Operand.tmp 2), type := 3, pos := "solve.go:52", after := #[], guard := none }) (v := ?_) rfl (by kernel_rfl) (by kernel_rfl) (by kernel_rfl) (fun _ _ _ h => h) (Or.inl ⟨by rfl, ?_⟩) (by assumption) ?_
    rotate_left 1
    · (intro w hSw; (try dsimp only at hSw); go_simp; try with_reducible rfl)
    try simp only [Act.put, List.setIfInBounds_toArray, List.set_cons_zero, List.set_cons_succ]
    refine wpAnyH_take (i := 15) (oi := { dst := some 21, op := Go.Op.indexAddr 22 (Go.Operand.tmp 19) (Go.Operand.tmp 20), type := 0, pos := "solve.go:52", after := #[{ on := 13, ground := Go.Ground.data }, { on := 14, ground := Go.Ground.data }], guard := none }) (v := ?_) rfl (by kernel_rfl) (by kernel_rfl) (by kernel_rfl) (fun _ _ _ h => h) (Or.inl ⟨by rfl, ?_⟩) (by assumption) ?_
    rotate_left 1
    · (intro w hSw; (try dsimp only at hSw); go_simp; try with_reducible rfl)
    try simp only [Act.put, List.setIfInBounds_toArray, List.set_cons_zero, List.set_cons_succ]
    refine wpAnyH_take (i := 17) (oi := { dst := some 23, op := Go.Op.move (Go.Operand.tmp 0), type := 46, pos := "solve.go:52", after := #[], guard := none }) (v := ?_) rfl (by kernel_rfl) (by kernel_rfl) (by kernel_rfl) (fun _ _ _ h => h) (Or.inl ⟨by rfl, ?_⟩) (by assumption) ?_
    rotate_left 1
    · (intro w hSw; (try dsimp only at hSw); go_simp; try with_reducible rfl)
    try simp only [Act.put, List.setIfInBounds_toArray, List.set_cons_zero, List.set_cons_succ]
    refine wpAnyH_take (i := 18) (oi := { dst := some 24, op := Go.Op.nilCheck (Go.Operand.tmp 23), type := 0, pos := "solve.go:52", after := #[{ on := 17, ground := Go.Ground.data }], guard := none }) (v := ?_) rfl (by kernel_rfl) (by kernel_rfl) (by kernel_rfl) (fun _ _ _ h => h) (Or.inl ⟨by rfl, ?_⟩) (by assumption) ?_
    rotate_left 1
    · (intro w hSw; (try dsimp only at hSw); go_simp; try with_reducible rfl)
    try simp only [Act.put, List.setIfInBounds_toArray, List.set_cons_zero, List.set_cons_succ]
    refine wpAnyH_take (i := 19) (oi := { dst := some 25, op := Go.Op.fieldAddr 51 (Go.Operand.tmp 24) 0, type := 0, pos := "solve.go:52", after := #[{ on := 18, ground := Go.Ground.data }], guard := none }) (v := ?_) rfl (by kernel_rfl) (by kernel_rfl) (by kernel_rfl) (fun _ _ _ h => h) (Or.inl ⟨by rfl, ?_⟩) (by assumption) ?_
    rotate_left 1
    · (intro w hSw; (try dsimp only at hSw); go_simp; try with_reducible rfl)
    try simp only [Act.put, List.setIfInBounds_toArray, List.set_cons_zero, List.set_cons_succ]
    refine wpAnyH_take (i := 20) (oi := { dst := some 26, op := Go.Op.load 22 (Go.Operand.tmp 25), type := 22, pos := "solve.go:52", after := #[{ on := 19, ground := Go.Ground.data }], guard := none }) (v := ?_) rfl (by kernel_rfl) (by kernel_rfl) (by kernel_rfl) (fun _ _ _ h => h) (Or.inl ⟨by rfl, ?_⟩) (by assumption) ?_
    rotate_left 1
    · (intro w hSw; (try dsimp only at hSw); go_simp; try with_reducible rfl)
    try simp only [Act.put, List.setIfInBounds_toArray, List.set_cons_zero, List.set_cons_succ]
    refine wpAnyH_take (i := 21) (oi := { dst := some 27, op := Go.Op.move (Go.Operand.tmp 1), type := 3, pos := "solve.go:52", after := #[], guard := none }) (v := ?_) rfl (by kernel_rfl) (by kernel_rfl) (by kernel_rfl) (fun _ _ _ h => h) (Or.inl ⟨by rfl, ?_⟩) (by assumption) ?_
    rotate_left 1
    · (intro w hSw; (try dsimp only at hSw); go_simp; try with_reducible rfl)
    try simp only [Act.put, List.setIfInBounds_toArray, List.set_cons_zero, List.set_cons_succ]
    refine wpAnyH_take (i := 22) (oi := { dst := some 28, op := Go.Op.indexAddr 22 (Go.Operand.tmp 26) (Go.Operand.tmp 27), type := 0, pos := "solve.go:52", after := #[{ on := 20, ground := Go.Ground.data }, { on := 21, ground := Go.Ground.data }], guard := none }) (v := ?_) rfl (by kernel_rfl) (by kernel_rfl) (by kernel_rfl) (fun _ _ _ h => h) (Or.inl ⟨by rfl, ?_⟩) (by assumption) ?_
    rotate_left 1
    · (intro w hSw; (try dsimp only at hSw); go_simp; try with_reducible rfl)
    try simp only [Act.put, List.setIfInBounds_toArray, List.set_cons_zero, List.set_cons_succ]
    refine wpAnyH_ready (rs := [16, 23]) (by kernel_rfl) (by simp) ?_
    refine AllReadyH.cons (o := { dst := some 22, op := Go.Op.load 36 (Go.Operand.tmp 21), type := 36, pos := "solve.go:52", after := #[{ on := 15, ground := Go.Ground.data }], guard := none }) rfl (fun K hK => ?_) ?_
    · go_simp
      clear hHeld
      refine hK.out _ _ ?_ (fun hHeld => ?_)
      · ((try dsimp only); first | exact hva | exact sv1 | exact sv2)
      clear hK K
      refine wpAnyH_ready (rs := [23]) (by kernel_rfl) (by simp) ?_
      refine AllReadyH.cons (o := { dst := some 29, op := Go.Op.load 36 (Go.Operand.tmp 28), type := 36, pos := "solve.go:52", after := #[{ on := 22, ground := Go.Ground.data }], guard := none }) rfl (fun K hK => ?_) AllReadyH.nil
      go_simp
      clear hHeld
      refine hK.out _ _ ?_ (fun hHeld => ?_)
      · ((try dsimp only); first | exact hva | exact sv1 | exact sv2)
      clear hK K
      refine wpAnyH_take (i := 24) (oi := { dst := some 30, op := Go.Op.indexAddr 22 (Go.Operand.tmp 9) (Go.Operand.tmp 10), type := 0, pos := "solve.go:52", after := #[{ on := 3, ground := Go.Ground.data }, { on := 4, ground := Go.Ground.data }, { on := 0, ground := Go.Ground.phase }, { on := 1, ground := Go.Ground.phase }, { on := 2, ground := Go.Ground.phase }, { on := 3, ground := Go.Ground.phase }, { on := 4, ground := Go.Ground.phase }, { on := 5, ground := Go.Ground.textOnly Go.Departure.lateStores }, { on := 6, ground := Go.Ground.textOnly Go.Departure.lateStoresUnsure }, { on := 7, ground := Go.Ground.textOnly Go.Departure.lateStoresUnsure }, { on := 8, ground := Go.Ground.phase }, { on := 9, ground := Go.Ground.textOnly Go.Departure.lateStores }, { on := 10, ground := Go.Ground.phase }, { on := 11, ground := Go.Ground.phase }, { on := 12, ground := Go.Ground.phase }, { on := 13, ground := Go.Ground.phase }, { on := 14, ground := Go.Ground.phase }, { on := 15, ground := Go.Ground.phase }, { on := 16, ground := Go.Ground.phase }, { on := 17, ground := Go.Ground.textOnly Go.Departure.lateStores }, { on := 18, ground := Go.Ground.textOnly Go.Departure.lateStoresUnsure }, { on := 19, ground := Go.Ground.textOnly Go.Departure.lateStoresUnsure }, { on := 20, ground := Go.Ground.phase }, { on := 21, ground := Go.Ground.textOnly Go.Departure.lateStores }, { on := 22, ground := Go.Ground.textOnly Go.Departure.lateStoresUnsure }, { on := 23, ground := Go.Ground.phase }], guard := none }) (v := ?_) rfl (by kernel_rfl) (by kernel_rfl) (by kernel_rfl) (fun _ _ _ h => h) (Or.inl ⟨by rfl, ?_⟩) (by assumption) ?_
      rotate_left 1
      · (intro w hSw; (try dsimp only at hSw); go_simp; try with_reducible rfl)
      try simp only [Act.put, List.setIfInBounds_toArray, List.set_cons_zero, List.set_cons_succ]
      refine wpAnyH_ready (rs := [25]) (by kernel_rfl) (by simp) ?_
      refine AllReadyH.cons (o := { dst := none, op := Go.Op.store 36 (Go.Operand.tmp 30) (Go.Operand.tmp 22), type := 0, pos := "solve.go:52", after := #[{ on := 24, ground := Go.Ground.data }, { on := 16, ground := Go.Ground.data }, { on := 0, ground := Go.Ground.phase }, { on := 1, ground := Go.Ground.phase }, { on := 2, ground := Go.Ground.phase }, { on := 3, ground := Go.Ground.phase }, { on := 4, ground := Go.Ground.phase }, { on := 5, ground := Go.Ground.textOnly Go.Departure.lateStores }, { on := 6, ground := Go.Ground.textOnly Go.Departure.lateStoresUnsure }, { on := 7, ground := Go.Ground.textOnly Go.Departure.lateStoresUnsure }, { on := 8, ground := Go.Ground.phase }, { on := 9, ground := Go.Ground.textOnly Go.Departure.lateStores }, { on := 10, ground := Go.Ground.phase }, { on := 11, ground := Go.Ground.phase }, { on := 12, ground := Go.Ground.phase }, { on := 13, ground := Go.Ground.phase }, { on := 14, ground := Go.Ground.phase }, { on := 15, ground := Go.Ground.phase }, { on := 16, ground := Go.Ground.phase }, { on := 17, ground := Go.Ground.textOnly Go.Departure.lateStores }, { on := 18, ground := Go.Ground.textOnly Go.Departure.lateStoresUnsure }, { on := 19, ground := Go.Ground.textOnly Go.Departure.lateStoresUnsure }, { on := 20, ground := Go.Ground.phase }, { on := 21, ground := Go.Ground.textOnly Go.Departure.lateStores }, { on := 22, ground := Go.Ground.textOnly Go.Departure.lateStoresUnsure }, { on := 23, ground := Go.Ground.phase }], guard := none }) rfl (fun K hK => ?_) AllReadyH.nil
      go_simp
      clear hHeld
      refine hK.out _ _ ?_ (fun hHeld => ?_)
      · ((try dsimp only); first | exact hva | exact sv1 | exact sv2)
      clear hK K
      refine wpAnyH_take (i := 26) (oi := { dst := some 31, op := Go.Op.indexAddr 22 (Go.Operand.tmp 14) (Go.Operand.tmp 15), type := 0, pos := "solve.go:52", after := #[{ on := 8, ground := Go.Ground.data }, { on := 9, ground := Go.Ground.data }, { on := 0, ground := Go.Ground.phase }, { on := 1, ground := Go.Ground.phase }, { on := 2, ground := Go.Ground.phase }, { on := 3, ground := Go.Ground.phase }, { on := 4, ground := Go.Ground.phase }, { on := 5, ground := Go.Ground.phase }, { on := 6, ground := Go.Ground.phase }, { on := 7, ground := Go.Ground.phase }, { on := 8, ground := Go.Ground.phase }, { on := 9, ground := Go.Ground.phase }, { on := 10, ground := Go.Ground.phase }, { on := 11, ground := Go.Ground.phase }, { on := 12, ground := Go.Ground.phase }, { on := 13, ground := Go.Ground.phase }, { on := 14, ground := Go.Ground.phase }, { on := 15, ground := Go.Ground.phase }, { on := 16, ground := Go.Ground.phase }, { on := 17, ground := Go.Ground.phase }, { on := 18, ground := Go.Ground.phase }, { on := 19, ground := Go.Ground.phase }, { on := 20, ground := Go.Ground.phase }, { on := 21, ground := Go.Ground.phase }, { on := 22, ground := Go.Ground.phase }, { on := 23, ground := Go.Ground.phase }, { on := 24, ground := Go.Ground.phase }, { on := 25, ground := Go.Ground.phase }], guard := none }) (v := ?_) rfl (by kernel_rfl) (by kernel_rfl) (by kernel_rfl) (fun _ _ _ h => h) (Or.inl ⟨by rfl, ?_⟩) (by assumption) ?_
      rotate_left 1
      · (intro w hSw; (try dsimp only at hSw); go_simp; try with_reducible rfl)
      try simp only [Act.put, List.setIfInBounds_toArray, List.set_cons_zero, List.set_cons_succ]
      refine wpAnyH_ready (rs := [27]) (by kernel_rfl) (by simp) ?_
      refine AllReadyH.cons (o := { dst := none, op := Go.Op.store 36 (Go.Operand.tmp 31) (Go.Operand.tmp 29), type := 0, pos := "solve.go:52", after := #[{ on := 26, ground := Go.Ground.data }, { on := 23, ground := Go.Ground.data }, { on := 25, ground := Go.Ground.chain }, { on := 0, ground := Go.Ground.phase }, { on := 1, ground := Go.Ground.phase }, { on := 2, ground := Go.Ground.phase }, { on := 3, ground := Go.Ground.phase }, { on := 4, ground := Go.Ground.phase }, { on := 5, ground := Go.Ground.phase }, { on := 6, ground := Go.Ground.phase }, { on := 7, ground := Go.Ground.phase }, { on := 8, ground := Go.Ground.phase }, { on := 9, ground := Go.Ground.phase }, { on := 10, ground := Go.Ground.phase }, { on := 11, ground := Go.Ground.phase }, { on := 12, ground := Go.Ground.phase }, { on := 13, ground := Go.Ground.phase }, { on := 14, ground := Go.Ground.phase }, { on := 15, ground := Go.Ground.phase }, { on := 16, ground := Go.Ground.phase }, { on := 17, ground := Go.Ground.phase }, { on := 18, ground := Go.Ground.phase }, { on := 19, ground := Go.Ground.phase }, { on := 20, ground := Go.Ground.phase }, { on := 21, ground := Go.Ground.phase }, { on := 22, ground := Go.Ground.phase }, { on := 23, ground := Go.Ground.phase }, { on := 24, ground := Go.Ground.phase }, { on := 25, ground := Go.Ground.phase }], guard := none }) rfl (fun K hK => ?_) AllReadyH.nil
      go_simp
      clear hHeld
      refine hK.out _ _ ?_ (fun hHeld => ?_)
      · ((try dsimp only); first | exact hva | exact sv1 | exact sv2)
      clear hK K
      refine wpAnyH_done (by kernel_rfl) ?_ _
      refine NoPanic.normal ?_
      exact REST _ rfl
    refine AllReadyH.cons (o := { dst := some 29, op := Go.Op.load 36 (Go.Operand.tmp 28), type := 36, pos := "solve.go:52", after := #[{ on := 22, ground := Go.Ground.data }], guard := none }) rfl (fun K hK => ?_) AllReadyH.nil
    go_simp
    clear hHeld
    refine hK.out _ _ ?_ (fun hHeld => ?_)
    · ((try dsimp only); first | exact hva | exact sv1 | exact sv2)
    clear hK K
    refine wpAnyH_ready (rs := [16]) (by kernel_rfl) (by simp) ?_
    refine AllReadyH.cons (o := { dst := some 22, op := Go.Op.load 36 (Go.Operand.tmp 21), type := 36, pos := "solve.go:52", after := #[{ on := 15, ground := Go.Ground.data }], guard := none }) rfl (fun K hK => ?_) AllReadyH.nil
    go_simp
    clear hHeld
    refine hK.out _ _ ?_ (fun hHeld => ?_)
    · ((try dsimp only); first | exact hva | exact sv1 | exact sv2)
    clear hK K
    refine wpAnyH_take (i := 24) (oi := { dst := some 30, op := Go.Op.indexAddr 22 (Go.Operand.tmp 9) (Go.Operand.tmp 10), type := 0, pos := "solve.go:52", after := #[{ on := 3, ground := Go.Ground.data }, { on := 4, ground := Go.Ground.data }, { on := 0, ground := Go.Ground.phase }, { on := 1, ground := Go.Ground.phase }, { on := 2, ground := Go.Ground.phase }, { on := 3, ground := Go.Ground.phase }, { on := 4, ground := Go.Ground.phase }, { on := 5, ground := Go.Ground.textOnly Go.Departure.lateStores }, { on := 6, ground := Go.Ground.textOnly Go.Departure.lateStoresUnsure }, { on := 7, ground := Go.Ground.textOnly Go.Departure.lateStoresUnsure }, { on := 8, ground := Go.Ground.phase }, { on := 9, ground := Go.Ground.textOnly Go.Departure.lateStores }, { on := 10, ground := Go.Ground.phase }, { on := 11, ground := Go.Ground.phase }, { on := 12, ground := Go.Ground.phase }, { on := 13, ground := Go.Ground.phase }, { on := 14, ground := Go.Ground.phase }, { on := 15, ground := Go.Ground.phase }, { on := 16, ground := Go.Ground.phase }, { on := 17, ground := Go.Ground.textOnly Go.Departure.lateStores }, { on := 18, ground := Go.Ground.textOnly Go.Departure.lateStoresUnsure }, { on := 19, ground := Go.Ground.textOnly Go.Departure.lateStoresUnsure }, { on := 20, ground := Go.Ground.phase }, { on := 21, ground := Go.Ground.textOnly Go.Departure.lateStores }, { on := 22, ground := Go.Ground.textOnly Go.Departure.lateStoresUnsure }, { on := 23, ground := Go.Ground.phase }], guard := none }) (v := ?_) rfl (by kernel_rfl) (by kernel_rfl) (by kernel_rfl) (fun _ _ _ h => h) (Or.inl ⟨by rfl, ?_⟩) (by assumption) ?_
    rotate_left 1
    · (intro w hSw; (try dsimp only at hSw); go_simp; try with_reducible rfl)
    try simp only [Act.put, List.setIfInBounds_toArray, List.set_cons_zero, List.set_cons_succ]
    refine wpAnyH_ready (rs := [25]) (by kernel_rfl) (by simp) ?_
    refine AllReadyH.cons (o := { dst := none, op := Go.Op.store 36 (Go.Operand.tmp 30) (Go.Operand.tmp 22), type := 0, pos := "solve.go:52", after := #[{ on := 24, ground := Go.Ground.data }, { on := 16, ground := Go.Ground.data }, { on := 0, ground := Go.Ground.phase }, { on := 1, ground := Go.Ground.phase }, { on := 2, ground := Go.Ground.phase }, { on := 3, ground := Go.Ground.phase }, { on := 4, ground := Go.Ground.phase }, { on := 5, ground := Go.Ground.textOnly Go.Departure.lateStores }, { on := 6, ground := Go.Ground.textOnly Go.Departure.lateStoresUnsure }, { on := 7, ground := Go.Ground.textOnly Go.Departure.lateStoresUnsure }, { on := 8, ground := Go.Ground.phase }, { on := 9, ground := Go.Ground.textOnly Go.Departure.lateStores }, { on := 10, ground := Go.Ground.phase }, { on := 11, ground := Go.Ground.phase }, { on := 12, ground := Go.Ground.phase }, { on := 13, ground := Go.Ground.phase }, { on := 14, ground := Go.Ground.phase }, { on := 15, ground := Go.Ground.phase }, { on := 16, ground := Go.Ground.phase }, { on := 17, ground := Go.Ground.textOnly Go.Departure.lateStores }, { on := 18, ground := Go.Ground.textOnly Go.Departure.lateStoresUnsure }, { on := 19, ground := Go.Ground.textOnly Go.Departure.lateStoresUnsure }, { on := 20, ground := Go.Ground.phase }, { on := 21, ground := Go.Ground.textOnly Go.Departure.lateStores }, { on := 22, ground := Go.Ground.textOnly Go.Departure.lateStoresUnsure }, { on := 23, ground := Go.Ground.phase }], guard := none }) rfl (fun K hK => ?_) AllReadyH.nil
    go_simp
    clear hHeld
    refine hK.out _ _ ?_ (fun hHeld => ?_)
    · ((try dsimp only); first | exact hva | exact sv1 | exact sv2)
    clear hK K
    refine wpAnyH_take (i := 26) (oi := { dst := some 31, op := Go.Op.indexAddr 22 (Go.Operand.tmp 14) (Go.Operand.tmp 15), type := 0, pos := "solve.go:52", after := #[{ on := 8, ground := Go.Ground.data }, { on := 9, ground := Go.Ground.data }, { on := 0, ground := Go.Ground.phase }, { on := 1, ground := Go.Ground.phase }, { on := 2, ground := Go.Ground.phase }, { on := 3, ground := Go.Ground.phase }, { on := 4, ground := Go.Ground.phase }, { on := 5, ground := Go.Ground.phase }, { on := 6, ground := Go.Ground.phase }, { on := 7, ground := Go.Ground.phase }, { on := 8, ground := Go.Ground.phase }, { on := 9, ground := Go.Ground.phase }, { on := 10, ground := Go.Ground.phase }, { on := 11, ground := Go.Ground.phase }, { on := 12, ground := Go.Ground.phase }, { on := 13, ground := Go.Ground.phase }, { on := 14, ground := Go.Ground.phase }, { on := 15, ground := Go.Ground.phase }, { on := 16, ground := Go.Ground.phase }, { on := 17, ground := Go.Ground.phase }, { on := 18, ground := Go.Ground.phase }, { on := 19, ground := Go.Ground.phase }, { on := 20, ground := Go.Ground.phase }, { on := 21, ground := Go.Ground.phase }, { on := 22, ground := Go.Ground.phase }, { on := 23, ground := Go.Ground.phase }, { on := 24, ground := Go.Ground.phase }, { on := 25, ground := Go.Ground.phase }], guard := none }) (v := ?_) rfl (by kernel_rfl) (by kernel_rfl) (by kernel_rfl) (fun _ _ _ h => h) (Or.inl ⟨by rfl, ?_⟩) (by assumption) ?_
    rotate_left 1
    · (intro w hSw; (try dsimp only at hSw); go_simp; try with_reducible rfl)
    try simp only [Act.put, List.setIfInBounds_toArray, List.set_cons_zero, List.set_cons_succ]
    refine wpAnyH_ready (rs := [27]) (by kernel_rfl) (by simp) ?_
    refine AllReadyH.cons (o := { dst := none, op := Go.Op.store 36 (Go.Operand.tmp 31) (Go.Operand.tmp 29), type := 0, pos := "solve.go:52", after := #[{ on := 26, ground := Go.Ground.data }, { on := 23, ground := Go.Ground.data }, { on := 25, ground := Go.Ground.chain }, { on := 0, ground := Go.Ground.phase }, { on := 1, ground := Go.Ground.phase }, { on := 2, ground := Go.Ground.phase }, { on := 3, ground := Go.Ground.phase }, { on := 4, ground := Go.Ground.phase }, { on := 5, ground := Go.Ground.phase }, { on := 6, ground := Go.Ground.phase }, { on := 7, ground := Go.Ground.phase }, { on := 8, ground := Go.Ground.phase }, { on := 9, ground := Go.Ground.phase }, { on := 10, ground := Go.Ground.phase }, { on := 11, ground := Go.Ground.phase }, { on := 12, ground := Go.Ground.phase }, { on := 13, ground := Go.Ground.phase }, { on := 14, ground := Go.Ground.phase }, { on := 15, ground := Go.Ground.phase }, { on := 16, ground := Go.Ground.phase }, { on := 17, ground := Go.Ground.phase }, { on := 18, ground := Go.Ground.phase }, { on := 19, ground := Go.Ground.phase }, { on := 20, ground := Go.Ground.phase }, { on := 21, ground := Go.Ground.phase }, { on := 22, ground := Go.Ground.phase }, { on := 23, ground := Go.Ground.phase }, { on := 24, ground := Go.Ground.phase }, { on := 25, ground := Go.Ground.phase }], guard := none }) rfl (fun K hK => ?_) AllReadyH.nil
    go_simp
    clear hHeld
    refine hK.out _ _ ?_ (fun hHeld => ?_)
    · ((try dsimp only); first | exact hva | exact sv1 | exact sv2)
    clear hK K
    refine wpAnyH_done (by kernel_rfl) ?_ _
    refine NoPanic.normal ?_
    exact REST _ rfl
  rintro W hW
  have HG := Lib.hid (show w.grownBy W (some g) by rw [hW]; exact World.grownBy.trans HW1.out.2 ⟨rfl, rfl, rfl, Nat.le_refl _, fun _ _ _ => rfl⟩)
  have HW1' := Lib.hid (HW1.out.1.drewN 1)
  change Hid (Grid (World.drew _) _ _ _ _ _ _ _) at HW1'
  rw [← hW] at HW1'
  clear sv1 sv2
  have hgb := H.out.gb.grown HG.out (.inl (by omega))
  have hbk := H.out.blk.grown HG.out (fun e => by injection e with e; have := H.out.l2; have := H.out.l3; omega)
  obtain ⟨e3, e4⟩ := HE.out.2.2
  have hvb2 : W.cell? ⟨p, 1, none⟩ = some (.slice (some ⟨g', 0, none⟩) n cg') := (hbk.cell 1).trans rfl
  have z3 := (hgb.head i hi).1
  have z4 := (hgb.head k hk).1
  have f3 := (hgb.head i hi).2
  have f4 := (hgb.head k hk).2
  rw [e3] at z3
  rw [e4] at z4
  obtain ⟨y3, y4⟩ := hgb.head2 i k hi hk
  have HW2 := Lib.hid (And.intro (hgb.swap i k hi hk) (hgb.insd i k (Rb k) (Rb i)))
  have hpg2 : p ≠ g' := by have := H.out.l3; omega
  have sv1 := (World.cell?_setCell_other W ⟨g', i, none⟩ ⟨p, 1, none⟩ (.slice (some ⟨b4, 0, none⟩) q c4) (fun e => hpg2 (by injection e with e1; exact e1.symm))).trans hvb2
  have sv2 := (World.cell?_setCell_other (W.setCell ⟨g', i, none⟩ (.slice (some ⟨b4, 0, none⟩) q c4)) ⟨g', k, none⟩ ⟨p, 1, none⟩ (.slice (some ⟨b3, 0, none⟩) q c3) (fun e => hpg2 (by injection e with e1; exact e1.symm))).trans sv1
  rw [e4] at y3 y4
  rw [e3, e4] at HW2
  have HBK := Lib.hid hbk
  clear hgb hbk e3 e4 hW y1 y2 z1 z2 f1 f2 hva hvb
  go_upto_region 1 with (fail)
  apply joinW (fun V => V = ((W.setCell ⟨g', i, none⟩ (.slice (some ⟨b4, 0, none⟩) q c4)).setCell ⟨g', k, none⟩ (.slice (some ⟨b3, 0, none⟩) q c3)).drew)
  · intro REST
    refine wp_region_noPanic ?_
    refine wp_region_held_drew (S := (fun W => W.cell? ⟨p, 1, none⟩ = some (.slice (some ⟨g', 0, none⟩) n cg'))) (by kernel_rfl) ?_ (fun hHeld => ?_)
    · ((try dsimp only); first | exact hvb2 | exact sv1 | exact sv2)
    refine wpAnyH_take (i := 0) (oi := { dst := some 32, op := Go.Op.move (Go.Operand.tmp 0), type := 46, pos := "solve.go:53", after := #[], guard := none }) (v := ?_) rfl (by kernel_rfl) (by kernel_rfl) (by kernel_rfl) (fun _ _ _ h => h) (Or.inl ⟨by rfl, ?_⟩) (by assumption) ?_
    rotate_left 1
    · (intro w hSw; (try dsimp only at hSw); go_simp; try with_reducible rfl)
    try simp only [Act.put, List.setIfInBounds_toArray, List.set_cons_zero, List.set_cons_succ]
    refine wpAnyH_take (i := 1) (oi := { dst := some 33, op := Go.Op.nilCheck (Go.Operand.tmp 32), type := 0, pos := "solve.go:53", after := #[{ on := 0, ground := Go.Ground.data }], guard := none }) (v := ?_) rfl (by kernel_rfl) (by kernel_rfl) (by kernel_rfl) (fun _ _ _ h => h) (Or.inl ⟨by rfl, ?_⟩) (by assumption) ?_
    rotate_left 1
    · (intro w hSw; (try dsimp only at hSw); go_simp; try with_reducible rfl)
    try simp only [Act.put, List.setIfInBounds_toArray, List.set_cons_zero, List.set_cons_succ]
    refine wpAnyH_take (i := 2) (oi := { dst := some 34, op := Go.Op.fieldAddr 51 (Go.Operand.tmp 33) 1, type := 0, pos := "solve.go:53", after := #[{ on := 1, ground := Go.Ground.data }], guard := none }) (v := ?_) rfl (by kernel_rfl) (by kernel_rfl) (by kernel_rfl) (fun _ _ _ h => h) (Or.inl ⟨by rfl, ?_⟩) (by assumption) ?_
    rotate_left 1
    · (intro w hSw; (try dsimp only at hSw); go_simp; try with_reducible rfl)
    try simp only [Act.put, List.setIfInBounds_toArray, List.set_cons_zero, List.set_cons_succ]
    refine wpAnyH_take (i := 3) (oi := { dst := some 35, op := Go.Op.load 22 (Go.Operand.tmp 34), type := 22, pos := "solve.go:53", after := #[{ on := 2, ground := Go.Ground.data }], guard := none }) (v := ?_) rfl (by kernel_rfl) (by kernel_rfl) (by kernel_rfl) (fun _ _ _ h => h) (Or.inl ⟨by rfl, ?_⟩) (by assumption) ?_
    rotate_left 1
    · (intro w hSw; (try dsimp only at hSw); go_simp; try with_reducible rfl)
    try simp only [Act.put, List.setIfInBounds_toArray, List.set_cons_zero, List.set_cons_succ]
    refine wpAnyH_take (i := 4) (oi := { dst := some 36, op := Go.Op.move (Go.Operand.tmp 1), type := 3, pos := "solve.go:53", after := #[], guard := none }) (v := ?_) rfl (by kernel_rfl) (by kernel_rfl) (by kernel_rfl) (fun _ _ _ h => h) (Or.inl ⟨by rfl, ?_⟩) (by assumption) ?_
    rotate_left 1
    · (intro w hSw; (try dsimp only at hSw); go_simp; try with_reducible rfl)
    try simp only [Act.put, List.setIfInBounds_toArray, List.set_cons_zero, List.set_cons_succ]
    refine wpAnyH_take (i := 5) (oi := { dst := some 37, op := Go.Op.move (Go.Operand.tmp 0), type := 46, pos := "solve.go:53", after := #[], guard := none }) (v := ?_) rfl (by kernel_rfl) (by kernel_rfl) (by kernel_rfl) (fun _ _ _ h => h) (Or.inl ⟨by rfl, ?_⟩) (by assumption) ?_
    rotate_left 1
    · (intro w hSw; (try dsimp only at hSw); go_simp; try with_reducible rfl)
    try simp only [Act.put, List.setIfInBounds_toArray, List.set_cons_zero, List.set_cons_succ]
    refine wpAnyH_take (i := 6) (oi := { dst := some 38, op := Go.Op.nilCheck (Go.Operand.tmp 37), type := 0, pos := "solve.go:53", after := #[{ on := 5, ground := Go.Ground.data }], guard := none }) (v := ?_) rfl (by kernel_rfl) (by kernel_rfl) (by kernel_rfl) (fun _ _ _ h => h) (Or.inl ⟨by rfl, ?_⟩) (by assumption) ?_
    rotate_left 1
    · (intro w hSw; (try dsimp only at hSw); go_simp; try with_reducible rfl)
    try simp only [Act.put, List.setIfInBounds_toArray, List.set_cons_zero, List.set_cons_succ]
    refine wpAnyH_take (i := 7) (oi := { dst := some 39, op := Go.Op.fieldAddr 51 (Go.Operand.tmp 38) 1, type := 0, pos := "solve.go:53", after := #[{ on := 6, ground := Go.Ground.data }], guard := none }) (v := ?_) rfl (by kernel_rfl) (by kernel_rfl) (by kernel_rfl) (fun _ _ _ h => h) (Or.inl ⟨by rfl, ?_⟩) (by assumption) ?_
    rotate_left 1
    · (intro w hSw; (try dsimp only at hSw); go_simp; try with_reducible rfl)
    try simp only [Act.put, List.setIfInBounds_toArray, List.set_cons_zero, List.set_cons_succ]
    refine wpAnyH_take (i := 8) (oi := { dst := some 40, op := Go.Op.load 22 (Go.Operand.tmp 39), type := 22, pos := "solve.go:53", after := #[{ on := 7, ground := Go.Ground.data }], guard := none }) (v := ?_) rfl (by kernel_rfl) (by kernel_rfl) (by kernel_rfl) (fun _ _ _ h => h) (Or.inl ⟨by rfl, ?_⟩) (by assumption) ?_
    rotate_left 1
    · (intro w hSw; (try dsimp only at hSw); go_simp; try with_reducible rfl)
    try simp only [Act.put, List.setIfInBounds_toArray, List.set_cons_zero, List.set_cons_succ]
    refine wpAnyH_take (i := 9) (oi := { dst := some 41, op := Go.Op.move (Go.Operand.tmp 2), type := 3, pos := "solve.go:53", after := #[{ on := 25, ground := Go.Ground.gcOnly Go.Departure.lateStores }], guard := none }) (v := ?_) rfl (by kernel_rfl) (by kernel_rfl) (by kernel_rfl) (fun _ _ _ h => h) (Or.inl ⟨by rfl, ?_⟩) (by assumption) ?_
    rotate_left 1
    · (intro w hSw; (try dsimp only at hSw); go_simp; try with_reducible rfl)
    try simp only [Act.put, List.setIfInBounds_toArray, List.set_cons_zero, List.set_cons_succ]
    refine wpAnyH_take (i := 10) (oi := { dst := some 42, op := Go.Op.move (Go.Operand.tmp 0), type := 46, pos := "solve.go:53", after := #[], guard := none }) (v := ?_) rfl (by kernel_rfl) (by kernel_rfl) (by kernel_rfl) (fun _ _ _ h => h) (Or.inl ⟨by rfl, ?_⟩) (by assumption) ?_
    rotate_left 1
    · (intro w hSw; (try dsimp only at hSw); go_simp; try with_reducible rfl)
    try simp only [Act.put, List.setIfInBounds_toArray, List.set_cons_zero, List.set_cons_succ]
    refine wpAnyH_take (i := 11) (oi := { dst := some 43, op := Go.Op.nilCheck (Go.Operand.tmp 42), type := 0, pos := "solve.go:53", after := #[{ on := 10, ground := Go.Ground.data }], guard := none }) (v := ?_) rfl (by kernel_rfl) (by kernel_rfl) (by kernel_rfl) (fun _ _ _ h => h) (Or.inl ⟨by rfl, ?_⟩) (by assumption) ?_
    rotate_left 1
    · (intro w hSw; (try dsimp only at hSw); go_simp; try with_reducible rfl)
    try simp only [Act.put, List.setIfInBounds_toArray, List.set_cons_zero, List.set_cons_succ]
    refine wpAnyH_take (i := 12) (oi := { dst := some 44, op := Go.Op.fieldAddr 51 (Go.Operand.tmp 43) 1, type := 0, pos := "solve.go:53", after := #[{ on := 11, ground := Go.Ground.data }], guard := none }) (v := ?_) rfl (by kernel_rfl) (by kernel_rfl) (by kernel_rfl) (fun _ _ _ h => h) (Or.inl ⟨by rfl, ?_⟩) (by assumption) ?_
    rotate_left 1
    · (intro w hSw; (try dsimp only at hSw); go_simp; try with_reducible rfl)
    try simp only [Act.put, List.setIfInBounds_toArray, List.set_cons_zero, List.set_cons_succ]
    refine wpAnyH_take (i := 13) (oi := { dst := some 45, op := Go.Op.load 22 (Go.Operand.tmp 44), type := 22, pos := "solve.go:53", after := #[{ on := 12, ground := Go.Ground.data }], guard := none }) (v := ?_) rfl (by kernel_rfl) (by kernel_rfl) (by kernel_rfl) (fun _ _ _ h => h) (Or.inl ⟨by rfl, ?_⟩) (by assumption) ?_
    rotate_left 1
    · (intro w hSw; (try dsimp only at hSw); go_simp; try with_reducible rfl)
    try simp only [Act.put, List.setIfInBounds_toArray, List.set_cons_zero, List.set_cons_succ]
    refine wpAnyH_take (i := 14) (oi := { dst := some 46, op := Go.Op.move (Go.Operand.tmp 2), type := 3, pos := "solve.go:53", after := #[], guard := none }) (v := ?_) rfl (by kernel_rfl) (by kernel_rfl) (by kernel_rfl) (fun _ _ _ h => h) (Or.inl ⟨by rfl, ?_⟩) (by assumption) ?_
    rotate_left 1
    · (intro w hSw; (try dsimp only at hSw); go_simp; try with_reducible rfl)
    try simp only [Act.put, List.setIfInBounds_toArray, List.set_cons_zero, List.set_cons_succ]
    refine wpAnyH_take (i := 15) (oi := { dst := some 47, op := Go.Op.indexAddr 22 (Go.Operand.tmp 45) (Go.Operand.tmp 46), type := 0, pos := "solve.go:53", after := #[{ on := 13, ground := Go.Ground.data }, { on := 14, ground := Go.Ground.data }], guard := none }) (v := ?_) rfl (by kernel_rfl) (by kernel_rfl) (by kernel_rfl) (fun _ _ _ h => h) (Or.inl ⟨by rfl, ?_⟩) (by assumption) ?_
    rotate_left 1
    · (intro w hSw; (try dsimp only at hSw); go_simp; try with_reducible rfl)
    try simp only [Act.put, List.setIfInBounds_toArray, List.set_cons_zero, List.set_cons_succ]
    refine wpAnyH_take (i := 17) (oi := { dst := some 49, op := Go.Op.move (Go.Operand.tmp 0), type := 46, pos := "solve.go:53", after := #[], guard := none }) (v := ?_) rfl (by kernel_rfl) (by kernel_rfl) (by kernel_rfl) (fun _ _ _ h => h) (Or.inl ⟨by rfl, ?_⟩) (by assumption) ?_
    rotate_left 1
    · (intro w hSw; (try dsimp only at hSw); go_simp; try with_reducible rfl)
    try simp only [Act.put, List.setIfInBounds_toArray, List.set_cons_zero, List.set_cons_succ]
    refine wpAnyH_take (i := 18) (oi := { dst := some 50, op := Go.Op.nilCheck (Go.Operand.tmp 49), type := 0, pos := "solve.go:53", after := #[{ on := 17, ground := Go.Ground.data }], guard := none }) (v := ?_) rfl (by kernel_rfl) (by kernel_rfl) (by kernel_rfl) (fun _ _ _ h => h) (Or.inl ⟨by rfl, ?_⟩) (by assumption) ?_
    rotate_left 1
    · (intro w hSw; (try dsimp only at hSw); go_simp; try with_reducible rfl)
    try simp only [Act.put, List.setIfInBounds_toArray, List.set_cons_zero, List.set_cons_succ]
    refine wpAnyH_take (i := 19) (oi := { dst := some 51, op := Go.Op.fieldAddr 51 (Go.Operand.tmp 50) 1, type := 0, pos := "solve.go:53", after := #[{ on := 18, ground := Go.Ground.data }], guard := none }) (v := ?_) rfl (by kernel_rfl) (by kernel_rfl) (by kernel_rfl) (fun _ _ _ h => h) (Or.inl ⟨by rfl, ?_⟩) (by assumption) ?_
    rotate_left 1
    · (intro w hSw; (try dsimp only at hSw); go_simp; try with_reducible rfl)
    try simp only [Act.put, List.setIfInBounds_toArray, List.set_cons_zero, List.set_cons_succ]
    refine wpAnyH_take (i := 20) (oi := { dst := some 52, op := Go.Op.load 22 (Go.Operand.tmp 51), type := 22, pos := "solve.go:53", after := #[{ on := 19, ground := Go.Ground.data }], guard := none }) (v := ?_) rfl (by kernel_rfl) (by kernel_rfl) (by kernel_rfl) (fun _ _ _ h => h) (Or.inl ⟨by rfl, ?_⟩) (by assumption) ?_
    rotate_left 1
    · (intro w hSw; (try dsimp only at hSw); go_simp; try with_reducible rfl)
    try simp only [Act.put, List.setIfInBounds_toArray, List.set_cons_zero, List.set_cons_succ]
    refine wpAnyH_take (i := 21) (oi := { dst := some 53, op := Go.Op.move (Go.Operand.tmp 1), type := 3, pos := "solve.go:53", after := #[], guard := none }) (v := ?_) rfl (by kernel_rfl) (by kernel_rfl) (by kernel_rfl) (fun _ _ _ h => h) (Or.inl ⟨by rfl, ?_⟩) (by assumption) ?_
    rotate_left 1
    · (intro w hSw; (try dsimp only at hSw); go_simp; try with_reducible rfl)
    try simp only [Act.put, List.setIfInBounds_toArray, List.set_cons_zero, List.set_cons_succ]
    refine wpAnyH_take (i := 22) (oi := { dst := some 54, op := Go.Op.indexAddr 22 (Go.Operand.tmp 52) (Go.Operand.tmp 53), type := 0, pos := "solve.go:53", after := #[{ on := 20, ground := Go.Ground.data }, { on := 21, ground := Go.Ground.data }], guard := none }) (v := ?_) rfl (by kernel_rfl) (by kernel_rfl) (by kernel_rfl) (fun _ _ _ h => h) (Or.inl ⟨by rfl, ?_⟩) (by assumption) ?_
    rotate_left 1
    · (intro w hSw; (try dsimp only at hSw); go_simp; try with_reducible rfl)
    try simp only [Act.put, List.setIfInBounds_toArray, List.set_cons_zero, List.set_cons_succ]
    refine wpAnyH_ready (rs := [16, 23]) (by kernel_rfl) (by simp) ?_
    refine AllReadyH.cons (o := { dst := some 48, op := Go.Op.load 36 (Go.Operand.tmp 47), type := 36, pos := "solve.go:53", after := #[{ on := 15, ground := Go.Ground.data }], guard := none }) rfl (fun K hK => ?_) ?_
    · go_simp
      clear hHeld
      refine hK.out _ _ ?_ (fun hHeld => ?_)
      · ((try dsimp only); first | exact hvb2 | exact sv1 | exact sv2)
      clear hK K
      refine wpAnyH_ready (rs := [23]) (by kernel_rfl) (by simp) ?_
      refine AllReadyH.cons (o := { dst := some 55, op := Go.Op.load 36 (Go.Operand.tmp 54), type := 36, pos := "solve.go:53", after := #[{ on := 22, ground := Go.Ground.data }], guard := none }) rfl (fun K hK => ?_) AllReadyH.nil
      go_simp
      clear hHeld
      refine hK.out _ _ ?_ (fun hHeld => ?_)
      · ((try dsimp only); first | exact hvb2 | exact sv1 | exact sv2)
      clear hK K
      refine wpAnyH_take (i := 24) (oi := { dst := some 56, op := Go.Op.indexAddr 22 (Go.Operand.tmp 35) (Go.Operand.tmp 36), type := 0, pos := "solve.go:53", after := #[{ on := 3, ground := Go.Ground.data }, { on := 4, ground := Go.Ground.data }, { on := 0, ground := Go.Ground.phase }, { on := 1, ground := Go.Ground.phase }, { on := 2, ground := Go.Ground.phase }, { on := 3, ground := Go.Ground.phase }, { on := 4, ground := Go.Ground.phase }, { on := 5, ground := Go.Ground.textOnly Go.Departure.lateStores }, { on := 6, ground := Go.Ground.textOnly Go.Departure.lateStoresUnsure }, { on := 7, ground := Go.Ground.textOnly Go.Departure.lateStoresUnsure }, { on := 8, ground := Go.Ground.phase }, { on := 9, ground := Go.Ground.textOnly Go.Departure.lateStores }, { on := 10, ground := Go.Ground.phase }, { on := 11, ground := Go.Ground.phase }, { on := 12, ground := Go.Ground.phase }, { on := 13, ground := Go.Ground.phase }, { on := 14, ground := Go.Ground.phase }, { on := 15, ground := Go.Ground.phase }, { on := 16, ground := Go.Ground.phase }, { on := 17, ground := Go.Ground.textOnly Go.Departure.lateStores }, { on := 18, ground := Go.Ground.textOnly Go.Departure.lateStoresUnsure }, { on := 19, ground := Go.Ground.textOnly Go.Departure.lateStoresUnsure }, { on := 20, ground := Go.Ground.phase }, { on := 21, ground := Go.Ground.textOnly Go.Departure.lateStores }, { on := 22, ground := Go.Ground.textOnly Go.Departure.lateStoresUnsure }, { on := 23, ground := Go.Ground.phase }], guard := none }) (v := ?_) rfl (by kernel_rfl) (by kernel_rfl) (by kernel_rfl) (fun _ _ _ h => h) (Or.inl ⟨by rfl, ?_⟩) (by assumption) ?_
      rotate_left 1
      · (intro w hSw; (try dsimp only at hSw); go_simp; try with_reducible rfl)
      try simp only [Act.put, List.setIfInBounds_toArray, List.set_cons_zero, List.set_cons_succ]
      refine wpAnyH_ready (rs := [25]) (by kernel_rfl) (by simp) ?_
      refine AllReadyH.cons (o := { dst := none, op := Go.Op.store 36 (Go.Operand.tmp 56) (Go.Operand.tmp 48), type := 0, pos := "solve.go:53", after := #[{ on := 24, ground := Go.Ground.data }, { on := 16, ground := Go.Ground.data }, { on := 0, ground := Go.Ground.phase }, { on := 1, ground := Go.Ground.phase }, { on := 2, ground := Go.Ground.phase }, { on := 3, ground := Go.Ground.phase }, { on := 4, ground := Go.Ground.phase }, { on := 5, ground := Go.Ground.textOnly Go.Departure.lateStores }, { on := 6, ground := Go.Ground.textOnly Go.Departure.lateStoresUnsure }, { on := 7, ground := Go.Ground.textOnly Go.Departure.lateStoresUnsure }, { on := 8, ground := Go.Ground.phase }, { on := 9, ground := Go.Ground.textOnly Go.Departure.lateStores }, { on := 10, ground := Go.Ground.phase }, { on := 11, ground := Go.Ground.phase }, { on := 12, ground := Go.Ground.phase }, { on := 13, ground := Go.Ground.phase }, { on := 14, ground := Go.Ground.phase }, { on := 15, ground := Go.Ground.phase }, { on := 16, ground := Go.Ground.phase }, { on := 17, ground := Go.Ground.textOnly Go.Departure.lateStores }, { on := 18, ground := Go.Ground.textOnly Go.Departure.lateStoresUnsure }, { on := 19, ground := Go.Ground.textOnly Go.Departure.lateStoresUnsure }, { on := 20, ground := Go.Ground.phase }, { on := 21, ground := Go.Ground.textOnly Go.Departure.lateStores }, { on := 22, ground := Go.Ground.textOnly Go.Departure.lateStoresUnsure }, { on := 23, ground := Go.Ground.phase }], guard := none }) rfl (fun K hK => ?_) AllReadyH.nil
      go_simp
      clear hHeld
      refine hK.out _ _ ?_ (fun hHeld => ?_)
      · ((try dsimp only); first | exact hvb2 | exact sv1 | exact sv2)
      clear hK K
      refine wpAnyH_take (i := 26) (oi := { dst := some 57, op := Go.Op.indexAddr 22 (Go.Operand.tmp 40) (Go.Operand.tmp 41), type := 0, pos := "solve.go:53", after := #[{ on := 8, ground := Go.Ground.data }, { on := 9, ground := Go.Ground.data }, { on := 0, ground := Go.Ground.phase }, { on := 1, ground := Go.Ground.phase }, { on := 2, ground := Go.Ground.phase }, { on := 3, ground := Go.Ground.phase }, { on := 4, ground := Go.Ground.phase }, { on := 5, ground := Go.Ground.phase }, { on := 6, ground := Go.Ground.phase }, { on := 7, ground := Go.Ground.phase }, { on := 8, ground := Go.Ground.phase }, { on := 9, ground := Go.Ground.phase }, { on := 10, ground := Go.Ground.phase }, { on := 11, ground := Go.Ground.phase }, { on := 12, ground := Go.Ground.phase }, { on := 13, ground := Go.Ground.phase }, { on := 14, ground := Go.Ground.phase }, { on := 15, ground := Go.Ground.phase }, { on := 16, ground := Go.Ground.phase }, { on := 17, ground := Go.Ground.phase }, { on := 18, ground := Go.Ground.phase }, { on := 19, ground := Go.Ground.phase }, { on := 20, ground := Go.Ground.phase }, { on := 21, ground := Go.Ground.phase }, { on := 22, ground := Go.Ground.phase }, { on := 23, ground := Go.Ground.phase }, { on := 24, ground := Go.Ground.phase }, { on := 25, ground := Go.Ground.phase }], guard := none }) (v := ?_) rfl (by kernel_rfl) (by kernel_rfl) (by kernel_rfl) (fun _ _ _ h => h) (Or.inl ⟨by rfl, ?_⟩) (by assumption) ?_
      rotate_left 1
      · (intro w hSw; (try dsimp only at hSw); go_simp; try with_reducible rfl)
      try simp only [Act.put, List.setIfInBounds_toArray, List.set_cons_zero, List.set_cons_succ]
      refine wpAnyH_ready (rs := [27]) (by kernel_rfl) (by simp) ?_
      refine AllReadyH.cons (o := { dst := none, op := Go.Op.store 36 (Go.Operand.tmp 57) (Go.Operand.tmp 55), type := 0, pos := "solve.go:53", after := #[{ on := 26, ground := Go.Ground.data }, { on := 23, ground := Go.Ground.data }, { on := 25, ground := Go.Ground.chain }, { on := 0, ground := Go.Ground.phase }, { on := 1, ground := Go.Ground.phase }, { on := 2, ground := Go.Ground.phase }, { on := 3, ground := Go.Ground.phase }, { on := 4, ground := Go.Ground.phase }, { on := 5, ground := Go.Ground.phase }, { on := 6, ground := Go.Ground.phase }, { on := 7, ground := Go.Ground.phase }, { on := 8, ground := Go.Ground.phase }, { on := 9, ground := Go.Ground.phase }, { on := 10, ground := Go.Ground.phase }, { on := 11, ground := Go.Ground.phase }, { on := 12, ground := Go.Ground.phase }, { on := 13, ground := Go.Ground.phase }, { on := 14, ground := Go.Ground.phase }, { on := 15, ground := Go.Ground.phase }, { on := 16, ground := Go.Ground.phase }, { on := 17, ground := Go.Ground.phase }, { on := 18, ground := Go.Ground.phase }, { on := 19, ground := Go.Ground.phase }, { on := 20, ground := Go.Ground.phase }, { on := 21, ground := Go.Ground.phase }, { on := 22, ground := Go.Ground.phase }, { on := 23, ground := Go.Ground.phase }, { on := 24, ground := Go.Ground.phase }, { on := 25, ground := Go.Ground.phase }], guard := none }) rfl (fun K hK => ?_) AllReadyH.nil
      go_simp
      clear hHeld
      refine hK.out _ _ ?_ (fun hHeld => ?_)
      · ((try dsimp only); first | exact hvb2 | exact sv1 | exact sv2)
      clear hK K
      refine wpAnyH_done (by kernel_rfl) ?_ _
      refine NoPanic.normal ?_
      exact REST _ rfl
    refine AllReadyH.cons (o := { dst := some 55, op := Go.Op.load 36 (Go.Operand.tmp 54), type := 36, pos := "solve.go:53", after := #[{ on := 22, ground := Go.Ground.data }], guard := none }) rfl (fun K hK => ?_) AllReadyH.nil
    go_simp
    clear hHeld
    refine hK.out _ _ ?_ (fun hHeld => ?_)
    · ((try dsimp only); first | exact hvb2 | exact sv1 | exact sv2)
    clear hK K
    refine wpAnyH_ready (rs := [16]) (by kernel_rfl) (by simp) ?_
    refine AllReadyH.cons (o := { dst := some 48, op := Go.Op.load 36 (Go.Operand.tmp 47), type := 36, pos := "solve.go:53", after := #[{ on := 15, ground := Go.Ground.data }], guard := none }) rfl (fun K hK => ?_) AllReadyH.nil
    go_simp
    clear hHeld
    refine hK.out _ _ ?_ (fun hHeld => ?_)
    · ((try dsimp only); first | exact hvb2 | exact sv1 | exact sv2)
    clear hK K
    refine wpAnyH_take (i := 24) (oi := { dst := some 56, op := Go.Op.indexAddr 22 (Go.Operand.tmp 35) (Go.Operand.tmp 36), type := 0, pos := "solve.go:53", after := #[{ on := 3, ground := Go.Ground.data }, { on := 4, ground := Go.Ground.data }, { on := 0, ground := Go.Ground.phase }, { on := 1, ground := Go.Ground.phase }, { on := 2, ground := Go.Ground.phase }, { on := 3, ground := Go.Ground.phase }, { on := 4, ground := Go.Ground.phase }, { on := 5, ground := Go.Ground.textOnly Go.Departure.lateStores }, { on := 6, ground := Go.Ground.textOnly Go.Departure.lateStoresUnsure }, { on := 7, ground := Go.Ground.textOnly Go.Departure.lateStoresUnsure }, { on := 8, ground := Go.Ground.phase }, { on := 9, ground := Go.Ground.textOnly Go.Departure.lateStores }, { on := 10, ground := Go.Ground.phase }, { on := 11, ground := Go.Ground.phase }, { on := 12, ground := Go.Ground.phase }, { on := 13, ground := Go.Ground.phase }, { on := 14, ground := Go.Ground.phase }, { on := 15, ground := Go.Ground.phase }, { on := 16, ground := Go.Ground.phase }, { on := 17, ground := Go.Ground.textOnly Go.Departure.lateStores }, { on := 18, ground := Go.Ground.textOnly Go.Departure.lateStoresUnsure }, { on := 19, ground := Go.Ground.textOnly Go.Departure.lateStoresUnsure }, { on := 20, ground := Go.Ground.phase }, { on := 21, ground := Go.Ground.textOnly Go.Departure.lateStores }, { on := 22, ground := Go.Ground.textOnly Go.Departure.lateStoresUnsure }, { on := 23, ground := Go.Ground.phase }], guard := none }) (v := ?_) rfl (by kernel_rfl) (by kernel_rfl) (by kernel_rfl) (fun _ _ _ h => h) (Or.inl ⟨by rfl, ?_⟩) (by assumption) ?_
    rotate_left 1
    · (intro w hSw; (try dsimp only at hSw); go_simp; try with_reducible rfl)
    try simp only [Act.put, List.setIfInBounds_toArray, List.set_cons_zero, List.set_cons_succ]
    refine wpAnyH_ready (rs := [25]) (by kernel_rfl) (by simp) ?_
    refine AllReadyH.cons (o := { dst := none, op := Go.Op.store 36 (Go.Operand.tmp 56) (Go.Operand.tmp 48), type := 0, pos := "solve.go:53", after := #[{ on := 24, ground := Go.Ground.data }, { on := 16, ground := Go.Ground.data }, { on := 0, ground := Go.Ground.phase }, { on := 1, ground := Go.Ground.phase }, { on := 2, ground := Go.Ground.phase }, { on := 3, ground := Go.Ground.phase }, { on := 4, ground := Go.Ground.phase }, { on := 5, ground := Go.Ground.textOnly Go.Departure.lateStores }, { on := 6, ground := Go.Ground.textOnly Go.Departure.lateStoresUnsure }, { on := 7, ground := Go.Ground.textOnly Go.Departure.lateStoresUnsure }, { on := 8, ground := Go.Ground.phase }, { on := 9, ground := Go.Ground.textOnly Go.Departure.lateStores }, { on := 10, ground := Go.Ground.phase }, { on := 11, ground := Go.Ground.phase }, { on := 12, ground := Go.Ground.phase }, { on := 13, ground := Go.Ground.phase }, { on := 14, ground := Go.Ground.phase }, { on := 15, ground := Go.Ground.phase }, { on := 16, ground := Go.Ground.phase }, { on := 17, ground := Go.Ground.textOnly Go.Departure.lateStores }, { on := 18, ground := Go.Ground.textOnly Go.Departure.lateStoresUnsure }, { on := 19, ground := Go.Ground.textOnly Go.Departure.lateStoresUnsure }, { on := 20, ground := Go.Ground.phase }, { on := 21, ground := Go.Ground.textOnly Go.Departure.lateStores }, { on := 22, ground := Go.Ground.textOnly Go.Departure.lateStoresUnsure }, { on := 23, ground := Go.Ground.phase }], guard := none }) rfl (fun K hK => ?_) AllReadyH.nil
    go_simp
    clear hHeld
    refine hK.out _ _ ?_ (fun hHeld => ?_)
    · ((try dsimp only); first | exact hvb2 | exact sv1 | exact sv2)
    clear hK K
    refine wpAnyH_take (i := 26) (oi := { dst := some 57, op := Go.Op.indexAddr 22 (Go.Operand.tmp 40) (Go.Operand.tmp 41), type := 0, pos := "solve.go:53", after := #[{ on := 8, ground := Go.Ground.data }, { on := 9, ground := Go.Ground.data }, { on := 0, ground := Go.Ground.phase }, { on := 1, ground := Go.Ground.phase }, { on := 2, ground := Go.Ground.phase }, { on := 3, ground := Go.Ground.phase }, { on := 4, ground := Go.Ground.phase }, { on := 5, ground := Go.Ground.phase }, { on := 6, ground := Go.Ground.phase }, { on := 7, ground := Go.Ground.phase }, { on := 8, ground := Go.Ground.phase }, { on := 9, ground := Go.Ground.phase }, { on := 10, ground := Go.Ground.phase }, { on := 11, ground := Go.Ground.phase }, { on := 12, ground := Go.Ground.phase }, { on := 13, ground := Go.Ground.phase }, { on := 14, ground := Go.Ground.phase }, { on := 15, ground := Go.Ground.phase }, { on := 16, ground := Go.Ground.phase }, { on := 17, ground := Go.Ground.phase }, { on := 18, ground := Go.Ground.phase }, { on := 19, ground := Go.Ground.phase }, { on := 20, ground := Go.Ground.phase }, { on := 21, ground := Go.Ground.phase }, { on := 22, ground := Go.Ground.phase }, { on := 23, ground := Go.Ground.phase }, { on := 24, ground := Go.Ground.phase }, { on := 25, ground := Go.Ground.phase }], guard := none }) (v := ?_) rfl (by kernel_rfl) (by kernel_rfl) (by kernel_rfl) (fun _ _ _ h => h) (Or.inl ⟨by rfl, ?_⟩) (by assumption) ?_
    rotate_left 1
    · (intro w hSw; (try dsimp only at hSw); go_simp; try with_reducible rfl)
    try simp only [Act.put, List.setIfInBounds_toArray, List.set_cons_zero, List.set_cons_succ]
    refine wpAnyH_ready (rs := [27]) (by kernel_rfl) (by simp) ?_
    refine AllReadyH.cons (o := { dst := none, op := Go.Op.store 36 (Go.Operand.tmp 57) (Go.Operand.tmp 55), type := 0, pos := "solve.go:53", after := #[{ on := 26, ground := Go.Ground.data }, { on := 23, ground := Go.Ground.data }, { on := 25, ground := Go.Ground.chain }, { on := 0, ground := Go.Ground.phase }, { on := 1, ground := Go.Ground.phase }, { on := 2, ground := Go.Ground.phase }, { on := 3, ground := Go.Ground.phase }, { on := 4, ground := Go.Ground.phase }, { on := 5, ground := Go.Ground.phase }, { on := 6, ground := Go.Ground.phase }, { on := 7, ground := Go.Ground.phase }, { on := 8, ground := Go.Ground.phase }, { on := 9, ground := Go.Ground.phase }, { on := 10, ground := Go.Ground.phase }, { on := 11, ground := Go.Ground.phase }, { on := 12, ground := Go.Ground.phase }, { on := 13, ground := Go.Ground.phase }, { on := 14, ground := Go.Ground.phase }, { on := 15, ground := Go.Ground.phase }, { on := 16, ground := Go.Ground.phase }, { on := 17, ground := Go.Ground.phase }, { on := 18, ground := Go.Ground.phase }, { on := 19, ground := Go.Ground.phase }, { on := 20, ground := Go.Ground.phase }, { on := 21, ground := Go.Ground.phase }, { on := 22, ground := Go.Ground.phase }, { on := 23, ground := Go.Ground.phase }, { on := 24, ground := Go.Ground.phase }, { on := 25, ground := Go.Ground.phase }], guard := none }) rfl (fun K hK => ?_) AllReadyH.nil
    go_simp
    clear hHeld
    refine hK.out _ _ ?_ (fun hHeld => ?_)
    · ((try dsimp only); first | exact hvb2 | exact sv1 | exact sv2)
    clear hK K
    refine wpAnyH_done (by kernel_rfl) ?_ _
    refine NoPanic.normal ?_
    exact REST _ rfl
  rintro W9 hW9
  go_wp2
  first | go_end0 | ((try simp only [Exit.inBlock, Exit.then]); refine bodyPost_ret (results_none rfl _ _ _) rfl ?_)
  have HW2' := Lib.hid (HW2.out.1.drewN 1)
  change Hid (Grid (World.drew _) _ _ _ _ _ _ _) at HW2'
  rw [← hW9] at HW2'
  have HG9 := Lib.hid (show W.grownBy W9 (some g') by rw [hW9]; exact World.grownBy.trans HW2.out.2 ⟨rfl, rfl, rfl, Nat.le_refl _, fun _ _ _ => rfl⟩)
  refine swap_end HE.out H.out HBK.out HG.out HW1'.out ⟨HW2'.out, HG9.out⟩ hgl hgh hgl' hgh'
end Go.Proofs.Ytojaekhplohbjaa.Sol
/- solve: all other rows brought to nought in a column. -/
namespace Go.Proofs.Ytojaekhplohbjaa.Sol
open Go Go.RowKit Go.Proofs.Ytojaekhplohbjaa.Gi Go.Proofs.Ytojaekhplohbjaa.Gf Go.Proofs.Ytojaekhplohbjaa.Mem Go.Proofs.Ytojaekhplohbjaa.Bits Go.Proofs.Ytojaekhplohbjaa.Rws Go.Proofs.YtojaekhplohbjaaW.PrintWords
set_option linter.unusedVariables false

/-- The first i rows cleared; row t made one. -/
def clrTo (C : Mtx) (t col : Nat) (r : Int) (i : Nat) : Mtx := fun p j => if p = t then gmI (C t j) r else if p < i then xorI (C p j) (gmI (gmI (C t j) r) (C p col)) else C p j
theorem clrTo_byt {C : Mtx} (hC : BytM C) (t col : Nat) {r : Int} (hr : Byt r) (i : Nat) : BytM (clrTo C t col r i) := by
  intro p j
  unfold clrTo
  split
  · exact gmI_byt (hC _ _)
  · split
    · exact xorI_byt (hC _ _) (gmI_byt (gmI_byt (hC _ _)))
    · exact hC _ _
theorem gm0 (a : Int) : gmI a 0 = 0 := by unfold gmI; simp [gm_zero_right]
theorem xor0 {a : Int} (h : Byt a) : xorI a 0 = a := by unfold xorI; have := h.1; simp; omega
theorem clrTo_skip {C : Mtx} (hC : BytM C) (t col : Nat) (r : Int) (i : Nat) (h : i = t ∨ C i col = 0) (p j : Nat) : clrTo C t col r i p j = clrTo C t col r (i + 1) p j := by
  unfold clrTo
  by_cases e : p = t
  · rw [if_pos e, if_pos e]
  · rw [if_neg e, if_neg e]
    by_cases e1 : p < i
    · rw [if_pos e1, if_pos (by omega)]
    · rw [if_neg e1]
      by_cases e2 : p = i
      · subst e2
        rcases h with h | h
        · exact absurd h e
        · rw [if_pos (by omega), h, gm0, xor0 (hC _ _)]
      · rw [if_neg (by omega)]
theorem clrTo_at (C : Mtx) (t col : Nat) (r : Int) (i j : Nat) (h : i ≠ t) : clrTo C t col r i i j = C i j := by unfold clrTo; rw [if_neg h, if_neg (Nat.lt_irrefl i)]
theorem clrTo_t (C : Mtx) (t col : Nat) (r : Int) (i j : Nat) : clrTo C t col r i t j = gmI (C t j) r := by unfold clrTo; rw [if_pos rfl]
theorem clrTo_next (C : Mtx) (t col : Nat) (r : Int) (i p j : Nat) (h : i ≠ t) : (if p = i then xorI (C i j) (gmI (gmI (C t j) r) (C i col)) else clrTo C t col r i p j) = clrTo C t col r (i + 1) p j := by
  unfold clrTo
  by_cases e : p = i
  · subst e
    rw [if_pos rfl, if_neg h, if_pos (by omega)]
  · rw [if_neg e]
    by_cases e1 : p = t
    · rw [if_pos e1, if_pos e1]
    · rw [if_neg e1, if_neg e1]
      by_cases e2 : p < i
      · rw [if_pos e2, if_pos (by omega)]
      · rw [if_neg e2, if_neg (by omega)]
theorem Work.drewN {w : World} {lo mid top p n m q : Nat} {va vb : Value} {Ra Rb : Nat → Value} {C : Mtx} (h : Work w lo mid top p va vb n m q Ra Rb C) (k : Nat) : Work (w.drewN k) lo mid top p va vb n m q Ra Rb C :=
  ⟨h.blk.drewN k, h.ga.drewN k, h.gb.drewN k, h.l1, h.l2, h.l3⟩
set_option maxRecDepth 100000 in
set_option maxHeartbeats 4000000 in
theorem clear_any (lo mid top p n m q t col : Nat) (va vb : Value) (Ra Rb : Nat → Value) (C : Mtx) (w : World) (h : Work w lo mid top p va vb n m q Ra Rb C) (hC : BytM C) (hn : n ≤ 1000) (ht : t < n) (hc : col < m) (hm : m ≤ 1000) (hq1 : 1 ≤ q) (hq : q ≤ 1000) (hz : C t col ≠ 0) :
    ∃ r, Byt r ∧ gmI (C t col) r = 1 ∧ Calls Try.prog 38 #[.pointer (some ⟨p, 0, none⟩), .int .i64 t, .int .i64 col] w fun e w' => e = .returned (.tuple #[]) ∧ Work w' lo mid top p va vb n m q Ra Rb (clrTo C t col r n) ∧ Insd lo top w w' := by
  obtain ⟨r, hr, hr1, IV⟩ := inv_still (C t col) w (hC t col) hz
  refine ⟨r, hr, hr1, ?_⟩
  have HIV := Lib.hid IV
  have HR := Lib.hid hr
  have HC := Lib.hid hC
  obtain ⟨g, cg, rfl, _, hgl, hgh, _⟩ := h.ga.form (by omega)
  obtain ⟨g', cg', rfl, _, hgl', hgh', _⟩ := h.gb.form (by omega)
  obtain ⟨hva, hvb⟩ := h.cells
  obtain ⟨b1, c1, e1, _, l1, l2, _⟩ := h.ga.rform (by omega) t ht
  obtain ⟨b2, c2, e2, _, l3, l4, _⟩ := h.gb.rform (by omega) t ht
  have z1 := (h.ga.head t ht).1
  rw [e1] at z1
  have z2 := (h.ga.elem t ht e1 col hc).1
  have hrow := h.ga.row t ht
  rw [e1] at hrow
  have SC := Lib.hid (scale_any lo b1 c1 m (C t) r w hrow (hC t) hr (by omega))
  have g0 : (0 : Int) ≤ (t : Int) := by omega
  have g1 : (t : Int) < (n : Int) := by omega
  have g2 : (0 : Int) ≤ (col : Int) := by omega
  have g3 : (col : Int) < (m : Int) := by omega
  have H := Lib.hid h
  have E1 := Lib.hid e1
  have E2 := Lib.hid e2
  obtain ⟨y, hy⟩ : ∃ y, y = C t col := ⟨_, rfl⟩
  rw [← hy] at z2 HIV
  clear h hC hr hr1 IV hz hrow e1 e2 hy
  go_enter Try.func38, Try.ntmps38
  go_upto_region 2 with (first
    | (go_at_call 46; (with_reducible refine (HIV.out _).mono ?_); rintro e w' ⟨rfl, hw⟩; obtain rfl := hw.symm)
    | (go_at_call 47; (with_reducible refine SC.out.mono ?_); rintro e w1 ⟨rfl, hr1, hg1⟩; have HR1 := Lib.hid hr1; have HG1 := Lib.hid hg1; clear hr1 hg1))
  have hr1 := HR1.out
  rw [← E1.out] at hr1
  have hw1 := H.out.putA t ht E1.out l1 l2 HG1.out _ hr1
  have HI1 := Lib.hid (Insd.grown HG1.out l1 (show b1 < top by have := H.out.l2; omega))
  clear hr1 hva hvb z1 z2 SC HIV
  obtain ⟨hva, hvb⟩ := hw1.cells
  have z1 := (hw1.gb.head t ht).1
  rw [E2.out] at z1
  have hrow := hw1.gb.row t ht
  rw [E2.out] at hrow
  rw [line_congr q _ (fun j => C t (m + j)) (fun j _ => by show (if t = t then (if m + j < m then _ else C t (m + j)) else _) = _; rw [if_pos rfl, if_neg (by omega)])] at hrow
  have SC := Lib.hid (scale_any mid b2 c2 q (fun j => C t (m + j)) r w1 hrow (fun j => HC.out t (m + j)) HR.out (by omega))
  have HW1 := Lib.hid hw1
  clear hw1 hrow
  go_upto_region 3 with (go_at_call 47; (with_reducible refine SC.out.mono ?_); rintro e w2 ⟨rfl, hr1, hg1⟩; have HR2 := Lib.hid hr1; have HG2 := Lib.hid hg1; clear hr1 hg1)
  have hr2 := HR2.out
  rw [← E2.out] at hr2
  have hw2 := HW1.out.putB t ht E2.out l3 l4 HG2.out _ hr2
  have HW2 := Lib.hid (show Work w2 lo mid top p _ _ n m q Ra Rb (clrTo C t col r 0) from hw2.congr (fun i hi j hj => by
    unfold clrTo
    by_cases e : i = t
    · subst e
      rw [if_pos rfl, if_pos rfl]
      by_cases ej : j < m
      · rw [if_pos ej, if_pos rfl, if_pos ej]
      · rw [if_neg ej, show m + (j - m) = j by omega, if_pos rfl]
    · rw [if_neg e, if_neg e, if_neg e, if_neg (Nat.not_lt_zero i)]))
  have HI2 := Lib.hid (HI1.out.trans (Insd.grown HG2.out (show lo ≤ b2 by have := H.out.l1; omega) l4))
  clear hr2 hw2 hva hvb z1 SC HW1 HI1 HR1 HR2 HG1 HG2
  have hva := HW2.out.cells.1
  go_upto_region 4 with (fail)
  clear hva
  go_loopw [8, 9, 47] (fun _ _ iv wr => ∃ (i : Nat), i ≤ n ∧ iv = .int .i64 i ∧ Hid (Work wr lo mid top p (.slice (some ⟨g, 0, none⟩) n cg) (.slice (some ⟨g', 0, none⟩) n cg') n m q Ra Rb (clrTo C t col r i)) ∧ Hid (Insd lo top w wr)) (fun _ _ iv _ => n - (intOf iv).toNat)
  case atStart => exact ⟨0, by omega, rfl, HW2, HI2⟩
  case round =>
    clear HW2 HI2
    obtain ⟨i, hi, rfl, HW, HI⟩ := hrel
    by_cases hlt : i < n
    · have hva := HW.out.cells.1
      obtain ⟨b3, c3, e3, _, l5, l6, _⟩ := HW.out.ga.rform (by omega) i hlt
      have z3 := (HW.out.ga.head i hlt).1
      rw [e3] at z3
      have z4 := (HW.out.ga.elem i hlt e3 col hc).1
      have E3 := Lib.hid e3
      have g4 : (0 : Int) ≤ (i : Int) := by omega
      have g5 : (i : Int) < (n : Int) := by omega
      clear e3
      by_cases hit : i = t
      · have t1 : ((i : Int) != (t : Int)) = false := by simp; omega
        have HT := Lib.hid hit
        obtain ⟨f, hf⟩ : ∃ f, f = clrTo C t col r i i col := ⟨_, rfl⟩
        rw [← hf] at z4
        clear hit hf
        go_wp2
        go_roundw
        case rel => exact ⟨i + 1, by omega, by go_num, Lib.hid (HW.out.congr (fun p' _ j _ => clrTo_skip HC.out t col r i (.inl HT.out) p' j)), HI⟩
        case measure => simp [intOf]; omega
      · have t1 : ((i : Int) != (t : Int)) = true := by simp; omega
        have HT := Lib.hid hit
        rw [clrTo_at C t col r i col hit] at z4
        clear hit
        by_cases hz : C i col = 0
        · rw [hz] at z4
          have HZ := Lib.hid hz
          clear hz
          go_wp2
          go_roundw
          case rel => exact ⟨i + 1, by omega, by go_num, Lib.hid (HW.out.congr (fun p' _ j _ => clrTo_skip HC.out t col r i (.inr HZ.out) p' j)), HI⟩
          case measure => simp [intOf]; omega
        · have t2 : (C i col != 0) = true := by simp [hz]
          have z5 := (HW.out.ga.head t ht).1
          rw [E1.out] at z5
          have hri := (HW.out.drewN 1).ga.row i hlt
          have hrt := (HW.out.drewN 1).ga.row t ht
          rw [E3.out, line_congr m _ (C i) (fun j _ => clrTo_at C t col r i j HT.out)] at hri
          rw [E1.out, line_congr m _ (fun j => gmI (C t j) r) (fun j _ => clrTo_t C t col r i j)] at hrt
          have HNE := Lib.hid (show b1 ≠ b3 from fun e => HW.out.ga.apart t i ht hlt (fun e => HT.out e.symm) b1 (by rw [E1.out]; rfl) (by rw [E3.out, e]; rfl))
          have SA := Lib.hid (sadd_any lo b3 c3 b1 c1 m (C i) (fun j => gmI (C t j) r) (C i col) (wr.drewN 1) hri hrt HNE.out (HC.out i) (fun j => gmI_byt (HC.out t j)) (HC.out i col) (by omega))
          obtain ⟨rl, hrl⟩ : ∃ rl, rl = line m (fun j => xorI (C i j) (gmI (gmI (C t j) r) (C i col))) := ⟨_, rfl⟩
          rw [← hrl] at SA
          have HRL := Lib.hid hrl
          obtain ⟨f, hf⟩ : ∃ f, f = C i col := ⟨_, rfl⟩
          rw [← hf] at z4 t2 SA
          have HF := Lib.hid hf
          clear hz hri hrt hrl hf
          go_upto_region 8 with (fail)
          refine wp_region_still_tail 15 (by kernel_rfl) (by kernel_rfl) ?_
          change wpStill _ _ (wr.drewN 1) (fun a' => wpList _ _ _ _ a' (wr.drewN 1)) _ _
          simp only [List.take_succ_cons, List.take_zero, List.drop_succ_cons, List.drop_zero]
          iterate 15 still_step
          refine wpStill_nil ?_
          go_upto_region 9 with (go_at_call 48; (with_reducible refine SA.out.mono ?_); rintro e w3 ⟨rfl, hr1, hg1⟩; have HR3 := Lib.hid hr1; have HG3 := Lib.hid hg1; clear hr1 hg1)
          have hr3 := HR3.out
          rw [← E3.out, HRL.out] at hr3
          have hw3 := (HW.out.drewN 1).putA i hlt E3.out l5 l6 HG3.out _ hr3
          have HI3 := Lib.hid ((HI.out.trans (Insd.drewN wr 1)).trans (Insd.grown HG3.out l5 (show b3 < top by have := HW.out.l2; omega)))
          clear hr3 hva z3 z4 z5 SA
          obtain ⟨_, hvb⟩ := hw3.cells
          obtain ⟨b4, c4, e4, _, l7, l8, _⟩ := hw3.gb.rform (by omega) i hlt
          have z6 := (hw3.gb.head i hlt).1
          have z7 := (hw3.gb.head t ht).1
          have hri := (hw3.drewN 1).gb.row i hlt
          have hrt := (hw3.drewN 1).gb.row t ht
          have HN4 := Lib.hid (show b2 ≠ b4 from fun e => hw3.gb.apart t i ht hlt (fun e => HT.out e.symm) b2 (by rw [E2.out]; rfl) (by rw [e4, e]; rfl))
          rw [e4] at z6 hri
          rw [E2.out] at z7 hrt
          rw [line_congr q _ (fun j => C i (m + j)) (fun j _ => by show (if i = i then (if m + j < m then _ else _) else _) = _; rw [if_pos rfl, if_neg (by omega), clrTo_at C t col r i (m + j) HT.out])] at hri
          rw [line_congr q _ (fun j => gmI (C t (m + j)) r) (fun j _ => by show (if t = i then _ else _) = _; rw [if_neg (fun e => HT.out e.symm), clrTo_t C t col r i (m + j)])] at hrt
          have SA := Lib.hid (sadd_any mid b4 c4 b2 c2 q (fun j => C i (m + j)) (fun j => gmI (C t (m + j)) r) f (w3.drewN 1) hri hrt HN4.out (fun j => HC.out i (m + j)) (fun j => gmI_byt (HC.out t (m + j))) (by rw [HF.out]; exact HC.out i col) (by omega))
          obtain ⟨rl2, hrl2⟩ : ∃ rl, rl = line q (fun j => xorI (C i (m + j)) (gmI (gmI (C t (m + j)) r) f)) := ⟨_, rfl⟩
          rw [← hrl2] at SA
          have HRL2 := Lib.hid hrl2
          have HW3 := Lib.hid hw3
          have E4 := Lib.hid e4
          clear hw3 e4 hri hrt hrl2
          refine wp_region_still_tail 15 (by kernel_rfl) (by kernel_rfl) ?_
          change wpStill _ _ (w3.drewN 1) (fun a' => wpList _ _ _ _ a' (w3.drewN 1)) _ _
          simp only [List.take_succ_cons, List.take_zero, List.drop_succ_cons, List.drop_zero]
          iterate 15 still_step
          refine wpStill_nil ?_
          go_wp2_with (go_at_call 48; (with_reducible refine SA.out.mono ?_); rintro e w4 ⟨rfl, hr1, hg1⟩; have HR4 := Lib.hid hr1; have HG4 := Lib.hid hg1; clear hr1 hg1)
          go_roundw
          case rel =>
            have hr4 := HR4.out
            rw [← E4.out, HRL2.out] at hr4
            have hw4 := (HW3.out.drewN 1).putB i hlt E4.out l7 l8 HG4.out _ hr4
            refine ⟨i + 1, by omega, by go_num, Lib.hid (hw4.congr (fun p' hp j hj => ?_)), Lib.hid ((HI3.out.trans (Insd.drewN w3 1)).trans (Insd.grown HG4.out (show lo ≤ b4 by have := HW.out.l1; omega) l8))⟩
            rw [← clrTo_next C t col r i p' j HT.out]
            by_cases ep : p' = i
            · subst ep
              rw [if_pos rfl, if_pos rfl]
              by_cases ej : j < m
              · rw [if_pos ej, if_pos rfl, if_pos ej]
              · rw [if_neg ej, HF.out, show m + (j - m) = j by omega, if_pos rfl]
            · rw [if_neg ep, if_neg ep, if_neg ep]
          case measure => simp [intOf]; omega
    · obtain rfl : i = n := by omega
      go_wp2
      first | go_end0 | ((try simp only [Exit.inBlock, Exit.then]); refine bodyPost_ret (results_none rfl _ _ _) rfl ?_)
      exact ⟨rfl, HW.out, HI.out⟩
end Go.Proofs.Ytojaekhplohbjaa.Sol
/- solve: rows brought to steps. -/
namespace Go.Proofs.Ytojaekhplohbjaa.Sol
open Go Go.RowKit Go.Proofs.Ytojaekhplohbjaa.Gi Go.Proofs.Ytojaekhplohbjaa.Gf Go.Proofs.Ytojaekhplohbjaa.Mem Go.Proofs.Ytojaekhplohbjaa.Bits Go.Proofs.Ytojaekhplohbjaa.Rws Go.Proofs.YtojaekhplohbjaaW.PrintWords
set_option linter.unusedVariables false

theorem swp_step (n : Nat) (C : Mtx) (t k col : Nat) (r : Int) (i : Nat) (hi : i < n) (j : Nat) : clrTo (swpR C t k) t col r n i j = stepI C t k col r i j := by
  have et : ∀ j, swpR C t k t j = C k j := fun j => by
    unfold swpR
    by_cases e : t = k
    · rw [if_pos e, e]
    · rw [if_neg e, if_pos rfl]
  unfold clrTo stepI
  by_cases e : i = t
  · rw [if_pos e, if_pos e, et]
  · rw [if_neg e, if_neg e, if_pos hi, et]
    have es : ∀ j, swpR C t k i j = swapI C t k i j := fun j => by
      unfold swpR swapI
      by_cases e1 : i = k
      · rw [if_pos e1, if_pos e1]
      · rw [if_neg e1, if_neg e, if_neg e1]
    rw [es, es]
theorem swp_byt {C : Mtx} (h : BytM C) (t k : Nat) : BytM (swpR C t k) := by
  intro i j
  unfold swpR
  split
  · exact h _ _
  · split <;> exact h _ _
theorem StepsTo.fill {n : Nat} {M0 M : Mtx} {col : Nat} (h : StepsTo n M0 col n M) : ∀ d, StepsTo n M0 (col + d) n M
  | 0 => h
  | d + 1 => (StepsTo.fill h d).skip (fun j h1 h2 => absurd h1 (by omega))
theorem grown_any {w w' : World} {row : Option Nat} (hg : w.grownBy w' row) (b : Nat) (h : row = none ∨ row = some b) : w.grownBy w' (some b) := by
  rcases h with h | h
  · subst h; exact ⟨hg.os, hg.tape, hg.output, hg.size, fun k hk _ => hg.block k hk (by simp)⟩
  · subst h; exact hg
theorem Work.grow {w w' : World} {lo mid top p n m q e sz k : Nat} {va vb u : Value} {Ra Rb : Nat → Value} {C : Mtx} {xs : List Value} (h : Work w lo mid top p va vb n m q Ra Rb C) (ho : w.ownsRow (p + 1) e sz u k xs) (hg : w.grownBy w' u.ownBlock) :
    Work w' lo mid top p va vb n m q Ra Rb C := by
  rcases hb : u.ownBlock with _ | b
  · exact h.grown (grown_any hg (p + 1) (.inl hb)) (by omega)
  · rw [hb] at hg
    exact h.grown hg (by have := own_base ho b hb; omega)
theorem info_int : (Try.prog.info? 3).map (fun i => (i.zero, i.size, i.bytes)) = some (some (.int .i64 0), 1, 8) := by kernel_rfl
set_option maxRecDepth 100000 in
set_option maxHeartbeats 4000000 in
theorem ssteps_any (lo mid top p n m q : Nat) (va vb : Value) (Ra Rb : Nat → Value) (C0 : Mtx) (w : World) (h : Work w lo mid top p va vb n m q Ra Rb C0) (hC : BytM C0) (hn1 : 1 ≤ n) (hn : n ≤ 1000) (hm1 : 1 ≤ m) (hm : m ≤ 1000) (hq1 : 1 ≤ q) (hq : q ≤ 1000) (hlo : lo ≤ w.heap.size) :
    Calls Try.prog 26 #[.pointer (some ⟨p, 0, none⟩)] w fun e w' => ∃ A c t Ra' Rb' C, e = .returned (.slice A t c) ∧ Work w' lo mid top p va vb n m q Ra' Rb' C ∧ StepsTo n C0 m t C ∧ Below lo w w' := by
  obtain ⟨g, cg, rfl, _⟩ := h.ga.form (by omega)
  have hva := h.cells.1
  obtain ⟨b0, c0, e0, _⟩ := h.ga.rform (by omega) 0 (by omega)
  have z0 := (h.ga.head 0 (by omega)).1
  rw [e0] at z0
  have H := Lib.hid h
  have HC0 := Lib.hid hC
  have t0 : ((n : Int) == 0) = false := by simp; omega
  have g9 : (0 : Int) < (n : Int) := by omega
  have HLO := Lib.hid hlo
  have HPL := Lib.hid h.blk.lt
  clear h hC e0 hlo
  go_enter Try.func26, Try.ntmps26
  go_upto_region 5 with (fail)
  clear hva z0
  go_loopw [3, 4, 5, 6, 20] (fun uv _ _ _ cv wr => ∃ (t col : Nat) (C : Mtx) (Ra Rb : Nat → Value) (u : Value) (cols : List Int), uv = u ∧ cv = .int .i64 col ∧ col ≤ m ∧ t < n ∧ cols.length = t ∧ Hid (wr.ownsRow (p + 1) 3 1 u cols.length (nums .i64 cols)) ∧ Hid (Work wr lo mid top p (.slice (some ⟨g, 0, none⟩) n cg) vb n m q Ra Rb C) ∧ Hid (StepsTo n C0 col t C) ∧ Hid (Below lo w wr)) (fun _ _ _ _ cv _ => m - (intOf cv).toNat)
  case atStart => exact ⟨0, 0, C0, Ra, Rb, _, [], rfl, rfl, by omega, by omega, rfl, Lib.hid (own_nil _ _ _ _), H, Lib.hid .start, Lib.hid (Below.refl _ _)⟩
  case round =>
    clear H
    obtain ⟨t, col, C, Ra, Rb, u, cols, rfl, rfl, hcol, htn, htl, HO, HW, HS, HB⟩ := hrel
    by_cases hlt : col < m
    · obtain ⟨A3, c3, e3⟩ := own_slice HO.out
      subst e3
      rw [htl] at HO ⊢
      have g0 : (0 : Int) ≤ (col : Int) := by omega
      have g1 : (col : Int) < (m : Int) := by omega
      have PV := Lib.hid (pivot_any lo mid top p n m q t col _ vb Ra Rb C wr HW.out hn1 (by omega) (by omega) hlt)
      have HTL := Lib.hid htl
      clear htl
      go_upto_region 9 with (go_at_call 35; (with_reducible refine PV.out.mono ?_); rintro e w1 ⟨r, rfl, hp, hw⟩; obtain rfl := hw.symm; have HP := Lib.hid hp; clear hp)
      clear PV
      rcases HP.out with ⟨er, hzz⟩ | ⟨k, er, htk, hkn, hzk, hnz⟩
      · have HZ := Lib.hid hzz
        have r0 : r < 0 := by omega
        clear er hzz HP
        go_wp2
        go_roundw
        case rel => exact ⟨t, col + 1, C, Ra, Rb, _, cols, rfl, by go_num, by omega, htn, HTL.out, by rw [HTL.out]; exact HO, HW, Lib.hid (HS.out.skip HZ.out), HB⟩
        case measure => simp [intOf]; omega
      · subst er
        have HZ := Lib.hid hzk
        have HN := Lib.hid hnz
        have HBY := Lib.hid (HS.out.byt HC0.out)
        have SW := Lib.hid (swap_any lo mid top p n m q t k _ vb Ra Rb C wr HW.out (by omega) htn hkn hm1 hq1)
        have r0 : ¬ (k : Int) < 0 := by omega
        clear hzk hnz HP
        go_upto_region 11 with (go_at_call 36; (with_reducible refine SW.out.mono ?_); rintro e w1 ⟨rfl, hw1, hi1⟩; have HW1 := Lib.hid hw1; have HI1 := Lib.hid hi1; clear hw1 hi1)
        have hnz2 : swpR C t k t col ≠ 0 := by
          have : swpR C t k t col = C k col := by
            unfold swpR
            by_cases e : t = k
            · rw [if_pos e, e]
            · rw [if_neg e, if_pos rfl]
          rw [this]; exact HN.out
        obtain ⟨r, hr, hr1, CL⟩ := clear_any lo mid top p n m q t col _ vb _ _ _ w1 HW1.out (swp_byt HBY.out t k) hn htn hlt hm hq1 hq hnz2
        have hr1' : gmI (C k col) r = 1 := by
          have : swpR C t k t col = C k col := by
            unfold swpR
            by_cases e : t = k
            · rw [if_pos e, e]
            · rw [if_neg e, if_pos rfl]
          rw [← this]; exact hr1
        have HST := Lib.hid (StepsTo.step HS.out htk hkn HZ.out HN.out hr hr1')
        have HCL := Lib.hid CL
        clear CL hr hr1 hr1' hnz2 SW
        go_upto_region 12 with (go_at_call 38; (with_reducible refine HCL.out.mono ?_); rintro e w2 ⟨rfl, hw2, hi2⟩; have HW2 := Lib.hid (hw2.congr (fun i hi j _ => swp_step n C t k col r i hi j)); have HI2 := Lib.hid (HI1.out.trans hi2); clear hw2 hi2)
        have HO2 := Lib.hid (HI2.out.own HO.out (by have := HW.out.l3; omega))
        have HB2 := Lib.hid (HB.out.trans (HI2.out.below (Nat.le_trans HLO.out HB.out.size)))
        have HPS := Lib.hid HW2.out.blk.lt
        clear HCL HI1 HI2 HW1 HO HW HB
        go_upto_region 13 with (at_builtin; refine print_append_num (w0 := w2) (p + 1) rfl _ _ 48 3 .i64 8 rfl Try.underlying48 info_int (by decide) (.slice A3 t c3) cols (col : Int) rfl rfl (by rw [HTL.out]; exact HO2.out) (Below.refl _ _) (by have := HPS.out; omega) (by have := HTL.out; omega) ?_; intro v3 w3 ho hb hg _; obtain ⟨A4, c4, e4⟩ := own_slice ho; rw [show (cols ++ [(col : Int)]).length = t + 1 by have := HTL.out; simp [this]] at e4 ho; subst e4; have HO3 := Lib.hid ho; have HB3 := Lib.hid (HB2.out.trans (hb.mono (show lo ≤ p + 1 by have := HW2.out.l1; have := HW2.out.l2; have := HW2.out.l3; omega))); have HW3 := Lib.hid (HW2.out.grow HO2.out hg); clear ho hb hg)
        have hva := HW3.out.cells.1
        by_cases hfull : t + 1 = n
        · have tt : ((t : Int) + 1 == (n : Int)) = true := by simp; omega
          have HF := Lib.hid hfull
          clear hfull
          go_wp2
          go_ret
          refine ⟨A4, c4, t + 1, _, _, _, rfl, HW3.out, ?_, HB3.out⟩
          have h1 := HST.out
          have h2 := StepsTo.fill (n := n) (by rw [HF.out] at h1; exact h1) (m - (col + 1))
          rw [show col + 1 + (m - (col + 1)) = m by omega] at h2
          rw [HF.out]; exact h2
        · have tt : ((t : Int) + 1 == (n : Int)) = false := by simp; omega
          have HF := Lib.hid hfull
          clear hfull
          go_wp2
          go_roundw
          case rel => exact ⟨t + 1, col + 1, _, _, _, _, cols ++ [(col : Int)], rfl, by go_num, by omega, by have := HF.out; omega, by have := HTL.out; simp [this], by rw [show (cols ++ [(col : Int)]).length = t + 1 by have := HTL.out; simp [this]]; exact HO3, HW3, HST, HB3⟩
          case measure => simp [intOf]; omega
    · obtain rfl : col = m := by omega
      obtain ⟨A3, c3, e3⟩ := own_slice HO.out
      subst e3
      rw [htl]
      have HTL := Lib.hid htl
      clear htl
      go_wp2
      go_ret
      exact ⟨A3, c3, t, _, _, _, rfl, HW.out, HS.out, HB.out⟩
end Go.Proofs.Ytojaekhplohbjaa.Sol
/- solve: Rank, Steps, Solve, Invert, walked. -/
namespace Go.Proofs.Ytojaekhplohbjaa.Sol
open Go Go.RowKit Go.Proofs.Ytojaekhplohbjaa.Gi Go.Proofs.Ytojaekhplohbjaa.Gf Go.Proofs.Ytojaekhplohbjaa.Mem Go.Proofs.Ytojaekhplohbjaa.Bits Go.Proofs.Ytojaekhplohbjaa.Rws Go.Proofs.YtojaekhplohbjaaW.PrintWords
set_option linter.unusedVariables false

/-- Two matrices side by side. -/
def augM (m : Nat) (A B : Mtx) : Mtx := fun i j => if j < m then A i j else B i (j - m)
theorem augM_byt {m : Nat} {A B : Mtx} (hA : BytM A) (hB : BytM B) : BytM (augM m A B) := by
  intro i j
  unfold augM
  split
  · exact hA _ _
  · exact hB _ _
theorem mat_right (n m : Nat) (C : Mtx) (h1 : 1 ≤ n) (h2 : n ≤ 64) (h3 : 1 ≤ m) (h4 : m ≤ 64) : Mat.RightP (mat n m C) := by
  have e : ((mat n m C).getD 0 []).length = m := by rw [mat_get n m C 0 (by omega), line_len]
  refine ⟨by rw [mat_len]; exact h1, by rw [mat_len]; exact h2, by rw [e]; exact h3, by rw [e]; exact h4, fun l hl => ?_⟩
  obtain ⟨i, _, rfl⟩ := List.mem_map.1 hl
  rw [e, line_len]
theorem mat_bytes (n m : Nat) {C : Mtx} (h : BytM C) : Mat.AllBytes (mat n m C) := by
  intro l hl
  obtain ⟨i, _, rfl⟩ := List.mem_map.1 hl
  exact line_byt m _ (h i)
theorem of_grid (n m lo hi c : Nat) (A : Option Addr) (R : Nat → Value) (C : Mtx) (w : World) (h : Grid w lo hi (.slice A n c) n m R C) (hC : BytM C) (h1 : 1 ≤ n) (h2 : n ≤ 64) (h3 : 1 ≤ m) (h4 : m ≤ 64) :
    Calls Try.prog 8 #[.slice A n c] w fun e w' => ∃ b s cap, e = .returned (.tuple #[.pointer (some ⟨b, 0, none⟩), .int .i64 0]) ∧ Mat.MatIn w' b s n m cap (Mat.flat (mat n m C)) ∧ Below w.heap.size w w' := by
  obtain ⟨hl, hc, hC'⟩ := Kd.R_reads' h.rows
  have e : ((mat n m C).getD 0 []).length = m := by rw [mat_get n m C 0 (by omega), line_len]
  have h := Mat.of_right A c (mat n m C) w w (Below.refl _ _) hC' (mat_right n m C h1 h2 h3 h4) (mat_bytes n m hC) (by omega)
  rw [mat_len, e] at h
  refine h.mono ?_
  rintro e w' ⟨b, s, cap, rfl, hm, hb, _, _⟩
  exact ⟨b, s, cap, rfl, hm, hb⟩
theorem flat_mx (n m : Nat) (C : Mtx) (i j : Nat) (hi : i < n) (hj : j < m) : mx m (Mat.flat (mat n m C)) i j = C i j := by
  unfold mx
  rw [Mat.flat_getD m (mat n m C) (fun l hl => by obtain ⟨q, _, rfl⟩ := List.mem_map.1 hl; exact line_len _ _) i j (by rw [mat_len]; exact hi) hj, mat_get n m C i hi, line_get m _ j hj]
theorem swith_aug (v u : Value) (n m q : Nat) (xs ys : List Int) (w : World) (h : Mat.IsMat w v n m xs) (h' : Mat.IsMat w u n q ys) :
    Calls Try.prog 25 #[v, u] w fun e w' => ∃ mid top p va vb Ra Rb, e = .returned (.pointer (some ⟨p, 0, none⟩)) ∧ Work w' w.heap.size mid top p va vb n m q Ra Rb (augM m (mx m xs) (mx q ys)) ∧ Below w.heap.size w w' :=
  swith_any v u n m q xs ys w h h'
section
variable (b s cap n m : Nat) (xs : List Int) (w : World)
set_option maxRecDepth 100000 in
set_option maxHeartbeats 2000000 in
theorem rank_any (h : Mat.MatIn w b s n m cap xs) :
    Calls Try.prog 13 #[.pointer (some ⟨b, 0, none⟩)] w fun e w' => ∃ t C, e = .returned (.int .i64 (t : Nat)) ∧ StepsTo n (augM m (mx m xs) (mx m xs)) m t C ∧ Below w.heap.size w w' := by
  have WT := Lib.hid (fun W (hB : Below w.heap.size w W) => swith_aug _ _ n m m xs xs W ⟨b, s, cap, rfl, h.below hB⟩ ⟨b, s, cap, rfl, h.below hB⟩)
  have BY := Lib.hid (augM_byt (m := m) (mx_byt (c := m) h.byt) (mx_byt (c := m) h.byt))
  have N1 := Lib.hid (And.intro h.r0 (show n ≤ 1000 by have := h.r1; omega))
  have M1 := Lib.hid (And.intro h.c0 (show m ≤ 1000 by have := h.c1; omega))
  have Q1 := M1
  have HB := Lib.hid (Below.refl w.heap.size w)
  clear h
  go_enter Try.func13, Try.ntmps13
  go_wp2_with (first
  | (go_at_call 25; (with_reducible refine (WT.out _ HB.out).mono ?_); rintro e w1 ⟨mid, top, p, va, vb, Ra, Rb, rfl, hw, hb⟩; have HW := Lib.hid hw; have HS := Lib.hid hb.size; have HBn := Lib.hid (HB.out.trans (hb.mono HB.out.size)); have HL := Lib.hid HB.out.size; clear HB hw hb; have HB := HBn; clear HBn)
  | (go_at_call 26; (with_reducible refine (ssteps_any _ mid top p _ _ _ va vb Ra Rb _ w1 HW.out BY.out N1.out.1 N1.out.2 M1.out.1 M1.out.2 Q1.out.1 Q1.out.2 HS.out).mono ?_); rintro e w2 ⟨A2, c2, t, Ra', Rb', C, rfl, hw2, hst, hb2⟩; have HW2 := Lib.hid hw2; have HST := Lib.hid hst; have HBn := Lib.hid (HB.out.trans (hb2.mono HL.out)); clear HB hw2 hst hb2; have HB := HBn; clear HBn))
  go_ret
  exact ⟨t, C, rfl, HST.out, HB.out⟩
theorem rank_nil :
    Calls Try.prog 13 #[.pointer none] w fun e w' => e = .returned (.int .i64 0) ∧ w' = w := by
  go_enter Try.func13, Try.ntmps13
  go_wp2
  go_ret
  exact ⟨rfl, rfl⟩
set_option maxRecDepth 100000 in
set_option maxHeartbeats 2000000 in
theorem steps_mat (h : Mat.MatIn w b s n m cap xs) :
    Calls Try.prog 9 #[.pointer (some ⟨b, 0, none⟩)] w fun e w' => ∃ t C b' s' cap', e = .returned (.tuple #[.pointer (some ⟨b', 0, none⟩), .int .i64 0]) ∧ StepsTo n (augM m (mx m xs) (mx m xs)) m t C ∧ Mat.MatIn w' b' s' n m cap' (Mat.flat (mat n m C)) ∧ Below w.heap.size w w' := by
  have WT := Lib.hid (fun W (hB : Below w.heap.size w W) => swith_aug _ _ n m m xs xs W ⟨b, s, cap, rfl, h.below hB⟩ ⟨b, s, cap, rfl, h.below hB⟩)
  have BY := Lib.hid (augM_byt (m := m) (mx_byt (c := m) h.byt) (mx_byt (c := m) h.byt))
  have N1 := Lib.hid (And.intro h.r0 (show n ≤ 1000 by have := h.r1; omega))
  have M1 := Lib.hid (And.intro h.c0 (show m ≤ 1000 by have := h.c1; omega))
  have NM := Lib.hid (And.intro h.r1 h.c1)
  have Q1 := M1
  have HB := Lib.hid (Below.refl w.heap.size w)
  clear h
  go_enter Try.func9, Try.ntmps9
  go_upto_region 5 with (first
  | (go_at_call 25; (with_reducible refine (WT.out _ HB.out).mono ?_); rintro e w1 ⟨mid, top, p, va, vb, Ra, Rb, rfl, hw, hb⟩; have HW := Lib.hid hw; have HS := Lib.hid hb.size; have HBn := Lib.hid (HB.out.trans (hb.mono HB.out.size)); have HL := Lib.hid HB.out.size; clear HB hw hb; have HB := HBn; clear HBn)
  | (go_at_call 26; (with_reducible refine (ssteps_any _ mid top p _ _ _ va vb Ra Rb _ w1 HW.out BY.out N1.out.1 N1.out.2 M1.out.1 M1.out.2 Q1.out.1 Q1.out.2 HS.out).mono ?_); rintro e w2 ⟨A2, c2, t, Ra', Rb', C, rfl, hw2, hst, hb2⟩; have HW2 := Lib.hid hw2; have HST := Lib.hid hst; have HBn := Lib.hid (HB.out.trans (hb2.mono HL.out)); clear HB hw2 hst hb2; have HB := HBn; clear HBn))
  have hva := HW2.out.cells.1
  obtain ⟨A3, c3, e3⟩ := own_slice HW2.out.ga.hd
  subst e3
  have OF := Lib.hid (of_grid n m _ _ c3 A3 Ra' C w2 HW2.out.ga (HST.out.byt BY.out) N1.out.1 NM.out.1 M1.out.1 NM.out.2)
  go_wp2_with (go_at_call 8; (with_reducible refine OF.out.mono ?_); rintro e w3 ⟨b', s', cap', rfl, hm, hb⟩; have HM := Lib.hid hm; have HB3 := Lib.hid (HB.out.trans (hb.mono HB.out.size)); clear hm hb)
  go_ret2
  exact ⟨t, C, b', s', cap', rfl, HST.out, HM.out, HB3.out⟩
theorem steps_nil :
    Calls Try.prog 9 #[.pointer none] w fun e w' => e = .returned (.tuple #[.pointer none, .int .i64 1]) ∧ w' = w := by
  go_enter Try.func9, Try.ntmps9
  go_wp2
  go_ret2
  exact ⟨rfl, rfl⟩
end
end Go.Proofs.Ytojaekhplohbjaa.Sol
/- solve: Solve, Invert, Det, walked. -/
namespace Go.Proofs.Ytojaekhplohbjaa.Sol
open Go Go.RowKit Go.Proofs.Ytojaekhplohbjaa.Gi Go.Proofs.Ytojaekhplohbjaa.Gf Go.Proofs.Ytojaekhplohbjaa.Mem Go.Proofs.Ytojaekhplohbjaa.Bits Go.Proofs.Ytojaekhplohbjaa.Rws Go.Proofs.YtojaekhplohbjaaW.PrintWords
set_option linter.unusedVariables false

/-- What Solve tells of matrices that fit. -/
def SolvePost (n q : Nat) (C0 : Mtx) (w : World) (e : Ending) (w' : World) : Prop :=
  Below w.heap.size w w' ∧ ∃ t C, StepsTo n C0 n t C ∧ ((t < n ∧ e = .returned (.tuple #[.pointer none, .int .i64 23])) ∨
    (t = n ∧ ∃ b s cap, e = .returned (.tuple #[.pointer (some ⟨b, 0, none⟩), .int .i64 0]) ∧ Mat.MatIn w' b s n q cap (Mat.flat (mat n q (fun i j => C i (n + j))))))
theorem BytM.shift {C : Mtx} (h : BytM C) (n : Nat) : BytM (fun i j => C i (n + j)) := fun i j => h i (n + j)
theorem size_b (v : Value) (r c : Nat) (xs : List Int) (w : World) (h : Mat.IsMat w v r c xs) :
    Calls Try.prog 27 #[v] w fun e w' => e = .returned (.tuple #[.int .i64 r, .int .i64 c]) ∧ Below w.heap.size w w' := by
  refine (Mat.size_any v r c xs w h).mono ?_
  rintro e w' ⟨rfl, q, rfl⟩
  exact ⟨rfl, pw_below_drewN (Below.refl _ _) q⟩
theorem size_nb (w : World) :
    Calls Try.prog 27 #[.pointer none] w fun e w' => e = .returned (.tuple #[.int .i64 0, .int .i64 0]) ∧ Below w.heap.size w w' := by
  refine (Mat.size_nil w).mono ?_
  rintro e w' ⟨rfl, q, rfl⟩
  exact ⟨rfl, pw_below_drewN (Below.refl _ _) q⟩
section
variable (b s cap b1 s1 cap1 n m k q : Nat) (xs ys : List Int) (w : World)
set_option maxRecDepth 100000 in
set_option maxHeartbeats 2000000 in
theorem solve_good (h : Mat.MatIn w b s n n cap xs) (h' : Mat.MatIn w b1 s1 n q cap1 ys) :
    Calls Try.prog 15 #[.pointer (some ⟨b, 0, none⟩), .pointer (some ⟨b1, 0, none⟩)] w (SolvePost n q (augM n (mx n xs) (mx q ys)) w) := by
  have WT := Lib.hid (fun W (hB : Below w.heap.size w W) => swith_aug _ _ n n q xs ys W ⟨b, s, cap, rfl, h.below hB⟩ ⟨b1, s1, cap1, rfl, h'.below hB⟩)
  have SA := Lib.hid (fun W (hB : Below w.heap.size w W) => size_b _ n n xs W ⟨b, s, cap, rfl, h.below hB⟩)
  have SB := Lib.hid (fun W (hB : Below w.heap.size w W) => size_b _ n q ys W ⟨b1, s1, cap1, rfl, h'.below hB⟩)
  have BY := Lib.hid (augM_byt (m := n) (mx_byt (c := n) h.byt) (mx_byt (c := q) h'.byt))
  have N1 := Lib.hid (And.intro h.r0 (show n ≤ 1000 by have := h.r1; omega))
  have M1 := N1
  have Q1 := Lib.hid (And.intro h'.c0 (show q ≤ 1000 by have := h'.c1; omega))
  have NM := Lib.hid (And.intro h.r1 h'.c1)
  have HB := Lib.hid (Below.refl w.heap.size w)
  have t1 : ((n : Int) != (n : Int)) = false := by simp
  clear h h'
  go_enter Try.func15, Try.ntmps15
  go_wp2_with (first
    | (go_at_call 27; (first | (with_reducible refine (SA.out _ HB.out).mono ?_) | (with_reducible refine (SB.out _ HB.out).mono ?_)); rintro e w0 ⟨rfl, hb⟩; have HBn := Lib.hid (HB.out.trans (hb.mono HB.out.size)); clear HB hb; have HB := HBn; clear HBn)
    | (go_at_call 25; (with_reducible refine (WT.out _ HB.out).mono ?_); rintro e w1 ⟨mid, top, p, va, vb, Ra, Rb, rfl, hw, hb⟩; have HW := Lib.hid hw; have HS := Lib.hid hb.size; have HL := Lib.hid HB.out.size; have HBn := Lib.hid (HB.out.trans (hb.mono HB.out.size)); clear HB hb; have HB := HBn; clear HBn; clear hw)
    | (go_at_call 26; (with_reducible refine (ssteps_any _ mid top p _ _ _ va vb Ra Rb _ w1 HW.out BY.out N1.out.1 N1.out.2 M1.out.1 M1.out.2 Q1.out.1 Q1.out.2 HS.out).mono ?_); rintro e w2 ⟨A2, c2, t, Ra', Rb', C, rfl, hw2, hst, hb2⟩; obtain ⟨A3, c3, e3⟩ := own_slice hw2.gb.hd; subst e3; have hvb := hw2.cells.2; have HW2 := Lib.hid hw2; have HST := Lib.hid hst; have HB3 := Lib.hid (HB.out.trans (hb2.mono HL.out)); clear HB hw2 hst hb2)
    | (go_at_call 8; (with_reducible refine (of_grid n q _ _ c3 A3 Rb' (fun i j => C i (n + j)) _ HW2.out.gb (BytM.shift (HST.out.byt BY.out) n) N1.out.1 NM.out.1 Q1.out.1 NM.out.2).mono ?_); rintro e w3 ⟨b', s', cap', rfl, hm, hb⟩; have HM := Lib.hid hm; have HB4 := Lib.hid (HB3.out.trans (hb.mono HB3.out.size)); clear hm hb))
  · go_ret2
    exact ⟨HB3.out, t, C, HST.out, .inl ⟨by omega, rfl⟩⟩
  · go_ret2
    exact ⟨HB4.out, t, C, HST.out, .inr ⟨by have := HST.out.le; omega, b', s', cap', rfl, HM.out⟩⟩
theorem solve_sizes (h : Mat.MatIn w b s n m cap xs) (h' : Mat.MatIn w b1 s1 k q cap1 ys) (hne : n ≠ m ∨ k ≠ n) :
    Calls Try.prog 15 #[.pointer (some ⟨b, 0, none⟩), .pointer (some ⟨b1, 0, none⟩)] w fun e w' => e = .returned (.tuple #[.pointer none, .int .i64 1]) ∧ Below w.heap.size w w' := by
  have SA := Lib.hid (fun W (hB : Below w.heap.size w W) => size_b _ n m xs W ⟨b, s, cap, rfl, h.below hB⟩)
  have SB := Lib.hid (fun W (hB : Below w.heap.size w W) => size_b _ k q ys W ⟨b1, s1, cap1, rfl, h'.below hB⟩)
  have HB := Lib.hid (Below.refl w.heap.size w)
  have hh : ((n : Int) != (m : Int)) = true ∨ (((n : Int) != (m : Int)) = false ∧ ((k : Int) != (n : Int)) = true) := by
    by_cases e : n = m
    · exact .inr ⟨by simp [e], by rcases hne with h | h; (· exact absurd e h); (· simp; omega)⟩
    · exact .inl (by simp; omega)
  clear h h' hne
  rcases hh with h1 | ⟨h1, h2⟩
  all_goals
    go_enter Try.func15, Try.ntmps15
    go_wp2_with (go_at_call 27; (first | (with_reducible refine (SA.out _ HB.out).mono ?_) | (with_reducible refine (SB.out _ HB.out).mono ?_)); rintro e w0 ⟨rfl, hb⟩; have HBn := Lib.hid (HB.out.trans (hb.mono HB.out.size)); clear HB hb; have HB := HBn; clear HBn)
    go_ret2
    exact ⟨rfl, HB.out⟩
theorem solve_nil (h' : Mat.MatIn w b1 s1 k q cap1 ys) :
    Calls Try.prog 15 #[.pointer none, .pointer (some ⟨b1, 0, none⟩)] w fun e w' => e = .returned (.tuple #[.pointer none, .int .i64 1]) ∧ Below w.heap.size w w' := by
  have SA := Lib.hid (fun W => size_nb W)
  have SB := Lib.hid (fun W (hB : Below w.heap.size w W) => size_b _ k q ys W ⟨b1, s1, cap1, rfl, h'.below hB⟩)
  have HB := Lib.hid (Below.refl w.heap.size w)
  clear h'
  go_enter Try.func15, Try.ntmps15
  go_wp2_with (go_at_call 27; (first | (with_reducible refine (SA.out _).mono ?_) | (with_reducible refine (SB.out _ HB.out).mono ?_)); rintro e w0 ⟨rfl, hb⟩; have HBn := Lib.hid (HB.out.trans (hb.mono HB.out.size)); clear HB hb; have HB := HBn; clear HBn)
  go_ret2
  exact ⟨rfl, HB.out⟩
theorem invert_nil :
    Calls Try.prog 16 #[.pointer none] w fun e w' => e = .returned (.tuple #[.pointer none, .int .i64 1]) ∧ Below w.heap.size w w' := by
  have SA := Lib.hid (fun W => size_nb W)
  have HB := Lib.hid (Below.refl w.heap.size w)
  go_enter Try.func16, Try.ntmps16
  go_wp2_with (go_at_call 27; (with_reducible refine (SA.out _).mono ?_); rintro e w0 ⟨rfl, hb⟩; have HBn := Lib.hid (HB.out.trans (hb.mono HB.out.size)); clear HB hb; have HB := HBn; clear HBn)
  go_ret2
  exact ⟨rfl, HB.out⟩
theorem invert_sizes (h : Mat.MatIn w b s n m cap xs) (hne : n ≠ m) :
    Calls Try.prog 16 #[.pointer (some ⟨b, 0, none⟩)] w fun e w' => e = .returned (.tuple #[.pointer none, .int .i64 1]) ∧ Below w.heap.size w w' := by
  have SA := Lib.hid (fun W (hB : Below w.heap.size w W) => size_b _ n m xs W ⟨b, s, cap, rfl, h.below hB⟩)
  have HB := Lib.hid (Below.refl w.heap.size w)
  have h1 : ((n : Int) != (m : Int)) = true := by simp; omega
  clear h hne
  go_enter Try.func16, Try.ntmps16
  go_wp2_with (go_at_call 27; (with_reducible refine (SA.out _ HB.out).mono ?_); rintro e w0 ⟨rfl, hb⟩; have HBn := Lib.hid (HB.out.trans (hb.mono HB.out.size)); clear HB hb; have HB := HBn; clear HBn)
  go_ret2
  exact ⟨rfl, HB.out⟩
theorem invert_good (h : Mat.MatIn w b s n n cap xs) :
    Calls Try.prog 16 #[.pointer (some ⟨b, 0, none⟩)] w (SolvePost n n (augM n (mx n xs) (mx n (Mat.oneTo n n))) w) := by
  have SA := Lib.hid (fun W (hB : Below w.heap.size w W) => size_b _ n n xs W ⟨b, s, cap, rfl, h.below hB⟩)
  have HH := Lib.hid (fun W (hB : Below w.heap.size w W) => h.below hB)
  have ON := Lib.hid (fun W => Mat.one_good n W h.r0 h.r1)
  have HB := Lib.hid (Below.refl w.heap.size w)
  have h1 : ((n : Int) != (n : Int)) = false := by simp
  clear h
  go_enter Try.func16, Try.ntmps16
  go_upto_region 5 with (first
    | (go_at_call 27; (with_reducible refine (SA.out _ HB.out).mono ?_); rintro e w0 ⟨rfl, hb⟩; have HBn := Lib.hid (HB.out.trans (hb.mono HB.out.size)); clear HB hb; have HB := HBn; clear HBn)
    | (go_at_call 32; (with_reducible refine (ON.out _).mono ?_); rintro e w1 ⟨b1, s1, cap1, rfl, hm, hb, _, _⟩; have HM := Lib.hid hm; have HBn := Lib.hid (HB.out.trans (hb.mono HB.out.size)); clear HB hb; have HB := HBn; clear HBn; clear hm))
  have SG := Lib.hid (solve_good b s cap b1 s1 cap1 n n xs (Mat.oneTo n n) w1 (HH.out _ HB.out) HM.out)
  go_wp2_with (go_at_call 15; (with_reducible refine SG.out.mono ?_); rintro e w2 ⟨hb, t, C, hst, hd⟩; have HST := Lib.hid hst; have HB2 := Lib.hid (HB.out.trans (hb.mono HB.out.size)); clear hst hb; rcases hd with ⟨htn, rfl⟩ | ⟨htn, b', s', cap', rfl, hm⟩)
  · go_ret2
    exact ⟨HB2.out, t, C, HST.out, .inl ⟨htn, rfl⟩⟩
  · go_ret2
    exact ⟨HB2.out, t, C, HST.out, .inr ⟨htn, b', s', cap', rfl, hm⟩⟩
end
/-- What Det comes to, column by column. -/
inductive DetTo (n : Nat) (C0 : Mtx) : Nat → Int → Mtx → Prop
  | start : DetTo n C0 0 1 C0
  | step {col k : Nat} {r d : Int} {C : Mtx} : DetTo n C0 col d C → col ≤ k → k < n → (∀ j, col ≤ j → j < k → C j col = 0) → C k col ≠ 0 → Byt r → gmI (C k col) r = 1 → DetTo n C0 (col + 1) (gmI d (C k col)) (stepI C col k col r)
theorem DetTo.byt {n : Nat} {C0 : Mtx} (h0 : BytM C0) {col : Nat} {d : Int} {C : Mtx} (h : DetTo n C0 col d C) : BytM C ∧ Byt d := by
  induction h with
  | start => exact ⟨h0, ⟨by decide, by decide⟩⟩
  | step _ _ _ _ _ hr _ ih => exact ⟨stepI_byt ih.1 hr, gmI_byt ih.2⟩
/-- What Det tells. -/
def DetPost (n : Nat) (C0 : Mtx) (d : Int) : Prop := (∃ C, DetTo n C0 n d C) ∨ (d = 0 ∧ ∃ col d' C, col < n ∧ DetTo n C0 col d' C ∧ ∀ j, col ≤ j → j < n → C j col = 0)
theorem swp_at (C : Mtx) (t k col : Nat) : swpR C t k t col = C k col := by
  unfold swpR
  by_cases e : t = k
  · rw [if_pos e, e]
  · rw [if_neg e, if_pos rfl]
section
variable (b s cap n m : Nat) (xs : List Int) (w : World)
theorem det_nil :
    Calls Try.prog 19 #[.pointer none] w fun e w' => e = .returned (.tuple #[.int .u8 0, .int .i64 1]) ∧ Below w.heap.size w w' := by
  have SA := Lib.hid (fun W => size_nb W)
  have HB := Lib.hid (Below.refl w.heap.size w)
  go_enter Try.func19, Try.ntmps19
  go_wp2_with (go_at_call 27; (with_reducible refine (SA.out _).mono ?_); rintro e w0 ⟨rfl, hb⟩; have HBn := Lib.hid (HB.out.trans (hb.mono HB.out.size)); clear HB hb; have HB := HBn; clear HBn)
  go_ret2
  exact ⟨rfl, HB.out⟩
theorem det_sizes (h : Mat.MatIn w b s n m cap xs) (hne : n ≠ m) :
    Calls Try.prog 19 #[.pointer (some ⟨b, 0, none⟩)] w fun e w' => e = .returned (.tuple #[.int .u8 0, .int .i64 1]) ∧ Below w.heap.size w w' := by
  have SA := Lib.hid (fun W (hB : Below w.heap.size w W) => size_b _ n m xs W ⟨b, s, cap, rfl, h.below hB⟩)
  have HB := Lib.hid (Below.refl w.heap.size w)
  have h1 : ((n : Int) != (m : Int)) = true := by simp; omega
  clear h hne
  go_enter Try.func19, Try.ntmps19
  go_wp2_with (go_at_call 27; (with_reducible refine (SA.out _ HB.out).mono ?_); rintro e w0 ⟨rfl, hb⟩; have HBn := Lib.hid (HB.out.trans (hb.mono HB.out.size)); clear HB hb; have HB := HBn; clear HBn)
  go_ret2
  exact ⟨rfl, HB.out⟩
set_option maxRecDepth 100000 in
set_option maxHeartbeats 4000000 in
theorem det_good (h : Mat.MatIn w b s n n cap xs) :
    Calls Try.prog 19 #[.pointer (some ⟨b, 0, none⟩)] w fun e w' => ∃ d, e = .returned (.tuple #[.int .u8 d, .int .i64 0]) ∧ DetPost n (augM n (mx n xs) (mx n xs)) d ∧ Below w.heap.size w w' := by
  have WT := Lib.hid (fun W (hB : Below w.heap.size w W) => swith_aug _ _ n n n xs xs W ⟨b, s, cap, rfl, h.below hB⟩ ⟨b, s, cap, rfl, h.below hB⟩)
  have SA := Lib.hid (fun W (hB : Below w.heap.size w W) => size_b _ n n xs W ⟨b, s, cap, rfl, h.below hB⟩)
  have BY := Lib.hid (augM_byt (m := n) (mx_byt (c := n) h.byt) (mx_byt (c := n) h.byt))
  have n1 := h.r0
  have n2 := h.r1
  have HB := Lib.hid (Below.refl w.heap.size w)
  have t1 : ((n : Int) != (n : Int)) = false := by simp
  obtain ⟨C0, hC0⟩ : ∃ C0, C0 = augM n (mx n xs) (mx n xs) := ⟨_, rfl⟩
  rw [← hC0] at WT BY ⊢
  clear h hC0
  go_enter Try.func19, Try.ntmps19
  go_upto_region 7 with (first
    | (go_at_call 27; (with_reducible refine (SA.out _ HB.out).mono ?_); rintro e w0 ⟨rfl, hb⟩; have HBn := Lib.hid (HB.out.trans (hb.mono HB.out.size)); clear HB hb; have HB := HBn; clear HBn)
    | (go_at_call 25; (with_reducible refine (WT.out _ HB.out).mono ?_); rintro e w1 ⟨mid, top, p, va, vb, Ra, Rb, rfl, hw, hb⟩; have HW := Lib.hid hw; have HL := Lib.hid HB.out.size; have HS := Lib.hid hb.size; have HBn := Lib.hid (HB.out.trans (hb.mono HB.out.size)); clear HB hb; have HB := HBn; clear HBn; clear hw))
  obtain ⟨g, cg, eva, _⟩ := HW.out.ga.form (by omega)
  subst eva
  clear SA WT
  obtain ⟨lo, hlo⟩ : ∃ lo, lo = w0.heap.size := ⟨_, rfl⟩
  rw [← hlo] at HW HL HS
  clear hlo
  go_loopw [7, 8, 9, 26] (fun dv _ _ cv wr => ∃ (col : Nat) (d : Int) (C : Mtx) (Ra Rb : Nat → Value), dv = .int .u8 d ∧ cv = .int .i64 col ∧ col ≤ n ∧ Hid (lo ≤ wr.heap.size) ∧ Hid (Work wr lo mid top p (.slice (some ⟨g, 0, none⟩) n cg) vb n n n Ra Rb C) ∧ Hid (DetTo n C0 col d C) ∧ Hid (Below w.heap.size w wr)) (fun _ _ _ cv _ => n - (intOf cv).toNat)
  case atStart => exact ⟨0, 1, C0, Ra, Rb, rfl, rfl, by omega, HS, HW, Lib.hid .start, HB⟩
  case round =>
    clear HS HW HB
    obtain ⟨col, d, C, Ra, Rb, rfl, rfl, hcol, HS, HW, HD, HB⟩ := hrel
    by_cases hlt : col < n
    · have g0 : (0 : Int) ≤ (col : Int) := by omega
      have g1 : (col : Int) < (n : Int) := by omega
      have PV := Lib.hid (pivot_any lo mid top p n n n col col _ vb Ra Rb C wr HW.out n1 (by omega) (by omega) hlt)
      go_upto_region 10 with (go_at_call 35; (with_reducible refine PV.out.mono ?_); rintro e w2 ⟨r, rfl, hp, hw⟩; obtain rfl := hw.symm; have HP := Lib.hid hp; clear hp)
      clear PV
      rcases HP.out with ⟨er, hzz⟩ | ⟨k, er, htk, hkn, hzk, hnz⟩
      · have HZ := Lib.hid hzz
        have r0 : r < 0 := by omega
        clear er hzz HP
        go_wp2
        go_ret2
        exact ⟨0, rfl, .inr ⟨rfl, col, d, C, hlt, HD.out, HZ.out⟩, HB.out⟩
      · subst er
        have HZ := Lib.hid hzk
        have HN := Lib.hid hnz
        have HBY := Lib.hid (HD.out.byt BY.out)
        have SW := Lib.hid (swap_any lo mid top p n n n col k _ vb Ra Rb C wr HW.out (by omega) hlt hkn (by omega) (by omega))
        have r0 : ¬ (k : Int) < 0 := by omega
        clear hzk hnz HP
        go_upto_region 13 with (go_at_call 36; (with_reducible refine SW.out.mono ?_); rintro e w2 ⟨rfl, hw2, hi2⟩; have HW2 := Lib.hid hw2; have HI2 := Lib.hid hi2; clear hw2 hi2)
        have hnz2 : swpR C col k col col ≠ 0 := by rw [swp_at]; exact HN.out
        obtain ⟨r, hr, hr1, CL⟩ := clear_any lo mid top p n n n col col _ vb _ _ _ w2 HW2.out (swp_byt HBY.out.1 col k) (by omega) hlt hlt (by omega) (by omega) (by omega) hnz2
        rw [swp_at] at hr1
        have HST := Lib.hid (DetTo.step HD.out htk hkn HZ.out HN.out hr hr1)
        have HCL := Lib.hid CL
        have hva := HW2.out.cells.1
        obtain ⟨b3, c3, e3, _⟩ := HW2.out.ga.rform (by omega) col hlt
        have z3 := (HW2.out.ga.head col hlt).1
        rw [e3] at z3
        have z4 := (HW2.out.ga.elem col hlt e3 col hlt).1
        rw [swp_at] at z4
        have ML := Lib.hid (fun W => mul_still d (C k col) W HBY.out.2 (HBY.out.1 k col))
        obtain ⟨y, hy⟩ : ∃ y, y = C k col := ⟨_, rfl⟩
        rw [← hy] at z4 ML HST
        clear CL hr hr1 hnz2 SW e3 hy
        go_wp2_with (first
          | (go_at_call 37; (with_reducible refine (ML.out _).mono ?_); rintro e w3 ⟨rfl, hw⟩; obtain rfl := hw.symm)
          | (go_at_call 38; (with_reducible refine HCL.out.mono ?_); rintro e w4 ⟨rfl, hw2, hi2⟩; have HW4 := Lib.hid (hw2.congr (fun i hi j _ => swp_step n C col k col r i hi j)); have HI4 := Lib.hid (HI2.out.trans hi2); clear hw2 hi2))
        go_roundw
        case rel => exact ⟨col + 1, _, _, _, _, rfl, by go_num, by omega, Lib.hid (Nat.le_trans HS.out HI4.out.size), HW4, HST, Lib.hid (HB.out.trans ((HI4.out.below HS.out).mono HL.out))⟩
        case measure => simp [intOf]; omega
    · obtain rfl : col = n := by omega
      go_wp2
      go_ret2
      exact ⟨d, rfl, .inl ⟨C, HD.out⟩, HB.out⟩
end
end Go.Proofs.Ytojaekhplohbjaa.Sol
/- What the product of two matrices comes to. -/
namespace Go.Proofs.Ytojaekhplohbjaa.Mat
open Go Go.RowKit Go.Proofs.Ytojaekhplohbjaa.Mem Go.Proofs.Ytojaekhplohbjaa.Bits Go.Proofs.Ytojaekhplohbjaa.Gf Go.Proofs.YtojaekhplohbjaaW.PrintWords
set_option linter.unusedVariables false

/-- A matrix filled: k elements of row i, set into ys .. -/
def fillRow (c : Nat) (f : Nat → Nat → Int) (i : Nat) : Nat → List Int → List Int
  | 0, ys => ys
  | k + 1, ys => (fillRow c f i k ys).set (i * c + k) (f i k)
/-- .. and i rows. -/
def fillTo (r c : Nat) (f : Nat → Nat → Int) : Nat → List Int
  | 0 => List.replicate (r * c) 0
  | i + 1 => fillRow c f i c (fillTo r c f i)

theorem cell_far {w : World} {p q : Addr} {v : Value} (h : q.block ≠ p.block) (u : Value) (hc : w.cell? q = some v) : (w.setCell p u).cell? q = some v := by
  rw [World.cell?_setCell_other w p q u (fun e => h (by rw [e]))]; exact hc
/-- The elements of a product. -/
def prodAt (n : Nat) (xs zs : List Int) (i k : Nat) : Int := dotTo (rowOf n xs i) (rowOf n zs k) n

set_option maxRecDepth 100000 in
theorem mul_nil_l (v : Value) (hv : ∃ p, v = .pointer p) (w : World) :
    Calls Try.prog 21 #[.pointer none, v] w fun e w' => e = .returned (.tuple #[.pointer none, .int .i64 1]) ∧ ∃ n, w' = w.drewN n := by
  obtain ⟨p, rfl⟩ := hv
  go_enter Try.func21, Try.ntmps21
  go_wp2
  go_quiet (fail)
  go_wp2
  go_ret2
  exact ⟨rfl, _, rfl⟩
set_option maxRecDepth 100000 in
theorem mul_nil_r (a : Addr) (w : World) :
    Calls Try.prog 21 #[.pointer (some a), .pointer none] w fun e w' => e = .returned (.tuple #[.pointer none, .int .i64 1]) ∧ ∃ n, w' = w.drewN n := by
  go_enter Try.func21, Try.ntmps21
  go_wp2
  go_quiet (fail)
  go_wp2
  go_ret2
  exact ⟨rfl, _, rfl⟩
set_option maxRecDepth 100000 in
theorem mul_bad (v u : Value) (r c r' c' : Nat) (xs ys : List Int) (w : World) (h : IsMat w v r c xs) (h' : IsMat w u r' c' ys) (hne : c ≠ r') :
    Calls Try.prog 21 #[v, u] w fun e w' => e = .returned (.tuple #[.pointer none, .int .i64 1]) ∧ ∃ n, w' = w.drewN n := by
  obtain ⟨b, s, cap, rfl, h⟩ := h
  obtain ⟨b', s', cap', rfl, h'⟩ := h'
  obtain ⟨m0, m1, m2⟩ := h.cells
  obtain ⟨n0, n1, n2⟩ := h'.cells
  have hd : ((c : Int) != (r' : Int)) = true := by simp; omega
  clear h h' hne
  go_enter Try.func21, Try.ntmps21
  go_wp2
  go_quiet (fail)
  go_wp2
  go_ret2
  exact ⟨rfl, _, rfl⟩

theorem mid_of (w : World) (b s r c cap : Nat) (xs : List Int) (h : MatIn w b s r c cap xs) (i : Nat) (hi : i < r) (q p p2 : Nat) (hq : q = r * c) (hp : p = i * c) (hp2 : p2 = (i + 1) * c) :
    (∀ W : World, (Instr.slice 36 (.slice (some ⟨s, 0, none⟩) q cap) (some (.int .i64 (p : Int))) (some (.int .i64 (p2 : Int))) none).run Try.prog W = .ok (.slice (some ⟨s, p, none⟩) c (cap - p)) W) ∧
    ReadsInt w .u8 (some ⟨s, p, none⟩) c (rowOf c xs i) ∧ Bytes (rowOf c xs i) ∧ IntKind.i64.wrap ((i : Int) * (c : Int)) = (p : Int) ∧ IntKind.i64.wrap ((i : Int) + 1) = (i : Int) + 1 ∧
    IntKind.i64.wrap (((i : Int) + 1) * (c : Int)) = (p2 : Int) := by
  subst hq; subst hp; subst hp2
  have hrc := h.rc
  have hle : (i + 1) * c ≤ r * c := Nat.mul_le_mul_right c hi
  have hlt : i * c < (i + 1) * c := by rw [Nat.add_mul]; have := h.c0; omega
  obtain ⟨kc, hr⟩ := mid_cut s cap (r * c) xs (i * c) ((i + 1) * c) h.len hlt hle h.capLe
  have hR := hr w (by have := h.reads; rwa [h.len] at this)
  have hd : (i + 1) * c - i * c = c := by rw [Nat.add_mul]; omega
  rw [hd] at kc
  change ReadsInt w .u8 _ (rowOf c xs i).length (rowOf c xs i) at hR
  rw [rowOf_len h.len i hi] at hR
  refine ⟨kc, hR, (h.byt.take _).drop _, ?_, IntWalk.i64_in _ (by have := h.r1; omega), ?_⟩
  · rw [← Int.natCast_mul]; exact IntWalk.i64_in _ (by omega)
  · rw [show ((i : Int) + 1) = ((i + 1 : Nat) : Int) by omega, ← Int.natCast_mul]; exact IntWalk.i64_in _ (by omega)

set_option maxRecDepth 100000 in
set_option maxHeartbeats 2000000 in
theorem mul_good (v u : Value) (r n c : Nat) (xs ys : List Int) (w : World) (h : IsMat w v r n xs) (h' : IsMat w u n c ys) :
    Calls Try.prog 21 #[v, u] w fun e w' => ∃ b s cap, e = .returned (.tuple #[.pointer (some ⟨b, 0, none⟩), .int .i64 0]) ∧ MatIn w' b s r c cap (fillTo r c (prodAt n xs (turnTo n c ys n)) r) ∧ Below w.heap.size w w' ∧ w.heap.size ≤ b ∧ w.heap.size ≤ s := by
  obtain ⟨ba, sa, capa, rfl, ha⟩ := h
  have hU := h'
  obtain ⟨bb, sb, capb, rfl, hb⟩ := h'
  obtain ⟨a0, a1, a2⟩ := ha.cells
  obtain ⟨b0, b1, b2⟩ := hb.cells
  have hd : ((n : Int) != (n : Int)) = false := by simp
  have hr64 := ha.r1
  have hn64 := ha.c1
  have hc64 := hb.c1
  obtain ⟨q, hq⟩ : ∃ q, q = r * c := ⟨_, rfl⟩
  have hqle : q ≤ 4096 := by rw [hq]; exact Nat.le_trans (Nat.mul_le_mul hr64 hc64) (by decide)
  have e0 : IntKind.i64.wrap ((r : Int) * (c : Int)) = (q : Int) := by
    rw [← Int.natCast_mul, ← hq]; exact IntWalk.i64_in _ (by omega)
  have km := print_make (P := Try.prog) 36 5 .u8 1 Try.underlying36 info_u8 (by decide) q (by omega)
  have HMM := Lib.hid (fun w => mat_made w r c q hq ha.r0 hb.c0 hr64 hc64)
  have HQ := Lib.hid hq
  have HU := Lib.hid hU
  have HA := Lib.hid ha
  have HBb := Lib.hid hb
  obtain ⟨zs, hzs⟩ : ∃ zs, zs = turnTo n c ys n := ⟨_, rfl⟩
  rw [← hzs]
  have HZS := Lib.hid hzs
  clear hq ha hb hU a2 b2 hzs
  go_enter Try.func21, Try.ntmps21
  go_wp2
  go_quiet (fail)
  go_wp2
  clear hd
  go_cut [6] (fun v6 wc => ∃ b2 s2, v6 = .pointer (some ⟨b2, 0, none⟩) ∧ Hid (MatIn wc b2 s2 r c q (List.replicate q 0)) ∧ Hid (Below w.heap.size w wc) ∧ w.heap.size ≤ b2 ∧ w.heap.size ≤ s2)
  case first =>
    go_region_held3 (fun W => W.cell? ⟨ba, 0, none⟩ = some (.int .i64 r) ∧ W.cell? ⟨bb, 1, none⟩ = some (.int .i64 c)) (go_keep) (fail)
    all_goals
      go_wp2
      go_meet
      case rel => exact ⟨_, _, rfl, Lib.hid (HMM.out (w.drewN _)), Lib.hid (((pw_below_drewN (Below.refl _ _) _).alloc (Nat.le_refl _) _).alloc (by simp) _), Nat.le_succ _, Nat.le_refl _⟩
  case rest =>
    obtain ⟨bo, so, rfl, HM, HB, hbo, hso⟩ := hcut
    clear km HMM e0 a0 a1 b0 b1
    have HUc := Lib.hid (show IsMat wc (.pointer (some ⟨bb, 0, none⟩)) n c ys from HU.out.below HB.out)
    clear HU
    go_wp2_with (go_at_call 39; refine (turned_any _ _ _ _ _ HUc.out).mono ?_; rintro e w1 ⟨bt, st, capt, rfl, hT, hB1, hbt, hst⟩; have HT := Lib.hid hT; have HB1 := Lib.hid hB1; clear hT hB1; have a0 := ((HB1.out.cell (p := ⟨ba, 0, none⟩) (Nat.lt_of_lt_of_le HA.out.blk.lt HB.out.size)).trans (HB.out.cell (p := ⟨ba, 0, none⟩) HA.out.blk.lt)).trans HA.out.cells.1)
    have HBx := Lib.hid (show Below w.heap.size w w1 from HB.out.trans (HB1.out.mono HB.out.size))
    have HM1 := Lib.hid (HM.out.below HB1.out)
    have hgeb := Lib.hid (show wc.heap.size ≤ bt from hbt)
    have hges := Lib.hid (show wc.heap.size ≤ st from hst)
    have hlb := Lib.hid (HM.out.blk.lt)
    have hls := Lib.hid (HM.out.slt)
    clear HB HM HUc hbt hst
    have hnbt := Lib.hid (show bt ≠ so by have := hgeb.out; have := hls.out; omega)
    have hnst := Lib.hid (show st ≠ so by have := hges.out; have := hls.out; omega)
    have hna := Lib.hid (show ba ≠ so by have := HA.out.blk.lt; omega)
    have hnb := Lib.hid (show bb ≠ so by have := HBb.out.blk.lt; omega)
    have hno := Lib.hid (show bo ≠ so from HM1.out.ne)
    clear hgeb hges hlb hls
    rw [← HZS.out] at HT
    have HM0 := Lib.hid (show MatIn w1 bo so r c q (fillTo r c (prodAt n xs zs) 0) by rw [fillTo, ← HQ.out]; exact HM1.out)
    clear HM1
    go_loopw [8, 53] (fun _ i wr => ∃ (k : Nat), k ≤ r ∧ i = .int .i64 k ∧ Hid (MatIn wr bo so r c q (fillTo r c (prodAt n xs zs) k)) ∧ Hid (MatIn wr bt st c n capt zs) ∧ Hid (Below w.heap.size w wr)) (fun _ i _ => r - (intOf i).toNat)
    case atStart => exact ⟨0, by omega, rfl, HM0, HT, HBx⟩
    case round =>
      obtain ⟨i, hi, rfl, HK, HTk, HW⟩ := hrel
      clear HM0 HT HBx a0
      by_cases hlt : i < r
      · have b1 := (HW.out.cell (p := ⟨bb, 1, none⟩) HBb.out.blk.lt).trans HBb.out.cells.2.1
        go_wp2
        obtain ⟨wo, hwo⟩ : ∃ wo : World, wo = wr := ⟨_, rfl⟩
        go_loopw [9, 60] (fun _ j wr => ∃ (k : Nat), k ≤ c ∧ j = .int .i64 k ∧ Hid (MatIn wr bo so r c q (fillRow c (prodAt n xs zs) i k (fillTo r c (prodAt n xs zs) i))) ∧ Hid (MatIn wr bt st c n capt zs) ∧ Hid (Below w.heap.size w wr)) (fun _ j _ => c - (intOf j).toNat)
        case atStart => exact ⟨0, by omega, rfl, HK, HTk, HW⟩
        case round =>
          obtain ⟨k, hk, rfl, HK2, HT2, HW2⟩ := hrel
          clear HK HTk HW b1
          by_cases hlk : k < c
          · have hA2 := HA.out.keep (HW2.out.block ba HA.out.blk.lt) (HW2.out.block sa HA.out.slt)
            have hB2 := HBb.out.keep (HW2.out.block bb HBb.out.blk.lt) (HW2.out.block sb HBb.out.slt)
            obtain ⟨a0, a1, a2⟩ := hA2.cells
            obtain ⟨b0, b1, _⟩ := hB2.cells
            obtain ⟨_, _, t2⟩ := HT2.out.cells
            obtain ⟨_, _, o2⟩ := HK2.out.cells
            obtain ⟨qa, hqa⟩ : ∃ q, q = r * n := ⟨_, rfl⟩
            obtain ⟨qt, hqt⟩ : ∃ q, q = c * n := ⟨_, rfl⟩
            obtain ⟨pa, hpa⟩ : ∃ p, p = i * n := ⟨_, rfl⟩
            obtain ⟨pa2, hpa2⟩ : ∃ p, p = (i + 1) * n := ⟨_, rfl⟩
            obtain ⟨pt, hpt⟩ : ∃ p, p = k * n := ⟨_, rfl⟩
            obtain ⟨pt2, hpt2⟩ : ∃ p, p = (k + 1) * n := ⟨_, rfl⟩
            obtain ⟨po, hpo⟩ : ∃ p, p = i * c := ⟨_, rfl⟩
            obtain ⟨ka, ra, ba1, ea1, ea2, ea3⟩ := mid_of wr ba sa r n capa xs hA2 i hlt qa pa pa2 hqa hpa hpa2
            obtain ⟨kt, rt, bt1, et1, et2, et3⟩ := mid_of wr bt st c n capt zs HT2.out k hlk qt pt pt2 hqt hpt hpt2
            have hbo := idx_lt hlt hlk
            obtain ⟨ox, of⟩ := HK2.out.elem _ hbo
            have hdr := dotTo_range (rowOf n xs i) (rowOf n zs k) ba1 n
            have hHN := fun m => (HK2.out.drewN m).store (i * c + k) (prodAt n xs zs i k) hdr.1 hdr.2
            have hHT := fun m => (HT2.out.drewN m).far (p := ⟨so, i * c + k, none⟩) hnbt.out hnst.out (.int .u8 (prodAt n xs zs i k))
            have hHV := fun m => (pw_below_drewN HW2.out m).setCell (p := ⟨so, i * c + k, none⟩) hso (.int .u8 (prodAt n xs zs i k))
            change ∀ m, MatIn _ bo so r c q (fillRow c (prodAt n xs zs) i (k + 1) (fillTo r c (prodAt n xs zs) i)) at hHN
            have hrc2 := HK2.out.rc
            have eo : IntKind.i64.wrap ((i : Int) * (c : Int)) = (po : Int) := by
              rw [hpo, ← Int.natCast_mul]; exact IntWalk.i64_in _ (by omega)
            rw [← hqa] at a2
            rw [← hqt] at t2
            rw [← HQ.out] at o2 hbo hrc2
            rw [← hpo] at ox of hbo hHN hHT hHV
            obtain ⟨y, hy⟩ : ∃ y, y = (fillRow c (prodAt n xs zs) i k (fillTo r c (prodAt n xs zs) i)).getD (po + k) 0 := ⟨_, rfl⟩
            rw [← hy] at ox
            have d0 : (0 : Int) ≤ (po : Int) + (k : Int) := by omega
            have d1 : (po : Int) + (k : Int) < (q : Int) := by omega
            have d2 : ((po : Int) + (k : Int)).toNat = po + k := by omega
            have d3 : IntKind.i64.wrap ((po : Int) + (k : Int)) = (po : Int) + (k : Int) := IntWalk.i64_in _ (by omega)
            have HN := Lib.hid hHN
            have HTn := Lib.hid hHT
            have HV := Lib.hid hHV
            have RA := Lib.hid ra
            have RT := Lib.hid rt
            have BA1 := Lib.hid ba1
            have BT1 := Lib.hid bt1
            clear hqa hqt hpa hpa2 hpt hpt2 hpo hy HK2 HT2 HW2 hA2 hB2 hdr hHN hHT hHV ra rt ba1 bt1 hwo
            go_wp2
            go_region_held3 (fun W => W.cell? ⟨ba, 1, none⟩ = some (.int .i64 n) ∧ W.cell? ⟨ba, 2, none⟩ = some (.slice (some ⟨sa, 0, none⟩) qa capa) ∧ W.cell? ⟨bb, 0, none⟩ = some (.int .i64 n) ∧ W.cell? ⟨bb, 1, none⟩ = some (.int .i64 c) ∧ W.cell? ⟨bt, 2, none⟩ = some (.slice (some ⟨st, 0, none⟩) qt capt) ∧ W.cell? ⟨bo, 2, none⟩ = some (.slice (some ⟨so, 0, none⟩) q q)) (first | go_keep | exact ⟨cell_far hna.out _ a1, cell_far hna.out _ a2, cell_far hnb.out _ b0, cell_far hnb.out _ b1, cell_far hnbt.out _ t2, cell_far hno.out _ o2⟩)
              ((go_at_call 40; (refine (dot_le _ _ _ _ n n _ _ _ (RA.out.drewN _) (RT.out.drewN _) BA1.out BT1.out (by omega) (Nat.le_refl _)).mono ?_); rintro e w' ⟨rfl, m, rfl⟩))
            all_goals
              go_wp2
              go_roundw
              case rel => exact ⟨k + 1, by omega, by go_num, Lib.hid (HN.out _), Lib.hid (HTn.out _), Lib.hid (HV.out _)⟩
              case measure => simp [intOf]; omega
          · obtain rfl : k = c := by omega
            go_wp2
            go_roundw
            case rel => exact ⟨i + 1, by omega, by go_num, HK2, HT2, HW2⟩
            case measure => simp [intOf]; omega
      · obtain rfl : i = r := by omega
        go_wp2
        go_ret2
        exact ⟨bo, so, q, rfl, HK.out, HW.out, hbo, hso⟩
end Go.Proofs.Ytojaekhplohbjaa.Mat
/- The matrix One, place by place. -/
namespace Go.Proofs.Ytojaekhplohbjaa.Mat
open Go Go.RowKit Go.Proofs.Ytojaekhplohbjaa.Mem Go.Proofs.Ytojaekhplohbjaa.Bits Go.Proofs.Ytojaekhplohbjaa.Gf Go.Proofs.YtojaekhplohbjaaW.PrintWords
set_option linter.unusedVariables false

theorem oneTo_len (n : Nat) : ∀ k, (oneTo n k).length = n * n
  | 0 => by simp [oneTo]
  | k + 1 => by rw [oneTo, List.length_set, oneTo_len n k]
theorem oneTo_get (n : Nat) (j : Nat) (hj : j ≤ n) : ∀ i k, i < n → k < n → (oneTo n j).getD (i * n + k) 0 = if i = k ∧ i < j then 1 else 0 := by
  induction j with
  | zero =>
    intro i k hi hk
    have := idx_lt hi hk
    rw [if_neg (by omega)]
    simp [oneTo, List.getD_eq_getElem?_getD, this]
  | succ j ih =>
    intro i k hi hk
    have hlt := idx_lt hi hk
    have hjj := idx_lt (show j < n by omega) (show j < n by omega)
    rw [oneTo, List.getD_eq_getElem?_getD, List.getElem?_set]
    by_cases e : j * n + j = i * n + k
    · rw [if_pos e, if_pos (by rw [oneTo_len]; exact hjj)]
      have hij : j = i := by
        have h1 := Nat.div_mod_unique (a := j * n + j) (b := n) (c := j) (d := j) (by omega)
        have h2 := Nat.div_mod_unique (a := i * n + k) (b := n) (c := k) (d := i) (by omega)
        have h3 := (h1.2 ⟨by rw [Nat.mul_comm n j]; omega, by omega⟩).1
        have h4 := (h2.2 ⟨by rw [Nat.mul_comm n i]; omega, by omega⟩).1
        rw [e] at h3; omega
      subst hij
      rw [if_pos ⟨by omega, by omega⟩]; rfl
    · rw [if_neg e, ← List.getD_eq_getElem?_getD, ih (by omega) i k hi hk]
      by_cases h : i = k ∧ i < j
      · rw [if_pos h, if_pos ⟨h.1, by omega⟩]
      · rw [if_neg h, if_neg]
        rintro ⟨rfl, h'⟩
        have : i = j := by omega
        subst this
        exact e rfl
end Go.Proofs.Ytojaekhplohbjaa.Mat
/- Equations: what Solve leaves solves them; Solve and Invert, by whether all rows are needed; no program of any law. -/
namespace Go.Proofs.Ytojaekhplohbjaa.Sol
open Go Go.RowKit Go.Proofs.Ytojaekhplohbjaa.Gf Go.Proofs.Ytojaekhplohbjaa.Gi Go.Proofs.Ytojaekhplohbjaa.Alg Go.Proofs.Ytojaekhplohbjaa.Mem Go.Proofs.Ytojaekhplohbjaa.Rws Go.Proofs.YtojaekhplohbjaaW.PrintWords
set_option linter.unusedVariables false

theorem StepsTo.oneFull {n : Nat} {M0 : Mtx} (h0 : BytM M0) {col t : Nat} {M : Mtx} (h : StepsTo n M0 col t M) : t = col → OneTo (el M) n col := by
  induction h with
  | start => exact fun _ i j _ hj => absurd hj (Nat.not_lt_zero j)
  | skip hs _ _ => exact fun e => absurd hs.le.1 (by omega)
  | @step col t k r M hs htk hk hz hp hr h1 ih =>
    intro e
    have e' : t = col := by omega
    subst e'
    rw [stepI_el (hs.byt h0) hr h1]
    exact stepF_one (el M) n k t (ih rfl) hk htk (of_ne (hs.byt h0 k t) hp)
/-- What Solve leaves solves the equations. -/
theorem StepsTo.eqs {n q : Nat} {A B : Mtx} (hA : BytM A) (hB : BytM B) {C : Mtx} (h : StepsTo n (augM n A B) n n C) (i : Nat) (hi : i < n) (l : Nat) (hl : l < q) :
    dotF n (el A i) (fun j => G.of (C j (n + l))) = G.of (B i l) := by
  have h0 := augM_byt (m := n) hA hB
  have ho := h.oneFull h0 rfl
  obtain ⟨c, hcn, hcl, hcz⟩ : ∃ c : Nat → G, (∀ j, j < n → c j = G.of (C j (n + l))) ∧ c (n + l) = 1 ∧ ∀ j, ¬ j < n → j ≠ n + l → c j = 0 :=
    ⟨fun j => if j < n then G.of (C j (n + l)) else if j = n + l then 1 else 0, fun j hj => by simp [hj], by simp only [if_true]; rw [if_neg (by omega)], fun j h1 h2 => by simp [h1, h2]⟩
  have hk := (h.ker (m := n + q) h0 c).1 (fun p hp => by
    unfold dotF
    rw [sum_at2 (a := p) (b := n + l) (by omega) (by omega) (by omega) (fun j _ h1 h2 => ?_)]
    · rw [hcn p hp, hcl, ho p p hp hp, if_pos rfl, Alg.one_mul, Fd.mul_one]
      exact Fd.add_self _
    · by_cases hj : j < n
      · rw [ho p j hp hj, if_neg (fun e => h1 e.symm), zero_mul]
      · rw [hcz j hj h2, mul_zero])
  have h1 := hk i hi
  unfold dotF at h1
  rw [sum_split] at h1
  have e1 : sum n (fun j => el (augM n A B) i j * c j) = dotF n (el A i) (fun j => G.of (C j (n + l))) := by
    unfold dotF
    exact sum_congr (fun j hj => by rw [hcn j hj]; unfold el augM; rw [if_pos hj])
  have e2 : sum q (fun j => el (augM n A B) i (n + j) * c (n + j)) = G.of (B i l) := by
    rw [sum_at (a := l) hl (fun j _ hne => by rw [hcz (n + j) (by omega) (by omega), mul_zero]), hcl, Fd.mul_one]
    unfold el augM
    rw [if_neg (by omega), Nat.add_sub_cancel_left]
  rw [e1, e2] at h1
  exact eq_of_add_zero h1
theorem of_dotTo {xs ys : List Int} (hx : Mat.Bytes xs) (hy : Mat.Bytes ys) : ∀ k, G.of (Mat.dotTo xs ys k) = sum k (fun j => G.of (xs.getD j 0) * G.of (ys.getD j 0))
  | 0 => rfl
  | k + 1 => by
    show G.of (xorI (Mat.dotTo xs ys k) (gmI (xs.getD k 0) (ys.getD k 0))) = _
    rw [of_xor (Mat.dotTo_range xs ys hx k) (gmI_byt (hx.getD k)), of_gm (hx.getD k) (hy.getD k), of_dotTo hx hy k]
    rfl
theorem line_bytes {m : Nat} {f : Nat → Int} (h : ∀ i, Byt (f i)) : Mat.Bytes (line m f) := line_byt m f h
theorem mat_getD_bytes {n m : Nat} {A : Mtx} (h : BytM A) (i : Nat) : Mat.Bytes ((mat n m A).getD i []) := by
  rcases Nat.lt_or_ge i n with hi | hi
  · rw [mat_get n m A i hi]; exact line_bytes (h i)
  · rw [List.getD_eq_getElem?_getD, List.getElem?_eq_none (by rw [mat_len]; exact hi)]
    intro x hx; cases hx
/-- The matrix by which a product is what it was. -/
def idM : Mtx := fun i j => if i = j then 1 else 0
theorem idM_byt : BytM idM := fun i j => by unfold idM; split; exact ⟨by decide, by decide⟩; exact byt0
theorem mx_one (n i j : Nat) (hi : i < n) (hj : j < n) : mx n (Mat.oneTo n n) i j = idM i j := by
  unfold mx idM
  rw [Mat.oneTo_get n n (Nat.le_refl _) i j hi hj]
  by_cases e : i = j
  · rw [if_pos ⟨e, hi⟩, if_pos e]
  · rw [if_neg (fun h => e h.1), if_neg e]
theorem inv_ex {a : Int} (ha : Byt a) (h : a ≠ 0) : ∃ r, Byt r ∧ gmI a r = 1 := by
  obtain ⟨x, hx, rfl⟩ := byt_nat ha
  exact ⟨((ginv x : Nat) : Int), by have := ginv_lt x hx; exact ⟨by omega, by omega⟩, by simp only [gmI, Int.toNat_natCast]; rw [gm_inv x hx (by omega)]; rfl⟩
theorem least_of (P : Nat → Prop) : ∀ m, (∃ k, k < m ∧ P k) → ∃ k, k < m ∧ P k ∧ ∀ j, j < k → ¬ P j
  | 0, ⟨k, hk, _⟩ => by omega
  | m + 1, ⟨k, hk, h⟩ => by
    by_cases hm : ∃ k, k < m ∧ P k
    · obtain ⟨k, hk, h, hl⟩ := least_of P m hm
      exact ⟨k, by omega, h, hl⟩
    · have : k = m := by
        rcases Nat.lt_or_ge k m with h' | h'
        · exact absurd ⟨k, h', h⟩ hm
        · omega
      subst this
      exact ⟨k, by omega, h, fun j hj hp => hm ⟨j, hj, hp⟩⟩
/-- Steps always comes to something. -/
theorem StepsTo.ex (n : Nat) {M0 : Mtx} (h0 : BytM M0) : ∀ col, ∃ t M, StepsTo n M0 col t M
  | 0 => ⟨0, M0, .start⟩
  | col + 1 => by
    obtain ⟨t, M, h⟩ := StepsTo.ex n h0 col
    by_cases hx : ∃ k, k < n ∧ (t ≤ k ∧ M k col ≠ 0)
    · obtain ⟨k, hk, ⟨h1, h2⟩, hl⟩ := least_of _ _ hx
      obtain ⟨r, hr, hr1⟩ := inv_ex (h.byt h0 k col) h2
      exact ⟨t + 1, _, .step h h1 hk (fun j h3 h4 => by
        rcases Int.decEq (M j col) 0 with e | e
        · exact absurd ⟨h3, e⟩ (hl j h4)
        · exact e) h2 hr hr1⟩
    · exact ⟨t, M, .skip h (fun j h3 h4 => by
        rcases Int.decEq (M j col) 0 with e | e
        · exact absurd ⟨j, h4, h3, e⟩ hx
        · exact e)⟩
theorem mat_mx (n m : Nat) (C : Mtx) : mat n m (mx m (Mat.flat (mat n m C))) = mat n m C := mat_congr n m _ _ (fun i hi j hj => flat_mx n m C i j hi hj)
/-- A matrix of bytes that solves. -/
def Solved (n q : Nat) (A B Z : Mtx) : Prop := BytM Z ∧ ∀ i, i < n → ∀ l, l < q → dotF n (el A i) (fun j => G.of (Z j l)) = G.of (B i l)
/-- A pointer to a matrix that solves. -/
def SolvesE (n q : Nat) (A B : Mtx) (w : World) (e : Ending) (w' : World) : Prop :=
  ∃ b s cap Z, e = .returned (.tuple #[.pointer (some ⟨b, 0, none⟩), .int .i64 0]) ∧ Mat.MatIn w' b s n q cap (Mat.flat (mat n q Z)) ∧ Solved n q A B Z ∧ Below w.heap.size w w'
section
variable (b s cap b1 s1 cap1 n q t0 : Nat) (A B C0 : Mtx) (w : World)
theorem post_wholeE {e : Ending} {w' : World} {B2 : Mtx} (hA : BytM A) (hM : Mat.Bytes (Mat.flat (mat n n A))) (hB2 : BytM B2) (hst : StepsTo n A n t0 C0) (ht : t0 = n) (h : SolvePost n q (augM n (mx n (Mat.flat (mat n n A))) B2) w e w')
    (he : ∀ i, i < n → ∀ l, l < q → B2 i l = B i l) : SolvesE n q A B w e w' := by
  obtain ⟨hb, t, C, hs, hd⟩ := h
  have hx := augM_byt (m := n) (mx_byt (c := n) hM) hB2
  have hsame := (StepsTo.same (m := n) hx hA (fun i hi j hj => by unfold augM; rw [if_pos hj, flat_mx n n A i j hi hj]) hs hst (Nat.le_refl n)).1
  rcases hd with ⟨h1, _⟩ | ⟨h1, b', s', cap', rfl, hm⟩
  · omega
  · subst h1
    refine ⟨b', s', cap', _, rfl, hm, ⟨fun i j => hs.byt hx i (t + j), fun i hi l hl => ?_⟩, hb⟩
    rw [← he i hi l hl, ← hs.eqs (q := q) (mx_byt (c := t) hM) hB2 i hi l hl]
    unfold dotF
    exact sum_congr (fun j hj => by unfold el; rw [flat_mx t t A i j hi hj])
theorem post_sing {e : Ending} {w' : World} {B2 : Mtx} (hA : BytM A) (hM : Mat.Bytes (Mat.flat (mat n n A))) (hB2 : BytM B2) (hst : StepsTo n A n t0 C0) (ht : t0 < n) (h : SolvePost n q (augM n (mx n (Mat.flat (mat n n A))) B2) w e w') :
    e = .returned (.tuple #[.pointer none, .int .i64 23]) ∧ Below w.heap.size w w' := by
  obtain ⟨hb, t, C, hs, hd⟩ := h
  have hx := augM_byt (m := n) (mx_byt (c := n) hM) hB2
  have hsame := (StepsTo.same (m := n) hx hA (fun i hi j hj => by unfold augM; rw [if_pos hj, flat_mx n n A i j hi hj]) hs hst (Nat.le_refl n)).1
  rcases hd with ⟨h1, he⟩ | ⟨h1, _⟩
  · exact ⟨he, hb⟩
  · omega
theorem solve_wholeE (h : Mat.MatIn w b s n n cap (Mat.flat (mat n n A))) (h' : Mat.MatIn w b1 s1 n q cap1 (Mat.flat (mat n q B))) (hA : BytM A) (hst : StepsTo n A n t0 C0) (ht : t0 = n) :
    Calls Try.prog 15 #[.pointer (some ⟨b, 0, none⟩), .pointer (some ⟨b1, 0, none⟩)] w (SolvesE n q A B w) :=
  (solve_good b s cap b1 s1 cap1 n q _ _ w h h').mono fun e w' hp => post_wholeE n q t0 A B C0 w hA h.byt (mx_byt h'.byt) hst ht hp (fun i hi l hl => flat_mx n q B i l hi hl)
theorem solve_sing (h : Mat.MatIn w b s n n cap (Mat.flat (mat n n A))) (h' : Mat.MatIn w b1 s1 n q cap1 (Mat.flat (mat n q B))) (hA : BytM A) (hst : StepsTo n A n t0 C0) (ht : t0 < n) :
    Calls Try.prog 15 #[.pointer (some ⟨b, 0, none⟩), .pointer (some ⟨b1, 0, none⟩)] w fun e w' => e = .returned (.tuple #[.pointer none, .int .i64 23]) ∧ Below w.heap.size w w' :=
  (solve_good b s cap b1 s1 cap1 n q _ _ w h h').mono fun e w' hp => post_sing n q t0 A C0 w hA h.byt (mx_byt h'.byt) hst ht hp
theorem oneTo_bytes (n : Nat) : Mat.Bytes (Mat.oneTo n n) := by
  have h : ∀ k, Mat.Bytes (Mat.oneTo n k) := by
    intro k
    induction k with
    | zero => exact Mat.Bytes.zeros _
    | succ k ih => exact ih.set _ 1 (by decide) (by decide)
  exact h n
theorem invert_wholeE (h : Mat.MatIn w b s n n cap (Mat.flat (mat n n A))) (hA : BytM A) (hst : StepsTo n A n t0 C0) (ht : t0 = n) :
    Calls Try.prog 16 #[.pointer (some ⟨b, 0, none⟩)] w (SolvesE n n A idM w) :=
  (invert_good b s cap n _ w h).mono fun e w' hp => post_wholeE n n t0 A idM C0 w hA h.byt (mx_byt (oneTo_bytes n)) hst ht hp (fun i hi l hl => mx_one n i l hi hl)
theorem invert_sing (h : Mat.MatIn w b s n n cap (Mat.flat (mat n n A))) (hA : BytM A) (hst : StepsTo n A n t0 C0) (ht : t0 < n) :
    Calls Try.prog 16 #[.pointer (some ⟨b, 0, none⟩)] w fun e w' => e = .returned (.tuple #[.pointer none, .int .i64 23]) ∧ Below w.heap.size w w' :=
  (invert_good b s cap n _ w h).mono fun e w' hp => post_sing n n t0 A C0 w hA h.byt (mx_byt (oneTo_bytes n)) hst ht hp
end
end Go.Proofs.Ytojaekhplohbjaa.Sol
/- law04: the rows of a matrix; the chapter's example. -/
namespace Go.Proofs.Ytojaekhplohbjaa.Sol
open Go Go.RowKit Go.Proofs.Ytojaekhplohbjaa.Gi Go.Proofs.Ytojaekhplohbjaa.Gf Go.Proofs.Ytojaekhplohbjaa.Mem Go.Proofs.Ytojaekhplohbjaa.Bits Go.Proofs.Ytojaekhplohbjaa.Rws Go.Proofs.YtojaekhplohbjaaW.PrintWords
set_option linter.unusedVariables false

theorem rowsTo_mat {r c : Nat} {xs : List Int} (hl : xs.length = r * c) : Mat.rowsTo c xs r = mat r c (mx c xs) := List.map_congr_left (fun i hi => rowOf_line hl i (by simpa using hi))
set_option maxRecDepth 100000 in
theorem rows4_any (v : Value) (r c : Nat) (xs : List Int) (w : World) (h : Mat.IsMat w v r c xs) :
    Calls Try.prog 11 #[v] w fun e w' => ∃ A c1, e = .returned (.slice A r c1) ∧ r ≤ c1 ∧ Kd.C kRow w' A r (mat r c (mx c xs)) ∧ Below w.heap.size w w' := by
  have hr64 : r ≤ 64 := by obtain ⟨b, s, cap, _, h⟩ := h; exact h.r1
  have hlen : xs.length = r * c := by obtain ⟨b, s, cap, _, h⟩ := h; exact h.len
  have HLN := Lib.hid hlen
  have H := Lib.hid h
  obtain ⟨b, rfl⟩ := h.ptr
  clear h hlen
  go_enter Try.func11, Try.ntmps11
  go_wp2_with (go_at_call 27; refine (Mat.size_any _ _ _ _ _ H.out).mono ?_; rintro e w' ⟨rfl, n, rfl⟩)
  go_loopw [5, 6] (fun u i wr => ∃ (k : Nat), k ≤ r ∧ i = .int .i64 k ∧ Hid (RowsR wr w.heap.size u (Mat.rowsTo c xs k)) ∧ Hid (Below w.heap.size w wr)) (fun _ i _ => r - (intOf i).toNat)
  case atStart => exact ⟨0, by omega, rfl, Lib.hid (Kd.R_nil _ _ _ _ _), Lib.hid (pw_below_drewN (Below.refl _ _) n)⟩
  case round =>
    obtain ⟨k, hk, rfl, HR, HW⟩ := hrel
    by_cases hlt : k < r
    · have h100 : (k : Int) < 100 := by omega
      have HI := Lib.hid (H.out.below HW.out)
      have hpos := Lib.hid (show 0 < c by obtain ⟨_, _, _, _, h⟩ := H.out; exact h.c0)
      have hyl := Lib.hid (show (Mat.rowOf c xs k).length = c by obtain ⟨_, _, _, _, h⟩ := H.out; exact Mat.rowOf_len h.len k hlt)
      have hll := Lib.hid (show (Mat.rowsTo c xs k).length ≤ 1000000 by rw [Mat.rowsTo_len]; omega)
      go_wp2_with (first
        | (go_at_call 28; refine (Mat.row_in _ _ _ _ k _ HI.out hlt).mono ?_; rintro e w1 ⟨u1, rfl, hu, hB⟩; obtain ⟨g, cap', rfl, hg1, hg2⟩ := hu.form hpos.out; have HU := Lib.hid hu; have HB := Lib.hid hB; clear hu hB)
        | (at_builtin; refine Rws.rows_append rfl w.heap.size rfl _ _ rfl _ _ _ g cap' c rfl rfl HR.out HW.out HW.out.size HB.out HU.out hyl.out hg1 hll.out ?_; intro v2 w2 h2 hb2; have H2 := Lib.hid h2; have HB2 := Lib.hid hb2; clear h2 hb2))
      go_roundw
      case rel => exact ⟨k + 1, by omega, by go_num, by rw [Mat.rowsTo_succ]; exact H2, HB2⟩
      case measure => simp [intOf]; omega
    · obtain rfl : k = r := by omega
      obtain ⟨A, c1, e1, hl1, hC1⟩ := Kd.R_reads HR.out
      rw [Mat.rowsTo_len] at e1 hl1 hC1
      rw [rowsTo_mat HLN.out] at hC1
      subst e1
      have HC1 := Lib.hid (And.intro hl1 hC1)
      clear hl1 hC1
      go_wp2
      go_ret
      exact ⟨A, c1, rfl, HC1.out.1, HC1.out.2, HW.out⟩
theorem gmI_one' {r : Int} (h : Byt r) : gmI 1 r = r := by
  have := gmI_comm (a := 1) (b := r) ⟨by decide, by decide⟩ h
  rw [this]; unfold gmI; rw [show (1 : Int).toNat = 1 from rfl, gm_one]; have := h.1; omega
/-- The example's determinant. -/
theorem det_1234 (C0 : Mtx) (h0 : BytM C0) (e00 : C0 0 0 = 1) (e01 : C0 0 1 = 2) (e10 : C0 1 0 = 3) (e11 : C0 1 1 = 4) (d : Int) (h : DetPost 2 C0 d) : d = 2 := by
  have one : ∀ col d C, DetTo 2 C0 col d C → (col = 1 → d = 1 ∧ C 1 1 = 2) ∧ (col = 2 → d = 2) := by
    intro col d C h
    induction h with
    | start => exact ⟨fun h => absurd h (by decide), fun h => absurd h (by decide)⟩
    | @step col k r d C hd hk1 hk2 hz hn hr h1 ih =>
      refine ⟨fun hc => ?_, fun hc => ?_⟩
      · obtain rfl : col = 0 := by omega
        cases hd
        have ek : k = 0 := by
          rcases Nat.eq_zero_or_pos k with e | e
          · exact e
          · have := hz 0 (Nat.le_refl _) e
            rw [e00] at this; exact absurd this (by decide)
        subst ek
        rw [e00] at h1 ⊢
        have er : r = 1 := by rw [← gmI_one' hr]; exact h1
        subst er
        refine ⟨by decide, ?_⟩
        unfold stepI swapI
        simp only [show ¬ (1 : Nat) = 0 by decide, if_false, e01, e10, e11]
        decide
      · obtain rfl : col = 1 := by omega
        obtain ⟨e1, e2⟩ := ih.1 rfl
        obtain rfl : k = 1 := by omega
        rw [e1, e2]; decide
  rcases h with ⟨C, h⟩ | ⟨rfl, col, d', C, hc, h, hz⟩
  · exact (one 2 d C h).2 rfl
  · exfalso
    rcases Nat.eq_zero_or_pos col with e | e
    · subst e
      cases h
      have := hz 0 (Nat.le_refl _) (by omega)
      rw [e00] at this; exact absurd this (by decide)
    · obtain rfl : col = 1 := by omega
      have := hz 1 (Nat.le_refl _) (by omega)
      rw [((one 1 d' C h).1 rfl).2] at this; exact absurd this (by decide)
def litR (g : Nat) (i : Nat) : Value := .slice (some ⟨g + i, 0, none⟩) 2 2
def litM : Mtx := fun i j => 2 * (i : Int) + j + 1
theorem lit_grid (w : World) : Grid (((w.alloc (.cells #[.int .u8 1, .int .u8 2] 5)).alloc (.cells #[.int .u8 3, .int .u8 4] 5)).alloc (.cells #[.slice (some ⟨w.heap.size, 0, none⟩) 2 2, .slice (some ⟨w.heap.size + 1, 0, none⟩) 2 2] 36))
    w.heap.size (w.heap.size + 3) (.slice (some ⟨w.heap.size + 2, 0, none⟩) 2 2) 2 2 (litR w.heap.size) litM := by
  have s1 : (w.alloc (.cells #[.int .u8 1, .int .u8 2] 5)).heap.size = w.heap.size + 1 := by simp
  have s2 : ((w.alloc (.cells #[.int .u8 1, .int .u8 2] 5)).alloc (.cells #[.int .u8 3, .int .u8 4] 5)).heap.size = w.heap.size + 2 := by simp
  refine ⟨?_, fun i hi => ?_, fun i j hi hj hne k hk e => ?_, fun k hk => ?_, fun i hi k hk => ?_⟩
  · have h := World.ownsRow_lit (base := w.heap.size) (e := 36) (size := 1) ((w.alloc (.cells #[.int .u8 1, .int .u8 2] 5)).alloc (.cells #[.int .u8 3, .int .u8 4] 5)) #[.slice (some ⟨w.heap.size, 0, none⟩) 2 2, .slice (some ⟨w.heap.size + 1, 0, none⟩) 2 2] 2 (by omega) (by decide) (by simp)
    rw [s2] at h
    exact h
  · have h1 := (own_lit w w.heap.size 5 .u8 [1, 2] (Nat.le_refl _) (by simp))
    have h2 := (own_lit (w.alloc (.cells #[.int .u8 1, .int .u8 2] 5)) w.heap.size 5 .u8 [3, 4] (by omega) (by simp))
    rw [s1] at h2
    by_cases e : i = 0
    · subst e
      exact (h1.alloc _).alloc _
    · obtain rfl : i = 1 := by omega
      exact h2.alloc _
  · simp only [litR, Value.ownBlock, Option.some.injEq] at hk e
    omega
  · simp only [Value.ownBlock, Option.some.injEq] at hk
    omega
  · simp only [litR, Value.ownBlock, Option.some.injEq] at hk
    omega
theorem litM_byt : BytM (fun i j => if i < 2 ∧ j < 2 then litM i j else 0) := by
  intro i j
  by_cases h : i < 2 ∧ j < 2
  · simp only [if_pos h, litM]; exact ⟨by omega, by omega⟩
  · simp only [if_neg h]; exact byt0
set_option maxRecDepth 100000 in
theorem awake4 (w : World) : Calls Try.prog 7 #[] w fun e w' => e = .returned (.bool true) ∧ Below w.heap.size w w' := by
  have OF := Lib.hid (of_grid 2 2 _ _ 2 _ _ _ _ ((lit_grid w).congr (M' := fun i j => if i < 2 ∧ j < 2 then litM i j else 0) (fun i hi j hj => by rw [if_pos ⟨hi, hj⟩])) litM_byt (by omega) (by omega) (by omega) (by omega))
  have HB := Lib.hid (show Below w.heap.size w (((w.alloc (.cells #[.int .u8 1, .int .u8 2] 5)).alloc (.cells #[.int .u8 3, .int .u8 4] 5)).alloc (.cells #[.slice (some ⟨w.heap.size, 0, none⟩) 2 2, .slice (some ⟨w.heap.size + 1, 0, none⟩) 2 2] 36)) from (((Below.refl _ _).alloc (Nat.le_refl _) _).alloc (by simp) _).alloc (by simp; omega) _)
  obtain ⟨W, hW⟩ : ∃ W, W = (((w.alloc (.cells #[.int .u8 1, .int .u8 2] 5)).alloc (.cells #[.int .u8 3, .int .u8 4] 5)).alloc (.cells #[.slice (some ⟨w.heap.size, 0, none⟩) 2 2, .slice (some ⟨w.heap.size + 1, 0, none⟩) 2 2] 36)) := ⟨_, rfl⟩
  go_enter Try.func7, Try.ntmps7
  go_upto_region 2 with (go_at_call 8; (refine OF.out.mono ?_); rintro e w1 ⟨b, s, cap, rfl, hm, hb⟩; have HM := Lib.hid hm; have HB1 := Lib.hid (HB.out.trans (hb.mono HB.out.size)); clear hm hb)
  have DG := Lib.hid (det_good b s cap 2 _ w1 HM.out)
  go_upto_region 3 with (go_at_call 19; (with_reducible refine DG.out.mono ?_); rintro e w2 ⟨d, rfl, hd, hb⟩; have HD := Lib.hid hd; have HB2 := Lib.hid (HB1.out.trans (hb.mono HB1.out.size)); clear hd hb)
  have hby : BytM (augM 2 (mx 2 (Mat.flat (mat 2 2 (fun i j => if i < 2 ∧ j < 2 then litM i j else 0)))) (mx 2 (Mat.flat (mat 2 2 (fun i j => if i < 2 ∧ j < 2 then litM i j else 0))))) := augM_byt (mx_byt HM.out.byt) (mx_byt HM.out.byt)
  have hat : ∀ i j, i < 2 → j < 2 → augM 2 (mx 2 (Mat.flat (mat 2 2 (fun i j => if i < 2 ∧ j < 2 then litM i j else 0)))) (mx 2 (Mat.flat (mat 2 2 (fun i j => if i < 2 ∧ j < 2 then litM i j else 0)))) i j = litM i j := fun i j hi hj => by
    unfold augM
    rw [if_pos hj, flat_mx 2 2 _ i j hi hj, if_pos ⟨hi, hj⟩]
  have hd2 := det_1234 _ hby (hat 0 0 (by omega) (by omega)) (hat 0 1 (by omega) (by omega)) (hat 1 0 (by omega) (by omega)) (hat 1 1 (by omega) (by omega)) d HD.out
  subst hd2
  clear hby hat
  go_wp2
  go_ret
  exact ⟨rfl, HB2.out⟩
end Go.Proofs.Ytojaekhplohbjaa.Sol
/- The reference's Same: are rows alike? -/
namespace Go.Proofs.Ytojaekhplohbjaa.Rws
open Go Go.RowKit Go.Proofs.Ytojaekhplohbjaa.Mem Go.Proofs.Ytojaekhplohbjaa.Bits Go.Proofs.YtojaekhplohbjaaW.PrintWords
set_option linter.unusedVariables false

theorem getD_mem {ls : List (List Int)} {i : Nat} (hi : i < ls.length) : ls.getD i [] ∈ ls := by
  rw [List.getD_eq_getElem?_getD, List.getElem?_eq_getElem hi, Option.getD_some]
  exact List.getElem_mem _
theorem bytes_getD {ls : List (List Int)} (h : AllBytes ls) (k : Nat) : Bytes (ls.getD k []) := by
  rcases Nat.lt_or_ge k ls.length with hk | hk
  · exact h _ (getD_mem hk)
  · rw [List.getD_eq_getElem?_getD, List.getElem?_eq_none hk]; intro x hx; cases hx
theorem nat8_inj {x y : Int} (h0 : 0 ≤ x ∧ x < 256) (h1 : 0 ≤ y ∧ y < 256) (h : UInt8.ofNat x.toNat = UInt8.ofNat y.toNat) : x = y := by
  have := congrArg UInt8.toNat h
  simp at this
  omega
theorem str_inj : ∀ {xs ys : List Int}, Bytes xs → Bytes ys → (strOfNums xs).data.toList = (strOfNums ys).data.toList → xs = ys := by
  intro xs ys hx hy h
  rw [strOfNums_data, strOfNums_data] at h
  induction xs generalizing ys with
  | nil => cases ys with
    | nil => rfl
    | cons y ys => simp at h
  | cons x xs ih => cases ys with
    | nil => simp at h
    | cons y ys =>
      simp only [List.map_cons, List.cons.injEq] at h
      rw [nat8_inj (hx x (by simp)) (hy y (by simp)) h.1, ih (fun z hz => hx z (by simp [hz])) (fun z hz => hy z (by simp [hz])) h.2]
theorem str_eq {xs ys : List Int} (hx : Bytes xs) (hy : Bytes ys) : ((strOfNums xs).toList == (strOfNums ys).toList) = decide (xs = ys) := by
  by_cases h : xs = ys
  · subst h; simp
  · rw [decide_eq_false h]
    refine beq_eq_false_iff_ne.mpr fun e => h (str_inj hx hy ?_)
    rwa [Go.Lib.toList_data, Go.Lib.toList_data] at e
theorem take_eq_step {a b : List (List Int)} {k : Nat} (h : a.take k = b.take k) (ha : k < a.length) (hb : k < b.length) (he : a.getD k [] = b.getD k []) : a.take (k + 1) = b.take (k + 1) := by
  rw [List.getD_eq_getElem?_getD, List.getD_eq_getElem?_getD, List.getElem?_eq_getElem ha, List.getElem?_eq_getElem hb] at he
  simp only [Option.getD_some] at he
  rw [List.take_succ_eq_append_getElem ha, List.take_succ_eq_append_getElem hb, h, he]

set_option maxRecDepth 100000 in
set_option maxHeartbeats 1000000 in
theorem ref_same (A0 A1 : Option Addr) (c0 c1 : Nat) (a b : List (List Int)) (w : World) (hA : RowsC w A0 a) (hB : RowsC w A1 b) (ba : AllBytes a) (bb : AllBytes b) (la : a.length ≤ 1000000) (lb : b.length ≤ 1000000) :
    Calls Try.prog 10 #[.slice A0 a.length c0, .slice A1 b.length c1] w fun e w' => e = .returned (.bool (decide (a = b))) ∧ ∃ n, w' = w.drewN n := by
  have HA := Lib.hid hA
  have HB := Lib.hid hB
  have BA := Lib.hid ba
  have BB := Lib.hid bb
  clear hA hB ba bb
  obtain ⟨n, hn⟩ : ∃ n, n = a.length := ⟨_, rfl⟩
  obtain ⟨m, hm⟩ : ∃ n, n = b.length := ⟨_, rfl⟩
  rw [← hn] at la ⊢
  rw [← hm] at lb ⊢
  have HN := Lib.hid hn
  have HM := Lib.hid hm
  clear hn hm
  go_enter Try.func10, Try.ntmps10
  go_wp2
  repeat (go_quiet (fail); try go_wp2)
  go_loopw [5] (fun i wr => ∃ (k : Nat), k ≤ n ∧ k ≤ m ∧ i = .int .i64 k ∧ Hid (a.take k = b.take k) ∧ Hid (∃ j, wr = w.drewN j)) (fun i _ => n - (intOf i).toNat)
  case atStart => exact ⟨0, by omega, by omega, rfl, Lib.hid rfl, Lib.hid ⟨0, rfl⟩⟩
  case round =>
    obtain ⟨k, hkn, hkm, rfl, HT, HW⟩ := hrel
    by_cases h1 : k < n
    · by_cases h2 : k < m
      · obtain ⟨ad, A2, k2, rfl, ca, _, ra⟩ := HA.out.get k (by rw [← HN.out]; exact h1)
        obtain ⟨bd, A3, k3, rfl, cb, _, rb⟩ := HB.out.get k (by rw [← HM.out]; exact h2)
        have hs := str_eq (bytes_getD BA.out k) (bytes_getD BB.out k)
        have HC1 := Lib.hid (fun q => Kd.C_string (P := Try.prog) (A := A2) (c := k2) Try.underlying36 Try.underlying5 Try.underlying9 (Kd.C_drewN ra q))
        have HC2 := Lib.hid (fun q => Kd.C_string (P := Try.prog) (A := A3) (c := k3) Try.underlying36 Try.underlying5 Try.underlying9 (Kd.C_drewN rb q))
        have HS := Lib.hid (fun (e : a.getD k [] = b.getD k []) => take_eq_step HT.out (by rw [← HN.out]; exact h1) (by rw [← HM.out]; exact h2) e)
        obtain ⟨j, hw⟩ := HW.out
        have hc1 := HC1.out j
        have hc2 := HC2.out j
        have hd1 := HC1.out (j + 1)
        have hd2 := HC2.out (j + 1)
        rw [← World.drewN_drewN, ← hw] at hd1 hd2
        rw [← hw] at hc1 hc2
        have ca : wr.cell? (ad.add k) = some (.slice A2 (a.getD k []).length k2) := by rw [hw]; exact ca
        have cb : wr.cell? (bd.add k) = some (.slice A3 (b.getD k []).length k3) := by rw [hw]; exact cb
        clear hw
        obtain ⟨x, hx⟩ : ∃ x, x = a.getD k [] := ⟨_, rfl⟩
        obtain ⟨y, hy⟩ : ∃ y, y = b.getD k [] := ⟨_, rfl⟩
        rw [← hx] at ca hs hc1 hd1
        rw [← hy] at cb hs hc2 hd2
        have HX := Lib.hid hx
        have HY := Lib.hid hy
        have p0 : (0 : Int) ≤ (k : Int) := by omega
        have p1 : (k : Int) < (n : Int) := by omega
        have p2 : (k : Int) < (m : Int) := by omega
        clear hx hy ra rb HC1 HC2
        by_cases he : x = y
        · rw [decide_eq_true he] at hs
          have hs2 : ((strOfNums x).toList != (strOfNums y).toList) = false := by simpa [bne] using hs
          have HE := Lib.hid he
          clear he
          go_wp2
          refine wp_region_still_tail 10 (by kernel_rfl) (by kernel_rfl) ?_
          change wpStill _ _ (wr.drewN 1) (fun a' => wpList _ _ _ _ a' (wr.drewN 1)) _ _
          simp only [List.take_succ_cons, List.take_zero, List.drop_succ_cons, List.drop_zero]
          repeat still_step
          refine wpStill_nil ?_
          go_wp2
          go_roundw
          case rel => exact ⟨k + 1, by omega, by omega, by go_num, Lib.hid (HS.out (by rw [← HX.out, ← HY.out]; exact HE.out)), Lib.hid (by obtain ⟨j, hw⟩ := HW.out; rw [hw]; first | exact ⟨_, rfl⟩ | exact ⟨_, World.drewN_drewN _ _ _⟩ | exact ⟨j + 1, rfl⟩)⟩
          case measure => simp [intOf]; omega
        · rw [decide_eq_false he] at hs
          have hs2 : ((strOfNums x).toList != (strOfNums y).toList) = true := by simpa [bne] using hs
          have HE := Lib.hid he
          clear he
          go_wp2
          refine wp_region_still_tail 10 (by kernel_rfl) (by kernel_rfl) ?_
          change wpStill _ _ (wr.drewN 1) (fun a' => wpList _ _ _ _ a' (wr.drewN 1)) _ _
          simp only [List.take_succ_cons, List.take_zero, List.drop_succ_cons, List.drop_zero]
          repeat still_step
          refine wpStill_nil ?_
          go_wp2
          go_ret
          refine ⟨?_, by obtain ⟨j, hw⟩ := HW.out; rw [hw]; first | exact ⟨_, rfl⟩ | exact ⟨_, World.drewN_drewN _ _ _⟩ | exact ⟨j + 1, rfl⟩⟩
          rw [decide_eq_false (fun e => HE.out (by rw [HX.out, HY.out, e]))]
          rfl
      · obtain rfl : k = m := by omega
        go_wp2
        repeat (go_quiet (fail); try go_wp2)
        go_ret
        refine ⟨?_, by obtain ⟨j, hw⟩ := HW.out; rw [hw]; first | exact ⟨_, rfl⟩ | exact ⟨_, World.drewN_drewN _ _ _⟩ | exact ⟨j + 1, rfl⟩⟩
        rw [decide_eq_false (fun e => by have := HN.out; have := HM.out; rw [e] at *; omega)]
        simp; omega
    · obtain rfl : k = n := by omega
      go_wp2
      repeat (go_quiet (fail); try go_wp2)
      go_ret
      refine ⟨?_, by obtain ⟨j, hw⟩ := HW.out; rw [hw]; first | exact ⟨_, rfl⟩ | exact ⟨_, World.drewN_drewN _ _ _⟩ | exact ⟨j + 1, rfl⟩⟩
      by_cases he : k = m
      · subst he
        rw [decide_eq_true (by have h := HT.out; rw [List.take_of_length_le (by rw [← HN.out]; omega), List.take_of_length_le (by rw [← HM.out]; omega)] at h; exact h)]
        simp
      · rw [decide_eq_false (fun e => by have := HN.out; have := HM.out; rw [e] at *; omega)]
        simp; omega
end Go.Proofs.Ytojaekhplohbjaa.Rws
/- May rows be a matrix, a small one: as printed. -/
namespace Go.Proofs.Ytojaekhplohbjaa.Sol
open Go Go.RowKit Go.Proofs.Ytojaekhplohbjaa.Psmall Go.Proofs.Ytojaekhplohbjaa.Bits Go.Proofs.YtojaekhplohbjaaW.PrintWords Go.Proofs.YtojaekhplohbjaaW.PrintLast
set_option linter.unusedVariables false

theorem right_loop (d : Nat) : ∀ (k i : Nat) (ls : List (List Int)), 1 ≤ ls.length → ls.length ≤ 64 → i + d = ls.length → d < k →
    coldframeref03_Right.l0 k ls i = some (decide (∀ l ∈ ls.drop i, l.length = (ls.getD 0 []).length)) := by
  induction d with
  | zero =>
    intro k i ls h0 h1 hd hk
    obtain ⟨k, rfl⟩ : ∃ m, k = m + 1 := ⟨k - 1, by omega⟩
    simp only [coldframeref03_Right.l0]
    rw [if_neg (by omega), List.drop_of_length_le (by omega)]; simp
  | succ d ih =>
    intro k i ls h0 h1 hd hk
    obtain ⟨k, rfl⟩ : ∃ m, k = m + 1 := ⟨k - 1, by omega⟩
    have hi : i < ls.length := by omega
    simp only [coldframeref03_Right.l0]
    have e1 : rd_L1 ls (i : Int) = ls[i] := by simp [rd_L1, hi]
    have e2 : rd_L1 ls 0 = ls.getD 0 [] := by simp [rd_L1]
    rw [if_pos (by omega), if_pos (by omega), if_pos (by omega), e1, e2, show wrap64 ((i : Int) + 1) = ((i + 1 : Nat) : Int) by rw [wrap64_in _ (by omega) (by omega)]; omega, List.drop_eq_getElem_cons hi]
    by_cases hc : ls[i].length = (ls.getD 0 []).length
    · rw [if_pos (by rw [hc]), ih k (i + 1) ls h0 h1 (by omega) (by omega)]
      congr 1
      rw [decide_eq_decide, List.forall_mem_cons]
      exact ⟨fun h => ⟨hc, h⟩, fun h => h.2⟩
    · rw [if_neg (by omega)]
      congr 1
      symm
      rw [decide_eq_false_iff_not, List.forall_mem_cons]
      exact fun h => hc h.1
theorem right_f (k : Nat) (ls : List (List Int)) (hk : 100 ≤ k) : coldframeref03_Right.f k ls = some (decide (Mat.RightP ls)) := by
  obtain ⟨k, rfl⟩ : ∃ m, k = m + 1 := ⟨k - 1, by omega⟩
  have no : ¬ Mat.RightP ls → coldframeref03_Right.j0 (k + 1) ls true = some (decide (Mat.RightP ls)) := by
    intro h
    simp only [coldframeref03_Right.j0]
    rw [if_pos trivial, decide_eq_false h]
  have e2 : rd_L1 ls 0 = ls.getD 0 [] := by simp [rd_L1]
  unfold coldframeref03_Right.f
  rw [e2]
  by_cases h1 : (ls.length : Int) < 1
  · rw [if_pos h1]; exact no (fun h => by have := h.r0; omega)
  rw [if_neg h1]
  by_cases h2 : (ls.length : Int) > 64
  · rw [if_pos h2]; exact no (fun h => by have := h.r1; omega)
  rw [if_neg h2, if_pos (by omega)]
  by_cases h3 : ((ls.getD 0 []).length : Int) < 1
  · rw [if_pos h3]; exact no (fun h => by have := h.c0; omega)
  rw [if_neg h3]
  by_cases h4 : ((ls.getD 0 []).length : Int) > 64
  · rw [show decide (((ls.getD 0 []).length : Int) > 64) = true by simpa using h4]; exact no (fun h => by have := h.c1; omega)
  rw [show decide (((ls.getD 0 []).length : Int) > 64) = false by simpa using h4]
  simp only [coldframeref03_Right.j0]
  rw [if_neg (by decide)]
  have := right_loop ls.length k 0 ls (by omega) (by omega) (by omega) (by omega)
  rw [List.drop_zero] at this
  rw [show (0 : Int) = ((0 : Nat) : Int) from rfl, this]
  congr 1
  rw [decide_eq_decide]
  exact ⟨fun h => ⟨by omega, by omega, by omega, by omega, h⟩, fun h => h.even⟩
/-- A small matrix. -/
def Small4 (ls : List (List Int)) : Prop := Mat.RightP ls ∧ ls.length ≤ 9 ∧ (ls.getD 0 []).length ≤ 9
instance (ls : List (List Int)) : Decidable (Small4 ls) := by unfold Small4; exact inferInstance
theorem small4_f (ls : List (List Int)) : coldframelaw04_small.f 200 ls = some (decide (Small4 ls)) := by
  have e2 : rd_L1 ls 0 = ls.getD 0 [] := by simp [rd_L1]
  unfold coldframelaw04_small.f
  rw [right_f 200 ls (by omega)]
  simp only [bnd]
  by_cases h : Mat.RightP ls
  · rw [if_pos (decide_eq_true h)]
    have := h.r0
    by_cases h9 : (ls.length : Int) ≤ 9
    · rw [if_pos h9, if_pos (by omega), e2]
      congr 1
      rw [decide_eq_decide]
      exact ⟨fun g => ⟨h, by omega, by omega⟩, fun g => by have := g.2.2; omega⟩
    · rw [if_neg h9, decide_eq_false (fun g => h9 (by have := g.2.1; omega))]
  · rw [if_neg (by simp [h]), decide_eq_false (fun g => h g.1)]
theorem small4_calls (A0 : Option Addr) (c0 : Nat) (ls : List (List Int)) (b : Bool) (w : World) (h : Mat.RowsC w A0 ls) (hl : ls.length ≤ c0) (hb : decide (Small4 ls) = b) :
    Calls Try.prog 6 #[.slice A0 ls.length c0] w fun e w' => e = .returned (.bool b) ∧ Below w.heap.size w w' := by
  refine (coldframelaw04_small.calls 200 A0 c0 ls b w h hl (by rw [small4_f, hb])).mono ?_
  rintro e w' ⟨rfl, hd⟩
  refine ⟨rfl, ?_⟩
  first | exact hd | (obtain ⟨nd, rfl⟩ := hd; exact pw_below_drewN (Below.refl _ _) nd)
end Go.Proofs.Ytojaekhplohbjaa.Sol
/- The printed product of the document's answer is the plain one. -/
namespace Go.Proofs.Ytojaekhplohbjaa.BSteps
open Go Go.RowKit Go.Proofs.Ytojaekhplohbjaa.PSteps Go.Proofs.Ytojaekhplohbjaa.Gf Go.Proofs.Ytojaekhplohbjaa.Bits Go.Proofs.YtojaekhplohbjaaW.PrintWords Go.Proofs.YtojaekhplohbjaaW.PrintLast

theorem ref_bit (i : Nat) : ∀ (k n : Nat), n < 9223372036854775808 → i < 64 → i < k → coldframeref02_bit.f k n i = some ((n / 2 ^ i % 2 : Nat) : Int) := by
  induction i with
  | zero =>
    intro k n hn hi hk
    obtain ⟨k, rfl⟩ : ∃ m, k = m + 1 := ⟨k - 1, by omega⟩
    simp only [coldframeref02_bit.f, coldframeref02_bit.l0]
    rw [if_neg (by omega), Int.tmod_eq_emod_of_nonneg (by omega)]
    congr 1; simp
  | succ i ih =>
    intro k n hn hi hk
    obtain ⟨k, rfl⟩ : ∃ m, k = m + 1 := ⟨k - 1, by omega⟩
    simp only [coldframeref02_bit.f, coldframeref02_bit.l0]
    have e1 : wrap64 (Int.tdiv (n : Int) 2) = ((n / 2 : Nat) : Int) := by
      rw [Int.tdiv_eq_ediv_of_nonneg (by omega), wrap64_in _ (by omega) (by omega)]; omega
    have e2 : wrap64 (((i + 1 : Nat) : Int) - 1) = (i : Int) := by rw [wrap64_in _ (by omega) (by omega)]; omega
    rw [if_pos (by omega), e1, e2]
    have := ih k (n / 2) (by omega) (by omega) (by omega)
    simp only [coldframeref02_bit.f] at this
    rw [this, Nat.div_div_eq_div_mul, Nat.pow_succ, Nat.mul_comm 2]

theorem ref_power (i : Nat) : ∀ (k p : Nat), p * 2 ^ i < 9223372036854775808 → i < 64 → i < k → coldframeref02_power.l0 k i p = some ((p * 2 ^ i : Nat) : Int) := by
  induction i with
  | zero =>
    intro k p hp hi hk
    obtain ⟨k, rfl⟩ : ∃ m, k = m + 1 := ⟨k - 1, by omega⟩
    simp only [coldframeref02_power.l0]
    rw [if_neg (by omega)]
    congr 1; simp
  | succ i ih =>
    intro k p hp hi hk
    obtain ⟨k, rfl⟩ : ∃ m, k = m + 1 := ⟨k - 1, by omega⟩
    simp only [coldframeref02_power.l0]
    have hpos : 0 < 2 ^ i := Nat.two_pow_pos i
    have hle : p * 2 ≤ p * 2 ^ (i + 1) := by
      rw [Nat.pow_succ]; exact Nat.mul_le_mul_left p (by omega)
    have e1 : wrap64 ((p : Int) * 2) = ((p * 2 : Nat) : Int) := by
      rw [wrap64_in _ (by omega) (by omega)]; omega
    have e2 : wrap64 (((i + 1 : Nat) : Int) - 1) = (i : Int) := by rw [wrap64_in _ (by omega) (by omega)]; omega
    have e3 : p * 2 * 2 ^ i = p * 2 ^ (i + 1) := by rw [Nat.pow_succ, Nat.mul_assoc, Nat.mul_comm 2]
    rw [if_pos (by omega), e1, e2, ih k (p * 2) (by omega) (by omega) (by omega), e3]

theorem ref_pow2 (i k : Nat) (hi : i < 62) (hk : i < k) : coldframeref02_power.f k i = some ((2 ^ i : Nat) : Int) := by
  unfold coldframeref02_power.f
  have hp : 2 ^ i ≤ 2 ^ 61 := Nat.pow_le_pow_right (by decide) (by omega)
  have := ref_power i k 1 (by omega) (by omega) hk
  simpa using this

theorem ref_down (n : Nat) : ∀ (k p : Nat), n ≤ 7 → p < 2 ^ 15 → 40 ≤ k → coldframeref02_Mul.l1 (k + n) p ((n : Int) + 7) = some ((redA n p % 256 : Nat) : Int) := by
  induction n with
  | zero =>
    intro k p hn hp hk
    obtain ⟨k, rfl⟩ : ∃ m, k = m + 1 := ⟨k - 1, by omega⟩
    simp only [coldframeref02_Mul.l1, redA]
    rw [if_neg (by omega)]
    congr 1
  | succ n ih =>
    intro k p hn hp hk
    rw [show k + (n + 1) = (k + n) + 1 from rfl]
    simp only [coldframeref02_Mul.l1, redA]
    have e0 : ((n + 1 : Nat) : Int) + 7 = ((n + 8 : Nat) : Int) := by omega
    have e1 : wrap64 (((n + 8 : Nat) : Int) - 8) = (n : Int) := by rw [wrap64_in _ (by omega) (by omega)]; omega
    have e2 : wrap64 (((n + 8 : Nat) : Int) - 1) = (n : Int) + 7 := by rw [wrap64_in _ (by omega) (by omega)]; omega
    rw [e0, if_pos (by omega), ref_bit (n + 8) _ p (by omega) (by omega) (by omega)]
    simp only [bnd]
    rw [e1, e2]
    rcases bit01 (p / 2 ^ (n + 8)) with h | h
    · rw [if_neg (by omega), h, Nat.zero_mul, Nat.xor_zero, ih k p (by omega) hp hk]
    · have hq : 2 ^ n ≤ 2 ^ 6 := Nat.pow_le_pow_right (by decide) (by omega)
      have hm : 285 * 2 ^ n ≤ 285 * 2 ^ 6 := Nat.mul_le_mul_left 285 hq
      have hm' : 285 * 2 ^ n < 2 ^ 15 := Nat.lt_of_le_of_lt hm (by decide)
      have e3 : wrap64 (285 * ((2 ^ n : Nat) : Int)) = ((285 * 2 ^ n : Nat) : Int) := by
        show wrap64 (((285 : Nat) : Int) * ((2 ^ n : Nat) : Int)) = _
        rw [← Int.natCast_mul]; exact wrap64_nat _ (Nat.lt_of_lt_of_le hm' (by decide))
      rw [if_pos (by omega), ref_pow2 n _ (by omega) (by omega)]
      simp only [bnd]
      have hx : p ^^^ 285 * 2 ^ n < 2 ^ 15 := Nat.xor_lt_two_pow hp hm'
      rw [e3, xor_i64 p (285 * 2 ^ n) (Nat.lt_of_lt_of_le hp (by decide)) (Nat.lt_of_lt_of_le hm' (by decide)), h, Nat.one_mul, ih k _ (by omega) hx hk]

theorem ref_up (n : Nat) : ∀ (k a b p i : Nat), n + i = 8 → a < 256 → b < 256 → p < 2 ^ 15 → 60 ≤ k →
    coldframeref02_Mul.l0 (k + n) a b p i = some ((redA 7 (clA n (b / 2 ^ i) p (a * 2 ^ i)) % 256 : Nat) : Int) := by
  induction n with
  | zero =>
    intro k a b p i hi ha hb hp hk
    obtain ⟨k, rfl⟩ : ∃ m, k = m + 7 + 1 := ⟨k - 8, by omega⟩
    simp only [coldframeref02_Mul.l0, clA]
    rw [if_neg (by omega)]
    exact ref_down 7 k p (by omega) hp (by omega)
  | succ n ih =>
    intro k a b p i hi ha hb hp hk
    rw [show k + (n + 1) = (k + n) + 1 from rfl]
    simp only [coldframeref02_Mul.l0, clA]
    have e2 : wrap64 ((i : Int) + 1) = ((i + 1 : Nat) : Int) := by rw [wrap64_in _ (by omega) (by omega)]; omega
    have e4 : b / 2 ^ i / 2 = b / 2 ^ (i + 1) := by rw [Nat.div_div_eq_div_mul, Nat.pow_succ]
    have e5 : a * 2 ^ i * 2 = a * 2 ^ (i + 1) := by rw [Nat.pow_succ, Nat.mul_assoc]
    rw [if_pos (by omega), wrap64_nat b (by omega), wrap64_nat a (by omega), ref_bit i _ b (by omega) (by omega) (by omega)]
    simp only [bnd]
    rw [e2, e4, e5]
    rcases bit01 (b / 2 ^ i) with h | h
    · rw [if_neg (by omega), h, Nat.zero_mul, Nat.xor_zero, ih k a b p (i + 1) (by omega) ha hb hp hk]
    · have hq : 2 ^ i ≤ 2 ^ 7 := Nat.pow_le_pow_right (by decide) (by omega)
      have hm : a * 2 ^ i ≤ 255 * 2 ^ 7 := Nat.mul_le_mul (by omega) hq
      have hm' : a * 2 ^ i < 2 ^ 15 := Nat.lt_of_le_of_lt hm (by decide)
      have e3 : wrap64 ((a : Int) * ((2 ^ i : Nat) : Int)) = ((a * 2 ^ i : Nat) : Int) := by
        rw [← Int.natCast_mul]; exact wrap64_nat _ (Nat.lt_of_lt_of_le hm' (by decide))
      rw [if_pos (by omega), ref_pow2 i _ (by omega) (by omega)]
      simp only [bnd]
      have hx : p ^^^ a * 2 ^ i < 2 ^ 15 := Nat.xor_lt_two_pow hp hm'
      rw [e3, xor_i64 p (a * 2 ^ i) (Nat.lt_of_lt_of_le hp (by decide)) (Nat.lt_of_lt_of_le hm' (by decide)), h, Nat.one_mul, ih k a b _ (i + 1) (by omega) ha hb hx hk]

theorem ref_mul (k a b : Nat) (ha : a < 256) (hb : b < 256) (hk : 68 ≤ k) : coldframeref02_Mul.f k a b = some ((gm a b : Nat) : Int) := by
  unfold coldframeref02_Mul.f
  obtain ⟨k, rfl⟩ : ∃ m, k = m + 8 := ⟨k - 8, by omega⟩
  have h := ref_up 8 k a b 0 0 (by omega) ha hb (by omega) (by omega)
  have h1 := ref_eq a b ha hb
  have h2 := gm_lt a b ha
  simp only [Nat.pow_zero, Nat.div_one, Nat.mul_one, h1, Nat.mod_eq_of_lt h2] at h
  exact h
end Go.Proofs.Ytojaekhplohbjaa.BSteps
/- Steps: the document's times, plus and Inv, as printed. -/
namespace Go.Proofs.Ytojaekhplohbjaa.Sol
open Go Go.RowKit Go.Proofs.Ytojaekhplohbjaa.PSteps Go.Proofs.Ytojaekhplohbjaa.BSteps Go.Proofs.Ytojaekhplohbjaa.Gf Go.Proofs.Ytojaekhplohbjaa.Gi Go.Proofs.Ytojaekhplohbjaa.Bits Go.Proofs.Ytojaekhplohbjaa.Rws Go.Proofs.YtojaekhplohbjaaW.PrintWords Go.Proofs.YtojaekhplohbjaaW.PrintLast
set_option linter.unusedVariables false

/-- The first i by f, the others nought. -/
def upto (m : Nat) (f : Nat → Int) (i : Nat) : List Int := line m (fun j => if j < i then f j else 0)
theorem upto_zero (m : Nat) (f : Nat → Int) : upto m f 0 = List.replicate m 0 := by
  rw [← line_zero]; exact line_congr m _ _ (fun j _ => by rw [if_neg (Nat.not_lt_zero j)])
theorem upto_full (m : Nat) (f : Nat → Int) : upto m f m = line m f := line_congr m _ _ (fun j hj => by rw [if_pos hj])
theorem upto_len (m : Nat) (f : Nat → Int) (i : Nat) : (upto m f i).length = m := line_len _ _
theorem upto_set (m : Nat) (f : Nat → Int) (i : Nat) (hi : i < m) : (upto m f i).set i (f i) = upto m f (i + 1) := by
  unfold upto
  rw [line_set m _ i hi]
  refine line_congr m _ _ (fun k hk => ?_)
  by_cases e : k = i
  · subst e; rw [if_pos rfl, if_pos (by omega)]
  · rw [if_neg e]
    by_cases h : k < i
    · rw [if_pos h, if_pos (by omega)]
    · rw [if_neg h, if_neg (by omega)]
theorem rd_line (m : Nat) (f : Nat → Int) (i : Nat) (hi : i < m) : rd (line m f) (i : Int) = f i := by
  have h := line_get m f i hi
  simpa [rd, List.getD_eq_getElem?_getD] using h
theorem inc (i : Nat) (h : i < 1000000) : wrap64 ((i : Int) + 1) = ((i + 1 : Nat) : Int) := by rw [wrap64_in _ (by omega) (by omega)]; omega
theorem mulI (k : Nat) (a b : Int) (ha : Byt a) (hb : Byt b) (hk : 68 ≤ k) : coldframeref02_Mul.f k a b = some (gmI a b) := by
  obtain ⟨x, hx, rfl⟩ := byt_nat ha
  obtain ⟨y, hy, rfl⟩ := byt_nat hb
  rw [ref_mul k x y hx hy hk]; simp [gmI]
theorem times_loop (m : Nat) (hm : m ≤ 1000) (f : Nat → Int) (x : Int) (hf : ∀ i, Byt (f i)) (hx : Byt x) (d : Nat) : ∀ (k i : Nat), i + d = m → 100 + d ≤ k → coldframeref04_times.l0 k (line m f) x (upto m (fun i => gmI (f i) x) i) (i : Int) = some (line m (fun i => gmI (f i) x)) := by
  induction d with
  | zero =>
    intro k i hi hk
    obtain ⟨k, rfl⟩ : ∃ q, k = q + 1 := ⟨k - 1, by omega⟩
    obtain rfl : i = m := by omega
    simp only [coldframeref04_times.l0]
    rw [line_len, if_neg (by omega), upto_full]
  | succ d ih =>
    intro k i hi hk
    obtain ⟨k, rfl⟩ : ∃ q, k = q + 1 := ⟨k - 1, by omega⟩
    simp only [coldframeref04_times.l0]
    rw [line_len, if_pos (by omega), if_pos (by omega), rd_line m f i (by omega), mulI k _ _ (hf i) hx (by omega), Option.bind_some, upto_len, if_pos (by omega), Int.toNat_natCast, upto_set m (fun i => gmI (f i) x) i (by omega), inc i (by omega)]
    exact ih k (i + 1) (by omega) (by omega)
theorem times_f (m : Nat) (hm : m ≤ 1000) (f : Nat → Int) (x : Int) (hf : ∀ i, Byt (f i)) (hx : Byt x) : coldframeref04_times.f 2000 (line m f) x = some (line m (fun i => gmI (f i) x)) := by
  unfold coldframeref04_times.f
  rw [line_len, if_pos (by omega), if_pos (by omega), Int.toNat_natCast, ← upto_zero m (fun i => gmI (f i) x)]
  exact times_loop m hm f x hf hx m 2000 0 (by omega) (by omega)
theorem plus_loop (m : Nat) (hm : m ≤ 1000) (f g : Nat → Int) (hf : ∀ i, Byt (f i)) (hg : ∀ i, Byt (g i)) (d : Nat) : ∀ (k i : Nat), i + d = m → 100 + d ≤ k → coldframeref04_plus.l0 k (line m f) (line m g) (upto m (fun i => xorI (f i) (g i)) i) (i : Int) = some (line m (fun i => xorI (f i) (g i))) := by
  induction d with
  | zero =>
    intro k i hi hk
    obtain ⟨k, rfl⟩ : ∃ q, k = q + 1 := ⟨k - 1, by omega⟩
    obtain rfl : i = m := by omega
    simp only [coldframeref04_plus.l0]
    rw [line_len, if_neg (by omega), upto_full]
  | succ d ih =>
    intro k i hi hk
    obtain ⟨k, rfl⟩ : ∃ q, k = q + 1 := ⟨k - 1, by omega⟩
    simp only [coldframeref04_plus.l0]
    rw [line_len, if_pos (by omega), if_pos (by omega), line_len, if_pos (by omega), upto_len, if_pos (by omega), rd_line m f i (by omega), rd_line m g i (by omega), xor_bits (hf i) (hg i), Int.toNat_natCast, upto_set m (fun i => xorI (f i) (g i)) i (by omega), inc i (by omega)]
    exact ih k (i + 1) (by omega) (by omega)
theorem plus_f (m : Nat) (hm : m ≤ 1000) (f g : Nat → Int) (hf : ∀ i, Byt (f i)) (hg : ∀ i, Byt (g i)) : coldframeref04_plus.f 2000 (line m f) (line m g) = some (line m (fun i => xorI (f i) (g i))) := by
  unfold coldframeref04_plus.f
  rw [line_len, if_pos (by omega), if_pos (by omega), Int.toNat_natCast, ← upto_zero m (fun i => xorI (f i) (g i))]
  exact plus_loop m hm f g hf hg m 2000 0 (by omega) (by omega)
theorem inv_loop (a : Int) (ha : Byt a) (d : Nat) : ∀ (k b : Nat), b + d = 256 → (∃ j : Nat, b ≤ j ∧ j < 256 ∧ gmI a j = 1) → 100 + d ≤ k → ∃ r, Byt r ∧ gmI a r = 1 ∧ coldframeref02_Inv.l0 k a (b : Int) = some r := by
  induction d with
  | zero => intro k b hb ⟨j, h1, h2, _⟩; omega
  | succ d ih =>
    intro k b hb hj hk
    obtain ⟨k, rfl⟩ : ∃ q, k = q + 1 := ⟨k - 1, by omega⟩
    simp only [coldframeref02_Inv.l0]
    have e : ((b : Int) % 256) = (b : Int) := by omega
    rw [if_pos (by omega), e, mulI k a b ha ⟨by omega, by omega⟩ (by omega), Option.bind_some]
    by_cases h1 : gmI a b = 1
    · rw [if_pos h1]; exact ⟨_, ⟨by omega, by omega⟩, h1, rfl⟩
    · rw [if_neg h1, inc b (by omega)]
      obtain ⟨j, j1, j2, j3⟩ := hj
      have hne : j ≠ b := fun e => h1 (by rw [← e]; exact j3)
      exact ih k (b + 1) (by omega) ⟨j, by omega, j2, j3⟩ (by omega)
theorem inv_f (a : Int) (ha : Byt a) (h0 : a ≠ 0) : ∃ r, Byt r ∧ gmI a r = 1 ∧ coldframeref02_Inv.f 2000 a = some r := by
  obtain ⟨x, hx, rfl⟩ := byt_nat ha
  refine inv_loop x ha 255 2000 1 rfl ⟨ginv x, ?_, ginv_lt x hx, ?_⟩ (by omega)
  · rcases Nat.eq_zero_or_pos (ginv x) with h | h
    · have := gm_inv x hx (by omega)
      rw [h, gm_zero_right] at this
      cases this
    · exact h
  · simp only [gmI, Int.toNat_natCast, gm_inv x hx (by omega)]; rfl
theorem times_any (m c0 : Nat) (A : Option Addr) (f : Nat → Int) (x : Int) (w : World) (hC : (Kd.int .u8).C w A m (line m f)) (hf : ∀ i, Byt (f i)) (hx : Byt x) (hc : m ≤ c0) (hm : m ≤ 1000) :
    Calls Try.prog 29 #[.slice A m c0, .int .u8 x] w fun e w' => ∃ A' c', e = .returned (.slice A' m c') ∧ Kd.R (Kd.int .u8) 5 w' w.heap.size (fun _ => True) (.slice A' m c') (line m (fun i => gmI (f i) x)) ∧ Below w.heap.size w w' := by
  have h := coldframeref04_times.calls 2000 A c0 (line m f) x _ w (by rw [line_len]; exact hC) (by rw [line_len]; exact hc) (times_f m hm f x hf hx)
  rw [line_len] at h
  refine h.mono ?_
  rintro e w' ⟨v, rfl, hR, hB⟩
  obtain ⟨A', c', rfl⟩ := Kd.R_slice hR
  rw [line_len] at hR ⊢
  exact ⟨A', c', rfl, hR, hB⟩
theorem plus_any (m c0 c1 : Nat) (A A1 : Option Addr) (f g : Nat → Int) (w : World) (hC : (Kd.int .u8).C w A m (line m f)) (hC1 : (Kd.int .u8).C w A1 m (line m g)) (hf : ∀ i, Byt (f i)) (hg : ∀ i, Byt (g i)) (hc : m ≤ c0) (hc1 : m ≤ c1) (hm : m ≤ 1000) :
    Calls Try.prog 31 #[.slice A m c0, .slice A1 m c1] w fun e w' => ∃ A' c', e = .returned (.slice A' m c') ∧ Kd.R (Kd.int .u8) 5 w' w.heap.size (fun _ => True) (.slice A' m c') (line m (fun i => xorI (f i) (g i))) ∧ Below w.heap.size w w' := by
  have h := coldframeref04_plus.calls 2000 A c0 (line m f) A1 c1 (line m g) _ w (by rw [line_len]; exact hC) (by rw [line_len]; exact hc) (by rw [line_len]; exact hC1) (by rw [line_len]; exact hc1) (plus_f m hm f g hf hg)
  rw [line_len, line_len] at h
  refine h.mono ?_
  rintro e w' ⟨v, rfl, hR, hB⟩
  obtain ⟨A', c', rfl⟩ := Kd.R_slice hR
  rw [line_len] at hR ⊢
  exact ⟨A', c', rfl, hR, hB⟩
theorem inv_any (a : Int) (ha : Byt a) (h0 : a ≠ 0) : ∃ r, Byt r ∧ gmI a r = 1 ∧ ∀ w, Calls Try.prog 30 #[.int .u8 a] w fun e w' => e = .returned (.int .u8 r) ∧ Below w.heap.size w w' := by
  obtain ⟨r, h1, h2, h3⟩ := inv_f a ha h0
  refine ⟨r, h1, h2, fun w => (coldframeref02_Inv.calls 2000 a r w h3).mono ?_⟩
  rintro e w' ⟨rfl, hD⟩
  obtain ⟨n, rfl⟩ := hD.out
  exact ⟨rfl, pw_below_drewN (Below.refl _ _) n⟩
end Go.Proofs.Ytojaekhplohbjaa.Sol
