/- The statement StripePlans: its cases. -/
import Derived.Test.YtjoblpkfpfclpaaProg
import Derived.Below
import Derived.Deep.Draws
import Derived.Deep.AppendLies
import Derived.Maps.AppendAt
import Derived.OwnWalk
import Derived.Laws.BytesArg
import Derived.Laws.MakeOwn
import Derived.Laws.OwnMore
import Derived.Deep.OwnRows
import Derived.Tactics
import Derived.Lib.ConvBytes
import Derived.Laws.Slices
import Derived.WalkKit
import Derived.KernelRfl
import Derived.RowKit3
import Derived.Deep.LoopGhost
import Derived.Deep.QuietTactic
import Derived.BigQuiet
import Derived.WideLaws
import Derived.Deep.DeepCutAuto
import Derived.Deep.CutBlock
import Derived.Deep.RegionHeld3
import Derived.Laws.Rows
import Derived.Lib.AppendStr
import Derived.ArgAppend
import Derived.Laws.IdiomCopy
import Derived.OrdersHeld
import Derived.Laws.BitsLemmas
import Derived.RowKit
import Derived.Lib.Hide
import Derived.WalkSpells
import Derived.Outline
import Derived.ProofKit
import Derived.StillTailTactics
import Derived.Test.YtjoblpkfpfclpaaBStripePlansStripe4
namespace Go.Proofs.Ytjoblpkfpfclpaa.Str
open Go Go.RowKit Go.Proofs.Ytjoblpkfpfclpaa.PStripePlans Go.Proofs.Ytjoblpkfpfclpaa.BStripePlans Go.Proofs.Ytjoblpkfpfclpaa.Gf Go.Proofs.Ytjoblpkfpfclpaa.Bits Go.Proofs.Ytjoblpkfpfclpaa.Mem Go.Proofs.Ytjoblpkfpfclpaa.VPts Go.Proofs.YtjoblpkfpfclpaaW.PrintWords Go.Proofs.YtjoblpkfpfclpaaW.PrintLast
set_option linter.unusedVariables false
theorem below_of_drew {w w' : World} (h : Below w.drew.heap.size w.drew w') : Below w.heap.size w w' := ⟨h.os, h.tape, h.output, h.size, h.block⟩
theorem IsCode.drew {w : World} {v : Value} {n k : Nat} (h : IsCode w v n k) : IsCode w.drew v n k := h
theorem IsCode.alloc {w : World} {v : Value} {n k : Nat} (h : IsCode w v n k) (o : Obj) : IsCode (w.alloc o) v n k := h.below ((Below.refl _ _).alloc (Nat.le_refl _) _)
theorem to_calls (a b c : Int) (w : World) : Calls Try.prog 12 #[planV a b c] w fun e w' => e = .returned (planV a b c) ∧ Below w.heap.size w w' :=
  coldframelaw08_to.calls a b c a b c w rfl
theorem refof_calls (k L p a b c e : Int) (w : World) (h : coldframeref08_Of.f 60000 k L p = some (a, b, c, e)) :
    Calls Try.prog 11 #[.int .i64 k, .int .i64 L, .int .i64 p] w fun e' w' => e' = planE a b c e ∧ Below w.heap.size w w' := coldframeref08_Of.calls 60000 k L p a b c e w h
def skipAll (ops : Array Oper) : List Oper → Act → Bool
  | [], _ => true
  | o :: r, a => !Region.wanted o (yielded ops a.tmps) && skipAll ops r (a.put o.dst undef)
/-- Operations that are not wanted, all at once. -/
theorem still_drop {P : Program} {ops : Array Oper} {w : World} {Q : Act → Prop} (n : Nat) : ∀ {l : List Oper} {a : Act}, skipAll ops (l.take n) a = true → wpStill P ops w Q (l.drop n) ((l.take n).foldl (fun a o => a.put o.dst undef) a) → wpStill P ops w Q l a := by
  induction n with
  | zero => intro l a _ hk; simpa using hk
  | succ n ih =>
    intro l a h hk
    cases l with
    | nil => simpa using hk
    | cons o r =>
      simp only [List.take_succ_cons, skipAll, Bool.and_eq_true, Bool.not_eq_true'] at h
      unfold wpStill
      rw [h.1]
      exact ih h.2 hk
theorem still_val {P : Program} {ops : Array Oper} {w : World} {Q : Act → Prop} {a : Act} {o : Oper} {rest : List Oper} {v : Value} (h : Region.wanted o (yielded ops a.tmps) = true) (hs : (execOp a.eval o).run P w = .ok (.value v) w) (hk : wpStill P ops w Q rest (a.put o.dst v)) : wpStill P ops w Q (o :: rest) a := by
  unfold wpStill
  rw [h, if_pos rfl]
  unfold Oper.still
  rw [hs]
  exact ⟨rfl, hk⟩
structure Bx (p : Prop) : Prop where out : p
section
variable {P : Program} {ops : Array Oper} {w : World} {Q : Act → Prop} {a : Act} {o : Oper} {rest : List Oper} {v : Value}
theorem bx_val (h : Region.wanted o (yielded ops a.tmps) = true) (hs : (execOp a.eval o).run P w = .ok (.value v) w) (hk : Bx (wpStill P ops w Q rest (a.put o.dst v))) : Bx (wpStill P ops w Q (o :: rest) a) := ⟨still_val h hs hk.out⟩
theorem bx_drop (n : Nat) {l : List Oper} (h : skipAll ops (l.take n) a = true) (hk : Bx (wpStill P ops w Q (l.drop n) ((l.take n).foldl (fun a o => a.put o.dst undef) a))) : Bx (wpStill P ops w Q l a) := ⟨still_drop n h hk.out⟩
theorem bx_nil (h : Q a) : Bx (wpStill P ops w Q [] a) := ⟨wpStill_nil h⟩
end
set_option maxRecDepth 100000 in
theorem plans_bad (n k L p : Int) (w : World) (h : ¬ (2 ≤ k ∧ k ≤ 8 ∧ 2 * k - 1 ≤ n ∧ n ≤ 24)) :
    Calls Try.prog 3 #[.int .i64 n, .int .i64 k, .int .i64 L, .int .i64 p] w fun e w' => e = .returned (.bool true) ∧ Below w.heap.size w w' := by
  have HB := Lib.hid (Below.refl w.heap.size w)
  have RR := Lib.hid (fun W => right_calls n k false W (decide_eq_false h))
  clear h
  go_enter Try.func3, Try.ntmps3
  go_wp2_with (first
    | (go_at_call 7; (with_reducible refine (RR.out _).mono ?_); rintro e w1 ⟨rfl, hb⟩; have HBn := Lib.hid (HB.out.trans (hb.mono HB.out.size)); clear HB hb; have HB := HBn; clear HBn)
    | (go_at_call 8; (with_reducible refine (awake_calls _).mono ?_); rintro e w1 ⟨rfl, hb⟩; have HBn := Lib.hid (HB.out.trans (hb.mono HB.out.size)); clear HB hb; have HB := HBn; clear HBn))
  go_ret
  exact ⟨rfl, HB.out⟩
set_option maxRecDepth 100000 in
set_option maxHeartbeats 1000000 in
theorem plans_err1 (n k : Nat) (L p : Int) (w : World) (h1 : 2 ≤ k) (h2 : k ≤ 8) (h3 : 2 * k - 1 ≤ n) (h4 : n ≤ 24)
    (hof : ∀ b W, IsCode W (.pointer (some ⟨b, 0, none⟩)) n k → Calls Try.prog 10 #[.pointer (some ⟨b, 0, none⟩), .int .i64 L, .int .i64 p] W fun e w' => e = planE 0 0 0 1 ∧ Below W.heap.size W w')
    (hrf : coldframeref08_Of.f 60000 k L p = some (0, 0, 0, 1)) :
    Calls Try.prog 3 #[.int .i64 n, .int .i64 k, .int .i64 L, .int .i64 p] w fun e w' => e = .returned (.bool true) ∧ Below w.heap.size w w' := by
  have HB := Lib.hid (Below.refl w.heap.size w)
  have RR := Lib.hid (fun W => right_calls n k true W (decide_eq_true ⟨by omega, by omega, by omega, by omega⟩))
  have NC := Lib.hid (fun W => new_code n k W h1 h2 h3 h4)
  have OF := Lib.hid hof
  have RF := Lib.hid (fun W => refof_calls k L p 0 0 0 1 W hrf)
  have nq := fun W => neq_plan W 0 0 0
  clear hof hrf h1 h2 h3 h4
  go_enter Try.func3, Try.ntmps3
  go_upto_region 7 with (first
                             | (go_at_call 7; (with_reducible refine (RR.out _).mono ?_); rintro e w1 ⟨rfl, hb⟩; have HBn := Lib.hid (HB.out.trans (hb.mono HB.out.size)); clear HB hb; have HB := HBn; clear HBn)
                             | (go_at_call 9; (with_reducible refine (NC.out _).mono ?_); rintro e w1 ⟨v, rfl, hc, hb⟩; obtain ⟨b3, A3, c3, rfl, hblk⟩ := hc; have HC := Lib.hid (show IsCode w1 (.pointer (some ⟨b3, 0, none⟩)) n k from ⟨b3, A3, c3, rfl, hblk⟩); clear hblk; have HBn := Lib.hid (HB.out.trans (hb.mono HB.out.size)); clear HB hb; have HB := HBn; clear HBn)
                             | (go_at_call 10; (with_reducible refine (OF.out _ _ HC.out).mono ?_); rintro e w4 ⟨rfl, hb⟩; have HCn := Lib.hid (HC.out.below hb); clear HC; have HC := HCn; clear HCn; have HBn := Lib.hid (HB.out.trans (hb.mono HB.out.size)); clear HB hb; have HB := HBn; clear HBn)
                             | (go_at_call 11; (with_reducible refine (RF.out _).mono ?_); rintro e w5 ⟨rfl, hb⟩; have H11 := Lib.hid (Blk.below (Blk.new _ _ _) hb (by simp)); have HCn := Lib.hid ((HC.out.alloc _).below hb); clear HC; have HC := HCn; clear HCn; have hb := ((Below.refl _ _).alloc (Nat.le_refl _) _).trans (hb.mono (by simp)); have HBn := Lib.hid (HB.out.trans (hb.mono HB.out.size)); clear HB hb; have HB := HBn; clear HBn)
                             | (go_at_call 10; (with_reducible refine (of_nil _ _ _).mono ?_); rintro e w6 ⟨rfl, hb⟩; have H13 := Lib.hid (Blk.below (Blk.new _ _ _) hb (by simp)); have H11n := Lib.hid ((H11.out.alloc _).below hb (H11.out.alloc _).lt); clear H11; have H11 := H11n; have HCn := Lib.hid ((HC.out.alloc _).below hb); clear HC; have HC := HCn; clear HCn H11n; have hb := ((Below.refl _ _).alloc (Nat.le_refl _) _).trans (hb.mono (by simp)); have HBn := Lib.hid (HB.out.trans (hb.mono HB.out.size)); clear HB hb; have HB := HBn; clear HBn))
  go_cut [58] (fun v wc => v = .bool false ∧ Hid (Blk wc w4.heap.size 29 #[.int .i64 0, .int .i64 0, .int .i64 0]) ∧ Hid (Blk wc w5.heap.size 32 #[.int .i64 0, .int .i64 0, .int .i64 0]) ∧ Hid (IsCode wc (.pointer (some ⟨b3, 0, none⟩)) n k) ∧ Hid (Below w.heap.size w wc))
  case first =>
    have A11 := Lib.hid (H11.out.alloc (.cells #[.int .i64 0, .int .i64 0, .int .i64 0] 29))
    have A13 := Lib.hid (H13.out.alloc (.cells #[.int .i64 0, .int .i64 0, .int .i64 0] 29))
    have AC := Lib.hid (HC.out.alloc (.cells #[.int .i64 0, .int .i64 0, .int .i64 0] 29))
    have AB := Lib.hid (HB.out.alloc HB.out.size (.cells #[.int .i64 0, .int .i64 0, .int .i64 0] 29))
    clear H11 H13 HC HB
    obtain ⟨W, hW⟩ : ∃ W, W = w6.alloc (.cells #[.int .i64 0, .int .i64 0, .int .i64 0] 29) := ⟨_, rfl⟩
    rw [← hW] at A11 A13 AC AB ⊢
    clear hW
    have c0 := (A11.out.cell 0).trans rfl
    have c1 := (A11.out.cell 1).trans rfl
    have c2 := (A11.out.cell 2).trans rfl
    have d0 := (A13.out.cell 0).trans rfl
    have d1 := (A13.out.cell 1).trans rfl
    have d2 := (A13.out.cell 2).trans rfl
    simp at c0 c1 c2 d0 d1 d2
    go_region_held3 (fun W => W.cell? ⟨w4.heap.size, 0, none⟩ = some (.int .i64 0) ∧ W.cell? ⟨w4.heap.size, 1, none⟩ = some (.int .i64 0) ∧ W.cell? ⟨w4.heap.size, 2, none⟩ = some (.int .i64 0) ∧ W.cell? ⟨w5.heap.size, 0, none⟩ = some (.int .i64 0) ∧ W.cell? ⟨w5.heap.size, 1, none⟩ = some (.int .i64 0) ∧ W.cell? ⟨w5.heap.size, 2, none⟩ = some (.int .i64 0)) (go_keep)
      ((go_at_call 12; (with_reducible refine (to_calls _ _ _ _).mono ?_); rintro e w8 ⟨rfl, hb⟩; have hb := Lib.hid (show Below W.heap.size W w8 from by first | exact below_of_drew hb | exact hb); have c0n := (hb.out.cell (p := ⟨w4.heap.size, 0, none⟩) A11.out.lt).trans c0; have c1n := (hb.out.cell (p := ⟨w4.heap.size, 1, none⟩) A11.out.lt).trans c1; have c2n := (hb.out.cell (p := ⟨w4.heap.size, 2, none⟩) A11.out.lt).trans c2; have d0n := (hb.out.cell (p := ⟨w5.heap.size, 0, none⟩) A13.out.lt).trans d0; have d1n := (hb.out.cell (p := ⟨w5.heap.size, 1, none⟩) A13.out.lt).trans d1; have d2n := (hb.out.cell (p := ⟨w5.heap.size, 2, none⟩) A13.out.lt).trans d2))
    all_goals
      go_wp2
      go_meet
      case rel => exact ⟨rfl, Lib.hid (A11.out.below hb.out A11.out.lt), Lib.hid (A13.out.below hb.out A13.out.lt), Lib.hid (AC.out.below hb.out), Lib.hid (AB.out.trans (hb.out.mono AB.out.size))⟩
  case rest =>
    clear H11 H13 HC HB
    obtain ⟨rfl, H11, H13, HC, HB⟩ := hcut
    go_upto_region 9 with (fail)
    refine wp_region_still_tail 27 (by kernel_rfl) (by kernel_rfl) ?_
    change wpStill _ _ (wc.drewN 1) (fun a' => wpList _ _ _ _ a' (wc.drewN 1)) _ _
    simp only [List.take_succ_cons, List.take_zero, List.drop_succ_cons, List.drop_zero]
    refine Bx.out ?_
    refine bx_val (v := .int .i64 1) (by kernel_rfl) (by go_simp) ?_
    refine bx_val (v := .bool true) (by kernel_rfl) (by go_simp) ?_
    refine bx_val (v := .bool true) (by kernel_rfl) (by go_simp) ?_
    refine bx_drop 22 (by kernel_rfl) ?_
    simp only [List.take_succ_cons, List.take_zero, List.drop_succ_cons, List.drop_zero, List.foldl_cons, List.foldl_nil, Act.put, List.setIfInBounds_toArray, List.set_cons_zero, List.set_cons_succ]
    refine bx_val (v := .bool true) (by kernel_rfl) (by go_simp) ?_
    refine bx_val (v := .bool true) (by kernel_rfl) (by go_simp) ?_
    refine bx_nil ?_
    have HBd := Lib.hid (pw_below_drewN HB.out 1)
    clear HB
    have HB := HBd
    clear HBd
    go_wp2_with (go_at_call 8; (with_reducible refine (awake_calls _).mono ?_); rintro e w1 ⟨rfl, hb⟩; have HBn := Lib.hid (HB.out.trans (hb.mono HB.out.size)); clear HB hb; have HB := HBn; clear HBn)
    go_ret
    exact ⟨rfl, HB.out⟩
end Go.Proofs.Ytjoblpkfpfclpaa.Str
