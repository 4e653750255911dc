/- Codes and plans: msr.New, K, Parts, Symbols. -/
import Derived.Test.YtjoblpkfpfclpaaProg
import Derived.Below
import Derived.Deep.Draws
import Derived.Deep.AppendLies
import Derived.Maps.AppendAt
import Derived.OwnWalk
import Derived.Laws.BytesArg
import Derived.Laws.MakeOwn
import Derived.Laws.OwnMore
import Derived.Deep.OwnRows
import Derived.Tactics
import Derived.Lib.ConvBytes
import Derived.Laws.Slices
import Derived.WalkKit
import Derived.KernelRfl
import Derived.RowKit3
import Derived.Deep.LoopGhost
import Derived.Deep.QuietTactic
import Derived.BigQuiet
import Derived.WideLaws
import Derived.Deep.DeepCutAuto
import Derived.Deep.CutBlock
import Derived.Deep.RegionHeld3
import Derived.Laws.Rows
import Derived.Lib.AppendStr
import Derived.ArgAppend
import Derived.Laws.IdiomCopy
import Derived.OrdersHeld
import Derived.Laws.BitsLemmas
import Derived.RowKit
import Derived.Lib.Hide
import Derived.WalkSpells
import Derived.Outline
import Derived.StillTailTactics
import Derived.Test.YtjoblpkfpfclpaaBStripeSpreadsVPtsN
namespace Go.Proofs.Ytjoblpkfpfclpaa.Str
open Go Go.RowKit Go.Proofs.Ytjoblpkfpfclpaa.PStripeSpreads Go.Proofs.Ytjoblpkfpfclpaa.BStripeSpreads Go.Proofs.Ytjoblpkfpfclpaa.Gf Go.Proofs.Ytjoblpkfpfclpaa.Bits Go.Proofs.Ytjoblpkfpfclpaa.Mem Go.Proofs.Ytjoblpkfpfclpaa.VPts Go.Proofs.YtjoblpkfpfclpaaW.PrintWords Go.Proofs.YtjoblpkfpfclpaaW.PrintLast
set_option linter.unusedVariables false

theorem many1 : 24 ≤ (firsts (fun x => gp x 1) 40).length := by decide +kernel
theorem many2 : 24 ≤ (firsts (fun x => gp x 2) 40).length := by decide +kernel
theorem many3 : 24 ≤ (firsts (fun x => gp x 3) 40).length := by decide +kernel
theorem many4 : 24 ≤ (firsts (fun x => gp x 4) 40).length := by decide +kernel
theorem many5 : 24 ≤ (firsts (fun x => gp x 5) 40).length := by decide +kernel
theorem many6 : 24 ≤ (firsts (fun x => gp x 6) 40).length := by decide +kernel
theorem many7 : 24 ≤ (firsts (fun x => gp x 7) 40).length := by decide +kernel
theorem many (e : Nat) (h1 : 1 ≤ e) (h7 : e ≤ 7) : 24 ≤ (firsts (fun x => gp x e) 40).length := by
  rcases (show e = 1 ∨ e = 2 ∨ e = 3 ∨ e = 4 ∨ e = 5 ∨ e = 6 ∨ e = 7 by omega) with rfl | rfl | rfl | rfl | rfl | rfl | rfl
  · exact many1
  · exact many2
  · exact many3
  · exact many4
  · exact many5
  · exact many6
  · exact many7
theorem stop_len (f : Nat → Nat) (n q : Nat) (h : Stop f n q) (h24 : 24 ≤ (firsts f 40).length) (hn : n ≤ 24) : (firsts f q).length = n := by
  obtain ⟨h1, h2, h3 | h3⟩ := h
  · subst h3
    have hp := (pre f 40 216).length_le
    have hp : (firsts f 40).length ≤ (firsts f 256).length := hp
    omega
  · exact h3
/-- A pointer to a code. -/
def IsCode (w : World) (v : Value) (n k : Nat) : Prop := ∃ b A c, v = .pointer (some ⟨b, 0, none⟩) ∧ Blk w b 58 #[.int .i64 n, .int .i64 k, .slice A n c]
theorem IsCode.below {w w' : World} {v : Value} {n k : Nat} (h : IsCode w v n k) (hb : Below w.heap.size w w') : IsCode w' v n k := by
  obtain ⟨b, A, c, e, h⟩ := h
  exact ⟨b, A, c, e, h.below hb h.lt⟩
theorem drewB (W : World) (n : Nat) : Below W.heap.size W (W.drewN n) := pw_below_drewN (Below.refl _ _) n
theorem below_of_drewN {w w' : World} {n : Nat} (h : Below (w.drewN n).heap.size (w.drewN n) w') : Below w.heap.size w w' := ⟨h.os, h.tape, h.output, h.size, h.block⟩

set_option maxRecDepth 100000 in
theorem k_any (v : Value) (n k : Nat) (w : World) (h : IsCode w v n k) :
    Calls Try.prog 30 #[v] w fun e w' => e = .returned (.int .i64 k) ∧ w' = w := by
  obtain ⟨b, A, c, rfl, h⟩ := h
  have h1 := (h.cell 1).trans rfl
  simp at h1
  go_enter Try.func30, Try.ntmps30
  go_wp2
  go_ret
  exact ⟨rfl, rfl⟩
set_option maxRecDepth 100000 in
theorem parts_any (v : Value) (n k : Nat) (w : World) (h : IsCode w v n k) (h1 : 1 ≤ k) (h2 : k ≤ 100) :
    Calls Try.prog 25 #[v] w fun e w' => e = .returned (.int .i64 ((k - 1 : Nat) : Int)) ∧ w' = w := by
  have H := Lib.hid h
  have e1 : IntKind.i64.wrap ((k : Int) - 1) = ((k - 1 : Nat) : Int) := by rw [IntWalk.i64_in _ (by omega)]; omega
  obtain ⟨q, hq⟩ : ∃ q, q = k - 1 := ⟨_, rfl⟩
  rw [← hq] at e1 ⊢
  have e2 : max (q : Int) 0 = (q : Int) := by omega
  clear h hq h1 h2
  go_enter Try.func25, Try.ntmps25
  go_wp2_with (go_at_call 30; (with_reducible refine (k_any _ _ _ _ H.out).mono ?_); rintro e w1 ⟨rfl, rfl⟩)
  go_ret
  exact ⟨rfl, rfl⟩
set_option maxRecDepth 100000 in
theorem symbols_any (v : Value) (n k s : Nat) (w : World) (h : IsCode w v n k) (h1 : 1 ≤ k) (h2 : k ≤ 100) (hs : k * (k - 1) = s) :
    Calls Try.prog 24 #[v] w fun e w' => e = .returned (.int .i64 s) ∧ w' = w := by
  have HP := Lib.hid (parts_any v n k w h h1 h2)
  have H := Lib.hid h
  have hle : k * (k - 1) ≤ 100 * 100 := Nat.mul_le_mul h2 (by omega)
  have e1 : IntKind.i64.wrap ((k : Int) * ((k - 1 : Nat) : Int)) = (s : Int) := by
    rw [← Int.natCast_mul, IntWalk.i64_in _ (by omega), hs]
  obtain ⟨q, hq⟩ : ∃ q, q = k - 1 := ⟨_, rfl⟩
  rw [← hq] at e1 HP
  clear h hq hs hle h1 h2
  go_enter Try.func24, Try.ntmps24
  go_wp2_with (first
    | (go_at_call 30; (with_reducible refine (k_any _ _ _ _ H.out).mono ?_); rintro e w1 ⟨rfl, rfl⟩)
    | (go_at_call 25; (with_reducible refine HP.out.mono ?_); rintro e w1 ⟨rfl, rfl⟩))
  go_ret
  exact ⟨rfl, rfl⟩
/-- There are points enough. -/
theorem points_full (n e : Nat) (w : World) (h1 : 1 ≤ n) (h4 : n ≤ 24) (h2 : 1 ≤ e) (h3 : e ≤ 7) :
    Calls Try.prog 23 #[.int .i64 n, .int .i64 e] w fun e' w' => ∃ A c xs, e' = .returned (.tuple #[.slice A n c, .int .i64 0]) ∧ Kd.R (Kd.int .u8) 5 w' w.heap.size (fun _ => True) (.slice A n c) xs ∧ xs.length = n ∧ Below w.heap.size w w' := by
  refine (points_good n e w h1 h2 (by omega)).mono ?_
  rintro e' w1 ⟨v, q1, hq1, rfl, hr, hb⟩
  have hl := stop_len _ _ _ hq1 (many e h2 h3) h4
  have hn : ¬ (firsts (fun x => gp x e) q1).length < n := by omega
  rw [if_neg hn] at hr
  obtain ⟨A, c, rfl⟩ := Kd.R_slice hr
  rw [if_neg hn]
  have e2 : Value.slice A (firsts (fun x => gp x e) q1).length c = Value.slice A n c := by rw [hl]
  rw [e2] at hr ⊢
  exact ⟨A, c, _, rfl, hr, hl, hb⟩
set_option maxRecDepth 100000 in
theorem new_code (n k : Nat) (w : World) (h1 : 2 ≤ k) (h2 : k ≤ 8) (h3 : 2 * k - 1 ≤ n) (h4 : n ≤ 24) :
    Calls Try.prog 9 #[.int .i64 n, .int .i64 k] w fun e w' => ∃ v, e = .returned (.tuple #[v, .int .i64 0]) ∧ IsCode w' v n k ∧ Below w.heap.size w w' := by
  have e1 : IntKind.i64.wrap (2 * (k : Int)) = 2 * (k : Int) := IntWalk.i64_in _ (by omega)
  have e2 : IntKind.i64.wrap (2 * (k : Int) - 1) = 2 * (k : Int) - 1 := IntWalk.i64_in _ (by omega)
  have e3 : IntKind.i64.wrap ((k : Int) - 1) = ((k - 1 : Nat) : Int) := by rw [IntWalk.i64_in _ (by omega)]; omega
  have PG := Lib.hid (fun W => points_full n (k - 1) W (by omega) (by omega) (by omega) (by omega))
  have t1 : ¬ (k : Int) < 2 := by omega
  have t2 : ¬ (8 : Int) < (k : Int) := by omega
  have t3 : ¬ (n : Int) < 2 * (k : Int) - 1 := by omega
  have t4 : ¬ (24 : Int) < (n : Int) := by omega
  obtain ⟨q, hq⟩ : ∃ q, q = k - 1 := ⟨_, rfl⟩
  rw [← hq] at e3 PG
  clear hq h1 h2 h3 h4
  go_enter Try.func9, Try.ntmps9
  go_wp2_with (go_at_call 23; (with_reducible refine (PG.out _).mono ?_); rintro e w1 ⟨A5, c5, xs, rfl, hr, hxl, hb⟩; have HB := Lib.hid hb; clear hr hb hxl)
  refine bodyPost_ret (v := .tuple #[.pointer (some ⟨w1.heap.size, 0, none⟩), .int .i64 0]) (by simp [results, Try.results9, go_sem]) rfl ⟨_, rfl, ⟨_, _, _, rfl, Blk.new _ _ _⟩, HB.out.alloc HB.out.size _⟩
end Go.Proofs.Ytjoblpkfpfclpaa.Str
