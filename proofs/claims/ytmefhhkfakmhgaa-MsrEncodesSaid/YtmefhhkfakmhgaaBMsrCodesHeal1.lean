/- Fragments: the program's N, Helpers, half, Fragment. -/
import Derived.Test.YtmefhhkfakmhgaaProg
import Derived.Below
import Derived.Deep.Draws
import Derived.Deep.AppendLies
import Derived.Maps.AppendAt
import Derived.OwnWalk
import Derived.Laws.BytesArg
import Derived.Laws.MakeOwn
import Derived.Laws.OwnMore
import Derived.Deep.OwnRows
import Derived.Tactics
import Derived.Lib.ConvBytes
import Derived.Laws.Slices
import Derived.WalkKit
import Derived.KernelRfl
import Derived.RowKit3
import Derived.Deep.LoopGhost
import Derived.Deep.QuietTactic
import Derived.BigQuiet
import Derived.WideLaws
import Derived.Deep.DeepCutAuto
import Derived.Deep.CutBlock
import Derived.Deep.RegionHeld3
import Derived.Laws.Rows
import Derived.Lib.AppendStr
import Derived.ArgAppend
import Derived.Laws.IdiomCopy
import Derived.OrdersHeld
import Derived.Laws.BitsLemmas
import Derived.RowKit
import Derived.Lib.Hide
import Derived.WalkSpells
import Derived.StillTailTactics
import Derived.Outline
import Derived.Test.YtmefhhkfakmhgaaGi
import Derived.Test.YtmefhhkfakmhgaaBMsrCodesMsrRef
namespace Go.Proofs.Ytmefhhkfakmhgaa.Str
open Go Go.RowKit Go.Proofs.Ytmefhhkfakmhgaa.PMsrCodes Go.Proofs.Ytmefhhkfakmhgaa.BMsrCodes Go.Proofs.Ytmefhhkfakmhgaa.Gf Go.Proofs.Ytmefhhkfakmhgaa.Gi Go.Proofs.Ytmefhhkfakmhgaa.Bits Go.Proofs.Ytmefhhkfakmhgaa.Mem Go.Proofs.Ytmefhhkfakmhgaa.VPts Go.Proofs.Ytmefhhkfakmhgaa.Rws Go.Proofs.YtmefhhkfakmhgaaW.PrintWords Go.Proofs.YtmefhhkfakmhgaaW.PrintLast
set_option linter.unusedVariables false

theorem mul_calls (a b : Int) (w : World) (ha : Byt a) (hb : Byt b) :
    Calls Try.prog 45 #[.int .u8 a, .int .u8 b] w fun e w' => e = .returned (.int .u8 (gmI a b)) ∧ ∃ n, w' = w.drewN n := by
  obtain ⟨x, hx, rfl⟩ := byt_nat ha
  obtain ⟨y, hy, rfl⟩ := byt_nat hb
  refine (gf_Mul.calls 9 x y _ w (gf_mul 9 x y hx hy (by decide))).mono ?_
  rintro e w' ⟨rfl, h⟩
  exact ⟨by simp [gmI], h.out⟩
theorem add_calls (a b : Int) (w : World) (ha : Byt a) (hb : Byt b) :
    Calls Try.prog 44 #[.int .u8 a, .int .u8 b] w fun e w' => e = .returned (.int .u8 (xorI a b)) ∧ ∃ n, w' = w.drewN n := by
  refine (gf_Add.calls a b _ w (show gf_Add.f a b = some (xorI a b) by unfold gf_Add.f; rw [xor_bits ha hb])).mono ?_
  rintro e w' ⟨rfl, h⟩
  exact ⟨rfl, h.out⟩
theorem refmul_calls (a b : Int) (w : World) (ha : Byt a) (hb : Byt b) :
    Calls Try.prog 39 #[.int .u8 a, .int .u8 b] w fun e w' => e = .returned (.int .u8 (gmI a b)) ∧ ∃ n, w' = w.drewN n := by
  obtain ⟨x, hx, rfl⟩ := byt_nat ha
  obtain ⟨y, hy, rfl⟩ := byt_nat hb
  refine (coldframeref02_Mul.calls 68 x y _ w (ref_mul 68 x y hx hy (by decide))).mono ?_
  rintro e w' ⟨rfl, h⟩
  exact ⟨by simp [gmI], h.out⟩
set_option maxRecDepth 100000 in
theorem n_any (v : Value) (n k : Nat) (w : World) (h : IsCode w v n k) :
    Calls Try.prog 15 #[v] w fun e w' => e = .returned (.int .i64 n) ∧ w' = w := by
  obtain ⟨b, A, c, rfl, h⟩ := h
  have h1 := (h.cell 0).trans rfl
  simp at h1
  go_enter Try.func15, Try.ntmps15
  go_wp2
  go_ret
  exact ⟨rfl, rfl⟩
set_option maxRecDepth 100000 in
theorem helpers_any (v : Value) (n k : Nat) (w : World) (h : IsCode w v n k) (h1 : 1 ≤ k) (h2 : k ≤ 100) :
    Calls Try.prog 17 #[v] w fun e w' => e = .returned (.int .i64 ((2 * k - 2 : Nat) : Int)) ∧ w' = w := by
  have H := Lib.hid h
  have e1 : IntKind.i64.wrap (2 * (k : Int)) = 2 * (k : Int) := IntWalk.i64_in _ (by omega)
  have e2 : IntKind.i64.wrap (2 * (k : Int) - 2) = ((2 * k - 2 : Nat) : Int) := by rw [IntWalk.i64_in _ (by omega)]; omega
  obtain ⟨q, hq⟩ : ∃ q, q = 2 * k - 2 := ⟨_, rfl⟩
  rw [← hq] at e2 ⊢
  have e3 : max (q : Int) 0 = (q : Int) := by omega
  clear h hq h1 h2
  go_enter Try.func17, Try.ntmps17
  go_wp2_with (go_at_call 16; (with_reducible refine (k_any _ _ _ _ H.out).mono ?_); rintro e w1 ⟨rfl, rfl⟩)
  go_ret
  exact ⟨rfl, rfl⟩
theorem pows_take (x m n : Nat) (h : m ≤ n) : (pows x n).take m = pows x m := by
  unfold pows
  rw [← List.map_take, List.take_range, Nat.min_eq_left h]
theorem R_new_block {w : World} {base n c : Nat} {ok : Nat → Prop} {A : Option Addr} {ad : Addr} {xs : List Int} (h : Kd.R (Kd.int .u8) 5 w base ok (.slice A n c) xs) (e : A = some ad) : base ≤ ad.block := by
  have h1 := Kd.own_of_R h
  rcases h1.2 with ⟨h2, _⟩ | ⟨g, cap, cur, h2, h3, _⟩
  · injection h2 with h2; rw [e] at h2; cases h2
  · injection h2 with h2; rw [e] at h2; injection h2 with h2; subst h2; exact h3
/-- What a helper sends. -/
def fragTo (x m sz : Nat) (sh : List Int) (i : Nat) : Int := dotN (fun j => ((gp x j : Nat) : Int)) (fun j => sh.getD (j * sz + i) 0) m
def fragL (x m sz : Nat) (sh : List Int) : List Int := line sz (fragTo x m sz sh)
theorem fragTo_succ (x m sz : Nat) (sh : List Int) (i : Nat) : fragTo x (m + 1) sz sh i = xorI (fragTo x m sz sh i) (gmI ((gp x m : Nat) : Int) (sh.getD (m * sz + i) 0)) := rfl
theorem gp_byt (x j : Nat) (hx : x < 256) : Byt ((gp x j : Nat) : Int) := by have := gp_lt x hx j; exact ⟨by omega, by omega⟩
theorem fragTo_byt (x m sz : Nat) (sh : List Int) (i : Nat) (hx : x < 256) : Byt (fragTo x m sz sh i) := dotN_byt (fun j => gp_byt x j hx) m
/-- Fragments on the way: of the first i places m + 1 terms, of the others m. -/
def fragMid (x m sz : Nat) (sh : List Int) (i : Nat) : List Int := line sz (fun i' => if i' < i then fragTo x (m + 1) sz sh i' else fragTo x m sz sh i')
end Go.Proofs.Ytmefhhkfakmhgaa.Str
