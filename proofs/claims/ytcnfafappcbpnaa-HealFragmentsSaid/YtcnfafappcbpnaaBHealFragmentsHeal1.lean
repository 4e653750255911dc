/- Fragments: the program's N, Helpers, half, Fragment. -/
import Derived.Test.YtcnfafappcbpnaaProg
import Derived.Below
import Derived.Deep.Draws
import Derived.Deep.AppendLies
import Derived.Maps.AppendAt
import Derived.OwnWalk
import Derived.Laws.BytesArg
import Derived.Laws.MakeOwn
import Derived.Laws.OwnMore
import Derived.Deep.OwnRows
import Derived.Tactics
import Derived.Lib.ConvBytes
import Derived.Laws.Slices
import Derived.WalkKit
import Derived.KernelRfl
import Derived.RowKit3
import Derived.Deep.LoopGhost
import Derived.Deep.QuietTactic
import Derived.BigQuiet
import Derived.WideLaws
import Derived.Deep.DeepCutAuto
import Derived.Deep.CutBlock
import Derived.Deep.RegionHeld3
import Derived.Laws.Rows
import Derived.Lib.AppendStr
import Derived.ArgAppend
import Derived.Laws.IdiomCopy
import Derived.OrdersHeld
import Derived.Laws.BitsLemmas
import Derived.RowKit
import Derived.Lib.Hide
import Derived.WalkSpells
import Derived.StillTailTactics
import Derived.Outline
import Derived.Test.YtcnfafappcbpnaaGi
import Derived.Test.YtcnfafappcbpnaaBHealFragmentsMsrRef
namespace Go.Proofs.Ytcnfafappcbpnaa.Str
open Go Go.RowKit Go.Proofs.Ytcnfafappcbpnaa.PHealFragments Go.Proofs.Ytcnfafappcbpnaa.BHealFragments Go.Proofs.Ytcnfafappcbpnaa.Gf Go.Proofs.Ytcnfafappcbpnaa.Gi Go.Proofs.Ytcnfafappcbpnaa.Bits Go.Proofs.Ytcnfafappcbpnaa.Mem Go.Proofs.Ytcnfafappcbpnaa.VPts Go.Proofs.Ytcnfafappcbpnaa.Rws Go.Proofs.YtcnfafappcbpnaaW.PrintWords Go.Proofs.YtcnfafappcbpnaaW.PrintLast
set_option linter.unusedVariables false

theorem mul_calls (a b : Int) (w : World) (ha : Byt a) (hb : Byt b) :
    Calls Try.prog 26 #[.int .u8 a, .int .u8 b] w fun e w' => e = .returned (.int .u8 (gmI a b)) ∧ ∃ n, w' = w.drewN n := by
  obtain ⟨x, hx, rfl⟩ := byt_nat ha
  obtain ⟨y, hy, rfl⟩ := byt_nat hb
  refine (gf_Mul.calls 9 x y _ w (gf_mul 9 x y hx hy (by decide))).mono ?_
  rintro e w' ⟨rfl, h⟩
  exact ⟨by simp [gmI], h.out⟩
theorem add_calls (a b : Int) (w : World) (ha : Byt a) (hb : Byt b) :
    Calls Try.prog 25 #[.int .u8 a, .int .u8 b] w fun e w' => e = .returned (.int .u8 (xorI a b)) ∧ ∃ n, w' = w.drewN n := by
  refine (gf_Add.calls a b _ w (show gf_Add.f a b = some (xorI a b) by unfold gf_Add.f; rw [xor_bits ha hb])).mono ?_
  rintro e w' ⟨rfl, h⟩
  exact ⟨rfl, h.out⟩
theorem refmul_calls (a b : Int) (w : World) (ha : Byt a) (hb : Byt b) :
    Calls Try.prog 30 #[.int .u8 a, .int .u8 b] w fun e w' => e = .returned (.int .u8 (gmI a b)) ∧ ∃ n, w' = w.drewN n := by
  obtain ⟨x, hx, rfl⟩ := byt_nat ha
  obtain ⟨y, hy, rfl⟩ := byt_nat hb
  refine (coldframeref02_Mul.calls 68 x y _ w (ref_mul 68 x y hx hy (by decide))).mono ?_
  rintro e w' ⟨rfl, h⟩
  exact ⟨by simp [gmI], h.out⟩
set_option maxRecDepth 100000 in
theorem n_any (v : Value) (n k : Nat) (w : World) (h : IsCode w v n k) :
    Calls Try.prog 22 #[v] w fun e w' => e = .returned (.int .i64 n) ∧ w' = w := by
  obtain ⟨b, A, c, rfl, h⟩ := h
  have h1 := (h.cell 0).trans rfl
  simp at h1
  go_enter Try.func22, Try.ntmps22
  go_wp2
  go_ret
  exact ⟨rfl, rfl⟩
set_option maxRecDepth 100000 in
theorem helpers_any (v : Value) (n k : Nat) (w : World) (h : IsCode w v n k) (h1 : 1 ≤ k) (h2 : k ≤ 100) :
    Calls Try.prog 27 #[v] w fun e w' => e = .returned (.int .i64 ((2 * k - 2 : Nat) : Int)) ∧ w' = w := by
  have H := Lib.hid h
  have e1 : IntKind.i64.wrap (2 * (k : Int)) = 2 * (k : Int) := IntWalk.i64_in _ (by omega)
  have e2 : IntKind.i64.wrap (2 * (k : Int) - 2) = ((2 * k - 2 : Nat) : Int) := by rw [IntWalk.i64_in _ (by omega)]; omega
  obtain ⟨q, hq⟩ : ∃ q, q = 2 * k - 2 := ⟨_, rfl⟩
  rw [← hq] at e2 ⊢
  have e3 : max (q : Int) 0 = (q : Int) := by omega
  clear h hq h1 h2
  go_enter Try.func27, Try.ntmps27
  go_wp2_with (go_at_call 28; (with_reducible refine (k_any _ _ _ _ H.out).mono ?_); rintro e w1 ⟨rfl, rfl⟩)
  go_ret
  exact ⟨rfl, rfl⟩
theorem pows_take (x m n : Nat) (h : m ≤ n) : (pows x n).take m = pows x m := by
  unfold pows
  rw [← List.map_take, List.take_range, Nat.min_eq_left h]
theorem R_new_block {w : World} {base n c : Nat} {ok : Nat → Prop} {A : Option Addr} {ad : Addr} {xs : List Int} (h : Kd.R (Kd.int .u8) 5 w base ok (.slice A n c) xs) (e : A = some ad) : base ≤ ad.block := by
  have h1 := Kd.own_of_R h
  rcases h1.2 with ⟨h2, _⟩ | ⟨g, cap, cur, h2, h3, _⟩
  · injection h2 with h2; rw [e] at h2; cases h2
  · injection h2 with h2; rw [e] at h2; injection h2 with h2; subst h2; exact h3
set_option maxRecDepth 100000 in
theorem half_any (v : Value) (n k slot : Nat) (w : World) (hc : IsCodeP w v n k) (k1 : 2 ≤ k) (k2 : k ≤ 8) (n2 : n ≤ 24) (hs : slot < n) :
    Calls Try.prog 24 #[v, .int .i64 slot] w fun e w' => ∃ A c, e = .returned (.slice A (k - 1) c) ∧ k - 1 ≤ c ∧ (Kd.int .u8).C w' A (k - 1) (pows (ptN n k slot) (k - 1)) ∧ (∀ ad, A = some ad → w.heap.size ≤ ad.block) ∧ Below w.heap.size w w' := by
  have RC := Lib.hid (row_any v n k slot w hc k1 k2 n2 hs)
  obtain ⟨i0, hi, hz⟩ := Option.map_eq_some_iff.1 VPts.info_byte
  simp only [Prod.mk.injEq] at hz
  obtain ⟨x, hx⟩ : ∃ x, x = ptN n k slot := ⟨_, rfl⟩
  rw [← hx] at RC ⊢
  obtain ⟨a, ha⟩ : ∃ a, a = k - 1 := ⟨_, rfl⟩
  obtain ⟨m, hm⟩ : ∃ m, m = 2 * k - 2 := ⟨_, rfl⟩
  have KC := Lib.hid (fun (A : Option Addr) (c : Nat) (hcm : m ≤ c) => show (∀ w : World, (Kd.int .u8).C w A m (pows x m) → (Kd.int .u8).C w A a (pows x a)) by
    have h := print_take_int (k := .u8) 22 5 Try.underlying22 hi hz.2.1 A c (pows x m) ((m : Int) / 2) (by omega) (by rw [pows_len]; omega) (by rw [pows_len]; exact hcm)
    rw [show ((m : Int) / 2).toNat = a by omega, pows_take x a m (by omega), pows_len, pows_len] at h
    exact fun w hC => Kd.C_of_reads (d := (0 : Int)) (h.2.1 w (Kd.reads_of_C (d := (0 : Int)) hC)))
  have q1 : (m : Int) ≤ 14 := by omega
  have q2 : ((m : Int) / 2).toNat = a := by omega
  rw [← ha]
  rw [← hm] at RC
  have HM := Lib.hid (show a ≤ m by omega)
  clear hx ha hm k1 k2 n2 hs hc hi hz
  go_enter Try.func24, Try.ntmps24
  go_wp2_with (go_at_call 32; (with_reducible refine RC.out.mono ?_); rintro e w1 ⟨A5, c5, rfl, hr, hb⟩; obtain ⟨hzz, hle, hC⟩ := Kd.R_reads' hr; clear hzz; rw [pows_len] at hC; have HC := Lib.hid hC; have HL := Lib.hid hle; have q3 : (m : Int) / 2 ≤ (c5 : Int) := (by omega); have q4 : (0 : Int) ≤ (m : Int) / 2 := (by omega); have HB := Lib.hid hb; have HAD := Lib.hid (fun ad (e : A5 = some ad) => R_new_block hr e); clear hr hb hC hle)
  go_ret
  exact ⟨A5, c5, rfl, by have := HL.out; have := HM.out; omega, KC.out A5 c5 HL.out _ HC.out, HAD.out, HB.out⟩
/-- What a helper sends. -/
def fragTo (x m sz : Nat) (sh : List Int) (i : Nat) : Int := dotN (fun j => ((gp x j : Nat) : Int)) (fun j => sh.getD (j * sz + i) 0) m
def fragL (x m sz : Nat) (sh : List Int) : List Int := line sz (fragTo x m sz sh)
theorem fragTo_succ (x m sz : Nat) (sh : List Int) (i : Nat) : fragTo x (m + 1) sz sh i = xorI (fragTo x m sz sh i) (gmI ((gp x m : Nat) : Int) (sh.getD (m * sz + i) 0)) := rfl
theorem gp_byt (x j : Nat) (hx : x < 256) : Byt ((gp x j : Nat) : Int) := by have := gp_lt x hx j; exact ⟨by omega, by omega⟩
theorem fragTo_byt (x m sz : Nat) (sh : List Int) (i : Nat) (hx : x < 256) : Byt (fragTo x m sz sh i) := dotN_byt (fun j => gp_byt x j hx) m
/-- Fragments on the way: of the first i places m + 1 terms, of the others m. -/
def fragMid (x m sz : Nat) (sh : List Int) (i : Nat) : List Int := line sz (fun i' => if i' < i then fragTo x (m + 1) sz sh i' else fragTo x m sz sh i')
end Go.Proofs.Ytcnfafappcbpnaa.Str
