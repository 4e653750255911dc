/- The statements' own small functions over matrices: which rows may be one, and the chapter's example. -/
import Derived.Test.YtdhhkkhimcpaoaaProg
import Derived.Below
import Derived.Deep.Draws
import Derived.Deep.AppendLies
import Derived.Maps.AppendAt
import Derived.OwnWalk
import Derived.Laws.BytesArg
import Derived.Laws.MakeOwn
import Derived.Laws.OwnMore
import Derived.Deep.OwnRows
import Derived.Tactics
import Derived.Lib.ConvBytes
import Derived.Laws.Slices
import Derived.WalkKit
import Derived.KernelRfl
import Derived.RowKit3
import Derived.Deep.LoopGhost
import Derived.Deep.QuietTactic
import Derived.BigQuiet
import Derived.WideLaws
import Derived.Deep.DeepCutAuto
import Derived.Deep.CutBlock
import Derived.Deep.RegionHeld3
import Derived.Laws.Rows
import Derived.Lib.AppendStr
import Derived.ArgAppend
import Derived.Laws.IdiomCopy
import Derived.OrdersHeld
import Derived.Laws.BitsLemmas
import Derived.RowKit
import Derived.Lib.Hide
import Derived.WalkSpells
import Derived.Outline
import Derived.Test.YtdhhkkhimcpaoaaMat6
import Derived.Test.YtdhhkkhimcpaoaaMat8
import Derived.Test.YtdhhkkhimcpaoaaPRightx1
namespace Go.Proofs.Ytdhhkkhimcpaoaa.Mat
open Go Go.RowKit Go.Proofs.Ytdhhkkhimcpaoaa.Mem Go.Proofs.Ytdhhkkhimcpaoaa.Bits Go.Proofs.YtdhhkkhimcpaoaaW.PrintWords
set_option linter.unusedVariables false

/-- May rows be a matrix? -/
structure RightP (ls : List (List Int)) : Prop where
  r0 : 1 ≤ ls.length
  r1 : ls.length ≤ 64
  c0 : 1 ≤ (ls.getD 0 []).length
  c1 : (ls.getD 0 []).length ≤ 64
  even : ∀ l ∈ ls, l.length = (ls.getD 0 []).length
instance (ls : List (List Int)) : Decidable (RightP ls) :=
  if h : 1 ≤ ls.length ∧ ls.length ≤ 64 ∧ 1 ≤ (ls.getD 0 []).length ∧ (ls.getD 0 []).length ≤ 64 ∧ ∀ l ∈ ls, l.length = (ls.getD 0 []).length then isTrue ⟨h.1, h.2.1, h.2.2.1, h.2.2.2.1, h.2.2.2.2⟩
  else isFalse (fun g => h ⟨g.r0, g.r1, g.c0, g.c1, g.even⟩)

theorem right_loop (d : Nat) : ∀ (k i : Nat) (ls : List (List Int)), 1 ≤ ls.length → ls.length ≤ 64 → i + d = ls.length → d < k →
    PRight.coldframeref03_Right.l0 k ls i = some (decide (∀ l ∈ ls.drop i, l.length = (ls.getD 0 []).length)) := by
  induction d with
  | zero =>
    intro k i ls h0 h1 hd hk
    obtain ⟨k, rfl⟩ : ∃ m, k = m + 1 := ⟨k - 1, by omega⟩
    simp only [PRight.coldframeref03_Right.l0]
    rw [if_neg (by omega), List.drop_of_length_le (by omega)]; simp
  | succ d ih =>
    intro k i ls h0 h1 hd hk
    obtain ⟨k, rfl⟩ : ∃ m, k = m + 1 := ⟨k - 1, by omega⟩
    have hi : i < ls.length := by omega
    simp only [PRight.coldframeref03_Right.l0]
    have e1 : PRight.rd_L1 ls (i : Int) = ls[i] := by simp [PRight.rd_L1, hi]
    have e2 : PRight.rd_L1 ls 0 = ls.getD 0 [] := by simp [PRight.rd_L1]
    rw [if_pos (by omega), if_pos (by omega), if_pos (by omega), e1, e2, show wrap64 ((i : Int) + 1) = ((i + 1 : Nat) : Int) by rw [wrap64_in _ (by omega) (by omega)]; omega, List.drop_eq_getElem_cons hi]
    by_cases hc : ls[i].length = (ls.getD 0 []).length
    · rw [if_pos (by rw [hc]), ih k (i + 1) ls h0 h1 (by omega) (by omega)]
      congr 1
      rw [decide_eq_decide, List.forall_mem_cons]
      exact ⟨fun h => ⟨hc, h⟩, fun h => h.2⟩
    · rw [if_neg (by omega)]
      congr 1
      symm
      rw [decide_eq_false_iff_not, List.forall_mem_cons]
      exact fun h => hc h.1
theorem right_f (k : Nat) (ls : List (List Int)) (hk : 100 ≤ k) : PRight.coldframeref03_Right.f k ls = some (decide (RightP ls)) := by
  obtain ⟨k, rfl⟩ : ∃ m, k = m + 1 := ⟨k - 1, by omega⟩
  have no : ¬ RightP ls → PRight.coldframeref03_Right.j0 (k + 1) ls true = some (decide (RightP ls)) := by
    intro h
    simp only [PRight.coldframeref03_Right.j0]
    rw [if_pos trivial, decide_eq_false h]
  have e2 : PRight.rd_L1 ls 0 = ls.getD 0 [] := by simp [PRight.rd_L1]
  unfold PRight.coldframeref03_Right.f
  rw [e2]
  by_cases h1 : (ls.length : Int) < 1
  · rw [if_pos h1]; exact no (fun h => by have := h.r0; omega)
  rw [if_neg h1]
  by_cases h2 : (ls.length : Int) > 64
  · rw [if_pos h2]; exact no (fun h => by have := h.r1; omega)
  rw [if_neg h2, if_pos (by omega)]
  by_cases h3 : ((ls.getD 0 []).length : Int) < 1
  · rw [if_pos h3]; exact no (fun h => by have := h.c0; omega)
  rw [if_neg h3]
  by_cases h4 : ((ls.getD 0 []).length : Int) > 64
  · rw [show decide (((ls.getD 0 []).length : Int) > 64) = true by simpa using h4]; exact no (fun h => by have := h.c1; omega)
  rw [show decide (((ls.getD 0 []).length : Int) > 64) = false by simpa using h4]
  simp only [PRight.coldframeref03_Right.j0]
  rw [if_neg (by decide)]
  have := right_loop ls.length k 0 ls (by omega) (by omega) (by omega) (by omega)
  rw [List.drop_zero] at this
  rw [show (0 : Int) = ((0 : Nat) : Int) from rfl, this]
  congr 1
  rw [decide_eq_decide]
  exact ⟨fun h => ⟨by omega, by omega, by omega, by omega, h⟩, fun h => h.even⟩

structure SmallP (ls : List (List Int)) : Prop extends RightP ls where
  r9 : ls.length ≤ 9
  c9 : (ls.getD 0 []).length ≤ 9
/-- 'small': may rows be a matrix of few elements? -/
def SMALL (F : Nat) : Prop := ∀ (A0 : Option Addr) (c0 : Nat) (ls : List (List Int)) (w : World), RowsC w A0 ls → ls.length ≤ c0 →
    (SmallP ls → Calls Try.prog F #[.slice A0 ls.length c0] w fun e w' => e = .returned (.bool true) ∧ ∃ n, w' = w.drewN n) ∧
    (¬ SmallP ls → Calls Try.prog F #[.slice A0 ls.length c0] w fun e w' => e = .returned (.bool false) ∧ ∃ n, w' = w.drewN n)

set_option maxRecDepth 100000 in
theorem small_any : SMALL 7 := by
  intro A0 c0 ls w hr hc
  have HR := Lib.hid hr
  have HC := Lib.hid hc
  have hf := right_f 100 ls (Nat.le_refl _)
  constructor
  · intro h
    have hb : decide (RightP ls) = true := decide_eq_true h.toRightP
    rw [hb] at hf
    have HF := Lib.hid hf
    obtain ⟨ad, A1, k0, rfl, hcell, _, _⟩ := hr.get0 h.r0
    have r0 := h.r0
    have r9 := h.r9
    have c9 := h.c9
    obtain ⟨n, hn⟩ : ∃ n, n = (ls.getD 0 []).length := ⟨_, rfl⟩
    rw [← hn] at c9 hcell
    have hp : (0 : Int) < (ls.length : Int) := by omega
    have hd : decide ((n : Int) ≤ 9) = true := by simp; omega
    clear hr hc hf h hb hn
    go_enter Try.func7, Try.ntmps7
    go_wp2_with (go_at_call 13; (refine (PRight.coldframeref03_Right.calls 100 _ _ ls true _ HR.out HC.out HF.out).mono ?_); rintro e w' ⟨rfl, n, rfl⟩)
    go_ret
    exact ⟨by simp, _, rfl⟩
  · intro h
    by_cases hR : RightP ls
    · have hb : decide (RightP ls) = true := decide_eq_true hR
      rw [hb] at hf
      have HF := Lib.hid hf
      obtain ⟨ad, A1, k0, rfl, hcell, _, _⟩ := hr.get0 hR.r0
      have r0 := hR.r0
      have hcs : 9 < ls.length ∨ (ls.length ≤ 9 ∧ 9 < (ls.getD 0 []).length) := by
        by_cases h9 : ls.length ≤ 9
        · by_cases hc9 : (ls.getD 0 []).length ≤ 9
          · exact absurd ⟨hR, h9, hc9⟩ h
          · exact .inr ⟨h9, by omega⟩
        · exact .inl (by omega)
      obtain ⟨n, hn⟩ : ∃ n, n = (ls.getD 0 []).length := ⟨_, rfl⟩
      rw [← hn] at hcell hcs
      have hp : (0 : Int) < (ls.length : Int) := by omega
      clear hr hc hf h hb hn hR
      rcases hcs with h1 | ⟨h1, h2⟩
      · go_enter Try.func7, Try.ntmps7
        go_wp2_with (go_at_call 13; (refine (PRight.coldframeref03_Right.calls 100 _ _ ls true _ HR.out HC.out HF.out).mono ?_); rintro e w' ⟨rfl, n, rfl⟩)
        go_ret
        exact ⟨rfl, _, rfl⟩
      · have hd : decide ((n : Int) ≤ 9) = false := by simp; omega
        go_enter Try.func7, Try.ntmps7
        go_wp2_with (go_at_call 13; (refine (PRight.coldframeref03_Right.calls 100 _ _ ls true _ HR.out HC.out HF.out).mono ?_); rintro e w' ⟨rfl, n, rfl⟩)
        go_ret
        exact ⟨by simp, _, rfl⟩
    · have hb : decide (RightP ls) = false := decide_eq_false hR
      rw [hb] at hf
      have HF := Lib.hid hf
      clear hr hc hf h hb hR
      go_enter Try.func7, Try.ntmps7
      go_wp2_with (go_at_call 13; (refine (PRight.coldframeref03_Right.calls 100 _ _ ls false _ HR.out HC.out HF.out).mono ?_); rintro e w' ⟨rfl, n, rfl⟩)
      go_ret
      exact ⟨rfl, _, rfl⟩

/-- The chapter's example. -/
def AWAKE (F : Nat) : Prop := ∀ w : World, Calls Try.prog F #[] w fun e w' => e = .returned (.bool true) ∧ Below w.heap.size w w'
set_option maxRecDepth 100000 in
theorem awake_any : AWAKE 8 := by
  intro w
  have h1 : ReadsInt ((w.alloc (.cells #[.int .u8 1, .int .u8 2] 5)).alloc (.cells #[.int .u8 3, .int .u8 4] 5)) .u8 (some ⟨w.heap.size, 0, none⟩) 2 [1, 2] :=
    (own_reads' (own_lit w 0 5 .u8 [1, 2] (by omega) (by simp))).below ((Below.refl _ _).alloc (Nat.le_refl _) _)
  have h2 : ReadsInt ((w.alloc (.cells #[.int .u8 1, .int .u8 2] 5)).alloc (.cells #[.int .u8 3, .int .u8 4] 5)) .u8 (some ⟨w.heap.size + 1, 0, none⟩) 2 [3, 4] := by
    have := own_reads' (own_lit (w.alloc (.cells #[.int .u8 1, .int .u8 2] 5)) 0 5 .u8 [3, 4] (by omega) (by simp))
    rw [show (w.alloc (.cells #[.int .u8 1, .int .u8 2] 5)).heap.size = w.heap.size + 1 by simp] at this
    exact this
  have R1 := Lib.hid h1
  have R2 := Lib.hid h2
  have hd : dotTo [1, 2] [3, 4] 2 = 11 := by decide +kernel
  have hc := fun W a1 a2 c1 c2 h1 h2 => dot_le a1 a2 c1 c2 2 2 [1, 2] [3, 4] W h1 h2 (by intro x hx; simp at hx; omega) (by intro x hx; simp at hx; omega) (by omega) (Nat.le_refl _)
  simp only [hd] at hc
  have HC := Lib.hid hc
  clear h1 h2 hd hc
  go_enter Try.func8, Try.ntmps8
  go_wp2_with (go_at_call 25; ((with_reducible refine (HC.out _ _ _ _ _ R1.out R2.out).mono ?_); rintro e w' ⟨rfl, n, rfl⟩))
  go_ret
  refine ⟨rfl, pw_below_drewN (((Below.refl _ _).alloc (Nat.le_refl _) _).alloc (by simp) _) n⟩
end Go.Proofs.Ytdhhkkhimcpaoaa.Mat
