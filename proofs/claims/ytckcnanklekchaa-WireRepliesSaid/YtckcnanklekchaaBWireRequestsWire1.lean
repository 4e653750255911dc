/- A request read: what the program's reader of requests comes to. -/
import Derived.Test.YtckcnanklekchaaProg
import Derived.Below
import Derived.Deep.Draws
import Derived.Deep.AppendLies
import Derived.Maps.AppendAt
import Derived.OwnWalk
import Derived.Laws.BytesArg
import Derived.Laws.MakeOwn
import Derived.Laws.OwnMore
import Derived.Deep.OwnRows
import Derived.Tactics
import Derived.Lib.ConvBytes
import Derived.Laws.Slices
import Derived.WalkKit
import Derived.KernelRfl
import Derived.RowKit3
import Derived.Deep.LoopGhost
import Derived.Deep.QuietTactic
import Derived.BigQuiet
import Derived.WideLaws
import Derived.Deep.DeepCutAuto
import Derived.Deep.CutBlock
import Derived.Deep.RegionHeld3
import Derived.Laws.Rows
import Derived.Lib.AppendStr
import Derived.ArgAppend
import Derived.Laws.IdiomCopy
import Derived.OrdersHeld
import Derived.Laws.BitsLemmas
import Derived.RowKit
import Derived.Lib.Hide
import Derived.WalkSpells
import Derived.Outline
import Derived.Test.YtckcnanklekchaaPack2
import Derived.Test.YtckcnanklekchaaPack4
import Derived.Test.YtckcnanklekchaaPWireRequestsx2
import Derived.Test.YtckcnanklekchaaPWireRequestsx4
namespace Go.Proofs.Ytckcnanklekchaa.Pack
open Go Go.RowKit Go.Proofs.Ytckcnanklekchaa.PWireRequests Go.Proofs.Ytckcnanklekchaa.Mem Go.Proofs.Ytckcnanklekchaa.Bits Go.Proofs.YtckcnanklekchaaW.PrintWords Go.Proofs.YtckcnanklekchaaW.PrintLast
set_option linter.unusedVariables false

theorem numR_ok (k : Nat) (xs : List Int) (hk : k ≤ 8) (h : k ≤ xs.length) : numR k xs false = (leN (xs.take k), xs.drop k, false) := by
  unfold numR
  rw [if_neg (by omega), rawR_ok (by omega) (by omega)]
  simp
theorem numR_short' (k : Nat) (xs : List Int) (t : Bool) (hk : k ≤ 8) (h : xs.length < k) : (numR k xs t).2 = ([], true) := by
  unfold numR
  rw [if_neg (by omega), rawR_bad (by omega)]
theorem numR_torn (k : Nat) (xs : List Int) (hk : k ≤ 8) : (numR k xs true).2.2 = true := by
  by_cases h : k ≤ xs.length
  · unfold numR; rw [if_neg (by omega), rawR_ok (by omega) (by omega)]
  · rw [numR_short' k xs true hk (by omega)]
/-- Torn already, or too short. -/
theorem numR_bad (k n : Nat) (xs : List Int) (t : Bool) (hk : k ≤ 8) (h : t = true ∨ xs.length < n + k) : (numR k xs t).2.2 = true ∨ (numR k xs t).2.1.length < n := by
  rcases h with rfl | h
  · exact .inl (numR_torn k xs hk)
  · by_cases hl : k ≤ xs.length
    · right
      unfold numR
      rw [if_neg (by omega), rawR_ok (by omega) (by omega)]
      simp only [List.length_drop, Int.toNat_natCast]; omega
    · left; rw [numR_short' k xs t hk (by omega)]
def p1 (b : List Int) := numR 1 b false
def p2 (b : List Int) := numR 8 (p1 b).2.1 (p1 b).2.2
def p3 (b : List Int) := s4R (p2 b).2.1 (p2 b).2.2
def p4 (b : List Int) := numR 2 (p3 b).2.1 (p3 b).2.2
theorem bad_step (k n : Nat) (r r' : Nat × List Int × Bool) (hk : k ≤ 8) (e : r' = numR k r.2.1 r.2.2) (h : r.2.2 = true ∨ r.2.1.length < n + k) : r'.2.2 = true ∨ r'.2.1.length < n := by
  rw [e]; exact numR_bad k n _ _ hk h
theorem chain_bad (b : List Int) (h : b.length < 23) : (p4 b).2.2 = true := by
  have h0 : ((0, b, false) : Nat × List Int × Bool).2.2 = true ∨ ((0, b, false) : Nat × List Int × Bool).2.1.length < 22 + 1 := .inr (by simp only; omega)
  have h1 := bad_step 1 22 _ (p1 b) (by decide) rfl h0
  have h2 := bad_step 8 14 _ (p2 b) (by decide) rfl h1
  have h3 := bad_step 4 10 _ (s1R (p2 b).2.1 (p2 b).2.2) (by decide) rfl h2
  have h4 := bad_step 2 8 _ (s2R (p2 b).2.1 (p2 b).2.2) (by decide) rfl h3
  have h5 := bad_step 2 6 _ (s3R (p2 b).2.1 (p2 b).2.2) (by decide) rfl h4
  have h6 := bad_step 4 2 _ (p3 b) (by decide) rfl h5
  have h7 := bad_step 2 0 _ (p4 b) (by decide) rfl h6
  rcases h7 with h | h
  · exact h
  · omega
/-- The numbers that a request begins with. -/
def qKind (b : List Int) : Nat := leN (b.take 1)
def qNum (b : List Int) : Nat := leN ((b.drop 1).take 8)
def qO (b : List Int) : Nat := leN ((b.drop 9).take 4)
def qS (b : List Int) : Nat := leN ((b.drop 13).take 2)
def qT (b : List Int) : Nat := leN ((b.drop 15).take 2)
def qG (b : List Int) : Nat := leN ((b.drop 17).take 4)
def qLost (b : List Int) : Nat := leN ((b.drop 21).take 2)
theorem chain_ok (b : List Int) (h : 23 ≤ b.length) : (p1 b).1 = qKind b ∧ (p2 b).1 = qNum b ∧ (s1R (p2 b).2.1 (p2 b).2.2).1 = qO b ∧ (s2R (p2 b).2.1 (p2 b).2.2).1 = qS b ∧ (s3R (p2 b).2.1 (p2 b).2.2).1 = qT b ∧ (s4R (p2 b).2.1 (p2 b).2.2).1 = qG b ∧ (p4 b).1 = qLost b ∧ (p4 b).2 = (b.drop 23, false) := by
  have e1 : p1 b = (qKind b, b.drop 1, false) := numR_ok 1 b (by decide) (by omega)
  have e2 : p2 b = (qNum b, b.drop 9, false) := by
    unfold p2; rw [e1]
    refine (numR_ok 8 _ (by decide) (by simp; omega)).trans ?_
    simp [qNum]
  have e3 : s1R (b.drop 9) false = (qO b, b.drop 13, false) := by
    refine (numR_ok 4 _ (by decide) (by simp; omega)).trans ?_
    simp [qO]
  have e4 : s2R (b.drop 9) false = (qS b, b.drop 15, false) := by
    unfold s2R; rw [e3]
    refine (numR_ok 2 _ (by decide) (by simp; omega)).trans ?_
    simp [qS]
  have e5 : s3R (b.drop 9) false = (qT b, b.drop 17, false) := by
    unfold s3R; rw [e4]
    refine (numR_ok 2 _ (by decide) (by simp; omega)).trans ?_
    simp [qT]
  have e6 : s4R (b.drop 9) false = (qG b, b.drop 21, false) := by
    unfold s4R; rw [e5]
    refine (numR_ok 4 _ (by decide) (by simp; omega)).trans ?_
    simp [qG]
  have e7 : p4 b = (qLost b, b.drop 23, false) := by
    unfold p4 p3; rw [e2, e6]
    refine (numR_ok 2 _ (by decide) (by simp; omega)).trans ?_
    simp [qLost]
  exact ⟨by rw [e1], by rw [e2], by rw [e2]; simp only [e3], by rw [e2]; simp only [e4], by rw [e2]; simp only [e5], by rw [e2]; simp only [e6], by rw [e7], by rw [e7]⟩
/-- May a request be? -/
def rightB (kind lost : Int) (data : List Int) : Bool := decide (1 ≤ kind ∧ kind ≤ 6) && (decide (kind = 2) || decide (data.length = 0)) && (decide (kind = 4) || lost == 0)
theorem name_some (k : Int) (h1 : 1 ≤ k) (h6 : k ≤ 6) : ∃ r, wire_Name.f k = some r ∧ r.toList ≠ [] ∧ coldframeref15_Name.f k = some r := by
  have : k = 1 ∨ k = 2 ∨ k = 3 ∨ k = 4 ∨ k = 5 ∨ k = 6 := by omega
  rcases this with rfl | rfl | rfl | rfl | rfl | rfl <;> refine ⟨_, rfl, by decide +kernel, by decide +kernel⟩
theorem name_none (k : Int) (h : ¬ (1 ≤ k ∧ k ≤ 6)) : wire_Name.f k = some ⟨#[]⟩ ∧ coldframeref15_Name.f k = some ⟨#[]⟩ := by
  constructor
  · unfold wire_Name.f
    rw [if_neg (by omega), if_neg (by omega), if_neg (by omega), if_neg (by omega), if_neg (by omega), if_neg (by omega)]
  · unfold coldframeref15_Name.f
    rw [bnd]
    by_cases h0 : k < 0
    · rw [if_pos h0]
    · by_cases h6 : k > 6
      · rw [if_neg h0, if_pos h6]
      · obtain rfl : k = 0 := by omega
        rfl
theorem name_eq (k : Int) : ∃ r, wire_Name.f k = some r ∧ coldframeref15_Name.f k = some r := by
  by_cases h : 1 ≤ k ∧ k ≤ 6
  · obtain ⟨r, h1, _, h2⟩ := name_some k h.1 h.2
    exact ⟨r, h1, h2⟩
  · exact ⟨_, (name_none k h).1, (name_none k h).2⟩
theorem right_f (n k o s t g l : Int) (data : List Int) : wire_Request_Right.f n k o s t g l data = some (rightB k l data) := by
  unfold wire_Request_Right.f rightB
  by_cases h : 1 ≤ k ∧ k ≤ 6
  · obtain ⟨r, h1, h2, _⟩ := name_some k h.1 h.2
    rw [h1, bnd, if_neg h2, decide_eq_true h]
    by_cases h2 : k = 2 <;> by_cases h4 : k = 4 <;> by_cases hd : data.length = 0 <;> simp [h2, h4, hd] <;> first | omega | (split <;> rfl) | rfl
  · rw [(name_none k h).1, bnd, if_pos (by decide +kernel), decide_eq_false h]
    rfl
theorem refright_f (K : Nat) (n k o s t g l : Int) (data : List Int) : coldframeref15_Right.f (K + 1) n k o s t g l data = some (rightB k l data) := by
  unfold coldframeref15_Right.f rightB
  by_cases h : 1 ≤ k ∧ k ≤ 6
  · rw [if_neg (by omega), show decide (k > 6) = false by simp; omega, decide_eq_true h]
    simp only [coldframeref15_Right.j0]
    rw [if_neg (by decide)]
    by_cases h2 : k = 2 <;> by_cases h4 : k = 4 <;> by_cases hd : data.length = 0 <;> simp [h2, h4, hd] <;> first | omega | (split <;> rfl) | rfl
  · rw [decide_eq_false h]
    by_cases h1 : k < 1
    · rw [if_pos h1]; simp [coldframeref15_Right.j0]
    · rw [if_neg h1, show decide (k > 6) = true by simp; omega]; simp [coldframeref15_Right.j0]
end Go.Proofs.Ytckcnanklekchaa.Pack
