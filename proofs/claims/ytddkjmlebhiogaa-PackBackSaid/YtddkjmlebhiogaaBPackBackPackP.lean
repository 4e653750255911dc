/- What a list of acts is, and the example. -/
import Derived.Test.YtddkjmlebhiogaaProg
import Derived.Below
import Derived.Deep.Draws
import Derived.Deep.AppendLies
import Derived.Maps.AppendAt
import Derived.OwnWalk
import Derived.Laws.BytesArg
import Derived.Laws.MakeOwn
import Derived.Laws.OwnMore
import Derived.Deep.OwnRows
import Derived.Tactics
import Derived.Lib.ConvBytes
import Derived.Laws.Slices
import Derived.WalkKit
import Derived.KernelRfl
import Derived.RowKit3
import Derived.Deep.LoopGhost
import Derived.Deep.QuietTactic
import Derived.BigQuiet
import Derived.WideLaws
import Derived.Deep.DeepCutAuto
import Derived.Deep.CutBlock
import Derived.Deep.RegionHeld3
import Derived.Laws.Rows
import Derived.Lib.AppendStr
import Derived.ArgAppend
import Derived.Laws.IdiomCopy
import Derived.OrdersHeld
import Derived.Laws.BitsLemmas
import Derived.RowKit
import Derived.Lib.Hide
import Derived.WalkSpells
import Derived.Outline
import Derived.Test.YtddkjmlebhiogaaPack2
import Derived.Test.YtddkjmlebhiogaaPPackBackx1
namespace Go.Proofs.Ytddkjmlebhiogaa.Pack
open Go Go.RowKit Go.Proofs.Ytddkjmlebhiogaa.PPackBack Go.Proofs.Ytddkjmlebhiogaa.Mem Go.Proofs.Ytddkjmlebhiogaa.Bits Go.Proofs.YtddkjmlebhiogaaW.PrintWords Go.Proofs.YtddkjmlebhiogaaW.PrintLast
set_option linter.unusedVariables false

abbrev Act := S35
abbrev kAct := k35
abbrev rdA (l : List Act) (i : Int) : Act := rd_T35 l i
/-- Acts that are not too much. -/
def Light (l : List Act) : Prop := l.length ≤ 40 ∧ ∀ j : Nat, j < l.length → (rdA l j).f3.length ≤ 4000
theorem light_loop (l : List Act) (d : Nat) : ∀ (i : Nat) (s : Int), i + d = 40 → 0 ≤ s → s ≤ 5000 * i → ∀ k, d < k →
    ∃ r, coldframelaw01_light.l0 k l s i = some r ∧ (r = true → l.length ≤ 40 ∧ s ≤ 4000 ∧ ∀ j : Nat, i ≤ j → j < l.length → (rdA l j).f3.length ≤ 4000) := by
  induction d with
  | zero =>
    intro i s hi h0 h1 k hk
    obtain ⟨k, rfl⟩ : ∃ m, k = m + 1 := ⟨k - 1, by omega⟩
    simp only [coldframelaw01_light.l0]
    rw [if_neg (show ¬ (i : Int) < 40 by omega)]
    by_cases hl : (l.length : Int) ≤ 40
    · rw [if_pos hl]
      refine ⟨decide (s ≤ 4000), by split <;> rfl, fun h => ⟨by omega, by simpa using h, fun j h1 h2 => by omega⟩⟩
    · rw [if_neg hl]
      exact ⟨false, by split <;> rfl, fun h => by cases h⟩
  | succ d ih =>
    intro i s hi h0 h1 k hk
    obtain ⟨k, rfl⟩ : ∃ m, k = m + 1 := ⟨k - 1, by omega⟩
    simp only [coldframelaw01_light.l0]
    rw [if_pos (show (i : Int) < 40 by omega), if_pos (show (0 : Int) ≤ i by omega)]
    by_cases hl : (i : Int) < (l.length : Int)
    · rw [if_pos hl]
      have hm0 : 0 ≤ mn ((rd_T35 l i).f3.length : Int) 5000 := by unfold mn; split <;> omega
      have hm1 : mn ((rd_T35 l i).f3.length : Int) 5000 ≤ 5000 := by unfold mn; split <;> omega
      have hm2 : mn ((rd_T35 l i).f3.length : Int) 5000 ≤ 4000 → (rd_T35 l i).f3.length ≤ 4000 := by unfold mn; split <;> omega
      rw [wrap64_in (s + _) (by omega) (by omega), wrap64_in ((i : Int) + 1) (by omega) (by omega)]
      obtain ⟨r, hr, hp⟩ := ih (i + 1) (s + mn ((rd_T35 l i).f3.length : Int) 5000) (by omega) (by omega) (by omega) k (by omega)
      refine ⟨r, by rw [show ((i : Int) + 1) = ((i + 1 : Nat) : Int) by omega]; exact hr, fun h => ?_⟩
      obtain ⟨p1, p2, p3⟩ := hp h
      refine ⟨p1, by omega, fun j h1 h2 => ?_⟩
      by_cases e : j = i
      · subst e; exact hm2 (by omega)
      · exact p3 j (by omega) h2
    · rw [if_neg hl]
      by_cases hl' : (l.length : Int) ≤ 40
      · rw [if_pos hl']
        exact ⟨decide (s ≤ 4000), rfl, fun h => ⟨by omega, by simpa using h, fun j h1 h2 => by omega⟩⟩
      · rw [if_neg hl']
        exact ⟨false, rfl, fun h => by cases h⟩
theorem light_any (A : Option Addr) (c : Nat) (l : List Act) (w W : World) (hB : Below w.heap.size w W) (h : Kd.C kAct w A l.length l) (hc : l.length ≤ c) :
    ∃ r : Bool, (r = true → Light l) ∧ Calls Try.prog 5 #[.slice A l.length c] W fun e w' => e = .returned (.bool r) ∧ Below W.heap.size W w' := by
  obtain ⟨r, hr, hp⟩ := light_loop l 40 0 0 (by omega) (by omega) (by omega) 41 (by omega)
  refine ⟨r, fun h => ⟨(hp h).1, fun j hj => (hp h).2.2 j (by omega) hj⟩, coldframelaw01_light.calls 41 A c l r W (Kd.C_below h hB) hc hr⟩

theorem str_own {w : World} {base n c : Nat} {A : Option Addr} {xs : List Int} (h : w.ownsRow base 5 1 (.slice A n c) n (nums .u8 xs)) : (convert 26 9 (.slice A n c)).run Try.prog w = .ok (.string (strOfNums xs)) w :=
  string_of_reads Try.underlying26 Try.underlying5 Try.underlying9 (own_reads' h)
/-- A new writer. -/
theorem wr_new (w : World) (base : Nat) (h : base ≤ w.heap.size) : Wr (w.alloc (.cells #[.slice none 0 0] 28)) base w.heap.size (.slice none 0 0) [] := ⟨Blk.new _ _ _, h, own_nil _ _ _ _⟩

set_option maxRecDepth 100000 in
theorem awake_calls (w : World) : Calls Try.prog 6 #[] w fun e w' => e = .returned (.bool true) ∧ Below w.heap.size w w' := by
  have HV := Lib.hid (wr_new w w.heap.size (Nat.le_refl _))
  have HB := Lib.hid ((Below.refl w.heap.size w).alloc (Nat.le_refl _) (.cells #[.slice none 0 0] 28))
  have hs : ((strOfNums (leB 258 2)).toList == [2, 1]) = true := by decide +kernel
  go_enter Try.func6, Try.ntmps6
  go_wp2_with (first
    | (go_at_call 12; (refine (num_any w.heap.size w.heap.size _ [] 258 2 _ HV.out (by unfold U64; decide) (by decide)).mono ?_); rintro e w1 ⟨rfl, v1, h1⟩; have H1 := Lib.hid (show WrTo _ _ _ _ _ _ (leB 258 2) from h1); clear h1)
    | (go_at_call 14; (refine (bytes_any w.heap.size w.heap.size _ _ _ H1.out.wr (by decide)).mono ?_); rintro e w2 ⟨A, c, rfl, ho, hb⟩; have hc := str_own ho; have H2 := Lib.hid (H1.out.next hb); clear ho hb))
  go_ret
  exact ⟨rfl, HB.out.trans H2.out.bel⟩
end Go.Proofs.Ytddkjmlebhiogaa.Pack
