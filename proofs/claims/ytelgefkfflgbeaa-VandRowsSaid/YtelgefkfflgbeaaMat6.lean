/- What gf.Add, Dot and Same come to. -/
import Derived.Test.YtelgefkfflgbeaaProg
import Derived.Below
import Derived.Deep.Draws
import Derived.Deep.AppendLies
import Derived.Maps.AppendAt
import Derived.OwnWalk
import Derived.Laws.BytesArg
import Derived.Laws.MakeOwn
import Derived.Laws.OwnMore
import Derived.Deep.OwnRows
import Derived.Tactics
import Derived.Lib.ConvBytes
import Derived.Laws.Slices
import Derived.WalkKit
import Derived.KernelRfl
import Derived.RowKit3
import Derived.Deep.LoopGhost
import Derived.Deep.QuietTactic
import Derived.BigQuiet
import Derived.WideLaws
import Derived.Deep.DeepCutAuto
import Derived.Deep.CutBlock
import Derived.Deep.RegionHeld3
import Derived.Laws.Rows
import Derived.Lib.AppendStr
import Derived.ArgAppend
import Derived.Laws.IdiomCopy
import Derived.OrdersHeld
import Derived.Laws.BitsLemmas
import Derived.RowKit
import Derived.Lib.Hide
import Derived.WalkSpells
import Derived.StillTailTactics
import Derived.Deep.RegionHeld3
import Derived.Outline
import Derived.Test.YtelgefkfflgbeaaMat5
import Derived.Test.YtelgefkfflgbeaaGfW
namespace Go.Proofs.Ytelgefkfflgbeaa.Mat
open Go Go.RowKit Go.Proofs.Ytelgefkfflgbeaa.Mem Go.Proofs.Ytelgefkfflgbeaa.Bits Go.Proofs.Ytelgefkfflgbeaa.Gf Go.Proofs.YtelgefkfflgbeaaW.PrintWords
set_option linter.unusedVariables false

def gmI (a b : Int) : Int := (gm a.toNat b.toNat : Nat)
def xorI (a b : Int) : Int := (a.toNat ^^^ b.toNat : Nat)
theorem gmI_range (a b : Int) (ha : a < 256) : 0 ≤ gmI a b ∧ gmI a b < 256 := by
  have := gm_lt a.toNat b.toNat (by omega)
  unfold gmI; omega
theorem xorI_range (a b : Int) (ha : a < 256) (hb : b < 256) : 0 ≤ xorI a b ∧ xorI a b < 256 := by
  have : a.toNat ^^^ b.toNat < 2 ^ 8 := Nat.xor_lt_two_pow (by omega) (by omega)
  unfold xorI; omega
theorem mul_calls (a b : Int) (w : World) (ha : 0 ≤ a ∧ a < 256) (hb : 0 ≤ b ∧ b < 256) :
    Calls Try.prog 27 #[.int .u8 a, .int .u8 b] w fun e w' => e = .returned (.int .u8 (gmI a b)) ∧ ∃ n, w' = w.drewN n := by
  obtain ⟨a, rfl⟩ := Int.eq_ofNat_of_zero_le ha.1
  obtain ⟨b, rfl⟩ := Int.eq_ofNat_of_zero_le hb.1
  refine (mul_walk a b w (by omega) (by omega)).mono ?_
  rintro e w' ⟨rfl, n, rfl⟩
  exact ⟨by simp [gmI], n, rfl⟩
set_option maxRecDepth 100000 in
theorem add_calls (a b : Int) (w : World) (ha : 0 ≤ a ∧ a < 256) (hb : 0 ≤ b ∧ b < 256) :
    Calls Try.prog 26 #[.int .u8 a, .int .u8 b] w fun e w' => e = .returned (.int .u8 (xorI a b)) ∧ ∃ n, w' = w.drewN n := by
  obtain ⟨a, rfl⟩ := Int.eq_ofNat_of_zero_le ha.1
  obtain ⟨b, rfl⟩ := Int.eq_ofNat_of_zero_le hb.1
  have hx := xor_u8 a b (by omega) (by omega)
  go_enter Try.func26, Try.ntmps26
  go_wp2
  go_ret
  exact ⟨by simp [xorI], 0, rfl⟩

/-- The sum of products of n elements. -/
def dotTo (xs ys : List Int) : Nat → Int
  | 0 => 0
  | n + 1 => xorI (dotTo xs ys n) (gmI (xs.getD n 0) (ys.getD n 0))
theorem dotTo_range (xs ys : List Int) (hx : Bytes xs) (n : Nat) : 0 ≤ dotTo xs ys n ∧ dotTo xs ys n < 256 := by
  induction n with
  | zero => simp [dotTo]
  | succ n ih => exact xorI_range _ _ ih.2 (gmI_range _ _ (hx.getD n).2).2

theorem reads_at {w : World} {a : Addr} {n : Nat} {xs : List Int} (h : ReadsInt w .u8 (some a) n xs) (i : Nat) (hi : i < n) : w.cell? (a.add i) = some (.int .u8 (xs.getD i 0)) := by
  obtain ⟨ad, e, hc⟩ := h.at_ (i : Int) (by omega) (by omega)
  cases e
  simpa [rd] using hc

set_option maxRecDepth 100000 in
theorem dot_le (a1 a2 : Addr) (c1 c2 n m0 : Nat) (xs ys : List Int) (w : World) (h1 : ReadsInt w .u8 (some a1) n xs) (h2 : ReadsInt w .u8 (some a2) m0 ys) (hx : Bytes xs) (hy : Bytes ys) (hn : n ≤ 4096) (hm : n ≤ m0) :
    Calls Try.prog 38 #[.slice (some a1) n c1, .slice (some a2) m0 c2] w fun e w' => e = .returned (.int .u8 (dotTo xs ys n)) ∧ ∃ n, w' = w.drewN n := by
  have H1 := Lib.hid h1
  have H2 := Lib.hid h2
  clear h1 h2
  have HX := Lib.hid hx
  have HY := Lib.hid hy
  clear hx hy
  go_enter Try.func38, Try.ntmps38
  go_wp2
  repeat (go_quiet (fail); try go_wp2)
  go_loopw [5, 6, 12] (fun x _ i wr => ∃ (k : Nat), k ≤ n ∧ i = .int .i64 k ∧ x = .int .u8 (dotTo xs ys k) ∧ Hid (∃ m, wr = w.drewN m)) (fun _ _ i _ => n - (intOf i).toNat)
  case atStart => exact ⟨0, by omega, rfl, rfl, Lib.hid ⟨0, rfl⟩⟩
  case round =>
    obtain ⟨k, hk, rfl, rfl, HW⟩ := hrel
    obtain ⟨m, hwm⟩ := HW.out
    subst hwm
    by_cases hlt : k < n
    · have c1 := reads_at H1.out k (by omega)
      have c2 := reads_at H2.out k (by omega)
      have HD := Lib.hid (show dotTo xs ys (k + 1) = xorI (dotTo xs ys k) (gmI (xs.getD k 0) (ys.getD k 0)) from rfl)
      have hr := Lib.hid (dotTo_range xs ys HX.out k)
      have b1 := Lib.hid (HX.out.getD k)
      have b2 := Lib.hid (HY.out.getD k)
      obtain ⟨z, hz⟩ : ∃ z, z = dotTo xs ys (k + 1) := ⟨_, rfl⟩
      rw [← hz] at HD
      obtain ⟨s, hs⟩ : ∃ s, s = dotTo xs ys k := ⟨_, rfl⟩
      rw [← hs] at HD hr ⊢
      obtain ⟨x, hxx⟩ : ∃ x, x = xs.getD k 0 := ⟨_, rfl⟩
      obtain ⟨y, hyy⟩ : ∃ y, y = ys.getD k 0 := ⟨_, rfl⟩
      rw [← hxx] at c1 HD b1
      rw [← hyy] at c2 HD b2
      have HZ := Lib.hid hz
      clear hz hs hxx hyy
      have p0 : (0 : Int) ≤ (k : Int) := by omega
      have p1 : (k : Int) < (n : Int) := by omega
      have p2 : (k : Int) < (m0 : Int) := by omega
      have b3 := Lib.hid (gmI_range x y b1.out.2)
      go_wp2
      go_quiet (first
        | (go_at_call 27; (with_reducible refine (mul_calls _ _ _ b1.out b2.out).mono ?_); rintro e w' ⟨rfl, ⟨nd, rfl⟩⟩; (first | exact ⟨rfl, _, World.drewN_drewN _ _ _⟩ | exact ⟨rfl, _, Eq.trans (World.drewN_drewN _ _ _) (congrArg (World.drewN _) (Nat.add_assoc _ _ _))⟩ | exact ⟨rfl, _, rfl⟩))
        | (go_at_call 26; (with_reducible refine (add_calls _ _ _ hr.out b3.out).mono ?_); rintro e w' ⟨rfl, ⟨nd, rfl⟩⟩; (first | exact ⟨rfl, _, World.drewN_drewN _ _ _⟩ | exact ⟨rfl, _, Eq.trans (World.drewN_drewN _ _ _) (congrArg (World.drewN _) (Nat.add_assoc _ _ _))⟩ | exact ⟨rfl, _, rfl⟩)))
      go_wp2
      go_roundw
      case rel => exact ⟨k + 1, by omega, by go_num, by rw [← HZ.out, HD.out], Lib.hid ⟨_, rfl⟩⟩
      case measure => simp [intOf]; omega
    · obtain rfl : k = n := by omega
      go_wp2
      go_ret
      exact ⟨rfl, m, rfl⟩

set_option maxRecDepth 100000 in
theorem dot_gt (a1 a2 : Addr) (c1 c2 n m0 : Nat) (xs ys : List Int) (w : World) (h1 : ReadsInt w .u8 (some a1) m0 xs) (h2 : ReadsInt w .u8 (some a2) n ys) (hx : Bytes xs) (hy : Bytes ys) (hn : n ≤ 4096) (hm : n < m0) :
    Calls Try.prog 38 #[.slice (some a1) m0 c1, .slice (some a2) n c2] w fun e w' => e = .returned (.int .u8 (dotTo xs ys n)) ∧ ∃ n, w' = w.drewN n := by
  have H1 := Lib.hid h1
  have H2 := Lib.hid h2
  clear h1 h2
  have HX := Lib.hid hx
  have HY := Lib.hid hy
  clear hx hy
  go_enter Try.func38, Try.ntmps38
  go_wp2
  repeat (go_quiet (fail); try go_wp2)
  go_loopw [5, 6, 12] (fun x _ i wr => ∃ (k : Nat), k ≤ n ∧ i = .int .i64 k ∧ x = .int .u8 (dotTo xs ys k) ∧ Hid (∃ m, wr = w.drewN m)) (fun _ _ i _ => n - (intOf i).toNat)
  case atStart => exact ⟨0, by omega, rfl, rfl, Lib.hid ⟨0, rfl⟩⟩
  case round =>
    obtain ⟨k, hk, rfl, rfl, HW⟩ := hrel
    obtain ⟨m, hwm⟩ := HW.out
    subst hwm
    by_cases hlt : k < n
    · have c1 := reads_at H1.out k (by omega)
      have c2 := reads_at H2.out k (by omega)
      have HD := Lib.hid (show dotTo xs ys (k + 1) = xorI (dotTo xs ys k) (gmI (xs.getD k 0) (ys.getD k 0)) from rfl)
      have hr := Lib.hid (dotTo_range xs ys HX.out k)
      have b1 := Lib.hid (HX.out.getD k)
      have b2 := Lib.hid (HY.out.getD k)
      obtain ⟨z, hz⟩ : ∃ z, z = dotTo xs ys (k + 1) := ⟨_, rfl⟩
      rw [← hz] at HD
      obtain ⟨s, hs⟩ : ∃ s, s = dotTo xs ys k := ⟨_, rfl⟩
      rw [← hs] at HD hr ⊢
      obtain ⟨x, hxx⟩ : ∃ x, x = xs.getD k 0 := ⟨_, rfl⟩
      obtain ⟨y, hyy⟩ : ∃ y, y = ys.getD k 0 := ⟨_, rfl⟩
      rw [← hxx] at c1 HD b1
      rw [← hyy] at c2 HD b2
      have HZ := Lib.hid hz
      clear hz hs hxx hyy
      have p0 : (0 : Int) ≤ (k : Int) := by omega
      have p1 : (k : Int) < (m0 : Int) := by omega
      have p2 : (k : Int) < (n : Int) := by omega
      have b3 := Lib.hid (gmI_range x y b1.out.2)
      go_wp2
      go_quiet (first
        | (go_at_call 27; (with_reducible refine (mul_calls _ _ _ b1.out b2.out).mono ?_); rintro e w' ⟨rfl, ⟨nd, rfl⟩⟩; (first | exact ⟨rfl, _, World.drewN_drewN _ _ _⟩ | exact ⟨rfl, _, Eq.trans (World.drewN_drewN _ _ _) (congrArg (World.drewN _) (Nat.add_assoc _ _ _))⟩ | exact ⟨rfl, _, rfl⟩))
        | (go_at_call 26; (with_reducible refine (add_calls _ _ _ hr.out b3.out).mono ?_); rintro e w' ⟨rfl, ⟨nd, rfl⟩⟩; (first | exact ⟨rfl, _, World.drewN_drewN _ _ _⟩ | exact ⟨rfl, _, Eq.trans (World.drewN_drewN _ _ _) (congrArg (World.drewN _) (Nat.add_assoc _ _ _))⟩ | exact ⟨rfl, _, rfl⟩)))
      go_wp2
      go_roundw
      case rel => exact ⟨k + 1, by omega, by go_num, by rw [← HZ.out, HD.out], Lib.hid ⟨_, rfl⟩⟩
      case measure => simp [intOf]; omega
    · obtain rfl : k = n := by omega
      go_wp2
      go_ret
      exact ⟨rfl, m, rfl⟩

theorem C_of_ints {w : World} {A : Option Addr} {n : Nat} {xs : List Int} (h : ReadsInt w .u8 A n xs) : (Kd.int .u8).C w A n xs := Kd.C_of_reads (enc := Value.int .u8) (d := (0 : Int)) (h1 := fun _ => rfl) h

set_option maxRecDepth 100000 in
theorem same_nils (w : World) :
    Calls Try.prog 23 #[.pointer none, .pointer none] w fun e w' => e = .returned (.bool true) ∧ ∃ n, w' = w.drewN n := by
  have kn : ∀ W : World, (binOp .eql 35 (.pointer none) (.pointer none)).run Try.prog W = .ok (.bool true) W := fun _ => by kernel_rfl
  go_enter Try.func23, Try.ntmps23
  go_wp2
  go_ret
  exact ⟨rfl, 0, rfl⟩
theorem nil_eql (a : Addr) (W : World) : (binOp .eql 35 (.pointer none) (.pointer (some a))).run Try.prog W = .ok (.bool false) W := by
  have h : ∀ d : Nat, (Op.equalIn (d + 1) 35 (.pointer none) (.pointer (some a))).run Try.prog W = .ok false W := fun d => by
    simp [Op.equalIn, run_underlying Try.underlying35]
  simp only [binOp]
  simp [Op.equal, Op.maxDepth, h 9999]
set_option maxRecDepth 100000 in
theorem same_nil_l (a : Addr) (w : World) :
    Calls Try.prog 23 #[.pointer none, .pointer (some a)] w fun e w' => e = .returned (.bool false) ∧ ∃ n, w' = w.drewN n := by
  have kn := nil_eql a
  go_enter Try.func23, Try.ntmps23
  go_wp2
  go_ret
  exact ⟨rfl, 0, rfl⟩
set_option maxRecDepth 100000 in
theorem same_nil_r (a : Addr) (w : World) :
    Calls Try.prog 23 #[.pointer (some a), .pointer none] w fun e w' => e = .returned (.bool false) ∧ ∃ n, w' = w.drewN n := by
  go_enter Try.func23, Try.ntmps23
  go_wp2
  go_ret
  exact ⟨rfl, 0, rfl⟩
theorem bool_is (p q : Prop) [Decidable p] [Decidable q] (h : p ↔ q) : Ending.returned (.bool (decide p)) = .returned (.bool (decide q)) := by rw [decide_eq_decide.mpr h]
/-- Are two matrices alike? -/
def AlikeB (r c : Nat) (xs : List Int) (r' c' : Nat) (ys : List Int) : Bool := decide (r = r' ∧ c = c' ∧ xs = ys)

set_option maxRecDepth 100000 in
theorem same_any (v u : Value) (r c r' c' : Nat) (xs ys : List Int) (w : World) (h : IsMat w v r c xs) (h' : IsMat w u r' c' ys) :
    Calls Try.prog 23 #[v, u] w fun e w' => e = .returned (.bool (AlikeB r c xs r' c' ys)) ∧ ∃ n, w' = w.drewN n := by
  obtain ⟨b, s, cap, rfl, h⟩ := h
  obtain ⟨b', s', cap', rfl, h'⟩ := h'
  obtain ⟨m0, m1, m2⟩ := h.cells
  obtain ⟨n0, n1, n2⟩ := h'.cells
  by_cases e1 : r = r'
  · by_cases e2 : c = c'
    · subst e1; subst e2
      have hA : AlikeB r c xs r c ys = decide (xs = ys) := by unfold AlikeB; simp
      rw [hA]
      obtain ⟨z, hz⟩ : ∃ z, z = decide (xs = ys) := ⟨_, rfl⟩
      rw [← hz]
      have HZ := Lib.hid hz
      have hR1 := h.reads
      have hR2 := h'.reads
      have hrc := h.rc
      rw [h.len] at hR1
      rw [h'.len] at hR2
      obtain ⟨q, hq⟩ : ∃ q, q = r * c := ⟨_, rfl⟩
      rw [← hq] at m2 n2 hR1 hR2 hrc
      have HR1 := Lib.hid hR1
      have HR2 := Lib.hid hR2
      clear h h' hz hA hq hR1 hR2
      go_enter Try.func23, Try.ntmps23
      go_wp2
      go_quiet ((go_at_call 40; (refine (equal_walk _ _ _ _ q xs ys _ (HR1.out.drewN _) (HR2.out.drewN _) (by omega)).mono ?_); rintro e w' ⟨rfl, ⟨nd, rfl⟩⟩; rw [← HZ.out]; (first | exact ⟨rfl, _, World.drewN_drewN _ _ _⟩ | exact ⟨rfl, _, Eq.trans (World.drewN_drewN _ _ _) (congrArg (World.drewN _) (Nat.add_assoc _ _ _))⟩ | exact ⟨rfl, _, rfl⟩)))
      go_wp2
      go_ret
      exact ⟨rfl, _, rfl⟩
    · have hA : AlikeB r c xs r' c' ys = false := by unfold AlikeB; simp [e2]
      rw [hA]
      subst e1
      have hc2 : ((c : Int) == (c' : Int)) = false := by simp; omega
      clear h h' e2 hA
      go_enter Try.func23, Try.ntmps23
      go_wp2
      go_quiet (fail)
      go_wp2
      go_ret
      exact ⟨rfl, _, rfl⟩
  · have hA : AlikeB r c xs r' c' ys = false := by unfold AlikeB; simp [e1]
    rw [hA]
    have hc2 : ((r : Int) == (r' : Int)) = false := by simp; omega
    clear h h' e1 hA
    go_enter Try.func23, Try.ntmps23
    go_wp2
    go_quiet (fail)
    go_wp2
    go_ret
    exact ⟨rfl, _, rfl⟩
end Go.Proofs.Ytelgefkfflgbeaa.Mat
