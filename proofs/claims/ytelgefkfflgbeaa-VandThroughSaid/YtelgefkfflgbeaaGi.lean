/- Elements as whole numbers: products, sums, and what a fragment is. -/
import Derived.Test.YtelgefkfflgbeaaProg
import Derived.Below
import Derived.Deep.Draws
import Derived.Deep.AppendLies
import Derived.Maps.AppendAt
import Derived.OwnWalk
import Derived.Laws.BytesArg
import Derived.Laws.MakeOwn
import Derived.Laws.OwnMore
import Derived.Deep.OwnRows
import Derived.Tactics
import Derived.Lib.ConvBytes
import Derived.Laws.Slices
import Derived.WalkKit
import Derived.KernelRfl
import Derived.RowKit3
import Derived.Deep.LoopGhost
import Derived.Deep.QuietTactic
import Derived.BigQuiet
import Derived.WideLaws
import Derived.Deep.DeepCutAuto
import Derived.Deep.CutBlock
import Derived.Deep.RegionHeld3
import Derived.Laws.Rows
import Derived.Lib.AppendStr
import Derived.ArgAppend
import Derived.Laws.IdiomCopy
import Derived.OrdersHeld
import Derived.Laws.BitsLemmas
import Derived.RowKit
import Derived.Lib.Hide
import Derived.Test.YtelgefkfflgbeaaGf
import Derived.Test.YtelgefkfflgbeaaBits
namespace Go.Proofs.Ytelgefkfflgbeaa.Gi
open Go Go.RowKit Go.Proofs.Ytelgefkfflgbeaa.Gf Go.Proofs.Ytelgefkfflgbeaa.Bits
set_option linter.unusedVariables false
abbrev Byt (a : Int) : Prop := 0 ≤ a ∧ a < 256
def gmI (a b : Int) : Int := (gm a.toNat b.toNat : Nat)
def xorI (a b : Int) : Int := (a.toNat ^^^ b.toNat : Nat)
theorem gmI_byt {a b : Int} (ha : Byt a) : Byt (gmI a b) := by
  have := gm_lt a.toNat b.toNat (by have := ha.1; have := ha.2; omega)
  unfold gmI Byt; omega
theorem xorI_byt {a b : Int} (ha : Byt a) (hb : Byt b) : Byt (xorI a b) := by
  have : a.toNat ^^^ b.toNat < 2 ^ 8 := Nat.xor_lt_two_pow (by have := ha.1; have := ha.2; omega) (by have := hb.1; have := hb.2; omega)
  unfold xorI Byt; omega
theorem gmI_comm {a b : Int} (ha : Byt a) (hb : Byt b) : gmI a b = gmI b a := by
  unfold gmI; rw [gm_comm _ _ (by have := ha.1; have := ha.2; omega) (by have := hb.1; have := hb.2; omega)]
theorem byt_nat {a : Int} (ha : Byt a) : ∃ n : Nat, n < 256 ∧ a = n := ⟨a.toNat, by have := ha.1; have := ha.2; omega, by have := ha.1; omega⟩
theorem byt0 : Byt 0 := ⟨by decide, by decide⟩
theorem getD_byt {l : List Int} (h : ∀ x ∈ l, Byt x) (i : Nat) : Byt (l.getD i 0) := by
  rw [List.getD_eq_getElem?_getD]
  rcases Nat.lt_or_ge i l.length with hi | hi
  · rw [List.getElem?_eq_getElem hi]; exact h _ (List.getElem_mem hi)
  · rw [List.getElem?_eq_none hi]; exact byt0
theorem xor_bits {a b : Int} (ha : Byt a) (hb : Byt b) : bits .xor .u8 a b = xorI a b := by
  obtain ⟨x, hx, rfl⟩ := byt_nat ha
  obtain ⟨y, hy, rfl⟩ := byt_nat hb
  rw [xor_u8 x y hx hy]
  simp [xorI]
/-- The sum of the first j terms. -/
def dotN (f g : Nat → Int) : Nat → Int
  | 0 => 0
  | j + 1 => xorI (dotN f g j) (gmI (f j) (g j))
theorem dotN_byt {f g : Nat → Int} (hf : ∀ i, Byt (f i)) : ∀ j, Byt (dotN f g j)
  | 0 => byt0
  | j + 1 => xorI_byt (dotN_byt hf j) (gmI_byt (hf j))
theorem dotN_congr {f g f' g' : Nat → Int} : ∀ j, (∀ i, i < j → f i = f' i ∧ g i = g' i) → dotN f g j = dotN f' g' j
  | 0, _ => rfl
  | j + 1, h => by
    have := h j (by omega)
    simp only [dotN]
    rw [dotN_congr j (fun i hi => h i (by omega)), this.1, this.2]
/-- A line told by a function of places. -/
def line (c : Nat) (f : Nat → Int) : List Int := (List.range c).map f
theorem line_len (c : Nat) (f : Nat → Int) : (line c f).length = c := by simp [line]
theorem line_get (c : Nat) (f : Nat → Int) (k : Nat) (hk : k < c) : (line c f).getD k 0 = f k := by simp [line, List.getD_eq_getElem?_getD, hk]
theorem line_congr (c : Nat) (f g : Nat → Int) (h : ∀ k, k < c → f k = g k) : line c f = line c g := List.map_congr_left (fun k hk => h k (by simpa using hk))
theorem line_set (c : Nat) (f : Nat → Int) (k : Nat) (hk : k < c) (y : Int) : (line c f).set k y = line c (fun k' => if k' = k then y else f k') := by
  refine List.ext_getElem (by simp [line]) (fun j h1 h2 => ?_)
  rw [List.getElem_set]
  simp only [line, List.getElem_map, List.getElem_range]
  by_cases e : k = j
  · subst e; simp
  · rw [if_neg e, if_neg (fun h => e h.symm)]
theorem line_succ (c : Nat) (f : Nat → Int) : line (c + 1) f = line c f ++ [f c] := by simp [line, List.range_succ]
theorem line_zero (c : Nat) : line c (fun _ => 0) = List.replicate c 0 := by
  refine List.ext_getElem (by simp [line]) (fun k h3 h4 => ?_)
  simp [line]
theorem line_byt (c : Nat) (f : Nat → Int) (h : ∀ i, Byt (f i)) : ∀ x ∈ line c f, Byt x := by
  intro x hx
  obtain ⟨i, _, rfl⟩ := List.mem_map.1 hx
  exact h i
end Go.Proofs.Ytelgefkfflgbeaa.Gi
