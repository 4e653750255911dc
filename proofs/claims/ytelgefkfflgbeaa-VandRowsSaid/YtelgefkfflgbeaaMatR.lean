/- Rows that are a matrix, and what Of comes to of them (for seats without the functions of law03). -/
import Derived.Test.YtelgefkfflgbeaaProg
import Derived.Below
import Derived.Deep.Draws
import Derived.Deep.AppendLies
import Derived.Maps.AppendAt
import Derived.OwnWalk
import Derived.Laws.BytesArg
import Derived.Laws.MakeOwn
import Derived.Laws.OwnMore
import Derived.Deep.OwnRows
import Derived.Tactics
import Derived.Lib.ConvBytes
import Derived.Laws.Slices
import Derived.WalkKit
import Derived.KernelRfl
import Derived.RowKit3
import Derived.Deep.LoopGhost
import Derived.Deep.QuietTactic
import Derived.BigQuiet
import Derived.WideLaws
import Derived.Deep.DeepCutAuto
import Derived.Deep.CutBlock
import Derived.Deep.RegionHeld3
import Derived.Laws.Rows
import Derived.Lib.AppendStr
import Derived.ArgAppend
import Derived.Laws.IdiomCopy
import Derived.OrdersHeld
import Derived.Laws.BitsLemmas
import Derived.RowKit
import Derived.Lib.Hide
import Derived.WalkSpells
import Derived.Outline
import Derived.Test.YtelgefkfflgbeaaMat6
import Derived.Test.YtelgefkfflgbeaaMat8
namespace Go.Proofs.Ytelgefkfflgbeaa.Mat
open Go Go.RowKit Go.Proofs.Ytelgefkfflgbeaa.Mem Go.Proofs.Ytelgefkfflgbeaa.Bits Go.Proofs.YtelgefkfflgbeaaW.PrintWords
set_option linter.unusedVariables false

theorem rowOf_get {c : Nat} {xs : List Int} (i j : Nat) (hj : j < c) : (rowOf c xs i).getD j 0 = xs.getD (i * c + j) 0 := by
  unfold rowOf
  rw [List.getD_eq_getElem?_getD, List.getD_eq_getElem?_getD, List.getElem?_drop, List.getElem?_take_of_lt (by rw [Nat.add_mul]; omega)]
/-- May rows be a matrix? -/
structure RightP (ls : List (List Int)) : Prop where
  r0 : 1 ≤ ls.length
  r1 : ls.length ≤ 64
  c0 : 1 ≤ (ls.getD 0 []).length
  c1 : (ls.getD 0 []).length ≤ 64
  even : ∀ l ∈ ls, l.length = (ls.getD 0 []).length
instance (ls : List (List Int)) : Decidable (RightP ls) :=
  if h : 1 ≤ ls.length ∧ ls.length ≤ 64 ∧ 1 ≤ (ls.getD 0 []).length ∧ (ls.getD 0 []).length ≤ 64 ∧ ∀ l ∈ ls, l.length = (ls.getD 0 []).length then isTrue ⟨h.1, h.2.1, h.2.2.1, h.2.2.2.1, h.2.2.2.2⟩
  else isFalse (fun g => h ⟨g.r0, g.r1, g.c0, g.c1, g.even⟩)

theorem flat_split (ls : List (List Int)) (i : Nat) (hi : i < ls.length) : flat ls = flat (ls.take i) ++ (ls.getD i [] ++ flat (ls.drop (i + 1))) := by
  unfold flat
  rw [List.getD_eq_getElem?_getD, List.getElem?_eq_getElem hi, Option.getD_some, ← List.flatten_cons, List.getElem_cons_drop, ← List.flatten_append, List.take_append_drop]
theorem getD_mem {ls : List (List Int)} {i : Nat} (hi : i < ls.length) : ls.getD i [] ∈ ls := by
  rw [List.getD_eq_getElem?_getD, List.getElem?_eq_getElem hi, Option.getD_some]
  exact List.getElem_mem _
theorem rowOf_flat (c : Nat) (ls : List (List Int)) (h : ∀ l ∈ ls, l.length = c) (i : Nat) (hi : i < ls.length) : rowOf c (flat ls) i = ls.getD i [] := by
  have h1 := take_flat c ls h i (by omega)
  have h2 := h _ (getD_mem hi)
  unfold rowOf
  have hh : flat (ls.take i) ++ (ls.getD i [] ++ flat (ls.drop (i + 1))) = (flat (ls.take i) ++ ls.getD i []) ++ flat (ls.drop (i + 1)) := by simp
  rw [flat_split ls i hi, hh, List.take_left' (by rw [List.length_append, h1, h2, Nat.add_mul, Nat.one_mul]), List.drop_left' h1]
theorem rowsTo_flat (c : Nat) (ls : List (List Int)) (h : ∀ l ∈ ls, l.length = c) : rowsTo c (flat ls) ls.length = ls := by
  refine List.ext_getElem (by rw [rowsTo_len]) (fun i h1 h2 => ?_)
  simp only [rowsTo, List.getElem_map, List.getElem_range]
  rw [rowOf_flat c ls h i h2, List.getD_eq_getElem?_getD, List.getElem?_eq_getElem h2, Option.getD_some]
theorem flat_getD (c : Nat) (ls : List (List Int)) (h : ∀ l ∈ ls, l.length = c) (i k : Nat) (hi : i < ls.length) (hk : k < c) : (flat ls).getD (i * c + k) 0 = (ls.getD i []).getD k 0 := by
  rw [← rowOf_flat c ls h i hi, rowOf_get i k hk]
theorem alike_refl (r c : Nat) (xs : List Int) : AlikeB r c xs r c xs = true := decide_eq_true ⟨rfl, rfl, rfl⟩
theorem alike_set (r c : Nat) (xs : List Int) (n : Nat) (hn : n < xs.length) (x : Int) : AlikeB r c xs r c (xs.set n x) = decide (xs.getD n 0 = x) := by
  unfold AlikeB
  rw [decide_eq_decide]
  constructor
  · rintro ⟨_, _, e⟩
    rw [e, List.getD_eq_getElem?_getD, List.getElem?_set_self (by simpa using hn)]; rfl
  · intro e
    refine ⟨rfl, rfl, ?_⟩
    rw [List.getD_eq_getElem?_getD, List.getElem?_eq_getElem hn, Option.getD_some] at e
    subst e
    exact (List.set_getElem_self hn).symm
/-- Rows that are no matrix. -/
theorem of_bad (A : Option Addr) (c0 : Nat) (ls : List (List Int)) (w : World) (h : RowsC w A ls) (hby : AllBytes ls) (hl : ls.length ≤ c0) (hm : ls.length ≤ 9223372036854775807) (hn : ¬ RightP ls) :
    Calls Try.prog 33 #[.slice A ls.length c0] w fun e w' => e = .returned (.tuple #[.pointer none, .int .i64 1]) ∧ Below w.heap.size w w' := by
  by_cases h0 : ls.length = 0
  · obtain rfl : ls = [] := List.eq_nil_of_length_eq_zero h0
    refine (of_none A c0 w).mono ?_
    rintro e w' ⟨rfl, rfl⟩
    exact ⟨rfl, Below.refl _ _⟩
  · by_cases hb : ls.length ≤ 64 ∧ 1 ≤ (ls.getD 0 []).length ∧ (ls.getD 0 []).length ≤ 64
    · refine (of_any A c0 ls w h hby hl (by omega) hb.1 hb.2.1 hb.2.2).mono ?_
      rintro e w' (⟨he, _⟩ | ⟨_, rfl, hB⟩)
      · refine absurd ⟨by omega, hb.1, hb.2.1, hb.2.2, fun l hl => ?_⟩ hn
        exact he l (by rwa [List.take_length])
      · exact ⟨rfl, hB⟩
    · exact of_wide A c0 ls w h hl (by omega) hm hb
theorem flat_cols {ls : List (List Int)} (h : RightP ls) : EvenTo (ls.getD 0 []).length ls ls.length := fun l hl => h.even l (by rwa [List.take_length] at hl)
theorem of_right (A : Option Addr) (c0 : Nat) (ls : List (List Int)) (w W : World) (hB : Below w.heap.size w W) (h : RowsC w A ls) (hR : RightP ls) (hby : AllBytes ls) (hl : ls.length ≤ c0) :
    Calls Try.prog 33 #[.slice A ls.length c0] W fun e w' => ∃ b s cap, e = .returned (.tuple #[.pointer (some ⟨b, 0, none⟩), .int .i64 0]) ∧ MatIn w' b s ls.length (ls.getD 0 []).length cap (flat ls) ∧ Below W.heap.size W w' ∧ W.heap.size ≤ b ∧ W.heap.size ≤ s := by
  refine (of_any A c0 ls W (Kd.C_below h hB) hby hl hR.r0 hR.r1 hR.c0 hR.c1).mono ?_
  rintro e w' (⟨_, b, s, cap, rfl, hm, hb, h1, h2⟩ | ⟨hn, _⟩)
  · exact ⟨b, s, cap, rfl, hm, hb, h1, h2⟩
  · exact absurd (flat_cols hR) hn
theorem flat_bytes {ls : List (List Int)} (h : AllBytes ls) : Bytes (flat ls) := by
  intro y hy
  obtain ⟨l, hl, h'⟩ := List.mem_flatten.1 hy
  exact h l hl y h'
end Go.Proofs.Ytelgefkfflgbeaa.Mat
