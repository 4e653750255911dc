/- StripeCuts, the plain laws: what the reference cuts and joins. -/
import Derived.Test.YtjoblpkfpfclpaaProg
import Derived.Below
import Derived.Deep.Draws
import Derived.Deep.AppendLies
import Derived.Maps.AppendAt
import Derived.OwnWalk
import Derived.Laws.BytesArg
import Derived.Laws.MakeOwn
import Derived.Laws.OwnMore
import Derived.Deep.OwnRows
import Derived.Tactics
import Derived.Lib.ConvBytes
import Derived.Laws.Slices
import Derived.WalkKit
import Derived.KernelRfl
import Derived.RowKit3
import Derived.Deep.LoopGhost
import Derived.Deep.QuietTactic
import Derived.BigQuiet
import Derived.WideLaws
import Derived.Deep.DeepCutAuto
import Derived.Deep.CutBlock
import Derived.Deep.RegionHeld3
import Derived.Laws.Rows
import Derived.Lib.AppendStr
import Derived.ArgAppend
import Derived.Laws.IdiomCopy
import Derived.OrdersHeld
import Derived.Laws.BitsLemmas
import Derived.RowKit
import Derived.Lib.Hide
import Derived.Test.YtjoblpkfpfclpaaBStripePlansStripe5
namespace Go.Proofs.Ytjoblpkfpfclpaa.Str
open Go Go.RowKit Go.Proofs.Ytjoblpkfpfclpaa.Gf Go.Proofs.Ytjoblpkfpfclpaa.Bits Go.Proofs.Ytjoblpkfpfclpaa.Mem Go.Proofs.Ytjoblpkfpfclpaa.VPts Go.Proofs.YtjoblpkfpfclpaaW.PrintWords Go.Proofs.YtjoblpkfpfclpaaW.PrintLast
set_option linter.unusedVariables false

def pad (S : Nat) (l : List Int) : List Int := l ++ List.replicate (S - l.length) 0
def seg (S : Nat) (b : List Int) (i : Nat) : List Int := (b.drop (i * S)).take S
/-- The first i stripes. -/
def cutL (S : Nat) (b : List Int) (i : Nat) : List (List Int) := (List.range i).map (fun j => pad S (seg S b j))
theorem cutL_succ (S : Nat) (b : List Int) (i : Nat) : cutL S b (i + 1) = cutL S b i ++ [pad S (seg S b i)] := by simp [cutL, List.range_succ]
theorem cutL_len (S : Nat) (b : List Int) (i : Nat) : (cutL S b i).length = i := by simp [cutL]
theorem seg_len (S : Nat) (b : List Int) (i : Nat) : (seg S b i).length = min S (b.length - i * S) := by simp [seg]
theorem pad_len (S : Nat) (l : List Int) (h : l.length ≤ S) : (pad S l).length = S := by simp [pad]; omega
theorem cutL_even (S : Nat) (b : List Int) (i : Nat) : ∀ l ∈ cutL S b i, l.length = S := by
  intro l hl
  obtain ⟨j, _, rfl⟩ := List.mem_map.1 hl
  exact pad_len S _ (by rw [seg_len]; omega)
theorem set_mid (l : List Int) (n : Nat) (v : Int) : (l ++ List.replicate (n + 1) 0).set l.length v = (l ++ [v]) ++ List.replicate n 0 := by
  rw [List.set_append_right _ _ (Nat.le_refl _), Nat.sub_self, List.replicate_succ, List.set_cons_zero]; simp
/-- What rows are, joined: if there are so many, all of one size, and together long enough. -/
def okJ (S L c : Nat) (l : List (List Int)) : Prop := l.length = c ∧ (∀ x ∈ l, x.length = S) ∧ L ≤ l.flatten.length
/-- What is cut is joined as it was. -/
theorem cut_flat (S : Nat) (b : List Int) (c : Nat) (hc : b.length ≤ c * S) (hi : ∀ i, i < c → i * S < b.length) : (cutL S b c).flatten.take b.length = b := by
  have h : ∀ i, i ≤ c → ((cutL S b i).flatten.length = i * S) ∧ (cutL S b i).flatten.take b.length = b.take (i * S) := by
    intro i
    induction i with
    | zero => intro _; simp [cutL]
    | succ i ih =>
      intro hic
      obtain ⟨h1, h2⟩ := ih (by omega)
      have h3 := hi i (by omega)
      have hsl := seg_len S b i
      have hp := pad_len S (seg S b i) (by rw [hsl]; omega)
      rw [cutL_succ, List.flatten_append, List.flatten_singleton]
      refine ⟨by rw [List.length_append, h1, hp, Nat.add_mul, Nat.one_mul], ?_⟩
      rw [List.take_append, h2, h1, Nat.add_mul, Nat.one_mul, List.take_add]
      congr 1
      unfold pad
      rw [List.take_append, hsl]
      have e0 : (List.replicate (S - min S (b.length - i * S)) (0 : Int)).take (b.length - i * S - min S (b.length - i * S)) = [] := by
        rw [List.take_replicate]
        have : min (b.length - i * S - min S (b.length - i * S)) (S - min S (b.length - i * S)) = 0 := by omega
        rw [this]; rfl
      rw [e0, List.append_nil]
      unfold seg
      rw [List.take_take]
      rcases Nat.le_total S (b.length - i * S) with hh | hh
      · rw [Nat.min_eq_right hh]
      · rw [Nat.min_eq_left hh, List.take_of_length_le (by simp), List.take_of_length_le (by simp; omega)]
  rw [(h c (Nat.le_refl _)).2, List.take_of_length_le hc]
theorem cut_flat_len (S : Nat) (b : List Int) (c : Nat) : (cutL S b c).flatten.length = c * S := by
  induction c with
  | zero => simp [cutL]
  | succ i ih =>
    rw [cutL_succ, List.flatten_append, List.flatten_singleton, List.length_append, ih, pad_len S _ (by rw [seg_len]; omega), Nat.add_mul, Nat.one_mul]
end Go.Proofs.Ytjoblpkfpfclpaa.Str
