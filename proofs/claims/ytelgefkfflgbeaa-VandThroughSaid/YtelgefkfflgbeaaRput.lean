/- A row put into rows of the call's own. -/
import Derived.Test.YtelgefkfflgbeaaProg
import Derived.Below
import Derived.Deep.Draws
import Derived.Deep.AppendLies
import Derived.Maps.AppendAt
import Derived.OwnWalk
import Derived.Laws.BytesArg
import Derived.Laws.MakeOwn
import Derived.Laws.OwnMore
import Derived.Deep.OwnRows
import Derived.Tactics
import Derived.Lib.ConvBytes
import Derived.Laws.Slices
import Derived.WalkKit
import Derived.KernelRfl
import Derived.RowKit3
import Derived.Deep.LoopGhost
import Derived.Deep.QuietTactic
import Derived.BigQuiet
import Derived.WideLaws
import Derived.Deep.DeepCutAuto
import Derived.Deep.CutBlock
import Derived.Deep.RegionHeld3
import Derived.Laws.Rows
import Derived.Lib.AppendStr
import Derived.ArgAppend
import Derived.Laws.IdiomCopy
import Derived.OrdersHeld
import Derived.Laws.BitsLemmas
import Derived.RowKit
import Derived.Lib.Hide
import Derived.Test.YtelgefkfflgbeaaMem
import Derived.Test.YtelgefkfflgbeaaRows1
namespace Go.Proofs.Ytelgefkfflgbeaa.Rws
open Go Go.RowKit Go.Proofs.Ytelgefkfflgbeaa.Mem Go.Proofs.YtelgefkfflgbeaaW.PrintWords
set_option linter.unusedVariables false

theorem relem {W : World} {base g n cap : Nat} {ls : List (List Int)} (h : RowsR W base (.slice (some ⟨g, 0, none⟩) n cap) ls) (i : Nat) (hi : i < n) :
    ∃ A0 c0, W.cell? ⟨g, i, none⟩ = some (.slice A0 (ls.getD i []).length c0) ∧ W.frozen? ⟨g, i, none⟩ = false ∧ (ls.getD i []).length ≤ c0 ∧ (Kd.int .u8).C W A0 (ls.getD i []).length (ls.getD i []) ∧ kRow.M W base (fun k => k ≠ g) (ls.getD i []) [.slice A0 (ls.getD i []).length c0] := by
  have hn := (Kd.R_reads' h).1
  obtain ⟨c, hc, hM, hcc, hf⟩ := Kd.R_elem h [] (i : Int) (by omega) (by omega)
  obtain ⟨ad, c', e, _, hK, hc0⟩ := Kd.C_get (Kd.R_reads' h).2.2 [] (i : Int) (by omega) (by omega)
  rw [Int.toNat_natCast] at hM hK hcc hf
  obtain ⟨u, rfl, hu⟩ := hM
  obtain ⟨A0, c0, rfl, l0, g0⟩ := hK
  have h1 := hcc 0 u rfl
  injection e with e
  subst e
  have h2 := hc0 0 _ rfl
  have e3 : W.cell? ⟨g, i, none⟩ = some u := by simpa [Kd.slice] using h1
  have e4 : W.cell? ⟨g, i, none⟩ = some (.slice A0 (ls.getD i []).length c0) := by
    have : (⟨g, 0, none⟩ : Addr).add i = ⟨g, i, none⟩ := by by_cases h : i = 0 <;> simp [Addr.add, h]
    rw [← this]; simpa [Kd.slice] using h2
  rw [e3] at e4
  injection e4 with e4
  subst e4
  refine ⟨A0, c0, e3, by simpa [Kd.slice] using hf 0, l0, g0, ⟨_, rfl, Kd.R_mono hu (fun k hk => hk.2)⟩⟩
theorem rput {W : World} {base g n cap : Nat} {ls : List (List Int)} (h : RowsR W base (.slice (some ⟨g, 0, none⟩) n cap) ls) (i : Nat) (hi : i < n) (u : Value) (x' : List Int) (okp : Nat → Prop) (hM : kRow.M W base okp x' [u]) (hokp : ∀ k, okp k → k ≠ g) :
    RowsR (W.setCell ⟨g, i, none⟩ u) base (.slice (some ⟨g, 0, none⟩) n cap) (ls.set i x') := by
  obtain ⟨A0, c0, hc, _⟩ := relem h i hi
  have := (Kd.R_seg (seg := [u]) (c := [.slice A0 (ls.getD i []).length c0]) (j := 0) h (i : Int) (by omega) (by omega) rfl (fun j v hj => by
    cases j with
    | zero => injection hj with hj; subst hj; simpa [Kd.slice] using hc
    | succ j => cases hj) (by simp [Kd.slice]) hM (fun k hk => ⟨trivial, hokp k hk⟩)).1
  have e1 : ((i : Int).toNat * kRow.sz + 0) = i := by simp [Kd.slice]
  rw [e1, Int.toNat_natCast] at this
  exact this
theorem rblk {W : World} {base g n cap : Nat} {ls : List (List Int)} (h : RowsR W base (.slice (some ⟨g, 0, none⟩) n cap) ls) : base ≤ g ∧ ∃ cur, W.heap[g]? = some (.cells cur 22 (0, 0)) := by
  refine ⟨Kd.R_base h g (by simp [Value.ownBlock]), ?_⟩
  obtain ⟨_, inner, hown, hr⟩ := h
  rcases hown.2 with ⟨hv, _⟩ | ⟨g', cap', cur, hv, hb, hh, _⟩
  · cases hv
  · injection hv with ha _ _
    injection ha with ha
    injection ha with hg
    subst hg
    exact ⟨cur, hh⟩
end Go.Proofs.Ytelgefkfflgbeaa.Rws
