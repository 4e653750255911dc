/- What a reading of [][]byte tells of memory. -/
import Derived.Test.YtdhhkkhimcpaoaaProg
import Derived.Below
import Derived.Deep.Draws
import Derived.Deep.AppendLies
import Derived.Maps.AppendAt
import Derived.OwnWalk
import Derived.Laws.BytesArg
import Derived.Laws.MakeOwn
import Derived.Laws.OwnMore
import Derived.Deep.OwnRows
import Derived.Tactics
import Derived.Lib.ConvBytes
import Derived.Laws.Slices
import Derived.WalkKit
import Derived.KernelRfl
import Derived.RowKit3
import Derived.Deep.LoopGhost
import Derived.Deep.QuietTactic
import Derived.BigQuiet
import Derived.WideLaws
import Derived.Deep.DeepCutAuto
import Derived.Deep.CutBlock
import Derived.Deep.RegionHeld3
import Derived.Laws.Rows
import Derived.Lib.AppendStr
import Derived.ArgAppend
import Derived.Laws.IdiomCopy
import Derived.OrdersHeld
import Derived.Laws.BitsLemmas
import Derived.RowKit
import Derived.Lib.Hide
import Derived.ProofKit
import Derived.OpenShut
import Derived.ChangeOld
import Derived.Deep.Matrix
import Derived.Test.YtdhhkkhimcpaoaaMat5
namespace Go.Proofs.Ytdhhkkhimcpaoaa.Mat
open Go Go.RowKit Go.ChangeShapes Go.WideShapes Go.ChangeAt Go.Deep Go.Proofs.YtdhhkkhimcpaoaaW.PrintWords
set_option linter.unusedVariables false

theorem cells_u8 : Try.prog.cellsOf 5 = 1 := by kernel_rfl
theorem cells_row : Try.prog.cellsOf 24 = 1 := by kernel_rfl
theorem byte_range {x : Int} (h : (Lit.int .u8 x).wf = true) : 0 ≤ x ∧ x < 256 := by
  simp [Lit.wf, IntKind.min, IntKind.max, IntKind.signed, IntKind.bits] at h
  omega

theorem rows_open {H : Type} {enc : TypeId × Value → H} {W : World} {a : Option Addr} {len cap : Nat} {d : DataW H} {p : List MemPlace}
    (h : DataW.Trod enc Try.prog W 0 (fun _ => true) true 22 (.slice a len cap) d p) :
    ∃ ls : List (List Int), len = ls.length ∧ RowsC W a ls ∧ AllBytes ls ∧ ls.length ≤ cap ∧ ls.length ≤ 9223372036854775807 := by
  obtain ⟨fuel, hf⟩ := h
  rcases open_int_rows Try.underlying22 Try.underlying24 Try.underlying5 cells_row cells_u8 hf with ⟨hcs, _⟩ | ⟨x, l, c, A, L, C, Z, hcs, _, hl, hm, _, hr⟩
  · simp [Value.cells] at hcs
    obtain ⟨rfl, rfl, rfl⟩ := hcs
    exact ⟨[], rfl, Kd.C_nil _ _, fun l hl => (by cases hl), by simp, by simp⟩
  · simp [Value.cells] at hcs
    obtain ⟨rfl, rfl, rfl⟩ := hcs
    have hlen : ∀ r, r < cap → ((Z r).take (L r)).length = L r := fun r hr' => by
      obtain ⟨_, h1, _, h2, _⟩ := hr r hr'
      rw [List.length_take, h2]; omega
    have hmm : cap ≤ 9223372036854775807 := by simpa [maxLen] using hm
    refine ⟨(List.range len).map (fun r => (Z r).take (L r)), by simp, ?_, ?_, by simpa using hl, by simp; omega⟩
    · refine ⟨by simp, by simp; omega, fun h0 => ⟨x, rfl, fun r q hq => ?_⟩⟩
      have hrl : r < len := by
        have := (List.getElem?_eq_some_iff.1 hq).1
        simpa using this
      have hq' : q = (Z r).take (L r) := by
        simp [hrl] at hq
        exact hq.symm
      subst hq'
      obtain ⟨h1, h2, h3, h4, h5, h6, h7⟩ := hr r (by omega)
      refine ⟨[.slice (A r) (L r) (C r)], rfl, ⟨A r, C r, by rw [hlen r (by omega)], by rw [hlen r (by omega)]; exact h2, ?_⟩, fun j u hj => ?_⟩
      · refine Kd.C_of_reads (enc := Value.int .u8) (d := (0 : Int)) (h1 := fun _ => rfl) ?_
        rw [hlen r (by omega)]
        refine ⟨hlen r (by omega), by simp only [maxLen] at h3; omega, fun hp => ?_⟩
        cases hA : A r with
        | none => have := h6 hA; omega
        | some a' =>
          obtain ⟨_, h8⟩ := h7 a' hA
          refine ⟨a', rfl, fun i hi => ?_⟩
          rw [h8 i (by omega)]
          simp [List.getD_eq_getElem?_getD, hi]
      · have hj0 : j = 0 := by
          have := (List.getElem?_eq_some_iff.1 hj).1
          simpa using this
        subst hj0
        simp at hj
        rw [← hj]
        simpa [Kd.slice] using h1
    · intro l hl'
      obtain ⟨r, hr1, rfl⟩ := List.mem_map.1 hl'
      have hrl : r < len := by simpa using hr1
      obtain ⟨_, _, _, _, h5, _⟩ := hr r (by omega)
      exact fun y hy => byte_range (h5 y (List.mem_of_mem_take hy))
end Go.Proofs.Ytdhhkkhimcpaoaa.Mat
