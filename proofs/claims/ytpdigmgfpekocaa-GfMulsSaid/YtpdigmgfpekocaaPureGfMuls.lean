/- The sum and the product of any two elements are those of the document's answer: for all bytes a and b. -/
import Derived.Test.YtpdigmgfpekocaaBGfMulsGfRefMul
namespace Go.Proofs.Ytpdigmgfpekocaa.Pure
open Go.RowKit Go.Proofs.Ytpdigmgfpekocaa.PGfMuls Go.Proofs.Ytpdigmgfpekocaa.BGfMuls Go.Proofs.Ytpdigmgfpekocaa.Gf Go.Proofs.Ytpdigmgfpekocaa.Bits Go.Proofs.YtpdigmgfpekocaaW.PrintWords Go.Proofs.YtpdigmgfpekocaaW.PrintLast

theorem GfMuls : coldframelaw02_GfMuls.Pure := by
  intro a b wa wb
  obtain ⟨a, ha, rfl⟩ := wf_u8 wa
  obtain ⟨b, hb, rfl⟩ := wf_u8 wb
  have hw : coldframelaw02_awake.f 100 = some true := by decide +kernel
  refine ⟨100, ?_⟩
  unfold coldframelaw02_GfMuls.f gf_Add.f
  simp only [Option.bind_some, if_true]
  rw [gf_mul 100 a b ha hb (by omega), ref_mul 100 a b ha hb (by omega), hw]
  simp only [Option.bind_some, if_true]

end Go.Proofs.Ytpdigmgfpekocaa.Pure
