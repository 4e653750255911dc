/- Sums and products may be put in any order, and a product of a sum is the sum of products: for all bytes a, b and c. -/
import Derived.Test.YtpdigmgfpekocaaBGfFieldGfMul
namespace Go.Proofs.Ytpdigmgfpekocaa.Pure
open Go.RowKit Go.Proofs.Ytpdigmgfpekocaa.PGfField Go.Proofs.Ytpdigmgfpekocaa.BGfField Go.Proofs.Ytpdigmgfpekocaa.Gf Go.Proofs.Ytpdigmgfpekocaa.Bits Go.Proofs.YtpdigmgfpekocaaW.PrintWords Go.Proofs.YtpdigmgfpekocaaW.PrintLast

theorem xor_lt {a b : Nat} (ha : a < 256) (hb : b < 256) : a ^^^ b < 256 := by
  have : a ^^^ b < 2 ^ 8 := Nat.xor_lt_two_pow ha hb
  simpa using this
theorem gf_add (a b : Nat) (ha : a < 256) (hb : b < 256) : gf_Add.f a b = some ((a ^^^ b : Nat) : Int) := by
  unfold gf_Add.f; rw [xor_u8 a b ha hb]

theorem GfField : coldframelaw02_GfField.Pure := by
  intro a b c wa wb wc
  obtain ⟨a, ha, rfl⟩ := wf_u8 wa
  obtain ⟨b, hb, rfl⟩ := wf_u8 wb
  obtain ⟨c, hc, rfl⟩ := wf_u8 wc
  have hw : coldframelaw02_awake.f 99 = some true := by decide +kernel
  have hab := gm_lt a b ha
  have hbc := gm_lt b c hb
  have hac := gm_lt a c ha
  refine ⟨99 + 1, ?_⟩
  unfold coldframelaw02_GfField.f
  rw [gf_mul _ a b ha hb (by omega), gf_mul _ b a hb ha (by omega), gf_mul _ b c hb hc (by omega), gf_add a b ha hb, gf_add b c hb hc]
  simp only [Option.bind_some]
  rw [if_pos (by rw [gm_comm a b ha hb]), gf_mul _ _ c hab hc (by omega), gf_mul _ a _ ha hbc (by omega), gf_add _ c (xor_lt ha hb) hc, gf_add a _ ha (xor_lt hb hc)]
  simp only [Option.bind_some]
  rw [if_pos (by rw [gm_assoc a b c ha hb hc]), Nat.xor_assoc]
  simp only [coldframelaw02_GfField.j0, bne_self_eq_false]
  rw [if_neg (by decide), gf_add b c hb hc]
  simp only [Option.bind_some]
  rw [gf_mul _ a _ ha (xor_lt hb hc) (by omega), gf_mul _ a b ha hb (by omega), gf_mul _ a c ha hc (by omega)]
  simp only [Option.bind_some]
  rw [gf_add _ _ hab hac]
  simp only [Option.bind_some]
  rw [if_pos (by rw [gm_xor_right]), show (1 : Int) = ((1 : Nat) : Int) from rfl, gf_mul _ a 1 ha (by omega) (by omega)]
  simp only [Option.bind_some]
  rw [if_pos (by rw [gm_one]), gf_add a a ha ha]
  simp only [Option.bind_some]
  rw [if_pos (by simp), hw]
  rfl

end Go.Proofs.Ytpdigmgfpekocaa.Pure
