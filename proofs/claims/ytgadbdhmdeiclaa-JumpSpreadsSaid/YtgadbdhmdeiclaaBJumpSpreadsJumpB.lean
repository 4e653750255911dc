/- The printed functions of the chapter on jumps tell the plain ones' answers. -/
import Derived.Test.YtgadbdhmdeiclaaPJumpSpreadsx2
import Derived.Test.YtgadbdhmdeiclaaJump
import Derived.Test.YtgadbdhmdeiclaaBits
namespace Go.Proofs.Ytgadbdhmdeiclaa.BJumpSpreads
open Go Go.RowKit Go.Proofs.Ytgadbdhmdeiclaa.PJumpSpreads Go.Proofs.Ytgadbdhmdeiclaa.Jump Go.Proofs.Ytgadbdhmdeiclaa.Bits Go.Proofs.YtgadbdhmdeiclaaW.PrintWords Go.Proofs.YtgadbdhmdeiclaaW.PrintLast

theorem wrapu (n : Nat) : IntKind.u64.wrap (n : Int) = ((n % 18446744073709551616 : Nat) : Int) := by
  simp [IntKind.wrap, IntKind.bits, IntKind.signed]
theorem wrapu_in (n : Nat) (h : n < 18446744073709551616) : IntKind.u64.wrap (n : Int) = (n : Int) := by
  rw [wrapu, Nat.mod_eq_of_lt h]
theorem wf_u64 {a : Int} (h : (Lit.int .u64 a).wf = true) : ∃ n : Nat, n < 18446744073709551616 ∧ a = n := by
  simp [Lit.wf, IntKind.min, IntKind.max, IntKind.signed, IntKind.bits] at h
  exact ⟨a.toNat, by omega, by omega⟩

theorem step_is (key : Nat) : jump_step.f (key : Int) = some ((stp key : Nat) : Int) := by
  unfold jump_step.f
  rw [show (key : Int) * 2862933555777941757 = ((key * 2862933555777941757 : Nat) : Int) by simp, wrapu]
  rw [show (((key * 2862933555777941757 % 18446744073709551616 : Nat) : Int) + 1) = ((key * 2862933555777941757 % 18446744073709551616 + 1 : Nat) : Int) by simp, wrapu]
  rfl

theorem next_is (key p : Nat) (hk : key < 18446744073709551616) (hp : p < 65537) :
    IntKind.u64.wrap (Int.tdiv (IntKind.u64.wrap ((IntKind.u64.wrap ((p : Int) + 1)) * 2147483648)) (IntKind.u64.wrap (((key : Int) / 8589934592) + 1))) = ((nx key p : Nat) : Int) := by
  have e1 : (p : Int) + 1 = ((p + 1 : Nat) : Int) := by simp
  have e2 : ((p + 1 : Nat) : Int) * 2147483648 = (((p + 1) * 2147483648 : Nat) : Int) := by simp
  have e3 : (key : Int) / 8589934592 + 1 = ((key / 8589934592 + 1 : Nat) : Int) := by omega
  rw [e1, wrapu_in (p + 1) (by omega), e2, wrapu_in _ (by omega), e3, wrapu_in _ (by omega)]
  have e4 : Int.tdiv (((p + 1) * 2147483648 : Nat) : Int) ((key / 8589934592 + 1 : Nat) : Int) = ((nx key p : Nat) : Int) := by
    unfold nx
    exact (Int.ofNat_tdiv ((p + 1) * 2147483648) (key / 8589934592 + 1)).symm
  rw [e4, wrapu_in _ (by have := nx_le key p; omega)]

theorem of_loop (d : Nat) : ∀ (k key p n at' : Nat), key < 18446744073709551616 → p < n → n ≤ p + d → n ≤ 65536 → d + 1 < k →
    jump_Of.l0 k key n at' p = some (((fall d key p n : Nat) : Int), 0) := by
  induction d with
  | zero => intro k key p n at' hk hp hd hn hf; omega
  | succ d ih =>
    intro k key p n at' hk hp hd hn hf
    obtain ⟨k, rfl⟩ : ∃ m, k = m + 1 := ⟨k - 1, by omega⟩
    have hs := stp_lt key
    have hg := nx_gt (stp key) p hs
    have hl := nx_le (stp key) p
    have hw : wrap64 (p : Int) = (p : Int) := wrap64_nat p (by omega)
    have hz : ¬ IntKind.u64.wrap (((stp key : Nat) : Int) / 8589934592 + 1) = 0 := by
      rw [show ((stp key : Nat) : Int) / 8589934592 + 1 = ((stp key / 8589934592 + 1 : Nat) : Int) by omega, wrapu_in _ (by omega)]
      omega
    simp only [jump_Of.l0]
    rw [wrapu_in n (by omega), if_pos (by omega), step_is]
    simp only [bnd]
    rw [if_neg hz, hw, wrapu_in p (by omega), next_is _ _ hs (by omega), fall]
    by_cases h1 : nx (stp key) p < n
    · rw [if_pos h1]
      exact ih k (stp key) _ n p hs h1 (by omega) hn (by omega)
    · rw [if_neg h1]
      obtain ⟨k, rfl⟩ : ∃ m, k = m + 1 := ⟨k - 1, by omega⟩
      simp only [jump_Of.l0]
      rw [wrapu_in n (by omega), if_neg (by omega)]

theorem of_right (k key n : Nat) (hk : key < 18446744073709551616) (h1 : 1 ≤ n) (hn : n ≤ 65536) (hf : n + 2 < k) :
    jump_Of.f k key n = some (((fall n key 0 n : Nat) : Int), 0) := by
  obtain ⟨k, rfl⟩ : ∃ m, k = m + 1 := ⟨k - 1, by omega⟩
  unfold jump_Of.f
  rw [if_neg (by omega), show decide ((n : Int) > 65536) = false by simp; omega]
  simp only [jump_Of.j0]
  rw [if_neg (by decide)]
  exact of_loop n k key 0 n 0 hk (by omega) (by omega) hn (by omega)

theorem of_wrong (k : Nat) (key n : Int) (hn : ¬ (1 ≤ n ∧ n ≤ 65536)) (hf : 0 < k) : jump_Of.f k key n = some (0, 1) := by
  obtain ⟨k, rfl⟩ : ∃ m, k = m + 1 := ⟨k - 1, by omega⟩
  unfold jump_Of.f
  by_cases h : n < 1
  · rw [if_pos h]; simp only [jump_Of.j0]; rfl
  · rw [if_neg h, show decide (n > 65536) = true by simp; omega]; simp only [jump_Of.j0]; rfl

theorem awake_is (k : Nat) (h : 4 < k) : coldframelaw40_awake.f k = some true := by
  unfold coldframelaw40_awake.f
  have := of_right k 77 1 (by omega) (by omega) (by omega) (by omega)
  have e : fall 1 77 0 1 = 0 := by decide +kernel
  rw [e] at this
  obtain ⟨k, rfl⟩ : ∃ m, k = m + 1 := ⟨k - 1, by omega⟩
  rw [show (77 : Int) = ((77 : Nat) : Int) from rfl, show (1 : Int) = ((1 : Nat) : Int) from rfl, this]
  simp [jump_Key.f, jump_Key.l0]
end Go.Proofs.Ytgadbdhmdeiclaa.BJumpSpreads
