/- JumpSpreads: all lists of keys, all numbers of places. -/
import Derived.Test.YtgadbdhmdeiclaaBJumpSpreadsWalkJS4
namespace Go.Proofs.Ytgadbdhmdeiclaa.JS
open Go Go.RowKit Go.Proofs.Ytgadbdhmdeiclaa.PJumpSpreads Go.Proofs.Ytgadbdhmdeiclaa.BJumpSpreads Go.Proofs.Ytgadbdhmdeiclaa.Jump Go.Proofs.Ytgadbdhmdeiclaa.Bits Go.Proofs.YtgadbdhmdeiclaaW.PrintWords Go.Proofs.YtgadbdhmdeiclaaW.PrintLast
set_option linter.unusedVariables false

theorem C_of_ints {k : IntKind} {w : World} {A : Option Addr} {n : Nat} {xs : List Int} (h : ReadsInt w k A n xs) : (Kd.int k).C w A n xs := Kd.C_of_reads (enc := Value.int k) (d := (0 : Int)) (h1 := fun _ => rfl) h

theorem js_law {W : World} (A0 : Option Addr) (c0 : Nat) (keys : List Int) (hr : ReadsInt W .u64 A0 keys.length keys) (hk : Keys keys) (hc0 : keys.length ≤ c0) (was : Int) (now : Int) :
    Calls Try.prog 5 #[.slice A0 keys.length c0, .int .i64 was, .int .i64 now] W fun e w' => e = .returned (.bool true) ∧ Below W.heap.size W w' := by
  have hr0 := C_of_ints hr
  by_cases hL : Late keys.length was now
  · refine (js_late A0 c0 keys was now W hL).mono ?_
    rintro e w' ⟨he, n, rfl⟩
    exact ⟨he, pw_below_drewN (Below.refl _ _) n⟩
  · obtain ⟨hl, hg1, hg2⟩ := guard_facts _ _ _ hL
    have hf : ∀ n : Nat, (if n = 0 then (0 : Int) else 1) = 1 ∨ (if n = 0 then (0 : Int) else 1) = 0 ∧ n = 0 := by
      intro n
      by_cases h : n = 0 <;> simp [h]
    by_cases hw : 1 ≤ was ∧ was ≤ 65536
    · by_cases hn : 1 ≤ now ∧ now ≤ 65536
      · obtain ⟨a, rfl⟩ : ∃ a : Nat, was = a := ⟨was.toNat, by omega⟩
        obtain ⟨b, rfl⟩ : ∃ b : Nat, now = b := ⟨now.toNat, by omega⟩
        exact js_good A0 c0 keys a b W hr0 hc0 hk hl (by omega) (by omega) (by omega) (by omega)
      · obtain ⟨a, rfl⟩ : ∃ a : Nat, was = a := ⟨was.toNat, by omega⟩
        exact js_wrong2 A0 c0 keys a now W hr0 hc0 hL (right_yes _ hw) (right_no _ hn) _ (spread_good a keys hk hl (by omega) (by omega)) _ (moves_bad 90000 keys a now hk hl (.inr hn) (by omega)) (hf _)
    · exact js_wrong A0 c0 keys was now W hr0 hc0 hL (right_no _ hw) (spread_bad was keys hw) _ (moves_bad 90000 keys was now hk hl (.inl hw) (by omega)) (hf _)
theorem js_row {W : World} (A0 : Option Addr) (c0 : Nat) (keys : List Int) (hr : ReadsInt W .u64 A0 keys.length keys) (hk : ∀ x ∈ keys, (Lit.int .u64 x).wf = true) (hc0 : keys.length ≤ c0) (_ : keys.length * 8 ≤ 140737488351232)
    (was : Int) (_ : (Lit.int .i64 was).wf = true) (now : Int) (_ : (Lit.int .i64 now).wf = true) :
    Calls Try.prog 5 #[.slice A0 keys.length c0, .int .i64 was, .int .i64 now] W fun e w' => e = .returned (.bool true) ∧ Below W.heap.size W w' :=
  js_law A0 c0 keys hr hk hc0 was now
end Go.Proofs.Ytgadbdhmdeiclaa.JS
