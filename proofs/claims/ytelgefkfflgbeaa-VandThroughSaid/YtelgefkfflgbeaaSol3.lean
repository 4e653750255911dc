/- Equations whose rows are the powers of unlike elements. No program. -/
import Derived.Test.YtelgefkfflgbeaaSol2
namespace Go.Proofs.Ytelgefkfflgbeaa.Sol
open Go.Proofs.Ytelgefkfflgbeaa.Gf Go.Proofs.Ytelgefkfflgbeaa.Gi Go.Proofs.Ytelgefkfflgbeaa.Alg
set_option linter.unusedVariables false

def pw (x : G) : Nat → G
  | 0 => 1
  | n + 1 => pw x n * x
theorem pw_succ' (x : G) : ∀ n, pw x (n + 1) = x * pw x n
  | 0 => by show 1 * x = x * 1; rw [Alg.one_mul, Fd.mul_one]
  | n + 1 => by
    show pw x (n + 1) * x = x * (pw x n * x)
    rw [pw_succ' x n, Fd.mul_assoc]
theorem of_gp (x n : Nat) (hx : x < 256) : G.of ((gp x n : Nat) : Int) = pw (G.of (x : Int)) n := by
  induction n with
  | zero => exact G.of_one
  | succ n ih =>
    have h := of_gm (a := ((gp x n : Nat) : Int)) (b := (x : Int)) (by have := gp_lt x hx n; exact ⟨by omega, by omega⟩) ⟨by omega, by omega⟩
    show G.of _ = pw _ n * _
    rw [← ih, ← h]
    congr 1
theorem sum_shift (n : Nat) (f : Nat → G) : sum (n + 1) f = f 0 + sum n (fun i => f (i + 1)) := by
  induction n with
  | zero => show 0 + f 0 = f 0 + 0; rw [Alg.zero_add, Fd.add_zero]
  | succ n ih =>
    show sum (n + 1) f + f (n + 1) = f 0 + (sum n (fun i => f (i + 1)) + f (n + 1))
    rw [ih, Fd.add_assoc]
theorem sum_left (n : Nat) (a : G) (f : Nat → G) : sum n (fun i => a * f i) = a * sum n f := by
  rw [Fd.mul_comm a, ← sum_scale]; exact sum_congr (fun i _ => Fd.mul_comm _ _)
/-- A polynomial's value is the sum of its terms. -/
theorem hor_sum (x : G) : ∀ (n : Nat) (c : Nat → G), hor ((List.range n).map c) x = sum n (fun j => pw x j * c j)
  | 0, _ => rfl
  | n + 1, c => by
    rw [List.range_succ_eq_map, List.map_cons, List.map_map, sum_shift]
    show c 0 + x * hor ((List.range n).map (c ∘ Nat.succ)) x = 1 * c 0 + _
    rw [hor_sum x n (c ∘ Nat.succ), Alg.one_mul, ← sum_left]
    congr 1
    refine sum_congr (fun j _ => ?_)
    show x * (pw x j * c (j + 1)) = pw x (j + 1) * c (j + 1)
    rw [pw_succ', Fd.mul_assoc]
/-- Of powers of unlike elements nothing but nought comes to nought. -/
theorem powers_inj (n : Nat) (x : Nat → G) (hx : ∀ i j, i < n → j < n → x i = x j → i = j) (M : Nat → Nat → G) (hM : ∀ i j, i < n → j < n → M i j = pw (x i) j)
    (c : Nat → G) (h : ∀ i, i < n → dotF n (M i) c = 0) : ∀ j, j < n → c j = 0 := by
  intro j hj
  refine noughts ((List.range n).map c) ((List.range n).map x) ?_ (by simp) (fun p hp => ?_) (c j) (List.mem_map.2 ⟨j, List.mem_range.2 hj, rfl⟩)
  · rw [List.nodup_iff_pairwise_ne, List.pairwise_map]
    exact List.Pairwise.imp_of_mem (fun {a b} ha hb hne e => hne (hx a b (List.mem_range.1 ha) (List.mem_range.1 hb) e)) (List.nodup_range)
  · obtain ⟨i, hi, rfl⟩ := List.mem_map.1 hp
    have hi' := List.mem_range.1 hi
    rw [hor_sum, ← h i hi']
    unfold dotF
    exact sum_congr (fun k hk => by rw [hM i k hi' hk])
/-- The document's way: what Steps makes of the points' powers and values, its last column, is the one polynomial through them. -/
theorem StepsTo.through {n : Nat} {M0 : Mtx} (h0 : BytM M0) (x : Nat → G) (hx : ∀ i j, i < n → j < n → x i = x j → i = j) (hM : ∀ i j, i < n → j < n → el M0 i j = pw (x i) j)
    {t : Nat} {M : Mtx} (h : StepsTo n M0 (n + 1) t M) (p : Nat → G) (hp : ∀ i, i < n → hor ((List.range n).map p) (x i) = el M0 i n) : ∀ i, i < n → el M i n = p i := by
  refine h.solves h0 (powers_inj n x hx (el M0) hM) p (fun i hi => ?_)
  rw [← hp i hi, hor_sum]
  unfold dotF
  exact sum_congr (fun k hk => by rw [hM i k hi hk])
end Go.Proofs.Ytelgefkfflgbeaa.Sol
