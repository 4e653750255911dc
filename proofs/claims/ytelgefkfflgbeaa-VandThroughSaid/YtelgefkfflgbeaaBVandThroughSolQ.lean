/- The document's Twice and Value, as printed. -/
import Derived.Test.YtelgefkfflgbeaaProg
import Derived.Below
import Derived.Deep.Draws
import Derived.Deep.AppendLies
import Derived.Maps.AppendAt
import Derived.OwnWalk
import Derived.Laws.BytesArg
import Derived.Laws.MakeOwn
import Derived.Laws.OwnMore
import Derived.Deep.OwnRows
import Derived.Tactics
import Derived.Lib.ConvBytes
import Derived.Laws.Slices
import Derived.WalkKit
import Derived.KernelRfl
import Derived.RowKit3
import Derived.Deep.LoopGhost
import Derived.Deep.QuietTactic
import Derived.BigQuiet
import Derived.WideLaws
import Derived.Deep.DeepCutAuto
import Derived.Deep.CutBlock
import Derived.Deep.RegionHeld3
import Derived.Laws.Rows
import Derived.Lib.AppendStr
import Derived.ArgAppend
import Derived.Laws.IdiomCopy
import Derived.OrdersHeld
import Derived.Laws.BitsLemmas
import Derived.RowKit
import Derived.Lib.Hide
import Derived.Test.YtelgefkfflgbeaaBVandThroughGfRefPow
import Derived.Test.YtelgefkfflgbeaaBVandThroughSolP
import Derived.WalkSpells
import Derived.StillTailTactics
import Derived.Outline
import Derived.OrdersHeld
import Derived.Deep.RegionHeld3
import Derived.Test.YtelgefkfflgbeaaBVandThroughVPtsN
namespace Go.Proofs.Ytelgefkfflgbeaa.Sol
open Go Go.RowKit Go.Proofs.Ytelgefkfflgbeaa.PVandThrough Go.Proofs.Ytelgefkfflgbeaa.BVandThrough Go.Proofs.Ytelgefkfflgbeaa.Gf Go.Proofs.Ytelgefkfflgbeaa.Gi Go.Proofs.Ytelgefkfflgbeaa.Bits Go.Proofs.Ytelgefkfflgbeaa.Alg Go.Proofs.Ytelgefkfflgbeaa.Rws Go.Proofs.YtelgefkfflgbeaaW.PrintWords Go.Proofs.YtelgefkfflgbeaaW.PrintLast Go.Proofs.Ytelgefkfflgbeaa.Mem
set_option linter.unusedVariables false

theorem inc64 (i : Nat) (h : i < 1000000) : wrap64 ((i : Int) + 1) = ((i + 1 : Nat) : Int) := by rw [wrap64_in _ (by omega) (by omega)]; omega
theorem twice_pass (d : Nat) : ∀ (m : Nat) (xs : List Int) (i j : Nat), j + d = i → i < xs.length → xs.length ≤ 1000 → (∀ q, j ≤ q → q < i → rd xs (i : Int) ≠ rd xs (q : Int)) →
    coldframeref05_Twice.l1 (d + 1 + m) xs i j = coldframeref05_Twice.l0 m xs ((i + 1 : Nat) : Int) := by
  induction d with
  | zero =>
    intro m xs i j hd hi hl hn
    rw [show 0 + 1 + m = m + 1 by omega]
    simp only [coldframeref05_Twice.l1]
    rw [if_neg (by omega), inc64 i (by omega)]
  | succ d ih =>
    intro m xs i j hd hi hl hn
    rw [show d + 1 + 1 + m = (d + 1 + m) + 1 by omega]
    simp only [coldframeref05_Twice.l1]
    rw [if_pos (by omega), if_pos (by omega), if_pos (by omega), if_pos (by omega), if_pos (by omega), if_neg (hn j (Nat.le_refl _) (by omega)), inc64 j (by omega)]
    exact ih m xs i (j + 1) (by omega) hi hl (fun q h1 h2 => hn q (by omega) h2)
theorem twice_hit (d : Nat) : ∀ (m : Nat) (xs : List Int) (i j : Nat), j + d = i → i < xs.length → xs.length ≤ 1000 → (∃ q, j ≤ q ∧ q < i ∧ rd xs (i : Int) = rd xs (q : Int)) →
    coldframeref05_Twice.l1 (d + 1 + m) xs i j = some true := by
  induction d with
  | zero =>
    intro m xs i j hd hi hl ⟨q, h1, h2, _⟩
    omega
  | succ d ih =>
    intro m xs i j hd hi hl ⟨q, h1, h2, h3⟩
    rw [show d + 1 + 1 + m = (d + 1 + m) + 1 by omega]
    simp only [coldframeref05_Twice.l1]
    rw [if_pos (by omega), if_pos (by omega), if_pos (by omega), if_pos (by omega), if_pos (by omega)]
    by_cases h : rd xs (i : Int) = rd xs (j : Int)
    · rw [if_pos h]
    · rw [if_neg h, inc64 j (by omega)]
      exact ih m xs i (j + 1) (by omega) hi hl ⟨q, by rcases Nat.lt_or_ge j q with h4 | h4; exact h4; exact absurd (by rw [h3, show q = j by omega]) h, h2, h3⟩
/-- A row that holds no element twice up to i, and b behind it. -/
theorem twice_from (b : Bool) (xs : List Int) (hl : xs.length ≤ 290) (n : Nat) (hn : n ≤ xs.length) (h0 : ∀ i, i < n → ∀ q, q < i → rd xs (i : Int) ≠ rd xs (q : Int))
    (hb : ∀ k, 600 ≤ k → coldframeref05_Twice.l0 k xs (n : Int) = some b) (d : Nat) : ∀ (k i : Nat), i + d = n → 600 + 300 * d ≤ k → coldframeref05_Twice.l0 k xs (i : Int) = some b := by
  induction d with
  | zero => intro k i hd hk; obtain rfl : i = n := by omega
            exact hb k (by omega)
  | succ d ih =>
    intro k i hd hk
    obtain ⟨k, rfl⟩ : ∃ m, k = m + 1 := ⟨k - 1, by omega⟩
    simp only [coldframeref05_Twice.l0]
    rw [if_pos (by omega)]
    have := twice_pass i (k - i - 1) xs i 0 (by omega) (by omega) (by omega) (fun q _ h2 => h0 i (by omega) q h2)
    rw [show i + 1 + (k - i - 1) = k by omega] at this
    have h3 := ih (k - i - 1) (i + 1) (by omega) (by omega)
    rw [← h3]
    exact this
theorem twice_no (xs : List Int) (hl : xs.length ≤ 290) (h0 : ∀ i, i < xs.length → ∀ q, q < i → rd xs (i : Int) ≠ rd xs (q : Int)) (k : Nat) (hk : 90000 ≤ k) : coldframeref05_Twice.f k xs = some false := by
  unfold coldframeref05_Twice.f
  have := twice_from false xs hl xs.length (Nat.le_refl _) h0 (fun k hk => by
    obtain ⟨k, rfl⟩ : ∃ m, k = m + 1 := ⟨k - 1, by omega⟩
    simp only [coldframeref05_Twice.l0]
    rw [if_neg (by omega)]) xs.length k 0 (by omega) (by omega)
  exact this
theorem twice_yes (xs : List Int) (hl : xs.length ≤ 290) (n : Nat) (hn : n < xs.length) (h0 : ∀ i, i < n → ∀ q, q < i → rd xs (i : Int) ≠ rd xs (q : Int)) (h1 : ∃ q, q < n ∧ rd xs (n : Int) = rd xs (q : Int)) (k : Nat) (hk : 90000 ≤ k) :
    coldframeref05_Twice.f k xs = some true := by
  unfold coldframeref05_Twice.f
  have := twice_from true xs hl n (by omega) h0 (fun k hk => by
    obtain ⟨k, rfl⟩ : ∃ m, k = m + 1 := ⟨k - 1, by omega⟩
    simp only [coldframeref05_Twice.l0]
    rw [if_pos (by omega)]
    obtain ⟨q, h2, h3⟩ := h1
    have := twice_hit n (k - n - 1) xs n 0 (by omega) hn (by omega) ⟨q, by omega, h2, h3⟩
    rw [show n + 1 + (k - n - 1) = k by omega] at this
    exact this) n k 0 (by omega) (by omega)
  exact this
theorem least (P : Nat → Prop) : ∀ m, (∃ k, k < m ∧ P k) → ∃ k, k < m ∧ P k ∧ ∀ j, j < k → ¬ P j
  | 0, ⟨k, hk, _⟩ => by omega
  | m + 1, ⟨k, hk, h⟩ => by
    by_cases hm : ∃ k, k < m ∧ P k
    · obtain ⟨k, hk, h, hl⟩ := least P m hm
      exact ⟨k, by omega, h, hl⟩
    · have : k = m := by
        rcases Nat.lt_or_ge k m with h' | h'
        · exact absurd ⟨k, h', h⟩ hm
        · omega
      subst this
      exact ⟨k, by omega, h, fun j hj hp => hm ⟨j, hj, hp⟩⟩
theorem twice_dup (n : Nat) (x : Nat → Int) (hn : n ≤ 100) (h : Dupl n x) : coldframeref05_Twice.f 90000 (line n x) = some true := by
  obtain ⟨i, k, hi, hk, hne, he⟩ := h
  have hex : ∃ a, a < n ∧ ∃ q, q < a ∧ x a = x q := by
    rcases Nat.lt_or_ge i k with h | h
    · exact ⟨k, hk, i, h, he.symm⟩
    · exact ⟨i, hi, k, by omega, he⟩
  obtain ⟨a, ha, ⟨q, hq, e⟩, hl⟩ := least _ _ hex
  refine twice_yes (line n x) (by rw [line_len]; omega) a (by rw [line_len]; omega) (fun b hb q hq e => ?_) ⟨q, hq, ?_⟩ 90000 (Nat.le_refl _)
  · rw [rd_line n x b (by omega), rd_line n x q (by omega)] at e
    exact hl b hb ⟨q, hq, e⟩
  · rw [rd_line n x a ha, rd_line n x q (by omega), e]
theorem twice_none (n : Nat) (x : Nat → Int) (hn : n ≤ 100) (h : ¬ Dupl n x) : coldframeref05_Twice.f 90000 (line n x) = some false := by
  refine twice_no (line n x) (by rw [line_len]; omega) (fun i hi q hq e => ?_) 90000 (Nat.le_refl _)
  rw [line_len] at hi
  rw [rd_line n x i hi, rd_line n x q (by omega)] at e
  exact h ⟨i, q, hi, by omega, by omega, e⟩
theorem rvalue_loop (n : Nat) (hn : n ≤ 200) (c : Nat → Int) (hc : ∀ i, Byt (c i)) (x : Nat) (hx : x < 256) (d : Nat) : ∀ (k i : Nat), i + d = n → 400 + d ≤ k → coldframeref05_Value.l0 k (line n c) x (dotN c (fun i => ((gp x i : Nat) : Int)) i) (i : Int) = some (dotN c (fun i => ((gp x i : Nat) : Int)) n) := by
  induction d with
  | zero =>
    intro k i hi hk
    obtain ⟨k, rfl⟩ : ∃ q, k = q + 1 := ⟨k - 1, by omega⟩
    obtain rfl : i = n := by omega
    simp only [coldframeref05_Value.l0]
    rw [line_len, if_neg (by omega)]
  | succ d ih =>
    intro k i hi hk
    obtain ⟨k, rfl⟩ : ∃ q, k = q + 1 := ⟨k - 1, by omega⟩
    have hg : ∀ j, Byt ((gp x j : Nat) : Int) := fun j => by have := gp_lt x hx j; exact ⟨by omega, by omega⟩
    simp only [coldframeref05_Value.l0]
    rw [line_len, if_pos (by omega), if_pos (by omega), rd_line n c i (by omega), ref_pow k x i hx (by omega) (by omega)]
    simp only [bnd]
    rw [mulI k _ _ (hc i) (hg i) (by omega)]
    simp only [bnd]
    rw [xor_bits (dotN_byt hc i) (gmI_byt (hc i)), inc i (by omega)]
    exact ih k (i + 1) (by omega) (by omega)
theorem of_dotN (c g : Nat → Int) (hc : ∀ i, Byt (c i)) (hg : ∀ i, Byt (g i)) : ∀ n, G.of (dotN c g n) = sum n (fun j => G.of (g j) * G.of (c j))
  | 0 => rfl
  | n + 1 => by
    show G.of (xorI (dotN c g n) (gmI (c n) (g n))) = sum n _ + _
    rw [of_xor (dotN_byt hc n) (gmI_byt (hc n)), of_gm (hc n) (hg n), of_dotN c g hc hg n, Fd.mul_comm (G.of (c n))]
theorem byt_ev {n : Nat} {c : Nat → Int} (hc : ∀ i, Byt (c i)) (x : Int) (hx : Byt x) : G.of (horI (line n c) x) = ev n c x := by
  rw [← ev_hor]
  exact of_horI hx (line_byt n c hc)
theorem rvalue_f (n : Nat) (hn : n ≤ 200) (c : Nat → Int) (hc : ∀ i, Byt (c i)) (x : Int) (hx : Byt x) : coldframeref05_Value.f 2000 (line n c) x = some (horI (line n c) x) := by
  have hh := byt_ev (n := n) hc x hx
  have hb := horI_byt (x := x) (line_byt n c hc)
  obtain ⟨y, hy, rfl⟩ := byt_nat hx
  have hg : ∀ j, Byt ((gp y j : Nat) : Int) := fun j => by have := gp_lt y hy j; exact ⟨by omega, by omega⟩
  unfold coldframeref05_Value.f
  have h := rvalue_loop n hn c hc y hy n 2000 0 (by omega) (by omega)
  have e : dotN c (fun i => ((gp y i : Nat) : Int)) n = horI (line n c) (y : Int) := by
    refine G.of_inj (dotN_byt hc n) hb ?_
    rw [hh, of_dotN c _ hc hg]
    unfold ev
    exact sum_congr (fun j _ => by rw [of_gp y j hy])
  rw [e] at h
  exact h
/-- Both Values tell the same. -/
theorem value_calls (n c0 : Nat) (A : Option Addr) (c : Nat → Int) (x : Int) (W : World) (hC : (Kd.int .u8).C W A n (line n c)) (hc : ∀ i, Byt (c i)) (hx : Byt x) (hn : n ≤ 200) (hl : n ≤ c0) :
    Calls Try.prog 10 #[.slice A n c0, .int .u8 x] W fun e w' => e = .returned (.int .u8 (horI (line n c) x)) ∧ ∃ q, w' = W.drewN q := by
  have h := vand_Value.calls 2000 A c0 (line n c) x (horI (line n c) x) W (by rw [line_len]; exact hC) (by rw [line_len]; exact hl) (value_f _ (line_byt n c hc) (by rw [line_len]; omega) x hx)
  rw [line_len] at h
  refine h.mono ?_
  rintro e w' ⟨rfl, ⟨nd, rfl⟩⟩
  exact ⟨rfl, nd, rfl⟩
theorem rvalue_calls (n c0 : Nat) (A : Option Addr) (c : Nat → Int) (x : Int) (W : World) (hC : (Kd.int .u8).C W A n (line n c)) (hc : ∀ i, Byt (c i)) (hx : Byt x) (hn : n ≤ 200) (hl : n ≤ c0) :
    Calls Try.prog 11 #[.slice A n c0, .int .u8 x] W fun e w' => e = .returned (.int .u8 (horI (line n c) x)) ∧ ∃ q, w' = W.drewN q := by
  have h := coldframeref05_Value.calls 2000 A c0 (line n c) x (horI (line n c) x) W (by rw [line_len]; exact hC) (by rw [line_len]; exact hl) (rvalue_f n hn c hc x hx)
  rw [line_len] at h
  refine h.mono ?_
  rintro e w' ⟨rfl, ⟨nd, rfl⟩⟩
  exact ⟨rfl, nd, rfl⟩
theorem twice_calls (n c0 : Nat) (A : Option Addr) (x : Nat → Int) (b : Bool) (W : World) (hC : (Kd.int .u8).C W A n (line n x)) (hl : n ≤ c0) (h : coldframeref05_Twice.f 90000 (line n x) = some b) :
    Calls Try.prog 13 #[.slice A n c0] W fun e w' => e = .returned (.bool b) ∧ Below W.heap.size W w' := by
  have h := coldframeref05_Twice.calls 90000 A c0 (line n x) b W (by rw [line_len]; exact hC) (by rw [line_len]; exact hl) h
  rw [line_len] at h
  refine h.mono ?_
  rintro e w' ⟨rfl, hd⟩
  refine ⟨rfl, ?_⟩
  first | exact hd | (obtain ⟨nd, rfl⟩ := hd; exact pw_below_drewN (Below.refl _ _) nd) | exact hd.below

def gpf (x : Nat) : Nat → Int := fun i => ((gp x i : Nat) : Int)
theorem gpf_byt (x : Nat) (hx : x < 256) (i : Nat) : Byt (gpf x i) := by have := gp_lt x hx i; unfold gpf; exact ⟨by omega, by omega⟩
theorem prow_loop (x : Nat) (hx : x < 256) (n : Nat) (hn : n ≤ 100) (d : Nat) : ∀ (k i : Nat), i + d = n → 200 + d ≤ k → coldframeref05_Row.l0 k x n (line i (gpf x)) i = some (line n (gpf x)) := by
  induction d with
  | zero =>
    intro k i hd hk
    obtain ⟨k, rfl⟩ : ∃ m, k = m + 1 := ⟨k - 1, by omega⟩
    obtain rfl : i = n := by omega
    simp only [coldframeref05_Row.l0]
    rw [if_neg (by omega)]
  | succ d ih =>
    intro k i hd hk
    obtain ⟨k, rfl⟩ : ∃ m, k = m + 1 := ⟨k - 1, by omega⟩
    simp only [coldframeref05_Row.l0]
    rw [if_pos (by omega), ref_pow k x i hx (by omega) (by omega), bnd, if_pos (by rw [line_len]; omega), inc i (by omega)]
    have e : line i (gpf x) ++ [((gp x i : Nat) : Int)] = line (i + 1) (gpf x) := (line_succ i (gpf x)).symm
    rw [e]
    exact ih k (i + 1) (by omega) (by omega)
theorem prow_calls (x n : Nat) (hx : x < 256) (hn : n ≤ 100) (W : World) :
    Calls Try.prog 16 #[.int .u8 x, .int .i64 n] W fun e w' => ∃ A c, e = .returned (.slice A n c) ∧ Kd.R (Kd.int .u8) 5 w' W.heap.size (fun _ => True) (.slice A n c) (line n (gpf x)) ∧ Below W.heap.size W w' := by
  refine (coldframeref05_Row.calls 400 x n _ W (prow_loop x hx n hn n 400 0 (by omega) (by omega))).mono ?_
  rintro e w' ⟨v, rfl, hr, hb⟩
  obtain ⟨A, c, rfl⟩ := Kd.R_slice hr
  rw [line_len] at *
  exact ⟨A, c, rfl, hr, hb⟩
/-- The equations: powers, and a value behind them. -/
def eqM (n : Nat) (x v : Nat → Int) : Mtx := fun i j => if j < n then gpf (x i).toNat j else v i
theorem eqM_byt (n : Nat) {x v : Nat → Int} (hx : ∀ i, Byt (x i)) (hv : ∀ i, Byt (v i)) : BytM (eqM n x v) := by
  intro i j
  unfold eqM
  split
  · exact gpf_byt _ (by have := hx i; have := this.1; have := (hx i).2; omega) _
  · exact hv i
theorem eqM_row (n : Nat) (x v : Nat → Int) (i : Nat) : line n (gpf (x i).toNat) ++ [v i] = line (n + 1) (eqM n x v i) := by
  rw [line_succ]
  congr 1
  · exact line_congr n _ _ (fun j hj => by unfold eqM; rw [if_pos hj])
  · unfold eqM; rw [if_neg (Nat.lt_irrefl n)]
theorem eqM_thr {n : Nat} {x v p : Nat → Int} (hx : ∀ i, Byt (x i)) (hv : ∀ i, Byt (v i)) (hp : ∀ i, Byt (p i)) (hd : ¬ Dupl n x) (he : ∀ j, j < n → ev n p (x j) = G.of (v j)) {t : Nat} {M : Mtx} (h : StepsTo n (eqM n x v) (n + 1) t M) :
    ∀ i, i < n → M i n = p i := by
  have hb := eqM_byt n hx hv
  have hr := h.through hb (fun i => G.of (x i)) (fun i j hi hj e => by
    rcases Nat.decEq i j with hne | heq
    · exact absurd ⟨i, j, hi, hj, fun e' => hne e'.symm, G.of_inj (hx i) (hx j) e⟩ hd
    · exact heq) (fun i j hi hj => by
    show G.of (eqM n x v i j) = _
    unfold eqM
    rw [if_pos hj]
    obtain ⟨y, hy, e⟩ := byt_nat (hx i)
    rw [e, Int.toNat_natCast]
    exact of_gp y j hy) (fun i => G.of (p i)) (fun i hi => by
    rw [hor_sum]
    show sum n (fun j => pw (G.of (x i)) j * G.of (p j)) = G.of (eqM n x v i n)
    unfold eqM
    rw [if_neg (Nat.lt_irrefl n)]
    exact he i hi)
  intro i hi
  exact G.of_inj (h.byt hb i n) (hp i) (hr i hi)
theorem lit1 {w X : World} (v : Int) (h : Below w.heap.size w X) : Below w.heap.size w (X.alloc (.cells #[.int .u8 v] 5)) ∧ (Kd.int .u8).C (X.alloc (.cells #[.int .u8 v] 5)) (some ⟨X.heap.size, 0, none⟩) 1 [v] := by
  refine ⟨h.alloc h.size _, ?_⟩
  have ho := own_lit X X.heap.size 5 .u8 [v] (Nat.le_refl _) (by simp)
  have h := (Kd.R_reads' (Kd.R_of_own (enc := Value.int .u8) (h1 := fun _ => rfl) ho (fun _ _ => trivial) : Kd.R (Kd.int .u8) 5 _ _ (fun _ => True) _ [v])).2.2
  exact h
theorem C_to_R {W : World} {base : Nat} {A : Option Addr} {n c : Nat} {xs : List Int} (h : Kd.R (Kd.int .u8) 5 W base (fun _ => True) (.slice A n c) xs) : (Kd.int .u8).C W A n xs := by
  obtain ⟨h1, _, h2⟩ := Kd.R_reads' h
  rw [← h1] at h2
  exact h2
/-- One row more, appended, within a region. -/
theorem rows_append2_step {P : Program} {ops : Array Oper} {o : Oper} {a : Act} {Q : Exit → Act → World → Prop} {Kc : Act → World → Prop} {w0 W wr : World} (hP : P = Try.prog) (base : Nat) (hw : Region.wanted o (yielded ops a.tmps) = true) (s x : Operand)
    (ho : o.op = .call { callee := .builtin .append, args := #[s, x], argTypes := #[52, 52] }) (v u : Value) (ls : List (List Int)) (ys : List Int)
    (hs : a.eval s = v) (hx : a.eval x = .slice (some ⟨W.heap.size, 0, none⟩) 1 1) (HR : RowsR wr base v ls) (HB : Below base w0 W) (hbase : base ≤ wr.heap.size) (hB : Below wr.heap.size wr W)
    (hu : (Kd.int .u8).R 5 W wr.heap.size (fun _ => True) u ys) (hl : ls.length ≤ 1000000)
    (h : ∀ v1 w1, RowsR w1 base v1 (ls ++ [ys]) → Below base w0 w1 → Kc (a.put o.dst v1) w1) :
    if Region.wanted o (yielded ops a.tmps) = true then Oper.wp P o a (W.alloc (.cells #[u] 22)) Kc Q else Kc (a.put o.dst undef) (W.alloc (.cells #[u] 22)) := by
  subst hP
  have hown : W.ownsRow wr.heap.size 5 1 u ys.length (nums .u8 ys) := Kd.own_of_R hu
  refine Kd.R_append_step kRow (w0 := w0) base hw s x 52 22 (.slice none 0 0) 24 ho Try.underlying52 info_rows rfl (by decide) (by decide) v ls ys [u] (fun _ => True)
    (fun k => some k = u.ownBlock) hs hx (row_M hown hbase rfl) ?_ (fun _ _ => trivial) (Kd.R_below HR hB) HB (Nat.le_trans hbase hB.size) (by omega) (fun v1 w1 h1 h2 _ _ => h v1 w1 h1 h2)
  intro k hk
  refine ⟨trivial, fun e => ?_⟩
  have h1 := own_base hown k hk.symm
  have := Kd.R_lt HR k e.symm
  omega
set_option maxRecDepth 100000 in
set_option maxHeartbeats 8000000 in
theorem rthrough_any (n c0 c1 : Nat) (A0 A1 : Option Addr) (x v p : Nat → Int) (w : World) (hC0 : (Kd.int .u8).C w A0 n (line n x)) (hC1 : (Kd.int .u8).C w A1 n (line n v)) (hx : ∀ j, Byt (x j)) (hv : ∀ j, Byt (v j)) (hp : ∀ j, Byt (p j)) (h1 : 1 ≤ n) (h64 : n ≤ 64)
    (hd : ¬ Dupl n x) (he : ∀ j, j < n → ev n p (x j) = G.of (v j)) :
    Calls Try.prog 14 #[.slice A0 n c0, .slice A1 n c1] w fun e w' => ∃ A c, e = .returned (.slice A n c) ∧ (Kd.int .u8).C w' A n (line n p) ∧ Below w.heap.size w w' := by
  obtain ⟨ad0, rfl, _⟩ := at_row hC0 0 (by omega)
  obtain ⟨ad1, rfl, _⟩ := at_row hC1 0 (by omega)
  have HX := Lib.hid (fun W (hB : Below w.heap.size w W) j (hj : j < n) => show W.cell? (ad0.add j) = some (.int .u8 (x j)) by
    obtain ⟨a, e, h⟩ := at_row (Kd.C_below hC0 hB) j hj
    injection e with e
    rw [line_get n x j hj, ← e] at h
    exact h)
  have HV := Lib.hid (fun W (hB : Below w.heap.size w W) j (hj : j < n) => show W.cell? (ad1.add j) = some (.int .u8 (v j)) by
    obtain ⟨a, e, h⟩ := at_row (Kd.C_below hC1 hB) j hj
    injection e with e
    rw [line_get n v j hj, ← e] at h
    exact h)
  have HXB := Lib.hid hx
  have HVB := Lib.hid hv
  have HFIN := Lib.hid (fun t M (h : StepsTo n (eqM n x v) (n + 1) t M) => eqM_thr hx hv hp hd he h)
  clear hC0 hC1 hx hv hp hd he
  go_enter Try.func14, Try.ntmps14
  go_upto_region 3 with (fail)
  go_loopw [5, 6] (fun u0 iv wr => ∃ (i : Nat) (u : Value), u0 = u ∧ i ≤ n ∧ iv = .int .i64 i ∧ Hid (RowsR wr w.heap.size u (mat i (n + 1) (eqM n x v))) ∧ Hid (Below w.heap.size w wr)) (fun _ iv _ => n - (intOf iv).toNat)
  case atStart => exact ⟨0, _, rfl, by omega, rfl, Lib.hid (Kd.R_nil _ _ _ _ _), Lib.hid (Below.refl _ _)⟩
  case round =>
    obtain ⟨i, u, rfl, hi, rfl, HO, HB⟩ := hrel
    by_cases hlt : i < n
    · have g0 : (0 : Int) ≤ (i : Int) := by omega
      have g1 : (i : Int) < (n : Int) := by omega
      have hbx := HXB.out i
      have hxn : (x i).toNat < 256 := by have := hbx.1; have := hbx.2; omega
      have hxe : x i = (((x i).toNat : Nat) : Int) := by have := hbx.1; omega
      have KK := Lib.hid (fun W (hB : Below wr.heap.size wr W) => And.intro (HX.out W (HB.out.trans (hB.mono HB.out.size)) i hlt) (HV.out W (HB.out.trans (hB.mono HB.out.size)) i hlt))
      have KK0 := Lib.hid (fun W (hB : Below w.heap.size w W) => And.intro (HX.out W hB i hlt) (HV.out W hB i hlt))
      have RW := Lib.hid (fun W => prow_calls (x i).toNat n hxn (by omega) W)
      rw [← hxe] at RW
      have HER := Lib.hid (eqM_row n x v i)
      obtain ⟨pl, hpl⟩ : ∃ pl, pl = line n (gpf (x i).toNat) := ⟨_, rfl⟩
      rw [← hpl] at RW HER
      obtain ⟨xi, hxi⟩ : ∃ xi, xi = x i := ⟨_, rfl⟩
      obtain ⟨vi, hvi⟩ : ∃ vi, vi = v i := ⟨_, rfl⟩
      rw [← hxi] at KK KK0 RW
      rw [← hvi] at KK KK0 HER
      have HPL := Lib.hid (show pl.length = n by rw [hpl]; exact line_len _ _)
      clear hpl hxi hvi hxe hxn hbx
      go_upto_region 5 with (fail)
      have HZ := Lib.hid (show Below wr.heap.size wr wr.drew from (Below.refl _ _).drew)
      refine wp_region_noPanic ?_
      refine wp_region_held_drew (S := (fun W => W.cell? (ad0.add i) = some (.int .u8 xi) ∧ W.cell? (ad1.add i) = some (.int .u8 vi))) (by kernel_rfl) ?_ (fun hHeld => ?_)
      · ((try dsimp only); exact KK.out _ HZ.out)
      refine wpAnyH_take (i := 0) (oi := { dst := some 16, op := Go.Op.move (Go.Operand.tmp 5), type := 52, pos := "ref.go:67", after := #[], guard := none }) (v := ?_) rfl (by kernel_rfl) (by kernel_rfl) (by kernel_rfl) (fun _ _ _ h => h) (Or.inl ⟨by rfl, ?_⟩) (by assumption) ?_
      rotate_left 1
      · (intro w hSw; (try dsimp only at hSw); go_simp; try with_reducible rfl)
      try simp only [Act.put, List.setIfInBounds_toArray, List.set_cons_zero, List.set_cons_succ]
      refine wpAnyH_take (i := 1) (oi := { dst := some 17, op := Go.Op.move (Go.Operand.tmp 0), type := 22, pos := "ref.go:67", after := #[], guard := none }) (v := ?_) rfl (by kernel_rfl) (by kernel_rfl) (by kernel_rfl) (fun _ _ _ h => h) (Or.inl ⟨by rfl, ?_⟩) (by assumption) ?_
      rotate_left 1
      · (intro w hSw; (try dsimp only at hSw); go_simp; try with_reducible rfl)
      try simp only [Act.put, List.setIfInBounds_toArray, List.set_cons_zero, List.set_cons_succ]
      refine wpAnyH_take (i := 2) (oi := { dst := some 18, op := Go.Op.move (Go.Operand.tmp 6), type := 3, pos := "ref.go:67", after := #[], guard := none }) (v := ?_) rfl (by kernel_rfl) (by kernel_rfl) (by kernel_rfl) (fun _ _ _ h => h) (Or.inl ⟨by rfl, ?_⟩) (by assumption) ?_
      rotate_left 1
      · (intro w hSw; (try dsimp only at hSw); go_simp; try with_reducible rfl)
      try simp only [Act.put, List.setIfInBounds_toArray, List.set_cons_zero, List.set_cons_succ]
      refine wpAnyH_take (i := 3) (oi := { dst := some 19, op := Go.Op.indexAddr 22 (Go.Operand.tmp 17) (Go.Operand.tmp 18), type := 0, pos := "ref.go:67", after := #[{ on := 1, ground := Go.Ground.data }, { on := 2, ground := Go.Ground.data }], guard := none }) (v := ?_) rfl (by kernel_rfl) (by kernel_rfl) (by kernel_rfl) (fun _ _ _ h => h) (Or.inl ⟨by rfl, ?_⟩) (by assumption) ?_
      rotate_left 1
      · (intro w hSw; (try dsimp only at hSw); go_simp; try with_reducible rfl)
      try simp only [Act.put, List.setIfInBounds_toArray, List.set_cons_zero, List.set_cons_succ]
      refine wpAnyH_take (i := 4) (oi := { dst := some 20, op := Go.Op.load 5 (Go.Operand.tmp 19), type := 5, pos := "ref.go:67", after := #[{ on := 3, ground := Go.Ground.data }], guard := none }) (v := ?_) rfl (by kernel_rfl) (by kernel_rfl) (by kernel_rfl) (fun _ _ _ h => h) (Or.inl ⟨by rfl, ?_⟩) (by assumption) ?_
      rotate_left 1
      · (intro w hSw; (try dsimp only at hSw); go_simp; try with_reducible rfl)
      try simp only [Act.put, List.setIfInBounds_toArray, List.set_cons_zero, List.set_cons_succ]
      refine wpAnyH_take (i := 5) (oi := { dst := some 21, op := Go.Op.move (Go.Operand.tmp 0), type := 22, pos := "ref.go:67", after := #[], guard := none }) (v := ?_) rfl (by kernel_rfl) (by kernel_rfl) (by kernel_rfl) (fun _ _ _ h => h) (Or.inl ⟨by rfl, ?_⟩) (by assumption) ?_
      rotate_left 1
      · (intro w hSw; (try dsimp only at hSw); go_simp; try with_reducible rfl)
      try simp only [Act.put, List.setIfInBounds_toArray, List.set_cons_zero, List.set_cons_succ]
      refine wpAnyH_take (i := 6) (oi := { dst := some 22, op := Go.Op.call { callee := Go.Callee.builtin Go.Builtin.len, args := #[Go.Operand.tmp 21], argTypes := #[22] }, type := 3, pos := "ref.go:67", after := #[{ on := 5, ground := Go.Ground.data }], guard := none }) (v := ?_) rfl (by kernel_rfl) (by kernel_rfl) (by kernel_rfl) (fun _ _ _ h => h) (Or.inl ⟨by rfl, ?_⟩) (by assumption) ?_
      rotate_left 1
      · (intro w hSw; (try dsimp only at hSw); go_simp; try with_reducible rfl)
      try simp only [Act.put, List.setIfInBounds_toArray, List.set_cons_zero, List.set_cons_succ]
      refine wpAnyH_take (i := 8) (oi := { dst := some 24, op := Go.Op.move (Go.Operand.tmp 1), type := 22, pos := "ref.go:67", after := #[], guard := none }) (v := ?_) rfl (by kernel_rfl) (by kernel_rfl) (by kernel_rfl) (fun _ _ _ h => h) (Or.inl ⟨by rfl, ?_⟩) (by assumption) ?_
      rotate_left 1
      · (intro w hSw; (try dsimp only at hSw); go_simp; try with_reducible rfl)
      try simp only [Act.put, List.setIfInBounds_toArray, List.set_cons_zero, List.set_cons_succ]
      refine wpAnyH_take (i := 9) (oi := { dst := some 25, op := Go.Op.move (Go.Operand.tmp 6), type := 3, pos := "ref.go:67", after := #[], guard := none }) (v := ?_) rfl (by kernel_rfl) (by kernel_rfl) (by kernel_rfl) (fun _ _ _ h => h) (Or.inl ⟨by rfl, ?_⟩) (by assumption) ?_
      rotate_left 1
      · (intro w hSw; (try dsimp only at hSw); go_simp; try with_reducible rfl)
      try simp only [Act.put, List.setIfInBounds_toArray, List.set_cons_zero, List.set_cons_succ]
      refine wpAnyH_take (i := 10) (oi := { dst := some 26, op := Go.Op.indexAddr 22 (Go.Operand.tmp 24) (Go.Operand.tmp 25), type := 0, pos := "ref.go:67", after := #[{ on := 8, ground := Go.Ground.data }, { on := 9, ground := Go.Ground.data }], guard := none }) (v := ?_) rfl (by kernel_rfl) (by kernel_rfl) (by kernel_rfl) (fun _ _ _ h => h) (Or.inl ⟨by rfl, ?_⟩) (by assumption) ?_
      rotate_left 1
      · (intro w hSw; (try dsimp only at hSw); go_simp; try with_reducible rfl)
      try simp only [Act.put, List.setIfInBounds_toArray, List.set_cons_zero, List.set_cons_succ]
      refine wpAnyH_take (i := 11) (oi := { dst := some 27, op := Go.Op.load 5 (Go.Operand.tmp 26), type := 5, pos := "ref.go:67", after := #[{ on := 10, ground := Go.Ground.data }], guard := none }) (v := ?_) rfl (by kernel_rfl) (by kernel_rfl) (by kernel_rfl) (fun _ _ _ h => h) (Or.inl ⟨by rfl, ?_⟩) (by assumption) ?_
      rotate_left 1
      · (intro w hSw; (try dsimp only at hSw); go_simp; try with_reducible rfl)
      try simp only [Act.put, List.setIfInBounds_toArray, List.set_cons_zero, List.set_cons_succ]
      refine wpAnyH_ready (rs := [7, 12]) (by kernel_rfl) (by simp) ?_
      refine AllReadyH.cons (o := { dst := some 23, op := Go.Op.call { callee := Go.Callee.value (Go.Operand.func 16), args := #[Go.Operand.tmp 20, Go.Operand.tmp 22], argTypes := #[5, 3] }, type := 22, pos := "ref.go:67", after := #[{ on := 4, ground := Go.Ground.data }, { on := 6, ground := Go.Ground.data }], guard := none }) rfl (fun K hK => ?_) ?_
      · go_simp
        go_at_call 16
        (refine (RW.out _).mono ?_); rintro e x1 ⟨A5, c5, rfl, hr5, hb⟩
        have HRW := Lib.hid (Kd.R_lower hr5 (by first | exact HZ.out.size | (simp; done)))
        (try replace HVL := Lib.hid (Kd.C_below HVL.out hb))
        replace HZ := Lib.hid (HZ.out.trans (hb.mono HZ.out.size))
        clear hr5 hb
        clear hHeld
        refine hK.out _ _ ?_ (fun hHeld => ?_)
        · ((try dsimp only); exact KK.out _ HZ.out)
        clear hK K
        refine wpAnyH_ready (rs := [12]) (by kernel_rfl) (by simp) ?_
        refine AllReadyH.cons (o := { dst := some 28, op := Go.Op.buildSlice 22 1 #[(0, Go.Operand.tmp 27)], type := 22, pos := "ref.go:67", after := #[{ on := 11, ground := Go.Ground.data }], guard := none }) rfl (fun K hK => ?_) AllReadyH.nil
        go_simp
        (first | (have HL1 := lit1 (X := x1) vi HZ.out) | (have HL1 := lit1 (X := wr.drew) vi HZ.out))
        have HVL := Lib.hid HL1.2
        (try replace HRW := Lib.hid (Kd.R_alloc HRW.out (.cells #[.int .u8 vi] 5)))
        replace HZ := Lib.hid HL1.1
        clear HL1
        clear hHeld
        refine hK.out _ _ ?_ (fun hHeld => ?_)
        · ((try dsimp only); exact KK.out _ HZ.out)
        clear hK K
        refine wpAnyH_ready (rs := [13]) (by kernel_rfl) (by simp) ?_
        refine AllReadyH.cons (o := { dst := some 29, op := Go.Op.call { callee := Go.Callee.builtin Go.Builtin.append, args := #[Go.Operand.tmp 23, Go.Operand.tmp 28], argTypes := #[22, 22] }, type := 22, pos := "ref.go:67", after := #[{ on := 7, ground := Go.Ground.data }, { on := 12, ground := Go.Ground.data }, { on := 7, ground := Go.Ground.chain }], guard := none }) rfl (fun K hK => ?_) AllReadyH.nil
        refine Kd.R_append_rows_step (Kd.int .u8) (w0 := wr) wr.heap.size (by rfl) (.tmp 23) (.tmp 28) 22 5 (.int .u8 0) 1 rfl Try.underlying22 info_byte rfl (by decide) (by decide) (.slice A5 n c5) pl [vi] _ _ _ (fun _ => True) (fun _ => False) rfl rfl HRW.out HVL.out (fun _ _ h => h) (fun _ h => h.elim) (fun _ _ => trivial) HZ.out HZ.out.size (by have := HPL.out; omega) ?_
        intro v2 x2 ho hb _ _
        obtain ⟨A6, c6, e6⟩ := Kd.R_slice ho
        rw [show (pl ++ [vi]).length = n + 1 by have := HPL.out; simp [this]] at e6
        subst e6
        have HR6 := Lib.hid ho
        replace HZ := Lib.hid hb
        clear ho hb HRW HVL
        clear hHeld
        refine hK.out _ _ ?_ (fun hHeld => ?_)
        · ((try dsimp only); exact KK.out _ HZ.out)
        clear hK K
        refine wpAnyH_ready (rs := [14]) (by kernel_rfl) (by simp) ?_
        refine AllReadyH.cons (o := { dst := some 30, op := Go.Op.buildSlice 52 1 #[(0, Go.Operand.tmp 29)], type := 52, pos := "ref.go:67", after := #[{ on := 13, ground := Go.Ground.data }], guard := none }) rfl (fun K hK => ?_) AllReadyH.nil
        go_simp
        have HZ5 := Lib.hid (HZ.out.alloc HZ.out.size (.cells #[.slice A6 (n + 1) c6] 22))
        clear hHeld
        refine hK.out _ _ ?_ (fun hHeld => ?_)
        · ((try dsimp only); exact KK.out _ HZ5.out)
        clear hK K
        refine wpAnyH_ready (rs := [15]) (by kernel_rfl) (by simp) ?_
        refine AllReadyH.cons (o := { dst := some 31, op := Go.Op.call { callee := Go.Callee.builtin Go.Builtin.append, args := #[Go.Operand.tmp 16, Go.Operand.tmp 30], argTypes := #[52, 52] }, type := 52, pos := "ref.go:67", after := #[{ on := 0, ground := Go.Ground.data }, { on := 14, ground := Go.Ground.data }, { on := 13, ground := Go.Ground.chain }], guard := none }) rfl (fun K hK => ?_) AllReadyH.nil
        refine rows_append2_step (w0 := w) (wr := wr) rfl w.heap.size (by rfl) (.tmp 16) (.tmp 30) rfl u5 _ (mat i (n + 1) (eqM n x v)) (pl ++ [vi]) rfl rfl HO.out (HB.out.trans (HZ.out.mono HB.out.size)) HB.out.size HZ.out HR6.out (by rw [mat_len]; omega) ?_
        intro v7 x7 h7 hb7
        have H7 := Lib.hid h7
        have HB7 := Lib.hid hb7
        clear h7 hb7
        clear hHeld
        refine hK.out _ _ ?_ (fun hHeld => ?_)
        · ((try dsimp only); exact KK0.out _ HB7.out)
        clear hK K
        refine wpAnyH_take (i := 16) (oi := { dst := some 5, op := Go.Op.assign (Go.Operand.tmp 31), type := 52, pos := "ref.go:67", after := #[{ on := 15, ground := Go.Ground.data }, { on := 15, ground := Go.Ground.chain }, { on := 0, ground := Go.Ground.phase }, { on := 1, ground := Go.Ground.phase }, { on := 2, ground := Go.Ground.phase }, { on := 3, ground := Go.Ground.phase }, { on := 4, ground := Go.Ground.phase }, { on := 5, ground := Go.Ground.phase }, { on := 6, ground := Go.Ground.phase }, { on := 7, ground := Go.Ground.phase }, { on := 8, ground := Go.Ground.phase }, { on := 9, ground := Go.Ground.phase }, { on := 10, ground := Go.Ground.phase }, { on := 11, ground := Go.Ground.phase }, { on := 12, ground := Go.Ground.phase }, { on := 13, ground := Go.Ground.phase }, { on := 14, ground := Go.Ground.phase }, { on := 15, ground := Go.Ground.phase }], guard := none }) (v := ?_) rfl (by kernel_rfl) (by kernel_rfl) (by kernel_rfl) (fun _ _ _ h => h) (Or.inl ⟨by rfl, ?_⟩) (by assumption) ?_
        rotate_left 1
        · (intro w hSw; (try dsimp only at hSw); go_simp; try with_reducible rfl)
        try simp only [Act.put, List.setIfInBounds_toArray, List.set_cons_zero, List.set_cons_succ]
        refine wpAnyH_done (by kernel_rfl) ?_ _
        refine NoPanic.normal ?_
        (go_wp2; go_roundw; (case rel => exact ⟨i + 1, _, rfl, by omega, by go_num, Lib.hid (by rw [mat_succ, ← HER.out]; exact H7.out), HB7⟩); (case measure => simp [intOf]; omega))
      refine AllReadyH.cons (o := { dst := some 28, op := Go.Op.buildSlice 22 1 #[(0, Go.Operand.tmp 27)], type := 22, pos := "ref.go:67", after := #[{ on := 11, ground := Go.Ground.data }], guard := none }) rfl (fun K hK => ?_) AllReadyH.nil
      go_simp
      (first | (have HL1 := lit1 (X := x1) vi HZ.out) | (have HL1 := lit1 (X := wr.drew) vi HZ.out))
      have HVL := Lib.hid HL1.2
      (try replace HRW := Lib.hid (Kd.R_alloc HRW.out (.cells #[.int .u8 vi] 5)))
      replace HZ := Lib.hid HL1.1
      clear HL1
      clear hHeld
      refine hK.out _ _ ?_ (fun hHeld => ?_)
      · ((try dsimp only); exact KK.out _ HZ.out)
      clear hK K
      refine wpAnyH_ready (rs := [7]) (by kernel_rfl) (by simp) ?_
      refine AllReadyH.cons (o := { dst := some 23, op := Go.Op.call { callee := Go.Callee.value (Go.Operand.func 16), args := #[Go.Operand.tmp 20, Go.Operand.tmp 22], argTypes := #[5, 3] }, type := 22, pos := "ref.go:67", after := #[{ on := 4, ground := Go.Ground.data }, { on := 6, ground := Go.Ground.data }], guard := none }) rfl (fun K hK => ?_) AllReadyH.nil
      go_simp
      go_at_call 16
      (refine (RW.out _).mono ?_); rintro e x1 ⟨A5, c5, rfl, hr5, hb⟩
      have HRW := Lib.hid (Kd.R_lower hr5 (by first | exact HZ.out.size | (simp; done)))
      (try replace HVL := Lib.hid (Kd.C_below HVL.out hb))
      replace HZ := Lib.hid (HZ.out.trans (hb.mono HZ.out.size))
      clear hr5 hb
      clear hHeld
      refine hK.out _ _ ?_ (fun hHeld => ?_)
      · ((try dsimp only); exact KK.out _ HZ.out)
      clear hK K
      refine wpAnyH_ready (rs := [13]) (by kernel_rfl) (by simp) ?_
      refine AllReadyH.cons (o := { dst := some 29, op := Go.Op.call { callee := Go.Callee.builtin Go.Builtin.append, args := #[Go.Operand.tmp 23, Go.Operand.tmp 28], argTypes := #[22, 22] }, type := 22, pos := "ref.go:67", after := #[{ on := 7, ground := Go.Ground.data }, { on := 12, ground := Go.Ground.data }, { on := 7, ground := Go.Ground.chain }], guard := none }) rfl (fun K hK => ?_) AllReadyH.nil
      refine Kd.R_append_rows_step (Kd.int .u8) (w0 := wr) wr.heap.size (by rfl) (.tmp 23) (.tmp 28) 22 5 (.int .u8 0) 1 rfl Try.underlying22 info_byte rfl (by decide) (by decide) (.slice A5 n c5) pl [vi] _ _ _ (fun _ => True) (fun _ => False) rfl rfl HRW.out HVL.out (fun _ _ h => h) (fun _ h => h.elim) (fun _ _ => trivial) HZ.out HZ.out.size (by have := HPL.out; omega) ?_
      intro v2 x2 ho hb _ _
      obtain ⟨A6, c6, e6⟩ := Kd.R_slice ho
      rw [show (pl ++ [vi]).length = n + 1 by have := HPL.out; simp [this]] at e6
      subst e6
      have HR6 := Lib.hid ho
      replace HZ := Lib.hid hb
      clear ho hb HRW HVL
      clear hHeld
      refine hK.out _ _ ?_ (fun hHeld => ?_)
      · ((try dsimp only); exact KK.out _ HZ.out)
      clear hK K
      refine wpAnyH_ready (rs := [14]) (by kernel_rfl) (by simp) ?_
      refine AllReadyH.cons (o := { dst := some 30, op := Go.Op.buildSlice 52 1 #[(0, Go.Operand.tmp 29)], type := 52, pos := "ref.go:67", after := #[{ on := 13, ground := Go.Ground.data }], guard := none }) rfl (fun K hK => ?_) AllReadyH.nil
      go_simp
      have HZ5 := Lib.hid (HZ.out.alloc HZ.out.size (.cells #[.slice A6 (n + 1) c6] 22))
      clear hHeld
      refine hK.out _ _ ?_ (fun hHeld => ?_)
      · ((try dsimp only); exact KK.out _ HZ5.out)
      clear hK K
      refine wpAnyH_ready (rs := [15]) (by kernel_rfl) (by simp) ?_
      refine AllReadyH.cons (o := { dst := some 31, op := Go.Op.call { callee := Go.Callee.builtin Go.Builtin.append, args := #[Go.Operand.tmp 16, Go.Operand.tmp 30], argTypes := #[52, 52] }, type := 52, pos := "ref.go:67", after := #[{ on := 0, ground := Go.Ground.data }, { on := 14, ground := Go.Ground.data }, { on := 13, ground := Go.Ground.chain }], guard := none }) rfl (fun K hK => ?_) AllReadyH.nil
      refine rows_append2_step (w0 := w) (wr := wr) rfl w.heap.size (by rfl) (.tmp 16) (.tmp 30) rfl u5 _ (mat i (n + 1) (eqM n x v)) (pl ++ [vi]) rfl rfl HO.out (HB.out.trans (HZ.out.mono HB.out.size)) HB.out.size HZ.out HR6.out (by rw [mat_len]; omega) ?_
      intro v7 x7 h7 hb7
      have H7 := Lib.hid h7
      have HB7 := Lib.hid hb7
      clear h7 hb7
      clear hHeld
      refine hK.out _ _ ?_ (fun hHeld => ?_)
      · ((try dsimp only); exact KK0.out _ HB7.out)
      clear hK K
      refine wpAnyH_take (i := 16) (oi := { dst := some 5, op := Go.Op.assign (Go.Operand.tmp 31), type := 52, pos := "ref.go:67", after := #[{ on := 15, ground := Go.Ground.data }, { on := 15, ground := Go.Ground.chain }, { on := 0, ground := Go.Ground.phase }, { on := 1, ground := Go.Ground.phase }, { on := 2, ground := Go.Ground.phase }, { on := 3, ground := Go.Ground.phase }, { on := 4, ground := Go.Ground.phase }, { on := 5, ground := Go.Ground.phase }, { on := 6, ground := Go.Ground.phase }, { on := 7, ground := Go.Ground.phase }, { on := 8, ground := Go.Ground.phase }, { on := 9, ground := Go.Ground.phase }, { on := 10, ground := Go.Ground.phase }, { on := 11, ground := Go.Ground.phase }, { on := 12, ground := Go.Ground.phase }, { on := 13, ground := Go.Ground.phase }, { on := 14, ground := Go.Ground.phase }, { on := 15, ground := Go.Ground.phase }], guard := none }) (v := ?_) rfl (by kernel_rfl) (by kernel_rfl) (by kernel_rfl) (fun _ _ _ h => h) (Or.inl ⟨by rfl, ?_⟩) (by assumption) ?_
      rotate_left 1
      · (intro w hSw; (try dsimp only at hSw); go_simp; try with_reducible rfl)
      try simp only [Act.put, List.setIfInBounds_toArray, List.set_cons_zero, List.set_cons_succ]
      refine wpAnyH_done (by kernel_rfl) ?_ _
      refine NoPanic.normal ?_
      (go_wp2; go_roundw; (case rel => exact ⟨i + 1, _, rfl, by omega, by go_num, Lib.hid (by rw [mat_succ, ← HER.out]; exact H7.out), HB7⟩); (case measure => simp [intOf]; omega))
    · obtain rfl : i = n := by omega
      obtain ⟨A5, c5, e5, hl5, hC5⟩ := Kd.R_reads HO.out
      rw [mat_len] at e5 hl5 hC5
      subst e5
      have ST := Lib.hid (steps_any i (i + 1) c5 A5 (eqM i x v) wr hC5 (eqM_byt i HXB.out HVB.out) h1 (by omega) (by omega) (by omega))
      clear hC5 hl5
      go_upto_region 9 with (go_at_call 32; (with_reducible refine ST.out.mono ?_); rintro e w5 ⟨u7, t, M, rfl, h7, hst, hb5⟩; have H7 := Lib.hid h7; have HST := Lib.hid hst; have HB5 := Lib.hid (HB.out.trans (hb5.mono HB.out.size)); clear h7 hst hb5)
      obtain ⟨A7, c7, e7, hl7, hC7⟩ := Kd.R_reads H7.out
      rw [mat_len] at e7 hl7 hC7
      subst e7
      have HC7 := Lib.hid hC7
      clear hC7 hl7 ST H7
      go_loopw [8, 9] (fun u0 jv wr' => ∃ (j : Nat) (u : Value), u0 = u ∧ j ≤ i ∧ jv = .int .i64 j ∧ Hid (Kd.R (Kd.int .u8) 5 wr' w5.heap.size (fun _ => True) u (line j (fun q => M q i))) ∧ Hid (Below w5.heap.size w5 wr')) (fun _ jv _ => i - (intOf jv).toNat)
      case atStart => exact ⟨0, _, rfl, by omega, rfl, Lib.hid (Kd.R_nil _ _ _ _ _), Lib.hid (Below.refl _ _)⟩
      case round =>
        obtain ⟨j, u, rfl, hj, rfl, HO2, HB2⟩ := hrel
        by_cases hji : j < i
        · obtain ⟨ad7, A8, c8, e8, hcell, _, hC8⟩ := mrow (Kd.C_below HC7.out HB2.out) j hji
          subst e8
          obtain ⟨ad8, e9, hcc⟩ := at_row hC8 i (by omega)
          subst e9
          rw [line_get (i + 1) (M j) i (by omega)] at hcc
          have g0 : (0 : Int) ≤ (j : Int) := by omega
          have g1 : (j : Int) < (i : Int) := by omega
          have g2 : (0 : Int) ≤ (i : Int) := by omega
          have g3 : (i : Int) < (i : Int) + 1 := by omega
          obtain ⟨y, hy⟩ : ∃ y, y = M j i := ⟨_, rfl⟩
          rw [← hy] at hcc
          have HY := Lib.hid hy
          clear hy hC8
          go_wp2_with (at_builtin; refine VPts.byte_append (w0 := w5) rfl w5.heap.size rfl _ _ rfl u8 (line j (fun q => M q i)) y (fun _ => True) rfl rfl HO2.out (fun _ _ => trivial) HB2.out HB2.out.size (by rw [line_len]; omega) ?_; intro v1 w2 hr2 hb2 hg2; have HR3 := Lib.hid hr2; have HB3 := Lib.hid hb2; clear hr2 hb2 hg2)
          go_roundw
          case rel => exact ⟨j + 1, _, rfl, by omega, by go_num, Lib.hid (by rw [line_succ, ← HY.out]; exact HR3.out), HB3⟩
          case measure => simp [intOf]; omega
        · obtain rfl : j = i := by omega
          obtain ⟨A9, c9, e9, hl9, hC9⟩ := Kd.R_reads HO2.out
          rw [line_len] at e9 hl9 hC9
          subst e9
          rw [line_congr j (fun q => M q j) p (HFIN.out t M HST.out)] at hC9
          have HC9 := Lib.hid hC9
          clear hC9 hl9
          go_wp2
          go_ret
          exact ⟨A9, c9, rfl, HC9.out, HB5.out.trans (HB2.out.mono HB5.out.size)⟩
end Go.Proofs.Ytelgefkfflgbeaa.Sol
