/- The statement MsrBack: what its proof rests on, part 2 of 4. -/
import Derived.Test.YtmefhhkfakmhgaaProg
import Derived.Below
import Derived.Deep.Draws
import Derived.Deep.AppendLies
import Derived.Maps.AppendAt
import Derived.OwnWalk
import Derived.Laws.BytesArg
import Derived.Laws.MakeOwn
import Derived.Laws.OwnMore
import Derived.Deep.OwnRows
import Derived.Tactics
import Derived.Lib.ConvBytes
import Derived.Laws.Slices
import Derived.WalkKit
import Derived.KernelRfl
import Derived.RowKit3
import Derived.Deep.LoopGhost
import Derived.Deep.QuietTactic
import Derived.BigQuiet
import Derived.WideLaws
import Derived.Deep.DeepCutAuto
import Derived.Deep.CutBlock
import Derived.Deep.RegionHeld3
import Derived.Laws.Rows
import Derived.Lib.AppendStr
import Derived.ArgAppend
import Derived.Laws.IdiomCopy
import Derived.OrdersHeld
import Derived.Laws.BitsLemmas
import Derived.RowKit
import Derived.Lib.Hide
import Derived.WalkSpells
import Derived.StillTailTactics
import Derived.Outline
import Derived.Test.YtmefhhkfakmhgaaPMsrCodesx4
import Derived.Test.YtmefhhkfakmhgaaPMsrCodesx1
import Derived.ProofKit
import Derived.OpenShut
import Derived.ChangeOld
import Derived.Deep.Slices
import Derived.Test.YtmefhhkfakmhgaaWWords
import Derived.Test.YtmefhhkfakmhgaaZMsrBacka
namespace Go.Proofs.Ytmefhhkfakmhgaa.Sol
open Go Go.RowKit Go.Proofs.Ytmefhhkfakmhgaa.Gi Go.Proofs.Ytmefhhkfakmhgaa.Gf Go.Proofs.Ytmefhhkfakmhgaa.Mem Go.Proofs.Ytmefhhkfakmhgaa.Bits Go.Proofs.Ytmefhhkfakmhgaa.Rws Go.Proofs.YtmefhhkfakmhgaaW.PrintWords
set_option linter.unusedVariables false
def augM (m : Nat) (A B : Mtx) : Mtx := fun i j => if j < m then A i j else B i (j - m)
theorem augM_byt {m : Nat} {A B : Mtx} (hA : BytM A) (hB : BytM B) : BytM (augM m A B) := by
  intro i j
  unfold augM
  split
  · exact hA _ _
  · exact hB _ _
theorem mat_right (n m : Nat) (C : Mtx) (h1 : 1 ≤ n) (h2 : n ≤ 64) (h3 : 1 ≤ m) (h4 : m ≤ 64) : Mat.RightP (mat n m C) := by
  have e : ((mat n m C).getD 0 []).length = m := by rw [mat_get n m C 0 (by omega), line_len]
  refine ⟨by rw [mat_len]; exact h1, by rw [mat_len]; exact h2, by rw [e]; exact h3, by rw [e]; exact h4, fun l hl => ?_⟩
  obtain ⟨i, _, rfl⟩ := List.mem_map.1 hl
  rw [e, line_len]
theorem mat_bytes (n m : Nat) {C : Mtx} (h : BytM C) : Mat.AllBytes (mat n m C) := by
  intro l hl
  obtain ⟨i, _, rfl⟩ := List.mem_map.1 hl
  exact line_byt m _ (h i)
theorem of_grid (n m lo hi c : Nat) (A : Option Addr) (R : Nat → Value) (C : Mtx) (w : World) (h : Grid w lo hi (.slice A n c) n m R C) (hC : BytM C) (h1 : 1 ≤ n) (h2 : n ≤ 64) (h3 : 1 ≤ m) (h4 : m ≤ 64) :
    Calls Try.prog 58 #[.slice A n c] w fun e w' => ∃ b s cap, e = .returned (.tuple #[.pointer (some ⟨b, 0, none⟩), .int .i64 0]) ∧ Mat.MatIn w' b s n m cap (Mat.flat (mat n m C)) ∧ Below w.heap.size w w' := by
  obtain ⟨hl, hc, hC'⟩ := Kd.R_reads' h.rows
  have e : ((mat n m C).getD 0 []).length = m := by rw [mat_get n m C 0 (by omega), line_len]
  have h := Mat.of_right A c (mat n m C) w w (Below.refl _ _) hC' (mat_right n m C h1 h2 h3 h4) (mat_bytes n m hC) (by omega)
  rw [mat_len, e] at h
  refine h.mono ?_
  rintro e w' ⟨b, s, cap, rfl, hm, hb, _, _⟩
  exact ⟨b, s, cap, rfl, hm, hb⟩
theorem flat_mx (n m : Nat) (C : Mtx) (i j : Nat) (hi : i < n) (hj : j < m) : mx m (Mat.flat (mat n m C)) i j = C i j := by
  unfold mx
  rw [Mat.flat_getD m (mat n m C) (fun l hl => by obtain ⟨q, _, rfl⟩ := List.mem_map.1 hl; exact line_len _ _) i j (by rw [mat_len]; exact hi) hj, mat_get n m C i hi, line_get m _ j hj]
theorem swith_aug (v u : Value) (n m q : Nat) (xs ys : List Int) (w : World) (h : Mat.IsMat w v n m xs) (h' : Mat.IsMat w u n q ys) :
    Calls Try.prog 63 #[v, u] w fun e w' => ∃ mid top p va vb Ra Rb, e = .returned (.pointer (some ⟨p, 0, none⟩)) ∧ Work w' w.heap.size mid top p va vb n m q Ra Rb (augM m (mx m xs) (mx q ys)) ∧ Below w.heap.size w w' :=
  swith_any v u n m q xs ys w h h'
section
variable (b s cap n m : Nat) (xs : List Int) (w : World)
end
def SolvePost (n q : Nat) (C0 : Mtx) (w : World) (e : Ending) (w' : World) : Prop :=
  Below w.heap.size w w' ∧ ∃ t C, StepsTo n C0 n t C ∧ ((t < n ∧ e = .returned (.tuple #[.pointer none, .int .i64 23])) ∨
    (t = n ∧ ∃ b s cap, e = .returned (.tuple #[.pointer (some ⟨b, 0, none⟩), .int .i64 0]) ∧ Mat.MatIn w' b s n q cap (Mat.flat (mat n q (fun i j => C i (n + j))))))
theorem BytM.shift {C : Mtx} (h : BytM C) (n : Nat) : BytM (fun i j => C i (n + j)) := fun i j => h i (n + j)
theorem size_b (v : Value) (r c : Nat) (xs : List Int) (w : World) (h : Mat.IsMat w v r c xs) :
    Calls Try.prog 60 #[v] w fun e w' => e = .returned (.tuple #[.int .i64 r, .int .i64 c]) ∧ Below w.heap.size w w' := by
  refine (Mat.size_any v r c xs w h).mono ?_
  rintro e w' ⟨rfl, q, rfl⟩
  exact ⟨rfl, pw_below_drewN (Below.refl _ _) q⟩
section
variable (b s cap b1 s1 cap1 n m k q : Nat) (xs ys : List Int) (w : World)
set_option maxRecDepth 100000 in
set_option maxHeartbeats 2000000 in
theorem solve_good (h : Mat.MatIn w b s n n cap xs) (h' : Mat.MatIn w b1 s1 n q cap1 ys) :
    Calls Try.prog 59 #[.pointer (some ⟨b, 0, none⟩), .pointer (some ⟨b1, 0, none⟩)] w (SolvePost n q (augM n (mx n xs) (mx q ys)) w) := by
  have WT := Lib.hid (fun W (hB : Below w.heap.size w W) => swith_aug _ _ n n q xs ys W ⟨b, s, cap, rfl, h.below hB⟩ ⟨b1, s1, cap1, rfl, h'.below hB⟩)
  have SA := Lib.hid (fun W (hB : Below w.heap.size w W) => size_b _ n n xs W ⟨b, s, cap, rfl, h.below hB⟩)
  have SB := Lib.hid (fun W (hB : Below w.heap.size w W) => size_b _ n q ys W ⟨b1, s1, cap1, rfl, h'.below hB⟩)
  have BY := Lib.hid (augM_byt (m := n) (mx_byt (c := n) h.byt) (mx_byt (c := q) h'.byt))
  have N1 := Lib.hid (And.intro h.r0 (show n ≤ 1000 by have := h.r1; omega))
  have M1 := N1
  have Q1 := Lib.hid (And.intro h'.c0 (show q ≤ 1000 by have := h'.c1; omega))
  have NM := Lib.hid (And.intro h.r1 h'.c1)
  have HB := Lib.hid (Below.refl w.heap.size w)
  have t1 : ((n : Int) != (n : Int)) = false := by simp
  clear h h'
  go_enter Try.func59, Try.ntmps59
  go_wp2_with (first
    | (go_at_call 60; (first | (with_reducible refine (SA.out _ HB.out).mono ?_) | (with_reducible refine (SB.out _ HB.out).mono ?_)); rintro e w0 ⟨rfl, hb⟩; have HBn := Lib.hid (HB.out.trans (hb.mono HB.out.size)); clear HB hb; have HB := HBn; clear HBn)
    | (go_at_call 63; (with_reducible refine (WT.out _ HB.out).mono ?_); rintro e w1 ⟨mid, top, p, va, vb, Ra, Rb, rfl, hw, hb⟩; have HW := Lib.hid hw; have HS := Lib.hid hb.size; have HL := Lib.hid HB.out.size; have HBn := Lib.hid (HB.out.trans (hb.mono HB.out.size)); clear HB hb; have HB := HBn; clear HBn; clear hw)
    | (go_at_call 64; (with_reducible refine (ssteps_any _ mid top p _ _ _ va vb Ra Rb _ w1 HW.out BY.out N1.out.1 N1.out.2 M1.out.1 M1.out.2 Q1.out.1 Q1.out.2 HS.out).mono ?_); rintro e w2 ⟨A2, c2, t, Ra', Rb', C, rfl, hw2, hst, hb2⟩; obtain ⟨A3, c3, e3⟩ := own_slice hw2.gb.hd; subst e3; have hvb := hw2.cells.2; have HW2 := Lib.hid hw2; have HST := Lib.hid hst; have HB3 := Lib.hid (HB.out.trans (hb2.mono HL.out)); clear HB hw2 hst hb2)
    | (go_at_call 58; (with_reducible refine (of_grid n q _ _ c3 A3 Rb' (fun i j => C i (n + j)) _ HW2.out.gb (BytM.shift (HST.out.byt BY.out) n) N1.out.1 NM.out.1 Q1.out.1 NM.out.2).mono ?_); rintro e w3 ⟨b', s', cap', rfl, hm, hb⟩; have HM := Lib.hid hm; have HB4 := Lib.hid (HB3.out.trans (hb.mono HB3.out.size)); clear hm hb))
  · go_ret2
    exact ⟨HB3.out, t, C, HST.out, .inl ⟨by omega, rfl⟩⟩
  · go_ret2
    exact ⟨HB4.out, t, C, HST.out, .inr ⟨by have := HST.out.le; omega, b', s', cap', rfl, HM.out⟩⟩
end
inductive DetTo (n : Nat) (C0 : Mtx) : Nat → Int → Mtx → Prop
  | start : DetTo n C0 0 1 C0
  | step {col k : Nat} {r d : Int} {C : Mtx} : DetTo n C0 col d C → col ≤ k → k < n → (∀ j, col ≤ j → j < k → C j col = 0) → C k col ≠ 0 → Byt r → gmI (C k col) r = 1 → DetTo n C0 (col + 1) (gmI d (C k col)) (stepI C col k col r)
theorem DetTo.byt {n : Nat} {C0 : Mtx} (h0 : BytM C0) {col : Nat} {d : Int} {C : Mtx} (h : DetTo n C0 col d C) : BytM C ∧ Byt d := by
  induction h with
  | start => exact ⟨h0, ⟨by decide, by decide⟩⟩
  | step _ _ _ _ _ hr _ ih => exact ⟨stepI_byt ih.1 hr, gmI_byt ih.2⟩
section
variable (b s cap n m : Nat) (xs : List Int) (w : World)
end
end Go.Proofs.Ytmefhhkfakmhgaa.Sol
namespace Go.Proofs.Ytmefhhkfakmhgaa.Mat
open Go Go.RowKit Go.Proofs.Ytmefhhkfakmhgaa.Mem Go.Proofs.Ytmefhhkfakmhgaa.Bits Go.Proofs.Ytmefhhkfakmhgaa.Gf Go.Proofs.YtmefhhkfakmhgaaW.PrintWords
set_option linter.unusedVariables false
end Go.Proofs.Ytmefhhkfakmhgaa.Mat
namespace Go.Proofs.Ytmefhhkfakmhgaa.Sol
open Go Go.RowKit Go.Proofs.Ytmefhhkfakmhgaa.Gf Go.Proofs.Ytmefhhkfakmhgaa.Gi Go.Proofs.Ytmefhhkfakmhgaa.Alg Go.Proofs.Ytmefhhkfakmhgaa.Mem Go.Proofs.Ytmefhhkfakmhgaa.Rws Go.Proofs.YtmefhhkfakmhgaaW.PrintWords
set_option linter.unusedVariables false
theorem StepsTo.oneFull {n : Nat} {M0 : Mtx} (h0 : BytM M0) {col t : Nat} {M : Mtx} (h : StepsTo n M0 col t M) : t = col → OneTo (el M) n col := by
  induction h with
  | start => exact fun _ i j _ hj => absurd hj (Nat.not_lt_zero j)
  | skip hs _ _ => exact fun e => absurd hs.le.1 (by omega)
  | @step col t k r M hs htk hk hz hp hr h1 ih =>
    intro e
    have e' : t = col := by omega
    subst e'
    rw [stepI_el (hs.byt h0) hr h1]
    exact stepF_one (el M) n k t (ih rfl) hk htk (of_ne (hs.byt h0 k t) hp)
theorem StepsTo.eqs {n q : Nat} {A B : Mtx} (hA : BytM A) (hB : BytM B) {C : Mtx} (h : StepsTo n (augM n A B) n n C) (i : Nat) (hi : i < n) (l : Nat) (hl : l < q) :
    dotF n (el A i) (fun j => G.of (C j (n + l))) = G.of (B i l) := by
  have h0 := augM_byt (m := n) hA hB
  have ho := h.oneFull h0 rfl
  obtain ⟨c, hcn, hcl, hcz⟩ : ∃ c : Nat → G, (∀ j, j < n → c j = G.of (C j (n + l))) ∧ c (n + l) = 1 ∧ ∀ j, ¬ j < n → j ≠ n + l → c j = 0 :=
    ⟨fun j => if j < n then G.of (C j (n + l)) else if j = n + l then 1 else 0, fun j hj => by simp [hj], by simp only [if_true]; rw [if_neg (by omega)], fun j h1 h2 => by simp [h1, h2]⟩
  have hk := (h.ker (m := n + q) h0 c).1 (fun p hp => by
    unfold dotF
    rw [sum_at2 (a := p) (b := n + l) (by omega) (by omega) (by omega) (fun j _ h1 h2 => ?_)]
    · rw [hcn p hp, hcl, ho p p hp hp, if_pos rfl, Alg.one_mul, Fd.mul_one]
      exact Fd.add_self _
    · by_cases hj : j < n
      · rw [ho p j hp hj, if_neg (fun e => h1 e.symm), zero_mul]
      · rw [hcz j hj h2, mul_zero])
  have h1 := hk i hi
  unfold dotF at h1
  rw [sum_split] at h1
  have e1 : sum n (fun j => el (augM n A B) i j * c j) = dotF n (el A i) (fun j => G.of (C j (n + l))) := by
    unfold dotF
    exact sum_congr (fun j hj => by rw [hcn j hj]; unfold el augM; rw [if_pos hj])
  have e2 : sum q (fun j => el (augM n A B) i (n + j) * c (n + j)) = G.of (B i l) := by
    rw [sum_at (a := l) hl (fun j _ hne => by rw [hcz (n + j) (by omega) (by omega), mul_zero]), hcl, Fd.mul_one]
    unfold el augM
    rw [if_neg (by omega), Nat.add_sub_cancel_left]
  rw [e1, e2] at h1
  exact eq_of_add_zero h1
theorem of_dotTo {xs ys : List Int} (hx : Mat.Bytes xs) (hy : Mat.Bytes ys) : ∀ k, G.of (Mat.dotTo xs ys k) = sum k (fun j => G.of (xs.getD j 0) * G.of (ys.getD j 0))
  | 0 => rfl
  | k + 1 => by
    show G.of (xorI (Mat.dotTo xs ys k) (gmI (xs.getD k 0) (ys.getD k 0))) = _
    rw [of_xor (Mat.dotTo_range xs ys hx k) (gmI_byt (hx.getD k)), of_gm (hx.getD k) (hy.getD k), of_dotTo hx hy k]
    rfl
theorem inv_ex {a : Int} (ha : Byt a) (h : a ≠ 0) : ∃ r, Byt r ∧ gmI a r = 1 := by
  obtain ⟨x, hx, rfl⟩ := byt_nat ha
  exact ⟨((ginv x : Nat) : Int), by have := ginv_lt x hx; exact ⟨by omega, by omega⟩, by simp only [gmI, Int.toNat_natCast]; rw [gm_inv x hx (by omega)]; rfl⟩
theorem least_of (P : Nat → Prop) : ∀ m, (∃ k, k < m ∧ P k) → ∃ k, k < m ∧ P k ∧ ∀ j, j < k → ¬ P j
  | 0, ⟨k, hk, _⟩ => by omega
  | m + 1, ⟨k, hk, h⟩ => by
    by_cases hm : ∃ k, k < m ∧ P k
    · obtain ⟨k, hk, h, hl⟩ := least_of P m hm
      exact ⟨k, by omega, h, hl⟩
    · have : k = m := by
        rcases Nat.lt_or_ge k m with h' | h'
        · exact absurd ⟨k, h', h⟩ hm
        · omega
      subst this
      exact ⟨k, by omega, h, fun j hj hp => hm ⟨j, hj, hp⟩⟩
theorem StepsTo.ex (n : Nat) {M0 : Mtx} (h0 : BytM M0) : ∀ col, ∃ t M, StepsTo n M0 col t M
  | 0 => ⟨0, M0, .start⟩
  | col + 1 => by
    obtain ⟨t, M, h⟩ := StepsTo.ex n h0 col
    by_cases hx : ∃ k, k < n ∧ (t ≤ k ∧ M k col ≠ 0)
    · obtain ⟨k, hk, ⟨h1, h2⟩, hl⟩ := least_of _ _ hx
      obtain ⟨r, hr, hr1⟩ := inv_ex (h.byt h0 k col) h2
      exact ⟨t + 1, _, .step h h1 hk (fun j h3 h4 => by
        rcases Int.decEq (M j col) 0 with e | e
        · exact absurd ⟨h3, e⟩ (hl j h4)
        · exact e) h2 hr hr1⟩
    · exact ⟨t, M, .skip h (fun j h3 h4 => by
        rcases Int.decEq (M j col) 0 with e | e
        · exact absurd ⟨j, h4, h3, e⟩ hx
        · exact e)⟩
def Solved (n q : Nat) (A B Z : Mtx) : Prop := BytM Z ∧ ∀ i, i < n → ∀ l, l < q → dotF n (el A i) (fun j => G.of (Z j l)) = G.of (B i l)
def SolvesE (n q : Nat) (A B : Mtx) (w : World) (e : Ending) (w' : World) : Prop :=
  ∃ b s cap Z, e = .returned (.tuple #[.pointer (some ⟨b, 0, none⟩), .int .i64 0]) ∧ Mat.MatIn w' b s n q cap (Mat.flat (mat n q Z)) ∧ Solved n q A B Z ∧ Below w.heap.size w w'
section
variable (b s cap b1 s1 cap1 n q t0 : Nat) (A B C0 : Mtx) (w : World)
theorem post_wholeE {e : Ending} {w' : World} {B2 : Mtx} (hA : BytM A) (hM : Mat.Bytes (Mat.flat (mat n n A))) (hB2 : BytM B2) (hst : StepsTo n A n t0 C0) (ht : t0 = n) (h : SolvePost n q (augM n (mx n (Mat.flat (mat n n A))) B2) w e w')
    (he : ∀ i, i < n → ∀ l, l < q → B2 i l = B i l) : SolvesE n q A B w e w' := by
  obtain ⟨hb, t, C, hs, hd⟩ := h
  have hx := augM_byt (m := n) (mx_byt (c := n) hM) hB2
  have hsame := (StepsTo.same (m := n) hx hA (fun i hi j hj => by unfold augM; rw [if_pos hj, flat_mx n n A i j hi hj]) hs hst (Nat.le_refl n)).1
  rcases hd with ⟨h1, _⟩ | ⟨h1, b', s', cap', rfl, hm⟩
  · omega
  · subst h1
    refine ⟨b', s', cap', _, rfl, hm, ⟨fun i j => hs.byt hx i (t + j), fun i hi l hl => ?_⟩, hb⟩
    rw [← he i hi l hl, ← hs.eqs (q := q) (mx_byt (c := t) hM) hB2 i hi l hl]
    unfold dotF
    exact sum_congr (fun j hj => by unfold el; rw [flat_mx t t A i j hi hj])
theorem solve_wholeE (h : Mat.MatIn w b s n n cap (Mat.flat (mat n n A))) (h' : Mat.MatIn w b1 s1 n q cap1 (Mat.flat (mat n q B))) (hA : BytM A) (hst : StepsTo n A n t0 C0) (ht : t0 = n) :
    Calls Try.prog 59 #[.pointer (some ⟨b, 0, none⟩), .pointer (some ⟨b1, 0, none⟩)] w (SolvesE n q A B w) :=
  (solve_good b s cap b1 s1 cap1 n q _ _ w h h').mono fun e w' hp => post_wholeE n q t0 A B C0 w hA h.byt (mx_byt h'.byt) hst ht hp (fun i hi l hl => flat_mx n q B i l hi hl)
end
end Go.Proofs.Ytmefhhkfakmhgaa.Sol
namespace Go.Proofs.Ytmefhhkfakmhgaa.Mdc
open Go Go.RowKit Go.Proofs.Ytmefhhkfakmhgaa.Gf Go.Proofs.Ytmefhhkfakmhgaa.Gi Go.Proofs.Ytmefhhkfakmhgaa.Bits Go.Proofs.Ytmefhhkfakmhgaa.Mem Go.Proofs.Ytmefhhkfakmhgaa.Alg Go.Proofs.Ytmefhhkfakmhgaa.Sol Go.Proofs.Ytmefhhkfakmhgaa.Rws Go.Proofs.YtmefhhkfakmhgaaW.PrintWords
set_option linter.unusedVariables false
def Inj (n : Nat) (P : Mtx) : Prop := ∀ c : Nat → G, (∀ i, i < n → dotF n (el P i) c = 0) → ∀ j, j < n → c j = 0
theorem Inj.uniq {n : Nat} {P : Mtx} (h : Inj n P) {x y : Nat → G} (he : ∀ i, i < n → dotF n (el P i) x = dotF n (el P i) y) (j : Nat) (hj : j < n) : x j = y j := by
  have h1 := h (fun j => x j + y j) (fun i hi => by
    have : dotF n (el P i) (fun j => x j + y j) = dotF n (el P i) x + dotF n (el P i) y := by
      unfold dotF
      rw [← sum_add]
      exact sum_congr (fun q hq => Fd.mul_add _ _ _)
    rw [this, he i hi, Fd.add_self]) j hj
  exact eq_of_add_zero h1
theorem zrow_n (v : Value) (n q i : Nat) (Z : Mtx) (w : World) (h : Mat.IsMat w v n q (Mat.flat (mat n q Z))) (hi : i < n) :
    Calls Try.prog 61 #[v, .int .i64 i] w fun e w' => ∃ A c, e = .returned (.slice A q c) ∧ Kd.R (Kd.int .u8) 5 w' w.heap.size (fun _ => True) (.slice A q c) (line q (Z i)) ∧ Below w.heap.size w w' := by
  refine (Mat.row_in v n q _ i w h hi).mono ?_
  rintro e w' ⟨u, rfl, ho, hb⟩
  have e1 : Mat.rowOf q (Mat.flat (mat n q Z)) i = line q (Z i) := by
    rw [Mat.rowOf_flat q (mat n q Z) (fun l hl => by
      obtain ⟨j, _, rfl⟩ := List.mem_map.1 hl
      exact line_len _ _) i (by rw [mat_len]; exact hi), mat_get n q Z i hi]
  rw [e1] at ho
  have hR : Kd.R (Kd.int .u8) 5 w' w.heap.size (fun _ => True) u (line q (Z i)) := Kd.R_of_own (by rw [line_len]; exact ho) (fun _ _ => trivial)
  obtain ⟨A, c, e⟩ := Kd.R_slice hR
  rw [line_len] at e
  subst e
  exact ⟨A, c, rfl, hR, hb⟩
theorem of_rows (n m c : Nat) (A : Option Addr) (C : Mtx) (w W : World) (hB : Below w.heap.size w W) (h : Kd.C kRow w A n (mat n m C)) (hC : BytM C) (hc : n ≤ c) (h1 : 1 ≤ n) (h2 : n ≤ 64) (h3 : 1 ≤ m) (h4 : m ≤ 64) :
    Calls Try.prog 58 #[.slice A n c] W fun e w' => ∃ b s cap, e = .returned (.tuple #[.pointer (some ⟨b, 0, none⟩), .int .i64 0]) ∧ Mat.MatIn w' b s n m cap (Mat.flat (mat n m C)) ∧ Below W.heap.size W w' := by
  have e : ((mat n m C).getD 0 []).length = m := by rw [mat_get n m C 0 (by omega), line_len]
  have h := Mat.of_right A c (mat n m C) w W hB (show Kd.C kRow w A (mat n m C).length (mat n m C) by rw [mat_len]; exact h) (mat_right n m C h1 h2 h3 h4) (mat_bytes n m hC) (by rw [mat_len]; exact hc)
  rw [mat_len, e] at h
  refine h.mono ?_
  rintro e w' ⟨b, s, cap, rfl, hm, hb, _, _⟩
  exact ⟨b, s, cap, rfl, hm, hb⟩
set_option maxRecDepth 100000 in
set_option maxHeartbeats 4000000 in
theorem grid_any (n q c0 c1 : Nat) (A0 A1 : Option Addr) (P B Z : Mtx) (w : World) (hA : Kd.C kRow w A0 n (mat n n P)) (hB : Kd.C kRow w A1 n (mat n q B)) (l0 : n ≤ c0) (l1 : n ≤ c1) (n1 : 1 ≤ n) (n2 : n ≤ 64) (q1 : 1 ≤ q) (q2 : q ≤ 64)
    (hP : BytM P) (hBb : BytM B) (hZ : BytM Z) (hinj : Inj n P) (he : ∀ i, i < n → ∀ l, l < q → dotF n (el P i) (fun j => G.of (Z j l)) = G.of (B i l)) :
    Calls Try.prog 57 #[.slice A0 n c0, .slice A1 n c1] w fun e w' => ∃ A c, e = .returned (.slice A n c) ∧ n ≤ c ∧ RowsR w' w.heap.size (.slice A n c) (mat n q Z) ∧ Below w.heap.size w w' := by
  have OA := Lib.hid (fun W (hW : Below w.heap.size w W) => of_rows n n c0 A0 P w W hW hA hP l0 n1 n2 n1 n2)
  have OB := Lib.hid (fun W (hW : Below w.heap.size w W) => of_rows n q c1 A1 B w W hW hB hBb l1 n1 n2 q1 q2)
  obtain ⟨t0, C0, hst⟩ := StepsTo.ex n hP n
  have ht : t0 = n := by have := (hst.one hP hinj).1; omega
  have SV := Lib.hid (fun b s cap b1 s1 cap1 W (h1 : Mat.MatIn W b s n n cap (Mat.flat (mat n n P))) (h2 : Mat.MatIn W b1 s1 n q cap1 (Mat.flat (mat n q B))) => show Calls Try.prog 59 #[.pointer (some ⟨b, 0, none⟩), .pointer (some ⟨b1, 0, none⟩)] W fun e w' => ∃ b s cap, e = .returned (.tuple #[.pointer (some ⟨b, 0, none⟩), .int .i64 0]) ∧ Mat.MatIn w' b s n q cap (Mat.flat (mat n q Z)) ∧ Below W.heap.size W w' from (solve_wholeE b s cap b1 s1 cap1 n q t0 P B C0 W h1 h2 hP hst ht).mono (by
    rintro e w' ⟨b, s, cap, Z', rfl, hm, hs, hb⟩
    refine ⟨b, s, cap, rfl, ?_, hb⟩
    have e2 : mat n q Z' = mat n q Z := mat_congr n q _ _ (fun i hi l hl => G.of_inj (hs.1 i l) (hZ i l) (hinj.uniq (x := fun j => G.of (Z' j l)) (y := fun j => G.of (Z j l)) (fun i hi => by rw [hs.2 i hi l hl, he i hi l hl]) i hi))
    rw [← e2]
    exact hm))
  have HB0 := Lib.hid (Below.refl w.heap.size w)
  clear hA hB hP hBb hZ hinj he hst ht l0 l1
  have RW := Lib.hid (fun v W i (h : Mat.IsMat W v n q (Mat.flat (mat n q Z))) (hi : i < n) => zrow_n v n q i Z W h hi)
  have SZ := Lib.hid (fun v W (h : Mat.IsMat W v n q (Mat.flat (mat n q Z))) => size_b v n q _ W h)
  go_enter Try.func57, Try.ntmps57
  go_upto_region 2 with (go_at_call 58; (with_reducible refine (OA.out _ HB0.out).mono ?_); rintro e w1 ⟨b1, s1, p1, rfl, hm, hb⟩; have HM1 := Lib.hid hm; have HB1 := Lib.hid hb; clear hm hb)
  go_upto_region 3 with (go_at_call 58; (with_reducible refine (OB.out _ HB1.out).mono ?_); rintro e w2 ⟨b2, s2, p2, rfl, hm, hb⟩; have HM2 := Lib.hid hm; have HB2 := Lib.hid (HB1.out.trans (hb.mono HB1.out.size)); have HM1' := Lib.hid (HM1.out.below hb); clear HM1 HB1 hm hb)
  go_upto_region 5 with (first
    | (go_at_call 59; (with_reducible refine (SV.out _ _ _ _ _ _ _ HM1'.out HM2.out).mono ?_); rintro e w3 ⟨b3, s3, p3, rfl, hm, hb⟩; have HM3 := Lib.hid hm; have HI3 : Mat.IsMat w3 (.pointer (some ⟨b3, 0, none⟩)) n q (Mat.flat (mat n q Z)) := ⟨b3, s3, p3, rfl, hm⟩; have HI4 := Lib.hid HI3; clear HI3; have HB3 := Lib.hid (HB2.out.trans (hb.mono HB2.out.size)); clear HB2 hm hb)
    | (go_at_call 60; (with_reducible refine (SZ.out _ _ HI4.out).mono ?_); rintro e w4 ⟨rfl, hb⟩; have HI5 : Mat.IsMat w4 (.pointer (some ⟨b3, 0, none⟩)) n q (Mat.flat (mat n q Z)) := ⟨b3, s3, p3, rfl, HM3.out.below hb⟩; have HI := Lib.hid HI5; clear HI5 HI4; have HB4 := Lib.hid (HB3.out.trans (hb.mono HB3.out.size)); clear HB3 HM3 hb))
  clear OA OB SV SZ HM1' HM2
  have HIB := Lib.hid (fun W (hB : Below w4.heap.size w4 W) => show Mat.IsMat W (.pointer (some ⟨b3, 0, none⟩)) n q (Mat.flat (mat n q Z)) by
    obtain ⟨b, s, p, e, hm⟩ := HI.out
    exact ⟨b, s, p, e, hm.below hB⟩)
  clear HI
  go_wp2
  go_loopw [13, 14, 37] (fun uv _ iv wr => ∃ (i : Nat) (u : Value), uv = u ∧ i ≤ n ∧ iv = .int .i64 i ∧ Hid (RowsR wr w4.heap.size u (mat i q Z)) ∧ Hid (Below w4.heap.size w4 wr)) (fun _ _ iv _ => n - (intOf iv).toNat)
  case atStart => exact ⟨0, _, rfl, by omega, rfl, Lib.hid (Kd.R_nil _ _ _ _ _), Lib.hid (Below.refl _ _)⟩
  case round =>
    obtain ⟨i, u, rfl, hi, rfl, HO, HB⟩ := hrel
    by_cases hlt : i < n
    · have g1 : (i : Int) < (n : Int) := by omega
      have RI := Lib.hid (RW.out _ wr i (HIB.out wr HB.out) hlt)
      go_wp2_with (first
        | (go_at_call 61; (with_reducible refine RI.out.mono ?_); rintro e w5 ⟨A5, c5, rfl, hr, hb⟩; have HR5 := Lib.hid hr; have HB5 := Lib.hid hb; clear hr hb)
        | (at_builtin; refine rows_append2 (w0 := w4) rfl w4.heap.size rfl _ _ rfl u13 _ (mat i q Z) _ rfl rfl HO.out (HB.out.trans (HB5.out.mono HB.out.size)) HB.out.size HB5.out HR5.out (by rw [mat_len]; omega) ?_; intro v6 w6 h6 hb6; have H6 := Lib.hid h6; have HB6 := Lib.hid hb6; clear h6 hb6))
      go_roundw
      case rel => exact ⟨i + 1, _, rfl, by omega, by go_num, Lib.hid (by rw [mat_succ]; exact H6.out), HB6⟩
      case measure => simp [intOf]; omega
    · obtain rfl : n = i := by omega
      obtain ⟨A7, c7, rfl⟩ := Kd.R_slice HO.out
      rw [mat_len] at *
      have HL := Lib.hid (show n ≤ c7 from (Kd.R_reads' HO.out).2.1)
      go_wp2
      go_ret
      exact ⟨A7, c7, rfl, HL.out, Kd.R_lower HO.out HB4.out.size, HB4.out.trans (HB.out.mono HB4.out.size)⟩
set_option maxRecDepth 100000 in
set_option maxHeartbeats 4000000 in
theorem solved_any (n c0 c1 : Nat) (A0 A1 : Option Addr) (P B Z : Mtx) (w : World) (hA : Kd.C kRow w A0 n (mat n n P)) (hB : Kd.C kRow w A1 n (mat n 1 B)) (l0 : n ≤ c0) (l1 : n ≤ c1) (n1 : 1 ≤ n) (n2 : n ≤ 64)
    (hP : BytM P) (hBb : BytM B) (hZ : BytM Z) (hinj : Inj n P) (he : ∀ i, i < n → dotF n (el P i) (fun j => G.of (Z j 0)) = G.of (B i 0)) :
    Calls Try.prog 56 #[.slice A0 n c0, .slice A1 n c1] w fun e w' => ∃ A c, e = .returned (.slice A n c) ∧ (Kd.int .u8).R 5 w' w.heap.size (fun _ => True) (.slice A n c) (line n (fun j => Z j 0)) ∧ Below w.heap.size w w' := by
  have GR := Lib.hid (grid_any n 1 c0 c1 A0 A1 P B Z w hA hB l0 l1 n1 n2 (Nat.le_refl 1) (by decide) hP hBb hZ hinj (fun i hi l hl => by
    obtain rfl : l = 0 := by omega
    exact he i hi))
  clear hA hB hP hBb hZ hinj he l0 l1
  go_enter Try.func56, Try.ntmps56
  go_upto_region 3 with (go_at_call 57; (with_reducible refine GR.out.mono ?_); rintro e w1 ⟨A5, c5, rfl, hl, hr, hb⟩; have HC := Lib.hid (by have h := (Kd.R_reads' hr).2.2; rw [mat_len] at h; exact h); have HB1 := Lib.hid hb; clear hl hr hb)
  go_loopw [5, 7, 12] (fun uv _ iv wr => ∃ (i : Nat) (u : Value), uv = u ∧ i ≤ n ∧ iv = .int .i64 i ∧ Hid ((Kd.int .u8).R 5 wr w1.heap.size (fun _ => True) u (line i (fun j => Z j 0))) ∧ Hid (Below w1.heap.size w1 wr)) (fun _ _ iv _ => n - (intOf iv).toNat)
  case atStart => exact ⟨0, _, rfl, by omega, rfl, Lib.hid (Kd.R_nil _ _ _ _ _), Lib.hid (Below.refl _ _)⟩
  case round =>
    obtain ⟨i, u, rfl, hi, rfl, HO, HB⟩ := hrel
    by_cases hlt : i < n
    · have g1 : (i : Int) < (n : Int) := by omega
      have g2 : (0 : Int) ≤ (i : Int) := by omega
      have g3 : (0 : Int) < (1 : Int) := by omega
      obtain ⟨ad, A8, c8, rfl, kc, _, hc8⟩ := mrow (Kd.C_below HC.out HB.out) i hlt
      obtain ⟨a8, rfl, kd⟩ := Sol.at_row hc8 0 (by decide)
      rw [line_get _ _ _ (by decide)] at kd
      have kd' : wr.cell? a8 = some (.int .u8 (Z i 0)) := kd
      clear kd hc8
      obtain ⟨z, hz⟩ : ∃ z, z = Z i 0 := ⟨_, rfl⟩
      rw [← hz] at kd'
      have HZ := Lib.hid hz
      clear hz
      have HLS := Lib.hid (show line i (fun j => Z j 0) ++ [z] = line (i + 1) (fun j => Z j 0) by rw [HZ.out, line_succ])
      go_wp2_with (at_builtin; refine Kd.R_append (Kd.int .u8) (w0 := w1) w1.heap.size rfl _ _ 22 5 (.int .u8 0) 1 rfl Try.underlying22 Rws.info_byte rfl (by decide) (by decide) u5 (line i (fun j => Z j 0)) z [.int .u8 z] (fun _ => True) (fun _ => False) rfl rfl rfl (fun _ hk => hk.elim) (fun _ _ => trivial) HO.out HB.out HB.out.size (by rw [line_len]; omega) ?_; intro v6 w6 h6 hb6 _ _; rw [HLS.out] at h6; have H6 := Lib.hid h6; have HB6 := Lib.hid hb6; clear h6 hb6)
      go_roundw
      case rel => exact ⟨i + 1, _, rfl, by omega, by go_num, H6, HB6⟩
      case measure => simp [intOf]; omega
    · obtain rfl : n = i := by omega
      obtain ⟨A7, c7, rfl⟩ := Kd.R_slice HO.out
      rw [line_len] at *
      go_wp2
      go_ret
      exact ⟨A7, c7, rfl, Kd.R_lower HO.out HB1.out.size, HB1.out.trans (HB.out.mono HB1.out.size)⟩
set_option maxRecDepth 100000 in
theorem div_is (y b : Int) (hy : Byt y) (hb : Byt b) (h0 : b ≠ 0) (w : World) : Calls Try.prog 43 #[.int .u8 (gmI y b), .int .u8 b] w fun e w' => e = .returned (.tuple #[.int .u8 y, .int .i64 0]) ∧ w' = w := by
  obtain ⟨r, hr, hbr, IV⟩ := inv_still b w hb h0
  have ha : Byt (gmI y b) := gmI_byt hy
  have e : gmI (gmI y b) r = y := by
    refine G.of_inj (gmI_byt ha) hy ?_
    rw [of_gm ha hr, of_gm hy hb, Fd.mul_assoc, ← of_gm hb hr, hbr, G.of_one, Fd.mul_one]
  have MU := Lib.hid (fun w => mul_still (gmI y b) r w ha hr)
  rw [e] at MU
  have IN := Lib.hid IV
  obtain ⟨a, hA⟩ : ∃ a, a = gmI y b := ⟨_, rfl⟩
  rw [← hA] at MU ⊢
  clear hA e ha IV hbr
  go_enter Try.func43, Try.ntmps43
  go_wp2_with (first
    | (go_at_call 55; (with_reducible refine (IN.out _).mono ?_); rintro e u ⟨rfl, hu⟩; have hu' := hu.symm; subst hu'; clear hu)
    | (go_at_call 45; (with_reducible refine (MU.out _).mono ?_); rintro e u ⟨rfl, hu⟩; have hu' := hu.symm; subst hu'; clear hu))
  go_ret2
  exact ⟨rfl, rfl⟩
end Go.Proofs.Ytmefhhkfakmhgaa.Mdc
namespace Go.Proofs.Ytmefhhkfakmhgaa.BMsrCodes
open Go Go.RowKit Go.Proofs.Ytmefhhkfakmhgaa.PMsrCodes Go.Proofs.Ytmefhhkfakmhgaa.Gf Go.Proofs.Ytmefhhkfakmhgaa.Bits Go.Proofs.YtmefhhkfakmhgaaW.PrintWords Go.Proofs.YtmefhhkfakmhgaaW.PrintLast
theorem xt_is (x : Nat) (h : x < 256) : (if 255 < x * 2 then x * 2 ^^^ 285 else x * 2) = xt x := by
  have e : ∀ x, x < 256 → (if 255 < x * 2 then x * 2 ^^^ 285 else x * 2) = xt x := by decide +kernel
  exact e x h
theorem gf_mul_loop (n : Nat) : ∀ (k b p x : Nat), b < 2 ^ n → p < 256 → x < 256 → n < k → n ≤ 8 → gf_Mul.l0 k b p x = some ((gmA n b p x : Nat) : Int) := by
  induction n with
  | zero =>
    intro k b p x hb hp hx hk hn
    obtain ⟨k, rfl⟩ : ∃ m, k = m + 1 := ⟨k - 1, by omega⟩
    simp only [gf_Mul.l0, gmA]
    rw [if_neg (by simp at hb; omega)]
    congr 1; omega
  | succ n ih =>
    intro k b p x hb hp hx hk hn
    obtain ⟨k, rfl⟩ : ∃ m, k = m + 1 := ⟨k - 1, by omega⟩
    have hb8 : b < 256 := Nat.lt_of_lt_of_le hb (Nat.pow_le_pow_right (by decide) hn)
    by_cases h0 : b = 0
    · subst h0
      simp only [gf_Mul.l0]
      rw [if_neg (by omega), gmA_zero]
      congr 1; omega
    have hx2 : wrap64 ((x : Int) * 2) = ((x * 2 : Nat) : Int) := by rw [wrap64_in _ (by omega) (by omega)]; omega
    have hb2 : (b : Int) / 2 = ((b / 2 : Nat) : Int) := by omega
    have hlt : b / 2 < 2 ^ n := by rw [Nat.pow_succ] at hb; omega
    have e1 : bits .xor .i64 (p : Int) (x : Int) = ((p ^^^ x : Nat) : Int) := xor_i64 p x (by omega) (by omega)
    have e2 : bits .xor .i64 ((x * 2 : Nat) : Int) 285 = ((x * 2 ^^^ 285 : Nat) : Int) := xor_i64 (x * 2) 285 (by omega) (by omega)
    have hpx : p ^^^ x < 256 := by
      have : p ^^^ x < 2 ^ 8 := Nat.xor_lt_two_pow (by omega) (by omega)
      simpa using this
    simp only [gf_Mul.l0, gmA]
    rw [if_pos (by omega), and1_u8 b hb8, hx2, hb2, e1, e2]
    have hxt := xt_is x hx
    have hxl := xt_lt x
    rcases bit01 b with h | h
    · rw [if_neg (by omega), h, Nat.zero_mul, Nat.xor_zero]
      by_cases hc : 255 < x * 2
      · rw [if_pos (by omega)]
        rw [if_pos hc] at hxt
        rw [hxt, ih k _ _ _ hlt hp hxl (by omega) (by omega)]
      · rw [if_neg (by omega)]
        rw [if_neg hc] at hxt
        rw [hxt, ih k _ _ _ hlt hp hxl (by omega) (by omega)]
    · rw [if_pos (by omega), h, Nat.one_mul]
      by_cases hc : 255 < x * 2
      · rw [if_pos (by omega)]
        rw [if_pos hc] at hxt
        rw [hxt, ih k _ _ _ hlt hpx hxl (by omega) (by omega)]
      · rw [if_neg (by omega)]
        rw [if_neg hc] at hxt
        rw [hxt, ih k _ _ _ hlt hpx hxl (by omega) (by omega)]
theorem gf_mul (k a b : Nat) (ha : a < 256) (hb : b < 256) (hk : 9 ≤ k) : gf_Mul.f k a b = some ((gm a b : Nat) : Int) := by
  unfold gf_Mul.f gm
  rw [wrap64_nat a (by omega)]
  exact gf_mul_loop 8 k b 0 a (by omega) (by omega) ha (by omega) (by omega)
end Go.Proofs.Ytmefhhkfakmhgaa.BMsrCodes
namespace Go.Proofs.Ytmefhhkfakmhgaa.BMsrCodes
open Go Go.RowKit Go.Proofs.Ytmefhhkfakmhgaa.PMsrCodes Go.Proofs.Ytmefhhkfakmhgaa.Gf Go.Proofs.Ytmefhhkfakmhgaa.Bits Go.Proofs.Ytmefhhkfakmhgaa.Rws Go.Proofs.YtmefhhkfakmhgaaW.PrintWords Go.Proofs.YtmefhhkfakmhgaaW.PrintLast
set_option linter.unusedVariables false
def pows (x n : Nat) : List Int := (List.range n).map (fun i => ((gp x i : Nat) : Int))
theorem pows_succ (x n : Nat) : pows x (n + 1) = pows x n ++ [((gp x n : Nat) : Int)] := by simp [pows, List.range_succ]
theorem pows_len (x n : Nat) : (pows x n).length = n := by simp [pows]
theorem vinc (i : Nat) (h : i < 1000000) : wrap64 ((i : Int) + 1) = ((i + 1 : Nat) : Int) := by rw [wrap64_in _ (by omega) (by omega)]; omega
theorem vrow_loop (x : Nat) (hx : x < 256) (n : Nat) (hn : n ≤ 100) (d : Nat) : ∀ (k i : Nat), i + d = n → 20 + d ≤ k → vand_Row.l0 k x (pows x i) ((gp x i : Nat) : Int) n i = some (pows x n) := by
  induction d with
  | zero =>
    intro k i hd hk
    obtain ⟨k, rfl⟩ : ∃ m, k = m + 1 := ⟨k - 1, by omega⟩
    obtain rfl : i = n := by omega
    simp only [vand_Row.l0]
    rw [if_neg (by omega)]
  | succ d ih =>
    intro k i hd hk
    obtain ⟨k, rfl⟩ : ∃ m, k = m + 1 := ⟨k - 1, by omega⟩
    simp only [vand_Row.l0]
    rw [if_pos (by omega), if_pos (by rw [pows_len]; omega), gf_mul k (gp x i) x (gp_lt x hx i) hx (by omega), bnd, vinc i (by omega), ← pows_succ, gp_succ]
    exact ih k (i + 1) (by omega) (by omega)
theorem vrow_f (x : Nat) (hx : x < 256) (n : Int) (hn : n ≤ 100) : vand_Row.f 200 x n = some (pows x n.toNat) := by
  have h0 := vrow_loop x hx n.toNat (by omega) n.toNat 200 0 (by omega) (by omega)
  unfold vand_Row.f
  have : mx n 0 = ((n.toNat : Nat) : Int) := by
    unfold mx
    split <;> omega
  rw [this]
  exact h0
theorem row_calls (x : Nat) (hx : x < 256) (n : Int) (hn : n ≤ 100) (W : World) :
    Calls Try.prog 33 #[.int .u8 x, .int .i64 n] W fun e w' => ∃ A c, e = .returned (.slice A n.toNat c) ∧ Kd.R (Kd.int .u8) 5 w' W.heap.size (fun _ => True) (.slice A n.toNat c) (pows x n.toNat) ∧ Below W.heap.size W w' := by
  refine (vand_Row.calls 200 x n _ W (vrow_f x hx n hn)).mono ?_
  rintro e w' ⟨v, rfl, hr, hb⟩
  obtain ⟨A, c, rfl⟩ := Kd.R_slice hr
  rw [pows_len] at *
  exact ⟨A, c, rfl, hr, hb⟩
end Go.Proofs.Ytmefhhkfakmhgaa.BMsrCodes
namespace Go.Proofs.Ytmefhhkfakmhgaa.BMsrCodes
open Go Go.RowKit Go.Proofs.Ytmefhhkfakmhgaa.PMsrCodes Go.Proofs.Ytmefhhkfakmhgaa.Gf Go.Proofs.Ytmefhhkfakmhgaa.Bits Go.Proofs.YtmefhhkfakmhgaaW.PrintWords Go.Proofs.YtmefhhkfakmhgaaW.PrintLast
end Go.Proofs.Ytmefhhkfakmhgaa.BMsrCodes
namespace Go.Proofs.Ytmefhhkfakmhgaa.BMsrCodes
open Go Go.RowKit Go.Proofs.Ytmefhhkfakmhgaa.PMsrCodes Go.Proofs.Ytmefhhkfakmhgaa.Gf Go.Proofs.Ytmefhhkfakmhgaa.Bits Go.Proofs.Ytmefhhkfakmhgaa.Rws Go.Proofs.Ytmefhhkfakmhgaa.BMsrCodes Go.Proofs.YtmefhhkfakmhgaaW.PrintWords Go.Proofs.YtmefhhkfakmhgaaW.PrintLast
set_option linter.unusedVariables false
end Go.Proofs.Ytmefhhkfakmhgaa.BMsrCodes
namespace Go.Proofs.Ytmefhhkfakmhgaa.VPts
open Go Go.Proofs.Ytmefhhkfakmhgaa.Gf
def hit (f : Nat → Nat) : Nat → Nat → Bool
  | 0, _ => false
  | k + 1, y => hit f k y || f k == y
def firsts (f : Nat → Nat) : Nat → List Int
  | 0 => []
  | k + 1 => if hit f k (f k) then firsts f k else firsts f k ++ [(k : Int)]
def pws (f : Nat → Nat) : Nat → List Int
  | 0 => []
  | k + 1 => if hit f k (f k) then pws f k else pws f k ++ [(f k : Int)]
theorem pws_succ (f : Nat → Nat) (k : Nat) : pws f (k + 1) = if hit f k (f k) then pws f k else pws f k ++ [(f k : Int)] := rfl
theorem firsts_succ (f : Nat → Nat) (k : Nat) : firsts f (k + 1) = if hit f k (f k) then firsts f k else firsts f k ++ [(k : Int)] := rfl
theorem hit_succ (f : Nat → Nat) (k y : Nat) : hit f (k + 1) y = (hit f k y || f k == y) := rfl
theorem mem_pws (f : Nat → Nat) (k y : Nat) : ((y : Int) ∈ pws f k) ↔ hit f k y = true := by
  induction k with
  | zero => simp [pws, hit]
  | succ k ih =>
    rw [pws_succ, hit_succ]
    by_cases h : hit f k (f k) = true
    · rw [if_pos h, ih]
      constructor
      · intro h2; simp [h2]
      · intro h2
        rcases (Bool.or_eq_true _ _).mp h2 with h3 | h3
        · exact h3
        · rw [beq_iff_eq] at h3; rw [← h3]; exact h
    · rw [if_neg h, List.mem_append, ih]
      simp
      constructor
      · rintro (h2 | h2)
        · exact .inl h2
        · exact .inr (by omega)
      · rintro (h2 | h2)
        · exact .inl h2
        · exact .inr (by omega)
theorem len_le (f : Nat → Nat) (k : Nat) : (firsts f k).length ≤ k := by
  induction k with
  | zero => simp [firsts]
  | succ k ih => rw [firsts_succ]; by_cases h : hit f k (f k) = true <;> simp [h] <;> omega
theorem pws_nodup (f : Nat → Nat) (k : Nat) : (pws f k).Nodup := by
  induction k with
  | zero => simp [pws]
  | succ k ih =>
    rw [pws_succ]
    by_cases h : hit f k (f k) = true
    · rw [if_pos h]; exact ih
    · rw [if_neg h, List.nodup_append]
      refine ⟨ih, by simp, ?_⟩
      intro a ha b hb
      simp at hb
      subst hb
      intro e
      subst e
      exact h ((mem_pws f k _).mp ha)
theorem pre (f : Nat → Nat) (k d : Nat) : firsts f k <+: firsts f (k + d) := by
  induction d with
  | zero => exact List.prefix_refl _
  | succ d ih =>
    rw [← Nat.add_assoc]
    rw [firsts_succ]
    by_cases h : hit f (k + d) (f (k + d)) = true
    · rw [if_pos h]; exact ih
    · rw [if_neg h]; exact ih.trans (List.prefix_append _ _)
def Stop (f : Nat → Nat) (n k : Nat) : Prop := k ≤ 256 ∧ (firsts f k).length ≤ n ∧ (k = 256 ∨ (firsts f k).length = n)
theorem firsts_bytes (f : Nat → Nat) (k : Nat) (hk : k ≤ 256) : ∀ x ∈ firsts f k, 0 ≤ x ∧ x < 256 := by
  induction k with
  | zero => intro x hx; cases hx
  | succ k ih =>
    intro x hx
    rw [firsts_succ] at hx
    by_cases h : hit f k (f k) = true
    · rw [if_pos h] at hx; exact ih (by omega) x hx
    · rw [if_neg h, List.mem_append] at hx
      rcases hx with hx | hx
      · exact ih (by omega) x hx
      · simp at hx; omega
end Go.Proofs.Ytmefhhkfakmhgaa.VPts
namespace Go.Proofs.Ytmefhhkfakmhgaa.BMsrCodes
open Go Go.RowKit Go.Proofs.Ytmefhhkfakmhgaa.PMsrCodes Go.Proofs.Ytmefhhkfakmhgaa.Gf Go.Proofs.Ytmefhhkfakmhgaa.Bits Go.Proofs.Ytmefhhkfakmhgaa.VPts Go.Proofs.YtmefhhkfakmhgaaW.PrintWords Go.Proofs.YtmefhhkfakmhgaaW.PrintLast
end Go.Proofs.Ytmefhhkfakmhgaa.BMsrCodes
namespace Go.Proofs.Ytmefhhkfakmhgaa.BMsrCodes
open Go Go.RowKit Go.Proofs.Ytmefhhkfakmhgaa.PMsrCodes Go.Proofs.Ytmefhhkfakmhgaa.Gf Go.Proofs.Ytmefhhkfakmhgaa.Bits Go.Proofs.YtmefhhkfakmhgaaW.PrintWords Go.Proofs.YtmefhhkfakmhgaaW.PrintLast
theorem gf_pow_loop (m : Nat) : ∀ (k a n p : Nat), a < 256 → p < 256 → n < 2 ^ m → n < 9223372036854775808 → 10 + m ≤ k →
    gf_Pow.l0 k a n p = some ((gm p (gp a n) : Nat) : Int) := by
  induction m with
  | zero =>
    intro k a n p ha hp hn hn2 hk
    obtain ⟨k, rfl⟩ : ∃ m, k = m + 1 := ⟨k - 1, by omega⟩
    have h0 : n = 0 := by simp at hn; exact hn
    subst h0
    simp only [gf_Pow.l0, gp]
    rw [if_neg (by omega), gm_one]
  | succ m ih =>
    intro k a n p ha hp hn hn2 hk
    obtain ⟨k, rfl⟩ : ∃ m, k = m + 1 := ⟨k - 1, by omega⟩
    simp only [gf_Pow.l0]
    by_cases h0 : n = 0
    · subst h0
      rw [if_neg (by omega), gp, gm_one]
    have hh : n / 2 < 2 ^ m := by rw [Nat.pow_succ] at hn; omega
    have hsq := gm_lt a a ha
    rw [if_pos (by omega), and1_i64 n hn2, show (n : Int) / 2 = ((n / 2 : Nat) : Int) by omega]
    rcases bit01 n with h | h
    · rw [if_neg (by omega), gf_mul k a a ha ha (by omega)]
      simp only [bnd]
      rw [ih k _ _ p hsq hp hh (by omega) (by omega), gp_sq a ha, show 2 * (n / 2) = n by omega]
    · rw [if_pos (by omega), gf_mul k p a hp ha (by omega)]
      simp only [bnd]
      rw [gf_mul k a a ha ha (by omega)]
      simp only [bnd]
      rw [ih k _ _ _ hsq (gm_lt p a hp) hh (by omega) (by omega), gp_sq a ha, gm_assoc _ _ _ hp ha (gp_lt a ha _), gm_comm a _ ha (gp_lt a ha _), gp_succ,
        show 2 * (n / 2) + 1 = n by omega]
theorem gf_pow (k a n : Nat) (ha : a < 256) (hn : n < 9223372036854775808) (hk : 80 ≤ k) : gf_Pow.f k a n = some ((gp a n : Nat) : Int) := by
  have h := gf_pow_loop 63 k a n 1 ha (by decide) hn hn (by omega)
  rw [gm_one_left _ (gp_lt a ha n)] at h
  exact h
end Go.Proofs.Ytmefhhkfakmhgaa.BMsrCodes
namespace Go.Proofs.Ytmefhhkfakmhgaa.VPts
open Go Go.RowKit Go.Proofs.Ytmefhhkfakmhgaa.PMsrCodes Go.Proofs.Ytmefhhkfakmhgaa.BMsrCodes Go.Proofs.Ytmefhhkfakmhgaa.Gf Go.Proofs.Ytmefhhkfakmhgaa.Bits Go.Proofs.Ytmefhhkfakmhgaa.Mem Go.Proofs.YtmefhhkfakmhgaaW.PrintWords Go.Proofs.YtmefhhkfakmhgaaW.PrintLast
set_option linter.unusedVariables false
def Z256 : Array Value := Array.replicate 256 (.bool false)
theorem zero_256 (w : World) : (zeroValue 64).run Try.prog w = .ok (.agg Z256) w := by kernel_rfl
theorem info_byte : (Try.prog.info? 5).map (fun i => (i.zero, i.size, i.bytes)) = some (some (.int .u8 0), 1, 1) := by kernel_rfl
def Seen (f : Nat → Nat) (k : Nat) (cs : Array Value) : Prop := cs.size = 256 ∧ ∀ y, y < 256 → cs[y]? = some (.bool (hit f k y))
theorem seen0 (f : Nat → Nat) : Seen f 0 Z256 := by
  refine ⟨by simp [Z256], fun y hy => ?_⟩
  simp [Z256, hit, hy]
theorem seen_same (f : Nat → Nat) (k : Nat) (cs : Array Value) (h : Seen f k cs) (hh : hit f k (f k) = true) : Seen f (k + 1) cs := by
  refine ⟨h.1, fun y hy => ?_⟩
  rw [h.2 y hy, hit_succ]
  by_cases e : f k = y
  · subst e; simp [hh]
  · simp [e]
theorem seen_more (f : Nat → Nat) (k : Nat) (cs : Array Value) (h : Seen f k cs) (hf : f k < 256) : Seen f (k + 1) (cs.setIfInBounds (f k) (.bool true)) := by
  refine ⟨by simp [h.1], fun y hy => ?_⟩
  rw [hit_succ, Array.getElem?_setIfInBounds]
  by_cases e : f k = y
  · subst e; simp [h.1, hf]
  · rw [if_neg e, h.2 y hy]; simp [e]
theorem byte_append {P : Program} {ops : Array Oper} {rest : List Oper} {o : Oper} {a : Act} {Q : Exit → Act → World → Prop} {w0 W : World} (hP : P = Try.prog) (base : Nat) (hgd : o.guard = none) (s x : Operand)
    (ho : o.op = .call { callee := .builtin .append, args := #[s, x], argTypes := #[22, 22] }) (v : Value) (xs : List Int) (y : Int) (ok : Nat → Prop)
    (hs : a.eval s = v) (hx : a.eval x = .slice (some ⟨W.heap.size, 0, none⟩) 1 1) (HR : Kd.R (Kd.int .u8) 5 W base ok v xs) (hok : ∀ k, W.heap.size ≤ k → ok k) (HB : Below base w0 W) (hbase : base ≤ W.heap.size) (hl : xs.length ≤ 1000000)
    (h : ∀ v1 w1, Kd.R (Kd.int .u8) 5 w1 base ok v1 (xs ++ [y]) → Below base w0 w1 → W.grownBy w1 v.ownBlock → wpList P ops Q rest (a.put o.dst v1) w1) :
    wpList P ops Q (o :: rest) a (W.alloc (.cells #[.int .u8 y] 5)) := by
  subst hP
  exact Kd.R_append (Kd.int .u8) (w0 := w0) base hgd s x 22 5 (.int .u8 0) 1 ho Try.underlying22 info_byte rfl (by decide) (by decide) v xs y [.int .u8 y] ok (fun _ => False) hs hx rfl (fun _ hk => hk.elim) hok HR HB hbase (by omega) (fun v1 w1 h1 h2 h3 _ => h v1 w1 h1 h2 h3)
set_option maxRecDepth 100000 in
theorem points_good (n e : Nat) (w : World) (h1 : 1 ≤ n) (h2 : 1 ≤ e) (he : e < 9223372036854775808) :
    Calls Try.prog 23 #[.int .i64 n, .int .i64 e] w fun e' w' => ∃ v q, Stop (fun x => gp x e) n q ∧
      e' = .returned (.tuple #[v, .int .i64 (if (firsts (fun x => gp x e) q).length < n then 1 else 0)]) ∧ Kd.R (Kd.int .u8) 5 w' w.heap.size (fun _ => True) v (if (firsts (fun x => gp x e) q).length < n then [] else firsts (fun x => gp x e) q) ∧ Below w.heap.size w w' := by
  have hz := zero_256
  have t1 : decide ((n : Int) < 1) = false := by simp; omega
  have t2 : decide ((e : Int) < 1) = false := by simp; omega
  obtain ⟨f, hf⟩ : ∃ f : Nat → Nat, f = fun x => gp x e := ⟨_, rfl⟩
  rw [← hf]
  have HF := Lib.hid hf
  clear hf
  go_enter Try.func23, Try.ntmps23
  go_upto_region 6 with (fail)
  repeat (go_quiet (fail); try go_upto_region 6 with (fail))
  clear hz t1 t2
  have HB0 := Lib.hid (show Below w.heap.size w (w.alloc (.cells Z256 64)) from (Below.refl _ _).alloc (Nat.le_refl _) _)
  have HG0 := Lib.hid (show ∃ cs, Blk (w.alloc (.cells Z256 64)) w.heap.size 64 cs ∧ Seen f 0 cs from ⟨Z256, Blk.new _ _ _, seen0 f⟩)
  have HR0 := Lib.hid (Kd.R_nil (Kd.int .u8) 5 (w.alloc (.cells Z256 64)) w.heap.size (fun b => b ≠ w.heap.size))
  go_loopw [7, 8] (fun v7 v8 wr => ∃ (k : Nat), k ≤ 256 ∧ (firsts f k).length ≤ n ∧ v8 = .int .i64 (k : Nat) ∧ Hid (Kd.R (Kd.int .u8) 5 wr w.heap.size (fun b => b ≠ w.heap.size) v7 (firsts f k)) ∧ Hid (∃ cs, Blk wr w.heap.size 64 cs ∧ Seen f k cs) ∧ Hid (Below w.heap.size w wr)) (fun _ v8 _ => 256 - (intOf v8).toNat)
  case atStart => exact ⟨0, by omega, by simp [firsts], rfl, HR0, HG0, HB0⟩
  case round =>
    obtain ⟨k, hk, hle, rfl, HR, HG, HB⟩ := hrel
    clear HB0 HG0 HR0
    obtain ⟨A7, c7, rfl⟩ := Kd.R_slice HR.out
    obtain ⟨ln, hln⟩ : ∃ ln, ln = (firsts f k).length := ⟨_, rfl⟩
    rw [← hln] at hle ⊢
    have HLN := Lib.hid hln
    by_cases hlt : k < 256 ∧ ln < n
    · obtain ⟨g1, g2⟩ := hlt
      have t1 : decide ((k : Int) < 256) = true := by simp; omega
      have t2 : decide ((ln : Int) < (n : Int)) = true := by simp; omega
      have e8 : (k : Int) % 256 = (k : Int) := by omega
      have e9 : IntKind.u8.wrap (k : Int) = (k : Int) := by rw [IntKind.wrap_u8]; omega
      have hp := gp_lt k g1 e
      have HP := Lib.hid (gf_pow 200 k e g1 he (by omega))
      rw [show gp k e = f k by rw [HF.out]] at hp HP
      obtain ⟨p, hpp⟩ : ∃ p, p = f k := ⟨_, rfl⟩
      rw [← hpp] at hp HP
      obtain ⟨cs, hb, hs⟩ := HG.out
      have hc := (hb.cell p).trans (hs.2 p hp)
      have HPP := Lib.hid hpp
      have HBL := Lib.hid hb
      have HSN := Lib.hid hs
      have p0 : (0 : Int) ≤ (p : Int) := by omega
      have p1 : (p : Int) < 256 := by omega
      have p2 : ((p : Int)).toNat = p := by omega
      clear hln hpp hb hs HG
      by_cases hh : hit f k p = true
      · rw [hh] at hc
        go_wp2_with ((go_at_call 36; (with_reducible refine (gf_Pow.calls 200 _ _ _ _ HP.out).mono ?_); rintro e w' ⟨rfl, ⟨nd, rfl⟩⟩))
        have ef : firsts f (k + 1) = firsts f k := by rw [firsts_succ, if_pos (by rw [← HPP.out]; exact hh)]
        go_roundw
        case rel => exact ⟨k + 1, by omega, by rw [ef, ← HLN.out]; exact hle, by go_num, by rw [ef, HLN.out]; exact Lib.hid (Kd.R_drewN HR.out _), Lib.hid ⟨cs, HBL.out.drewN _, seen_same f k cs HSN.out (by rw [← HPP.out]; exact hh)⟩, Lib.hid (pw_below_drewN HB.out _)⟩
        case measure => simp [intOf]; omega
      · rw [Bool.eq_false_iff.mpr hh] at hc
        have ef : firsts f (k + 1) = firsts f k ++ [(k : Int)] := by rw [firsts_succ, if_neg (by rw [← HPP.out]; exact hh)]
        have hfz := HBL.out.frozen p
        have HEF := Lib.hid ef
        clear ef
        have hrlt := Kd.R_away HR.out (g := w.heap.size) (fun b hb => hb)
        have HAW := Lib.hid hrlt
        have HRS := Lib.hid (fun m => Kd.R_far (Kd.R_drewN HR.out m) (p := ⟨w.heap.size, p, none⟩) (fun b hb => hb) (.bool true))
        have HBS := Lib.hid (fun m => (pw_below_drewN HB.out m).setCell (p := ⟨w.heap.size, p, none⟩) (Nat.le_refl _) (.bool true))
        have HGS := Lib.hid (fun m => (HBL.out.drewN m).set_ p (.bool true))
        have HSZ := Lib.hid HB.out.size
        have HOK := Lib.hid (show ∀ m b, ((wr.drewN m).setCell ⟨w.heap.size, p, none⟩ (.bool true)).heap.size ≤ b → b ≠ w.heap.size from fun m b hb => by
          have h3 : wr.heap.size ≤ b := by simpa using hb
          have := HBL.out.lt
          omega)
        clear hrlt
        go_wp2_with (first
          | (go_at_call 36; (with_reducible refine (gf_Pow.calls 200 _ _ _ _ HP.out).mono ?_); rintro e w' ⟨rfl, ⟨nd, rfl⟩⟩)
          | (at_builtin; refine byte_append (w0 := w) rfl w.heap.size rfl _ _ rfl _ (firsts f k) (k : Int) (fun b => b ≠ w.heap.size) rfl ?hx ?hR ?hok ?hB ?hba ?hl ?_; (case hx => first | rfl | (go_simp; done) | simp [go_sem]); (case hR => rw [HLN.out]; exact HRS.out _); (case hok => exact HOK.out _); (case hB => exact HBS.out _); (case hba => simpa using HSZ.out); (case hl => have := len_le f k; omega); intro v1 w1 h1 h2 h3; have HR1 := Lib.hid h1; have HB1 := Lib.hid h2; have HG1 := Lib.hid ((HGS.out _).grown h3 (by first | exact HAW.out | (rw [HLN.out]; exact HAW.out) | (rw [HLN.out] at *; exact HAW.out))); clear h1 h2 h3))
        go_roundw
        case rel => exact ⟨k + 1, by omega, by rw [HEF.out]; simp; rw [← HLN.out]; omega, by go_num, by rw [HEF.out]; exact HR1, Lib.hid ⟨_, HG1.out, by rw [HPP.out]; exact seen_more f k cs HSN.out (by rw [← HPP.out]; exact hp)⟩, HB1⟩
        case measure => simp [intOf]; omega
    · by_cases g1 : k < 256
      · have t1 : decide ((k : Int) < 256) = true := by simp; omega
        have t2 : decide ((ln : Int) < (n : Int)) = false := by simp; omega
        have hst : Stop f n k := ⟨hk, by rw [← HLN.out]; exact hle, .inr (by rw [← HLN.out]; omega)⟩
        have HST := Lib.hid hst
        have g3 : ¬ ln < n := by omega
        clear hst hlt
        go_wp2
        refine bodyPost_ret (v := .tuple #[.slice A7 ln c7, .int .i64 0]) (by simp [results, Try.results23, go_sem]) rfl ⟨.slice A7 ln c7, k, HST.out, ?_, ?_, ?_⟩
        · rw [← HLN.out, if_neg (by simpa using t2)]
        · rw [← HLN.out, if_neg (by simpa using t2), HLN.out]; exact Kd.R_mono HR.out (fun _ _ => trivial)
        · exact HB.out
      · have t1 : decide ((k : Int) < 256) = false := by simp; omega
        obtain rfl : k = 256 := by omega
        by_cases g2 : ln < n
        · have t2 : decide ((ln : Int) < (n : Int)) = true := by simp; omega
          have HST := Lib.hid (show Stop f n 256 from ⟨hk, by rw [← HLN.out]; exact hle, .inl rfl⟩)
          clear hlt g1
          go_wp2
          refine bodyPost_ret (v := .tuple #[.slice none 0 0, .int .i64 1]) (by simp [results, Try.results23, go_sem]) rfl ⟨.slice none 0 0, 256, HST.out, ?_, ?_, ?_⟩
          · rw [← HLN.out, if_pos g2]
          · rw [← HLN.out, if_pos g2]; exact Kd.R_nil _ _ _ _ _
          · exact HB.out
        · have t2 : decide ((ln : Int) < (n : Int)) = false := by simp; omega
          have HST := Lib.hid (show Stop f n 256 from ⟨hk, by rw [← HLN.out]; exact hle, .inl rfl⟩)
          have g3 : ¬ ln < n := by omega
          clear hlt g1
          go_wp2
          refine bodyPost_ret (v := .tuple #[.slice A7 ln c7, .int .i64 0]) (by simp [results, Try.results23, go_sem]) rfl ⟨.slice A7 ln c7, 256, HST.out, ?_, ?_, ?_⟩
          · rw [← HLN.out, if_neg g2]
          · rw [← HLN.out, if_neg g2, HLN.out]; exact Kd.R_mono HR.out (fun _ _ => trivial)
          · exact HB.out
end Go.Proofs.Ytmefhhkfakmhgaa.VPts
namespace Go.Proofs.Ytmefhhkfakmhgaa.Str
open Go Go.RowKit Go.Proofs.Ytmefhhkfakmhgaa.PMsrCodes Go.Proofs.Ytmefhhkfakmhgaa.BMsrCodes Go.Proofs.Ytmefhhkfakmhgaa.Gf Go.Proofs.Ytmefhhkfakmhgaa.Bits Go.Proofs.Ytmefhhkfakmhgaa.Mem Go.Proofs.Ytmefhhkfakmhgaa.VPts Go.Proofs.YtmefhhkfakmhgaaW.PrintWords Go.Proofs.YtmefhhkfakmhgaaW.PrintLast
set_option linter.unusedVariables false
theorem many1 : 24 ≤ (firsts (fun x => gp x 1) 40).length := by decide +kernel
theorem many2 : 24 ≤ (firsts (fun x => gp x 2) 40).length := by decide +kernel
theorem many3 : 24 ≤ (firsts (fun x => gp x 3) 40).length := by decide +kernel
theorem many4 : 24 ≤ (firsts (fun x => gp x 4) 40).length := by decide +kernel
theorem many5 : 24 ≤ (firsts (fun x => gp x 5) 40).length := by decide +kernel
theorem many6 : 24 ≤ (firsts (fun x => gp x 6) 40).length := by decide +kernel
theorem many7 : 24 ≤ (firsts (fun x => gp x 7) 40).length := by decide +kernel
theorem many (e : Nat) (h1 : 1 ≤ e) (h7 : e ≤ 7) : 24 ≤ (firsts (fun x => gp x e) 40).length := by
  rcases (show e = 1 ∨ e = 2 ∨ e = 3 ∨ e = 4 ∨ e = 5 ∨ e = 6 ∨ e = 7 by omega) with rfl | rfl | rfl | rfl | rfl | rfl | rfl
  · exact many1
  · exact many2
  · exact many3
  · exact many4
  · exact many5
  · exact many6
  · exact many7
theorem stop_len (f : Nat → Nat) (n q : Nat) (h : Stop f n q) (h24 : 24 ≤ (firsts f 40).length) (hn : n ≤ 24) : (firsts f q).length = n := by
  obtain ⟨h1, h2, h3 | h3⟩ := h
  · subst h3
    have hp := (pre f 40 216).length_le
    have hp : (firsts f 40).length ≤ (firsts f 256).length := hp
    omega
  · exact h3
def IsCode (w : World) (v : Value) (n k : Nat) : Prop := ∃ b A c, v = .pointer (some ⟨b, 0, none⟩) ∧ Blk w b 51 #[.int .i64 n, .int .i64 k, .slice A n c]
theorem IsCode.below {w w' : World} {v : Value} {n k : Nat} (h : IsCode w v n k) (hb : Below w.heap.size w w') : IsCode w' v n k := by
  obtain ⟨b, A, c, e, h⟩ := h
  exact ⟨b, A, c, e, h.below hb h.lt⟩
theorem below_of_drewN {w w' : World} {n : Nat} (h : Below (w.drewN n).heap.size (w.drewN n) w') : Below w.heap.size w w' := ⟨h.os, h.tape, h.output, h.size, h.block⟩
set_option maxRecDepth 100000 in
theorem k_any (v : Value) (n k : Nat) (w : World) (h : IsCode w v n k) :
    Calls Try.prog 16 #[v] w fun e w' => e = .returned (.int .i64 k) ∧ w' = w := by
  obtain ⟨b, A, c, rfl, h⟩ := h
  have h1 := (h.cell 1).trans rfl
  simp at h1
  go_enter Try.func16, Try.ntmps16
  go_wp2
  go_ret
  exact ⟨rfl, rfl⟩
set_option maxRecDepth 100000 in
theorem parts_any (v : Value) (n k : Nat) (w : World) (h : IsCode w v n k) (h1 : 1 ≤ k) (h2 : k ≤ 100) :
    Calls Try.prog 18 #[v] w fun e w' => e = .returned (.int .i64 ((k - 1 : Nat) : Int)) ∧ w' = w := by
  have H := Lib.hid h
  have e1 : IntKind.i64.wrap ((k : Int) - 1) = ((k - 1 : Nat) : Int) := by rw [IntWalk.i64_in _ (by omega)]; omega
  obtain ⟨q, hq⟩ : ∃ q, q = k - 1 := ⟨_, rfl⟩
  rw [← hq] at e1 ⊢
  have e2 : max (q : Int) 0 = (q : Int) := by omega
  clear h hq h1 h2
  go_enter Try.func18, Try.ntmps18
  go_wp2_with (go_at_call 16; (with_reducible refine (k_any _ _ _ _ H.out).mono ?_); rintro e w1 ⟨rfl, rfl⟩)
  go_ret
  exact ⟨rfl, rfl⟩
set_option maxRecDepth 100000 in
theorem symbols_any (v : Value) (n k s : Nat) (w : World) (h : IsCode w v n k) (h1 : 1 ≤ k) (h2 : k ≤ 100) (hs : k * (k - 1) = s) :
    Calls Try.prog 19 #[v] w fun e w' => e = .returned (.int .i64 s) ∧ w' = w := by
  have HP := Lib.hid (parts_any v n k w h h1 h2)
  have H := Lib.hid h
  have hle : k * (k - 1) ≤ 100 * 100 := Nat.mul_le_mul h2 (by omega)
  have e1 : IntKind.i64.wrap ((k : Int) * ((k - 1 : Nat) : Int)) = (s : Int) := by
    rw [← Int.natCast_mul, IntWalk.i64_in _ (by omega), hs]
  obtain ⟨q, hq⟩ : ∃ q, q = k - 1 := ⟨_, rfl⟩
  rw [← hq] at e1 HP
  clear h hq hs hle h1 h2
  go_enter Try.func19, Try.ntmps19
  go_wp2_with (first
    | (go_at_call 16; (with_reducible refine (k_any _ _ _ _ H.out).mono ?_); rintro e w1 ⟨rfl, rfl⟩)
    | (go_at_call 18; (with_reducible refine HP.out.mono ?_); rintro e w1 ⟨rfl, rfl⟩))
  go_ret
  exact ⟨rfl, rfl⟩
end Go.Proofs.Ytmefhhkfakmhgaa.Str
namespace Go.Proofs.Ytmefhhkfakmhgaa.Str
open Go Go.RowKit Go.Proofs.Ytmefhhkfakmhgaa.PMsrCodes Go.Proofs.Ytmefhhkfakmhgaa.BMsrCodes Go.Proofs.Ytmefhhkfakmhgaa.BMsrCodes Go.Proofs.Ytmefhhkfakmhgaa.Gf Go.Proofs.Ytmefhhkfakmhgaa.Bits Go.Proofs.Ytmefhhkfakmhgaa.Mem Go.Proofs.Ytmefhhkfakmhgaa.VPts Go.Proofs.Ytmefhhkfakmhgaa.Rws Go.Proofs.YtmefhhkfakmhgaaW.PrintWords Go.Proofs.YtmefhhkfakmhgaaW.PrintLast
set_option linter.unusedVariables false
def ptsL (n e : Nat) : List Int := (firsts (fun x => gp x e) 40).take n
theorem ptsL_bytes (n e : Nat) : ∀ x ∈ ptsL n e, 0 ≤ x ∧ x < 256 := fun x hx => firsts_bytes _ 40 (by decide) x (List.mem_of_mem_take hx)
theorem stop_pts (n e q : Nat) (h : Stop (fun x => gp x e) n q) (h1 : 1 ≤ e) (h7 : e ≤ 7) (hn : n ≤ 24) : firsts (fun x => gp x e) q = ptsL n e := by
  have h24 := many e h1 h7
  have hl := stop_len _ _ _ h h24 hn
  unfold ptsL
  rcases Nat.le_total q 40 with hq | hq
  · have hp := pre (fun x => gp x e) q (40 - q)
    rw [show q + (40 - q) = 40 by omega] at hp
    have := List.prefix_iff_eq_take.1 hp
    rw [hl] at this
    exact this
  · have hp := pre (fun x => gp x e) 40 (q - 40)
    rw [show 40 + (q - 40) = q by omega] at hp
    have hle := hp.length_le
    have he := List.IsPrefix.eq_of_length_le hp (by omega)
    rw [he, List.take_of_length_le (by omega)]
def IsCodeP (w : World) (v : Value) (n k : Nat) : Prop := ∃ b A c, v = .pointer (some ⟨b, 0, none⟩) ∧ Blk w b 51 #[.int .i64 n, .int .i64 k, .slice A n c] ∧ n ≤ c ∧ (Kd.int .u8).C w A n (ptsL n (k - 1))
theorem IsCodeP.below {w w' : World} {v : Value} {n k : Nat} (h : IsCodeP w v n k) (hb : Below w.heap.size w w') : IsCodeP w' v n k := by
  obtain ⟨b, A, c, e, h, hc, hp⟩ := h
  exact ⟨b, A, c, e, h.below hb h.lt, hc, Kd.C_below hp hb⟩
theorem IsCodeP.code {w : World} {v : Value} {n k : Nat} (h : IsCodeP w v n k) : IsCode w v n k := by
  obtain ⟨b, A, c, e, h, _⟩ := h
  exact ⟨b, A, c, e, h⟩
theorem points_pts (n e : Nat) (w : World) (h1 : 1 ≤ n) (h4 : n ≤ 24) (h2 : 1 ≤ e) (h3 : e ≤ 7) :
    Calls Try.prog 23 #[.int .i64 n, .int .i64 e] w fun e' w' => ∃ A c, e' = .returned (.tuple #[.slice A n c, .int .i64 0]) ∧ n ≤ c ∧ (Kd.int .u8).C w' A n (ptsL n e) ∧ Below w.heap.size w w' := by
  refine (points_good n e w h1 h2 (by omega)).mono ?_
  rintro e' w1 ⟨v, q1, hq1, rfl, hr, hb⟩
  have hl := stop_len _ _ _ hq1 (many e h2 h3) h4
  have hn : ¬ (firsts (fun x => gp x e) q1).length < n := by omega
  rw [if_neg hn] at hr
  obtain ⟨A, c, rfl, hc, hC⟩ := Kd.R_reads hr
  rw [if_neg hn]
  have e2 : Value.slice A (firsts (fun x => gp x e) q1).length c = Value.slice A n c := by rw [hl]
  rw [e2]
  rw [hl, stop_pts n e q1 hq1 h2 h3 h4] at hC
  exact ⟨A, c, rfl, by omega, hC, hb⟩
set_option maxRecDepth 100000 in
theorem new_codeP (n k : Nat) (w : World) (h1 : 2 ≤ k) (h2 : k ≤ 8) (h3 : 2 * k - 1 ≤ n) (h4 : n ≤ 24) :
    Calls Try.prog 9 #[.int .i64 n, .int .i64 k] w fun e w' => ∃ v, e = .returned (.tuple #[v, .int .i64 0]) ∧ IsCodeP w' v n k ∧ Below w.heap.size w w' := by
  have e1 : IntKind.i64.wrap (2 * (k : Int)) = 2 * (k : Int) := IntWalk.i64_in _ (by omega)
  have e2 : IntKind.i64.wrap (2 * (k : Int) - 1) = 2 * (k : Int) - 1 := IntWalk.i64_in _ (by omega)
  have e3 : IntKind.i64.wrap ((k : Int) - 1) = ((k - 1 : Nat) : Int) := by rw [IntWalk.i64_in _ (by omega)]; omega
  have PG := Lib.hid (fun W => points_pts n (k - 1) W (by omega) (by omega) (by omega) (by omega))
  have t1 : ¬ (k : Int) < 2 := by omega
  have t2 : ¬ (8 : Int) < (k : Int) := by omega
  have t3 : ¬ (n : Int) < 2 * (k : Int) - 1 := by omega
  have t4 : ¬ (24 : Int) < (n : Int) := by omega
  obtain ⟨q, hq⟩ : ∃ q, q = k - 1 := ⟨_, rfl⟩
  have HQ := Lib.hid hq
  rw [← hq] at e3 PG
  clear hq h1 h2 h3 h4
  go_enter Try.func9, Try.ntmps9
  go_wp2_with (go_at_call 23; (with_reducible refine (PG.out _).mono ?_); rintro e w1 ⟨A5, c5, rfl, hc5, hr, hb⟩; have HB := Lib.hid hb; have HR := Lib.hid hr; have HC := Lib.hid hc5; clear hr hb hc5)
  refine bodyPost_ret (v := .tuple #[.pointer (some ⟨w1.heap.size, 0, none⟩), .int .i64 0]) (by simp [results, Try.results9, go_sem]) rfl ⟨_, rfl, ⟨_, _, _, rfl, Blk.new _ _ _, HC.out, ?_⟩, HB.out.alloc HB.out.size _⟩
  rw [← HQ.out]
  exact Kd.C_below HR.out ((Below.refl _ _).alloc (Nat.le_refl _) _)
def ptN (n k slot : Nat) : Nat := ((ptsL n (k - 1)).getD slot 0).toNat
theorem ptN_lt (n k slot : Nat) : ptN n k slot < 256 := by
  unfold ptN
  rcases Nat.lt_or_ge slot (ptsL n (k - 1)).length with h | h
  · have := ptsL_bytes n (k - 1) _ (List.getElem_mem h)
    rw [List.getD_eq_getElem?_getD, List.getElem?_eq_getElem h]
    simp only [Option.getD_some]
    omega
  · rw [List.getD_eq_getElem?_getD, List.getElem?_eq_none h]; decide
theorem ptN_eq (n k slot : Nat) : (ptsL n (k - 1)).getD slot 0 = (ptN n k slot : Int) := by
  unfold ptN
  rcases Nat.lt_or_ge slot (ptsL n (k - 1)).length with h | h
  · have := ptsL_bytes n (k - 1) _ (List.getElem_mem h)
    rw [List.getD_eq_getElem?_getD, List.getElem?_eq_getElem h]
    simp only [Option.getD_some]
    omega
  · rw [List.getD_eq_getElem?_getD, List.getElem?_eq_none h]; rfl
set_option maxRecDepth 100000 in
set_option maxHeartbeats 1000000 in
theorem row_any (v : Value) (n k slot : Nat) (w : World) (hc : IsCodeP w v n k) (k1 : 2 ≤ k) (k2 : k ≤ 8) (n2 : n ≤ 24) (hs : slot < n) :
    Calls Try.prog 20 #[v, .int .i64 slot] w fun e w' => ∃ A c, e = .returned (.slice A (2 * k - 2) c) ∧ Kd.R (Kd.int .u8) 5 w' w.heap.size (fun _ => True) (.slice A (2 * k - 2) c) (pows (ptN n k slot) (2 * k - 2)) ∧ Below w.heap.size w w' := by
  obtain ⟨b, A, c, rfl, hb, hnc, hP⟩ := hc
  have y0 : w.cell? ⟨b, 0, none⟩ = some (.int .i64 n) := (hb.cell 0).trans rfl
  have y1 : w.cell? ⟨b, 1, none⟩ = some (.int .i64 k) := (hb.cell 1).trans rfl
  have y2 : w.cell? ⟨b, 2, none⟩ = some (.slice A n c) := (hb.cell 2).trans rfl
  obtain ⟨ad, cc, rfl, _, hK, hcell⟩ := Kd.C_get hP 0 (slot : Int) (by omega) (by omega)
  have y3 : w.cell? (ad.add slot) = some (.int .u8 (ptN n k slot)) := by
    have hK' : cc = [.int .u8 ((ptsL n (k - 1)).getD slot 0)] := hK
    subst hK'
    have := hcell 0 _ rfl
    rw [ptN_eq] at this
    simpa [Kd.int, Kd.scalar] using this
  obtain ⟨x, hx⟩ : ∃ x, x = ptN n k slot := ⟨_, rfl⟩
  have hx2 : x < 256 := by rw [hx]; exact ptN_lt n k slot
  rw [← hx] at y3 ⊢
  obtain ⟨m, hm⟩ : ∃ m, m = 2 * k - 2 := ⟨_, rfl⟩
  have RC := Lib.hid (fun W => row_calls x hx2 (m : Int) (by omega) W)
  have e1 : IntKind.i64.wrap (2 * (k : Int)) = 2 * (k : Int) := IntWalk.i64_in _ (by omega)
  have e2 : IntKind.i64.wrap (2 * (k : Int) - 2) = (m : Int) := by rw [IntWalk.i64_in _ (by omega)]; omega
  have e3 : ¬ (n : Int) ≤ (slot : Int) := by omega
  have e4 : decide ((slot : Int) < 0) = false := by simp
  have e5 : (slot : Int) < (n : Int) := by omega
  rw [← hm]
  clear hb hP hK hcell hx hx2 hm k1 k2 n2 hs hnc
  go_enter Try.func20, Try.ntmps20
  go_wp2
  refine wp_region_still_tail 13 (by kernel_rfl) (by kernel_rfl) ?_
  change wpStill _ _ _ (fun a' => wpList _ _ _ _ a' _) _ _
  simp only [List.take_succ_cons, List.take_zero, List.drop_succ_cons, List.drop_zero]
  repeat still_step
  refine wpStill_nil ?_
  go_wp2_with (go_at_call 33; (with_reducible refine (RC.out _).mono ?_); rintro e w1 ⟨A5, c5, rfl, hr, hb⟩; have HR := Lib.hid hr; have HB := Lib.hid hb; clear hr hb)
  go_ret
  exact ⟨_, _, rfl, by simpa using HR.out, (Below.refl w.heap.size w).drew.trans HB.out⟩
def placeN (a r c : Nat) : Nat := (if r < a then 0 else a * (a + 1) / 2) + min (if r < a then r else r - a) c * a - min (if r < a then r else r - a) c * (min (if r < a then r else r - a) c - 1) / 2 + max (if r < a then r else r - a) c - min (if r < a then r else r - a) c
theorem ret_int {k : IntKind} {a b : Int} (h : a = b) : Ending.returned (.int k a) = Ending.returned (.int k b) := by rw [h]
theorem tri_le (i : Nat) (h : i ≤ 7) : i * (i - 1) ≤ 42 := by
  have h2 := Nat.mul_le_mul h (show i - 1 ≤ 6 by omega)
  omega
theorem tri_int (i : Nat) : (i : Int) * ((i : Int) - 1) = ((i * (i - 1) : Nat) : Int) := by
  cases i with
  | zero => simp
  | succ i => rw [show ((i + 1 : Nat) : Int) - 1 = (i : Int) by omega]; simp
set_option maxRecDepth 100000 in
set_option maxHeartbeats 1000000 in
theorem place_any (v : Value) (n k r c : Nat) (w : World) (hc : IsCode w v n k) (k1 : 2 ≤ k) (k2 : k ≤ 8) (hr : r < 2 * (k - 1)) (hcl : c < k - 1) :
    Calls Try.prog 38 #[v, .int .i64 r, .int .i64 c] w fun e w' => e = .returned (.int .i64 (placeN (k - 1) r c)) ∧ w' = w := by
  obtain ⟨b, A, c0, rfl, hb⟩ := hc
  have y1 : w.cell? ⟨b, 1, none⟩ = some (.int .i64 k) := (hb.cell 1).trans rfl
  obtain ⟨a, ha⟩ : ∃ a, a = k - 1 := ⟨_, rfl⟩
  rw [← ha] at hr hcl ⊢
  have e0 : IntKind.i64.wrap ((k : Int) - 1) = (a : Int) := by rw [IntWalk.i64_in _ (by omega)]; omega
  have a7 : a ≤ 7 := by omega
  clear hb ha k1 k2
  by_cases h : r < a
  · obtain ⟨B, hB⟩ : ∃ B, B = 0 := ⟨_, rfl⟩
    have lB : B ≤ 28 := by omega
    have HBB := Lib.hid hB
    have h1 : ¬ (a : Int) ≤ (r : Int) := by omega
    rcases Nat.lt_trichotomy r c with hm | hm | hm
    · obtain ⟨i, hi⟩ : ∃ i, i = r := ⟨_, rfl⟩
      obtain ⟨j, hj⟩ : ∃ j, j = c := ⟨_, rfl⟩
      have G : placeN a r c = B + i * a - i * (i - 1) / 2 + j - i := by unfold placeN; rw [if_pos h, if_pos h, Nat.min_eq_left (by omega), Nat.max_eq_right (by omega), hi, hj, hB]
      have li : i ≤ 7 := by omega
      have lj : j ≤ 7 := by omega
      obtain ⟨q, hq⟩ : ∃ q, q = i * a := ⟨_, rfl⟩
      obtain ⟨t, ht⟩ : ∃ t, t = i * (i - 1) := ⟨_, rfl⟩
      have lq : q ≤ 49 := by rw [hq]; exact Nat.mul_le_mul li a7
      have lt : t ≤ 42 := by rw [ht]; exact tri_le i li
      have hq2 : t / 2 ≤ B + q := by
        have : i * (i - 1) ≤ i * a := Nat.mul_le_mul_left i (by omega)
        omega
      have e1 : IntKind.i64.wrap ((i : Int) * (a : Int)) = (q : Int) := by rw [← Int.natCast_mul, ← hq, IntWalk.i64_in _ (by omega)]
      have e2 : IntKind.i64.wrap ((i : Int) - 1) = (i : Int) - 1 := IntWalk.i64_in _ (by omega)
      have e3 : IntKind.i64.wrap ((i : Int) * ((i : Int) - 1)) = (t : Int) := by rw [tri_int, ← ht, IntWalk.i64_in _ (by omega)]
      have e7 : IntKind.i64.wrap ((t : Int).tdiv 2) = ((t / 2 : Nat) : Int) := by rw [Int.tdiv_eq_ediv_of_nonneg (by omega), IntWalk.i64_in _ (by omega)]; omega
      have e8 : IntKind.i64.wrap ((B : Int) + (q : Int)) = (B : Int) + (q : Int) := IntWalk.i64_in _ (by omega)
      rw [← hq, ← ht] at G
      have HG := Lib.hid G
      clear hq ht G
      subst hi hj hB
      have h2 : (i : Int) < (j : Int) := by omega
      go_enter Try.func38, Try.ntmps38
      go_wp2
      go_ret
      exact ⟨ret_int (by rw [HG.out]; have := HBB.out; omega), rfl⟩
    · obtain ⟨i, hi⟩ : ∃ i, i = r := ⟨_, rfl⟩
      obtain ⟨j, hj⟩ : ∃ j, j = c := ⟨_, rfl⟩
      have G : placeN a r c = B + i * a - i * (i - 1) / 2 + j - i := by unfold placeN; rw [if_pos h, if_pos h, Nat.min_eq_left (by omega), Nat.max_eq_right (by omega), hi, hj, hB]
      have li : i ≤ 7 := by omega
      have lj : j ≤ 7 := by omega
      obtain ⟨q, hq⟩ : ∃ q, q = i * a := ⟨_, rfl⟩
      obtain ⟨t, ht⟩ : ∃ t, t = i * (i - 1) := ⟨_, rfl⟩
      have lq : q ≤ 49 := by rw [hq]; exact Nat.mul_le_mul li a7
      have lt : t ≤ 42 := by rw [ht]; exact tri_le i li
      have hq2 : t / 2 ≤ B + q := by
        have : i * (i - 1) ≤ i * a := Nat.mul_le_mul_left i (by omega)
        omega
      have e1 : IntKind.i64.wrap ((i : Int) * (a : Int)) = (q : Int) := by rw [← Int.natCast_mul, ← hq, IntWalk.i64_in _ (by omega)]
      have e2 : IntKind.i64.wrap ((i : Int) - 1) = (i : Int) - 1 := IntWalk.i64_in _ (by omega)
      have e3 : IntKind.i64.wrap ((i : Int) * ((i : Int) - 1)) = (t : Int) := by rw [tri_int, ← ht, IntWalk.i64_in _ (by omega)]
      have e7 : IntKind.i64.wrap ((t : Int).tdiv 2) = ((t / 2 : Nat) : Int) := by rw [Int.tdiv_eq_ediv_of_nonneg (by omega), IntWalk.i64_in _ (by omega)]; omega
      have e8 : IntKind.i64.wrap ((B : Int) + (q : Int)) = (B : Int) + (q : Int) := IntWalk.i64_in _ (by omega)
      rw [← hq, ← ht] at G
      have HG := Lib.hid G
      clear hq ht G
      subst hi hj hB
      subst hm
      go_enter Try.func38, Try.ntmps38
      go_wp2
      go_ret
      exact ⟨ret_int (by rw [HG.out]; have := HBB.out; omega), rfl⟩
    · obtain ⟨i, hi⟩ : ∃ i, i = c := ⟨_, rfl⟩
      obtain ⟨j, hj⟩ : ∃ j, j = r := ⟨_, rfl⟩
      have G : placeN a r c = B + i * a - i * (i - 1) / 2 + j - i := by unfold placeN; rw [if_pos h, if_pos h, Nat.min_eq_right (by omega), Nat.max_eq_left (by omega), hi, hj, hB]
      have li : i ≤ 7 := by omega
      have lj : j ≤ 7 := by omega
      obtain ⟨q, hq⟩ : ∃ q, q = i * a := ⟨_, rfl⟩
      obtain ⟨t, ht⟩ : ∃ t, t = i * (i - 1) := ⟨_, rfl⟩
      have lq : q ≤ 49 := by rw [hq]; exact Nat.mul_le_mul li a7
      have lt : t ≤ 42 := by rw [ht]; exact tri_le i li
      have hq2 : t / 2 ≤ B + q := by
        have : i * (i - 1) ≤ i * a := Nat.mul_le_mul_left i (by omega)
        omega
      have e1 : IntKind.i64.wrap ((i : Int) * (a : Int)) = (q : Int) := by rw [← Int.natCast_mul, ← hq, IntWalk.i64_in _ (by omega)]
      have e2 : IntKind.i64.wrap ((i : Int) - 1) = (i : Int) - 1 := IntWalk.i64_in _ (by omega)
      have e3 : IntKind.i64.wrap ((i : Int) * ((i : Int) - 1)) = (t : Int) := by rw [tri_int, ← ht, IntWalk.i64_in _ (by omega)]
      have e7 : IntKind.i64.wrap ((t : Int).tdiv 2) = ((t / 2 : Nat) : Int) := by rw [Int.tdiv_eq_ediv_of_nonneg (by omega), IntWalk.i64_in _ (by omega)]; omega
      have e8 : IntKind.i64.wrap ((B : Int) + (q : Int)) = (B : Int) + (q : Int) := IntWalk.i64_in _ (by omega)
      rw [← hq, ← ht] at G
      have HG := Lib.hid G
      clear hq ht G
      subst hi hj hB
      have h2 : (i : Int) < (j : Int) := by omega
      go_enter Try.func38, Try.ntmps38
      go_wp2
      go_ret
      exact ⟨ret_int (by rw [HG.out]; have := HBB.out; omega), rfl⟩
  · have p1 : a * (a + 1) ≤ 56 := by have := Nat.mul_le_mul a7 (show a + 1 ≤ 8 by omega); omega
    obtain ⟨p, hp⟩ : ∃ p, p = a * (a + 1) := ⟨_, rfl⟩
    rw [← hp] at p1
    obtain ⟨B, hB⟩ : ∃ B, B = p / 2 := ⟨_, rfl⟩
    have lB : B ≤ 28 := by omega
    have HBB := Lib.hid hB
    have f4 : IntKind.i64.wrap ((a : Int) * ((a : Int) + 1)) = (p : Int) := by rw [show (a : Int) * ((a : Int) + 1) = ((a * (a + 1) : Nat) : Int) by rw [Int.natCast_mul, Int.natCast_add]; rfl, ← hp, IntWalk.i64_in _ (by omega)]
    have f5 : IntKind.i64.wrap ((a : Int) + 1) = (a : Int) + 1 := IntWalk.i64_in _ (by omega)
    have f6 : IntKind.i64.wrap ((p : Int).tdiv 2) = (B : Int) := by rw [Int.tdiv_eq_ediv_of_nonneg (by omega), IntWalk.i64_in _ (by omega)]; omega
    have h1 : (a : Int) ≤ (r : Int) := by omega
    obtain ⟨r', hr'⟩ : ∃ r', r' = r - a := ⟨_, rfl⟩
    have f7 : IntKind.i64.wrap ((r : Int) - (a : Int)) = (r' : Int) := by rw [IntWalk.i64_in _ (by omega)]; omega
    rcases Nat.lt_trichotomy r' c with hm | hm | hm
    · obtain ⟨i, hi⟩ : ∃ i, i = r' := ⟨_, rfl⟩
      obtain ⟨j, hj⟩ : ∃ j, j = c := ⟨_, rfl⟩
      have G : placeN a r c = B + i * a - i * (i - 1) / 2 + j - i := by unfold placeN; rw [if_neg h, if_neg h, ← hr', Nat.min_eq_left (by omega), Nat.max_eq_right (by omega), hi, hj, hB, hp]
      have li : i ≤ 7 := by omega
      have lj : j ≤ 7 := by omega
      obtain ⟨q, hq⟩ : ∃ q, q = i * a := ⟨_, rfl⟩
      obtain ⟨t, ht⟩ : ∃ t, t = i * (i - 1) := ⟨_, rfl⟩
      have lq : q ≤ 49 := by rw [hq]; exact Nat.mul_le_mul li a7
      have lt : t ≤ 42 := by rw [ht]; exact tri_le i li
      have hq2 : t / 2 ≤ B + q := by
        have : i * (i - 1) ≤ i * a := Nat.mul_le_mul_left i (by omega)
        omega
      have e1 : IntKind.i64.wrap ((i : Int) * (a : Int)) = (q : Int) := by rw [← Int.natCast_mul, ← hq, IntWalk.i64_in _ (by omega)]
      have e2 : IntKind.i64.wrap ((i : Int) - 1) = (i : Int) - 1 := IntWalk.i64_in _ (by omega)
      have e3 : IntKind.i64.wrap ((i : Int) * ((i : Int) - 1)) = (t : Int) := by rw [tri_int, ← ht, IntWalk.i64_in _ (by omega)]
      have e7 : IntKind.i64.wrap ((t : Int).tdiv 2) = ((t / 2 : Nat) : Int) := by rw [Int.tdiv_eq_ediv_of_nonneg (by omega), IntWalk.i64_in _ (by omega)]; omega
      have e8 : IntKind.i64.wrap ((B : Int) + (q : Int)) = (B : Int) + (q : Int) := IntWalk.i64_in _ (by omega)
      rw [← hq, ← ht] at G
      have HG := Lib.hid G
      clear hq ht G
      have lr : r' < a := by omega
      clear hr' hB hp
      subst hi hj
      have h2 : (i : Int) < (j : Int) := by omega
      go_enter Try.func38, Try.ntmps38
      go_wp2
      go_ret
      exact ⟨ret_int (by rw [HG.out]; have := HBB.out; omega), rfl⟩
    · obtain ⟨i, hi⟩ : ∃ i, i = r' := ⟨_, rfl⟩
      obtain ⟨j, hj⟩ : ∃ j, j = c := ⟨_, rfl⟩
      have G : placeN a r c = B + i * a - i * (i - 1) / 2 + j - i := by unfold placeN; rw [if_neg h, if_neg h, ← hr', Nat.min_eq_left (by omega), Nat.max_eq_right (by omega), hi, hj, hB, hp]
      have li : i ≤ 7 := by omega
      have lj : j ≤ 7 := by omega
      obtain ⟨q, hq⟩ : ∃ q, q = i * a := ⟨_, rfl⟩
      obtain ⟨t, ht⟩ : ∃ t, t = i * (i - 1) := ⟨_, rfl⟩
      have lq : q ≤ 49 := by rw [hq]; exact Nat.mul_le_mul li a7
      have lt : t ≤ 42 := by rw [ht]; exact tri_le i li
      have hq2 : t / 2 ≤ B + q := by
        have : i * (i - 1) ≤ i * a := Nat.mul_le_mul_left i (by omega)
        omega
      have e1 : IntKind.i64.wrap ((i : Int) * (a : Int)) = (q : Int) := by rw [← Int.natCast_mul, ← hq, IntWalk.i64_in _ (by omega)]
      have e2 : IntKind.i64.wrap ((i : Int) - 1) = (i : Int) - 1 := IntWalk.i64_in _ (by omega)
      have e3 : IntKind.i64.wrap ((i : Int) * ((i : Int) - 1)) = (t : Int) := by rw [tri_int, ← ht, IntWalk.i64_in _ (by omega)]
      have e7 : IntKind.i64.wrap ((t : Int).tdiv 2) = ((t / 2 : Nat) : Int) := by rw [Int.tdiv_eq_ediv_of_nonneg (by omega), IntWalk.i64_in _ (by omega)]; omega
      have e8 : IntKind.i64.wrap ((B : Int) + (q : Int)) = (B : Int) + (q : Int) := IntWalk.i64_in _ (by omega)
      rw [← hq, ← ht] at G
      have HG := Lib.hid G
      clear hq ht G
      have lr : r' < a := by omega
      clear hr' hB hp
      subst hi hj
      subst hm
      go_enter Try.func38, Try.ntmps38
      go_wp2
      go_ret
      exact ⟨ret_int (by rw [HG.out]; have := HBB.out; omega), rfl⟩
    · obtain ⟨i, hi⟩ : ∃ i, i = c := ⟨_, rfl⟩
      obtain ⟨j, hj⟩ : ∃ j, j = r' := ⟨_, rfl⟩
      have G : placeN a r c = B + i * a - i * (i - 1) / 2 + j - i := by unfold placeN; rw [if_neg h, if_neg h, ← hr', Nat.min_eq_right (by omega), Nat.max_eq_left (by omega), hi, hj, hB, hp]
      have li : i ≤ 7 := by omega
      have lj : j ≤ 7 := by omega
      obtain ⟨q, hq⟩ : ∃ q, q = i * a := ⟨_, rfl⟩
      obtain ⟨t, ht⟩ : ∃ t, t = i * (i - 1) := ⟨_, rfl⟩
      have lq : q ≤ 49 := by rw [hq]; exact Nat.mul_le_mul li a7
      have lt : t ≤ 42 := by rw [ht]; exact tri_le i li
      have hq2 : t / 2 ≤ B + q := by
        have : i * (i - 1) ≤ i * a := Nat.mul_le_mul_left i (by omega)
        omega
      have e1 : IntKind.i64.wrap ((i : Int) * (a : Int)) = (q : Int) := by rw [← Int.natCast_mul, ← hq, IntWalk.i64_in _ (by omega)]
      have e2 : IntKind.i64.wrap ((i : Int) - 1) = (i : Int) - 1 := IntWalk.i64_in _ (by omega)
      have e3 : IntKind.i64.wrap ((i : Int) * ((i : Int) - 1)) = (t : Int) := by rw [tri_int, ← ht, IntWalk.i64_in _ (by omega)]
      have e7 : IntKind.i64.wrap ((t : Int).tdiv 2) = ((t / 2 : Nat) : Int) := by rw [Int.tdiv_eq_ediv_of_nonneg (by omega), IntWalk.i64_in _ (by omega)]; omega
      have e8 : IntKind.i64.wrap ((B : Int) + (q : Int)) = (B : Int) + (q : Int) := IntWalk.i64_in _ (by omega)
      rw [← hq, ← ht] at G
      have HG := Lib.hid G
      clear hq ht G
      have lr : r' < a := by omega
      clear hr' hB hp
      subst hi hj
      have h2 : (i : Int) < (j : Int) := by omega
      go_enter Try.func38, Try.ntmps38
      go_wp2
      go_ret
      exact ⟨ret_int (by rw [HG.out]; have := HBB.out; omega), rfl⟩
end Go.Proofs.Ytmefhhkfakmhgaa.Str
namespace Go.Proofs.Ytmefhhkfakmhgaa.Str
open Go Go.RowKit Go.Proofs.Ytmefhhkfakmhgaa.PMsrCodes Go.Proofs.Ytmefhhkfakmhgaa.BMsrCodes Go.Proofs.Ytmefhhkfakmhgaa.Gf Go.Proofs.Ytmefhhkfakmhgaa.Gi Go.Proofs.Ytmefhhkfakmhgaa.Bits Go.Proofs.Ytmefhhkfakmhgaa.Mem Go.Proofs.Ytmefhhkfakmhgaa.VPts Go.Proofs.Ytmefhhkfakmhgaa.Rws Go.Proofs.YtmefhhkfakmhgaaW.PrintWords Go.Proofs.YtmefhhkfakmhgaaW.PrintLast
set_option linter.unusedVariables false
theorem mul_calls (a b : Int) (w : World) (ha : Byt a) (hb : Byt b) :
    Calls Try.prog 45 #[.int .u8 a, .int .u8 b] w fun e w' => e = .returned (.int .u8 (gmI a b)) ∧ ∃ n, w' = w.drewN n := by
  obtain ⟨x, hx, rfl⟩ := byt_nat ha
  obtain ⟨y, hy, rfl⟩ := byt_nat hb
  refine (gf_Mul.calls 9 x y _ w (gf_mul 9 x y hx hy (by decide))).mono ?_
  rintro e w' ⟨rfl, h⟩
  exact ⟨by simp [gmI], h.out⟩
theorem add_calls (a b : Int) (w : World) (ha : Byt a) (hb : Byt b) :
    Calls Try.prog 44 #[.int .u8 a, .int .u8 b] w fun e w' => e = .returned (.int .u8 (xorI a b)) ∧ ∃ n, w' = w.drewN n := by
  refine (gf_Add.calls a b _ w (show gf_Add.f a b = some (xorI a b) by unfold gf_Add.f; rw [xor_bits ha hb])).mono ?_
  rintro e w' ⟨rfl, h⟩
  exact ⟨rfl, h.out⟩
set_option maxRecDepth 100000 in
theorem helpers_any (v : Value) (n k : Nat) (w : World) (h : IsCode w v n k) (h1 : 1 ≤ k) (h2 : k ≤ 100) :
    Calls Try.prog 17 #[v] w fun e w' => e = .returned (.int .i64 ((2 * k - 2 : Nat) : Int)) ∧ w' = w := by
  have H := Lib.hid h
  have e1 : IntKind.i64.wrap (2 * (k : Int)) = 2 * (k : Int) := IntWalk.i64_in _ (by omega)
  have e2 : IntKind.i64.wrap (2 * (k : Int) - 2) = ((2 * k - 2 : Nat) : Int) := by rw [IntWalk.i64_in _ (by omega)]; omega
  obtain ⟨q, hq⟩ : ∃ q, q = 2 * k - 2 := ⟨_, rfl⟩
  rw [← hq] at e2 ⊢
  have e3 : max (q : Int) 0 = (q : Int) := by omega
  clear h hq h1 h2
  go_enter Try.func17, Try.ntmps17
  go_wp2_with (go_at_call 16; (with_reducible refine (k_any _ _ _ _ H.out).mono ?_); rintro e w1 ⟨rfl, rfl⟩)
  go_ret
  exact ⟨rfl, rfl⟩
theorem gp_byt (x j : Nat) (hx : x < 256) : Byt ((gp x j : Nat) : Int) := by have := gp_lt x hx j; exact ⟨by omega, by omega⟩
theorem at_row {w : World} {A : Option Addr} {n : Nat} {xs : List Int} (h : (Kd.int .u8).C w A n xs) (i : Nat) (hi : i < n) : ∃ ad, A = some ad ∧ w.cell? (ad.add i) = some (.int .u8 (xs.getD i 0)) := by
  obtain ⟨ad, e, hc⟩ := Kd.at_int h (i : Int) (by omega) (by omega)
  simp only [Int.toNat_natCast] at hc
  exact ⟨ad, e, by simpa [rd] using hc⟩
def RowAt (w : World) (ad : Addr) (n : Nat) (xs : List Int) : Prop := ∀ j, j < n → w.cell? (ad.add j) = some (.int .u8 (xs.getD j 0))
theorem RowAt.of {w : World} {A : Option Addr} {n : Nat} {xs : List Int} (h : (Kd.int .u8).C w A n xs) (hn : 0 < n) : ∃ ad, A = some ad ∧ RowAt w ad n xs := by
  obtain ⟨ad, e, _⟩ := at_row h 0 hn
  refine ⟨ad, e, fun j hj => ?_⟩
  obtain ⟨ad', e', hc⟩ := at_row h j hj
  rw [e] at e'
  injection e' with e'
  subst e'
  exact hc
theorem RowAt.far {w : World} {ad : Addr} {n : Nat} {xs : List Int} (h : RowAt w ad n xs) {p : Addr} (hp : ad.block ≠ p.block) (u : Value) : RowAt (w.setCell p u) ad n xs :=
  fun j hj => (World.cell?_setCell_other w p (ad.add j) u (fun e => hp (by rw [e, block_of_add]))).trans (h j hj)
theorem RowAt.drewN {w : World} {ad : Addr} {n : Nat} {xs : List Int} (h : RowAt w ad n xs) (q : Nat) : RowAt (w.drewN q) ad n xs := h
theorem RowAt.drew {w : World} {ad : Addr} {n : Nat} {xs : List Int} (h : RowAt w ad n xs) : RowAt w.drew ad n xs := h
theorem pows_get (x n i : Nat) (hi : i < n) : (pows x n).getD i 0 = ((gp x i : Nat) : Int) := by simp [pows, List.getD_eq_getElem?_getD, hi]
end Go.Proofs.Ytmefhhkfakmhgaa.Str
namespace Go.Proofs.Ytmefhhkfakmhgaa.Str
open Go Go.RowKit Go.Proofs.Ytmefhhkfakmhgaa.BMsrCodes Go.Proofs.Ytmefhhkfakmhgaa.Gf Go.Proofs.Ytmefhhkfakmhgaa.Gi Go.Proofs.Ytmefhhkfakmhgaa.Bits Go.Proofs.Ytmefhhkfakmhgaa.Mem Go.Proofs.Ytmefhhkfakmhgaa.VPts Go.Proofs.Ytmefhhkfakmhgaa.Rws Go.Proofs.YtmefhhkfakmhgaaW.PrintWords
set_option linter.unusedVariables false
set_option maxRecDepth 100000 in
set_option maxHeartbeats 1000000 in
theorem short_any (v : Value) (n k slot : Nat) (w : World) (hc : IsCodeP w v n k) (k1 : 2 ≤ k) (k2 : k ≤ 8) (n2 : n ≤ 24) (hs : slot < n) :
    Calls Try.prog 41 #[v, .int .i64 slot] w fun e w' => ∃ A c, e = .returned (.slice A (k - 1) c) ∧ Kd.R (Kd.int .u8) 5 w' w.heap.size (fun _ => True) (.slice A (k - 1) c) (pows (ptN n k slot) (k - 1)) ∧ Below w.heap.size w w' := by
  obtain ⟨b, A, c, rfl, hb, hnc, hP⟩ := hc
  have y0 : w.cell? ⟨b, 0, none⟩ = some (.int .i64 n) := (hb.cell 0).trans rfl
  have y1 : w.cell? ⟨b, 1, none⟩ = some (.int .i64 k) := (hb.cell 1).trans rfl
  have y2 : w.cell? ⟨b, 2, none⟩ = some (.slice A n c) := (hb.cell 2).trans rfl
  obtain ⟨ad, cc, rfl, _, hK, hcell⟩ := Kd.C_get hP 0 (slot : Int) (by omega) (by omega)
  have y3 : w.cell? (ad.add slot) = some (.int .u8 (ptN n k slot)) := by
    have hK' : cc = [.int .u8 ((ptsL n (k - 1)).getD slot 0)] := hK
    subst hK'
    have := hcell 0 _ rfl
    rw [ptN_eq] at this
    simpa [Kd.int, Kd.scalar] using this
  obtain ⟨x, hx⟩ : ∃ x, x = ptN n k slot := ⟨_, rfl⟩
  have hx2 : x < 256 := by rw [hx]; exact ptN_lt n k slot
  rw [← hx] at y3 ⊢
  obtain ⟨m, hm⟩ : ∃ m, m = k - 1 := ⟨_, rfl⟩
  have e2 : IntKind.i64.wrap ((k : Int) - 1) = (m : Int) := by rw [IntWalk.i64_in _ (by omega)]; omega
  have e5 : (slot : Int) < (n : Int) := by omega
  have e6 : (0 : Int) ≤ (slot : Int) := by omega
  rw [← hm]
  have RC := Lib.hid (fun W => row_calls x hx2 (m : Int) (by omega) W)
  clear hb hP hK hcell hx hx2 hm k1 k2 n2 hs hnc
  go_enter Try.func41, Try.ntmps41
  go_wp2
  refine wp_region_still_tail 12 (by kernel_rfl) (by kernel_rfl) ?_
  change wpStill _ _ _ (fun a' => wpList _ _ _ _ a' _) _ _
  simp only [List.take_succ_cons, List.take_zero, List.drop_succ_cons, List.drop_zero]
  repeat still_step
  refine wpStill_nil ?_
  go_wp2_with (go_at_call 33; (with_reducible refine (RC.out _).mono ?_); rintro e w1 ⟨A5, c5, rfl, hr, hb⟩; have HR := Lib.hid hr; have HB := Lib.hid hb; clear hr hb)
  go_ret
  exact ⟨_, _, rfl, by simpa using HR.out, (Below.refl w.heap.size w).drew.trans HB.out⟩
set_option maxRecDepth 100000 in
set_option maxHeartbeats 1000000 in
theorem codefactor_any (v : Value) (n k slot : Nat) (w : World) (hc : IsCodeP w v n k) (k1 : 2 ≤ k) (k2 : k ≤ 8) (n2 : n ≤ 24) (hs : slot < n) :
    Calls Try.prog 42 #[v, .int .i64 slot] w fun e w' => e = .returned (.int .u8 ((gp (ptN n k slot) (k - 1) : Nat) : Int)) ∧ ∃ q, w' = w.drewN q := by
  obtain ⟨b, A, c, rfl, hb, hnc, hP⟩ := hc
  have y0 : w.cell? ⟨b, 0, none⟩ = some (.int .i64 n) := (hb.cell 0).trans rfl
  have y1 : w.cell? ⟨b, 1, none⟩ = some (.int .i64 k) := (hb.cell 1).trans rfl
  have y2 : w.cell? ⟨b, 2, none⟩ = some (.slice A n c) := (hb.cell 2).trans rfl
  obtain ⟨ad, cc, rfl, _, hK, hcell⟩ := Kd.C_get hP 0 (slot : Int) (by omega) (by omega)
  have y3 : w.cell? (ad.add slot) = some (.int .u8 (ptN n k slot)) := by
    have hK' : cc = [.int .u8 ((ptsL n (k - 1)).getD slot 0)] := hK
    subst hK'
    have := hcell 0 _ rfl
    rw [ptN_eq] at this
    simpa [Kd.int, Kd.scalar] using this
  obtain ⟨x, hx⟩ : ∃ x, x = ptN n k slot := ⟨_, rfl⟩
  have hx2 : x < 256 := by rw [hx]; exact ptN_lt n k slot
  rw [← hx] at y3 ⊢
  obtain ⟨m, hm⟩ : ∃ m, m = k - 1 := ⟨_, rfl⟩
  have e2 : IntKind.i64.wrap ((k : Int) - 1) = (m : Int) := by rw [IntWalk.i64_in _ (by omega)]; omega
  have e5 : (slot : Int) < (n : Int) := by omega
  have e6 : (0 : Int) ≤ (slot : Int) := by omega
  rw [← hm]
  have PW := Lib.hid (fun W => pow_still x m W hx2 (by omega))
  clear hb hP hK hcell hx hx2 hm k1 k2 n2 hs hnc
  go_enter Try.func42, Try.ntmps42
  go_wp2
  go_quiet ((go_at_call 36; exact Calls.quiet_of_same (PW.out _)))
  go_wp2
  go_ret
  exact ⟨rfl, _, rfl⟩
end Go.Proofs.Ytmefhhkfakmhgaa.Str
namespace Go.Proofs.Ytmefhhkfakmhgaa.Opn
open Go Go.RowKit Go.ChangeShapes Go.WideShapes Go.ChangeAt Go.Deep Go.Proofs.YtmefhhkfakmhgaaW.PrintWords
set_option linter.unusedVariables false
structure Opens {α : Type} (d : Kd α) (ok : α → Prop) (t : TypeId) : Prop where
  out : ∀ {H : Type} {enc : TypeId × Value → H} {W : World} {fuel : Nat} {cs : List Value} {x : DataW H × List MemPlace}, DataW.trod enc Try.prog W 0 (fun _ => true) true fuel t cs = some x → ∃ a, d.K W a cs ∧ ok a
theorem opens_int {k : IntKind} {t : TypeId} (ht : Try.prog.underlying t = some (.int k)) : Opens (Kd.int k) (fun a => (Lit.int k a).wf = true) t := by
  refine ⟨fun h => ?_⟩
  obtain ⟨n, rfl, _, hw⟩ := DataW.trod_int ht h
  exact ⟨n, rfl, hw⟩
theorem opens_slice {α : Type} {d : Kd α} {ok : α → Prop} {t e : TypeId} (ht : Try.prog.underlying t = some (.slice e)) (hz : Try.prog.cellsOf e = d.sz) (h : Opens d ok e) :
    Opens (Kd.slice e d) (fun l => l.length ≤ 9223372036854775807 ∧ ∀ a ∈ l, ok a) t := by
  refine ⟨fun {H enc W fuel cs x} hx => ?_⟩
  rcases open_slice ht hx with ⟨rfl, _⟩ | ⟨a, len, cap, m, n, D, Pl, rfl, _, hl, hm, hmm, _, hi⟩
  · exact ⟨[], ⟨none, 0, rfl, Nat.le_refl _, Kd.C_nil d W⟩, by simp, fun a ha => by cases ha⟩
  · have hmc : m = cap := by simpa using hmm
    subst hmc
    have hm' : m ≤ 9223372036854775807 := by simpa [maxLen] using hm
    have hall : ∀ i, i < len → ∃ (v : α) (c : List Value), d.K W v c ∧ ok v ∧ c.length = d.sz ∧ ∀ j u, c[j]? = some u → W.cell? (a.add (i * d.sz + j)) = some u := by
      intro i hil
      obtain ⟨cs', hc, htr⟩ := hi i (by omega)
      obtain ⟨v, hK, hok⟩ := h.out htr
      obtain ⟨_, hlen, hcell⟩ := World.cells?_some hc
      rw [hz] at hlen hcell
      refine ⟨v, cs', hK, hok, hlen, fun j u hu => ?_⟩
      have hj : j < d.sz := by
        have := (List.getElem?_eq_some_iff.1 hu).1; omega
      rw [← hu, ← hcell j hj, Go.Deep.add_add]
    have hlist : ∃ l : List α, l.length = len ∧ ∀ j p, l[j]? = some p → ok p ∧ ∃ c, c.length = d.sz ∧ d.K W p c ∧ ∀ i u, c[i]? = some u → W.cell? (a.add (j * d.sz + i)) = some u := by
      clear hx hi hmm
      have : ∀ k, k ≤ len → ∃ l : List α, l.length = k ∧ ∀ j p, l[j]? = some p → ok p ∧ ∃ c, c.length = d.sz ∧ d.K W p c ∧ ∀ i u, c[i]? = some u → W.cell? (a.add (j * d.sz + i)) = some u := by
        intro k
        induction k with
        | zero => exact fun _ => ⟨[], rfl, fun j p hp => by simp at hp⟩
        | succ k ih =>
          intro hk
          obtain ⟨l, hl1, hl2⟩ := ih (by omega)
          obtain ⟨v, c, hK, hok, hlen, hc⟩ := hall k (by omega)
          refine ⟨l ++ [v], by simp [hl1], fun j p hp => ?_⟩
          rcases Nat.lt_or_ge j l.length with hj | hj
          · rw [List.getElem?_append_left hj] at hp
            exact hl2 j p hp
          · have hj' : j = k := by
              have := (List.getElem?_eq_some_iff.1 hp).1
              simp at this; omega
            subst hj'
            have hq : v = p := by
              rw [← hl1] at hp; simpa using hp
            subst hq
            exact ⟨hok, c, hlen, hK, hc⟩
      exact this len (Nat.le_refl _)
    obtain ⟨l, rfl, hl2⟩ := hlist
    refine ⟨l, ⟨some a, m, rfl, hl, rfl, by omega, fun _ => ⟨a, rfl, fun j p hp => ?_⟩⟩, by omega, fun v hv => ?_⟩
    · obtain ⟨_, c, h1, h2, h3⟩ := hl2 j p hp
      exact ⟨c, h1, h2, h3⟩
    · obtain ⟨j, hj⟩ := List.getElem?_of_mem hv
      exact (hl2 j v hj).1
theorem slice_in {α : Type} {d : Kd α} {ok : List α → Prop} {t e : TypeId} {H : Type} {enc : TypeId × Value → H} {W : World} {a : Option Addr} {len cap : Nat} {x : DataW H} {p : List MemPlace}
    (h : Opens (Kd.slice e d) ok t) (hx : DataW.Trod enc Try.prog W 0 (fun _ => true) true t (.slice a len cap) x p) : ∃ l : List α, len = l.length ∧ d.C W a l.length l ∧ l.length ≤ cap ∧ ok l := by
  obtain ⟨fuel, hf⟩ := hx
  obtain ⟨l, ⟨A, c, hcs, hl, hC⟩, hok⟩ := h.out hf
  simp [Value.cells] at hcs
  obtain ⟨rfl, rfl, rfl⟩ := hcs
  exact ⟨l, rfl, hC, hl, hok⟩
end Go.Proofs.Ytmefhhkfakmhgaa.Opn
namespace Go.Proofs.Ytmefhhkfakmhgaa.Par
open Go Go.RowKit Go.Proofs.Ytmefhhkfakmhgaa.Bits Go.Proofs.Ytmefhhkfakmhgaa.Mem Go.Proofs.Ytmefhhkfakmhgaa.Gi Go.Proofs.Ytmefhhkfakmhgaa.Rws Go.Proofs.Ytmefhhkfakmhgaa.Opn Go.Proofs.YtmefhhkfakmhgaaW.PrintWords
set_option linter.unusedVariables false
abbrev Hd : Type := Option Addr × Nat × Nat
def hv (h : Hd) : Value := .slice h.1 h.2.1 h.2.2
def PA (w : World) (A : Option Addr) (N : Nat) (s : Nat → Int) (h : Nat → Hd) (x : Nat → List Int) : Prop :=
  ∀ i, i < N → ∃ ad, A = some ad ∧ w.cell? (ad.add (i * 2)) = some (.int .i64 (s i)) ∧ w.cell? ⟨(ad.add (i * 2)).block, (ad.add (i * 2)).off + 1, none⟩ = some (hv (h i)) ∧ (x i).length = (h i).2.1 ∧ (h i).2.1 ≤ (h i).2.2 ∧ (Kd.int .u8).C w (h i).1 (h i).2.1 (x i)
theorem PA.below {w w' : World} {A : Option Addr} {N : Nat} {s : Nat → Int} {h : Nat → Hd} {x : Nat → List Int} (p : PA w A N s h x) (hb : Below w.heap.size w w') : PA w' A N s h x := by
  intro i hi
  obtain ⟨ad, e, h1, h2, h3, h4, h5⟩ := p i hi
  exact ⟨ad, e, pw_cell_below hb h1, pw_cell_below hb h2, h3, h4, Kd.C_below h5 hb⟩
theorem PA.fewer {w : World} {A : Option Addr} {N N' : Nat} {s : Nat → Int} {h : Nat → Hd} {x : Nat → List Int} (p : PA w A N s h x) (hN : N' ≤ N) : PA w A N' s h x := fun i hi => p i (by omega)
abbrev kPart : Kd (Int × List Int) := Kd.pair (Kd.int .i64) (Kd.slice 5 (Kd.int .u8))
theorem PA.of {w : World} {A : Option Addr} {N : Nat} {l : List (Int × List Int)} (hC : Kd.C kPart w A N l) : ∃ h : Nat → Hd, PA w A N (fun i => (l.getD i (0, [])).1) h (fun i => (l.getD i (0, [])).2) := by
  have hx : ∀ i, i < N → ∃ q : Hd, ∃ ad, A = some ad ∧ w.cell? (ad.add (i * 2)) = some (.int .i64 (l.getD i (0, [])).1) ∧ w.cell? ⟨(ad.add (i * 2)).block, (ad.add (i * 2)).off + 1, none⟩ = some (hv q) ∧ (l.getD i (0, [])).2.length = q.2.1 ∧ q.2.1 ≤ q.2.2 ∧ (Kd.int .u8).C w q.1 q.2.1 (l.getD i (0, [])).2 := by
    intro i hi
    obtain ⟨ad, c, e, _, hK, hc0⟩ := Kd.C_get hC (0, []) (i : Int) (by omega) (by omega)
    rw [Int.toNat_natCast] at hK
    obtain ⟨c1, c2, hcc, hK1, hK2⟩ := hK
    obtain ⟨A1, c3, hs, l1, g1⟩ := hK2
    have e1 : c1 = [.int .i64 (l.getD i (0, [])).1] := hK1
    subst e1
    subst hs
    subst hcc
    have h0 := hc0 0 _ rfl
    have h1 := hc0 1 _ rfl
    rw [Int.toNat_natCast] at h0 h1
    exact ⟨(A1, (l.getD i (0, [])).2.length, c3), ad, e, by simpa [Kd.pair, Kd.slice, Kd.int, Kd.scalar] using h0, by rw [← add_field ad (i * 2) 1 (by decide)]; simpa [Kd.pair, Kd.slice, Kd.int, Kd.scalar, hv] using h1, rfl, l1, g1⟩
  refine ⟨fun i => if hi : i < N then Classical.choose (hx i hi) else (none, 0, 0), fun i hi => ?_⟩
  have := Classical.choose_spec (hx i hi)
  simp only [dif_pos hi]
  exact this
def okAt (n : Nat) (s : Nat → Int) (m : Nat → Nat) (i : Nat) : Prop := 0 ≤ s i ∧ s i < n ∧ 0 < m i ∧ m i = m 0 ∧ ∀ j, j < i → s j ≠ s i
def okTo (n : Nat) (s : Nat → Int) (m : Nat → Nat) (N : Nat) : Prop := ∀ i, i < N → okAt n s m i
theorem okTo_succ {n : Nat} {s : Nat → Int} {m : Nat → Nat} {N : Nat} : okTo n s m (N + 1) ↔ okTo n s m N ∧ okAt n s m N := by
  constructor
  · exact fun h => ⟨fun i hi => h i (by omega), h N (by omega)⟩
  · rintro ⟨h1, h2⟩ i hi
    rcases Nat.lt_or_ge i N with h | h
    · exact h1 i h
    · obtain rfl : i = N := by omega
      exact h2
def kH : Kd Hd := Kd.scalar (fun p => .slice p.1 p.2.1 p.2.2) (fun _ => rfl)
def heads (h : Nat → Hd) (N : Nat) : List Hd := (List.range N).map h
theorem heads_succ (h : Nat → Hd) (N : Nat) : heads h (N + 1) = heads h N ++ [h N] := by simp [heads, List.range_succ]
theorem heads_len (h : Nat → Hd) (N : Nat) : (heads h N).length = N := by simp [heads]
end Go.Proofs.Ytmefhhkfakmhgaa.Par
namespace Go.Proofs.Ytmefhhkfakmhgaa.Par
open Go Go.RowKit Go.Proofs.Ytmefhhkfakmhgaa.Bits Go.Proofs.Ytmefhhkfakmhgaa.Mem Go.Proofs.Ytmefhhkfakmhgaa.Gi Go.Proofs.Ytmefhhkfakmhgaa.Rws Go.Proofs.Ytmefhhkfakmhgaa.Opn Go.Proofs.Ytmefhhkfakmhgaa.Str Go.Proofs.YtmefhhkfakmhgaaW.PrintWords
set_option linter.unusedVariables false
def Z24 : Array Value := Array.replicate 24 (.bool false)
theorem zero_24 (w : World) : (zeroValue 69).run Try.prog w = .ok (.agg Z24) w := by kernel_rfl
def seenB (s : Nat → Int) (i : Nat) (y : Nat) : Bool := decide (∃ j, j < i ∧ s j = (y : Int))
def Seen24 (s : Nat → Int) (i : Nat) (cs : Array Value) : Prop := cs.size = 24 ∧ ∀ y, y < 24 → cs[y]? = some (.bool (seenB s i y))
theorem seen24_0 (s : Nat → Int) : Seen24 s 0 Z24 := by
  refine ⟨by simp [Z24], fun y hy => ?_⟩
  have : seenB s 0 y = false := by unfold seenB; simp
  rw [this]
  simp [Z24, hy]
theorem seen24_more {s : Nat → Int} {i : Nat} {cs : Array Value} (h : Seen24 s i cs) (p : Nat) (hp : p < 24) (hs : s i = (p : Int)) : Seen24 s (i + 1) (cs.setIfInBounds p (.bool true)) := by
  refine ⟨by simp [h.1], fun y hy => ?_⟩
  rw [Array.getElem?_setIfInBounds]
  by_cases e : p = y
  · subst e
    rw [if_pos rfl, if_pos (by rw [h.1]; exact hp)]
    congr 2
    symm
    unfold seenB
    rw [decide_eq_true_iff]
    exact ⟨i, by omega, hs⟩
  · rw [if_neg e, h.2 y hy]
    congr 2
    unfold seenB
    rw [decide_eq_decide]
    constructor
    · rintro ⟨j, hj, e2⟩
      exact ⟨j, by omega, e2⟩
    · rintro ⟨j, hj, e2⟩
      rcases Nat.lt_or_ge j i with hh | hh
      · exact ⟨j, hh, e2⟩
      · obtain rfl : j = i := by omega
        rw [hs] at e2
        omega
def MRightPost (n : Nat) (s : Nat → Int) (m : Nat → Nat) (N : Nat) (w : World) (e : Ending) (w' : World) : Prop :=
  ∃ b : Bool, e = .returned (.bool b) ∧ (b = true ↔ okTo n s m N) ∧ Below w.heap.size w w'
theorem mbad_at {n N i : Nat} {s : Nat → Int} {m : Nat → Nat} (hi : i < N) (hb : ¬ okAt n s m i) : (false = true ↔ okTo n s m N) :=
  ⟨fun e => Bool.noConfusion e, fun e => absurd (e i hi) hb⟩
set_option maxRecDepth 100000 in
set_option maxHeartbeats 4000000 in
theorem mright_any (v : Value) (n k N c : Nat) (A : Option Addr) (s : Nat → Int) (h : Nat → Hd) (x : Nat → List Int) (w : World) (hv : IsCode w v n k) (hp : PA w A N s h x) (m : Nat → Nat) (hm : ∀ i, (x i).length = m i) (hN : N ≤ 100) (hn : n ≤ 24) :
    Calls Try.prog 28 #[v, .slice A N c] w (MRightPost n s m N w) := by
  have HP := Lib.hid (fun W (hB : Below w.heap.size w W) => hp.below hB)
  have HMX := Lib.hid hm
  obtain ⟨bc, Ac, cc, rfl, hbc⟩ := hv
  have HBC := Lib.hid (fun W (hB : Below w.heap.size w W) => show W.cell? ⟨bc, 0, none⟩ = some (.int .i64 n) from ((hbc.below hB hbc.lt).cell 0).trans rfl)
  have hz := zero_24
  have HB0 := Lib.hid (show Below w.heap.size w (w.alloc (.cells Z24 69)) from (Below.refl _ _).alloc (Nat.le_refl _) _)
  have HG0 := Lib.hid (show ∃ cs, Blk (w.alloc (.cells Z24 69)) w.heap.size 69 cs ∧ Seen24 s 0 cs from ⟨Z24, Blk.new _ _ _, seen24_0 s⟩)
  clear hp hm hbc
  go_enter Try.func28, Try.ntmps28
  go_wp2
  clear hz
  go_loopw [7, 10] (fun _ iv wr => ∃ (i : Nat), i ≤ N ∧ iv = .int .i64 i ∧ Hid (okTo n s m i) ∧ Hid (∃ cs, Blk wr w.heap.size 69 cs ∧ Seen24 s i cs) ∧ Hid (Below w.heap.size w wr)) (fun _ iv _ => N - (intOf iv).toNat)
  case atStart => exact ⟨0, by omega, rfl, Lib.hid (fun i hi => absurd hi (Nat.not_lt_zero i)), HG0, HB0⟩
  case round =>
    clear HB0 HG0
    obtain ⟨i, hi, rfl, HOK, HG, HB⟩ := hrel
    by_cases hlt : i < N
    · have g1 : (i : Int) < (N : Int) := by omega
      have g2 : (0 : Int) ≤ (i : Int) := by omega
      have g3 : (0 : Int) < (N : Int) := by omega
      obtain ⟨ad, rfl, k1, k2, k3, k4, k5⟩ := HP.out wr HB.out i hlt
      obtain ⟨ad', e0, j1, j2, j3, j4, j5⟩ := HP.out wr HB.out 0 (by omega)
      injection e0 with e0
      subst e0
      have j6 : ad.add (0 * 2) = ad := by simp [Addr.add]
      rw [j6] at j1 j2
      obtain ⟨⟨A2, m2, c2⟩, hh2⟩ : ∃ q, q = h i := ⟨_, rfl⟩
      obtain ⟨⟨A0, m0, c0⟩, hh0⟩ : ∃ q, q = h 0 := ⟨_, rfl⟩
      rw [← hh2] at k2 k3
      rw [← hh0] at j2 j3
      have HK3 := Lib.hid (show m i = m2 by rw [← HMX.out]; exact k3)
      have HJ3 := Lib.hid (show m 0 = m0 by rw [← HMX.out]; exact j3)
      obtain ⟨si, hsi⟩ : ∃ si, si = s i := ⟨_, rfl⟩
      rw [← hsi] at k1
      have HSI := Lib.hid hsi
      have hk2 : wr.cell? ⟨(ad.add (i * 2)).block, (ad.add (i * 2)).off + 1, none⟩ = some (.slice A2 m2 c2) := k2
      have hj2 : wr.cell? ⟨ad.block, ad.off + 1, none⟩ = some (.slice A0 m0 c0) := j2
      obtain ⟨W1, hW1⟩ : ∃ W1, W1 = wr.alloc (.cells #[.int .i64 si, .slice A2 m2 c2] 39) := ⟨_, rfl⟩
      have hb1 : Below wr.heap.size wr W1 := by rw [hW1]; exact (Below.refl _ _).alloc (Nat.le_refl _) _
      have HBK := Lib.hid (show Blk W1 wr.heap.size 39 #[.int .i64 si, .slice A2 m2 c2] by rw [hW1]; exact Blk.new _ _ _)
      have HJ2 := Lib.hid (pw_cell_below hb1 hj2)
      have HW1 := Lib.hid hW1
      have HB1 := Lib.hid (HB.out.trans (hb1.mono HB.out.size))
      have HG1 := Lib.hid (show ∃ cs, Blk W1 w.heap.size 69 cs ∧ Seen24 s i cs by
        obtain ⟨cs, h1, h2⟩ := HG.out
        exact ⟨cs, h1.below hb1 h1.lt, h2⟩)
      obtain ⟨b1, hb1'⟩ : ∃ b1, b1 = wr.heap.size := ⟨_, rfl⟩
      rw [← hb1'] at HBK
      have HB1' := Lib.hid hb1'
      clear k2 k3 k4 k5 j1 j2 j3 j4 j5 j6 hh2 hh0 hsi hW1 hb1 hb1'
      go_upto_region 5 with (fail)
      rw [← HW1.out, ← HB1'.out]
      have c0 : W1.cell? ⟨b1, 0, none⟩ = some (.int .i64 si) := (HBK.out.cell 0).trans rfl
      have c1 : W1.cell? ⟨b1, 1, none⟩ = some (.slice A2 m2 c2) := (HBK.out.cell 1).trans rfl
      have c2' := HJ2.out
      have HBq := Lib.hid (fun q => pw_below_drewN HB1.out q)
      have y0 := HBC.out W1 HB1.out
      clear k1 hk2 hj2
      by_cases h1 : si < 0
      · go_quiet (fail)
        go_wp2
        go_ret
        exact ⟨false, rfl, mbad_at hlt (fun e => by have := e.1; rw [← HSI.out] at this; omega), HBq.out _⟩
      by_cases h2 : (n : Int) ≤ si
      · go_quiet (fail)
        go_wp2
        go_ret
        exact ⟨false, rfl, mbad_at hlt (fun e => by have := e.2.1; rw [← HSI.out] at this; omega), HBq.out _⟩
      obtain ⟨p, hp⟩ : ∃ p : Nat, si = p := ⟨si.toNat, by omega⟩
      subst hp
      have h1' : decide ((p : Int) < 0) = false := by simp
      have h2' : decide ((n : Int) ≤ (p : Int)) = false := by simp; omega
      have p1 : p < 24 := by omega
      have p2 : (p : Int) < 24 := by omega
      have p3 : (0 : Int) ≤ (p : Int) := by omega
      obtain ⟨cs, hbk, hsn⟩ := HG1.out
      have hc := (hbk.cell p).trans (hsn.2 p p1)
      have hfz := hbk.frozen p
      have HBS := Lib.hid hbk
      have HSN := Lib.hid hsn
      have HSB := Lib.hid (show seenB s i p = decide (∃ j, j < i ∧ s j = (p : Int)) from rfl)
      clear hbk hsn
      obtain ⟨sb, hsb⟩ : ∃ sb, sb = seenB s i p := ⟨_, rfl⟩
      rw [← hsb] at hc HSB
      clear hsb
      cases sb
      case true =>
        go_quiet (fail)
        go_wp2
        go_ret
        refine ⟨false, rfl, mbad_at hlt (fun e => ?_), HBq.out _⟩
        obtain ⟨j, hj, e2⟩ := of_decide_eq_true (by first | exact HSB.out.symm | (have := HSB.out; simpa using this))
        exact e.2.2.2.2 j hj (by rw [e2, HSI.out])
      case false =>
        by_cases h5 : m2 = m0
        · have h5' : ((m2 : Int) != (m0 : Int)) = false := by simp [h5]
          have H5 := Lib.hid h5
          clear h5
          by_cases h4 : m2 = 0
          · have h4' : ((m2 : Int) == 0) = true := by simp [h4]
            have H4 := Lib.hid h4
            clear h4
            go_quiet (fail)
            go_wp2
            go_ret
            exact ⟨false, rfl, mbad_at hlt (fun e => by have := e.2.2.1; rw [HK3.out, H4.out] at this; omega), HBq.out _⟩
          have h4' : ((m2 : Int) == 0) = false := by simp [h4]
          have H4 := Lib.hid h4
          clear h4
          go_quiet (fail)
          have HBw := Lib.hid (fun q => (HBq.out q).setCell (p := ⟨w.heap.size, p, none⟩) (Nat.le_refl _) (.bool true))
          have HGw := Lib.hid (fun q => (HBS.out.drewN q).set_ p (.bool true))
          go_wp2
          go_roundw
          case rel =>
            refine ⟨i + 1, by omega, by go_num, Lib.hid (okTo_succ.2 ⟨HOK.out, by rw [← HSI.out]; omega, by rw [← HSI.out]; omega, by rw [HK3.out]; exact Nat.pos_of_ne_zero H4.out, by rw [HK3.out, HJ3.out]; exact H5.out, fun j hj e => ?_⟩), Lib.hid ⟨_, HGw.out _, seen24_more HSN.out p p1 HSI.out.symm⟩, Lib.hid (HBw.out _)⟩
            have := HSB.out
            have h9 : decide (∃ j, j < i ∧ s j = (p : Int)) = true := by rw [decide_eq_true_iff]; exact ⟨j, hj, by rw [e, ← HSI.out]⟩
            rw [h9] at this
            first | cases this | simp at this
          case measure => simp [intOf]; omega
        · have h5' : ((m2 : Int) != (m0 : Int)) = true := by simp; omega
          have H5 := Lib.hid h5
          clear h5
          go_quiet (fail)
          go_wp2
          go_ret
          exact ⟨false, rfl, mbad_at hlt (fun e => by have := e.2.2.2.1; rw [HK3.out, HJ3.out] at this; exact H5.out this), HBq.out _⟩
    · obtain rfl : i = N := by omega
      go_wp2
      go_ret
      exact ⟨true, rfl, ⟨fun _ => HOK.out, fun _ => rfl⟩, HB.out⟩
end Go.Proofs.Ytmefhhkfakmhgaa.Par
namespace Go.Proofs.Ytmefhhkfakmhgaa.Sol
open Go.Proofs.Ytmefhhkfakmhgaa.Gf Go.Proofs.Ytmefhhkfakmhgaa.Gi Go.Proofs.Ytmefhhkfakmhgaa.Alg
set_option linter.unusedVariables false
def pw (x : G) : Nat → G
  | 0 => 1
  | n + 1 => pw x n * x
theorem pw_succ' (x : G) : ∀ n, pw x (n + 1) = x * pw x n
  | 0 => by show 1 * x = x * 1; rw [Alg.one_mul, Fd.mul_one]
  | n + 1 => by
    show pw x (n + 1) * x = x * (pw x n * x)
    rw [pw_succ' x n, Fd.mul_assoc]
theorem of_gp (x n : Nat) (hx : x < 256) : G.of ((gp x n : Nat) : Int) = pw (G.of (x : Int)) n := by
  induction n with
  | zero => exact G.of_one
  | succ n ih =>
    have h := of_gm (a := ((gp x n : Nat) : Int)) (b := (x : Int)) (by have := gp_lt x hx n; exact ⟨by omega, by omega⟩) ⟨by omega, by omega⟩
    show G.of _ = pw _ n * _
    rw [← ih, ← h]
    congr 1
theorem sum_shift (n : Nat) (f : Nat → G) : sum (n + 1) f = f 0 + sum n (fun i => f (i + 1)) := by
  induction n with
  | zero => show 0 + f 0 = f 0 + 0; rw [Alg.zero_add, Fd.add_zero]
  | succ n ih =>
    show sum (n + 1) f + f (n + 1) = f 0 + (sum n (fun i => f (i + 1)) + f (n + 1))
    rw [ih, Fd.add_assoc]
theorem sum_left (n : Nat) (a : G) (f : Nat → G) : sum n (fun i => a * f i) = a * sum n f := by
  rw [Fd.mul_comm a, ← sum_scale]; exact sum_congr (fun i _ => Fd.mul_comm _ _)
theorem hor_sum (x : G) : ∀ (n : Nat) (c : Nat → G), hor ((List.range n).map c) x = sum n (fun j => pw x j * c j)
  | 0, _ => rfl
  | n + 1, c => by
    rw [List.range_succ_eq_map, List.map_cons, List.map_map, sum_shift]
    show c 0 + x * hor ((List.range n).map (c ∘ Nat.succ)) x = 1 * c 0 + _
    rw [hor_sum x n (c ∘ Nat.succ), Alg.one_mul, ← sum_left]
    congr 1
    refine sum_congr (fun j _ => ?_)
    show x * (pw x j * c (j + 1)) = pw x (j + 1) * c (j + 1)
    rw [pw_succ', Fd.mul_assoc]
theorem powers_inj (n : Nat) (x : Nat → G) (hx : ∀ i j, i < n → j < n → x i = x j → i = j) (M : Nat → Nat → G) (hM : ∀ i j, i < n → j < n → M i j = pw (x i) j)
    (c : Nat → G) (h : ∀ i, i < n → dotF n (M i) c = 0) : ∀ j, j < n → c j = 0 := by
  intro j hj
  refine noughts ((List.range n).map c) ((List.range n).map x) ?_ (by simp) (fun p hp => ?_) (c j) (List.mem_map.2 ⟨j, List.mem_range.2 hj, rfl⟩)
  · rw [List.nodup_iff_pairwise_ne, List.pairwise_map]
    exact List.Pairwise.imp_of_mem (fun {a b} ha hb hne e => hne (hx a b (List.mem_range.1 ha) (List.mem_range.1 hb) e)) (List.nodup_range)
  · obtain ⟨i, hi, rfl⟩ := List.mem_map.1 hp
    have hi' := List.mem_range.1 hi
    rw [hor_sum, ← h i hi']
    unfold dotF
    exact sum_congr (fun k hk => by rw [hM i k hi' hk])
end Go.Proofs.Ytmefhhkfakmhgaa.Sol
namespace Go.Proofs.Ytmefhhkfakmhgaa.Hl
open Go Go.RowKit Go.Proofs.Ytmefhhkfakmhgaa.Gf Go.Proofs.Ytmefhhkfakmhgaa.Gi Go.Proofs.Ytmefhhkfakmhgaa.Alg Go.Proofs.Ytmefhhkfakmhgaa.Sol Go.Proofs.Ytmefhhkfakmhgaa.VPts Go.Proofs.Ytmefhhkfakmhgaa.Str Go.Proofs.Ytmefhhkfakmhgaa.BMsrCodes
set_option linter.unusedVariables false
theorem pws_map (f : Nat → Nat) : ∀ k, pws f k = (firsts f k).map (fun x => ((f x.toNat : Nat) : Int))
  | 0 => rfl
  | k + 1 => by
    rw [pws_succ, firsts_succ]
    split
    · exact pws_map f k
    · rw [List.map_append, pws_map f k]; simp
theorem lam_inj (n k i j : Nat) (k1 : 2 ≤ k) (k2 : k ≤ 8) (n2 : n ≤ 24) (hi : i < n) (hj : j < n) (h : gp (ptN n k i) (k - 1) = gp (ptN n k j) (k - 1)) : i = j := by
  have h24 := many (k - 1) (by omega) (by omega)
  have hnd := pws_nodup (fun x => gp x (k - 1)) 40
  rw [pws_map] at hnd
  have e : ∀ q, q < n → (ptsL n (k - 1)).getD q 0 = (firsts (fun x => gp x (k - 1)) 40).getD q 0 := by
    intro q hq
    unfold ptsL
    rw [List.getD_eq_getElem?_getD, List.getD_eq_getElem?_getD, List.getElem?_take, if_pos hq]
  have hg : ∀ q, q < n → ((firsts (fun x => gp x (k - 1)) 40).map (fun x => ((gp x.toNat (k - 1) : Nat) : Int)))[q]? = some ((gp (ptN n k q) (k - 1) : Nat) : Int) := by
    intro q hq
    have hq2 : q < (firsts (fun x => gp x (k - 1)) 40).length := by omega
    rw [List.getElem?_map, List.getElem?_eq_getElem hq2]
    simp only [Option.map_some]
    congr 3
    unfold ptN
    rw [e q hq, List.getD_eq_getElem?_getD, List.getElem?_eq_getElem hq2]
    rfl
  have hii := hg i hi
  have hjj := hg j hj
  rw [h] at hii
  have hl : i < ((firsts (fun x => gp x (k - 1)) 40).map (fun x => ((gp x.toNat (k - 1) : Nat) : Int))).length := by rw [List.length_map]; omega
  have hl2 : j < ((firsts (fun x => gp x (k - 1)) 40).map (fun x => ((gp x.toNat (k - 1) : Nat) : Int))).length := by rw [List.length_map]; omega
  rw [List.getElem?_eq_getElem hl] at hii
  rw [List.getElem?_eq_getElem hl2] at hjj
  injection hii with a
  injection hjj with b
  rw [List.nodup_iff_pairwise_ne, List.pairwise_iff_getElem] at hnd
  rcases Nat.lt_trichotomy i j with hh | hh | hh
  · exact absurd (by rw [a, b]) (hnd i j hl hl2 hh)
  · exact hh
  · exact absurd (by rw [a, b]) (hnd j i hl2 hl hh)
theorem pt_inj (n k i j : Nat) (k1 : 2 ≤ k) (k2 : k ≤ 8) (n2 : n ≤ 24) (hi : i < n) (hj : j < n) (h : ptN n k i = ptN n k j) : i = j := lam_inj n k i j k1 k2 n2 hi hj (by rw [h])
def powM (f : Nat → Nat) : Mtx := fun i j => ((gp (f i) j : Nat) : Int)
theorem powM_byt {f : Nat → Nat} (hf : ∀ i, f i < 256) : BytM (powM f) := fun i j => by
  have := gp_lt (f i) (hf i) j
  exact ⟨by unfold powM; omega, by unfold powM; omega⟩
theorem powM_inj {f : Nat → Nat} {n : Nat} (hf : ∀ i, f i < 256) (hd : ∀ i j, i < n → j < n → f i = f j → i = j) (c : Nat → G) (h : ∀ i, i < n → dotF n (el (powM f) i) c = 0) : ∀ j, j < n → c j = 0 :=
  powers_inj n (fun i => G.of ((f i : Nat) : Int)) (fun i j hi hj e => hd i j hi hj (by
    have h1 := hf i
    have h2 := hf j
    have := G.of_inj (x := ((f i : Nat) : Int)) (y := ((f j : Nat) : Int)) ⟨by omega, by omega⟩ ⟨by omega, by omega⟩ e
    omega)) (el (powM f)) (fun i j hi hj => of_gp (f i) j (hf i)) c h
end Go.Proofs.Ytmefhhkfakmhgaa.Hl
namespace Go.Proofs.Ytmefhhkfakmhgaa.Str
open Go Go.RowKit Go.Proofs.Ytmefhhkfakmhgaa.PMsrCodes Go.Proofs.Ytmefhhkfakmhgaa.BMsrCodes Go.Proofs.Ytmefhhkfakmhgaa.Gf Go.Proofs.Ytmefhhkfakmhgaa.Gi Go.Proofs.Ytmefhhkfakmhgaa.Bits Go.Proofs.Ytmefhhkfakmhgaa.Mem Go.Proofs.Ytmefhhkfakmhgaa.VPts Go.Proofs.Ytmefhhkfakmhgaa.Rws Go.Proofs.YtmefhhkfakmhgaaW.PrintWords Go.Proofs.YtmefhhkfakmhgaaW.PrintLast
set_option linter.unusedVariables false
theorem rowsN_get {w : World} {A : Option Addr} {n : Nat} {ls : List (List Int)} (h : Kd.C kRow w A n ls) (i : Nat) (hi : i < n) :
    ∃ ad A0 c0, A = some ad ∧ w.cell? (ad.add i) = some (.slice A0 (ls.getD i []).length c0) ∧ (ls.getD i []).length ≤ c0 ∧ (Kd.int .u8).C w A0 (ls.getD i []).length (ls.getD i []) := by
  obtain ⟨ad, c, e, _, hK, hc0⟩ := Kd.C_get h [] (i : Int) (by omega) (by omega)
  obtain ⟨A0, c0, rfl, l0, g0⟩ := hK
  refine ⟨ad, A0, c0, e, ?_, l0, g0⟩
  have hq := hc0 0 _ rfl
  simpa [Kd.slice] using hq
end Go.Proofs.Ytmefhhkfakmhgaa.Str
namespace Go.Proofs.Ytmefhhkfakmhgaa.Hl
open Go Go.RowKit Go.Proofs.Ytmefhhkfakmhgaa.Gf Go.Proofs.Ytmefhhkfakmhgaa.Gi Go.Proofs.Ytmefhhkfakmhgaa.Bits Go.Proofs.Ytmefhhkfakmhgaa.Mem Go.Proofs.Ytmefhhkfakmhgaa.Alg Go.Proofs.Ytmefhhkfakmhgaa.Sol Go.Proofs.Ytmefhhkfakmhgaa.VPts Go.Proofs.Ytmefhhkfakmhgaa.Str Go.Proofs.Ytmefhhkfakmhgaa.Rws Go.Proofs.Ytmefhhkfakmhgaa.Par Go.Proofs.Ytmefhhkfakmhgaa.BMsrCodes Go.Proofs.YtmefhhkfakmhgaaW.PrintWords
set_option linter.unusedVariables false
theorem cell_of {W : World} {base g n cap : Nat} {ok : Nat → Prop} {f : Nat → Int} (h : (Kd.int .u8).R 5 W base ok (.slice (some ⟨g, 0, none⟩) n cap) (line n f)) (i : Nat) (hi : i < n) : W.cell? ⟨g, i, none⟩ = some (.int .u8 (f i)) ∧ W.frozen? ⟨g, i, none⟩ = false := by
  obtain ⟨x1, x2⟩ := Kd.R_celln (0 : Int) h (i : Int) (by omega) (by omega)
  have x3 : rdOf (0 : Int) (line n f) (i : Int) = f i := by
    rw [← line_get n f i hi]; simp [rdOf]
  rw [x3, Int.toNat_natCast] at x1
  rw [Int.toNat_natCast] at x2
  exact ⟨x1, x2⟩
theorem put_of {W : World} {base g n cap : Nat} {ok : Nat → Prop} {xs : List Int} (h : (Kd.int .u8).R 5 W base ok (.slice (some ⟨g, 0, none⟩) n cap) xs) (i : Nat) (x : Int) : (Kd.int .u8).R 5 (W.setCell ⟨g, i, none⟩ (.int .u8 x)) base ok (.slice (some ⟨g, 0, none⟩) n cap) (xs.set i x) := by
  have := Kd.R_putn h (i : Int) x
  simp only [Int.toNat_natCast] at this
  exact this
theorem row_cell {W : World} {base n c : Nat} {ok : Nat → Prop} {A : Option Addr} {f : Nat → Int} (h : (Kd.int .u8).R 5 W base ok (.slice A n c) (line n f)) (i : Nat) (hi : i < n) : ∃ ad, A = some ad ∧ W.cell? (ad.add i) = some (.int .u8 (f i)) := by
  have hC := (Kd.R_reads' h).2.2
  rw [line_len] at hC
  obtain ⟨ad, e, hc⟩ := Sol.at_row hC i hi
  rw [line_get n f i hi] at hc
  exact ⟨ad, e, hc⟩
abbrev But (v : Value) : Nat → Prop := fun k => True ∧ some k ≠ v.ownBlock
def ptS (n k : Nat) (s : Nat → Int) (i : Nat) : Nat := ptN n k (s i).toNat
theorem ptS_inj {n k d N : Nat} {s : Nat → Int} {m : Nat → Nat} (k1 : 2 ≤ k) (k2 : k ≤ 8) (n2 : n ≤ 24) (hok : okTo n s m N) (hd : d ≤ N) (i j : Nat) (hi : i < d) (hj : j < d) (h : ptS n k s i = ptS n k s j) : i = j := by
  have hi' := hok i (by omega)
  have hj' := hok j (by omega)
  have h1 := pt_inj n k _ _ k1 k2 n2 (by have := hi'.1; have := hi'.2.1; omega) (by have := hj'.1; have := hj'.2.1; omega) h
  rcases Nat.lt_trichotomy i j with hh | hh | hh
  · exact absurd (show s i = s j by have := hi'.1; have := hj'.1; omega) (hj'.2.2.2.2 i hh)
  · exact hh
  · exact absurd (show s j = s i by have := hi'.1; have := hj'.1; omega) (hi'.2.2.2.2 j hh)
end Go.Proofs.Ytmefhhkfakmhgaa.Hl
namespace Go.Proofs.Ytmefhhkfakmhgaa.Hl
open Go Go.RowKit Go.Proofs.Ytmefhhkfakmhgaa.Gf Go.Proofs.Ytmefhhkfakmhgaa.Gi Go.Proofs.Ytmefhhkfakmhgaa.Bits Go.Proofs.Ytmefhhkfakmhgaa.Mem Go.Proofs.Ytmefhhkfakmhgaa.Alg Go.Proofs.Ytmefhhkfakmhgaa.Sol Go.Proofs.Ytmefhhkfakmhgaa.VPts Go.Proofs.Ytmefhhkfakmhgaa.Str Go.Proofs.Ytmefhhkfakmhgaa.Rws Go.Proofs.Ytmefhhkfakmhgaa.Par Go.Proofs.Ytmefhhkfakmhgaa.Mdc Go.Proofs.Ytmefhhkfakmhgaa.BMsrCodes Go.Proofs.YtmefhhkfakmhgaaW.PrintWords
set_option linter.unusedVariables false
theorem rows_appendG {α : Type} {d : Kd α} {P : Program} {ops : Array Oper} {rest : List Oper} {o : Oper} {a : Act} {Q : Exit → Act → World → Prop} {w0 W wr : World} (hP : P = Try.prog) (base : Nat) (hgd : o.guard = none) (s x : Operand)
    (ho : o.op = .call { callee := .builtin .append, args := #[s, x], argTypes := #[29, 29] }) (v u dv : Value) (ls : List (List Int)) (ys : List Int) (hh : List α)
    (hs : a.eval s = v) (hx : a.eval x = .slice (some ⟨W.heap.size, 0, none⟩) 1 1) (HR : Kd.R kRow 22 wr base (But dv) v ls) (HD : Kd.R d 22 wr base (But v) dv hh) (HB : Below base w0 W) (hbase : base ≤ wr.heap.size) (hB : Below wr.heap.size wr W)
    (hu : (Kd.int .u8).R 5 W wr.heap.size (fun _ => True) u ys) (hl : ls.length ≤ 1000000)
    (h : ∀ v1 w1, Kd.R kRow 22 w1 base (But dv) v1 (ls ++ [ys]) → Kd.R d 22 w1 base (But v1) dv hh → Below base w0 w1 → wpList P ops Q rest (a.put o.dst v1) w1) :
    wpList P ops Q (o :: rest) a (W.alloc (.cells #[u] 22)) := by
  subst hP
  have hown : W.ownsRow wr.heap.size 5 1 u ys.length (nums .u8 ys) := Kd.own_of_R hu
  have HDW := Kd.R_below HD hB
  refine Kd.R_append kRow (w0 := w0) base hgd s x 29 22 (.slice none 0 0) 24 ho Try.underlying29 info_rows rfl (by decide) (by decide) v ls ys [u] (But dv)
    (fun k => some k = u.ownBlock) hs hx (row_M hown hbase rfl) ?_ (fun k hk => ⟨trivial, Kd.fresh_ok HDW k hk⟩) (Kd.R_below HR hB) HB (Nat.le_trans hbase hB.size) (by omega) (fun v1 w1 h1 h2 h3 h4 => h v1 w1 h1 (Kd.R_after HDW h3 h4) h2)
  intro k hk
  have h1 := own_base hown k hk.symm
  refine ⟨⟨trivial, fun e => ?_⟩, fun e => ?_⟩
  · have := Kd.R_lt HD k e.symm
    omega
  · have := Kd.R_lt HR k e.symm
    omega
theorem lit1W {X : World} (b : Nat) (h : b ≤ X.heap.size) (z : Int) : (Kd.int .u8).R 5 (X.alloc (.cells #[.int .u8 z] 5)) b (fun _ => True) (.slice (some ⟨X.heap.size, 0, none⟩) 1 1) [z] :=
  Kd.R_of_own (own_lit X b 5 .u8 [z] h (by simp)) (fun _ _ => trivial)
def sk (i r : Nat) : Nat := if r < i then r else r + 1
def cnt (i J : Nat) : Nat := if J ≤ i then J else J - 1
theorem cnt_ne {i J : Nat} (h : J ≠ i) : cnt i (J + 1) = cnt i J + 1 ∧ sk i (cnt i J) = J := by
  unfold cnt sk
  split <;> split <;> split <;> omega
theorem cnt_eq (i : Nat) : cnt i (i + 1) = cnt i i := by
  unfold cnt
  rw [if_neg (by omega), if_pos (Nat.le_refl _)]
  omega
theorem cnt_all {i k : Nat} (h : i < k) : cnt i k = k - 1 := by
  unfold cnt
  rw [if_neg (by omega)]
theorem sk_ne (i r : Nat) : sk i r ≠ i := by
  unfold sk
  split <;> omega
theorem sk_lt {i r k : Nat} (h : r < k - 1) : sk i r < k := by
  unfold sk
  split <;> omega
theorem sk_inj {i r q : Nat} (h : sk i r = sk i q) : r = q := by
  unfold sk at h
  split at h <;> split at h <;> omega
set_option maxRecDepth 100000 in
set_option maxHeartbeats 8000000 in
theorem whole_any (v : Value) (n k c cp a : Nat) (A Ap : Option Addr) (s : Nat → Int) (h : Nat → Hd) (x : Nat → List Int) (P V S : Mtx) (w : World) (hc : IsCodeP w v n k) (k1 : 2 ≤ k) (k2 : k ≤ 8) (n2 : n ≤ 24) (ha : a = k - 1) (hp : PA w A k s h x) (hs : ∀ i, i < k → 0 ≤ s i ∧ s i < n)
    (hinj : ∀ i j, i < k → j < k → ptS n k s i = ptS n k s j → i = j) (hP : Kd.C kRow w Ap k (mat k k P)) (hPb : BytM P) (hVb : BytM V) (hSb : BytM S)
    (hV : ∀ i j, i < a → j < k → j ≠ i → dotF a (el (powM (ptS n k s)) j) (fun u => G.of (V i u)) = G.of (P i j)) (hS : ∀ i u, i < a → u < a → dotF a (el (powM (ptS n k s)) i) (fun r => G.of (S r u)) = G.of (V i u)) :
    Calls Try.prog 46 #[v, .slice A k c, .slice Ap k cp] w fun e w' => ∃ A' c', e = .returned (.slice A' a c') ∧ RowsR w' w.heap.size (.slice A' a c') (mat a a S) ∧ Below w.heap.size w w' := by
  obtain ⟨f, hf⟩ : ∃ f, f = ptS n k s := ⟨_, rfl⟩
  have hfb : ∀ i, f i < 256 := fun i => by rw [hf]; exact ptN_lt n k _
  have PP := Lib.hid (fun W (hB : Below w.heap.size w W) => show Calls Try.prog 18 #[v] W fun e w' => e = .returned (.int .i64 a) ∧ w' = W by
    rw [ha]
    exact parts_any v n k W (hc.below hB).code (by omega) (by omega))
  have SH := Lib.hid (fun W (hB : Below w.heap.size w W) i (hi : i < k) => show Calls Try.prog 41 #[v, .int .i64 (s i)] W fun e w' => ∃ A c, e = .returned (.slice A a c) ∧ Kd.R (Kd.int .u8) 5 w' W.heap.size (fun _ => True) (.slice A a c) (line a (powM f i)) ∧ Below W.heap.size W w' by
    have h0 := hs i hi
    have h1 := short_any v n k (s i).toNat W (hc.below hB) k1 k2 n2 (by omega)
    rw [show (((s i).toNat : Nat) : Int) = s i by omega] at h1
    rw [ha, hf]
    exact h1)
  have HPX := Lib.hid (fun W (hB : Below w.heap.size w W) i (hi : i < k) => show ∃ ad, A = some ad ∧ W.cell? (ad.add (i * 2)) = some (.int .i64 (s i)) by
    obtain ⟨ad, e, h1, _⟩ := (hp.below hB) i hi
    exact ⟨ad, e, h1⟩)
  have HPM := Lib.hid (fun W (hB : Below w.heap.size w W) => Kd.C_below hP hB)
  have SO := Lib.hid (fun W i A0 A1 c0 c1 (hi : i < a) (h0 : Kd.C kRow W A0 a (mat a a (fun r => powM f (sk i r)))) (h1 : Kd.C kRow W A1 a (mat a 1 (fun r _ => P i (sk i r)))) (l0 : a ≤ c0) (l1 : a ≤ c1) => show Calls Try.prog 56 #[.slice A0 a c0, .slice A1 a c1] W fun e w' => ∃ A c, e = .returned (.slice A a c) ∧ (Kd.int .u8).R 5 w' W.heap.size (fun _ => True) (.slice A a c) (line a (V i)) ∧ Below W.heap.size W w' from
    solved_any a c0 c1 A0 A1 (fun r => powM f (sk i r)) (fun r _ => P i (sk i r)) (fun j _ => V i j) W h0 h1 l0 l1 (by omega) (by omega) (fun r q => powM_byt hfb (sk i r) q) (fun r q => hPb i (sk i r)) (fun j _ => hVb i j)
      (powM_inj (f := fun r => f (sk i r)) (fun r => hfb _) (fun r q hr hq e => sk_inj (hinj (sk i r) (sk i q) (sk_lt (by omega)) (sk_lt (by omega)) (by rw [← hf]; exact e))))
      (fun r hr => by
        have := hV i (sk i r) hi (sk_lt (by omega)) (sk_ne i r)
        rw [← hf] at this
        exact this))
  have GR := Lib.hid (fun W A0 A1 c0 c1 (h0 : Kd.C kRow W A0 a (mat a a (powM f))) (h1 : Kd.C kRow W A1 a (mat a a V)) (l0 : a ≤ c0) (l1 : a ≤ c1) => grid_any a a c0 c1 A0 A1 (powM f) V S W h0 h1 l0 l1 (by omega) (by omega) (by omega) (by omega) (powM_byt hfb) hVb hSb
    (powM_inj hfb (fun r q hr hq e => hinj r q (by omega) (by omega) (by rw [← hf]; exact e))) (fun i hi l hl => by
      have := hS i l hi hl
      rw [← hf] at this
      exact this))
  have HB0 := Lib.hid (Below.refl w.heap.size w)
  have a1 : 1 ≤ a := by omega
  have a7 : a ≤ 7 := by omega
  have HKA := Lib.hid (show k = a + 1 by omega)
  obtain ⟨b, Ac, cc, rfl, _⟩ := hc
  obtain ⟨adA, rfl, _⟩ := HPX.out w (Below.refl _ _) 0 (by omega)
  clear hp hs hinj hP hPb hVb hSb hV hS hf hfb ha n2
  go_enter Try.func46, Try.ntmps46
  go_upto_region 3 with (go_at_call 18; (with_reducible refine (PP.out _ HB0.out).mono ?_); rintro e u ⟨rfl, hu⟩; have hu' := hu.symm; subst hu'; clear hu)
  go_loopw [7, 8, 9, 10, 11, 16] (fun uv _ _ _ _ iv wr => ∃ (i : Nat) (u : Value), uv = u ∧ i ≤ a ∧ iv = .int .i64 i ∧ Hid (RowsR wr w.heap.size u (mat i a V)) ∧ Hid (Below w.heap.size w wr)) (fun _ _ _ _ _ iv _ => a - (intOf iv).toNat)
  case atStart => exact ⟨0, _, rfl, by omega, rfl, Lib.hid (Kd.R_nil _ _ _ _ _), HB0⟩
  case round =>
    clear HB0
    obtain ⟨i, u, rfl, hi, rfl, HO, HB⟩ := hrel
    by_cases hlt : i < a
    · have g1 : (i : Int) < (a : Int) := by omega
      have g2 : (0 : Int) ≤ (i : Int) := by omega
      obtain ⟨x1, hx1⟩ : ∃ x1, x1 = wr := ⟨_, rfl⟩
      rw [← hx1] at HO HB
      go_upto_region 8 with (fail)
      go_loopw [9, 10, 11, 21] (fun av bv _ jv wr => ∃ (j : Nat) (a9 b9 : Value), av = a9 ∧ bv = b9 ∧ j ≤ k ∧ jv = .int .i64 j ∧ Hid (Kd.R kRow 22 wr x1.heap.size (But b9) a9 (mat (cnt i j) a (fun r => powM f (sk i r)))) ∧ Hid (Kd.R kRow 22 wr x1.heap.size (But a9) b9 (mat (cnt i j) 1 (fun r _ => P i (sk i r)))) ∧ Hid (Below x1.heap.size x1 wr)) (fun _ _ _ jv _ => k - (intOf jv).toNat)
      case atStart => exact ⟨0, _, _, rfl, rfl, by omega, rfl, Lib.hid (Kd.R_nil _ _ _ _ _), Lib.hid (Kd.R_nil _ _ _ _ _), Lib.hid (by rw [hx1]; exact Below.refl _ _)⟩
      case round =>
        clear hx1
        obtain ⟨j, a9, b9, rfl, rfl, hj, rfl, HU, HD, HQ⟩ := hrel
        by_cases hji : j < k
        · have hBW := HB.out.trans (HQ.out.mono HB.out.size)
          have HBW := Lib.hid hBW
          have g3 : (j : Int) < (k : Int) := by omega
          have g4 : (0 : Int) ≤ (j : Int) := by omega
          have HHJ := Lib.hid (show cnt i j ≤ j by unfold cnt; split <;> omega)
          by_cases hij : j = i
          · have g5 : ((j : Int) != (i : Int)) = false := by simp [hij]
            have HIJ := Lib.hid hij
            clear hij hBW
            go_wp2
            go_roundw
            case rel => exact ⟨j + 1, _, _, rfl, rfl, by omega, by go_num, Lib.hid (by rw [show cnt i (j + 1) = cnt i j by rw [HIJ.out, cnt_eq]]; exact HU.out), Lib.hid (by rw [show cnt i (j + 1) = cnt i j by rw [HIJ.out, cnt_eq]]; exact HD.out), HQ⟩
            case measure => simp [intOf]; omega
          · have g5 : ((j : Int) != (i : Int)) = true := by simp; omega
            have HCN := Lib.hid (cnt_ne hij)
            clear hij
            obtain ⟨ad, e, kc⟩ := HPX.out wr hBW j hji
            injection e with e
            subst e
            obtain ⟨sj, hsj⟩ : ∃ sj, sj = s j := ⟨_, rfl⟩
            have SHj := Lib.hid (SH.out wr hBW j hji)
            rw [← hsj] at SHj kc
            have hik : i < k := by have := HKA.out; omega
            obtain ⟨a3, A3, c3, rfl, kp1, _, hc3⟩ := mrow (HPM.out w (Below.refl _ _)) i hik
            obtain ⟨p3, rfl, kp2⟩ := Sol.at_row hc3 j hji
            rw [line_get _ _ _ hji] at kp2
            have KP := Lib.hid (fun W (hB : Below w.heap.size w W) => And.intro (pw_cell_below hB kp1) (pw_cell_below hB kp2))
            have g6 : (i : Int) < (k : Int) := by omega
            obtain ⟨z, hz⟩ : ∃ z, z = P i j := ⟨_, rfl⟩
            rw [← hz] at KP
            have HZ := Lib.hid hz
            clear hz hsj kp1 kp2 hc3 hBW
            go_wp2_with (first
              | (go_at_call 41; (with_reducible refine SHj.out.mono ?_); rintro e w3 ⟨A8, c8, rfl, hr8, hb⟩; have HR8 := Lib.hid hr8; have HB3 := Lib.hid hb; clear hr8 hb)
              | (at_builtin; refine rows_appendG (w0 := x1) (W := w3) (wr := wr) rfl x1.heap.size rfl _ _ rfl u9 _ u10 _ _ _ rfl rfl HU.out HD.out (HQ.out.trans (HB3.out.mono HQ.out.size)) HQ.out.size HB3.out HR8.out (by rw [mat_len]; have := HHJ.out; omega) ?_; intro v5 w5 h5 h6 h7; have H5 := Lib.hid h5; have H6 := Lib.hid h6; have HB5 := Lib.hid h7; obtain ⟨kp1, kp2⟩ := KP.out w5 (HB.out.trans (h7.mono HB.out.size)); clear h5 h6 h7)
              | (at_builtin; refine rows_appendG (w0 := x1) (W := w5.alloc (.cells #[.int .u8 z] 5)) (wr := w5) rfl x1.heap.size rfl _ _ rfl u10 _ v5 _ [z] _ rfl (by first | rfl | (rw [show (w5.alloc (.cells #[.int .u8 z] 5)).heap.size = w5.heap.size + 1 by simp]; rfl)) H6.out H5.out (HB5.out.alloc HB5.out.size _) HB5.out.size ((Below.refl _ _).alloc (Nat.le_refl _) _) (lit1W w5.heap.size (Nat.le_refl _) z) (by rw [mat_len]; have := HHJ.out; omega) ?_; intro v7 w7 h5 h6 h7; have H7 := Lib.hid h5; have H8 := Lib.hid h6; have HB7 := Lib.hid h7; clear h5 h6 h7))
            go_roundw
            case rel =>
              refine ⟨j + 1, _, _, rfl, rfl, by omega, by go_num, Lib.hid ?_, Lib.hid ?_, HB7⟩
              · rw [HCN.out.1, mat_succ, HCN.out.2]; exact H8.out
              · rw [HCN.out.1, mat_succ, HCN.out.2, show line 1 (fun _ => P i j) = [z] by rw [HZ.out]; rfl]; exact H7.out
            case measure => simp [intOf]; omega
        · obtain rfl : k = j := by omega
          have hk := HKA.out
          have hcn : cnt i k = a := by rw [cnt_all (by omega)]; omega
          have HO1 := Lib.hid (Kd.R_below HO.out HQ.out)
          have HBW := Lib.hid (HB.out.trans (HQ.out.mono HB.out.size))
          have SOC := Lib.hid (show Calls Try.prog 56 #[u9, u10] wr fun e w' => ∃ A c, e = .returned (.slice A a c) ∧ (Kd.int .u8).R 5 w' wr.heap.size (fun _ => True) (.slice A a c) (line a (V i)) ∧ Below wr.heap.size wr w' by
            have h5 := HU.out
            have h6 := HD.out
            rw [hcn] at h5 h6
            obtain ⟨A5, c5, rfl⟩ := Kd.R_slice h5
            obtain ⟨A6, c6, rfl⟩ := Kd.R_slice h6
            rw [mat_len] at h5 h6 ⊢
            rw [mat_len]
            have q5 := Kd.R_reads' h5
            have q6 := Kd.R_reads' h6
            rw [mat_len] at q5 q6
            exact SO.out wr i A5 A6 c5 c6 hlt q5.2.2 q6.2.2 q5.2.1 q6.2.1)
          clear hk hcn HU HD SO
          go_wp2_with (first
            | (go_at_call 56; (with_reducible refine SOC.out.mono ?_); rintro e w3 ⟨A8, c8, rfl, hr8, hb⟩; have HR8 := Lib.hid hr8; have HB3 := Lib.hid hb; clear hr8 hb)
            | (at_builtin; refine rows_append2 (w0 := w) rfl w.heap.size rfl _ _ rfl u7 _ (mat i a V) _ rfl rfl HO1.out (HBW.out.trans (HB3.out.mono HBW.out.size)) HBW.out.size HB3.out HR8.out (by rw [mat_len]; omega) ?_; intro v5 w5 h5 hb5; have H5 := Lib.hid h5; have HB5 := Lib.hid hb5; clear h5 hb5))
          go_roundw
          case rel => exact ⟨i + 1, _, rfl, by omega, by go_num, Lib.hid (by rw [mat_succ]; exact H5.out), HB5⟩
          case measure => simp [intOf]; omega
    · obtain rfl : a = i := by omega
      obtain ⟨x2, hx2⟩ : ∃ x2, x2 = wr := ⟨_, rfl⟩
      rw [← hx2] at HO HB
      have HB9 := Lib.hid (show Below w.heap.size w wr by rw [← hx2]; exact HB.out)
      go_upto_region 18 with (go_at_call 18; (with_reducible refine (PP.out _ HB9.out).mono ?_); rintro e u ⟨rfl, hu⟩; have hu' := hu.symm; subst hu'; clear hu)
      clear HB9
      go_loopw [12, 13, 58] (fun uv _ iv wr => ∃ (i : Nat) (u : Value), uv = u ∧ i ≤ a ∧ iv = .int .i64 i ∧ Hid (RowsR wr x2.heap.size u (mat i a (powM f))) ∧ Hid (Below x2.heap.size x2 wr)) (fun _ _ iv _ => a - (intOf iv).toNat)
      case atStart => exact ⟨0, _, rfl, by omega, rfl, Lib.hid (Kd.R_nil _ _ _ _ _), Lib.hid (by rw [hx2]; exact Below.refl _ _)⟩
      case round =>
        clear hx2
        obtain ⟨i, u, rfl, hi, rfl, HU, HQ⟩ := hrel
        have hBW := HB.out.trans (HQ.out.mono HB.out.size)
        by_cases hlt : i < a
        · have hik : i < k := by have := HKA.out; omega
          have g1 : (i : Int) < (a : Int) := by omega
          have g2 : (0 : Int) ≤ (i : Int) := by omega
          have g3 : (i : Int) < (k : Int) := by omega
          obtain ⟨ad, e, kc⟩ := HPX.out wr hBW i hik
          injection e with e
          subst e
          obtain ⟨sj, hsj⟩ : ∃ sj, sj = s i := ⟨_, rfl⟩
          have SHj := Lib.hid (SH.out wr hBW i hik)
          rw [← hsj] at SHj kc
          clear hsj hBW
          go_wp2_with (first
            | (go_at_call 41; (with_reducible refine SHj.out.mono ?_); rintro e w3 ⟨A8, c8, rfl, hr8, hb⟩; have HR8 := Lib.hid hr8; have HB3 := Lib.hid hb; clear hr8 hb)
            | (at_builtin; refine rows_append2 (w0 := x2) rfl x2.heap.size rfl _ _ rfl u12 _ (mat i a (powM f)) _ rfl rfl HU.out (HQ.out.trans (HB3.out.mono HQ.out.size)) HQ.out.size HB3.out HR8.out (by rw [mat_len]; omega) ?_; intro v5 w5 h5 hb5; have H5 := Lib.hid h5; have HB5 := Lib.hid hb5; clear h5 hb5))
          go_roundw
          case rel => exact ⟨i + 1, _, rfl, by omega, by go_num, Lib.hid (by rw [mat_succ]; exact H5.out), HB5⟩
          case measure => simp [intOf]; omega
        · obtain rfl : a = i := by omega
          have HBW := Lib.hid hBW
          have GC := Lib.hid (show Calls Try.prog 57 #[u12, u7] wr fun e w' => ∃ A c, e = .returned (.slice A a c) ∧ a ≤ c ∧ RowsR w' wr.heap.size (.slice A a c) (mat a a S) ∧ Below wr.heap.size wr w' by
            have h5 := HU.out
            have h6 := Kd.R_below HO.out HQ.out
            obtain ⟨A5, c5, rfl⟩ := Kd.R_slice h5
            obtain ⟨A6, c6, rfl⟩ := Kd.R_slice h6
            rw [mat_len] at h5 h6 ⊢
            rw [mat_len]
            have q5 := Kd.R_reads' h5
            have q6 := Kd.R_reads' h6
            rw [mat_len] at q5 q6
            exact GR.out wr A5 A6 c5 c6 q5.2.2 q6.2.2 q5.2.1 q6.2.1)
          clear hBW HU HO GR
          go_wp2_with (go_at_call 57; (with_reducible refine GC.out.mono ?_); rintro e w3 ⟨A8, c8, rfl, hl8, hr8, hb⟩; have HR8 := Lib.hid hr8; have HB3 := Lib.hid (HBW.out.trans (hb.mono HBW.out.size)); clear hl8 hr8 hb)
          go_ret
          exact ⟨A8, c8, rfl, Kd.R_lower HR8.out HBW.out.size, HB3.out⟩
def Put (a fr sz pt i kk : Nat) (F T F' : Nat → Int) : Prop := (∀ pos, F pos = T pos → F' pos = T pos) ∧ ∀ i' k', i' ≤ k' → k' < a → (i' < i ∨ (i' = i ∧ k' < kk)) → F' (placeN a (fr + i') k' * sz + pt) = T (placeN a (fr + i') k' * sz + pt)
theorem Put.start (a fr sz pt : Nat) (F T : Nat → Int) : Put a fr sz pt 0 0 F T F := ⟨fun _ h => h, fun i' k' _ _ h => by omega⟩
theorem Put.into {a fr sz pt i : Nat} {F T F' : Nat → Int} (h : Put a fr sz pt i 0 F T F') : Put a fr sz pt i i F T F' := ⟨h.1, fun i' k' h1 h2 h3 => h.2 i' k' h1 h2 (by omega)⟩
theorem Put.next {a fr sz pt i : Nat} {F T F' : Nat → Int} (h : Put a fr sz pt i a F T F') : Put a fr sz pt (i + 1) 0 F T F' := ⟨h.1, fun i' k' h1 h2 h3 => h.2 i' k' h1 h2 (by omega)⟩
theorem Put.step {a fr sz pt i kk p : Nat} {F T F' : Nat → Int} (h : Put a fr sz pt i kk F T F') (hp : p = placeN a (fr + i) kk * sz + pt) : Put a fr sz pt i (kk + 1) F T (fun pos => if pos = p then T p else F' pos) := by
  refine ⟨fun pos e => ?_, fun i' k' h1 h2 h3 => ?_⟩
  · by_cases hq : pos = p
    · simp only [hq, if_pos]
    · simp only [if_neg hq]; exact h.1 pos e
  · by_cases hq : placeN a (fr + i') k' * sz + pt = p
    · simp only [hq, if_pos]
    · simp only [if_neg hq]
      refine h.2 i' k' h1 h2 ?_
      rcases h3 with h3 | ⟨h3, h4⟩
      · exact .inl h3
      · refine .inr ⟨h3, ?_⟩
        rcases Nat.lt_or_ge k' kk with h5 | h5
        · exact h5
        · exfalso
          have : k' = kk := by omega
          exact hq (by rw [hp, h3, this])
set_option maxRecDepth 100000 in
set_option maxHeartbeats 8000000 in
theorem put_any (v : Value) (n k a fr pt sz L g cap c B2 : Nat) (A : Option Addr) (M : Mtx) (F T : Nat → Int) (w0 w : World) (hc : IsCode w0 v n k) (k1 : 2 ≤ k) (k2 : k ≤ 8) (ha : a = k - 1) (hfr : fr = 0 ∨ fr = a) (hsz : sz ≤ 100) (hB : Below w0.heap.size w0 w) (hg : w0.heap.size ≤ g) (hg2 : g < B2)
    (hpt : pt < sz) (hL : ∀ i kk, i ≤ kk → kk < a → placeN a (fr + i) kk * sz + pt < L) (hL2 : L ≤ 10000) (hM : ∀ i kk, i ≤ kk → kk < a → M i kk = T (placeN a (fr + i) kk * sz + pt))
    (ho : (Kd.int .u8).R 5 w w0.heap.size (fun _ => True) (.slice (some ⟨g, 0, none⟩) L cap) (line L F)) (hh : RowsR w B2 (.slice A a c) (mat a a M)) :
    Calls Try.prog 30 #[v, .slice (some ⟨g, 0, none⟩) L cap, .slice A a c, .int .i64 fr, .int .i64 pt, .int .i64 sz] w fun e w' => e = .returned (.tuple #[]) ∧ ∃ F', Put a fr sz pt a 0 F T F' ∧ (Kd.int .u8).R 5 w' w0.heap.size (fun _ => True) (.slice (some ⟨g, 0, none⟩) L cap) (line L F') ∧ Below w0.heap.size w0 w' := by
  have PL := Lib.hid (fun W r j (hB : Below w0.heap.size w0 W) (hr : r < 2 * a) (hj : j < a) => show Calls Try.prog 38 #[v, .int .i64 r, .int .i64 j] W fun e w' => e = .returned (.int .i64 (placeN a r j)) ∧ w' = W by
    rw [ha] at hr hj ⊢
    exact place_any v n k r j W (hc.below hB) k1 k2 hr hj)
  have HM := Lib.hid hM
  have HL := Lib.hid hL
  have HO0 := Lib.hid ho
  have HH0 := Lib.hid (show Kd.R kRow 22 w B2 (fun q => B2 ≤ q) (.slice A a c) (mat a a M) from Kd.R_mono (Kd.R_bound hh) (fun q hq => hq.2.1))
  have HB0 := Lib.hid hB
  have HG := Lib.hid hg
  have HG2 := Lib.hid hg2
  have a7 : a ≤ 7 := by omega
  have HFR := Lib.hid (show fr + a ≤ 2 * a by rcases hfr with h | h <;> omega)
  clear hM hL ho hh hB hc ha hfr hg hg2 k1 k2
  go_enter Try.func30, Try.ntmps30
  go_upto_region 1 with (fail)
  go_loopw [12, 13, 16] (fun _ _ iv wr => ∃ (i : Nat) (F' : Nat → Int), i ≤ a ∧ iv = .int .i64 i ∧ Hid (Put a fr sz pt i 0 F T F') ∧ Hid ((Kd.int .u8).R 5 wr w0.heap.size (fun _ => True) (.slice (some ⟨g, 0, none⟩) L cap) (line L F')) ∧ Hid (Kd.R kRow 22 wr B2 (fun q => B2 ≤ q) (.slice A a c) (mat a a M)) ∧ Hid (Below w0.heap.size w0 wr)) (fun _ _ iv _ => a - (intOf iv).toNat)
  case atStart => exact ⟨0, F, by omega, rfl, Lib.hid (Put.start _ _ _ _ _ _), HO0, HH0, HB0⟩
  case round =>
    clear HO0 HH0 HB0
    obtain ⟨i, F', hi, rfl, HP, HO, HH, HB⟩ := hrel
    by_cases hlt : i < a
    · have g1 : (i : Int) < (a : Int) := by omega
      have g2 : (0 : Int) ≤ (i : Int) := by omega
      go_upto_region 4 with (fail)
      go_loopw [13] (fun jv wr => ∃ (j : Nat) (F' : Nat → Int), i ≤ j ∧ j ≤ a ∧ jv = .int .i64 j ∧ Hid (Put a fr sz pt i j F T F') ∧ Hid ((Kd.int .u8).R 5 wr w0.heap.size (fun _ => True) (.slice (some ⟨g, 0, none⟩) L cap) (line L F')) ∧ Hid (Kd.R kRow 22 wr B2 (fun q => B2 ≤ q) (.slice A a c) (mat a a M)) ∧ Hid (Below w0.heap.size w0 wr)) (fun jv _ => a - (intOf jv).toNat)
      case atStart => exact ⟨i, F', by omega, by omega, rfl, Lib.hid HP.out.into, HO, HH, HB⟩
      case round =>
        clear HP HO HH HB F'
        obtain ⟨j, F', hij, hj, rfl, HP, HO, HH, HB⟩ := hrel
        by_cases hja : j < a
        · have g3 : (j : Int) < (a : Int) := by omega
          have g4 : (0 : Int) ≤ (j : Int) := by omega
          obtain ⟨u, hu⟩ : ∃ u, u = placeN a (fr + i) j := ⟨_, rfl⟩
          have PLC := Lib.hid (PL.out (wr.drewN 1) (fr + i) j (pw_below_drewN HB.out 1) (by have := HFR.out; omega) hja)
          have hpL := HL.out i j hij hja
          have hMT := HM.out i j hij hja
          rw [← hu] at PLC hpL hMT
          obtain ⟨ms, hms⟩ : ∃ ms, ms = u * sz := ⟨_, rfl⟩
          obtain ⟨p, hp⟩ : ∃ p, p = ms + pt := ⟨_, rfl⟩
          rw [← hms, ← hp] at hpL hMT
          have HPS := Lib.hid (HP.out.step (p := p) (kk := j) (by rw [hp, hms, hu]))
          obtain ⟨r, hr⟩ : ∃ r, r = fr + i := ⟨_, rfl⟩
          have hr14 : r ≤ 14 := by have := HFR.out; omega
          have hu2 : u ≤ 10000 := by
            have : u * 1 ≤ u * sz := Nat.mul_le_mul_left u (by omega)
            omega
          have v1 : IntKind.i64.wrap ((fr : Int) + (i : Int)) = (r : Int) := by rw [IntWalk.i64_in _ (by omega)]; omega
          have v2 : (fr : Int) + (i : Int) = (r : Int) := by omega
          have v3 : IntKind.i64.wrap (r : Int) = (r : Int) := IntWalk.i64_in _ (by omega)
          have v4 : IntKind.i64.wrap ((u : Int) * (sz : Int)) = (ms : Int) := by rw [hms, ← Int.natCast_mul]; exact IntWalk.i64_in _ (by omega)
          have v5 : IntKind.i64.wrap ((ms : Int) + (pt : Int)) = (p : Int) := by rw [IntWalk.i64_in _ (by omega)]; omega
          have v6 : (ms : Int) + (pt : Int) = (p : Int) := by omega
          have v7 : IntKind.i64.wrap (p : Int) = (p : Int) := IntWalk.i64_in _ (by omega)
          have t1 : (0 : Int) ≤ (p : Int) := by omega
          have t2 : (p : Int) < (L : Int) := by omega
          rw [← hr] at PLC
          have hC := (Kd.R_reads' HH.out).2.2
          rw [mat_len] at hC
          obtain ⟨a3, A3, c3, rfl, kp1, _, hc3⟩ := mrow hC i hlt
          obtain ⟨p3, rfl, kp2⟩ := Sol.at_row hc3 j hja
          rw [line_get _ _ _ hja, hMT] at kp2
          obtain ⟨x1', x2'⟩ := cell_of HO.out p hpL
          obtain ⟨y, hy⟩ : ∃ y, y = T p := ⟨_, rfl⟩
          have hpn := fun j => put_of (Kd.R_drewN HO.out j) p y
          simp only [line_set L _ _ hpL] at hpn
          rw [← hy] at HPS kp2
          have HPN := Lib.hid hpn
          have HBn := Lib.hid (fun j => (pw_below_drewN HB.out j).setCell (p := ⟨g, p, none⟩) HG.out (.int .u8 y))
          have HHn := Lib.hid (fun j => Kd.R_far (Kd.R_drewN HH.out j) (p := ⟨g, p, none⟩) (fun q hq e => by have := HG2.out; have e' : q = g := e; omega) (.int .u8 y))
          clear hC hc3 hpL hMT hms hp hu hr hy hpn hr14 hu2
          go_wp2
          refine wp_region_still_tail 19 (by kernel_rfl) (by kernel_rfl) ?_
          change wpStill _ _ (wr.drewN 1) (fun a' => wpList _ _ _ _ a' (wr.drewN 1)) _ _
          simp only [List.take_succ_cons, List.take_zero, List.drop_succ_cons, List.drop_zero]
          iterate 6 still_step
          still_call PLC.out
          iterate 12 still_step
          refine wpStill_nil ?_
          go_wp2
          go_roundw
          case rel => exact ⟨j + 1, _, by omega, by omega, by go_num, HPS, Lib.hid (HPN.out 1), Lib.hid (HHn.out 1), Lib.hid (HBn.out 1)⟩
          case measure => simp [intOf]; omega
        · obtain rfl : a = j := by omega
          go_wp2
          go_roundw
          case rel => exact ⟨i + 1, F', by omega, by go_num, Lib.hid HP.out.next, HO, HH, HB⟩
          case measure => simp [intOf]; omega
    · obtain rfl : a = i := by omega
      go_wp2
      first | go_end0 | ((try simp only [Exit.inBlock, Exit.then]); refine bodyPost_ret (results_none rfl _ _ _) rfl ?_)
      exact ⟨rfl, F', HP.out, HO.out, HB.out⟩
theorem place_lt (a r c : Nat) (h1 : 1 ≤ a) (h7 : a ≤ 7) (hr : r < 2 * a) (hc : c < a) : placeN a r c < (a + 1) * a := by
  have h : ∀ a, a < 8 → ∀ r, r < 2 * a → ∀ c, c < a → placeN a r c < (a + 1) * a := by decide +kernel
  exact h a (by omega) r hr c hc
theorem place_sym (a i j : Nat) (h7 : a ≤ 7) (hi : i < a) (hj : j < a) : placeN a i j = placeN a j i ∧ placeN a (a + i) j = placeN a (a + j) i := by
  have h : ∀ a, a < 8 → ∀ i, i < a → ∀ j, j < a → placeN a i j = placeN a j i ∧ placeN a (a + i) j = placeN a (a + j) i := by decide +kernel
  exact h a (by omega) i hi j hj
theorem place_all (a u : Nat) (h7 : a ≤ 7) (hu : u < (a + 1) * a) : ∃ i, i < a ∧ ∃ j, j < a ∧ i ≤ j ∧ (placeN a i j = u ∨ placeN a (a + i) j = u) := by
  have h : ∀ a, a < 8 → ∀ u, u < (a + 1) * a → ∃ i, i < a ∧ ∃ j, j < a ∧ i ≤ j ∧ (placeN a i j = u ∨ placeN a (a + i) j = u) := by decide +kernel
  exact h a (by omega) u hu
theorem side_sym {a : Nat} {f : Nat → Nat} {D : Nat → Nat → G} (hD : ∀ r u, r < a → u < a → D r u = D u r) (i j : Nat) :
    dotF a (el (powM f) j) (fun u => dotF a (el (powM f) i) (fun r => D r u)) = dotF a (el (powM f) i) (fun u => dotF a (el (powM f) j) (fun r => D r u)) := by
  unfold dotF
  rw [sum_congr (g := fun u => sum a (fun r => el (powM f) j u * (el (powM f) i r * D r u))) (fun u hu => by rw [← sum_left]), sum_comm]
  refine sum_congr (fun r hr => ?_)
  rw [← sum_left]
  refine sum_congr (fun u hu => ?_)
  rw [hD r u hr hu, ← Fd.mul_assoc, ← Fd.mul_assoc, Fd.mul_comm (el (powM f) j u)]
def oneS (a : Nat) (f : Nat → Nat) (S : Mtx) : Mtx := fun i u => (dotF a (el (powM f) i) (fun r => G.of (S r u))).int
def twoS (a : Nat) (f : Nat → Nat) (S : Mtx) : Mtx := fun i j => (dotF a (el (powM f) j) (fun u => G.of (oneS a f S i u))).int
theorem oneS_of (a : Nat) (f : Nat → Nat) (S : Mtx) (i u : Nat) : dotF a (el (powM f) i) (fun r => G.of (S r u)) = G.of (oneS a f S i u) := (G.of_int _).symm
theorem twoS_of (a : Nat) (f : Nat → Nat) (S : Mtx) (i j : Nat) : dotF a (el (powM f) j) (fun u => G.of (oneS a f S i u)) = G.of (twoS a f S i j) := (G.of_int _).symm
theorem twoS_sym {a : Nat} {f : Nat → Nat} {S : Mtx} (hS : ∀ r u, r < a → u < a → S r u = S u r) (i j : Nat) : twoS a f S i j = twoS a f S j i := by
  have h := side_sym (f := f) (D := fun r u => G.of (S r u)) (fun r u hr hu => congrArg G.of (hS r u hr hu)) i j
  unfold twoS
  congr 1
  have e : ∀ i, (fun u => G.of (oneS a f S i u)) = (fun u => dotF a (el (powM f) i) (fun r => G.of (S r u))) := fun i => funext (fun u => (oneS_of a f S i u).symm)
  rw [e i, e j]
  exact h
theorem dot_two {a : Nat} {f : Nat → Nat} {S1 S2 X : Mtx} {lam : Nat → G} (i : Nat) (hX : ∀ c, c < a → G.of (X i c) = dotF a (el (powM f) i) (fun r => G.of (S1 r c)) + lam i * dotF a (el (powM f) i) (fun r => G.of (S2 r c))) (j : Nat) :
    dotF a (el (powM f) j) (fun c => G.of (X i c)) = G.of (twoS a f S1 i j) + lam i * G.of (twoS a f S2 i j) := by
  rw [← twoS_of, ← twoS_of]
  unfold dotF
  rw [← sum_left, ← sum_add]
  refine sum_congr (fun c hc => ?_)
  show el (powM f) j c * G.of (X i c) = el (powM f) j c * G.of (oneS a f S1 i c) + lam i * (el (powM f) j c * G.of (oneS a f S2 i c))
  rw [hX c hc, oneS_of, oneS_of, Fd.mul_add]
  congr 1
  rw [← Fd.mul_assoc, ← Fd.mul_assoc, Fd.mul_comm (lam i)]
theorem dotF_comm (a : Nat) (x y : Nat → G) : dotF a x y = dotF a y x := sum_congr (fun i _ => Fd.mul_comm _ _)
theorem dot_line (a c1 c2 : Nat) (A1 A2 : Option Addr) (x y : Nat → Int) (w : World) (h1 : (Kd.int .u8).C w A1 a (line a x)) (h2 : (Kd.int .u8).C w A2 a (line a y)) (hx : ∀ i, Byt (x i)) (hy : ∀ i, Byt (y i)) (a1 : 1 ≤ a) (a7 : a ≤ 64) :
    Calls Try.prog 40 #[.slice A1 a c1, .slice A2 a c2] w fun e w' => e = .returned (.int .u8 (dotF a (fun i => G.of (x i)) (fun i => G.of (y i))).int) ∧ ∃ n, w' = w.drewN n := by
  obtain ⟨ad1, rfl, _⟩ := Sol.at_row h1 0 (by omega)
  obtain ⟨ad2, rfl, _⟩ := Sol.at_row h2 0 (by omega)
  have b1 : Mat.Bytes (line a x) := line_byt _ _ hx
  have b2 : Mat.Bytes (line a y) := line_byt _ _ hy
  have h := Mat.dot_le ad1 ad2 c1 c2 a a (line a x) (line a y) w (Kd.reads_of_C (d := (0 : Int)) h1) (Kd.reads_of_C (d := (0 : Int)) h2) b1 b2 (by omega) (Nat.le_refl _)
  have e : Mat.dotTo (line a x) (line a y) a = (dotF a (fun i => G.of (x i)) (fun i => G.of (y i))).int := by
    rw [← G.int_of _ (Mat.dotTo_range _ _ b1 a), of_dotTo b1 b2 a]
    congr 1
    exact sum_congr (fun i hi => by rw [line_get _ _ _ hi, line_get _ _ _ hi])
  rw [e] at h
  exact h
def avI (a : Nat) (f : Nat → Nat) (X : Mtx) : Mtx := fun i j => (dotF a (el X i) (el (powM f) j)).int
def lamI (a : Nat) (f : Nat → Nat) (i : Nat) : Int := ((gp (f i) a : Nat) : Int)
theorem avI_byt (a : Nat) (f : Nat → Nat) (X : Mtx) (i j : Nat) : Byt (avI a f X i j) := G.int_range _
theorem twoS_byt (a : Nat) (f : Nat → Nat) (S : Mtx) (i j : Nat) : Byt (twoS a f S i j) := G.int_range _
theorem oneS_byt (a : Nat) (f : Nat → Nat) (S : Mtx) (i j : Nat) : Byt (oneS a f S i j) := G.int_range _
theorem lamI_byt {a : Nat} {f : Nat → Nat} (hf : ∀ i, f i < 256) (i : Nat) : Byt (lamI a f i) := gp_byt _ _ (hf i)
def TwoX (k a : Nat) (f : Nat → Nat) (S1 S2 X : Mtx) : Prop := ∀ i, i < k → ∀ c, c < a → G.of (X i c) = dotF a (el (powM f) i) (fun r => G.of (S1 r c)) + G.of (lamI a f i) * dotF a (el (powM f) i) (fun r => G.of (S2 r c))
theorem av_two {k a : Nat} {f : Nat → Nat} {S1 S2 X : Mtx} (hX : TwoX k a f S1 S2 X) (i j : Nat) (hi : i < k) : G.of (avI a f X i j) = G.of (twoS a f S1 i j) + G.of (lamI a f i) * G.of (twoS a f S2 i j) := by
  unfold avI
  rw [G.of_int, dotF_comm]
  exact dot_two (lam := fun i => G.of (lamI a f i)) i (hX i hi) j
theorem half_div {k a : Nat} {f : Nat → Nat} (hf : ∀ i, f i < 256) {S1 S2 X : Mtx} (hX : TwoX k a f S1 S2 X) (h1 : ∀ r u, r < a → u < a → S1 r u = S1 u r) (h2 : ∀ r u, r < a → u < a → S2 r u = S2 u r) (i j : Nat) (hi : i < k) (hj : j < k) :
    xorI (avI a f X i j) (avI a f X j i) = gmI (twoS a f S2 i j) (xorI (lamI a f i) (lamI a f j)) := by
  refine G.of_inj (xorI_byt (avI_byt _ _ _ _ _) (avI_byt _ _ _ _ _)) (gmI_byt (twoS_byt _ _ _ _ _)) ?_
  rw [of_xor (avI_byt _ _ _ _ _) (avI_byt _ _ _ _ _), of_gm (twoS_byt _ _ _ _ _) (xorI_byt (lamI_byt hf _) (lamI_byt hf _)), of_xor (lamI_byt hf _) (lamI_byt hf _), av_two hX i j hi, av_two hX j i hj, twoS_sym h1 j i, twoS_sym h2 j i]
  generalize G.of (twoS a f S1 i j) = p
  generalize G.of (twoS a f S2 i j) = q
  rw [Fd.mul_add, Fd.mul_comm q, Fd.mul_comm q, Fd.add_assoc, add_left_comm (G.of (lamI a f i) * q), add_cancel]
theorem half_p {k a : Nat} {f : Nat → Nat} (hf : ∀ i, f i < 256) {S1 S2 X : Mtx} (hX : TwoX k a f S1 S2 X) (i j : Nat) (hi : i < k) :
    xorI (avI a f X i j) (gmI (lamI a f i) (twoS a f S2 i j)) = twoS a f S1 i j := by
  refine G.of_inj (xorI_byt (avI_byt _ _ _ _ _) (gmI_byt (lamI_byt hf _))) (twoS_byt _ _ _ _ _) ?_
  rw [of_xor (avI_byt _ _ _ _ _) (gmI_byt (lamI_byt hf _)), of_gm (lamI_byt hf _) (twoS_byt _ _ _ _ _), av_two hX i j hi, Fd.add_assoc, Fd.add_self, Fd.add_zero]
theorem xor_ne {x y : Int} (hx : Byt x) (hy : Byt y) (h : x ≠ y) : xorI x y ≠ 0 := by
  intro e
  refine h (G.of_inj hx hy (eq_of_add_zero ?_))
  rw [← of_xor hx hy, e, G.of_zero]
def Dn (k : Nat) (P M : Mtx) (i j : Nat) : Prop := ∀ r c, r < k → c < r → (r < i ∨ (r = i ∧ c < j)) → M r c = P r c ∧ M c r = P r c
theorem Dn.start (k : Nat) (P M : Mtx) : Dn k P M 0 0 := fun r c _ _ h => by omega
theorem Dn.next {k : Nat} {P M : Mtx} {i : Nat} (h : Dn k P M i i) : Dn k P M (i + 1) 0 := fun r c h1 h2 h3 => h r c h1 h2 (by omega)
theorem Dn.step {k : Nat} {P M : Mtx} {i j : Nat} {y : Int} (h : Dn k P M i j) (hy : y = P i j) (hj : j < i) : Dn k P (fun p q => if p = j ∧ q = i then y else (fun p q => if p = i ∧ q = j then y else M p q) p q) i (j + 1) := by
  intro r c h1 h2 h3
  by_cases e : r = i ∧ c = j
  · obtain ⟨rfl, rfl⟩ := e
    constructor
    · show (if r = c ∧ c = r then y else if r = r ∧ c = c then y else M r c) = _
      rw [if_neg (by omega), if_pos ⟨rfl, rfl⟩, hy]
    · show (if c = c ∧ r = r then y else _) = _
      rw [if_pos ⟨rfl, rfl⟩, hy]
  · have h4 := h r c h1 h2 (by omega)
    constructor
    · show (if r = j ∧ c = i then y else if r = i ∧ c = j then y else M r c) = _
      rw [if_neg (by omega), if_neg e]
      exact h4.1
    · show (if c = j ∧ r = i then y else if c = i ∧ r = j then y else M c r) = _
      rw [if_neg (by omega), if_neg (by omega)]
      exact h4.2
theorem Dn.all {k : Nat} {P M : Mtx} (h : Dn k P M k 0) (hs : ∀ i j, P i j = P j i) (i j : Nat) (hi : i < k) (hj : j < k) (hne : j ≠ i) : M i j = P i j := by
  rcases Nat.lt_or_ge j i with e | e
  · exact (h i j hi e (by omega)).1
  · rw [hs i j]
    exact (h j i hj (by omega) (by omega)).2
theorem byt_if {M : Mtx} (h : BytM M) (r c : Nat) {y : Int} (hy : Byt y) : BytM (fun p q => if p = r ∧ q = c then y else M p q) := fun p q => by
  show Byt (if p = r ∧ q = c then y else M p q)
  split
  · exact hy
  · exact h p q
end Go.Proofs.Ytmefhhkfakmhgaa.Hl
