/- The statement HealWholes: what its proof rests on, part 3 of 4. -/
import Derived.Test.YtcnfafappcbpnaaProg
import Derived.Below
import Derived.Deep.Draws
import Derived.Deep.AppendLies
import Derived.Maps.AppendAt
import Derived.OwnWalk
import Derived.Laws.BytesArg
import Derived.Laws.MakeOwn
import Derived.Laws.OwnMore
import Derived.Deep.OwnRows
import Derived.Tactics
import Derived.Lib.ConvBytes
import Derived.Laws.Slices
import Derived.WalkKit
import Derived.KernelRfl
import Derived.RowKit3
import Derived.Deep.LoopGhost
import Derived.Deep.QuietTactic
import Derived.BigQuiet
import Derived.WideLaws
import Derived.Deep.DeepCutAuto
import Derived.Deep.CutBlock
import Derived.Deep.RegionHeld3
import Derived.Laws.Rows
import Derived.Lib.AppendStr
import Derived.ArgAppend
import Derived.Laws.IdiomCopy
import Derived.OrdersHeld
import Derived.Laws.BitsLemmas
import Derived.RowKit
import Derived.Lib.Hide
import Derived.WalkSpells
import Derived.StillTailTactics
import Derived.Outline
import Derived.Test.YtcnfafappcbpnaaWApart
import Derived.Test.YtcnfafappcbpnaaPStepsx1
import Derived.Test.YtcnfafappcbpnaaZHealWholesb
namespace Go.Proofs.Ytcnfafappcbpnaa.Hl
open Go Go.RowKit Go.Proofs.Ytcnfafappcbpnaa.Gf Go.Proofs.Ytcnfafappcbpnaa.Gi Go.Proofs.Ytcnfafappcbpnaa.Bits Go.Proofs.Ytcnfafappcbpnaa.Mem Go.Proofs.Ytcnfafappcbpnaa.Alg Go.Proofs.Ytcnfafappcbpnaa.Sol Go.Proofs.Ytcnfafappcbpnaa.VPts Go.Proofs.Ytcnfafappcbpnaa.Str Go.Proofs.Ytcnfafappcbpnaa.Rws Go.Proofs.Ytcnfafappcbpnaa.Par Go.Proofs.Ytcnfafappcbpnaa.Mdc Go.Proofs.Ytcnfafappcbpnaa.BHealFragments Go.Proofs.YtcnfafappcbpnaaW.PrintWords
set_option linter.unusedVariables false
theorem place_lt (a r c : Nat) (h1 : 1 ≤ a) (h7 : a ≤ 7) (hr : r < 2 * a) (hc : c < a) : placeN a r c < (a + 1) * a := by
  have h : ∀ a, a < 8 → ∀ r, r < 2 * a → ∀ c, c < a → placeN a r c < (a + 1) * a := by decide +kernel
  exact h a (by omega) r hr c hc
theorem place_sym (a i j : Nat) (h7 : a ≤ 7) (hi : i < a) (hj : j < a) : placeN a i j = placeN a j i ∧ placeN a (a + i) j = placeN a (a + j) i := by
  have h : ∀ a, a < 8 → ∀ i, i < a → ∀ j, j < a → placeN a i j = placeN a j i ∧ placeN a (a + i) j = placeN a (a + j) i := by decide +kernel
  exact h a (by omega) i hi j hj
theorem place_all (a u : Nat) (h7 : a ≤ 7) (hu : u < (a + 1) * a) : ∃ i, i < a ∧ ∃ j, j < a ∧ i ≤ j ∧ (placeN a i j = u ∨ placeN a (a + i) j = u) := by
  have h : ∀ a, a < 8 → ∀ u, u < (a + 1) * a → ∃ i, i < a ∧ ∃ j, j < a ∧ i ≤ j ∧ (placeN a i j = u ∨ placeN a (a + i) j = u) := by decide +kernel
  exact h a (by omega) u hu
theorem half_zero {a : Nat} {f : Nat → Nat} (hf : ∀ i, f i < 256) (hd : ∀ i j, i < a + 1 → j < a + 1 → f i = f j → i = j) (D : Nat → Nat → G)
    (h : ∀ i j, i < a + 1 → j < a + 1 → j ≠ i → dotF a (el (powM f) j) (fun u => dotF a (el (powM f) i) (fun r => D r u)) = 0) (r u : Nat) (hr : r < a) (hu : u < a) : D r u = 0 := by
  have hv : ∀ i, i < a + 1 → ∀ u, u < a → dotF a (el (powM f) i) (fun r => D r u) = 0 := by
    intro i hi
    exact powM_inj (f := fun r => f (sk i r)) (fun r => hf _) (fun r q hr hq e => sk_inj (hd (sk i r) (sk i q) (sk_lt (by omega)) (sk_lt (by omega)) e)) (fun u => dotF a (el (powM f) i) (fun r => D r u))
      (fun r hr => h i (sk i r) hi (sk_lt (by omega)) (sk_ne i r))
  exact powM_inj hf (fun i j hi hj e => hd i j (by omega) (by omega) e) (fun r => D r u) (fun i hi => hv i (by omega) u hu) r hr
theorem side_sym {a : Nat} {f : Nat → Nat} {D : Nat → Nat → G} (hD : ∀ r u, r < a → u < a → D r u = D u r) (i j : Nat) :
    dotF a (el (powM f) j) (fun u => dotF a (el (powM f) i) (fun r => D r u)) = dotF a (el (powM f) i) (fun u => dotF a (el (powM f) j) (fun r => D r u)) := by
  unfold dotF
  rw [sum_congr (g := fun u => sum a (fun r => el (powM f) j u * (el (powM f) i r * D r u))) (fun u hu => by rw [← sum_left]), sum_comm]
  refine sum_congr (fun r hr => ?_)
  rw [← sum_left]
  refine sum_congr (fun u hu => ?_)
  rw [hD r u hr hu, ← Fd.mul_assoc, ← Fd.mul_assoc, Fd.mul_comm (el (powM f) j u)]
theorem both_zero {a : Nat} {f : Nat → Nat} {lam : Nat → G} (hf : ∀ i, f i < 256) (hd : ∀ i j, i < a + 1 → j < a + 1 → f i = f j → i = j) (hl : ∀ i j, i < a + 1 → j < a + 1 → lam i = lam j → i = j) (D E : Nat → Nat → G)
    (hD : ∀ r u, r < a → u < a → D r u = D u r) (hE : ∀ r u, r < a → u < a → E r u = E u r)
    (h : ∀ i c, i < a + 1 → c < a → dotF a (el (powM f) i) (fun r => D r c) + lam i * dotF a (el (powM f) i) (fun r => E r c) = 0) (r u : Nat) (hr : r < a) (hu : u < a) : D r u = 0 ∧ E r u = 0 := by
  have h1 : ∀ i j, i < a + 1 → dotF a (el (powM f) j) (fun u => dotF a (el (powM f) i) (fun r => D r u)) + lam i * dotF a (el (powM f) j) (fun u => dotF a (el (powM f) i) (fun r => E r u)) = 0 := by
    intro i j hi
    have e : dotF a (el (powM f) j) (fun u => dotF a (el (powM f) i) (fun r => D r u)) + lam i * dotF a (el (powM f) j) (fun u => dotF a (el (powM f) i) (fun r => E r u)) = sum a (fun c => el (powM f) j c * (dotF a (el (powM f) i) (fun r => D r c) + lam i * dotF a (el (powM f) i) (fun r => E r c))) := by
      unfold dotF
      rw [← sum_left, ← sum_add]
      refine sum_congr (fun c hc => ?_)
      rw [Fd.mul_add]
      congr 1
      rw [← Fd.mul_assoc, ← Fd.mul_assoc, Fd.mul_comm (lam i)]
    rw [e, sum_congr (g := fun _ => 0) (fun c hc => by rw [h i c hi hc, mul_zero])]
    exact sum_zero a
  have hQ : ∀ i j, i < a + 1 → j < a + 1 → j ≠ i → dotF a (el (powM f) j) (fun u => dotF a (el (powM f) i) (fun r => E r u)) = 0 := by
    intro i j hi hj hne
    have q1 := h1 i j hi
    have q2 := h1 j i hj
    rw [side_sym hD j i, side_sym hE j i] at q2
    have q3 := eq_of_add_zero q1
    have q4 := eq_of_add_zero q2
    rw [q3] at q4
    rcases Go.Proofs.Ytcnfafappcbpnaa.Alg.mul_eq_zero (show (lam i + lam j) * dotF a (el (powM f) j) (fun u => dotF a (el (powM f) i) (fun r => E r u)) = 0 by rw [Fd.mul_comm, Fd.mul_add, Fd.mul_comm _ (lam i), Fd.mul_comm _ (lam j), q4, Fd.add_self]) with h0 | h0
    · exact absurd (hl i j hi hj (eq_of_add_zero h0)) (fun e => hne e.symm)
    · exact h0
  have hP : ∀ i j, i < a + 1 → j < a + 1 → j ≠ i → dotF a (el (powM f) j) (fun u => dotF a (el (powM f) i) (fun r => D r u)) = 0 := by
    intro i j hi hj hne
    have q1 := h1 i j hi
    rw [hQ i j hi hj hne, mul_zero] at q1
    exact (eq_of_add_zero q1).trans rfl
  exact ⟨half_zero hf hd D hP r u hr hu, half_zero hf hd E hQ r u hr hu⟩
def xrow (a : Nat) (y : Nat → Int) (c : Nat) : Nat → Nat → Int
  | 0 => fun _ => 0
  | R + 1 => fun u => if u = placeN a R c then xorI (xrow a y c R u) (y R) else xrow a y c R u
theorem xrow_byt {a : Nat} {y : Nat → Int} (hy : ∀ r, Byt (y r)) (c : Nat) : ∀ R u, Byt (xrow a y c R u)
  | 0, u => ⟨Int.le_refl 0, by show (0 : Int) < 256; decide⟩
  | R + 1, u => by
    show Byt (if u = placeN a R c then xorI (xrow a y c R u) (y R) else xrow a y c R u)
    split
    · exact xorI_byt (xrow_byt hy c R u) (hy R)
    · exact xrow_byt hy c R u
theorem xrow_dot {a m : Nat} {y : Nat → Int} (hy : ∀ r, Byt (y r)) (c : Nat) (b : Nat → G) : ∀ R, (∀ r, r < R → placeN a r c < m) → sum m (fun u => G.of (xrow a y c R u) * b u) = sum R (fun r => G.of (y r) * b (placeN a r c))
  | 0, _ => by
    show sum m (fun u => G.of 0 * b u) = 0
    rw [sum_congr (g := fun _ => 0) (fun u hu => by rw [G.of_zero, zero_mul])]
    exact sum_zero m
  | R + 1, h => by
    have ih := xrow_dot hy c b R (fun r hr => h r (by omega))
    have e : sum m (fun u => G.of (xrow a y c (R + 1) u) * b u) = sum m (fun u => G.of (xrow a y c R u) * b u) + sum m (fun u => if u = placeN a R c then G.of (y R) * b u else 0) := by
      rw [← sum_add]
      refine sum_congr (fun u hu => ?_)
      show G.of (if u = placeN a R c then xorI (xrow a y c R u) (y R) else xrow a y c R u) * b u = _
      by_cases hp : u = placeN a R c
      · rw [if_pos hp, if_pos hp, of_xor (xrow_byt hy c R u) (hy R), Fd.mul_comm, Fd.mul_add, Fd.mul_comm (b u), Fd.mul_comm (b u)]
      · rw [if_neg hp, if_neg hp, Fd.add_zero]
    rw [e, ih, sum_at (a := placeN a R c) (h R (by omega)) (fun u hu hne => by (show (if u = placeN a R c then G.of (y R) * b u else 0) = 0); rw [if_neg hne])]
    show sum R _ + (if placeN a R c = placeN a R c then G.of (y R) * b (placeN a R c) else 0) = sum (R + 1) _
    rw [if_pos rfl]
    rfl
def eqsM (a : Nat) (f : Nat → Nat) : Mtx := fun e u => xrow a (powM f (e / a)) (e % a) (2 * a) u
theorem eqsM_byt {a : Nat} {f : Nat → Nat} (hf : ∀ i, f i < 256) : BytM (eqsM a f) := fun e u => xrow_byt (powM_byt hf _) _ _ _
theorem eqs_dot {a : Nat} {f : Nat → Nat} (hf : ∀ i, f i < 256) (a1 : 1 ≤ a) (a7 : a ≤ 7) (b : Nat → G) (i c : Nat) (hc : c < a) :
    dotF ((a + 1) * a) (el (eqsM a f) (i * a + c)) b = dotF a (el (powM f) i) (fun r => b (placeN a r c)) + G.of ((gp (f i) a : Nat) : Int) * dotF a (el (powM f) i) (fun r => b (placeN a (a + r) c)) := by
  have e1 : (i * a + c) / a = i := by rw [Nat.mul_comm, Nat.mul_add_div (by omega), Nat.div_eq_of_lt hc, Nat.add_zero]
  have e2 : (i * a + c) % a = c := by rw [Nat.mul_comm, Nat.mul_add_mod, Nat.mod_eq_of_lt hc]
  have h := xrow_dot (m := (a + 1) * a) (powM_byt hf i) c b (2 * a) (fun r hr => place_lt a r c a1 a7 hr hc)
  unfold dotF el eqsM
  rw [e1, e2, h, Nat.two_mul, sum_split]
  congr 1
  rw [← sum_left]
  refine sum_congr (fun r hr => ?_)
  rw [← Fd.mul_assoc]
  congr 1
  show G.of ((gp (f i) (a + r) : Nat) : Int) = G.of ((gp (f i) a : Nat) : Int) * G.of ((gp (f i) r : Nat) : Int)
  rw [gp_add (f i) (hf i), ← gmI_nat, of_gm (gp_byt _ _ (hf i)) (gp_byt _ _ (hf i))]
theorem eqs_inj {a : Nat} {f : Nat → Nat} (hf : ∀ i, f i < 256) (a1 : 1 ≤ a) (a7 : a ≤ 7) (hd : ∀ i j, i < a + 1 → j < a + 1 → f i = f j → i = j) (hl : ∀ i j, i < a + 1 → j < a + 1 → gp (f i) a = gp (f j) a → i = j) : Inj ((a + 1) * a) (eqsM a f) := by
  intro b hb u hu
  have hz := both_zero (lam := fun i => G.of ((gp (f i) a : Nat) : Int)) hf hd (fun i j hi hj e => hl i j hi hj (by
    have h1 := gp_byt (f i) a (hf i)
    have h2 := gp_byt (f j) a (hf j)
    have := G.of_inj h1 h2 e
    omega)) (fun r c => b (placeN a r c)) (fun r c => b (placeN a (a + r) c)) (fun r c hr hc => congrArg b (place_sym a r c a7 hr hc).1) (fun r c hr hc => congrArg b (place_sym a r c a7 hr hc).2) (fun i c hi hc => by
    have h := hb (i * a + c) (by
      have h2 : (i + 1) * a ≤ (a + 1) * a := Nat.mul_le_mul_right a (by omega)
      rw [Nat.add_mul, Nat.one_mul] at h2
      omega)
    rw [eqs_dot hf a1 a7 b i c hc] at h
    exact h)
  obtain ⟨i, hi, j, hj, hij, h | h⟩ := place_all a u a7 hu
  · rw [← h]; exact (hz i j hi hj).1
  · rw [← h]; exact (hz i j hi hj).2
theorem steps_stay {n : Nat} {M0 : Mtx} (h0 : BytM M0) (hinj : Inj n M0) {col t : Nat} {M : Mtx} (h : StepsTo n M0 col t M) (hc : n ≤ col) : StepsTo n M0 n n M := by
  have hself : ∀ {col t : Nat} {M : Mtx}, StepsTo n M0 col t M → n = col → StepsTo n M0 n n M := by
    intro col t M h e
    have h1 := (h.one h0 hinj).1
    subst e
    rw [Nat.min_self] at h1
    subst h1
    exact h
  induction h with
  | start => exact hself .start (by omega)
  | @skip col t M hs hz ih =>
    rcases Nat.lt_or_ge col n with e | e
    · exact hself (.skip hs hz) (by omega)
    · exact ih e
  | @step col t k r M hs htk hk hz hp hr h1 ih =>
    rcases Nat.lt_or_ge col n with e | e
    · exact hself (.step hs htk hk hz hp hr h1) (by omega)
    · have h2 := (hs.one h0 hinj).1
      rw [Nat.min_eq_right e] at h2
      omega
theorem steps_answer {n q m t : Nat} {A B C : Mtx} (hA : BytM A) (hB : BytM B) (hinj : Inj n A) (hm : n ≤ m) (h : StepsTo n (augM n A B) m t C) (i : Nat) (hi : i < n) (l : Nat) (hl : l < q) :
    dotF n (el A i) (fun j => G.of (C j (n + l))) = G.of (B i l) := by
  have hi2 : Inj n (augM n A B) := fun c hc => hinj c (fun i hi => by
    have e : dotF n (el A i) c = dotF n (el (augM n A B) i) c := by
      unfold dotF
      exact sum_congr (fun j hj => by unfold el augM; rw [if_pos hj])
    rw [e]
    exact hc i hi)
  exact StepsTo.eqs (q := q) hA hB (steps_stay (augM_byt hA hB) hi2 h hm) i hi l hl
def oneS (a : Nat) (f : Nat → Nat) (S : Mtx) : Mtx := fun i u => (dotF a (el (powM f) i) (fun r => G.of (S r u))).int
def twoS (a : Nat) (f : Nat → Nat) (S : Mtx) : Mtx := fun i j => (dotF a (el (powM f) j) (fun u => G.of (oneS a f S i u))).int
theorem oneS_of (a : Nat) (f : Nat → Nat) (S : Mtx) (i u : Nat) : dotF a (el (powM f) i) (fun r => G.of (S r u)) = G.of (oneS a f S i u) := (G.of_int _).symm
theorem twoS_of (a : Nat) (f : Nat → Nat) (S : Mtx) (i j : Nat) : dotF a (el (powM f) j) (fun u => G.of (oneS a f S i u)) = G.of (twoS a f S i j) := (G.of_int _).symm
theorem twoS_sym {a : Nat} {f : Nat → Nat} {S : Mtx} (hS : ∀ r u, r < a → u < a → S r u = S u r) (i j : Nat) : twoS a f S i j = twoS a f S j i := by
  have h := side_sym (f := f) (D := fun r u => G.of (S r u)) (fun r u hr hu => congrArg G.of (hS r u hr hu)) i j
  unfold twoS
  congr 1
  have e : ∀ i, (fun u => G.of (oneS a f S i u)) = (fun u => dotF a (el (powM f) i) (fun r => G.of (S r u))) := fun i => funext (fun u => (oneS_of a f S i u).symm)
  rw [e i, e j]
  exact h
theorem dot_two {a : Nat} {f : Nat → Nat} {S1 S2 X : Mtx} {lam : Nat → G} (i : Nat) (hX : ∀ c, c < a → G.of (X i c) = dotF a (el (powM f) i) (fun r => G.of (S1 r c)) + lam i * dotF a (el (powM f) i) (fun r => G.of (S2 r c))) (j : Nat) :
    dotF a (el (powM f) j) (fun c => G.of (X i c)) = G.of (twoS a f S1 i j) + lam i * G.of (twoS a f S2 i j) := by
  rw [← twoS_of, ← twoS_of]
  unfold dotF
  rw [← sum_left, ← sum_add]
  refine sum_congr (fun c hc => ?_)
  show el (powM f) j c * G.of (X i c) = el (powM f) j c * G.of (oneS a f S1 i c) + lam i * (el (powM f) j c * G.of (oneS a f S2 i c))
  rw [hX c hc, oneS_of, oneS_of, Fd.mul_add]
  congr 1
  rw [← Fd.mul_assoc, ← Fd.mul_assoc, Fd.mul_comm (lam i)]
theorem dotF_comm (a : Nat) (x y : Nat → G) : dotF a x y = dotF a y x := sum_congr (fun i _ => Fd.mul_comm _ _)
theorem dot_line (a c1 c2 : Nat) (A1 A2 : Option Addr) (x y : Nat → Int) (w : World) (h1 : (Kd.int .u8).C w A1 a (line a x)) (h2 : (Kd.int .u8).C w A2 a (line a y)) (hx : ∀ i, Byt (x i)) (hy : ∀ i, Byt (y i)) (a1 : 1 ≤ a) (a7 : a ≤ 64) :
    Calls Try.prog 70 #[.slice A1 a c1, .slice A2 a c2] w fun e w' => e = .returned (.int .u8 (dotF a (fun i => G.of (x i)) (fun i => G.of (y i))).int) ∧ ∃ n, w' = w.drewN n := by
  obtain ⟨ad1, rfl, _⟩ := Sol.at_row h1 0 (by omega)
  obtain ⟨ad2, rfl, _⟩ := Sol.at_row h2 0 (by omega)
  have b1 : Mat.Bytes (line a x) := line_byt _ _ hx
  have b2 : Mat.Bytes (line a y) := line_byt _ _ hy
  have h := Mat.dot_le ad1 ad2 c1 c2 a a (line a x) (line a y) w (Kd.reads_of_C (d := (0 : Int)) h1) (Kd.reads_of_C (d := (0 : Int)) h2) b1 b2 (by omega) (Nat.le_refl _)
  have e : Mat.dotTo (line a x) (line a y) a = (dotF a (fun i => G.of (x i)) (fun i => G.of (y i))).int := by
    rw [← G.int_of _ (Mat.dotTo_range _ _ b1 a), of_dotTo b1 b2 a]
    congr 1
    exact sum_congr (fun i hi => by rw [line_get _ _ _ hi, line_get _ _ _ hi])
  rw [e] at h
  exact h
def avI (a : Nat) (f : Nat → Nat) (X : Mtx) : Mtx := fun i j => (dotF a (el X i) (el (powM f) j)).int
def lamI (a : Nat) (f : Nat → Nat) (i : Nat) : Int := ((gp (f i) a : Nat) : Int)
theorem avI_byt (a : Nat) (f : Nat → Nat) (X : Mtx) (i j : Nat) : Byt (avI a f X i j) := G.int_range _
theorem twoS_byt (a : Nat) (f : Nat → Nat) (S : Mtx) (i j : Nat) : Byt (twoS a f S i j) := G.int_range _
theorem oneS_byt (a : Nat) (f : Nat → Nat) (S : Mtx) (i j : Nat) : Byt (oneS a f S i j) := G.int_range _
theorem lamI_byt {a : Nat} {f : Nat → Nat} (hf : ∀ i, f i < 256) (i : Nat) : Byt (lamI a f i) := gp_byt _ _ (hf i)
def TwoX (k a : Nat) (f : Nat → Nat) (S1 S2 X : Mtx) : Prop := ∀ i, i < k → ∀ c, c < a → G.of (X i c) = dotF a (el (powM f) i) (fun r => G.of (S1 r c)) + G.of (lamI a f i) * dotF a (el (powM f) i) (fun r => G.of (S2 r c))
theorem av_two {k a : Nat} {f : Nat → Nat} {S1 S2 X : Mtx} (hX : TwoX k a f S1 S2 X) (i j : Nat) (hi : i < k) : G.of (avI a f X i j) = G.of (twoS a f S1 i j) + G.of (lamI a f i) * G.of (twoS a f S2 i j) := by
  unfold avI
  rw [G.of_int, dotF_comm]
  exact dot_two (lam := fun i => G.of (lamI a f i)) i (hX i hi) j
theorem half_div {k a : Nat} {f : Nat → Nat} (hf : ∀ i, f i < 256) {S1 S2 X : Mtx} (hX : TwoX k a f S1 S2 X) (h1 : ∀ r u, r < a → u < a → S1 r u = S1 u r) (h2 : ∀ r u, r < a → u < a → S2 r u = S2 u r) (i j : Nat) (hi : i < k) (hj : j < k) :
    xorI (avI a f X i j) (avI a f X j i) = gmI (twoS a f S2 i j) (xorI (lamI a f i) (lamI a f j)) := by
  refine G.of_inj (xorI_byt (avI_byt _ _ _ _ _) (avI_byt _ _ _ _ _)) (gmI_byt (twoS_byt _ _ _ _ _)) ?_
  rw [of_xor (avI_byt _ _ _ _ _) (avI_byt _ _ _ _ _), of_gm (twoS_byt _ _ _ _ _) (xorI_byt (lamI_byt hf _) (lamI_byt hf _)), of_xor (lamI_byt hf _) (lamI_byt hf _), av_two hX i j hi, av_two hX j i hj, twoS_sym h1 j i, twoS_sym h2 j i]
  generalize G.of (twoS a f S1 i j) = p
  generalize G.of (twoS a f S2 i j) = q
  rw [Fd.mul_add, Fd.mul_comm q, Fd.mul_comm q, Fd.add_assoc, add_left_comm (G.of (lamI a f i) * q), add_cancel]
theorem half_p {k a : Nat} {f : Nat → Nat} (hf : ∀ i, f i < 256) {S1 S2 X : Mtx} (hX : TwoX k a f S1 S2 X) (i j : Nat) (hi : i < k) :
    xorI (avI a f X i j) (gmI (lamI a f i) (twoS a f S2 i j)) = twoS a f S1 i j := by
  refine G.of_inj (xorI_byt (avI_byt _ _ _ _ _) (gmI_byt (lamI_byt hf _))) (twoS_byt _ _ _ _ _) ?_
  rw [of_xor (avI_byt _ _ _ _ _) (gmI_byt (lamI_byt hf _)), of_gm (lamI_byt hf _) (twoS_byt _ _ _ _ _), av_two hX i j hi, Fd.add_assoc, Fd.add_self, Fd.add_zero]
theorem xor_ne {x y : Int} (hx : Byt x) (hy : Byt y) (h : x ≠ y) : xorI x y ≠ 0 := by
  intro e
  refine h (G.of_inj hx hy (eq_of_add_zero ?_))
  rw [← of_xor hx hy, e, G.of_zero]
def Dn (k : Nat) (P M : Mtx) (i j : Nat) : Prop := ∀ r c, r < k → c < r → (r < i ∨ (r = i ∧ c < j)) → M r c = P r c ∧ M c r = P r c
theorem Dn.start (k : Nat) (P M : Mtx) : Dn k P M 0 0 := fun r c _ _ h => by omega
theorem Dn.next {k : Nat} {P M : Mtx} {i : Nat} (h : Dn k P M i i) : Dn k P M (i + 1) 0 := fun r c h1 h2 h3 => h r c h1 h2 (by omega)
theorem Dn.step {k : Nat} {P M : Mtx} {i j : Nat} {y : Int} (h : Dn k P M i j) (hy : y = P i j) (hj : j < i) : Dn k P (fun p q => if p = j ∧ q = i then y else (fun p q => if p = i ∧ q = j then y else M p q) p q) i (j + 1) := by
  intro r c h1 h2 h3
  by_cases e : r = i ∧ c = j
  · obtain ⟨rfl, rfl⟩ := e
    constructor
    · show (if r = c ∧ c = r then y else if r = r ∧ c = c then y else M r c) = _
      rw [if_neg (by omega), if_pos ⟨rfl, rfl⟩, hy]
    · show (if c = c ∧ r = r then y else _) = _
      rw [if_pos ⟨rfl, rfl⟩, hy]
  · have h4 := h r c h1 h2 (by omega)
    constructor
    · show (if r = j ∧ c = i then y else if r = i ∧ c = j then y else M r c) = _
      rw [if_neg (by omega), if_neg e]
      exact h4.1
    · show (if c = j ∧ r = i then y else if c = i ∧ r = j then y else M c r) = _
      rw [if_neg (by omega), if_neg (by omega)]
      exact h4.2
theorem Dn.all {k : Nat} {P M : Mtx} (h : Dn k P M k 0) (hs : ∀ i j, P i j = P j i) (i j : Nat) (hi : i < k) (hj : j < k) (hne : j ≠ i) : M i j = P i j := by
  rcases Nat.lt_or_ge j i with e | e
  · exact (h i j hi e (by omega)).1
  · rw [hs i j]
    exact (h j i hj (by omega) (by omega)).2
theorem byt_if {M : Mtx} (h : BytM M) (r c : Nat) {y : Int} (hy : Byt y) : BytM (fun p q => if p = r ∧ q = c then y else M p q) := fun p q => by
  show Byt (if p = r ∧ q = c then y else M p q)
  split
  · exact hy
  · exact h p q
theorem made_rows (k : Nat) (g : Nat → Nat) : madeCells #[Value.slice none 0 0] k = spA k 0 g := by
  rw [← spA_zero]
  apply Array.ext
  · simp [madeCells]
  · intro i h1 h2
    simp [madeCells, Nat.mod_one]
theorem made_bytes (k : Nat) : madeCells #[Value.int .u8 0] k = rowA k (fun _ => 0) := by
  rw [← rowA_zero]
  apply Array.ext
  · simp [madeCells]
  · intro i h1 h2
    simp [madeCells, Nat.mod_one]
theorem mk_rows (k : Nat) (hk : k ≤ 8) (W : World) : (Instr.makeSlice 39 (.int .i64 (k : Int)) (.int .i64 (k : Int))).run Try.prog W = .ok (.slice (some ⟨W.heap.size, 0, none⟩) k k) (W.alloc (.cells (spA k 0 (fun _ => 0)) 22)) := by
  rw [← made_rows]
  exact print_make_of 39 22 (.slice none 0 0) 24 Try.underlying39 info_rows rfl (by decide) k (by omega) W
theorem mk_bytes (k : Nat) (hk : k ≤ 8) (W : World) : (Instr.makeSlice 22 (.int .i64 (k : Int)) (.int .i64 (k : Int))).run Try.prog W = .ok (.slice (some ⟨W.heap.size, 0, none⟩) k k) (W.alloc (.cells (rowA k (fun _ => 0)) 5)) := by
  rw [← made_bytes]
  exact print_make_of 22 5 (.int .u8 0) 1 Try.underlying22 Rws.info_byte rfl (by decide) k (by omega) W
theorem sq2_start {W : World} {base k bp bq : Nat} (h1 : Blk W bp 22 (spA k 0 (fun _ => 0))) (h2 : Blk W bq 22 (spA k 0 (fun _ => 0))) (hp : base ≤ bp) (hq : base ≤ bq) (hne : bp ≠ bq) (M N : Mtx) : Sq2 W base k 0 bp bq (fun _ => 0) (fun _ => 0) M N :=
  ⟨⟨h1, fun r hr => absurd hr (Nat.not_lt_zero r), hp, fun r hr => absurd hr (Nat.not_lt_zero r), fun r q hr => absurd hr (Nat.not_lt_zero r)⟩, ⟨h2, fun r hr => absurd hr (Nat.not_lt_zero r), hq, fun r hr => absurd hr (Nat.not_lt_zero r), fun r q hr => absurd hr (Nat.not_lt_zero r)⟩, hne, fun r s hr => absurd hr (Nat.not_lt_zero r)⟩
theorem sq2_swap {W : World} {base k i bp bq : Nat} {gp gq : Nat → Nat} {M N : Mtx} (h : Sq2 W base k i bp bq gp gq M N) : Sq2 W base k i bq bp gq gp N M := ⟨h.q, h.p, fun e => h.ne e.symm, fun r s hr hs e => h.nes s r hs hr e.symm⟩
theorem sq2_made (k : Nat) (w : World) (M N : Mtx) : Sq2 ((w.alloc (.cells (spA k 0 (fun _ => 0)) 22)).alloc (.cells (spA k 0 (fun _ => 0)) 22)).drew w.heap.size k 0 w.heap.size (w.heap.size + 1) (fun _ => 0) (fun _ => 0) M N := by
  refine sq2_start (((Blk.new w _ _).alloc _).drew) ?_ (Nat.le_refl _) (Nat.le_succ _) (by omega) M N
  have h := (Blk.new (w.alloc (.cells (spA k 0 (fun _ => 0)) 22)) 22 (spA k 0 (fun _ => 0))).drew
  rw [show (w.alloc (.cells (spA k 0 (fun _ => 0)) 22)).heap.size = w.heap.size + 1 by simp] at h
  exact h
def zM : Mtx := fun _ _ => 0
theorem zM_byt : BytM zM := fun _ _ => byt0
theorem sq2_more {W : World} {base k i bp bq B0 b1 b2 : Nat} {gp gq : Nat → Nat} (h : Sq2 W base k i bp bq gp gq zM zM) (hi : i < k) (hb : base ≤ B0) (hl : ∀ r, r < i → gp r < B0 ∧ gq r < B0) (h1 : Blk W b1 5 (rowA k (fun _ => 0))) (h2 : Blk W b2 5 (rowA k (fun _ => 0))) (l1 : B0 ≤ b1) (l2 : B0 ≤ b2) (hne : b1 ≠ b2) :
    Sq2 ((W.setCell ⟨bp, i, none⟩ (rowV k b1)).setCell ⟨bq, i, none⟩ (rowV k b2)) base k (i + 1) bp bq (fun r => if r = i then b1 else gp r) (fun r => if r = i then b2 else gq r) zM zM := by
  have hp1 : bp ≠ b1 := h.p.sp.ne_ h1 (by decide)
  have hp2 : bp ≠ b2 := h.p.sp.ne_ h2 (by decide)
  have hq1 : bq ≠ b1 := h.q.sp.ne_ h1 (by decide)
  have hq2 : bq ≠ b2 := h.q.sp.ne_ h2 (by decide)
  have p1 := h.p.more hi h1 (by omega) (fun r hr e => by have := (hl r hr).1; omega)
  have p2 := p1.far (p := ⟨bq, i, none⟩) (fun e => h.ne e.symm) (fun r hr e => by
    have e' : bq = (if r = i then b1 else gp r) := e
    by_cases hri : r = i
    · rw [if_pos hri] at e'; exact hq1 e'
    · rw [if_neg hri] at e'
      exact h.q.sp.ne_ (h.p.rows r (by omega)) (by decide) e') (rowV k b2)
  have q1 := h.q.far (p := ⟨bp, i, none⟩) (fun e => h.ne e) (fun r hr e => h.p.sp.ne_ (h.q.rows r hr) (by decide) e) (rowV k b1)
  have q2 := q1.more hi (h2.far (p := ⟨bp, i, none⟩) (fun e => hp2 e.symm) _) (by omega) (fun r hr e => by have := (hl r hr).2; omega)
  refine ⟨p2, q2, h.ne, fun r s hr hs e => ?_⟩
  have e' : (if r = i then b1 else gp r) = (if s = i then b2 else gq s) := e
  by_cases e1 : r = i <;> by_cases e2 : s = i
  · rw [if_pos e1, if_pos e2] at e'; exact hne e'
  · rw [if_pos e1, if_neg e2] at e'; have := (hl s (by omega)).2; omega
  · rw [if_neg e1, if_pos e2] at e'; have := (hl r (by omega)).1; omega
  · rw [if_neg e1, if_neg e2] at e'; exact h.nes r s (by omega) (by omega) e'
theorem sq2_lts {W : World} {base k i bp bq : Nat} {gp gq : Nat → Nat} {M N : Mtx} (h : Sq2 W base k i bp bq gp gq M N) : ∀ r, r < i → gp r < W.heap.size ∧ gq r < W.heap.size := fun r hr => ⟨(h.p.rows r hr).lt, (h.q.rows r hr).lt⟩
theorem sq_cells {W : World} {base k i b : Nat} {g : Nat → Nat} {M : Mtx} (h : Sq W base k i b g M) (hi : i ≤ k) (r : Nat) (hr : r < i) : W.cell? ⟨b, r, none⟩ = some (.slice (some ⟨g r, 0, none⟩) k k) := (h.sp.cell r).trans (spA_get k i g r hr hi)
theorem sq_cell {W : World} {base k i b : Nat} {g : Nat → Nat} {M : Mtx} (h : Sq W base k i b g M) (r : Nat) (hr : r < i) (c : Nat) (hc : c < k) : W.cell? ⟨g r, c, none⟩ = some (.int .u8 (M r c)) ∧ W.frozen? ⟨g r, c, none⟩ = false := ⟨((h.rows r hr).cell c).trans (rowA_get k (M r) c hc), (h.rows r hr).frozen c⟩
theorem sq_hole {W : World} {base k i b : Nat} {g : Nat → Nat} {M : Mtx} (h : Sq W base k i b g M) (hi : i < k) : W.cell? ⟨b, i, none⟩ = some (.slice none 0 0) ∧ W.frozen? ⟨b, i, none⟩ = false := by
  refine ⟨(h.sp.cell i).trans ?_, h.sp.frozen i⟩
  rw [spA_at, if_pos hi, if_neg (by omega)]
theorem alloc_setCell (w : World) (o : Obj) (p : Addr) (v : Value) (h : p.block < w.heap.size) : (w.setCell p v).alloc o = (w.alloc o).setCell p v := by
  unfold World.alloc World.setCell
  congr 1
  apply Array.ext
  · simp
  · intro i h1 h2
    by_cases e : i < w.heap.size
    · simp [Array.getElem_push, Array.getElem_modify, e]
    · have hi : i = w.heap.size := by simp at h1; omega
      have hp : ¬ p.block = i := by omega
      simp [Array.getElem_push, Array.getElem_modify, e, hp]
abbrev zO (k : Nat) : Obj := .cells (rowA k (fun _ => 0)) 5
theorem sq2_orders {wr : World} {base k i bp bq : Nat} {gp gq : Nat → Nat} (h : Sq2 wr base k i bp bq gp gq zM zM) (hi : i < k) (hb : base ≤ wr.heap.size) :
    (∃ gp' gq', Sq2 ((((wr.alloc (zO k)).alloc (zO k)).setCell ⟨bp, i, none⟩ (rowV k wr.heap.size)).setCell ⟨bq, i, none⟩ (rowV k (wr.heap.size + 1))).drew base k (i + 1) bp bq gp' gq' zM zM) ∧
    (∃ gp' gq', Sq2 ((((wr.alloc (zO k)).alloc (zO k)).setCell ⟨bp, i, none⟩ (rowV k (wr.heap.size + 1))).setCell ⟨bq, i, none⟩ (rowV k wr.heap.size)).drew base k (i + 1) bp bq gp' gq' zM zM) ∧
    (∃ gp' gq', Sq2 ((((wr.alloc (zO k)).setCell ⟨bp, i, none⟩ (rowV k wr.heap.size)).alloc (zO k)).setCell ⟨bq, i, none⟩ (rowV k (wr.heap.size + 1))).drew base k (i + 1) bp bq gp' gq' zM zM) := by
  have hbl : Below wr.heap.size wr ((wr.alloc (zO k)).alloc (zO k)) := ((Below.refl _ _).alloc (Nat.le_refl _) _).alloc (by simp) _
  have h2 := h.below hbl
  have b1 : Blk ((wr.alloc (zO k)).alloc (zO k)) wr.heap.size 5 (rowA k (fun _ => 0)) := (Blk.new wr _ _).alloc _
  have b2 : Blk ((wr.alloc (zO k)).alloc (zO k)) (wr.heap.size + 1) 5 (rowA k (fun _ => 0)) := by
    have := Blk.new (wr.alloc (zO k)) 5 (rowA k (fun _ => 0))
    rw [World.size_alloc] at this
    exact this
  have hA := sq2_more h2 hi hb (sq2_lts h) b1 b2 (Nat.le_refl _) (Nat.le_succ _) (by omega)
  have hB := sq2_more h2 hi hb (sq2_lts h) b2 b1 (Nat.le_succ _) (Nat.le_refl _) (by omega)
  refine ⟨⟨_, _, hA.below (Below.refl _ _).drew⟩, ⟨_, _, hB.below (Below.refl _ _).drew⟩, ?_⟩
  rw [alloc_setCell (wr.alloc (zO k)) (zO k) ⟨bp, i, none⟩ (rowV k wr.heap.size) (by have := h.p.sp.lt; simp; omega)]
  exact ⟨_, _, hA.below (Below.refl _ _).drew⟩
theorem sq2_holes {wr : World} {base k i bp bq : Nat} {gp gq : Nat → Nat} (h : Sq2 wr base k i bp bq gp gq zM zM) (hi : i < k) (v : Value) :
    let A := (wr.alloc (zO k)).alloc (zO k)
    let C := wr.alloc (zO k)
    (A.cell? ⟨bp, i, none⟩ = some (.slice none 0 0) ∧ A.frozen? ⟨bp, i, none⟩ = false) ∧ (C.cell? ⟨bp, i, none⟩ = some (.slice none 0 0) ∧ C.frozen? ⟨bp, i, none⟩ = false) ∧
    ((A.setCell ⟨bp, i, none⟩ v).cell? ⟨bq, i, none⟩ = some (.slice none 0 0) ∧ (A.setCell ⟨bp, i, none⟩ v).frozen? ⟨bq, i, none⟩ = false) ∧
    (((C.setCell ⟨bp, i, none⟩ v).alloc (zO k)).cell? ⟨bq, i, none⟩ = some (.slice none 0 0) ∧ ((C.setCell ⟨bp, i, none⟩ v).alloc (zO k)).frozen? ⟨bq, i, none⟩ = false) := by
  have hC : Below wr.heap.size wr (wr.alloc (zO k)) := (Below.refl _ _).alloc (Nat.le_refl _) _
  have hA : Below wr.heap.size wr ((wr.alloc (zO k)).alloc (zO k)) := hC.alloc (by simp) _
  have hq := sq_hole ((h.below hA).q) hi
  have hq2 : (((wr.alloc (zO k)).alloc (zO k)).setCell ⟨bp, i, none⟩ v).cell? ⟨bq, i, none⟩ = some (.slice none 0 0) ∧ (((wr.alloc (zO k)).alloc (zO k)).setCell ⟨bp, i, none⟩ v).frozen? ⟨bq, i, none⟩ = false := by
    have hs := (h.below hA).q.far (p := ⟨bp, i, none⟩) (fun e => h.ne e) (fun r hr e => h.p.sp.ne_ (h.q.rows r hr) (by decide) e) v
    exact sq_hole hs hi
  refine ⟨sq_hole ((h.below hA).p) hi, sq_hole ((h.below hC).p) hi, hq2, ?_⟩
  rw [alloc_setCell (wr.alloc (zO k)) (zO k) ⟨bp, i, none⟩ v (by have := h.p.sp.lt; simp; omega)]
  exact hq2
theorem sq2_below3 {w wr : World} {k i bp bq : Nat} (hb : Below w.heap.size w wr) (h1 : w.heap.size ≤ bp) (h2 : w.heap.size ≤ bq) (v u : Value) :
    Below w.heap.size w ((((wr.alloc (zO k)).alloc (zO k)).setCell ⟨bp, i, none⟩ v).setCell ⟨bq, i, none⟩ u).drew ∧ Below w.heap.size w ((((wr.alloc (zO k)).setCell ⟨bp, i, none⟩ v).alloc (zO k)).setCell ⟨bq, i, none⟩ u).drew :=
  ⟨((((hb.alloc hb.size _).alloc (by have := hb.size; simp; omega) _).setCell (p := ⟨bp, i, none⟩) h1 v).setCell (p := ⟨bq, i, none⟩) h2 u).drew, ((((hb.alloc hb.size _).setCell (p := ⟨bp, i, none⟩) h1 v).alloc (by have := hb.size; simp; omega) _).setCell (p := ⟨bq, i, none⟩) h2 u).drew⟩
set_option maxRecDepth 100000 in
set_option maxHeartbeats 8000000 in
theorem halves_any (v : Value) (n k c cx a : Nat) (A Ax : Option Addr) (s : Nat → Int) (h : Nat → Hd) (x : Nat → List Int) (X S1 S2 : Mtx) (w : World) (hc : IsCodeP w v n k) (k1 : 2 ≤ k) (k2 : k ≤ 8) (n2 : n ≤ 24) (ha : a = k - 1) (hp : PA w A k s h x) (hs : ∀ i, i < k → 0 ≤ s i ∧ s i < n)
    (hinj : ∀ i j, i < k → j < k → ptS n k s i = ptS n k s j → i = j) (hlam : ∀ i j, i < k → j < k → lamI a (ptS n k s) i = lamI a (ptS n k s) j → i = j) (hXC : Kd.C kRow w Ax k (mat k a X)) (hXb : BytM X) (hS1 : BytM S1) (hS2 : BytM S2)
    (sy1 : ∀ r u, r < a → u < a → S1 r u = S1 u r) (sy2 : ∀ r u, r < a → u < a → S2 r u = S2 u r) (hX : TwoX k a (ptS n k s) S1 S2 X) :
    Calls Try.prog 59 #[v, .slice A k c, .slice Ax k cx] w fun e w' => ∃ A1 c1 A2 c2, e = .returned (.tuple #[.slice A1 a c1, .slice A2 a c2]) ∧ RowsR w' w.heap.size (.slice A1 a c1) (mat a a S1) ∧ RowsR w' w.heap.size (.slice A2 a c2) (mat a a S2) ∧ Below w.heap.size w w' := by
  have MR := mk_rows k k2
  have MB := mk_bytes k k2
  have hc0 := Lib.hid hc
  obtain ⟨b, Ac, cc, rfl, hb, _⟩ := hc
  have y1 : w.cell? ⟨b, 1, none⟩ = some (.int .i64 k) := (hb.cell 1).trans rfl
  have HY := Lib.hid (fun W (hB : Below w.heap.size w W) => pw_cell_below hB y1)
  have HB0 := Lib.hid (show Below w.heap.size w w.drew from (Below.refl _ _).drew)
  have HPX := Lib.hid (fun W (hB : Below w.heap.size w W) => hp.below hB)
  have HX := Lib.hid (fun W (hB : Below w.heap.size w W) => Kd.C_below hXC hB)
  have HIN := Lib.hid hinj
  have HLA := Lib.hid hlam
  have HSS := Lib.hid hs
  have HS1 := Lib.hid (And.intro hS1 sy1)
  have HS2 := Lib.hid (And.intro hS2 sy2)
  have HXX := Lib.hid (And.intro hXb hX)
  have HA := Lib.hid ha
  have a1 : 1 ≤ a := by omega
  have a7 : a ≤ 7 := by omega
  obtain ⟨f, hf⟩ : ∃ f, f = ptS n k s := ⟨_, rfl⟩
  have hfb : ∀ i, f i < 256 := fun i => by rw [hf]; exact ptN_lt n k _
  rw [← hf] at HIN HLA HXX
  have HF := Lib.hid hf
  have HFB := Lib.hid hfb
  have SH := Lib.hid (fun W (hB : Below w.heap.size w W) i (hi : i < k) => show Calls Try.prog 71 #[.pointer (some ⟨b, 0, none⟩), .int .i64 (s i)] W fun e w' => ∃ A c, e = .returned (.slice A a c) ∧ Kd.R (Kd.int .u8) 5 w' W.heap.size (fun _ => True) (.slice A a c) (line a (powM f i)) ∧ Below W.heap.size W w' by
    have h0 := hs i hi
    have h1 := short_any _ n k (s i).toNat W (hc0.out.below hB) k1 k2 n2 (by omega)
    rw [show (((s i).toNat : Nat) : Int) = s i by omega] at h1
    rw [ha, hf]
    exact h1)
  have FC := Lib.hid (fun W (hB : Below w.heap.size w W) i (hi : i < k) => show Calls Try.prog 72 #[.pointer (some ⟨b, 0, none⟩), .int .i64 (s i)] W fun e w' => e = .returned (.int .u8 (lamI a f i)) ∧ ∃ q, w' = W.drewN q by
    have h0 := hs i hi
    have h1 := codefactor_any _ n k (s i).toNat W (hc0.out.below hB) k1 k2 n2 (by omega)
    rw [show (((s i).toNat : Nat) : Int) = s i by omega] at h1
    unfold lamI
    rw [ha, hf]
    exact h1)
  have DT := Lib.hid (fun W (hB : Below w.heap.size w W) i j (hi : i < k) c' A' c8 A8 (h1 : (Kd.int .u8).C W A' a (line a (X i))) (h2 : (Kd.int .u8).C W A8 a (line a (powM f j))) => show Calls Try.prog 70 #[.slice A' a c', .slice A8 a c8] W fun e w' => e = .returned (.int .u8 (avI a f X i j)) ∧ ∃ n, w' = W.drewN n from
    dot_line a c' c8 A' A8 (X i) (powM f j) W h1 h2 (fun q => hXb i q) (fun q => powM_byt hfb j q) a1 (by omega))
  have HPS := Lib.hid (fun W (hB : Below w.heap.size w W) i (hi : i < k) => show ∃ ad, A = some ad ∧ W.cell? (ad.add (i * 2)) = some (.int .i64 (s i)) by
    obtain ⟨ad, e, h1, _⟩ := (hp.below hB) i hi
    exact ⟨ad, e, h1⟩)
  obtain ⟨adA, rfl, _⟩ := HPS.out w (Below.refl _ _) 0 (by omega)
  obtain ⟨adX, _, _, rfl, _⟩ := mrow hXC 0 (by omega)
  have HXR := Lib.hid (fun i (hi : i < k) => show ∃ A0 c0, w.cell? (adX.add i) = some (.slice A0 a c0) ∧ (Kd.int .u8).C w A0 a (line a (X i)) by
    obtain ⟨ad, A0, c0, e, h1, _, h2⟩ := mrow hXC i hi
    injection e with e
    subst e
    exact ⟨A0, c0, h1, h2⟩)
  have HKA := Lib.hid (show k = a + 1 by omega)
  clear hb hp hXC hinj hlam hs hS1 sy1 hS2 sy2 hXb hX ha hf hfb HX
  go_enter Try.func59, Try.ntmps59
  go_upto_region 1 with (fail)
  have HP1 := Lib.hid (sq2_made k w zM zM)
  have HP2 := Lib.hid (sq2_swap (sq2_made k w zM zM))
  have HBe := Lib.hid (show Below w.heap.size w ((w.alloc (.cells (spA k 0 (fun _ => 0)) 22)).alloc (.cells (spA k 0 (fun _ => 0)) 22)).drew from ((((Below.refl _ _).alloc (Nat.le_refl _) _).alloc (by simp) _).drew))
  go_cut [8, 9] (fun pv qv wc => ∃ (bp bq : Nat) (gp gq : Nat → Nat), pv = rowV k bp ∧ qv = rowV k bq ∧ Hid (Sq2 wc w.heap.size k 0 bp bq gp gq zM zM) ∧ Hid (Below w.heap.size w wc))
  case first =>
    refine wp_region_noPanic ?_
    refine wp_region_held_drew (S := (fun W => W.cell? ⟨b, 1, none⟩ = some (.int .i64 k))) (by kernel_rfl) ?_ (fun hHeld => ?_)
    · ((try dsimp only); exact HY.out _ HB0.out)
    refine wpAnyH_take (i := 0) (oi := { dst := some 19, op := .move (.tmp 0), type := 25, pos := _, after := _, guard := none }) (v := ?_) rfl (by kernel_rfl) (by kernel_rfl) (by kernel_rfl) (fun _ _ _ h => h) (Or.inl ⟨by rfl, ?_⟩) (by assumption) ?_
    rotate_left 1
    · (intro w hSw; (try dsimp only at hSw); go_simp; try with_reducible rfl)
    try simp only [Act.put, List.setIfInBounds_toArray, List.set_cons_zero, List.set_cons_succ]
    refine wpAnyH_take (i := 1) (oi := { dst := some 20, op := .nilCheck (.tmp 19), type := 0, pos := _, after := _, guard := none }) (v := ?_) rfl (by kernel_rfl) (by kernel_rfl) (by kernel_rfl) (fun _ _ _ h => h) (Or.inl ⟨by rfl, ?_⟩) (by assumption) ?_
    rotate_left 1
    · (intro w hSw; (try dsimp only at hSw); go_simp; try with_reducible rfl)
    try simp only [Act.put, List.setIfInBounds_toArray, List.set_cons_zero, List.set_cons_succ]
    refine wpAnyH_take (i := 2) (oi := { dst := some 21, op := .fieldAddr 53 (.tmp 20) 1, type := 0, pos := _, after := _, guard := none }) (v := ?_) rfl (by kernel_rfl) (by kernel_rfl) (by kernel_rfl) (fun _ _ _ h => h) (Or.inl ⟨by rfl, ?_⟩) (by assumption) ?_
    rotate_left 1
    · (intro w hSw; (try dsimp only at hSw); go_simp; try with_reducible rfl)
    try simp only [Act.put, List.setIfInBounds_toArray, List.set_cons_zero, List.set_cons_succ]
    refine wpAnyH_take (i := 3) (oi := { dst := some 22, op := .load 3 (.tmp 21), type := 3, pos := _, after := _, guard := none }) (v := ?_) rfl (by kernel_rfl) (by kernel_rfl) (by kernel_rfl) (fun _ _ _ h => h) (Or.inl ⟨by rfl, ?_⟩) (by assumption) ?_
    rotate_left 1
    · (intro w hSw; (try dsimp only at hSw); go_simp; try with_reducible rfl)
    try simp only [Act.put, List.setIfInBounds_toArray, List.set_cons_zero, List.set_cons_succ]
    refine wpAnyH_take (i := 5) (oi := { dst := some 24, op := .move (.tmp 0), type := 25, pos := _, after := _, guard := none }) (v := ?_) rfl (by kernel_rfl) (by kernel_rfl) (by kernel_rfl) (fun _ _ _ h => h) (Or.inl ⟨by rfl, ?_⟩) (by assumption) ?_
    rotate_left 1
    · (intro w hSw; (try dsimp only at hSw); go_simp; try with_reducible rfl)
    try simp only [Act.put, List.setIfInBounds_toArray, List.set_cons_zero, List.set_cons_succ]
    refine wpAnyH_take (i := 6) (oi := { dst := some 25, op := .nilCheck (.tmp 24), type := 0, pos := _, after := _, guard := none }) (v := ?_) rfl (by kernel_rfl) (by kernel_rfl) (by kernel_rfl) (fun _ _ _ h => h) (Or.inl ⟨by rfl, ?_⟩) (by assumption) ?_
    rotate_left 1
    · (intro w hSw; (try dsimp only at hSw); go_simp; try with_reducible rfl)
    try simp only [Act.put, List.setIfInBounds_toArray, List.set_cons_zero, List.set_cons_succ]
    refine wpAnyH_take (i := 7) (oi := { dst := some 26, op := .fieldAddr 53 (.tmp 25) 1, type := 0, pos := _, after := _, guard := none }) (v := ?_) rfl (by kernel_rfl) (by kernel_rfl) (by kernel_rfl) (fun _ _ _ h => h) (Or.inl ⟨by rfl, ?_⟩) (by assumption) ?_
    rotate_left 1
    · (intro w hSw; (try dsimp only at hSw); go_simp; try with_reducible rfl)
    try simp only [Act.put, List.setIfInBounds_toArray, List.set_cons_zero, List.set_cons_succ]
    refine wpAnyH_take (i := 8) (oi := { dst := some 27, op := .load 3 (.tmp 26), type := 3, pos := _, after := _, guard := none }) (v := ?_) rfl (by kernel_rfl) (by kernel_rfl) (by kernel_rfl) (fun _ _ _ h => h) (Or.inl ⟨by rfl, ?_⟩) (by assumption) ?_
    rotate_left 1
    · (intro w hSw; (try dsimp only at hSw); go_simp; try with_reducible rfl)
    try simp only [Act.put, List.setIfInBounds_toArray, List.set_cons_zero, List.set_cons_succ]
    refine wpAnyH_ready (rs := [4, 9]) (by kernel_rfl) (by simp) ?_
    refine AllReadyH.cons (o := { dst := some 23, op := .makeSlice 39 (.tmp 22) (.tmp 22), type := 39, pos := _, after := _, guard := none }) rfl (fun K hK => ?_) ?_
    · rw [if_pos (by rfl)]; go_simp
      (try have HBx := Lib.hid (HB0.out.alloc HB0.out.size (.cells (spA k 0 (fun _ => 0)) 22)))
      clear hHeld
      refine hK.out _ _ ?_ (fun hHeld => ?_)
      · ((try dsimp only); (first | exact HY.out _ HBx.out | exact HY.out _ (HBx.out.alloc HBx.out.size _)))
      clear hK K
      refine wpAnyH_take (i := 10) (oi := { dst := some 8, op := .assign (.tmp 23), type := 39, pos := _, after := _, guard := none }) (v := ?_) rfl (by kernel_rfl) (by kernel_rfl) (by kernel_rfl) (fun _ _ _ h => h) (Or.inl ⟨by rfl, ?_⟩) (by assumption) ?_
      rotate_left 1
      · (intro w hSw; (try dsimp only at hSw); go_simp; try with_reducible rfl)
      try simp only [Act.put, List.setIfInBounds_toArray, List.set_cons_zero, List.set_cons_succ]
      refine wpAnyH_ready (rs := [9]) (by kernel_rfl) (by simp) ?_
      refine AllReadyH.cons (o := { dst := some 28, op := .makeSlice 39 (.tmp 27) (.tmp 27), type := 39, pos := _, after := _, guard := none }) rfl (fun K hK => ?_) AllReadyH.nil
      rw [if_pos (by rfl)]; go_simp
      (try have HBx := Lib.hid (HB0.out.alloc HB0.out.size (.cells (spA k 0 (fun _ => 0)) 22)))
      clear hHeld
      refine hK.out _ _ ?_ (fun hHeld => ?_)
      · ((try dsimp only); (first | exact HY.out _ HBx.out | exact HY.out _ (HBx.out.alloc HBx.out.size _)))
      clear hK K
      refine wpAnyH_take (i := 11) (oi := { dst := some 9, op := .assign (.tmp 28), type := 39, pos := _, after := _, guard := none }) (v := ?_) rfl (by kernel_rfl) (by kernel_rfl) (by kernel_rfl) (fun _ _ _ h => h) (Or.inl ⟨by rfl, ?_⟩) (by assumption) ?_
      rotate_left 1
      · (intro w hSw; (try dsimp only at hSw); go_simp; try with_reducible rfl)
      try simp only [Act.put, List.setIfInBounds_toArray, List.set_cons_zero, List.set_cons_succ]
      refine wpAnyH_done (by kernel_rfl) ?_ _
      refine NoPanic.normal ?_
      (go_wp2; go_meet; (case rel => first | exact ⟨w.heap.size, w.heap.size + 1, _, _, rfl, rfl, HP1, HBe⟩ | exact ⟨w.heap.size + 1, w.heap.size, _, _, rfl, rfl, HP2, HBe⟩))
    refine AllReadyH.cons (o := { dst := some 28, op := .makeSlice 39 (.tmp 27) (.tmp 27), type := 39, pos := _, after := _, guard := none }) rfl (fun K hK => ?_) AllReadyH.nil
    rw [if_pos (by rfl)]; go_simp
    (try have HBx := Lib.hid (HB0.out.alloc HB0.out.size (.cells (spA k 0 (fun _ => 0)) 22)))
    clear hHeld
    refine hK.out _ _ ?_ (fun hHeld => ?_)
    · ((try dsimp only); (first | exact HY.out _ HBx.out | exact HY.out _ (HBx.out.alloc HBx.out.size _)))
    clear hK K
    refine wpAnyH_ready (rs := [4]) (by kernel_rfl) (by simp) ?_
    refine AllReadyH.cons (o := { dst := some 23, op := .makeSlice 39 (.tmp 22) (.tmp 22), type := 39, pos := _, after := _, guard := none }) rfl (fun K hK => ?_) AllReadyH.nil
    rw [if_pos (by rfl)]; go_simp
    (try have HBx := Lib.hid (HB0.out.alloc HB0.out.size (.cells (spA k 0 (fun _ => 0)) 22)))
    clear hHeld
    refine hK.out _ _ ?_ (fun hHeld => ?_)
    · ((try dsimp only); (first | exact HY.out _ HBx.out | exact HY.out _ (HBx.out.alloc HBx.out.size _)))
    clear hK K
    refine wpAnyH_take (i := 10) (oi := { dst := some 8, op := .assign (.tmp 23), type := 39, pos := _, after := _, guard := none }) (v := ?_) rfl (by kernel_rfl) (by kernel_rfl) (by kernel_rfl) (fun _ _ _ h => h) (Or.inl ⟨by rfl, ?_⟩) (by assumption) ?_
    rotate_left 1
    · (intro w hSw; (try dsimp only at hSw); go_simp; try with_reducible rfl)
    try simp only [Act.put, List.setIfInBounds_toArray, List.set_cons_zero, List.set_cons_succ]
    refine wpAnyH_take (i := 11) (oi := { dst := some 9, op := .assign (.tmp 28), type := 39, pos := _, after := _, guard := none }) (v := ?_) rfl (by kernel_rfl) (by kernel_rfl) (by kernel_rfl) (fun _ _ _ h => h) (Or.inl ⟨by rfl, ?_⟩) (by assumption) ?_
    rotate_left 1
    · (intro w hSw; (try dsimp only at hSw); go_simp; try with_reducible rfl)
    try simp only [Act.put, List.setIfInBounds_toArray, List.set_cons_zero, List.set_cons_succ]
    refine wpAnyH_done (by kernel_rfl) ?_ _
    refine NoPanic.normal ?_
    (go_wp2; go_meet; (case rel => first | exact ⟨w.heap.size, w.heap.size + 1, _, _, rfl, rfl, HP1, HBe⟩ | exact ⟨w.heap.size + 1, w.heap.size, _, _, rfl, rfl, HP2, HBe⟩))
  case rest =>
    clear HP1 HP2 HBe HB0
    obtain ⟨bp, bq, gp0, gq0, rfl, rfl, HQ0, HB0⟩ := hcut
    simp only [rowV]
    go_upto_region 3 with (fail)
    go_loopw [10, 31] (fun _ iv wr => ∃ (i : Nat) (gp gq : Nat → Nat), i ≤ k ∧ iv = .int .i64 i ∧ Hid (Sq2 wr w.heap.size k i bp bq gp gq zM zM) ∧ Hid (Below w.heap.size w wr)) (fun _ iv _ => k - (intOf iv).toNat)
    case atStart => exact ⟨0, _, _, by omega, rfl, HQ0, HB0⟩
    case round =>
      clear HQ0 HB0
      obtain ⟨i, gp, gq, hi, rfl, HQ, HB⟩ := hrel
      by_cases hlt : i < k
      · have g1 : (i : Int) < (k : Int) := by omega
        have g2 : (0 : Int) ≤ (i : Int) := by omega
        go_upto_region 5 with (fail)
        have HZ := Lib.hid (show Below w.heap.size w wr.drew from HB.out.drew)
        obtain ⟨HQA, HQB, HQC⟩ : (Hid _ ∧ Hid _ ∧ Hid _) := ⟨Lib.hid (sq2_orders HQ.out hlt HB.out.size).1, Lib.hid (sq2_orders HQ.out hlt HB.out.size).2.1, Lib.hid (sq2_orders HQ.out hlt HB.out.size).2.2⟩
        have HBB := Lib.hid (fun v u => sq2_below3 (k := k) (i := i) HB.out HQ.out.p.lo HQ.out.q.lo v u)
        have HHO := Lib.hid (fun v => sq2_holes HQ.out hlt v)
        obtain ⟨⟨c1, c2⟩, ⟨c3, c4⟩, _⟩ := HHO.out (rowV k 0)
        obtain ⟨_, _, ⟨d1, d2⟩, ⟨d3, d4⟩⟩ := HHO.out (rowV k wr.heap.size)
        obtain ⟨_, _, ⟨e1, e2⟩, ⟨e3, e4⟩⟩ := HHO.out (rowV k (wr.heap.size + 1))
        simp only [rowV] at d1 d2 d3 d4 e1 e2 e3 e4
        refine wp_region_noPanic ?_
        refine wp_region_held_drew (S := (fun W => W.cell? ⟨b, 1, none⟩ = some (.int .i64 k))) (by kernel_rfl) ?_ (fun hHeld => ?_)
        · ((try dsimp only); exact HY.out _ HZ.out)
        refine wpAnyH_take (i := 0) (oi := { dst := some 34, op := .move (.tmp 8), type := 39, pos := _, after := _, guard := none }) (v := ?_) rfl (by kernel_rfl) (by kernel_rfl) (by kernel_rfl) (fun _ _ _ h => h) (Or.inl ⟨by rfl, ?_⟩) (by assumption) ?_
        rotate_left 1
        · (intro w hSw; (try dsimp only at hSw); go_simp; try with_reducible rfl)
        try simp only [Act.put, List.setIfInBounds_toArray, List.set_cons_zero, List.set_cons_succ]
        refine wpAnyH_take (i := 1) (oi := { dst := some 35, op := .move (.tmp 10), type := 3, pos := _, after := _, guard := none }) (v := ?_) rfl (by kernel_rfl) (by kernel_rfl) (by kernel_rfl) (fun _ _ _ h => h) (Or.inl ⟨by rfl, ?_⟩) (by assumption) ?_
        rotate_left 1
        · (intro w hSw; (try dsimp only at hSw); go_simp; try with_reducible rfl)
        try simp only [Act.put, List.setIfInBounds_toArray, List.set_cons_zero, List.set_cons_succ]
        refine wpAnyH_take (i := 2) (oi := { dst := some 36, op := .move (.tmp 9), type := 39, pos := _, after := _, guard := none }) (v := ?_) rfl (by kernel_rfl) (by kernel_rfl) (by kernel_rfl) (fun _ _ _ h => h) (Or.inl ⟨by rfl, ?_⟩) (by assumption) ?_
        rotate_left 1
        · (intro w hSw; (try dsimp only at hSw); go_simp; try with_reducible rfl)
        try simp only [Act.put, List.setIfInBounds_toArray, List.set_cons_zero, List.set_cons_succ]
        refine wpAnyH_take (i := 3) (oi := { dst := some 37, op := .move (.tmp 10), type := 3, pos := _, after := _, guard := none }) (v := ?_) rfl (by kernel_rfl) (by kernel_rfl) (by kernel_rfl) (fun _ _ _ h => h) (Or.inl ⟨by rfl, ?_⟩) (by assumption) ?_
        rotate_left 1
        · (intro w hSw; (try dsimp only at hSw); go_simp; try with_reducible rfl)
        try simp only [Act.put, List.setIfInBounds_toArray, List.set_cons_zero, List.set_cons_succ]
        refine wpAnyH_take (i := 4) (oi := { dst := some 38, op := .move (.tmp 0), type := 25, pos := _, after := _, guard := none }) (v := ?_) rfl (by kernel_rfl) (by kernel_rfl) (by kernel_rfl) (fun _ _ _ h => h) (Or.inl ⟨by rfl, ?_⟩) (by assumption) ?_
        rotate_left 1
        · (intro w hSw; (try dsimp only at hSw); go_simp; try with_reducible rfl)
        try simp only [Act.put, List.setIfInBounds_toArray, List.set_cons_zero, List.set_cons_succ]
        refine wpAnyH_take (i := 5) (oi := { dst := some 39, op := .nilCheck (.tmp 38), type := 0, pos := _, after := _, guard := none }) (v := ?_) rfl (by kernel_rfl) (by kernel_rfl) (by kernel_rfl) (fun _ _ _ h => h) (Or.inl ⟨by rfl, ?_⟩) (by assumption) ?_
        rotate_left 1
        · (intro w hSw; (try dsimp only at hSw); go_simp; try with_reducible rfl)
        try simp only [Act.put, List.setIfInBounds_toArray, List.set_cons_zero, List.set_cons_succ]
        refine wpAnyH_take (i := 6) (oi := { dst := some 40, op := .fieldAddr 53 (.tmp 39) 1, type := 0, pos := _, after := _, guard := none }) (v := ?_) rfl (by kernel_rfl) (by kernel_rfl) (by kernel_rfl) (fun _ _ _ h => h) (Or.inl ⟨by rfl, ?_⟩) (by assumption) ?_
        rotate_left 1
        · (intro w hSw; (try dsimp only at hSw); go_simp; try with_reducible rfl)
        try simp only [Act.put, List.setIfInBounds_toArray, List.set_cons_zero, List.set_cons_succ]
        refine wpAnyH_take (i := 7) (oi := { dst := some 41, op := .load 3 (.tmp 40), type := 3, pos := _, after := _, guard := none }) (v := ?_) rfl (by kernel_rfl) (by kernel_rfl) (by kernel_rfl) (fun _ _ _ h => h) (Or.inl ⟨by rfl, ?_⟩) (by assumption) ?_
        rotate_left 1
        · (intro w hSw; (try dsimp only at hSw); go_simp; try with_reducible rfl)
        try simp only [Act.put, List.setIfInBounds_toArray, List.set_cons_zero, List.set_cons_succ]
        refine wpAnyH_take (i := 9) (oi := { dst := some 43, op := .move (.tmp 0), type := 25, pos := _, after := _, guard := none }) (v := ?_) rfl (by kernel_rfl) (by kernel_rfl) (by kernel_rfl) (fun _ _ _ h => h) (Or.inl ⟨by rfl, ?_⟩) (by assumption) ?_
        rotate_left 1
        · (intro w hSw; (try dsimp only at hSw); go_simp; try with_reducible rfl)
        try simp only [Act.put, List.setIfInBounds_toArray, List.set_cons_zero, List.set_cons_succ]
        refine wpAnyH_take (i := 10) (oi := { dst := some 44, op := .nilCheck (.tmp 43), type := 0, pos := _, after := _, guard := none }) (v := ?_) rfl (by kernel_rfl) (by kernel_rfl) (by kernel_rfl) (fun _ _ _ h => h) (Or.inl ⟨by rfl, ?_⟩) (by assumption) ?_
        rotate_left 1
        · (intro w hSw; (try dsimp only at hSw); go_simp; try with_reducible rfl)
        try simp only [Act.put, List.setIfInBounds_toArray, List.set_cons_zero, List.set_cons_succ]
        refine wpAnyH_take (i := 11) (oi := { dst := some 45, op := .fieldAddr 53 (.tmp 44) 1, type := 0, pos := _, after := _, guard := none }) (v := ?_) rfl (by kernel_rfl) (by kernel_rfl) (by kernel_rfl) (fun _ _ _ h => h) (Or.inl ⟨by rfl, ?_⟩) (by assumption) ?_
        rotate_left 1
        · (intro w hSw; (try dsimp only at hSw); go_simp; try with_reducible rfl)
        try simp only [Act.put, List.setIfInBounds_toArray, List.set_cons_zero, List.set_cons_succ]
        refine wpAnyH_take (i := 12) (oi := { dst := some 46, op := .load 3 (.tmp 45), type := 3, pos := _, after := _, guard := none }) (v := ?_) rfl (by kernel_rfl) (by kernel_rfl) (by kernel_rfl) (fun _ _ _ h => h) (Or.inl ⟨by rfl, ?_⟩) (by assumption) ?_
        rotate_left 1
        · (intro w hSw; (try dsimp only at hSw); go_simp; try with_reducible rfl)
        try simp only [Act.put, List.setIfInBounds_toArray, List.set_cons_zero, List.set_cons_succ]
        refine wpAnyH_ready (rs := [8, 13]) (by kernel_rfl) (by simp) ?_
        refine AllReadyH.cons (o := { dst := some 42, op := .makeSlice 22 (.tmp 41) (.tmp 41), type := 22, pos := _, after := _, guard := none }) rfl (fun K hK => ?_) ?_
        · rw [if_pos (by rfl)]; go_simp
          replace HZ := Lib.hid (HZ.out.alloc HZ.out.size (.cells (rowA k (fun _ => 0)) 5))
          clear hHeld
          refine hK.out _ _ ?_ (fun hHeld => ?_)
          · ((try dsimp only); exact HY.out _ HZ.out)
          clear hK K
          refine wpAnyH_take (i := 14) (oi := { dst := some 48, op := .indexAddr 39 (.tmp 34) (.tmp 35), type := 0, pos := _, after := _, guard := none }) (v := ?_) rfl (by kernel_rfl) (by kernel_rfl) (by kernel_rfl) (fun _ _ _ h => h) (Or.inl ⟨by rfl, ?_⟩) (by assumption) ?_
          rotate_left 1
          · (intro w hSw; (try dsimp only at hSw); go_simp; try with_reducible rfl)
          try simp only [Act.put, List.setIfInBounds_toArray, List.set_cons_zero, List.set_cons_succ]
          refine wpAnyH_ready (rs := [13, 15]) (by kernel_rfl) (by simp) ?_
          refine AllReadyH.cons (o := { dst := some 47, op := .makeSlice 22 (.tmp 46) (.tmp 46), type := 22, pos := _, after := _, guard := none }) rfl (fun K hK => ?_) ?_
          · rw [if_pos (by rfl)]; go_simp
            first | replace HZ := Lib.hid (HZ.out.alloc HZ.out.size (.cells (rowA k (fun _ => 0)) 5)) | replace HZ := Lib.hid ((HZ.out (rowV k wr.heap.size)).alloc (HZ.out (rowV k wr.heap.size)).size (.cells (rowA k (fun _ => 0)) 5))
            clear hHeld
            refine hK.out _ _ ?_ (fun hHeld => ?_)
            · ((try dsimp only); exact HY.out _ HZ.out)
            clear hK K
            refine wpAnyH_ready (rs := [15]) (by kernel_rfl) (by simp) ?_
            refine AllReadyH.cons (o := { dst := none, op := .store 22 (.tmp 48) (.tmp 42), type := 0, pos := _, after := _, guard := none }) rfl (fun K hK => ?_) AllReadyH.nil
            go_simp
            have HZ := Lib.hid (fun v => HZ.out.setCell (p := ⟨bp, i, none⟩) HQ.out.p.lo v)
            clear hHeld
            refine hK.out _ _ ?_ (fun hHeld => ?_)
            · ((try dsimp only); exact HY.out _ (HZ.out _))
            clear hK K
            refine wpAnyH_take (i := 16) (oi := { dst := some 49, op := .indexAddr 39 (.tmp 36) (.tmp 37), type := 0, pos := _, after := _, guard := none }) (v := ?_) rfl (by kernel_rfl) (by kernel_rfl) (by kernel_rfl) (fun _ _ _ h => h) (Or.inl ⟨by rfl, ?_⟩) (by assumption) ?_
            rotate_left 1
            · (intro w hSw; (try dsimp only at hSw); go_simp; try with_reducible rfl)
            try simp only [Act.put, List.setIfInBounds_toArray, List.set_cons_zero, List.set_cons_succ]
            refine wpAnyH_ready (rs := [17]) (by kernel_rfl) (by simp) ?_
            refine AllReadyH.cons (o := { dst := none, op := .store 22 (.tmp 49) (.tmp 47), type := 0, pos := _, after := _, guard := none }) rfl (fun K hK => ?_) AllReadyH.nil
            go_simp
            clear hHeld
            refine hK.out _ _ ?_ (fun hHeld => ?_)
            · ((try dsimp only); (first | exact HY.out _ (HBB.out _ _).1 | exact HY.out _ (HBB.out _ _).2))
            clear hK K
            refine wpAnyH_done (by kernel_rfl) ?_ _
            refine NoPanic.normal ?_
            (go_wp2; go_roundw; (case rel => first | (obtain ⟨q1, q2, hq⟩ := HQA.out; exact ⟨i + 1, q1, q2, by omega, by go_num, Lib.hid hq, Lib.hid (HBB.out _ _).1⟩) | (obtain ⟨q1, q2, hq⟩ := HQB.out; exact ⟨i + 1, q1, q2, by omega, by go_num, Lib.hid hq, Lib.hid (HBB.out _ _).1⟩) | (obtain ⟨q1, q2, hq⟩ := HQC.out; exact ⟨i + 1, q1, q2, by omega, by go_num, Lib.hid hq, Lib.hid (HBB.out _ _).2⟩)); (case measure => simp [intOf]; omega))
          refine AllReadyH.cons (o := { dst := none, op := .store 22 (.tmp 48) (.tmp 42), type := 0, pos := _, after := _, guard := none }) rfl (fun K hK => ?_) AllReadyH.nil
          go_simp
          have HZ := Lib.hid (fun v => HZ.out.setCell (p := ⟨bp, i, none⟩) HQ.out.p.lo v)
          clear hHeld
          refine hK.out _ _ ?_ (fun hHeld => ?_)
          · ((try dsimp only); exact HY.out _ (HZ.out _))
          clear hK K
          refine wpAnyH_ready (rs := [13]) (by kernel_rfl) (by simp) ?_
          refine AllReadyH.cons (o := { dst := some 47, op := .makeSlice 22 (.tmp 46) (.tmp 46), type := 22, pos := _, after := _, guard := none }) rfl (fun K hK => ?_) AllReadyH.nil
          rw [if_pos (by rfl)]; go_simp
          first | replace HZ := Lib.hid (HZ.out.alloc HZ.out.size (.cells (rowA k (fun _ => 0)) 5)) | replace HZ := Lib.hid ((HZ.out (rowV k wr.heap.size)).alloc (HZ.out (rowV k wr.heap.size)).size (.cells (rowA k (fun _ => 0)) 5))
          clear hHeld
          refine hK.out _ _ ?_ (fun hHeld => ?_)
          · ((try dsimp only); exact HY.out _ HZ.out)
          clear hK K
          refine wpAnyH_take (i := 16) (oi := { dst := some 49, op := .indexAddr 39 (.tmp 36) (.tmp 37), type := 0, pos := _, after := _, guard := none }) (v := ?_) rfl (by kernel_rfl) (by kernel_rfl) (by kernel_rfl) (fun _ _ _ h => h) (Or.inl ⟨by rfl, ?_⟩) (by assumption) ?_
          rotate_left 1
          · (intro w hSw; (try dsimp only at hSw); go_simp; try with_reducible rfl)
          try simp only [Act.put, List.setIfInBounds_toArray, List.set_cons_zero, List.set_cons_succ]
          refine wpAnyH_ready (rs := [17]) (by kernel_rfl) (by simp) ?_
          refine AllReadyH.cons (o := { dst := none, op := .store 22 (.tmp 49) (.tmp 47), type := 0, pos := _, after := _, guard := none }) rfl (fun K hK => ?_) AllReadyH.nil
          go_simp
          clear hHeld
          refine hK.out _ _ ?_ (fun hHeld => ?_)
          · ((try dsimp only); (first | exact HY.out _ (HBB.out _ _).1 | exact HY.out _ (HBB.out _ _).2))
          clear hK K
          refine wpAnyH_done (by kernel_rfl) ?_ _
          refine NoPanic.normal ?_
          (go_wp2; go_roundw; (case rel => first | (obtain ⟨q1, q2, hq⟩ := HQA.out; exact ⟨i + 1, q1, q2, by omega, by go_num, Lib.hid hq, Lib.hid (HBB.out _ _).1⟩) | (obtain ⟨q1, q2, hq⟩ := HQB.out; exact ⟨i + 1, q1, q2, by omega, by go_num, Lib.hid hq, Lib.hid (HBB.out _ _).1⟩) | (obtain ⟨q1, q2, hq⟩ := HQC.out; exact ⟨i + 1, q1, q2, by omega, by go_num, Lib.hid hq, Lib.hid (HBB.out _ _).2⟩)); (case measure => simp [intOf]; omega))
        refine AllReadyH.cons (o := { dst := some 47, op := .makeSlice 22 (.tmp 46) (.tmp 46), type := 22, pos := _, after := _, guard := none }) rfl (fun K hK => ?_) AllReadyH.nil
        rw [if_pos (by rfl)]; go_simp
        first | replace HZ := Lib.hid (HZ.out.alloc HZ.out.size (.cells (rowA k (fun _ => 0)) 5)) | replace HZ := Lib.hid ((HZ.out (rowV k wr.heap.size)).alloc (HZ.out (rowV k wr.heap.size)).size (.cells (rowA k (fun _ => 0)) 5))
        clear hHeld
        refine hK.out _ _ ?_ (fun hHeld => ?_)
        · ((try dsimp only); exact HY.out _ HZ.out)
        clear hK K
        refine wpAnyH_ready (rs := [8]) (by kernel_rfl) (by simp) ?_
        refine AllReadyH.cons (o := { dst := some 42, op := .makeSlice 22 (.tmp 41) (.tmp 41), type := 22, pos := _, after := _, guard := none }) rfl (fun K hK => ?_) AllReadyH.nil
        rw [if_pos (by rfl)]; go_simp
        replace HZ := Lib.hid (HZ.out.alloc HZ.out.size (.cells (rowA k (fun _ => 0)) 5))
        clear hHeld
        refine hK.out _ _ ?_ (fun hHeld => ?_)
        · ((try dsimp only); exact HY.out _ HZ.out)
        clear hK K
        refine wpAnyH_take (i := 14) (oi := { dst := some 48, op := .indexAddr 39 (.tmp 34) (.tmp 35), type := 0, pos := _, after := _, guard := none }) (v := ?_) rfl (by kernel_rfl) (by kernel_rfl) (by kernel_rfl) (fun _ _ _ h => h) (Or.inl ⟨by rfl, ?_⟩) (by assumption) ?_
        rotate_left 1
        · (intro w hSw; (try dsimp only at hSw); go_simp; try with_reducible rfl)
        try simp only [Act.put, List.setIfInBounds_toArray, List.set_cons_zero, List.set_cons_succ]
        refine wpAnyH_ready (rs := [15]) (by kernel_rfl) (by simp) ?_
        refine AllReadyH.cons (o := { dst := none, op := .store 22 (.tmp 48) (.tmp 42), type := 0, pos := _, after := _, guard := none }) rfl (fun K hK => ?_) AllReadyH.nil
        go_simp
        have HZ := Lib.hid (fun v => HZ.out.setCell (p := ⟨bp, i, none⟩) HQ.out.p.lo v)
        clear hHeld
        refine hK.out _ _ ?_ (fun hHeld => ?_)
        · ((try dsimp only); exact HY.out _ (HZ.out _))
        clear hK K
        refine wpAnyH_take (i := 16) (oi := { dst := some 49, op := .indexAddr 39 (.tmp 36) (.tmp 37), type := 0, pos := _, after := _, guard := none }) (v := ?_) rfl (by kernel_rfl) (by kernel_rfl) (by kernel_rfl) (fun _ _ _ h => h) (Or.inl ⟨by rfl, ?_⟩) (by assumption) ?_
        rotate_left 1
        · (intro w hSw; (try dsimp only at hSw); go_simp; try with_reducible rfl)
        try simp only [Act.put, List.setIfInBounds_toArray, List.set_cons_zero, List.set_cons_succ]
        refine wpAnyH_ready (rs := [17]) (by kernel_rfl) (by simp) ?_
        refine AllReadyH.cons (o := { dst := none, op := .store 22 (.tmp 49) (.tmp 47), type := 0, pos := _, after := _, guard := none }) rfl (fun K hK => ?_) AllReadyH.nil
        go_simp
        clear hHeld
        refine hK.out _ _ ?_ (fun hHeld => ?_)
        · ((try dsimp only); (first | exact HY.out _ (HBB.out _ _).1 | exact HY.out _ (HBB.out _ _).2))
        clear hK K
        refine wpAnyH_done (by kernel_rfl) ?_ _
        refine NoPanic.normal ?_
        (go_wp2; go_roundw; (case rel => first | (obtain ⟨q1, q2, hq⟩ := HQA.out; exact ⟨i + 1, q1, q2, by omega, by go_num, Lib.hid hq, Lib.hid (HBB.out _ _).1⟩) | (obtain ⟨q1, q2, hq⟩ := HQB.out; exact ⟨i + 1, q1, q2, by omega, by go_num, Lib.hid hq, Lib.hid (HBB.out _ _).1⟩) | (obtain ⟨q1, q2, hq⟩ := HQC.out; exact ⟨i + 1, q1, q2, by omega, by go_num, Lib.hid hq, Lib.hid (HBB.out _ _).2⟩)); (case measure => simp [intOf]; omega))
      · obtain rfl : k = i := by omega
        obtain ⟨x2, hx2⟩ : ∃ x2, x2 = wr := ⟨_, rfl⟩
        have HQ0 := Lib.hid (show Sq2 wr w.heap.size k k bp bq gp gq zM zM from HQ.out)
        have HB0 := Lib.hid (show Below w.heap.size w wr from HB.out)
        clear HQ HB hx2 x2
        go_upto_region 8 with (fail)
        go_loopw [11, 12, 13, 14, 15, 16, 17, 18, 53] (fun _ _ _ _ _ _ _ _ iv wr => ∃ (i : Nat) (M N : Mtx), i ≤ k ∧ iv = .int .i64 i ∧ Hid (Dn k (twoS a f S1) M i 0 ∧ BytM M) ∧ Hid (Dn k (twoS a f S2) N i 0 ∧ BytM N) ∧ Hid (Sq2 wr w.heap.size k k bp bq gp gq M N) ∧ Hid (Below w.heap.size w wr)) (fun _ _ _ _ _ _ _ _ iv _ => k - (intOf iv).toNat)
        case atStart => exact ⟨0, _, _, by omega, rfl, Lib.hid ⟨Dn.start _ _ _, zM_byt⟩, Lib.hid ⟨Dn.start _ _ _, zM_byt⟩, HQ0, HB0⟩
        case round =>
          clear HQ0 HB0
          obtain ⟨i, M, N, hi, rfl, HM, HN, HQ, HB⟩ := hrel
          by_cases hlt : i < k
          · have g1 : (i : Int) < (k : Int) := by omega
            have g2 : (0 : Int) ≤ (i : Int) := by omega
            go_upto_region 11 with (fail)
            go_loopw [12, 13, 14, 15, 16, 17, 18, 57] (fun _ _ _ _ _ _ _ jv wr => ∃ (j : Nat) (M N : Mtx), j ≤ i ∧ jv = .int .i64 j ∧ Hid (Dn k (twoS a f S1) M i j ∧ BytM M) ∧ Hid (Dn k (twoS a f S2) N i j ∧ BytM N) ∧ Hid (Sq2 wr w.heap.size k k bp bq gp gq M N) ∧ Hid (Below w.heap.size w wr)) (fun _ _ _ _ _ _ _ jv _ => i - (intOf jv).toNat)
            case atStart => exact ⟨0, M, N, by omega, rfl, HM, HN, HQ, HB⟩
            case round =>
              clear HM HN HQ HB M N
              obtain ⟨j, M, N, hj, rfl, HM, HN, HQ, HB⟩ := hrel
              by_cases hji : j < i
              · have g3 : (j : Int) < (i : Int) := by omega
                have g4 : (0 : Int) ≤ (j : Int) := by omega
                have g5 : (j : Int) < (k : Int) := by omega
                have hik : i < k := by omega
                have hjk : j < k := by omega
                have g6 : (i : Int) < (k : Int) := by omega
                obtain ⟨A3, c3, kx3, kr3⟩ := HXR.out i hik
                obtain ⟨A4, c4, kx4, kr4⟩ := HXR.out j hjk
                obtain ⟨ad, e, ks3⟩ := HPS.out w (Below.refl _ _) i hik
                injection e with e
                subst e
                obtain ⟨ad, e, ks4⟩ := HPS.out w (Below.refl _ _) j hjk
                injection e with e
                subst e
                obtain ⟨si, hsi⟩ : ∃ si, si = s i := ⟨_, rfl⟩
                obtain ⟨sj, hsj⟩ : ∃ sj, sj = s j := ⟨_, rfl⟩
                have SHi := Lib.hid (fun W hB => SH.out W hB i hik)
                have SHj := Lib.hid (fun W hB => SH.out W hB j hjk)
                have FCi := Lib.hid (fun W hB => FC.out W hB i hik)
                have FCj := Lib.hid (fun W hB => FC.out W hB j hjk)
                rw [← hsi] at ks3 SHi FCi
                rw [← hsj] at ks4 SHj FCj
                have DTi := Lib.hid (fun W (hB : Below w.heap.size w W) c8 A8 h2 => DT.out W hB i j hik c3 A3 c8 A8 (Kd.C_below kr3 hB) h2)
                have DTj := Lib.hid (fun W (hB : Below w.heap.size w W) c8 A8 h2 => DT.out W hB j i hjk c4 A4 c8 A8 (Kd.C_below kr4 hB) h2)
                have KK := Lib.hid (fun W (hB : Below w.heap.size w W) => (⟨pw_cell_below hB kx3, pw_cell_below hB kx4, pw_cell_below hB ks3, pw_cell_below hB ks4⟩ : W.cell? (adX.add i) = some (.slice A3 a c3) ∧ W.cell? (adX.add j) = some (.slice A4 a c4) ∧ W.cell? (adA.add (i * 2)) = some (.int .i64 si) ∧ W.cell? (adA.add (j * 2)) = some (.int .i64 sj)))
                have hdv := half_div HFB.out HXX.out.2 HS1.out.2 HS2.out.2 i j hik hjk
                have hpp := half_p HFB.out HXX.out.2 i j hik
                have hlne : xorI (lamI a f i) (lamI a f j) ≠ 0 := xor_ne (lamI_byt HFB.out i) (lamI_byt HFB.out j) (fun e => by have := HLA.out i j hik hjk e; omega)
                obtain ⟨av, hav⟩ : ∃ av, av = avI a f X i j := ⟨_, rfl⟩
                obtain ⟨bv, hbv⟩ : ∃ bv, bv = avI a f X j i := ⟨_, rfl⟩
                obtain ⟨li, hli⟩ : ∃ li, li = lamI a f i := ⟨_, rfl⟩
                obtain ⟨lj, hlj⟩ : ∃ lj, lj = lamI a f j := ⟨_, rfl⟩
                obtain ⟨y, hy⟩ : ∃ y, y = twoS a f S2 i j := ⟨_, rfl⟩
                obtain ⟨z, hz⟩ : ∃ z, z = twoS a f S1 i j := ⟨_, rfl⟩
                have BV := Lib.hid (show Byt av ∧ Byt bv ∧ Byt li ∧ Byt lj ∧ Byt y ∧ Byt z by rw [hav, hbv, hli, hlj, hy, hz]; exact ⟨avI_byt _ _ _ _ _, avI_byt _ _ _ _ _, lamI_byt HFB.out _, lamI_byt HFB.out _, twoS_byt _ _ _ _ _, twoS_byt _ _ _ _ _⟩)
                rw [← hav, ← hbv, ← hli, ← hlj, ← hy] at hdv
                rw [← hav, ← hli, ← hy, ← hz] at hpp
                rw [← hli, ← hlj] at hlne
                rw [← hav] at DTi
                rw [← hbv] at DTj
                rw [← hli] at FCi
                rw [← hlj] at FCj
                have HY2 := Lib.hid hy
                have HZ2 := Lib.hid hz
                have ADa := Lib.hid (fun W => show Calls Try.prog 25 #[.int .u8 av, .int .u8 bv] W fun e w' => e = .returned (.int .u8 (gmI y (xorI li lj))) ∧ w' = W by rw [← hdv]; exact add_still av bv W BV.out.1 BV.out.2.1)
                have ADb := Lib.hid (fun W => add_still li lj W BV.out.2.2.1 BV.out.2.2.2.1)
                have DV := Lib.hid (fun W => div_is y (xorI li lj) BV.out.2.2.2.2.1 (xorI_byt BV.out.2.2.1 BV.out.2.2.2.1) hlne W)
                have ML := Lib.hid (fun W => mul_still li y W BV.out.2.2.1 BV.out.2.2.2.2.1)
                have ADc := Lib.hid (fun W => show Calls Try.prog 25 #[.int .u8 av, .int .u8 (gmI li y)] W fun e w' => e = .returned (.int .u8 z) ∧ w' = W by rw [← hpp]; exact add_still av (gmI li y) W BV.out.1 (gmI_byt BV.out.2.2.1))
                obtain ⟨gy, hgy⟩ : ∃ gy, gy = gmI li y := ⟨_, rfl⟩
                obtain ⟨xl, hxl⟩ : ∃ xl, xl = xorI li lj := ⟨_, rfl⟩
                obtain ⟨gd, hgd⟩ : ∃ gd, gd = gmI y xl := ⟨_, rfl⟩
                rw [← hgy] at ML ADc
                rw [← hxl] at ADa ADb DV
                rw [← hgd] at ADa DV
                clear hav hbv hli hlj hy hz hdv hpp hlne hsi hsj kx3 kx4 kr3 kr4 ks3 ks4 hgy hxl hgd hik hjk
                go_upto_region 13 with (fail)
                have HZ := Lib.hid (show Below w.heap.size w wr.drew from HB.out.drew)
                have HQZ := Lib.hid (show Sq2 wr.drew w.heap.size k k bp bq gp gq M N from HQ.out.below (Below.refl _ _).drew)
                clear HB HQ
                refine wp_region_noPanic ?_
                refine wp_region_held_drew (S := (fun W => W.cell? (adX.add i) = some (.slice A3 a c3) ∧ W.cell? (adX.add j) = some (.slice A4 a c4) ∧ W.cell? (adA.add (i * 2)) = some (.int .i64 si) ∧ W.cell? (adA.add (j * 2)) = some (.int .i64 sj))) (by kernel_rfl) ?_ (fun hHeld => ?_)
                · ((try dsimp only); exact KK.out _ HZ.out)
                refine wpAnyH_take (i := 0) (oi := { dst := some 60, op := .move (.tmp 2), type := 39, pos := _, after := _, guard := none }) (v := ?_) rfl (by kernel_rfl) (by kernel_rfl) (by kernel_rfl) (fun _ _ _ h => h) (Or.inl ⟨by rfl, ?_⟩) (by assumption) ?_
                rotate_left 1
                · (intro w hSw; (try dsimp only at hSw); go_simp; try with_reducible rfl)
                try simp only [Act.put, List.setIfInBounds_toArray, List.set_cons_zero, List.set_cons_succ]
                refine wpAnyH_take (i := 1) (oi := { dst := some 61, op := .move (.tmp 11), type := 3, pos := _, after := _, guard := none }) (v := ?_) rfl (by kernel_rfl) (by kernel_rfl) (by kernel_rfl) (fun _ _ _ h => h) (Or.inl ⟨by rfl, ?_⟩) (by assumption) ?_
                rotate_left 1
                · (intro w hSw; (try dsimp only at hSw); go_simp; try with_reducible rfl)
                try simp only [Act.put, List.setIfInBounds_toArray, List.set_cons_zero, List.set_cons_succ]
                refine wpAnyH_take (i := 2) (oi := { dst := some 62, op := .indexAddr 39 (.tmp 60) (.tmp 61), type := 0, pos := _, after := _, guard := none }) (v := ?_) rfl (by kernel_rfl) (by kernel_rfl) (by kernel_rfl) (fun _ _ _ h => h) (Or.inl ⟨by rfl, ?_⟩) (by assumption) ?_
                rotate_left 1
                · (intro w hSw; (try dsimp only at hSw); go_simp; try with_reducible rfl)
                try simp only [Act.put, List.setIfInBounds_toArray, List.set_cons_zero, List.set_cons_succ]
                refine wpAnyH_take (i := 3) (oi := { dst := some 63, op := .load 22 (.tmp 62), type := 22, pos := _, after := _, guard := none }) (v := ?_) rfl (by kernel_rfl) (by kernel_rfl) (by kernel_rfl) (fun _ _ _ h => h) (Or.inl ⟨by rfl, ?_⟩) (by assumption) ?_
                rotate_left 1
                · (intro w hSw; (try dsimp only at hSw); go_simp; try with_reducible rfl)
                try simp only [Act.put, List.setIfInBounds_toArray, List.set_cons_zero, List.set_cons_succ]
                refine wpAnyH_take (i := 4) (oi := { dst := some 64, op := .move (.tmp 0), type := 25, pos := _, after := _, guard := none }) (v := ?_) rfl (by kernel_rfl) (by kernel_rfl) (by kernel_rfl) (fun _ _ _ h => h) (Or.inl ⟨by rfl, ?_⟩) (by assumption) ?_
                rotate_left 1
                · (intro w hSw; (try dsimp only at hSw); go_simp; try with_reducible rfl)
                try simp only [Act.put, List.setIfInBounds_toArray, List.set_cons_zero, List.set_cons_succ]
                refine wpAnyH_take (i := 5) (oi := { dst := some 65, op := .move (.tmp 1), type := 35, pos := _, after := _, guard := none }) (v := ?_) rfl (by kernel_rfl) (by kernel_rfl) (by kernel_rfl) (fun _ _ _ h => h) (Or.inl ⟨by rfl, ?_⟩) (by assumption) ?_
                rotate_left 1
                · (intro w hSw; (try dsimp only at hSw); go_simp; try with_reducible rfl)
                try simp only [Act.put, List.setIfInBounds_toArray, List.set_cons_zero, List.set_cons_succ]
                refine wpAnyH_take (i := 6) (oi := { dst := some 66, op := .move (.tmp 12), type := 3, pos := _, after := _, guard := none }) (v := ?_) rfl (by kernel_rfl) (by kernel_rfl) (by kernel_rfl) (fun _ _ _ h => h) (Or.inl ⟨by rfl, ?_⟩) (by assumption) ?_
                rotate_left 1
                · (intro w hSw; (try dsimp only at hSw); go_simp; try with_reducible rfl)
                try simp only [Act.put, List.setIfInBounds_toArray, List.set_cons_zero, List.set_cons_succ]
                refine wpAnyH_take (i := 7) (oi := { dst := some 67, op := .indexAddr 35 (.tmp 65) (.tmp 66), type := 0, pos := _, after := _, guard := none }) (v := ?_) rfl (by kernel_rfl) (by kernel_rfl) (by kernel_rfl) (fun _ _ _ h => h) (Or.inl ⟨by rfl, ?_⟩) (by assumption) ?_
                rotate_left 1
                · (intro w hSw; (try dsimp only at hSw); go_simp; try with_reducible rfl)
                try simp only [Act.put, List.setIfInBounds_toArray, List.set_cons_zero, List.set_cons_succ]
                refine wpAnyH_take (i := 8) (oi := { dst := some 68, op := .fieldAddr 37 (.tmp 67) 0, type := 0, pos := _, after := _, guard := none }) (v := ?_) rfl (by kernel_rfl) (by kernel_rfl) (by kernel_rfl) (fun _ _ _ h => h) (Or.inl ⟨by rfl, ?_⟩) (by assumption) ?_
                rotate_left 1
                · (intro w hSw; (try dsimp only at hSw); go_simp; try with_reducible rfl)
                try simp only [Act.put, List.setIfInBounds_toArray, List.set_cons_zero, List.set_cons_succ]
                refine wpAnyH_take (i := 9) (oi := { dst := some 69, op := .load 3 (.tmp 68), type := 3, pos := _, after := _, guard := none }) (v := ?_) rfl (by kernel_rfl) (by kernel_rfl) (by kernel_rfl) (fun _ _ _ h => h) (Or.inl ⟨by rfl, ?_⟩) (by assumption) ?_
                rotate_left 1
                · (intro w hSw; (try dsimp only at hSw); go_simp; try with_reducible rfl)
                try simp only [Act.put, List.setIfInBounds_toArray, List.set_cons_zero, List.set_cons_succ]
                refine wpAnyH_ready (rs := [10]) (by kernel_rfl) (by simp) ?_
                refine AllReadyH.cons (o := { dst := some 70, op := .call { callee := .value (.func 71), args := #[.tmp 64, .tmp 69], argTypes := #[25, 3] }, type := 22, pos := _, after := _, guard := none }) rfl (fun K hK => ?_) AllReadyH.nil
                go_simp
                go_at_call 71
                (refine (SHj.out _ HZ.out).mono ?_); rintro e x1 ⟨A8, c8, rfl, hr8, hb⟩
                have HR8 := Lib.hid hr8
                replace HQZ := Lib.hid (HQZ.out.below hb)
                replace HZ := Lib.hid (HZ.out.trans (hb.mono HZ.out.size))
                clear hr8 hb
                clear hHeld
                refine hK.out _ _ ?_ (fun hHeld => ?_)
                · ((try dsimp only); exact KK.out _ HZ.out)
                clear hK K
                refine wpAnyH_ready (rs := [11]) (by kernel_rfl) (by simp) ?_
                refine AllReadyH.cons (o := { dst := some 71, op := .call { callee := .value (.func 70), args := #[.tmp 63, .tmp 70], argTypes := #[22, 22] }, type := 5, pos := _, after := _, guard := none }) rfl (fun K hK => ?_) AllReadyH.nil
                go_simp
                go_at_call 70
                (refine (DTi.out _ HZ.out _ _ (by have h := (Kd.R_reads' HR8.out).2.2; rw [line_len] at h; exact h)).mono ?_); rintro e x2 ⟨rfl, nd, hx2⟩
                replace HQZ := Lib.hid (show Sq2 x2 w.heap.size k k bp bq gp gq M N by rw [hx2]; exact HQZ.out.below (pw_below_drewN (Below.refl _ _) nd))
                replace HZ := Lib.hid (show Below w.heap.size w x2 by rw [hx2]; exact pw_below_drewN HZ.out nd)
                clear hx2 HR8
                clear hHeld
                refine hK.out _ _ ?_ (fun hHeld => ?_)
                · ((try dsimp only); exact KK.out _ HZ.out)
                clear hK K
                refine wpAnyH_take (i := 12) (oi := { dst := some 13, op := .assign (.tmp 71), type := 5, pos := _, after := _, guard := none }) (v := ?_) rfl (by kernel_rfl) (by kernel_rfl) (by kernel_rfl) (fun _ _ _ h => h) (Or.inl ⟨by rfl, ?_⟩) (by assumption) ?_
                rotate_left 1
                · (intro w hSw; (try dsimp only at hSw); go_simp; try with_reducible rfl)
                try simp only [Act.put, List.setIfInBounds_toArray, List.set_cons_zero, List.set_cons_succ]
                refine wpAnyH_done (by kernel_rfl) ?_ _
                refine NoPanic.normal ?_
                clear hHeld
                go_upto_region 14 with (fail)
                replace HZ := Lib.hid (show Below w.heap.size w x2.drew from HZ.out.drew)
                replace HQZ := Lib.hid (show Sq2 x2.drew w.heap.size k k bp bq gp gq M N from HQZ.out.below (Below.refl _ _).drew)
                refine wp_region_noPanic ?_
                refine wp_region_held_drew (S := (fun W => W.cell? (adX.add i) = some (.slice A3 a c3) ∧ W.cell? (adX.add j) = some (.slice A4 a c4) ∧ W.cell? (adA.add (i * 2)) = some (.int .i64 si) ∧ W.cell? (adA.add (j * 2)) = some (.int .i64 sj))) (by kernel_rfl) ?_ (fun hHeld => ?_)
                · ((try dsimp only); exact KK.out _ HZ.out)
                refine wpAnyH_take (i := 0) (oi := { dst := some 72, op := .move (.tmp 2), type := 39, pos := _, after := _, guard := none }) (v := ?_) rfl (by kernel_rfl) (by kernel_rfl) (by kernel_rfl) (fun _ _ _ h => h) (Or.inl ⟨by rfl, ?_⟩) (by assumption) ?_
                rotate_left 1
                · (intro w hSw; (try dsimp only at hSw); go_simp; try with_reducible rfl)
                try simp only [Act.put, List.setIfInBounds_toArray, List.set_cons_zero, List.set_cons_succ]
                refine wpAnyH_take (i := 1) (oi := { dst := some 73, op := .move (.tmp 12), type := 3, pos := _, after := _, guard := none }) (v := ?_) rfl (by kernel_rfl) (by kernel_rfl) (by kernel_rfl) (fun _ _ _ h => h) (Or.inl ⟨by rfl, ?_⟩) (by assumption) ?_
                rotate_left 1
                · (intro w hSw; (try dsimp only at hSw); go_simp; try with_reducible rfl)
                try simp only [Act.put, List.setIfInBounds_toArray, List.set_cons_zero, List.set_cons_succ]
                refine wpAnyH_take (i := 2) (oi := { dst := some 74, op := .indexAddr 39 (.tmp 72) (.tmp 73), type := 0, pos := _, after := _, guard := none }) (v := ?_) rfl (by kernel_rfl) (by kernel_rfl) (by kernel_rfl) (fun _ _ _ h => h) (Or.inl ⟨by rfl, ?_⟩) (by assumption) ?_
                rotate_left 1
                · (intro w hSw; (try dsimp only at hSw); go_simp; try with_reducible rfl)
                try simp only [Act.put, List.setIfInBounds_toArray, List.set_cons_zero, List.set_cons_succ]
                refine wpAnyH_take (i := 3) (oi := { dst := some 75, op := .load 22 (.tmp 74), type := 22, pos := _, after := _, guard := none }) (v := ?_) rfl (by kernel_rfl) (by kernel_rfl) (by kernel_rfl) (fun _ _ _ h => h) (Or.inl ⟨by rfl, ?_⟩) (by assumption) ?_
                rotate_left 1
                · (intro w hSw; (try dsimp only at hSw); go_simp; try with_reducible rfl)
                try simp only [Act.put, List.setIfInBounds_toArray, List.set_cons_zero, List.set_cons_succ]
                refine wpAnyH_take (i := 4) (oi := { dst := some 76, op := .move (.tmp 0), type := 25, pos := _, after := _, guard := none }) (v := ?_) rfl (by kernel_rfl) (by kernel_rfl) (by kernel_rfl) (fun _ _ _ h => h) (Or.inl ⟨by rfl, ?_⟩) (by assumption) ?_
                rotate_left 1
                · (intro w hSw; (try dsimp only at hSw); go_simp; try with_reducible rfl)
                try simp only [Act.put, List.setIfInBounds_toArray, List.set_cons_zero, List.set_cons_succ]
                refine wpAnyH_take (i := 5) (oi := { dst := some 77, op := .move (.tmp 1), type := 35, pos := _, after := _, guard := none }) (v := ?_) rfl (by kernel_rfl) (by kernel_rfl) (by kernel_rfl) (fun _ _ _ h => h) (Or.inl ⟨by rfl, ?_⟩) (by assumption) ?_
                rotate_left 1
                · (intro w hSw; (try dsimp only at hSw); go_simp; try with_reducible rfl)
                try simp only [Act.put, List.setIfInBounds_toArray, List.set_cons_zero, List.set_cons_succ]
                refine wpAnyH_take (i := 6) (oi := { dst := some 78, op := .move (.tmp 11), type := 3, pos := _, after := _, guard := none }) (v := ?_) rfl (by kernel_rfl) (by kernel_rfl) (by kernel_rfl) (fun _ _ _ h => h) (Or.inl ⟨by rfl, ?_⟩) (by assumption) ?_
                rotate_left 1
                · (intro w hSw; (try dsimp only at hSw); go_simp; try with_reducible rfl)
                try simp only [Act.put, List.setIfInBounds_toArray, List.set_cons_zero, List.set_cons_succ]
                refine wpAnyH_take (i := 7) (oi := { dst := some 79, op := .indexAddr 35 (.tmp 77) (.tmp 78), type := 0, pos := _, after := _, guard := none }) (v := ?_) rfl (by kernel_rfl) (by kernel_rfl) (by kernel_rfl) (fun _ _ _ h => h) (Or.inl ⟨by rfl, ?_⟩) (by assumption) ?_
                rotate_left 1
                · (intro w hSw; (try dsimp only at hSw); go_simp; try with_reducible rfl)
                try simp only [Act.put, List.setIfInBounds_toArray, List.set_cons_zero, List.set_cons_succ]
                refine wpAnyH_take (i := 8) (oi := { dst := some 80, op := .fieldAddr 37 (.tmp 79) 0, type := 0, pos := _, after := _, guard := none }) (v := ?_) rfl (by kernel_rfl) (by kernel_rfl) (by kernel_rfl) (fun _ _ _ h => h) (Or.inl ⟨by rfl, ?_⟩) (by assumption) ?_
                rotate_left 1
                · (intro w hSw; (try dsimp only at hSw); go_simp; try with_reducible rfl)
                try simp only [Act.put, List.setIfInBounds_toArray, List.set_cons_zero, List.set_cons_succ]
                refine wpAnyH_take (i := 9) (oi := { dst := some 81, op := .load 3 (.tmp 80), type := 3, pos := _, after := _, guard := none }) (v := ?_) rfl (by kernel_rfl) (by kernel_rfl) (by kernel_rfl) (fun _ _ _ h => h) (Or.inl ⟨by rfl, ?_⟩) (by assumption) ?_
                rotate_left 1
                · (intro w hSw; (try dsimp only at hSw); go_simp; try with_reducible rfl)
                try simp only [Act.put, List.setIfInBounds_toArray, List.set_cons_zero, List.set_cons_succ]
                refine wpAnyH_ready (rs := [10]) (by kernel_rfl) (by simp) ?_
                refine AllReadyH.cons (o := { dst := some 82, op := .call { callee := .value (.func 71), args := #[.tmp 76, .tmp 81], argTypes := #[25, 3] }, type := 22, pos := _, after := _, guard := none }) rfl (fun K hK => ?_) AllReadyH.nil
                go_simp
                go_at_call 71
                (refine (SHi.out _ HZ.out).mono ?_); rintro e x3 ⟨A8, c8, rfl, hr8, hb⟩
                have HR8 := Lib.hid hr8
                replace HQZ := Lib.hid (HQZ.out.below hb)
                replace HZ := Lib.hid (HZ.out.trans (hb.mono HZ.out.size))
                clear hr8 hb
                clear hHeld
                refine hK.out _ _ ?_ (fun hHeld => ?_)
                · ((try dsimp only); exact KK.out _ HZ.out)
                clear hK K
                refine wpAnyH_ready (rs := [11]) (by kernel_rfl) (by simp) ?_
                refine AllReadyH.cons (o := { dst := some 83, op := .call { callee := .value (.func 70), args := #[.tmp 75, .tmp 82], argTypes := #[22, 22] }, type := 5, pos := _, after := _, guard := none }) rfl (fun K hK => ?_) AllReadyH.nil
                go_simp
                go_at_call 70
                (refine (DTj.out _ HZ.out _ _ (by have h := (Kd.R_reads' HR8.out).2.2; rw [line_len] at h; exact h)).mono ?_); rintro e x4 ⟨rfl, nd, hx4⟩
                replace HQZ := Lib.hid (show Sq2 x4 w.heap.size k k bp bq gp gq M N by rw [hx4]; exact HQZ.out.below (pw_below_drewN (Below.refl _ _) nd))
                replace HZ := Lib.hid (show Below w.heap.size w x4 by rw [hx4]; exact pw_below_drewN HZ.out nd)
                clear hx4 HR8
                clear hHeld
                refine hK.out _ _ ?_ (fun hHeld => ?_)
                · ((try dsimp only); exact KK.out _ HZ.out)
                clear hK K
                refine wpAnyH_take (i := 12) (oi := { dst := some 14, op := .assign (.tmp 83), type := 5, pos := _, after := _, guard := none }) (v := ?_) rfl (by kernel_rfl) (by kernel_rfl) (by kernel_rfl) (fun _ _ _ h => h) (Or.inl ⟨by rfl, ?_⟩) (by assumption) ?_
                rotate_left 1
                · (intro w hSw; (try dsimp only at hSw); go_simp; try with_reducible rfl)
                try simp only [Act.put, List.setIfInBounds_toArray, List.set_cons_zero, List.set_cons_succ]
                refine wpAnyH_done (by kernel_rfl) ?_ _
                refine NoPanic.normal ?_
                clear hHeld SHi SHj DTi DTj
                go_upto_region 15 with (fail)
                obtain ⟨_, _, ks3, ks4⟩ := KK.out _ HZ.out
                go_quiet ((go_at_call 72; with_reducible (first | exact Calls.quiet_of (FCi.out _ (pw_below_drewN HZ.out _)) | exact Calls.quiet_of (FCj.out _ (pw_below_drewN HZ.out _)))))
                obtain ⟨x5, hx5⟩ : ∃ x5, x5 = x4.drewN nq := ⟨_, rfl⟩
                rw [← hx5]
                replace HQZ := Lib.hid (show Sq2 x5 w.heap.size k k bp bq gp gq M N by rw [hx5]; exact HQZ.out.below (pw_below_drewN (Below.refl _ _) nq))
                replace HZ := Lib.hid (show Below w.heap.size w x5 by rw [hx5]; exact pw_below_drewN HZ.out nq)
                clear hx5 ks3 ks4 FCi FCj
                go_upto_region 17 with (first
                  | (go_at_call 25; (with_reducible (first | refine (ADa.out _).mono ?_ | refine (ADb.out _).mono ?_)); rintro e u ⟨rfl, hu⟩; have hu' := hu.symm; subst hu'; clear hu)
                  | (go_at_call 73; (with_reducible refine (DV.out _).mono ?_); rintro e u ⟨rfl, hu⟩; have hu' := hu.symm; subst hu'; clear hu))
                clear ADa ADb DV
                have hik : i < k := by omega
                have hjk : j < k := by omega
                have q1 := sq_cells HQZ.out.q (Nat.le_refl _) i hik
                have q2 := sq_cells HQZ.out.q (Nat.le_refl _) j hjk
                have q3 := sq_cell HQZ.out.q i hik j hjk
                have HP2 := Lib.hid (HQZ.out.putq i j hik y)
                have q4 := sq_cell HP2.out.q j hjk i hik
                have HP3 := Lib.hid (HP2.out.putq j i hjk y)
                obtain ⟨q3, q3'⟩ := q3
                obtain ⟨q4, q4'⟩ := q4
                have p1 := sq_cells HP2.out.q (Nat.le_refl _) i hik
                have p2 := sq_cells HP2.out.q (Nat.le_refl _) j hjk
                have HK1 := Lib.hid (And.intro q1 q2)
                have HK2 := Lib.hid (And.intro p1 p2)
                have p3 := sq_cells HP3.out.q (Nat.le_refl _) i hik
                have p4 := sq_cells HP3.out.q (Nat.le_refl _) j hjk
                have HK3 := Lib.hid (And.intro p3 p4)
                clear p1 p2 p3 p4 q1 q2
                refine wp_region_noPanic ?_
                refine wp_region_held_drew (S := (fun W => W.cell? ⟨bq, i, none⟩ = some (.slice (some ⟨gq i, 0, none⟩) k k) ∧ W.cell? ⟨bq, j, none⟩ = some (.slice (some ⟨gq j, 0, none⟩) k k))) (by kernel_rfl) ?_ (fun hHeld => ?_)
                · ((try dsimp only); exact HK1.out)
                refine wpAnyH_take (i := 0) (oi := { dst := some 108, op := .move (.tmp 9), type := 39, pos := _, after := _, guard := none }) (v := ?_) rfl (by kernel_rfl) (by kernel_rfl) (by kernel_rfl) (fun _ _ _ h => h) (Or.inl ⟨by rfl, ?_⟩) (by assumption) ?_
                rotate_left 1
                · (intro w hSw; (try dsimp only at hSw); go_simp; try with_reducible rfl)
                try simp only [Act.put, List.setIfInBounds_toArray, List.set_cons_zero, List.set_cons_succ]
                refine wpAnyH_take (i := 1) (oi := { dst := some 109, op := .move (.tmp 11), type := 3, pos := _, after := _, guard := none }) (v := ?_) rfl (by kernel_rfl) (by kernel_rfl) (by kernel_rfl) (fun _ _ _ h => h) (Or.inl ⟨by rfl, ?_⟩) (by assumption) ?_
                rotate_left 1
                · (intro w hSw; (try dsimp only at hSw); go_simp; try with_reducible rfl)
                try simp only [Act.put, List.setIfInBounds_toArray, List.set_cons_zero, List.set_cons_succ]
                refine wpAnyH_take (i := 2) (oi := { dst := some 110, op := .indexAddr 39 (.tmp 108) (.tmp 109), type := 0, pos := _, after := _, guard := none }) (v := ?_) rfl (by kernel_rfl) (by kernel_rfl) (by kernel_rfl) (fun _ _ _ h => h) (Or.inl ⟨by rfl, ?_⟩) (by assumption) ?_
                rotate_left 1
                · (intro w hSw; (try dsimp only at hSw); go_simp; try with_reducible rfl)
                try simp only [Act.put, List.setIfInBounds_toArray, List.set_cons_zero, List.set_cons_succ]
                refine wpAnyH_take (i := 3) (oi := { dst := some 111, op := .load 22 (.tmp 110), type := 22, pos := _, after := _, guard := none }) (v := ?_) rfl (by kernel_rfl) (by kernel_rfl) (by kernel_rfl) (fun _ _ _ h => h) (Or.inl ⟨by rfl, ?_⟩) (by assumption) ?_
                rotate_left 1
                · (intro w hSw; (try dsimp only at hSw); go_simp; try with_reducible rfl)
                try simp only [Act.put, List.setIfInBounds_toArray, List.set_cons_zero, List.set_cons_succ]
                refine wpAnyH_take (i := 4) (oi := { dst := some 112, op := .move (.tmp 12), type := 3, pos := _, after := _, guard := none }) (v := ?_) rfl (by kernel_rfl) (by kernel_rfl) (by kernel_rfl) (fun _ _ _ h => h) (Or.inl ⟨by rfl, ?_⟩) (by assumption) ?_
                rotate_left 1
                · (intro w hSw; (try dsimp only at hSw); go_simp; try with_reducible rfl)
                try simp only [Act.put, List.setIfInBounds_toArray, List.set_cons_zero, List.set_cons_succ]
                refine wpAnyH_take (i := 5) (oi := { dst := some 113, op := .move (.tmp 9), type := 39, pos := _, after := _, guard := none }) (v := ?_) rfl (by kernel_rfl) (by kernel_rfl) (by kernel_rfl) (fun _ _ _ h => h) (Or.inl ⟨by rfl, ?_⟩) (by assumption) ?_
                rotate_left 1
                · (intro w hSw; (try dsimp only at hSw); go_simp; try with_reducible rfl)
                try simp only [Act.put, List.setIfInBounds_toArray, List.set_cons_zero, List.set_cons_succ]
                refine wpAnyH_take (i := 6) (oi := { dst := some 114, op := .move (.tmp 12), type := 3, pos := _, after := _, guard := none }) (v := ?_) rfl (by kernel_rfl) (by kernel_rfl) (by kernel_rfl) (fun _ _ _ h => h) (Or.inl ⟨by rfl, ?_⟩) (by assumption) ?_
                rotate_left 1
                · (intro w hSw; (try dsimp only at hSw); go_simp; try with_reducible rfl)
                try simp only [Act.put, List.setIfInBounds_toArray, List.set_cons_zero, List.set_cons_succ]
                refine wpAnyH_take (i := 7) (oi := { dst := some 115, op := .indexAddr 39 (.tmp 113) (.tmp 114), type := 0, pos := _, after := _, guard := none }) (v := ?_) rfl (by kernel_rfl) (by kernel_rfl) (by kernel_rfl) (fun _ _ _ h => h) (Or.inl ⟨by rfl, ?_⟩) (by assumption) ?_
                rotate_left 1
                · (intro w hSw; (try dsimp only at hSw); go_simp; try with_reducible rfl)
                try simp only [Act.put, List.setIfInBounds_toArray, List.set_cons_zero, List.set_cons_succ]
                refine wpAnyH_take (i := 8) (oi := { dst := some 116, op := .load 22 (.tmp 115), type := 22, pos := _, after := _, guard := none }) (v := ?_) rfl (by kernel_rfl) (by kernel_rfl) (by kernel_rfl) (fun _ _ _ h => h) (Or.inl ⟨by rfl, ?_⟩) (by assumption) ?_
                rotate_left 1
                · (intro w hSw; (try dsimp only at hSw); go_simp; try with_reducible rfl)
                try simp only [Act.put, List.setIfInBounds_toArray, List.set_cons_zero, List.set_cons_succ]
                refine wpAnyH_take (i := 9) (oi := { dst := some 117, op := .move (.tmp 11), type := 3, pos := _, after := _, guard := none }) (v := ?_) rfl (by kernel_rfl) (by kernel_rfl) (by kernel_rfl) (fun _ _ _ h => h) (Or.inl ⟨by rfl, ?_⟩) (by assumption) ?_
                rotate_left 1
                · (intro w hSw; (try dsimp only at hSw); go_simp; try with_reducible rfl)
                try simp only [Act.put, List.setIfInBounds_toArray, List.set_cons_zero, List.set_cons_succ]
                refine wpAnyH_take (i := 10) (oi := { dst := some 118, op := .move (.tmp 17), type := 5, pos := _, after := _, guard := none }) (v := ?_) rfl (by kernel_rfl) (by kernel_rfl) (by kernel_rfl) (fun _ _ _ h => h) (Or.inl ⟨by rfl, ?_⟩) (by assumption) ?_
                rotate_left 1
                · (intro w hSw; (try dsimp only at hSw); go_simp; try with_reducible rfl)
                try simp only [Act.put, List.setIfInBounds_toArray, List.set_cons_zero, List.set_cons_succ]
                refine wpAnyH_take (i := 11) (oi := { dst := some 119, op := .move (.tmp 17), type := 5, pos := _, after := _, guard := none }) (v := ?_) rfl (by kernel_rfl) (by kernel_rfl) (by kernel_rfl) (fun _ _ _ h => h) (Or.inl ⟨by rfl, ?_⟩) (by assumption) ?_
                rotate_left 1
                · (intro w hSw; (try dsimp only at hSw); go_simp; try with_reducible rfl)
                try simp only [Act.put, List.setIfInBounds_toArray, List.set_cons_zero, List.set_cons_succ]
                refine wpAnyH_take (i := 12) (oi := { dst := some 120, op := .indexAddr 22 (.tmp 111) (.tmp 112), type := 0, pos := _, after := _, guard := none }) (v := ?_) rfl (by kernel_rfl) (by kernel_rfl) (by kernel_rfl) (fun _ _ _ h => h) (Or.inl ⟨by rfl, ?_⟩) (by assumption) ?_
                rotate_left 1
                · (intro w hSw; (try dsimp only at hSw); go_simp; try with_reducible rfl)
                try simp only [Act.put, List.setIfInBounds_toArray, List.set_cons_zero, List.set_cons_succ]
                refine wpAnyH_ready (rs := [13]) (by kernel_rfl) (by simp) ?_
                refine AllReadyH.cons (o := { dst := none, op := .store 5 (.tmp 120) (.tmp 118), type := 0, pos := _, after := _, guard := none }) rfl (fun K hK => ?_) AllReadyH.nil
                go_simp
                clear hHeld
                refine hK.out _ _ ?_ (fun hHeld => ?_)
                · ((try dsimp only); exact HK2.out)
                clear hK K
                refine wpAnyH_take (i := 14) (oi := { dst := some 121, op := .indexAddr 22 (.tmp 116) (.tmp 117), type := 0, pos := _, after := _, guard := none }) (v := ?_) rfl (by kernel_rfl) (by kernel_rfl) (by kernel_rfl) (fun _ _ _ h => h) (Or.inl ⟨by rfl, ?_⟩) (by assumption) ?_
                rotate_left 1
                · (intro w hSw; (try dsimp only at hSw); go_simp; try with_reducible rfl)
                try simp only [Act.put, List.setIfInBounds_toArray, List.set_cons_zero, List.set_cons_succ]
                refine wpAnyH_ready (rs := [15]) (by kernel_rfl) (by simp) ?_
                refine AllReadyH.cons (o := { dst := none, op := .store 5 (.tmp 121) (.tmp 119), type := 0, pos := _, after := _, guard := none }) rfl (fun K hK => ?_) AllReadyH.nil
                go_simp
                clear hHeld
                refine hK.out _ _ ?_ (fun hHeld => ?_)
                · ((try dsimp only); exact HK3.out)
                clear hK K
                refine wpAnyH_done (by kernel_rfl) ?_ _
                refine NoPanic.normal ?_
                clear hHeld HK1 HK2 HK3 q3 q3' q4 q4'
                obtain ⟨x6, hx6⟩ : ∃ x6, x6 = ((x5.setCell ⟨gq i, j, none⟩ (.int .u8 y)).setCell ⟨gq j, i, none⟩ (.int .u8 y)).drew := ⟨_, rfl⟩
                rw [← hx6]
                obtain ⟨N', hN'⟩ : ∃ N' : Mtx, N' = (fun p q => if p = j ∧ q = i then y else (fun p q => if p = i ∧ q = j then y else N p q) p q) := ⟨_, rfl⟩
                have HQ6 := Lib.hid (show Sq2 x6 w.heap.size k k bp bq gp gq M N' by rw [hx6, hN']; exact HP3.out.below (Below.refl _ _).drew)
                have HZ6 := Lib.hid (show Below w.heap.size w x6 by rw [hx6]; exact ((HZ.out.setCell (p := ⟨gq i, j, none⟩) (HQZ.out.q.los i hik) _).setCell (p := ⟨gq j, i, none⟩) (HQZ.out.q.los j hjk) _).drew)
                have HN6 := Lib.hid (show Dn k (twoS a f S2) N' i (j + 1) ∧ BytM N' by rw [hN']; exact ⟨HN.out.1.step HY2.out hji, byt_if (byt_if HN.out.2 i j BV.out.2.2.2.2.1) j i BV.out.2.2.2.2.1⟩)
                clear hx6 hN' HP2 HP3 HQZ HZ HN N x5 KK
                have p1 := sq_cells HQ6.out.p (Nat.le_refl _) i hik
                obtain ⟨p2, p2'⟩ := sq_cell HQ6.out.p i hik j hjk
                go_upto_region 18 with (fail)
                refine wp_region_still_tail 11 (by kernel_rfl) (by kernel_rfl) ?_
                change wpStill _ _ (x6.drewN 1) (fun a' => wpList _ _ _ _ a' (x6.drewN 1)) _ _
                simp only [List.take_succ_cons, List.take_zero, List.drop_succ_cons, List.drop_zero]
                iterate 8 still_step
                still_call (ML.out (x6.drewN 1))
                still_call (ADc.out (x6.drewN 1))
                repeat still_step
                refine wpStill_nil ?_
                go_upto_region 19 with (fail)
                obtain ⟨x7, hx7⟩ : ∃ x7, x7 = (x6.drewN 1).setCell ⟨gp i, j, none⟩ (.int .u8 z) := ⟨_, rfl⟩
                rw [← hx7]
                have HP7 := Lib.hid ((HQ6.out.below (pw_below_drewN (Below.refl _ _) 1)).putp i j hik z)
                rw [← hx7] at HP7
                have HZ7 := Lib.hid (show Below w.heap.size w x7 by rw [hx7]; exact (pw_below_drewN HZ6.out 1).setCell (p := ⟨gp i, j, none⟩) (HQ6.out.p.los i hik) _)
                clear hx7 p1 p2 p2' HQ6 HZ6 ML ADc x6
                have p1 := sq_cells HP7.out.p (Nat.le_refl _) i hik
                have p2 := sq_cells HP7.out.p (Nat.le_refl _) j hjk
                obtain ⟨p3, _⟩ := sq_cell HP7.out.p i hik j hjk
                rw [if_pos ⟨rfl, rfl⟩] at p3
                obtain ⟨p4, p4'⟩ := sq_cell HP7.out.p j hjk i hik
                obtain ⟨zz, hzz⟩ : ∃ zz, zz = (if j = i ∧ i = j then z else M j i) := ⟨_, rfl⟩
                rw [← hzz] at p4
                clear hzz
                have HP8 := Lib.hid ((HP7.out.below (pw_below_drewN (Below.refl _ _) 1)).putp j i hjk z)
                have HZ8 := Lib.hid ((pw_below_drewN HZ7.out 1).setCell (p := ⟨gp j, i, none⟩) (HP7.out.p.los j hjk) (.int .u8 z))
                refine wp_region_still_tail 13 (by kernel_rfl) (by kernel_rfl) ?_
                change wpStill _ _ (x7.drewN 1) (fun a' => wpList _ _ _ _ a' (x7.drewN 1)) _ _
                simp only [List.take_succ_cons, List.take_zero, List.drop_succ_cons, List.drop_zero]
                repeat still_step
                refine wpStill_nil ?_
                go_wp2
                go_roundw
                case rel => exact ⟨j + 1, _, N', by omega, by go_num, Lib.hid ⟨HM.out.1.step HZ2.out hji, byt_if (byt_if HM.out.2 i j BV.out.2.2.2.2.2) j i BV.out.2.2.2.2.2⟩, HN6, HP8, HZ8⟩
                case measure => simp [intOf]; omega
              · obtain rfl : i = j := by omega
                go_wp2
                go_roundw
                case rel => exact ⟨i + 1, M, N, by omega, by go_num, Lib.hid ⟨HM.out.1.next, HM.out.2⟩, Lib.hid ⟨HN.out.1.next, HN.out.2⟩, HQ, HB⟩
                case measure => simp [intOf]; omega
          · obtain rfl : k = i := by omega
            have WH := Lib.hid (fun W (hB : Below w.heap.size w W) bb (P S : Mtx) (hP : Kd.C kRow W (some ⟨bb, 0, none⟩) k (mat k k P)) (hPb : BytM P) (hSb : BytM S) (sy : ∀ r u, r < a → u < a → S r u = S u r) (hD : Dn k (twoS a f S) P k 0) =>
              show Calls Try.prog 74 #[.pointer (some ⟨b, 0, none⟩), .slice (some adA) k c, .slice (some ⟨bb, 0, none⟩) k k] W fun e w' => ∃ A' c', e = .returned (.slice A' a c') ∧ RowsR w' W.heap.size (.slice A' a c') (mat a a S) ∧ Below W.heap.size W w' from
              whole_any _ n k c k a (some adA) (some ⟨bb, 0, none⟩) s h x P (oneS a f S) S W (hc0.out.below hB) k1 k2 n2 HA.out (HPX.out W hB) HSS.out (fun i j hi hj e => HIN.out i j hi hj (by rw [HF.out]; exact e)) hP hPb (oneS_byt a f S) hSb
                (fun i j hi hj hne => by rw [← HF.out, twoS_of, hD.all (twoS_sym sy) i j (by have := HKA.out; omega) hj hne]) (fun i u hi hu => by rw [← HF.out, oneS_of]))
            have W1 := Lib.hid (WH.out wr HB.out bp M S1 (HQ.out.p.reads (by omega)) HM.out.2 HS1.out.1 HS1.out.2 HM.out.1)
            have W2 := Lib.hid (fun W (hB : Below wr.heap.size wr W) => WH.out W (HB.out.trans (hB.mono HB.out.size)) bq N S2 ((HQ.out.below hB).q.reads (by omega)) HN.out.2 HS2.out.1 HS2.out.2 HN.out.1)
            clear WH HM HN HQ
            go_upto_region 22 with (fail)
            go_wp2_with (first
              | (go_at_call 74; (with_reducible refine W1.out.mono ?_); rintro e w1 ⟨A1, c1, rfl, hr, hb⟩; have HR1 := Lib.hid hr; have HB1 := Lib.hid hb; have W2' := Lib.hid (W2.out _ hb); clear W1 W2 hr hb)
              | (go_at_call 74; (with_reducible refine W2'.out.mono ?_); rintro e w2 ⟨A2, c2, rfl, hr, hb⟩; have HR2 := Lib.hid hr; have HB2 := Lib.hid hb; clear hr hb))
            go_ret2
            exact ⟨A1, c1, A2, c2, rfl, Kd.R_lower (Kd.R_below HR1.out HB2.out) HB.out.size, Kd.R_lower HR2.out (Nat.le_trans HB.out.size HB1.out.size), (HB.out.trans (HB1.out.mono HB.out.size)).trans (HB2.out.mono (Nat.le_trans HB.out.size HB1.out.size))⟩
set_option maxRecDepth 100000 in
set_option maxHeartbeats 8000000 in
theorem put_keep (K : World → Prop) (v : Value) (n k a fr pt sz L g cap c B2 : Nat) (A : Option Addr) (M : Mtx) (F T : Nat → Int) (w0 w : World) (hc : IsCode w0 v n k) (k1 : 2 ≤ k) (k2 : k ≤ 8) (ha : a = k - 1) (hfr : fr = 0 ∨ fr = a) (hsz : sz ≤ 100) (hB : Below w0.heap.size w0 w) (hg : w0.heap.size ≤ g) (hg2 : g < B2)
    (hpt : pt < sz) (hL : ∀ i kk, i ≤ kk → kk < a → placeN a (fr + i) kk * sz + pt < L) (hL2 : L ≤ 10000) (hM : ∀ i kk, i ≤ kk → kk < a → M i kk = T (placeN a (fr + i) kk * sz + pt))
    (ho : (Kd.int .u8).R 5 w w0.heap.size (fun _ => True) (.slice (some ⟨g, 0, none⟩) L cap) (line L F)) (hh : RowsR w B2 (.slice A a c) (mat a a M)) (hK0 : K w) (hKs : ∀ W (p : Addr) (u : Value), p.block = g → K W → K (W.setCell p u)) (hKd : ∀ W j, K W → K (W.drewN j)) :
    Calls Try.prog 60 #[v, .slice (some ⟨g, 0, none⟩) L cap, .slice A a c, .int .i64 fr, .int .i64 pt, .int .i64 sz] w fun e w' => e = .returned (.tuple #[]) ∧ ∃ F', Put a fr sz pt a 0 F T F' ∧ (Kd.int .u8).R 5 w' w0.heap.size (fun _ => True) (.slice (some ⟨g, 0, none⟩) L cap) (line L F') ∧ K w' ∧ Below w0.heap.size w0 w' := by
  have PL := Lib.hid (fun W r j (hB : Below w0.heap.size w0 W) (hr : r < 2 * a) (hj : j < a) => show Calls Try.prog 62 #[v, .int .i64 r, .int .i64 j] W fun e w' => e = .returned (.int .i64 (placeN a r j)) ∧ w' = W by
    rw [ha] at hr hj ⊢
    exact place_any v n k r j W (hc.below hB) k1 k2 hr hj)
  have HM := Lib.hid hM
  have HL := Lib.hid hL
  have HO0 := Lib.hid ho
  have HH0 := Lib.hid (show Kd.R kRow 22 w B2 (fun q => B2 ≤ q) (.slice A a c) (mat a a M) from Kd.R_mono (Kd.R_bound hh) (fun q hq => hq.2.1))
  have HB0 := Lib.hid hB
  have HK0 := Lib.hid hK0
  have HKS := Lib.hid hKs
  have HKD := Lib.hid hKd
  have HG := Lib.hid hg
  have HG2 := Lib.hid hg2
  have a7 : a ≤ 7 := by omega
  have HFR := Lib.hid (show fr + a ≤ 2 * a by rcases hfr with h | h <;> omega)
  clear hM hL ho hh hK0 hKs hKd hB hc ha hfr hg hg2 k1 k2
  go_enter Try.func60, Try.ntmps60
  go_upto_region 1 with (fail)
  go_loopw [12, 13, 16] (fun _ _ iv wr => ∃ (i : Nat) (F' : Nat → Int), i ≤ a ∧ iv = .int .i64 i ∧ Hid (Put a fr sz pt i 0 F T F') ∧ Hid ((Kd.int .u8).R 5 wr w0.heap.size (fun _ => True) (.slice (some ⟨g, 0, none⟩) L cap) (line L F')) ∧ Hid (Kd.R kRow 22 wr B2 (fun q => B2 ≤ q) (.slice A a c) (mat a a M)) ∧ Hid (K wr) ∧ Hid (Below w0.heap.size w0 wr)) (fun _ _ iv _ => a - (intOf iv).toNat)
  case atStart => exact ⟨0, F, by omega, rfl, Lib.hid (Put.start _ _ _ _ _ _), HO0, HH0, HK0, HB0⟩
  case round =>
    clear HO0 HH0 HB0 HK0
    obtain ⟨i, F', hi, rfl, HP, HO, HH, HK, HB⟩ := hrel
    by_cases hlt : i < a
    · have g1 : (i : Int) < (a : Int) := by omega
      have g2 : (0 : Int) ≤ (i : Int) := by omega
      go_upto_region 4 with (fail)
      go_loopw [13] (fun jv wr => ∃ (j : Nat) (F' : Nat → Int), i ≤ j ∧ j ≤ a ∧ jv = .int .i64 j ∧ Hid (Put a fr sz pt i j F T F') ∧ Hid ((Kd.int .u8).R 5 wr w0.heap.size (fun _ => True) (.slice (some ⟨g, 0, none⟩) L cap) (line L F')) ∧ Hid (Kd.R kRow 22 wr B2 (fun q => B2 ≤ q) (.slice A a c) (mat a a M)) ∧ Hid (K wr) ∧ Hid (Below w0.heap.size w0 wr)) (fun jv _ => a - (intOf jv).toNat)
      case atStart => exact ⟨i, F', by omega, by omega, rfl, Lib.hid HP.out.into, HO, HH, HK, HB⟩
      case round =>
        clear HP HO HH HK HB F'
        obtain ⟨j, F', hij, hj, rfl, HP, HO, HH, HK, HB⟩ := hrel
        by_cases hja : j < a
        · have g3 : (j : Int) < (a : Int) := by omega
          have g4 : (0 : Int) ≤ (j : Int) := by omega
          obtain ⟨u, hu⟩ : ∃ u, u = placeN a (fr + i) j := ⟨_, rfl⟩
          have PLC := Lib.hid (PL.out (wr.drewN 1) (fr + i) j (pw_below_drewN HB.out 1) (by have := HFR.out; omega) hja)
          have hpL := HL.out i j hij hja
          have hMT := HM.out i j hij hja
          rw [← hu] at PLC hpL hMT
          obtain ⟨ms, hms⟩ : ∃ ms, ms = u * sz := ⟨_, rfl⟩
          obtain ⟨p, hp⟩ : ∃ p, p = ms + pt := ⟨_, rfl⟩
          rw [← hms, ← hp] at hpL hMT
          have HPS := Lib.hid (HP.out.step (p := p) (kk := j) (by rw [hp, hms, hu]))
          obtain ⟨r, hr⟩ : ∃ r, r = fr + i := ⟨_, rfl⟩
          have hr14 : r ≤ 14 := by have := HFR.out; omega
          have hu2 : u ≤ 10000 := by
            have : u * 1 ≤ u * sz := Nat.mul_le_mul_left u (by omega)
            omega
          have v1 : IntKind.i64.wrap ((fr : Int) + (i : Int)) = (r : Int) := by rw [IntWalk.i64_in _ (by omega)]; omega
          have v2 : (fr : Int) + (i : Int) = (r : Int) := by omega
          have v3 : IntKind.i64.wrap (r : Int) = (r : Int) := IntWalk.i64_in _ (by omega)
          have v4 : IntKind.i64.wrap ((u : Int) * (sz : Int)) = (ms : Int) := by rw [hms, ← Int.natCast_mul]; exact IntWalk.i64_in _ (by omega)
          have v5 : IntKind.i64.wrap ((ms : Int) + (pt : Int)) = (p : Int) := by rw [IntWalk.i64_in _ (by omega)]; omega
          have v6 : (ms : Int) + (pt : Int) = (p : Int) := by omega
          have v7 : IntKind.i64.wrap (p : Int) = (p : Int) := IntWalk.i64_in _ (by omega)
          have t1 : (0 : Int) ≤ (p : Int) := by omega
          have t2 : (p : Int) < (L : Int) := by omega
          rw [← hr] at PLC
          have hC := (Kd.R_reads' HH.out).2.2
          rw [mat_len] at hC
          obtain ⟨a3, A3, c3, rfl, kp1, _, hc3⟩ := mrow hC i hlt
          obtain ⟨p3, rfl, kp2⟩ := Sol.at_row hc3 j hja
          rw [line_get _ _ _ hja, hMT] at kp2
          obtain ⟨x1', x2'⟩ := cell_of HO.out p hpL
          obtain ⟨y, hy⟩ : ∃ y, y = T p := ⟨_, rfl⟩
          have hpn := fun j => put_of (Kd.R_drewN HO.out j) p y
          simp only [line_set L _ _ hpL] at hpn
          rw [← hy] at HPS kp2
          have HPN := Lib.hid hpn
          have HBn := Lib.hid (fun j => (pw_below_drewN HB.out j).setCell (p := ⟨g, p, none⟩) HG.out (.int .u8 y))
          have HKn := Lib.hid (HKS.out _ ⟨g, p, none⟩ (.int .u8 y) rfl (HKD.out wr 1 HK.out))
          have HHn := Lib.hid (fun j => Kd.R_far (Kd.R_drewN HH.out j) (p := ⟨g, p, none⟩) (fun q hq e => by have := HG2.out; have e' : q = g := e; omega) (.int .u8 y))
          clear hC hc3 hpL hMT hms hp hu hr hy hpn hr14 hu2
          go_wp2
          refine wp_region_still_tail 19 (by kernel_rfl) (by kernel_rfl) ?_
          change wpStill _ _ (wr.drewN 1) (fun a' => wpList _ _ _ _ a' (wr.drewN 1)) _ _
          simp only [List.take_succ_cons, List.take_zero, List.drop_succ_cons, List.drop_zero]
          iterate 6 still_step
          still_call PLC.out
          iterate 12 still_step
          refine wpStill_nil ?_
          go_wp2
          go_roundw
          case rel => exact ⟨j + 1, _, by omega, by omega, by go_num, HPS, Lib.hid (HPN.out 1), Lib.hid (HHn.out 1), HKn, Lib.hid (HBn.out 1)⟩
          case measure => simp [intOf]; omega
        · obtain rfl : a = j := by omega
          go_wp2
          go_roundw
          case rel => exact ⟨i + 1, F', by omega, by go_num, Lib.hid HP.out.next, HO, HH, HK, HB⟩
          case measure => simp [intOf]; omega
    · obtain rfl : a = i := by omega
      go_wp2
      first | go_end0 | ((try simp only [Exit.inBlock, Exit.then]); refine bodyPost_ret (results_none rfl _ _ _) rfl ?_)
      exact ⟨rfl, F', HP.out, HO.out, HK.out, HB.out⟩
theorem tmod_nat (a b : Nat) : Int.tmod (a : Int) (b : Int) = ((a % b : Nat) : Int) := by simp [Int.tmod]
theorem tdiv_nat (a b : Nat) : Int.tdiv (a : Int) (b : Int) = ((a / b : Nat) : Int) := by simp [Int.tdiv]
def colX (x : Nat → List Int) (sz c : Nat) : Mtx := fun i q => (x i).getD (q * sz + c) 0
def MsgOf (k a sz : Nat) (f : Nat → Nat) (x : Nat → List Int) (B : Nat → Nat → Int) : Prop :=
  ∀ c, c < sz → TwoX k a f (fun r q => B (placeN a r q) c) (fun r q => B (placeN a (a + r) q) c) (colX x sz c)
def outB (B : Nat → Nat → Int) (sz : Nat) : Nat → Int := fun pos => B (pos / sz) (pos % sz)
theorem outB_at (B : Nat → Nat → Int) (sz u c : Nat) (hc : c < sz) : outB B sz (u * sz + c) = B u c := by
  unfold outB
  have h1 : (u * sz + c) / sz = u := by rw [Nat.mul_comm, Nat.mul_add_div (by omega), Nat.div_eq_of_lt hc, Nat.add_zero]
  have h2 : (u * sz + c) % sz = c := by rw [Nat.mul_comm, Nat.mul_add_mod, Nat.mod_eq_of_lt hc]
  rw [h1, h2]
def Cols (sz L c : Nat) (T F : Nat → Int) : Prop := ∀ pos, pos < L → pos % sz < c → F pos = T pos
theorem Cols.more {a sz L c : Nat} {B : Nat → Nat → Int} {F F1 F2 : Nat → Int} (a1 : 1 ≤ a) (a7 : a ≤ 7) (hL : L = (a + 1) * a * sz) (h : Cols sz L c (outB B sz) F) (hc : c < sz) (h1 : Put a 0 sz c a 0 F (outB B sz) F1) (h2 : Put a a sz c a 0 F1 (outB B sz) F2) : Cols sz L (c + 1) (outB B sz) F2 := by
  intro pos hp hm
  by_cases e : pos % sz < c
  · exact h2.1 pos (h1.1 pos (h pos hp e))
  · have hpc : pos % sz = c := by omega
    have hps : pos = pos / sz * sz + c := by
      have := Nat.div_add_mod pos sz
      rw [Nat.mul_comm] at this
      omega
    have hu : pos / sz < (a + 1) * a := by
      rw [Nat.div_lt_iff_lt_mul (by omega)]
      rw [← hL]
      exact hp
    obtain ⟨i, hi, j, hj, hij, hpl⟩ := place_all a (pos / sz) a7 hu
    rcases hpl with hpl | hpl
    · have := h1.2 i j hij hj (Or.inl (by omega))
      rw [Nat.zero_add, hpl, ← hps] at this
      exact h2.1 pos this
    · have := h2.2 i j hij hj (Or.inl (by omega))
      rw [hpl, ← hps] at this
      exact this
theorem Cols.all {sz L : Nat} {T F : Nat → Int} (hs : 1 ≤ sz) (h : Cols sz L sz T F) : line L F = line L T := line_congr L F T (fun pos hp => h pos hp (Nat.mod_lt _ (by omega)))
theorem place_sz {a sz L u c : Nat} (hL : L = (a + 1) * a * sz) (hu : u < (a + 1) * a) (hc : c < sz) : u * sz + c < L := by
  have h2 : (u + 1) * sz ≤ (a + 1) * a * sz := Nat.mul_le_mul_right sz (by omega)
  rw [Nat.add_mul, Nat.one_mul] at h2
  omega
def xsL (k j q : Nat) (X : Mtx) (a : Nat) : List (List Int) := (List.range k).map (fun r => if r < j then line a (X r) else if r = j then line q (X r) else [])
theorem xsL_len (k j q : Nat) (X : Mtx) (a : Nat) : (xsL k j q X a).length = k := by simp [xsL]
theorem xsL_zero (k : Nat) (X : Mtx) (a : Nat) : xsL k 0 0 X a = List.replicate k [] := by
  refine List.ext_getElem (by simp [xsL]) (fun i h1 h2 => ?_)
  simp [xsL]
  by_cases e : i = 0
  · simp [e, line]
  · simp [e]
theorem xsL_get (k j q : Nat) (X : Mtx) (a : Nat) (hj : j < k) : (xsL k j q X a).getD j [] = line q (X j) := by simp [xsL, List.getD_eq_getElem?_getD, hj]
theorem xsL_set (k j q : Nat) (X : Mtx) (a : Nat) (hj : j < k) : (xsL k j q X a).set j (line q (X j) ++ [X j q]) = xsL k j (q + 1) X a := by
  refine List.ext_getElem (by simp [xsL]) (fun i h1 h2 => ?_)
  rw [List.getElem_set]
  simp only [xsL, List.getElem_map, List.getElem_range]
  by_cases e : j = i
  · subst e
    simp [line_succ]
  · rw [if_neg e]
    have e' : ¬ i = j := fun h => e h.symm
    simp [e']
theorem xsL_next (k j : Nat) (X : Mtx) (a : Nat) : xsL k j a X a = xsL k (j + 1) 0 X a := by
  refine List.ext_getElem (by simp [xsL]) (fun i h1 h2 => ?_)
  simp only [xsL, List.getElem_map, List.getElem_range]
  by_cases e : i < j
  · rw [if_pos e, if_pos (by omega)]
  · by_cases e2 : i = j
    · subst e2; simp
    · rw [if_neg e, if_neg e2, if_neg (by omega)]
      by_cases e3 : i = j + 1
      · rw [if_pos e3]; rfl
      · rw [if_neg e3]
theorem xsL_all (k : Nat) (X : Mtx) (a : Nat) : xsL k k 0 X a = mat k a X := by
  refine List.ext_getElem (by simp [xsL, mat]) (fun i h1 h2 => ?_)
  have : i < k := by simpa [xsL] using h1
  simp [xsL, mat, this]
set_option maxRecDepth 100000 in
set_option maxHeartbeats 8000000 in
theorem decode_good (v : Value) (n k N c a sz L : Nat) (A : Option Addr) (s : Nat → Int) (h : Nat → Hd) (x : Nat → List Int) (m : Nat → Nat) (B : Nat → Nat → Int) (w : World) (hc : IsCodeP w v n k) (k1 : 2 ≤ k) (k2 : k ≤ 8) (n2 : n ≤ 24) (ha : a = k - 1) (hp : PA w A N s h x) (hm : ∀ i, (x i).length = m i) (hN : N ≤ 100) (hNc : N ≤ c)
    (hok : okTo n s m N) (hk : k ≤ N) (hsz : m 0 = sz * a) (hs1 : 1 ≤ sz) (hs2 : sz ≤ 100) (hL : L = (a + 1) * a * sz) (hxb : ∀ q i, Byt ((x q).getD i 0)) (hB : ∀ u q, Byt (B u q)) (hX : MsgOf k a sz (ptS n k s) x B) :
    Calls Try.prog 37 #[v, .slice A N c] w fun e w' => ∃ A' c', e = .returned (.tuple #[.slice A' L c', .int .i64 0]) ∧ (Kd.int .u8).R 5 w' w.heap.size (fun _ => True) (.slice A' L c') (line L (outB B sz)) ∧ Below w.heap.size w w' := by
  have HPP := Lib.hid (fun W (hB : Below w.heap.size w W) => show Calls Try.prog 23 #[v] W fun e w' => e = .returned (.int .i64 a) ∧ w' = W by rw [ha]; exact parts_any v n k W (hc.below hB).code (by omega) (by omega))
  have HRT := Lib.hid (mright_any v n k N c A s h x w hc.code hp m hm hN n2)
  have HBC := Lib.hid (fun W (hB : Below w.heap.size w W) => hc.below hB)
  have RB := Lib.hid (show Calls Try.prog 58 #[v, .slice A N c] w fun e w' => e = .returned (.bool true) ∧ Below w.heap.size w w' from HRT.out.mono (by
    rintro e w' ⟨bb, rfl, hbb, hB⟩
    refine ⟨?_, hB⟩
    rw [hbb.2 hok]))
  have SY := Lib.hid (fun W (hB : Below w.heap.size w W) => show Calls Try.prog 41 #[v] W fun e w' => e = .returned (.int .i64 ((a + 1) * a : Nat)) ∧ w' = W from symbols_any v n k ((a + 1) * a) W (hc.below hB).code (by omega) (by omega) (by rw [ha, show k - 1 + 1 = k by omega]))
  have a1 : 1 ≤ a := by omega
  have a7 : a ≤ 7 := by omega
  have hS56 : (a + 1) * a ≤ 56 := Nat.mul_le_mul (show a + 1 ≤ 8 by omega) a7
  have hL1 : L ≤ 5600 := by rw [hL]; exact Nat.mul_le_mul hS56 hs2
  have hL0 : 1 ≤ L := by
    rw [hL]
    exact Nat.mul_le_mul (Nat.mul_le_mul (show 1 ≤ a + 1 by omega) a1) hs1
  have HPX := Lib.hid (fun W (hB : Below w.heap.size w W) => (hp.below hB).fewer hk)
  have hx0 : (x 0).length = sz * a := by rw [hm, hsz]
  have HXL := Lib.hid (fun i (hi : i < k) => show (x i).length = sz * a by rw [hm, (hok i (by omega)).2.2.2.1, hsz])
  obtain ⟨adA, rfl, kp1, kp2, kp3, kp4, kp5⟩ := hp 0 (by omega)
  have e0 : adA.add (0 * 2) = adA := by simp [Addr.add]
  rw [e0] at kp1 kp2
  obtain ⟨⟨A0, m0, c0⟩, hh0⟩ : ∃ q, q = h 0 := ⟨_, rfl⟩
  rw [← hh0] at kp2 kp3
  have kp2' : w.cell? ⟨adA.block, adA.off + 1, none⟩ = some (.slice A0 m0 c0) := kp2
  obtain rfl : m0 = sz * a := by have : (x 0).length = m0 := kp3; omega
  obtain ⟨M0, hM0⟩ : ∃ M0, M0 = sz * a := ⟨_, rfl⟩
  have d1 : Int.tmod (M0 : Int) (a : Int) = 0 := by rw [tmod_nat, hM0, Nat.mul_mod_left]; rfl
  have d2 : Int.tdiv (M0 : Int) (a : Int) = (sz : Int) := by rw [tdiv_nat, hM0, Nat.mul_div_cancel _ (by omega)]
  have d3 : (M0 : Int) % (a : Int) = 0 := by rw [hM0, Int.natCast_mul]; exact Int.mul_emod_left _ _
  have d4 : (M0 : Int) / (a : Int) = (sz : Int) := by rw [hM0, Int.natCast_mul]; exact Int.mul_ediv_cancel _ (by omega)
  rw [← hM0] at kp2'
  have HM0 := Lib.hid hM0
  have HL0 := Lib.hid hL
  have KP2 := Lib.hid (fun W (hB : Below w.heap.size w W) => pw_cell_below hB kp2')
  obtain ⟨S0, hS0⟩ : ∃ S0, S0 = (a + 1) * a := ⟨_, rfl⟩
  rw [← hS0] at SY hL hS56
  have hS0' := Lib.hid hS0
  have d5 : IntKind.i64.wrap ((S0 : Int) * (sz : Int)) = (L : Int) := by rw [hL, ← Int.natCast_mul]; exact IntWalk.i64_in _ (by omega)
  have d6 : (S0 : Int) * (sz : Int) = (L : Int) := by rw [hL, ← Int.natCast_mul]
  have g3 : ¬ (N : Int) < (k : Int) := by omega
  have g4 : (k : Int) ≤ (N : Int) := by omega
  have g5 : (k : Int) ≤ (c : Int) := by omega
  have g6 : (0 : Int) < (N : Int) := by omega
  have g7 : (0 : Int) < (k : Int) := by omega
  have g8 : (0 : Int) < (a : Int) := by omega
  have g9 : (a : Int) ≠ 0 := by omega
  have g10 : ((a : Int) == 0) = false := by simp; omega
  have HXB := Lib.hid hxb
  have HBB := Lib.hid hB
  have HXM := Lib.hid hX
  have HOK := Lib.hid (fun i (hi : i < k) => show 0 ≤ s i ∧ s i < n from ⟨(hok i (by omega)).1, (hok i (by omega)).2.1⟩)
  have HIN := Lib.hid (show ∀ i j, i < k → j < k → ptS n k s i = ptS n k s j → i = j from ptS_inj (n := n) (k := k) (d := k) k1 k2 n2 hok hk)
  have HKA := Lib.hid (show k = a + 1 by omega)
  have HAK := Lib.hid ha
  obtain ⟨b, Ac, cc, rfl, hbk, hnc, hpt⟩ := hc
  have HBK := Lib.hid (fun W (hB : Below w.heap.size w W) => show W.cell? ⟨b, 1, none⟩ = some (.int .i64 k) from ((hbk.below hB hbk.lt).cell 1).trans rfl)
  clear hp hm hok hsz hL hxb hB hX ha kp1 kp2 kp3 kp4 kp5 e0 hh0 hM0 hS0 hx0 HRT hNc hk hbk hnc hpt kp2'
  go_enter Try.func37, Try.ntmps37
  go_upto_region 3 with (go_at_call 58; (with_reducible refine RB.out.mono ?_); rintro e w1 ⟨rfl, hb⟩; have HB1 := Lib.hid hb; clear hb)
  have y1 := HBK.out w1 HB1.out
  have y2 := KP2.out w1 HB1.out
  go_upto_region 5 with (fail)
  go_quiet ((go_at_call 23; exact Calls.quiet_of_same (HPP.out _ (pw_below_drewN HB1.out _))))
  have HBq := Lib.hid (pw_below_drewN HB1.out nq)
  obtain ⟨w2, hw2⟩ : ∃ w2, w2 = w1.drewN nq := ⟨_, rfl⟩
  rw [← hw2] at HBq ⊢
  clear y1 y2 hw2 HB1 RB d1 d3
  have y1 := HBK.out w2 HBq.out
  have y2 := KP2.out w2 HBq.out
  go_upto_region 8 with (fail)
  go_quiet ((go_at_call 23; exact Calls.quiet_of_same (HPP.out _ (pw_below_drewN HBq.out _))))
  have HBr := Lib.hid (pw_below_drewN HBq.out nq)
  obtain ⟨w3, hw3⟩ : ∃ w3, w3 = w2.drewN nq := ⟨_, rfl⟩
  rw [← hw3] at HBr ⊢
  clear y1 y2 hw3 HBq d2 d4 w2
  go_upto_region 11 with (first
    | (go_at_call 41; (with_reducible refine (SY.out _ HBr.out).mono ?_); rintro e u ⟨rfl, hu⟩; have hu' := hu.symm; subst hu'; clear hu)
    | (at_make; refine Kd.R_make (Kd.int .u8) w.heap.size 5 rfl (N := 60) rfl 22 _ _ rfl (L : Int) rfl rfl Try.underlying22 (.int .u8 0) 1 Rws.info_byte rfl (by decide) (by decide) 0 (ok := fun _ => True) (okp := fun _ => True) rfl (fun _ hk => hk) trivial (by omega) (by omega) HBr.out HBr.out.size ?_; intro v4 w4 h4 hb4 hg4 hf4; simp only [Int.toNat_natCast] at h4; obtain ⟨g, c4, hv4, hgb, _, _, _⟩ := Kd.R_form h4 (by rw [List.length_replicate]; omega); rw [List.length_replicate] at hv4; subst hv4; have HO0 := Lib.hid h4; have HB0 := Lib.hid hb4; have HGB := Lib.hid hgb; clear h4 hb4 hg4 hf4 hgb))
  clear SY d5 d6 HBr
  have HO1 := Lib.hid (show (Kd.int .u8).R 5 w4 w.heap.size (fun _ => True) (.slice (some ⟨g, 0, none⟩) L c4) (line L (fun _ => 0)) by rw [line_zero]; exact HO0.out)
  clear HO0
  go_loopw [8, 9, 10, 11, 12, 13, 14, 62] (fun _ _ _ _ _ _ _ iv wr => ∃ (i : Nat) (F : Nat → Int), i ≤ sz ∧ iv = .int .i64 i ∧ Hid (Cols sz L i (outB B sz) F) ∧ Hid ((Kd.int .u8).R 5 wr w.heap.size (fun _ => True) (.slice (some ⟨g, 0, none⟩) L c4) (line L F)) ∧ Hid (Below w.heap.size w wr)) (fun _ _ _ _ _ _ _ iv _ => sz - (intOf iv).toNat)
  case atStart => exact ⟨0, _, by omega, rfl, Lib.hid (fun pos _ h => absurd h (Nat.not_lt_zero _)), HO1, HB0⟩
  case round =>
    clear HO1 HB0
    obtain ⟨i, F, hi, rfl, HC, HO, HB⟩ := hrel
    by_cases hlt : i < sz
    · have q1 : (i : Int) < (sz : Int) := by omega
      have q2 : (0 : Int) ≤ (i : Int) := by omega
      have y1 := HBK.out wr HB.out
      obtain ⟨x1, hx1⟩ : ∃ x1, x1 = wr := ⟨_, rfl⟩
      rw [← hx1] at HO HB
      have HX1 := Lib.hid hx1
      go_upto_region 15 with (at_make; refine Kd.S_make kRow (w0 := x1) x1.heap.size 22 rfl (N := 69) rfl 39 _ _ rfl (k : Int) rfl rfl Try.underlying39 (.slice none 0 0) 24 info_rows rfl (by decide) (by decide) [] (ok := fun _ => True) (okp := fun _ => True) ⟨_, rfl, Kd.R_nil _ _ _ _ _⟩ (fun _ hk => hk) trivial (by omega) (by omega) (by rw [HX1.out]; exact Below.refl _ _) (by rw [HX1.out]; exact Nat.le_refl _) ?_; intro v5 w5 h5 hb5 hg5 hf5; simp only [Int.toNat_natCast] at h5; obtain ⟨bx, cx, hv5, hxb, _, _, _⟩ := Kd.S_form h5 (by rw [List.length_replicate]; omega); rw [List.length_replicate] at hv5; subst hv5; have HS0 := Lib.hid h5; have HQ0 := Lib.hid hb5; clear h5 hb5 hg5 hf5 hxb)
      clear hx1 HX1 y1
      have HS1 := Lib.hid (show RowsSB w5 x1.heap.size (.slice (some ⟨bx, 0, none⟩) k cx) (xsL k 0 0 (colX x sz i) a) by rw [xsL_zero]; exact HS0.out)
      clear HS0
      go_loopw [10, 11, 12, 72] (fun _ _ _ jv wr => ∃ (j : Nat), j ≤ k ∧ jv = .int .i64 j ∧ Hid (RowsSB wr x1.heap.size (.slice (some ⟨bx, 0, none⟩) k cx) (xsL k j 0 (colX x sz i) a)) ∧ Hid (Below x1.heap.size x1 wr)) (fun _ _ _ jv _ => k - (intOf jv).toNat)
      case atStart => exact ⟨0, by omega, rfl, HS1, HQ0⟩
      case round =>
        clear HS1 HQ0
        obtain ⟨j, hj, rfl, HS, HQ⟩ := hrel
        by_cases hji : j < k
        · have q3 : (j : Int) < (k : Int) := by omega
          have q4 : (0 : Int) ≤ (j : Int) := by omega
          have hBW := HB.out.trans (HQ.out.mono HB.out.size)
          obtain ⟨ad, e, kc1, kc2, kc3, kc4, kc5⟩ := HPX.out wr hBW j hji
          injection e with e
          subst e
          obtain ⟨⟨A2, m2, c2⟩, hh2⟩ : ∃ q, q = h j := ⟨_, rfl⟩
          rw [← hh2] at kc2 kc3 kc4 kc5
          have hk2 : wr.cell? ⟨(adA.add (j * 2)).block, (adA.add (j * 2)).off + 1, none⟩ = some (.slice A2 m2 c2) := kc2
          have kc5' : (Kd.int .u8).C wr A2 m2 (x j) := kc5
          have hm2 : m2 = M0 := by have h1 := HXL.out j hji; have h2 : (x j).length = m2 := kc3; rw [HM0.out]; omega
          rw [hm2] at hk2 kc5'
          have HDT1 := Lib.hid (fun W (hB : Below w.heap.size w W) => show (Kd.int .u8).C W A2 M0 (x j) by
            obtain ⟨ad, e, _, _, _, _, h5⟩ := HPX.out W hB j hji
            rw [← hh2] at h5
            rw [← hm2]
            exact h5)
          obtain ⟨sj, hsj⟩ : ∃ sj, sj = s j := ⟨_, rfl⟩
          rw [← hsj] at kc1
          obtain ⟨W1, hW1⟩ : ∃ W1, W1 = wr.alloc (.cells #[.int .i64 sj, .slice A2 M0 c2] 37) := ⟨_, rfl⟩
          have hb1 : Below wr.heap.size wr W1 := by rw [hW1]; exact (Below.refl _ _).alloc (Nat.le_refl _) _
          have HBP := Lib.hid (show Blk W1 wr.heap.size 37 #[.int .i64 sj, .slice A2 M0 c2] by rw [hW1]; exact Blk.new _ _ _)
          have HW1 := Lib.hid hW1
          have HQ1 := Lib.hid (HQ.out.trans (hb1.mono HQ.out.size))
          have HS1 := Lib.hid (Kd.S_below HS.out hb1)
          have HBW := Lib.hid (hBW.trans (hb1.mono hBW.size))
          obtain ⟨b1, hb1'⟩ : ∃ b1, b1 = wr.heap.size := ⟨_, rfl⟩
          rw [← hb1'] at HBP
          have HB1' := Lib.hid hb1'
          have HPR := Lib.hid (show x1.heap.size ≤ b1 by rw [hb1']; exact HQ.out.size)
          clear kc2 kc3 kc4 kc5 kc5' hh2 hm2 hsj hW1 hb1 hb1' HS HQ
          go_upto_region 17 with (fail)
          rw [← HW1.out, ← HB1'.out]
          clear kc1 hk2 HW1 HB1' hBW
          go_upto_region 18 with (go_at_call 23; (with_reducible refine (HPP.out _ HBW.out).mono ?_); rintro e u ⟨rfl, hu⟩; have hu' := hu.symm; subst hu'; clear hu)
          go_loopw [12, 79] (fun _ qv wr => ∃ (q : Nat), q ≤ a ∧ qv = .int .i64 q ∧ Hid (RowsSB wr x1.heap.size (.slice (some ⟨bx, 0, none⟩) k cx) (xsL k j q (colX x sz i) a)) ∧ Hid (Blk wr b1 37 #[.int .i64 sj, .slice A2 M0 c2]) ∧ Hid (Below x1.heap.size x1 wr)) (fun _ qv _ => a - (intOf qv).toNat)
          case atStart => exact ⟨0, by omega, rfl, HS1, HBP, HQ1⟩
          case round =>
            clear HS1 HBP HQ1
            obtain ⟨q, hq, rfl, HS, HBP, HQ⟩ := hrel
            by_cases hqa : q < a
            · have q5 : (q : Int) < (a : Int) := by omega
              have q6 : (0 : Int) ≤ (q : Int) := by omega
              have hpm : q * sz + i < M0 := by
                have h2 : (q + 1) * sz ≤ a * sz := Nat.mul_le_mul_right sz hqa
                rw [Nat.add_mul, Nat.one_mul] at h2
                have := HM0.out
                rw [Nat.mul_comm] at this
                omega
              have hM7 : M0 ≤ 700 := by rw [HM0.out]; exact Nat.mul_le_mul hs2 a7
              obtain ⟨qs, hqs⟩ : ∃ qs, qs = q * sz := ⟨_, rfl⟩
              obtain ⟨p, hp⟩ : ∃ p, p = qs + i := ⟨_, rfl⟩
              have hBW := HB.out.trans (HQ.out.mono HB.out.size)
              obtain ⟨ad2, rfl, kd⟩ := Sol.at_row (HDT1.out wr hBW) p (by omega)
              obtain ⟨z, hz⟩ : ∃ z, z = (x j).getD p 0 := ⟨_, rfl⟩
              rw [← hz] at kd
              have HZX := Lib.hid (show colX x sz i j q = z by unfold colX; rw [hz, hp, hqs])
              have KD := Lib.hid (fun W (hB : Below w.heap.size w W) => show W.cell? (ad2.add p) = some (.int .u8 z) by
                obtain ⟨ad3, e, kd3⟩ := Sol.at_row (HDT1.out W hB) p (by omega)
                injection e with e
                subst e
                rw [hz]
                exact kd3)
              obtain ⟨u, cu1, ⟨oku, hu⟩, hcu, hst⟩ := rows_app HS.out j hji
              have cu2 := hcu (wr.alloc (.cells #[.int .u8 z] 5)) ((Below.refl _ _).alloc (Nat.le_refl _) _)
              rw [xsL_get k j q _ a hji] at hu
              have hu' := Kd.R_mono hu (ok' := fun _ => True) (fun _ _ => trivial)
              have HU := Lib.hid hu'
              have HST := Lib.hid hst
              have HXS := Lib.hid (show (xsL k j q (colX x sz i) a).set j (line q (colX x sz i j) ++ [z]) = xsL k j (q + 1) (colX x sz i) a by rw [← HZX.out, xsL_set k j q _ a hji])
              have v1 : IntKind.i64.wrap ((q : Int) * (sz : Int)) = (qs : Int) := by rw [hqs, ← Int.natCast_mul]; exact IntWalk.i64_in _ (by rw [← hqs]; omega)
              have v2 : (q : Int) * (sz : Int) = (qs : Int) := by rw [hqs, ← Int.natCast_mul]
              have v3 : IntKind.i64.wrap ((qs : Int) + (i : Int)) = (p : Int) := by rw [IntWalk.i64_in _ (by omega)]; omega
              have v4 : (qs : Int) + (i : Int) = (p : Int) := by omega
              have v5 : IntKind.i64.wrap (p : Int) = (p : Int) := IntWalk.i64_in _ (by omega)
              have v6 : IntKind.i64.wrap (qs : Int) = (qs : Int) := IntWalk.i64_in _ (by omega)
              have t1 : (0 : Int) ≤ (p : Int) := by omega
              have t2 : (p : Int) < (M0 : Int) := by omega
              have t3 : p < M0 := by omega
              have HQ7 := Lib.hid (show q ≤ 7 by omega)
              have HNE := Lib.hid (show b1 ≠ bx ∧ x1.heap.size ≤ bx from ⟨fun e => Kd.S_ne HS.out HBP.out (by decide) (by rw [e]; rfl), Kd.S_base HS.out bx rfl⟩)
              clear hu hu' hst hcu hz hp hqs kd hpm hM7
              go_upto_region 20 with (fail)
              have HZ := Lib.hid (show Below x1.heap.size x1 wr.drew from HQ.out.drew)
              have HBz := Lib.hid (show Blk wr.drew b1 37 #[.int .i64 sj, .slice (some ad2) M0 c2] from HBP.out.drew)
              have KK := Lib.hid (fun W (h1 : Blk W b1 37 #[.int .i64 sj, .slice (some ad2) M0 c2]) (h2 : Below x1.heap.size x1 W) => (⟨(h1.cell 1).trans rfl, KD.out W (HB.out.trans (h2.mono HB.out.size))⟩ : W.cell? ⟨b1, 1, none⟩ = some (.slice (some ad2) M0 c2) ∧ W.cell? (ad2.add p) = some (.int .u8 z)))
              refine wp_region_noPanic ?_
              refine wp_region_held_drew (S := (fun W => W.cell? ⟨b1, 1, none⟩ = some (.slice (some ad2) M0 c2) ∧ W.cell? (ad2.add p) = some (.int .u8 z))) (by kernel_rfl) ?_ (fun hHeld => ?_)
              · ((try dsimp only); exact KK.out _ HBz.out HZ.out)
              refine wpAnyH_take (i := 0) (oi := { dst := some 82, op := .move (.tmp 9), type := 39, pos := _, after := _, guard := none }) (v := ?_) rfl (by kernel_rfl) (by kernel_rfl) (by kernel_rfl) (fun _ _ _ h => h) (Or.inl ⟨by rfl, ?_⟩) (by assumption) ?_
              rotate_left 1
              · (intro w hSw; (try dsimp only at hSw); go_simp; try with_reducible rfl)
              try simp only [Act.put, List.setIfInBounds_toArray, List.set_cons_zero, List.set_cons_succ]
              refine wpAnyH_take (i := 1) (oi := { dst := some 83, op := .move (.tmp 10), type := 3, pos := _, after := _, guard := none }) (v := ?_) rfl (by kernel_rfl) (by kernel_rfl) (by kernel_rfl) (fun _ _ _ h => h) (Or.inl ⟨by rfl, ?_⟩) (by assumption) ?_
              rotate_left 1
              · (intro w hSw; (try dsimp only at hSw); go_simp; try with_reducible rfl)
              try simp only [Act.put, List.setIfInBounds_toArray, List.set_cons_zero, List.set_cons_succ]
              refine wpAnyH_take (i := 2) (oi := { dst := some 84, op := .move (.tmp 9), type := 39, pos := _, after := _, guard := none }) (v := ?_) rfl (by kernel_rfl) (by kernel_rfl) (by kernel_rfl) (fun _ _ _ h => h) (Or.inl ⟨by rfl, ?_⟩) (by assumption) ?_
              rotate_left 1
              · (intro w hSw; (try dsimp only at hSw); go_simp; try with_reducible rfl)
              try simp only [Act.put, List.setIfInBounds_toArray, List.set_cons_zero, List.set_cons_succ]
              refine wpAnyH_take (i := 3) (oi := { dst := some 85, op := .move (.tmp 10), type := 3, pos := _, after := _, guard := none }) (v := ?_) rfl (by kernel_rfl) (by kernel_rfl) (by kernel_rfl) (fun _ _ _ h => h) (Or.inl ⟨by rfl, ?_⟩) (by assumption) ?_
              rotate_left 1
              · (intro w hSw; (try dsimp only at hSw); go_simp; try with_reducible rfl)
              try simp only [Act.put, List.setIfInBounds_toArray, List.set_cons_zero, List.set_cons_succ]
              refine wpAnyH_take (i := 4) (oi := { dst := some 86, op := .indexAddr 39 (.tmp 84) (.tmp 85), type := 0, pos := _, after := _, guard := none }) (v := ?_) rfl (by kernel_rfl) (by kernel_rfl) (by kernel_rfl) (fun _ _ _ h => h) (Or.inl ⟨by rfl, ?_⟩) (by assumption) ?_
              rotate_left 1
              · (intro w hSw; (try dsimp only at hSw); go_simp; try with_reducible rfl)
              try simp only [Act.put, List.setIfInBounds_toArray, List.set_cons_zero, List.set_cons_succ]
              refine wpAnyH_take (i := 6) (oi := { dst := some 88, op := .fieldAddr 37 (.tmp 11) 1, type := 0, pos := _, after := _, guard := none }) (v := ?_) rfl (by kernel_rfl) (by kernel_rfl) (by kernel_rfl) (fun _ _ _ h => h) (Or.inl ⟨by rfl, ?_⟩) (by assumption) ?_
              rotate_left 1
              · (intro w hSw; (try dsimp only at hSw); go_simp; try with_reducible rfl)
              try simp only [Act.put, List.setIfInBounds_toArray, List.set_cons_zero, List.set_cons_succ]
              refine wpAnyH_take (i := 7) (oi := { dst := some 89, op := .load 22 (.tmp 88), type := 22, pos := _, after := _, guard := none }) (v := ?_) rfl (by kernel_rfl) (by kernel_rfl) (by kernel_rfl) (fun _ _ _ h => h) (Or.inl ⟨by rfl, ?_⟩) (by assumption) ?_
              rotate_left 1
              · (intro w hSw; (try dsimp only at hSw); go_simp; try with_reducible rfl)
              try simp only [Act.put, List.setIfInBounds_toArray, List.set_cons_zero, List.set_cons_succ]
              refine wpAnyH_take (i := 8) (oi := { dst := some 90, op := .move (.tmp 12), type := 3, pos := _, after := _, guard := none }) (v := ?_) rfl (by kernel_rfl) (by kernel_rfl) (by kernel_rfl) (fun _ _ _ h => h) (Or.inl ⟨by rfl, ?_⟩) (by assumption) ?_
              rotate_left 1
              · (intro w hSw; (try dsimp only at hSw); go_simp; try with_reducible rfl)
              try simp only [Act.put, List.setIfInBounds_toArray, List.set_cons_zero, List.set_cons_succ]
              refine wpAnyH_take (i := 9) (oi := { dst := some 91, op := .move (.tmp 6), type := 3, pos := _, after := _, guard := none }) (v := ?_) rfl (by kernel_rfl) (by kernel_rfl) (by kernel_rfl) (fun _ _ _ h => h) (Or.inl ⟨by rfl, ?_⟩) (by assumption) ?_
              rotate_left 1
              · (intro w hSw; (try dsimp only at hSw); go_simp; try with_reducible rfl)
              try simp only [Act.put, List.setIfInBounds_toArray, List.set_cons_zero, List.set_cons_succ]
              refine wpAnyH_take (i := 10) (oi := { dst := some 92, op := .binOp .mul 3 (.tmp 90) (.tmp 91) 3, type := 3, pos := _, after := _, guard := none }) (v := ?_) rfl (by kernel_rfl) (by kernel_rfl) (by kernel_rfl) (fun _ _ _ h => h) (Or.inl ⟨by rfl, ?_⟩) (by assumption) ?_
              rotate_left 1
              · (intro w hSw; (try dsimp only at hSw); go_simp; try with_reducible rfl)
              try simp only [Act.put, List.setIfInBounds_toArray, List.set_cons_zero, List.set_cons_succ]
              refine wpAnyH_take (i := 11) (oi := { dst := some 93, op := .move (.tmp 8), type := 3, pos := _, after := _, guard := none }) (v := ?_) rfl (by kernel_rfl) (by kernel_rfl) (by kernel_rfl) (fun _ _ _ h => h) (Or.inl ⟨by rfl, ?_⟩) (by assumption) ?_
              rotate_left 1
              · (intro w hSw; (try dsimp only at hSw); go_simp; try with_reducible rfl)
              try simp only [Act.put, List.setIfInBounds_toArray, List.set_cons_zero, List.set_cons_succ]
              refine wpAnyH_take (i := 12) (oi := { dst := some 94, op := .binOp .add 3 (.tmp 92) (.tmp 93) 3, type := 3, pos := _, after := _, guard := none }) (v := ?_) rfl (by kernel_rfl) (by kernel_rfl) (by kernel_rfl) (fun _ _ _ h => h) (Or.inl ⟨by rfl, ?_⟩) (by assumption) ?_
              rotate_left 1
              · (intro w hSw; (try dsimp only at hSw); go_simp; try with_reducible rfl)
              try simp only [Act.put, List.setIfInBounds_toArray, List.set_cons_zero, List.set_cons_succ]
              refine wpAnyH_take (i := 13) (oi := { dst := some 95, op := .indexAddr 22 (.tmp 89) (.tmp 94), type := 0, pos := _, after := _, guard := none }) (v := ?_) rfl (by kernel_rfl) (by kernel_rfl) (by kernel_rfl) (fun _ _ _ h => h) (Or.inl ⟨by rfl, ?_⟩) (by assumption) ?_
              rotate_left 1
              · (intro w hSw; (try dsimp only at hSw); go_simp; try with_reducible rfl)
              try simp only [Act.put, List.setIfInBounds_toArray, List.set_cons_zero, List.set_cons_succ]
              refine wpAnyH_take (i := 14) (oi := { dst := some 96, op := .load 5 (.tmp 95), type := 5, pos := _, after := _, guard := none }) (v := ?_) rfl (by kernel_rfl) (by kernel_rfl) (by kernel_rfl) (fun _ _ _ h => h) (Or.inl ⟨by rfl, ?_⟩) (by assumption) ?_
              rotate_left 1
              · (intro w hSw; (try dsimp only at hSw); go_simp; try with_reducible rfl)
              try simp only [Act.put, List.setIfInBounds_toArray, List.set_cons_zero, List.set_cons_succ]
              refine wpAnyH_ready (rs := [5, 15]) (by kernel_rfl) (by simp) ?_
              refine AllReadyH.cons (o := { dst := some 87, op := .load 22 (.tmp 86), type := 22, pos := _, after := _, guard := none }) rfl (fun K hK => ?_) ?_
              · go_simp
                clear hHeld
                refine hK.out _ _ ?_ (fun hHeld => ?_)
                · ((try dsimp only); exact KK.out _ HBz.out HZ.out)
                clear hK K
                refine wpAnyH_ready (rs := [15]) (by kernel_rfl) (by simp) ?_
                refine AllReadyH.cons (o := { dst := some 97, op := .buildSlice 22 1 #[(0, .tmp 96)], type := 22, pos := _, after := _, guard := none }) rfl (fun K hK => ?_) AllReadyH.nil
                go_simp
                replace HBz := Lib.hid (HBz.out.alloc (.cells #[.int .u8 z] 5))
                replace HZ := Lib.hid (HZ.out.alloc HZ.out.size (.cells #[.int .u8 z] 5))
                clear hHeld
                refine hK.out _ _ ?_ (fun hHeld => ?_)
                · ((try dsimp only); exact KK.out _ HBz.out HZ.out)
                clear hK K
                refine wpAnyH_ready (rs := [16]) (by kernel_rfl) (by simp) ?_
                refine AllReadyH.cons (o := { dst := some 98, op := .call { callee := .builtin .append, args := #[.tmp 87, .tmp 97], argTypes := #[22, 22] }, type := 22, pos := _, after := _, guard := none }) rfl (fun K hK => ?_) AllReadyH.nil
                refine Kd.R_append_rows_step (Kd.int .u8) (w0 := x1) x1.heap.size (by rfl) (.tmp 87) (.tmp 97) 22 5 (.int .u8 0) 1 rfl Try.underlying22 Rws.info_byte rfl (by decide) (by decide) u (line q (colX x sz i j)) [z] _ _ _ (fun _ => True) (fun _ => False) rfl rfl (Kd.R_alloc (Kd.R_drew HU.out) _) ((Kd.R_reads' (lit1W (X := wr.drew) x1.heap.size HQ.out.size z)).2.2) (fun _ _ h => h) (fun _ h => h.elim) (fun _ _ => trivial) HZ.out HZ.out.size (by rw [line_len]; have := HQ7.out; simp; omega) ?_
                intro v7 x7 ho hb hg hat
                obtain ⟨A7, c7, e7⟩ := Kd.R_slice ho
                rw [show (line q (colX x sz i j) ++ [z]).length = q + 1 by simp [line_len]] at e7
                subst e7
                obtain ⟨f1, f2, f3⟩ := HST.out _ x7 _ _ (((Below.refl _ _).drew).alloc (Nat.le_refl _) _) ho hg hat
                rw [HXS.out] at f3
                have HS7 := Lib.hid f3
                have HB7 := Lib.hid (HBz.out.grown hg (Kd.R_ne (Kd.R_alloc (Kd.R_drew HU.out) (.cells #[.int .u8 z] 5)) HBz.out (by decide)))
                have HZ7 := Lib.hid hb
                have HB8 := Lib.hid (HB7.out.far (p := ⟨bx, j, none⟩) HNE.out.1 (.slice A7 (q + 1) c7))
                have HZ8 := Lib.hid (HZ7.out.setCell (p := ⟨bx, j, none⟩) HNE.out.2 (.slice A7 (q + 1) c7))
                clear ho hb hg hat f3
                clear hHeld
                refine hK.out _ _ ?_ (fun hHeld => ?_)
                · ((try dsimp only); exact KK.out _ HB7.out HZ7.out)
                clear hK K
                refine wpAnyH_take (i := 17) (oi := { dst := some 99, op := .indexAddr 39 (.tmp 82) (.tmp 83), type := 0, pos := _, after := _, guard := none }) (v := ?_) rfl (by kernel_rfl) (by kernel_rfl) (by kernel_rfl) (fun _ _ _ h => h) (Or.inl ⟨by rfl, ?_⟩) (by assumption) ?_
                rotate_left 1
                · (intro w hSw; (try dsimp only at hSw); go_simp; try with_reducible rfl)
                try simp only [Act.put, List.setIfInBounds_toArray, List.set_cons_zero, List.set_cons_succ]
                refine wpAnyH_ready (rs := [18]) (by kernel_rfl) (by simp) ?_
                refine AllReadyH.cons (o := { dst := none, op := .store 22 (.tmp 99) (.tmp 98), type := 0, pos := _, after := _, guard := none }) rfl (fun K hK => ?_) AllReadyH.nil
                go_simp
                clear hHeld
                refine hK.out _ _ ?_ (fun hHeld => ?_)
                · ((try dsimp only); exact KK.out _ HB8.out HZ8.out)
                clear hK K
                refine wpAnyH_done (by kernel_rfl) ?_ _
                refine NoPanic.normal ?_
                (go_wp2; go_roundw; (case rel => exact ⟨q + 1, by omega, by go_num, HS7, HB8, HZ8⟩); (case measure => simp [intOf]; omega))
              refine AllReadyH.cons (o := { dst := some 97, op := .buildSlice 22 1 #[(0, .tmp 96)], type := 22, pos := _, after := _, guard := none }) rfl (fun K hK => ?_) AllReadyH.nil
              go_simp
              replace HBz := Lib.hid (HBz.out.alloc (.cells #[.int .u8 z] 5))
              replace HZ := Lib.hid (HZ.out.alloc HZ.out.size (.cells #[.int .u8 z] 5))
              clear hHeld
              refine hK.out _ _ ?_ (fun hHeld => ?_)
              · ((try dsimp only); exact KK.out _ HBz.out HZ.out)
              clear hK K
              refine wpAnyH_ready (rs := [5]) (by kernel_rfl) (by simp) ?_
              refine AllReadyH.cons (o := { dst := some 87, op := .load 22 (.tmp 86), type := 22, pos := _, after := _, guard := none }) rfl (fun K hK => ?_) AllReadyH.nil
              go_simp
              clear hHeld
              refine hK.out _ _ ?_ (fun hHeld => ?_)
              · ((try dsimp only); exact KK.out _ HBz.out HZ.out)
              clear hK K
              refine wpAnyH_ready (rs := [16]) (by kernel_rfl) (by simp) ?_
              refine AllReadyH.cons (o := { dst := some 98, op := .call { callee := .builtin .append, args := #[.tmp 87, .tmp 97], argTypes := #[22, 22] }, type := 22, pos := _, after := _, guard := none }) rfl (fun K hK => ?_) AllReadyH.nil
              refine Kd.R_append_rows_step (Kd.int .u8) (w0 := x1) x1.heap.size (by rfl) (.tmp 87) (.tmp 97) 22 5 (.int .u8 0) 1 rfl Try.underlying22 Rws.info_byte rfl (by decide) (by decide) u (line q (colX x sz i j)) [z] _ _ _ (fun _ => True) (fun _ => False) rfl rfl (Kd.R_alloc (Kd.R_drew HU.out) _) ((Kd.R_reads' (lit1W (X := wr.drew) x1.heap.size HQ.out.size z)).2.2) (fun _ _ h => h) (fun _ h => h.elim) (fun _ _ => trivial) HZ.out HZ.out.size (by rw [line_len]; have := HQ7.out; simp; omega) ?_
              intro v7 x7 ho hb hg hat
              obtain ⟨A7, c7, e7⟩ := Kd.R_slice ho
              rw [show (line q (colX x sz i j) ++ [z]).length = q + 1 by simp [line_len]] at e7
              subst e7
              obtain ⟨f1, f2, f3⟩ := HST.out _ x7 _ _ (((Below.refl _ _).drew).alloc (Nat.le_refl _) _) ho hg hat
              rw [HXS.out] at f3
              have HS7 := Lib.hid f3
              have HB7 := Lib.hid (HBz.out.grown hg (Kd.R_ne (Kd.R_alloc (Kd.R_drew HU.out) (.cells #[.int .u8 z] 5)) HBz.out (by decide)))
              have HZ7 := Lib.hid hb
              have HB8 := Lib.hid (HB7.out.far (p := ⟨bx, j, none⟩) HNE.out.1 (.slice A7 (q + 1) c7))
              have HZ8 := Lib.hid (HZ7.out.setCell (p := ⟨bx, j, none⟩) HNE.out.2 (.slice A7 (q + 1) c7))
              clear ho hb hg hat f3
              clear hHeld
              refine hK.out _ _ ?_ (fun hHeld => ?_)
              · ((try dsimp only); exact KK.out _ HB7.out HZ7.out)
              clear hK K
              refine wpAnyH_take (i := 17) (oi := { dst := some 99, op := .indexAddr 39 (.tmp 82) (.tmp 83), type := 0, pos := _, after := _, guard := none }) (v := ?_) rfl (by kernel_rfl) (by kernel_rfl) (by kernel_rfl) (fun _ _ _ h => h) (Or.inl ⟨by rfl, ?_⟩) (by assumption) ?_
              rotate_left 1
              · (intro w hSw; (try dsimp only at hSw); go_simp; try with_reducible rfl)
              try simp only [Act.put, List.setIfInBounds_toArray, List.set_cons_zero, List.set_cons_succ]
              refine wpAnyH_ready (rs := [18]) (by kernel_rfl) (by simp) ?_
              refine AllReadyH.cons (o := { dst := none, op := .store 22 (.tmp 99) (.tmp 98), type := 0, pos := _, after := _, guard := none }) rfl (fun K hK => ?_) AllReadyH.nil
              go_simp
              clear hHeld
              refine hK.out _ _ ?_ (fun hHeld => ?_)
              · ((try dsimp only); exact KK.out _ HB8.out HZ8.out)
              clear hK K
              refine wpAnyH_done (by kernel_rfl) ?_ _
              refine NoPanic.normal ?_
              (go_wp2; go_roundw; (case rel => exact ⟨q + 1, by omega, by go_num, HS7, HB8, HZ8⟩); (case measure => simp [intOf]; omega))
            · obtain rfl : a = q := by omega
              go_wp2
              go_roundw
              case rel => exact ⟨j + 1, by omega, by go_num, Lib.hid (by rw [← xsL_next]; exact HS.out), HQ⟩
              case measure => simp [intOf]; omega
        · obtain rfl : k = j := by omega
          have hBW := HB.out.trans (HQ.out.mono HB.out.size)
          obtain ⟨f, hf⟩ : ∃ f, f = ptS n k s := ⟨_, rfl⟩
          have hfb : ∀ i, f i < 256 := fun i => by rw [hf]; exact ptN_lt n k _
          have hXr := (Kd.S_reads' HS.out).2.2
          rw [xsL_len, xsL_all] at hXr
          have hgx : g < x1.heap.size := Kd.R_lt HO.out g rfl
          have HG := Lib.hid hgx
          have HV := Lib.hid (show Calls Try.prog 59 #[.pointer (some ⟨b, 0, none⟩), .slice (some adA) k c, .slice (some ⟨bx, 0, none⟩) k cx] wr fun e w' => ∃ A1 c1 A2 c2, e = .returned (.tuple #[.slice A1 a c1, .slice A2 a c2]) ∧ RowsR w' wr.heap.size (.slice A1 a c1) (mat a a (fun r q => B (placeN a r q) i)) ∧ RowsR w' wr.heap.size (.slice A2 a c2) (mat a a (fun r q => B (placeN a (a + r) q) i)) ∧ Below wr.heap.size wr w' from
            halves_any _ n k c cx a (some adA) (some ⟨bx, 0, none⟩) s h x (colX x sz i) _ _ wr (HBC.out wr hBW) k1 k2 n2 HAK.out (HPX.out wr hBW) HOK.out HIN.out
              (fun i' j' hi' hj' e => HIN.out i' j' hi' hj' (by
                have h1 := HOK.out i' hi'
                have h2 := HOK.out j' hj'
                have e2 : gp (ptN n k (s i').toNat) (k - 1) = gp (ptN n k (s j').toNat) (k - 1) := by
                  have e3 : ((gp (ptS n k s i') a : Nat) : Int) = ((gp (ptS n k s j') a : Nat) : Int) := e
                  rw [HAK.out] at e3
                  exact Int.ofNat_inj.1 e3
                have := lam_inj n k (s i').toNat (s j').toNat k1 k2 n2 (by omega) (by omega) e2
                show ptN n k (s i').toNat = ptN n k (s j').toNat
                rw [this]))
              hXr (fun r q => HXB.out r _) (fun r q => HBB.out _ _) (fun r q => HBB.out _ _) (fun r u hr hu => by rw [(place_sym a r u a7 hr hu).1]) (fun r u hr hu => by rw [(place_sym a r u a7 hr hu).2]) (HXM.out i hlt))
          clear hXr hf hfb f
          have PU1 := Lib.hid (fun W A1 c1 M2 A2 c2 (hB : Below wr.heap.size wr W) (h1 : RowsR W wr.heap.size (.slice A1 a c1) (mat a a (fun r q => B (placeN a r q) i))) (h2 : RowsR W wr.heap.size (.slice A2 a c2) (mat a a M2)) =>
            show Calls Try.prog 60 #[.pointer (some ⟨b, 0, none⟩), .slice (some ⟨g, 0, none⟩) L c4, .slice A1 a c1, .int .i64 0, .int .i64 i, .int .i64 sz] W fun e w' => e = .returned (.tuple #[]) ∧ ∃ F', Put a 0 sz i a 0 F (outB B sz) F' ∧ (Kd.int .u8).R 5 w' w.heap.size (fun _ => True) (.slice (some ⟨g, 0, none⟩) L c4) (line L F') ∧ Kd.R kRow 22 w' wr.heap.size (fun q => wr.heap.size ≤ q) (.slice A2 a c2) (mat a a M2) ∧ Below w.heap.size w w' from
            put_keep (fun W => Kd.R kRow 22 W wr.heap.size (fun q => wr.heap.size ≤ q) (.slice A2 a c2) (mat a a M2)) (.pointer (some ⟨b, 0, none⟩)) n k a 0 i sz L g c4 c1 wr.heap.size A1 _ F (outB B sz) w W (HBC.out w (Below.refl _ _)).code k1 k2 HAK.out (Or.inl rfl) hs2 (hBW.trans (hB.mono hBW.size)) (Kd.R_base HO.out g rfl) (by have := HG.out; have := HQ.out.size; omega) hlt
            (fun i' kk h1 h2 => place_sz HL0.out (by rw [Nat.zero_add]; exact place_lt a i' kk a1 a7 (by omega) h2) hlt) (by omega) (fun i' kk h1 h2 => by rw [Nat.zero_add, outB_at _ _ _ _ hlt]) (Kd.R_below (Kd.R_below HO.out HQ.out) (hB.mono (Nat.le_refl _))) h1
            (Kd.R_mono (Kd.R_bound h2) (fun q hq => hq.2.1)) (fun W' p u hp hk => Kd.R_far hk (fun q hq e => by have := HG.out; have := HQ.out.size; have e' : q = p.block := e; omega) u) (fun W' j hk => Kd.R_drewN hk j))
          have PU2 := Lib.hid (fun W A2 c2 F1 (hB : Below w.heap.size w W) (ho : (Kd.int .u8).R 5 W w.heap.size (fun _ => True) (.slice (some ⟨g, 0, none⟩) L c4) (line L F1)) (h2 : Kd.R kRow 22 W wr.heap.size (fun q => wr.heap.size ≤ q) (.slice A2 a c2) (mat a a (fun r q => B (placeN a (a + r) q) i))) =>
            put_any (.pointer (some ⟨b, 0, none⟩)) n k a a i sz L g c4 c2 wr.heap.size A2 _ F1 (outB B sz) w W (HBC.out w (Below.refl _ _)).code k1 k2 HAK.out (Or.inr rfl) hs2 hB (Kd.R_base HO.out g rfl) (by have := HG.out; have := HQ.out.size; omega) hlt
            (fun i' kk h1 h2 => place_sz HL0.out (place_lt a (a + i') kk a1 a7 (by omega) h2) hlt) (by omega) (fun i' kk h1 h2 => by rw [outB_at _ _ _ _ hlt]) ho (Kd.R_mono h2 (fun _ _ => trivial)))
          have HBW := Lib.hid hBW
          clear hBW HS HQ hgx
          go_wp2_with (first
            | (go_at_call 59; (with_reducible refine HV.out.mono ?_); rintro e w6 ⟨A1, c1, A2, c2, rfl, hr1, hr2, hb⟩; have HP1 := Lib.hid (PU1.out _ _ c1 _ _ c2 hb hr1 hr2); clear HV PU1 hr1 hr2 hb)
            | (go_at_call 60; (with_reducible refine HP1.out.mono ?_); rintro e w7 ⟨rfl, F1, hp1, ho, hk, hb⟩; have HU1 := Lib.hid hp1; have HB7 := Lib.hid hb; have HP2 := Lib.hid (PU2.out _ _ c2 _ hb ho hk); clear HP1 PU2 hp1 ho hk hb)
            | (go_at_call 23; (with_reducible refine (HPP.out _ HB7.out).mono ?_); rintro e u ⟨rfl, hu⟩; have hu' := hu.symm; subst hu'; clear hu)
            | (go_at_call 60; (with_reducible refine HP2.out.mono ?_); rintro e w8 ⟨rfl, F2, hp2, ho, hb⟩; have HU2 := Lib.hid hp2; have HO8 := Lib.hid ho; have HB8 := Lib.hid hb; clear HP2 hp2 ho hb))
          go_roundw
          case rel => exact ⟨i + 1, F2, by omega, by go_num, Lib.hid (HC.out.more a1 a7 HL0.out hlt HU1.out HU2.out), HO8, HB8⟩
          case measure => simp [intOf]; omega
    · obtain rfl : sz = i := by omega
      go_wp2
      go_ret2
      exact ⟨_, _, rfl, by rw [← HC.out.all hs1]; exact HO.out, HB.out⟩
end Go.Proofs.Ytcnfafappcbpnaa.Hl
namespace Go.Proofs.Ytcnfafappcbpnaa.Hl
open Go Go.RowKit Go.Proofs.Ytcnfafappcbpnaa.Gf Go.Proofs.Ytcnfafappcbpnaa.Gi Go.Proofs.Ytcnfafappcbpnaa.Bits Go.Proofs.Ytcnfafappcbpnaa.Mem Go.Proofs.Ytcnfafappcbpnaa.VPts Go.Proofs.Ytcnfafappcbpnaa.Str Go.Proofs.Ytcnfafappcbpnaa.Rws Go.Proofs.Ytcnfafappcbpnaa.Par Go.Proofs.Ytcnfafappcbpnaa.BHealFragments Go.Proofs.YtcnfafappcbpnaaW.PrintWords
set_option linter.unusedVariables false
set_option maxRecDepth 100000 in
set_option maxHeartbeats 1000000 in
theorem decode_bad (v : Value) (n k N c : Nat) (A : Option Addr) (s : Nat → Int) (h : Nat → Hd) (x : Nat → List Int) (m : Nat → Nat) (w : World) (hc : IsCodeP w v n k) (n2 : n ≤ 24) (hp : PA w A N s h x) (hm : ∀ i, (x i).length = m i) (hN : N ≤ 100) (hno : ¬ okTo n s m N) :
    Calls Try.prog 37 #[v, .slice A N c] w fun e w' => e = .returned (.tuple #[.slice none 0 0, .int .i64 1]) ∧ Below w.heap.size w w' := by
  have RB := Lib.hid (show Calls Try.prog 58 #[v, .slice A N c] w fun e w' => e = .returned (.bool false) ∧ Below w.heap.size w w' from (mright_any v n k N c A s h x w hc.code hp m hm hN n2).mono (by
    rintro e w' ⟨bb, rfl, hbb, hB⟩
    refine ⟨?_, hB⟩
    cases bb
    · rfl
    · exact absurd (hbb.1 rfl) hno))
  obtain ⟨b, Ac, cc, rfl, _⟩ := hc
  clear hp hm hno
  go_enter Try.func37, Try.ntmps37
  go_wp2_with (go_at_call 58; (with_reducible refine RB.out.mono ?_); rintro e w1 ⟨rfl, hb⟩; have HB1 := Lib.hid hb; clear hb)
  go_ret2
  exact ⟨rfl, HB1.out⟩
set_option maxRecDepth 100000 in
set_option maxHeartbeats 1000000 in
theorem decode_few (v : Value) (n k N c : Nat) (A : Option Addr) (s : Nat → Int) (h : Nat → Hd) (x : Nat → List Int) (m : Nat → Nat) (w : World) (hc : IsCodeP w v n k) (n2 : n ≤ 24) (hp : PA w A N s h x) (hm : ∀ i, (x i).length = m i) (hN : N ≤ 100) (hok : okTo n s m N) (hk : N < k) :
    Calls Try.prog 37 #[v, .slice A N c] w fun e w' => e = .returned (.tuple #[.slice none 0 0, .int .i64 24]) ∧ Below w.heap.size w w' := by
  have RB := Lib.hid (show Calls Try.prog 58 #[v, .slice A N c] w fun e w' => e = .returned (.bool true) ∧ Below w.heap.size w w' from (mright_any v n k N c A s h x w hc.code hp m hm hN n2).mono (by
    rintro e w' ⟨bb, rfl, hbb, hB⟩
    refine ⟨?_, hB⟩
    rw [hbb.2 hok]))
  obtain ⟨b, Ac, cc, rfl, hbk, hnc, hpt⟩ := hc
  have HBK := Lib.hid (fun W (hB : Below w.heap.size w W) => show W.cell? ⟨b, 1, none⟩ = some (.int .i64 k) from ((hbk.below hB hbk.lt).cell 1).trans rfl)
  have g3 : (N : Int) < (k : Int) := by omega
  clear hp hm hok hbk hnc hpt
  go_enter Try.func37, Try.ntmps37
  go_upto_region 3 with (go_at_call 58; (with_reducible refine RB.out.mono ?_); rintro e w1 ⟨rfl, hb⟩; have HB1 := Lib.hid hb; clear hb)
  have y1 := HBK.out w1 HB1.out
  go_wp2
  go_ret2
  exact ⟨rfl, HB1.out⟩
theorem tmod_nat2 (a b : Nat) : Int.tmod (a : Int) (b : Int) = ((a % b : Nat) : Int) := by simp [Int.tmod]
set_option maxRecDepth 100000 in
set_option maxHeartbeats 1000000 in
theorem decode_odd (v : Value) (n k N c a : Nat) (A : Option Addr) (s : Nat → Int) (h : Nat → Hd) (x : Nat → List Int) (m : Nat → Nat) (w : World) (hc : IsCodeP w v n k) (k1 : 2 ≤ k) (k2 : k ≤ 8) (n2 : n ≤ 24) (ha : a = k - 1) (hp : PA w A N s h x) (hm : ∀ i, (x i).length = m i) (hN : N ≤ 100) (hok : okTo n s m N) (hk : k ≤ N) (hsz : m 0 % a ≠ 0) (hm9 : m 0 ≤ 100000) :
    Calls Try.prog 37 #[v, .slice A N c] w fun e w' => e = .returned (.tuple #[.slice none 0 0, .int .i64 1]) ∧ Below w.heap.size w w' := by
  have HPP := Lib.hid (fun W (hB : Below w.heap.size w W) => show Calls Try.prog 23 #[v] W fun e w' => e = .returned (.int .i64 a) ∧ w' = W by rw [ha]; exact parts_any v n k W (hc.below hB).code (by omega) (by omega))
  have RB := Lib.hid (show Calls Try.prog 58 #[v, .slice A N c] w fun e w' => e = .returned (.bool true) ∧ Below w.heap.size w w' from (mright_any v n k N c A s h x w hc.code hp m hm hN n2).mono (by
    rintro e w' ⟨bb, rfl, hbb, hB⟩
    refine ⟨?_, hB⟩
    rw [hbb.2 hok]))
  obtain ⟨adA, rfl, kp1, kp2, kp3, kp4, kp5⟩ := hp 0 (by omega)
  have e0 : adA.add (0 * 2) = adA := by simp [Addr.add]
  rw [e0] at kp1 kp2
  obtain ⟨⟨A0, m0, c0⟩, hh0⟩ : ∃ q, q = h 0 := ⟨_, rfl⟩
  rw [← hh0] at kp2 kp3
  have kp2' : w.cell? ⟨adA.block, adA.off + 1, none⟩ = some (.slice A0 m0 c0) := kp2
  have hm0 : m0 = m 0 := by have : (x 0).length = m0 := kp3; rw [← hm 0]; exact this.symm
  rw [← hm0] at hsz hm9
  obtain ⟨r, hr⟩ : ∃ r, r = m0 % a := ⟨_, rfl⟩
  have r0 : r ≠ 0 := by rw [hr]; exact hsz
  have a1 : 1 ≤ a := by omega
  have d1 : Int.tmod (m0 : Int) (a : Int) = (r : Int) := by rw [tmod_nat2, hr]
  have d3 : (m0 : Int) % (a : Int) = (r : Int) := by rw [hr]; exact (Int.natCast_emod m0 a).symm
  have d4 : ((r : Int) != 0) = true := by simp; omega
  have KP2 := Lib.hid (fun W (hB : Below w.heap.size w W) => pw_cell_below hB kp2')
  have g3 : ¬ (N : Int) < (k : Int) := by omega
  have g6 : (0 : Int) < (N : Int) := by omega
  have g8 : (0 : Int) < (a : Int) := by omega
  have g9 : (a : Int) ≠ 0 := by omega
  have g10 : ((a : Int) == 0) = false := by simp; omega
  obtain ⟨b, Ac, cc, rfl, hbk, hnc, hpt⟩ := hc
  have HBK := Lib.hid (fun W (hB : Below w.heap.size w W) => show W.cell? ⟨b, 1, none⟩ = some (.int .i64 k) from ((hbk.below hB hbk.lt).cell 1).trans rfl)
  clear hp hm hok hbk hnc hpt hsz hr r0 kp1 kp2 kp2' kp3 kp4 kp5 e0 hh0 hm0 ha hk
  go_enter Try.func37, Try.ntmps37
  go_upto_region 3 with (go_at_call 58; (with_reducible refine RB.out.mono ?_); rintro e w1 ⟨rfl, hb⟩; have HB1 := Lib.hid hb; clear hb)
  have y1 := HBK.out w1 HB1.out
  have y2 := KP2.out w1 HB1.out
  go_upto_region 5 with (fail)
  go_quiet ((go_at_call 23; exact Calls.quiet_of_same (HPP.out _ (pw_below_drewN HB1.out _))))
  have HBq := Lib.hid (pw_below_drewN HB1.out nq)
  clear HB1 y1 y2
  go_wp2
  go_ret2
  exact ⟨rfl, HBq.out⟩
end Go.Proofs.Ytcnfafappcbpnaa.Hl
namespace Go.Proofs.Ytcnfafappcbpnaa.Plc
open Go Go.RowKit Go.Proofs.Ytcnfafappcbpnaa.Mem Go.Proofs.Ytcnfafappcbpnaa.Bits Go.Proofs.YtcnfafappcbpnaaW.PrintWords Go.Proofs.YtcnfafappcbpnaaW.PrintLast
set_option linter.unusedVariables false
def placeN (a r c : Nat) : Nat := (if r < a then 0 else a * (a + 1) / 2) + min (if r < a then r else r - a) c * a - min (if r < a then r else r - a) c * (min (if r < a then r else r - a) c - 1) / 2 + max (if r < a then r else r - a) c - min (if r < a then r else r - a) c
def put (o : List (List Int)) (i j : Nat) (v : Int) : List (List Int) := o.set i ((o.getD i []).set j v)
def run (a : Nat) : List (Nat × Nat × Nat) → List (List Int) → Nat → List (List Int)
  | [], o, _ => o
  | (h, i, j) :: r, o, n => run a r (put (put o (h * a + i) j n) (h * a + j) i n) (n + 1)
def restJ (a h i j : Nat) : List (Nat × Nat × Nat) := (List.range' j (a - j)).map (fun j => (h, i, j))
def restI (a h i : Nat) : List (Nat × Nat × Nat) := ((List.range' i (a - i)).map (fun i => restJ a h i i)).flatten
def restH (a h : Nat) : List (Nat × Nat × Nat) := ((List.range' h (2 - h)).map (fun h => restI a h 0)).flatten
theorem restJ_cons (a h i j : Nat) (hj : j < a) : restJ a h i j = (h, i, j) :: restJ a h i (j + 1) := by
  unfold restJ; rw [show a - j = (a - (j + 1)) + 1 by omega, List.range'_succ]; rfl
theorem restJ_nil (a h i j : Nat) (hj : a ≤ j) : restJ a h i j = [] := by unfold restJ; rw [show a - j = 0 by omega]; rfl
theorem restI_cons (a h i : Nat) (hi : i < a) : restI a h i = restJ a h i i ++ restI a h (i + 1) := by
  unfold restI; rw [show a - i = (a - (i + 1)) + 1 by omega, List.range'_succ]; rfl
theorem restI_nil (a h i : Nat) (hi : a ≤ i) : restI a h i = [] := by unfold restI; rw [show a - i = 0 by omega]; rfl
theorem restH_cons (a h : Nat) (hh : h < 2) : restH a h = restI a h 0 ++ restH a (h + 1) := by
  unfold restH; rw [show 2 - h = (2 - (h + 1)) + 1 by omega, List.range'_succ]; rfl
theorem restH_nil (a h : Nat) (hh : 2 ≤ h) : restH a h = [] := by unfold restH; rw [show 2 - h = 0 by omega]; rfl
def Shape (a : Nat) (o : List (List Int)) : Prop := o.length = 2 * a ∧ ∀ i, i < 2 * a → (o.getD i []).length = a
theorem shape_put {a : Nat} {o : List (List Int)} (h : Shape a o) (i j : Nat) (v : Int) : Shape a (put o i j v) := by
  refine ⟨by unfold put; rw [List.length_set]; exact h.1, fun k hk => ?_⟩
  unfold put
  rw [List.getD_eq_getElem?_getD, List.getElem?_set]
  by_cases e : i = k
  · subst e
    rw [if_pos rfl, if_pos (by rw [h.1]; exact hk)]
    simp only [Option.getD_some, List.length_set]
    exact h.2 i hk
  · rw [if_neg e, ← List.getD_eq_getElem?_getD]
    exact h.2 k hk
def zeros (a m : Nat) : List (List Int) := List.replicate m (List.replicate a 0)
theorem zeros_succ (a m : Nat) : zeros a (m + 1) = zeros a m ++ [List.replicate a 0] := List.replicate_succ'
theorem shape_zeros (a : Nat) : Shape a (zeros a (2 * a)) := by
  refine ⟨by simp [zeros], fun i hi => ?_⟩
  unfold zeros
  rw [List.getD_eq_getElem?_getD, List.getElem?_replicate, if_pos hi]
  simp
def placesL (a : Nat) : List (List Int) := run a (restH a 0) (zeros a (2 * a)) 0
def placesG (a : Nat) : List (List Int) := (List.range (2 * a)).map (fun r => (List.range a).map (fun c => (placeN a r c : Int)))
theorem places_eq (a : Nat) (h1 : 1 ≤ a) (h7 : a ≤ 7) : placesL a = placesG a := by
  rcases (show a = 1 ∨ a = 2 ∨ a = 3 ∨ a = 4 ∨ a = 5 ∨ a = 6 ∨ a = 7 by omega) with rfl | rfl | rfl | rfl | rfl | rfl | rfl <;> decide +kernel
abbrev kI : Kd (List Int) := Kd.slice 3 (Kd.int .i64)
abbrev RowsS (w : World) (base : Nat) (v : Value) (ls : List (List Int)) : Prop := Kd.S kI 38 w base (fun _ => True) v ls
theorem info_int : (Try.prog.info? 3).map (fun i => (i.zero, i.size, i.bytes)) = some (some (.int .i64 0), 1, 8) := by kernel_rfl
theorem info_ints : (Try.prog.info? 38).map (fun i => (i.zero, i.size, i.bytes)) = some (some (.slice none 0 0), 1, 24) := by kernel_rfl
theorem store_rows {W : World} {base n cc : Nat} {ad : Addr} {ls : List (List Int)} (h : RowsS W base (.slice (some ad) n cc) ls) (i k : Nat) (hi : i < ls.length) (hk : k < (ls.getD i []).length) :
    ∃ g c, W.cell? (ad.add i) = some (.slice (some ⟨g, 0, none⟩) (ls.getD i []).length c) ∧ W.cell? ⟨g, k, none⟩ = some (.int .i64 ((ls.getD i []).getD k 0)) ∧ W.frozen? ⟨g, k, none⟩ = false ∧ base ≤ g ∧
      ∀ x : Int, RowsS (W.setCell ⟨g, k, none⟩ (.int .i64 x)) base (.slice (some ad) n cc) (ls.set i ((ls.getD i []).set k x)) := by
  have hn := (Kd.R_reads' (Kd.S_R h)).1
  obtain ⟨oki, c, hcl, hM, hcc, hoki, hback⟩ := Kd.S_borrow h ([] : List Int) (i : Int) (by omega) (by omega)
  obtain ⟨v', rfl, hR⟩ := hM
  simp only [Int.toNat_natCast] at hR hcc hback
  obtain ⟨g, cap, rfl, hg1, hg2, _⟩ := Kd.R_form hR (by omega)
  have hown := Kd.own_of_R hR
  have hcell := hcc 0 _ rfl
  have hsz : kI.sz = 1 := rfl
  rw [hsz, Nat.mul_one, Nat.add_zero] at hcell
  obtain ⟨he, hf⟩ := own_at (xs := ls.getD i []) (k := .i64) hown (k : Int) (by omega) (by omega)
  refine ⟨g, cap, hcell, by simpa [rd] using he, by simpa using hf, hg1, fun x => ?_⟩
  have hst := own_store (k := .i64) (xs := ls.getD i []) hown (k : Int) x
  simp only [Int.toNat_natCast] at hst
  refine hback hst.2 (fun q hq => ?_) ⟨_, rfl, ?_⟩
  · cases hq
    exact hR.1 g rfl
  · refine Kd.R_of_own (enc := Value.int .i64) ?_ (fun q hq => ?_)
    · rw [List.length_set]
      exact hst.1
    · have : g = q := by simpa [Value.ownBlock] using hq
      subst this
      exact hR.1 g rfl
theorem rowsS_append {P : Program} {ops : Array Oper} {rest : List Oper} {o : Oper} {a : Act} {Q : Exit → Act → World → Prop} {w0 W wr : World} (hP : P = Try.prog) (base : Nat) (hgd : o.guard = none) (s x : Operand)
    (ho : o.op = .call { callee := .builtin .append, args := #[s, x], argTypes := #[68, 68] }) (v u : Value) (ls : List (List Int)) (ys : List Int)
    (hs : a.eval s = v) (hx : a.eval x = .slice (some ⟨W.heap.size, 0, none⟩) 1 1) (HR : RowsS wr base v ls) (HB : Below base w0 W) (hbase : base ≤ wr.heap.size) (hB : Below wr.heap.size wr W)
    (hu : (Kd.int .i64).R 3 W wr.heap.size (fun _ => True) u ys) (hl : ls.length ≤ 1000000)
    (h : ∀ v1 w1, RowsS w1 base v1 (ls ++ [ys]) → Below base w0 w1 → wpList P ops Q rest (a.put o.dst v1) w1) :
    wpList P ops Q (o :: rest) a (W.alloc (.cells #[u] 38)) := by
  subst hP
  have hown : W.ownsRow wr.heap.size 3 1 u ys.length (nums .i64 ys) := Kd.own_of_R hu
  have hub : ∀ k, u.ownBlock = some k → wr.heap.size ≤ k := fun k hk => own_base hown k hk
  have hS := Kd.S_elder' HR hub hB
  refine Kd.S_append kI (w0 := w0) base hgd s x 68 38 (.slice none 0 0) 24 ho Try.underlying68 info_ints rfl (by decide) (by decide) v ls ys [u] (fun _ => True)
    (fun k => some k = u.ownBlock) hs hx ⟨u, rfl, Kd.R_of_own (own_weaken hown hbase) (fun k hk => hk.symm)⟩ ?_ (fun _ _ => trivial) (Kd.S_mono hS (fun k hk => ⟨trivial, fun e => hk.2 e⟩)) HB (Nat.le_trans hbase hB.size) (by omega) (fun v1 w1 h1 h2 _ _ => h v1 w1 h1 h2)
  intro k hk
  refine ⟨trivial, fun e => ?_⟩
  have h1 := hub k hk.symm
  have := Kd.S_lt HR k e.symm
  omega
theorem restH_len (a : Nat) (h1 : 1 ≤ a) (h7 : a ≤ 7) : (restH a 0).length ≤ 56 := by
  rcases (show a = 1 ∨ a = 2 ∨ a = 3 ∨ a = 4 ∨ a = 5 ∨ a = 6 ∨ a = 7 by omega) with rfl | rfl | rfl | rfl | rfl | rfl | rfl <;> decide +kernel
def Left (a : Nat) (rem : List (Nat × Nat × Nat)) (o : List (List Int)) (n : Nat) : Prop := Shape a o ∧ n + rem.length ≤ 56 ∧ run a rem o n = placesL a
theorem left_step {a h i j : Nat} {r : List (Nat × Nat × Nat)} {o : List (List Int)} {n : Nat} (hl : Left a ((h, i, j) :: r) o n) : Left a r (put (put o (h * a + i) j n) (h * a + j) i n) (n + 1) := by
  obtain ⟨h1, h2, h3⟩ := hl
  refine ⟨shape_put (shape_put h1 _ _ _) _ _ _, ?_, h3⟩
  rw [List.length_cons] at h2; omega
set_option maxRecDepth 100000 in
set_option maxHeartbeats 4000000 in
theorem places_any (k : Nat) (w : World) (k1 : 2 ≤ k) (k2 : k ≤ 8) :
    Calls Try.prog 39 #[.int .i64 k] w fun e w' => ∃ A c, e = .returned (.slice A (2 * (k - 1)) c) ∧ 2 * (k - 1) ≤ c ∧ Kd.C kI w' A (2 * (k - 1)) (placesG (k - 1)) ∧ Below w.heap.size w w' := by
  obtain ⟨a, ha⟩ : ∃ a, a = k - 1 := ⟨_, rfl⟩
  rw [← ha]
  have a1 : 1 ≤ a := by omega
  have a7 : a ≤ 7 := by omega
  have d0 : IntKind.i64.wrap ((k : Int) - 1) = (a : Int) := by rw [IntWalk.i64_in _ (by omega)]; omega
  have d1 : IntKind.i64.wrap (2 * (a : Int)) = 2 * (a : Int) := IntWalk.i64_in _ (by omega)
  have PE := Lib.hid (places_eq a a1 a7)
  have HB0 := Lib.hid (Below.refl w.heap.size w)
  have HL0 := Lib.hid (show Left a (restH a 0) (zeros a (2 * a)) 0 from ⟨shape_zeros a, by have := restH_len a a1 a7; omega, rfl⟩)
  clear ha k1 k2
  go_enter Try.func39, Try.ntmps39
  go_wp2
  go_loopw [4, 5] (fun u iv wr => ∃ (i : Nat), i ≤ 2 * a ∧ iv = .int .i64 i ∧ Hid (RowsS wr w.heap.size u (zeros a i)) ∧ Hid (Below w.heap.size w wr)) (fun _ iv _ => 2 * a - (intOf iv).toNat)
  case atStart => exact ⟨0, by omega, rfl, Lib.hid (Kd.S_nil _ _ _ _ _), HB0⟩
  case round =>
    clear HB0
    obtain ⟨i, hi, rfl, HO, HB⟩ := hrel
    by_cases hlt : i < 2 * a
    · have g0 : (i : Int) < 2 * (a : Int) := by omega
      go_wp2_with (first
        | (at_make; refine Kd.R_make (Kd.int .i64) wr.heap.size 3 rfl (N := 20) rfl 38 _ _ rfl (a : Int) rfl rfl Try.underlying38 (.int .i64 0) 8 info_int rfl (by decide) (by decide) 0 (ok := fun _ => True) (okp := fun _ => True) rfl (fun _ hk => hk) trivial (by omega) (by omega) (Below.refl _ _) (Nat.le_refl _) ?_; intro v3 w3 h3 hb3 hg3 hf3; simp only [Int.toNat_natCast] at h3; obtain ⟨g, c3, hv3, _, _, _⟩ := Kd.R_form h3 (by rw [List.length_replicate]; exact a1); rw [List.length_replicate] at hv3; subst hv3; have HX := Lib.hid h3; have HB3 := Lib.hid hb3; clear h3 hb3 hg3 hf3)
        | (at_builtin; refine rowsS_append (w0 := w) rfl w.heap.size rfl _ _ rfl u4 (.slice (some ⟨g, 0, none⟩) a c3) (zeros a i) (List.replicate a 0) rfl rfl HO.out (HB.out.trans (HB3.out.mono HB.out.size)) HB.out.size HB3.out HX.out (by simp [zeros]; omega) ?_; intro v5 w5 h5 hb5; have H5 := Lib.hid h5; have HB5 := Lib.hid hb5; clear h5 hb5))
      go_roundw
      case rel => exact ⟨i + 1, by omega, by go_num, Lib.hid (by rw [zeros_succ]; exact H5.out), HB5⟩
      case measure => simp [intOf]; omega
    · obtain rfl : i = 2 * a := by omega
      obtain ⟨ad, c4, rfl⟩ : ∃ ad c4, u4 = .slice (some ad) (2 * a) c4 := by
        obtain ⟨g, cap, e, _⟩ := Kd.R_form (Kd.S_R HO.out) (by simp [zeros]; omega)
        exact ⟨⟨g, 0, none⟩, cap, by rw [e]; simp [zeros]⟩
      go_upto_region 9 with (fail)
      go_loopw [6, 7, 8, 9] (fun nx hv _ _ wr => ∃ (n h : Nat) (o : List (List Int)), h ≤ 2 ∧ nx = .int .i64 n ∧ hv = .int .i64 h ∧ Hid (Left a (restH a h) o n) ∧ Hid (RowsS wr w.heap.size (.slice (some ad) (2 * a) c4) o) ∧ Hid (Below w.heap.size w wr)) (fun _ hv _ _ _ => 2 - (intOf hv).toNat)
      case atStart => exact ⟨0, 0, _, by omega, rfl, rfl, HL0, HO, HB⟩
      case round =>
        clear HL0 HO HB
        obtain ⟨n, h, o, hh, rfl, rfl, HL, HO, HB⟩ := hrel
        by_cases hh2 : h < 2
        · have g1 : (h : Int) < 2 := by omega
          rw [restH_cons a h hh2] at HL
          have e1 : IntKind.i64.wrap ((h : Int) * (a : Int)) = ((h * a : Nat) : Int) := by
            have := Nat.mul_le_mul (show h ≤ 1 by omega) a7
            rw [← Int.natCast_mul]; exact IntWalk.i64_in _ (by omega)
          have hla : h * a + a ≤ 2 * a := by
            have := Nat.mul_le_mul_right a (show h ≤ 1 by omega)
            omega
          obtain ⟨q, hq⟩ : ∃ q, q = h * a := ⟨_, rfl⟩
          rw [← hq] at e1 hla
          have HQ := Lib.hid hq
          clear hq
          go_upto_region 12 with (fail)
          go_loopw [6, 8, 9] (fun nx iv _ wr => ∃ (n i : Nat) (o : List (List Int)), i ≤ a ∧ nx = .int .i64 n ∧ iv = .int .i64 i ∧ Hid (Left a (restI a h i ++ restH a (h + 1)) o n) ∧ Hid (RowsS wr w.heap.size (.slice (some ad) (2 * a) c4) o) ∧ Hid (Below w.heap.size w wr)) (fun _ iv _ _ => a - (intOf iv).toNat)
          case atStart => exact ⟨n, 0, o, by omega, rfl, rfl, HL, HO, HB⟩
          case round =>
            clear HL HO HB
            obtain ⟨n, i, o, hi, rfl, rfl, HL, HO, HB⟩ := hrel
            by_cases hia : i < a
            · have g2 : (i : Int) < (a : Int) := by omega
              rw [restI_cons a h i hia, List.append_assoc] at HL
              have e2 : IntKind.i64.wrap ((q : Int) + (i : Int)) = (q : Int) + (i : Int) := IntWalk.i64_in _ (by omega)
              have e3 : (0 : Int) ≤ (q : Int) + (i : Int) := by omega
              have e4 : (q : Int) + (i : Int) < ((2 * a : Nat) : Int) := by omega
              have e5 : ((q : Int) + (i : Int)).toNat = q + i := by omega
              go_upto_region 15 with (fail)
              go_loopw [6, 9] (fun nx jv wr => ∃ (n j : Nat) (o : List (List Int)), j ≤ a ∧ nx = .int .i64 n ∧ jv = .int .i64 j ∧ Hid (Left a (restJ a h i j ++ (restI a h (i + 1) ++ restH a (h + 1))) o n) ∧ Hid (RowsS wr w.heap.size (.slice (some ad) (2 * a) c4) o) ∧ Hid (Below w.heap.size w wr)) (fun _ jv _ => a - (intOf jv).toNat)
              case atStart => exact ⟨n, i, o, by omega, rfl, rfl, HL, HO, HB⟩
              case round =>
                clear HL HO HB
                obtain ⟨n, j, o, hj, rfl, rfl, HL, HO, HB⟩ := hrel
                by_cases hja : j < a
                · have g3 : (j : Int) < (a : Int) := by omega
                  rw [restJ_cons a h i j hja, List.cons_append] at HL
                  have hn56 : n + 1 ≤ 57 := by have := HL.out.2.1; omega
                  have hL2 := left_step HL.out
                  rw [← HQ.out] at hL2
                  obtain ⟨s1, s2⟩ := HL.out.1
                  obtain ⟨g, gc, o1, o2, o3, hgb, hst⟩ := store_rows HO.out (q + i) j (by rw [s1]; omega) (by rw [s2 _ (by omega)]; exact hja)
                  rw [s2 _ (by omega)] at o1
                  have hst1 := hst (n : Int)
                  obtain ⟨y, hy⟩ : ∃ y, y = (o.getD (q + i) []).getD j 0 := ⟨_, rfl⟩
                  rw [← hy] at o2
                  obtain ⟨W1, hW1⟩ : ∃ W1, W1 = wr.setCell ⟨g, j, none⟩ (.int .i64 n) := ⟨_, rfl⟩
                  have hB1 := HB.out.setCell (p := ⟨g, j, none⟩) hgb (.int .i64 n)
                  rw [← hW1] at hst1 hB1
                  have HO1 := Lib.hid (show RowsS W1 w.heap.size (.slice (some ad) (2 * a) c4) (put o (q + i) j n) from hst1)
                  have HB1 := Lib.hid hB1
                  have HW1 := Lib.hid hW1
                  have HL2 := Lib.hid hL2
                  have HS := Lib.hid HL.out.1
                  have g4 : (0 : Int) ≤ (i : Int) := by omega
                  have g5 : (0 : Int) ≤ (j : Int) := by omega
                  clear hst hst1 hy hW1 hB1 hL2 s1 s2 hgb
                  go_upto_region 18 with (fail)
                  rw [← HW1.out]
                  obtain ⟨s1, s2⟩ := shape_put (i := q + i) (j := j) (v := (n : Int)) HS.out
                  obtain ⟨g', gc', p1, p2, p3, hgb, hst⟩ := store_rows HO1.out (q + j) i (by rw [s1]; omega) (by rw [s2 _ (by omega)]; exact hia)
                  rw [s2 _ (by omega)] at p1
                  have hst1 := hst (n : Int)
                  have hB1 := HB1.out.setCell (p := ⟨g', i, none⟩) hgb (.int .i64 n)
                  obtain ⟨y', hy⟩ : ∃ y, y = ((put o (q + i) j n).getD (q + j) []).getD i 0 := ⟨_, rfl⟩
                  rw [← hy] at p2
                  have HO2 := Lib.hid (show RowsS (W1.setCell ⟨g', i, none⟩ (.int .i64 n)) w.heap.size (.slice (some ad) (2 * a) c4) (put (put o (q + i) j n) (q + j) i n) from hst1)
                  have HB2 := Lib.hid hB1
                  have e6 : IntKind.i64.wrap ((q : Int) + (j : Int)) = (q : Int) + (j : Int) := IntWalk.i64_in _ (by omega)
                  have e7 : (0 : Int) ≤ (q : Int) + (j : Int) := by omega
                  have e8 : (q : Int) + (j : Int) < ((2 * a : Nat) : Int) := by omega
                  have e9 : ((q : Int) + (j : Int)).toNat = q + j := by omega
                  clear hst hst1 hy hB1 s1 s2 hgb o1 o2 o3
                  go_wp2
                  go_roundw
                  case rel => exact ⟨n + 1, j + 1, _, by omega, by go_num, by go_num, HL2, HO2, HB2⟩
                  case measure => simp [intOf]; omega
                · obtain rfl : j = a := by omega
                  rw [restJ_nil _ _ _ _ (Nat.le_refl _), List.nil_append] at HL
                  go_wp2
                  go_roundw
                  case rel => exact ⟨n, i + 1, o, by omega, rfl, by go_num, HL, HO, HB⟩
                  case measure => simp [intOf]; omega
            · obtain rfl : i = a := by omega
              rw [restI_nil _ _ _ (Nat.le_refl _), List.nil_append] at HL
              go_wp2
              go_roundw
              case rel => exact ⟨n, h + 1, o, by omega, rfl, by go_num, HL, HO, HB⟩
              case measure => simp [intOf]; omega
        · obtain rfl : h = 2 := by omega
          rw [restH_nil a 2 (Nat.le_refl _)] at HL
          go_wp2
          go_ret
          have hfin := HL.out.2.2
          have h1 := Kd.S_reads' HO.out
          rw [show o = placesG a from hfin.trans PE.out] at h1
          rw [show (placesG a).length = 2 * a by simp [placesG]] at h1
          exact ⟨_, _, rfl, h1.2.1, h1.2.2, HB.out⟩
end Go.Proofs.Ytcnfafappcbpnaa.Plc
namespace Go.Proofs.Ytcnfafappcbpnaa.BSteps
open Go Go.RowKit Go.Proofs.Ytcnfafappcbpnaa.PSteps Go.Proofs.Ytcnfafappcbpnaa.Gf Go.Proofs.Ytcnfafappcbpnaa.Bits Go.Proofs.YtcnfafappcbpnaaW.PrintWords Go.Proofs.YtcnfafappcbpnaaW.PrintLast
theorem ref_bit (i : Nat) : ∀ (k n : Nat), n < 9223372036854775808 → i < 64 → i < k → coldframeref02_bit.f k n i = some ((n / 2 ^ i % 2 : Nat) : Int) := by
  induction i with
  | zero =>
    intro k n hn hi hk
    obtain ⟨k, rfl⟩ : ∃ m, k = m + 1 := ⟨k - 1, by omega⟩
    simp only [coldframeref02_bit.f, coldframeref02_bit.l0]
    rw [if_neg (by omega), Int.tmod_eq_emod_of_nonneg (by omega)]
    congr 1; simp
  | succ i ih =>
    intro k n hn hi hk
    obtain ⟨k, rfl⟩ : ∃ m, k = m + 1 := ⟨k - 1, by omega⟩
    simp only [coldframeref02_bit.f, coldframeref02_bit.l0]
    have e1 : wrap64 (Int.tdiv (n : Int) 2) = ((n / 2 : Nat) : Int) := by
      rw [Int.tdiv_eq_ediv_of_nonneg (by omega), wrap64_in _ (by omega) (by omega)]; omega
    have e2 : wrap64 (((i + 1 : Nat) : Int) - 1) = (i : Int) := by rw [wrap64_in _ (by omega) (by omega)]; omega
    rw [if_pos (by omega), e1, e2]
    have := ih k (n / 2) (by omega) (by omega) (by omega)
    simp only [coldframeref02_bit.f] at this
    rw [this, Nat.div_div_eq_div_mul, Nat.pow_succ, Nat.mul_comm 2]
theorem ref_power (i : Nat) : ∀ (k p : Nat), p * 2 ^ i < 9223372036854775808 → i < 64 → i < k → coldframeref02_power.l0 k i p = some ((p * 2 ^ i : Nat) : Int) := by
  induction i with
  | zero =>
    intro k p hp hi hk
    obtain ⟨k, rfl⟩ : ∃ m, k = m + 1 := ⟨k - 1, by omega⟩
    simp only [coldframeref02_power.l0]
    rw [if_neg (by omega)]
    congr 1; simp
  | succ i ih =>
    intro k p hp hi hk
    obtain ⟨k, rfl⟩ : ∃ m, k = m + 1 := ⟨k - 1, by omega⟩
    simp only [coldframeref02_power.l0]
    have hpos : 0 < 2 ^ i := Nat.two_pow_pos i
    have hle : p * 2 ≤ p * 2 ^ (i + 1) := by
      rw [Nat.pow_succ]; exact Nat.mul_le_mul_left p (by omega)
    have e1 : wrap64 ((p : Int) * 2) = ((p * 2 : Nat) : Int) := by
      rw [wrap64_in _ (by omega) (by omega)]; omega
    have e2 : wrap64 (((i + 1 : Nat) : Int) - 1) = (i : Int) := by rw [wrap64_in _ (by omega) (by omega)]; omega
    have e3 : p * 2 * 2 ^ i = p * 2 ^ (i + 1) := by rw [Nat.pow_succ, Nat.mul_assoc, Nat.mul_comm 2]
    rw [if_pos (by omega), e1, e2, ih k (p * 2) (by omega) (by omega) (by omega), e3]
theorem ref_pow2 (i k : Nat) (hi : i < 62) (hk : i < k) : coldframeref02_power.f k i = some ((2 ^ i : Nat) : Int) := by
  unfold coldframeref02_power.f
  have hp : 2 ^ i ≤ 2 ^ 61 := Nat.pow_le_pow_right (by decide) (by omega)
  have := ref_power i k 1 (by omega) (by omega) hk
  simpa using this
theorem ref_down (n : Nat) : ∀ (k p : Nat), n ≤ 7 → p < 2 ^ 15 → 40 ≤ k → coldframeref02_Mul.l1 (k + n) p ((n : Int) + 7) = some ((redA n p % 256 : Nat) : Int) := by
  induction n with
  | zero =>
    intro k p hn hp hk
    obtain ⟨k, rfl⟩ : ∃ m, k = m + 1 := ⟨k - 1, by omega⟩
    simp only [coldframeref02_Mul.l1, redA]
    rw [if_neg (by omega)]
    congr 1
  | succ n ih =>
    intro k p hn hp hk
    rw [show k + (n + 1) = (k + n) + 1 from rfl]
    simp only [coldframeref02_Mul.l1, redA]
    have e0 : ((n + 1 : Nat) : Int) + 7 = ((n + 8 : Nat) : Int) := by omega
    have e1 : wrap64 (((n + 8 : Nat) : Int) - 8) = (n : Int) := by rw [wrap64_in _ (by omega) (by omega)]; omega
    have e2 : wrap64 (((n + 8 : Nat) : Int) - 1) = (n : Int) + 7 := by rw [wrap64_in _ (by omega) (by omega)]; omega
    rw [e0, if_pos (by omega), ref_bit (n + 8) _ p (by omega) (by omega) (by omega)]
    simp only [bnd]
    rw [e1, e2]
    rcases bit01 (p / 2 ^ (n + 8)) with h | h
    · rw [if_neg (by omega), h, Nat.zero_mul, Nat.xor_zero, ih k p (by omega) hp hk]
    · have hq : 2 ^ n ≤ 2 ^ 6 := Nat.pow_le_pow_right (by decide) (by omega)
      have hm : 285 * 2 ^ n ≤ 285 * 2 ^ 6 := Nat.mul_le_mul_left 285 hq
      have hm' : 285 * 2 ^ n < 2 ^ 15 := Nat.lt_of_le_of_lt hm (by decide)
      have e3 : wrap64 (285 * ((2 ^ n : Nat) : Int)) = ((285 * 2 ^ n : Nat) : Int) := by
        show wrap64 (((285 : Nat) : Int) * ((2 ^ n : Nat) : Int)) = _
        rw [← Int.natCast_mul]; exact wrap64_nat _ (Nat.lt_of_lt_of_le hm' (by decide))
      rw [if_pos (by omega), ref_pow2 n _ (by omega) (by omega)]
      simp only [bnd]
      have hx : p ^^^ 285 * 2 ^ n < 2 ^ 15 := Nat.xor_lt_two_pow hp hm'
      rw [e3, xor_i64 p (285 * 2 ^ n) (Nat.lt_of_lt_of_le hp (by decide)) (Nat.lt_of_lt_of_le hm' (by decide)), h, Nat.one_mul, ih k _ (by omega) hx hk]
theorem ref_up (n : Nat) : ∀ (k a b p i : Nat), n + i = 8 → a < 256 → b < 256 → p < 2 ^ 15 → 60 ≤ k →
    coldframeref02_Mul.l0 (k + n) a b p i = some ((redA 7 (clA n (b / 2 ^ i) p (a * 2 ^ i)) % 256 : Nat) : Int) := by
  induction n with
  | zero =>
    intro k a b p i hi ha hb hp hk
    obtain ⟨k, rfl⟩ : ∃ m, k = m + 7 + 1 := ⟨k - 8, by omega⟩
    simp only [coldframeref02_Mul.l0, clA]
    rw [if_neg (by omega)]
    exact ref_down 7 k p (by omega) hp (by omega)
  | succ n ih =>
    intro k a b p i hi ha hb hp hk
    rw [show k + (n + 1) = (k + n) + 1 from rfl]
    simp only [coldframeref02_Mul.l0, clA]
    have e2 : wrap64 ((i : Int) + 1) = ((i + 1 : Nat) : Int) := by rw [wrap64_in _ (by omega) (by omega)]; omega
    have e4 : b / 2 ^ i / 2 = b / 2 ^ (i + 1) := by rw [Nat.div_div_eq_div_mul, Nat.pow_succ]
    have e5 : a * 2 ^ i * 2 = a * 2 ^ (i + 1) := by rw [Nat.pow_succ, Nat.mul_assoc]
    rw [if_pos (by omega), wrap64_nat b (by omega), wrap64_nat a (by omega), ref_bit i _ b (by omega) (by omega) (by omega)]
    simp only [bnd]
    rw [e2, e4, e5]
    rcases bit01 (b / 2 ^ i) with h | h
    · rw [if_neg (by omega), h, Nat.zero_mul, Nat.xor_zero, ih k a b p (i + 1) (by omega) ha hb hp hk]
    · have hq : 2 ^ i ≤ 2 ^ 7 := Nat.pow_le_pow_right (by decide) (by omega)
      have hm : a * 2 ^ i ≤ 255 * 2 ^ 7 := Nat.mul_le_mul (by omega) hq
      have hm' : a * 2 ^ i < 2 ^ 15 := Nat.lt_of_le_of_lt hm (by decide)
      have e3 : wrap64 ((a : Int) * ((2 ^ i : Nat) : Int)) = ((a * 2 ^ i : Nat) : Int) := by
        rw [← Int.natCast_mul]; exact wrap64_nat _ (Nat.lt_of_lt_of_le hm' (by decide))
      rw [if_pos (by omega), ref_pow2 i _ (by omega) (by omega)]
      simp only [bnd]
      have hx : p ^^^ a * 2 ^ i < 2 ^ 15 := Nat.xor_lt_two_pow hp hm'
      rw [e3, xor_i64 p (a * 2 ^ i) (Nat.lt_of_lt_of_le hp (by decide)) (Nat.lt_of_lt_of_le hm' (by decide)), h, Nat.one_mul, ih k a b _ (i + 1) (by omega) ha hb hx hk]
theorem ref_mul (k a b : Nat) (ha : a < 256) (hb : b < 256) (hk : 68 ≤ k) : coldframeref02_Mul.f k a b = some ((gm a b : Nat) : Int) := by
  unfold coldframeref02_Mul.f
  obtain ⟨k, rfl⟩ : ∃ m, k = m + 8 := ⟨k - 8, by omega⟩
  have h := ref_up 8 k a b 0 0 (by omega) ha hb (by omega) (by omega)
  have h1 := ref_eq a b ha hb
  have h2 := gm_lt a b ha
  simp only [Nat.pow_zero, Nat.div_one, Nat.mul_one, h1, Nat.mod_eq_of_lt h2] at h
  exact h
end Go.Proofs.Ytcnfafappcbpnaa.BSteps
namespace Go.Proofs.Ytcnfafappcbpnaa.Sol
open Go Go.RowKit Go.Proofs.Ytcnfafappcbpnaa.PSteps Go.Proofs.Ytcnfafappcbpnaa.BSteps Go.Proofs.Ytcnfafappcbpnaa.Gf Go.Proofs.Ytcnfafappcbpnaa.Gi Go.Proofs.Ytcnfafappcbpnaa.Bits Go.Proofs.Ytcnfafappcbpnaa.Rws Go.Proofs.YtcnfafappcbpnaaW.PrintWords Go.Proofs.YtcnfafappcbpnaaW.PrintLast
set_option linter.unusedVariables false
def upto (m : Nat) (f : Nat → Int) (i : Nat) : List Int := line m (fun j => if j < i then f j else 0)
theorem upto_zero (m : Nat) (f : Nat → Int) : upto m f 0 = List.replicate m 0 := by
  rw [← line_zero]; exact line_congr m _ _ (fun j _ => by rw [if_neg (Nat.not_lt_zero j)])
theorem upto_full (m : Nat) (f : Nat → Int) : upto m f m = line m f := line_congr m _ _ (fun j hj => by rw [if_pos hj])
theorem upto_len (m : Nat) (f : Nat → Int) (i : Nat) : (upto m f i).length = m := line_len _ _
theorem upto_set (m : Nat) (f : Nat → Int) (i : Nat) (hi : i < m) : (upto m f i).set i (f i) = upto m f (i + 1) := by
  unfold upto
  rw [line_set m _ i hi]
  refine line_congr m _ _ (fun k hk => ?_)
  by_cases e : k = i
  · subst e; rw [if_pos rfl, if_pos (by omega)]
  · rw [if_neg e]
    by_cases h : k < i
    · rw [if_pos h, if_pos (by omega)]
    · rw [if_neg h, if_neg (by omega)]
theorem rd_line (m : Nat) (f : Nat → Int) (i : Nat) (hi : i < m) : rd (line m f) (i : Int) = f i := by
  have h := line_get m f i hi
  simpa [rd, List.getD_eq_getElem?_getD] using h
theorem inc (i : Nat) (h : i < 1000000) : wrap64 ((i : Int) + 1) = ((i + 1 : Nat) : Int) := by rw [wrap64_in _ (by omega) (by omega)]; omega
theorem mulI (k : Nat) (a b : Int) (ha : Byt a) (hb : Byt b) (hk : 68 ≤ k) : coldframeref02_Mul.f k a b = some (gmI a b) := by
  obtain ⟨x, hx, rfl⟩ := byt_nat ha
  obtain ⟨y, hy, rfl⟩ := byt_nat hb
  rw [ref_mul k x y hx hy hk]; simp [gmI]
theorem times_loop (m : Nat) (hm : m ≤ 1000) (f : Nat → Int) (x : Int) (hf : ∀ i, Byt (f i)) (hx : Byt x) (d : Nat) : ∀ (k i : Nat), i + d = m → 100 + d ≤ k → coldframeref04_times.l0 k (line m f) x (upto m (fun i => gmI (f i) x) i) (i : Int) = some (line m (fun i => gmI (f i) x)) := by
  induction d with
  | zero =>
    intro k i hi hk
    obtain ⟨k, rfl⟩ : ∃ q, k = q + 1 := ⟨k - 1, by omega⟩
    obtain rfl : i = m := by omega
    simp only [coldframeref04_times.l0]
    rw [line_len, if_neg (by omega), upto_full]
  | succ d ih =>
    intro k i hi hk
    obtain ⟨k, rfl⟩ : ∃ q, k = q + 1 := ⟨k - 1, by omega⟩
    simp only [coldframeref04_times.l0]
    rw [line_len, if_pos (by omega), if_pos (by omega), rd_line m f i (by omega), mulI k _ _ (hf i) hx (by omega), Option.bind_some, upto_len, if_pos (by omega), Int.toNat_natCast, upto_set m (fun i => gmI (f i) x) i (by omega), inc i (by omega)]
    exact ih k (i + 1) (by omega) (by omega)
theorem times_f (m : Nat) (hm : m ≤ 1000) (f : Nat → Int) (x : Int) (hf : ∀ i, Byt (f i)) (hx : Byt x) : coldframeref04_times.f 2000 (line m f) x = some (line m (fun i => gmI (f i) x)) := by
  unfold coldframeref04_times.f
  rw [line_len, if_pos (by omega), if_pos (by omega), Int.toNat_natCast, ← upto_zero m (fun i => gmI (f i) x)]
  exact times_loop m hm f x hf hx m 2000 0 (by omega) (by omega)
theorem plus_loop (m : Nat) (hm : m ≤ 1000) (f g : Nat → Int) (hf : ∀ i, Byt (f i)) (hg : ∀ i, Byt (g i)) (d : Nat) : ∀ (k i : Nat), i + d = m → 100 + d ≤ k → coldframeref04_plus.l0 k (line m f) (line m g) (upto m (fun i => xorI (f i) (g i)) i) (i : Int) = some (line m (fun i => xorI (f i) (g i))) := by
  induction d with
  | zero =>
    intro k i hi hk
    obtain ⟨k, rfl⟩ : ∃ q, k = q + 1 := ⟨k - 1, by omega⟩
    obtain rfl : i = m := by omega
    simp only [coldframeref04_plus.l0]
    rw [line_len, if_neg (by omega), upto_full]
  | succ d ih =>
    intro k i hi hk
    obtain ⟨k, rfl⟩ : ∃ q, k = q + 1 := ⟨k - 1, by omega⟩
    simp only [coldframeref04_plus.l0]
    rw [line_len, if_pos (by omega), if_pos (by omega), line_len, if_pos (by omega), upto_len, if_pos (by omega), rd_line m f i (by omega), rd_line m g i (by omega), xor_bits (hf i) (hg i), Int.toNat_natCast, upto_set m (fun i => xorI (f i) (g i)) i (by omega), inc i (by omega)]
    exact ih k (i + 1) (by omega) (by omega)
theorem plus_f (m : Nat) (hm : m ≤ 1000) (f g : Nat → Int) (hf : ∀ i, Byt (f i)) (hg : ∀ i, Byt (g i)) : coldframeref04_plus.f 2000 (line m f) (line m g) = some (line m (fun i => xorI (f i) (g i))) := by
  unfold coldframeref04_plus.f
  rw [line_len, if_pos (by omega), if_pos (by omega), Int.toNat_natCast, ← upto_zero m (fun i => xorI (f i) (g i))]
  exact plus_loop m hm f g hf hg m 2000 0 (by omega) (by omega)
theorem inv_loop (a : Int) (ha : Byt a) (d : Nat) : ∀ (k b : Nat), b + d = 256 → (∃ j : Nat, b ≤ j ∧ j < 256 ∧ gmI a j = 1) → 100 + d ≤ k → ∃ r, Byt r ∧ gmI a r = 1 ∧ coldframeref02_Inv.l0 k a (b : Int) = some r := by
  induction d with
  | zero => intro k b hb ⟨j, h1, h2, _⟩; omega
  | succ d ih =>
    intro k b hb hj hk
    obtain ⟨k, rfl⟩ : ∃ q, k = q + 1 := ⟨k - 1, by omega⟩
    simp only [coldframeref02_Inv.l0]
    have e : ((b : Int) % 256) = (b : Int) := by omega
    rw [if_pos (by omega), e, mulI k a b ha ⟨by omega, by omega⟩ (by omega), Option.bind_some]
    by_cases h1 : gmI a b = 1
    · rw [if_pos h1]; exact ⟨_, ⟨by omega, by omega⟩, h1, rfl⟩
    · rw [if_neg h1, inc b (by omega)]
      obtain ⟨j, j1, j2, j3⟩ := hj
      have hne : j ≠ b := fun e => h1 (by rw [← e]; exact j3)
      exact ih k (b + 1) (by omega) ⟨j, by omega, j2, j3⟩ (by omega)
theorem inv_f (a : Int) (ha : Byt a) (h0 : a ≠ 0) : ∃ r, Byt r ∧ gmI a r = 1 ∧ coldframeref02_Inv.f 2000 a = some r := by
  obtain ⟨x, hx, rfl⟩ := byt_nat ha
  refine inv_loop x ha 255 2000 1 rfl ⟨ginv x, ?_, ginv_lt x hx, ?_⟩ (by omega)
  · rcases Nat.eq_zero_or_pos (ginv x) with h | h
    · have := gm_inv x hx (by omega)
      rw [h, gm_zero_right] at this
      cases this
    · exact h
  · simp only [gmI, Int.toNat_natCast, gm_inv x hx (by omega)]; rfl
theorem times_any (m c0 : Nat) (A : Option Addr) (f : Nat → Int) (x : Int) (w : World) (hC : (Kd.int .u8).C w A m (line m f)) (hf : ∀ i, Byt (f i)) (hx : Byt x) (hc : m ≤ c0) (hm : m ≤ 1000) :
    Calls Try.prog 55 #[.slice A m c0, .int .u8 x] w fun e w' => ∃ A' c', e = .returned (.slice A' m c') ∧ Kd.R (Kd.int .u8) 5 w' w.heap.size (fun _ => True) (.slice A' m c') (line m (fun i => gmI (f i) x)) ∧ Below w.heap.size w w' := by
  have h := coldframeref04_times.calls 2000 A c0 (line m f) x _ w (by rw [line_len]; exact hC) (by rw [line_len]; exact hc) (times_f m hm f x hf hx)
  rw [line_len] at h
  refine h.mono ?_
  rintro e w' ⟨v, rfl, hR, hB⟩
  obtain ⟨A', c', rfl⟩ := Kd.R_slice hR
  rw [line_len] at hR ⊢
  exact ⟨A', c', rfl, hR, hB⟩
theorem plus_any (m c0 c1 : Nat) (A A1 : Option Addr) (f g : Nat → Int) (w : World) (hC : (Kd.int .u8).C w A m (line m f)) (hC1 : (Kd.int .u8).C w A1 m (line m g)) (hf : ∀ i, Byt (f i)) (hg : ∀ i, Byt (g i)) (hc : m ≤ c0) (hc1 : m ≤ c1) (hm : m ≤ 1000) :
    Calls Try.prog 57 #[.slice A m c0, .slice A1 m c1] w fun e w' => ∃ A' c', e = .returned (.slice A' m c') ∧ Kd.R (Kd.int .u8) 5 w' w.heap.size (fun _ => True) (.slice A' m c') (line m (fun i => xorI (f i) (g i))) ∧ Below w.heap.size w w' := by
  have h := coldframeref04_plus.calls 2000 A c0 (line m f) A1 c1 (line m g) _ w (by rw [line_len]; exact hC) (by rw [line_len]; exact hc) (by rw [line_len]; exact hC1) (by rw [line_len]; exact hc1) (plus_f m hm f g hf hg)
  rw [line_len, line_len] at h
  refine h.mono ?_
  rintro e w' ⟨v, rfl, hR, hB⟩
  obtain ⟨A', c', rfl⟩ := Kd.R_slice hR
  rw [line_len] at hR ⊢
  exact ⟨A', c', rfl, hR, hB⟩
theorem inv_any (a : Int) (ha : Byt a) (h0 : a ≠ 0) : ∃ r, Byt r ∧ gmI a r = 1 ∧ ∀ w, Calls Try.prog 56 #[.int .u8 a] w fun e w' => e = .returned (.int .u8 r) ∧ Below w.heap.size w w' := by
  obtain ⟨r, h1, h2, h3⟩ := inv_f a ha h0
  refine ⟨r, h1, h2, fun w => (coldframeref02_Inv.calls 2000 a r w h3).mono ?_⟩
  rintro e w' ⟨rfl, hD⟩
  obtain ⟨n, rfl⟩ := hD.out
  exact ⟨rfl, pw_below_drewN (Below.refl _ _) n⟩
end Go.Proofs.Ytcnfafappcbpnaa.Sol
