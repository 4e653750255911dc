/- The statement VandWhole: what its proof rests on, part 2 of 2. -/
import Derived.Test.YtelgefkfflgbeaaProg
import Derived.Below
import Derived.Deep.Draws
import Derived.Deep.AppendLies
import Derived.Maps.AppendAt
import Derived.OwnWalk
import Derived.Laws.BytesArg
import Derived.Laws.MakeOwn
import Derived.Laws.OwnMore
import Derived.Deep.OwnRows
import Derived.Tactics
import Derived.Lib.ConvBytes
import Derived.Laws.Slices
import Derived.WalkKit
import Derived.KernelRfl
import Derived.RowKit3
import Derived.Deep.LoopGhost
import Derived.Deep.QuietTactic
import Derived.BigQuiet
import Derived.WideLaws
import Derived.Deep.DeepCutAuto
import Derived.Deep.CutBlock
import Derived.Deep.RegionHeld3
import Derived.Laws.Rows
import Derived.Lib.AppendStr
import Derived.ArgAppend
import Derived.Laws.IdiomCopy
import Derived.OrdersHeld
import Derived.Laws.BitsLemmas
import Derived.RowKit
import Derived.Lib.Hide
import Derived.WalkSpells
import Derived.Outline
import Derived.Test.YtelgefkfflgbeaaWWords
import Derived.StillTailTactics
import Derived.Lib.Strings
import Derived.Test.YtelgefkfflgbeaaZVandWholea
/- Matrices as lists of bytes: what their products and turnings come to, in the field. -/
namespace Go.Proofs.Ytelgefkfflgbeaa.Mat
open Go Go.RowKit Go.Proofs.Ytelgefkfflgbeaa.Alg Go.Proofs.Ytelgefkfflgbeaa.Gf

/-- The element at a place. -/
def el (c : Nat) (xs : List Int) (i k : Nat) : G := G.of (xs.getD (i * c + k) 0)

theorem getD_range {xs : List Int} (h : Bytes xs) (n : Nat) : 0 ≤ xs.getD n 0 ∧ xs.getD n 0 < 256 := h.getD n
theorem el_int {xs : List Int} (h : Bytes xs) (c i k : Nat) : (el c xs i k).int = xs.getD (i * c + k) 0 := G.int_of _ (h.getD _)
theorem xorI_G {a b : Int} (ha : 0 ≤ a ∧ a < 256) (hb : 0 ≤ b ∧ b < 256) : xorI a b = (G.of a + G.of b).int := by
  have e1 : a.toNat % 256 = a.toNat := by omega
  have e2 : b.toNat % 256 = b.toNat := by omega
  show ((a.toNat ^^^ b.toNat : Nat) : Int) = ((a.toNat % 256 ^^^ b.toNat % 256 : Nat) : Int)
  rw [e1, e2]
theorem gmI_G {a b : Int} (ha : 0 ≤ a ∧ a < 256) (hb : 0 ≤ b ∧ b < 256) : gmI a b = (G.of a * G.of b).int := by
  have e1 : a.toNat % 256 = a.toNat := by omega
  have e2 : b.toNat % 256 = b.toNat := by omega
  show ((gm a.toNat b.toNat : Nat) : Int) = ((gm (a.toNat % 256) (b.toNat % 256) : Nat) : Int)
  rw [e1, e2]
theorem dotTo_G {xs ys : List Int} (hx : Bytes xs) (hy : Bytes ys) (n : Nat) : dotTo xs ys n = (sum n (fun j => G.of (xs.getD j 0) * G.of (ys.getD j 0))).int := by
  induction n with
  | zero => rfl
  | succ n ih =>
    rw [dotTo, ih, gmI_G (hx.getD n) (hy.getD n), xorI_G (G.int_range _) (G.int_range _), G.of_int, G.of_int]
    rfl

theorem fillRow_len (c : Nat) (f : Nat → Nat → Int) (i : Nat) (ys : List Int) : ∀ k, (fillRow c f i k ys).length = ys.length
  | 0 => rfl
  | k + 1 => by rw [fillRow, List.length_set, fillRow_len c f i ys k]
theorem fillTo_len (r c : Nat) (f : Nat → Nat → Int) : ∀ i, (fillTo r c f i).length = r * c
  | 0 => by simp [fillTo]
  | i + 1 => by rw [fillTo, fillRow_len, fillTo_len r c f i]
theorem fillRow_get (c : Nat) (f : Nat → Nat → Int) (i : Nat) (ys : List Int) (k : Nat) (hi : i * c + c ≤ ys.length) : k ≤ c → ∀ n, (fillRow c f i k ys).getD n 0 = if i * c ≤ n ∧ n < i * c + k then f i (n - i * c) else ys.getD n 0 := by
  induction k with
  | zero => intro _ n; rw [if_neg (by omega)]; rfl
  | succ k ih =>
    intro hk n
    rw [fillRow, List.getD_eq_getElem?_getD, List.getElem?_set]
    by_cases e : i * c + k = n
    · subst e
      rw [if_pos rfl, if_pos (by rw [fillRow_len]; omega), if_pos (by omega)]
      simp
    · rw [if_neg e, ← List.getD_eq_getElem?_getD, ih (by omega)]
      by_cases h1 : i * c ≤ n ∧ n < i * c + k
      · rw [if_pos h1, if_pos (by omega)]
      · rw [if_neg h1, if_neg (by omega)]
theorem fillTo_get (r c : Nat) (f : Nat → Nat → Int) (m : Nat) (hm : m ≤ r) : ∀ i k, i < m → k < c → (fillTo r c f m).getD (i * c + k) 0 = f i k := by
  induction m with
  | zero => intro i k hi; omega
  | succ m ih =>
    intro i k hi hk
    have hle : m * c + c ≤ r * c := by
      have : (m + 1) * c ≤ r * c := Nat.mul_le_mul_right c hm
      rwa [Nat.add_mul, Nat.one_mul] at this
    rw [fillTo, fillRow_get _ _ _ _ _ (by rw [fillTo_len]; exact hle) (Nat.le_refl _)]
    by_cases e : i = m
    · subst e
      rw [if_pos (by omega)]
      congr 1; omega
    · have h1 : (i + 1) * c ≤ m * c := Nat.mul_le_mul_right c (by omega)
      rw [Nat.add_mul, Nat.one_mul] at h1
      rw [if_neg (by omega)]
      exact ih (by omega) i k (by omega) hk

theorem turnRow_get (r c : Nat) (xs : List Int) (i : Nat) (ys : List Int) (hi : i < r) (k : Nat) (hl : ys.length = r * c) : k ≤ c → ∀ j l, j < r → l < c →
    (turnRow r c xs i k ys).getD (l * r + j) 0 = if j = i ∧ l < k then xs.getD (i * c + l) 0 else ys.getD (l * r + j) 0 := by
  induction k with
  | zero => intro _ j l _ _; rw [if_neg (by omega)]; rfl
  | succ k ih =>
    intro hk j l hj hl'
    rw [turnRow, List.getD_eq_getElem?_getD, List.getElem?_set]
    have hkr : k * r + i < c * r := by
      have : (k + 1) * r ≤ c * r := Nat.mul_le_mul_right r (by omega)
      rw [Nat.add_mul] at this; omega
    by_cases e : k * r + i = l * r + j
    · have e2 : k = l ∧ i = j := by
        have h1 : (k * r + i) / r = k := by rw [Nat.mul_comm, Nat.mul_add_div (by omega), Nat.div_eq_of_lt hi]; omega
        have h2 : (l * r + j) / r = l := by rw [Nat.mul_comm, Nat.mul_add_div (by omega), Nat.div_eq_of_lt hj]; omega
        have : k = l := by rw [← h1, e, h2]
        subst this
        exact ⟨rfl, by omega⟩
      obtain ⟨rfl, rfl⟩ := e2
      rw [if_pos rfl, if_pos (by rw [turnRow_len, hl, Nat.mul_comm r c]; exact hkr), if_pos (by omega)]
      simp
    · rw [if_neg e, ← List.getD_eq_getElem?_getD, ih (by omega) j l hj hl']
      by_cases h1 : j = i ∧ l < k
      · rw [if_pos h1, if_pos (by omega)]
      · rw [if_neg h1]
        by_cases h2 : j = i ∧ l < k + 1
        · exfalso
          obtain ⟨rfl, h3⟩ := h2
          have : l = k := by
            by_cases h4 : l < k
            · exact absurd ⟨rfl, h4⟩ h1
            · omega
          subst this
          exact e rfl
        · rw [if_neg h2]
theorem turnTo_len (r c : Nat) (xs : List Int) : ∀ i, (turnTo r c xs i).length = r * c
  | 0 => by simp [turnTo]
  | i + 1 => by rw [turnTo, turnRow_len, turnTo_len r c xs i]
theorem turnTo_get (r c : Nat) (xs : List Int) (m : Nat) (hm : m ≤ r) : ∀ j l, j < m → l < c → (turnTo r c xs m).getD (l * r + j) 0 = xs.getD (j * c + l) 0 := by
  induction m with
  | zero => intro j l h; omega
  | succ m ih =>
    intro j l hj hl
    rw [turnTo, turnRow_get r c xs m _ (by omega) c (turnTo_len r c xs m) (Nat.le_refl _) j l (by omega) hl]
    by_cases e : j = m
    · subst e; rw [if_pos ⟨rfl, hl⟩]
    · rw [if_neg (by omega)]; exact ih (by omega) j l (by omega) hl

theorem mat_ext {r c : Nat} {xs ys : List Int} (hx : xs.length = r * c) (hy : ys.length = r * c) (h : ∀ i k, i < r → k < c → xs.getD (i * c + k) 0 = ys.getD (i * c + k) 0) : xs = ys := by
  apply List.ext_getElem (by omega)
  intro t h1 h2
  by_cases hc : c = 0
  · subst hc; omega
  have hi : t / c < r := by rw [Nat.div_lt_iff_lt_mul (by omega)]; omega
  have hk : t % c < c := Nat.mod_lt _ (by omega)
  have := h (t / c) (t % c) hi hk
  rw [show t / c * c + t % c = t by rw [Nat.mul_comm]; exact Nat.div_add_mod t c] at this
  rw [List.getD_eq_getElem?_getD, List.getD_eq_getElem?_getD, List.getElem?_eq_getElem h1, List.getElem?_eq_getElem h2] at this
  simpa using this

/-- The product of two matrices. -/
def prodL (r n c : Nat) (xs ys : List Int) : List Int := fillTo r c (prodAt n xs (turnTo n c ys n)) r
def turnL (r c : Nat) (xs : List Int) : List Int := turnTo r c xs r
theorem prodL_len (r n c : Nat) (xs ys : List Int) : (prodL r n c xs ys).length = r * c := fillTo_len _ _ _ _
theorem turnL_len (r c : Nat) (xs : List Int) : (turnL r c xs).length = r * c := turnTo_len _ _ _ _
theorem fillRow_bytes (c : Nat) (f : Nat → Nat → Int) (hf : ∀ i k, 0 ≤ f i k ∧ f i k < 256) (i : Nat) (ys : List Int) (hy : Bytes ys) : ∀ k, Bytes (fillRow c f i k ys)
  | 0 => hy
  | k + 1 => (fillRow_bytes c f hf i ys hy k).set _ _ (hf i k).1 (hf i k).2
theorem fillTo_bytes (r c : Nat) (f : Nat → Nat → Int) (hf : ∀ i k, 0 ≤ f i k ∧ f i k < 256) : ∀ i, Bytes (fillTo r c f i)
  | 0 => Bytes.zeros _
  | i + 1 => fillRow_bytes c f hf i _ (fillTo_bytes r c f hf i) c
theorem turnRow_bytes (r c : Nat) (xs : List Int) (hx : Bytes xs) (i : Nat) (ys : List Int) (hy : Bytes ys) : ∀ k, Bytes (turnRow r c xs i k ys)
  | 0 => hy
  | k + 1 => (turnRow_bytes r c xs hx i ys hy k).set _ _ (hx.getD _).1 (hx.getD _).2
theorem turnTo_bytes (r c : Nat) (xs : List Int) (hx : Bytes xs) : ∀ i, Bytes (turnTo r c xs i)
  | 0 => Bytes.zeros _
  | i + 1 => turnRow_bytes r c xs hx i _ (turnTo_bytes r c xs hx i) c
theorem rowOf_bytes {c : Nat} {xs : List Int} (h : Bytes xs) (i : Nat) : Bytes (rowOf c xs i) := (h.take _).drop _
theorem prodL_bytes (r n c : Nat) (xs ys : List Int) (hx : Bytes xs) : Bytes (prodL r n c xs ys) :=
  fillTo_bytes _ _ _ (fun i _ => dotTo_range _ _ (rowOf_bytes hx i) n) _
theorem turnL_bytes (r c : Nat) (xs : List Int) (hx : Bytes xs) : Bytes (turnL r c xs) := turnTo_bytes _ _ _ hx _

theorem el_turnL (r c : Nat) (xs : List Int) (i k : Nat) (hi : i < r) (hk : k < c) : el r (turnL r c xs) k i = el c xs i k := by
  unfold el turnL
  rw [turnTo_get r c xs r (Nat.le_refl _) i k hi hk]
theorem el_prodL (r n c : Nat) (xs ys : List Int) (hx : Bytes xs) (hy : Bytes ys) (i k : Nat) (hi : i < r) (hk : k < c) :
    el c (prodL r n c xs ys) i k = sum n (fun j => el n xs i j * el c ys j k) := by
  unfold prodL
  have : el c (fillTo r c (prodAt n xs (turnTo n c ys n)) r) i k = G.of (prodAt n xs (turnTo n c ys n) i k) := by
    unfold el
    rw [fillTo_get r c _ r (Nat.le_refl _) i k hi hk]
  rw [this]
  unfold prodAt
  rw [dotTo_G (rowOf_bytes hx i) (rowOf_bytes (turnTo_bytes n c ys hy n) k), G.of_int]
  refine sum_congr (fun j hj => ?_)
  rw [rowOf_get i j hj, rowOf_get k j hj, turnTo_get n c ys n (Nat.le_refl _) j k hj hk]
  rfl
theorem mat_ext_el {r c : Nat} {xs ys : List Int} (bx : Bytes xs) (by' : Bytes ys) (hx : xs.length = r * c) (hy : ys.length = r * c) (h : ∀ i k, i < r → k < c → el c xs i k = el c ys i k) : xs = ys :=
  mat_ext hx hy (fun i k hi hk => by rw [← el_int bx, ← el_int by', h i k hi hk])

/-- Products may be taken together in any way. -/
theorem prodL_assoc (r n m c : Nat) (xs ys zs : List Int) (hx : Bytes xs) (hy : Bytes ys) (hz : Bytes zs) :
    prodL r m c (prodL r n m xs ys) zs = prodL r n c xs (prodL n m c ys zs) := by
  have hxy := prodL_bytes r n m xs ys hx
  have hyz := prodL_bytes n m c ys zs hy
  refine mat_ext_el (prodL_bytes _ _ _ _ _ hxy) (prodL_bytes _ _ _ _ _ hx) (prodL_len _ _ _ _ _) (prodL_len _ _ _ _ _) (fun i k hi hk => ?_)
  rw [el_prodL r m c _ zs hxy hz i k hi hk, el_prodL r n c xs _ hx hyz i k hi hk]
  rw [sum_congr (fun l hl => by rw [el_prodL r n m xs ys hx hy i l hi hl])]
  rw [prod_assoc]
  exact sum_congr (fun j hj => by rw [el_prodL n m c ys zs hy hz j k hj hk])
/-- A product turned is that of both, turned, the other way round. -/
theorem prodL_turn (r n c : Nat) (xs ys : List Int) (hx : Bytes xs) (hy : Bytes ys) :
    prodL c n r (turnL n c ys) (turnL r n xs) = turnL r c (prodL r n c xs ys) := by
  have hxy := prodL_bytes r n c xs ys hx
  refine mat_ext_el (r := c) (c := r) (prodL_bytes _ _ _ _ _ (turnL_bytes _ _ _ hy)) (turnL_bytes _ _ _ hxy) (prodL_len _ _ _ _ _) (by rw [turnL_len, Nat.mul_comm]) (fun k i hk hi => ?_)
  rw [el_prodL c n r _ _ (turnL_bytes _ _ _ hy) (turnL_bytes _ _ _ hx) k i hk hi, el_turnL r c _ i k hi hk, el_prodL r n c xs ys hx hy i k hi hk]
  refine sum_congr (fun j hj => ?_)
  rw [el_turnL n c ys j k hj hk, el_turnL r n xs i j hi hj, Fd.mul_comm]
theorem mul_goodP (v u : Value) (r n c : Nat) (xs ys : List Int) (w : World) (h : IsMat w v r n xs) (h' : IsMat w u n c ys) :
    Calls Try.prog 21 #[v, u] w fun e w' => ∃ b s cap, e = .returned (.tuple #[.pointer (some ⟨b, 0, none⟩), .int .i64 0]) ∧ MatIn w' b s r c cap (prodL r n c xs ys) ∧ Below w.heap.size w w' ∧ w.heap.size ≤ b ∧ w.heap.size ≤ s :=
  mul_good v u r n c xs ys w h h'
theorem turned_anyP (v : Value) (r c : Nat) (xs : List Int) (w : World) (h : IsMat w v r c xs) :
    Calls Try.prog 37 #[v] w fun e w' => ∃ b s cap, e = .returned (.pointer (some ⟨b, 0, none⟩)) ∧ MatIn w' b s c r cap (turnL r c xs) ∧ Below w.heap.size w w' ∧ w.heap.size ≤ b ∧ w.heap.size ≤ s :=
  turned_any v r c xs w h
end Go.Proofs.Ytelgefkfflgbeaa.Mat
/- The matrix One, place by place. -/
namespace Go.Proofs.Ytelgefkfflgbeaa.Mat
open Go Go.RowKit Go.Proofs.Ytelgefkfflgbeaa.Mem Go.Proofs.Ytelgefkfflgbeaa.Bits Go.Proofs.Ytelgefkfflgbeaa.Gf Go.Proofs.YtelgefkfflgbeaaW.PrintWords
set_option linter.unusedVariables false

theorem oneTo_len (n : Nat) : ∀ k, (oneTo n k).length = n * n
  | 0 => by simp [oneTo]
  | k + 1 => by rw [oneTo, List.length_set, oneTo_len n k]
theorem oneTo_get (n : Nat) (j : Nat) (hj : j ≤ n) : ∀ i k, i < n → k < n → (oneTo n j).getD (i * n + k) 0 = if i = k ∧ i < j then 1 else 0 := by
  induction j with
  | zero =>
    intro i k hi hk
    have := idx_lt hi hk
    rw [if_neg (by omega)]
    simp [oneTo, List.getD_eq_getElem?_getD, this]
  | succ j ih =>
    intro i k hi hk
    have hlt := idx_lt hi hk
    have hjj := idx_lt (show j < n by omega) (show j < n by omega)
    rw [oneTo, List.getD_eq_getElem?_getD, List.getElem?_set]
    by_cases e : j * n + j = i * n + k
    · rw [if_pos e, if_pos (by rw [oneTo_len]; exact hjj)]
      have hij : j = i := by
        have h1 := Nat.div_mod_unique (a := j * n + j) (b := n) (c := j) (d := j) (by omega)
        have h2 := Nat.div_mod_unique (a := i * n + k) (b := n) (c := k) (d := i) (by omega)
        have h3 := (h1.2 ⟨by rw [Nat.mul_comm n j]; omega, by omega⟩).1
        have h4 := (h2.2 ⟨by rw [Nat.mul_comm n i]; omega, by omega⟩).1
        rw [e] at h3; omega
      subst hij
      rw [if_pos ⟨by omega, by omega⟩]; rfl
    · rw [if_neg e, ← List.getD_eq_getElem?_getD, ih (by omega) i k hi hk]
      by_cases h : i = k ∧ i < j
      · rw [if_pos h, if_pos ⟨h.1, by omega⟩]
      · rw [if_neg h, if_neg]
        rintro ⟨rfl, h'⟩
        have : i = j := by omega
        subst this
        exact e rfl
end Go.Proofs.Ytelgefkfflgbeaa.Mat
/- Steps of a matrix over a field in which twice a thing is nought; polynomials and their noughts. -/
namespace Go.Proofs.Ytelgefkfflgbeaa.Alg
set_option linter.unusedVariables false
section
variable {F : Type} [Fd F]
open _root_.Go.Proofs.Ytelgefkfflgbeaa.Alg.Fd
/-- A polynomial's value, by Horner. -/
def hor : List F → F → F
  | [], _ => 0
  | c :: l, x => c + x * hor l x
def quo (x0 : F) : List F → List F
  | [] => []
  | a :: l => hor (a :: l) x0 :: quo x0 l
theorem quo_len (x0 : F) : ∀ l : List F, (quo x0 l).length = l.length
  | [] => rfl
  | a :: l => by simp [quo, quo_len x0 l]
theorem quo_id (x x0 : F) : ∀ (l : List F) (c : F), hor (c :: l) x + hor (c :: l) x0 = (x + x0) * hor (quo x0 l) x
  | [], c => by simp only [hor, quo, mul_zero, add_zero, add_self]
  | a :: l, c => by
    have ih := quo_id x x0 l a
    have e : hor (c :: a :: l) x + hor (c :: a :: l) x0 = x * hor (a :: l) x + x0 * hor (a :: l) x0 := by
      show (c + x * hor (a :: l) x) + (c + x0 * hor (a :: l) x0) = _
      rw [add_assoc, add_left_comm (x * hor (a :: l) x), add_cancel]
    rw [e]
    show _ = (x + x0) * (hor (a :: l) x0 + x * hor (quo x0 l) x)
    have h2 : hor (a :: l) x = hor (a :: l) x0 + (x + x0) * hor (quo x0 l) x := by rw [← ih, add_comm (hor (a :: l) x), add_cancel]
    rw [h2]
    generalize hor (a :: l) x0 = P
    generalize hor (quo x0 l) x = Q
    rw [mul_add x P, mul_add (x + x0) P, add_mul x x0 P, mul_left_comm (x + x0) x Q, add_assoc, add_assoc, add_comm (x * ((x + x0) * Q))]
theorem hor_zero {l : List F} (h : ∀ a ∈ l, a = 0) (x : F) : hor l x = 0 := by
  induction l with
  | nil => rfl
  | cons a l ih => rw [hor, h a (by simp), ih (fun b hb => h b (by simp [hb])), mul_zero, add_zero]
theorem quo_zero {x0 : F} : ∀ {l : List F}, (∀ a ∈ quo x0 l, a = 0) → ∀ a ∈ l, a = 0
  | [], _, _, ha => by cases ha
  | b :: l, h, a, ha => by
    have hl := quo_zero (x0 := x0) (l := l) (fun c hc => h c (by simp [quo, hc]))
    have hb := h (hor (b :: l) x0) (by simp [quo])
    rw [hor, hor_zero hl, mul_zero, add_zero] at hb
    rcases List.mem_cons.1 ha with rfl | ha
    · exact hb
    · exact hl a ha
/-- A polynomial with more noughts than its degree is nought. -/
theorem noughts : ∀ (l pts : List F), pts.Nodup → l.length ≤ pts.length → (∀ p ∈ pts, hor l p = 0) → ∀ a ∈ l, a = 0
  | [], _, _, _, _, a, ha => by cases ha
  | c :: l, [], _, hl, _, _, _ => by simp at hl
  | c :: l, x0 :: pts, hn, hl, hz, a, ha => by
    have hn' := List.nodup_cons.1 hn
    have hq := noughts (quo x0 l) pts hn'.2 (by rw [quo_len]; simpa using hl) (fun p hp => by
      have h := quo_id p x0 l c
      rw [hz p (by simp [hp]), hz x0 (by simp), add_zero] at h
      rcases mul_eq_zero h.symm with h | h
      · exact absurd (eq_of_add_zero h ▸ hp) hn'.1
      · exact h)
    have h0 := quo_zero hq
    have hc := hz x0 (by simp)
    rw [hor, hor_zero h0, mul_zero, add_zero] at hc
    rcases List.mem_cons.1 ha with rfl | ha
    · exact hc
    · exact h0 a ha
termination_by l => l.length
decreasing_by simp [quo_len]
/-- One step: row k, made one at the column, goes to row t; the others are cleared there. -/
def stepF (M : Nat → Nat → F) (t k col : Nat) : Nat → Nat → F := fun i j =>
  if i = t then M k j * inv (M k col)
  else (if i = k then M t j else M i j) + (M k j * inv (M k col)) * (if i = k then M t col else M i col)
def dotF (m : Nat) (r c : Nat → F) : F := sum m (fun j => r j * c j)
theorem sum_scale (n : Nat) (a : F) (f : Nat → F) : sum n (fun i => f i * a) = sum n f * a := by
  induction n with
  | zero => simp only [sum]; rw [zero_mul]
  | succ n ih => simp only [sum]; rw [ih, add_mul]
theorem dotF_scale (m : Nat) (r c : Nat → F) (a : F) : dotF m (fun j => r j * a) c = dotF m r c * a := by
  unfold dotF
  rw [← sum_scale]
  exact sum_congr (fun i _ => by rw [mul_assoc, mul_comm a, ← mul_assoc])
theorem dotF_add (m : Nat) (r s c : Nat → F) : dotF m (fun j => r j + s j) c = dotF m r c + dotF m s c := by
  unfold dotF
  rw [← sum_add]
  exact sum_congr (fun i _ => by rw [add_mul])
/-- A step keeps what comes to nought. -/
theorem stepF_ker (M : Nat → Nat → F) (t k col n m : Nat) (c : Nat → F) (hk : k < n) (ht : t < n) (hp : M k col ≠ 0) :
    (∀ i, i < n → dotF m (stepF M t k col i) c = 0) ↔ (∀ i, i < n → dotF m (M i) c = 0) := by
  have e0 : dotF m (stepF M t k col t) c = dotF m (M k) c * inv (M k col) := by
    rw [← dotF_scale]; unfold dotF; exact sum_congr (fun j _ => by simp [stepF])
  have e1 : ∀ i, i ≠ t → dotF m (stepF M t k col i) c = dotF m (fun j => if i = k then M t j else M i j) c + dotF m (M k) c * inv (M k col) * (if i = k then M t col else M i col) := by
    intro i hi
    rw [← dotF_scale, ← dotF_scale, ← dotF_add]
    unfold dotF; exact sum_congr (fun j _ => by simp [stepF, hi])
  constructor
  · intro h
    have hK : dotF m (M k) c = 0 := by
      have := h t ht
      rw [e0] at this
      rcases mul_eq_zero this with h | h
      · exact h
      · exact absurd h (inv_ne_zero hp)
    intro i hi
    by_cases hik : i = k
    · rw [hik]; exact hK
    · by_cases hit : i = t
      · have hkt : k ≠ t := fun e => hik (by rw [hit, e])
        have := h k hk
        rw [e1 k hkt, hK, zero_mul, zero_mul, add_zero] at this
        rw [hit]
        rw [← this]
        unfold dotF; exact sum_congr (fun j _ => by simp)
      · have := h i hi
        rw [e1 i hit, hK, zero_mul, zero_mul, add_zero] at this
        rw [← this]
        unfold dotF; exact sum_congr (fun j _ => by simp [hik])
  · intro h i hi
    by_cases hit : i = t
    · rw [hit, e0, h k hk, zero_mul]
    · rw [e1 i hit, h k hk, zero_mul, zero_mul, add_zero]
      by_cases hik : i = k
      · rw [← h t ht]; unfold dotF; exact sum_congr (fun j _ => by simp [hik])
      · rw [← h i hi]; unfold dotF; exact sum_congr (fun j _ => by simp [hik])
/-- The first columns are the one's. -/
def OneTo (M : Nat → Nat → F) (n col : Nat) : Prop := ∀ i j, i < n → j < col → M i j = if i = j then 1 else 0
theorem stepF_one (M : Nat → Nat → F) (n k col : Nat) (h : OneTo M n col) (hk : k < n) (hc : col ≤ k) (hp : M k col ≠ 0) : OneTo (stepF M col k col) n (col + 1) := by
  intro i j hi hj
  unfold stepF
  by_cases hjc : j = col
  · subst hjc
    by_cases hij : i = j
    · rw [if_pos hij, if_pos hij, mul_inv _ hp]
    · rw [if_neg hij, if_neg hij, mul_inv _ hp, one_mul, add_self]
  · have hj' : j < col := by omega
    have hkj : M k j = 0 := by rw [h k j hk hj', if_neg (by omega)]
    by_cases hit : i = col
    · rw [if_pos hit, hkj, zero_mul, if_neg (by omega)]
    · rw [if_neg hit, hkj, zero_mul, zero_mul, add_zero]
      by_cases hik : i = k
      · rw [if_pos hik, h col j (by omega) hj', if_neg (by omega), if_neg (by omega)]
      · rw [if_neg hik, h i j hi hj']
theorem sum_at {n : Nat} {f : Nat → F} {a : Nat} (ha : a < n) (h : ∀ i, i < n → i ≠ a → f i = 0) : sum n f = f a := by
  induction n with
  | zero => omega
  | succ n ih =>
    simp only [sum]
    by_cases e : a = n
    · subst e
      rw [sum_zero' (fun i hi => h i (by omega) (by omega)), zero_add]
    · rw [ih (by omega) (fun i hi hne => h i (by omega) hne), h n (by omega) (fun e' => e e'.symm), add_zero]
theorem sum_at2 {n : Nat} {f : Nat → F} {a b : Nat} (ha : a < n) (hb : b < n) (hab : a ≠ b) (h : ∀ i, i < n → i ≠ a → i ≠ b → f i = 0) : sum n f = f a + f b := by
  have e : sum n f = sum n (fun i => (if i = a then f i else 0) + (if i = a then 0 else f i)) := sum_congr (fun i _ => by by_cases h : i = a <;> simp [h, add_zero, zero_add])
  rw [e, sum_add, sum_at (a := a) ha (fun i _ hne => by simp [hne]), sum_at (a := b) hb (fun i hi hne => by by_cases hia : i = a; (· simp [hia]); (· simp [hia]; exact h i hi hia hne))]
  simp [hab.symm]
/-- Without a pivot something else than nought comes to nought. -/
theorem no_pivot (M : Nat → Nat → F) (n m col : Nat) (h : OneTo M n col) (hcm : col < m) (hcn : col ≤ n) (hz : ∀ i, i < n → col ≤ i → M i col = 0) :
    ∀ i, i < n → dotF m (M i) (fun j => if j < col then M j col else if j = col then 1 else 0) = 0 := by
  intro i hi
  unfold dotF
  by_cases hic : i < col
  · rw [sum_at2 (a := i) (b := col) (by omega) hcm (by omega) (fun j _ h1 h2 => ?_)]
    · simp only [if_pos hic, Nat.lt_irrefl, if_false, if_true, mul_one]
      rw [h i i hi hic, if_pos rfl, one_mul, add_self]
    · by_cases hj : j < col
      · rw [h i j hi hj, if_neg (fun e => h1 e.symm), zero_mul]
      · simp only [if_neg hj, if_neg h2, mul_zero]
  · rw [sum_at (a := col) hcm (fun j _ h1 => ?_)]
    · simp only [Nat.lt_irrefl, if_false, if_true, mul_one]
      exact hz i hi (by omega)
    · by_cases hj : j < col
      · rw [h i j hi hj, if_neg (by omega), zero_mul]
      · simp only [if_neg hj, if_neg h1, mul_zero]
end
end Go.Proofs.Ytelgefkfflgbeaa.Alg
/- Elements as whole numbers: products, sums, and what a fragment is. -/
namespace Go.Proofs.Ytelgefkfflgbeaa.Gi
open Go Go.RowKit Go.Proofs.Ytelgefkfflgbeaa.Gf Go.Proofs.Ytelgefkfflgbeaa.Bits
set_option linter.unusedVariables false
abbrev Byt (a : Int) : Prop := 0 ≤ a ∧ a < 256
def gmI (a b : Int) : Int := (gm a.toNat b.toNat : Nat)
def xorI (a b : Int) : Int := (a.toNat ^^^ b.toNat : Nat)
theorem gmI_byt {a b : Int} (ha : Byt a) : Byt (gmI a b) := by
  have := gm_lt a.toNat b.toNat (by have := ha.1; have := ha.2; omega)
  unfold gmI Byt; omega
theorem xorI_byt {a b : Int} (ha : Byt a) (hb : Byt b) : Byt (xorI a b) := by
  have : a.toNat ^^^ b.toNat < 2 ^ 8 := Nat.xor_lt_two_pow (by have := ha.1; have := ha.2; omega) (by have := hb.1; have := hb.2; omega)
  unfold xorI Byt; omega
theorem gmI_comm {a b : Int} (ha : Byt a) (hb : Byt b) : gmI a b = gmI b a := by
  unfold gmI; rw [gm_comm _ _ (by have := ha.1; have := ha.2; omega) (by have := hb.1; have := hb.2; omega)]
theorem byt_nat {a : Int} (ha : Byt a) : ∃ n : Nat, n < 256 ∧ a = n := ⟨a.toNat, by have := ha.1; have := ha.2; omega, by have := ha.1; omega⟩
theorem byt0 : Byt 0 := ⟨by decide, by decide⟩
theorem getD_byt {l : List Int} (h : ∀ x ∈ l, Byt x) (i : Nat) : Byt (l.getD i 0) := by
  rw [List.getD_eq_getElem?_getD]
  rcases Nat.lt_or_ge i l.length with hi | hi
  · rw [List.getElem?_eq_getElem hi]; exact h _ (List.getElem_mem hi)
  · rw [List.getElem?_eq_none hi]; exact byt0
theorem xor_bits {a b : Int} (ha : Byt a) (hb : Byt b) : bits .xor .u8 a b = xorI a b := by
  obtain ⟨x, hx, rfl⟩ := byt_nat ha
  obtain ⟨y, hy, rfl⟩ := byt_nat hb
  rw [xor_u8 x y hx hy]
  simp [xorI]
/-- The sum of the first j terms. -/
def dotN (f g : Nat → Int) : Nat → Int
  | 0 => 0
  | j + 1 => xorI (dotN f g j) (gmI (f j) (g j))
theorem dotN_byt {f g : Nat → Int} (hf : ∀ i, Byt (f i)) : ∀ j, Byt (dotN f g j)
  | 0 => byt0
  | j + 1 => xorI_byt (dotN_byt hf j) (gmI_byt (hf j))
theorem dotN_congr {f g f' g' : Nat → Int} : ∀ j, (∀ i, i < j → f i = f' i ∧ g i = g' i) → dotN f g j = dotN f' g' j
  | 0, _ => rfl
  | j + 1, h => by
    have := h j (by omega)
    simp only [dotN]
    rw [dotN_congr j (fun i hi => h i (by omega)), this.1, this.2]
/-- A line told by a function of places. -/
def line (c : Nat) (f : Nat → Int) : List Int := (List.range c).map f
theorem line_len (c : Nat) (f : Nat → Int) : (line c f).length = c := by simp [line]
theorem line_get (c : Nat) (f : Nat → Int) (k : Nat) (hk : k < c) : (line c f).getD k 0 = f k := by simp [line, List.getD_eq_getElem?_getD, hk]
theorem line_congr (c : Nat) (f g : Nat → Int) (h : ∀ k, k < c → f k = g k) : line c f = line c g := List.map_congr_left (fun k hk => h k (by simpa using hk))
theorem line_set (c : Nat) (f : Nat → Int) (k : Nat) (hk : k < c) (y : Int) : (line c f).set k y = line c (fun k' => if k' = k then y else f k') := by
  refine List.ext_getElem (by simp [line]) (fun j h1 h2 => ?_)
  rw [List.getElem_set]
  simp only [line, List.getElem_map, List.getElem_range]
  by_cases e : k = j
  · subst e; simp
  · rw [if_neg e, if_neg (fun h => e h.symm)]
theorem line_succ (c : Nat) (f : Nat → Int) : line (c + 1) f = line c f ++ [f c] := by simp [line, List.range_succ]
theorem line_zero (c : Nat) : line c (fun _ => 0) = List.replicate c 0 := by
  refine List.ext_getElem (by simp [line]) (fun k h3 h4 => ?_)
  simp [line]
theorem line_byt (c : Nat) (f : Nat → Int) (h : ∀ i, Byt (f i)) : ∀ x ∈ line c f, Byt x := by
  intro x hx
  obtain ⟨i, _, rfl⟩ := List.mem_map.1 hx
  exact h i
end Go.Proofs.Ytelgefkfflgbeaa.Gi
/- Steps, of bytes: what comes to be, and what solves equations. No program. -/
namespace Go.Proofs.Ytelgefkfflgbeaa.Sol
open Go.Proofs.Ytelgefkfflgbeaa.Gf Go.Proofs.Ytelgefkfflgbeaa.Gi Go.Proofs.Ytelgefkfflgbeaa.Alg
set_option linter.unusedVariables false

theorem of_gm {a b : Int} (ha : Byt a) (hb : Byt b) : G.of (gmI a b) = G.of a * G.of b := by
  obtain ⟨x, hx, rfl⟩ := byt_nat ha
  obtain ⟨y, hy, rfl⟩ := byt_nat hb
  refine G.ext' ?_
  show (gmI (x : Int) (y : Int)).toNat % 256 = gm (((x : Int)).toNat % 256) (((y : Int)).toNat % 256)
  have := gm_lt x y hx
  simp only [gmI, Int.toNat_natCast, Nat.mod_eq_of_lt hx, Nat.mod_eq_of_lt hy, Nat.mod_eq_of_lt this]
theorem of_xor {a b : Int} (ha : Byt a) (hb : Byt b) : G.of (xorI a b) = G.of a + G.of b := by
  obtain ⟨x, hx, rfl⟩ := byt_nat ha
  obtain ⟨y, hy, rfl⟩ := byt_nat hb
  refine G.ext' ?_
  show (xorI (x : Int) (y : Int)).toNat % 256 = (((x : Int)).toNat % 256) ^^^ (((y : Int)).toNat % 256)
  have := xor_lt' hx hy
  simp only [xorI, Int.toNat_natCast, Nat.mod_eq_of_lt hx, Nat.mod_eq_of_lt hy, Nat.mod_eq_of_lt this]
theorem of_ne {a : Int} (ha : Byt a) (h : a ≠ 0) : G.of a ≠ 0 := fun e => h (G.of_inj ha ⟨by decide, by decide⟩ (e.trans G.of_zero.symm))
/-- A matrix of bytes. -/
abbrev Mtx := Nat → Nat → Int
def BytM (M : Mtx) : Prop := ∀ i j, Byt (M i j)
/-- The rows k and t put in each other's place. -/
def swapI (M : Mtx) (t k : Nat) : Mtx := fun i => if i = k then M t else M i
/-- One step; r is the pivot's inverse. -/
def stepI (M : Mtx) (t k col : Nat) (r : Int) : Mtx := fun i j =>
  if i = t then gmI (M k j) r else xorI (swapI M t k i j) (gmI (gmI (M k j) r) (swapI M t k i col))
theorem stepI_byt {M : Mtx} (h : BytM M) {t k col : Nat} {r : Int} (hr : Byt r) : BytM (stepI M t k col r) := by
  have hs : BytM (swapI M t k) := by intro i j; unfold swapI; split <;> exact h _ _
  intro i j
  unfold stepI
  split
  · exact gmI_byt (h _ _)
  · exact xorI_byt (hs _ _) (gmI_byt (gmI_byt (h _ _)))
/-- The matrix's elements, of the field. -/
def el (M : Mtx) : Nat → Nat → G := fun i j => G.of (M i j)
theorem stepI_el {M : Mtx} (h : BytM M) {t k col : Nat} {r : Int} (hr : Byt r) (h1 : gmI (M k col) r = 1) : el (stepI M t k col r) = stepF (el M) t k col := by
  have hs : BytM (swapI M t k) := by intro i j; unfold swapI; split <;> exact h _ _
  have hi : Fd.inv (el M k col) = G.of r := by
    refine (Alg.inv_unique ?_).symm
    show G.of (M k col) * G.of r = 1
    rw [← of_gm (h _ _) hr, h1, G.of_one]
  have e : ∀ i j, el (swapI M t k) i j = if i = k then el M t j else el M i j := by intro i j; unfold el swapI; split <;> rfl
  funext i j
  unfold stepF
  rw [hi, ← e i j, ← e i col]
  show G.of (stepI M t k col r i j) = _
  unfold stepI
  split
  · rw [of_gm (h _ _) hr]; rfl
  · rw [of_xor (hs _ _) (gmI_byt (gmI_byt (h _ _))), of_gm (gmI_byt (h _ _)) (hs _ _), of_gm (h _ _) hr]; rfl
/-- What the document's Steps comes to, column by column. -/
inductive StepsTo (n : Nat) (M0 : Mtx) : Nat → Nat → Mtx → Prop
  | start : StepsTo n M0 0 0 M0
  | skip {col t : Nat} {M : Mtx} : StepsTo n M0 col t M → (∀ j, t ≤ j → j < n → M j col = 0) → StepsTo n M0 (col + 1) t M
  | step {col t k : Nat} {r : Int} {M : Mtx} : StepsTo n M0 col t M → t ≤ k → k < n → (∀ j, t ≤ j → j < k → M j col = 0) → M k col ≠ 0 → Byt r → gmI (M k col) r = 1 → StepsTo n M0 (col + 1) (t + 1) (stepI M t k col r)
theorem StepsTo.byt {n : Nat} {M0 : Mtx} (h0 : BytM M0) {col t : Nat} {M : Mtx} (h : StepsTo n M0 col t M) : BytM M := by
  induction h with
  | start => exact h0
  | skip _ _ ih => exact ih
  | step _ _ _ _ _ hr _ ih => exact stepI_byt ih hr
theorem StepsTo.le {n : Nat} {M0 : Mtx} {col t : Nat} {M : Mtx} (h : StepsTo n M0 col t M) : t ≤ col ∧ t ≤ n := by
  induction h with
  | start => exact ⟨Nat.le_refl _, Nat.zero_le _⟩
  | skip _ _ ih => exact ⟨by omega, ih.2⟩
  | step _ _ _ _ _ _ _ ih => exact ⟨by omega, by omega⟩
/-- What comes to nought is kept. -/
theorem StepsTo.ker {n m : Nat} {M0 : Mtx} (h0 : BytM M0) {col t : Nat} {M : Mtx} (h : StepsTo n M0 col t M) (c : Nat → G) :
    (∀ i, i < n → dotF m (el M i) c = 0) ↔ (∀ i, i < n → dotF m (el M0 i) c = 0) := by
  induction h with
  | start => exact Iff.rfl
  | skip _ _ ih => exact ih
  | @step col t k r M hs htk hk hz hp hr h1 ih =>
    rw [stepI_el (hs.byt h0) hr h1, stepF_ker (el M) t k col n m c hk (by omega) (of_ne (hs.byt h0 k col) hp)]
    exact ih
theorem dotF_more (n : Nat) (r c : Nat → G) : dotF (n + 1) r c = dotF n r c + r n * c n := rfl
theorem dotF_congr {m : Nat} {r c c' : Nat → G} (h : ∀ j, j < m → c j = c' j) : dotF m r c = dotF m r c' := by unfold dotF; exact sum_congr (fun j hj => by rw [h j hj])
/-- Where nothing but nought comes to nought, the first columns become the one's. -/
theorem StepsTo.one {n : Nat} {M0 : Mtx} (h0 : BytM M0) (hinj : ∀ c : Nat → G, (∀ i, i < n → dotF n (el M0 i) c = 0) → ∀ j, j < n → c j = 0) {col t : Nat} {M : Mtx} (h : StepsTo n M0 col t M) :
    t = min col n ∧ OneTo (el M) n (min col n) := by
  induction h with
  | start => exact ⟨by simp, fun i j _ hj => absurd hj (by simp)⟩
  | @skip col t M hs hz ih =>
    obtain ⟨ht, ho⟩ := ih
    by_cases hc : col < n
    · rw [Nat.min_eq_left (by omega)] at ht ho
      subst ht
      have hk := no_pivot (el M) n n t ho hc (by omega) (fun i hi hti => by show G.of (M i t) = 0; rw [hz i hti hi]; rfl)
      have := hinj _ ((hs.ker h0 _).1 hk) t hc
      simp at this
      exact absurd this.symm Fd.zero_ne_one
    · have e : min (col + 1) n = min col n := by omega
      rw [e]
      exact ⟨ht, ho⟩
  | @step col t k r M hs htk hk hz hp hr h1 ih =>
    obtain ⟨ht, ho⟩ := ih
    by_cases hc : col < n
    · rw [Nat.min_eq_left (by omega)] at ht ho
      subst ht
      rw [Nat.min_eq_left (by omega), stepI_el (hs.byt h0) hr h1]
      exact ⟨rfl, stepF_one (el M) n k t ho hk htk (of_ne (hs.byt h0 k t) hp)⟩
    · omega
/-- What solves the equations stands in the last column. -/
theorem StepsTo.solves {n : Nat} {M0 : Mtx} (h0 : BytM M0) (hinj : ∀ c : Nat → G, (∀ i, i < n → dotF n (el M0 i) c = 0) → ∀ j, j < n → c j = 0) {t : Nat} {M : Mtx} (h : StepsTo n M0 (n + 1) t M)
    (p : Nat → G) (hp : ∀ i, i < n → dotF n (el M0 i) p = el M0 i n) : ∀ i, i < n → el M i n = p i := by
  have ho := (h.one h0 hinj).2
  rw [Nat.min_eq_right (by omega)] at ho
  have hk := (h.ker (m := n + 1) h0 (fun j => if j < n then p j else 1)).2 (fun i hi => by
    rw [dotF_more, dotF_congr (c' := p) (fun j hj => by rw [if_pos hj]), hp i hi, if_neg (Nat.lt_irrefl n), Fd.mul_one, Fd.add_self])
  intro i hi
  have h1 := hk i hi
  rw [dotF_more, dotF_congr (c' := p) (fun j hj => by rw [if_pos hj]), if_neg (Nat.lt_irrefl n), Fd.mul_one] at h1
  have h2 : dotF n (el M i) p = p i := by
    unfold dotF
    rw [sum_at (a := i) hi (fun j hj hne => by rw [ho i j hi hj, if_neg (fun e => hne e.symm), zero_mul]), ho i i hi hi, if_pos rfl, one_mul]
  rw [h2] at h1
  exact (eq_of_add_zero h1).symm
end Go.Proofs.Ytelgefkfflgbeaa.Sol
/- Equations whose rows are the powers of unlike elements. No program. -/
namespace Go.Proofs.Ytelgefkfflgbeaa.Sol
open Go.Proofs.Ytelgefkfflgbeaa.Gf Go.Proofs.Ytelgefkfflgbeaa.Gi Go.Proofs.Ytelgefkfflgbeaa.Alg
set_option linter.unusedVariables false

def pw (x : G) : Nat → G
  | 0 => 1
  | n + 1 => pw x n * x
theorem pw_succ' (x : G) : ∀ n, pw x (n + 1) = x * pw x n
  | 0 => by show 1 * x = x * 1; rw [Alg.one_mul, Fd.mul_one]
  | n + 1 => by
    show pw x (n + 1) * x = x * (pw x n * x)
    rw [pw_succ' x n, Fd.mul_assoc]
theorem of_gp (x n : Nat) (hx : x < 256) : G.of ((gp x n : Nat) : Int) = pw (G.of (x : Int)) n := by
  induction n with
  | zero => exact G.of_one
  | succ n ih =>
    have h := of_gm (a := ((gp x n : Nat) : Int)) (b := (x : Int)) (by have := gp_lt x hx n; exact ⟨by omega, by omega⟩) ⟨by omega, by omega⟩
    show G.of _ = pw _ n * _
    rw [← ih, ← h]
    congr 1
theorem sum_shift (n : Nat) (f : Nat → G) : sum (n + 1) f = f 0 + sum n (fun i => f (i + 1)) := by
  induction n with
  | zero => show 0 + f 0 = f 0 + 0; rw [Alg.zero_add, Fd.add_zero]
  | succ n ih =>
    show sum (n + 1) f + f (n + 1) = f 0 + (sum n (fun i => f (i + 1)) + f (n + 1))
    rw [ih, Fd.add_assoc]
theorem sum_left (n : Nat) (a : G) (f : Nat → G) : sum n (fun i => a * f i) = a * sum n f := by
  rw [Fd.mul_comm a, ← sum_scale]; exact sum_congr (fun i _ => Fd.mul_comm _ _)
/-- A polynomial's value is the sum of its terms. -/
theorem hor_sum (x : G) : ∀ (n : Nat) (c : Nat → G), hor ((List.range n).map c) x = sum n (fun j => pw x j * c j)
  | 0, _ => rfl
  | n + 1, c => by
    rw [List.range_succ_eq_map, List.map_cons, List.map_map, sum_shift]
    show c 0 + x * hor ((List.range n).map (c ∘ Nat.succ)) x = 1 * c 0 + _
    rw [hor_sum x n (c ∘ Nat.succ), Alg.one_mul, ← sum_left]
    congr 1
    refine sum_congr (fun j _ => ?_)
    show x * (pw x j * c (j + 1)) = pw x (j + 1) * c (j + 1)
    rw [pw_succ', Fd.mul_assoc]
/-- Of powers of unlike elements nothing but nought comes to nought. -/
theorem powers_inj (n : Nat) (x : Nat → G) (hx : ∀ i j, i < n → j < n → x i = x j → i = j) (M : Nat → Nat → G) (hM : ∀ i j, i < n → j < n → M i j = pw (x i) j)
    (c : Nat → G) (h : ∀ i, i < n → dotF n (M i) c = 0) : ∀ j, j < n → c j = 0 := by
  intro j hj
  refine noughts ((List.range n).map c) ((List.range n).map x) ?_ (by simp) (fun p hp => ?_) (c j) (List.mem_map.2 ⟨j, List.mem_range.2 hj, rfl⟩)
  · rw [List.nodup_iff_pairwise_ne, List.pairwise_map]
    exact List.Pairwise.imp_of_mem (fun {a b} ha hb hne e => hne (hx a b (List.mem_range.1 ha) (List.mem_range.1 hb) e)) (List.nodup_range)
  · obtain ⟨i, hi, rfl⟩ := List.mem_map.1 hp
    have hi' := List.mem_range.1 hi
    rw [hor_sum, ← h i hi']
    unfold dotF
    exact sum_congr (fun k hk => by rw [hM i k hi' hk])
/-- The document's way: what Steps makes of the points' powers and values, its last column, is the one polynomial through them. -/
theorem StepsTo.through {n : Nat} {M0 : Mtx} (h0 : BytM M0) (x : Nat → G) (hx : ∀ i j, i < n → j < n → x i = x j → i = j) (hM : ∀ i j, i < n → j < n → el M0 i j = pw (x i) j)
    {t : Nat} {M : Mtx} (h : StepsTo n M0 (n + 1) t M) (p : Nat → G) (hp : ∀ i, i < n → hor ((List.range n).map p) (x i) = el M0 i n) : ∀ i, i < n → el M i n = p i := by
  refine h.solves h0 (powers_inj n x hx (el M0) hM) p (fun i hi => ?_)
  rw [← hp i hi, hor_sum]
  unfold dotF
  exact sum_congr (fun k hk => by rw [hM i k hi hk])
end Go.Proofs.Ytelgefkfflgbeaa.Sol
/- Steps: what comes to be is one and the same; its pivots. No program. -/
namespace Go.Proofs.Ytelgefkfflgbeaa.Sol
open Go.Proofs.Ytelgefkfflgbeaa.Gf Go.Proofs.Ytelgefkfflgbeaa.Gi Go.Proofs.Ytelgefkfflgbeaa.Alg
set_option linter.unusedVariables false

theorem gmI_zl (a : Int) : gmI 0 a = 0 := by unfold gmI; simp [gm_zero_left]
theorem gmI_zr (a : Int) : gmI a 0 = 0 := by unfold gmI; simp [gm_zero_right]
theorem xorI_self (a : Int) : xorI a a = 0 := by simp [xorI]
theorem xorI_z {a : Int} (h : Byt a) : xorI a 0 = a := by unfold xorI; have := h.1; simp; omega
theorem gmI_ol {a : Int} (h : Byt a) : gmI 1 a = a := by
  refine G.of_inj (gmI_byt ⟨by decide, by decide⟩) h ?_
  rw [of_gm ⟨by decide, by decide⟩ h, G.of_one, Alg.one_mul]
theorem inv_same {a r r' : Int} (ha : Byt a) (hr : Byt r) (hr' : Byt r') (h : gmI a r = 1) (h' : gmI a r' = 1) : r = r' := by
  refine G.of_inj hr hr' ?_
  have e1 : G.of a * G.of r = 1 := by rw [← of_gm ha hr, h, G.of_one]
  have e2 : G.of a * G.of r' = 1 := by rw [← of_gm ha hr', h', G.of_one]
  rw [inv_unique e1, inv_unique e2]
theorem StepsTo.same {n m : Nat} {M0 M0' : Mtx} (h0 : BytM M0) (h0' : BytM M0') (he : ∀ i, i < n → ∀ j, j < m → M0 i j = M0' i j) {col t : Nat} {M : Mtx} (h : StepsTo n M0 col t M) :
    ∀ {t' : Nat} {M' : Mtx}, StepsTo n M0' col t' M' → col ≤ m → t = t' ∧ ∀ i, i < n → ∀ j, j < m → M i j = M' i j := by
  induction h with
  | start => intro t' M' h' _; cases h'; exact ⟨rfl, he⟩
  | @skip col t M hs hz ih =>
    intro t' M' h' hc
    cases h' with
    | skip hs' hz' => exact ih hs' (by omega)
    | @step _ t2 k r M2 hs' htk hk hz' hp hr h1 =>
      obtain ⟨rfl, e⟩ := ih hs' (by omega)
      exact absurd ((e k hk col (by omega)).symm.trans (hz k htk hk)) hp
  | @step col t k r M hs htk hk hz hp hr h1 ih =>
    intro t' M' h' hc
    cases h' with
    | @skip _ t2 M2 hs' hz' =>
      obtain ⟨rfl, e⟩ := ih hs' (by omega)
      exact absurd ((e k hk col (by omega)).trans (hz' k htk hk)) hp
    | @step _ t2 k2 r2 M2 hs' htk' hk' hz' hp' hr' h1' =>
      obtain ⟨rfl, e⟩ := ih hs' (by omega)
      have ek : k = k2 := by
        rcases Nat.lt_trichotomy k k2 with h | h | h
        · exact absurd ((e k hk col (by omega)).trans (hz' k htk h)) hp
        · exact h
        · exact absurd ((e k2 hk' col (by omega)).symm.trans (hz k2 htk' h)) hp'
      subst ek
      have er : r = r2 := by
        rw [← e k hk col (by omega)] at h1'
        exact inv_same (hs.byt h0 k col) hr hr' h1 h1'
      subst er
      refine ⟨rfl, fun i hi j hj => ?_⟩
      unfold stepI swapI
      by_cases e1 : i = t
      · rw [if_pos e1, if_pos e1, e k hk j hj]
      · rw [if_neg e1, if_neg e1, e k hk j hj]
        by_cases e2 : i = k
        · rw [if_pos e2, if_pos e2, e t (by omega) j hj, e t (by omega) col (by omega)]
        · rw [if_neg e2, if_neg e2, e i hi j hj, e i hi col (by omega)]
/-- The pivots' columns. -/
def Pivots (n col t : Nat) (M : Mtx) : Prop := ∃ pc : Nat → Nat, (∀ i, i < t → pc i < col ∧ ∀ q, q < n → M q (pc i) = if q = i then 1 else 0) ∧ ∀ i, t ≤ i → i < n → ∀ j, j < col → M i j = 0
theorem StepsTo.pivots {n : Nat} {M0 : Mtx} (h0 : BytM M0) {col t : Nat} {M : Mtx} (h : StepsTo n M0 col t M) : Pivots n col t M := by
  induction h with
  | start => exact ⟨fun _ => 0, fun i hi => absurd hi (Nat.not_lt_zero i), fun i _ _ j hj => absurd hj (Nat.not_lt_zero j)⟩
  | @skip col t M hs hz ih =>
    obtain ⟨pc, h1, h2⟩ := ih
    refine ⟨pc, fun i hi => ⟨by have := (h1 i hi).1; omega, (h1 i hi).2⟩, fun i h3 h4 j hj => ?_⟩
    by_cases e : j < col
    · exact h2 i h3 h4 j e
    · obtain rfl : j = col := by omega
      exact hz i h3 h4
  | @step col t k r M hs htk hk hz hp hr h1 ih =>
    obtain ⟨pc, g1, g2⟩ := ih
    have hb := hs.byt h0
    have hS : ∀ q j, Byt (swapI M t k q j) := by intro q j; unfold swapI; split <;> exact hb _ _
    have hcol : ∀ q, q ≠ t → stepI M t k col r q col = 0 := fun q hq => by
      unfold stepI
      rw [if_neg hq, h1, gmI_ol (hS q col), xorI_self]
    refine ⟨fun i => if i = t then col else pc i, fun i hi => ?_, fun i h3 h4 j hj => ?_⟩
    · show (if i = t then col else pc i) < col + 1 ∧ ∀ q, q < n → stepI M t k col r q (if i = t then col else pc i) = if q = i then 1 else 0
      by_cases e : i = t
      · subst e
        rw [if_pos rfl]
        refine ⟨by omega, fun q hq => ?_⟩
        by_cases e2 : q = i
        · subst e2
          rw [if_pos rfl]
          unfold stepI
          rw [if_pos rfl, h1]
        · rw [if_neg e2]; exact hcol q e2
      · rw [if_neg e]
        obtain ⟨h5, h6⟩ := g1 i (by omega)
        refine ⟨by omega, fun q hq => ?_⟩
        have hkz : M k (pc i) = 0 := by rw [h6 k hk, if_neg (by omega)]
        unfold stepI
        by_cases e2 : q = t
        · rw [if_pos e2, hkz, gmI_zl, if_neg (by omega)]
        · rw [if_neg e2, hkz, gmI_zl, gmI_zl, xorI_z (hS q _)]
          unfold swapI
          by_cases e3 : q = k
          · rw [if_pos e3, h6 t (by omega), if_neg (by omega), if_neg (by omega)]
          · rw [if_neg e3]; exact h6 q hq
    · by_cases e : j < col
      · unfold stepI swapI
        rw [if_neg (by omega), g2 k htk hk j e, gmI_zl, gmI_zl]
        by_cases e3 : i = k
        · rw [if_pos e3, g2 t (Nat.le_refl t) (by omega) j e]; rfl
        · rw [if_neg e3, g2 i (by omega) h4 j e]; rfl
      · obtain rfl : j = col := by omega
        exact hcol i (by omega)
/-- Row i has something just if it is one of the first t. -/
theorem StepsTo.some_row {n : Nat} {M0 : Mtx} (h0 : BytM M0) {m t : Nat} {M : Mtx} (h : StepsTo n M0 m t M) (i : Nat) (hi : i < n) : (∃ j, j < m ∧ M i j ≠ 0) ↔ i < t := by
  obtain ⟨pc, g1, g2⟩ := h.pivots h0
  constructor
  · rintro ⟨j, hj, hne⟩
    rcases Nat.lt_or_ge i t with h | h
    · exact h
    · exact absurd (g2 i h hi j hj) hne
  · intro hit
    obtain ⟨h5, h6⟩ := g1 i hit
    exact ⟨pc i, h5, by rw [h6 i hi, if_pos rfl]; decide⟩
end Go.Proofs.Ytelgefkfflgbeaa.Sol
/- gf.Mul, walked by hand: the world stays. -/
namespace Go.Proofs.Ytelgefkfflgbeaa.Gi
open Go Go.RowKit Go.Proofs.Ytelgefkfflgbeaa.Bits Go.Proofs.Ytelgefkfflgbeaa.Gf Go.Proofs.YtelgefkfflgbeaaW.PrintWords
set_option linter.unusedVariables false

theorem xt_is (x : Nat) (h : x < 256) : (if 255 < x * 2 then x * 2 ^^^ 285 else x * 2) = xt x := by
  have e : ∀ x, x < 256 → (if 255 < x * 2 then x * 2 ^^^ 285 else x * 2) = xt x := by decide +kernel
  exact e x h
theorem xor_lt {a b : Nat} (ha : a < 256) (hb : b < 256) : a ^^^ b < 256 := by
  have : a ^^^ b < 2 ^ 8 := Nat.xor_lt_two_pow ha hb
  simpa using this

/-- What the loop holds. -/
def MulInv (r : Nat) (n b p x : Nat) : Prop := n ≤ 8 ∧ b < 2 ^ n ∧ p < 256 ∧ x < 256 ∧ gmA n b p x = r
theorem mulInv_bounds {r n b p x : Nat} (h : MulInv r n b p x) : b < 256 ∧ p < 256 ∧ x < 256 := by
  refine ⟨Nat.lt_of_lt_of_le h.2.1 ?_, h.2.2.1, h.2.2.2.1⟩
  have := Nat.pow_le_pow_right (n := 2) (by decide) h.1
  simpa using this
theorem mulInv_step {r n b p x : Nat} (h : MulInv r n b p x) (hb : 0 < b) : ∃ m, MulInv r m (b / 2) (p ^^^ b % 2 * x) (xt x) := by
  obtain ⟨h1, h2, h3, h4, h5⟩ := h
  cases n with
  | zero => simp at h2; omega
  | succ m =>
    refine ⟨m, by omega, by rw [Nat.pow_succ] at h2; omega, ?_, xt_lt x, h5⟩
    refine xor_lt h3 ?_
    rcases bit01 b with e | e <;> rw [e] <;> omega
theorem mulInv_end {r n p x : Nat} (h : MulInv r n 0 p x) : p = r := by
  have := h.2.2.2.2
  rwa [gmA_zero] at this

set_option maxRecDepth 100000 in
theorem mul_still0 (a b0 : Nat) (w : World) (ha : a < 256) (hb0 : b0 < 256) :
    Calls Try.prog 27 #[.int .u8 a, .int .u8 b0] w fun e w' => e = .returned (.int .u8 (gm a b0 : Nat)) ∧ w' = w := by
  have hI := Lib.hid (show MulInv (gm a b0) 8 b0 0 a from ⟨Nat.le_refl _, by simpa using hb0, by decide, ha, rfl⟩)
  have hr := gm_lt a b0 ha
  have ea : IntKind.i64.wrap (a : Int) = (a : Int) := IntWalk.i64_in _ (by omega)
  obtain ⟨r, hrr⟩ : ∃ r, r = gm a b0 := ⟨_, rfl⟩
  rw [← hrr] at hI hr ⊢
  clear hrr
  go_enter Try.func27, Try.ntmps27
  go_wp2
  go_loopw [1, 5, 6] (fun vb vp vx wr => ∃ (n b p x : Nat), vb = .int .u8 b ∧ vp = .int .i64 p ∧ vx = .int .i64 x ∧ Hid (MulInv r n b p x) ∧ Hid (wr = w)) (fun vb _ _ _ => (intOf vb).toNat)
  case atStart => exact ⟨8, b0, 0, a, rfl, rfl, rfl, hI, Lib.hid rfl⟩
  case round =>
    obtain ⟨n, b, p, x, rfl, rfl, rfl, hJ, hW⟩ := hrel
    have hm := hW.out
    subst hm
    clear hI
    obtain ⟨hb, hp, hx⟩ := mulInv_bounds hJ.out
    by_cases h0 : 0 < b
    · obtain ⟨n', hN⟩ := mulInv_step hJ.out h0
      have hxt := xt_is x hx
      have c3 : decide ((0 : Int) < (b : Int)) = true := by simp; omega
      have eb : bits .and .u8 (b : Int) 1 = ((b % 2 : Nat) : Int) := and1_u8 b hb
      have ex : bits .xor .i64 (p : Int) (x : Int) = ((p ^^^ x : Nat) : Int) := xor_i64 p x (by omega) (by omega)
      have e2 : bits .xor .i64 ((x : Int) * 2) 285 = ((x * 2 ^^^ 285 : Nat) : Int) := by
        have := xor_i64 (x * 2) 285 (by omega) (by omega)
        rwa [show ((x * 2 : Nat) : Int) = (x : Int) * 2 by omega] at this
      have ed : (b : Int) / 2 = ((b / 2 : Nat) : Int) := by omega
      have HD := Lib.hid ed
      have HN := Lib.hid hN
      have hlt : b / 2 < b := by omega
      have HB2 := Lib.hid (show b / 2 < b by omega)
      have HX := Lib.hid hxt
      have HE2 := Lib.hid e2
      have HEX := Lib.hid ex
      clear hN ed hlt hxt e2 ex
      rcases bit01 b with hbit | hbit
      · have q1 : (bits .and .u8 (b : Int) 1 == 1) = false := by rw [eb, hbit]; rfl
        have Hbit := Lib.hid hbit
        clear eb hbit
        by_cases h5 : 255 < x * 2
        · have q2 : decide ((255 : Int) < (x : Int) * 2) = true := by simp; omega
          go_wp2
          go_roundw
          case rel => exact ⟨n', b / 2, p, xt x, by rw [← HD.out], rfl, by have := HX.out; rw [if_pos h5] at this; rw [HE2.out, this], by have := HN.out; rw [Hbit.out, Nat.zero_mul, Nat.xor_zero] at this; exact Lib.hid this, by first | exact Lib.hid rfl | exact Lib.hid trivial⟩
          case measure => have := HB2.out; simp [intOf]; omega
        · have q2 : decide ((255 : Int) < (x : Int) * 2) = false := by simp; omega
          go_wp2
          go_roundw
          case rel => exact ⟨n', b / 2, p, xt x, by rw [← HD.out], rfl, by have := HX.out; rw [if_neg h5] at this; rw [← this]; congr 1, by have := HN.out; rw [Hbit.out, Nat.zero_mul, Nat.xor_zero] at this; exact Lib.hid this, by first | exact Lib.hid rfl | exact Lib.hid trivial⟩
          case measure => have := HB2.out; simp [intOf]; omega
      · have q1 : (bits .and .u8 (b : Int) 1 == 1) = true := by rw [eb, hbit]; rfl
        have Hbit := Lib.hid hbit
        clear eb hbit
        by_cases h5 : 255 < x * 2
        · have q2 : decide ((255 : Int) < (x : Int) * 2) = true := by simp; omega
          go_wp2
          go_roundw
          case rel => exact ⟨n', b / 2, p ^^^ x, xt x, by rw [← HD.out], by rw [HEX.out], by have := HX.out; rw [if_pos h5] at this; rw [HE2.out, this], by have := HN.out; rw [Hbit.out, Nat.one_mul] at this; exact Lib.hid this, by first | exact Lib.hid rfl | exact Lib.hid trivial⟩
          case measure => have := HB2.out; simp [intOf]; omega
        · have q2 : decide ((255 : Int) < (x : Int) * 2) = false := by simp; omega
          go_wp2
          go_roundw
          case rel => exact ⟨n', b / 2, p ^^^ x, xt x, by rw [← HD.out], by rw [HEX.out], by have := HX.out; rw [if_neg h5] at this; rw [← this]; congr 1, by have := HN.out; rw [Hbit.out, Nat.one_mul] at this; exact Lib.hid this, by first | exact Lib.hid rfl | exact Lib.hid trivial⟩
          case measure => have := HB2.out; simp [intOf]; omega
    · obtain rfl : b = 0 := by omega
      obtain rfl := mulInv_end hJ.out
      have c3 : decide ((0 : Int) < ((0 : Nat) : Int)) = false := by decide
      go_wp2
      go_ret
      exact ⟨by congr 2, rfl⟩
theorem mul_still (a b : Int) (w : World) (ha : Byt a) (hb : Byt b) :
    Calls Try.prog 27 #[.int .u8 a, .int .u8 b] w fun e w' => e = .returned (.int .u8 (gmI a b)) ∧ w' = w := by
  obtain ⟨x, hx, rfl⟩ := byt_nat ha
  obtain ⟨y, hy, rfl⟩ := byt_nat hb
  refine (mul_still0 x y w hx hy).mono ?_
  rintro e w' ⟨rfl, h⟩
  exact ⟨by simp [gmI], h⟩
theorem add_still (a b : Int) (w : World) (ha : Byt a) (hb : Byt b) :
    Calls Try.prog 26 #[.int .u8 a, .int .u8 b] w fun e w' => e = .returned (.int .u8 (xorI a b)) ∧ w' = w := by
  have hx := xor_bits ha hb
  go_enter Try.func26, Try.ntmps26
  go_wp2
  go_ret
  exact ⟨by first | rfl | rw [hx], rfl⟩
end Go.Proofs.Ytelgefkfflgbeaa.Gi
/- gf.Pow, gf.Inv, walked by hand: the world stays. -/
namespace Go.Proofs.Ytelgefkfflgbeaa.Gi
open Go Go.RowKit Go.Proofs.Ytelgefkfflgbeaa.Bits Go.Proofs.Ytelgefkfflgbeaa.Gf Go.Proofs.YtelgefkfflgbeaaW.PrintWords
set_option linter.unusedVariables false

/-- What the loop holds. -/
def PowInv (r n a p : Nat) : Prop := n < 9223372036854775808 ∧ a < 256 ∧ p < 256 ∧ gm p (gp a n) = r
theorem powInv_even {r n a p : Nat} (h : PowInv r n a p) (he : n % 2 = 0) : PowInv r (n / 2) (gm a a) p := by
  obtain ⟨h1, h2, h3, h4⟩ := h
  refine ⟨by omega, gm_lt a a h2, h3, ?_⟩
  rw [gp_sq a h2, show 2 * (n / 2) = n by omega]; exact h4
theorem powInv_odd {r n a p : Nat} (h : PowInv r n a p) (he : n % 2 = 1) : PowInv r (n / 2) (gm a a) (gm p a) := by
  obtain ⟨h1, h2, h3, h4⟩ := h
  refine ⟨by omega, gm_lt a a h2, gm_lt p a h3, ?_⟩
  rw [gp_sq a h2, gm_assoc _ _ _ h3 h2 (gp_lt a h2 _), gm_comm a _ h2 (gp_lt a h2 _), gp_succ, show 2 * (n / 2) + 1 = n by omega]; exact h4
theorem gmI_nat (a b : Nat) : gmI (a : Int) (b : Int) = ((gm a b : Nat) : Int) := by simp [gmI]
set_option maxRecDepth 100000 in
set_option maxHeartbeats 2000000 in
theorem pow_still (a n : Nat) (w : World) (ha : a < 256) (hn : n < 9223372036854775808) :
    Calls Try.prog 24 #[.int .u8 a, .int .i64 n] w fun e w' => e = .returned (.int .u8 (gp a n : Nat)) ∧ w' = w := by
  have hI := Lib.hid (show PowInv (gp a n) n a 1 from ⟨hn, ha, by decide, by rw [gm_one_left _ (gp_lt a ha n)]⟩)
  obtain ⟨r, hr⟩ : ∃ r, r = gp a n := ⟨_, rfl⟩
  rw [← hr] at hI ⊢
  clear hr
  go_enter Try.func24, Try.ntmps24
  go_wp2
  go_loopw [0, 1, 5] (fun va vn vp wr => ∃ (n a p : Nat), vn = .int .i64 n ∧ va = .int .u8 a ∧ vp = .int .u8 p ∧ Hid (PowInv r n a p) ∧ Hid (wr = w)) (fun _ vn _ _ => (intOf vn).toNat)
  case atStart => exact ⟨n, a, 1, rfl, rfl, rfl, hI, Lib.hid rfl⟩
  case round =>
    clear hI ha hn
    obtain ⟨n, a, p, rfl, rfl, rfl, hJ, hW⟩ := hrel
    have hm := hW.out
    subst hm
    obtain ⟨hn, ha, hp, hg⟩ := hJ.out
    have HG := Lib.hid hg
    clear hg
    by_cases h0 : 0 < n
    · have c3 : decide ((0 : Int) < (n : Int)) = true := by simp; omega
      have eb : bits .and .i64 (n : Int) 1 = ((n % 2 : Nat) : Int) := and1_i64 n hn
      have HD := Lib.hid (show (n : Int) / 2 = ((n / 2 : Nat) : Int) by omega)
      have HL := Lib.hid (show n / 2 < n by omega)
      have M1 := Lib.hid (fun W => mul_still (p : Int) (a : Int) W ⟨by omega, by omega⟩ ⟨by omega, by omega⟩)
      have M2 := Lib.hid (fun W => mul_still (a : Int) (a : Int) W ⟨by omega, by omega⟩ ⟨by omega, by omega⟩)
      rw [gmI_nat] at M1 M2
      rcases bit01 n with hbit | hbit
      · have q1 : (bits .and .i64 (n : Int) 1 == 1) = false := by rw [eb, hbit]; rfl
        have HJ := Lib.hid (powInv_even hJ.out hbit)
        clear eb hbit
        go_wp2_with (go_at_call 27; (with_reducible refine (M2.out _).mono ?_); rintro e w' ⟨rfl, rfl⟩)
        go_roundw
        case rel => exact ⟨n / 2, _, p, by rw [← HD.out], rfl, rfl, HJ, by first | exact Lib.hid rfl | exact Lib.hid trivial⟩
        case measure => have := HL.out; simp [intOf]; omega
      · have q1 : (bits .and .i64 (n : Int) 1 == 1) = true := by rw [eb, hbit]; rfl
        have HJ := Lib.hid (powInv_odd hJ.out hbit)
        clear eb hbit
        go_wp2_with (go_at_call 27; (first | (with_reducible refine (M2.out _).mono ?_) | (with_reducible refine (M1.out _).mono ?_)); rintro e w' ⟨rfl, rfl⟩)
        go_roundw
        case rel => exact ⟨n / 2, _, _, by rw [← HD.out], rfl, rfl, HJ, by first | exact Lib.hid rfl | exact Lib.hid trivial⟩
        case measure => have := HL.out; simp [intOf]; omega
    · obtain rfl : n = 0 := by omega
      have c3 : decide ((0 : Int) < ((0 : Nat) : Int)) = false := by decide
      have hr : p = r := by
        have := HG.out
        rw [show gp a 0 = 1 from rfl, gm_one] at this
        exact this
      subst hr
      go_wp2
      go_ret
      exact ⟨rfl, rfl⟩
theorem inv_still (a : Int) (w : World) (ha : Byt a) (h0 : a ≠ 0) : ∃ r, Byt r ∧ gmI a r = 1 ∧ ∀ w, Calls Try.prog 43 #[.int .u8 a] w fun e w' => e = .returned (.tuple #[.int .u8 r, .int .i64 0]) ∧ w' = w := by
  obtain ⟨x, hx, rfl⟩ := byt_nat ha
  have hp := gp_lt x hx 254
  have hi := gm_inv x hx (by omega)
  rw [ginv_gp x hx] at hi
  refine ⟨((gp x 254 : Nat) : Int), ⟨by omega, by omega⟩, by rw [gmI_nat, hi]; rfl, fun w => ?_⟩
  have PW := Lib.hid (fun W => pow_still x 254 W hx (by decide))
  have t1 : ((x : Int) == 0) = false := by simp; omega
  clear hi
  go_enter Try.func43, Try.ntmps43
  go_wp2_with (go_at_call 24; (refine (PW.out _).mono ?_); rintro e w' ⟨rfl, rfl⟩)
  go_ret2
  exact ⟨rfl, rfl⟩
end Go.Proofs.Ytelgefkfflgbeaa.Gi
/- Rows held apart: a head of slices, each over a block of its own. -/
namespace Go.Proofs.Ytelgefkfflgbeaa.Sol
open Go Go.RowKit Go.Proofs.Ytelgefkfflgbeaa.Gi Go.Proofs.Ytelgefkfflgbeaa.Mem Go.Proofs.YtelgefkfflgbeaaW.PrintWords
set_option linter.unusedVariables false

/-- The head's cells. -/
def heads (n : Nat) (R : Nat → Value) : List Value := (List.range n).map R
theorem heads_len (n : Nat) (R : Nat → Value) : (heads n R).length = n := by simp [heads]
theorem heads_get (n : Nat) (R : Nat → Value) (i : Nat) (hi : i < n) : (heads n R)[i]? = some (R i) := by simp [heads, hi]
theorem heads_succ (n : Nat) (R : Nat → Value) : heads (n + 1) R = heads n R ++ [R n] := by simp [heads, List.range_succ]
theorem heads_congr (n : Nat) (R R' : Nat → Value) (h : ∀ i, i < n → R i = R' i) : heads n R = heads n R' := List.map_congr_left (fun i hi => h i (by simpa using hi))
theorem heads_set (n : Nat) (R : Nat → Value) (k : Nat) (hk : k < n) (u : Value) : (heads n R).set k u = heads n (fun i => if i = k then u else R i) := by
  refine List.ext_getElem (by simp [heads]) (fun j h1 h2 => ?_)
  rw [List.getElem_set]
  simp only [heads, List.getElem_map, List.getElem_range]
  by_cases e : k = j
  · subst e; simp
  · rw [if_neg e, if_neg (fun h => e h.symm)]
/-- Rows apart: all blocks from lo on and below hi. -/
structure Grid (w : World) (lo hi : Nat) (v : Value) (n m : Nat) (R : Nat → Value) (M : Mtx) : Prop where
  hd : w.ownsRow lo 22 1 v n (heads n R)
  row : ∀ i, i < n → w.ownsRow lo 5 1 (R i) m (nums .u8 (line m (M i)))
  apart : ∀ i j, i < n → j < n → i ≠ j → ∀ k, (R i).ownBlock = some k → (R j).ownBlock ≠ some k
  hhi : ∀ k, v.ownBlock = some k → k < hi
  rhi : ∀ i, i < n → ∀ k, (R i).ownBlock = some k → k < hi
section
variable {w w' : World} {lo hi n m : Nat} {v : Value} {R : Nat → Value} {M : Mtx}
theorem Grid.move (h : Grid w lo hi v n m R M) (hm : ∀ k, lo ≤ k → k < hi → w'.heap[k]? = w.heap[k]?) : Grid w' lo hi v n m R M :=
  ⟨own_move h.hd (fun k hk => hm k (own_base h.hd k hk) (h.hhi k hk)), fun i hi => own_move (h.row i hi) (fun k hk => hm k (own_base (h.row i hi) k hk) (h.rhi i hi k hk)), h.apart, h.hhi, h.rhi⟩
theorem Grid.below (h : Grid w lo hi v n m R M) (hb : Below w.heap.size w w') : Grid w' lo hi v n m R M :=
  ⟨pw_own_below h.hd hb, fun i hi => pw_own_below (h.row i hi) hb, h.apart, h.hhi, h.rhi⟩
theorem Grid.drewN (h : Grid w lo hi v n m R M) (q : Nat) : Grid (w.drewN q) lo hi v n m R M := ⟨h.hd, h.row, h.apart, h.hhi, h.rhi⟩
theorem Grid.grown (h : Grid w lo hi v n m R M) {b : Nat} (hg : w.grownBy w' (some b)) (hb : b < lo ∨ hi ≤ b) : Grid w' lo hi v n m R M :=
  ⟨h.hd.kept hg (by
    rcases hv : v.ownBlock with _ | k
    · exact .inl rfl
    · have h1 := own_base h.hd k hv; have h2 := h.hhi k hv
      exact .inr (fun e => by injection e with e; omega)),
   fun i hi' => (h.row i hi').kept hg (by
    rcases hv : (R i).ownBlock with _ | k
    · exact .inl rfl
    · have h1 := own_base (h.row i hi') k hv; have h2 := h.rhi i hi' k hv
      exact .inr (fun e => by injection e with e; omega)), h.apart, h.hhi, h.rhi⟩
theorem Grid.mono (h : Grid w lo hi v n m R M) {hi' : Nat} (hh : hi ≤ hi') : Grid w lo hi' v n m R M :=
  ⟨h.hd, h.row, h.apart, fun k hk => Nat.lt_of_lt_of_le (h.hhi k hk) hh, fun i hi k hk => Nat.lt_of_lt_of_le (h.rhi i hi k hk) hh⟩
theorem Grid.congr (h : Grid w lo hi v n m R M) {M' : Mtx} (hm : ∀ i, i < n → ∀ j, j < m → M i j = M' i j) : Grid w lo hi v n m R M' :=
  ⟨h.hd, fun i hi => by rw [← line_congr m (M i) (M' i) (hm i hi)]; exact h.row i hi, h.apart, h.hhi, h.rhi⟩
theorem Grid.form (h : Grid w lo hi v n m R M) (hn : 0 < n) : ∃ g c, v = .slice (some ⟨g, 0, none⟩) n c ∧ n ≤ c ∧ lo ≤ g ∧ g < hi ∧ g < w.heap.size := by
  obtain ⟨g, c, rfl, h1, h2⟩ := h.hd.form hn
  exact ⟨g, c, rfl, own_cap h.hd, h1, h.hhi g rfl, h2⟩
theorem Grid.rform (h : Grid w lo hi v n m R M) (hm : 0 < m) (i : Nat) (hi' : i < n) : ∃ b c, R i = .slice (some ⟨b, 0, none⟩) m c ∧ m ≤ c ∧ lo ≤ b ∧ b < hi ∧ b < w.heap.size := by
  obtain ⟨b, c, e, h1, h2⟩ := (h.row i hi').form hm
  refine ⟨b, c, e, ?_, h1, h.rhi i hi' b (by rw [e]; rfl), h2⟩
  have := h.row i hi'
  rw [e] at this
  exact own_cap this
theorem Grid.head {g c : Nat} (h : Grid w lo hi (.slice (some ⟨g, 0, none⟩) n c) n m R M) (i : Nat) (hi' : i < n) : w.cell? ⟨g, i, none⟩ = some (R i) ∧ w.frozen? ⟨g, i, none⟩ = false :=
  ⟨by rw [h.hd.cellAt i (by omega), heads_get n R i hi'], h.hd.frozenAt i⟩
theorem Grid.elem {b c : Nat} (h : Grid w lo hi v n m R M) (i : Nat) (hi' : i < n) (e : R i = .slice (some ⟨b, 0, none⟩) m c) (j : Nat) (hj : j < m) : w.cell? ⟨b, j, none⟩ = some (.int .u8 (M i j)) ∧ w.frozen? ⟨b, j, none⟩ = false := by
  have hr := h.row i hi'
  rw [e] at hr
  refine ⟨?_, hr.frozenAt j⟩
  rw [hr.cellAt j (by omega)]
  simp [nums, line, hj]
/-- A row put anew: nothing but its block has changed. -/
theorem Grid.put {b c : Nat} (h : Grid w lo hi v n m R M) (i : Nat) (hi' : i < n) (e : R i = .slice (some ⟨b, 0, none⟩) m c) {w1 : World} (hg : w.grownBy w1 (some b)) (f : Nat → Int) (hr : w1.ownsRow lo 5 1 (R i) m (nums .u8 (line m f))) :
    Grid w1 lo hi v n m R (fun q => if q = i then f else M q) := by
  have eb : (R i).ownBlock = some b := by rw [e]; rfl
  refine ⟨h.hd.kept hg ?_, fun q hq => ?_, h.apart, h.hhi, h.rhi⟩
  · have := own_type_ne h.hd (h.row i hi') (by decide)
    rwa [eb] at this
  · by_cases hqi : q = i
    · subst hqi; simpa using hr
    · rw [if_neg hqi]
      refine (h.row q hq).kept hg ?_
      rcases hv : (R q).ownBlock with _ | k
      · exact .inl rfl
      · refine .inr (fun e' => ?_)
        injection e' with e'
        subst e'
        exact h.apart q i hq hi' hqi k hv eb
/-- Two rows in each other's place. -/
theorem Grid.swap {g c : Nat} (h : Grid w lo hi (.slice (some ⟨g, 0, none⟩) n c) n m R M) (i k : Nat) (hi' : i < n) (hk : k < n) :
    Grid ((w.setCell ⟨g, i, none⟩ (R k)).setCell ⟨g, k, none⟩ (R i)) lo hi (.slice (some ⟨g, 0, none⟩) n c) n m (fun q => if q = k then R i else if q = i then R k else R q) (fun q => if q = k then M i else if q = i then M k else M q) := by
  have h1 := h.hd.stored i (R k)
  have h2 := h1.1.stored k (R i)
  rw [heads_set n R i hi', heads_set n _ k hk] at h2
  have hrow : ∀ q, q < n → ∀ f : Nat → Int, w.ownsRow lo 5 1 (R q) m (nums .u8 (line m f)) → ((w.setCell ⟨g, i, none⟩ (R k)).setCell ⟨g, k, none⟩ (R i)).ownsRow lo 5 1 (R q) m (nums .u8 (line m f)) := fun q hq f hr => by
    have hne := own_type_ne hr h.hd (by decide)
    exact (hr.kept h1.2 hne).kept h2.2 hne
  refine ⟨h2.1, fun q hq => ?_, fun p q hp hq hne b hb => ?_, h.hhi, fun q hq b hb => ?_⟩
  · by_cases e1 : q = k
    · rw [if_pos e1, if_pos e1]; exact hrow i hi' _ (h.row i hi')
    · rw [if_neg e1, if_neg e1]
      by_cases e2 : q = i
      · rw [if_pos e2, if_pos e2]; exact hrow k hk _ (h.row k hk)
      · rw [if_neg e2, if_neg e2]; exact hrow q hq _ (h.row q hq)
  · let s : Nat → Nat := fun q => if q = k then i else if q = i then k else q
    have hs : ∀ q, (if q = k then R i else if q = i then R k else R q) = R (s q) := fun q => by
      show _ = R (if q = k then i else if q = i then k else q)
      split
      · rfl
      · split <;> rfl
    have hsn : ∀ q, q < n → s q < n := fun q hq => by
      show (if q = k then i else if q = i then k else q) < n
      split
      · exact hi'
      · split
        · exact hk
        · exact hq
    have hinj : s p ≠ s q := by
      show (if p = k then i else if p = i then k else p) ≠ (if q = k then i else if q = i then k else q)
      split <;> split <;> (try split) <;> (try split) <;> omega
    simp only [hs] at hb ⊢
    exact h.apart (s p) (s q) (hsn p hp) (hsn q hq) hinj b hb
  · by_cases e1 : q = k
    · simp only [if_pos e1] at hb; exact h.rhi i hi' b hb
    · simp only [if_neg e1] at hb
      by_cases e2 : q = i
      · simp only [if_pos e2] at hb; exact h.rhi k hk b hb
      · simp only [if_neg e2] at hb; exact h.rhi q hq b hb
end
end Go.Proofs.Ytelgefkfflgbeaa.Sol
/- Rows of bytes of the call's own: one more, appended; a row read; rows alike (for seats without a matrix). -/
namespace Go.Proofs.Ytelgefkfflgbeaa.Rws
open Go Go.RowKit Go.Proofs.Ytelgefkfflgbeaa.Mem Go.Proofs.Ytelgefkfflgbeaa.Bits Go.Proofs.YtelgefkfflgbeaaW.PrintWords
set_option linter.unusedVariables false

def Bytes (xs : List Int) : Prop := ∀ x ∈ xs, 0 ≤ x ∧ x < 256
def AllBytes (ls : List (List Int)) : Prop := ∀ l ∈ ls, Bytes l
abbrev kRow : Kd (List Int) := Kd.slice 5 (Kd.int .u8)
abbrev RowsC (w : World) (A : Option Addr) (ls : List (List Int)) : Prop := Kd.C kRow w A ls.length ls
abbrev RowsR (w : World) (base : Nat) (v : Value) (ls : List (List Int)) : Prop := Kd.R kRow 22 w base (fun _ => True) v ls
theorem RowsC.get {w : World} {A : Option Addr} {ls : List (List Int)} (h : RowsC w A ls) (i : Nat) (hi : i < ls.length) :
    ∃ ad A0 c0, A = some ad ∧ w.cell? (ad.add i) = some (.slice A0 (ls.getD i []).length c0) ∧ (ls.getD i []).length ≤ c0 ∧ (Kd.int .u8).C w A0 (ls.getD i []).length (ls.getD i []) := by
  obtain ⟨ad, c, e, _, hK, hc0⟩ := Kd.C_get h [] (i : Int) (by omega) (by omega)
  obtain ⟨A0, c0, rfl, l0, g0⟩ := hK
  refine ⟨ad, A0, c0, e, ?_, l0, g0⟩
  have hq := hc0 0 _ rfl
  simpa [Kd.slice] using hq
theorem info_rows : (Try.prog.info? 22).map (fun i => (i.zero, i.size, i.bytes)) = some (some (.slice none 0 0), 1, 24) := by kernel_rfl
theorem row_M {w : World} {base b0 : Nat} {u : Value} {n : Nat} {ys : List Int} (h : w.ownsRow b0 5 1 u n (nums .u8 ys)) (hb : base ≤ b0) (hn : ys.length = n) : kRow.M w base (fun k => some k = u.ownBlock) ys [u] := by
  refine ⟨u, rfl, Kd.R_of_own ?_ (fun k hk => hk.symm)⟩
  have := own_weaken h hb
  rw [← hn] at this; exact this
/-- One row more, appended: its bytes in a block that is new since wr. -/
theorem rows_append {P : Program} {ops : Array Oper} {rest : List Oper} {o : Oper} {a : Act} {Q : Exit → Act → World → Prop} {w0 W wr : World} (hP : P = Try.prog) (base : Nat) (hgd : o.guard = none) (s x : Operand)
    (ho : o.op = .call { callee := .builtin .append, args := #[s, x], argTypes := #[52, 52] }) (v : Value) (ls : List (List Int)) (ys : List Int) (g cap n : Nat)
    (hs : a.eval s = v) (hx : a.eval x = .slice (some ⟨W.heap.size, 0, none⟩) 1 1) (HR : RowsR wr base v ls) (HB : Below base w0 wr) (hbase : base ≤ wr.heap.size) (hB : Below wr.heap.size wr W)
    (hu : W.ownsRow wr.heap.size 5 1 (.slice (some ⟨g, 0, none⟩) n cap) n (nums .u8 ys)) (hn : ys.length = n) (hg : wr.heap.size ≤ g) (hl : ls.length ≤ 1000000)
    (h : ∀ v1 w1, RowsR w1 base v1 (ls ++ [ys]) → Below base w0 w1 → wpList P ops Q rest (a.put o.dst v1) w1) :
    wpList P ops Q (o :: rest) a (W.alloc (.cells #[.slice (some ⟨g, 0, none⟩) n cap] 22)) := by
  subst hP
  refine Kd.R_append kRow (w0 := w0) base hgd s x 52 22 (.slice none 0 0) 24 ho Try.underlying52 info_rows rfl (by decide) (by decide) v ls ys [.slice (some ⟨g, 0, none⟩) n cap] (fun _ => True)
    (fun k => some k = (Value.slice (some ⟨g, 0, none⟩) n cap).ownBlock) hs hx (row_M hu hbase hn) ?_ (fun _ _ => trivial) (Kd.R_below HR hB) ?_ (Nat.le_trans hbase hB.size) (by omega) (fun v1 w1 h1 h2 _ _ => h v1 w1 h1 h2)
  · intro k hk
    refine ⟨trivial, fun e => ?_⟩
    have e1 : g = k := by simpa [Value.ownBlock] using hk.symm
    have := Kd.R_lt HR k e.symm
    omega
  · exact HB.trans (hB.mono hbase)
/-- The same, the row known by its kind: its block is new since wr. -/
theorem rows_append2 {P : Program} {ops : Array Oper} {rest : List Oper} {o : Oper} {a : Act} {Q : Exit → Act → World → Prop} {w0 W wr : World} (hP : P = Try.prog) (base : Nat) (hgd : o.guard = none) (s x : Operand)
    (ho : o.op = .call { callee := .builtin .append, args := #[s, x], argTypes := #[52, 52] }) (v u : Value) (ls : List (List Int)) (ys : List Int)
    (hs : a.eval s = v) (hx : a.eval x = .slice (some ⟨W.heap.size, 0, none⟩) 1 1) (HR : RowsR wr base v ls) (HB : Below base w0 W) (hbase : base ≤ wr.heap.size) (hB : Below wr.heap.size wr W)
    (hu : (Kd.int .u8).R 5 W wr.heap.size (fun _ => True) u ys) (hl : ls.length ≤ 1000000)
    (h : ∀ v1 w1, RowsR w1 base v1 (ls ++ [ys]) → Below base w0 w1 → wpList P ops Q rest (a.put o.dst v1) w1) :
    wpList P ops Q (o :: rest) a (W.alloc (.cells #[u] 22)) := by
  subst hP
  have hown : W.ownsRow wr.heap.size 5 1 u ys.length (nums .u8 ys) := Kd.own_of_R hu
  refine Kd.R_append kRow (w0 := w0) base hgd s x 52 22 (.slice none 0 0) 24 ho Try.underlying52 info_rows rfl (by decide) (by decide) v ls ys [u] (fun _ => True)
    (fun k => some k = u.ownBlock) hs hx (row_M hown hbase rfl) ?_ (fun _ _ => trivial) (Kd.R_below HR hB) HB (Nat.le_trans hbase hB.size) (by omega) (fun v1 w1 h1 h2 _ _ => h v1 w1 h1 h2)
  intro k hk
  refine ⟨trivial, fun e => ?_⟩
  have h1 := own_base hown k hk.symm
  have := Kd.R_lt HR k e.symm
  omega
theorem info_byte : (Try.prog.info? 5).map (fun i => (i.zero, i.size, i.bytes)) = some (some (.int .u8 0), 1, 1) := by kernel_rfl
theorem info_byte1 : (Try.prog.info? 5).map (·.size) = some 1 := by kernel_rfl
end Go.Proofs.Ytelgefkfflgbeaa.Rws
/- A row put into rows of the call's own. -/
namespace Go.Proofs.Ytelgefkfflgbeaa.Rws
open Go Go.RowKit Go.Proofs.Ytelgefkfflgbeaa.Mem Go.Proofs.YtelgefkfflgbeaaW.PrintWords
set_option linter.unusedVariables false

theorem relem {W : World} {base g n cap : Nat} {ls : List (List Int)} (h : RowsR W base (.slice (some ⟨g, 0, none⟩) n cap) ls) (i : Nat) (hi : i < n) :
    ∃ A0 c0, W.cell? ⟨g, i, none⟩ = some (.slice A0 (ls.getD i []).length c0) ∧ W.frozen? ⟨g, i, none⟩ = false ∧ (ls.getD i []).length ≤ c0 ∧ (Kd.int .u8).C W A0 (ls.getD i []).length (ls.getD i []) ∧ kRow.M W base (fun k => k ≠ g) (ls.getD i []) [.slice A0 (ls.getD i []).length c0] := by
  have hn := (Kd.R_reads' h).1
  obtain ⟨c, hc, hM, hcc, hf⟩ := Kd.R_elem h [] (i : Int) (by omega) (by omega)
  obtain ⟨ad, c', e, _, hK, hc0⟩ := Kd.C_get (Kd.R_reads' h).2.2 [] (i : Int) (by omega) (by omega)
  rw [Int.toNat_natCast] at hM hK hcc hf
  obtain ⟨u, rfl, hu⟩ := hM
  obtain ⟨A0, c0, rfl, l0, g0⟩ := hK
  have h1 := hcc 0 u rfl
  injection e with e
  subst e
  have h2 := hc0 0 _ rfl
  have e3 : W.cell? ⟨g, i, none⟩ = some u := by simpa [Kd.slice] using h1
  have e4 : W.cell? ⟨g, i, none⟩ = some (.slice A0 (ls.getD i []).length c0) := by
    have : (⟨g, 0, none⟩ : Addr).add i = ⟨g, i, none⟩ := by by_cases h : i = 0 <;> simp [Addr.add, h]
    rw [← this]; simpa [Kd.slice] using h2
  rw [e3] at e4
  injection e4 with e4
  subst e4
  refine ⟨A0, c0, e3, by simpa [Kd.slice] using hf 0, l0, g0, ⟨_, rfl, Kd.R_mono hu (fun k hk => hk.2)⟩⟩
theorem rput {W : World} {base g n cap : Nat} {ls : List (List Int)} (h : RowsR W base (.slice (some ⟨g, 0, none⟩) n cap) ls) (i : Nat) (hi : i < n) (u : Value) (x' : List Int) (okp : Nat → Prop) (hM : kRow.M W base okp x' [u]) (hokp : ∀ k, okp k → k ≠ g) :
    RowsR (W.setCell ⟨g, i, none⟩ u) base (.slice (some ⟨g, 0, none⟩) n cap) (ls.set i x') := by
  obtain ⟨A0, c0, hc, _⟩ := relem h i hi
  have := (Kd.R_seg (seg := [u]) (c := [.slice A0 (ls.getD i []).length c0]) (j := 0) h (i : Int) (by omega) (by omega) rfl (fun j v hj => by
    cases j with
    | zero => injection hj with hj; subst hj; simpa [Kd.slice] using hc
    | succ j => cases hj) (by simp [Kd.slice]) hM (fun k hk => ⟨trivial, hokp k hk⟩)).1
  have e1 : ((i : Int).toNat * kRow.sz + 0) = i := by simp [Kd.slice]
  rw [e1, Int.toNat_natCast] at this
  exact this
theorem rblk {W : World} {base g n cap : Nat} {ls : List (List Int)} (h : RowsR W base (.slice (some ⟨g, 0, none⟩) n cap) ls) : base ≤ g ∧ ∃ cur, W.heap[g]? = some (.cells cur 22 (0, 0)) := by
  refine ⟨Kd.R_base h g (by simp [Value.ownBlock]), ?_⟩
  obtain ⟨_, inner, hown, hr⟩ := h
  rcases hown.2 with ⟨hv, _⟩ | ⟨g', cap', cur, hv, hb, hh, _⟩
  · cases hv
  · injection hv with ha _ _
    injection ha with ha
    injection ha with hg
    subst hg
    exact ⟨cur, hh⟩
end Go.Proofs.Ytelgefkfflgbeaa.Rws
/- Matrices of bytes as rows of bytes. -/
namespace Go.Proofs.Ytelgefkfflgbeaa.Sol
open Go Go.RowKit Go.Proofs.Ytelgefkfflgbeaa.Gf Go.Proofs.Ytelgefkfflgbeaa.Gi Go.Proofs.Ytelgefkfflgbeaa.Bits Go.Proofs.Ytelgefkfflgbeaa.Mem Go.Proofs.Ytelgefkfflgbeaa.Rws Go.Proofs.YtelgefkfflgbeaaW.PrintWords
set_option linter.unusedVariables false

def mat (n m : Nat) (M : Mtx) : List (List Int) := (List.range n).map (fun i => line m (M i))
theorem mat_len (n m : Nat) (M : Mtx) : (mat n m M).length = n := by simp [mat]
theorem mat_get (n m : Nat) (M : Mtx) (i : Nat) (hi : i < n) : (mat n m M).getD i [] = line m (M i) := by simp [mat, List.getD_eq_getElem?_getD, hi]
theorem mat_succ (n m : Nat) (M : Mtx) : mat (n + 1) m M = mat n m M ++ [line m (M n)] := by simp [mat, List.range_succ]
theorem mat_congr (n m : Nat) (M M' : Mtx) (h : ∀ i, i < n → ∀ j, j < m → M i j = M' i j) : mat n m M = mat n m M' := List.map_congr_left (fun i hi => line_congr m _ _ (h i (by simpa using hi)))
theorem mat_set (n m : Nat) (M : Mtx) (i : Nat) (hi : i < n) (r : Nat → Int) : (mat n m M).set i (line m r) = mat n m (fun i' => if i' = i then r else M i') := by
  refine List.ext_getElem (by simp [mat]) (fun q h1 h2 => ?_)
  simp [mat, List.getElem_set]
  by_cases e : i = q
  · subst e; simp
  · rw [if_neg e, if_neg (fun e' => e e'.symm)]
theorem at_row {w : World} {A : Option Addr} {n : Nat} {xs : List Int} (h : (Kd.int .u8).C w A n xs) (i : Nat) (hi : i < n) : ∃ ad, A = some ad ∧ w.cell? (ad.add i) = some (.int .u8 (xs.getD i 0)) := by
  obtain ⟨ad, c, e, _, hK, hc0⟩ := Kd.C_get h (0 : Int) (i : Int) (by omega) (by omega)
  refine ⟨ad, e, ?_⟩
  have hK' : c = [.int .u8 (xs.getD i 0)] := by simpa [Kd.int, Kd.scalar] using hK
  have hq := hc0 0 (.int .u8 (xs.getD i 0)) (by rw [hK']; rfl)
  simpa [Kd.int, Kd.scalar] using hq
theorem mrow {w : World} {A : Option Addr} {n m : Nat} {M : Mtx} (h : Kd.C kRow w A n (mat n m M)) (i : Nat) (hi : i < n) :
    ∃ ad A0 c0, A = some ad ∧ w.cell? (ad.add i) = some (.slice A0 m c0) ∧ m ≤ c0 ∧ (Kd.int .u8).C w A0 m (line m (M i)) := by
  obtain ⟨ad, c, e, _, hK, hc0⟩ := Kd.C_get h [] (i : Int) (by omega) (by omega)
  obtain ⟨A0, c0, rfl, l0, g0⟩ := hK
  have e1 : ((mat n m M).getD i []) = line m (M i) := mat_get n m M i hi
  have hq : w.cell? (ad.add i) = some (.slice A0 ((mat n m M).getD i []).length c0) := by simpa [Kd.slice] using hc0 0 _ rfl
  rw [e1, line_len] at hq
  rw [Int.toNat_natCast, e1, line_len] at l0 g0
  exact ⟨ad, A0, c0, e, hq, l0, g0⟩
theorem addk (g k : Nat) : (⟨g, 0, none⟩ : Addr).add k = ⟨g, k, none⟩ := by by_cases h : k = 0 <;> simp [Addr.add, h]
theorem clone_R {W : World} {base c9 m : Nat} {A9 : Option Addr} {xs : List Int} (h : W.ownsRow base 5 1 (.slice A9 ([] ++ xs).length c9) ([] ++ xs).length (nums .u8 ([] ++ xs))) (hl : xs.length = m) : (Kd.int .u8).R 5 W base (fun _ => True) (.slice A9 m c9) xs := by
  subst hl
  rw [List.nil_append] at h
  exact Kd.R_of_own h (fun _ _ => trivial)
end Go.Proofs.Ytelgefkfflgbeaa.Sol
/- solve: the rows of a matrix, a row's multiple, and a multiple added to another one. -/
namespace Go.Proofs.Ytelgefkfflgbeaa.Sol
open Go Go.RowKit Go.Proofs.Ytelgefkfflgbeaa.Gi Go.Proofs.Ytelgefkfflgbeaa.Mem Go.Proofs.Ytelgefkfflgbeaa.Bits Go.Proofs.YtelgefkfflgbeaaW.PrintWords
set_option linter.unusedVariables false

/-- A matrix's elements, told by places. -/
def mx (c : Nat) (xs : List Int) : Mtx := fun i j => xs.getD (i * c + j) 0
theorem rowOf_line {r c : Nat} {xs : List Int} (hl : xs.length = r * c) (i : Nat) (hi : i < r) : Mat.rowOf c xs i = line c (mx c xs i) := by
  refine List.ext_getElem (by rw [Mat.rowOf_len hl i hi, line_len]) (fun j h1 h2 => ?_)
  rw [Mat.rowOf_len hl i hi] at h1
  have e1 := Mat.rowOf_get (xs := xs) i j h1
  have e2 := line_get c (mx c xs i) j h1
  rw [List.getD_eq_getElem?_getD, List.getElem?_eq_getElem (by rw [Mat.rowOf_len hl i hi]; exact h1)] at e1
  rw [List.getD_eq_getElem?_getD, List.getElem?_eq_getElem h2] at e2
  simp only [Option.getD_some] at e1 e2
  rw [e1, e2]; rfl
theorem mx_byt {c : Nat} {xs : List Int} (h : Mat.Bytes xs) : BytM (mx c xs) := fun i j => h.getD _
theorem Grid.snoc {wr W w1 : World} {lo n m : Nat} {v v1 u : Value} {R : Nat → Value} {M : Mtx} (h : Grid wr lo wr.heap.size v n m R M) (hlo : lo ≤ wr.heap.size) (hb : Below wr.heap.size wr W) (hu : W.ownsRow wr.heap.size 5 1 u m (nums .u8 (line m (M n))))
    (ho : w1.ownsRow lo 22 1 v1 (n + 1) (heads n R ++ [u])) (hg : W.grownBy w1 v.ownBlock) : Grid w1 lo w1.heap.size v1 (n + 1) m (fun q => if q = n then u else R q) M := by
  have hW := h.below hb
  have hrow : ∀ q, q < n + 1 → w1.ownsRow lo 5 1 (if q = n then u else R q) m (nums .u8 (line m (M q))) := fun q hq => by
    by_cases e : q = n
    · subst e
      rw [if_pos rfl]
      exact (own_weaken hu hlo).kept hg (own_type_ne hu hW.hd (by decide))
    · rw [if_neg e]
      exact (hW.row q (by omega)).kept hg (own_type_ne (hW.row q (by omega)) hW.hd (by decide))
  refine ⟨?_, hrow, fun i j hi hj hne k hk => ?_, fun k hk => own_lt ho k hk, fun i hi k hk => own_lt (hrow i hi) k hk⟩
  · rw [heads_succ, heads_congr n (fun q => if q = n then u else R q) R (fun i hi => if_neg (by omega))]
    simpa using ho
  · by_cases e1 : i = n
    · subst e1
      simp only [if_true] at hk
      rw [if_neg (by omega)]
      intro e2
      have h1 := own_base hu k hk
      have h2 := h.rhi j (by omega) k e2
      omega
    · simp only [if_neg e1] at hk
      by_cases e2 : j = n
      · subst e2
        rw [if_pos rfl]
        intro e3
        have h1 := own_base hu k e3
        have h2 := h.rhi i (by omega) k hk
        omega
      · rw [if_neg e2]
        exact h.apart i j (by omega) (by omega) hne k hk
theorem info_rows2 : (Try.prog.info? 22).map (fun i => (i.zero, i.size, i.bytes)) = some (some (.slice none 0 0), 1, 24) := by kernel_rfl
theorem row_cell {W : World} {base e size n : Nat} {u : Value} {xs : List Value} (h : W.ownsRow base e size u n xs) : ∀ x ∈ [u], x.oneCell' = true := by
  obtain ⟨A, c, rfl⟩ := own_slice h
  intro x hx
  rw [List.mem_singleton.1 hx]
  rfl
/-- A head appended. -/
theorem head_append {P : Program} {ops : Array Oper} {rest : List Oper} {o : Oper} {a : Act} {Q : Exit → Act → World → Prop} {w0 W : World} (hP : P = Try.prog) (base : Nat) (hgd : o.guard = none) (s x : Operand)
    (ho : o.op = .call { callee := .builtin .append, args := #[s, x], argTypes := #[52, 52] }) (v u : Value) (n : Nat) (xs : List Value)
    (hs : a.eval s = v) (hx : a.eval x = .slice (some ⟨W.heap.size, 0, none⟩) 1 1) (hu : ∀ y ∈ [u], y.oneCell' = true) (HO : W.ownsRow base 22 1 v n xs) (HB : Below base w0 W) (hbase : base ≤ W.heap.size) (hn : n ≤ 1000000)
    (h : ∀ v1 w1, w1.ownsRow base 22 1 v1 (n + 1) (xs ++ [u]) → Below base w0 w1 → W.grownBy w1 v.ownBlock → wpList P ops Q rest (a.put o.dst v1) w1) :
    wpList P ops Q (o :: rest) a (W.alloc (.cells #[u] 22)) := by
  subst hP
  exact print_append_cells (w0 := w0) base hgd s x 52 22 (.slice none 0 0) 1 24 ho Try.underlying52 info_rows2 rfl (by decide) (by decide) v n xs [u] hs hx rfl hu HO HB hbase (by omega) (fun v1 w1 h1 h2 h3 _ => h v1 w1 h1 h2 h3)
set_option maxRecDepth 100000 in
set_option maxHeartbeats 2000000 in
theorem srows_any (v : Value) (r c : Nat) (xs : List Int) (w : World) (h : Mat.IsMat w v r c xs) :
    Calls Try.prog 49 #[v] w fun e w' => ∃ u R, e = .returned u ∧ Grid w' w.heap.size w'.heap.size u r c R (mx c xs) ∧ Below w.heap.size w w' := by
  have hr64 : r ≤ 64 := by obtain ⟨b, s, cap, rfl, hm⟩ := h; exact hm.r1
  have hlen : xs.length = r * c := by obtain ⟨b, s, cap, rfl, hm⟩ := h; exact hm.len
  have SZ := Lib.hid (Mat.size_any v r c xs w h)
  have RW := Lib.hid (fun W (hB : Below w.heap.size w W) i (hi : i < r) => Mat.row_in v r c xs i W (h.below hB) hi)
  have RL := Lib.hid (fun i (hi : i < r) => rowOf_line hlen i hi)
  clear h hlen
  go_enter Try.func49, Try.ntmps49
  go_upto_region 4 with (go_at_call 18; (with_reducible refine SZ.out.mono ?_); rintro e w0 ⟨rfl, nd, hw0⟩; have HB0 := Lib.hid (show Below w.heap.size w w0 by rw [hw0]; exact pw_below_drewN (Below.refl _ _) nd); have HG0 := Lib.hid (show Grid w0 w.heap.size w0.heap.size (.slice none 0 0) 0 c (fun _ => .slice none 0 0) (mx c xs) from ⟨own_nil _ _ _ _, fun i hi => absurd hi (Nat.not_lt_zero i), fun i j hi => absurd hi (Nat.not_lt_zero i), fun k hk => (by cases hk), fun i hi => absurd hi (Nat.not_lt_zero i)⟩); clear hw0)
  go_loopw [3, 6, 13] (fun u0 _ iv wr => ∃ (i : Nat) (u : Value) (R : Nat → Value), u0 = u ∧ i ≤ r ∧ iv = .int .i64 i ∧ Hid (Grid wr w.heap.size wr.heap.size u i c R (mx c xs)) ∧ Hid (Below w.heap.size w wr)) (fun _ _ iv _ => r - (intOf iv).toNat)
  case atStart => exact ⟨0, _, _, rfl, by omega, rfl, HG0, HB0⟩
  case round =>
    clear HG0 HB0
    obtain ⟨i, u, R, rfl, hi, rfl, HG, HB⟩ := hrel
    by_cases hlt : i < r
    · have RW1 := Lib.hid (RW.out wr HB.out i hlt)
      rw [RL.out i hlt] at RW1
      go_wp2_with (first
        | (go_at_call 19; (with_reducible refine RW1.out.mono ?_); rintro e w1 ⟨u1, rfl, h1, hb1⟩; obtain ⟨A1, c1, rfl⟩ := own_slice h1; have H1 := Lib.hid h1; have HB1 := Lib.hid hb1; clear h1 hb1)
        | (at_builtin; refine head_append (w0 := w) rfl w.heap.size rfl _ _ rfl u3 _ i (heads i R) rfl rfl (row_cell H1.out) (pw_own_below HG.out.hd HB1.out) (HB.out.trans (HB1.out.mono HB.out.size)) (Nat.le_trans HB.out.size HB1.out.size) (by omega) ?_; intro v2 w2 ho hb hg; have HG2 := Lib.hid (Grid.snoc HG.out HB.out.size HB1.out H1.out ho hg); have HB2 := Lib.hid hb; clear ho hb hg))
      go_roundw
      case rel => exact ⟨i + 1, _, _, rfl, by omega, by go_num, HG2, HB2⟩
      case measure => simp [intOf]; omega
    · obtain rfl : i = r := by omega
      go_wp2
      go_ret
      exact ⟨_, _, rfl, HG.out, HB.out⟩
/-- The first k multiplied. -/
def scl (f : Nat → Int) (x : Int) (k : Nat) : Nat → Int := fun j => if j < k then gmI (f j) x else f j
theorem scl_set (m : Nat) (f : Nat → Int) (x : Int) (k : Nat) (hk : k < m) : (line m (scl f x k)).set k (gmI (f k) x) = line m (scl f x (k + 1)) := by
  rw [line_set m _ k hk]
  refine line_congr m _ _ (fun j hj => ?_)
  unfold scl
  by_cases e : j = k
  · subst e; rw [if_pos rfl, if_pos (by omega)]
  · rw [if_neg e]
    by_cases h : j < k
    · rw [if_pos h, if_pos (by omega)]
    · rw [if_neg h, if_neg (by omega)]
theorem own_elem {w : World} {lo b c m : Nat} {f : Nat → Int} (h : w.ownsRow lo 5 1 (.slice (some ⟨b, 0, none⟩) m c) m (nums .u8 (line m f))) (j : Nat) (hj : j < m) : w.cell? ⟨b, j, none⟩ = some (.int .u8 (f j)) ∧ w.frozen? ⟨b, j, none⟩ = false := by
  refine ⟨?_, h.frozenAt j⟩
  rw [h.cellAt j (by omega)]
  simp [nums, line, hj]
theorem nums_line_set (m : Nat) (f g : Nat → Int) (k : Nat) (y : Int) (h : (line m f).set k y = line m g) : (nums .u8 (line m f)).set k (.int .u8 y) = nums .u8 (line m g) := by
  rw [← h]; simp [nums, List.map_set]
set_option maxRecDepth 100000 in
set_option maxHeartbeats 2000000 in
theorem scale_any (lo b c m : Nat) (f : Nat → Int) (x : Int) (w : World) (hr : w.ownsRow lo 5 1 (.slice (some ⟨b, 0, none⟩) m c) m (nums .u8 (line m f))) (hf : ∀ j, Byt (f j)) (hx : Byt x) (hm : m ≤ 1000000) :
    Calls Try.prog 53 #[.slice (some ⟨b, 0, none⟩) m c, .int .u8 x] w fun e w' => e = .returned (.tuple #[]) ∧ w'.ownsRow lo 5 1 (.slice (some ⟨b, 0, none⟩) m c) m (nums .u8 (line m (fun j => gmI (f j) x))) ∧ w.grownBy w' (some b) := by
  have HF := Lib.hid hf
  have HX := Lib.hid hx
  have HR0 := Lib.hid (show w.ownsRow lo 5 1 (.slice (some ⟨b, 0, none⟩) m c) m (nums .u8 (line m (scl f x 0))) by
    rw [line_congr m (scl f x 0) f (fun j _ => by unfold scl; rw [if_neg (Nat.not_lt_zero j)])]; exact hr)
  have HG0 := Lib.hid (World.grownBy.refl w (some b))
  clear hf hx hr
  go_enter Try.func53, Try.ntmps53
  go_upto_region 1 with (fail)
  go_loopw [4, 7] (fun _ iv wr => ∃ (i : Nat), i ≤ m ∧ iv = .int .i64 i ∧ Hid (wr.ownsRow lo 5 1 (.slice (some ⟨b, 0, none⟩) m c) m (nums .u8 (line m (scl f x i)))) ∧ Hid (w.grownBy wr (some b))) (fun _ iv _ => m - (intOf iv).toNat)
  case atStart => exact ⟨0, by omega, rfl, HR0, HG0⟩
  case round =>
    clear HR0 HG0
    obtain ⟨i, hi, rfl, HR, HG⟩ := hrel
    by_cases hlt : i < m
    · obtain ⟨t1, t2⟩ := own_elem HR.out i hlt
      rw [show scl f x i i = f i by unfold scl; rw [if_neg (Nat.lt_irrefl i)]] at t1
      have hst := HR.out.stored i (.int .u8 (gmI (f i) x))
      rw [nums_line_set m _ _ i _ (scl_set m f x i hlt)] at hst
      have hyb := HF.out i
      obtain ⟨y, hy⟩ : ∃ y, y = f i := ⟨_, rfl⟩
      rw [← hy] at t1 hst hyb
      have HY := Lib.hid hyb
      have HR1 := Lib.hid hst.1
      have HG1 := Lib.hid (World.grownBy.trans HG.out hst.2)
      have g0 : (0 : Int) ≤ (i : Int) := by omega
      have g1 : (i : Int) < (m : Int) := by omega
      clear hy hst hyb
      go_wp2_with (go_at_call 27; (with_reducible refine (mul_still y x _ HY.out HX.out).mono ?_); rintro e w' ⟨rfl, rfl⟩)
      go_roundw
      case rel => exact ⟨i + 1, by omega, by go_num, HR1, HG1⟩
      case measure => simp [intOf]; omega
    · obtain rfl : i = m := by omega
      go_wp2
      first | go_end0 | ((try simp only [Exit.inBlock, Exit.then]); refine bodyPost_ret (results_none rfl _ _ _) rfl ?_)
      refine ⟨rfl, ?_, HG.out⟩
      rw [line_congr i (fun j => gmI (f j) x) (scl f x i) (fun j hj => by unfold scl; rw [if_pos hj])]
      exact HR.out
/-- The first k added to. -/
def adl (f g : Nat → Int) (x : Int) (k : Nat) : Nat → Int := fun j => if j < k then xorI (f j) (gmI (g j) x) else f j
theorem adl_set (m : Nat) (f g : Nat → Int) (x : Int) (k : Nat) (hk : k < m) : (line m (adl f g x k)).set k (xorI (f k) (gmI (g k) x)) = line m (adl f g x (k + 1)) := by
  rw [line_set m _ k hk]
  refine line_congr m _ _ (fun j hj => ?_)
  unfold adl
  by_cases e : j = k
  · subst e; rw [if_pos rfl, if_pos (by omega)]
  · rw [if_neg e]
    by_cases h : j < k
    · rw [if_pos h, if_pos (by omega)]
    · rw [if_neg h, if_neg (by omega)]
set_option maxRecDepth 100000 in
set_option maxHeartbeats 2000000 in
theorem sadd_any (lo b c b2 c2 m : Nat) (f g : Nat → Int) (x : Int) (w : World) (hr : w.ownsRow lo 5 1 (.slice (some ⟨b, 0, none⟩) m c) m (nums .u8 (line m f))) (hr2 : w.ownsRow lo 5 1 (.slice (some ⟨b2, 0, none⟩) m c2) m (nums .u8 (line m g)))
    (hne : b2 ≠ b) (hf : ∀ j, Byt (f j)) (hg : ∀ j, Byt (g j)) (hx : Byt x) (hm : m ≤ 1000000) :
    Calls Try.prog 54 #[.slice (some ⟨b, 0, none⟩) m c, .slice (some ⟨b2, 0, none⟩) m c2, .int .u8 x] w fun e w' => e = .returned (.tuple #[]) ∧ w'.ownsRow lo 5 1 (.slice (some ⟨b, 0, none⟩) m c) m (nums .u8 (line m (fun j => xorI (f j) (gmI (g j) x)))) ∧ w.grownBy w' (some b) := by
  have HF := Lib.hid hf
  have HGB := Lib.hid hg
  have HX := Lib.hid hx
  have HNE := Lib.hid hne
  have HR0 := Lib.hid (show w.ownsRow lo 5 1 (.slice (some ⟨b, 0, none⟩) m c) m (nums .u8 (line m (adl f g x 0))) by
    rw [line_congr m (adl f g x 0) f (fun j _ => by unfold adl; rw [if_neg (Nat.not_lt_zero j)])]; exact hr)
  have HS0 := Lib.hid hr2
  have HG0 := Lib.hid (World.grownBy.refl w (some b))
  clear hf hg hx hr hr2 hne
  go_enter Try.func54, Try.ntmps54
  go_upto_region 1 with (fail)
  go_loopw [6, 9] (fun _ iv wr => ∃ (i : Nat), i ≤ m ∧ iv = .int .i64 i ∧ Hid (wr.ownsRow lo 5 1 (.slice (some ⟨b, 0, none⟩) m c) m (nums .u8 (line m (adl f g x i)))) ∧ Hid (wr.ownsRow lo 5 1 (.slice (some ⟨b2, 0, none⟩) m c2) m (nums .u8 (line m g))) ∧ Hid (w.grownBy wr (some b))) (fun _ iv _ => m - (intOf iv).toNat)
  case atStart => exact ⟨0, by omega, rfl, HR0, HS0, HG0⟩
  case round =>
    clear HR0 HS0 HG0
    obtain ⟨i, hi, rfl, HR, HS, HG⟩ := hrel
    by_cases hlt : i < m
    · obtain ⟨t1, t2⟩ := own_elem HR.out i hlt
      obtain ⟨t3, _⟩ := own_elem HS.out i hlt
      rw [show adl f g x i i = f i by unfold adl; rw [if_neg (Nat.lt_irrefl i)]] at t1
      have hst := fun q => World.ownsRow.stored (w := wr.drewN q) HR.out i (.int .u8 (xorI (f i) (gmI (g i) x)))
      simp only [nums_line_set m _ _ i _ (adl_set m f g x i hlt)] at hst
      have hyb := HF.out i
      have hzb := HGB.out i
      obtain ⟨y, hy⟩ : ∃ y, y = f i := ⟨_, rfl⟩
      obtain ⟨z, hz⟩ : ∃ z, z = g i := ⟨_, rfl⟩
      rw [← hy] at t1 hst hyb
      rw [← hz] at t3 hst hzb
      have HY := Lib.hid hyb
      have HZ := Lib.hid hzb
      have HR1 := Lib.hid (hst 1).1
      have HS1 := Lib.hid (World.ownsRow.kept (w := wr.drewN 1) HS.out (hst 1).2 (.inr (fun e => HNE.out (by injection e))))
      have HG1 := Lib.hid (World.grownBy.trans HG.out (World.grownBy.trans (show wr.grownBy (wr.drewN 1) (some b) from ⟨rfl, rfl, rfl, Nat.le_refl _, fun _ _ _ => rfl⟩) (hst 1).2))
      have g0 : (0 : Int) ≤ (i : Int) := by omega
      have g1 : (i : Int) < (m : Int) := by omega
      clear hy hz hst hyb hzb
      go_wp2
      refine wp_region_still_tail 14 (by kernel_rfl) (by kernel_rfl) ?_
      change wpStill _ _ (wr.drewN 1) (fun a' => wpList _ _ _ _ a' (wr.drewN 1)) _ _
      simp only [List.take_succ_cons, List.take_zero, List.drop_succ_cons, List.drop_zero]
      iterate 11 still_step
      still_call (mul_still z x (wr.drewN 1) HZ.out HX.out)
      still_call (add_still y (gmI z x) (wr.drewN 1) HY.out (gmI_byt HZ.out))
      still_step
      refine wpStill_nil ?_
      go_wp2
      go_roundw
      case rel => exact ⟨i + 1, by omega, by go_num, HR1, HS1, HG1⟩
      case measure => simp [intOf]; omega
    · obtain rfl : i = m := by omega
      go_wp2
      first | go_end0 | ((try simp only [Exit.inBlock, Exit.then]); refine bodyPost_ret (results_none rfl _ _ _) rfl ?_)
      refine ⟨rfl, ?_, HG.out⟩
      rw [line_congr i (fun j => xorI (f j) (gmI (g j) x)) (adl f g x i) (fun j hj => by unfold adl; rw [if_pos hj])]
      exact HR.out
end Go.Proofs.Ytelgefkfflgbeaa.Sol
/- solve: rows that are brought to steps, and other ones that go along. -/
namespace Go.Proofs.Ytelgefkfflgbeaa.Sol
open Go Go.RowKit Go.Proofs.Ytelgefkfflgbeaa.Gi Go.Proofs.Ytelgefkfflgbeaa.Mem Go.Proofs.Ytelgefkfflgbeaa.Bits Go.Proofs.Ytelgefkfflgbeaa.Rws Go.Proofs.YtelgefkfflgbeaaW.PrintWords
set_option linter.unusedVariables false

/-- Rows apart are rows. -/
theorem Grid.rows {w : World} {lo hi n m : Nat} {v : Value} {R : Nat → Value} {M : Mtx} (h : Grid w lo hi v n m R M) : RowsR w lo v (mat n m M) := by
  refine ⟨fun _ _ => trivial, heads n R, by rw [mat_len]; exact h.hd, by rw [heads_len, mat_len]; exact (Nat.mul_one n).symm, fun j p hj => ?_⟩
  have hjn : j < n := by
    have := (List.getElem?_eq_some_iff.1 hj).1
    rwa [mat_len] at this
  have hp : p = line m (M j) := by
    rw [show (mat n m M)[j]? = some (line m (M j)) by simp [mat, hjn]] at hj
    injection hj with hj
    exact hj.symm
  subst hp
  refine ⟨R j, ?_, Kd.R_of_own (by rw [line_len]; exact h.row j hjn) (fun k hk => ⟨trivial, fun e => ?_⟩)⟩
  · show ((heads n R).drop (j * 1)).take 1 = [R j]
    rw [Nat.mul_one, List.drop_eq_getElem_cons (by rw [heads_len]; exact hjn)]
    simp [heads]
  · rcases own_type_ne (h.row j hjn) h.hd (by decide) with e1 | e1
    · rw [e1] at hk; cases hk
    · exact e1 (by rw [hk]; exact e)
/-- Nothing but blocks from lo on and below top has changed. -/
structure Insd (lo top : Nat) (w w' : World) : Prop where
  os : w'.os = w.os
  tape : w'.tape = w.tape
  output : w'.output = w.output
  size : w.heap.size ≤ w'.heap.size
  block : ∀ k, k < w.heap.size → (k < lo ∨ top ≤ k) → w'.heap[k]? = w.heap[k]?
theorem Insd.refl (lo top : Nat) (w : World) : Insd lo top w w := ⟨rfl, rfl, rfl, Nat.le_refl _, fun _ _ _ => rfl⟩
theorem Insd.trans {lo top : Nat} {w w1 w2 : World} (h : Insd lo top w w1) (h' : Insd lo top w1 w2) : Insd lo top w w2 :=
  ⟨h'.os.trans h.os, h'.tape.trans h.tape, h'.output.trans h.output, Nat.le_trans h.size h'.size, fun k hk ho => (h'.block k (Nat.lt_of_lt_of_le hk h.size) ho).trans (h.block k hk ho)⟩
theorem Insd.grown {lo top b : Nat} {w w' : World} (hg : w.grownBy w' (some b)) (h1 : lo ≤ b) (h2 : b < top) : Insd lo top w w' :=
  ⟨hg.os, hg.tape, hg.output, hg.size, fun k hk ho => hg.block k hk (fun e => by injection e with e; omega)⟩
theorem Insd.drewN {lo top : Nat} (w : World) (q : Nat) : Insd lo top w (w.drewN q) := ⟨rfl, rfl, rfl, Nat.le_refl _, fun _ _ _ => rfl⟩
theorem Insd.below {lo top : Nat} {w w' : World} (h : Insd lo top w w') (hl : lo ≤ w.heap.size) : Below lo w w' := ⟨h.os, h.tape, h.output, h.size, fun k hk => h.block k (Nat.lt_of_lt_of_le hk hl) (.inl hk)⟩
theorem Insd.own {lo top base n size : Nat} {e : TypeId} {w w' : World} {v : Value} {xs : List Value} (h : Insd lo top w w') (ho : w.ownsRow base e size v n xs) (hb : top ≤ base) : w'.ownsRow base e size v n xs :=
  own_move ho (fun k hk => h.block k (own_lt ho k hk) (.inr (Nat.le_trans hb (own_base ho k hk))))
theorem Insd.blk {lo top p t : Nat} {w w' : World} {cs : Array Value} (h : Insd lo top w w') (hb : Blk w p t cs) (hp : top ≤ p) : Blk w' p t cs := (h.block p hb.lt (.inr hp)).trans hb
/-- A pointer's work: rows, and others that go along; C is both side by side. -/
structure Work (w : World) (lo mid top p : Nat) (va vb : Value) (n m q : Nat) (Ra Rb : Nat → Value) (C : Mtx) : Prop where
  blk : Blk w p 72 #[va, vb]
  ga : Grid w lo mid va n m Ra C
  gb : Grid w mid top vb n q Rb (fun i j => C i (m + j))
  l1 : lo ≤ mid
  l2 : mid ≤ top
  l3 : top ≤ p
section
variable {w w' : World} {lo mid top p n m q : Nat} {va vb : Value} {Ra Rb : Nat → Value} {C : Mtx}
theorem Work.below (h : Work w lo mid top p va vb n m q Ra Rb C) (hb : Below w.heap.size w w') : Work w' lo mid top p va vb n m q Ra Rb C :=
  ⟨h.blk.below hb h.blk.lt, h.ga.below hb, h.gb.below hb, h.l1, h.l2, h.l3⟩
theorem Work.cells (h : Work w lo mid top p va vb n m q Ra Rb C) : w.cell? ⟨p, 0, none⟩ = some va ∧ w.cell? ⟨p, 1, none⟩ = some vb := ⟨(h.blk.cell 0).trans rfl, (h.blk.cell 1).trans rfl⟩
theorem Work.grown (h : Work w lo mid top p va vb n m q Ra Rb C) {b : Nat} (hg : w.grownBy w' (some b)) (hb : p < b) : Work w' lo mid top p va vb n m q Ra Rb C :=
  ⟨h.blk.grown hg (fun e => by injection e with e; omega), h.ga.grown hg (.inr (by have := h.l2; have := h.l3; omega)), h.gb.grown hg (.inr (by have := h.l3; omega)), h.l1, h.l2, h.l3⟩
theorem Work.congr (h : Work w lo mid top p va vb n m q Ra Rb C) {C' : Mtx} (hc : ∀ i, i < n → ∀ j, j < m + q → C i j = C' i j) : Work w lo mid top p va vb n m q Ra Rb C' :=
  ⟨h.blk, h.ga.congr (fun i hi j hj => hc i hi j (by omega)), h.gb.congr (fun i hi j hj => hc i hi (m + j) (by omega)), h.l1, h.l2, h.l3⟩
/-- A row of the first ones put anew. -/
theorem Work.putA (h : Work w lo mid top p va vb n m q Ra Rb C) (i : Nat) (hi : i < n) {b c : Nat} (e : Ra i = .slice (some ⟨b, 0, none⟩) m c) (hl : lo ≤ b) (hh : b < mid) (hg : w.grownBy w' (some b)) (f : Nat → Int) (hr : w'.ownsRow lo 5 1 (Ra i) m (nums .u8 (line m f))) :
    Work w' lo mid top p va vb n m q Ra Rb (fun p j => if p = i then (if j < m then f j else C i j) else C p j) := by
  refine ⟨h.blk.grown hg (fun e => by injection e with e; have := h.l2; have := h.l3; omega), (h.ga.put i hi e hg f hr).congr (fun p _ j hj => ?_), (h.gb.grown hg (.inl hh)).congr (fun p _ j hj => ?_), h.l1, h.l2, h.l3⟩
  · by_cases hp : p = i
    · subst hp; rw [if_pos rfl, if_pos rfl, if_pos hj]
    · rw [if_neg hp, if_neg hp]
  · by_cases hp : p = i
    · subst hp; rw [if_pos rfl, if_neg (by omega)]
    · rw [if_neg hp]
/-- A row of the others put anew. -/
theorem Work.putB (h : Work w lo mid top p va vb n m q Ra Rb C) (i : Nat) (hi : i < n) {b c : Nat} (e : Rb i = .slice (some ⟨b, 0, none⟩) q c) (hl : mid ≤ b) (hh : b < top) (hg : w.grownBy w' (some b)) (f : Nat → Int) (hr : w'.ownsRow mid 5 1 (Rb i) q (nums .u8 (line q f))) :
    Work w' lo mid top p va vb n m q Ra Rb (fun p j => if p = i then (if j < m then C i j else f (j - m)) else C p j) := by
  refine ⟨h.blk.grown hg (fun e => by injection e with e; have := h.l3; omega), (h.ga.grown hg (.inr hl)).congr (fun p _ j hj => ?_), (h.gb.put i hi e hg f hr).congr (fun p _ j hj => ?_), h.l1, h.l2, h.l3⟩
  · by_cases hp : p = i
    · subst hp; rw [if_pos rfl, if_pos hj]
    · rw [if_neg hp]
  · by_cases hp : p = i
    · subst hp; rw [if_pos rfl, if_pos rfl, if_neg (by omega), Nat.add_sub_cancel_left]
    · rw [if_neg hp, if_neg hp]
end
set_option maxRecDepth 100000 in
theorem swith_any (v u : Value) (n m q : Nat) (xs ys : List Int) (w : World) (h : Mat.IsMat w v n m xs) (h' : Mat.IsMat w u n q ys) :
    Calls Try.prog 47 #[v, u] w fun e w' => ∃ mid top p va vb Ra Rb, e = .returned (.pointer (some ⟨p, 0, none⟩)) ∧ Work w' w.heap.size mid top p va vb n m q Ra Rb (fun i j => if j < m then mx m xs i j else mx q ys i (j - m)) ∧ Below w.heap.size w w' := by
  have R1 := Lib.hid (fun W (hB : Below w.heap.size w W) => srows_any v n m xs W (h.below hB))
  have R2 := Lib.hid (fun W (hB : Below w.heap.size w W) => srows_any u n q ys W (h'.below hB))
  have HB := Lib.hid (Below.refl w.heap.size w)
  clear h h'
  go_enter Try.func47, Try.ntmps47
  go_wp2_with (go_at_call 49; (first
    | ((with_reducible refine (R1.out _ HB.out).mono ?_); rintro e w1 ⟨va, Ra, rfl, hg1, hb1⟩; obtain ⟨A1, c1, rfl⟩ := own_slice hg1.hd; have HG1 := Lib.hid hg1; have HB1 := Lib.hid (HB.out.trans (hb1.mono HB.out.size)); clear hg1 hb1)
    | ((with_reducible refine (R2.out _ HB1.out).mono ?_); rintro e w2 ⟨vb, Rb, rfl, hg2, hb2⟩; obtain ⟨A2, c2, rfl⟩ := own_slice hg2.hd; have HG2 := Lib.hid hg2; have HG1' := Lib.hid (HG1.out.below hb2); have HS := Lib.hid hb2.size; have HB2 := Lib.hid (HB1.out.trans (hb2.mono HB1.out.size)); clear hg2 hb2)))
  go_ret
  refine ⟨w1.heap.size, w2.heap.size, w2.heap.size, .slice A1 n c1, .slice A2 n c2, Ra, Rb, rfl, ⟨Blk.new w2 _ _, ?_, ?_, HB1.out.size, HS.out, Nat.le_refl _⟩, HB2.out.alloc HB2.out.size _⟩
  · exact (HG1'.out.below ((Below.refl _ _).alloc (Nat.le_refl _) _)).congr (fun i _ j hj => by rw [if_pos hj])
  · exact (HG2.out.below ((Below.refl _ _).alloc (Nat.le_refl _) _)).congr (fun i _ j hj => by rw [if_neg (by omega), Nat.add_sub_cancel_left])
/-- What pivot tells. -/
def PivPost (n fr col : Nat) (C : Mtx) (r : Int) : Prop := (r = -1 ∧ ∀ j, fr ≤ j → j < n → C j col = 0) ∨ ∃ k : Nat, r = k ∧ fr ≤ k ∧ k < n ∧ (∀ j, fr ≤ j → j < k → C j col = 0) ∧ C k col ≠ 0
set_option maxRecDepth 100000 in
theorem pivot_any (lo mid top p n m q fr col : Nat) (va vb : Value) (Ra Rb : Nat → Value) (C : Mtx) (w : World) (h : Work w lo mid top p va vb n m q Ra Rb C) (hn1 : 1 ≤ n) (hn : n ≤ 1000000) (hf : fr ≤ n) (hc : col < m) :
    Calls Try.prog 50 #[.pointer (some ⟨p, 0, none⟩), .int .i64 fr, .int .i64 col] w fun e w' => ∃ r, e = .returned (.int .i64 r) ∧ PivPost n fr col C r ∧ w' = w := by
  obtain ⟨g, cg, rfl, _⟩ := h.ga.form (by omega)
  have hva := h.cells.1
  have HE := Lib.hid (fun i (hi : i < n) => show ∃ b c, w.cell? ⟨g, i, none⟩ = some (.slice (some ⟨b, 0, none⟩) m c) ∧ w.cell? ⟨b, col, none⟩ = some (.int .u8 (C i col)) by
    obtain ⟨b, c, e, _⟩ := h.ga.rform (by omega) i hi
    have h1 := (h.ga.head i hi).1
    rw [e] at h1
    exact ⟨b, c, h1, (h.ga.elem i hi e col hc).1⟩)
  have g2 : (0 : Int) ≤ (col : Int) := by omega
  have g3 : (col : Int) < (m : Int) := by omega
  clear h
  go_enter Try.func50, Try.ntmps50
  go_upto_region 2 with (fail)
  go_loopw [7] (fun iv wr => ∃ (i : Nat), fr ≤ i ∧ i ≤ n ∧ iv = .int .i64 i ∧ wr = w ∧ Hid (∀ j, fr ≤ j → j < i → C j col = 0)) (fun iv _ => n - (intOf iv).toNat)
  case atStart => exact ⟨fr, Nat.le_refl _, hf, rfl, rfl, Lib.hid (fun j h1 h2 => absurd h1 (by omega))⟩
  case round =>
    obtain ⟨i, hfi, hi, rfl, rfl, HZ⟩ := hrel
    by_cases hlt : i < n
    · obtain ⟨b, c, h1, h2⟩ := HE.out i hlt
      have g0 : (0 : Int) ≤ (i : Int) := by omega
      have g1 : (i : Int) < (n : Int) := by omega
      by_cases hz : C i col = 0
      · rw [hz] at h2
        go_wp2
        go_roundw
        case rel =>
          refine ⟨i + 1, by omega, by omega, by go_num, (by first | trivial | rfl), Lib.hid (fun j h1 h2 => ?_)⟩
          rcases Nat.lt_or_ge j i with h | h
          · exact HZ.out j h1 h
          · obtain rfl : j = i := by omega
            exact hz
        case measure => simp [intOf]; omega
      · have t1 : (C i col != 0) = true := by simp [hz]
        have HN := Lib.hid hz
        clear hz
        go_wp2
        go_ret
        exact ⟨_, rfl, .inr ⟨i, rfl, hfi, hlt, HZ.out, HN.out⟩, rfl⟩
    · obtain rfl : i = n := by omega
      go_wp2
      go_ret
      exact ⟨_, rfl, .inl ⟨rfl, HZ.out⟩, rfl⟩
end Go.Proofs.Ytelgefkfflgbeaa.Sol
/- solve: swap, clear. -/
namespace Go.Proofs.Ytelgefkfflgbeaa.Sol
open Go Go.RowKit Go.Proofs.Ytelgefkfflgbeaa.Gi Go.Proofs.Ytelgefkfflgbeaa.Mem Go.Proofs.Ytelgefkfflgbeaa.Bits Go.Proofs.Ytelgefkfflgbeaa.Rws Go.Proofs.YtelgefkfflgbeaaW.PrintWords
set_option linter.unusedVariables false

theorem joinW {G : Prop} (Inv : World → Prop) {C : World → Prop} (h1 : (∀ w, Inv w → C w) → G) (h2 : ∀ w, Inv w → C w) : G := h1 h2
/-- Two rows in each other's place. -/
def swpR {α : Type} (R : Nat → α) (i k : Nat) : Nat → α := fun q => if q = k then R i else if q = i then R k else R q
theorem Grid.head2 {w : World} {lo hi n m g c : Nat} {R : Nat → Value} {M : Mtx} (h : Grid w lo hi (.slice (some ⟨g, 0, none⟩) n c) n m R M) (i k : Nat) (hi' : i < n) (hk : k < n) :
    (w.setCell ⟨g, i, none⟩ (R k)).cell? ⟨g, k, none⟩ = some (R k) ∧ (w.setCell ⟨g, i, none⟩ (R k)).frozen? ⟨g, k, none⟩ = false := by
  have h1 := (h.hd.stored i (R k)).1
  refine ⟨?_, h1.frozenAt k⟩
  rw [h1.cellAt k (by omega), heads_set n R i hi', heads_get n _ k hk]
  split <;> rfl
theorem Grid.insd {w : World} {lo hi n m g c : Nat} {R : Nat → Value} {M : Mtx} (h : Grid w lo hi (.slice (some ⟨g, 0, none⟩) n c) n m R M) (i k : Nat) (u u' : Value) : w.grownBy ((w.setCell ⟨g, i, none⟩ u).setCell ⟨g, k, none⟩ u') (some g) :=
  World.grownBy.trans (h.hd.stored i u).2 ((h.hd.stored i u).1.stored k u').2
/-- What the two exchanges come to. -/
theorem swap_end {w W W9 : World} {lo mid top p n m q i k g cg g' cg' b1 c1 b2 c2 b3 c3 b4 c4 : Nat} {va vb : Value} {Ra Rb : Nat → Value} {C : Mtx}
    (HE : Ra i = .slice (some ⟨b1, 0, none⟩) m c1 ∧ Ra k = .slice (some ⟨b2, 0, none⟩) m c2 ∧ Rb i = .slice (some ⟨b3, 0, none⟩) q c3 ∧ Rb k = .slice (some ⟨b4, 0, none⟩) q c4)
    (H : Work w lo mid top p va vb n m q Ra Rb C) (HBK : Blk W p 72 #[.slice (some ⟨g, 0, none⟩) n cg, .slice (some ⟨g', 0, none⟩) n cg']) (HG : w.grownBy W (some g))
    (HW1 : Grid W lo mid (.slice (some ⟨g, 0, none⟩) n cg) n m (fun r => if r = k then .slice (some ⟨b1, 0, none⟩) m c1 else if r = i then .slice (some ⟨b2, 0, none⟩) m c2 else Ra r) (fun r => if r = k then C i else if r = i then C k else C r))
    (HW2 : Grid W9 mid top (.slice (some ⟨g', 0, none⟩) n cg') n q (fun r => if r = k then .slice (some ⟨b3, 0, none⟩) q c3 else if r = i then .slice (some ⟨b4, 0, none⟩) q c4 else Rb r) (fun r => if r = k then (fun j => C i (m + j)) else if r = i then (fun j => C k (m + j)) else fun j => C r (m + j)) ∧ W.grownBy W9 (some g'))
    (hgl : lo ≤ g) (hgh : g < mid) (hgl' : mid ≤ g') (hgh' : g' < top) :
    Ending.returned (.tuple #[]) = Ending.returned (.tuple #[]) ∧ Work W9 lo mid top p (.slice (some ⟨g, 0, none⟩) n cg) (.slice (some ⟨g', 0, none⟩) n cg') n m q (swpR Ra i k) (swpR Rb i k) (swpR C i k) ∧ Insd lo top w W9 := by
  have HG2 : W.grownBy W9 (some g') := HW2.2
  have X := (Insd.grown HG hgl (show g < top by have := H.l2; omega)).trans (Insd.grown HG2 (show lo ≤ g' by have := H.l1; omega) hgh')
  have hbk2 := HBK.grown HG2 (fun e => by injection e with e; have := H.l3; omega)
  have h1 := HW1
  rw [← HE.1, ← HE.2.1] at h1
  have h1' := h1.grown HG2 (.inr hgl')
  have h2 := HW2.1
  rw [← HE.2.2.1, ← HE.2.2.2] at h2
  have h2' : Grid W9 mid top (.slice (some ⟨g', 0, none⟩) n cg') n q (swpR Rb i k) (fun r j => swpR C i k r (m + j)) := h2.congr (fun q' _ j _ => by
    unfold swpR
    by_cases e1 : q' = k
    · rw [if_pos e1, if_pos e1]
    · rw [if_neg e1, if_neg e1]
      by_cases e2 : q' = i
      · rw [if_pos e2, if_pos e2]
      · rw [if_neg e2, if_neg e2])
  exact ⟨rfl, ⟨hbk2, h1', h2', H.l1, H.l2, H.l3⟩, X⟩
set_option maxRecDepth 100000 in
set_option maxHeartbeats 2000000 in
theorem swap_any (lo mid top p n m q i k : Nat) (va vb : Value) (Ra Rb : Nat → Value) (C : Mtx) (w : World) (h : Work w lo mid top p va vb n m q Ra Rb C) (hn : n ≤ 1000000) (hi : i < n) (hk : k < n) (hm : 1 ≤ m) (hq : 1 ≤ q) :
    Calls Try.prog 51 #[.pointer (some ⟨p, 0, none⟩), .int .i64 i, .int .i64 k] w fun e w' => e = .returned (.tuple #[]) ∧ Work w' lo mid top p va vb n m q (swpR Ra i k) (swpR Rb i k) (swpR C i k) ∧ Insd lo top w w' := by
  obtain ⟨g, cg, rfl, _, hgl, hgh, _⟩ := h.ga.form (by omega)
  obtain ⟨g', cg', rfl, _, hgl', hgh', _⟩ := h.gb.form (by omega)
  obtain ⟨hva, hvb⟩ := h.cells
  obtain ⟨b1, c1, e1, _⟩ := h.ga.rform (by omega) i hi
  obtain ⟨b2, c2, e2, _⟩ := h.ga.rform (by omega) k hk
  obtain ⟨b3, c3, e3, _⟩ := h.gb.rform (by omega) i hi
  obtain ⟨b4, c4, e4, _⟩ := h.gb.rform (by omega) k hk
  have z1 := (h.ga.head i hi).1
  have z2 := (h.ga.head k hk).1
  have f1 := (h.ga.head i hi).2
  have f2 := (h.ga.head k hk).2
  rw [e1] at z1
  rw [e2] at z2
  have g0 : (0 : Int) ≤ (i : Int) := by omega
  have g1 : (i : Int) < (n : Int) := by omega
  have g2 : (0 : Int) ≤ (k : Int) := by omega
  have g3 : (k : Int) < (n : Int) := by omega
  have H := Lib.hid h
  have HE := Lib.hid (And.intro e1 (And.intro e2 (And.intro e3 e4)))
  obtain ⟨y1, y2⟩ := h.ga.head2 i k hi hk
  have HW1 := Lib.hid (And.intro (h.ga.swap i k hi hk) (h.ga.insd i k (Ra k) (Ra i)))
  have hpg : p ≠ g := by have := h.l2; have := h.l3; omega
  have sv1 := (World.cell?_setCell_other w ⟨g, i, none⟩ ⟨p, 0, none⟩ (.slice (some ⟨b2, 0, none⟩) m c2) (fun e => hpg (by injection e with e1; exact e1.symm))).trans hva
  have sv2 := (World.cell?_setCell_other (w.setCell ⟨g, i, none⟩ (.slice (some ⟨b2, 0, none⟩) m c2)) ⟨g, k, none⟩ ⟨p, 0, none⟩ (.slice (some ⟨b1, 0, none⟩) m c1) (fun e => hpg (by injection e with e1; exact e1.symm))).trans sv1
  rw [e2] at y1 y2
  rw [e1, e2] at HW1
  clear h e1 e2 e3 e4
  go_enter Try.func51, Try.ntmps51
  go_wp2
  go_upto_region 0 with (fail)
  apply joinW (fun W => W = ((w.setCell ⟨g, i, none⟩ (.slice (some ⟨b2, 0, none⟩) m c2)).setCell ⟨g, k, none⟩ (.slice (some ⟨b1, 0, none⟩) m c1)).drew)
  · intro REST
    refine wp_region_noPanic ?_
    refine wp_region_held_drew (S := (fun W => W.cell? ⟨p, 0, none⟩ = some (.slice (some ⟨g, 0, none⟩) n cg))) (by kernel_rfl) ?_ (fun hHeld => ?_)
    · ((try dsimp only); first | exact hva | exact sv1 | exact sv2)
    refine wpAnyH_take (i := 0) (oi := { dst := some 6, op := Go.Op.move (Go.Operand.tmp 0), type := 67, pos := "solve.go:52", after := #[], guard := none }) (v := ?_) rfl (by kernel_rfl) (by kernel_rfl) (by kernel_rfl) (fun _ _ _ h => h) (Or.inl ⟨by rfl, ?_⟩) (by assumption) ?_
    rotate_left 1
    · (intro w hSw; (try dsimp only at hSw); go_simp; try with_reducible rfl)
    try simp only [Act.put, List.setIfInBounds_toArray, List.set_cons_zero, List.set_cons_succ]
    refine wpAnyH_take (i := 1) (oi := { dst := some 7, op := Go.Op.nilCheck (Go.Operand.tmp 6), type := 0, pos := "solve.go:52", after := #[{ on := 0, ground := Go.Ground.data }], guard := none }) (v := ?_) rfl (by kernel_rfl) (by kernel_rfl) (by kernel_rfl) (fun _ _ _ h => h) (Or.inl ⟨by rfl, ?_⟩) (by assumption) ?_
    rotate_left 1
    · (intro w hSw; (try dsimp only at hSw); go_simp; try with_reducible rfl)
    try simp only [Act.put, List.setIfInBounds_toArray, List.set_cons_zero, List.set_cons_succ]
    refine wpAnyH_take (i := 2) (oi := { dst := some 8, op := Go.Op.fieldAddr 72 (Go.Operand.tmp 7) 0, type := 0, pos := "solve.go:52", after := #[{ on := 1, ground := Go.Ground.data }], guard := none }) (v := ?_) rfl (by kernel_rfl) (by kernel_rfl) (by kernel_rfl) (fun _ _ _ h => h) (Or.inl ⟨by rfl, ?_⟩) (by assumption) ?_
    rotate_left 1
    · (intro w hSw; (try dsimp only at hSw); go_simp; try with_reducible rfl)
    try simp only [Act.put, List.setIfInBounds_toArray, List.set_cons_zero, List.set_cons_succ]
    refine wpAnyH_take (i := 3) (oi := { dst := some 9, op := Go.Op.load 52 (Go.Operand.tmp 8), type := 52, pos := "solve.go:52", after := #[{ on := 2, ground := Go.Ground.data }], guard := none }) (v := ?_) rfl (by kernel_rfl) (by kernel_rfl) (by kernel_rfl) (fun _ _ _ h => h) (Or.inl ⟨by rfl, ?_⟩) (by assumption) ?_
    rotate_left 1
    · (intro w hSw; (try dsimp only at hSw); go_simp; try with_reducible rfl)
    try simp only [Act.put, List.setIfInBounds_toArray, List.set_cons_zero, List.set_cons_succ]
    refine wpAnyH_take (i := 4) (oi := { dst := some 10, op := Go.Op.move (Go.Operand.tmp 1), type := 3, pos := "solve.go:52", after := #[], guard := none }) (v := ?_) rfl (by kernel_rfl) (by kernel_rfl) (by kernel_rfl) (fun _ _ _ h => h) (Or.inl ⟨by rfl, ?_⟩) (by assumption) ?_
    rotate_left 1
    · (intro w hSw; (try dsimp only at hSw); go_simp; try with_reducible rfl)
    try simp only [Act.put, List.setIfInBounds_toArray, List.set_cons_zero, List.set_cons_succ]
    refine wpAnyH_take (i := 5) (oi := { dst := some 11, op := Go.Op.move (Go.Operand.tmp 0), type := 67, pos := "solve.go:52", after := #[], guard := none }) (v := ?_) rfl (by kernel_rfl) (by kernel_rfl) (by kernel_rfl) (fun _ _ _ h => h) (Or.inl ⟨by rfl, ?_⟩) (by assumption) ?_
    rotate_left 1
    · (intro w hSw; (try dsimp only at hSw); go_simp; try with_reducible rfl)
    try simp only [Act.put, List.setIfInBounds_toArray, List.set_cons_zero, List.set_cons_succ]
    refine wpAnyH_take (i := 6) (oi := { dst := some 12, op := Go.Op.nilCheck (Go.Operand.tmp 11), type := 0, pos := "solve.go:52", after := #[{ on := 5, ground := Go.Ground.data }], guard := none }) (v := ?_) rfl (by kernel_rfl) (by kernel_rfl) (by kernel_rfl) (fun _ _ _ h => h) (Or.inl ⟨by rfl, ?_⟩) (by assumption) ?_
    rotate_left 1
    · (intro w hSw; (try dsimp only at hSw); go_simp; try with_reducible rfl)
    try simp only [Act.put, List.setIfInBounds_toArray, List.set_cons_zero, List.set_cons_succ]
    refine wpAnyH_take (i := 7) (oi := { dst := some 13, op := Go.Op.fieldAddr 72 (Go.Operand.tmp 12) 0, type := 0, pos := "solve.go:52", after := #[{ on := 6, ground := Go.Ground.data }], guard := none }) (v := ?_) rfl (by kernel_rfl) (by kernel_rfl) (by kernel_rfl) (fun _ _ _ h => h) (Or.inl ⟨by rfl, ?_⟩) (by assumption) ?_
    rotate_left 1
    · (intro w hSw; (try dsimp only at hSw); go_simp; try with_reducible rfl)
    try simp only [Act.put, List.setIfInBounds_toArray, List.set_cons_zero, List.set_cons_succ]
    refine wpAnyH_take (i := 8) (oi := { dst := some 14, op := Go.Op.load 52 (Go.Operand.tmp 13), type := 52, pos := "solve.go:52", after := #[{ on := 7, ground := Go.Ground.data }], guard := none }) (v := ?_) rfl (by kernel_rfl) (by kernel_rfl) (by kernel_rfl) (fun _ _ _ h => h) (Or.inl ⟨by rfl, ?_⟩) (by assumption) ?_
    rotate_left 1
    · (intro w hSw; (try dsimp only at hSw); go_simp; try with_reducible rfl)
    try simp only [Act.put, List.setIfInBounds_toArray, List.set_cons_zero, List.set_cons_succ]
    refine wpAnyH_take (i := 9) (oi := { dst := some 15, op := Go.Op.move (Go.Operand.tmp 2), type := 3, pos := "solve.go:52", after := #[{ on := 25, ground := Go.Ground.gcOnly Go.Departure.lateStores }], guard := none }) (v := ?_) rfl (by kernel_rfl) (by kernel_rfl) (by kernel_rfl) (fun _ _ _ h => h) (Or.inl ⟨by rfl, ?_⟩) (by assumption) ?_
    rotate_left 1
    · (intro w hSw; (try dsimp only at hSw); go_simp; try with_reducible rfl)
    try simp only [Act.put, List.setIfInBounds_toArray, List.set_cons_zero, List.set_cons_succ]
    refine wpAnyH_take (i := 10) (oi := { dst := some 16, op := Go.Op.move (Go.Operand.tmp 0), type := 67, pos := "solve.go:52", after := #[], guard := none }) (v := ?_) rfl (by kernel_rfl) (by kernel_rfl) (by kernel_rfl) (fun _ _ _ h => h) (Or.inl ⟨by rfl, ?_⟩) (by assumption) ?_
    rotate_left 1
    · (intro w hSw; (try dsimp only at hSw); go_simp; try with_reducible rfl)
    try simp only [Act.put, List.setIfInBounds_toArray, List.set_cons_zero, List.set_cons_succ]
    refine wpAnyH_take (i := 11) (oi := { dst := some 17, op := Go.Op.nilCheck (Go.Operand.tmp 16), type := 0, pos := "solve.go:52", after := #[{ on := 10, ground := Go.Ground.data }], guard := none }) (v := ?_) rfl (by kernel_rfl) (by kernel_rfl) (by kernel_rfl) (fun _ _ _ h => h) (Or.inl ⟨by rfl, ?_⟩) (by assumption) ?_
    rotate_left 1
    · (intro w hSw; (try dsimp only at hSw); go_simp; try with_reducible rfl)
    try simp only [Act.put, List.setIfInBounds_toArray, List.set_cons_zero, List.set_cons_succ]
    refine wpAnyH_take (i := 12) (oi := { dst := some 18, op := Go.Op.fieldAddr 72 (Go.Operand.tmp 17) 0, type := 0, pos := "solve.go:52", after := #[{ on := 11, ground := Go.Ground.data }], guard := none }) (v := ?_) rfl (by kernel_rfl) (by kernel_rfl) (by kernel_rfl) (fun _ _ _ h => h) (Or.inl ⟨by rfl, ?_⟩) (by assumption) ?_
    rotate_left 1
    · (intro w hSw; (try dsimp only at hSw); go_simp; try with_reducible rfl)
    try simp only [Act.put, List.setIfInBounds_toArray, List.set_cons_zero, List.set_cons_succ]
    refine wpAnyH_take (i := 13) (oi := { dst := some 19, op := Go.Op.load 52 (Go.Operand.tmp 18), type := 52, pos := "solve.go:52", after := #[{ on := 12, ground := Go.Ground.data }], guard := none }) (v := ?_) rfl (by kernel_rfl) (by kernel_rfl) (by kernel_rfl) (fun _ _ _ h => h) (Or.inl ⟨by rfl, ?_⟩) (by assumption) ?_
    rotate_left 1
    · (intro w hSw; (try dsimp only at hSw); go_simp; try with_reducible rfl)
    try simp only [Act.put, List.setIfInBounds_toArray, List.set_cons_zero, List.set_cons_succ]
    refine wpAnyH_take (i := 14) (oi := { dst := some 20, op := Go.Op.move (Go.Operand.tmp 2), type := 3, pos := "solve.go:52", after := #[], guard := none }) (v := ?_) rfl (by kernel_rfl) (by kernel_rfl) (by kernel_rfl) (fun _ _ _ h => h) (Or.inl ⟨by rfl, ?_⟩) (by assumption) ?_
    rotate_left 1
    · (intro w hSw; (try dsimp only at hSw); go_simp; try with_reducible rfl)
    try simp only [Act.put, List.setIfInBounds_toArray, List.set_cons_zero, List.set_cons_succ]
    refine wpAnyH_take (i := 15) (oi := { dst := some 21, op := Go.Op.indexAddr 52 (Go.Operand.tmp 19) (Go.Operand.tmp 20), type := 0, pos := "solve.go:52", after := #[{ on := 13, ground := Go.Ground.data }, { on := 14, ground := Go.Ground.data }], guard := none }) (v := ?_) rfl (by kernel_rfl) (by kernel_rfl) (by kernel_rfl) (fun _ _ _ h => h) (Or.inl ⟨by rfl, ?_⟩) (by assumption) ?_
    rotate_left 1
    · (intro w hSw; (try dsimp only at hSw); go_simp; try with_reducible rfl)
    try simp only [Act.put, List.setIfInBounds_toArray, List.set_cons_zero, List.set_cons_succ]
    refine wpAnyH_take (i := 17) (oi := { dst := some 23, op := Go.Op.move (Go.Operand.tmp 0), type := 67, pos := "solve.go:52", after := #[], guard := none }) (v := ?_) rfl (by kernel_rfl) (by kernel_rfl) (by kernel_rfl) (fun _ _ _ h => h) (Or.inl ⟨by rfl, ?_⟩) (by assumption) ?_
    rotate_left 1
    · (intro w hSw; (try dsimp only at hSw); go_simp; try with_reducible rfl)
    try simp only [Act.put, List.setIfInBounds_toArray, List.set_cons_zero, List.set_cons_succ]
    refine wpAnyH_take (i := 18) (oi := { dst := some 24, op := Go.Op.nilCheck (Go.Operand.tmp 23), type := 0, pos := "solve.go:52", after := #[{ on := 17, ground := Go.Ground.data }], guard := none }) (v := ?_) rfl (by kernel_rfl) (by kernel_rfl) (by kernel_rfl) (fun _ _ _ h => h) (Or.inl ⟨by rfl, ?_⟩) (by assumption) ?_
    rotate_left 1
    · (intro w hSw; (try dsimp only at hSw); go_simp; try with_reducible rfl)
    try simp only [Act.put, List.setIfInBounds_toArray, List.set_cons_zero, List.set_cons_succ]
    refine wpAnyH_take (i := 19) (oi := { dst := some 25, op := Go.Op.fieldAddr 72 (Go.Operand.tmp 24) 0, type := 0, pos := "solve.go:52", after := #[{ on := 18, ground := Go.Ground.data }], guard := none }) (v := ?_) rfl (by kernel_rfl) (by kernel_rfl) (by kernel_rfl) (fun _ _ _ h => h) (Or.inl ⟨by rfl, ?_⟩) (by assumption) ?_
    rotate_left 1
    · (intro w hSw; (try dsimp only at hSw); go_simp; try with_reducible rfl)
    try simp only [Act.put, List.setIfInBounds_toArray, List.set_cons_zero, List.set_cons_succ]
    refine wpAnyH_take (i := 20) (oi := { dst := some 26, op := Go.Op.load 52 (Go.Operand.tmp 25), type := 52, pos := "solve.go:52", after := #[{ on := 19, ground := Go.Ground.data }], guard := none }) (v := ?_) rfl (by kernel_rfl) (by kernel_rfl) (by kernel_rfl) (fun _ _ _ h => h) (Or.inl ⟨by rfl, ?_⟩) (by assumption) ?_
    rotate_left 1
    · (intro w hSw; (try dsimp only at hSw); go_simp; try with_reducible rfl)
    try simp only [Act.put, List.setIfInBounds_toArray, List.set_cons_zero, List.set_cons_succ]
    refine wpAnyH_take (i := 21) (oi := { dst := some 27, op := Go.Op.move (Go.Operand.tmp 1), type := 3, pos := "solve.go:52", after := #[], guard := none }) (v := ?_) rfl (by kernel_rfl) (by kernel_rfl) (by kernel_rfl) (fun _ _ _ h => h) (Or.inl ⟨by rfl, ?_⟩) (by assumption) ?_
    rotate_left 1
    · (intro w hSw; (try dsimp only at hSw); go_simp; try with_reducible rfl)
    try simp only [Act.put, List.setIfInBounds_toArray, List.set_cons_zero, List.set_cons_succ]
    refine wpAnyH_take (i := 22) (oi := { dst := some 28, op := Go.Op.indexAddr 52 (Go.Operand.tmp 26) (Go.Operand.tmp 27), type := 0, pos := "solve.go:52", after := #[{ on := 20, ground := Go.Ground.data }, { on := 21, ground := Go.Ground.data }], guard := none }) (v := ?_) rfl (by kernel_rfl) (by kernel_rfl) (by kernel_rfl) (fun _ _ _ h => h) (Or.inl ⟨by rfl, ?_⟩) (by assumption) ?_
    rotate_left 1
    · (intro w hSw; (try dsimp only at hSw); go_simp; try with_reducible rfl)
    try simp only [Act.put, List.setIfInBounds_toArray, List.set_cons_zero, List.set_cons_succ]
    refine wpAnyH_ready (rs := [16, 23]) (by kernel_rfl) (by simp) ?_
    refine AllReadyH.cons (o := { dst := some 22, op := Go.Op.load 22 (Go.Operand.tmp 21), type := 22, pos := "solve.go:52", after := #[{ on := 15, ground := Go.Ground.data }], guard := none }) rfl (fun K hK => ?_) ?_
    · go_simp
      clear hHeld
      refine hK.out _ _ ?_ (fun hHeld => ?_)
      · ((try dsimp only); first | exact hva | exact sv1 | exact sv2)
      clear hK K
      refine wpAnyH_ready (rs := [23]) (by kernel_rfl) (by simp) ?_
      refine AllReadyH.cons (o := { dst := some 29, op := Go.Op.load 22 (Go.Operand.tmp 28), type := 22, pos := "solve.go:52", after := #[{ on := 22, ground := Go.Ground.data }], guard := none }) rfl (fun K hK => ?_) AllReadyH.nil
      go_simp
      clear hHeld
      refine hK.out _ _ ?_ (fun hHeld => ?_)
      · ((try dsimp only); first | exact hva | exact sv1 | exact sv2)
      clear hK K
      refine wpAnyH_take (i := 24) (oi := { dst := some 30, op := Go.Op.indexAddr 52 (Go.Operand.tmp 9) (Go.Operand.tmp 10), type := 0, pos := "solve.go:52", after := #[{ on := 3, ground := Go.Ground.data }, { on := 4, ground := Go.Ground.data }, { on := 0, ground := Go.Ground.phase }, { on := 1, ground := Go.Ground.phase }, { on := 2, ground := Go.Ground.phase }, { on := 3, ground := Go.Ground.phase }, { on := 4, ground := Go.Ground.phase }, { on := 5, ground := Go.Ground.textOnly Go.Departure.lateStores }, { on := 6, ground := Go.Ground.textOnly Go.Departure.lateStoresUnsure }, { on := 7, ground := Go.Ground.textOnly Go.Departure.lateStoresUnsure }, { on := 8, ground := Go.Ground.phase }, { on := 9, ground := Go.Ground.textOnly Go.Departure.lateStores }, { on := 10, ground := Go.Ground.phase }, { on := 11, ground := Go.Ground.phase }, { on := 12, ground := Go.Ground.phase }, { on := 13, ground := Go.Ground.phase }, { on := 14, ground := Go.Ground.phase }, { on := 15, ground := Go.Ground.phase }, { on := 16, ground := Go.Ground.phase }, { on := 17, ground := Go.Ground.textOnly Go.Departure.lateStores }, { on := 18, ground := Go.Ground.textOnly Go.Departure.lateStoresUnsure }, { on := 19, ground := Go.Ground.textOnly Go.Departure.lateStoresUnsure }, { on := 20, ground := Go.Ground.phase }, { on := 21, ground := Go.Ground.textOnly Go.Departure.lateStores }, { on := 22, ground := Go.Ground.textOnly Go.Departure.lateStoresUnsure }, { on := 23, ground := Go.Ground.phase }], guard := none }) (v := ?_) rfl (by kernel_rfl) (by kernel_rfl) (by kernel_rfl) (fun _ _ _ h => h) (Or.inl ⟨by rfl, ?_⟩) (by assumption) ?_
      rotate_left 1
      · (intro w hSw; (try dsimp only at hSw); go_simp; try with_reducible rfl)
      try simp only [Act.put, List.setIfInBounds_toArray, List.set_cons_zero, List.set_cons_succ]
      refine wpAnyH_ready (rs := [25]) (by kernel_rfl) (by simp) ?_
      refine AllReadyH.cons (o := { dst := none, op := Go.Op.store 22 (Go.Operand.tmp 30) (Go.Operand.tmp 22), type := 0, pos := "solve.go:52", after := #[{ on := 24, ground := Go.Ground.data }, { on := 16, ground := Go.Ground.data }, { on := 0, ground := Go.Ground.phase }, { on := 1, ground := Go.Ground.phase }, { on := 2, ground := Go.Ground.phase }, { on := 3, ground := Go.Ground.phase }, { on := 4, ground := Go.Ground.phase }, { on := 5, ground := Go.Ground.textOnly Go.Departure.lateStores }, { on := 6, ground := Go.Ground.textOnly Go.Departure.lateStoresUnsure }, { on := 7, ground := Go.Ground.textOnly Go.Departure.lateStoresUnsure }, { on := 8, ground := Go.Ground.phase }, { on := 9, ground := Go.Ground.textOnly Go.Departure.lateStores }, { on := 10, ground := Go.Ground.phase }, { on := 11, ground := Go.Ground.phase }, { on := 12, ground := Go.Ground.phase }, { on := 13, ground := Go.Ground.phase }, { on := 14, ground := Go.Ground.phase }, { on := 15, ground := Go.Ground.phase }, { on := 16, ground := Go.Ground.phase }, { on := 17, ground := Go.Ground.textOnly Go.Departure.lateStores }, { on := 18, ground := Go.Ground.textOnly Go.Departure.lateStoresUnsure }, { on := 19, ground := Go.Ground.textOnly Go.Departure.lateStoresUnsure }, { on := 20, ground := Go.Ground.phase }, { on := 21, ground := Go.Ground.textOnly Go.Departure.lateStores }, { on := 22, ground := Go.Ground.textOnly Go.Departure.lateStoresUnsure }, { on := 23, ground := Go.Ground.phase }], guard := none }) rfl (fun K hK => ?_) AllReadyH.nil
      go_simp
      clear hHeld
      refine hK.out _ _ ?_ (fun hHeld => ?_)
      · ((try dsimp only); first | exact hva | exact sv1 | exact sv2)
      clear hK K
      refine wpAnyH_take (i := 26) (oi := { dst := some 31, op := Go.Op.indexAddr 52 (Go.Operand.tmp 14) (Go.Operand.tmp 15), type := 0, pos := "solve.go:52", after := #[{ on := 8, ground := Go.Ground.data }, { on := 9, ground := Go.Ground.data }, { on := 0, ground := Go.Ground.phase }, { on := 1, ground := Go.Ground.phase }, { on := 2, ground := Go.Ground.phase }, { on := 3, ground := Go.Ground.phase }, { on := 4, ground := Go.Ground.phase }, { on := 5, ground := Go.Ground.phase }, { on := 6, ground := Go.Ground.phase }, { on := 7, ground := Go.Ground.phase }, { on := 8, ground := Go.Ground.phase }, { on := 9, ground := Go.Ground.phase }, { on := 10, ground := Go.Ground.phase }, { on := 11, ground := Go.Ground.phase }, { on := 12, ground := Go.Ground.phase }, { on := 13, ground := Go.Ground.phase }, { on := 14, ground := Go.Ground.phase }, { on := 15, ground := Go.Ground.phase }, { on := 16, ground := Go.Ground.phase }, { on := 17, ground := Go.Ground.phase }, { on := 18, ground := Go.Ground.phase }, { on := 19, ground := Go.Ground.phase }, { on := 20, ground := Go.Ground.phase }, { on := 21, ground := Go.Ground.phase }, { on := 22, ground := Go.Ground.phase }, { on := 23, ground := Go.Ground.phase }, { on := 24, ground := Go.Ground.phase }, { on := 25, ground := Go.Ground.phase }], guard := none }) (v := ?_) rfl (by kernel_rfl) (by kernel_rfl) (by kernel_rfl) (fun _ _ _ h => h) (Or.inl ⟨by rfl, ?_⟩) (by assumption) ?_
      rotate_left 1
      · (intro w hSw; (try dsimp only at hSw); go_simp; try with_reducible rfl)
      try simp only [Act.put, List.setIfInBounds_toArray, List.set_cons_zero, List.set_cons_succ]
      refine wpAnyH_ready (rs := [27]) (by kernel_rfl) (by simp) ?_
      refine AllReadyH.cons (o := { dst := none, op := Go.Op.store 22 (Go.Operand.tmp 31) (Go.Operand.tmp 29), type := 0, pos := "solve.go:52", after := #[{ on := 26, ground := Go.Ground.data }, { on := 23, ground := Go.Ground.data }, { on := 25, ground := Go.Ground.chain }, { on := 0, ground := Go.Ground.phase }, { on := 1, ground := Go.Ground.phase }, { on := 2, ground := Go.Ground.phase }, { on := 3, ground := Go.Ground.phase }, { on := 4, ground := Go.Ground.phase }, { on := 5, ground := Go.Ground.phase }, { on := 6, ground := Go.Ground.phase }, { on := 7, ground := Go.Ground.phase }, { on := 8, ground := Go.Ground.phase }, { on := 9, ground := Go.Ground.phase }, { on := 10, ground := Go.Ground.phase }, { on := 11, ground := Go.Ground.phase }, { on := 12, ground := Go.Ground.phase }, { on := 13, ground := Go.Ground.phase }, { on := 14, ground := Go.Ground.phase }, { on := 15, ground := Go.Ground.phase }, { on := 16, ground := Go.Ground.phase }, { on := 17, ground := Go.Ground.phase }, { on := 18, ground := Go.Ground.phase }, { on := 19, ground := Go.Ground.phase }, { on := 20, ground := Go.Ground.phase }, { on := 21, ground := Go.Ground.phase }, { on := 22, ground := Go.Ground.phase }, { on := 23, ground := Go.Ground.phase }, { on := 24, ground := Go.Ground.phase }, { on := 25, ground := Go.Ground.phase }], guard := none }) rfl (fun K hK => ?_) AllReadyH.nil
      go_simp
      clear hHeld
      refine hK.out _ _ ?_ (fun hHeld => ?_)
      · ((try dsimp only); first | exact hva | exact sv1 | exact sv2)
      clear hK K
      refine wpAnyH_done (by kernel_rfl) ?_ _
      refine NoPanic.normal ?_
      exact REST _ rfl
    refine AllReadyH.cons (o := { dst := some 29, op := Go.Op.load 22 (Go.Operand.tmp 28), type := 22, pos := "solve.go:52", after := #[{ on := 22, ground := Go.Ground.data }], guard := none }) rfl (fun K hK => ?_) AllReadyH.nil
    go_simp
    clear hHeld
    refine hK.out _ _ ?_ (fun hHeld => ?_)
    · ((try dsimp only); first | exact hva | exact sv1 | exact sv2)
    clear hK K
    refine wpAnyH_ready (rs := [16]) (by kernel_rfl) (by simp) ?_
    refine AllReadyH.cons (o := { dst := some 22, op := Go.Op.load 22 (Go.Operand.tmp 21), type := 22, pos := "solve.go:52", after := #[{ on := 15, ground := Go.Ground.data }], guard := none }) rfl (fun K hK => ?_) AllReadyH.nil
    go_simp
    clear hHeld
    refine hK.out _ _ ?_ (fun hHeld => ?_)
    · ((try dsimp only); first | exact hva | exact sv1 | exact sv2)
    clear hK K
    refine wpAnyH_take (i := 24) (oi := { dst := some 30, op := Go.Op.indexAddr 52 (Go.Operand.tmp 9) (Go.Operand.tmp 10), type := 0, pos := "solve.go:52", after := #[{ on := 3, ground := Go.Ground.data }, { on := 4, ground := Go.Ground.data }, { on := 0, ground := Go.Ground.phase }, { on := 1, ground := Go.Ground.phase }, { on := 2, ground := Go.Ground.phase }, { on := 3, ground := Go.Ground.phase }, { on := 4, ground := Go.Ground.phase }, { on := 5, ground := Go.Ground.textOnly Go.Departure.lateStores }, { on := 6, ground := Go.Ground.textOnly Go.Departure.lateStoresUnsure }, { on := 7, ground := Go.Ground.textOnly Go.Departure.lateStoresUnsure }, { on := 8, ground := Go.Ground.phase }, { on := 9, ground := Go.Ground.textOnly Go.Departure.lateStores }, { on := 10, ground := Go.Ground.phase }, { on := 11, ground := Go.Ground.phase }, { on := 12, ground := Go.Ground.phase }, { on := 13, ground := Go.Ground.phase }, { on := 14, ground := Go.Ground.phase }, { on := 15, ground := Go.Ground.phase }, { on := 16, ground := Go.Ground.phase }, { on := 17, ground := Go.Ground.textOnly Go.Departure.lateStores }, { on := 18, ground := Go.Ground.textOnly Go.Departure.lateStoresUnsure }, { on := 19, ground := Go.Ground.textOnly Go.Departure.lateStoresUnsure }, { on := 20, ground := Go.Ground.phase }, { on := 21, ground := Go.Ground.textOnly Go.Departure.lateStores }, { on := 22, ground := Go.Ground.textOnly Go.Departure.lateStoresUnsure }, { on := 23, ground := Go.Ground.phase }], guard := none }) (v := ?_) rfl (by kernel_rfl) (by kernel_rfl) (by kernel_rfl) (fun _ _ _ h => h) (Or.inl ⟨by rfl, ?_⟩) (by assumption) ?_
    rotate_left 1
    · (intro w hSw; (try dsimp only at hSw); go_simp; try with_reducible rfl)
    try simp only [Act.put, List.setIfInBounds_toArray, List.set_cons_zero, List.set_cons_succ]
    refine wpAnyH_ready (rs := [25]) (by kernel_rfl) (by simp) ?_
    refine AllReadyH.cons (o := { dst := none, op := Go.Op.store 22 (Go.Operand.tmp 30) (Go.Operand.tmp 22), type := 0, pos := "solve.go:52", after := #[{ on := 24, ground := Go.Ground.data }, { on := 16, ground := Go.Ground.data }, { on := 0, ground := Go.Ground.phase }, { on := 1, ground := Go.Ground.phase }, { on := 2, ground := Go.Ground.phase }, { on := 3, ground := Go.Ground.phase }, { on := 4, ground := Go.Ground.phase }, { on := 5, ground := Go.Ground.textOnly Go.Departure.lateStores }, { on := 6, ground := Go.Ground.textOnly Go.Departure.lateStoresUnsure }, { on := 7, ground := Go.Ground.textOnly Go.Departure.lateStoresUnsure }, { on := 8, ground := Go.Ground.phase }, { on := 9, ground := Go.Ground.textOnly Go.Departure.lateStores }, { on := 10, ground := Go.Ground.phase }, { on := 11, ground := Go.Ground.phase }, { on := 12, ground := Go.Ground.phase }, { on := 13, ground := Go.Ground.phase }, { on := 14, ground := Go.Ground.phase }, { on := 15, ground := Go.Ground.phase }, { on := 16, ground := Go.Ground.phase }, { on := 17, ground := Go.Ground.textOnly Go.Departure.lateStores }, { on := 18, ground := Go.Ground.textOnly Go.Departure.lateStoresUnsure }, { on := 19, ground := Go.Ground.textOnly Go.Departure.lateStoresUnsure }, { on := 20, ground := Go.Ground.phase }, { on := 21, ground := Go.Ground.textOnly Go.Departure.lateStores }, { on := 22, ground := Go.Ground.textOnly Go.Departure.lateStoresUnsure }, { on := 23, ground := Go.Ground.phase }], guard := none }) rfl (fun K hK => ?_) AllReadyH.nil
    go_simp
    clear hHeld
    refine hK.out _ _ ?_ (fun hHeld => ?_)
    · ((try dsimp only); first | exact hva | exact sv1 | exact sv2)
    clear hK K
    refine wpAnyH_take (i := 26) (oi := { dst := some 31, op := Go.Op.indexAddr 52 (Go.Operand.tmp 14) (Go.Operand.tmp 15), type := 0, pos := "solve.go:52", after := #[{ on := 8, ground := Go.Ground.data }, { on := 9, ground := Go.Ground.data }, { on := 0, ground := Go.Ground.phase }, { on := 1, ground := Go.Ground.phase }, { on := 2, ground := Go.Ground.phase }, { on := 3, ground := Go.Ground.phase }, { on := 4, ground := Go.Ground.phase }, { on := 5, ground := Go.Ground.phase }, { on := 6, ground := Go.Ground.phase }, { on := 7, ground := Go.Ground.phase }, { on := 8, ground := Go.Ground.phase }, { on := 9, ground := Go.Ground.phase }, { on := 10, ground := Go.Ground.phase }, { on := 11, ground := Go.Ground.phase }, { on := 12, ground := Go.Ground.phase }, { on := 13, ground := Go.Ground.phase }, { on := 14, ground := Go.Ground.phase }, { on := 15, ground := Go.Ground.phase }, { on := 16, ground := Go.Ground.phase }, { on := 17, ground := Go.Ground.phase }, { on := 18, ground := Go.Ground.phase }, { on := 19, ground := Go.Ground.phase }, { on := 20, ground := Go.Ground.phase }, { on := 21, ground := Go.Ground.phase }, { on := 22, ground := Go.Ground.phase }, { on := 23, ground := Go.Ground.phase }, { on := 24, ground := Go.Ground.phase }, { on := 25, ground := Go.Ground.phase }], guard := none }) (v := ?_) rfl (by kernel_rfl) (by kernel_rfl) (by kernel_rfl) (fun _ _ _ h => h) (Or.inl ⟨by rfl, ?_⟩) (by assumption) ?_
    rotate_left 1
    · (intro w hSw; (try dsimp only at hSw); go_simp; try with_reducible rfl)
    try simp only [Act.put, List.setIfInBounds_toArray, List.set_cons_zero, List.set_cons_succ]
    refine wpAnyH_ready (rs := [27]) (by kernel_rfl) (by simp) ?_
    refine AllReadyH.cons (o := { dst := none, op := Go.Op.store 22 (Go.Operand.tmp 31) (Go.Operand.tmp 29), type := 0, pos := "solve.go:52", after := #[{ on := 26, ground := Go.Ground.data }, { on := 23, ground := Go.Ground.data }, { on := 25, ground := Go.Ground.chain }, { on := 0, ground := Go.Ground.phase }, { on := 1, ground := Go.Ground.phase }, { on := 2, ground := Go.Ground.phase }, { on := 3, ground := Go.Ground.phase }, { on := 4, ground := Go.Ground.phase }, { on := 5, ground := Go.Ground.phase }, { on := 6, ground := Go.Ground.phase }, { on := 7, ground := Go.Ground.phase }, { on := 8, ground := Go.Ground.phase }, { on := 9, ground := Go.Ground.phase }, { on := 10, ground := Go.Ground.phase }, { on := 11, ground := Go.Ground.phase }, { on := 12, ground := Go.Ground.phase }, { on := 13, ground := Go.Ground.phase }, { on := 14, ground := Go.Ground.phase }, { on := 15, ground := Go.Ground.phase }, { on := 16, ground := Go.Ground.phase }, { on := 17, ground := Go.Ground.phase }, { on := 18, ground := Go.Ground.phase }, { on := 19, ground := Go.Ground.phase }, { on := 20, ground := Go.Ground.phase }, { on := 21, ground := Go.Ground.phase }, { on := 22, ground := Go.Ground.phase }, { on := 23, ground := Go.Ground.phase }, { on := 24, ground := Go.Ground.phase }, { on := 25, ground := Go.Ground.phase }], guard := none }) rfl (fun K hK => ?_) AllReadyH.nil
    go_simp
    clear hHeld
    refine hK.out _ _ ?_ (fun hHeld => ?_)
    · ((try dsimp only); first | exact hva | exact sv1 | exact sv2)
    clear hK K
    refine wpAnyH_done (by kernel_rfl) ?_ _
    refine NoPanic.normal ?_
    exact REST _ rfl
  rintro W hW
  have HG := Lib.hid (show w.grownBy W (some g) by rw [hW]; exact World.grownBy.trans HW1.out.2 ⟨rfl, rfl, rfl, Nat.le_refl _, fun _ _ _ => rfl⟩)
  have HW1' := Lib.hid (HW1.out.1.drewN 1)
  change Hid (Grid (World.drew _) _ _ _ _ _ _ _) at HW1'
  rw [← hW] at HW1'
  clear sv1 sv2
  have hgb := H.out.gb.grown HG.out (.inl (by omega))
  have hbk := H.out.blk.grown HG.out (fun e => by injection e with e; have := H.out.l2; have := H.out.l3; omega)
  obtain ⟨e3, e4⟩ := HE.out.2.2
  have hvb2 : W.cell? ⟨p, 1, none⟩ = some (.slice (some ⟨g', 0, none⟩) n cg') := (hbk.cell 1).trans rfl
  have z3 := (hgb.head i hi).1
  have z4 := (hgb.head k hk).1
  have f3 := (hgb.head i hi).2
  have f4 := (hgb.head k hk).2
  rw [e3] at z3
  rw [e4] at z4
  obtain ⟨y3, y4⟩ := hgb.head2 i k hi hk
  have HW2 := Lib.hid (And.intro (hgb.swap i k hi hk) (hgb.insd i k (Rb k) (Rb i)))
  have hpg2 : p ≠ g' := by have := H.out.l3; omega
  have sv1 := (World.cell?_setCell_other W ⟨g', i, none⟩ ⟨p, 1, none⟩ (.slice (some ⟨b4, 0, none⟩) q c4) (fun e => hpg2 (by injection e with e1; exact e1.symm))).trans hvb2
  have sv2 := (World.cell?_setCell_other (W.setCell ⟨g', i, none⟩ (.slice (some ⟨b4, 0, none⟩) q c4)) ⟨g', k, none⟩ ⟨p, 1, none⟩ (.slice (some ⟨b3, 0, none⟩) q c3) (fun e => hpg2 (by injection e with e1; exact e1.symm))).trans sv1
  rw [e4] at y3 y4
  rw [e3, e4] at HW2
  have HBK := Lib.hid hbk
  clear hgb hbk e3 e4 hW y1 y2 z1 z2 f1 f2 hva hvb
  go_upto_region 1 with (fail)
  apply joinW (fun V => V = ((W.setCell ⟨g', i, none⟩ (.slice (some ⟨b4, 0, none⟩) q c4)).setCell ⟨g', k, none⟩ (.slice (some ⟨b3, 0, none⟩) q c3)).drew)
  · intro REST
    refine wp_region_noPanic ?_
    refine wp_region_held_drew (S := (fun W => W.cell? ⟨p, 1, none⟩ = some (.slice (some ⟨g', 0, none⟩) n cg'))) (by kernel_rfl) ?_ (fun hHeld => ?_)
    · ((try dsimp only); first | exact hvb2 | exact sv1 | exact sv2)
    refine wpAnyH_take (i := 0) (oi := { dst := some 32, op := Go.Op.move (Go.Operand.tmp 0), type := 67, pos := "solve.go:53", after := #[], guard := none }) (v := ?_) rfl (by kernel_rfl) (by kernel_rfl) (by kernel_rfl) (fun _ _ _ h => h) (Or.inl ⟨by rfl, ?_⟩) (by assumption) ?_
    rotate_left 1
    · (intro w hSw; (try dsimp only at hSw); go_simp; try with_reducible rfl)
    try simp only [Act.put, List.setIfInBounds_toArray, List.set_cons_zero, List.set_cons_succ]
    refine wpAnyH_take (i := 1) (oi := { dst := some 33, op := Go.Op.nilCheck (Go.Operand.tmp 32), type := 0, pos := "solve.go:53", after := #[{ on := 0, ground := Go.Ground.data }], guard := none }) (v := ?_) rfl (by kernel_rfl) (by kernel_rfl) (by kernel_rfl) (fun _ _ _ h => h) (Or.inl ⟨by rfl, ?_⟩) (by assumption) ?_
    rotate_left 1
    · (intro w hSw; (try dsimp only at hSw); go_simp; try with_reducible rfl)
    try simp only [Act.put, List.setIfInBounds_toArray, List.set_cons_zero, List.set_cons_succ]
    refine wpAnyH_take (i := 2) (oi := { dst := some 34, op := Go.Op.fieldAddr 72 (Go.Operand.tmp 33) 1, type := 0, pos := "solve.go:53", after := #[{ on := 1, ground := Go.Ground.data }], guard := none }) (v := ?_) rfl (by kernel_rfl) (by kernel_rfl) (by kernel_rfl) (fun _ _ _ h => h) (Or.inl ⟨by rfl, ?_⟩) (by assumption) ?_
    rotate_left 1
    · (intro w hSw; (try dsimp only at hSw); go_simp; try with_reducible rfl)
    try simp only [Act.put, List.setIfInBounds_toArray, List.set_cons_zero, List.set_cons_succ]
    refine wpAnyH_take (i := 3) (oi := { dst := some 35, op := Go.Op.load 52 (Go.Operand.tmp 34), type := 52, pos := "solve.go:53", after := #[{ on := 2, ground := Go.Ground.data }], guard := none }) (v := ?_) rfl (by kernel_rfl) (by kernel_rfl) (by kernel_rfl) (fun _ _ _ h => h) (Or.inl ⟨by rfl, ?_⟩) (by assumption) ?_
    rotate_left 1
    · (intro w hSw; (try dsimp only at hSw); go_simp; try with_reducible rfl)
    try simp only [Act.put, List.setIfInBounds_toArray, List.set_cons_zero, List.set_cons_succ]
    refine wpAnyH_take (i := 4) (oi := { dst := some 36, op := Go.Op.move (Go.Operand.tmp 1), type := 3, pos := "solve.go:53", after := #[], guard := none }) (v := ?_) rfl (by kernel_rfl) (by kernel_rfl) (by kernel_rfl) (fun _ _ _ h => h) (Or.inl ⟨by rfl, ?_⟩) (by assumption) ?_
    rotate_left 1
    · (intro w hSw; (try dsimp only at hSw); go_simp; try with_reducible rfl)
    try simp only [Act.put, List.setIfInBounds_toArray, List.set_cons_zero, List.set_cons_succ]
    refine wpAnyH_take (i := 5) (oi := { dst := some 37, op := Go.Op.move (Go.Operand.tmp 0), type := 67, pos := "solve.go:53", after := #[], guard := none }) (v := ?_) rfl (by kernel_rfl) (by kernel_rfl) (by kernel_rfl) (fun _ _ _ h => h) (Or.inl ⟨by rfl, ?_⟩) (by assumption) ?_
    rotate_left 1
    · (intro w hSw; (try dsimp only at hSw); go_simp; try with_reducible rfl)
    try simp only [Act.put, List.setIfInBounds_toArray, List.set_cons_zero, List.set_cons_succ]
    refine wpAnyH_take (i := 6) (oi := { dst := some 38, op := Go.Op.nilCheck (Go.Operand.tmp 37), type := 0, pos := "solve.go:53", after := #[{ on := 5, ground := Go.Ground.data }], guard := none }) (v := ?_) rfl (by kernel_rfl) (by kernel_rfl) (by kernel_rfl) (fun _ _ _ h => h) (Or.inl ⟨by rfl, ?_⟩) (by assumption) ?_
    rotate_left 1
    · (intro w hSw; (try dsimp only at hSw); go_simp; try with_reducible rfl)
    try simp only [Act.put, List.setIfInBounds_toArray, List.set_cons_zero, List.set_cons_succ]
    refine wpAnyH_take (i := 7) (oi := { dst := some 39, op := Go.Op.fieldAddr 72 (Go.Operand.tmp 38) 1, type := 0, pos := "solve.go:53", after := #[{ on := 6, ground := Go.Ground.data }], guard := none }) (v := ?_) rfl (by kernel_rfl) (by kernel_rfl) (by kernel_rfl) (fun _ _ _ h => h) (Or.inl ⟨by rfl, ?_⟩) (by assumption) ?_
    rotate_left 1
    · (intro w hSw; (try dsimp only at hSw); go_simp; try with_reducible rfl)
    try simp only [Act.put, List.setIfInBounds_toArray, List.set_cons_zero, List.set_cons_succ]
    refine wpAnyH_take (i := 8) (oi := { dst := some 40, op := Go.Op.load 52 (Go.Operand.tmp 39), type := 52, pos := "solve.go:53", after := #[{ on := 7, ground := Go.Ground.data }], guard := none }) (v := ?_) rfl (by kernel_rfl) (by kernel_rfl) (by kernel_rfl) (fun _ _ _ h => h) (Or.inl ⟨by rfl, ?_⟩) (by assumption) ?_
    rotate_left 1
    · (intro w hSw; (try dsimp only at hSw); go_simp; try with_reducible rfl)
    try simp only [Act.put, List.setIfInBounds_toArray, List.set_cons_zero, List.set_cons_succ]
    refine wpAnyH_take (i := 9) (oi := { dst := some 41, op := Go.Op.move (Go.Operand.tmp 2), type := 3, pos := "solve.go:53", after := #[{ on := 25, ground := Go.Ground.gcOnly Go.Departure.lateStores }], guard := none }) (v := ?_) rfl (by kernel_rfl) (by kernel_rfl) (by kernel_rfl) (fun _ _ _ h => h) (Or.inl ⟨by rfl, ?_⟩) (by assumption) ?_
    rotate_left 1
    · (intro w hSw; (try dsimp only at hSw); go_simp; try with_reducible rfl)
    try simp only [Act.put, List.setIfInBounds_toArray, List.set_cons_zero, List.set_cons_succ]
    refine wpAnyH_take (i := 10) (oi := { dst := some 42, op := Go.Op.move (Go.Operand.tmp 0), type := 67, pos := "solve.go:53", after := #[], guard := none }) (v := ?_) rfl (by kernel_rfl) (by kernel_rfl) (by kernel_rfl) (fun _ _ _ h => h) (Or.inl ⟨by rfl, ?_⟩) (by assumption) ?_
    rotate_left 1
    · (intro w hSw; (try dsimp only at hSw); go_simp; try with_reducible rfl)
    try simp only [Act.put, List.setIfInBounds_toArray, List.set_cons_zero, List.set_cons_succ]
    refine wpAnyH_take (i := 11) (oi := { dst := some 43, op := Go.Op.nilCheck (Go.Operand.tmp 42), type := 0, pos := "solve.go:53", after := #[{ on := 10, ground := Go.Ground.data }], guard := none }) (v := ?_) rfl (by kernel_rfl) (by kernel_rfl) (by kernel_rfl) (fun _ _ _ h => h) (Or.inl ⟨by rfl, ?_⟩) (by assumption) ?_
    rotate_left 1
    · (intro w hSw; (try dsimp only at hSw); go_simp; try with_reducible rfl)
    try simp only [Act.put, List.setIfInBounds_toArray, List.set_cons_zero, List.set_cons_succ]
    refine wpAnyH_take (i := 12) (oi := { dst := some 44, op := Go.Op.fieldAddr 72 (Go.Operand.tmp 43) 1, type := 0, pos := "solve.go:53", after := #[{ on := 11, ground := Go.Ground.data }], guard := none }) (v := ?_) rfl (by kernel_rfl) (by kernel_rfl) (by kernel_rfl) (fun _ _ _ h => h) (Or.inl ⟨by rfl, ?_⟩) (by assumption) ?_
    rotate_left 1
    · (intro w hSw; (try dsimp only at hSw); go_simp; try with_reducible rfl)
    try simp only [Act.put, List.setIfInBounds_toArray, List.set_cons_zero, List.set_cons_succ]
    refine wpAnyH_take (i := 13) (oi := { dst := some 45, op := Go.Op.load 52 (Go.Operand.tmp 44), type := 52, pos := "solve.go:53", after := #[{ on := 12, ground := Go.Ground.data }], guard := none }) (v := ?_) rfl (by kernel_rfl) (by kernel_rfl) (by kernel_rfl) (fun _ _ _ h => h) (Or.inl ⟨by rfl, ?_⟩) (by assumption) ?_
    rotate_left 1
    · (intro w hSw; (try dsimp only at hSw); go_simp; try with_reducible rfl)
    try simp only [Act.put, List.setIfInBounds_toArray, List.set_cons_zero, List.set_cons_succ]
    refine wpAnyH_take (i := 14) (oi := { dst := some 46, op := Go.Op.move (Go.Operand.tmp 2), type := 3, pos := "solve.go:53", after := #[], guard := none }) (v := ?_) rfl (by kernel_rfl) (by kernel_rfl) (by kernel_rfl) (fun _ _ _ h => h) (Or.inl ⟨by rfl, ?_⟩) (by assumption) ?_
    rotate_left 1
    · (intro w hSw; (try dsimp only at hSw); go_simp; try with_reducible rfl)
    try simp only [Act.put, List.setIfInBounds_toArray, List.set_cons_zero, List.set_cons_succ]
    refine wpAnyH_take (i := 15) (oi := { dst := some 47, op := Go.Op.indexAddr 52 (Go.Operand.tmp 45) (Go.Operand.tmp 46), type := 0, pos := "solve.go:53", after := #[{ on := 13, ground := Go.Ground.data }, { on := 14, ground := Go.Ground.data }], guard := none }) (v := ?_) rfl (by kernel_rfl) (by kernel_rfl) (by kernel_rfl) (fun _ _ _ h => h) (Or.inl ⟨by rfl, ?_⟩) (by assumption) ?_
    rotate_left 1
    · (intro w hSw; (try dsimp only at hSw); go_simp; try with_reducible rfl)
    try simp only [Act.put, List.setIfInBounds_toArray, List.set_cons_zero, List.set_cons_succ]
    refine wpAnyH_take (i := 17) (oi := { dst := some 49, op := Go.Op.move (Go.Operand.tmp 0), type := 67, pos := "solve.go:53", after := #[], guard := none }) (v := ?_) rfl (by kernel_rfl) (by kernel_rfl) (by kernel_rfl) (fun _ _ _ h => h) (Or.inl ⟨by rfl, ?_⟩) (by assumption) ?_
    rotate_left 1
    · (intro w hSw; (try dsimp only at hSw); go_simp; try with_reducible rfl)
    try simp only [Act.put, List.setIfInBounds_toArray, List.set_cons_zero, List.set_cons_succ]
    refine wpAnyH_take (i := 18) (oi := { dst := some 50, op := Go.Op.nilCheck (Go.Operand.tmp 49), type := 0, pos := "solve.go:53", after := #[{ on := 17, ground := Go.Ground.data }], guard := none }) (v := ?_) rfl (by kernel_rfl) (by kernel_rfl) (by kernel_rfl) (fun _ _ _ h => h) (Or.inl ⟨by rfl, ?_⟩) (by assumption) ?_
    rotate_left 1
    · (intro w hSw; (try dsimp only at hSw); go_simp; try with_reducible rfl)
    try simp only [Act.put, List.setIfInBounds_toArray, List.set_cons_zero, List.set_cons_succ]
    refine wpAnyH_take (i := 19) (oi := { dst := some 51, op := Go.Op.fieldAddr 72 (Go.Operand.tmp 50) 1, type := 0, pos := "solve.go:53", after := #[{ on := 18, ground := Go.Ground.data }], guard := none }) (v := ?_) rfl (by kernel_rfl) (by kernel_rfl) (by kernel_rfl) (fun _ _ _ h => h) (Or.inl ⟨by rfl, ?_⟩) (by assumption) ?_
    rotate_left 1
    · (intro w hSw; (try dsimp only at hSw); go_simp; try with_reducible rfl)
    try simp only [Act.put, List.setIfInBounds_toArray, List.set_cons_zero, List.set_cons_succ]
    refine wpAnyH_take (i := 20) (oi := { dst := some 52, op := Go.Op.load 52 (Go.Operand.tmp 51), type := 52, pos := "solve.go:53", after := #[{ on := 19, ground := Go.Ground.data }], guard := none }) (v := ?_) rfl (by kernel_rfl) (by kernel_rfl) (by kernel_rfl) (fun _ _ _ h => h) (Or.inl ⟨by rfl, ?_⟩) (by assumption) ?_
    rotate_left 1
    · (intro w hSw; (try dsimp only at hSw); go_simp; try with_reducible rfl)
    try simp only [Act.put, List.setIfInBounds_toArray, List.set_cons_zero, List.set_cons_succ]
    refine wpAnyH_take (i := 21) (oi := { dst := some 53, op := Go.Op.move (Go.Operand.tmp 1), type := 3, pos := "solve.go:53", after := #[], guard := none }) (v := ?_) rfl (by kernel_rfl) (by kernel_rfl) (by kernel_rfl) (fun _ _ _ h => h) (Or.inl ⟨by rfl, ?_⟩) (by assumption) ?_
    rotate_left 1
    · (intro w hSw; (try dsimp only at hSw); go_simp; try with_reducible rfl)
    try simp only [Act.put, List.setIfInBounds_toArray, List.set_cons_zero, List.set_cons_succ]
    refine wpAnyH_take (i := 22) (oi := { dst := some 54, op := Go.Op.indexAddr 52 (Go.Operand.tmp 52) (Go.Operand.tmp 53), type := 0, pos := "solve.go:53", after := #[{ on := 20, ground := Go.Ground.data }, { on := 21, ground := Go.Ground.data }], guard := none }) (v := ?_) rfl (by kernel_rfl) (by kernel_rfl) (by kernel_rfl) (fun _ _ _ h => h) (Or.inl ⟨by rfl, ?_⟩) (by assumption) ?_
    rotate_left 1
    · (intro w hSw; (try dsimp only at hSw); go_simp; try with_reducible rfl)
    try simp only [Act.put, List.setIfInBounds_toArray, List.set_cons_zero, List.set_cons_succ]
    refine wpAnyH_ready (rs := [16, 23]) (by kernel_rfl) (by simp) ?_
    refine AllReadyH.cons (o := { dst := some 48, op := Go.Op.load 22 (Go.Operand.tmp 47), type := 22, pos := "solve.go:53", after := #[{ on := 15, ground := Go.Ground.data }], guard := none }) rfl (fun K hK => ?_) ?_
    · go_simp
      clear hHeld
      refine hK.out _ _ ?_ (fun hHeld => ?_)
      · ((try dsimp only); first | exact hvb2 | exact sv1 | exact sv2)
      clear hK K
      refine wpAnyH_ready (rs := [23]) (by kernel_rfl) (by simp) ?_
      refine AllReadyH.cons (o := { dst := some 55, op := Go.Op.load 22 (Go.Operand.tmp 54), type := 22, pos := "solve.go:53", after := #[{ on := 22, ground := Go.Ground.data }], guard := none }) rfl (fun K hK => ?_) AllReadyH.nil
      go_simp
      clear hHeld
      refine hK.out _ _ ?_ (fun hHeld => ?_)
      · ((try dsimp only); first | exact hvb2 | exact sv1 | exact sv2)
      clear hK K
      refine wpAnyH_take (i := 24) (oi := { dst := some 56, op := Go.Op.indexAddr 52 (Go.Operand.tmp 35) (Go.Operand.tmp 36), type := 0, pos := "solve.go:53", after := #[{ on := 3, ground := Go.Ground.data }, { on := 4, ground := Go.Ground.data }, { on := 0, ground := Go.Ground.phase }, { on := 1, ground := Go.Ground.phase }, { on := 2, ground := Go.Ground.phase }, { on := 3, ground := Go.Ground.phase }, { on := 4, ground := Go.Ground.phase }, { on := 5, ground := Go.Ground.textOnly Go.Departure.lateStores }, { on := 6, ground := Go.Ground.textOnly Go.Departure.lateStoresUnsure }, { on := 7, ground := Go.Ground.textOnly Go.Departure.lateStoresUnsure }, { on := 8, ground := Go.Ground.phase }, { on := 9, ground := Go.Ground.textOnly Go.Departure.lateStores }, { on := 10, ground := Go.Ground.phase }, { on := 11, ground := Go.Ground.phase }, { on := 12, ground := Go.Ground.phase }, { on := 13, ground := Go.Ground.phase }, { on := 14, ground := Go.Ground.phase }, { on := 15, ground := Go.Ground.phase }, { on := 16, ground := Go.Ground.phase }, { on := 17, ground := Go.Ground.textOnly Go.Departure.lateStores }, { on := 18, ground := Go.Ground.textOnly Go.Departure.lateStoresUnsure }, { on := 19, ground := Go.Ground.textOnly Go.Departure.lateStoresUnsure }, { on := 20, ground := Go.Ground.phase }, { on := 21, ground := Go.Ground.textOnly Go.Departure.lateStores }, { on := 22, ground := Go.Ground.textOnly Go.Departure.lateStoresUnsure }, { on := 23, ground := Go.Ground.phase }], guard := none }) (v := ?_) rfl (by kernel_rfl) (by kernel_rfl) (by kernel_rfl) (fun _ _ _ h => h) (Or.inl ⟨by rfl, ?_⟩) (by assumption) ?_
      rotate_left 1
      · (intro w hSw; (try dsimp only at hSw); go_simp; try with_reducible rfl)
      try simp only [Act.put, List.setIfInBounds_toArray, List.set_cons_zero, List.set_cons_succ]
      refine wpAnyH_ready (rs := [25]) (by kernel_rfl) (by simp) ?_
      refine AllReadyH.cons (o := { dst := none, op := Go.Op.store 22 (Go.Operand.tmp 56) (Go.Operand.tmp 48), type := 0, pos := "solve.go:53", after := #[{ on := 24, ground := Go.Ground.data }, { on := 16, ground := Go.Ground.data }, { on := 0, ground := Go.Ground.phase }, { on := 1, ground := Go.Ground.phase }, { on := 2, ground := Go.Ground.phase }, { on := 3, ground := Go.Ground.phase }, { on := 4, ground := Go.Ground.phase }, { on := 5, ground := Go.Ground.textOnly Go.Departure.lateStores }, { on := 6, ground := Go.Ground.textOnly Go.Departure.lateStoresUnsure }, { on := 7, ground := Go.Ground.textOnly Go.Departure.lateStoresUnsure }, { on := 8, ground := Go.Ground.phase }, { on := 9, ground := Go.Ground.textOnly Go.Departure.lateStores }, { on := 10, ground := Go.Ground.phase }, { on := 11, ground := Go.Ground.phase }, { on := 12, ground := Go.Ground.phase }, { on := 13, ground := Go.Ground.phase }, { on := 14, ground := Go.Ground.phase }, { on := 15, ground := Go.Ground.phase }, { on := 16, ground := Go.Ground.phase }, { on := 17, ground := Go.Ground.textOnly Go.Departure.lateStores }, { on := 18, ground := Go.Ground.textOnly Go.Departure.lateStoresUnsure }, { on := 19, ground := Go.Ground.textOnly Go.Departure.lateStoresUnsure }, { on := 20, ground := Go.Ground.phase }, { on := 21, ground := Go.Ground.textOnly Go.Departure.lateStores }, { on := 22, ground := Go.Ground.textOnly Go.Departure.lateStoresUnsure }, { on := 23, ground := Go.Ground.phase }], guard := none }) rfl (fun K hK => ?_) AllReadyH.nil
      go_simp
      clear hHeld
      refine hK.out _ _ ?_ (fun hHeld => ?_)
      · ((try dsimp only); first | exact hvb2 | exact sv1 | exact sv2)
      clear hK K
      refine wpAnyH_take (i := 26) (oi := { dst := some 57, op := Go.Op.indexAddr 52 (Go.Operand.tmp 40) (Go.Operand.tmp 41), type := 0, pos := "solve.go:53", after := #[{ on := 8, ground := Go.Ground.data }, { on := 9, ground := Go.Ground.data }, { on := 0, ground := Go.Ground.phase }, { on := 1, ground := Go.Ground.phase }, { on := 2, ground := Go.Ground.phase }, { on := 3, ground := Go.Ground.phase }, { on := 4, ground := Go.Ground.phase }, { on := 5, ground := Go.Ground.phase }, { on := 6, ground := Go.Ground.phase }, { on := 7, ground := Go.Ground.phase }, { on := 8, ground := Go.Ground.phase }, { on := 9, ground := Go.Ground.phase }, { on := 10, ground := Go.Ground.phase }, { on := 11, ground := Go.Ground.phase }, { on := 12, ground := Go.Ground.phase }, { on := 13, ground := Go.Ground.phase }, { on := 14, ground := Go.Ground.phase }, { on := 15, ground := Go.Ground.phase }, { on := 16, ground := Go.Ground.phase }, { on := 17, ground := Go.Ground.phase }, { on := 18, ground := Go.Ground.phase }, { on := 19, ground := Go.Ground.phase }, { on := 20, ground := Go.Ground.phase }, { on := 21, ground := Go.Ground.phase }, { on := 22, ground := Go.Ground.phase }, { on := 23, ground := Go.Ground.phase }, { on := 24, ground := Go.Ground.phase }, { on := 25, ground := Go.Ground.phase }], guard := none }) (v := ?_) rfl (by kernel_rfl) (by kernel_rfl) (by kernel_rfl) (fun _ _ _ h => h) (Or.inl ⟨by rfl, ?_⟩) (by assumption) ?_
      rotate_left 1
      · (intro w hSw; (try dsimp only at hSw); go_simp; try with_reducible rfl)
      try simp only [Act.put, List.setIfInBounds_toArray, List.set_cons_zero, List.set_cons_succ]
      refine wpAnyH_ready (rs := [27]) (by kernel_rfl) (by simp) ?_
      refine AllReadyH.cons (o := { dst := none, op := Go.Op.store 22 (Go.Operand.tmp 57) (Go.Operand.tmp 55), type := 0, pos := "solve.go:53", after := #[{ on := 26, ground := Go.Ground.data }, { on := 23, ground := Go.Ground.data }, { on := 25, ground := Go.Ground.chain }, { on := 0, ground := Go.Ground.phase }, { on := 1, ground := Go.Ground.phase }, { on := 2, ground := Go.Ground.phase }, { on := 3, ground := Go.Ground.phase }, { on := 4, ground := Go.Ground.phase }, { on := 5, ground := Go.Ground.phase }, { on := 6, ground := Go.Ground.phase }, { on := 7, ground := Go.Ground.phase }, { on := 8, ground := Go.Ground.phase }, { on := 9, ground := Go.Ground.phase }, { on := 10, ground := Go.Ground.phase }, { on := 11, ground := Go.Ground.phase }, { on := 12, ground := Go.Ground.phase }, { on := 13, ground := Go.Ground.phase }, { on := 14, ground := Go.Ground.phase }, { on := 15, ground := Go.Ground.phase }, { on := 16, ground := Go.Ground.phase }, { on := 17, ground := Go.Ground.phase }, { on := 18, ground := Go.Ground.phase }, { on := 19, ground := Go.Ground.phase }, { on := 20, ground := Go.Ground.phase }, { on := 21, ground := Go.Ground.phase }, { on := 22, ground := Go.Ground.phase }, { on := 23, ground := Go.Ground.phase }, { on := 24, ground := Go.Ground.phase }, { on := 25, ground := Go.Ground.phase }], guard := none }) rfl (fun K hK => ?_) AllReadyH.nil
      go_simp
      clear hHeld
      refine hK.out _ _ ?_ (fun hHeld => ?_)
      · ((try dsimp only); first | exact hvb2 | exact sv1 | exact sv2)
      clear hK K
      refine wpAnyH_done (by kernel_rfl) ?_ _
      refine NoPanic.normal ?_
      exact REST _ rfl
    refine AllReadyH.cons (o := { dst := some 55, op := Go.Op.load 22 (Go.Operand.tmp 54), type := 22, pos := "solve.go:53", after := #[{ on := 22, ground := Go.Ground.data }], guard := none }) rfl (fun K hK => ?_) AllReadyH.nil
    go_simp
    clear hHeld
    refine hK.out _ _ ?_ (fun hHeld => ?_)
    · ((try dsimp only); first | exact hvb2 | exact sv1 | exact sv2)
    clear hK K
    refine wpAnyH_ready (rs := [16]) (by kernel_rfl) (by simp) ?_
    refine AllReadyH.cons (o := { dst := some 48, op := Go.Op.load 22 (Go.Operand.tmp 47), type := 22, pos := "solve.go:53", after := #[{ on := 15, ground := Go.Ground.data }], guard := none }) rfl (fun K hK => ?_) AllReadyH.nil
    go_simp
    clear hHeld
    refine hK.out _ _ ?_ (fun hHeld => ?_)
    · ((try dsimp only); first | exact hvb2 | exact sv1 | exact sv2)
    clear hK K
    refine wpAnyH_take (i := 24) (oi := { dst := some 56, op := Go.Op.indexAddr 52 (Go.Operand.tmp 35) (Go.Operand.tmp 36), type := 0, pos := "solve.go:53", after := #[{ on := 3, ground := Go.Ground.data }, { on := 4, ground := Go.Ground.data }, { on := 0, ground := Go.Ground.phase }, { on := 1, ground := Go.Ground.phase }, { on := 2, ground := Go.Ground.phase }, { on := 3, ground := Go.Ground.phase }, { on := 4, ground := Go.Ground.phase }, { on := 5, ground := Go.Ground.textOnly Go.Departure.lateStores }, { on := 6, ground := Go.Ground.textOnly Go.Departure.lateStoresUnsure }, { on := 7, ground := Go.Ground.textOnly Go.Departure.lateStoresUnsure }, { on := 8, ground := Go.Ground.phase }, { on := 9, ground := Go.Ground.textOnly Go.Departure.lateStores }, { on := 10, ground := Go.Ground.phase }, { on := 11, ground := Go.Ground.phase }, { on := 12, ground := Go.Ground.phase }, { on := 13, ground := Go.Ground.phase }, { on := 14, ground := Go.Ground.phase }, { on := 15, ground := Go.Ground.phase }, { on := 16, ground := Go.Ground.phase }, { on := 17, ground := Go.Ground.textOnly Go.Departure.lateStores }, { on := 18, ground := Go.Ground.textOnly Go.Departure.lateStoresUnsure }, { on := 19, ground := Go.Ground.textOnly Go.Departure.lateStoresUnsure }, { on := 20, ground := Go.Ground.phase }, { on := 21, ground := Go.Ground.textOnly Go.Departure.lateStores }, { on := 22, ground := Go.Ground.textOnly Go.Departure.lateStoresUnsure }, { on := 23, ground := Go.Ground.phase }], guard := none }) (v := ?_) rfl (by kernel_rfl) (by kernel_rfl) (by kernel_rfl) (fun _ _ _ h => h) (Or.inl ⟨by rfl, ?_⟩) (by assumption) ?_
    rotate_left 1
    · (intro w hSw; (try dsimp only at hSw); go_simp; try with_reducible rfl)
    try simp only [Act.put, List.setIfInBounds_toArray, List.set_cons_zero, List.set_cons_succ]
    refine wpAnyH_ready (rs := [25]) (by kernel_rfl) (by simp) ?_
    refine AllReadyH.cons (o := { dst := none, op := Go.Op.store 22 (Go.Operand.tmp 56) (Go.Operand.tmp 48), type := 0, pos := "solve.go:53", after := #[{ on := 24, ground := Go.Ground.data }, { on := 16, ground := Go.Ground.data }, { on := 0, ground := Go.Ground.phase }, { on := 1, ground := Go.Ground.phase }, { on := 2, ground := Go.Ground.phase }, { on := 3, ground := Go.Ground.phase }, { on := 4, ground := Go.Ground.phase }, { on := 5, ground := Go.Ground.textOnly Go.Departure.lateStores }, { on := 6, ground := Go.Ground.textOnly Go.Departure.lateStoresUnsure }, { on := 7, ground := Go.Ground.textOnly Go.Departure.lateStoresUnsure }, { on := 8, ground := Go.Ground.phase }, { on := 9, ground := Go.Ground.textOnly Go.Departure.lateStores }, { on := 10, ground := Go.Ground.phase }, { on := 11, ground := Go.Ground.phase }, { on := 12, ground := Go.Ground.phase }, { on := 13, ground := Go.Ground.phase }, { on := 14, ground := Go.Ground.phase }, { on := 15, ground := Go.Ground.phase }, { on := 16, ground := Go.Ground.phase }, { on := 17, ground := Go.Ground.textOnly Go.Departure.lateStores }, { on := 18, ground := Go.Ground.textOnly Go.Departure.lateStoresUnsure }, { on := 19, ground := Go.Ground.textOnly Go.Departure.lateStoresUnsure }, { on := 20, ground := Go.Ground.phase }, { on := 21, ground := Go.Ground.textOnly Go.Departure.lateStores }, { on := 22, ground := Go.Ground.textOnly Go.Departure.lateStoresUnsure }, { on := 23, ground := Go.Ground.phase }], guard := none }) rfl (fun K hK => ?_) AllReadyH.nil
    go_simp
    clear hHeld
    refine hK.out _ _ ?_ (fun hHeld => ?_)
    · ((try dsimp only); first | exact hvb2 | exact sv1 | exact sv2)
    clear hK K
    refine wpAnyH_take (i := 26) (oi := { dst := some 57, op := Go.Op.indexAddr 52 (Go.Operand.tmp 40) (Go.Operand.tmp 41), type := 0, pos := "solve.go:53", after := #[{ on := 8, ground := Go.Ground.data }, { on := 9, ground := Go.Ground.data }, { on := 0, ground := Go.Ground.phase }, { on := 1, ground := Go.Ground.phase }, { on := 2, ground := Go.Ground.phase }, { on := 3, ground := Go.Ground.phase }, { on := 4, ground := Go.Ground.phase }, { on := 5, ground := Go.Ground.phase }, { on := 6, ground := Go.Ground.phase }, { on := 7, ground := Go.Ground.phase }, { on := 8, ground := Go.Ground.phase }, { on := 9, ground := Go.Ground.phase }, { on := 10, ground := Go.Ground.phase }, { on := 11, ground := Go.Ground.phase }, { on := 12, ground := Go.Ground.phase }, { on := 13, ground := Go.Ground.phase }, { on := 14, ground := Go.Ground.phase }, { on := 15, ground := Go.Ground.phase }, { on := 16, ground := Go.Ground.phase }, { on := 17, ground := Go.Ground.phase }, { on := 18, ground := Go.Ground.phase }, { on := 19, ground := Go.Ground.phase }, { on := 20, ground := Go.Ground.phase }, { on := 21, ground := Go.Ground.phase }, { on := 22, ground := Go.Ground.phase }, { on := 23, ground := Go.Ground.phase }, { on := 24, ground := Go.Ground.phase }, { on := 25, ground := Go.Ground.phase }], guard := none }) (v := ?_) rfl (by kernel_rfl) (by kernel_rfl) (by kernel_rfl) (fun _ _ _ h => h) (Or.inl ⟨by rfl, ?_⟩) (by assumption) ?_
    rotate_left 1
    · (intro w hSw; (try dsimp only at hSw); go_simp; try with_reducible rfl)
    try simp only [Act.put, List.setIfInBounds_toArray, List.set_cons_zero, List.set_cons_succ]
    refine wpAnyH_ready (rs := [27]) (by kernel_rfl) (by simp) ?_
    refine AllReadyH.cons (o := { dst := none, op := Go.Op.store 22 (Go.Operand.tmp 57) (Go.Operand.tmp 55), type := 0, pos := "solve.go:53", after := #[{ on := 26, ground := Go.Ground.data }, { on := 23, ground := Go.Ground.data }, { on := 25, ground := Go.Ground.chain }, { on := 0, ground := Go.Ground.phase }, { on := 1, ground := Go.Ground.phase }, { on := 2, ground := Go.Ground.phase }, { on := 3, ground := Go.Ground.phase }, { on := 4, ground := Go.Ground.phase }, { on := 5, ground := Go.Ground.phase }, { on := 6, ground := Go.Ground.phase }, { on := 7, ground := Go.Ground.phase }, { on := 8, ground := Go.Ground.phase }, { on := 9, ground := Go.Ground.phase }, { on := 10, ground := Go.Ground.phase }, { on := 11, ground := Go.Ground.phase }, { on := 12, ground := Go.Ground.phase }, { on := 13, ground := Go.Ground.phase }, { on := 14, ground := Go.Ground.phase }, { on := 15, ground := Go.Ground.phase }, { on := 16, ground := Go.Ground.phase }, { on := 17, ground := Go.Ground.phase }, { on := 18, ground := Go.Ground.phase }, { on := 19, ground := Go.Ground.phase }, { on := 20, ground := Go.Ground.phase }, { on := 21, ground := Go.Ground.phase }, { on := 22, ground := Go.Ground.phase }, { on := 23, ground := Go.Ground.phase }, { on := 24, ground := Go.Ground.phase }, { on := 25, ground := Go.Ground.phase }], guard := none }) rfl (fun K hK => ?_) AllReadyH.nil
    go_simp
    clear hHeld
    refine hK.out _ _ ?_ (fun hHeld => ?_)
    · ((try dsimp only); first | exact hvb2 | exact sv1 | exact sv2)
    clear hK K
    refine wpAnyH_done (by kernel_rfl) ?_ _
    refine NoPanic.normal ?_
    exact REST _ rfl
  rintro W9 hW9
  go_wp2
  first | go_end0 | ((try simp only [Exit.inBlock, Exit.then]); refine bodyPost_ret (results_none rfl _ _ _) rfl ?_)
  have HW2' := Lib.hid (HW2.out.1.drewN 1)
  change Hid (Grid (World.drew _) _ _ _ _ _ _ _) at HW2'
  rw [← hW9] at HW2'
  have HG9 := Lib.hid (show W.grownBy W9 (some g') by rw [hW9]; exact World.grownBy.trans HW2.out.2 ⟨rfl, rfl, rfl, Nat.le_refl _, fun _ _ _ => rfl⟩)
  refine swap_end HE.out H.out HBK.out HG.out HW1'.out ⟨HW2'.out, HG9.out⟩ hgl hgh hgl' hgh'
end Go.Proofs.Ytelgefkfflgbeaa.Sol
/- solve: all other rows brought to nought in a column. -/
namespace Go.Proofs.Ytelgefkfflgbeaa.Sol
open Go Go.RowKit Go.Proofs.Ytelgefkfflgbeaa.Gi Go.Proofs.Ytelgefkfflgbeaa.Gf Go.Proofs.Ytelgefkfflgbeaa.Mem Go.Proofs.Ytelgefkfflgbeaa.Bits Go.Proofs.Ytelgefkfflgbeaa.Rws Go.Proofs.YtelgefkfflgbeaaW.PrintWords
set_option linter.unusedVariables false

/-- The first i rows cleared; row t made one. -/
def clrTo (C : Mtx) (t col : Nat) (r : Int) (i : Nat) : Mtx := fun p j => if p = t then gmI (C t j) r else if p < i then xorI (C p j) (gmI (gmI (C t j) r) (C p col)) else C p j
theorem clrTo_byt {C : Mtx} (hC : BytM C) (t col : Nat) {r : Int} (hr : Byt r) (i : Nat) : BytM (clrTo C t col r i) := by
  intro p j
  unfold clrTo
  split
  · exact gmI_byt (hC _ _)
  · split
    · exact xorI_byt (hC _ _) (gmI_byt (gmI_byt (hC _ _)))
    · exact hC _ _
theorem gm0 (a : Int) : gmI a 0 = 0 := by unfold gmI; simp [gm_zero_right]
theorem xor0 {a : Int} (h : Byt a) : xorI a 0 = a := by unfold xorI; have := h.1; simp; omega
theorem clrTo_skip {C : Mtx} (hC : BytM C) (t col : Nat) (r : Int) (i : Nat) (h : i = t ∨ C i col = 0) (p j : Nat) : clrTo C t col r i p j = clrTo C t col r (i + 1) p j := by
  unfold clrTo
  by_cases e : p = t
  · rw [if_pos e, if_pos e]
  · rw [if_neg e, if_neg e]
    by_cases e1 : p < i
    · rw [if_pos e1, if_pos (by omega)]
    · rw [if_neg e1]
      by_cases e2 : p = i
      · subst e2
        rcases h with h | h
        · exact absurd h e
        · rw [if_pos (by omega), h, gm0, xor0 (hC _ _)]
      · rw [if_neg (by omega)]
theorem clrTo_at (C : Mtx) (t col : Nat) (r : Int) (i j : Nat) (h : i ≠ t) : clrTo C t col r i i j = C i j := by unfold clrTo; rw [if_neg h, if_neg (Nat.lt_irrefl i)]
theorem clrTo_t (C : Mtx) (t col : Nat) (r : Int) (i j : Nat) : clrTo C t col r i t j = gmI (C t j) r := by unfold clrTo; rw [if_pos rfl]
theorem clrTo_next (C : Mtx) (t col : Nat) (r : Int) (i p j : Nat) (h : i ≠ t) : (if p = i then xorI (C i j) (gmI (gmI (C t j) r) (C i col)) else clrTo C t col r i p j) = clrTo C t col r (i + 1) p j := by
  unfold clrTo
  by_cases e : p = i
  · subst e
    rw [if_pos rfl, if_neg h, if_pos (by omega)]
  · rw [if_neg e]
    by_cases e1 : p = t
    · rw [if_pos e1, if_pos e1]
    · rw [if_neg e1, if_neg e1]
      by_cases e2 : p < i
      · rw [if_pos e2, if_pos (by omega)]
      · rw [if_neg e2, if_neg (by omega)]
theorem Work.drewN {w : World} {lo mid top p n m q : Nat} {va vb : Value} {Ra Rb : Nat → Value} {C : Mtx} (h : Work w lo mid top p va vb n m q Ra Rb C) (k : Nat) : Work (w.drewN k) lo mid top p va vb n m q Ra Rb C :=
  ⟨h.blk.drewN k, h.ga.drewN k, h.gb.drewN k, h.l1, h.l2, h.l3⟩
set_option maxRecDepth 100000 in
set_option maxHeartbeats 4000000 in
theorem clear_any (lo mid top p n m q t col : Nat) (va vb : Value) (Ra Rb : Nat → Value) (C : Mtx) (w : World) (h : Work w lo mid top p va vb n m q Ra Rb C) (hC : BytM C) (hn : n ≤ 1000) (ht : t < n) (hc : col < m) (hm : m ≤ 1000) (hq1 : 1 ≤ q) (hq : q ≤ 1000) (hz : C t col ≠ 0) :
    ∃ r, Byt r ∧ gmI (C t col) r = 1 ∧ Calls Try.prog 52 #[.pointer (some ⟨p, 0, none⟩), .int .i64 t, .int .i64 col] w fun e w' => e = .returned (.tuple #[]) ∧ Work w' lo mid top p va vb n m q Ra Rb (clrTo C t col r n) ∧ Insd lo top w w' := by
  obtain ⟨r, hr, hr1, IV⟩ := inv_still (C t col) w (hC t col) hz
  refine ⟨r, hr, hr1, ?_⟩
  have HIV := Lib.hid IV
  have HR := Lib.hid hr
  have HC := Lib.hid hC
  obtain ⟨g, cg, rfl, _, hgl, hgh, _⟩ := h.ga.form (by omega)
  obtain ⟨g', cg', rfl, _, hgl', hgh', _⟩ := h.gb.form (by omega)
  obtain ⟨hva, hvb⟩ := h.cells
  obtain ⟨b1, c1, e1, _, l1, l2, _⟩ := h.ga.rform (by omega) t ht
  obtain ⟨b2, c2, e2, _, l3, l4, _⟩ := h.gb.rform (by omega) t ht
  have z1 := (h.ga.head t ht).1
  rw [e1] at z1
  have z2 := (h.ga.elem t ht e1 col hc).1
  have hrow := h.ga.row t ht
  rw [e1] at hrow
  have SC := Lib.hid (scale_any lo b1 c1 m (C t) r w hrow (hC t) hr (by omega))
  have g0 : (0 : Int) ≤ (t : Int) := by omega
  have g1 : (t : Int) < (n : Int) := by omega
  have g2 : (0 : Int) ≤ (col : Int) := by omega
  have g3 : (col : Int) < (m : Int) := by omega
  have H := Lib.hid h
  have E1 := Lib.hid e1
  have E2 := Lib.hid e2
  obtain ⟨y, hy⟩ : ∃ y, y = C t col := ⟨_, rfl⟩
  rw [← hy] at z2 HIV
  clear h hC hr hr1 IV hz hrow e1 e2 hy
  go_enter Try.func52, Try.ntmps52
  go_upto_region 2 with (first
    | (go_at_call 43; (with_reducible refine (HIV.out _).mono ?_); rintro e w' ⟨rfl, hw⟩; obtain rfl := hw.symm)
    | (go_at_call 53; (with_reducible refine SC.out.mono ?_); rintro e w1 ⟨rfl, hr1, hg1⟩; have HR1 := Lib.hid hr1; have HG1 := Lib.hid hg1; clear hr1 hg1))
  have hr1 := HR1.out
  rw [← E1.out] at hr1
  have hw1 := H.out.putA t ht E1.out l1 l2 HG1.out _ hr1
  have HI1 := Lib.hid (Insd.grown HG1.out l1 (show b1 < top by have := H.out.l2; omega))
  clear hr1 hva hvb z1 z2 SC HIV
  obtain ⟨hva, hvb⟩ := hw1.cells
  have z1 := (hw1.gb.head t ht).1
  rw [E2.out] at z1
  have hrow := hw1.gb.row t ht
  rw [E2.out] at hrow
  rw [line_congr q _ (fun j => C t (m + j)) (fun j _ => by show (if t = t then (if m + j < m then _ else C t (m + j)) else _) = _; rw [if_pos rfl, if_neg (by omega)])] at hrow
  have SC := Lib.hid (scale_any mid b2 c2 q (fun j => C t (m + j)) r w1 hrow (fun j => HC.out t (m + j)) HR.out (by omega))
  have HW1 := Lib.hid hw1
  clear hw1 hrow
  go_upto_region 3 with (go_at_call 53; (with_reducible refine SC.out.mono ?_); rintro e w2 ⟨rfl, hr1, hg1⟩; have HR2 := Lib.hid hr1; have HG2 := Lib.hid hg1; clear hr1 hg1)
  have hr2 := HR2.out
  rw [← E2.out] at hr2
  have hw2 := HW1.out.putB t ht E2.out l3 l4 HG2.out _ hr2
  have HW2 := Lib.hid (show Work w2 lo mid top p _ _ n m q Ra Rb (clrTo C t col r 0) from hw2.congr (fun i hi j hj => by
    unfold clrTo
    by_cases e : i = t
    · subst e
      rw [if_pos rfl, if_pos rfl]
      by_cases ej : j < m
      · rw [if_pos ej, if_pos rfl, if_pos ej]
      · rw [if_neg ej, show m + (j - m) = j by omega, if_pos rfl]
    · rw [if_neg e, if_neg e, if_neg e, if_neg (Nat.not_lt_zero i)]))
  have HI2 := Lib.hid (HI1.out.trans (Insd.grown HG2.out (show lo ≤ b2 by have := H.out.l1; omega) l4))
  clear hr2 hw2 hva hvb z1 SC HW1 HI1 HR1 HR2 HG1 HG2
  have hva := HW2.out.cells.1
  go_upto_region 4 with (fail)
  clear hva
  go_loopw [8, 9, 47] (fun _ _ iv wr => ∃ (i : Nat), i ≤ n ∧ iv = .int .i64 i ∧ Hid (Work wr lo mid top p (.slice (some ⟨g, 0, none⟩) n cg) (.slice (some ⟨g', 0, none⟩) n cg') n m q Ra Rb (clrTo C t col r i)) ∧ Hid (Insd lo top w wr)) (fun _ _ iv _ => n - (intOf iv).toNat)
  case atStart => exact ⟨0, by omega, rfl, HW2, HI2⟩
  case round =>
    clear HW2 HI2
    obtain ⟨i, hi, rfl, HW, HI⟩ := hrel
    by_cases hlt : i < n
    · have hva := HW.out.cells.1
      obtain ⟨b3, c3, e3, _, l5, l6, _⟩ := HW.out.ga.rform (by omega) i hlt
      have z3 := (HW.out.ga.head i hlt).1
      rw [e3] at z3
      have z4 := (HW.out.ga.elem i hlt e3 col hc).1
      have E3 := Lib.hid e3
      have g4 : (0 : Int) ≤ (i : Int) := by omega
      have g5 : (i : Int) < (n : Int) := by omega
      clear e3
      by_cases hit : i = t
      · have t1 : ((i : Int) != (t : Int)) = false := by simp; omega
        have HT := Lib.hid hit
        obtain ⟨f, hf⟩ : ∃ f, f = clrTo C t col r i i col := ⟨_, rfl⟩
        rw [← hf] at z4
        clear hit hf
        go_wp2
        go_roundw
        case rel => exact ⟨i + 1, by omega, by go_num, Lib.hid (HW.out.congr (fun p' _ j _ => clrTo_skip HC.out t col r i (.inl HT.out) p' j)), HI⟩
        case measure => simp [intOf]; omega
      · have t1 : ((i : Int) != (t : Int)) = true := by simp; omega
        have HT := Lib.hid hit
        rw [clrTo_at C t col r i col hit] at z4
        clear hit
        by_cases hz : C i col = 0
        · rw [hz] at z4
          have HZ := Lib.hid hz
          clear hz
          go_wp2
          go_roundw
          case rel => exact ⟨i + 1, by omega, by go_num, Lib.hid (HW.out.congr (fun p' _ j _ => clrTo_skip HC.out t col r i (.inr HZ.out) p' j)), HI⟩
          case measure => simp [intOf]; omega
        · have t2 : (C i col != 0) = true := by simp [hz]
          have z5 := (HW.out.ga.head t ht).1
          rw [E1.out] at z5
          have hri := (HW.out.drewN 1).ga.row i hlt
          have hrt := (HW.out.drewN 1).ga.row t ht
          rw [E3.out, line_congr m _ (C i) (fun j _ => clrTo_at C t col r i j HT.out)] at hri
          rw [E1.out, line_congr m _ (fun j => gmI (C t j) r) (fun j _ => clrTo_t C t col r i j)] at hrt
          have HNE := Lib.hid (show b1 ≠ b3 from fun e => HW.out.ga.apart t i ht hlt (fun e => HT.out e.symm) b1 (by rw [E1.out]; rfl) (by rw [E3.out, e]; rfl))
          have SA := Lib.hid (sadd_any lo b3 c3 b1 c1 m (C i) (fun j => gmI (C t j) r) (C i col) (wr.drewN 1) hri hrt HNE.out (HC.out i) (fun j => gmI_byt (HC.out t j)) (HC.out i col) (by omega))
          obtain ⟨rl, hrl⟩ : ∃ rl, rl = line m (fun j => xorI (C i j) (gmI (gmI (C t j) r) (C i col))) := ⟨_, rfl⟩
          rw [← hrl] at SA
          have HRL := Lib.hid hrl
          obtain ⟨f, hf⟩ : ∃ f, f = C i col := ⟨_, rfl⟩
          rw [← hf] at z4 t2 SA
          have HF := Lib.hid hf
          clear hz hri hrt hrl hf
          go_upto_region 8 with (fail)
          refine wp_region_still_tail 15 (by kernel_rfl) (by kernel_rfl) ?_
          change wpStill _ _ (wr.drewN 1) (fun a' => wpList _ _ _ _ a' (wr.drewN 1)) _ _
          simp only [List.take_succ_cons, List.take_zero, List.drop_succ_cons, List.drop_zero]
          iterate 15 still_step
          refine wpStill_nil ?_
          go_upto_region 9 with (go_at_call 54; (with_reducible refine SA.out.mono ?_); rintro e w3 ⟨rfl, hr1, hg1⟩; have HR3 := Lib.hid hr1; have HG3 := Lib.hid hg1; clear hr1 hg1)
          have hr3 := HR3.out
          rw [← E3.out, HRL.out] at hr3
          have hw3 := (HW.out.drewN 1).putA i hlt E3.out l5 l6 HG3.out _ hr3
          have HI3 := Lib.hid ((HI.out.trans (Insd.drewN wr 1)).trans (Insd.grown HG3.out l5 (show b3 < top by have := HW.out.l2; omega)))
          clear hr3 hva z3 z4 z5 SA
          obtain ⟨_, hvb⟩ := hw3.cells
          obtain ⟨b4, c4, e4, _, l7, l8, _⟩ := hw3.gb.rform (by omega) i hlt
          have z6 := (hw3.gb.head i hlt).1
          have z7 := (hw3.gb.head t ht).1
          have hri := (hw3.drewN 1).gb.row i hlt
          have hrt := (hw3.drewN 1).gb.row t ht
          have HN4 := Lib.hid (show b2 ≠ b4 from fun e => hw3.gb.apart t i ht hlt (fun e => HT.out e.symm) b2 (by rw [E2.out]; rfl) (by rw [e4, e]; rfl))
          rw [e4] at z6 hri
          rw [E2.out] at z7 hrt
          rw [line_congr q _ (fun j => C i (m + j)) (fun j _ => by show (if i = i then (if m + j < m then _ else _) else _) = _; rw [if_pos rfl, if_neg (by omega), clrTo_at C t col r i (m + j) HT.out])] at hri
          rw [line_congr q _ (fun j => gmI (C t (m + j)) r) (fun j _ => by show (if t = i then _ else _) = _; rw [if_neg (fun e => HT.out e.symm), clrTo_t C t col r i (m + j)])] at hrt
          have SA := Lib.hid (sadd_any mid b4 c4 b2 c2 q (fun j => C i (m + j)) (fun j => gmI (C t (m + j)) r) f (w3.drewN 1) hri hrt HN4.out (fun j => HC.out i (m + j)) (fun j => gmI_byt (HC.out t (m + j))) (by rw [HF.out]; exact HC.out i col) (by omega))
          obtain ⟨rl2, hrl2⟩ : ∃ rl, rl = line q (fun j => xorI (C i (m + j)) (gmI (gmI (C t (m + j)) r) f)) := ⟨_, rfl⟩
          rw [← hrl2] at SA
          have HRL2 := Lib.hid hrl2
          have HW3 := Lib.hid hw3
          have E4 := Lib.hid e4
          clear hw3 e4 hri hrt hrl2
          refine wp_region_still_tail 15 (by kernel_rfl) (by kernel_rfl) ?_
          change wpStill _ _ (w3.drewN 1) (fun a' => wpList _ _ _ _ a' (w3.drewN 1)) _ _
          simp only [List.take_succ_cons, List.take_zero, List.drop_succ_cons, List.drop_zero]
          iterate 15 still_step
          refine wpStill_nil ?_
          go_wp2_with (go_at_call 54; (with_reducible refine SA.out.mono ?_); rintro e w4 ⟨rfl, hr1, hg1⟩; have HR4 := Lib.hid hr1; have HG4 := Lib.hid hg1; clear hr1 hg1)
          go_roundw
          case rel =>
            have hr4 := HR4.out
            rw [← E4.out, HRL2.out] at hr4
            have hw4 := (HW3.out.drewN 1).putB i hlt E4.out l7 l8 HG4.out _ hr4
            refine ⟨i + 1, by omega, by go_num, Lib.hid (hw4.congr (fun p' hp j hj => ?_)), Lib.hid ((HI3.out.trans (Insd.drewN w3 1)).trans (Insd.grown HG4.out (show lo ≤ b4 by have := HW.out.l1; omega) l8))⟩
            rw [← clrTo_next C t col r i p' j HT.out]
            by_cases ep : p' = i
            · subst ep
              rw [if_pos rfl, if_pos rfl]
              by_cases ej : j < m
              · rw [if_pos ej, if_pos rfl, if_pos ej]
              · rw [if_neg ej, HF.out, show m + (j - m) = j by omega, if_pos rfl]
            · rw [if_neg ep, if_neg ep, if_neg ep]
          case measure => simp [intOf]; omega
    · obtain rfl : i = n := by omega
      go_wp2
      first | go_end0 | ((try simp only [Exit.inBlock, Exit.then]); refine bodyPost_ret (results_none rfl _ _ _) rfl ?_)
      exact ⟨rfl, HW.out, HI.out⟩
end Go.Proofs.Ytelgefkfflgbeaa.Sol
/- solve: rows brought to steps. -/
namespace Go.Proofs.Ytelgefkfflgbeaa.Sol
open Go Go.RowKit Go.Proofs.Ytelgefkfflgbeaa.Gi Go.Proofs.Ytelgefkfflgbeaa.Gf Go.Proofs.Ytelgefkfflgbeaa.Mem Go.Proofs.Ytelgefkfflgbeaa.Bits Go.Proofs.Ytelgefkfflgbeaa.Rws Go.Proofs.YtelgefkfflgbeaaW.PrintWords
set_option linter.unusedVariables false

theorem swp_step (n : Nat) (C : Mtx) (t k col : Nat) (r : Int) (i : Nat) (hi : i < n) (j : Nat) : clrTo (swpR C t k) t col r n i j = stepI C t k col r i j := by
  have et : ∀ j, swpR C t k t j = C k j := fun j => by
    unfold swpR
    by_cases e : t = k
    · rw [if_pos e, e]
    · rw [if_neg e, if_pos rfl]
  unfold clrTo stepI
  by_cases e : i = t
  · rw [if_pos e, if_pos e, et]
  · rw [if_neg e, if_neg e, if_pos hi, et]
    have es : ∀ j, swpR C t k i j = swapI C t k i j := fun j => by
      unfold swpR swapI
      by_cases e1 : i = k
      · rw [if_pos e1, if_pos e1]
      · rw [if_neg e1, if_neg e, if_neg e1]
    rw [es, es]
theorem swp_byt {C : Mtx} (h : BytM C) (t k : Nat) : BytM (swpR C t k) := by
  intro i j
  unfold swpR
  split
  · exact h _ _
  · split <;> exact h _ _
theorem StepsTo.fill {n : Nat} {M0 M : Mtx} {col : Nat} (h : StepsTo n M0 col n M) : ∀ d, StepsTo n M0 (col + d) n M
  | 0 => h
  | d + 1 => (StepsTo.fill h d).skip (fun j h1 h2 => absurd h1 (by omega))
theorem grown_any {w w' : World} {row : Option Nat} (hg : w.grownBy w' row) (b : Nat) (h : row = none ∨ row = some b) : w.grownBy w' (some b) := by
  rcases h with h | h
  · subst h; exact ⟨hg.os, hg.tape, hg.output, hg.size, fun k hk _ => hg.block k hk (by simp)⟩
  · subst h; exact hg
theorem Work.grow {w w' : World} {lo mid top p n m q e sz k : Nat} {va vb u : Value} {Ra Rb : Nat → Value} {C : Mtx} {xs : List Value} (h : Work w lo mid top p va vb n m q Ra Rb C) (ho : w.ownsRow (p + 1) e sz u k xs) (hg : w.grownBy w' u.ownBlock) :
    Work w' lo mid top p va vb n m q Ra Rb C := by
  rcases hb : u.ownBlock with _ | b
  · exact h.grown (grown_any hg (p + 1) (.inl hb)) (by omega)
  · rw [hb] at hg
    exact h.grown hg (by have := own_base ho b hb; omega)
theorem info_int : (Try.prog.info? 3).map (fun i => (i.zero, i.size, i.bytes)) = some (some (.int .i64 0), 1, 8) := by kernel_rfl
set_option maxRecDepth 100000 in
set_option maxHeartbeats 4000000 in
theorem ssteps_any (lo mid top p n m q : Nat) (va vb : Value) (Ra Rb : Nat → Value) (C0 : Mtx) (w : World) (h : Work w lo mid top p va vb n m q Ra Rb C0) (hC : BytM C0) (hn1 : 1 ≤ n) (hn : n ≤ 1000) (hm1 : 1 ≤ m) (hm : m ≤ 1000) (hq1 : 1 ≤ q) (hq : q ≤ 1000) (hlo : lo ≤ w.heap.size) :
    Calls Try.prog 48 #[.pointer (some ⟨p, 0, none⟩)] w fun e w' => ∃ A c t Ra' Rb' C, e = .returned (.slice A t c) ∧ Work w' lo mid top p va vb n m q Ra' Rb' C ∧ StepsTo n C0 m t C ∧ Below lo w w' := by
  obtain ⟨g, cg, rfl, _⟩ := h.ga.form (by omega)
  have hva := h.cells.1
  obtain ⟨b0, c0, e0, _⟩ := h.ga.rform (by omega) 0 (by omega)
  have z0 := (h.ga.head 0 (by omega)).1
  rw [e0] at z0
  have H := Lib.hid h
  have HC0 := Lib.hid hC
  have t0 : ((n : Int) == 0) = false := by simp; omega
  have g9 : (0 : Int) < (n : Int) := by omega
  have HLO := Lib.hid hlo
  have HPL := Lib.hid h.blk.lt
  clear h hC e0 hlo
  go_enter Try.func48, Try.ntmps48
  go_upto_region 5 with (fail)
  clear hva z0
  go_loopw [3, 4, 5, 6, 20] (fun uv _ _ _ cv wr => ∃ (t col : Nat) (C : Mtx) (Ra Rb : Nat → Value) (u : Value) (cols : List Int), uv = u ∧ cv = .int .i64 col ∧ col ≤ m ∧ t < n ∧ cols.length = t ∧ Hid (wr.ownsRow (p + 1) 3 1 u cols.length (nums .i64 cols)) ∧ Hid (Work wr lo mid top p (.slice (some ⟨g, 0, none⟩) n cg) vb n m q Ra Rb C) ∧ Hid (StepsTo n C0 col t C) ∧ Hid (Below lo w wr)) (fun _ _ _ _ cv _ => m - (intOf cv).toNat)
  case atStart => exact ⟨0, 0, C0, Ra, Rb, _, [], rfl, rfl, by omega, by omega, rfl, Lib.hid (own_nil _ _ _ _), H, Lib.hid .start, Lib.hid (Below.refl _ _)⟩
  case round =>
    clear H
    obtain ⟨t, col, C, Ra, Rb, u, cols, rfl, rfl, hcol, htn, htl, HO, HW, HS, HB⟩ := hrel
    by_cases hlt : col < m
    · obtain ⟨A3, c3, e3⟩ := own_slice HO.out
      subst e3
      rw [htl] at HO ⊢
      have g0 : (0 : Int) ≤ (col : Int) := by omega
      have g1 : (col : Int) < (m : Int) := by omega
      have PV := Lib.hid (pivot_any lo mid top p n m q t col _ vb Ra Rb C wr HW.out hn1 (by omega) (by omega) hlt)
      have HTL := Lib.hid htl
      clear htl
      go_upto_region 9 with (go_at_call 50; (with_reducible refine PV.out.mono ?_); rintro e w1 ⟨r, rfl, hp, hw⟩; obtain rfl := hw.symm; have HP := Lib.hid hp; clear hp)
      clear PV
      rcases HP.out with ⟨er, hzz⟩ | ⟨k, er, htk, hkn, hzk, hnz⟩
      · have HZ := Lib.hid hzz
        have r0 : r < 0 := by omega
        clear er hzz HP
        go_wp2
        go_roundw
        case rel => exact ⟨t, col + 1, C, Ra, Rb, _, cols, rfl, by go_num, by omega, htn, HTL.out, by rw [HTL.out]; exact HO, HW, Lib.hid (HS.out.skip HZ.out), HB⟩
        case measure => simp [intOf]; omega
      · subst er
        have HZ := Lib.hid hzk
        have HN := Lib.hid hnz
        have HBY := Lib.hid (HS.out.byt HC0.out)
        have SW := Lib.hid (swap_any lo mid top p n m q t k _ vb Ra Rb C wr HW.out (by omega) htn hkn hm1 hq1)
        have r0 : ¬ (k : Int) < 0 := by omega
        clear hzk hnz HP
        go_upto_region 11 with (go_at_call 51; (with_reducible refine SW.out.mono ?_); rintro e w1 ⟨rfl, hw1, hi1⟩; have HW1 := Lib.hid hw1; have HI1 := Lib.hid hi1; clear hw1 hi1)
        have hnz2 : swpR C t k t col ≠ 0 := by
          have : swpR C t k t col = C k col := by
            unfold swpR
            by_cases e : t = k
            · rw [if_pos e, e]
            · rw [if_neg e, if_pos rfl]
          rw [this]; exact HN.out
        obtain ⟨r, hr, hr1, CL⟩ := clear_any lo mid top p n m q t col _ vb _ _ _ w1 HW1.out (swp_byt HBY.out t k) hn htn hlt hm hq1 hq hnz2
        have hr1' : gmI (C k col) r = 1 := by
          have : swpR C t k t col = C k col := by
            unfold swpR
            by_cases e : t = k
            · rw [if_pos e, e]
            · rw [if_neg e, if_pos rfl]
          rw [← this]; exact hr1
        have HST := Lib.hid (StepsTo.step HS.out htk hkn HZ.out HN.out hr hr1')
        have HCL := Lib.hid CL
        clear CL hr hr1 hr1' hnz2 SW
        go_upto_region 12 with (go_at_call 52; (with_reducible refine HCL.out.mono ?_); rintro e w2 ⟨rfl, hw2, hi2⟩; have HW2 := Lib.hid (hw2.congr (fun i hi j _ => swp_step n C t k col r i hi j)); have HI2 := Lib.hid (HI1.out.trans hi2); clear hw2 hi2)
        have HO2 := Lib.hid (HI2.out.own HO.out (by have := HW.out.l3; omega))
        have HB2 := Lib.hid (HB.out.trans (HI2.out.below (Nat.le_trans HLO.out HB.out.size)))
        have HPS := Lib.hid HW2.out.blk.lt
        clear HCL HI1 HI2 HW1 HO HW HB
        go_upto_region 13 with (at_builtin; refine print_append_num (w0 := w2) (p + 1) rfl _ _ 69 3 .i64 8 rfl Try.underlying69 info_int (by decide) (.slice A3 t c3) cols (col : Int) rfl rfl (by rw [HTL.out]; exact HO2.out) (Below.refl _ _) (by have := HPS.out; omega) (by have := HTL.out; omega) ?_; intro v3 w3 ho hb hg _; obtain ⟨A4, c4, e4⟩ := own_slice ho; rw [show (cols ++ [(col : Int)]).length = t + 1 by have := HTL.out; simp [this]] at e4 ho; subst e4; have HO3 := Lib.hid ho; have HB3 := Lib.hid (HB2.out.trans (hb.mono (show lo ≤ p + 1 by have := HW2.out.l1; have := HW2.out.l2; have := HW2.out.l3; omega))); have HW3 := Lib.hid (HW2.out.grow HO2.out hg); clear ho hb hg)
        have hva := HW3.out.cells.1
        by_cases hfull : t + 1 = n
        · have tt : ((t : Int) + 1 == (n : Int)) = true := by simp; omega
          have HF := Lib.hid hfull
          clear hfull
          go_wp2
          go_ret
          refine ⟨A4, c4, t + 1, _, _, _, rfl, HW3.out, ?_, HB3.out⟩
          have h1 := HST.out
          have h2 := StepsTo.fill (n := n) (by rw [HF.out] at h1; exact h1) (m - (col + 1))
          rw [show col + 1 + (m - (col + 1)) = m by omega] at h2
          rw [HF.out]; exact h2
        · have tt : ((t : Int) + 1 == (n : Int)) = false := by simp; omega
          have HF := Lib.hid hfull
          clear hfull
          go_wp2
          go_roundw
          case rel => exact ⟨t + 1, col + 1, _, _, _, _, cols ++ [(col : Int)], rfl, by go_num, by omega, by have := HF.out; omega, by have := HTL.out; simp [this], by rw [show (cols ++ [(col : Int)]).length = t + 1 by have := HTL.out; simp [this]]; exact HO3, HW3, HST, HB3⟩
          case measure => simp [intOf]; omega
    · obtain rfl : col = m := by omega
      obtain ⟨A3, c3, e3⟩ := own_slice HO.out
      subst e3
      rw [htl]
      have HTL := Lib.hid htl
      clear htl
      go_wp2
      go_ret
      exact ⟨A3, c3, t, _, _, _, rfl, HW.out, HS.out, HB.out⟩
end Go.Proofs.Ytelgefkfflgbeaa.Sol
/- solve: Rank, Steps, Solve, Invert, walked. -/
namespace Go.Proofs.Ytelgefkfflgbeaa.Sol
open Go Go.RowKit Go.Proofs.Ytelgefkfflgbeaa.Gi Go.Proofs.Ytelgefkfflgbeaa.Gf Go.Proofs.Ytelgefkfflgbeaa.Mem Go.Proofs.Ytelgefkfflgbeaa.Bits Go.Proofs.Ytelgefkfflgbeaa.Rws Go.Proofs.YtelgefkfflgbeaaW.PrintWords
set_option linter.unusedVariables false

/-- Two matrices side by side. -/
def augM (m : Nat) (A B : Mtx) : Mtx := fun i j => if j < m then A i j else B i (j - m)
theorem augM_byt {m : Nat} {A B : Mtx} (hA : BytM A) (hB : BytM B) : BytM (augM m A B) := by
  intro i j
  unfold augM
  split
  · exact hA _ _
  · exact hB _ _
theorem mat_right (n m : Nat) (C : Mtx) (h1 : 1 ≤ n) (h2 : n ≤ 64) (h3 : 1 ≤ m) (h4 : m ≤ 64) : Mat.RightP (mat n m C) := by
  have e : ((mat n m C).getD 0 []).length = m := by rw [mat_get n m C 0 (by omega), line_len]
  refine ⟨by rw [mat_len]; exact h1, by rw [mat_len]; exact h2, by rw [e]; exact h3, by rw [e]; exact h4, fun l hl => ?_⟩
  obtain ⟨i, _, rfl⟩ := List.mem_map.1 hl
  rw [e, line_len]
theorem mat_bytes (n m : Nat) {C : Mtx} (h : BytM C) : Mat.AllBytes (mat n m C) := by
  intro l hl
  obtain ⟨i, _, rfl⟩ := List.mem_map.1 hl
  exact line_byt m _ (h i)
theorem of_grid (n m lo hi c : Nat) (A : Option Addr) (R : Nat → Value) (C : Mtx) (w : World) (h : Grid w lo hi (.slice A n c) n m R C) (hC : BytM C) (h1 : 1 ≤ n) (h2 : n ≤ 64) (h3 : 1 ≤ m) (h4 : m ≤ 64) :
    Calls Try.prog 33 #[.slice A n c] w fun e w' => ∃ b s cap, e = .returned (.tuple #[.pointer (some ⟨b, 0, none⟩), .int .i64 0]) ∧ Mat.MatIn w' b s n m cap (Mat.flat (mat n m C)) ∧ Below w.heap.size w w' := by
  obtain ⟨hl, hc, hC'⟩ := Kd.R_reads' h.rows
  have e : ((mat n m C).getD 0 []).length = m := by rw [mat_get n m C 0 (by omega), line_len]
  have h := Mat.of_right A c (mat n m C) w w (Below.refl _ _) hC' (mat_right n m C h1 h2 h3 h4) (mat_bytes n m hC) (by omega)
  rw [mat_len, e] at h
  refine h.mono ?_
  rintro e w' ⟨b, s, cap, rfl, hm, hb, _, _⟩
  exact ⟨b, s, cap, rfl, hm, hb⟩
theorem flat_mx (n m : Nat) (C : Mtx) (i j : Nat) (hi : i < n) (hj : j < m) : mx m (Mat.flat (mat n m C)) i j = C i j := by
  unfold mx
  rw [Mat.flat_getD m (mat n m C) (fun l hl => by obtain ⟨q, _, rfl⟩ := List.mem_map.1 hl; exact line_len _ _) i j (by rw [mat_len]; exact hi) hj, mat_get n m C i hi, line_get m _ j hj]
theorem swith_aug (v u : Value) (n m q : Nat) (xs ys : List Int) (w : World) (h : Mat.IsMat w v n m xs) (h' : Mat.IsMat w u n q ys) :
    Calls Try.prog 47 #[v, u] w fun e w' => ∃ mid top p va vb Ra Rb, e = .returned (.pointer (some ⟨p, 0, none⟩)) ∧ Work w' w.heap.size mid top p va vb n m q Ra Rb (augM m (mx m xs) (mx q ys)) ∧ Below w.heap.size w w' :=
  swith_any v u n m q xs ys w h h'
section
variable (b s cap n m : Nat) (xs : List Int) (w : World)
end
end Go.Proofs.Ytelgefkfflgbeaa.Sol
/- solve: Solve, Invert, Det, walked. -/
namespace Go.Proofs.Ytelgefkfflgbeaa.Sol
open Go Go.RowKit Go.Proofs.Ytelgefkfflgbeaa.Gi Go.Proofs.Ytelgefkfflgbeaa.Gf Go.Proofs.Ytelgefkfflgbeaa.Mem Go.Proofs.Ytelgefkfflgbeaa.Bits Go.Proofs.Ytelgefkfflgbeaa.Rws Go.Proofs.YtelgefkfflgbeaaW.PrintWords
set_option linter.unusedVariables false

/-- What Solve tells of matrices that fit. -/
def SolvePost (n q : Nat) (C0 : Mtx) (w : World) (e : Ending) (w' : World) : Prop :=
  Below w.heap.size w w' ∧ ∃ t C, StepsTo n C0 n t C ∧ ((t < n ∧ e = .returned (.tuple #[.pointer none, .int .i64 23])) ∨
    (t = n ∧ ∃ b s cap, e = .returned (.tuple #[.pointer (some ⟨b, 0, none⟩), .int .i64 0]) ∧ Mat.MatIn w' b s n q cap (Mat.flat (mat n q (fun i j => C i (n + j))))))
theorem BytM.shift {C : Mtx} (h : BytM C) (n : Nat) : BytM (fun i j => C i (n + j)) := fun i j => h i (n + j)
theorem size_b (v : Value) (r c : Nat) (xs : List Int) (w : World) (h : Mat.IsMat w v r c xs) :
    Calls Try.prog 18 #[v] w fun e w' => e = .returned (.tuple #[.int .i64 r, .int .i64 c]) ∧ Below w.heap.size w w' := by
  refine (Mat.size_any v r c xs w h).mono ?_
  rintro e w' ⟨rfl, q, rfl⟩
  exact ⟨rfl, pw_below_drewN (Below.refl _ _) q⟩
theorem size_nb (w : World) :
    Calls Try.prog 18 #[.pointer none] w fun e w' => e = .returned (.tuple #[.int .i64 0, .int .i64 0]) ∧ Below w.heap.size w w' := by
  refine (Mat.size_nil w).mono ?_
  rintro e w' ⟨rfl, q, rfl⟩
  exact ⟨rfl, pw_below_drewN (Below.refl _ _) q⟩
section
variable (b s cap b1 s1 cap1 n m k q : Nat) (xs ys : List Int) (w : World)
set_option maxRecDepth 100000 in
set_option maxHeartbeats 2000000 in
theorem solve_good (h : Mat.MatIn w b s n n cap xs) (h' : Mat.MatIn w b1 s1 n q cap1 ys) :
    Calls Try.prog 36 #[.pointer (some ⟨b, 0, none⟩), .pointer (some ⟨b1, 0, none⟩)] w (SolvePost n q (augM n (mx n xs) (mx q ys)) w) := by
  have WT := Lib.hid (fun W (hB : Below w.heap.size w W) => swith_aug _ _ n n q xs ys W ⟨b, s, cap, rfl, h.below hB⟩ ⟨b1, s1, cap1, rfl, h'.below hB⟩)
  have SA := Lib.hid (fun W (hB : Below w.heap.size w W) => size_b _ n n xs W ⟨b, s, cap, rfl, h.below hB⟩)
  have SB := Lib.hid (fun W (hB : Below w.heap.size w W) => size_b _ n q ys W ⟨b1, s1, cap1, rfl, h'.below hB⟩)
  have BY := Lib.hid (augM_byt (m := n) (mx_byt (c := n) h.byt) (mx_byt (c := q) h'.byt))
  have N1 := Lib.hid (And.intro h.r0 (show n ≤ 1000 by have := h.r1; omega))
  have M1 := N1
  have Q1 := Lib.hid (And.intro h'.c0 (show q ≤ 1000 by have := h'.c1; omega))
  have NM := Lib.hid (And.intro h.r1 h'.c1)
  have HB := Lib.hid (Below.refl w.heap.size w)
  have t1 : ((n : Int) != (n : Int)) = false := by simp
  clear h h'
  go_enter Try.func36, Try.ntmps36
  go_wp2_with (first
    | (go_at_call 18; (first | (with_reducible refine (SA.out _ HB.out).mono ?_) | (with_reducible refine (SB.out _ HB.out).mono ?_)); rintro e w0 ⟨rfl, hb⟩; have HBn := Lib.hid (HB.out.trans (hb.mono HB.out.size)); clear HB hb; have HB := HBn; clear HBn)
    | (go_at_call 47; (with_reducible refine (WT.out _ HB.out).mono ?_); rintro e w1 ⟨mid, top, p, va, vb, Ra, Rb, rfl, hw, hb⟩; have HW := Lib.hid hw; have HS := Lib.hid hb.size; have HL := Lib.hid HB.out.size; have HBn := Lib.hid (HB.out.trans (hb.mono HB.out.size)); clear HB hb; have HB := HBn; clear HBn; clear hw)
    | (go_at_call 48; (with_reducible refine (ssteps_any _ mid top p _ _ _ va vb Ra Rb _ w1 HW.out BY.out N1.out.1 N1.out.2 M1.out.1 M1.out.2 Q1.out.1 Q1.out.2 HS.out).mono ?_); rintro e w2 ⟨A2, c2, t, Ra', Rb', C, rfl, hw2, hst, hb2⟩; obtain ⟨A3, c3, e3⟩ := own_slice hw2.gb.hd; subst e3; have hvb := hw2.cells.2; have HW2 := Lib.hid hw2; have HST := Lib.hid hst; have HB3 := Lib.hid (HB.out.trans (hb2.mono HL.out)); clear HB hw2 hst hb2)
    | (go_at_call 33; (with_reducible refine (of_grid n q _ _ c3 A3 Rb' (fun i j => C i (n + j)) _ HW2.out.gb (BytM.shift (HST.out.byt BY.out) n) N1.out.1 NM.out.1 Q1.out.1 NM.out.2).mono ?_); rintro e w3 ⟨b', s', cap', rfl, hm, hb⟩; have HM := Lib.hid hm; have HB4 := Lib.hid (HB3.out.trans (hb.mono HB3.out.size)); clear hm hb))
  · go_ret2
    exact ⟨HB3.out, t, C, HST.out, .inl ⟨by omega, rfl⟩⟩
  · go_ret2
    exact ⟨HB4.out, t, C, HST.out, .inr ⟨by have := HST.out.le; omega, b', s', cap', rfl, HM.out⟩⟩
theorem solve_sizes (h : Mat.MatIn w b s n m cap xs) (h' : Mat.MatIn w b1 s1 k q cap1 ys) (hne : n ≠ m ∨ k ≠ n) :
    Calls Try.prog 36 #[.pointer (some ⟨b, 0, none⟩), .pointer (some ⟨b1, 0, none⟩)] w fun e w' => e = .returned (.tuple #[.pointer none, .int .i64 1]) ∧ Below w.heap.size w w' := by
  have SA := Lib.hid (fun W (hB : Below w.heap.size w W) => size_b _ n m xs W ⟨b, s, cap, rfl, h.below hB⟩)
  have SB := Lib.hid (fun W (hB : Below w.heap.size w W) => size_b _ k q ys W ⟨b1, s1, cap1, rfl, h'.below hB⟩)
  have HB := Lib.hid (Below.refl w.heap.size w)
  have hh : ((n : Int) != (m : Int)) = true ∨ (((n : Int) != (m : Int)) = false ∧ ((k : Int) != (n : Int)) = true) := by
    by_cases e : n = m
    · exact .inr ⟨by simp [e], by rcases hne with h | h; (· exact absurd e h); (· simp; omega)⟩
    · exact .inl (by simp; omega)
  clear h h' hne
  rcases hh with h1 | ⟨h1, h2⟩
  all_goals
    go_enter Try.func36, Try.ntmps36
    go_wp2_with (go_at_call 18; (first | (with_reducible refine (SA.out _ HB.out).mono ?_) | (with_reducible refine (SB.out _ HB.out).mono ?_)); rintro e w0 ⟨rfl, hb⟩; have HBn := Lib.hid (HB.out.trans (hb.mono HB.out.size)); clear HB hb; have HB := HBn; clear HBn)
    go_ret2
    exact ⟨rfl, HB.out⟩
theorem solve_nil (h' : Mat.MatIn w b1 s1 k q cap1 ys) :
    Calls Try.prog 36 #[.pointer none, .pointer (some ⟨b1, 0, none⟩)] w fun e w' => e = .returned (.tuple #[.pointer none, .int .i64 1]) ∧ Below w.heap.size w w' := by
  have SA := Lib.hid (fun W => size_nb W)
  have SB := Lib.hid (fun W (hB : Below w.heap.size w W) => size_b _ k q ys W ⟨b1, s1, cap1, rfl, h'.below hB⟩)
  have HB := Lib.hid (Below.refl w.heap.size w)
  clear h'
  go_enter Try.func36, Try.ntmps36
  go_wp2_with (go_at_call 18; (first | (with_reducible refine (SA.out _).mono ?_) | (with_reducible refine (SB.out _ HB.out).mono ?_)); rintro e w0 ⟨rfl, hb⟩; have HBn := Lib.hid (HB.out.trans (hb.mono HB.out.size)); clear HB hb; have HB := HBn; clear HBn)
  go_ret2
  exact ⟨rfl, HB.out⟩
theorem invert_nil :
    Calls Try.prog 20 #[.pointer none] w fun e w' => e = .returned (.tuple #[.pointer none, .int .i64 1]) ∧ Below w.heap.size w w' := by
  have SA := Lib.hid (fun W => size_nb W)
  have HB := Lib.hid (Below.refl w.heap.size w)
  go_enter Try.func20, Try.ntmps20
  go_wp2_with (go_at_call 18; (with_reducible refine (SA.out _).mono ?_); rintro e w0 ⟨rfl, hb⟩; have HBn := Lib.hid (HB.out.trans (hb.mono HB.out.size)); clear HB hb; have HB := HBn; clear HBn)
  go_ret2
  exact ⟨rfl, HB.out⟩
theorem invert_sizes (h : Mat.MatIn w b s n m cap xs) (hne : n ≠ m) :
    Calls Try.prog 20 #[.pointer (some ⟨b, 0, none⟩)] w fun e w' => e = .returned (.tuple #[.pointer none, .int .i64 1]) ∧ Below w.heap.size w w' := by
  have SA := Lib.hid (fun W (hB : Below w.heap.size w W) => size_b _ n m xs W ⟨b, s, cap, rfl, h.below hB⟩)
  have HB := Lib.hid (Below.refl w.heap.size w)
  have h1 : ((n : Int) != (m : Int)) = true := by simp; omega
  clear h hne
  go_enter Try.func20, Try.ntmps20
  go_wp2_with (go_at_call 18; (with_reducible refine (SA.out _ HB.out).mono ?_); rintro e w0 ⟨rfl, hb⟩; have HBn := Lib.hid (HB.out.trans (hb.mono HB.out.size)); clear HB hb; have HB := HBn; clear HBn)
  go_ret2
  exact ⟨rfl, HB.out⟩
theorem invert_good (h : Mat.MatIn w b s n n cap xs) :
    Calls Try.prog 20 #[.pointer (some ⟨b, 0, none⟩)] w (SolvePost n n (augM n (mx n xs) (mx n (Mat.oneTo n n))) w) := by
  have SA := Lib.hid (fun W (hB : Below w.heap.size w W) => size_b _ n n xs W ⟨b, s, cap, rfl, h.below hB⟩)
  have HH := Lib.hid (fun W (hB : Below w.heap.size w W) => h.below hB)
  have ON := Lib.hid (fun W => Mat.one_good n W h.r0 h.r1)
  have HB := Lib.hid (Below.refl w.heap.size w)
  have h1 : ((n : Int) != (n : Int)) = false := by simp
  clear h
  go_enter Try.func20, Try.ntmps20
  go_upto_region 5 with (first
    | (go_at_call 18; (with_reducible refine (SA.out _ HB.out).mono ?_); rintro e w0 ⟨rfl, hb⟩; have HBn := Lib.hid (HB.out.trans (hb.mono HB.out.size)); clear HB hb; have HB := HBn; clear HBn)
    | (go_at_call 22; (with_reducible refine (ON.out _).mono ?_); rintro e w1 ⟨b1, s1, cap1, rfl, hm, hb, _, _⟩; have HM := Lib.hid hm; have HBn := Lib.hid (HB.out.trans (hb.mono HB.out.size)); clear HB hb; have HB := HBn; clear HBn; clear hm))
  have SG := Lib.hid (solve_good b s cap b1 s1 cap1 n n xs (Mat.oneTo n n) w1 (HH.out _ HB.out) HM.out)
  go_wp2_with (go_at_call 36; (with_reducible refine SG.out.mono ?_); rintro e w2 ⟨hb, t, C, hst, hd⟩; have HST := Lib.hid hst; have HB2 := Lib.hid (HB.out.trans (hb.mono HB.out.size)); clear hst hb; rcases hd with ⟨htn, rfl⟩ | ⟨htn, b', s', cap', rfl, hm⟩)
  · go_ret2
    exact ⟨HB2.out, t, C, HST.out, .inl ⟨htn, rfl⟩⟩
  · go_ret2
    exact ⟨HB2.out, t, C, HST.out, .inr ⟨htn, b', s', cap', rfl, hm⟩⟩
end
/-- What Det comes to, column by column. -/
inductive DetTo (n : Nat) (C0 : Mtx) : Nat → Int → Mtx → Prop
  | start : DetTo n C0 0 1 C0
  | step {col k : Nat} {r d : Int} {C : Mtx} : DetTo n C0 col d C → col ≤ k → k < n → (∀ j, col ≤ j → j < k → C j col = 0) → C k col ≠ 0 → Byt r → gmI (C k col) r = 1 → DetTo n C0 (col + 1) (gmI d (C k col)) (stepI C col k col r)
theorem DetTo.byt {n : Nat} {C0 : Mtx} (h0 : BytM C0) {col : Nat} {d : Int} {C : Mtx} (h : DetTo n C0 col d C) : BytM C ∧ Byt d := by
  induction h with
  | start => exact ⟨h0, ⟨by decide, by decide⟩⟩
  | step _ _ _ _ _ hr _ ih => exact ⟨stepI_byt ih.1 hr, gmI_byt ih.2⟩
/-- What Det tells. -/
def DetPost (n : Nat) (C0 : Mtx) (d : Int) : Prop := (∃ C, DetTo n C0 n d C) ∨ (d = 0 ∧ ∃ col d' C, col < n ∧ DetTo n C0 col d' C ∧ ∀ j, col ≤ j → j < n → C j col = 0)
theorem swp_at (C : Mtx) (t k col : Nat) : swpR C t k t col = C k col := by
  unfold swpR
  by_cases e : t = k
  · rw [if_pos e, e]
  · rw [if_neg e, if_pos rfl]
section
variable (b s cap n m : Nat) (xs : List Int) (w : World)
end
end Go.Proofs.Ytelgefkfflgbeaa.Sol
/- Equations: what Solve leaves solves them; Solve and Invert, by whether all rows are needed; no program of any law. -/
namespace Go.Proofs.Ytelgefkfflgbeaa.Sol
open Go Go.RowKit Go.Proofs.Ytelgefkfflgbeaa.Gf Go.Proofs.Ytelgefkfflgbeaa.Gi Go.Proofs.Ytelgefkfflgbeaa.Alg Go.Proofs.Ytelgefkfflgbeaa.Mem Go.Proofs.Ytelgefkfflgbeaa.Rws Go.Proofs.YtelgefkfflgbeaaW.PrintWords
set_option linter.unusedVariables false

theorem StepsTo.oneFull {n : Nat} {M0 : Mtx} (h0 : BytM M0) {col t : Nat} {M : Mtx} (h : StepsTo n M0 col t M) : t = col → OneTo (el M) n col := by
  induction h with
  | start => exact fun _ i j _ hj => absurd hj (Nat.not_lt_zero j)
  | skip hs _ _ => exact fun e => absurd hs.le.1 (by omega)
  | @step col t k r M hs htk hk hz hp hr h1 ih =>
    intro e
    have e' : t = col := by omega
    subst e'
    rw [stepI_el (hs.byt h0) hr h1]
    exact stepF_one (el M) n k t (ih rfl) hk htk (of_ne (hs.byt h0 k t) hp)
/-- What Solve leaves solves the equations. -/
theorem StepsTo.eqs {n q : Nat} {A B : Mtx} (hA : BytM A) (hB : BytM B) {C : Mtx} (h : StepsTo n (augM n A B) n n C) (i : Nat) (hi : i < n) (l : Nat) (hl : l < q) :
    dotF n (el A i) (fun j => G.of (C j (n + l))) = G.of (B i l) := by
  have h0 := augM_byt (m := n) hA hB
  have ho := h.oneFull h0 rfl
  obtain ⟨c, hcn, hcl, hcz⟩ : ∃ c : Nat → G, (∀ j, j < n → c j = G.of (C j (n + l))) ∧ c (n + l) = 1 ∧ ∀ j, ¬ j < n → j ≠ n + l → c j = 0 :=
    ⟨fun j => if j < n then G.of (C j (n + l)) else if j = n + l then 1 else 0, fun j hj => by simp [hj], by simp only [if_true]; rw [if_neg (by omega)], fun j h1 h2 => by simp [h1, h2]⟩
  have hk := (h.ker (m := n + q) h0 c).1 (fun p hp => by
    unfold dotF
    rw [sum_at2 (a := p) (b := n + l) (by omega) (by omega) (by omega) (fun j _ h1 h2 => ?_)]
    · rw [hcn p hp, hcl, ho p p hp hp, if_pos rfl, Alg.one_mul, Fd.mul_one]
      exact Fd.add_self _
    · by_cases hj : j < n
      · rw [ho p j hp hj, if_neg (fun e => h1 e.symm), zero_mul]
      · rw [hcz j hj h2, mul_zero])
  have h1 := hk i hi
  unfold dotF at h1
  rw [sum_split] at h1
  have e1 : sum n (fun j => el (augM n A B) i j * c j) = dotF n (el A i) (fun j => G.of (C j (n + l))) := by
    unfold dotF
    exact sum_congr (fun j hj => by rw [hcn j hj]; unfold el augM; rw [if_pos hj])
  have e2 : sum q (fun j => el (augM n A B) i (n + j) * c (n + j)) = G.of (B i l) := by
    rw [sum_at (a := l) hl (fun j _ hne => by rw [hcz (n + j) (by omega) (by omega), mul_zero]), hcl, Fd.mul_one]
    unfold el augM
    rw [if_neg (by omega), Nat.add_sub_cancel_left]
  rw [e1, e2] at h1
  exact eq_of_add_zero h1
theorem of_dotTo {xs ys : List Int} (hx : Mat.Bytes xs) (hy : Mat.Bytes ys) : ∀ k, G.of (Mat.dotTo xs ys k) = sum k (fun j => G.of (xs.getD j 0) * G.of (ys.getD j 0))
  | 0 => rfl
  | k + 1 => by
    show G.of (xorI (Mat.dotTo xs ys k) (gmI (xs.getD k 0) (ys.getD k 0))) = _
    rw [of_xor (Mat.dotTo_range xs ys hx k) (gmI_byt (hx.getD k)), of_gm (hx.getD k) (hy.getD k), of_dotTo hx hy k]
    rfl
theorem line_bytes {m : Nat} {f : Nat → Int} (h : ∀ i, Byt (f i)) : Mat.Bytes (line m f) := line_byt m f h
theorem mat_getD_bytes {n m : Nat} {A : Mtx} (h : BytM A) (i : Nat) : Mat.Bytes ((mat n m A).getD i []) := by
  rcases Nat.lt_or_ge i n with hi | hi
  · rw [mat_get n m A i hi]; exact line_bytes (h i)
  · rw [List.getD_eq_getElem?_getD, List.getElem?_eq_none (by rw [mat_len]; exact hi)]
    intro x hx; cases hx
/-- The matrix by which a product is what it was. -/
def idM : Mtx := fun i j => if i = j then 1 else 0
theorem idM_byt : BytM idM := fun i j => by unfold idM; split; exact ⟨by decide, by decide⟩; exact byt0
theorem mx_one (n i j : Nat) (hi : i < n) (hj : j < n) : mx n (Mat.oneTo n n) i j = idM i j := by
  unfold mx idM
  rw [Mat.oneTo_get n n (Nat.le_refl _) i j hi hj]
  by_cases e : i = j
  · rw [if_pos ⟨e, hi⟩, if_pos e]
  · rw [if_neg (fun h => e h.1), if_neg e]
theorem inv_ex {a : Int} (ha : Byt a) (h : a ≠ 0) : ∃ r, Byt r ∧ gmI a r = 1 := by
  obtain ⟨x, hx, rfl⟩ := byt_nat ha
  exact ⟨((ginv x : Nat) : Int), by have := ginv_lt x hx; exact ⟨by omega, by omega⟩, by simp only [gmI, Int.toNat_natCast]; rw [gm_inv x hx (by omega)]; rfl⟩
theorem least_of (P : Nat → Prop) : ∀ m, (∃ k, k < m ∧ P k) → ∃ k, k < m ∧ P k ∧ ∀ j, j < k → ¬ P j
  | 0, ⟨k, hk, _⟩ => by omega
  | m + 1, ⟨k, hk, h⟩ => by
    by_cases hm : ∃ k, k < m ∧ P k
    · obtain ⟨k, hk, h, hl⟩ := least_of P m hm
      exact ⟨k, by omega, h, hl⟩
    · have : k = m := by
        rcases Nat.lt_or_ge k m with h' | h'
        · exact absurd ⟨k, h', h⟩ hm
        · omega
      subst this
      exact ⟨k, by omega, h, fun j hj hp => hm ⟨j, hj, hp⟩⟩
/-- Steps always comes to something. -/
theorem StepsTo.ex (n : Nat) {M0 : Mtx} (h0 : BytM M0) : ∀ col, ∃ t M, StepsTo n M0 col t M
  | 0 => ⟨0, M0, .start⟩
  | col + 1 => by
    obtain ⟨t, M, h⟩ := StepsTo.ex n h0 col
    by_cases hx : ∃ k, k < n ∧ (t ≤ k ∧ M k col ≠ 0)
    · obtain ⟨k, hk, ⟨h1, h2⟩, hl⟩ := least_of _ _ hx
      obtain ⟨r, hr, hr1⟩ := inv_ex (h.byt h0 k col) h2
      exact ⟨t + 1, _, .step h h1 hk (fun j h3 h4 => by
        rcases Int.decEq (M j col) 0 with e | e
        · exact absurd ⟨h3, e⟩ (hl j h4)
        · exact e) h2 hr hr1⟩
    · exact ⟨t, M, .skip h (fun j h3 h4 => by
        rcases Int.decEq (M j col) 0 with e | e
        · exact absurd ⟨j, h4, h3, e⟩ hx
        · exact e)⟩
theorem mat_mx (n m : Nat) (C : Mtx) : mat n m (mx m (Mat.flat (mat n m C))) = mat n m C := mat_congr n m _ _ (fun i hi j hj => flat_mx n m C i j hi hj)
/-- A matrix of bytes that solves. -/
def Solved (n q : Nat) (A B Z : Mtx) : Prop := BytM Z ∧ ∀ i, i < n → ∀ l, l < q → dotF n (el A i) (fun j => G.of (Z j l)) = G.of (B i l)
/-- A pointer to a matrix that solves. -/
def SolvesE (n q : Nat) (A B : Mtx) (w : World) (e : Ending) (w' : World) : Prop :=
  ∃ b s cap Z, e = .returned (.tuple #[.pointer (some ⟨b, 0, none⟩), .int .i64 0]) ∧ Mat.MatIn w' b s n q cap (Mat.flat (mat n q Z)) ∧ Solved n q A B Z ∧ Below w.heap.size w w'
section
variable (b s cap b1 s1 cap1 n q t0 : Nat) (A B C0 : Mtx) (w : World)
theorem post_wholeE {e : Ending} {w' : World} {B2 : Mtx} (hA : BytM A) (hM : Mat.Bytes (Mat.flat (mat n n A))) (hB2 : BytM B2) (hst : StepsTo n A n t0 C0) (ht : t0 = n) (h : SolvePost n q (augM n (mx n (Mat.flat (mat n n A))) B2) w e w')
    (he : ∀ i, i < n → ∀ l, l < q → B2 i l = B i l) : SolvesE n q A B w e w' := by
  obtain ⟨hb, t, C, hs, hd⟩ := h
  have hx := augM_byt (m := n) (mx_byt (c := n) hM) hB2
  have hsame := (StepsTo.same (m := n) hx hA (fun i hi j hj => by unfold augM; rw [if_pos hj, flat_mx n n A i j hi hj]) hs hst (Nat.le_refl n)).1
  rcases hd with ⟨h1, _⟩ | ⟨h1, b', s', cap', rfl, hm⟩
  · omega
  · subst h1
    refine ⟨b', s', cap', _, rfl, hm, ⟨fun i j => hs.byt hx i (t + j), fun i hi l hl => ?_⟩, hb⟩
    rw [← he i hi l hl, ← hs.eqs (q := q) (mx_byt (c := t) hM) hB2 i hi l hl]
    unfold dotF
    exact sum_congr (fun j hj => by unfold el; rw [flat_mx t t A i j hi hj])
theorem post_sing {e : Ending} {w' : World} {B2 : Mtx} (hA : BytM A) (hM : Mat.Bytes (Mat.flat (mat n n A))) (hB2 : BytM B2) (hst : StepsTo n A n t0 C0) (ht : t0 < n) (h : SolvePost n q (augM n (mx n (Mat.flat (mat n n A))) B2) w e w') :
    e = .returned (.tuple #[.pointer none, .int .i64 23]) ∧ Below w.heap.size w w' := by
  obtain ⟨hb, t, C, hs, hd⟩ := h
  have hx := augM_byt (m := n) (mx_byt (c := n) hM) hB2
  have hsame := (StepsTo.same (m := n) hx hA (fun i hi j hj => by unfold augM; rw [if_pos hj, flat_mx n n A i j hi hj]) hs hst (Nat.le_refl n)).1
  rcases hd with ⟨h1, he⟩ | ⟨h1, _⟩
  · exact ⟨he, hb⟩
  · omega
theorem solve_wholeE (h : Mat.MatIn w b s n n cap (Mat.flat (mat n n A))) (h' : Mat.MatIn w b1 s1 n q cap1 (Mat.flat (mat n q B))) (hA : BytM A) (hst : StepsTo n A n t0 C0) (ht : t0 = n) :
    Calls Try.prog 36 #[.pointer (some ⟨b, 0, none⟩), .pointer (some ⟨b1, 0, none⟩)] w (SolvesE n q A B w) :=
  (solve_good b s cap b1 s1 cap1 n q _ _ w h h').mono fun e w' hp => post_wholeE n q t0 A B C0 w hA h.byt (mx_byt h'.byt) hst ht hp (fun i hi l hl => flat_mx n q B i l hi hl)
theorem solve_sing (h : Mat.MatIn w b s n n cap (Mat.flat (mat n n A))) (h' : Mat.MatIn w b1 s1 n q cap1 (Mat.flat (mat n q B))) (hA : BytM A) (hst : StepsTo n A n t0 C0) (ht : t0 < n) :
    Calls Try.prog 36 #[.pointer (some ⟨b, 0, none⟩), .pointer (some ⟨b1, 0, none⟩)] w fun e w' => e = .returned (.tuple #[.pointer none, .int .i64 23]) ∧ Below w.heap.size w w' :=
  (solve_good b s cap b1 s1 cap1 n q _ _ w h h').mono fun e w' hp => post_sing n q t0 A C0 w hA h.byt (mx_byt h'.byt) hst ht hp
theorem oneTo_bytes (n : Nat) : Mat.Bytes (Mat.oneTo n n) := by
  have h : ∀ k, Mat.Bytes (Mat.oneTo n k) := by
    intro k
    induction k with
    | zero => exact Mat.Bytes.zeros _
    | succ k ih => exact ih.set _ 1 (by decide) (by decide)
  exact h n
theorem invert_wholeE (h : Mat.MatIn w b s n n cap (Mat.flat (mat n n A))) (hA : BytM A) (hst : StepsTo n A n t0 C0) (ht : t0 = n) :
    Calls Try.prog 20 #[.pointer (some ⟨b, 0, none⟩)] w (SolvesE n n A idM w) :=
  (invert_good b s cap n _ w h).mono fun e w' hp => post_wholeE n n t0 A idM C0 w hA h.byt (mx_byt (oneTo_bytes n)) hst ht hp (fun i hi l hl => mx_one n i l hi hl)
theorem invert_sing (h : Mat.MatIn w b s n n cap (Mat.flat (mat n n A))) (hA : BytM A) (hst : StepsTo n A n t0 C0) (ht : t0 < n) :
    Calls Try.prog 20 #[.pointer (some ⟨b, 0, none⟩)] w fun e w' => e = .returned (.tuple #[.pointer none, .int .i64 23]) ∧ Below w.heap.size w w' :=
  (invert_good b s cap n _ w h).mono fun e w' hp => post_sing n n t0 A C0 w hA h.byt (mx_byt (oneTo_bytes n)) hst ht hp
end
end Go.Proofs.Ytelgefkfflgbeaa.Sol
/- The statement VandWhole: powers of unlike elements make a matrix that has an inverse. -/
namespace Go.Proofs.Ytelgefkfflgbeaa.Sol
open Go Go.RowKit Go.Proofs.Ytelgefkfflgbeaa.Gi Go.Proofs.Ytelgefkfflgbeaa.Gf Go.Proofs.Ytelgefkfflgbeaa.Alg Go.Proofs.Ytelgefkfflgbeaa.Mem Go.Proofs.Ytelgefkfflgbeaa.Bits Go.Proofs.Ytelgefkfflgbeaa.Rws Go.Proofs.YtelgefkfflgbeaaW.PrintWords
set_option linter.unusedVariables false

/-- The points, as numbers; their powers. -/
def ptsF (ps : List Int) : Nat → Nat := fun i => (ps.getD i 0).toNat
def powM (f : Nat → Nat) : Mtx := fun i j => ((gp (f i) j : Nat) : Int)
theorem ptsF_lt {ps : List Int} (hb : Mat.Bytes ps) (i : Nat) : ptsF ps i < 256 := by
  have := hb.getD i
  unfold ptsF; omega
theorem powM_byt {f : Nat → Nat} (hf : ∀ i, f i < 256) : BytM (powM f) := fun i j => by
  have := gp_lt (f i) (hf i) j
  exact ⟨by unfold powM; omega, by unfold powM; omega⟩
theorem rowsL_mat (f : Nat → Nat) (n m : Nat) : VRows.rowsL f m n = mat n m (powM f) := rfl
/-- Powers of unlike elements need all rows. -/
theorem powM_full {f : Nat → Nat} {n : Nat} (hf : ∀ i, f i < 256) (hd : ¬ VRows.Dup f n) {t : Nat} {C : Mtx} (h : StepsTo n (powM f) n t C) : t = n := by
  have hinj : ∀ i j, i < n → j < n → f i = f j → i = j := by
    intro i j hi hj e
    rcases Nat.lt_trichotomy i j with h1 | h1 | h1
    · exact absurd ⟨j, hj, (VRows.hit_iff f (f j) j).2 ⟨i, h1, e⟩⟩ hd
    · exact h1
    · exact absurd ⟨i, hi, (VRows.hit_iff f (f i) i).2 ⟨j, h1, e.symm⟩⟩ hd
  have := (h.one (powM_byt hf) (powers_inj n (fun i => G.of ((f i : Nat) : Int)) (fun i j hi hj e => hinj i j hi hj (by
    have := G.of_inj (x := ((f i : Nat) : Int)) (y := ((f j : Nat) : Int)) ⟨by omega, by have := hf i; omega⟩ ⟨by omega, by have := hf j; omega⟩ e
    omega)) (el (powM f)) (fun i j hi hj => of_gp (f i) j (hf i)))).1
  rw [this, Nat.min_self]
section
variable (A : Option Addr) (c0 : Nat) (ps : List Int) (n : Nat) (w : World)
theorem vw_matrix (W : World) (hB : Below w.heap.size w W) (hr : ReadsInt w .u8 A ps.length ps) (hb : Mat.Bytes ps) (e : ps.length = n) (h1 : 1 ≤ n) (h2 : n ≤ 16) (hd : ¬ VRows.Dup (ptsF ps) n) :
    Calls Try.prog 17 #[.slice A n c0, .int .i64 n] W fun e w' => ∃ b s cap, e = .returned (.tuple #[.pointer (some ⟨b, 0, none⟩), .int .i64 0]) ∧ Mat.MatIn w' b s n n cap (Mat.flat (mat n n (powM (ptsF ps)))) ∧ Below W.heap.size W w' := by
  subst e
  have h := VRows.matrix_yes A c0 ps (ps.length : Int) w W hB hr hb (by omega) ⟨h1, by omega, by omega, by omega⟩ hd
  rw [Int.toNat_natCast, show VRows.rowsL (fun i => (ps.getD i 0).toNat) ps.length ps.length = mat ps.length ps.length (powM (ptsF ps)) from rfl] at h
  exact h
/-- A product that solves is One. -/
theorem vw_one {M Z : Mtx} (hM : BytM M) (h : Solved n n M idM Z) : Mat.prodL n n n (Mat.flat (mat n n M)) (Mat.flat (mat n n Z)) = Mat.oneTo n n := by
  have bM := Mat.flat_bytes (mat_bytes n n hM)
  have bZ := Mat.flat_bytes (mat_bytes n n h.1)
  refine Mat.mat_ext_el (r := n) (c := n) (Mat.prodL_bytes _ _ _ _ _ bM) (oneTo_bytes n) (Mat.prodL_len _ _ _ _ _) (Mat.oneTo_len n n) (fun i k hi hk => ?_)
  rw [Mat.el_prodL n n n _ _ bM bZ i k hi hk]
  have e1 : Mat.el n (Mat.oneTo n n) i k = G.of (idM i k) := by
    have := mx_one n i k hi hk
    unfold mx at this
    unfold Mat.el
    rw [this]
  rw [e1, ← h.2 i hi k hk]
  unfold dotF
  refine sum_congr (fun j hj => ?_)
  have e2 := flat_mx n n M i j hi hj
  have e3 := flat_mx n n Z j k hj hk
  unfold mx at e2 e3
  unfold Mat.el
  rw [e2, e3]
  rfl
theorem vw_mul (b s cap b' s' cap' : Nat) {M Z : Mtx} (hM : BytM M) (h : Solved n n M idM Z) (hm : Mat.MatIn w b s n n cap (Mat.flat (mat n n M))) (hz : Mat.MatIn w b' s' n n cap' (Mat.flat (mat n n Z))) :
    Calls Try.prog 21 #[.pointer (some ⟨b, 0, none⟩), .pointer (some ⟨b', 0, none⟩)] w fun e w' => ∃ b s cap, e = .returned (.tuple #[.pointer (some ⟨b, 0, none⟩), .int .i64 0]) ∧ Mat.MatIn w' b s n n cap (Mat.oneTo n n) ∧ Below w.heap.size w w' := by
  refine (Mat.mul_goodP _ _ n n n _ _ w ⟨b, s, cap, rfl, hm⟩ ⟨b', s', cap', rfl, hz⟩).mono ?_
  rintro e w' ⟨b1, s1, cap1, rfl, hp, hb, _⟩
  rw [vw_one n hM h] at hp
  exact ⟨b1, s1, cap1, rfl, hp, hb⟩
theorem vw_same (b s cap b' s' cap' : Nat) (xs : List Int) (hm : Mat.MatIn w b s n n cap xs) (hz : Mat.MatIn w b' s' n n cap' xs) :
    Calls Try.prog 23 #[.pointer (some ⟨b, 0, none⟩), .pointer (some ⟨b', 0, none⟩)] w fun e w' => e = .returned (.bool true) ∧ Below w.heap.size w w' := by
  refine (Mat.same_any _ _ n n n n xs xs w ⟨b, s, cap, rfl, hm⟩ ⟨b', s', cap', rfl, hz⟩).mono ?_
  rintro e w' ⟨rfl, q, rfl⟩
  exact ⟨by simp [Mat.AlikeB], pw_below_drewN (Below.refl _ _) q⟩
theorem vw_onec (h1 : 1 ≤ n) (h2 : n ≤ 64) :
    Calls Try.prog 22 #[.int .i64 n] w fun e w' => ∃ b s cap, e = .returned (.tuple #[.pointer (some ⟨b, 0, none⟩), .int .i64 0]) ∧ Mat.MatIn w' b s n n cap (Mat.oneTo n n) ∧ Below w.heap.size w w' :=
  (Mat.one_good n w h1 h2).mono fun e w' ⟨b, s, cap, he, hm, hb, _⟩ => ⟨b, s, cap, he, hm, hb⟩
theorem vw_twice (W : World) (t : Bool) (hB : Below w.heap.size w W) (hr : ReadsInt w .u8 A ps.length ps) (hl : ps.length ≤ c0) (hb : Mat.Bytes ps) (hm : ps.length ≤ 100) (e : ps.length = n) (ht : t = true ↔ VRows.Dup (ptsF ps) n) :
    Calls Try.prog 13 #[.slice A n c0] W fun e w' => e = .returned (.bool t) ∧ Below W.heap.size W w' := by
  subst e
  have hfp : ∀ i, ps.getD i 0 = ((ptsF ps i : Nat) : Int) := fun i => by have := hb.getD i; unfold ptsF; omega
  refine VRows.twice_calls A c0 ps t w W hB hr hl ?_
  by_cases hd : VRows.Dup (ptsF ps) ps.length
  · rw [ht.2 hd]; exact VRows.twice_t ps (ptsF ps) hfp hm hd
  · rw [show t = false from by cases t; rfl; exact absurd (ht.1 rfl) hd]; exact VRows.twice_n ps (ptsF ps) hfp hm hd
set_option maxRecDepth 100000 in
theorem vw_many (h : n < 1 ∨ 16 < n) :
    Calls Try.prog 6 #[.slice A n c0] w fun e w' => e = .returned (.bool true) ∧ Below w.heap.size w w' := by
  have HB := Lib.hid (Below.refl w.heap.size w)
  rcases Nat.lt_or_ge n 1 with hn | hn
  · have h1 : (n : Int) < (1 : Int) := by omega
    clear h hn
    go_enter Try.func6, Try.ntmps6
    go_wp2_with ((go_at_call 8; (with_reducible refine (VPts.awake_calls _).mono ?_); rintro e w9 ⟨rfl, hb⟩; have HB9 := Lib.hid (HB.out.trans (hb.mono HB.out.size)); clear hb))
    go_ret
    exact ⟨rfl, HB9.out⟩
  · have h1 : ¬ (n : Int) < (1 : Int) := by omega
    have h2 : (16 : Int) < (n : Int) := by omega
    clear h hn
    go_enter Try.func6, Try.ntmps6
    go_wp2_with ((go_at_call 8; (with_reducible refine (VPts.awake_calls _).mono ?_); rintro e w9 ⟨rfl, hb⟩; have HB9 := Lib.hid (HB.out.trans (hb.mono HB.out.size)); clear hb))
    go_ret
    exact ⟨rfl, HB9.out⟩
set_option maxRecDepth 100000 in
theorem vw_dup (h1 : 1 ≤ n) (h2 : n ≤ 16) (hr : ReadsInt w .u8 A ps.length ps) (hl : ps.length ≤ c0) (hb : Mat.Bytes ps) (e : ps.length = n) (hd : VRows.Dup (ptsF ps) n) :
    Calls Try.prog 6 #[.slice A n c0] w fun e w' => e = .returned (.bool true) ∧ Below w.heap.size w w' := by
  have HB := Lib.hid (Below.refl w.heap.size w)
  have TW := Lib.hid (fun W hB => vw_twice A c0 ps n w W true hB hr hl hb (by omega) e ⟨fun _ => hd, fun _ => rfl⟩)
  have h1 : ¬ (n : Int) < (1 : Int) := by omega
  have h2 : ¬ (16 : Int) < (n : Int) := by omega
  clear hr hl hb e hd
  go_enter Try.func6, Try.ntmps6
  go_wp2_with (first
    | (go_at_call 13; (with_reducible refine (TW.out _ HB.out).mono ?_); rintro e w1 ⟨rfl, hb⟩; (try replace HM := Lib.hid (HM.out.below hb)); (try replace HZ := Lib.hid (HZ.out.below hb)); (try replace HP := Lib.hid (HP.out.below hb)); (try replace HO := Lib.hid (HO.out.below hb)); replace HB := Lib.hid (HB.out.trans (hb.mono HB.out.size)); clear hb)
    | (go_at_call 8; (with_reducible refine (VPts.awake_calls _).mono ?_); rintro e w9 ⟨rfl, hb⟩; have HB9 := Lib.hid (HB.out.trans (hb.mono HB.out.size)); clear hb))
  go_ret
  exact ⟨rfl, HB9.out⟩
set_option maxRecDepth 100000 in
set_option maxHeartbeats 2000000 in
theorem vw_yes (h1 : 1 ≤ n) (h2 : n ≤ 16) (hr : ReadsInt w .u8 A ps.length ps) (hl : ps.length ≤ c0) (hb : Mat.Bytes ps) (e : ps.length = n) (hd : ¬ VRows.Dup (ptsF ps) n) :
    Calls Try.prog 6 #[.slice A n c0] w fun e w' => e = .returned (.bool true) ∧ Below w.heap.size w w' := by
  have HB := Lib.hid (Below.refl w.heap.size w)
  have TW := Lib.hid (fun W hB => vw_twice A c0 ps n w W false hB hr hl hb (by omega) e ⟨fun h => (by cases h), fun h => absurd h hd⟩)
  have MX := Lib.hid (fun W hB => vw_matrix A c0 ps n w W hB hr hb e h1 h2 hd)
  have HV := Lib.hid (powM_byt (ptsF_lt hb))
  obtain ⟨t0, C0, hst⟩ := StepsTo.ex n HV.out n
  have HST := Lib.hid hst
  have HT := Lib.hid (powM_full (ptsF_lt hb) hd hst)
  have ON := Lib.hid (fun W => vw_onec n W h1 (Nat.le_trans h2 (by decide)))
  obtain ⟨M, hM⟩ : ∃ M : Mtx, M = powM (ptsF ps) := ⟨_, rfl⟩
  rw [← hM] at MX HV HST hst
  have h1 : ¬ (n : Int) < (1 : Int) := by omega
  have h2 : ¬ (16 : Int) < (n : Int) := by omega
  clear hr hl hb e hd hst hM
  go_enter Try.func6, Try.ntmps6
  go_wp2_with (first
    | (go_at_call 13; (with_reducible refine (TW.out _ HB.out).mono ?_); rintro e w1 ⟨rfl, hb⟩; (try replace HM := Lib.hid (HM.out.below hb)); (try replace HZ := Lib.hid (HZ.out.below hb)); (try replace HP := Lib.hid (HP.out.below hb)); (try replace HO := Lib.hid (HO.out.below hb)); replace HB := Lib.hid (HB.out.trans (hb.mono HB.out.size)); clear hb)
    | (go_at_call 17; (with_reducible refine (MX.out _ HB.out).mono ?_); rintro e w2 ⟨b, s, cap, rfl, hm, hb⟩; (try replace HM := Lib.hid (HM.out.below hb)); (try replace HZ := Lib.hid (HZ.out.below hb)); (try replace HP := Lib.hid (HP.out.below hb)); (try replace HO := Lib.hid (HO.out.below hb)); replace HB := Lib.hid (HB.out.trans (hb.mono HB.out.size)); clear hb; have HM := Lib.hid hm; clear hm)
    | (go_at_call 20; (with_reducible refine (invert_wholeE b s cap n t0 M C0 _ HM.out HV.out HST.out HT.out).mono ?_); rintro e w3 ⟨bz, sz, capz, Z, rfl, hm, hs, hb⟩; (try replace HM := Lib.hid (HM.out.below hb)); (try replace HZ := Lib.hid (HZ.out.below hb)); (try replace HP := Lib.hid (HP.out.below hb)); (try replace HO := Lib.hid (HO.out.below hb)); replace HB := Lib.hid (HB.out.trans (hb.mono HB.out.size)); clear hb; have HZ := Lib.hid hm; have HS := Lib.hid hs; clear hm hs)
    | (go_at_call 21; (with_reducible refine (vw_mul n _ b s cap bz sz capz HV.out HS.out HM.out HZ.out).mono ?_); rintro e w4 ⟨bp, sp, capp, rfl, hm, hb⟩; (try replace HM := Lib.hid (HM.out.below hb)); (try replace HZ := Lib.hid (HZ.out.below hb)); (try replace HP := Lib.hid (HP.out.below hb)); (try replace HO := Lib.hid (HO.out.below hb)); replace HB := Lib.hid (HB.out.trans (hb.mono HB.out.size)); clear hb; have HP := Lib.hid hm; clear hm)
    | (go_at_call 22; (with_reducible refine (ON.out _).mono ?_); rintro e w5 ⟨bo, so, capo, rfl, hm, hb⟩; (try replace HM := Lib.hid (HM.out.below hb)); (try replace HZ := Lib.hid (HZ.out.below hb)); (try replace HP := Lib.hid (HP.out.below hb)); (try replace HO := Lib.hid (HO.out.below hb)); replace HB := Lib.hid (HB.out.trans (hb.mono HB.out.size)); clear hb; have HO := Lib.hid hm; clear hm)
    | (go_at_call 23; (with_reducible refine (vw_same n _ bp sp capp bo so capo _ HP.out HO.out).mono ?_); rintro e w6 ⟨rfl, hb⟩; (try replace HM := Lib.hid (HM.out.below hb)); (try replace HZ := Lib.hid (HZ.out.below hb)); (try replace HP := Lib.hid (HP.out.below hb)); (try replace HO := Lib.hid (HO.out.below hb)); replace HB := Lib.hid (HB.out.trans (hb.mono HB.out.size)); clear hb)
    | (go_at_call 8; (with_reducible refine (VPts.awake_calls _).mono ?_); rintro e w9 ⟨rfl, hb⟩; have HB9 := Lib.hid (HB.out.trans (hb.mono HB.out.size)); clear hb))
  go_ret
  exact ⟨rfl, HB9.out⟩
end
theorem vw_row {W : World} (A : Option Addr) (c0 : Nat) (ps : List Int) (hr : ReadsInt W .u8 A ps.length ps) (hw : ∀ z ∈ ps, (Lit.int .u8 z).wf = true) (hl : ps.length ≤ c0) (_ : ps.length * 1 ≤ reachBytes) (_ : World) :
    Calls Try.prog 6 #[.slice A ps.length c0] W fun e w' => e = .returned (.bool true) ∧ Below W.heap.size W w' := by
  have hb : Mat.Bytes ps := fun z hz => by
    have := hw z hz
    simp [Lit.wf, IntKind.min, IntKind.max, IntKind.signed, IntKind.bits] at this
    omega
  obtain ⟨n, e⟩ : ∃ n, ps.length = n := ⟨_, rfl⟩
  by_cases h : 1 ≤ n ∧ n ≤ 16
  · by_cases hd : VRows.Dup (ptsF ps) n
    · have := vw_dup A c0 ps n W h.1 h.2 hr hl hb e hd
      rw [e]; exact this
    · have := vw_yes A c0 ps n W h.1 h.2 hr hl hb e hd
      rw [e]; exact this
  · rw [e]
    exact vw_many A c0 n W (by omega)
end Go.Proofs.Ytelgefkfflgbeaa.Sol
