/- Matrices as lists of bytes: what their products and turnings come to, in the field. -/
import Derived.Test.YtdhhkkhimcpaoaaGF
import Derived.Test.YtdhhkkhimcpaoaaMat7
namespace Go.Proofs.Ytdhhkkhimcpaoaa.Mat
open Go Go.RowKit Go.Proofs.Ytdhhkkhimcpaoaa.Alg Go.Proofs.Ytdhhkkhimcpaoaa.Gf

/-- The element at a place. -/
def el (c : Nat) (xs : List Int) (i k : Nat) : G := G.of (xs.getD (i * c + k) 0)

theorem getD_range {xs : List Int} (h : Bytes xs) (n : Nat) : 0 ≤ xs.getD n 0 ∧ xs.getD n 0 < 256 := h.getD n
theorem el_int {xs : List Int} (h : Bytes xs) (c i k : Nat) : (el c xs i k).int = xs.getD (i * c + k) 0 := G.int_of _ (h.getD _)
theorem xorI_G {a b : Int} (ha : 0 ≤ a ∧ a < 256) (hb : 0 ≤ b ∧ b < 256) : xorI a b = (G.of a + G.of b).int := by
  have e1 : a.toNat % 256 = a.toNat := by omega
  have e2 : b.toNat % 256 = b.toNat := by omega
  show ((a.toNat ^^^ b.toNat : Nat) : Int) = ((a.toNat % 256 ^^^ b.toNat % 256 : Nat) : Int)
  rw [e1, e2]
theorem gmI_G {a b : Int} (ha : 0 ≤ a ∧ a < 256) (hb : 0 ≤ b ∧ b < 256) : gmI a b = (G.of a * G.of b).int := by
  have e1 : a.toNat % 256 = a.toNat := by omega
  have e2 : b.toNat % 256 = b.toNat := by omega
  show ((gm a.toNat b.toNat : Nat) : Int) = ((gm (a.toNat % 256) (b.toNat % 256) : Nat) : Int)
  rw [e1, e2]
theorem dotTo_G {xs ys : List Int} (hx : Bytes xs) (hy : Bytes ys) (n : Nat) : dotTo xs ys n = (sum n (fun j => G.of (xs.getD j 0) * G.of (ys.getD j 0))).int := by
  induction n with
  | zero => rfl
  | succ n ih =>
    rw [dotTo, ih, gmI_G (hx.getD n) (hy.getD n), xorI_G (G.int_range _) (G.int_range _), G.of_int, G.of_int]
    rfl

theorem rowOf_get {c : Nat} {xs : List Int} (i j : Nat) (hj : j < c) : (rowOf c xs i).getD j 0 = xs.getD (i * c + j) 0 := by
  unfold rowOf
  rw [List.getD_eq_getElem?_getD, List.getD_eq_getElem?_getD, List.getElem?_drop, List.getElem?_take_of_lt (by rw [Nat.add_mul]; omega)]

theorem fillRow_len (c : Nat) (f : Nat → Nat → Int) (i : Nat) (ys : List Int) : ∀ k, (fillRow c f i k ys).length = ys.length
  | 0 => rfl
  | k + 1 => by rw [fillRow, List.length_set, fillRow_len c f i ys k]
theorem fillTo_len (r c : Nat) (f : Nat → Nat → Int) : ∀ i, (fillTo r c f i).length = r * c
  | 0 => by simp [fillTo]
  | i + 1 => by rw [fillTo, fillRow_len, fillTo_len r c f i]
theorem fillRow_get (c : Nat) (f : Nat → Nat → Int) (i : Nat) (ys : List Int) (k : Nat) (hi : i * c + c ≤ ys.length) : k ≤ c → ∀ n, (fillRow c f i k ys).getD n 0 = if i * c ≤ n ∧ n < i * c + k then f i (n - i * c) else ys.getD n 0 := by
  induction k with
  | zero => intro _ n; rw [if_neg (by omega)]; rfl
  | succ k ih =>
    intro hk n
    rw [fillRow, List.getD_eq_getElem?_getD, List.getElem?_set]
    by_cases e : i * c + k = n
    · subst e
      rw [if_pos rfl, if_pos (by rw [fillRow_len]; omega), if_pos (by omega)]
      simp
    · rw [if_neg e, ← List.getD_eq_getElem?_getD, ih (by omega)]
      by_cases h1 : i * c ≤ n ∧ n < i * c + k
      · rw [if_pos h1, if_pos (by omega)]
      · rw [if_neg h1, if_neg (by omega)]
theorem fillTo_get (r c : Nat) (f : Nat → Nat → Int) (m : Nat) (hm : m ≤ r) : ∀ i k, i < m → k < c → (fillTo r c f m).getD (i * c + k) 0 = f i k := by
  induction m with
  | zero => intro i k hi; omega
  | succ m ih =>
    intro i k hi hk
    have hle : m * c + c ≤ r * c := by
      have : (m + 1) * c ≤ r * c := Nat.mul_le_mul_right c hm
      rwa [Nat.add_mul, Nat.one_mul] at this
    rw [fillTo, fillRow_get _ _ _ _ _ (by rw [fillTo_len]; exact hle) (Nat.le_refl _)]
    by_cases e : i = m
    · subst e
      rw [if_pos (by omega)]
      congr 1; omega
    · have h1 : (i + 1) * c ≤ m * c := Nat.mul_le_mul_right c (by omega)
      rw [Nat.add_mul, Nat.one_mul] at h1
      rw [if_neg (by omega)]
      exact ih (by omega) i k (by omega) hk

theorem turnRow_get (r c : Nat) (xs : List Int) (i : Nat) (ys : List Int) (hi : i < r) (k : Nat) (hl : ys.length = r * c) : k ≤ c → ∀ j l, j < r → l < c →
    (turnRow r c xs i k ys).getD (l * r + j) 0 = if j = i ∧ l < k then xs.getD (i * c + l) 0 else ys.getD (l * r + j) 0 := by
  induction k with
  | zero => intro _ j l _ _; rw [if_neg (by omega)]; rfl
  | succ k ih =>
    intro hk j l hj hl'
    rw [turnRow, List.getD_eq_getElem?_getD, List.getElem?_set]
    have hkr : k * r + i < c * r := by
      have : (k + 1) * r ≤ c * r := Nat.mul_le_mul_right r (by omega)
      rw [Nat.add_mul] at this; omega
    by_cases e : k * r + i = l * r + j
    · have e2 : k = l ∧ i = j := by
        have h1 : (k * r + i) / r = k := by rw [Nat.mul_comm, Nat.mul_add_div (by omega), Nat.div_eq_of_lt hi]; omega
        have h2 : (l * r + j) / r = l := by rw [Nat.mul_comm, Nat.mul_add_div (by omega), Nat.div_eq_of_lt hj]; omega
        have : k = l := by rw [← h1, e, h2]
        subst this
        exact ⟨rfl, by omega⟩
      obtain ⟨rfl, rfl⟩ := e2
      rw [if_pos rfl, if_pos (by rw [turnRow_len, hl, Nat.mul_comm r c]; exact hkr), if_pos (by omega)]
      simp
    · rw [if_neg e, ← List.getD_eq_getElem?_getD, ih (by omega) j l hj hl']
      by_cases h1 : j = i ∧ l < k
      · rw [if_pos h1, if_pos (by omega)]
      · rw [if_neg h1]
        by_cases h2 : j = i ∧ l < k + 1
        · exfalso
          obtain ⟨rfl, h3⟩ := h2
          have : l = k := by
            by_cases h4 : l < k
            · exact absurd ⟨rfl, h4⟩ h1
            · omega
          subst this
          exact e rfl
        · rw [if_neg h2]
theorem turnTo_len (r c : Nat) (xs : List Int) : ∀ i, (turnTo r c xs i).length = r * c
  | 0 => by simp [turnTo]
  | i + 1 => by rw [turnTo, turnRow_len, turnTo_len r c xs i]
theorem turnTo_get (r c : Nat) (xs : List Int) (m : Nat) (hm : m ≤ r) : ∀ j l, j < m → l < c → (turnTo r c xs m).getD (l * r + j) 0 = xs.getD (j * c + l) 0 := by
  induction m with
  | zero => intro j l h; omega
  | succ m ih =>
    intro j l hj hl
    rw [turnTo, turnRow_get r c xs m _ (by omega) c (turnTo_len r c xs m) (Nat.le_refl _) j l (by omega) hl]
    by_cases e : j = m
    · subst e; rw [if_pos ⟨rfl, hl⟩]
    · rw [if_neg (by omega)]; exact ih (by omega) j l (by omega) hl

theorem mat_ext {r c : Nat} {xs ys : List Int} (hx : xs.length = r * c) (hy : ys.length = r * c) (h : ∀ i k, i < r → k < c → xs.getD (i * c + k) 0 = ys.getD (i * c + k) 0) : xs = ys := by
  apply List.ext_getElem (by omega)
  intro t h1 h2
  by_cases hc : c = 0
  · subst hc; omega
  have hi : t / c < r := by rw [Nat.div_lt_iff_lt_mul (by omega)]; omega
  have hk : t % c < c := Nat.mod_lt _ (by omega)
  have := h (t / c) (t % c) hi hk
  rw [show t / c * c + t % c = t by rw [Nat.mul_comm]; exact Nat.div_add_mod t c] at this
  rw [List.getD_eq_getElem?_getD, List.getD_eq_getElem?_getD, List.getElem?_eq_getElem h1, List.getElem?_eq_getElem h2] at this
  simpa using this

/-- The product of two matrices. -/
def prodL (r n c : Nat) (xs ys : List Int) : List Int := fillTo r c (prodAt n xs (turnTo n c ys n)) r
def turnL (r c : Nat) (xs : List Int) : List Int := turnTo r c xs r
theorem prodL_len (r n c : Nat) (xs ys : List Int) : (prodL r n c xs ys).length = r * c := fillTo_len _ _ _ _
theorem turnL_len (r c : Nat) (xs : List Int) : (turnL r c xs).length = r * c := turnTo_len _ _ _ _
theorem fillRow_bytes (c : Nat) (f : Nat → Nat → Int) (hf : ∀ i k, 0 ≤ f i k ∧ f i k < 256) (i : Nat) (ys : List Int) (hy : Bytes ys) : ∀ k, Bytes (fillRow c f i k ys)
  | 0 => hy
  | k + 1 => (fillRow_bytes c f hf i ys hy k).set _ _ (hf i k).1 (hf i k).2
theorem fillTo_bytes (r c : Nat) (f : Nat → Nat → Int) (hf : ∀ i k, 0 ≤ f i k ∧ f i k < 256) : ∀ i, Bytes (fillTo r c f i)
  | 0 => Bytes.zeros _
  | i + 1 => fillRow_bytes c f hf i _ (fillTo_bytes r c f hf i) c
theorem turnRow_bytes (r c : Nat) (xs : List Int) (hx : Bytes xs) (i : Nat) (ys : List Int) (hy : Bytes ys) : ∀ k, Bytes (turnRow r c xs i k ys)
  | 0 => hy
  | k + 1 => (turnRow_bytes r c xs hx i ys hy k).set _ _ (hx.getD _).1 (hx.getD _).2
theorem turnTo_bytes (r c : Nat) (xs : List Int) (hx : Bytes xs) : ∀ i, Bytes (turnTo r c xs i)
  | 0 => Bytes.zeros _
  | i + 1 => turnRow_bytes r c xs hx i _ (turnTo_bytes r c xs hx i) c
theorem rowOf_bytes {c : Nat} {xs : List Int} (h : Bytes xs) (i : Nat) : Bytes (rowOf c xs i) := (h.take _).drop _
theorem prodL_bytes (r n c : Nat) (xs ys : List Int) (hx : Bytes xs) : Bytes (prodL r n c xs ys) :=
  fillTo_bytes _ _ _ (fun i _ => dotTo_range _ _ (rowOf_bytes hx i) n) _
theorem turnL_bytes (r c : Nat) (xs : List Int) (hx : Bytes xs) : Bytes (turnL r c xs) := turnTo_bytes _ _ _ hx _

theorem el_turnL (r c : Nat) (xs : List Int) (i k : Nat) (hi : i < r) (hk : k < c) : el r (turnL r c xs) k i = el c xs i k := by
  unfold el turnL
  rw [turnTo_get r c xs r (Nat.le_refl _) i k hi hk]
theorem el_prodL (r n c : Nat) (xs ys : List Int) (hx : Bytes xs) (hy : Bytes ys) (i k : Nat) (hi : i < r) (hk : k < c) :
    el c (prodL r n c xs ys) i k = sum n (fun j => el n xs i j * el c ys j k) := by
  unfold prodL
  have : el c (fillTo r c (prodAt n xs (turnTo n c ys n)) r) i k = G.of (prodAt n xs (turnTo n c ys n) i k) := by
    unfold el
    rw [fillTo_get r c _ r (Nat.le_refl _) i k hi hk]
  rw [this]
  unfold prodAt
  rw [dotTo_G (rowOf_bytes hx i) (rowOf_bytes (turnTo_bytes n c ys hy n) k), G.of_int]
  refine sum_congr (fun j hj => ?_)
  rw [rowOf_get i j hj, rowOf_get k j hj, turnTo_get n c ys n (Nat.le_refl _) j k hj hk]
  rfl
theorem mat_ext_el {r c : Nat} {xs ys : List Int} (bx : Bytes xs) (by' : Bytes ys) (hx : xs.length = r * c) (hy : ys.length = r * c) (h : ∀ i k, i < r → k < c → el c xs i k = el c ys i k) : xs = ys :=
  mat_ext hx hy (fun i k hi hk => by rw [← el_int bx, ← el_int by', h i k hi hk])

/-- Products may be taken together in any way. -/
theorem prodL_assoc (r n m c : Nat) (xs ys zs : List Int) (hx : Bytes xs) (hy : Bytes ys) (hz : Bytes zs) :
    prodL r m c (prodL r n m xs ys) zs = prodL r n c xs (prodL n m c ys zs) := by
  have hxy := prodL_bytes r n m xs ys hx
  have hyz := prodL_bytes n m c ys zs hy
  refine mat_ext_el (prodL_bytes _ _ _ _ _ hxy) (prodL_bytes _ _ _ _ _ hx) (prodL_len _ _ _ _ _) (prodL_len _ _ _ _ _) (fun i k hi hk => ?_)
  rw [el_prodL r m c _ zs hxy hz i k hi hk, el_prodL r n c xs _ hx hyz i k hi hk]
  rw [sum_congr (fun l hl => by rw [el_prodL r n m xs ys hx hy i l hi hl])]
  rw [prod_assoc]
  exact sum_congr (fun j hj => by rw [el_prodL n m c ys zs hy hz j k hj hk])
/-- A product turned is that of both, turned, the other way round. -/
theorem prodL_turn (r n c : Nat) (xs ys : List Int) (hx : Bytes xs) (hy : Bytes ys) :
    prodL c n r (turnL n c ys) (turnL r n xs) = turnL r c (prodL r n c xs ys) := by
  have hxy := prodL_bytes r n c xs ys hx
  refine mat_ext_el (r := c) (c := r) (prodL_bytes _ _ _ _ _ (turnL_bytes _ _ _ hy)) (turnL_bytes _ _ _ hxy) (prodL_len _ _ _ _ _) (by rw [turnL_len, Nat.mul_comm]) (fun k i hk hi => ?_)
  rw [el_prodL c n r _ _ (turnL_bytes _ _ _ hy) (turnL_bytes _ _ _ hx) k i hk hi, el_turnL r c _ i k hi hk, el_prodL r n c xs ys hx hy i k hi hk]
  refine sum_congr (fun j hj => ?_)
  rw [el_turnL n c ys j k hj hk, el_turnL r n xs i j hi hj, Fd.mul_comm]
theorem mul_goodP (v u : Value) (r n c : Nat) (xs ys : List Int) (w : World) (h : IsMat w v r n xs) (h' : IsMat w u n c ys) :
    Calls Try.prog 10 #[v, u] w fun e w' => ∃ b s cap, e = .returned (.tuple #[.pointer (some ⟨b, 0, none⟩), .int .i64 0]) ∧ MatIn w' b s r c cap (prodL r n c xs ys) ∧ Below w.heap.size w w' ∧ w.heap.size ≤ b ∧ w.heap.size ≤ s :=
  mul_good v u r n c xs ys w h h'
theorem turned_anyP (v : Value) (r c : Nat) (xs : List Int) (w : World) (h : IsMat w v r c xs) :
    Calls Try.prog 11 #[v] w fun e w' => ∃ b s cap, e = .returned (.pointer (some ⟨b, 0, none⟩)) ∧ MatIn w' b s c r cap (turnL r c xs) ∧ Below w.heap.size w w' ∧ w.heap.size ≤ b ∧ w.heap.size ≤ s :=
  turned_any v r c xs w h
end Go.Proofs.Ytdhhkkhimcpaoaa.Mat
