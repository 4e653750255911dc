/- Plain arithmetic of the field of 256 elements: bytes as polynomials. -/
namespace Go.Proofs.Ytelgefkfflgbeaa.Gf

theorem xor_half (a b : Nat) : (a ^^^ b) / 2 = a / 2 ^^^ b / 2 := by
  have := @Nat.xor_div_two_pow a b 1
  simpa using this
theorem xor_bit (a b : Nat) : (a ^^^ b) % 2 = a % 2 ^^^ b % 2 := by
  have := @Nat.xor_mod_two_pow a b 1
  simpa using this
theorem dbl_xor (a b : Nat) : (a ^^^ b) * 2 = a * 2 ^^^ b * 2 := by
  have := @Nat.shiftLeft_xor_distrib 1 a b
  simpa [Nat.shiftLeft_eq] using this
theorem x4 (a b c d : Nat) : (a ^^^ b) ^^^ (c ^^^ d) = (a ^^^ c) ^^^ (b ^^^ d) := by
  rw [Nat.xor_assoc, Nat.xor_assoc, ← Nat.xor_assoc b c d, Nat.xor_comm b c, Nat.xor_assoc c b d]

/-- Twice an element. -/
def xt (x : Nat) : Nat := x % 128 * 2 ^^^ x / 128 % 2 * 29

theorem bit01 (n : Nat) : n % 2 = 0 ∨ n % 2 = 1 := by omega
theorem bitmul (a b c : Nat) : ((a ^^^ b) % 2) * c = (a % 2 * c) ^^^ (b % 2 * c) := by
  rw [xor_bit]
  rcases bit01 a with h | h <;> rcases bit01 b with h' | h' <;> simp [h, h']

theorem xt_xor (x y : Nat) : xt (x ^^^ y) = xt x ^^^ xt y := by
  unfold xt
  have h1 := @Nat.xor_mod_two_pow x y 7
  have h2 := @Nat.xor_div_two_pow x y 7
  simp only [Nat.reducePow] at h1 h2
  rw [h1, h2, dbl_xor, bitmul, x4]
theorem xt_zero : xt 0 = 0 := rfl
theorem xt_lt (x : Nat) : xt x < 256 := by
  unfold xt
  have h : x % 128 * 2 < 2 ^ 8 := by omega
  have h' : x / 128 % 2 * 29 < 2 ^ 8 := by omega
  simpa using Nat.xor_lt_two_pow h h'

/-- The product, from the low bit of 'b' on. -/
def gmA : Nat → Nat → Nat → Nat → Nat
  | 0, _, p, _ => p
  | n + 1, b, p, x => gmA n (b / 2) (p ^^^ b % 2 * x) (xt x)

theorem gmA_acc (n : Nat) : ∀ b p x, gmA n b p x = p ^^^ gmA n b 0 x := by
  induction n with
  | zero => intro b p x; simp [gmA]
  | succ n ih =>
    intro b p x
    simp only [gmA]
    rw [ih _ (p ^^^ _), ih _ (0 ^^^ _), Nat.zero_xor, Nat.xor_assoc]

theorem gmA_xor_left (n : Nat) : ∀ b c x, gmA n (b ^^^ c) 0 x = gmA n b 0 x ^^^ gmA n c 0 x := by
  induction n with
  | zero => intro b c x; simp [gmA]
  | succ n ih =>
    intro b c x
    simp only [gmA, Nat.zero_xor]
    rw [gmA_acc, gmA_acc n (b / 2), gmA_acc n (c / 2), xor_half, bitmul, ih, x4]

theorem bitdist (b x y : Nat) : b % 2 * (x ^^^ y) = b % 2 * x ^^^ b % 2 * y := by
  rcases bit01 b with h | h <;> simp [h]

theorem gmA_xor_right (n : Nat) : ∀ b x y, gmA n b 0 (x ^^^ y) = gmA n b 0 x ^^^ gmA n b 0 y := by
  induction n with
  | zero => intro b x y; simp [gmA]
  | succ n ih =>
    intro b x y
    simp only [gmA, Nat.zero_xor]
    rw [gmA_acc, gmA_acc n (b / 2) (b % 2 * x), gmA_acc n (b / 2) (b % 2 * y), xt_xor, bitdist, ih, x4]

theorem gmA_zero (n : Nat) : ∀ p x, gmA n 0 p x = p := by
  induction n with
  | zero => intro p x; rfl
  | succ n ih => intro p x; simp [gmA, ih]

theorem gmA_lt (n : Nat) : ∀ b p x, p < 256 → x < 256 → gmA n b p x < 256 := by
  induction n with
  | zero => intro b p x hp hx; exact hp
  | succ n ih =>
    intro b p x hp hx
    refine ih _ _ _ ?_ (xt_lt x)
    have h : b % 2 * x < 2 ^ 8 := by rcases bit01 b with h | h <;> simp [h]; omega
    have hp' : p < 2 ^ 8 := by omega
    simpa using Nat.xor_lt_two_pow hp' h

/-- The product of two elements. -/
def gm (a b : Nat) : Nat := gmA 8 b 0 a

theorem gm_xor_left (a b c : Nat) : gm (a ^^^ b) c = gm a c ^^^ gm b c := gmA_xor_right 8 c a b
theorem gm_xor_right (a b c : Nat) : gm a (b ^^^ c) = gm a b ^^^ gm a c := gmA_xor_left 8 b c a
theorem gm_lt (a b : Nat) (h : a < 256) : gm a b < 256 := gmA_lt 8 b 0 a (by decide) h

/-- What holds of nought and of the powers of 2, and goes on through sums, holds of all elements. -/
theorem span {P : Nat → Prop} (h0 : P 0) (hx : ∀ a b, P a → P b → P (a ^^^ b)) (h2 : ∀ i, i < 8 → P (2 ^ i)) (a : Nat) (ha : a < 256) : P a := by
  have e : ∀ a, a < 256 → a = (a % 2 ^^^ a / 2 % 2 * 2) ^^^ (a / 4 % 2 * 4 ^^^ a / 8 % 2 * 8) ^^^ (a / 16 % 2 * 16 ^^^ a / 32 % 2 * 32) ^^^ (a / 64 % 2 * 64 ^^^ a / 128 % 2 * 128) := by
    decide +kernel
  have hb : ∀ (n i c : Nat), c = 2 ^ i → i < 8 → P (n % 2 * c) := by
    rintro n i _ rfl hi
    rcases bit01 n with h | h <;> rw [h]
    · simpa using h0
    · simpa using h2 i hi
  rw [e a ha]
  refine hx _ _ (hx _ _ (hx _ _ (hx _ _ ?_ ?_) (hx _ _ ?_ ?_)) (hx _ _ ?_ ?_)) (hx _ _ ?_ ?_)
  · simpa using hb a 0 1 rfl (by decide)
  · exact hb _ 1 _ rfl (by decide)
  · exact hb _ 2 _ rfl (by decide)
  · exact hb _ 3 _ rfl (by decide)
  · exact hb _ 4 _ rfl (by decide)
  · exact hb _ 5 _ rfl (by decide)
  · exact hb _ 6 _ rfl (by decide)
  · exact hb _ 7 _ rfl (by decide)

theorem gm_zero_left (b : Nat) : gm 0 b = 0 := by
  have := gm_xor_left 0 0 b
  simpa using this
theorem gm_zero_right (a : Nat) : gm a 0 = 0 := gmA_zero 8 0 a

theorem gm_comm (a b : Nat) (ha : a < 256) (hb : b < 256) : gm a b = gm b a := by
  refine span (P := fun a => gm a b = gm b a) ?_ ?_ ?_ a ha
  · rw [gm_zero_left, gm_zero_right]
  · intro a a' h h'; rw [gm_xor_left, gm_xor_right, h, h']
  · intro i hi
    refine span (P := fun b => gm (2 ^ i) b = gm b (2 ^ i)) ?_ ?_ ?_ b hb
    · rw [gm_zero_left, gm_zero_right]
    · intro a a' h h'; rw [gm_xor_left, gm_xor_right, h, h']
    · revert i; decide +kernel

theorem gm_assoc (a b c : Nat) (ha : a < 256) (hb : b < 256) (hc : c < 256) : gm (gm a b) c = gm a (gm b c) := by
  refine span (P := fun a => gm (gm a b) c = gm a (gm b c)) ?_ ?_ ?_ a ha
  · simp only [gm_zero_left]
  · intro a a' h h'; simp only [gm_xor_left, h, h']
  · intro i hi
    refine span (P := fun b => gm (gm (2 ^ i) b) c = gm (2 ^ i) (gm b c)) ?_ ?_ ?_ b hb
    · simp only [gm_zero_left, gm_zero_right]
    · intro a a' h h'; simp only [gm_xor_left, gm_xor_right, h, h']
    · intro j hj
      refine span (P := fun c => gm (gm (2 ^ i) (2 ^ j)) c = gm (2 ^ i) (gm (2 ^ j) c)) ?_ ?_ ?_ c hc
      · simp only [gm_zero_right]
      · intro a a' h h'; simp only [gm_xor_right, h, h']
      · revert i j; decide +kernel

theorem gm_one (a : Nat) : gm a 1 = a := by simp [gm, gmA]

/-- Which element comes to 1 with one. -/
def ginv (a : Nat) : Nat := gm (gm (gm (gm (gm (gm (gm a a) a |> fun x => gm x x) a |> fun x => gm x x) a |> fun x => gm x x) a |> fun x => gm x x) a |> fun x => gm x x) a |> fun x => gm x x

theorem ginv_lt (a : Nat) (h : a < 256) : ginv a < 256 := by
  have e : ∀ a, a < 256 → ginv a < 256 := by decide +kernel
  exact e a h
theorem gm_inv (a : Nat) (h : a < 256) (h0 : a ≠ 0) : gm a (ginv a) = 1 := by
  have e : ∀ a, a < 256 → a ≠ 0 → gm a (ginv a) = 1 := by decide +kernel
  exact e a h h0

/-- The document's product: the polynomials' one, from the low bit of 'b' on .. -/
def clA : Nat → Nat → Nat → Nat → Nat
  | 0, _, p, _ => p
  | n + 1, b, p, x => clA n (b / 2) (p ^^^ b % 2 * x) (x * 2)

/-- .. brought down, from the bit 'i + 8 - 1' on. -/
def redA : Nat → Nat → Nat
  | 0, p => p
  | n + 1, p => redA n (p ^^^ p / 2 ^ (n + 8) % 2 * (285 * 2 ^ n))

theorem clA_acc (n : Nat) : ∀ b p x, clA n b p x = p ^^^ clA n b 0 x := by
  induction n with
  | zero => intro b p x; simp [clA]
  | succ n ih =>
    intro b p x
    simp only [clA]
    rw [ih _ (p ^^^ _), ih _ (0 ^^^ _), Nat.zero_xor, Nat.xor_assoc]

theorem clA_xor_left (n : Nat) : ∀ b c x, clA n (b ^^^ c) 0 x = clA n b 0 x ^^^ clA n c 0 x := by
  induction n with
  | zero => intro b c x; simp [clA]
  | succ n ih =>
    intro b c x
    simp only [clA, Nat.zero_xor]
    rw [clA_acc, clA_acc n (b / 2), clA_acc n (c / 2), xor_half, bitmul, ih, x4]

theorem clA_xor_right (n : Nat) : ∀ b x y, clA n b 0 (x ^^^ y) = clA n b 0 x ^^^ clA n b 0 y := by
  induction n with
  | zero => intro b x y; simp [clA]
  | succ n ih =>
    intro b x y
    simp only [clA, Nat.zero_xor]
    rw [clA_acc, clA_acc n (b / 2) (b % 2 * x), clA_acc n (b / 2) (b % 2 * y), dbl_xor, bitdist, ih, x4]

theorem redA_xor (n : Nat) : ∀ p q, redA n (p ^^^ q) = redA n p ^^^ redA n q := by
  induction n with
  | zero => intro p q; rfl
  | succ n ih =>
    intro p q
    simp only [redA]
    rw [← ih]
    congr 1
    rw [Nat.xor_div_two_pow, bitmul, x4]

theorem ref_eq (a b : Nat) (ha : a < 256) (hb : b < 256) : redA 7 (clA 8 b 0 a) = gm a b := by
  refine span (P := fun a => redA 7 (clA 8 b 0 a) = gm a b) ?_ ?_ ?_ a ha
  · have h := clA_xor_right 8 b 0 0
    have h' := redA_xor 7 0 0
    simp only [Nat.xor_self] at h h'
    simp only [h, h', gm_zero_left]
  · intro a a' h h'; simp only [clA_xor_right, redA_xor, gm_xor_left, h, h']
  · intro i hi
    refine span (P := fun b => redA 7 (clA 8 b 0 (2 ^ i)) = gm (2 ^ i) b) ?_ ?_ ?_ b hb
    · have h := clA_xor_left 8 0 0 (2 ^ i)
      have h' := redA_xor 7 0 0
      simp only [Nat.xor_self] at h h'
      simp only [h, h', gm_zero_right]
    · intro a a' h h'; simp only [clA_xor_left, redA_xor, gm_xor_right, h, h']
    · revert i; decide +kernel

end Go.Proofs.Ytelgefkfflgbeaa.Gf
