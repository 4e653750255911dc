/- The field of 256 elements as a field; bytes told as its elements. -/
import Derived.Test.YtelgefkfflgbeaaGfPow
import Derived.Test.YtelgefkfflgbeaaFd
namespace Go.Proofs.Ytelgefkfflgbeaa.Alg
open Gf

/-- An element. -/
structure G where
  val : Nat
  lt : val < 256
theorem G.ext' {a b : G} (h : a.val = b.val) : a = b := by
  cases a; cases b; cases h; rfl
instance : DecidableEq G := fun a b => if h : a.val = b.val then isTrue (G.ext' h) else isFalse (fun e => h (by rw [e]))
theorem xor_lt' {a b : Nat} (ha : a < 256) (hb : b < 256) : a ^^^ b < 256 := by
  have : a ^^^ b < 2 ^ 8 := Nat.xor_lt_two_pow ha hb
  simpa using this
instance : Fd G where
  add a b := ⟨a.val ^^^ b.val, xor_lt' a.lt b.lt⟩
  mul a b := ⟨gm a.val b.val, gm_lt _ _ a.lt⟩
  zero := ⟨0, by decide⟩
  one := ⟨1, by decide⟩
  inv a := ⟨ginv a.val, ginv_lt _ a.lt⟩
  add_assoc a b c := G.ext' (Nat.xor_assoc _ _ _)
  add_comm a b := G.ext' (Nat.xor_comm _ _)
  add_zero a := G.ext' (Nat.xor_zero _)
  add_self a := G.ext' (Nat.xor_self _)
  mul_assoc a b c := G.ext' (gm_assoc _ _ _ a.lt b.lt c.lt)
  mul_comm a b := G.ext' (gm_comm _ _ a.lt b.lt)
  mul_one a := G.ext' (gm_one _)
  mul_add a b c := G.ext' (gm_xor_right _ _ _)
  mul_inv a h := G.ext' (gm_inv _ a.lt (fun e => h (G.ext' e)))
  zero_ne_one h := absurd (congrArg G.val h) (by decide)
/-- A byte's element; an element's byte. -/
def G.of (x : Int) : G := ⟨x.toNat % 256, Nat.mod_lt _ (by decide)⟩
def G.int (g : G) : Int := (g.val : Int)
theorem G.of_int (g : G) : G.of g.int = g := G.ext' (by have := g.lt; simp [G.of, G.int]; omega)
theorem G.int_of (x : Int) (h : 0 ≤ x ∧ x < 256) : (G.of x).int = x := by simp [G.of, G.int]; omega
theorem G.int_range (g : G) : 0 ≤ g.int ∧ g.int < 256 := by have := g.lt; unfold G.int; omega
theorem G.int_inj {a b : G} (h : a.int = b.int) : a = b := by rw [← G.of_int a, h, G.of_int]
theorem G.of_inj {x y : Int} (hx : 0 ≤ x ∧ x < 256) (hy : 0 ≤ y ∧ y < 256) (h : G.of x = G.of y) : x = y := by rw [← G.int_of x hx, h, G.int_of y hy]
theorem G.of_zero : G.of 0 = 0 := rfl
theorem G.of_one : G.of 1 = 1 := rfl
theorem G.int_zero : (0 : G).int = 0 := rfl
theorem G.int_one : (1 : G).int = 1 := rfl
end Go.Proofs.Ytelgefkfflgbeaa.Alg
