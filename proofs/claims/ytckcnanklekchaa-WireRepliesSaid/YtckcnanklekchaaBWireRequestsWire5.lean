/- The reference's Parse. -/
import Derived.Test.YtckcnanklekchaaProg
import Derived.Below
import Derived.Deep.Draws
import Derived.Deep.AppendLies
import Derived.Maps.AppendAt
import Derived.OwnWalk
import Derived.Laws.BytesArg
import Derived.Laws.MakeOwn
import Derived.Laws.OwnMore
import Derived.Deep.OwnRows
import Derived.Tactics
import Derived.Lib.ConvBytes
import Derived.Laws.Slices
import Derived.WalkKit
import Derived.KernelRfl
import Derived.RowKit3
import Derived.Deep.LoopGhost
import Derived.Deep.QuietTactic
import Derived.BigQuiet
import Derived.WideLaws
import Derived.Deep.DeepCutAuto
import Derived.Deep.CutBlock
import Derived.Deep.RegionHeld3
import Derived.Laws.Rows
import Derived.Lib.AppendStr
import Derived.ArgAppend
import Derived.Laws.IdiomCopy
import Derived.OrdersHeld
import Derived.Laws.BitsLemmas
import Derived.RowKit
import Derived.Lib.Hide
import Derived.WalkSpells
import Derived.StillTailTactics
import Derived.Outline
import Derived.Test.YtckcnanklekchaaBWireRequestsWire4
namespace Go.Proofs.Ytckcnanklekchaa.Pack
open Go Go.RowKit Go.Proofs.Ytckcnanklekchaa.PWireRequests Go.Proofs.Ytckcnanklekchaa.Mem Go.Proofs.Ytckcnanklekchaa.Bits Go.Proofs.YtckcnanklekchaaW.PrintWords Go.Proofs.YtckcnanklekchaaW.PrintLast
set_option linter.unusedVariables false

def T0 (w0 : World) (g : Nat) (W : World) (xs : List Int) : Prop := ∃ A c, TkAt w0 W g A c xs
section
variable {w0 W W' : World} {g : Nat} {xs : List Int}
theorem T0.next (h : T0 w0 g W xs) (hb : Below W.heap.size W W') : T0 w0 g W' xs := by
  obtain ⟨A, c, h⟩ := h
  exact ⟨A, c, h.blk.below hb h.blk.lt, h.ge, h.rd, h.cap, h.bel.trans (hb.mono h.bel.size)⟩
theorem T0.set_ (h : T0 w0 g W xs) {p : Addr} (hp : w0.heap.size ≤ p.block) (hg : g ≠ p.block) (u : Value) : T0 w0 g (W.setCell p u) xs := by
  obtain ⟨A, c, h⟩ := h
  exact ⟨A, c, h.blk.far hg u, h.ge, h.rd, h.cap, h.bel.setCell hp u⟩
theorem T0.bel (h : T0 w0 g W xs) : Below w0.heap.size w0 W := by obtain ⟨A, c, h⟩ := h; exact h.bel
theorem T0.lt (h : T0 w0 g W xs) : g < W.heap.size := by obtain ⟨A, c, h⟩ := h; exact h.blk.lt
end
theorem t0_num (w0 : World) (g : Nat) (W : World) (xs : List Int) (m n : Nat) (h : T0 w0 g W xs) (hm : m ≤ xs.length) (hm8 : m ≤ 8) (hl : xs.length ≤ 1000000) (hb : AllB xs) (hn : leN (xs.take m) = n) (ys : List Int) (hy : xs.drop m = ys) (size : Int) (hsz : (m : Int) = size) :
    Calls Try.prog 25 #[.pointer (some ⟨g, 0, none⟩), .int .i64 size] W fun e w' => e = .returned (.int .u64 n) ∧ T0 w0 g w' ys ∧ KeepBut W w' g none := by
  refine (tk_num w0 W g W xs m n ⟨h, KeepBut.refl _ _ _⟩ hm hm8 hl hb hn ys hy size hsz).mono ?_
  rintro e w' ⟨h1, h2, h3⟩
  exact ⟨h1, h2.1, h3⟩
theorem t0_shard (w0 : World) (g : Nat) (W : World) (xs : List Int) (h : T0 w0 g W xs) (h12 : 12 ≤ xs.length) (hl : xs.length ≤ 1000000) (hb : AllB xs) (o s t q : Nat)
    (ho : leN (xs.take 4) = o) (hs : leN ((xs.drop 4).take 2) = s) (ht : leN ((xs.drop 6).take 2) = t) (hq : leN ((xs.drop 8).take 4) = q) (ys : List Int) (hy : xs.drop 12 = ys) :
    Calls Try.prog 26 #[.pointer (some ⟨g, 0, none⟩)] W fun e w' => e = .returned (.agg #[.int .u32 o, .int .u16 s, .int .u16 t, .int .u32 q]) ∧ T0 w0 g w' ys ∧ KeepBut W w' g none := by
  subst hy
  refine (tk_shard w0 W h.bel.size g W xs ⟨h, KeepBut.refl _ _ _⟩ h12 hl hb o s t q ho hs ht hq).mono ?_
  rintro e w' ⟨h1, h2⟩
  exact ⟨h1, h2.1, h2.2⟩
/-- What the reference's reading tells. -/
def RefPost (b : List Int) (W : World) (e : Ending) (w' : World) : Prop :=
  (∃ (A : Option Addr) (m c : Nat), (23 ≤ b.length ∧ rightB (qKind b) (qLost b) (b.drop 23) = true) ∧ m = (b.drop 23).length ∧ m ≤ c ∧
    e = .returned (.tuple #[reqV (qNum b) (qKind b) (qO b) (qS b) (qT b) (qG b) (qLost b) (.slice A m c), .bool true]) ∧ (Kd.int .u8).C w' A m (b.drop 23) ∧ Below W.heap.size W w') ∨
  (¬ (23 ≤ b.length ∧ rightB (qKind b) (qLost b) (b.drop 23) = true) ∧ e = .returned (.tuple #[reqV 0 0 0 0 0 0 0 (.slice none 0 0), .bool false]) ∧ Below W.heap.size W w')
theorem ref_right (n k o s t g l : Int) (A : Option Addr) (m c : Nat) (data : List Int) (W : World) (hr : (Kd.int .u8).C W A m data) (hm : m = data.length) (hc : m ≤ c) (b : Bool) (hb : rightB k l data = b) :
    Calls Try.prog 11 #[.agg #[.int .u64 n, .int .i64 k, .int .u32 o, .int .u16 s, .int .u16 t, .int .u32 g, .int .u16 l, .slice A m c]] W fun e w' => e = .returned (.bool b) ∧ Below W.heap.size W w' := by
  subst hm hb
  refine (coldframeref15_Right.calls 1 n k o s t g l A c data _ W hr hc (refright_f 0 n k o s t g l data)).mono ?_
  rintro e w' ⟨rfl, h⟩
  exact ⟨rfl, h⟩
set_option maxRecDepth 100000 in
set_option maxHeartbeats 2000000 in
theorem refparse_any (A : Option Addr) (c : Nat) (b : List Int) (W : World) (hr : (Kd.int .u8).C W A b.length b) (hc : b.length ≤ c) (hl : b.length ≤ 900000) (hb : AllB b) :
    Calls Try.prog 7 #[.slice A b.length c] W (RefPost b W) := by
  obtain ⟨W1, hW1⟩ : ∃ W1, W1 = W.alloc (.cells #[.int .u64 0, .int .i64 0, .int .u32 0, .int .u16 0, .int .u16 0, .int .u32 0, .int .u16 0, .slice none 0 0] 29) := ⟨_, rfl⟩
  have hb1 : Below W.heap.size W W1 := by rw [hW1]; exact (Below.refl _ _).alloc (Nat.le_refl _) _
  have hblk : Blk W1 W.heap.size 29 #[.int .u64 0, .int .i64 0, .int .u32 0, .int .u16 0, .int .u16 0, .int .u32 0, .int .u16 0, .slice none 0 0] := by rw [hW1]; exact Blk.new _ _ _
  obtain ⟨R0, hR0⟩ : ∃ R0, R0 = W.heap.size := ⟨_, rfl⟩
  have hz1 : W1.heap.size = R0 + 1 := by rw [hW1, hR0]; simp
  rw [← hR0] at hblk
  have HB1 := Lib.hid hb1
  have HBK := Lib.hid hblk
  have HR := Lib.hid hr
  have HW1 := Lib.hid hW1
  have HR0 := Lib.hid hR0
  have HZ1 := Lib.hid hz1
  obtain ⟨N, hN⟩ : ∃ N, N = b.length := ⟨_, rfl⟩
  have HN := Lib.hid hN
  have HCP := Lib.hid hc
  have HBB := Lib.hid hb
  rw [← hN] at HCP ⊢
  by_cases h23 : 23 ≤ b.length
  · have hd1 : decide ((N : Int) < 23) = false := by simp; omega
    have hd2 : ¬ (N : Int) < 23 := by omega
    obtain ⟨W2, hW2⟩ : ∃ W2, W2 = W1.alloc (.cells #[.slice A N c, .bool false] 60) := ⟨_, rfl⟩
    have hb2 : Below W1.heap.size W1 W2 := by rw [hW2]; exact (Below.refl _ _).alloc (Nat.le_refl _) _
    obtain ⟨G0, hG0⟩ : ∃ G0, G0 = W1.heap.size := ⟨_, rfl⟩
    have HT := Lib.hid (show T0 W G0 W2 b from ⟨A, c, by rw [hW2, ← hN, hG0]; exact Blk.new _ _ _, by rw [hG0, hz1]; omega, Kd.reads_of_C (d := (0 : Int)) hr, hc, hb1.trans (hb2.mono (by omega))⟩)
    have HBK2 := Lib.hid (hblk.below hb2 hblk.lt)
    have HW2 := Lib.hid (show W2 = (W.alloc (.cells #[.int .u64 0, .int .i64 0, .int .u32 0, .int .u16 0, .int .u16 0, .int .u32 0, .int .u16 0, .slice none 0 0] 29)).alloc (.cells #[.slice A N c, .bool false] 60) by rw [hW2, hW1])
    have HG0 := Lib.hid (show G0 = W.heap.size + 1 by omega)
    have bx := fun n => (fun y hy => hb y (List.mem_of_mem_drop hy) : AllB (b.drop n))
    have lx := fun n => (by rw [List.length_drop]; omega : (b.drop n).length ≤ 1000000)
    obtain ⟨k, hk⟩ : ∃ k, k = qKind b := ⟨_, rfl⟩
    obtain ⟨n, hn⟩ : ∃ n, n = qNum b := ⟨_, rfl⟩
    obtain ⟨o, ho⟩ : ∃ o, o = qO b := ⟨_, rfl⟩
    obtain ⟨s, hs⟩ : ∃ s, s = qS b := ⟨_, rfl⟩
    obtain ⟨t, ht⟩ : ∃ t, t = qT b := ⟨_, rfl⟩
    obtain ⟨q, hq⟩ : ∃ q, q = qG b := ⟨_, rfl⟩
    obtain ⟨l, hll⟩ : ∃ l, l = qLost b := ⟨_, rfl⟩
    have hk0 : leN (b.take 1) < 256 ^ (b.take 1).length := leN_lt (b.take 1) (fun y hy => hb y (List.mem_of_mem_take hy))
    rw [List.length_take, Nat.min_eq_left (by omega)] at hk0
    have hl0 : leN ((b.drop 21).take 2) < 256 ^ ((b.drop 21).take 2).length := leN_lt ((b.drop 21).take 2) (fun y hy => bx 21 y (List.mem_of_mem_take hy))
    rw [List.length_take, Nat.min_eq_left (by rw [List.length_drop]; omega)] at hl0
    have e1 : IntKind.i64.wrap (k : Int) = (k : Int) := wraps_i64 _ (by omega) (by rw [hk]; unfold qKind; omega)
    have e2 : IntKind.u16.wrap (l : Int) = (l : Int) := w_u16 _ (by rw [hll]; unfold qLost; omega)
    have N1 := Lib.hid (fun W' hT => t0_num W G0 W' b 1 k hT (by omega) (by decide) (by omega) hb hk.symm (b.drop 1) rfl 1 rfl)
    have N2 := Lib.hid (fun W' hT => t0_num W G0 W' (b.drop 1) 8 n hT (by rw [List.length_drop]; omega) (by decide) (lx 1) (bx 1) hn.symm (b.drop 9) (by rw [List.drop_drop]) 8 rfl)
    have N3 := Lib.hid (fun W' hT => t0_shard W G0 W' (b.drop 9) hT (by rw [List.length_drop]; omega) (lx 9) (bx 9) o s t q (by rw [ho]; rfl) (by rw [hs]; simp [qS, List.drop_drop]) (by rw [ht]; simp [qT, List.drop_drop]) (by rw [hq]; simp [qG, List.drop_drop]) (b.drop 21) (by rw [List.drop_drop]))
    have N4 := Lib.hid (fun W' hT => t0_num W G0 W' (b.drop 21) 2 l hT (by rw [List.length_drop]; omega) (by decide) (lx 21) (bx 21) hll.symm (b.drop 23) (by rw [List.drop_drop]) 2 rfl)
    have n2 : R0 ≠ G0 := by omega
    have HL := Lib.hid (And.intro hk (And.intro hn (And.intro ho (And.intro hs (And.intro ht (And.intro hq hll))))))
    have H23 := Lib.hid h23
    have HGR := Lib.hid (show G0 = R0 + 1 by omega)
    clear hW1 hW2 hb1 hb2 hblk bx lx hk hn ho hs ht hq hll hk0 hl0 hz1 hG0 hR0 hN hl hb hc hr h23
    go_enter Try.func7, Try.ntmps7
    go_upto_region 4 with (fail)
    rw [← HW2.out, ← HG0.out, ← HR0.out]
    go_upto_region 5 with (go_at_call 25; (with_reducible refine (N1.out _ HT.out).mono ?_); rintro e u1 ⟨rfl, h1, k1⟩; have HT1 := Lib.hid h1; have HR1 := Lib.hid (k1.blk HBK2.out n2 (by simp)); clear h1 k1)
    obtain ⟨W3, hW3⟩ : ∃ W3, W3 = u1.alloc (.cells #[.int .u64 0, .int .i64 k, .int .u32 0, .int .u16 0, .int .u16 0, .int .u32 0, .int .u16 0, .slice none 0 0] 29) := ⟨_, rfl⟩
    have hb3 : Below u1.heap.size u1 W3 := by rw [hW3]; exact (Below.refl _ _).alloc (Nat.le_refl _) _
    obtain ⟨Q0, hQ0⟩ : ∃ Q0, Q0 = u1.heap.size := ⟨_, rfl⟩
    rw [← hW3, ← hQ0]
    have HQ := Lib.hid (show Blk W3 Q0 29 #[.int .u64 0, .int .i64 k, .int .u32 0, .int .u16 0, .int .u16 0, .int .u32 0, .int .u16 0, .slice none 0 0] by rw [hW3, hQ0]; exact Blk.new _ _ _)
    have HT3 := Lib.hid (HT1.out.next hb3)
    have HR3 := Lib.hid (Blk.below HR1.out hb3 (Blk.lt HR1.out))
    have n3 : Q0 ≠ G0 := by have := HT1.out.lt; omega
    have n3' : G0 ≠ Q0 := fun e => n3 e.symm
    have n4 : R0 ≠ Q0 := by have := Blk.lt HR1.out; omega
    have n4' : Q0 ≠ R0 := fun e => n4 e.symm
    have HG4 := Lib.hid (show W.heap.size ≤ Q0 by have := HT1.out.bel.size; omega)
    clear hW3 hb3 hQ0
    go_upto_region 6 with (go_at_call 25; (with_reducible refine (N2.out _ HT3.out).mono ?_); rintro e u2 ⟨rfl, h1, k1⟩; have hq2 := k1.blk HQ.out n3 (by simp); have d0 := (Blk.cell hq2 0).trans rfl; have g0 := Blk.frozen hq2 0; have HT4 := Lib.hid (h1.set_ (p := ⟨Q0, 0, none⟩) HG4.out n3' (.int .u64 n)); have HQ4 := Lib.hid (Blk.set_ hq2 0 (.int .u64 n)); have HR4 := Lib.hid (Blk.far (k1.blk HR3.out n2 (by simp)) (p := ⟨Q0, 0, none⟩) n4 (.int .u64 n)); clear h1 k1 hq2)
    clear d0 g0
    go_upto_region 7 with (go_at_call 26; (with_reducible refine (N3.out _ HT4.out).mono ?_); rintro e u3 ⟨rfl, h1, k1⟩; have hq2 := k1.blk HQ4.out n3 (by simp); have d2 := (Blk.cell hq2 2).trans rfl; have d3 := (Blk.cell hq2 3).trans rfl; have d4 := (Blk.cell hq2 4).trans rfl; have d5 := (Blk.cell hq2 5).trans rfl; have g2 := Blk.frozen hq2 2; have g3 := Blk.frozen hq2 3; have g4 := Blk.frozen hq2 4; have g5 := Blk.frozen hq2 5; have HT5 := Lib.hid ((((h1.set_ (p := ⟨Q0, 2, none⟩) HG4.out n3' (.int .u32 o)).set_ (p := ⟨Q0, 3, none⟩) HG4.out n3' (.int .u16 s)).set_ (p := ⟨Q0, 4, none⟩) HG4.out n3' (.int .u16 t)).set_ (p := ⟨Q0, 5, none⟩) HG4.out n3' (.int .u32 q)); have HQ5 := Lib.hid ((((Blk.set_ hq2 2 (.int .u32 o)).set_ 3 (.int .u16 s)).set_ 4 (.int .u16 t)).set_ 5 (.int .u32 q)); have HR5 := Lib.hid ((((Blk.far (k1.blk HR4.out n2 (by simp)) (p := ⟨Q0, 2, none⟩) n4 (.int .u32 o)).far (p := ⟨Q0, 3, none⟩) n4 (.int .u16 s)).far (p := ⟨Q0, 4, none⟩) n4 (.int .u16 t)).far (p := ⟨Q0, 5, none⟩) n4 (.int .u32 q)); clear h1 k1 hq2)
    clear d2 d3 d4 d5 g2 g3 g4 g5
    obtain ⟨W5, hW5⟩ : ∃ W5, W5 = (((u3.setCell ⟨Q0, 2, none⟩ (.int .u32 o)).setCell ⟨Q0, 3, none⟩ (.int .u16 s)).setCell ⟨Q0, 4, none⟩ (.int .u16 t)).setCell ⟨Q0, 5, none⟩ (.int .u32 q) := ⟨_, rfl⟩
    rw [← hW5] at HT5 HQ5 HR5 ⊢
    clear hW5
    go_upto_region 8 with (go_at_call 25; (with_reducible refine (N4.out _ HT5.out).mono ?_); rintro e u4 ⟨rfl, h1, k1⟩; have hq2 := k1.blk HQ5.out n3 (by simp); have d6 := (Blk.cell hq2 6).trans rfl; have g6 := Blk.frozen hq2 6; have HT6 := Lib.hid (h1.set_ (p := ⟨Q0, 6, none⟩) HG4.out n3' (.int .u16 l)); have HQ6 := Lib.hid (Blk.set_ hq2 6 (.int .u16 l)); have HR6 := Lib.hid (Blk.far (k1.blk HR5.out n2 (by simp)) (p := ⟨Q0, 6, none⟩) n4 (.int .u16 l)); clear h1 k1 hq2)
    clear d6 g6
    obtain ⟨W6, hW6⟩ : ∃ W6, W6 = u4.setCell ⟨Q0, 6, none⟩ (.int .u16 l) := ⟨_, rfl⟩
    rw [← hW6] at HT6 HQ6 HR6 ⊢
    clear hW6
    have hQ6 : Blk W6 Q0 29 #[.int .u64 n, .int .i64 k, .int .u32 o, .int .u16 s, .int .u16 t, .int .u32 q, .int .u16 l, .slice none 0 0] := by simpa using HQ6.out
    obtain ⟨m, hm⟩ : ∃ m, m = (b.drop 23).length := ⟨_, rfl⟩
    have HM := Lib.hid hm
    obtain ⟨A7, c7, ht7⟩ := HT6.out
    have c0 : W6.cell? ⟨G0, 0, none⟩ = some (.slice A7 m c7) := (ht7.blk.cell 0).trans (by rw [hm]; rfl)
    have d7 := (Blk.cell hQ6 7).trans rfl
    have g7 := Blk.frozen hQ6 7
    have HQ7 := Lib.hid (show Blk (W6.setCell ⟨Q0, 7, none⟩ (.slice A7 m c7)) Q0 29 #[.int .u64 n, .int .i64 k, .int .u32 o, .int .u16 s, .int .u16 t, .int .u32 q, .int .u16 l, .slice A7 m c7] by simpa using Blk.set_ hQ6 7 (.slice A7 m c7))
    have HR7 := Lib.hid (Blk.far HR6.out (p := ⟨Q0, 7, none⟩) n4 (.slice A7 m c7))
    have HBE := Lib.hid ((HT6.out.set_ (p := ⟨Q0, 7, none⟩) HG4.out n3' (.slice A7 m c7)).bel)
    have HCD := Lib.hid (show (Kd.int .u8).C (W6.setCell ⟨Q0, 7, none⟩ (.slice A7 m c7)) A7 m (b.drop 23) by rw [hm]; exact Kd.C_of_reads (d := (0 : Int)) (ht7.rd.below (by rw [← hm]; exact HBE.out)))
    have HC0 := Lib.hid (show (Kd.int .u8).C W A7 m (b.drop 23) by rw [hm]; exact Kd.C_of_reads (d := (0 : Int)) ht7.rd)
    have HMC := Lib.hid (show m ≤ c7 by rw [hm]; exact ht7.cap)
    clear hm ht7 hQ6
    go_upto_region 9 with (fail)
    clear c0 d7 g7
    obtain ⟨W7, hW7⟩ : ∃ W7, W7 = W6.setCell ⟨Q0, 7, none⟩ (.slice A7 m c7) := ⟨_, rfl⟩
    rw [← hW7] at HQ7 HR7 HBE HCD ⊢
    clear hW7
    obtain ⟨⟨y0, y1, y2, y3, y4, y5, y6, y7⟩, _⟩ := blk8 HQ7.out
    have RC := Lib.hid (fun (bb : Bool) (hb : rightB k l (b.drop 23) = bb) => ref_right n k o s t q l A7 m c7 (b.drop 23) W7 HCD.out HM.out HMC.out bb hb)
    by_cases hrr : rightB k l (b.drop 23) = true
    · have RC1 := Lib.hid (RC.out true hrr)
      have HRR := Lib.hid hrr
      clear hrr RC
      go_wp2_with (go_at_call 11; (with_reducible refine RC1.out.mono ?_); rintro e v2 ⟨rfl, hb2⟩; have HKX := Lib.hid (Blk.below HR7.out hb2 (Blk.lt HR7.out)); have HCX := Lib.hid (Blk.below HQ7.out hb2 (Blk.lt HQ7.out)); have HBX := Lib.hid (HBE.out.trans (hb2.mono HBE.out.size)); have HDX := Lib.hid (Kd.C_below HCD.out hb2); clear hb2; obtain ⟨⟨z0, z1, z2, z3, z4, z5, z6, z7⟩, f0, f1, f2, f3, f4, f5, f6, f7⟩ := blk8 HKX.out; obtain ⟨⟨y0', y1', y2', y3', y4', y5', y6', y7'⟩, _⟩ := blk8 HCX.out)
      have hF := st8_blk (v0 := (.int .u64 n)) (v1 := (.int .i64 k)) (v2 := (.int .u32 o)) (v3 := (.int .u16 s)) (v4 := (.int .u16 t)) (v5 := (.int .u32 q)) (v6 := (.int .u16 l)) (v7 := (.slice A7 m c7)) HKX.out
      have hB8 := st8_below (v0 := (.int .u64 n)) (v1 := (.int .i64 k)) (v2 := (.int .u32 o)) (v3 := (.int .u16 s)) (v4 := (.int .u16 t)) (v5 := (.int .u32 q)) (v6 := (.int .u16 l)) (v7 := (.slice A7 m c7)) HBX.out (show W.heap.size ≤ R0 from Nat.le_of_eq HR0.out.symm)
      change bodyPost _ _ _ _ _ (st8 v2 R0 (.int .u64 n) (.int .i64 k) (.int .u32 o) (.int .u16 s) (.int .u16 t) (.int .u32 q) (.int .u16 l) (.slice A7 m c7))
      generalize st8 v2 R0 (.int .u64 n) (.int .i64 k) (.int .u32 o) (.int .u16 s) (.int .u16 t) (.int .u32 q) (.int .u16 l) (.slice A7 m c7) = WF at hF hB8 ⊢
      obtain ⟨⟨g0, g1, g2, g3, g4, g5, g6, g7⟩, _⟩ := blk8 hF
      refine bodyPost_ret (v := .tuple #[.agg #[.int .u64 n, .int .i64 k, .int .u32 o, .int .u16 s, .int .u16 t, .int .u32 q, .int .u16 l, .slice A7 m c7], .bool true]) (by simp [results, Try.results7, go_sem, g0, g1, g2, g3, g4, g5, g6, g7]) rfl ?_
      obtain ⟨q1, q2, q3, q4, q5, q6, q7⟩ := HL.out
      refine .inl ⟨A7, m, c7, ⟨H23.out, by rw [← q1, ← q7]; exact HRR.out⟩, HM.out, HMC.out, ?_, Kd.C_below HC0.out hB8, hB8⟩
      rw [← q1, ← q2, ← q3, ← q4, ← q5, ← q6, ← q7]; rfl
    · have RC1 := Lib.hid (RC.out false (by simpa using hrr))
      have HRR := Lib.hid hrr
      clear hrr RC
      go_wp2_with (go_at_call 11; (with_reducible refine RC1.out.mono ?_); rintro e v2 ⟨rfl, hb2⟩; have HKX := Lib.hid (Blk.below HR7.out hb2 (Blk.lt HR7.out)); have HBX := Lib.hid (HBE.out.trans (hb2.mono HBE.out.size)); clear hb2; obtain ⟨⟨z0, z1, z2, z3, z4, z5, z6, z7⟩, f0, f1, f2, f3, f4, f5, f6, f7⟩ := blk8 HKX.out)
      have hF := st8_blk (v0 := (.int .u64 0)) (v1 := (.int .i64 0)) (v2 := (.int .u32 0)) (v3 := (.int .u16 0)) (v4 := (.int .u16 0)) (v5 := (.int .u32 0)) (v6 := (.int .u16 0)) (v7 := (.slice none 0 0)) HKX.out
      have hB8 := st8_below (v0 := (.int .u64 0)) (v1 := (.int .i64 0)) (v2 := (.int .u32 0)) (v3 := (.int .u16 0)) (v4 := (.int .u16 0)) (v5 := (.int .u32 0)) (v6 := (.int .u16 0)) (v7 := (.slice none 0 0)) HBX.out (show W.heap.size ≤ R0 from Nat.le_of_eq HR0.out.symm)
      change bodyPost _ _ _ _ _ (st8 v2 R0 (.int .u64 0) (.int .i64 0) (.int .u32 0) (.int .u16 0) (.int .u16 0) (.int .u32 0) (.int .u16 0) (.slice none 0 0))
      generalize st8 v2 R0 (.int .u64 0) (.int .i64 0) (.int .u32 0) (.int .u16 0) (.int .u16 0) (.int .u32 0) (.int .u16 0) (.slice none 0 0) = WF at hF hB8 ⊢
      obtain ⟨⟨g0, g1, g2, g3, g4, g5, g6, g7⟩, _⟩ := blk8 hF
      refine bodyPost_ret (v := .tuple #[.agg #[.int .u64 0, .int .i64 0, .int .u32 0, .int .u16 0, .int .u16 0, .int .u32 0, .int .u16 0, .slice none 0 0], .bool false]) (by simp [results, Try.results7, go_sem, g0, g1, g2, g3, g4, g5, g6, g7]) rfl ?_
      obtain ⟨q1, q2, q3, q4, q5, q6, q7⟩ := HL.out
      exact .inr ⟨fun h => HRR.out (by rw [q1, q7]; exact h.2), rfl, hB8⟩
  · have hd1 : decide ((N : Int) < 23) = true := by simp; omega
    have hd2 : (N : Int) < 23 := by omega
    obtain ⟨⟨z0, z1, z2, z3, z4, z5, z6, z7⟩, f0, f1, f2, f3, f4, f5, f6, f7⟩ := blk8 hblk
    have H23 := Lib.hid h23
    clear hW1 hb1 hblk hz1 hR0 hN hl hb hc hr h23
    go_enter Try.func7, Try.ntmps7
    go_upto_region 2 with (fail)
    rw [← HW1.out, ← HR0.out]
    go_wp2
    have hF := st8_blk (v0 := (.int .u64 0)) (v1 := (.int .i64 0)) (v2 := (.int .u32 0)) (v3 := (.int .u16 0)) (v4 := (.int .u16 0)) (v5 := (.int .u32 0)) (v6 := (.int .u16 0)) (v7 := (.slice none 0 0)) HBK.out
    have hB8 := st8_below (v0 := (.int .u64 0)) (v1 := (.int .i64 0)) (v2 := (.int .u32 0)) (v3 := (.int .u16 0)) (v4 := (.int .u16 0)) (v5 := (.int .u32 0)) (v6 := (.int .u16 0)) (v7 := (.slice none 0 0)) HB1.out (show W.heap.size ≤ R0 from Nat.le_of_eq HR0.out.symm)
    change bodyPost _ _ _ _ _ (st8 W1 R0 (.int .u64 0) (.int .i64 0) (.int .u32 0) (.int .u16 0) (.int .u16 0) (.int .u32 0) (.int .u16 0) (.slice none 0 0))
    generalize st8 W1 R0 (.int .u64 0) (.int .i64 0) (.int .u32 0) (.int .u16 0) (.int .u16 0) (.int .u32 0) (.int .u16 0) (.slice none 0 0) = WF at hF hB8 ⊢
    obtain ⟨⟨g0, g1, g2, g3, g4, g5, g6, g7⟩, _⟩ := blk8 hF
    refine bodyPost_ret (v := .tuple #[.agg #[.int .u64 0, .int .i64 0, .int .u32 0, .int .u16 0, .int .u16 0, .int .u32 0, .int .u16 0, .slice none 0 0], .bool false]) (by simp [results, Try.results7, go_sem, g0, g1, g2, g3, g4, g5, g6, g7]) rfl ?_
    exact .inr ⟨fun h => H23.out h.1, rfl, hB8⟩
end Go.Proofs.Ytckcnanklekchaa.Pack
