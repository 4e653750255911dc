/- The program's ParseRequest and Bytes. -/
import Derived.Test.YtckcnanklekchaaProg
import Derived.Below
import Derived.Deep.Draws
import Derived.Deep.AppendLies
import Derived.Maps.AppendAt
import Derived.OwnWalk
import Derived.Laws.BytesArg
import Derived.Laws.MakeOwn
import Derived.Laws.OwnMore
import Derived.Deep.OwnRows
import Derived.Tactics
import Derived.Lib.ConvBytes
import Derived.Laws.Slices
import Derived.WalkKit
import Derived.KernelRfl
import Derived.RowKit3
import Derived.Deep.LoopGhost
import Derived.Deep.QuietTactic
import Derived.BigQuiet
import Derived.WideLaws
import Derived.Deep.DeepCutAuto
import Derived.Deep.CutBlock
import Derived.Deep.RegionHeld3
import Derived.Laws.Rows
import Derived.Lib.AppendStr
import Derived.ArgAppend
import Derived.Laws.IdiomCopy
import Derived.OrdersHeld
import Derived.Laws.BitsLemmas
import Derived.RowKit
import Derived.Lib.Hide
import Derived.WalkSpells
import Derived.StillTailTactics
import Derived.Outline
import Derived.Test.YtckcnanklekchaaBWireRequestsWire1
namespace Go.Proofs.Ytckcnanklekchaa.Pack
open Go Go.RowKit Go.Proofs.Ytckcnanklekchaa.PWireRequests Go.Proofs.Ytckcnanklekchaa.Mem Go.Proofs.Ytckcnanklekchaa.Bits Go.Proofs.YtckcnanklekchaaW.PrintWords Go.Proofs.YtckcnanklekchaaW.PrintLast
set_option linter.unusedVariables false

/-- A request's value. -/
def reqV (n k o s t g l : Int) (v : Value) : Value := .agg #[.int .u64 n, .int .i64 k, .int .u32 o, .int .u16 s, .int .u16 t, .int .u32 g, .int .u16 l, v]
def reqC (n k o s t g l : Int) (v : Value) : Array Value := #[.int .u64 n, .int .i64 k, .int .u32 o, .int .u16 s, .int .u16 t, .int .u32 g, .int .u16 l, v]
theorem right_calls (n k o s t g l : Int) (A : Option Addr) (m c : Nat) (data : List Int) (W : World) (hr : (Kd.int .u8).C W A m data) (hm : m = data.length) (hc : m ≤ c) (b : Bool) (hb : rightB k l data = b) :
    Calls Try.prog 10 #[.agg #[.int .u64 n, .int .i64 k, .int .u32 o, .int .u16 s, .int .u16 t, .int .u32 g, .int .u16 l, .slice A m c]] W fun e w' => e = .returned (.bool b) ∧ Below W.heap.size W w' := by
  subst hm hb
  exact wire_Request_Right.calls n k o s t g l A c data _ W hr hc (right_f n k o s t g l data)
/-- What reading a request tells: a request that may be, or none. -/
def ParsePost (b : List Int) (W : World) (e : Ending) (w' : World) : Prop :=
  (∃ (A : Option Addr) (m c : Nat), (23 ≤ b.length ∧ rightB (qKind b) (qLost b) (b.drop 23) = true) ∧ m = (b.drop 23).length ∧ m ≤ c ∧
    e = .returned (.tuple #[reqV (qNum b) (qKind b) (qO b) (qS b) (qT b) (qG b) (qLost b) (.slice A m c), .int .i64 0]) ∧ (Kd.int .u8).C w' A m (b.drop 23) ∧ Below W.heap.size W w') ∨
  (¬ (23 ≤ b.length ∧ rightB (qKind b) (qLost b) (b.drop 23) = true) ∧ e = .returned (.tuple #[reqV 0 0 0 0 0 0 0 (.slice none 0 0), .int .i64 21]) ∧ Below W.heap.size W w')
theorem num_t {w W : World} {base g d : Nat} {xs : List Int} {torn : Bool} (h : RdS w base g d W xs torn) (size : Int) (n : Nat) (ys : List Int) (t : Bool) (hr : numR size xs torn = (n, ys, t)) :
    Calls Try.prog 21 #[.pointer (some ⟨g, 0, none⟩), .int .i64 size] W fun e w' => e = .returned (.int .u64 n) ∧ RdS w base g d w' ys t := by
  refine (num_k h size _ hr).mono ?_
  rintro e w' ⟨h1, h2, _⟩
  exact ⟨h1, h2⟩
theorem rshard_t {w W : World} {base g d : Nat} {xs : List Int} {torn : Bool} (h : RdS w base g d W xs torn) (v : Value) (ys : List Int) (t : Bool) (hv : shardV xs torn = v) (hr : (s4R xs torn).2 = (ys, t)) :
    Calls Try.prog 22 #[.pointer (some ⟨g, 0, none⟩)] W fun e w' => e = .returned v ∧ RdS w base g d w' ys t := by
  subst hv
  refine (rshard_s h).mono ?_
  rintro e w' ⟨h1, h2⟩
  rw [hr] at h2
  exact ⟨h1, h2⟩
/-- What the chain of takes comes to. -/
structure Chain (b : List Int) (n k o s t g l : Nat) (x1 x2 x3 x4 : List Int) (t1 t2 t3 t4 : Bool) : Prop where
  e1 : numR 1 b false = (k, x1, t1)
  e2 : numR 8 x1 t1 = (n, x2, t2)
  ev : shardV x2 t2 = .agg #[.int .u32 o, .int .u16 s, .int .u16 t, .int .u32 g]
  e3 : (s4R x2 t2).2 = (x3, t3)
  e4 : numR 2 x3 t3 = (l, x4, t4)
  kb : k < 256
  lb : l < 65536
theorem chain (b : List Int) (hb : AllB b) : ∃ n k o s t g l x1 x2 x3 x4 t1 t2 t3 t4, Chain b n k o s t g l x1 x2 x3 x4 t1 t2 t3 t4 ∧ (t4 = false → 23 ≤ b.length ∧ n = qNum b ∧ k = qKind b ∧ o = qO b ∧ s = qS b ∧ t = qT b ∧ g = qG b ∧ l = qLost b ∧ x4 = b.drop 23) ∧ (23 ≤ b.length → t4 = false) := by
  have h1 := numR_b 1 b false hb
  have h2 := numR_b 8 (p1 b).2.1 (p1 b).2.2 h1
  have h3 := numR_b 4 (p2 b).2.1 (p2 b).2.2 h2
  have h4 := numR_b 2 (s1R (p2 b).2.1 (p2 b).2.2).2.1 (s1R (p2 b).2.1 (p2 b).2.2).2.2 h3
  have h5 := numR_b 2 (s2R (p2 b).2.1 (p2 b).2.2).2.1 (s2R (p2 b).2.1 (p2 b).2.2).2.2 h4
  have h6 := numR_b 4 (s3R (p2 b).2.1 (p2 b).2.2).2.1 (s3R (p2 b).2.1 (p2 b).2.2).2.2 h5
  have hkb : (p1 b).1 < 256 := numR_lt 1 b false hb (by decide)
  have hlb : (p4 b).1 < 65536 := numR_lt 2 (p3 b).2.1 (p3 b).2.2 h6 (by decide)
  clear h1 h2 h3 h4 h5 h6
  have q1 : numR 1 b false = p1 b := rfl
  have q2 : numR 8 (p1 b).2.1 (p1 b).2.2 = p2 b := rfl
  have q3 : s4R (p2 b).2.1 (p2 b).2.2 = p3 b := rfl
  have q4 : numR 2 (p3 b).2.1 (p3 b).2.2 = p4 b := rfl
  have qb := chain_bad b
  have qo := chain_ok b
  rw [q3] at qo
  obtain ⟨⟨k, x1, t1⟩, e1⟩ : ∃ r, p1 b = r := ⟨_, rfl⟩
  obtain ⟨⟨n, x2, t2⟩, e2⟩ : ∃ r, p2 b = r := ⟨_, rfl⟩
  obtain ⟨⟨g, x3, t3⟩, e3⟩ : ∃ r, p3 b = r := ⟨_, rfl⟩
  obtain ⟨⟨l, x4, t4⟩, e4⟩ : ∃ r, p4 b = r := ⟨_, rfl⟩
  rw [e1] at q1 q2 hkb qo
  rw [e2] at q2 q3 qo
  rw [e3] at q3 q4 qo
  rw [e4] at q4 hlb qo qb
  simp only at q1 q2 q3 q4 hkb hlb qo qb
  refine ⟨n, k, (s1R x2 t2).1, (s2R x2 t2).1, (s3R x2 t2).1, g, l, x1, x2, x3, x4, t1, t2, t3, t4, ⟨q1, q2, by unfold shardV; rw [q3], by rw [q3], q4, hkb, hlb⟩, ?_, ?_⟩
  · intro h
    have hl : 23 ≤ b.length := by
      rcases Nat.lt_or_ge b.length 23 with h' | h'
      · rw [qb h'] at h; cases h
      · exact h'
    obtain ⟨a1, a2, a3, a4, a5, a6, a7, a8⟩ := qo hl
    simp only [Prod.mk.injEq] at a8
    exact ⟨hl, a2, a1, a3, a4, a5, a6, a7, a8.1⟩
  · intro hl
    obtain ⟨a1, a2, a3, a4, a5, a6, a7, a8⟩ := qo hl
    simp only [Prod.mk.injEq] at a8
    exact a8.2
/-- A struct of eight cells stored. -/
def st8 (W : World) (g : Nat) (v0 v1 v2 v3 v4 v5 v6 v7 : Value) : World :=
  (((((((W.setCell ⟨g, 0, none⟩ v0).setCell ⟨g, 1, none⟩ v1).setCell ⟨g, 2, none⟩ v2).setCell ⟨g, 3, none⟩ v3).setCell ⟨g, 4, none⟩ v4).setCell ⟨g, 5, none⟩ v5).setCell ⟨g, 6, none⟩ v6).setCell ⟨g, 7, none⟩ v7
section
variable {w W : World} {g : Nat} {t : TypeId} {a0 a1 a2 a3 a4 a5 a6 a7 v0 v1 v2 v3 v4 v5 v6 v7 : Value}
theorem st8_blk (h : Blk W g t #[a0, a1, a2, a3, a4, a5, a6, a7]) : Blk (st8 W g v0 v1 v2 v3 v4 v5 v6 v7) g t #[v0, v1, v2, v3, v4, v5, v6, v7] := by
  have := (((((((h.set_ 0 v0).set_ 1 v1).set_ 2 v2).set_ 3 v3).set_ 4 v4).set_ 5 v5).set_ 6 v6).set_ 7 v7
  simpa [st8] using this
theorem st8_below {B : Nat} (h : Below B w W) (hB : B ≤ g) : Below B w (st8 W g v0 v1 v2 v3 v4 v5 v6 v7) :=
  (((((((h.setCell (p := ⟨g, 0, none⟩) hB _).setCell (p := ⟨g, 1, none⟩) hB _).setCell (p := ⟨g, 2, none⟩) hB _).setCell (p := ⟨g, 3, none⟩) hB _).setCell (p := ⟨g, 4, none⟩) hB _).setCell (p := ⟨g, 5, none⟩) hB _).setCell (p := ⟨g, 6, none⟩) hB _).setCell (p := ⟨g, 7, none⟩) hB _
theorem st8_own {base n : Nat} {e : TypeId} {size : Nat} {v : Value} {xs : List Value} (h : W.ownsRow base e size v n xs) (hne : some g ≠ v.ownBlock) : (st8 W g v0 v1 v2 v3 v4 v5 v6 v7).ownsRow base e size v n xs :=
  own_setCell (own_setCell (own_setCell (own_setCell (own_setCell (own_setCell (own_setCell (own_setCell h (p := ⟨g, 0, none⟩) hne _) (p := ⟨g, 1, none⟩) hne _) (p := ⟨g, 2, none⟩) hne _) (p := ⟨g, 3, none⟩) hne _) (p := ⟨g, 4, none⟩) hne _) (p := ⟨g, 5, none⟩) hne _) (p := ⟨g, 6, none⟩) hne _) (p := ⟨g, 7, none⟩) hne _
theorem blk8 (h : Blk W g t #[a0, a1, a2, a3, a4, a5, a6, a7]) : (W.cell? ⟨g, 0, none⟩ = some a0 ∧ W.cell? ⟨g, 1, none⟩ = some a1 ∧ W.cell? ⟨g, 2, none⟩ = some a2 ∧ W.cell? ⟨g, 3, none⟩ = some a3 ∧ W.cell? ⟨g, 4, none⟩ = some a4 ∧ W.cell? ⟨g, 5, none⟩ = some a5 ∧ W.cell? ⟨g, 6, none⟩ = some a6 ∧ W.cell? ⟨g, 7, none⟩ = some a7) ∧
    (W.frozen? ⟨g, 0, none⟩ = false ∧ W.frozen? ⟨g, 1, none⟩ = false ∧ W.frozen? ⟨g, 2, none⟩ = false ∧ W.frozen? ⟨g, 3, none⟩ = false ∧ W.frozen? ⟨g, 4, none⟩ = false ∧ W.frozen? ⟨g, 5, none⟩ = false ∧ W.frozen? ⟨g, 6, none⟩ = false ∧ W.frozen? ⟨g, 7, none⟩ = false) :=
  ⟨⟨(h.cell 0).trans rfl, (h.cell 1).trans rfl, (h.cell 2).trans rfl, (h.cell 3).trans rfl, (h.cell 4).trans rfl, (h.cell 5).trans rfl, (h.cell 6).trans rfl, (h.cell 7).trans rfl⟩, h.frozen 0, h.frozen 1, h.frozen 2, h.frozen 3, h.frozen 4, h.frozen 5, h.frozen 6, h.frozen 7⟩
end
set_option maxRecDepth 100000 in
set_option maxHeartbeats 2000000 in
theorem parse_any (A : Option Addr) (c : Nat) (b : List Int) (w0 W : World) (hB : Below w0.heap.size w0 W) (hr : (Kd.int .u8).C w0 A b.length b) (hc : b.length ≤ c) (hl : b.length ≤ 900000) (hb : AllB b) :
    Calls Try.prog 6 #[.slice A b.length c] W (ParsePost b W) := by
  obtain ⟨n, k, o, s, t, g, l, x1, x2, x3, x4, t1, t2, t3, t4, hch, hg1, hg2⟩ := chain b hb
  obtain ⟨W1, hW1⟩ : ∃ W1, W1 = W.alloc (.cells #[.int .u64 0, .int .i64 0, .int .u32 0, .int .u16 0, .int .u16 0, .int .u32 0, .int .u16 0, .slice none 0 0] 31) := ⟨_, rfl⟩
  have hb1 : Below W.heap.size W W1 := by rw [hW1]; exact (Below.refl _ _).alloc (Nat.le_refl _) _
  have hblk : Blk W1 W.heap.size 31 #[.int .u64 0, .int .i64 0, .int .u32 0, .int .u16 0, .int .u16 0, .int .u32 0, .int .u16 0, .slice none 0 0] := by rw [hW1]; exact Blk.new _ _ _
  have hrd := Kd.reads_of_C (d := (0 : Int)) (Kd.C_below hr (hB.trans (hb1.mono hB.size)))
  have hlt : W.heap.size < W1.heap.size := hblk.lt
  obtain ⟨d, hd1, hd2⟩ : ∃ d, (∀ ad, A = some ad → 0 < b.length → ad.block = d) ∧ d ≠ W1.heap.size := by
    by_cases h0 : 0 < b.length
    · obtain ⟨ad', e', hcell⟩ := (Kd.reads_of_C (d := (0 : Int)) (Kd.C_below hr hB)).2.2 h0
      have := World.block_lt_of_cell? W _ (hcell 0 h0)
      rw [Mem.block_of_add] at this
      exact ⟨ad'.block, fun ad e _ => by rw [e] at e'; cases e'; rfl, by omega⟩
    · exact ⟨W1.heap.size + 1, fun ad e h => absurd h h0, by omega⟩
  have RN := Lib.hid (read_new W1.heap.size d A c b W1 hrd (Nat.le_refl _) hc (by omega) hb hd1 hd2)
  have HB1 := Lib.hid hb1
  have HBK := Lib.hid hblk
  have CH := Lib.hid hch
  have G1 := Lib.hid hg1
  have G2 := Lib.hid hg2
  have HLT := Lib.hid hlt
  have e1 : IntKind.i64.wrap (k : Int) = (k : Int) := wraps_i64 _ (by omega) (by have := hch.kb; omega)
  have e2 : IntKind.u16.wrap (l : Int) = (l : Int) := w_u16 _ hch.lb
  have HW1 := Lib.hid hW1
  obtain ⟨N, hN⟩ : ∃ N, N = b.length := ⟨_, rfl⟩
  rw [← hN] at RN ⊢
  clear hN hch hg1 hg2 hblk hb1 hrd hd1 hd2 hr hc hl hW1 hlt
  go_enter Try.func6, Try.ntmps6
  go_upto_region 2 with (rw [← HW1.out]; go_at_call 20; (with_reducible refine RN.out.mono ?_); rintro e w1 ⟨rfl, hrs, hb⟩; have HR0 := Lib.hid hrs; have HB2 := Lib.hid (HB1.out.trans (hb.mono (Nat.le_of_lt HLT.out))); have HK1 := Lib.hid (Blk.below HBK.out hb (Blk.lt HBK.out)); clear hrs hb)
  go_upto_region 3 with (first
    | (go_at_call 21; (with_reducible refine (num_t HR0.out 1 k x1 t1 CH.out.e1).mono ?_); rintro e u1 ⟨rfl, h1⟩; have HR1 := Lib.hid h1; clear h1 HR0)
    | (go_at_call 21; (with_reducible refine (num_t HR1.out 8 n x2 t2 CH.out.e2).mono ?_); rintro e u2 ⟨rfl, h1⟩; have HR2 := Lib.hid h1; clear h1 HR1)
    | (go_at_call 22; (with_reducible refine (rshard_t HR2.out _ x3 t3 CH.out.ev CH.out.e3).mono ?_); rintro e u3 ⟨rfl, h1⟩; have HR3 := Lib.hid h1; clear h1 HR2)
    | (go_at_call 21; (with_reducible refine (num_t HR3.out 2 l x4 t4 CH.out.e4).mono ?_); rintro e u4 ⟨rfl, h1⟩; have HR4 := Lib.hid h1; clear h1 HR3)
    | (go_at_call 23; (with_reducible refine (rest_s HR4.out).mono ?_); rintro e u5 ⟨A5, c5, rfl, ho, h1, _⟩; have HR5 := Lib.hid h1; have HO5 := Lib.hid ho; clear h1 ho))
  have hlt5 : W.heap.size < u5.heap.size := by have h1 := Blk.lt HK1.out; have h2 := HR5.out.dn.keep.1; omega
  have hk5 : Blk u5 W.heap.size 31 _ := HR5.out.dn.keep.blk HK1.out (Nat.ne_of_lt HLT.out) (by simp)
  obtain ⟨W5, hW5⟩ : ∃ W5, W5 = u5.alloc (.cells #[.int .u64 n, .int .i64 k, .int .u32 o, .int .u16 s, .int .u16 t, .int .u32 g, .int .u16 l, .slice A5 x4.length c5] 31) := ⟨_, rfl⟩
  have hb5 : Below u5.heap.size u5 W5 := by rw [hW5]; exact (Below.refl _ _).alloc (Nat.le_refl _) _
  have HKZ := Lib.hid (Blk.below hk5 hb5 hk5.lt)
  have HC5 := Lib.hid (show Blk W5 u5.heap.size 31 #[.int .u64 n, .int .i64 k, .int .u32 o, .int .u16 s, .int .u16 t, .int .u32 g, .int .u16 l, .slice A5 x4.length c5] by rw [hW5]; exact Blk.new _ _ _)
  have HOW := Lib.hid (pw_own_below HO5.out hb5)
  have HRW := Lib.hid (HR5.out.next hb5)
  have HBW := Lib.hid (show Below W.heap.size W W5 from (HB2.out.trans (HR5.out.dn.bel.mono (Nat.le_of_lt HLT.out))).trans (hb5.mono (Nat.le_of_lt hlt5)))
  have HZ4 := Lib.hid (show W.heap.size < u4.heap.size by have h1 := Blk.lt HK1.out; have h2 := HR4.out.dn.keep.1; omega)
  have HW5 := Lib.hid hW5
  rw [← hW5]
  obtain ⟨b5, hb5'⟩ : ∃ b5, b5 = u5.heap.size := ⟨_, rfl⟩
  rw [← hb5'] at HC5 ⊢
  obtain ⟨R0, hR0⟩ : ∃ R0, R0 = W.heap.size := ⟨_, rfl⟩
  have HR0e := Lib.hid hR0
  rw [← hR0] at HKZ ⊢
  obtain ⟨m, hm⟩ : ∃ m, m = x4.length := ⟨_, rfl⟩
  rw [← hm] at HC5 HOW ⊢
  have HM := Lib.hid hm
  clear hk5 hb5 hW5 hb5' hR0 hm hlt5 HB1 HBK HW1
  cases t4
  case true =>
    obtain ⟨⟨z0, z1, z2, z3, z4, z5, z6, z7⟩, f0, f1, f2, f3, f4, f5, f6, f7⟩ := blk8 HKZ.out
    go_wp2_with (go_at_call 24; (with_reducible refine (torn_s HRW.out).mono ?_); rintro e v1 ⟨rfl, rfl⟩)
    have hF := st8_blk (v0 := (.int .u64 0)) (v1 := (.int .i64 0)) (v2 := (.int .u32 0)) (v3 := (.int .u16 0)) (v4 := (.int .u16 0)) (v5 := (.int .u32 0)) (v6 := (.int .u16 0)) (v7 := (.slice none 0 0)) HKZ.out
    have hB8 := st8_below (v0 := (.int .u64 0)) (v1 := (.int .i64 0)) (v2 := (.int .u32 0)) (v3 := (.int .u16 0)) (v4 := (.int .u16 0)) (v5 := (.int .u32 0)) (v6 := (.int .u16 0)) (v7 := (.slice none 0 0)) HBW.out (show W.heap.size ≤ R0 from Nat.le_of_eq HR0e.out.symm)
    change bodyPost _ _ _ _ _ (st8 W5 R0 (.int .u64 0) (.int .i64 0) (.int .u32 0) (.int .u16 0) (.int .u16 0) (.int .u32 0) (.int .u16 0) (.slice none 0 0))
    generalize st8 W5 R0 (.int .u64 0) (.int .i64 0) (.int .u32 0) (.int .u16 0) (.int .u16 0) (.int .u32 0) (.int .u16 0) (.slice none 0 0) = WF at hF hB8 ⊢
    obtain ⟨⟨g0, g1, g2, g3, g4, g5, g6, g7⟩, _⟩ := blk8 hF
    refine bodyPost_ret (v := .tuple #[.agg #[.int .u64 0, .int .i64 0, .int .u32 0, .int .u16 0, .int .u16 0, .int .u32 0, .int .u16 0, .slice none 0 0], .int .i64 21]) (by simp [results, Try.results6, go_sem, g0, g1, g2, g3, g4, g5, g6, g7]) rfl ?_
    exact .inr ⟨(fun h => by have := G2.out h.1; cases this), rfl, hB8⟩
  case false =>
    obtain ⟨⟨y0, y1, y2, y3, y4, y5, y6, y7⟩, _⟩ := blk8 HC5.out
    have HDT := Lib.hid (show (Kd.int .u8).C W5 A5 m x4 from Kd.C_of_reads (d := (0 : Int)) (own_reads' HOW.out))
    obtain ⟨rr, hrr⟩ : ∃ rr, rightB k l x4 = rr := ⟨_, rfl⟩
    have HRR := Lib.hid hrr
    clear hrr
    cases rr
    case false =>
      go_wp2_with (first
        | (go_at_call 24; (with_reducible refine (torn_s HRW.out).mono ?_); rintro e v1 ⟨rfl, rfl⟩)
        | (go_at_call 10; (with_reducible refine (right_calls n k o s t g l A5 m c5 x4 _ HDT.out HM.out (own_le HOW.out) _ HRR.out).mono ?_); rintro e v2 ⟨rfl, hb2⟩; have HKX := Lib.hid (HKZ.out.below hb2 HKZ.out.lt); have HCX := Lib.hid (HC5.out.below hb2 HC5.out.lt); have HOX := Lib.hid (pw_own_below HOW.out hb2); have HBX := Lib.hid (HBW.out.trans (hb2.mono HBW.out.size)); clear hb2; obtain ⟨⟨z0, z1, z2, z3, z4, z5, z6, z7⟩, f0, f1, f2, f3, f4, f5, f6, f7⟩ := blk8 HKX.out; obtain ⟨⟨y0', y1', y2', y3', y4', y5', y6', y7'⟩, _⟩ := blk8 HCX.out))
      have hF := st8_blk (v0 := (.int .u64 0)) (v1 := (.int .i64 0)) (v2 := (.int .u32 0)) (v3 := (.int .u16 0)) (v4 := (.int .u16 0)) (v5 := (.int .u32 0)) (v6 := (.int .u16 0)) (v7 := (.slice none 0 0)) HKX.out
      have hB8 := st8_below (v0 := (.int .u64 0)) (v1 := (.int .i64 0)) (v2 := (.int .u32 0)) (v3 := (.int .u16 0)) (v4 := (.int .u16 0)) (v5 := (.int .u32 0)) (v6 := (.int .u16 0)) (v7 := (.slice none 0 0)) HBX.out (show W.heap.size ≤ R0 from Nat.le_of_eq HR0e.out.symm)
      change bodyPost _ _ _ _ _ (st8 v2 R0 (.int .u64 0) (.int .i64 0) (.int .u32 0) (.int .u16 0) (.int .u16 0) (.int .u32 0) (.int .u16 0) (.slice none 0 0))
      generalize st8 v2 R0 (.int .u64 0) (.int .i64 0) (.int .u32 0) (.int .u16 0) (.int .u16 0) (.int .u32 0) (.int .u16 0) (.slice none 0 0) = WF at hF hB8 ⊢
      obtain ⟨⟨g0, g1, g2, g3, g4, g5, g6, g7⟩, _⟩ := blk8 hF
      refine bodyPost_ret (v := .tuple #[.agg #[.int .u64 0, .int .i64 0, .int .u32 0, .int .u16 0, .int .u16 0, .int .u32 0, .int .u16 0, .slice none 0 0], .int .i64 21]) (by simp [results, Try.results6, go_sem, g0, g1, g2, g3, g4, g5, g6, g7]) rfl ?_
      refine .inr ⟨fun h => ?_, rfl, hB8⟩
      obtain ⟨_, _, q3, _, _, _, _, q8, q9⟩ := G1.out (by first | rfl | trivial)
      rw [q3, q8, q9] at HRR
      rw [h.2] at HRR
      exact absurd HRR.out (by decide)
    case true =>
      go_wp2_with (first
        | (go_at_call 24; (with_reducible refine (torn_s HRW.out).mono ?_); rintro e v1 ⟨rfl, rfl⟩)
        | (go_at_call 10; (with_reducible refine (right_calls n k o s t g l A5 m c5 x4 _ HDT.out HM.out (own_le HOW.out) _ HRR.out).mono ?_); rintro e v2 ⟨rfl, hb2⟩; have HKX := Lib.hid (HKZ.out.below hb2 HKZ.out.lt); have HCX := Lib.hid (HC5.out.below hb2 HC5.out.lt); have HOX := Lib.hid (pw_own_below HOW.out hb2); have HBX := Lib.hid (HBW.out.trans (hb2.mono HBW.out.size)); clear hb2; obtain ⟨⟨z0, z1, z2, z3, z4, z5, z6, z7⟩, f0, f1, f2, f3, f4, f5, f6, f7⟩ := blk8 HKX.out; obtain ⟨⟨y0', y1', y2', y3', y4', y5', y6', y7'⟩, _⟩ := blk8 HCX.out))
      have hF := st8_blk (v0 := (.int .u64 n)) (v1 := (.int .i64 k)) (v2 := (.int .u32 o)) (v3 := (.int .u16 s)) (v4 := (.int .u16 t)) (v5 := (.int .u32 g)) (v6 := (.int .u16 l)) (v7 := (.slice A5 m c5)) HKX.out
      have hB8 := st8_below (v0 := (.int .u64 n)) (v1 := (.int .i64 k)) (v2 := (.int .u32 o)) (v3 := (.int .u16 s)) (v4 := (.int .u16 t)) (v5 := (.int .u32 g)) (v6 := (.int .u16 l)) (v7 := (.slice A5 m c5)) HBX.out (show W.heap.size ≤ R0 from Nat.le_of_eq HR0e.out.symm)
      have hO8 := st8_own (g := R0) (v0 := (.int .u64 n)) (v1 := (.int .i64 k)) (v2 := (.int .u32 o)) (v3 := (.int .u16 s)) (v4 := (.int .u16 t)) (v5 := (.int .u32 g)) (v6 := (.int .u16 l)) (v7 := (.slice A5 m c5)) HOX.out (fun e => by have := own_base HOX.out _ e.symm; have := HR0e.out; have := HZ4.out; omega)
      change bodyPost _ _ _ _ _ (st8 v2 R0 (.int .u64 n) (.int .i64 k) (.int .u32 o) (.int .u16 s) (.int .u16 t) (.int .u32 g) (.int .u16 l) (.slice A5 m c5))
      generalize st8 v2 R0 (.int .u64 n) (.int .i64 k) (.int .u32 o) (.int .u16 s) (.int .u16 t) (.int .u32 g) (.int .u16 l) (.slice A5 m c5) = WF at hF hB8 hO8 ⊢
      obtain ⟨⟨g0, g1, g2, g3, g4, g5, g6, g7⟩, _⟩ := blk8 hF
      refine bodyPost_ret (v := .tuple #[.agg #[.int .u64 n, .int .i64 k, .int .u32 o, .int .u16 s, .int .u16 t, .int .u32 g, .int .u16 l, .slice A5 m c5], .int .i64 0]) (by simp [results, Try.results6, go_sem, g0, g1, g2, g3, g4, g5, g6, g7]) rfl ?_
      obtain ⟨q1, q2, q3, q4, q5, q6, q7, q8, q9⟩ := G1.out (by first | rfl | trivial)
      rw [q3, q8, q9] at HRR
      refine .inl ⟨A5, m, c5, ⟨q1, HRR.out⟩, by rw [HM.out, q9], own_le hO8, ?_, ?_, hB8⟩
      · rw [← q2, ← q3, ← q4, ← q5, ← q6, ← q7, ← q8]; rfl
      · rw [← q9]; exact Kd.C_of_reads (d := (0 : Int)) (own_reads' hO8)
end Go.Proofs.Ytckcnanklekchaa.Pack
