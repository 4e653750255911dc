/- The reader's other methods. -/
import Derived.Test.YtckcnanklekchaaProg
import Derived.Below
import Derived.Deep.Draws
import Derived.Deep.AppendLies
import Derived.Maps.AppendAt
import Derived.OwnWalk
import Derived.Laws.BytesArg
import Derived.Laws.MakeOwn
import Derived.Laws.OwnMore
import Derived.Deep.OwnRows
import Derived.Tactics
import Derived.Lib.ConvBytes
import Derived.Laws.Slices
import Derived.WalkKit
import Derived.KernelRfl
import Derived.RowKit3
import Derived.Deep.LoopGhost
import Derived.Deep.QuietTactic
import Derived.BigQuiet
import Derived.WideLaws
import Derived.Deep.DeepCutAuto
import Derived.Deep.CutBlock
import Derived.Deep.RegionHeld3
import Derived.Laws.Rows
import Derived.Lib.AppendStr
import Derived.ArgAppend
import Derived.Laws.IdiomCopy
import Derived.OrdersHeld
import Derived.Laws.BitsLemmas
import Derived.RowKit
import Derived.Lib.Hide
import Derived.WalkSpells
import Derived.StillTailTactics
import Derived.Outline
import Derived.Test.YtckcnanklekchaaPack3
namespace Go.Proofs.Ytckcnanklekchaa.Pack
open Go Go.RowKit Go.Proofs.Ytckcnanklekchaa.Mem Go.Proofs.Ytckcnanklekchaa.Bits Go.Proofs.YtckcnanklekchaaW.PrintWords
set_option linter.unusedVariables false

/-- Where a reader is, since w. -/
structure RdS (w : World) (base g d : Nat) (w' : World) (xs : List Int) (torn : Bool) : Prop where
  dn : RdTo w base g d w' xs torn
  len : xs.length ≤ 1000000
  byt : AllB xs
section
variable {w W W' : World} {base g d : Nat} {xs ys : List Int} {torn torn' : Bool}
theorem RdS.next (h : RdS w base g d W xs torn) (hb : Below W.heap.size W W') : RdS w base g d W' xs torn := ⟨h.dn.next hb, h.len, h.byt⟩
theorem rawR_short (m : Int) (xs : List Int) (torn : Bool) : (rawR m xs torn).1.length ≤ xs.length ∧ (rawR m xs torn).2.1.length ≤ xs.length := by
  unfold rawR
  split
  · simp only [List.length_take, List.length_drop]; omega
  · simp
theorem RdS.raw (h : RdS w base g d W xs torn) (m : Int) (k : RdTo W base g d W' (rawR m xs torn).2.1 (rawR m xs torn).2.2) : RdS w base g d W' (rawR m xs torn).2.1 (rawR m xs torn).2.2 :=
  ⟨h.dn.trans k, Nat.le_trans (rawR_short m xs torn).2 h.len, (rawR_b m xs torn h.byt).2⟩
theorem raw_s (h : RdS w base g d W xs torn) (m : Int) :
    Calls Try.prog 35 #[.pointer (some ⟨g, 0, none⟩), .int .i64 m] W fun e w' => ∃ A n c, n = (rawR m xs torn).1.length ∧ e = .returned (.slice A n c) ∧ w'.ownsRow W.heap.size 5 1 (.slice A n c) n (nums .u8 (rawR m xs torn).1) ∧ RdS w base g d w' (rawR m xs torn).2.1 (rawR m xs torn).2.2 ∧ Below base W w' := by
  refine (rawr_any base g d xs torn m W h.dn.rd h.len).mono ?_
  rintro e w' ⟨A, c, rfl, ho, ht⟩
  exact ⟨A, _, c, rfl, rfl, ho, h.raw m ht, ht.bel⟩
theorem num_s (h : RdS w base g d W xs torn) (size : Int) :
    Calls Try.prog 21 #[.pointer (some ⟨g, 0, none⟩), .int .i64 size] W fun e w' => e = .returned (.int .u64 ((numR size xs torn).1 : Nat)) ∧ RdS w base g d w' (numR size xs torn).2.1 (numR size xs torn).2.2 ∧ W.heap.size ≤ w'.heap.size := by
  refine (numr_any base g d xs torn size W h.dn.rd h.len h.byt).mono ?_
  rintro e w' ⟨rfl, ht⟩
  exact ⟨rfl, h.raw _ ht, ht.keep.1⟩
theorem numR_lt (size : Nat) (xs : List Int) (torn : Bool) (h : AllB xs) (hs : size ≤ 8) : (numR size xs torn).1 < 256 ^ size := by
  unfold numR
  rw [if_neg (by omega)]
  have h1 := leN_lt _ (rawR_b (size : Int) xs torn h).1
  refine Nat.lt_of_lt_of_le h1 (Nat.pow_le_pow_right (by decide) ?_)
  unfold rawR
  split
  · simp only [List.length_take]; omega
  · simp
end
/-- What Text takes. -/
def textR (xs : List Int) (torn : Bool) : List Int × List Int × Bool := rawR (numR 2 xs torn).1 (numR 2 xs torn).2.1 (numR 2 xs torn).2.2
/-- What Shard takes. -/
def s1R (xs : List Int) (torn : Bool) := numR 4 xs torn
def s2R (xs : List Int) (torn : Bool) := numR 2 (s1R xs torn).2.1 (s1R xs torn).2.2
def s3R (xs : List Int) (torn : Bool) := numR 2 (s2R xs torn).2.1 (s2R xs torn).2.2
def s4R (xs : List Int) (torn : Bool) := numR 4 (s3R xs torn).2.1 (s3R xs torn).2.2
theorem w_u32 (n : Nat) (h : n < 4294967296) : IntKind.u32.wrap (n : Int) = (n : Int) := by
  simp [IntKind.wrap, IntKind.bits, IntKind.signed]; omega
theorem w_u16 (n : Nat) (h : n < 65536) : IntKind.u16.wrap (n : Int) = (n : Int) := by
  simp [IntKind.wrap, IntKind.bits, IntKind.signed]; omega
def shardV (xs : List Int) (torn : Bool) : Value := .agg #[.int .u32 (s1R xs torn).1, .int .u16 (s2R xs torn).1, .int .u16 (s3R xs torn).1, .int .u32 (s4R xs torn).1]
theorem numR_b (size : Int) (xs : List Int) (torn : Bool) (h : AllB xs) : AllB (numR size xs torn).2.1 := by unfold numR; exact (rawR_b _ xs torn h).2
theorem numR_short (size : Int) (xs : List Int) (torn : Bool) : (numR size xs torn).2.1.length ≤ xs.length := by unfold numR; exact (rawR_short _ xs torn).2
theorem num_k {w W : World} {base g d : Nat} {xs : List Int} {torn : Bool} (h : RdS w base g d W xs torn) (size : Int) (r : Nat × List Int × Bool) (hr : numR size xs torn = r) :
    Calls Try.prog 21 #[.pointer (some ⟨g, 0, none⟩), .int .i64 size] W fun e w' => e = .returned (.int .u64 (r.1 : Nat)) ∧ RdS w base g d w' r.2.1 r.2.2 ∧ KeepBut W w' g none := by
  subst hr
  refine (numr_any base g d xs torn size W h.dn.rd h.len h.byt).mono ?_
  rintro e w' ⟨rfl, ht⟩
  exact ⟨rfl, h.raw _ ht, ht.keep⟩
theorem conv_u (n : Nat) (k : IntKind) (hk : k.wrap (n : Int) = (n : Int)) : k.wrap (n : Int) = (n : Int) := hk
set_option maxRecDepth 100000 in
set_option maxHeartbeats 1000000 in
theorem rshard_s {w W : World} {base g d : Nat} {xs : List Int} {torn : Bool} (h : RdS w base g d W xs torn) :
    Calls Try.prog 22 #[.pointer (some ⟨g, 0, none⟩)] W fun e w' => e = .returned (shardV xs torn) ∧ RdS w base g d w' (s4R xs torn).2.1 (s4R xs torn).2.2 := by
  have hb0 : Below W.heap.size W (W.alloc (.cells #[.int .u32 0, .int .u16 0, .int .u16 0, .int .u32 0] 26)) := (Below.refl _ _).alloc (Nat.le_refl _) _
  have hB : Blk (W.alloc (.cells #[.int .u32 0, .int .u16 0, .int .u16 0, .int .u32 0] 26)) W.heap.size 26 #[.int .u32 0, .int .u16 0, .int .u16 0, .int .u32 0] := Blk.new _ _ _
  have hgW : g < W.heap.size := h.dn.rd.lt
  have hdW := h.dn.rd.dlt
  have hbs := h.dn.rd.size
  have hwW := h.dn.keep.1
  have b1 := numR_b 4 xs torn h.byt
  have b2 := numR_b 2 _ (s1R xs torn).2.2 b1
  have b3 := numR_b 2 _ (s2R xs torn).2.2 b2
  have l1 : (s1R xs torn).1 < 4294967296 := numR_lt 4 xs torn h.byt (by decide)
  have l2 : (s2R xs torn).1 < 65536 := numR_lt 2 _ (s1R xs torn).2.2 b1 (by decide)
  have l3 : (s3R xs torn).1 < 65536 := numR_lt 2 _ (s2R xs torn).2.2 b2 (by decide)
  have l4 : (s4R xs torn).1 < 4294967296 := numR_lt 4 _ (s3R xs torn).2.2 b3 (by decide)
  have t1 := numR_short 4 xs torn
  have t2 := numR_short 2 (s1R xs torn).2.1 (s1R xs torn).2.2
  have t3 := numR_short 2 (s2R xs torn).2.1 (s2R xs torn).2.2
  have t4 := numR_short 4 (s3R xs torn).2.1 (s3R xs torn).2.2
  have HT : Hid ((s4R xs torn).2.1.length ≤ xs.length) := Lib.hid (by unfold s4R s3R s2R s1R at *; omega)
  have w1 := w_u32 _ l1
  have w2 := w_u16 _ l2
  have w3 := w_u16 _ l3
  have w4 := w_u32 _ l4
  have q1 : numR 4 xs torn = s1R xs torn := rfl
  have q2 : numR 2 (s1R xs torn).2.1 (s1R xs torn).2.2 = s2R xs torn := rfl
  have q3 : numR 2 (s2R xs torn).2.1 (s2R xs torn).2.2 = s3R xs torn := rfl
  have q4 : numR 4 (s3R xs torn).2.1 (s3R xs torn).2.2 = s4R xs torn := rfl
  unfold shardV
  clear b1 b2 b3 l1 l2 l3 l4 t1 t2 t3 t4
  generalize s4R xs torn = r4 at *
  generalize s3R xs torn = r3 at *
  generalize s2R xs torn = r2 at *
  generalize s1R xs torn = r1 at *
  have Q1 := Lib.hid q1
  have Q2 := Lib.hid q2
  have Q3 := Lib.hid q3
  have Q4 := Lib.hid q4
  have HD := Lib.hid (h.next hb0)
  have HB := Lib.hid hB
  have HW := Lib.hid hdW
  clear q1 q2 q3 q4 hdW hB h hb0
  have hg1 : W.heap.size ≠ g := by omega
  go_enter Try.func22, Try.ntmps22
  go_wp2_with (first
    | (go_at_call 21; (with_reducible refine (num_k HD.out 4 r1 Q1.out).mono ?_); rintro e u1 ⟨rfl, h1, k1⟩; have H1 := Lib.hid h1; have B1 := Lib.hid (k1.blk HB.out hg1 (by simp)); clear h1 k1 HD)
    | (go_at_call 21; (with_reducible refine (num_k H1.out 2 r2 Q2.out).mono ?_); rintro e u2 ⟨rfl, h2, k2⟩; have H2 := Lib.hid h2; have B2 := Lib.hid (k2.blk B1.out hg1 (by simp)); clear h2 k2 H1)
    | (go_at_call 21; (with_reducible refine (num_k H2.out 2 r3 Q3.out).mono ?_); rintro e u3 ⟨rfl, h3, k3⟩; have H3 := Lib.hid h3; have B3 := Lib.hid (k3.blk B2.out hg1 (by simp)); clear h3 k3 H2)
    | (go_at_call 21; (with_reducible refine (num_k H3.out 4 r4 Q4.out).mono ?_); rintro e u4 ⟨rfl, h4, k4⟩; have H4 := Lib.hid h4; have hq := k4.blk B3.out hg1 (by simp); have B4 := Lib.hid hq; have c0 := (Blk.cell hq 0).trans rfl; have c1 := (Blk.cell hq 1).trans rfl; have c2 := (Blk.cell hq 2).trans rfl; have c3 := (Blk.cell hq 3).trans rfl; have f0 := Blk.frozen hq 0; have f1 := Blk.frozen hq 1; have f2 := Blk.frozen hq 2; have f3 := Blk.frozen hq 3; clear h4 k4 H3 hq))
  have hF : Blk ((((u4.setCell ⟨W.heap.size, 0, none⟩ (.int .u32 r1.1)).setCell ⟨W.heap.size, 1, none⟩ (.int .u16 r2.1)).setCell ⟨W.heap.size, 2, none⟩ (.int .u16 r3.1)).setCell ⟨W.heap.size, 3, none⟩ (.int .u32 r4.1)) W.heap.size 26 #[.int .u32 r1.1, .int .u16 r2.1, .int .u16 r3.1, .int .u32 r4.1] := by
    have := (((Blk.set_ B4.out 0 (.int .u32 r1.1)).set_ 1 (.int .u16 r2.1)).set_ 2 (.int .u16 r3.1)).set_ 3 (.int .u32 r4.1)
    simpa using this
  have hD : RdS w base g d ((((u4.setCell ⟨W.heap.size, 0, none⟩ (.int .u32 r1.1)).setCell ⟨W.heap.size, 1, none⟩ (.int .u16 r2.1)).setCell ⟨W.heap.size, 2, none⟩ (.int .u16 r3.1)).setCell ⟨W.heap.size, 3, none⟩ (.int .u32 r4.1)) r4.2.1 r4.2.2 := by
    have hh := H4.out
    have hne : 0 < r4.2.1.length → d ≠ W.heap.size := fun hp => by
      have := HW.out (by have := HT.out; omega)
      omega
    have hg : g ≠ W.heap.size := fun e => hg1 e.symm
    exact ⟨⟨(((hh.dn.rd.set_ (p := ⟨W.heap.size, 0, none⟩) hg hne _).set_ (p := ⟨W.heap.size, 1, none⟩) hg hne _).set_ (p := ⟨W.heap.size, 2, none⟩) hg hne _).set_ (p := ⟨W.heap.size, 3, none⟩) hg hne _,
      keep_far (keep_far (keep_far (keep_far hh.dn.keep (p := ⟨W.heap.size, 0, none⟩) hwW _) (p := ⟨W.heap.size, 1, none⟩) hwW _) (p := ⟨W.heap.size, 2, none⟩) hwW _) (p := ⟨W.heap.size, 3, none⟩) hwW _,
      (((hh.dn.bel.setCell (p := ⟨W.heap.size, 0, none⟩) hbs _).setCell (p := ⟨W.heap.size, 1, none⟩) hbs _).setCell (p := ⟨W.heap.size, 2, none⟩) hbs _).setCell (p := ⟨W.heap.size, 3, none⟩) hbs _⟩, hh.len, hh.byt⟩
  generalize ((((u4.setCell ⟨W.heap.size, 0, none⟩ (.int .u32 r1.1)).setCell ⟨W.heap.size, 1, none⟩ (.int .u16 r2.1)).setCell ⟨W.heap.size, 2, none⟩ (.int .u16 r3.1)).setCell ⟨W.heap.size, 3, none⟩ (.int .u32 r4.1)) = WF at *
  have g0 : WF.cell? ⟨W.heap.size, 0, none⟩ = some (.int .u32 r1.1) := (hF.cell 0).trans rfl
  have g1 : WF.cell? ⟨W.heap.size, 1, none⟩ = some (.int .u16 r2.1) := (hF.cell 1).trans rfl
  have g2 : WF.cell? ⟨W.heap.size, 2, none⟩ = some (.int .u16 r3.1) := (hF.cell 2).trans rfl
  have g3 : WF.cell? ⟨W.heap.size, 3, none⟩ = some (.int .u32 r4.1) := (hF.cell 3).trans rfl
  exact bodyPost_ret (v := .agg #[.int .u32 r1.1, .int .u16 r2.1, .int .u16 r3.1, .int .u32 r4.1]) (by simp [results, Try.results22, go_sem, g0, g1, g2, g3]) rfl ⟨rfl, hD⟩

set_option maxRecDepth 100000 in
theorem left_b {W : World} {g n c : Nat} {A : Option Addr} {torn : Bool} (h : Blk W g 74 #[.slice A n c, .bool torn]) :
    Calls Try.prog 36 #[.pointer (some ⟨g, 0, none⟩)] W fun e w' => e = .returned (.int .i64 n) ∧ W = w' := by
  have c0 : W.cell? ⟨g, 0, none⟩ = some (.slice A n c) := (h.cell 0).trans rfl
  clear h
  go_enter Try.func36, Try.ntmps36
  go_wp2
  go_ret
  exact ⟨rfl, rfl⟩
set_option maxRecDepth 100000 in
theorem torn_b {W : World} {g n c : Nat} {A : Option Addr} {torn : Bool} (h : Blk W g 74 #[.slice A n c, .bool torn]) :
    Calls Try.prog 24 #[.pointer (some ⟨g, 0, none⟩)] W fun e w' => e = .returned (.bool torn) ∧ W = w' := by
  have c1 : W.cell? ⟨g, 1, none⟩ = some (.bool torn) := (h.cell 1).trans rfl
  clear h
  go_enter Try.func24, Try.ntmps24
  go_wp2
  go_ret
  exact ⟨rfl, rfl⟩
theorem left_s {w W : World} {base g d : Nat} {xs : List Int} {torn : Bool} (h : RdS w base g d W xs torn) :
    Calls Try.prog 36 #[.pointer (some ⟨g, 0, none⟩)] W fun e w' => e = .returned (.int .i64 xs.length) ∧ W = w' := by
  obtain ⟨A, c, hr⟩ := h.dn.rd
  exact left_b hr.blk
theorem torn_s {w W : World} {base g d : Nat} {xs : List Int} {torn : Bool} (h : RdS w base g d W xs torn) :
    Calls Try.prog 24 #[.pointer (some ⟨g, 0, none⟩)] W fun e w' => e = .returned (.bool torn) ∧ W = w' := by
  obtain ⟨A, c, hr⟩ := h.dn.rd
  exact torn_b hr.blk
set_option maxRecDepth 100000 in
theorem rest_s {w W : World} {base g d : Nat} {xs : List Int} {torn : Bool} (h : RdS w base g d W xs torn) :
    Calls Try.prog 23 #[.pointer (some ⟨g, 0, none⟩)] W fun e w' => ∃ A c, e = .returned (.slice A xs.length c) ∧ w'.ownsRow W.heap.size 5 1 (.slice A xs.length c) xs.length (nums .u8 xs) ∧ RdS w base g d w' [] torn ∧ Below base W w' := by
  have HD := Lib.hid h
  have e1 : rawR (xs.length : Int) xs torn = (xs, [], torn) := by rw [rawR_ok (by omega) (by omega)]; simp
  have R1 := Lib.hid (raw_s h (xs.length : Int))
  rw [e1] at R1
  clear h e1
  obtain ⟨n, hn⟩ : ∃ n, n = xs.length := ⟨_, rfl⟩
  have HN := Lib.hid hn
  have L1 := Lib.hid (left_s HD.out)
  rw [← hn] at R1 L1 ⊢
  clear hn
  go_enter Try.func23, Try.ntmps23
  go_wp2_with (first
    | (go_at_call 36; (with_reducible refine L1.out.mono ?_); rintro e w2 ⟨rfl, rfl⟩)
    | (go_at_call 35; (with_reducible refine R1.out.mono ?_); rintro e w3 ⟨A, m, c, hm, rfl, ho, h3, hb⟩; have HM := Lib.hid hm; have HO := Lib.hid ho; have H3 := Lib.hid h3; have HB := Lib.hid hb; clear hm ho h3 hb))
  go_ret
  have hm := HM.out
  subst hm
  exact ⟨A, c, rfl, HO.out, H3.out, HB.out⟩
/-- A new reader over bytes that are there. -/
theorem read_new (base d : Nat) (A : Option Addr) (c : Nat) (xs : List Int) (w : World) (hr : ReadsInt w .u8 A xs.length xs) (hb : base ≤ w.heap.size) (hc : xs.length ≤ c) (hl : xs.length ≤ 1000000) (hy : AllB xs) (hd : ∀ ad, A = some ad → 0 < xs.length → ad.block = d) (hdl : d ≠ w.heap.size) :
    Calls Try.prog 20 #[.slice A xs.length c] w fun e w' => e = .returned (.pointer (some ⟨w.heap.size, 0, none⟩)) ∧ RdS w' base w.heap.size d w' xs false ∧ Below w.heap.size w w' := by
  have hA : Below w.heap.size w (w.alloc (.cells #[.slice A xs.length c, .bool false] 74)) := (Below.refl _ _).alloc (Nat.le_refl _) _
  have hR : RdAt (w.alloc (.cells #[.slice A xs.length c, .bool false] 74)) base w.heap.size d A c xs false := ⟨Blk.new _ _ _, hb, hr.below hA, hc, hd, hdl⟩
  have HR := Lib.hid (show RdS (w.alloc (.cells #[.slice A xs.length c, .bool false] 74)) base w.heap.size d (w.alloc (.cells #[.slice A xs.length c, .bool false] 74)) xs false from ⟨Rd.to ⟨A, c, hR⟩, hl, hy⟩)
  have HA := Lib.hid hA
  clear hr hc hl hy hd hdl hA hR
  obtain ⟨n, hn⟩ : ∃ n, n = xs.length := ⟨_, rfl⟩
  rw [← hn] at HR HA ⊢
  clear hn
  go_enter Try.func20, Try.ntmps20
  go_wp2
  go_ret
  exact ⟨rfl, HR.out, HA.out⟩
end Go.Proofs.Ytckcnanklekchaa.Pack
