/- The reference's Take, and its Parse. -/
import Derived.Test.YtckcnanklekchaaProg
import Derived.Below
import Derived.Deep.Draws
import Derived.Deep.AppendLies
import Derived.Maps.AppendAt
import Derived.OwnWalk
import Derived.Laws.BytesArg
import Derived.Laws.MakeOwn
import Derived.Laws.OwnMore
import Derived.Deep.OwnRows
import Derived.Tactics
import Derived.Lib.ConvBytes
import Derived.Laws.Slices
import Derived.WalkKit
import Derived.KernelRfl
import Derived.RowKit3
import Derived.Deep.LoopGhost
import Derived.Deep.QuietTactic
import Derived.BigQuiet
import Derived.WideLaws
import Derived.Deep.DeepCutAuto
import Derived.Deep.CutBlock
import Derived.Deep.RegionHeld3
import Derived.Laws.Rows
import Derived.Lib.AppendStr
import Derived.ArgAppend
import Derived.Laws.IdiomCopy
import Derived.OrdersHeld
import Derived.Laws.BitsLemmas
import Derived.RowKit
import Derived.Lib.Hide
import Derived.WalkSpells
import Derived.StillTailTactics
import Derived.Outline
import Derived.Test.YtckcnanklekchaaBWireRequestsWire2
namespace Go.Proofs.Ytckcnanklekchaa.Pack
open Go Go.RowKit Go.Proofs.Ytckcnanklekchaa.PWireRequests Go.Proofs.Ytckcnanklekchaa.Mem Go.Proofs.Ytckcnanklekchaa.Bits Go.Proofs.YtckcnanklekchaaW.PrintWords Go.Proofs.YtckcnanklekchaaW.PrintLast
set_option linter.unusedVariables false

/-- Bytes that are taken from the front of what came in. -/
structure TkAt (w0 W : World) (g : Nat) (A : Option Addr) (c : Nat) (xs : List Int) : Prop where
  blk : Blk W g 60 #[.slice A xs.length c, .bool false]
  ge : w0.heap.size ≤ g
  rd : ReadsInt w0 .u8 A xs.length xs
  cap : xs.length ≤ c
  bel : Below w0.heap.size w0 W
/-- What a taking call leaves, since w. -/
def Tk (w0 w : World) (g : Nat) (W : World) (xs : List Int) : Prop := (∃ A c, TkAt w0 W g A c xs) ∧ KeepBut w W g none
section
variable {w0 w W W' : World} {g : Nat} {xs : List Int}
theorem Tk.next (h : Tk w0 w g W xs) (hb : Below W.heap.size W W') : Tk w0 w g W' xs := by
  obtain ⟨⟨A, c, h⟩, k⟩ := h
  exact ⟨⟨A, c, h.blk.below hb h.blk.lt, h.ge, h.rd, h.cap, h.bel.trans (hb.mono h.bel.size)⟩, k.trans (KeepBut.of_below hb g none) (.inl rfl)⟩
theorem Tk.set_ (h : Tk w0 w g W xs) (hw : w0.heap.size ≤ w.heap.size) {p : Addr} (hp : w.heap.size ≤ p.block) (hg : g ≠ p.block) (u : Value) : Tk w0 w g (W.setCell p u) xs := by
  obtain ⟨⟨A, c, h⟩, k⟩ := h
  exact ⟨⟨A, c, h.blk.far hg u, h.ge, h.rd, h.cap, h.bel.setCell (Nat.le_trans hw hp) u⟩, keep_far k hp u⟩
theorem Tk.bel (h : Tk w0 w g W xs) : Below w0.heap.size w0 W := by obtain ⟨⟨A, c, h⟩, k⟩ := h; exact h.bel
theorem Tk.lt (h : Tk w0 w g W xs) : g < W.heap.size := by obtain ⟨⟨A, c, h⟩, k⟩ := h; exact h.blk.lt
end
set_option maxRecDepth 100000 in
theorem tk_raw (w0 w : World) (g : Nat) (W : World) (xs : List Int) (m : Nat) (h : (∃ A c, TkAt w0 W g A c xs)) (hm : m ≤ xs.length) (hl : xs.length ≤ 1000000) :
    Calls Try.prog 37 #[.pointer (some ⟨g, 0, none⟩), .int .i64 m] W fun e w' => ∃ A c, e = .returned (.slice A m c) ∧ m ≤ c ∧ ReadsInt w0 .u8 A m (xs.take m) ∧ (∃ A c, TkAt w0 w' g A c (xs.drop m)) ∧ KeepBut W w' g none := by
  obtain ⟨A, c, h⟩ := h
  have hm0 : (0 : Int) ≤ (m : Int) := by omega
  have hm1 : (m : Int) ≤ (xs.length : Int) := by omega
  have c0 : W.cell? ⟨g, 0, none⟩ = some (.slice A xs.length c) := (h.blk.cell 0).trans rfl
  have f0 := h.blk.frozen 0
  obtain ⟨i0, hi, hz⟩ := Option.map_eq_some_iff.1 info_u8
  simp only [Prod.mk.injEq] at hz
  have k1 := cut_to (P := Try.prog) 27 5 .i64 Try.underlying27 hi A xs.length c (m : Int) hm0 hm1 h.cap
  have k2 := cut_from (P := Try.prog) 27 5 .i64 Try.underlying27 hi 1 hz.2.1 A xs.length c (m : Int) hm0 hm1
  simp only [Int.toNat_natCast, Nat.mul_one] at k1 k2
  obtain ⟨A', hA'⟩ : ∃ A', A' = if c = m then A else A.map (·.add m) := ⟨_, rfl⟩
  rw [← hA'] at k2
  have HR2 := Lib.hid (show ReadsInt w0 .u8 A' (xs.length - m) (xs.drop m) by rw [hA']; exact h.rd.drop_ m (by omega) h.cap)
  have HR1 := Lib.hid (h.rd.take_ m (by omega))
  have HH := Lib.hid h
  obtain ⟨n, hn⟩ : ∃ n, n = xs.length := ⟨_, rfl⟩
  have HN := Lib.hid hn
  rw [← hn] at k1 k2 c0 hm1 hl hm HR2
  have hd : decide ((m : Int) < 0) = false := by simp
  have hd2 : decide ((m : Int) > (n : Int)) = false := by simp; omega
  have hd3 : ¬ (n : Int) < (m : Int) := by omega
  clear hz hi h hA' hn
  go_enter Try.func37, Try.ntmps37
  go_wp2
  go_ret
  refine ⟨A, c, rfl, by have := HH.out.cap; have := HN.out; omega, HR1.out, ⟨A', c - m, ?_, HH.out.ge, ?_, ?_, HH.out.bel.setCell HH.out.ge _⟩, (KeepBut.refl _ _ _).set_ 0 _⟩
  · have := HH.out.blk.set_ 0 (.slice A' (n - m) (c - m))
    simpa [List.length_drop, ← HN.out] using this
  · rw [List.length_drop, ← HN.out]; exact HR2.out
  · rw [List.length_drop]; have := HH.out.cap; omega
theorem of_loop (l : List Int) (hb : AllB l) (h8 : l.length ≤ 8) (d : Nat) : ∀ k, d ≤ l.length → d < k → coldframeref01_Of.l0 k l ((leN (l.drop d) : Nat) : Int) ((d : Int) - 1) = some ((leN l : Nat) : Int) := by
  induction d with
  | zero =>
    intro k hd hk
    obtain ⟨k, rfl⟩ : ∃ m, k = m + 1 := ⟨k - 1, by omega⟩
    simp only [coldframeref01_Of.l0]
    rw [if_neg (by omega), List.drop_zero]
  | succ d ih =>
    intro k hd hk
    obtain ⟨k, rfl⟩ : ∃ m, k = m + 1 := ⟨k - 1, by omega⟩
    have hr := hb _ (rd_mem l d (by omega))
    have hlt := leN_lt (l.drop (d + 1)) (fun x hx => hb x (List.mem_of_mem_drop hx))
    have hp : 256 ^ (l.drop (d + 1)).length ≤ 256 ^ 7 := Nat.pow_le_pow_right (by decide) (by rw [List.length_drop]; omega)
    have e : leN (l.drop d) = (rd l d).toNat + 256 * leN (l.drop (d + 1)) := by
      rw [List.drop_eq_getElem_cons (by omega)]
      simp [leN, rd, List.getD_eq_getElem?_getD, show d < l.length by omega]
    simp only [coldframeref01_Of.l0]
    rw [if_pos (by omega), if_pos (by omega), if_pos (by omega), show ((d + 1 : Nat) : Int) - 1 = (d : Int) by omega, wraps_u64 (_ * 256) (by omega) (by omega), wraps_u64 (rd l d) (by omega) (by omega), wraps_u64 _ (by omega) (by omega), wrap64_in _ (by omega) (by omega)]
    have := ih k (by omega) (by omega)
    rw [e] at this
    rw [← this]
    congr 1
    omega
theorem of_f (l : List Int) (hb : AllB l) (h8 : l.length ≤ 8) : coldframeref01_Of.f 10 l = some ((leN l : Nat) : Int) := by
  have := of_loop l hb h8 l.length 10 (Nat.le_refl _) (by omega)
  rw [List.drop_length] at this
  unfold coldframeref01_Of.f
  rw [wrap64_in _ (by omega) (by omega)]
  exact this
theorem of_calls (A : Option Addr) (m c : Nat) (l : List Int) (W : World) (hr : ReadsInt W .u8 A m l) (hc : m ≤ c) (hb : AllB l) (h8 : m ≤ 8) (n : Nat) (hn : leN l = n) :
    Calls Try.prog 34 #[.slice A m c] W fun e w' => e = .returned (.int .u64 n) ∧ Below W.heap.size W w' := by
  obtain rfl : l.length = m := hr.1
  subst hn
  refine (coldframeref01_Of.calls 10 A c l _ W (Kd.C_of_reads (d := (0 : Int)) hr) hc (of_f l hb h8)).mono ?_
  rintro e w' ⟨rfl, h⟩
  exact ⟨rfl, h.below⟩
set_option maxRecDepth 100000 in
theorem tk_num (w0 w : World) (g : Nat) (W : World) (xs : List Int) (m n : Nat) (h : Tk w0 w g W xs) (hm : m ≤ xs.length) (hm8 : m ≤ 8) (hl : xs.length ≤ 1000000) (hb : AllB xs) (hn : leN (xs.take m) = n) (ys : List Int) (hy : xs.drop m = ys) (size : Int) (hsz : (m : Int) = size) :
    Calls Try.prog 25 #[.pointer (some ⟨g, 0, none⟩), .int .i64 size] W fun e w' => e = .returned (.int .u64 n) ∧ Tk w0 w g w' ys ∧ KeepBut W w' g none := by
  subst hy hsz
  have RC := Lib.hid (tk_raw w0 w g W xs m h.1 hm hl)
  have OC := Lib.hid (fun (A : Option Addr) (c : Nat) (W' : World) (hr : ReadsInt W' .u8 A m (xs.take m)) (hc : m ≤ c) => of_calls A m c _ W' hr hc (fun x hx => hb x (List.mem_of_mem_take hx)) hm8 n hn)
  have HK := Lib.hid h.2
  have hd : decide ((m : Int) < 0) = false := by simp
  have hd2 : decide ((m : Int) > 8) = false := by simp; omega
  have hd3 : ¬ (8 : Int) < (m : Int) := by omega
  clear h hm hl hb hn
  go_enter Try.func25, Try.ntmps25
  go_wp2_with (first
    | (go_at_call 37; (with_reducible refine RC.out.mono ?_); rintro e u1 ⟨A1, c1, rfl, hc1, hr1, ht1, hk1⟩; have HC1 := Lib.hid hc1; have HT1 := Lib.hid ht1; have HK1 := Lib.hid hk1; have HR1 := Lib.hid (show ReadsInt u1 .u8 A1 m (xs.take m) by obtain ⟨A9, c9, h9⟩ := ht1; exact hr1.below h9.bel); clear hc1 hr1 ht1 hk1)
    | (go_at_call 34; (with_reducible refine (OC.out A1 c1 u1 HR1.out HC1.out).mono ?_); rintro e u2 ⟨rfl, hb2⟩; have HB2 := Lib.hid hb2; clear hb2))
  go_ret
  have hk := HK1.out.trans (KeepBut.of_below HB2.out g none) (.inl rfl)
  exact ⟨rfl, (show Tk w0 w g u1 _ from ⟨HT1.out, HK.out.trans HK1.out (.inl rfl)⟩).next HB2.out, hk⟩
set_option maxRecDepth 100000 in
set_option maxHeartbeats 1000000 in
theorem tk_shard (w0 w : World) (hw : w0.heap.size ≤ w.heap.size) (g : Nat) (W : World) (xs : List Int) (h : Tk w0 w g W xs) (h12 : 12 ≤ xs.length) (hl : xs.length ≤ 1000000) (hb : AllB xs) (o s t q : Nat)
    (ho : leN (xs.take 4) = o) (hs : leN ((xs.drop 4).take 2) = s) (ht : leN ((xs.drop 6).take 2) = t) (hq : leN ((xs.drop 8).take 4) = q) :
    Calls Try.prog 26 #[.pointer (some ⟨g, 0, none⟩)] W fun e w' => e = .returned (.agg #[.int .u32 o, .int .u16 s, .int .u16 t, .int .u32 q]) ∧ Tk w0 w g w' (xs.drop 12) := by
  obtain ⟨W1, hW1⟩ : ∃ W1, W1 = W.alloc (.cells #[.int .u32 0, .int .u16 0, .int .u16 0, .int .u32 0] 26) := ⟨_, rfl⟩
  obtain ⟨W2, hW2⟩ : ∃ W2, W2 = W1.alloc (.cells #[.int .u32 0, .int .u16 0, .int .u16 0, .int .u32 0] 26) := ⟨_, rfl⟩
  have hz1 : W1.heap.size = W.heap.size + 1 := by rw [hW1]; simp
  have hb1 : Below W.heap.size W W1 := by rw [hW1]; exact (Below.refl _ _).alloc (Nat.le_refl _) _
  have hb2 : Below W1.heap.size W1 W2 := by rw [hW2]; exact (Below.refl _ _).alloc (Nat.le_refl _) _
  have hk1 : Blk W1 W.heap.size 26 #[.int .u32 0, .int .u16 0, .int .u16 0, .int .u32 0] := by rw [hW1]; exact Blk.new _ _ _
  have HR := Lib.hid (hk1.below hb2 hk1.lt)
  have HS := Lib.hid (show Blk W2 W1.heap.size 26 #[.int .u32 0, .int .u16 0, .int .u16 0, .int .u32 0] by rw [hW2]; exact Blk.new _ _ _)
  have HT := Lib.hid ((h.next hb1).next hb2)
  have bx := fun n => (fun y hy => hb y (List.mem_of_mem_drop hy) : AllB (xs.drop n))
  have lx := fun n => (by rw [List.length_drop]; omega : (xs.drop n).length ≤ 1000000)
  have N1 := Lib.hid (fun W' hT => tk_num w0 w g W' xs 4 o hT (by omega) (by decide) hl hb ho _ rfl 4 rfl)
  have N2 := Lib.hid (fun W' hT => tk_num w0 w g W' (xs.drop 4) 2 s hT (by rw [List.length_drop]; omega) (by decide) (lx 4) (bx 4) hs (xs.drop 6) (by rw [List.drop_drop]) 2 rfl)
  have N3 := Lib.hid (fun W' hT => tk_num w0 w g W' (xs.drop 6) 2 t hT (by rw [List.length_drop]; omega) (by decide) (lx 6) (bx 6) ht (xs.drop 8) (by rw [List.drop_drop]) 2 rfl)
  have N4 := Lib.hid (fun W' hT => tk_num w0 w g W' (xs.drop 8) 4 q hT (by rw [List.length_drop]; omega) (by decide) (lx 8) (bx 8) hq (xs.drop 12) (by rw [List.drop_drop]) 4 rfl)
  have qo : o < 4294967296 := by have := leN_lt (xs.take 4) (fun y hy => hb y (List.mem_of_mem_take hy)); rw [List.length_take, Nat.min_eq_left (by omega)] at this; omega
  have qs : s < 65536 := by have := leN_lt ((xs.drop 4).take 2) (fun y hy => bx 4 y (List.mem_of_mem_take hy)); rw [List.length_take, Nat.min_eq_left (by rw [List.length_drop]; omega)] at this; omega
  have qt : t < 65536 := by have := leN_lt ((xs.drop 6).take 2) (fun y hy => bx 6 y (List.mem_of_mem_take hy)); rw [List.length_take, Nat.min_eq_left (by rw [List.length_drop]; omega)] at this; omega
  have qq : q < 4294967296 := by have := leN_lt ((xs.drop 8).take 4) (fun y hy => bx 8 y (List.mem_of_mem_take hy)); rw [List.length_take, Nat.min_eq_left (by rw [List.length_drop]; omega)] at this; omega
  have e1 := w_u32 o qo
  have e2 := w_u16 s qs
  have e3 := w_u16 t qt
  have e4 := w_u32 q qq
  have hgl : g < W.heap.size := h.lt
  have hR0 : w.heap.size ≤ W.heap.size := h.2.1
  obtain ⟨S0, hS0⟩ : ∃ S0, S0 = W1.heap.size := ⟨_, rfl⟩
  obtain ⟨R0, hR0'⟩ : ∃ R0, R0 = W.heap.size := ⟨_, rfl⟩
  have HW2 := Lib.hid (show W2 = (W.alloc (.cells #[.int .u32 0, .int .u16 0, .int .u16 0, .int .u32 0] 26)).alloc (.cells #[.int .u32 0, .int .u16 0, .int .u16 0, .int .u32 0] 26) by rw [hW2, hW1])
  have HSe := Lib.hid (show S0 = W.heap.size + 1 by omega)
  have HRe := Lib.hid hR0'
  rw [← hS0] at HS
  rw [← hR0'] at HR
  have n1 : S0 ≠ g := by omega
  have n1' : g ≠ S0 := fun e => n1 e.symm
  have n2 : R0 ≠ g := by omega
  have n2' : g ≠ R0 := fun e => n2 e.symm
  have n3 : R0 ≠ S0 := by omega
  have n4 : w.heap.size ≤ S0 := by omega
  have n5 : w.heap.size ≤ R0 := by omega
  clear hW1 hW2 hz1 hb1 hb2 hk1 h bx lx hl hb ho hs ht hq h12 qo qs qt qq hS0 hR0' hgl hR0
  have c0 : W2.cell? ⟨S0, 0, none⟩ = some (.int .u32 0) := (HS.out.cell 0).trans rfl
  go_enter Try.func26, Try.ntmps26
  go_upto_region 2 with (fail)
  rw [← HW2.out, ← HSe.out, ← HRe.out]
  go_upto_region 3 with (go_at_call 25; (with_reducible refine (N1.out _ HT.out).mono ?_); rintro e u1 ⟨rfl, h1, k1⟩; have b1 := k1.blk HS.out n1 (by simp); have hr1 := k1.blk HR.out n2 (by simp); have d0 := (Blk.cell b1 0).trans rfl; have g0 := Blk.frozen b1 0; have HT1 := Lib.hid (h1.set_ hw (p := ⟨S0, 0, none⟩) n4 n1' (.int .u32 o)); have HS1 := Lib.hid (Blk.set_ b1 0 (.int .u32 o)); have HR1 := Lib.hid (Blk.far hr1 (p := ⟨S0, 0, none⟩) n3 (.int .u32 o)); clear h1 k1 b1 hr1)
  clear d0 g0
  go_upto_region 4 with (go_at_call 25; (with_reducible refine (N2.out _ HT1.out).mono ?_); rintro e u2 ⟨rfl, h1, k1⟩; have b1 := k1.blk HS1.out n1 (by simp); have hr1 := k1.blk HR1.out n2 (by simp); have d0 := (Blk.cell b1 1).trans rfl; have g0 := Blk.frozen b1 1; have HT2 := Lib.hid (h1.set_ hw (p := ⟨S0, 1, none⟩) n4 n1' (.int .u16 s)); have HS2 := Lib.hid (Blk.set_ b1 1 (.int .u16 s)); have HR2 := Lib.hid (Blk.far hr1 (p := ⟨S0, 1, none⟩) n3 (.int .u16 s)); clear h1 k1 b1 hr1)
  clear d0 g0
  go_upto_region 5 with (go_at_call 25; (with_reducible refine (N3.out _ HT2.out).mono ?_); rintro e u3 ⟨rfl, h1, k1⟩; have b1 := k1.blk HS2.out n1 (by simp); have hr1 := k1.blk HR2.out n2 (by simp); have d0 := (Blk.cell b1 2).trans rfl; have g0 := Blk.frozen b1 2; have HT3 := Lib.hid (h1.set_ hw (p := ⟨S0, 2, none⟩) n4 n1' (.int .u16 t)); have HS3 := Lib.hid (Blk.set_ b1 2 (.int .u16 t)); have HR3 := Lib.hid (Blk.far hr1 (p := ⟨S0, 2, none⟩) n3 (.int .u16 t)); clear h1 k1 b1 hr1)
  clear d0 g0
  go_upto_region 6 with (go_at_call 25; (with_reducible refine (N4.out _ HT3.out).mono ?_); rintro e u4 ⟨rfl, h1, k1⟩; have b1 := k1.blk HS3.out n1 (by simp); have hr1 := k1.blk HR3.out n2 (by simp); have d0 := (Blk.cell b1 3).trans rfl; have g0 := Blk.frozen b1 3; have HT4 := Lib.hid (h1.set_ hw (p := ⟨S0, 3, none⟩) n4 n1' (.int .u32 q)); have HS4 := Lib.hid (Blk.set_ b1 3 (.int .u32 q)); have HR4 := Lib.hid (Blk.far hr1 (p := ⟨S0, 3, none⟩) n3 (.int .u32 q)); have r0 := (Blk.cell hr1 0).trans rfl; have r1 := (Blk.cell hr1 1).trans rfl; have r2 := (Blk.cell hr1 2).trans rfl; have r3 := (Blk.cell hr1 3).trans rfl; have f0 := Blk.frozen hr1 0; have f1 := Blk.frozen hr1 1; have f2 := Blk.frozen hr1 2; have f3 := Blk.frozen hr1 3; clear h1 k1 b1 hr1)
  clear d0 g0
  have hS5 : Blk (u4.setCell ⟨S0, 3, none⟩ (.int .u32 q)) S0 26 #[.int .u32 o, .int .u16 s, .int .u16 t, .int .u32 q] := by simpa using HS4.out
  have d0 := (Blk.cell hS5 0).trans rfl
  have d1 := (Blk.cell hS5 1).trans rfl
  have d2 := (Blk.cell hS5 2).trans rfl
  have d3 := (Blk.cell hS5 3).trans rfl
  have g0 := Blk.frozen HR4.out 0
  have g1 := Blk.frozen HR4.out 1
  have g2 := Blk.frozen HR4.out 2
  have g3 := Blk.frozen HR4.out 3
  clear hS5
  go_wp2
  obtain ⟨W4, hW4⟩ : ∃ W4, W4 = u4.setCell ⟨S0, 3, none⟩ (.int .u32 q) := ⟨_, rfl⟩
  rw [← hW4] at HT4 HR4
  rw [← hW4]
  have hF := (((Blk.set_ HR4.out 0 (.int .u32 o)).set_ 1 (.int .u16 s)).set_ 2 (.int .u16 t)).set_ 3 (.int .u32 q)
  have hD := (((HT4.out.set_ hw (p := ⟨R0, 0, none⟩) n5 n2' (.int .u32 o)).set_ hw (p := ⟨R0, 1, none⟩) n5 n2' (.int .u16 s)).set_ hw (p := ⟨R0, 2, none⟩) n5 n2' (.int .u16 t)).set_ hw (p := ⟨R0, 3, none⟩) n5 n2' (.int .u32 q)
  generalize ((((W4.setCell ⟨R0, 0, none⟩ (.int .u32 o)).setCell ⟨R0, 1, none⟩ (.int .u16 s)).setCell ⟨R0, 2, none⟩ (.int .u16 t)).setCell ⟨R0, 3, none⟩ (.int .u32 q)) = WF at *
  have g0 : WF.cell? ⟨R0, 0, none⟩ = some (.int .u32 o) := (hF.cell 0).trans (by simp)
  have g1 : WF.cell? ⟨R0, 1, none⟩ = some (.int .u16 s) := (hF.cell 1).trans (by simp)
  have g2 : WF.cell? ⟨R0, 2, none⟩ = some (.int .u16 t) := (hF.cell 2).trans (by simp)
  have g3 : WF.cell? ⟨R0, 3, none⟩ = some (.int .u32 q) := (hF.cell 3).trans (by simp)
  exact bodyPost_ret (v := .agg #[.int .u32 o, .int .u16 s, .int .u16 t, .int .u32 q]) (by simp [results, Try.results26, go_sem, g0, g1, g2, g3]) rfl ⟨rfl, hD⟩
end Go.Proofs.Ytckcnanklekchaa.Pack
