/- The law on requests. -/
import Derived.Test.YtckcnanklekchaaProg
import Derived.Below
import Derived.Deep.Draws
import Derived.Deep.AppendLies
import Derived.Maps.AppendAt
import Derived.OwnWalk
import Derived.Laws.BytesArg
import Derived.Laws.MakeOwn
import Derived.Laws.OwnMore
import Derived.Deep.OwnRows
import Derived.Tactics
import Derived.Lib.ConvBytes
import Derived.Laws.Slices
import Derived.WalkKit
import Derived.KernelRfl
import Derived.RowKit3
import Derived.Deep.LoopGhost
import Derived.Deep.QuietTactic
import Derived.BigQuiet
import Derived.WideLaws
import Derived.Deep.DeepCutAuto
import Derived.Deep.CutBlock
import Derived.Deep.RegionHeld3
import Derived.Laws.Rows
import Derived.Lib.AppendStr
import Derived.ArgAppend
import Derived.Laws.IdiomCopy
import Derived.OrdersHeld
import Derived.Laws.BitsLemmas
import Derived.RowKit
import Derived.Lib.Hide
import Derived.WalkSpells
import Derived.StillTailTactics
import Derived.Outline
import Derived.OrdersHeld
import Derived.Deep.RegionHeld3
import Derived.Test.YtckcnanklekchaaBWireRequestsWire6
namespace Go.Proofs.Ytckcnanklekchaa.Pack
open Go Go.RowKit Go.Proofs.Ytckcnanklekchaa.PWireRequests Go.Proofs.Ytckcnanklekchaa.Mem Go.Proofs.Ytckcnanklekchaa.Bits Go.Proofs.YtckcnanklekchaaW.PrintWords Go.Proofs.YtckcnanklekchaaW.PrintLast
set_option linter.unusedVariables false

theorem joinC {G : Prop} (Inv : World → Prop) {C : World → Prop} (h1 : (∀ w, Inv w → C w) → G) (h2 : ∀ w, Inv w → C w) : G := h1 h2
theorem str_reads {w : World} {A : Option Addr} {n c : Nat} {xs : List Int} (h : ReadsInt w .u8 A n xs) : (convert 27 9 (.slice A n c)).run Try.prog w = .ok (.string (strOfNums xs)) w :=
  string_of_reads Try.underlying27 Try.underlying5 Try.underlying9 h
/-- What both readers tell of some bytes. -/
def Got (b : List Int) (n k o s t g l : Nat) (d : List Int) (ok : Bool) (er : Int) : Prop := d.length ≤ 500 ∧ (ok = true → er = 0) ∧ (ok = false → er = 21) ∧
  (∀ (A : Option Addr) (c : Nat) (w0 W : World), Below w0.heap.size w0 W → (Kd.int .u8).C w0 A b.length b → b.length ≤ c →
    Calls Try.prog 6 #[.slice A b.length c] W fun e w' => ∃ A m c, m = d.length ∧ m ≤ c ∧ e = .returned (.tuple #[.agg #[.int .u64 n, .int .i64 k, .int .u32 o, .int .u16 s, .int .u16 t, .int .u32 g, .int .u16 l, .slice A m c], .int .i64 er]) ∧ (Kd.int .u8).C w' A m d ∧ Below W.heap.size W w') ∧
  (∀ (A : Option Addr) (c : Nat) (W : World), (Kd.int .u8).C W A b.length b → b.length ≤ c →
    Calls Try.prog 7 #[.slice A b.length c] W fun e w' => ∃ A m c, m = d.length ∧ m ≤ c ∧ e = .returned (.tuple #[.agg #[.int .u64 n, .int .i64 k, .int .u32 o, .int .u16 s, .int .u16 t, .int .u32 g, .int .u16 l, .slice A m c], .bool ok]) ∧ (Kd.int .u8).C w' A m d ∧ Below W.heap.size W w')
theorem got_yes (b : List Int) (hl : b.length ≤ 500) (hb : AllB b) (h : 23 ≤ b.length ∧ rightB (qKind b) (qLost b) (b.drop 23) = true) : Got b (qNum b) (qKind b) (qO b) (qS b) (qT b) (qG b) (qLost b) (b.drop 23) true 0 := by
  refine ⟨by rw [List.length_drop]; omega, fun _ => rfl, fun h => absurd h (by decide), fun A c w0 W hB hr hc => ?_, fun A c W hr hc => ?_⟩
  · refine (parse_any A c b w0 W hB hr hc (by omega) hb).mono ?_
    rintro e w' (⟨A, m, c, _, hm, hc, rfl, hd, hb⟩ | ⟨hn, _⟩)
    · exact ⟨A, m, c, hm, hc, rfl, hd, hb⟩
    · exact absurd h hn
  · refine (refparse_any A c b W hr hc (by omega) hb).mono ?_
    rintro e w' (⟨A, m, c, _, hm, hc, rfl, hd, hb⟩ | ⟨hn, _⟩)
    · exact ⟨A, m, c, hm, hc, rfl, hd, hb⟩
    · exact absurd h hn
theorem got_no (b : List Int) (hl : b.length ≤ 500) (hb : AllB b) (h : ¬ (23 ≤ b.length ∧ rightB (qKind b) (qLost b) (b.drop 23) = true)) : Got b 0 0 0 0 0 0 0 [] false 21 := by
  refine ⟨by decide, fun h => absurd h (by decide), fun _ => rfl, fun A c w0 W hB hr hc => ?_, fun A c W hr hc => ?_⟩
  · refine (parse_any A c b w0 W hB hr hc (by omega) hb).mono ?_
    rintro e w' (⟨A, m, c, hn, _⟩ | ⟨_, rfl, hb⟩)
    · exact absurd hn h
    · exact ⟨none, 0, 0, rfl, by decide, rfl, Kd.C_nil _ _, hb⟩
  · refine (refparse_any A c b W hr hc (by omega) hb).mono ?_
    rintro e w' (⟨A, m, c, hn, _⟩ | ⟨_, rfl, hb⟩)
    · exact absurd hn h
    · exact ⟨none, 0, 0, rfl, by decide, rfl, Kd.C_nil _ _, hb⟩
theorem got (b : List Int) (hl : b.length ≤ 500) (hb : AllB b) : ∃ n k o s t g l d ok er, Got b n k o s t g l d ok er := by
  by_cases h : 23 ≤ b.length ∧ rightB (qKind b) (qLost b) (b.drop 23) = true
  · exact ⟨_, _, _, _, _, _, _, _, _, _, got_yes b hl hb h⟩
  · exact ⟨_, _, _, _, _, _, _, _, _, _, got_no b hl hb h⟩
theorem req_len (n o s t g l k : Int) (A0 : Option Addr) (m0 c0 : Nat) (A1 : Option Addr) (m1 c1 : Nat) (w : World) (h : 300 < m0 ∨ 500 < m1) :
    Calls Try.prog 3 #[.agg #[.int .u64 n, .int .i64 k, .int .u32 o, .int .u16 s, .int .u16 t, .int .u32 g, .int .u16 l, .slice A0 m0 c0], .slice A1 m1 c1] w fun e w' => e = .returned (.bool true) ∧ Below w.heap.size w w' := by
  obtain ⟨W1, hW1⟩ : ∃ W1, W1 = w.alloc (.cells #[.int .u64 n, .int .i64 k, .int .u32 o, .int .u16 s, .int .u16 t, .int .u32 g, .int .u16 l, .slice A0 m0 c0] 29) := ⟨_, rfl⟩
  have hB1 : Below w.heap.size w W1 := by rw [hW1]; exact (Below.refl _ _).alloc (Nat.le_refl _) _
  have HB := Lib.hid hB1
  have hQ1 : Blk W1 w.heap.size 29 #[.int .u64 n, .int .i64 k, .int .u32 o, .int .u16 s, .int .u16 t, .int .u32 g, .int .u16 l, .slice A0 m0 c0] := by rw [hW1]; exact Blk.new _ _ _
  have y7 : W1.cell? ⟨w.heap.size, 7, none⟩ = some (.slice A0 m0 c0) := (hQ1.cell 7).trans rfl
  have HW1 := Lib.hid hW1
  clear hW1 hB1 hQ1
  by_cases h0 : 300 < m0
  · have d0 : decide ((m0 : Int) > 300) = true := by simp; omega
    have d1 : (300 : Int) < (m0 : Int) := by omega
    clear h
    go_enter Try.func3, Try.ntmps3
    go_upto_region 1 with (fail)
    rw [← HW1.out]
    go_wp2_with (go_at_call 5; (with_reducible refine (awake_calls _).mono ?_); rintro e w1 ⟨rfl, hb⟩; have HB1 := Lib.hid (HB.out.trans (hb.mono HB.out.size)); clear hb)
    go_ret
    exact ⟨rfl, HB1.out⟩
  · have d0 : decide ((m0 : Int) > 300) = false := by simp; omega
    have d1 : ¬ (300 : Int) < (m0 : Int) := by omega
    have d2 : decide ((m1 : Int) > 500) = true := by simp; omega
    have d3 : (500 : Int) < (m1 : Int) := by omega
    clear h
    go_enter Try.func3, Try.ntmps3
    go_upto_region 1 with (fail)
    rw [← HW1.out]
    go_wp2_with (go_at_call 5; (with_reducible refine (awake_calls _).mono ?_); rintro e w1 ⟨rfl, hb⟩; have HB1 := Lib.hid (HB.out.trans (hb.mono HB.out.size)); clear hb)
    go_ret
    exact ⟨rfl, HB1.out⟩
theorem back (n k o s t g l : Nat) (data : List Int) (hd : data.length ≤ 300) (hb : AllB data) (hr : rightB k l data = true) (hn : n < 18446744073709551616) (hk : k < 256) (ho : o < 4294967296) (hs : s < 65536) (ht : t < 65536) (hg : g < 4294967296) (hl : l < 65536) :
    Got (reqB n k o s t g l data) n k o s t g l data true 0 := by
  obtain ⟨e1, e2, e3, e4, e5, e6, e7, e8⟩ := reqB_back n k o s t g l data hn hk ho hs ht hg hl _ rfl
  have h := got_yes (reqB n k o s t g l data) (by rw [reqB_len]; omega) (reqB_b n k o s t g l data hb) ⟨by rw [reqB_len]; omega, by rw [e2, e7, e8]; exact hr⟩
  rw [e1, e2, e3, e4, e5, e6, e7, e8] at h
  exact h
theorem right_kind {k l : Int} {data : List Int} (h : rightB k l data = true) : ∃ kk : Nat, k = kk ∧ kk < 256 := by
  unfold rightB at h
  simp only [Bool.and_eq_true, decide_eq_true_eq] at h
  exact ⟨k.toNat, by omega, by omega⟩
set_option maxRecDepth 100000 in
set_option maxHeartbeats 4000000 in
theorem reqs_good (n o s t g l : Nat) (k : Int) (A0 : Option Addr) (m0 c0 : Nat) (data : List Int) (A1 : Option Addr) (m1 c1 : Nat) (b : List Int) (w : World) (hr0 : (Kd.int .u8).C w A0 m0 data) (hm0 : m0 = data.length) (hc0 : m0 ≤ c0) (hl0 : m0 ≤ 300) (hb0 : AllB data)
    (hr1 : (Kd.int .u8).C w A1 m1 b) (hm1 : m1 = b.length) (hc1 : m1 ≤ c1) (hl1 : m1 ≤ 500) (hb1 : AllB b)
    (hn : n < 18446744073709551616) (ho : o < 4294967296) (hs : s < 65536) (ht : t < 65536) (hg : g < 4294967296) (hl : l < 65536) :
    Calls Try.prog 3 #[.agg #[.int .u64 n, .int .i64 k, .int .u32 o, .int .u16 s, .int .u16 t, .int .u32 g, .int .u16 l, .slice A0 m0 c0], .slice A1 m1 c1] w fun e w' => e = .returned (.bool true) ∧ Below w.heap.size w w' := by
  obtain ⟨W1, hW1⟩ : ∃ W1, W1 = w.alloc (.cells #[.int .u64 n, .int .i64 k, .int .u32 o, .int .u16 s, .int .u16 t, .int .u32 g, .int .u16 l, .slice A0 m0 c0] 29) := ⟨_, rfl⟩
  have hB1 : Below w.heap.size w W1 := by rw [hW1]; exact (Below.refl _ _).alloc (Nat.le_refl _) _
  obtain ⟨Q0, hQ0⟩ : ∃ Q0, Q0 = w.heap.size := ⟨_, rfl⟩
  have hQ1 : Blk W1 Q0 29 #[.int .u64 n, .int .i64 k, .int .u32 o, .int .u16 s, .int .u16 t, .int .u32 g, .int .u16 l, .slice A0 m0 c0] := by rw [hW1, hQ0]; exact Blk.new _ _ _
  obtain ⟨n1, k1, o1, s1, t1, g1, l1, d1, ok, er, hd, hok, hno, hP, hR⟩ := got b (by omega) hb1
  rw [← hm1] at hP hR
  have P1 := Lib.hid (hP A1 c1 w W1 hB1 hr1 hc1)
  have P2 := Lib.hid (fun W (hB : Below w.heap.size w W) => hR A1 c1 W (Kd.C_below hr1 hB) hc1)
  have HB1 := Lib.hid hB1
  have HQ1 := Lib.hid hQ1
  have HW1 := Lib.hid hW1
  have HQ0 := Lib.hid hQ0
  have HOK := Lib.hid hok
  have HNO := Lib.hid hno
  have HR0 := Lib.hid hr0
  have HM0 := Lib.hid hm0
  have HC0 := Lib.hid hc0
  have HL0 := Lib.hid hl0
  have HAB := Lib.hid hb0
  have HHH := Lib.hid (And.intro hn (And.intro ho (And.intro hs (And.intro ht (And.intro hg hl)))))
  have f0 : decide ((m0 : Int) > 300) = false := by simp; omega
  have f1 : ¬ (300 : Int) < (m0 : Int) := by omega
  have f2 : decide ((m1 : Int) > 500) = false := by simp; omega
  have f3 : ¬ (500 : Int) < (m1 : Int) := by omega
  clear hB1 hQ1 hW1 hQ0 hd hok hno hP hR hr0 hm0 hc0 hl0 hb0 hr1 hm1 hc1 hl1 hb1 hn ho hs ht hg hl
  go_enter Try.func3, Try.ntmps3
  go_upto_region 3 with (fail)
  rw [← HW1.out, ← HQ0.out]
  go_upto_region 4 with (go_at_call 6; (with_reducible refine P1.out.mono ?_); rintro e u1 ⟨A2, m2, c2, hm2, hc2, rfl, hr2, hb2⟩; have HM2 := Lib.hid hm2; have HC2 := Lib.hid hc2; have HR2 := Lib.hid hr2; have HB2 := Lib.hid (HB1.out.trans (hb2.mono HB1.out.size)); have HQ2 := Lib.hid (Blk.below HQ1.out hb2 (Blk.lt HQ1.out)); clear hm2 hc2 hr2 hb2)
  obtain ⟨W2, hW2⟩ : ∃ W2, W2 = u1.alloc (.cells #[.int .u64 n1, .int .i64 k1, .int .u32 o1, .int .u16 s1, .int .u16 t1, .int .u32 g1, .int .u16 l1, .slice A2 m2 c2] 31) := ⟨_, rfl⟩
  obtain ⟨T0, hT0⟩ : ∃ T0, T0 = u1.heap.size := ⟨_, rfl⟩
  have hb3 : Below u1.heap.size u1 W2 := by rw [hW2]; exact (Below.refl _ _).alloc (Nat.le_refl _) _
  have HT3 := Lib.hid (show Blk W2 T0 31 #[.int .u64 n1, .int .i64 k1, .int .u32 o1, .int .u16 s1, .int .u16 t1, .int .u32 g1, .int .u16 l1, .slice A2 m2 c2] by rw [hW2, hT0]; exact Blk.new _ _ _)
  have HB3 := Lib.hid (HB2.out.trans (hb3.mono HB2.out.size))
  have HQ3 := Lib.hid (Blk.below HQ2.out hb3 (Blk.lt HQ2.out))
  have HR3 := Lib.hid (Kd.C_below HR2.out hb3)
  rw [← hW2, ← hT0]
  clear hW2 hT0 hb3
  go_upto_region 5 with (go_at_call 7; (with_reducible refine (P2.out _ HB3.out).mono ?_); rintro e u2 ⟨A4, m4, c4, hm2, hc2, rfl, hr2, hb2⟩; have HM4 := Lib.hid hm2; have HC4 := Lib.hid hc2; have HR4 := Lib.hid hr2; have HB4 := Lib.hid (HB3.out.trans (hb2.mono HB3.out.size)); have HQ4 := Lib.hid (Blk.below HQ3.out hb2 (Blk.lt HQ3.out)); have HT4 := Lib.hid (Blk.below HT3.out hb2 (Blk.lt HT3.out)); have HS4 := Lib.hid (Kd.C_below HR3.out hb2); clear hm2 hc2 hr2 hb2)
  obtain ⟨W4, hW4⟩ : ∃ W4, W4 = u2.alloc (.cells #[.int .u64 n1, .int .i64 k1, .int .u32 o1, .int .u16 s1, .int .u16 t1, .int .u32 g1, .int .u16 l1, .slice A4 m4 c4] 29) := ⟨_, rfl⟩
  obtain ⟨U0, hU0⟩ : ∃ U0, U0 = u2.heap.size := ⟨_, rfl⟩
  have hb3 : Below u2.heap.size u2 W4 := by rw [hW4]; exact (Below.refl _ _).alloc (Nat.le_refl _) _
  have HU5 := Lib.hid (show Blk W4 U0 29 #[.int .u64 n1, .int .i64 k1, .int .u32 o1, .int .u16 s1, .int .u16 t1, .int .u32 g1, .int .u16 l1, .slice A4 m4 c4] by rw [hW4, hU0]; exact Blk.new _ _ _)
  have HB5 := Lib.hid (HB4.out.trans (hb3.mono HB4.out.size))
  have HQ5 := Lib.hid (Blk.below HQ4.out hb3 (Blk.lt HQ4.out))
  have HT5 := Lib.hid (Blk.below HT4.out hb3 (Blk.lt HT4.out))
  have HR5 := Lib.hid (Kd.C_below HS4.out hb3)
  have HS5 := Lib.hid (Kd.C_below HR4.out hb3)
  rw [← hW4, ← hU0]
  clear hW4 hU0 hb3
  obtain ⟨nm, nm1, nm2⟩ := name_eq k
  have S5 := Lib.hid (fun W (hB : Below W4.heap.size W4 W) => show ((W.cell? ⟨Q0, 0, none⟩ = some (.int .u64 n) ∧ W.cell? ⟨Q0, 1, none⟩ = some (.int .i64 k) ∧ W.cell? ⟨Q0, 2, none⟩ = some (.int .u32 o) ∧ W.cell? ⟨Q0, 3, none⟩ = some (.int .u16 s) ∧ W.cell? ⟨Q0, 4, none⟩ = some (.int .u16 t) ∧ W.cell? ⟨Q0, 5, none⟩ = some (.int .u32 g) ∧ W.cell? ⟨Q0, 6, none⟩ = some (.int .u16 l) ∧ W.cell? ⟨Q0, 7, none⟩ = some (.slice A0 m0 c0)) ∧ (W.cell? ⟨T0, 0, none⟩ = some (.int .u64 n1) ∧ W.cell? ⟨T0, 1, none⟩ = some (.int .i64 k1) ∧ W.cell? ⟨T0, 2, none⟩ = some (.int .u32 o1) ∧ W.cell? ⟨T0, 3, none⟩ = some (.int .u16 s1) ∧ W.cell? ⟨T0, 4, none⟩ = some (.int .u16 t1) ∧ W.cell? ⟨T0, 5, none⟩ = some (.int .u32 g1) ∧ W.cell? ⟨T0, 6, none⟩ = some (.int .u16 l1) ∧ W.cell? ⟨T0, 7, none⟩ = some (.slice A2 m2 c2)) ∧ (W.cell? ⟨U0, 0, none⟩ = some (.int .u64 n1) ∧ W.cell? ⟨U0, 1, none⟩ = some (.int .i64 k1) ∧ W.cell? ⟨U0, 2, none⟩ = some (.int .u32 o1) ∧ W.cell? ⟨U0, 3, none⟩ = some (.int .u16 s1) ∧ W.cell? ⟨U0, 4, none⟩ = some (.int .u16 t1) ∧ W.cell? ⟨U0, 5, none⟩ = some (.int .u32 g1) ∧ W.cell? ⟨U0, 6, none⟩ = some (.int .u16 l1) ∧ W.cell? ⟨U0, 7, none⟩ = some (.slice A4 m4 c4))) from ⟨(blk8 (Blk.below HQ5.out hB (Blk.lt HQ5.out))).1, (blk8 (Blk.below HT5.out hB (Blk.lt HT5.out))).1, (blk8 (Blk.below HU5.out hB (Blk.lt HU5.out))).1⟩)
  have CI := Lib.hid (fun W (hB : Below W4.heap.size W4 W) => is_any n1 k1 o1 s1 t1 g1 l1 A2 m2 c2 d1 n1 k1 o1 s1 t1 g1 l1 A4 m4 c4 d1 W (Kd.C_below HR5.out hB) HM2.out HC2.out (Kd.C_below HS5.out hB) HM4.out HC4.out ⟨rfl, rfl, rfl, rfl, rfl, rfl, rfl, rfl⟩)
  have CT := Lib.hid (fun W => to_any n k o s t g l A0 m0 c0 W)
  obtain ⟨rr, hrr⟩ : ∃ rr, rightB k l data = rr := ⟨_, rfl⟩
  have CR := Lib.hid (fun W (hB : Below W4.heap.size W4 W) => right_calls n k o s t g l A0 m0 c0 data W (Kd.C_below HR0.out (HB5.out.trans (hB.mono HB5.out.size))) HM0.out HC0.out rr hrr)
  have CF := Lib.hid (fun W (hB : Below W4.heap.size W4 W) => ref_right n k o s t g l A0 m0 c0 data W (Kd.C_below HR0.out (HB5.out.trans (hB.mono HB5.out.size))) HM0.out HC0.out rr hrr)
  have N1 := Lib.hid (fun W => wire_Name.calls k nm W nm1)
  have N2 := Lib.hid (fun W => coldframeref15_Name.calls k nm W nm2)
  have HB9 := Lib.hid (show Below W4.heap.size W4 W4.drew from (Below.refl _ _).drew)
  have HRR := Lib.hid hrr
  clear nm1 nm2 hrr
  cases ok
  case true =>
    have he := HOK.out rfl
    subst he
    apply joinC (fun W => Below W4.heap.size W4 W)
    · intro REST
      refine wp_region_noPanic ?_
      refine wp_region_held_drew (S := (fun W => ((W.cell? ⟨Q0, 0, none⟩ = some (.int .u64 n) ∧ W.cell? ⟨Q0, 1, none⟩ = some (.int .i64 k) ∧ W.cell? ⟨Q0, 2, none⟩ = some (.int .u32 o) ∧ W.cell? ⟨Q0, 3, none⟩ = some (.int .u16 s) ∧ W.cell? ⟨Q0, 4, none⟩ = some (.int .u16 t) ∧ W.cell? ⟨Q0, 5, none⟩ = some (.int .u32 g) ∧ W.cell? ⟨Q0, 6, none⟩ = some (.int .u16 l) ∧ W.cell? ⟨Q0, 7, none⟩ = some (.slice A0 m0 c0)) ∧ (W.cell? ⟨T0, 0, none⟩ = some (.int .u64 n1) ∧ W.cell? ⟨T0, 1, none⟩ = some (.int .i64 k1) ∧ W.cell? ⟨T0, 2, none⟩ = some (.int .u32 o1) ∧ W.cell? ⟨T0, 3, none⟩ = some (.int .u16 s1) ∧ W.cell? ⟨T0, 4, none⟩ = some (.int .u16 t1) ∧ W.cell? ⟨T0, 5, none⟩ = some (.int .u32 g1) ∧ W.cell? ⟨T0, 6, none⟩ = some (.int .u16 l1) ∧ W.cell? ⟨T0, 7, none⟩ = some (.slice A2 m2 c2)) ∧ (W.cell? ⟨U0, 0, none⟩ = some (.int .u64 n1) ∧ W.cell? ⟨U0, 1, none⟩ = some (.int .i64 k1) ∧ W.cell? ⟨U0, 2, none⟩ = some (.int .u32 o1) ∧ W.cell? ⟨U0, 3, none⟩ = some (.int .u16 s1) ∧ W.cell? ⟨U0, 4, none⟩ = some (.int .u16 t1) ∧ W.cell? ⟨U0, 5, none⟩ = some (.int .u32 g1) ∧ W.cell? ⟨U0, 6, none⟩ = some (.int .u16 l1) ∧ W.cell? ⟨U0, 7, none⟩ = some (.slice A4 m4 c4))))) (by kernel_rfl) ?_ (fun hHeld => ?_)
      · ((try dsimp only); exact S5.out _ HB9.out)
      refine wpAnyH_take (i := 0) (oi := { dst := some 32, op := Go.Op.load 31 (Go.Operand.tmp 5), type := 31, pos := "law.go:30", after := #[], guard := none }) (v := ?_) rfl (by kernel_rfl) (by kernel_rfl) (by kernel_rfl) (fun _ _ _ h => h) (Or.inl ⟨by rfl, ?_⟩) (by assumption) ?_
      rotate_left 1
      · (intro w hSw; (try dsimp only at hSw); go_simp; try with_reducible rfl)
      try simp only [Act.put, List.setIfInBounds_toArray, List.set_cons_zero, List.set_cons_succ]
      refine wpAnyH_take (i := 1) (oi := { dst := some 33, op := Go.Op.load 29 (Go.Operand.tmp 7), type := 29, pos := "law.go:30", after := #[], guard := none }) (v := ?_) rfl (by kernel_rfl) (by kernel_rfl) (by kernel_rfl) (fun _ _ _ h => h) (Or.inl ⟨by rfl, ?_⟩) (by assumption) ?_
      rotate_left 1
      · (intro w hSw; (try dsimp only at hSw); go_simp; try with_reducible rfl)
      try simp only [Act.put, List.setIfInBounds_toArray, List.set_cons_zero, List.set_cons_succ]
      refine wpAnyH_ready (rs := [2]) (by kernel_rfl) (by simp) ?_
      refine AllReadyH.cons (o := { dst := some 34, op := Go.Op.call { callee := Go.Callee.value (Go.Operand.func 8), args := #[Go.Operand.tmp 32, Go.Operand.tmp 33], argTypes := #[31, 29] }, type := 4, pos := "law.go:30", after := #[{ on := 0, ground := Go.Ground.data }, { on := 1, ground := Go.Ground.data }], guard := none }) rfl (fun K hK => ?_) AllReadyH.nil
      go_simp
      go_at_call 8
      (refine (CI.out _ HB9.out).mono ?_); rintro e v ⟨rfl, hb⟩
      replace HB9 := Lib.hid (HB9.out.trans (hb.mono HB9.out.size))
      clear hb
      clear hHeld
      refine hK.out _ _ ?_ (fun hHeld => ?_)
      · ((try dsimp only); exact S5.out _ HB9.out)
      clear hK K
      refine wpAnyH_take (i := 3) (oi := { dst := some 35, op := Go.Op.unOp Go.UnOp.not 4 (Go.Operand.tmp 34), type := 4, pos := "law.go:30", after := #[{ on := 2, ground := Go.Ground.data }], guard := none }) (v := ?_) rfl (by kernel_rfl) (by kernel_rfl) (by kernel_rfl) (fun _ _ _ h => h) (Or.inl ⟨by rfl, ?_⟩) (by assumption) ?_
      rotate_left 1
      · (intro w hSw; (try dsimp only at hSw); go_simp; try with_reducible rfl)
      try simp only [Act.put, List.setIfInBounds_toArray, List.set_cons_zero, List.set_cons_succ]
      refine wpAnyH_take (i := 4) (oi := { dst := some 36, op := Go.Op.move (Go.Operand.tmp 35), type := 4, pos := "law.go:30", after := #[{ on := 3, ground := Go.Ground.data }, { on := 2, ground := Go.Ground.chain }], guard := none }) (v := ?_) rfl (by kernel_rfl) (by kernel_rfl) (by kernel_rfl) (fun _ _ _ h => h) (Or.inl ⟨by rfl, ?_⟩) (by assumption) ?_
      rotate_left 1
      · (intro w hSw; (try dsimp only at hSw); go_simp; try with_reducible rfl)
      try simp only [Act.put, List.setIfInBounds_toArray, List.set_cons_zero, List.set_cons_succ]
      refine wpAnyH_take (i := 5) (oi := { dst := some 37, op := Go.Op.move (Go.Operand.tmp 6), type := 32, pos := "law.go:30", after := #[{ on := 4, ground := Go.Ground.guard }], guard := some (4, false) }) (v := ?_) rfl (by kernel_rfl) (by kernel_rfl) (by kernel_rfl) (fun _ _ _ h => h) (Or.inl ⟨by rfl, ?_⟩) (by assumption) ?_
      rotate_left 1
      · (intro w hSw; (try dsimp only at hSw); go_simp; try with_reducible rfl)
      try simp only [Act.put, List.setIfInBounds_toArray, List.set_cons_zero, List.set_cons_succ]
      refine wpAnyH_take (i := 6) (oi := { dst := some 38, op := Go.Op.binOp Go.BinOp.eql 32 (Go.Operand.tmp 37) (Go.Operand.const (Go.Value.int Go.IntKind.i64 0)) 32, type := 4, pos := "law.go:30", after := #[{ on := 5, ground := Go.Ground.data }, { on := 4, ground := Go.Ground.guard }], guard := some (4, false) }) (v := ?_) rfl (by kernel_rfl) (by kernel_rfl) (by kernel_rfl) (fun _ _ _ h => h) (Or.inl ⟨by rfl, ?_⟩) (by assumption) ?_
      rotate_left 1
      · (intro w hSw; (try dsimp only at hSw); go_simp; try with_reducible rfl)
      try simp only [Act.put, List.setIfInBounds_toArray, List.set_cons_zero, List.set_cons_succ]
      refine wpAnyH_take (i := 7) (oi := { dst := some 39, op := Go.Op.move (Go.Operand.tmp 8), type := 4, pos := "law.go:30", after := #[{ on := 4, ground := Go.Ground.guard }], guard := some (4, false) }) (v := ?_) rfl (by kernel_rfl) (by kernel_rfl) (by kernel_rfl) (fun _ _ _ h => h) (Or.inl ⟨by rfl, ?_⟩) (by assumption) ?_
      rotate_left 1
      · (intro w hSw; (try dsimp only at hSw); go_simp; try with_reducible rfl)
      try simp only [Act.put, List.setIfInBounds_toArray, List.set_cons_zero, List.set_cons_succ]
      refine wpAnyH_take (i := 8) (oi := { dst := some 40, op := Go.Op.binOp Go.BinOp.neq 4 (Go.Operand.tmp 38) (Go.Operand.tmp 39) 4, type := 4, pos := "law.go:30", after := #[{ on := 6, ground := Go.Ground.data }, { on := 7, ground := Go.Ground.data }, { on := 4, ground := Go.Ground.guard }], guard := some (4, false) }) (v := ?_) rfl (by kernel_rfl) (by kernel_rfl) (by kernel_rfl) (fun _ _ _ h => h) (Or.inl ⟨by rfl, ?_⟩) (by assumption) ?_
      rotate_left 1
      · (intro w hSw; (try dsimp only at hSw); go_simp; try with_reducible rfl)
      try simp only [Act.put, List.setIfInBounds_toArray, List.set_cons_zero, List.set_cons_succ]
      refine wpAnyH_take (i := 9) (oi := { dst := some 41, op := Go.Op.pick (Go.Operand.tmp 36) (Go.Operand.const (Go.Value.bool true)) (Go.Operand.tmp 40), type := 4, pos := "law.go:30", after := #[{ on := 4, ground := Go.Ground.data }, { on := 8, ground := Go.Ground.data }], guard := none }) (v := ?_) rfl (by kernel_rfl) (by kernel_rfl) (by kernel_rfl) (fun _ _ _ h => h) (Or.inl ⟨by rfl, ?_⟩) (by assumption) ?_
      rotate_left 1
      · (intro w hSw; (try dsimp only at hSw); go_simp; try with_reducible rfl)
      try simp only [Act.put, List.setIfInBounds_toArray, List.set_cons_zero, List.set_cons_succ]
      refine wpAnyH_take (i := 10) (oi := { dst := some 42, op := Go.Op.move (Go.Operand.tmp 41), type := 4, pos := "law.go:30", after := #[{ on := 9, ground := Go.Ground.data }, { on := 4, ground := Go.Ground.chain }], guard := none }) (v := ?_) rfl (by kernel_rfl) (by kernel_rfl) (by kernel_rfl) (fun _ _ _ h => h) (Or.inl ⟨by rfl, ?_⟩) (by assumption) ?_
      rotate_left 1
      · (intro w hSw; (try dsimp only at hSw); go_simp; try with_reducible rfl)
      try simp only [Act.put, List.setIfInBounds_toArray, List.set_cons_zero, List.set_cons_succ]
      refine wpAnyH_take (i := 11) (oi := { dst := some 43, op := Go.Op.move (Go.Operand.tmp 8), type := 4, pos := "law.go:30", after := #[{ on := 10, ground := Go.Ground.guard }], guard := some (10, false) }) (v := ?_) rfl (by kernel_rfl) (by kernel_rfl) (by kernel_rfl) (fun _ _ _ h => h) (Or.inl ⟨by rfl, ?_⟩) (by assumption) ?_
      rotate_left 1
      · (intro w hSw; (try dsimp only at hSw); go_simp; try with_reducible rfl)
      try simp only [Act.put, List.setIfInBounds_toArray, List.set_cons_zero, List.set_cons_succ]
      refine wpAnyH_take (i := 12) (oi := { dst := some 44, op := Go.Op.unOp Go.UnOp.not 4 (Go.Operand.tmp 43), type := 4, pos := "law.go:30", after := #[{ on := 11, ground := Go.Ground.data }, { on := 10, ground := Go.Ground.guard }], guard := some (10, false) }) (v := ?_) rfl (by kernel_rfl) (by kernel_rfl) (by kernel_rfl) (fun _ _ _ h => h) (Or.inl ⟨by rfl, ?_⟩) (by assumption) ?_
      rotate_left 1
      · (intro w hSw; (try dsimp only at hSw); go_simp; try with_reducible rfl)
      try simp only [Act.put, List.setIfInBounds_toArray, List.set_cons_zero, List.set_cons_succ]
      refine wpAnyH_take (i := 13) (oi := { dst := some 45, op := Go.Op.move (Go.Operand.tmp 44), type := 4, pos := "law.go:30", after := #[{ on := 12, ground := Go.Ground.data }, { on := 10, ground := Go.Ground.chain }, { on := 10, ground := Go.Ground.guard }], guard := some (10, false) }) (v := ?_) rfl (by kernel_rfl) (by kernel_rfl) (by kernel_rfl) (fun _ _ _ h => h) (Or.inl ⟨by rfl, ?_⟩) (by assumption) ?_
      rotate_left 1
      · (intro w hSw; (try dsimp only at hSw); go_simp; try with_reducible rfl)
      try simp only [Act.put, List.setIfInBounds_toArray, List.set_cons_zero, List.set_cons_succ]
      refine wpAnyH_take (i := 14) (oi := { dst := some 46, op := Go.Op.move (Go.Operand.tmp 6), type := 32, pos := "law.go:30", after := #[{ on := 13, ground := Go.Ground.guard }], guard := some (13, true) }) (v := undef) rfl (by kernel_rfl) (by kernel_rfl) (by kernel_rfl) (fun _ _ _ h => h) (Or.inr ⟨by rfl, rfl⟩) (by assumption) ?_
      try simp only [Act.put, List.setIfInBounds_toArray, List.set_cons_zero, List.set_cons_succ]
      refine wpAnyH_take (i := 15) (oi := { dst := some 47, op := Go.Op.binOp Go.BinOp.neq 32 (Go.Operand.tmp 46) (Go.Operand.const (Go.Value.int Go.IntKind.i64 21)) 32, type := 4, pos := "law.go:30", after := #[{ on := 14, ground := Go.Ground.data }, { on := 13, ground := Go.Ground.guard }], guard := some (13, true) }) (v := undef) rfl (by kernel_rfl) (by kernel_rfl) (by kernel_rfl) (fun _ _ _ h => h) (Or.inr ⟨by rfl, rfl⟩) (by assumption) ?_
      try simp only [Act.put, List.setIfInBounds_toArray, List.set_cons_zero, List.set_cons_succ]
      refine wpAnyH_take (i := 16) (oi := { dst := some 48, op := Go.Op.pick (Go.Operand.tmp 45) (Go.Operand.tmp 47) (Go.Operand.const (Go.Value.bool false)), type := 4, pos := "law.go:30", after := #[{ on := 13, ground := Go.Ground.data }, { on := 15, ground := Go.Ground.data }, { on := 10, ground := Go.Ground.guard }], guard := some (10, false) }) (v := ?_) rfl (by kernel_rfl) (by kernel_rfl) (by kernel_rfl) (fun _ _ _ h => h) (Or.inl ⟨by rfl, ?_⟩) (by assumption) ?_
      rotate_left 1
      · (intro w hSw; (try dsimp only at hSw); go_simp; try with_reducible rfl)
      try simp only [Act.put, List.setIfInBounds_toArray, List.set_cons_zero, List.set_cons_succ]
      refine wpAnyH_take (i := 17) (oi := { dst := some 49, op := Go.Op.pick (Go.Operand.tmp 42) (Go.Operand.const (Go.Value.bool true)) (Go.Operand.tmp 48), type := 4, pos := "law.go:30", after := #[{ on := 10, ground := Go.Ground.data }, { on := 16, ground := Go.Ground.data }], guard := none }) (v := ?_) rfl (by kernel_rfl) (by kernel_rfl) (by kernel_rfl) (fun _ _ _ h => h) (Or.inl ⟨by rfl, ?_⟩) (by assumption) ?_
      rotate_left 1
      · (intro w hSw; (try dsimp only at hSw); go_simp; try with_reducible rfl)
      try simp only [Act.put, List.setIfInBounds_toArray, List.set_cons_zero, List.set_cons_succ]
      refine wpAnyH_take (i := 18) (oi := { dst := some 50, op := Go.Op.move (Go.Operand.tmp 49), type := 4, pos := "law.go:30", after := #[{ on := 17, ground := Go.Ground.data }, { on := 13, ground := Go.Ground.chain }], guard := none }) (v := ?_) rfl (by kernel_rfl) (by kernel_rfl) (by kernel_rfl) (fun _ _ _ h => h) (Or.inl ⟨by rfl, ?_⟩) (by assumption) ?_
      rotate_left 1
      · (intro w hSw; (try dsimp only at hSw); go_simp; try with_reducible rfl)
      try simp only [Act.put, List.setIfInBounds_toArray, List.set_cons_zero, List.set_cons_succ]
      refine wpAnyH_take (i := 19) (oi := { dst := some 51, op := Go.Op.load 29 (Go.Operand.tmp 2), type := 29, pos := "law.go:30", after := #[{ on := 18, ground := Go.Ground.guard }], guard := some (18, false) }) (v := ?_) rfl (by kernel_rfl) (by kernel_rfl) (by kernel_rfl) (fun _ _ _ h => h) (Or.inl ⟨by rfl, ?_⟩) (by assumption) ?_
      rotate_left 1
      · (intro w hSw; (try dsimp only at hSw); go_simp; try with_reducible rfl)
      try simp only [Act.put, List.setIfInBounds_toArray, List.set_cons_zero, List.set_cons_succ]
      refine wpAnyH_take (i := 22) (oi := { dst := some 54, op := Go.Op.load 29 (Go.Operand.tmp 2), type := 29, pos := "law.go:30", after := #[{ on := 18, ground := Go.Ground.guard }], guard := some (18, false) }) (v := ?_) rfl (by kernel_rfl) (by kernel_rfl) (by kernel_rfl) (fun _ _ _ h => h) (Or.inl ⟨by rfl, ?_⟩) (by assumption) ?_
      rotate_left 1
      · (intro w hSw; (try dsimp only at hSw); go_simp; try with_reducible rfl)
      try simp only [Act.put, List.setIfInBounds_toArray, List.set_cons_zero, List.set_cons_succ]
      refine wpAnyH_ready (rs := [20]) (by kernel_rfl) (by simp) ?_
      refine AllReadyH.cons (o := { dst := some 52, op := Go.Op.call { callee := Go.Callee.value (Go.Operand.func 9), args := #[Go.Operand.tmp 51], argTypes := #[29] }, type := 31, pos := "law.go:30", after := #[{ on := 19, ground := Go.Ground.data }, { on := 18, ground := Go.Ground.chain }, { on := 18, ground := Go.Ground.guard }], guard := some (18, false) }) rfl (fun K hK => ?_) AllReadyH.nil
      go_simp
      go_at_call 9
      (refine (CT.out _).mono ?_); rintro e v ⟨rfl, hb⟩
      replace HB9 := Lib.hid (HB9.out.trans (hb.mono HB9.out.size))
      clear hb
      clear hHeld
      refine hK.out _ _ ?_ (fun hHeld => ?_)
      · ((try dsimp only); exact S5.out _ HB9.out)
      clear hK K
      refine wpAnyH_ready (rs := [21]) (by kernel_rfl) (by simp) ?_
      refine AllReadyH.cons (o := { dst := some 53, op := Go.Op.call { callee := Go.Callee.value (Go.Operand.func 10), args := #[Go.Operand.tmp 52], argTypes := #[31] }, type := 4, pos := "law.go:30", after := #[{ on := 20, ground := Go.Ground.data }, { on := 20, ground := Go.Ground.chain }, { on := 18, ground := Go.Ground.guard }], guard := some (18, false) }) rfl (fun K hK => ?_) AllReadyH.nil
      go_simp
      go_at_call 10
      (refine (CR.out _ HB9.out).mono ?_); rintro e v ⟨rfl, hb⟩
      replace HB9 := Lib.hid (HB9.out.trans (hb.mono HB9.out.size))
      clear hb
      clear hHeld
      refine hK.out _ _ ?_ (fun hHeld => ?_)
      · ((try dsimp only); exact S5.out _ HB9.out)
      clear hK K
      refine wpAnyH_ready (rs := [23]) (by kernel_rfl) (by simp) ?_
      refine AllReadyH.cons (o := { dst := some 55, op := Go.Op.call { callee := Go.Callee.value (Go.Operand.func 11), args := #[Go.Operand.tmp 54], argTypes := #[29] }, type := 4, pos := "law.go:30", after := #[{ on := 22, ground := Go.Ground.data }, { on := 21, ground := Go.Ground.chain }, { on := 18, ground := Go.Ground.guard }], guard := some (18, false) }) rfl (fun K hK => ?_) AllReadyH.nil
      go_simp
      go_at_call 11
      (refine (CF.out _ HB9.out).mono ?_); rintro e v ⟨rfl, hb⟩
      replace HB9 := Lib.hid (HB9.out.trans (hb.mono HB9.out.size))
      clear hb
      clear hHeld
      refine hK.out _ _ ?_ (fun hHeld => ?_)
      · ((try dsimp only); exact S5.out _ HB9.out)
      clear hK K
      refine wpAnyH_take (i := 24) (oi := { dst := some 56, op := Go.Op.binOp Go.BinOp.neq 4 (Go.Operand.tmp 53) (Go.Operand.tmp 55) 4, type := 4, pos := "law.go:30", after := #[{ on := 21, ground := Go.Ground.data }, { on := 23, ground := Go.Ground.data }, { on := 18, ground := Go.Ground.guard }], guard := some (18, false) }) (v := ?_) rfl (by kernel_rfl) (by kernel_rfl) (by kernel_rfl) (fun _ _ _ h => h) (Or.inl ⟨by rfl, ?_⟩) (by assumption) ?_
      rotate_left 1
      · (intro w hSw; (try dsimp only at hSw); go_simp; try with_reducible rfl)
      try simp only [Act.put, List.setIfInBounds_toArray, List.set_cons_zero, List.set_cons_succ]
      refine wpAnyH_take (i := 25) (oi := { dst := some 57, op := Go.Op.pick (Go.Operand.tmp 50) (Go.Operand.const (Go.Value.bool true)) (Go.Operand.tmp 56), type := 4, pos := "law.go:30", after := #[{ on := 18, ground := Go.Ground.data }, { on := 24, ground := Go.Ground.data }], guard := none }) (v := ?_) rfl (by kernel_rfl) (by kernel_rfl) (by kernel_rfl) (fun _ _ _ h => h) (Or.inl ⟨by rfl, ?_⟩) (by assumption) ?_
      rotate_left 1
      · (intro w hSw; (try dsimp only at hSw); go_simp; try with_reducible rfl)
      try simp only [Act.put, List.setIfInBounds_toArray, List.set_cons_zero, List.set_cons_succ]
      refine wpAnyH_take (i := 26) (oi := { dst := some 58, op := Go.Op.move (Go.Operand.tmp 57), type := 4, pos := "law.go:30", after := #[{ on := 25, ground := Go.Ground.data }, { on := 23, ground := Go.Ground.chain }], guard := none }) (v := ?_) rfl (by kernel_rfl) (by kernel_rfl) (by kernel_rfl) (fun _ _ _ h => h) (Or.inl ⟨by rfl, ?_⟩) (by assumption) ?_
      rotate_left 1
      · (intro w hSw; (try dsimp only at hSw); go_simp; try with_reducible rfl)
      try simp only [Act.put, List.setIfInBounds_toArray, List.set_cons_zero, List.set_cons_succ]
      refine wpAnyH_take (i := 27) (oi := { dst := some 59, op := Go.Op.fieldAddr 29 (Go.Operand.tmp 2) 1, type := 0, pos := "law.go:30", after := #[{ on := 26, ground := Go.Ground.guard }], guard := some (26, false) }) (v := ?_) rfl (by kernel_rfl) (by kernel_rfl) (by kernel_rfl) (fun _ _ _ h => h) (Or.inl ⟨by rfl, ?_⟩) (by assumption) ?_
      rotate_left 1
      · (intro w hSw; (try dsimp only at hSw); go_simp; try with_reducible rfl)
      try simp only [Act.put, List.setIfInBounds_toArray, List.set_cons_zero, List.set_cons_succ]
      refine wpAnyH_take (i := 28) (oi := { dst := some 60, op := Go.Op.load 3 (Go.Operand.tmp 59), type := 3, pos := "law.go:30", after := #[{ on := 27, ground := Go.Ground.data }, { on := 26, ground := Go.Ground.guard }], guard := some (26, false) }) (v := ?_) rfl (by kernel_rfl) (by kernel_rfl) (by kernel_rfl) (fun _ _ _ h => h) (Or.inl ⟨by rfl, ?_⟩) (by assumption) ?_
      rotate_left 1
      · (intro w hSw; (try dsimp only at hSw); go_simp; try with_reducible rfl)
      try simp only [Act.put, List.setIfInBounds_toArray, List.set_cons_zero, List.set_cons_succ]
      refine wpAnyH_take (i := 30) (oi := { dst := some 62, op := Go.Op.fieldAddr 29 (Go.Operand.tmp 2) 1, type := 0, pos := "law.go:30", after := #[{ on := 26, ground := Go.Ground.guard }], guard := some (26, false) }) (v := ?_) rfl (by kernel_rfl) (by kernel_rfl) (by kernel_rfl) (fun _ _ _ h => h) (Or.inl ⟨by rfl, ?_⟩) (by assumption) ?_
      rotate_left 1
      · (intro w hSw; (try dsimp only at hSw); go_simp; try with_reducible rfl)
      try simp only [Act.put, List.setIfInBounds_toArray, List.set_cons_zero, List.set_cons_succ]
      refine wpAnyH_take (i := 31) (oi := { dst := some 63, op := Go.Op.load 3 (Go.Operand.tmp 62), type := 3, pos := "law.go:30", after := #[{ on := 30, ground := Go.Ground.data }, { on := 26, ground := Go.Ground.guard }], guard := some (26, false) }) (v := ?_) rfl (by kernel_rfl) (by kernel_rfl) (by kernel_rfl) (fun _ _ _ h => h) (Or.inl ⟨by rfl, ?_⟩) (by assumption) ?_
      rotate_left 1
      · (intro w hSw; (try dsimp only at hSw); go_simp; try with_reducible rfl)
      try simp only [Act.put, List.setIfInBounds_toArray, List.set_cons_zero, List.set_cons_succ]
      refine wpAnyH_ready (rs := [29]) (by kernel_rfl) (by simp) ?_
      refine AllReadyH.cons (o := { dst := some 61, op := Go.Op.call { callee := Go.Callee.value (Go.Operand.func 12), args := #[Go.Operand.tmp 60], argTypes := #[3] }, type := 9, pos := "law.go:30", after := #[{ on := 28, ground := Go.Ground.data }, { on := 26, ground := Go.Ground.chain }, { on := 26, ground := Go.Ground.guard }], guard := some (26, false) }) rfl (fun K hK => ?_) AllReadyH.nil
      go_simp
      go_at_call 12
      (refine (N1.out _).mono ?_); rintro e v ⟨rfl, hb⟩
      replace hb := hb.below
      replace HB9 := Lib.hid (HB9.out.trans (hb.mono HB9.out.size))
      clear hb
      clear hHeld
      refine hK.out _ _ ?_ (fun hHeld => ?_)
      · ((try dsimp only); exact S5.out _ HB9.out)
      clear hK K
      refine wpAnyH_ready (rs := [32]) (by kernel_rfl) (by simp) ?_
      refine AllReadyH.cons (o := { dst := some 64, op := Go.Op.call { callee := Go.Callee.value (Go.Operand.func 13), args := #[Go.Operand.tmp 63], argTypes := #[3] }, type := 9, pos := "law.go:30", after := #[{ on := 31, ground := Go.Ground.data }, { on := 29, ground := Go.Ground.chain }, { on := 26, ground := Go.Ground.guard }], guard := some (26, false) }) rfl (fun K hK => ?_) AllReadyH.nil
      go_simp
      go_at_call 13
      (refine (N2.out _).mono ?_); rintro e v ⟨rfl, hb⟩
      replace HB9 := Lib.hid (HB9.out.trans (hb.mono HB9.out.size))
      clear hb
      clear hHeld
      refine hK.out _ _ ?_ (fun hHeld => ?_)
      · ((try dsimp only); exact S5.out _ HB9.out)
      clear hK K
      refine wpAnyH_take (i := 33) (oi := { dst := some 65, op := Go.Op.binOp Go.BinOp.neq 9 (Go.Operand.tmp 61) (Go.Operand.tmp 64) 9, type := 4, pos := "law.go:30", after := #[{ on := 29, ground := Go.Ground.data }, { on := 32, ground := Go.Ground.data }, { on := 26, ground := Go.Ground.guard }], guard := some (26, false) }) (v := ?_) rfl (by kernel_rfl) (by kernel_rfl) (by kernel_rfl) (fun _ _ _ h => h) (Or.inl ⟨by rfl, ?_⟩) (by assumption) ?_
      rotate_left 1
      · (intro w hSw; (try dsimp only at hSw); go_simp; try with_reducible rfl)
      try simp only [Act.put, List.setIfInBounds_toArray, List.set_cons_zero, List.set_cons_succ]
      refine wpAnyH_take (i := 34) (oi := { dst := some 66, op := Go.Op.pick (Go.Operand.tmp 58) (Go.Operand.const (Go.Value.bool true)) (Go.Operand.tmp 65), type := 4, pos := "law.go:30", after := #[{ on := 26, ground := Go.Ground.data }, { on := 33, ground := Go.Ground.data }], guard := none }) (v := ?_) rfl (by kernel_rfl) (by kernel_rfl) (by kernel_rfl) (fun _ _ _ h => h) (Or.inl ⟨by rfl, ?_⟩) (by assumption) ?_
      rotate_left 1
      · (intro w hSw; (try dsimp only at hSw); go_simp; try with_reducible rfl)
      try simp only [Act.put, List.setIfInBounds_toArray, List.set_cons_zero, List.set_cons_succ]
      refine wpAnyH_done (by kernel_rfl) ?_ _
      refine NoPanic.normal ?_
      exact REST _ HB9.out
    · intro W9 hB9
      have HB9 := Lib.hid (show Below W4.heap.size W4 W9 from hB9)
      clear hB9
      have hQ9 := Blk.below HQ5.out HB9.out (Blk.lt HQ5.out)
      obtain ⟨⟨y0, y1, y2, y3, y4, y5, y6, y7⟩, _⟩ := blk8 hQ9
      have HQ9 := Lib.hid hQ9
      have HB10 := Lib.hid (HB5.out.trans (HB9.out.mono HB5.out.size))
      clear hQ9
      cases rr
      case false =>
        have CN := Lib.hid (fun W (hB : Below w.heap.size w W) => req_none n o s t g l k A0 m0 c0 data W (Kd.C_below HR0.out hB) HM0.out HC0.out HRR.out)
        go_wp2_with (first
          | (go_at_call 9; (with_reducible refine (CT.out _).mono ?_); rintro e v1 ⟨rfl, hb⟩; have HB11 := Lib.hid (HB9.out.trans (hb.mono HB9.out.size)); clear hb)
          | (go_at_call 14; (with_reducible refine (CN.out _ (HB5.out.trans (HB11.out.mono HB5.out.size))).mono ?_); rintro e v2 ⟨rfl, hb⟩; have HB12 := Lib.hid (HB11.out.trans (hb.mono HB11.out.size)); clear hb; obtain ⟨⟨x0, x1, x2, x3, x4, x5, x6, x7⟩, _⟩ := blk8 (Blk.below HQ5.out HB12.out (Blk.lt HQ5.out)))
          | (go_at_call 11; (with_reducible refine (CF.out _ HB12.out).mono ?_); rintro e v3 ⟨rfl, hb⟩; have HB13 := Lib.hid (HB12.out.trans (hb.mono HB12.out.size)); clear hb)
          | (go_at_call 5; (with_reducible refine (awake_calls _).mono ?_); rintro e v4 ⟨rfl, hb⟩; have HB14 := Lib.hid (HB13.out.trans (hb.mono HB13.out.size)); clear hb))
        go_ret
        exact ⟨rfl, HB5.out.trans (HB14.out.mono HB5.out.size)⟩
      case true =>
        obtain ⟨kk, rfl, hkk⟩ := right_kind HRR.out
        have CY := Lib.hid (fun W (hB : Below w.heap.size w W) => req_bytes n kk o s t g l A0 m0 c0 data w W hB HR0.out HM0.out HC0.out HRR.out HHH.out.1 hkk HHH.out.2.1 HHH.out.2.2.1 HHH.out.2.2.2.1 HHH.out.2.2.2.2.1 HHH.out.2.2.2.2.2 (by have := HL0.out; omega))
        have CZ := Lib.hid (fun W (hB : Below w.heap.size w W) => refreq_any n kk o s t g l A0 m0 c0 data w W hB HR0.out HM0.out HC0.out HHH.out.1 hkk HHH.out.2.1 HHH.out.2.2.1 HHH.out.2.2.2.1 HHH.out.2.2.2.2.1 HHH.out.2.2.2.2.2 (by have := HL0.out; omega))
        have CB := Lib.hid (back n kk o s t g l data (by have := HL0.out; have := HM0.out; omega) HAB.out HRR.out HHH.out.1 hkk HHH.out.2.1 HHH.out.2.2.1 HHH.out.2.2.2.1 HHH.out.2.2.2.2.1 HHH.out.2.2.2.2.2)
        clear hkk
        go_upto_region 8 with (first
          | (go_at_call 9; (with_reducible refine (CT.out _).mono ?_); rintro e v1 ⟨rfl, hb⟩; have HB11 := Lib.hid (HB9.out.trans (hb.mono HB9.out.size)); clear hb)
          | (go_at_call 14; (with_reducible refine (CY.out _ (HB5.out.trans (HB11.out.mono HB5.out.size))).mono ?_); rintro e v2 ⟨A6, m6, c6, hm6, rfl, ho6, hb⟩; have HM6 := Lib.hid hm6; have HO6 := Lib.hid ho6; have HB12 := Lib.hid (HB11.out.trans (hb.mono HB11.out.size)); clear hb hm6 ho6; obtain ⟨⟨x0, x1, x2, x3, x4, x5, x6, x7⟩, _⟩ := blk8 (Blk.below HQ5.out HB12.out (Blk.lt HQ5.out))))
        go_upto_region 10 with (go_at_call 11; (with_reducible refine (CF.out _ HB12.out).mono ?_); rintro e v3 ⟨rfl, hb⟩; have HB13 := Lib.hid (HB12.out.trans (hb.mono HB12.out.size)); have HO7 := Lib.hid (pw_own_below HO6.out hb); clear hb)
        have CP := Lib.hid (CB.out.2.2.2.1 A6 c6 v3 v3 (Below.refl _ _) (Kd.C_of_reads (d := (0 : Int)) (by rw [← HM6.out]; exact own_reads' HO7.out)) (by rw [← HM6.out]; exact own_le HO7.out))
        rw [← HM6.out] at CP
        go_upto_region 11 with (go_at_call 6; (with_reducible refine CP.out.mono ?_); rintro e v4 ⟨A8, m8, c8, hm8, hc8, rfl, hr8, hb⟩; have HM8 := Lib.hid hm8; have HC8 := Lib.hid hc8; have HR8 := Lib.hid hr8; have HB14 := Lib.hid (HB13.out.trans (hb.mono HB13.out.size)); have HO8 := Lib.hid (pw_own_below HO7.out hb); clear hb hm8 hc8 hr8)
        obtain ⟨W8, hW8⟩ : ∃ W8, W8 = v4.alloc (.cells #[.int .u64 n, .int .i64 kk, .int .u32 o, .int .u16 s, .int .u16 t, .int .u32 g, .int .u16 l, .slice A8 m8 c8] 31) := ⟨_, rfl⟩
        obtain ⟨V0, hV0⟩ : ∃ V0, V0 = v4.heap.size := ⟨_, rfl⟩
        have hb3 : Below v4.heap.size v4 W8 := by rw [hW8]; exact (Below.refl _ _).alloc (Nat.le_refl _) _
        have HV8 := Lib.hid (show Blk W8 V0 31 #[.int .u64 n, .int .i64 kk, .int .u32 o, .int .u16 s, .int .u16 t, .int .u32 g, .int .u16 l, .slice A8 m8 c8] by rw [hW8, hV0]; exact Blk.new _ _ _)
        have HB15 := Lib.hid (HB14.out.trans (hb3.mono HB14.out.size))
        have HQ8 := Lib.hid (Blk.below HQ5.out HB15.out (Blk.lt HQ5.out))
        have HR9 := Lib.hid (Kd.C_below HR8.out hb3)
        have HO9 := Lib.hid (pw_own_below HO8.out hb3)
        rw [← hW8, ← hV0]
        clear hW8 hV0 hb3
        have HBW := Lib.hid (show Below w.heap.size w W8 from HB5.out.trans (HB15.out.mono HB5.out.size))
        have S8 := Lib.hid (fun W (hB : Below W8.heap.size W8 W) => show ((W.cell? ⟨Q0, 0, none⟩ = some (.int .u64 n) ∧ W.cell? ⟨Q0, 1, none⟩ = some (.int .i64 kk) ∧ W.cell? ⟨Q0, 2, none⟩ = some (.int .u32 o) ∧ W.cell? ⟨Q0, 3, none⟩ = some (.int .u16 s) ∧ W.cell? ⟨Q0, 4, none⟩ = some (.int .u16 t) ∧ W.cell? ⟨Q0, 5, none⟩ = some (.int .u32 g) ∧ W.cell? ⟨Q0, 6, none⟩ = some (.int .u16 l) ∧ W.cell? ⟨Q0, 7, none⟩ = some (.slice A0 m0 c0)) ∧ (W.cell? ⟨V0, 0, none⟩ = some (.int .u64 n) ∧ W.cell? ⟨V0, 1, none⟩ = some (.int .i64 kk) ∧ W.cell? ⟨V0, 2, none⟩ = some (.int .u32 o) ∧ W.cell? ⟨V0, 3, none⟩ = some (.int .u16 s) ∧ W.cell? ⟨V0, 4, none⟩ = some (.int .u16 t) ∧ W.cell? ⟨V0, 5, none⟩ = some (.int .u32 g) ∧ W.cell? ⟨V0, 6, none⟩ = some (.int .u16 l) ∧ W.cell? ⟨V0, 7, none⟩ = some (.slice A8 m8 c8)) ∧ (convert 27 9 (.slice A6 m6 c6)).run Try.prog W = .ok (.string (strOfNums (reqB n kk o s t g l data))) W) from ⟨(blk8 (Blk.below HQ8.out hB (Blk.lt HQ8.out))).1, (blk8 (Blk.below HV8.out hB (Blk.lt HV8.out))).1, str_reads (own_reads' (pw_own_below HO9.out hB))⟩)
        have CI8 := Lib.hid (fun W (hB : Below W8.heap.size W8 W) => is_any n kk o s t g l A8 m8 c8 data n kk o s t g l A0 m0 c0 data W (Kd.C_below HR9.out hB) HM8.out HC8.out (Kd.C_below HR0.out (HBW.out.trans (hB.mono HBW.out.size))) HM0.out HC0.out ⟨rfl, rfl, rfl, rfl, rfl, rfl, rfl, rfl⟩)
        have HB8 := Lib.hid (show Below W8.heap.size W8 W8.drew from (Below.refl _ _).drew)
        refine wp_region_noPanic ?_
        refine wp_region_held_drew (S := (fun W => ((W.cell? ⟨Q0, 0, none⟩ = some (.int .u64 n) ∧ W.cell? ⟨Q0, 1, none⟩ = some (.int .i64 kk) ∧ W.cell? ⟨Q0, 2, none⟩ = some (.int .u32 o) ∧ W.cell? ⟨Q0, 3, none⟩ = some (.int .u16 s) ∧ W.cell? ⟨Q0, 4, none⟩ = some (.int .u16 t) ∧ W.cell? ⟨Q0, 5, none⟩ = some (.int .u32 g) ∧ W.cell? ⟨Q0, 6, none⟩ = some (.int .u16 l) ∧ W.cell? ⟨Q0, 7, none⟩ = some (.slice A0 m0 c0)) ∧ (W.cell? ⟨V0, 0, none⟩ = some (.int .u64 n) ∧ W.cell? ⟨V0, 1, none⟩ = some (.int .i64 kk) ∧ W.cell? ⟨V0, 2, none⟩ = some (.int .u32 o) ∧ W.cell? ⟨V0, 3, none⟩ = some (.int .u16 s) ∧ W.cell? ⟨V0, 4, none⟩ = some (.int .u16 t) ∧ W.cell? ⟨V0, 5, none⟩ = some (.int .u32 g) ∧ W.cell? ⟨V0, 6, none⟩ = some (.int .u16 l) ∧ W.cell? ⟨V0, 7, none⟩ = some (.slice A8 m8 c8)) ∧ (convert 27 9 (.slice A6 m6 c6)).run Try.prog W = .ok (.string (strOfNums (reqB n kk o s t g l data))) W))) (by kernel_rfl) ?_ (fun hHeld => ?_)
        · ((try dsimp only); exact S8.out _ HB8.out)
        refine wpAnyH_take (i := 0) (oi := { dst := some 84, op := Go.Op.move (Go.Operand.tmp 9), type := 27, pos := "law.go:38", after := #[], guard := none }) (v := ?_) rfl (by kernel_rfl) (by kernel_rfl) (by kernel_rfl) (fun _ _ _ h => h) (Or.inl ⟨by rfl, ?_⟩) (by assumption) ?_
        rotate_left 1
        · (intro w hSw; (try dsimp only at hSw); go_simp; try with_reducible rfl)
        try simp only [Act.put, List.setIfInBounds_toArray, List.set_cons_zero, List.set_cons_succ]
        refine wpAnyH_take (i := 1) (oi := { dst := some 85, op := Go.Op.convert 27 9 (Go.Operand.tmp 84), type := 9, pos := "law.go:38", after := #[{ on := 0, ground := Go.Ground.data }], guard := none }) (v := ?_) rfl (by kernel_rfl) (by kernel_rfl) (by kernel_rfl) (fun _ _ _ h => h) (Or.inl ⟨by rfl, ?_⟩) (by assumption) ?_
        rotate_left 1
        · (intro w hSw; (try dsimp only at hSw); go_simp; try with_reducible rfl)
        try simp only [Act.put, List.setIfInBounds_toArray, List.set_cons_zero, List.set_cons_succ]
        refine wpAnyH_take (i := 2) (oi := { dst := some 86, op := Go.Op.load 29 (Go.Operand.tmp 2), type := 29, pos := "law.go:38", after := #[], guard := none }) (v := ?_) rfl (by kernel_rfl) (by kernel_rfl) (by kernel_rfl) (fun _ _ _ h => h) (Or.inl ⟨by rfl, ?_⟩) (by assumption) ?_
        rotate_left 1
        · (intro w hSw; (try dsimp only at hSw); go_simp; try with_reducible rfl)
        try simp only [Act.put, List.setIfInBounds_toArray, List.set_cons_zero, List.set_cons_succ]
        refine wpAnyH_ready (rs := [3]) (by kernel_rfl) (by simp) ?_
        refine AllReadyH.cons (o := { dst := some 87, op := Go.Op.call { callee := Go.Callee.value (Go.Operand.func 15), args := #[Go.Operand.tmp 86], argTypes := #[29] }, type := 27, pos := "law.go:38", after := #[{ on := 2, ground := Go.Ground.data }], guard := none }) rfl (fun K hK => ?_) AllReadyH.nil
        go_simp
        go_at_call 15
        (refine (CZ.out _ (HBW.out.trans (HB8.out.mono HBW.out.size))).mono ?_); rintro e v5 ⟨A9, m9, c9, hm9, rfl, hr9, hb⟩
        clear hm9
        have k9 := str_reads (c := c9) hr9
        replace HB8 := Lib.hid (HB8.out.trans (hb.mono HB8.out.size))
        clear hb
        clear hHeld
        refine hK.out _ _ ?_ (fun hHeld => ?_)
        · ((try dsimp only); exact S8.out _ HB8.out)
        clear hK K
        refine wpAnyH_ready (rs := [4]) (by kernel_rfl) (by simp) ?_
        refine AllReadyH.cons (o := { dst := some 88, op := Go.Op.convert 27 9 (Go.Operand.tmp 87), type := 9, pos := "law.go:38", after := #[{ on := 3, ground := Go.Ground.data }], guard := none }) rfl (fun K hK => ?_) AllReadyH.nil
        go_simp
        clear hHeld
        refine hK.out _ _ ?_ (fun hHeld => ?_)
        · ((try dsimp only); exact S8.out _ HB8.out)
        clear hK K
        refine wpAnyH_take (i := 5) (oi := { dst := some 89, op := Go.Op.binOp Go.BinOp.eql 9 (Go.Operand.tmp 85) (Go.Operand.tmp 88) 9, type := 4, pos := "law.go:38", after := #[{ on := 1, ground := Go.Ground.data }, { on := 4, ground := Go.Ground.data }], guard := none }) (v := ?_) rfl (by kernel_rfl) (by kernel_rfl) (by kernel_rfl) (fun _ _ _ h => h) (Or.inl ⟨by rfl, ?_⟩) (by assumption) ?_
        rotate_left 1
        · (intro w hSw; (try dsimp only at hSw); go_simp; try with_reducible rfl)
        try simp only [Act.put, List.setIfInBounds_toArray, List.set_cons_zero, List.set_cons_succ]
        refine wpAnyH_take (i := 6) (oi := { dst := some 90, op := Go.Op.move (Go.Operand.tmp 89), type := 4, pos := "law.go:38", after := #[{ on := 5, ground := Go.Ground.data }, { on := 3, ground := Go.Ground.chain }], guard := none }) (v := ?_) rfl (by kernel_rfl) (by kernel_rfl) (by kernel_rfl) (fun _ _ _ h => h) (Or.inl ⟨by rfl, ?_⟩) (by assumption) ?_
        rotate_left 1
        · (intro w hSw; (try dsimp only at hSw); go_simp; try with_reducible rfl)
        try simp only [Act.put, List.setIfInBounds_toArray, List.set_cons_zero, List.set_cons_succ]
        refine wpAnyH_take (i := 7) (oi := { dst := some 91, op := Go.Op.load 31 (Go.Operand.tmp 10), type := 31, pos := "law.go:38", after := #[{ on := 6, ground := Go.Ground.guard }], guard := some (6, true) }) (v := ?_) rfl (by kernel_rfl) (by kernel_rfl) (by kernel_rfl) (fun _ _ _ h => h) (Or.inl ⟨by rfl, ?_⟩) (by assumption) ?_
        rotate_left 1
        · (intro w hSw; (try dsimp only at hSw); go_simp; try with_reducible rfl)
        try simp only [Act.put, List.setIfInBounds_toArray, List.set_cons_zero, List.set_cons_succ]
        refine wpAnyH_take (i := 8) (oi := { dst := some 92, op := Go.Op.load 29 (Go.Operand.tmp 2), type := 29, pos := "law.go:38", after := #[{ on := 6, ground := Go.Ground.guard }], guard := some (6, true) }) (v := ?_) rfl (by kernel_rfl) (by kernel_rfl) (by kernel_rfl) (fun _ _ _ h => h) (Or.inl ⟨by rfl, ?_⟩) (by assumption) ?_
        rotate_left 1
        · (intro w hSw; (try dsimp only at hSw); go_simp; try with_reducible rfl)
        try simp only [Act.put, List.setIfInBounds_toArray, List.set_cons_zero, List.set_cons_succ]
        refine wpAnyH_ready (rs := [9]) (by kernel_rfl) (by simp) ?_
        refine AllReadyH.cons (o := { dst := some 93, op := Go.Op.call { callee := Go.Callee.value (Go.Operand.func 8), args := #[Go.Operand.tmp 91, Go.Operand.tmp 92], argTypes := #[31, 29] }, type := 4, pos := "law.go:38", after := #[{ on := 7, ground := Go.Ground.data }, { on := 8, ground := Go.Ground.data }, { on := 6, ground := Go.Ground.chain }, { on := 6, ground := Go.Ground.guard }], guard := some (6, true) }) rfl (fun K hK => ?_) AllReadyH.nil
        go_simp
        go_at_call 8
        (refine (CI8.out _ HB8.out).mono ?_); rintro e v6 ⟨rfl, hb⟩
        replace HB8 := Lib.hid (HB8.out.trans (hb.mono HB8.out.size))
        clear hb
        clear hHeld
        refine hK.out _ _ ?_ (fun hHeld => ?_)
        · ((try dsimp only); exact S8.out _ HB8.out)
        clear hK K
        refine wpAnyH_take (i := 10) (oi := { dst := some 94, op := Go.Op.pick (Go.Operand.tmp 90) (Go.Operand.tmp 93) (Go.Operand.const (Go.Value.bool false)), type := 4, pos := "law.go:38", after := #[{ on := 6, ground := Go.Ground.data }, { on := 9, ground := Go.Ground.data }], guard := none }) (v := ?_) rfl (by kernel_rfl) (by kernel_rfl) (by kernel_rfl) (fun _ _ _ h => h) (Or.inl ⟨by rfl, ?_⟩) (by assumption) ?_
        rotate_left 1
        · (intro w hSw; (try dsimp only at hSw); go_simp; try with_reducible rfl)
        try simp only [Act.put, List.setIfInBounds_toArray, List.set_cons_zero, List.set_cons_succ]
        refine wpAnyH_take (i := 11) (oi := { dst := some 95, op := Go.Op.move (Go.Operand.tmp 94), type := 4, pos := "law.go:38", after := #[{ on := 10, ground := Go.Ground.data }, { on := 9, ground := Go.Ground.chain }], guard := none }) (v := ?_) rfl (by kernel_rfl) (by kernel_rfl) (by kernel_rfl) (fun _ _ _ h => h) (Or.inl ⟨by rfl, ?_⟩) (by assumption) ?_
        rotate_left 1
        · (intro w hSw; (try dsimp only at hSw); go_simp; try with_reducible rfl)
        try simp only [Act.put, List.setIfInBounds_toArray, List.set_cons_zero, List.set_cons_succ]
        refine wpAnyH_take (i := 12) (oi := { dst := some 96, op := Go.Op.move (Go.Operand.tmp 11), type := 32, pos := "law.go:38", after := #[{ on := 11, ground := Go.Ground.guard }], guard := some (11, true) }) (v := ?_) rfl (by kernel_rfl) (by kernel_rfl) (by kernel_rfl) (fun _ _ _ h => h) (Or.inl ⟨by rfl, ?_⟩) (by assumption) ?_
        rotate_left 1
        · (intro w hSw; (try dsimp only at hSw); go_simp; try with_reducible rfl)
        try simp only [Act.put, List.setIfInBounds_toArray, List.set_cons_zero, List.set_cons_succ]
        refine wpAnyH_take (i := 13) (oi := { dst := some 97, op := Go.Op.binOp Go.BinOp.eql 32 (Go.Operand.tmp 96) (Go.Operand.const (Go.Value.int Go.IntKind.i64 0)) 32, type := 4, pos := "law.go:38", after := #[{ on := 12, ground := Go.Ground.data }, { on := 11, ground := Go.Ground.guard }], guard := some (11, true) }) (v := ?_) rfl (by kernel_rfl) (by kernel_rfl) (by kernel_rfl) (fun _ _ _ h => h) (Or.inl ⟨by rfl, ?_⟩) (by assumption) ?_
        rotate_left 1
        · (intro w hSw; (try dsimp only at hSw); go_simp; try with_reducible rfl)
        try simp only [Act.put, List.setIfInBounds_toArray, List.set_cons_zero, List.set_cons_succ]
        refine wpAnyH_take (i := 14) (oi := { dst := some 98, op := Go.Op.pick (Go.Operand.tmp 95) (Go.Operand.tmp 97) (Go.Operand.const (Go.Value.bool false)), type := 4, pos := "law.go:38", after := #[{ on := 11, ground := Go.Ground.data }, { on := 13, ground := Go.Ground.data }], guard := none }) (v := ?_) rfl (by kernel_rfl) (by kernel_rfl) (by kernel_rfl) (fun _ _ _ h => h) (Or.inl ⟨by rfl, ?_⟩) (by assumption) ?_
        rotate_left 1
        · (intro w hSw; (try dsimp only at hSw); go_simp; try with_reducible rfl)
        try simp only [Act.put, List.setIfInBounds_toArray, List.set_cons_zero, List.set_cons_succ]
        refine wpAnyH_take (i := 15) (oi := { dst := some 99, op := Go.Op.move (Go.Operand.tmp 98), type := 4, pos := "law.go:38", after := #[{ on := 14, ground := Go.Ground.data }, { on := 11, ground := Go.Ground.chain }], guard := none }) (v := ?_) rfl (by kernel_rfl) (by kernel_rfl) (by kernel_rfl) (fun _ _ _ h => h) (Or.inl ⟨by rfl, ?_⟩) (by assumption) ?_
        rotate_left 1
        · (intro w hSw; (try dsimp only at hSw); go_simp; try with_reducible rfl)
        try simp only [Act.put, List.setIfInBounds_toArray, List.set_cons_zero, List.set_cons_succ]
        refine wpAnyH_ready (rs := [16]) (by kernel_rfl) (by simp) ?_
        refine AllReadyH.cons (o := { dst := some 100, op := Go.Op.call { callee := Go.Callee.value (Go.Operand.func 5), args := #[], argTypes := #[] }, type := 4, pos := "law.go:38", after := #[{ on := 15, ground := Go.Ground.chain }, { on := 15, ground := Go.Ground.guard }], guard := some (15, true) }) rfl (fun K hK => ?_) AllReadyH.nil
        go_simp
        go_at_call 5
        (refine (awake_calls _).mono ?_); rintro e v7 ⟨rfl, hb⟩
        replace HB8 := Lib.hid (HB8.out.trans (hb.mono HB8.out.size))
        clear hb
        clear hHeld
        refine hK.out _ _ ?_ (fun hHeld => ?_)
        · ((try dsimp only); exact S8.out _ HB8.out)
        clear hK K
        refine wpAnyH_take (i := 17) (oi := { dst := some 101, op := Go.Op.pick (Go.Operand.tmp 99) (Go.Operand.tmp 100) (Go.Operand.const (Go.Value.bool false)), type := 4, pos := "law.go:38", after := #[{ on := 15, ground := Go.Ground.data }, { on := 16, ground := Go.Ground.data }], guard := none }) (v := ?_) rfl (by kernel_rfl) (by kernel_rfl) (by kernel_rfl) (fun _ _ _ h => h) (Or.inl ⟨by rfl, ?_⟩) (by assumption) ?_
        rotate_left 1
        · (intro w hSw; (try dsimp only at hSw); go_simp; try with_reducible rfl)
        try simp only [Act.put, List.setIfInBounds_toArray, List.set_cons_zero, List.set_cons_succ]
        refine wpAnyH_take (i := 18) (oi := { dst := some 4, op := Go.Op.assign (Go.Operand.tmp 101), type := 4, pos := "law.go:38", after := #[{ on := 17, ground := Go.Ground.data }, { on := 16, ground := Go.Ground.chain }, { on := 0, ground := Go.Ground.phase }, { on := 1, ground := Go.Ground.phase }, { on := 2, ground := Go.Ground.phase }, { on := 3, ground := Go.Ground.phase }, { on := 4, ground := Go.Ground.phase }, { on := 5, ground := Go.Ground.phase }, { on := 6, ground := Go.Ground.phase }, { on := 7, ground := Go.Ground.phase }, { on := 8, ground := Go.Ground.phase }, { on := 9, ground := Go.Ground.phase }, { on := 10, ground := Go.Ground.phase }, { on := 11, ground := Go.Ground.phase }, { on := 12, ground := Go.Ground.phase }, { on := 13, ground := Go.Ground.phase }, { on := 14, ground := Go.Ground.phase }, { on := 15, ground := Go.Ground.phase }, { on := 16, ground := Go.Ground.phase }, { on := 17, ground := Go.Ground.phase }], guard := none }) (v := ?_) rfl (by kernel_rfl) (by kernel_rfl) (by kernel_rfl) (fun _ _ _ h => h) (Or.inl ⟨by rfl, ?_⟩) (by assumption) ?_
        rotate_left 1
        · (intro w hSw; (try dsimp only at hSw); go_simp; try with_reducible rfl)
        try simp only [Act.put, List.setIfInBounds_toArray, List.set_cons_zero, List.set_cons_succ]
        refine wpAnyH_done (by kernel_rfl) ?_ _
        refine NoPanic.normal ?_
        go_wp2
        go_ret
        exact ⟨rfl, HBW.out.trans (HB8.out.mono HBW.out.size)⟩
  case false =>
    have he := HNO.out rfl
    subst he
    apply joinC (fun W => Below W4.heap.size W4 W)
    · intro REST
      refine wp_region_noPanic ?_
      refine wp_region_held_drew (S := (fun W => ((W.cell? ⟨Q0, 0, none⟩ = some (.int .u64 n) ∧ W.cell? ⟨Q0, 1, none⟩ = some (.int .i64 k) ∧ W.cell? ⟨Q0, 2, none⟩ = some (.int .u32 o) ∧ W.cell? ⟨Q0, 3, none⟩ = some (.int .u16 s) ∧ W.cell? ⟨Q0, 4, none⟩ = some (.int .u16 t) ∧ W.cell? ⟨Q0, 5, none⟩ = some (.int .u32 g) ∧ W.cell? ⟨Q0, 6, none⟩ = some (.int .u16 l) ∧ W.cell? ⟨Q0, 7, none⟩ = some (.slice A0 m0 c0)) ∧ (W.cell? ⟨T0, 0, none⟩ = some (.int .u64 n1) ∧ W.cell? ⟨T0, 1, none⟩ = some (.int .i64 k1) ∧ W.cell? ⟨T0, 2, none⟩ = some (.int .u32 o1) ∧ W.cell? ⟨T0, 3, none⟩ = some (.int .u16 s1) ∧ W.cell? ⟨T0, 4, none⟩ = some (.int .u16 t1) ∧ W.cell? ⟨T0, 5, none⟩ = some (.int .u32 g1) ∧ W.cell? ⟨T0, 6, none⟩ = some (.int .u16 l1) ∧ W.cell? ⟨T0, 7, none⟩ = some (.slice A2 m2 c2)) ∧ (W.cell? ⟨U0, 0, none⟩ = some (.int .u64 n1) ∧ W.cell? ⟨U0, 1, none⟩ = some (.int .i64 k1) ∧ W.cell? ⟨U0, 2, none⟩ = some (.int .u32 o1) ∧ W.cell? ⟨U0, 3, none⟩ = some (.int .u16 s1) ∧ W.cell? ⟨U0, 4, none⟩ = some (.int .u16 t1) ∧ W.cell? ⟨U0, 5, none⟩ = some (.int .u32 g1) ∧ W.cell? ⟨U0, 6, none⟩ = some (.int .u16 l1) ∧ W.cell? ⟨U0, 7, none⟩ = some (.slice A4 m4 c4))))) (by kernel_rfl) ?_ (fun hHeld => ?_)
      · ((try dsimp only); exact S5.out _ HB9.out)
      refine wpAnyH_take (i := 0) (oi := { dst := some 32, op := Go.Op.load 31 (Go.Operand.tmp 5), type := 31, pos := "law.go:30", after := #[], guard := none }) (v := ?_) rfl (by kernel_rfl) (by kernel_rfl) (by kernel_rfl) (fun _ _ _ h => h) (Or.inl ⟨by rfl, ?_⟩) (by assumption) ?_
      rotate_left 1
      · (intro w hSw; (try dsimp only at hSw); go_simp; try with_reducible rfl)
      try simp only [Act.put, List.setIfInBounds_toArray, List.set_cons_zero, List.set_cons_succ]
      refine wpAnyH_take (i := 1) (oi := { dst := some 33, op := Go.Op.load 29 (Go.Operand.tmp 7), type := 29, pos := "law.go:30", after := #[], guard := none }) (v := ?_) rfl (by kernel_rfl) (by kernel_rfl) (by kernel_rfl) (fun _ _ _ h => h) (Or.inl ⟨by rfl, ?_⟩) (by assumption) ?_
      rotate_left 1
      · (intro w hSw; (try dsimp only at hSw); go_simp; try with_reducible rfl)
      try simp only [Act.put, List.setIfInBounds_toArray, List.set_cons_zero, List.set_cons_succ]
      refine wpAnyH_ready (rs := [2]) (by kernel_rfl) (by simp) ?_
      refine AllReadyH.cons (o := { dst := some 34, op := Go.Op.call { callee := Go.Callee.value (Go.Operand.func 8), args := #[Go.Operand.tmp 32, Go.Operand.tmp 33], argTypes := #[31, 29] }, type := 4, pos := "law.go:30", after := #[{ on := 0, ground := Go.Ground.data }, { on := 1, ground := Go.Ground.data }], guard := none }) rfl (fun K hK => ?_) AllReadyH.nil
      go_simp
      go_at_call 8
      (refine (CI.out _ HB9.out).mono ?_); rintro e v ⟨rfl, hb⟩
      replace HB9 := Lib.hid (HB9.out.trans (hb.mono HB9.out.size))
      clear hb
      clear hHeld
      refine hK.out _ _ ?_ (fun hHeld => ?_)
      · ((try dsimp only); exact S5.out _ HB9.out)
      clear hK K
      refine wpAnyH_take (i := 3) (oi := { dst := some 35, op := Go.Op.unOp Go.UnOp.not 4 (Go.Operand.tmp 34), type := 4, pos := "law.go:30", after := #[{ on := 2, ground := Go.Ground.data }], guard := none }) (v := ?_) rfl (by kernel_rfl) (by kernel_rfl) (by kernel_rfl) (fun _ _ _ h => h) (Or.inl ⟨by rfl, ?_⟩) (by assumption) ?_
      rotate_left 1
      · (intro w hSw; (try dsimp only at hSw); go_simp; try with_reducible rfl)
      try simp only [Act.put, List.setIfInBounds_toArray, List.set_cons_zero, List.set_cons_succ]
      refine wpAnyH_take (i := 4) (oi := { dst := some 36, op := Go.Op.move (Go.Operand.tmp 35), type := 4, pos := "law.go:30", after := #[{ on := 3, ground := Go.Ground.data }, { on := 2, ground := Go.Ground.chain }], guard := none }) (v := ?_) rfl (by kernel_rfl) (by kernel_rfl) (by kernel_rfl) (fun _ _ _ h => h) (Or.inl ⟨by rfl, ?_⟩) (by assumption) ?_
      rotate_left 1
      · (intro w hSw; (try dsimp only at hSw); go_simp; try with_reducible rfl)
      try simp only [Act.put, List.setIfInBounds_toArray, List.set_cons_zero, List.set_cons_succ]
      refine wpAnyH_take (i := 5) (oi := { dst := some 37, op := Go.Op.move (Go.Operand.tmp 6), type := 32, pos := "law.go:30", after := #[{ on := 4, ground := Go.Ground.guard }], guard := some (4, false) }) (v := ?_) rfl (by kernel_rfl) (by kernel_rfl) (by kernel_rfl) (fun _ _ _ h => h) (Or.inl ⟨by rfl, ?_⟩) (by assumption) ?_
      rotate_left 1
      · (intro w hSw; (try dsimp only at hSw); go_simp; try with_reducible rfl)
      try simp only [Act.put, List.setIfInBounds_toArray, List.set_cons_zero, List.set_cons_succ]
      refine wpAnyH_take (i := 6) (oi := { dst := some 38, op := Go.Op.binOp Go.BinOp.eql 32 (Go.Operand.tmp 37) (Go.Operand.const (Go.Value.int Go.IntKind.i64 0)) 32, type := 4, pos := "law.go:30", after := #[{ on := 5, ground := Go.Ground.data }, { on := 4, ground := Go.Ground.guard }], guard := some (4, false) }) (v := ?_) rfl (by kernel_rfl) (by kernel_rfl) (by kernel_rfl) (fun _ _ _ h => h) (Or.inl ⟨by rfl, ?_⟩) (by assumption) ?_
      rotate_left 1
      · (intro w hSw; (try dsimp only at hSw); go_simp; try with_reducible rfl)
      try simp only [Act.put, List.setIfInBounds_toArray, List.set_cons_zero, List.set_cons_succ]
      refine wpAnyH_take (i := 7) (oi := { dst := some 39, op := Go.Op.move (Go.Operand.tmp 8), type := 4, pos := "law.go:30", after := #[{ on := 4, ground := Go.Ground.guard }], guard := some (4, false) }) (v := ?_) rfl (by kernel_rfl) (by kernel_rfl) (by kernel_rfl) (fun _ _ _ h => h) (Or.inl ⟨by rfl, ?_⟩) (by assumption) ?_
      rotate_left 1
      · (intro w hSw; (try dsimp only at hSw); go_simp; try with_reducible rfl)
      try simp only [Act.put, List.setIfInBounds_toArray, List.set_cons_zero, List.set_cons_succ]
      refine wpAnyH_take (i := 8) (oi := { dst := some 40, op := Go.Op.binOp Go.BinOp.neq 4 (Go.Operand.tmp 38) (Go.Operand.tmp 39) 4, type := 4, pos := "law.go:30", after := #[{ on := 6, ground := Go.Ground.data }, { on := 7, ground := Go.Ground.data }, { on := 4, ground := Go.Ground.guard }], guard := some (4, false) }) (v := ?_) rfl (by kernel_rfl) (by kernel_rfl) (by kernel_rfl) (fun _ _ _ h => h) (Or.inl ⟨by rfl, ?_⟩) (by assumption) ?_
      rotate_left 1
      · (intro w hSw; (try dsimp only at hSw); go_simp; try with_reducible rfl)
      try simp only [Act.put, List.setIfInBounds_toArray, List.set_cons_zero, List.set_cons_succ]
      refine wpAnyH_take (i := 9) (oi := { dst := some 41, op := Go.Op.pick (Go.Operand.tmp 36) (Go.Operand.const (Go.Value.bool true)) (Go.Operand.tmp 40), type := 4, pos := "law.go:30", after := #[{ on := 4, ground := Go.Ground.data }, { on := 8, ground := Go.Ground.data }], guard := none }) (v := ?_) rfl (by kernel_rfl) (by kernel_rfl) (by kernel_rfl) (fun _ _ _ h => h) (Or.inl ⟨by rfl, ?_⟩) (by assumption) ?_
      rotate_left 1
      · (intro w hSw; (try dsimp only at hSw); go_simp; try with_reducible rfl)
      try simp only [Act.put, List.setIfInBounds_toArray, List.set_cons_zero, List.set_cons_succ]
      refine wpAnyH_take (i := 10) (oi := { dst := some 42, op := Go.Op.move (Go.Operand.tmp 41), type := 4, pos := "law.go:30", after := #[{ on := 9, ground := Go.Ground.data }, { on := 4, ground := Go.Ground.chain }], guard := none }) (v := ?_) rfl (by kernel_rfl) (by kernel_rfl) (by kernel_rfl) (fun _ _ _ h => h) (Or.inl ⟨by rfl, ?_⟩) (by assumption) ?_
      rotate_left 1
      · (intro w hSw; (try dsimp only at hSw); go_simp; try with_reducible rfl)
      try simp only [Act.put, List.setIfInBounds_toArray, List.set_cons_zero, List.set_cons_succ]
      refine wpAnyH_take (i := 11) (oi := { dst := some 43, op := Go.Op.move (Go.Operand.tmp 8), type := 4, pos := "law.go:30", after := #[{ on := 10, ground := Go.Ground.guard }], guard := some (10, false) }) (v := ?_) rfl (by kernel_rfl) (by kernel_rfl) (by kernel_rfl) (fun _ _ _ h => h) (Or.inl ⟨by rfl, ?_⟩) (by assumption) ?_
      rotate_left 1
      · (intro w hSw; (try dsimp only at hSw); go_simp; try with_reducible rfl)
      try simp only [Act.put, List.setIfInBounds_toArray, List.set_cons_zero, List.set_cons_succ]
      refine wpAnyH_take (i := 12) (oi := { dst := some 44, op := Go.Op.unOp Go.UnOp.not 4 (Go.Operand.tmp 43), type := 4, pos := "law.go:30", after := #[{ on := 11, ground := Go.Ground.data }, { on := 10, ground := Go.Ground.guard }], guard := some (10, false) }) (v := ?_) rfl (by kernel_rfl) (by kernel_rfl) (by kernel_rfl) (fun _ _ _ h => h) (Or.inl ⟨by rfl, ?_⟩) (by assumption) ?_
      rotate_left 1
      · (intro w hSw; (try dsimp only at hSw); go_simp; try with_reducible rfl)
      try simp only [Act.put, List.setIfInBounds_toArray, List.set_cons_zero, List.set_cons_succ]
      refine wpAnyH_take (i := 13) (oi := { dst := some 45, op := Go.Op.move (Go.Operand.tmp 44), type := 4, pos := "law.go:30", after := #[{ on := 12, ground := Go.Ground.data }, { on := 10, ground := Go.Ground.chain }, { on := 10, ground := Go.Ground.guard }], guard := some (10, false) }) (v := ?_) rfl (by kernel_rfl) (by kernel_rfl) (by kernel_rfl) (fun _ _ _ h => h) (Or.inl ⟨by rfl, ?_⟩) (by assumption) ?_
      rotate_left 1
      · (intro w hSw; (try dsimp only at hSw); go_simp; try with_reducible rfl)
      try simp only [Act.put, List.setIfInBounds_toArray, List.set_cons_zero, List.set_cons_succ]
      refine wpAnyH_take (i := 14) (oi := { dst := some 46, op := Go.Op.move (Go.Operand.tmp 6), type := 32, pos := "law.go:30", after := #[{ on := 13, ground := Go.Ground.guard }], guard := some (13, true) }) (v := ?_) rfl (by kernel_rfl) (by kernel_rfl) (by kernel_rfl) (fun _ _ _ h => h) (Or.inl ⟨by rfl, ?_⟩) (by assumption) ?_
      rotate_left 1
      · (intro w hSw; (try dsimp only at hSw); go_simp; try with_reducible rfl)
      try simp only [Act.put, List.setIfInBounds_toArray, List.set_cons_zero, List.set_cons_succ]
      refine wpAnyH_take (i := 15) (oi := { dst := some 47, op := Go.Op.binOp Go.BinOp.neq 32 (Go.Operand.tmp 46) (Go.Operand.const (Go.Value.int Go.IntKind.i64 21)) 32, type := 4, pos := "law.go:30", after := #[{ on := 14, ground := Go.Ground.data }, { on := 13, ground := Go.Ground.guard }], guard := some (13, true) }) (v := ?_) rfl (by kernel_rfl) (by kernel_rfl) (by kernel_rfl) (fun _ _ _ h => h) (Or.inl ⟨by rfl, ?_⟩) (by assumption) ?_
      rotate_left 1
      · (intro w hSw; (try dsimp only at hSw); go_simp; try with_reducible rfl)
      try simp only [Act.put, List.setIfInBounds_toArray, List.set_cons_zero, List.set_cons_succ]
      refine wpAnyH_take (i := 16) (oi := { dst := some 48, op := Go.Op.pick (Go.Operand.tmp 45) (Go.Operand.tmp 47) (Go.Operand.const (Go.Value.bool false)), type := 4, pos := "law.go:30", after := #[{ on := 13, ground := Go.Ground.data }, { on := 15, ground := Go.Ground.data }, { on := 10, ground := Go.Ground.guard }], guard := some (10, false) }) (v := ?_) rfl (by kernel_rfl) (by kernel_rfl) (by kernel_rfl) (fun _ _ _ h => h) (Or.inl ⟨by rfl, ?_⟩) (by assumption) ?_
      rotate_left 1
      · (intro w hSw; (try dsimp only at hSw); go_simp; try with_reducible rfl)
      try simp only [Act.put, List.setIfInBounds_toArray, List.set_cons_zero, List.set_cons_succ]
      refine wpAnyH_take (i := 17) (oi := { dst := some 49, op := Go.Op.pick (Go.Operand.tmp 42) (Go.Operand.const (Go.Value.bool true)) (Go.Operand.tmp 48), type := 4, pos := "law.go:30", after := #[{ on := 10, ground := Go.Ground.data }, { on := 16, ground := Go.Ground.data }], guard := none }) (v := ?_) rfl (by kernel_rfl) (by kernel_rfl) (by kernel_rfl) (fun _ _ _ h => h) (Or.inl ⟨by rfl, ?_⟩) (by assumption) ?_
      rotate_left 1
      · (intro w hSw; (try dsimp only at hSw); go_simp; try with_reducible rfl)
      try simp only [Act.put, List.setIfInBounds_toArray, List.set_cons_zero, List.set_cons_succ]
      refine wpAnyH_take (i := 18) (oi := { dst := some 50, op := Go.Op.move (Go.Operand.tmp 49), type := 4, pos := "law.go:30", after := #[{ on := 17, ground := Go.Ground.data }, { on := 13, ground := Go.Ground.chain }], guard := none }) (v := ?_) rfl (by kernel_rfl) (by kernel_rfl) (by kernel_rfl) (fun _ _ _ h => h) (Or.inl ⟨by rfl, ?_⟩) (by assumption) ?_
      rotate_left 1
      · (intro w hSw; (try dsimp only at hSw); go_simp; try with_reducible rfl)
      try simp only [Act.put, List.setIfInBounds_toArray, List.set_cons_zero, List.set_cons_succ]
      refine wpAnyH_take (i := 19) (oi := { dst := some 51, op := Go.Op.load 29 (Go.Operand.tmp 2), type := 29, pos := "law.go:30", after := #[{ on := 18, ground := Go.Ground.guard }], guard := some (18, false) }) (v := ?_) rfl (by kernel_rfl) (by kernel_rfl) (by kernel_rfl) (fun _ _ _ h => h) (Or.inl ⟨by rfl, ?_⟩) (by assumption) ?_
      rotate_left 1
      · (intro w hSw; (try dsimp only at hSw); go_simp; try with_reducible rfl)
      try simp only [Act.put, List.setIfInBounds_toArray, List.set_cons_zero, List.set_cons_succ]
      refine wpAnyH_take (i := 22) (oi := { dst := some 54, op := Go.Op.load 29 (Go.Operand.tmp 2), type := 29, pos := "law.go:30", after := #[{ on := 18, ground := Go.Ground.guard }], guard := some (18, false) }) (v := ?_) rfl (by kernel_rfl) (by kernel_rfl) (by kernel_rfl) (fun _ _ _ h => h) (Or.inl ⟨by rfl, ?_⟩) (by assumption) ?_
      rotate_left 1
      · (intro w hSw; (try dsimp only at hSw); go_simp; try with_reducible rfl)
      try simp only [Act.put, List.setIfInBounds_toArray, List.set_cons_zero, List.set_cons_succ]
      refine wpAnyH_ready (rs := [20]) (by kernel_rfl) (by simp) ?_
      refine AllReadyH.cons (o := { dst := some 52, op := Go.Op.call { callee := Go.Callee.value (Go.Operand.func 9), args := #[Go.Operand.tmp 51], argTypes := #[29] }, type := 31, pos := "law.go:30", after := #[{ on := 19, ground := Go.Ground.data }, { on := 18, ground := Go.Ground.chain }, { on := 18, ground := Go.Ground.guard }], guard := some (18, false) }) rfl (fun K hK => ?_) AllReadyH.nil
      go_simp
      go_at_call 9
      (refine (CT.out _).mono ?_); rintro e v ⟨rfl, hb⟩
      replace HB9 := Lib.hid (HB9.out.trans (hb.mono HB9.out.size))
      clear hb
      clear hHeld
      refine hK.out _ _ ?_ (fun hHeld => ?_)
      · ((try dsimp only); exact S5.out _ HB9.out)
      clear hK K
      refine wpAnyH_ready (rs := [21]) (by kernel_rfl) (by simp) ?_
      refine AllReadyH.cons (o := { dst := some 53, op := Go.Op.call { callee := Go.Callee.value (Go.Operand.func 10), args := #[Go.Operand.tmp 52], argTypes := #[31] }, type := 4, pos := "law.go:30", after := #[{ on := 20, ground := Go.Ground.data }, { on := 20, ground := Go.Ground.chain }, { on := 18, ground := Go.Ground.guard }], guard := some (18, false) }) rfl (fun K hK => ?_) AllReadyH.nil
      go_simp
      go_at_call 10
      (refine (CR.out _ HB9.out).mono ?_); rintro e v ⟨rfl, hb⟩
      replace HB9 := Lib.hid (HB9.out.trans (hb.mono HB9.out.size))
      clear hb
      clear hHeld
      refine hK.out _ _ ?_ (fun hHeld => ?_)
      · ((try dsimp only); exact S5.out _ HB9.out)
      clear hK K
      refine wpAnyH_ready (rs := [23]) (by kernel_rfl) (by simp) ?_
      refine AllReadyH.cons (o := { dst := some 55, op := Go.Op.call { callee := Go.Callee.value (Go.Operand.func 11), args := #[Go.Operand.tmp 54], argTypes := #[29] }, type := 4, pos := "law.go:30", after := #[{ on := 22, ground := Go.Ground.data }, { on := 21, ground := Go.Ground.chain }, { on := 18, ground := Go.Ground.guard }], guard := some (18, false) }) rfl (fun K hK => ?_) AllReadyH.nil
      go_simp
      go_at_call 11
      (refine (CF.out _ HB9.out).mono ?_); rintro e v ⟨rfl, hb⟩
      replace HB9 := Lib.hid (HB9.out.trans (hb.mono HB9.out.size))
      clear hb
      clear hHeld
      refine hK.out _ _ ?_ (fun hHeld => ?_)
      · ((try dsimp only); exact S5.out _ HB9.out)
      clear hK K
      refine wpAnyH_take (i := 24) (oi := { dst := some 56, op := Go.Op.binOp Go.BinOp.neq 4 (Go.Operand.tmp 53) (Go.Operand.tmp 55) 4, type := 4, pos := "law.go:30", after := #[{ on := 21, ground := Go.Ground.data }, { on := 23, ground := Go.Ground.data }, { on := 18, ground := Go.Ground.guard }], guard := some (18, false) }) (v := ?_) rfl (by kernel_rfl) (by kernel_rfl) (by kernel_rfl) (fun _ _ _ h => h) (Or.inl ⟨by rfl, ?_⟩) (by assumption) ?_
      rotate_left 1
      · (intro w hSw; (try dsimp only at hSw); go_simp; try with_reducible rfl)
      try simp only [Act.put, List.setIfInBounds_toArray, List.set_cons_zero, List.set_cons_succ]
      refine wpAnyH_take (i := 25) (oi := { dst := some 57, op := Go.Op.pick (Go.Operand.tmp 50) (Go.Operand.const (Go.Value.bool true)) (Go.Operand.tmp 56), type := 4, pos := "law.go:30", after := #[{ on := 18, ground := Go.Ground.data }, { on := 24, ground := Go.Ground.data }], guard := none }) (v := ?_) rfl (by kernel_rfl) (by kernel_rfl) (by kernel_rfl) (fun _ _ _ h => h) (Or.inl ⟨by rfl, ?_⟩) (by assumption) ?_
      rotate_left 1
      · (intro w hSw; (try dsimp only at hSw); go_simp; try with_reducible rfl)
      try simp only [Act.put, List.setIfInBounds_toArray, List.set_cons_zero, List.set_cons_succ]
      refine wpAnyH_take (i := 26) (oi := { dst := some 58, op := Go.Op.move (Go.Operand.tmp 57), type := 4, pos := "law.go:30", after := #[{ on := 25, ground := Go.Ground.data }, { on := 23, ground := Go.Ground.chain }], guard := none }) (v := ?_) rfl (by kernel_rfl) (by kernel_rfl) (by kernel_rfl) (fun _ _ _ h => h) (Or.inl ⟨by rfl, ?_⟩) (by assumption) ?_
      rotate_left 1
      · (intro w hSw; (try dsimp only at hSw); go_simp; try with_reducible rfl)
      try simp only [Act.put, List.setIfInBounds_toArray, List.set_cons_zero, List.set_cons_succ]
      refine wpAnyH_take (i := 27) (oi := { dst := some 59, op := Go.Op.fieldAddr 29 (Go.Operand.tmp 2) 1, type := 0, pos := "law.go:30", after := #[{ on := 26, ground := Go.Ground.guard }], guard := some (26, false) }) (v := ?_) rfl (by kernel_rfl) (by kernel_rfl) (by kernel_rfl) (fun _ _ _ h => h) (Or.inl ⟨by rfl, ?_⟩) (by assumption) ?_
      rotate_left 1
      · (intro w hSw; (try dsimp only at hSw); go_simp; try with_reducible rfl)
      try simp only [Act.put, List.setIfInBounds_toArray, List.set_cons_zero, List.set_cons_succ]
      refine wpAnyH_take (i := 28) (oi := { dst := some 60, op := Go.Op.load 3 (Go.Operand.tmp 59), type := 3, pos := "law.go:30", after := #[{ on := 27, ground := Go.Ground.data }, { on := 26, ground := Go.Ground.guard }], guard := some (26, false) }) (v := ?_) rfl (by kernel_rfl) (by kernel_rfl) (by kernel_rfl) (fun _ _ _ h => h) (Or.inl ⟨by rfl, ?_⟩) (by assumption) ?_
      rotate_left 1
      · (intro w hSw; (try dsimp only at hSw); go_simp; try with_reducible rfl)
      try simp only [Act.put, List.setIfInBounds_toArray, List.set_cons_zero, List.set_cons_succ]
      refine wpAnyH_take (i := 30) (oi := { dst := some 62, op := Go.Op.fieldAddr 29 (Go.Operand.tmp 2) 1, type := 0, pos := "law.go:30", after := #[{ on := 26, ground := Go.Ground.guard }], guard := some (26, false) }) (v := ?_) rfl (by kernel_rfl) (by kernel_rfl) (by kernel_rfl) (fun _ _ _ h => h) (Or.inl ⟨by rfl, ?_⟩) (by assumption) ?_
      rotate_left 1
      · (intro w hSw; (try dsimp only at hSw); go_simp; try with_reducible rfl)
      try simp only [Act.put, List.setIfInBounds_toArray, List.set_cons_zero, List.set_cons_succ]
      refine wpAnyH_take (i := 31) (oi := { dst := some 63, op := Go.Op.load 3 (Go.Operand.tmp 62), type := 3, pos := "law.go:30", after := #[{ on := 30, ground := Go.Ground.data }, { on := 26, ground := Go.Ground.guard }], guard := some (26, false) }) (v := ?_) rfl (by kernel_rfl) (by kernel_rfl) (by kernel_rfl) (fun _ _ _ h => h) (Or.inl ⟨by rfl, ?_⟩) (by assumption) ?_
      rotate_left 1
      · (intro w hSw; (try dsimp only at hSw); go_simp; try with_reducible rfl)
      try simp only [Act.put, List.setIfInBounds_toArray, List.set_cons_zero, List.set_cons_succ]
      refine wpAnyH_ready (rs := [29]) (by kernel_rfl) (by simp) ?_
      refine AllReadyH.cons (o := { dst := some 61, op := Go.Op.call { callee := Go.Callee.value (Go.Operand.func 12), args := #[Go.Operand.tmp 60], argTypes := #[3] }, type := 9, pos := "law.go:30", after := #[{ on := 28, ground := Go.Ground.data }, { on := 26, ground := Go.Ground.chain }, { on := 26, ground := Go.Ground.guard }], guard := some (26, false) }) rfl (fun K hK => ?_) AllReadyH.nil
      go_simp
      go_at_call 12
      (refine (N1.out _).mono ?_); rintro e v ⟨rfl, hb⟩
      replace hb := hb.below
      replace HB9 := Lib.hid (HB9.out.trans (hb.mono HB9.out.size))
      clear hb
      clear hHeld
      refine hK.out _ _ ?_ (fun hHeld => ?_)
      · ((try dsimp only); exact S5.out _ HB9.out)
      clear hK K
      refine wpAnyH_ready (rs := [32]) (by kernel_rfl) (by simp) ?_
      refine AllReadyH.cons (o := { dst := some 64, op := Go.Op.call { callee := Go.Callee.value (Go.Operand.func 13), args := #[Go.Operand.tmp 63], argTypes := #[3] }, type := 9, pos := "law.go:30", after := #[{ on := 31, ground := Go.Ground.data }, { on := 29, ground := Go.Ground.chain }, { on := 26, ground := Go.Ground.guard }], guard := some (26, false) }) rfl (fun K hK => ?_) AllReadyH.nil
      go_simp
      go_at_call 13
      (refine (N2.out _).mono ?_); rintro e v ⟨rfl, hb⟩
      replace HB9 := Lib.hid (HB9.out.trans (hb.mono HB9.out.size))
      clear hb
      clear hHeld
      refine hK.out _ _ ?_ (fun hHeld => ?_)
      · ((try dsimp only); exact S5.out _ HB9.out)
      clear hK K
      refine wpAnyH_take (i := 33) (oi := { dst := some 65, op := Go.Op.binOp Go.BinOp.neq 9 (Go.Operand.tmp 61) (Go.Operand.tmp 64) 9, type := 4, pos := "law.go:30", after := #[{ on := 29, ground := Go.Ground.data }, { on := 32, ground := Go.Ground.data }, { on := 26, ground := Go.Ground.guard }], guard := some (26, false) }) (v := ?_) rfl (by kernel_rfl) (by kernel_rfl) (by kernel_rfl) (fun _ _ _ h => h) (Or.inl ⟨by rfl, ?_⟩) (by assumption) ?_
      rotate_left 1
      · (intro w hSw; (try dsimp only at hSw); go_simp; try with_reducible rfl)
      try simp only [Act.put, List.setIfInBounds_toArray, List.set_cons_zero, List.set_cons_succ]
      refine wpAnyH_take (i := 34) (oi := { dst := some 66, op := Go.Op.pick (Go.Operand.tmp 58) (Go.Operand.const (Go.Value.bool true)) (Go.Operand.tmp 65), type := 4, pos := "law.go:30", after := #[{ on := 26, ground := Go.Ground.data }, { on := 33, ground := Go.Ground.data }], guard := none }) (v := ?_) rfl (by kernel_rfl) (by kernel_rfl) (by kernel_rfl) (fun _ _ _ h => h) (Or.inl ⟨by rfl, ?_⟩) (by assumption) ?_
      rotate_left 1
      · (intro w hSw; (try dsimp only at hSw); go_simp; try with_reducible rfl)
      try simp only [Act.put, List.setIfInBounds_toArray, List.set_cons_zero, List.set_cons_succ]
      refine wpAnyH_done (by kernel_rfl) ?_ _
      refine NoPanic.normal ?_
      exact REST _ HB9.out
    · intro W9 hB9
      have HB9 := Lib.hid (show Below W4.heap.size W4 W9 from hB9)
      clear hB9
      have hQ9 := Blk.below HQ5.out HB9.out (Blk.lt HQ5.out)
      obtain ⟨⟨y0, y1, y2, y3, y4, y5, y6, y7⟩, _⟩ := blk8 hQ9
      have HQ9 := Lib.hid hQ9
      have HB10 := Lib.hid (HB5.out.trans (HB9.out.mono HB5.out.size))
      clear hQ9
      cases rr
      case false =>
        have CN := Lib.hid (fun W (hB : Below w.heap.size w W) => req_none n o s t g l k A0 m0 c0 data W (Kd.C_below HR0.out hB) HM0.out HC0.out HRR.out)
        go_wp2_with (first
          | (go_at_call 9; (with_reducible refine (CT.out _).mono ?_); rintro e v1 ⟨rfl, hb⟩; have HB11 := Lib.hid (HB9.out.trans (hb.mono HB9.out.size)); clear hb)
          | (go_at_call 14; (with_reducible refine (CN.out _ (HB5.out.trans (HB11.out.mono HB5.out.size))).mono ?_); rintro e v2 ⟨rfl, hb⟩; have HB12 := Lib.hid (HB11.out.trans (hb.mono HB11.out.size)); clear hb; obtain ⟨⟨x0, x1, x2, x3, x4, x5, x6, x7⟩, _⟩ := blk8 (Blk.below HQ5.out HB12.out (Blk.lt HQ5.out)))
          | (go_at_call 11; (with_reducible refine (CF.out _ HB12.out).mono ?_); rintro e v3 ⟨rfl, hb⟩; have HB13 := Lib.hid (HB12.out.trans (hb.mono HB12.out.size)); clear hb)
          | (go_at_call 5; (with_reducible refine (awake_calls _).mono ?_); rintro e v4 ⟨rfl, hb⟩; have HB14 := Lib.hid (HB13.out.trans (hb.mono HB13.out.size)); clear hb))
        go_ret
        exact ⟨rfl, HB5.out.trans (HB14.out.mono HB5.out.size)⟩
      case true =>
        obtain ⟨kk, rfl, hkk⟩ := right_kind HRR.out
        have CY := Lib.hid (fun W (hB : Below w.heap.size w W) => req_bytes n kk o s t g l A0 m0 c0 data w W hB HR0.out HM0.out HC0.out HRR.out HHH.out.1 hkk HHH.out.2.1 HHH.out.2.2.1 HHH.out.2.2.2.1 HHH.out.2.2.2.2.1 HHH.out.2.2.2.2.2 (by have := HL0.out; omega))
        have CZ := Lib.hid (fun W (hB : Below w.heap.size w W) => refreq_any n kk o s t g l A0 m0 c0 data w W hB HR0.out HM0.out HC0.out HHH.out.1 hkk HHH.out.2.1 HHH.out.2.2.1 HHH.out.2.2.2.1 HHH.out.2.2.2.2.1 HHH.out.2.2.2.2.2 (by have := HL0.out; omega))
        have CB := Lib.hid (back n kk o s t g l data (by have := HL0.out; have := HM0.out; omega) HAB.out HRR.out HHH.out.1 hkk HHH.out.2.1 HHH.out.2.2.1 HHH.out.2.2.2.1 HHH.out.2.2.2.2.1 HHH.out.2.2.2.2.2)
        clear hkk
        go_upto_region 8 with (first
          | (go_at_call 9; (with_reducible refine (CT.out _).mono ?_); rintro e v1 ⟨rfl, hb⟩; have HB11 := Lib.hid (HB9.out.trans (hb.mono HB9.out.size)); clear hb)
          | (go_at_call 14; (with_reducible refine (CY.out _ (HB5.out.trans (HB11.out.mono HB5.out.size))).mono ?_); rintro e v2 ⟨A6, m6, c6, hm6, rfl, ho6, hb⟩; have HM6 := Lib.hid hm6; have HO6 := Lib.hid ho6; have HB12 := Lib.hid (HB11.out.trans (hb.mono HB11.out.size)); clear hb hm6 ho6; obtain ⟨⟨x0, x1, x2, x3, x4, x5, x6, x7⟩, _⟩ := blk8 (Blk.below HQ5.out HB12.out (Blk.lt HQ5.out))))
        go_upto_region 10 with (go_at_call 11; (with_reducible refine (CF.out _ HB12.out).mono ?_); rintro e v3 ⟨rfl, hb⟩; have HB13 := Lib.hid (HB12.out.trans (hb.mono HB12.out.size)); have HO7 := Lib.hid (pw_own_below HO6.out hb); clear hb)
        have CP := Lib.hid (CB.out.2.2.2.1 A6 c6 v3 v3 (Below.refl _ _) (Kd.C_of_reads (d := (0 : Int)) (by rw [← HM6.out]; exact own_reads' HO7.out)) (by rw [← HM6.out]; exact own_le HO7.out))
        rw [← HM6.out] at CP
        go_upto_region 11 with (go_at_call 6; (with_reducible refine CP.out.mono ?_); rintro e v4 ⟨A8, m8, c8, hm8, hc8, rfl, hr8, hb⟩; have HM8 := Lib.hid hm8; have HC8 := Lib.hid hc8; have HR8 := Lib.hid hr8; have HB14 := Lib.hid (HB13.out.trans (hb.mono HB13.out.size)); have HO8 := Lib.hid (pw_own_below HO7.out hb); clear hb hm8 hc8 hr8)
        obtain ⟨W8, hW8⟩ : ∃ W8, W8 = v4.alloc (.cells #[.int .u64 n, .int .i64 kk, .int .u32 o, .int .u16 s, .int .u16 t, .int .u32 g, .int .u16 l, .slice A8 m8 c8] 31) := ⟨_, rfl⟩
        obtain ⟨V0, hV0⟩ : ∃ V0, V0 = v4.heap.size := ⟨_, rfl⟩
        have hb3 : Below v4.heap.size v4 W8 := by rw [hW8]; exact (Below.refl _ _).alloc (Nat.le_refl _) _
        have HV8 := Lib.hid (show Blk W8 V0 31 #[.int .u64 n, .int .i64 kk, .int .u32 o, .int .u16 s, .int .u16 t, .int .u32 g, .int .u16 l, .slice A8 m8 c8] by rw [hW8, hV0]; exact Blk.new _ _ _)
        have HB15 := Lib.hid (HB14.out.trans (hb3.mono HB14.out.size))
        have HQ8 := Lib.hid (Blk.below HQ5.out HB15.out (Blk.lt HQ5.out))
        have HR9 := Lib.hid (Kd.C_below HR8.out hb3)
        have HO9 := Lib.hid (pw_own_below HO8.out hb3)
        rw [← hW8, ← hV0]
        clear hW8 hV0 hb3
        have HBW := Lib.hid (show Below w.heap.size w W8 from HB5.out.trans (HB15.out.mono HB5.out.size))
        have S8 := Lib.hid (fun W (hB : Below W8.heap.size W8 W) => show ((W.cell? ⟨Q0, 0, none⟩ = some (.int .u64 n) ∧ W.cell? ⟨Q0, 1, none⟩ = some (.int .i64 kk) ∧ W.cell? ⟨Q0, 2, none⟩ = some (.int .u32 o) ∧ W.cell? ⟨Q0, 3, none⟩ = some (.int .u16 s) ∧ W.cell? ⟨Q0, 4, none⟩ = some (.int .u16 t) ∧ W.cell? ⟨Q0, 5, none⟩ = some (.int .u32 g) ∧ W.cell? ⟨Q0, 6, none⟩ = some (.int .u16 l) ∧ W.cell? ⟨Q0, 7, none⟩ = some (.slice A0 m0 c0)) ∧ (W.cell? ⟨V0, 0, none⟩ = some (.int .u64 n) ∧ W.cell? ⟨V0, 1, none⟩ = some (.int .i64 kk) ∧ W.cell? ⟨V0, 2, none⟩ = some (.int .u32 o) ∧ W.cell? ⟨V0, 3, none⟩ = some (.int .u16 s) ∧ W.cell? ⟨V0, 4, none⟩ = some (.int .u16 t) ∧ W.cell? ⟨V0, 5, none⟩ = some (.int .u32 g) ∧ W.cell? ⟨V0, 6, none⟩ = some (.int .u16 l) ∧ W.cell? ⟨V0, 7, none⟩ = some (.slice A8 m8 c8)) ∧ (convert 27 9 (.slice A6 m6 c6)).run Try.prog W = .ok (.string (strOfNums (reqB n kk o s t g l data))) W) from ⟨(blk8 (Blk.below HQ8.out hB (Blk.lt HQ8.out))).1, (blk8 (Blk.below HV8.out hB (Blk.lt HV8.out))).1, str_reads (own_reads' (pw_own_below HO9.out hB))⟩)
        have CI8 := Lib.hid (fun W (hB : Below W8.heap.size W8 W) => is_any n kk o s t g l A8 m8 c8 data n kk o s t g l A0 m0 c0 data W (Kd.C_below HR9.out hB) HM8.out HC8.out (Kd.C_below HR0.out (HBW.out.trans (hB.mono HBW.out.size))) HM0.out HC0.out ⟨rfl, rfl, rfl, rfl, rfl, rfl, rfl, rfl⟩)
        have HB8 := Lib.hid (show Below W8.heap.size W8 W8.drew from (Below.refl _ _).drew)
        refine wp_region_noPanic ?_
        refine wp_region_held_drew (S := (fun W => ((W.cell? ⟨Q0, 0, none⟩ = some (.int .u64 n) ∧ W.cell? ⟨Q0, 1, none⟩ = some (.int .i64 kk) ∧ W.cell? ⟨Q0, 2, none⟩ = some (.int .u32 o) ∧ W.cell? ⟨Q0, 3, none⟩ = some (.int .u16 s) ∧ W.cell? ⟨Q0, 4, none⟩ = some (.int .u16 t) ∧ W.cell? ⟨Q0, 5, none⟩ = some (.int .u32 g) ∧ W.cell? ⟨Q0, 6, none⟩ = some (.int .u16 l) ∧ W.cell? ⟨Q0, 7, none⟩ = some (.slice A0 m0 c0)) ∧ (W.cell? ⟨V0, 0, none⟩ = some (.int .u64 n) ∧ W.cell? ⟨V0, 1, none⟩ = some (.int .i64 kk) ∧ W.cell? ⟨V0, 2, none⟩ = some (.int .u32 o) ∧ W.cell? ⟨V0, 3, none⟩ = some (.int .u16 s) ∧ W.cell? ⟨V0, 4, none⟩ = some (.int .u16 t) ∧ W.cell? ⟨V0, 5, none⟩ = some (.int .u32 g) ∧ W.cell? ⟨V0, 6, none⟩ = some (.int .u16 l) ∧ W.cell? ⟨V0, 7, none⟩ = some (.slice A8 m8 c8)) ∧ (convert 27 9 (.slice A6 m6 c6)).run Try.prog W = .ok (.string (strOfNums (reqB n kk o s t g l data))) W))) (by kernel_rfl) ?_ (fun hHeld => ?_)
        · ((try dsimp only); exact S8.out _ HB8.out)
        refine wpAnyH_take (i := 0) (oi := { dst := some 84, op := Go.Op.move (Go.Operand.tmp 9), type := 27, pos := "law.go:38", after := #[], guard := none }) (v := ?_) rfl (by kernel_rfl) (by kernel_rfl) (by kernel_rfl) (fun _ _ _ h => h) (Or.inl ⟨by rfl, ?_⟩) (by assumption) ?_
        rotate_left 1
        · (intro w hSw; (try dsimp only at hSw); go_simp; try with_reducible rfl)
        try simp only [Act.put, List.setIfInBounds_toArray, List.set_cons_zero, List.set_cons_succ]
        refine wpAnyH_take (i := 1) (oi := { dst := some 85, op := Go.Op.convert 27 9 (Go.Operand.tmp 84), type := 9, pos := "law.go:38", after := #[{ on := 0, ground := Go.Ground.data }], guard := none }) (v := ?_) rfl (by kernel_rfl) (by kernel_rfl) (by kernel_rfl) (fun _ _ _ h => h) (Or.inl ⟨by rfl, ?_⟩) (by assumption) ?_
        rotate_left 1
        · (intro w hSw; (try dsimp only at hSw); go_simp; try with_reducible rfl)
        try simp only [Act.put, List.setIfInBounds_toArray, List.set_cons_zero, List.set_cons_succ]
        refine wpAnyH_take (i := 2) (oi := { dst := some 86, op := Go.Op.load 29 (Go.Operand.tmp 2), type := 29, pos := "law.go:38", after := #[], guard := none }) (v := ?_) rfl (by kernel_rfl) (by kernel_rfl) (by kernel_rfl) (fun _ _ _ h => h) (Or.inl ⟨by rfl, ?_⟩) (by assumption) ?_
        rotate_left 1
        · (intro w hSw; (try dsimp only at hSw); go_simp; try with_reducible rfl)
        try simp only [Act.put, List.setIfInBounds_toArray, List.set_cons_zero, List.set_cons_succ]
        refine wpAnyH_ready (rs := [3]) (by kernel_rfl) (by simp) ?_
        refine AllReadyH.cons (o := { dst := some 87, op := Go.Op.call { callee := Go.Callee.value (Go.Operand.func 15), args := #[Go.Operand.tmp 86], argTypes := #[29] }, type := 27, pos := "law.go:38", after := #[{ on := 2, ground := Go.Ground.data }], guard := none }) rfl (fun K hK => ?_) AllReadyH.nil
        go_simp
        go_at_call 15
        (refine (CZ.out _ (HBW.out.trans (HB8.out.mono HBW.out.size))).mono ?_); rintro e v5 ⟨A9, m9, c9, hm9, rfl, hr9, hb⟩
        clear hm9
        have k9 := str_reads (c := c9) hr9
        replace HB8 := Lib.hid (HB8.out.trans (hb.mono HB8.out.size))
        clear hb
        clear hHeld
        refine hK.out _ _ ?_ (fun hHeld => ?_)
        · ((try dsimp only); exact S8.out _ HB8.out)
        clear hK K
        refine wpAnyH_ready (rs := [4]) (by kernel_rfl) (by simp) ?_
        refine AllReadyH.cons (o := { dst := some 88, op := Go.Op.convert 27 9 (Go.Operand.tmp 87), type := 9, pos := "law.go:38", after := #[{ on := 3, ground := Go.Ground.data }], guard := none }) rfl (fun K hK => ?_) AllReadyH.nil
        go_simp
        clear hHeld
        refine hK.out _ _ ?_ (fun hHeld => ?_)
        · ((try dsimp only); exact S8.out _ HB8.out)
        clear hK K
        refine wpAnyH_take (i := 5) (oi := { dst := some 89, op := Go.Op.binOp Go.BinOp.eql 9 (Go.Operand.tmp 85) (Go.Operand.tmp 88) 9, type := 4, pos := "law.go:38", after := #[{ on := 1, ground := Go.Ground.data }, { on := 4, ground := Go.Ground.data }], guard := none }) (v := ?_) rfl (by kernel_rfl) (by kernel_rfl) (by kernel_rfl) (fun _ _ _ h => h) (Or.inl ⟨by rfl, ?_⟩) (by assumption) ?_
        rotate_left 1
        · (intro w hSw; (try dsimp only at hSw); go_simp; try with_reducible rfl)
        try simp only [Act.put, List.setIfInBounds_toArray, List.set_cons_zero, List.set_cons_succ]
        refine wpAnyH_take (i := 6) (oi := { dst := some 90, op := Go.Op.move (Go.Operand.tmp 89), type := 4, pos := "law.go:38", after := #[{ on := 5, ground := Go.Ground.data }, { on := 3, ground := Go.Ground.chain }], guard := none }) (v := ?_) rfl (by kernel_rfl) (by kernel_rfl) (by kernel_rfl) (fun _ _ _ h => h) (Or.inl ⟨by rfl, ?_⟩) (by assumption) ?_
        rotate_left 1
        · (intro w hSw; (try dsimp only at hSw); go_simp; try with_reducible rfl)
        try simp only [Act.put, List.setIfInBounds_toArray, List.set_cons_zero, List.set_cons_succ]
        refine wpAnyH_take (i := 7) (oi := { dst := some 91, op := Go.Op.load 31 (Go.Operand.tmp 10), type := 31, pos := "law.go:38", after := #[{ on := 6, ground := Go.Ground.guard }], guard := some (6, true) }) (v := ?_) rfl (by kernel_rfl) (by kernel_rfl) (by kernel_rfl) (fun _ _ _ h => h) (Or.inl ⟨by rfl, ?_⟩) (by assumption) ?_
        rotate_left 1
        · (intro w hSw; (try dsimp only at hSw); go_simp; try with_reducible rfl)
        try simp only [Act.put, List.setIfInBounds_toArray, List.set_cons_zero, List.set_cons_succ]
        refine wpAnyH_take (i := 8) (oi := { dst := some 92, op := Go.Op.load 29 (Go.Operand.tmp 2), type := 29, pos := "law.go:38", after := #[{ on := 6, ground := Go.Ground.guard }], guard := some (6, true) }) (v := ?_) rfl (by kernel_rfl) (by kernel_rfl) (by kernel_rfl) (fun _ _ _ h => h) (Or.inl ⟨by rfl, ?_⟩) (by assumption) ?_
        rotate_left 1
        · (intro w hSw; (try dsimp only at hSw); go_simp; try with_reducible rfl)
        try simp only [Act.put, List.setIfInBounds_toArray, List.set_cons_zero, List.set_cons_succ]
        refine wpAnyH_ready (rs := [9]) (by kernel_rfl) (by simp) ?_
        refine AllReadyH.cons (o := { dst := some 93, op := Go.Op.call { callee := Go.Callee.value (Go.Operand.func 8), args := #[Go.Operand.tmp 91, Go.Operand.tmp 92], argTypes := #[31, 29] }, type := 4, pos := "law.go:38", after := #[{ on := 7, ground := Go.Ground.data }, { on := 8, ground := Go.Ground.data }, { on := 6, ground := Go.Ground.chain }, { on := 6, ground := Go.Ground.guard }], guard := some (6, true) }) rfl (fun K hK => ?_) AllReadyH.nil
        go_simp
        go_at_call 8
        (refine (CI8.out _ HB8.out).mono ?_); rintro e v6 ⟨rfl, hb⟩
        replace HB8 := Lib.hid (HB8.out.trans (hb.mono HB8.out.size))
        clear hb
        clear hHeld
        refine hK.out _ _ ?_ (fun hHeld => ?_)
        · ((try dsimp only); exact S8.out _ HB8.out)
        clear hK K
        refine wpAnyH_take (i := 10) (oi := { dst := some 94, op := Go.Op.pick (Go.Operand.tmp 90) (Go.Operand.tmp 93) (Go.Operand.const (Go.Value.bool false)), type := 4, pos := "law.go:38", after := #[{ on := 6, ground := Go.Ground.data }, { on := 9, ground := Go.Ground.data }], guard := none }) (v := ?_) rfl (by kernel_rfl) (by kernel_rfl) (by kernel_rfl) (fun _ _ _ h => h) (Or.inl ⟨by rfl, ?_⟩) (by assumption) ?_
        rotate_left 1
        · (intro w hSw; (try dsimp only at hSw); go_simp; try with_reducible rfl)
        try simp only [Act.put, List.setIfInBounds_toArray, List.set_cons_zero, List.set_cons_succ]
        refine wpAnyH_take (i := 11) (oi := { dst := some 95, op := Go.Op.move (Go.Operand.tmp 94), type := 4, pos := "law.go:38", after := #[{ on := 10, ground := Go.Ground.data }, { on := 9, ground := Go.Ground.chain }], guard := none }) (v := ?_) rfl (by kernel_rfl) (by kernel_rfl) (by kernel_rfl) (fun _ _ _ h => h) (Or.inl ⟨by rfl, ?_⟩) (by assumption) ?_
        rotate_left 1
        · (intro w hSw; (try dsimp only at hSw); go_simp; try with_reducible rfl)
        try simp only [Act.put, List.setIfInBounds_toArray, List.set_cons_zero, List.set_cons_succ]
        refine wpAnyH_take (i := 12) (oi := { dst := some 96, op := Go.Op.move (Go.Operand.tmp 11), type := 32, pos := "law.go:38", after := #[{ on := 11, ground := Go.Ground.guard }], guard := some (11, true) }) (v := ?_) rfl (by kernel_rfl) (by kernel_rfl) (by kernel_rfl) (fun _ _ _ h => h) (Or.inl ⟨by rfl, ?_⟩) (by assumption) ?_
        rotate_left 1
        · (intro w hSw; (try dsimp only at hSw); go_simp; try with_reducible rfl)
        try simp only [Act.put, List.setIfInBounds_toArray, List.set_cons_zero, List.set_cons_succ]
        refine wpAnyH_take (i := 13) (oi := { dst := some 97, op := Go.Op.binOp Go.BinOp.eql 32 (Go.Operand.tmp 96) (Go.Operand.const (Go.Value.int Go.IntKind.i64 0)) 32, type := 4, pos := "law.go:38", after := #[{ on := 12, ground := Go.Ground.data }, { on := 11, ground := Go.Ground.guard }], guard := some (11, true) }) (v := ?_) rfl (by kernel_rfl) (by kernel_rfl) (by kernel_rfl) (fun _ _ _ h => h) (Or.inl ⟨by rfl, ?_⟩) (by assumption) ?_
        rotate_left 1
        · (intro w hSw; (try dsimp only at hSw); go_simp; try with_reducible rfl)
        try simp only [Act.put, List.setIfInBounds_toArray, List.set_cons_zero, List.set_cons_succ]
        refine wpAnyH_take (i := 14) (oi := { dst := some 98, op := Go.Op.pick (Go.Operand.tmp 95) (Go.Operand.tmp 97) (Go.Operand.const (Go.Value.bool false)), type := 4, pos := "law.go:38", after := #[{ on := 11, ground := Go.Ground.data }, { on := 13, ground := Go.Ground.data }], guard := none }) (v := ?_) rfl (by kernel_rfl) (by kernel_rfl) (by kernel_rfl) (fun _ _ _ h => h) (Or.inl ⟨by rfl, ?_⟩) (by assumption) ?_
        rotate_left 1
        · (intro w hSw; (try dsimp only at hSw); go_simp; try with_reducible rfl)
        try simp only [Act.put, List.setIfInBounds_toArray, List.set_cons_zero, List.set_cons_succ]
        refine wpAnyH_take (i := 15) (oi := { dst := some 99, op := Go.Op.move (Go.Operand.tmp 98), type := 4, pos := "law.go:38", after := #[{ on := 14, ground := Go.Ground.data }, { on := 11, ground := Go.Ground.chain }], guard := none }) (v := ?_) rfl (by kernel_rfl) (by kernel_rfl) (by kernel_rfl) (fun _ _ _ h => h) (Or.inl ⟨by rfl, ?_⟩) (by assumption) ?_
        rotate_left 1
        · (intro w hSw; (try dsimp only at hSw); go_simp; try with_reducible rfl)
        try simp only [Act.put, List.setIfInBounds_toArray, List.set_cons_zero, List.set_cons_succ]
        refine wpAnyH_ready (rs := [16]) (by kernel_rfl) (by simp) ?_
        refine AllReadyH.cons (o := { dst := some 100, op := Go.Op.call { callee := Go.Callee.value (Go.Operand.func 5), args := #[], argTypes := #[] }, type := 4, pos := "law.go:38", after := #[{ on := 15, ground := Go.Ground.chain }, { on := 15, ground := Go.Ground.guard }], guard := some (15, true) }) rfl (fun K hK => ?_) AllReadyH.nil
        go_simp
        go_at_call 5
        (refine (awake_calls _).mono ?_); rintro e v7 ⟨rfl, hb⟩
        replace HB8 := Lib.hid (HB8.out.trans (hb.mono HB8.out.size))
        clear hb
        clear hHeld
        refine hK.out _ _ ?_ (fun hHeld => ?_)
        · ((try dsimp only); exact S8.out _ HB8.out)
        clear hK K
        refine wpAnyH_take (i := 17) (oi := { dst := some 101, op := Go.Op.pick (Go.Operand.tmp 99) (Go.Operand.tmp 100) (Go.Operand.const (Go.Value.bool false)), type := 4, pos := "law.go:38", after := #[{ on := 15, ground := Go.Ground.data }, { on := 16, ground := Go.Ground.data }], guard := none }) (v := ?_) rfl (by kernel_rfl) (by kernel_rfl) (by kernel_rfl) (fun _ _ _ h => h) (Or.inl ⟨by rfl, ?_⟩) (by assumption) ?_
        rotate_left 1
        · (intro w hSw; (try dsimp only at hSw); go_simp; try with_reducible rfl)
        try simp only [Act.put, List.setIfInBounds_toArray, List.set_cons_zero, List.set_cons_succ]
        refine wpAnyH_take (i := 18) (oi := { dst := some 4, op := Go.Op.assign (Go.Operand.tmp 101), type := 4, pos := "law.go:38", after := #[{ on := 17, ground := Go.Ground.data }, { on := 16, ground := Go.Ground.chain }, { on := 0, ground := Go.Ground.phase }, { on := 1, ground := Go.Ground.phase }, { on := 2, ground := Go.Ground.phase }, { on := 3, ground := Go.Ground.phase }, { on := 4, ground := Go.Ground.phase }, { on := 5, ground := Go.Ground.phase }, { on := 6, ground := Go.Ground.phase }, { on := 7, ground := Go.Ground.phase }, { on := 8, ground := Go.Ground.phase }, { on := 9, ground := Go.Ground.phase }, { on := 10, ground := Go.Ground.phase }, { on := 11, ground := Go.Ground.phase }, { on := 12, ground := Go.Ground.phase }, { on := 13, ground := Go.Ground.phase }, { on := 14, ground := Go.Ground.phase }, { on := 15, ground := Go.Ground.phase }, { on := 16, ground := Go.Ground.phase }, { on := 17, ground := Go.Ground.phase }], guard := none }) (v := ?_) rfl (by kernel_rfl) (by kernel_rfl) (by kernel_rfl) (fun _ _ _ h => h) (Or.inl ⟨by rfl, ?_⟩) (by assumption) ?_
        rotate_left 1
        · (intro w hSw; (try dsimp only at hSw); go_simp; try with_reducible rfl)
        try simp only [Act.put, List.setIfInBounds_toArray, List.set_cons_zero, List.set_cons_succ]
        refine wpAnyH_done (by kernel_rfl) ?_ _
        refine NoPanic.normal ?_
        go_wp2
        go_ret
        exact ⟨rfl, HBW.out.trans (HB8.out.mono HBW.out.size)⟩
end Go.Proofs.Ytckcnanklekchaa.Pack
