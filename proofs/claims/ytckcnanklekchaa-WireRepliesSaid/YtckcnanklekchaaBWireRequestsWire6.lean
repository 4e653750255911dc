/- The other functions of the law on requests: to, is, the reference's bytes; and that a parse of a request's bytes gives it back. -/
import Derived.Test.YtckcnanklekchaaProg
import Derived.Below
import Derived.Deep.Draws
import Derived.Deep.AppendLies
import Derived.Maps.AppendAt
import Derived.OwnWalk
import Derived.Laws.BytesArg
import Derived.Laws.MakeOwn
import Derived.Laws.OwnMore
import Derived.Deep.OwnRows
import Derived.Tactics
import Derived.Lib.ConvBytes
import Derived.Laws.Slices
import Derived.WalkKit
import Derived.KernelRfl
import Derived.RowKit3
import Derived.Deep.LoopGhost
import Derived.Deep.QuietTactic
import Derived.BigQuiet
import Derived.WideLaws
import Derived.Deep.DeepCutAuto
import Derived.Deep.CutBlock
import Derived.Deep.RegionHeld3
import Derived.Laws.Rows
import Derived.Lib.AppendStr
import Derived.ArgAppend
import Derived.Laws.IdiomCopy
import Derived.OrdersHeld
import Derived.Laws.BitsLemmas
import Derived.RowKit
import Derived.Lib.Hide
import Derived.WalkSpells
import Derived.StillTailTactics
import Derived.Outline
import Derived.Test.YtckcnanklekchaaBWireRequestsWire5
import Derived.Test.YtckcnanklekchaaBWireRequestsWire3
namespace Go.Proofs.Ytckcnanklekchaa.Pack
open Go Go.RowKit Go.Proofs.Ytckcnanklekchaa.PWireRequests Go.Proofs.Ytckcnanklekchaa.Mem Go.Proofs.Ytckcnanklekchaa.Bits Go.Proofs.YtckcnanklekchaaW.PrintWords Go.Proofs.YtckcnanklekchaaW.PrintLast
set_option linter.unusedVariables false

theorem is_any (n k o s t g l : Int) (A : Option Addr) (m c : Nat) (data : List Int) (n' k' o' s' t' g' l' : Int) (A' : Option Addr) (m' c' : Nat) (data' : List Int) (W : World)
    (hr : (Kd.int .u8).C W A m data) (hm : m = data.length) (hc : m ≤ c) (hr' : (Kd.int .u8).C W A' m' data') (hm' : m' = data'.length) (hc' : m' ≤ c')
    (e : n = n' ∧ k = k' ∧ o = o' ∧ s = s' ∧ t = t' ∧ g = g' ∧ l = l' ∧ data = data') :
    Calls Try.prog 8 #[.agg #[.int .u64 n, .int .i64 k, .int .u32 o, .int .u16 s, .int .u16 t, .int .u32 g, .int .u16 l, .slice A m c], .agg #[.int .u64 n', .int .i64 k', .int .u32 o', .int .u16 s', .int .u16 t', .int .u32 g', .int .u16 l', .slice A' m' c']] W fun e w' => e = .returned (.bool true) ∧ Below W.heap.size W w' := by
  obtain ⟨rfl, rfl, rfl, rfl, rfl, rfl, rfl, rfl⟩ := e
  subst hm
  subst hm'
  exact coldframelaw15_is.calls n k o s t g l A c data n k o s t g l A' c' data true W hr hc hr' hc' (by simp [coldframelaw15_is.f])
set_option maxRecDepth 100000 in
set_option maxHeartbeats 1000000 in
theorem to_any (n k o s t g l : Int) (A : Option Addr) (m c : Nat) (W : World) :
    Calls Try.prog 9 #[.agg #[.int .u64 n, .int .i64 k, .int .u32 o, .int .u16 s, .int .u16 t, .int .u32 g, .int .u16 l, .slice A m c]] W fun e w' => e = .returned (.agg #[.int .u64 n, .int .i64 k, .int .u32 o, .int .u16 s, .int .u16 t, .int .u32 g, .int .u16 l, .slice A m c]) ∧ Below W.heap.size W w' := by
  obtain ⟨W1, hW1⟩ : ∃ W1, W1 = W.alloc (.cells #[.int .u64 n, .int .i64 k, .int .u32 o, .int .u16 s, .int .u16 t, .int .u32 g, .int .u16 l, .slice A m c] 29) := ⟨_, rfl⟩
  have hb1 : Below W.heap.size W W1 := by rw [hW1]; exact (Below.refl _ _).alloc (Nat.le_refl _) _
  have hz1 : W1.heap.size = W.heap.size + 1 := by rw [hW1]; simp
  obtain ⟨W2, hW2⟩ : ∃ W2, W2 = W1.alloc (.cells #[.int .u64 0, .int .i64 0, .int .u32 0, .int .u16 0, .int .u16 0, .int .u32 0, .int .u16 0, .slice none 0 0] 31) := ⟨_, rfl⟩
  have hb2 : Below W1.heap.size W1 W2 := by rw [hW2]; exact (Below.refl _ _).alloc (Nat.le_refl _) _
  have hk1 : Blk W1 W.heap.size 29 #[.int .u64 n, .int .i64 k, .int .u32 o, .int .u16 s, .int .u16 t, .int .u32 g, .int .u16 l, .slice A m c] := by rw [hW1]; exact Blk.new _ _ _
  have hk2 : Blk W2 W1.heap.size 31 #[.int .u64 0, .int .i64 0, .int .u32 0, .int .u16 0, .int .u16 0, .int .u32 0, .int .u16 0, .slice none 0 0] := by rw [hW2]; exact Blk.new _ _ _
  have hk1' := hk1.below hb2 hk1.lt
  obtain ⟨Q0, hQ0⟩ : ∃ Q0, Q0 = W.heap.size := ⟨_, rfl⟩
  obtain ⟨R0, hR0⟩ : ∃ R0, R0 = W1.heap.size := ⟨_, rfl⟩
  rw [← hQ0] at hk1'
  rw [← hR0] at hk2
  obtain ⟨⟨z0, z1, z2, z3, z4, z5, z6, z7⟩, f0, f1, f2, f3, f4, f5, f6, f7⟩ := blk8 hk2
  obtain ⟨⟨y0, y1, y2, y3, y4, y5, y6, y7⟩, _⟩ := blk8 hk1'
  have HW2 := Lib.hid (show W2 = (W.alloc (.cells #[.int .u64 n, .int .i64 k, .int .u32 o, .int .u16 s, .int .u16 t, .int .u32 g, .int .u16 l, .slice A m c] 29)).alloc (.cells #[.int .u64 0, .int .i64 0, .int .u32 0, .int .u16 0, .int .u16 0, .int .u32 0, .int .u16 0, .slice none 0 0] 31) by rw [hW2, hW1])
  have HR0 := Lib.hid (show R0 = W.heap.size + 1 by omega)
  have HQ0 := Lib.hid hQ0
  have HKR := Lib.hid hk2
  have HB := Lib.hid (hb1.trans (hb2.mono (by omega)))
  have HL := Lib.hid (show W.heap.size ≤ R0 by omega)
  have n1 : R0 ≠ Q0 := by omega
  have n1' : Q0 ≠ R0 := by omega
  clear hW1 hW2 hb1 hb2 hz1 hk1 hk2 hk1' hQ0 hR0
  go_enter Try.func9, Try.ntmps9
  go_upto_region 1 with (fail)
  rw [← HW2.out, ← HR0.out, ← HQ0.out]
  go_wp2
  have hF := st8_blk (v0 := .int .u64 n) (v1 := .int .i64 k) (v2 := .int .u32 o) (v3 := .int .u16 s) (v4 := .int .u16 t) (v5 := .int .u32 g) (v6 := .int .u16 l) (v7 := .slice A m c) HKR.out
  have hB8 := st8_below (v0 := .int .u64 n) (v1 := .int .i64 k) (v2 := .int .u32 o) (v3 := .int .u16 s) (v4 := .int .u16 t) (v5 := .int .u32 g) (v6 := .int .u16 l) (v7 := .slice A m c) HB.out HL.out
  change bodyPost _ _ _ _ _ (st8 W2 R0 (.int .u64 n) (.int .i64 k) (.int .u32 o) (.int .u16 s) (.int .u16 t) (.int .u32 g) (.int .u16 l) (.slice A m c))
  generalize st8 W2 R0 (.int .u64 n) (.int .i64 k) (.int .u32 o) (.int .u16 s) (.int .u16 t) (.int .u32 g) (.int .u16 l) (.slice A m c) = WF at hF hB8 ⊢
  obtain ⟨⟨g0, g1, g2, g3, g4, g5, g6, g7⟩, _⟩ := blk8 hF
  exact bodyPost_ret (v := .agg #[.int .u64 n, .int .i64 k, .int .u32 o, .int .u16 s, .int .u16 t, .int .u32 g, .int .u16 l, .slice A m c]) (by simp [results, Try.results9, go_sem, g0, g1, g2, g3, g4, g5, g6, g7]) rfl ⟨rfl, hB8⟩
theorem refreq_f (n k o s t g l : Nat) (data : List Int) (hn : n < 18446744073709551616) (hk : k < 256) (ho : o < 4294967296) (hs : s < 65536) (ht : t < 65536) (hg : g < 4294967296) (hl : l < 65536) (hd : data.length ≤ 10000) :
    coldframeref15_Bytes.f 20 n k o s t g l data = some (reqB n k o s t g l data) := by
  unfold coldframeref15_Bytes.f
  rw [u64_nat k (by unfold U64; omega), u64_nat l (by unfold U64; omega), refnum_f k 1 20 (by decide) (by unfold U64; omega), bnd, refnum_f n 8 20 (by decide) (by unfold U64; omega), bnd, refshard_f o s t g ho hs ht hg, bnd, refnum_f l 2 20 (by decide) (by unfold U64; omega), bnd,
    join_f _ (by simp) (fun x hx => by simp at hx; rcases hx with rfl | rfl | rfl | rfl | rfl <;> first | omega | (rw [leB_len]; decide) | (rw [shardB_len]; decide)) 20 (by decide), bnd]
  rw [show cnt 1 = 1 from rfl, show cnt 8 = 8 from rfl, show cnt 2 = 2 from rfl]
  simp [reqB]
theorem refreq_any (n k o s t g l : Nat) (A : Option Addr) (m c : Nat) (data : List Int) (w0 W : World) (hB0 : Below w0.heap.size w0 W) (hr : (Kd.int .u8).C w0 A m data) (hm : m = data.length) (hc : m ≤ c)
    (hn : n < 18446744073709551616) (hk : k < 256) (ho : o < 4294967296) (hs : s < 65536) (ht : t < 65536) (hg : g < 4294967296) (hl : l < 65536) (hml : m ≤ 10000) :
    Calls Try.prog 15 #[.agg #[.int .u64 n, .int .i64 k, .int .u32 o, .int .u16 s, .int .u16 t, .int .u32 g, .int .u16 l, .slice A m c]] W fun e w' => ∃ A1 m1 c1, m1 = (reqB n k o s t g l data).length ∧ e = .returned (.slice A1 m1 c1) ∧ ReadsInt w' .u8 A1 m1 (reqB n k o s t g l data) ∧ Below W.heap.size W w' := by
  subst hm
  refine (coldframeref15_Bytes.calls 20 n k o s t g l (fun k => k < w0.heap.size) A c data _ W (Kd.V_mk hc (F_of_C hB0 hr)) (refreq_f n k o s t g l data hn hk ho hs ht hg hl hml)).mono ?_
  rintro e w' ⟨v, rfl, hr, hb⟩
  obtain ⟨A1, c1, rfl, _, hr⟩ := R_form_reads hr _ rfl
  exact ⟨A1, _, c1, rfl, rfl, hr, hb⟩
theorem leB_b' (n k : Nat) : AllB (leB n k) := by
  induction k generalizing n with
  | zero => intro x hx; simp [leB] at hx
  | succ k ih =>
    intro x hx
    rw [leB, List.mem_cons] at hx
    rcases hx with rfl | hx
    · omega
    · exact ih _ x hx
theorem reqB_len (n k o s t g l : Nat) (data : List Int) : (reqB n k o s t g l data).length = 23 + data.length := by simp [reqB, leB_len, shardB]; omega
theorem reqB_b (n k o s t g l : Nat) (data : List Int) (h : AllB data) : AllB (reqB n k o s t g l data) := by
  have ap : ∀ xs ys : List Int, AllB xs → AllB ys → AllB (xs ++ ys) := fun xs ys h1 h2 x hx => (List.mem_append.1 hx).elim (h1 x) (h2 x)
  unfold reqB shardB
  repeat' apply ap
  all_goals first | exact leB_b' _ _ | exact h
theorem reqB_back (n k o s t g l : Nat) (data : List Int) (hn : n < 18446744073709551616) (hk : k < 256) (ho : o < 4294967296) (hs : s < 65536) (ht : t < 65536) (hg : g < 4294967296) (hl : l < 65536) (b : List Int) (hb : b = reqB n k o s t g l data) :
    qNum b = n ∧ qKind b = k ∧ qO b = o ∧ qS b = s ∧ qT b = t ∧ qG b = g ∧ qLost b = l ∧ b.drop 23 = data := by
  have e : b = leB k 1 ++ (leB n 8 ++ (leB o 4 ++ (leB s 2 ++ (leB t 2 ++ (leB g 4 ++ (leB l 2 ++ data)))))) := by rw [hb]; simp [reqB, shardB, List.append_assoc]
  have d1 : b.drop 1 = leB n 8 ++ (leB o 4 ++ (leB s 2 ++ (leB t 2 ++ (leB g 4 ++ (leB l 2 ++ data))))) := by rw [e, List.drop_left' (leB_len _ _)]
  have d9 : b.drop 9 = leB o 4 ++ (leB s 2 ++ (leB t 2 ++ (leB g 4 ++ (leB l 2 ++ data)))) := by rw [show (9 : Nat) = 1 + 8 from rfl, ← List.drop_drop, d1, List.drop_left' (leB_len _ _)]
  have d13 : b.drop 13 = leB s 2 ++ (leB t 2 ++ (leB g 4 ++ (leB l 2 ++ data))) := by rw [show (13 : Nat) = 9 + 4 from rfl, ← List.drop_drop, d9, List.drop_left' (leB_len _ _)]
  have d15 : b.drop 15 = leB t 2 ++ (leB g 4 ++ (leB l 2 ++ data)) := by rw [show (15 : Nat) = 13 + 2 from rfl, ← List.drop_drop, d13, List.drop_left' (leB_len _ _)]
  have d17 : b.drop 17 = leB g 4 ++ (leB l 2 ++ data) := by rw [show (17 : Nat) = 15 + 2 from rfl, ← List.drop_drop, d15, List.drop_left' (leB_len _ _)]
  have d21 : b.drop 21 = leB l 2 ++ data := by rw [show (21 : Nat) = 17 + 4 from rfl, ← List.drop_drop, d17, List.drop_left' (leB_len _ _)]
  have d23 : b.drop 23 = data := by rw [show (23 : Nat) = 21 + 2 from rfl, ← List.drop_drop, d21, List.drop_left' (leB_len _ _)]
  unfold qNum qKind qO qS qT qG qLost
  rw [d1, d9, d13, d15, d17, d21, d23, e]
  repeat rw [List.take_left' (leB_len _ _)]
  repeat rw [leN_leB]
  refine ⟨?_, ?_, ?_, ?_, ?_, ?_, ?_, rfl⟩ <;> exact Nat.mod_eq_of_lt (by omega)
end Go.Proofs.Ytckcnanklekchaa.Pack
