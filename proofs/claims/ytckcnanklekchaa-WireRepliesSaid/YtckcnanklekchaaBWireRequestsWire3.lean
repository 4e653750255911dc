/- The program's Bytes of a request; the example. -/
import Derived.Test.YtckcnanklekchaaProg
import Derived.Below
import Derived.Deep.Draws
import Derived.Deep.AppendLies
import Derived.Maps.AppendAt
import Derived.OwnWalk
import Derived.Laws.BytesArg
import Derived.Laws.MakeOwn
import Derived.Laws.OwnMore
import Derived.Deep.OwnRows
import Derived.Tactics
import Derived.Lib.ConvBytes
import Derived.Laws.Slices
import Derived.WalkKit
import Derived.KernelRfl
import Derived.RowKit3
import Derived.Deep.LoopGhost
import Derived.Deep.QuietTactic
import Derived.BigQuiet
import Derived.WideLaws
import Derived.Deep.DeepCutAuto
import Derived.Deep.CutBlock
import Derived.Deep.RegionHeld3
import Derived.Laws.Rows
import Derived.Lib.AppendStr
import Derived.ArgAppend
import Derived.Laws.IdiomCopy
import Derived.OrdersHeld
import Derived.Laws.BitsLemmas
import Derived.RowKit
import Derived.Lib.Hide
import Derived.WalkSpells
import Derived.StillTailTactics
import Derived.Outline
import Derived.Test.YtckcnanklekchaaBWireRequestsWire2
import Derived.Test.YtckcnanklekchaaBWireRequestsPackR
namespace Go.Proofs.Ytckcnanklekchaa.Pack
open Go Go.RowKit Go.Proofs.Ytckcnanklekchaa.PWireRequests Go.Proofs.Ytckcnanklekchaa.Mem Go.Proofs.Ytckcnanklekchaa.Bits Go.Proofs.YtckcnanklekchaaW.PrintWords Go.Proofs.YtckcnanklekchaaW.PrintLast
set_option linter.unusedVariables false

/-- A request's bytes. -/
def reqB (n k o s t g l : Nat) (data : List Int) : List Int := leB k 1 ++ (leB n 8 ++ (shardB o s t g ++ (leB l 2 ++ data)))
theorem wr_new (w : World) (base : Nat) (h : base ≤ w.heap.size) : Wr (w.alloc (.cells #[.slice none 0 0] 64)) base w.heap.size (.slice none 0 0) [] := ⟨Blk.new _ _ _, h, own_nil _ _ _ _⟩
theorem num_w {w W : World} {base g : Nat} {v v1 : Value} {xs : List Int} (h : WrTo w base g v W v1 xs) (n : Nat) (size : Int) (hn : n < U64) (hl : xs.length ≤ 900000) (q : Nat) (hq : cnt size = q) :
    Calls Try.prog 27 #[.pointer (some ⟨g, 0, none⟩), .int .u64 n, .int .i64 size] W fun e w' => e = .returned (.pointer (some ⟨g, 0, none⟩)) ∧ ∃ v2, WrTo w base g v w' v2 (xs ++ leB n q) := by
  subst hq
  refine (num_any base g v1 xs n size W h.wr hn (by omega)).mono ?_
  rintro e w' ⟨rfl, v2, h2⟩
  exact ⟨rfl, v2, h.trans h2⟩
theorem shard_w {w W : World} {base g : Nat} {v v1 : Value} {xs : List Int} (h : WrTo w base g v W v1 xs) (o s t q : Nat) (ho : o < 4294967296) (hs : s < 65536) (ht : t < 65536) (hq : q < 4294967296) (hl : xs.length ≤ 800000) :
    Calls Try.prog 28 #[.pointer (some ⟨g, 0, none⟩), .agg #[.int .u32 o, .int .u16 s, .int .u16 t, .int .u32 q]] W fun e w' => e = .returned (.pointer (some ⟨g, 0, none⟩)) ∧ ∃ v2, WrTo w base g v w' v2 (xs ++ shardB o s t q) := by
  refine (shard_any base g v1 xs o s t q W h.wr ho hs ht hq hl).mono ?_
  rintro e w' ⟨rfl, v2, h2⟩
  exact ⟨rfl, v2, h.trans h2⟩
theorem raw_w {w W : World} {base g : Nat} {v v1 : Value} {xs : List Int} (h : WrTo w base g v W v1 xs) (ys : List Int) (A : Option Addr) (m c : Nat) (hr : ReadsInt W .u8 A m ys) (hl : xs.length ≤ 900000) (hm : m ≤ 900000) :
    Calls Try.prog 29 #[.pointer (some ⟨g, 0, none⟩), .slice A m c] W fun e w' => e = .returned (.pointer (some ⟨g, 0, none⟩)) ∧ ∃ v2, WrTo w base g v w' v2 (xs ++ ys) := by
  refine (raw_any base g v1 xs ys A m c W h.wr hr (by omega) (by omega)).mono ?_
  rintro e w' ⟨rfl, v2, h2⟩
  exact ⟨rfl, v2, h.trans h2⟩
theorem bytes_w {w W : World} {base g : Nat} {v v1 : Value} {xs : List Int} (h : WrTo w base g v W v1 xs) (hl : xs.length ≤ 900000) :
    Calls Try.prog 30 #[.pointer (some ⟨g, 0, none⟩)] W fun e w' => ∃ A m c, m = xs.length ∧ e = .returned (.slice A m c) ∧ w'.ownsRow W.heap.size 5 1 (.slice A m c) m (nums .u8 xs) ∧ WrTo w base g v w' v1 xs := by
  refine (bytes_any base g v1 xs W h.wr (by omega)).mono ?_
  rintro e w' ⟨A, c, rfl, ho, hb⟩
  exact ⟨A, _, c, rfl, rfl, ho, h.next hb⟩
set_option maxRecDepth 100000 in
theorem req_none (n o s t g l k : Int) (A : Option Addr) (m c : Nat) (data : List Int) (W : World) (hr : (Kd.int .u8).C W A m data) (hm : m = data.length) (hc : m ≤ c) (hb : rightB k l data = false) :
    Calls Try.prog 14 #[.agg #[.int .u64 n, .int .i64 k, .int .u32 o, .int .u16 s, .int .u16 t, .int .u32 g, .int .u16 l, .slice A m c]] W fun e w' => e = .returned (.slice none 0 0) ∧ Below W.heap.size W w' := by
  have hA : Below W.heap.size W (W.alloc (.cells #[.int .u64 n, .int .i64 k, .int .u32 o, .int .u16 s, .int .u16 t, .int .u32 g, .int .u16 l, .slice A m c] 31)) := (Below.refl _ _).alloc (Nat.le_refl _) _
  have RC := Lib.hid (right_calls n k o s t g l A m c data _ (Kd.C_below hr hA) hm hc false hb)
  have HA := Lib.hid hA
  clear hr hm hc hb hA
  go_enter Try.func14, Try.ntmps14
  go_wp2_with (go_at_call 10; (with_reducible refine RC.out.mono ?_); rintro e w1 ⟨rfl, hb⟩; have HB := Lib.hid (HA.out.trans (hb.mono HA.out.size)); clear hb)
  go_ret
  exact ⟨rfl, HB.out⟩
set_option maxRecDepth 100000 in
set_option maxHeartbeats 1000000 in
theorem req_bytes (n k o s t g l : Nat) (A : Option Addr) (m c : Nat) (data : List Int) (w0 W : World) (hB0 : Below w0.heap.size w0 W) (hr : (Kd.int .u8).C w0 A m data) (hm : m = data.length) (hc : m ≤ c) (hb : rightB k l data = true)
    (hn : n < 18446744073709551616) (hk : k < 256) (ho : o < 4294967296) (hs : s < 65536) (ht : t < 65536) (hg : g < 4294967296) (hl : l < 65536) (hml : m ≤ 800000) :
    Calls Try.prog 14 #[.agg #[.int .u64 n, .int .i64 k, .int .u32 o, .int .u16 s, .int .u16 t, .int .u32 g, .int .u16 l, .slice A m c]] W fun e w' => ∃ A1 m1 c1, m1 = (reqB n k o s t g l data).length ∧ e = .returned (.slice A1 m1 c1) ∧ w'.ownsRow W.heap.size 5 1 (.slice A1 m1 c1) m1 (nums .u8 (reqB n k o s t g l data)) ∧ Below W.heap.size W w' := by
  obtain ⟨W1, hW1⟩ : ∃ W1, W1 = W.alloc (.cells #[.int .u64 n, .int .i64 k, .int .u32 o, .int .u16 s, .int .u16 t, .int .u32 g, .int .u16 l, .slice A m c] 31) := ⟨_, rfl⟩
  have hA : Below W.heap.size W W1 := by rw [hW1]; exact (Below.refl _ _).alloc (Nat.le_refl _) _
  have hblk : Blk W1 W.heap.size 31 #[.int .u64 n, .int .i64 k, .int .u32 o, .int .u16 s, .int .u16 t, .int .u32 g, .int .u16 l, .slice A m c] := by rw [hW1]; exact Blk.new _ _ _
  have RC := Lib.hid (fun (W' : World) (hW : Below W.heap.size W W') => right_calls n k o s t g l A m c data W' (Kd.C_below hr (hB0.trans (hW.mono hB0.size))) hm hc true hb)
  have HR := Lib.hid (fun (W' : World) (hW : Below W.heap.size W W') => Kd.reads_of_C (d := (0 : Int)) (Kd.C_below hr (hB0.trans (hW.mono hB0.size))))
  have HA := Lib.hid hA
  have HBK := Lib.hid hblk
  have HW1 := Lib.hid hW1
  have HM := Lib.hid hm
  have e1 : IntKind.u64.wrap (k : Int) = (k : Int) := u64_nat k (by unfold U64; omega)
  have e2 : IntKind.u64.wrap (l : Int) = (l : Int) := u64_nat l (by unfold U64; omega)
  obtain ⟨⟨y0, y1, y2, y3, y4, y5, y6, y7⟩, _⟩ := blk8 hblk
  obtain ⟨R0, hR0⟩ : ∃ R0, R0 = W.heap.size := ⟨_, rfl⟩
  have HR0 := Lib.hid hR0
  rw [← hR0] at y0 y1 y2 y3 y4 y5 y6 y7 HBK
  clear hr hm hc hb hA hblk hW1 hB0 hR0
  go_enter Try.func14, Try.ntmps14
  go_upto_region 1 with (fail)
  rw [← HW1.out, ← HR0.out]
  go_upto_region 4 with (go_at_call 10; (with_reducible refine (RC.out _ HA.out).mono ?_); rintro e w1 ⟨rfl, hb⟩; have HB1 := Lib.hid (HA.out.trans (hb.mono HA.out.size)); have HBK1 := Lib.hid (HBK.out.below hb HBK.out.lt); clear hb y0 y1 y2 y3 y4 y5 y6 y7)
  have hV := wr_new w1 W.heap.size HB1.out.size
  have hA2 : Below w1.heap.size w1 (w1.alloc (.cells #[.slice none 0 0] 64)) := (Below.refl _ _).alloc (Nat.le_refl _) _
  have HB2 := Lib.hid (HB1.out.trans (hA2.mono HB1.out.size))
  obtain ⟨⟨y0, y1, y2, y3, y4, y5, y6, y7⟩, _⟩ := blk8 (HBK1.out.below hA2 HBK1.out.lt)
  have HV := Lib.hid hV.to.drew
  have hne1 : R0 ≠ w1.heap.size := Nat.ne_of_lt HBK1.out.lt
  have hne2 : some R0 ≠ (Value.slice none 0 0).ownBlock := by simp [Value.ownBlock]
  clear hV hA2
  obtain ⟨W2, hW2⟩ : ∃ W2, W2 = w1.alloc (.cells #[.slice none 0 0] 64) := ⟨_, rfl⟩
  rw [← hW2] at HB2 y0 y1 y2 y3 y4 y5 y6 y7 HV ⊢
  clear hW2
  refine wp_region_noPanic ?_
  refine wp_region_held_drew (S := (fun W => W.cell? ⟨R0, 0, none⟩ = some (.int .u64 n) ∧ W.cell? ⟨R0, 1, none⟩ = some (.int .i64 k) ∧ W.cell? ⟨R0, 2, none⟩ = some (.int .u32 o) ∧ W.cell? ⟨R0, 3, none⟩ = some (.int .u16 s) ∧ W.cell? ⟨R0, 4, none⟩ = some (.int .u16 t) ∧ W.cell? ⟨R0, 5, none⟩ = some (.int .u32 g) ∧ W.cell? ⟨R0, 6, none⟩ = some (.int .u16 l) ∧ W.cell? ⟨R0, 7, none⟩ = some (.slice A m c))) (by kernel_rfl) ?_ (fun hHeld => ?_)
  · ((try dsimp only); (refine ⟨?_, ?_, ?_, ?_, ?_, ?_, ?_, ?_⟩ <;> assumption))
  refine wpAnyH_take (i := 0) (oi := { dst := some 9, op := Go.Op.move (Go.Operand.tmp 3), type := 62, pos := "wire.go:65", after := #[], guard := none }) (v := ?_) rfl (by kernel_rfl) (by kernel_rfl) (by kernel_rfl) (fun _ _ _ h => h) (Or.inl ⟨by rfl, ?_⟩) (by assumption) ?_
  rotate_left 1
  · (intro w hSw; (try dsimp only at hSw); go_simp; try with_reducible rfl)
  try simp only [Act.put, List.setIfInBounds_toArray, List.set_cons_zero, List.set_cons_succ]
  refine wpAnyH_take (i := 1) (oi := { dst := some 10, op := Go.Op.fieldAddr 31 (Go.Operand.tmp 1) 1, type := 0, pos := "wire.go:65", after := #[], guard := none }) (v := ?_) rfl (by kernel_rfl) (by kernel_rfl) (by kernel_rfl) (fun _ _ _ h => h) (Or.inl ⟨by rfl, ?_⟩) (by assumption) ?_
  rotate_left 1
  · (intro w hSw; (try dsimp only at hSw); go_simp; try with_reducible rfl)
  try simp only [Act.put, List.setIfInBounds_toArray, List.set_cons_zero, List.set_cons_succ]
  refine wpAnyH_take (i := 2) (oi := { dst := some 11, op := Go.Op.load 3 (Go.Operand.tmp 10), type := 3, pos := "wire.go:65", after := #[{ on := 1, ground := Go.Ground.data }], guard := none }) (v := ?_) rfl (by kernel_rfl) (by kernel_rfl) (by kernel_rfl) (fun _ _ _ h => h) (Or.inl ⟨by rfl, ?_⟩) (by assumption) ?_
  rotate_left 1
  · (intro w hSw; (try dsimp only at hSw); go_simp; try with_reducible rfl)
  try simp only [Act.put, List.setIfInBounds_toArray, List.set_cons_zero, List.set_cons_succ]
  refine wpAnyH_take (i := 3) (oi := { dst := some 12, op := Go.Op.convert 3 22 (Go.Operand.tmp 11), type := 22, pos := "wire.go:65", after := #[{ on := 2, ground := Go.Ground.data }], guard := none }) (v := ?_) rfl (by kernel_rfl) (by kernel_rfl) (by kernel_rfl) (fun _ _ _ h => h) (Or.inl ⟨by rfl, ?_⟩) (by assumption) ?_
  rotate_left 1
  · (intro w hSw; (try dsimp only at hSw); go_simp; try with_reducible rfl)
  try simp only [Act.put, List.setIfInBounds_toArray, List.set_cons_zero, List.set_cons_succ]
  refine wpAnyH_take (i := 5) (oi := { dst := some 14, op := Go.Op.fieldAddr 31 (Go.Operand.tmp 1) 0, type := 0, pos := "wire.go:65", after := #[], guard := none }) (v := ?_) rfl (by kernel_rfl) (by kernel_rfl) (by kernel_rfl) (fun _ _ _ h => h) (Or.inl ⟨by rfl, ?_⟩) (by assumption) ?_
  rotate_left 1
  · (intro w hSw; (try dsimp only at hSw); go_simp; try with_reducible rfl)
  try simp only [Act.put, List.setIfInBounds_toArray, List.set_cons_zero, List.set_cons_succ]
  refine wpAnyH_take (i := 6) (oi := { dst := some 15, op := Go.Op.load 22 (Go.Operand.tmp 14), type := 22, pos := "wire.go:65", after := #[{ on := 5, ground := Go.Ground.data }], guard := none }) (v := ?_) rfl (by kernel_rfl) (by kernel_rfl) (by kernel_rfl) (fun _ _ _ h => h) (Or.inl ⟨by rfl, ?_⟩) (by assumption) ?_
  rotate_left 1
  · (intro w hSw; (try dsimp only at hSw); go_simp; try with_reducible rfl)
  try simp only [Act.put, List.setIfInBounds_toArray, List.set_cons_zero, List.set_cons_succ]
  refine wpAnyH_take (i := 8) (oi := { dst := some 17, op := Go.Op.fieldAddr 31 (Go.Operand.tmp 1) 2, type := 0, pos := "wire.go:65", after := #[], guard := none }) (v := ?_) rfl (by kernel_rfl) (by kernel_rfl) (by kernel_rfl) (fun _ _ _ h => h) (Or.inl ⟨by rfl, ?_⟩) (by assumption) ?_
  rotate_left 1
  · (intro w hSw; (try dsimp only at hSw); go_simp; try with_reducible rfl)
  try simp only [Act.put, List.setIfInBounds_toArray, List.set_cons_zero, List.set_cons_succ]
  refine wpAnyH_take (i := 9) (oi := { dst := some 18, op := Go.Op.load 26 (Go.Operand.tmp 17), type := 26, pos := "wire.go:65", after := #[{ on := 8, ground := Go.Ground.data }], guard := none }) (v := ?_) rfl (by kernel_rfl) (by kernel_rfl) (by kernel_rfl) (fun _ _ _ h => h) (Or.inl ⟨by rfl, ?_⟩) (by assumption) ?_
  rotate_left 1
  · (intro w hSw; (try dsimp only at hSw); go_simp; try with_reducible rfl)
  try simp only [Act.put, List.setIfInBounds_toArray, List.set_cons_zero, List.set_cons_succ]
  refine wpAnyH_take (i := 11) (oi := { dst := some 20, op := Go.Op.fieldAddr 31 (Go.Operand.tmp 1) 3, type := 0, pos := "wire.go:65", after := #[], guard := none }) (v := ?_) rfl (by kernel_rfl) (by kernel_rfl) (by kernel_rfl) (fun _ _ _ h => h) (Or.inl ⟨by rfl, ?_⟩) (by assumption) ?_
  rotate_left 1
  · (intro w hSw; (try dsimp only at hSw); go_simp; try with_reducible rfl)
  try simp only [Act.put, List.setIfInBounds_toArray, List.set_cons_zero, List.set_cons_succ]
  refine wpAnyH_take (i := 12) (oi := { dst := some 21, op := Go.Op.load 24 (Go.Operand.tmp 20), type := 24, pos := "wire.go:65", after := #[{ on := 11, ground := Go.Ground.data }], guard := none }) (v := ?_) rfl (by kernel_rfl) (by kernel_rfl) (by kernel_rfl) (fun _ _ _ h => h) (Or.inl ⟨by rfl, ?_⟩) (by assumption) ?_
  rotate_left 1
  · (intro w hSw; (try dsimp only at hSw); go_simp; try with_reducible rfl)
  try simp only [Act.put, List.setIfInBounds_toArray, List.set_cons_zero, List.set_cons_succ]
  refine wpAnyH_take (i := 13) (oi := { dst := some 22, op := Go.Op.convert 24 22 (Go.Operand.tmp 21), type := 22, pos := "wire.go:65", after := #[{ on := 12, ground := Go.Ground.data }], guard := none }) (v := ?_) rfl (by kernel_rfl) (by kernel_rfl) (by kernel_rfl) (fun _ _ _ h => h) (Or.inl ⟨by rfl, ?_⟩) (by assumption) ?_
  rotate_left 1
  · (intro w hSw; (try dsimp only at hSw); go_simp; try with_reducible rfl)
  try simp only [Act.put, List.setIfInBounds_toArray, List.set_cons_zero, List.set_cons_succ]
  refine wpAnyH_take (i := 15) (oi := { dst := some 24, op := Go.Op.fieldAddr 31 (Go.Operand.tmp 1) 4, type := 0, pos := "wire.go:65", after := #[], guard := none }) (v := ?_) rfl (by kernel_rfl) (by kernel_rfl) (by kernel_rfl) (fun _ _ _ h => h) (Or.inl ⟨by rfl, ?_⟩) (by assumption) ?_
  rotate_left 1
  · (intro w hSw; (try dsimp only at hSw); go_simp; try with_reducible rfl)
  try simp only [Act.put, List.setIfInBounds_toArray, List.set_cons_zero, List.set_cons_succ]
  refine wpAnyH_take (i := 16) (oi := { dst := some 25, op := Go.Op.load 27 (Go.Operand.tmp 24), type := 27, pos := "wire.go:65", after := #[{ on := 15, ground := Go.Ground.data }], guard := none }) (v := ?_) rfl (by kernel_rfl) (by kernel_rfl) (by kernel_rfl) (fun _ _ _ h => h) (Or.inl ⟨by rfl, ?_⟩) (by assumption) ?_
  rotate_left 1
  · (intro w hSw; (try dsimp only at hSw); go_simp; try with_reducible rfl)
  try simp only [Act.put, List.setIfInBounds_toArray, List.set_cons_zero, List.set_cons_succ]
  refine wpAnyH_ready (rs := [4]) (by kernel_rfl) (by simp) ?_
  refine AllReadyH.cons (o := { dst := some 13, op := Go.Op.call { callee := Go.Callee.value (Go.Operand.func 27), args := #[Go.Operand.tmp 9, Go.Operand.tmp 12, Go.Operand.const (Go.Value.int Go.IntKind.i64 1)], argTypes := #[62, 22, 3] }, type := 62, pos := "wire.go:65", after := #[{ on := 0, ground := Go.Ground.data }, { on := 3, ground := Go.Ground.data }], guard := none }) rfl (fun K hK => ?_) AllReadyH.nil
  go_simp
  go_at_call 27
  (refine (num_w HV.out k 1 (by unfold U64; omega) (by simp) 1 rfl).mono ?_)
  rintro e u1 ⟨rfl, v1, h1⟩
  have HQ := Lib.hid (show WrTo W2 W.heap.size w1.heap.size _ u1 v1 (leB k 1) from h1)
  clear h1
  have z0 := cell_kept HQ.out y0 hne1 hne2; have z1 := cell_kept HQ.out y1 hne1 hne2; have z2 := cell_kept HQ.out y2 hne1 hne2; have z3 := cell_kept HQ.out y3 hne1 hne2; have z4 := cell_kept HQ.out y4 hne1 hne2; have z5 := cell_kept HQ.out y5 hne1 hne2; have z6 := cell_kept HQ.out y6 hne1 hne2; have z7 := cell_kept HQ.out y7 hne1 hne2
  clear hHeld
  refine hK.out _ _ ?_ (fun hHeld => ?_)
  · ((try dsimp only); (refine ⟨?_, ?_, ?_, ?_, ?_, ?_, ?_, ?_⟩ <;> assumption))
  clear hK K
  refine wpAnyH_ready (rs := [7]) (by kernel_rfl) (by simp) ?_
  refine AllReadyH.cons (o := { dst := some 16, op := Go.Op.call { callee := Go.Callee.value (Go.Operand.func 27), args := #[Go.Operand.tmp 13, Go.Operand.tmp 15, Go.Operand.const (Go.Value.int Go.IntKind.i64 8)], argTypes := #[62, 22, 3] }, type := 62, pos := "wire.go:65", after := #[{ on := 4, ground := Go.Ground.data }, { on := 6, ground := Go.Ground.data }, { on := 4, ground := Go.Ground.chain }], guard := none }) rfl (fun K hK => ?_) AllReadyH.nil
  go_simp
  go_at_call 27
  (refine (num_w HQ.out n 8 (by unfold U64; omega) (by simp [leB_len]) 8 rfl).mono ?_)
  rintro e u2 ⟨rfl, v2, h1⟩
  clear z0 z1 z2 z3 z4 z5 z6 z7 HQ
  have HQ := Lib.hid h1
  clear h1
  have z0 := cell_kept HQ.out y0 hne1 hne2; have z1 := cell_kept HQ.out y1 hne1 hne2; have z2 := cell_kept HQ.out y2 hne1 hne2; have z3 := cell_kept HQ.out y3 hne1 hne2; have z4 := cell_kept HQ.out y4 hne1 hne2; have z5 := cell_kept HQ.out y5 hne1 hne2; have z6 := cell_kept HQ.out y6 hne1 hne2; have z7 := cell_kept HQ.out y7 hne1 hne2
  clear hHeld
  refine hK.out _ _ ?_ (fun hHeld => ?_)
  · ((try dsimp only); (refine ⟨?_, ?_, ?_, ?_, ?_, ?_, ?_, ?_⟩ <;> assumption))
  clear hK K
  refine wpAnyH_ready (rs := [10]) (by kernel_rfl) (by simp) ?_
  refine AllReadyH.cons (o := { dst := some 19, op := Go.Op.call { callee := Go.Callee.value (Go.Operand.func 28), args := #[Go.Operand.tmp 16, Go.Operand.tmp 18], argTypes := #[62, 26] }, type := 62, pos := "wire.go:65", after := #[{ on := 7, ground := Go.Ground.data }, { on := 9, ground := Go.Ground.data }, { on := 7, ground := Go.Ground.chain }], guard := none }) rfl (fun K hK => ?_) AllReadyH.nil
  go_simp
  go_at_call 28
  (refine (shard_w HQ.out o s t g ho hs ht hg (by simp [leB_len])).mono ?_)
  rintro e u3 ⟨rfl, v3, h1⟩
  clear z0 z1 z2 z3 z4 z5 z6 z7 HQ
  have HQ := Lib.hid h1
  clear h1
  have z0 := cell_kept HQ.out y0 hne1 hne2; have z1 := cell_kept HQ.out y1 hne1 hne2; have z2 := cell_kept HQ.out y2 hne1 hne2; have z3 := cell_kept HQ.out y3 hne1 hne2; have z4 := cell_kept HQ.out y4 hne1 hne2; have z5 := cell_kept HQ.out y5 hne1 hne2; have z6 := cell_kept HQ.out y6 hne1 hne2; have z7 := cell_kept HQ.out y7 hne1 hne2
  clear hHeld
  refine hK.out _ _ ?_ (fun hHeld => ?_)
  · ((try dsimp only); (refine ⟨?_, ?_, ?_, ?_, ?_, ?_, ?_, ?_⟩ <;> assumption))
  clear hK K
  refine wpAnyH_ready (rs := [14]) (by kernel_rfl) (by simp) ?_
  refine AllReadyH.cons (o := { dst := some 23, op := Go.Op.call { callee := Go.Callee.value (Go.Operand.func 27), args := #[Go.Operand.tmp 19, Go.Operand.tmp 22, Go.Operand.const (Go.Value.int Go.IntKind.i64 2)], argTypes := #[62, 22, 3] }, type := 62, pos := "wire.go:65", after := #[{ on := 10, ground := Go.Ground.data }, { on := 13, ground := Go.Ground.data }, { on := 10, ground := Go.Ground.chain }], guard := none }) rfl (fun K hK => ?_) AllReadyH.nil
  go_simp
  go_at_call 27
  (refine (num_w HQ.out l 2 (by unfold U64; omega) (by simp [leB_len, shardB]) 2 rfl).mono ?_)
  rintro e u4 ⟨rfl, v4, h1⟩
  clear z0 z1 z2 z3 z4 z5 z6 z7 HQ
  have HQ := Lib.hid h1
  clear h1
  have z0 := cell_kept HQ.out y0 hne1 hne2; have z1 := cell_kept HQ.out y1 hne1 hne2; have z2 := cell_kept HQ.out y2 hne1 hne2; have z3 := cell_kept HQ.out y3 hne1 hne2; have z4 := cell_kept HQ.out y4 hne1 hne2; have z5 := cell_kept HQ.out y5 hne1 hne2; have z6 := cell_kept HQ.out y6 hne1 hne2; have z7 := cell_kept HQ.out y7 hne1 hne2
  clear hHeld
  refine hK.out _ _ ?_ (fun hHeld => ?_)
  · ((try dsimp only); (refine ⟨?_, ?_, ?_, ?_, ?_, ?_, ?_, ?_⟩ <;> assumption))
  clear hK K
  refine wpAnyH_ready (rs := [17]) (by kernel_rfl) (by simp) ?_
  refine AllReadyH.cons (o := { dst := some 26, op := Go.Op.call { callee := Go.Callee.value (Go.Operand.func 29), args := #[Go.Operand.tmp 23, Go.Operand.tmp 25], argTypes := #[62, 27] }, type := 62, pos := "wire.go:65", after := #[{ on := 14, ground := Go.Ground.data }, { on := 16, ground := Go.Ground.data }, { on := 14, ground := Go.Ground.chain }], guard := none }) rfl (fun K hK => ?_) AllReadyH.nil
  go_simp
  go_at_call 29
  (refine (raw_w HQ.out data A m c (HR.out _ (HB2.out.trans HQ.out.bel)) (by simp [leB_len, shardB]) (by omega)).mono ?_)
  rintro e u5 ⟨rfl, v5, h1⟩
  clear z0 z1 z2 z3 z4 z5 z6 z7 HQ
  have HQ := Lib.hid (show WrTo W2 W.heap.size w1.heap.size _ u5 v5 (reqB n k o s t g l data) by simpa only [reqB, List.append_assoc] using h1)
  clear h1
  have z0 := cell_kept HQ.out y0 hne1 hne2; have z1 := cell_kept HQ.out y1 hne1 hne2; have z2 := cell_kept HQ.out y2 hne1 hne2; have z3 := cell_kept HQ.out y3 hne1 hne2; have z4 := cell_kept HQ.out y4 hne1 hne2; have z5 := cell_kept HQ.out y5 hne1 hne2; have z6 := cell_kept HQ.out y6 hne1 hne2; have z7 := cell_kept HQ.out y7 hne1 hne2
  clear hHeld
  refine hK.out _ _ ?_ (fun hHeld => ?_)
  · ((try dsimp only); (refine ⟨?_, ?_, ?_, ?_, ?_, ?_, ?_, ?_⟩ <;> assumption))
  clear hK K
  refine wpAnyH_ready (rs := [18]) (by kernel_rfl) (by simp) ?_
  refine AllReadyH.cons (o := { dst := some 27, op := Go.Op.call { callee := Go.Callee.value (Go.Operand.func 30), args := #[Go.Operand.tmp 26], argTypes := #[62] }, type := 27, pos := "wire.go:65", after := #[{ on := 17, ground := Go.Ground.data }, { on := 17, ground := Go.Ground.chain }], guard := none }) rfl (fun K hK => ?_) AllReadyH.nil
  go_simp
  go_at_call 30
  (refine (bytes_w HQ.out (by have := HM.out; simp [reqB, leB_len, shardB]; omega)).mono ?_)
  rintro e u6 ⟨A6, m6, c6, hm6, rfl, ho6, h1⟩
  have HZ := Lib.hid (show W.heap.size ≤ u5.heap.size from Nat.le_trans HB2.out.size HQ.out.keep.1)
  clear z0 z1 z2 z3 z4 z5 z6 z7 HQ
  have HQ := Lib.hid h1
  have HO6 := Lib.hid ho6
  have HM6 := Lib.hid hm6
  clear h1 ho6 hm6
  have z0 := cell_kept HQ.out y0 hne1 hne2; have z1 := cell_kept HQ.out y1 hne1 hne2; have z2 := cell_kept HQ.out y2 hne1 hne2; have z3 := cell_kept HQ.out y3 hne1 hne2; have z4 := cell_kept HQ.out y4 hne1 hne2; have z5 := cell_kept HQ.out y5 hne1 hne2; have z6 := cell_kept HQ.out y6 hne1 hne2; have z7 := cell_kept HQ.out y7 hne1 hne2
  clear hHeld
  refine hK.out _ _ ?_ (fun hHeld => ?_)
  · ((try dsimp only); (refine ⟨?_, ?_, ?_, ?_, ?_, ?_, ?_, ?_⟩ <;> assumption))
  clear hK K
  refine wpAnyH_take (i := 19) (oi := { dst := some 2, op := Go.Op.assign (Go.Operand.tmp 27), type := 27, pos := "wire.go:65", after := #[{ on := 18, ground := Go.Ground.data }, { on := 18, ground := Go.Ground.chain }, { on := 0, ground := Go.Ground.phase }, { on := 1, ground := Go.Ground.phase }, { on := 2, ground := Go.Ground.phase }, { on := 3, ground := Go.Ground.phase }, { on := 4, ground := Go.Ground.phase }, { on := 5, ground := Go.Ground.phase }, { on := 6, ground := Go.Ground.phase }, { on := 7, ground := Go.Ground.phase }, { on := 8, ground := Go.Ground.phase }, { on := 9, ground := Go.Ground.phase }, { on := 10, ground := Go.Ground.phase }, { on := 11, ground := Go.Ground.phase }, { on := 12, ground := Go.Ground.phase }, { on := 13, ground := Go.Ground.phase }, { on := 14, ground := Go.Ground.phase }, { on := 15, ground := Go.Ground.phase }, { on := 16, ground := Go.Ground.phase }, { on := 17, ground := Go.Ground.phase }, { on := 18, ground := Go.Ground.phase }], guard := none }) (v := ?_) rfl (by kernel_rfl) (by kernel_rfl) (by kernel_rfl) (fun _ _ _ h => h) (Or.inl ⟨by rfl, ?_⟩) (by assumption) ?_
  rotate_left 1
  · (intro w hSw; (try dsimp only at hSw); go_simp; try with_reducible rfl)
  try simp only [Act.put, List.setIfInBounds_toArray, List.set_cons_zero, List.set_cons_succ]
  refine wpAnyH_done (by kernel_rfl) ?_ _
  refine NoPanic.normal ?_
  go_wp2
  go_ret
  exact ⟨A6, m6, c6, HM6.out, rfl, own_less HO6.out HZ.out, HB2.out.trans HQ.out.bel⟩
set_option maxRecDepth 100000 in
theorem awake_calls (w : World) : Calls Try.prog 5 #[] w fun e w' => e = .returned (.bool true) ∧ Below w.heap.size w w' := by
  have RB := Lib.hid (req_bytes 0 1 0 0 0 0 0 none 0 0 [] w w (Below.refl _ _) (Kd.C_nil _ _) rfl (by decide) (by decide) (by decide) (by decide) (by decide) (by decide) (by decide) (by decide) (by decide) (by decide))
  go_enter Try.func5, Try.ntmps5
  go_wp2_with (go_at_call 14; (refine RB.out.mono ?_); rintro e w1 ⟨A1, m1, c1, hm, rfl, _, hb⟩; obtain rfl : m1 = 23 := hm.trans (by simp [reqB, leB_len, shardB]); have HB := Lib.hid hb; clear hb hm)
  go_ret
  exact ⟨by simp, HB.out⟩
end Go.Proofs.Ytckcnanklekchaa.Pack
