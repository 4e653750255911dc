/- Replies: the reference's bytes, and the program's. -/
import Derived.Test.YtckcnanklekchaaProg
import Derived.Below
import Derived.Deep.Draws
import Derived.Deep.AppendLies
import Derived.Maps.AppendAt
import Derived.OwnWalk
import Derived.Laws.BytesArg
import Derived.Laws.MakeOwn
import Derived.Laws.OwnMore
import Derived.Deep.OwnRows
import Derived.Tactics
import Derived.Lib.ConvBytes
import Derived.Laws.Slices
import Derived.WalkKit
import Derived.KernelRfl
import Derived.RowKit3
import Derived.Deep.LoopGhost
import Derived.Deep.QuietTactic
import Derived.BigQuiet
import Derived.WideLaws
import Derived.Deep.DeepCutAuto
import Derived.Deep.CutBlock
import Derived.Deep.RegionHeld3
import Derived.Laws.Rows
import Derived.Lib.AppendStr
import Derived.ArgAppend
import Derived.Laws.IdiomCopy
import Derived.OrdersHeld
import Derived.Laws.BitsLemmas
import Derived.RowKit
import Derived.Lib.Hide
import Derived.WalkSpells
import Derived.StillTailTactics
import Derived.Outline
import Derived.OrdersHeld
import Derived.Deep.RegionHeld3
import Derived.Test.YtckcnanklekchaaPWireRepliesx1
import Derived.Test.YtckcnanklekchaaBWireRequestsLWireRequests
namespace Go.Proofs.Ytckcnanklekchaa.Rep
open Go Go.RowKit Go.Proofs.Ytckcnanklekchaa.PWireReplies Go.Proofs.Ytckcnanklekchaa.Mem Go.Proofs.Ytckcnanklekchaa.Bits Go.Proofs.YtckcnanklekchaaW.PrintWords Go.Proofs.YtckcnanklekchaaW.PrintLast
open Go.Proofs.Ytckcnanklekchaa.Pack
set_option linter.unusedVariables false

theorem tdiv_nat (n : Nat) : Int.tdiv (n : Int) 256 = ((n / 256 : Nat) : Int) := by rw [Int.tdiv_eq_ediv_of_nonneg (by omega)]; omega
theorem tmod_nat (n : Nat) : Int.tmod (n : Int) 256 % 256 = ((n % 256 : Nat) : Int) := by rw [Int.tmod_eq_emod_of_nonneg (by omega)]; omega
theorem num_loop (size : Int) (c : Nat) (hc : (size ≤ 8 ∧ size = c) ∨ (8 < size ∧ c = 8) ∨ (size < 0 ∧ c = 0)) (d : Nat) : ∀ (i n : Nat) (out : List Int), i + d = c → n < U64 → out.length ≤ 100 + i → ∀ k, d < k →
    coldframeref01_Num.l0 k n size out i = some (out ++ leB n d) := by
  induction d with
  | zero =>
    intro i n out hi hn ho k hk
    obtain ⟨k, rfl⟩ : ∃ m, k = m + 1 := ⟨k - 1, by omega⟩
    simp only [coldframeref01_Num.l0]
    by_cases h : (i : Int) < size
    · rw [if_pos h, if_neg (by omega)]; simp [leB]
    · rw [if_neg h]; simp [leB]
  | succ d ih =>
    intro i n out hi hn ho k hk
    obtain ⟨k, rfl⟩ : ∃ m, k = m + 1 := ⟨k - 1, by omega⟩
    simp only [coldframeref01_Num.l0]
    have hw : IntKind.u64.wrap (Int.tdiv (n : Int) 256) = ((n / 256 : Nat) : Int) := by
      rw [tdiv_nat]; exact wraps_u64 _ (by omega) (by unfold U64 at hn; omega)
    rw [if_pos (by omega), if_pos (by omega), if_pos (by omega), hw, tmod_nat, wrap64_in _ (by omega) (by omega), show ((i : Int) + 1) = ((i + 1 : Nat) : Int) by omega,
      ih (i + 1) (n / 256) _ (by omega) (by unfold U64 at *; omega) (by simp; omega) k (by omega), leB, List.append_assoc, List.singleton_append]
theorem refnum_f (n : Nat) (size : Int) (k : Nat) (hk : 8 < k) (hn : n < U64) : coldframeref01_Num.f k n size = some (leB n (cnt size)) := by
  have h := num_loop size (cnt size) (by unfold cnt; omega) (cnt size) 0 n [] (by omega) hn (by simp) k (by unfold cnt; omega)
  simpa [coldframeref01_Num.f] using h
theorem R_form_reads {w : World} {base : Nat} {ok : Nat → Prop} {v : Value} {xs : List Int} (h : Kd.R (Kd.int .u8) 5 w base ok v xs) (m : Nat) (hm : xs.length = m) : ∃ A c, v = .slice A m c ∧ m ≤ c ∧ ReadsInt w .u8 A m xs := by
  obtain ⟨A, c, rfl, hl, hc⟩ := Kd.R_reads h
  subst hm
  exact ⟨A, c, rfl, hl, Kd.reads_of_C (d := (0 : Int)) hc⟩
theorem refnum_calls (n : Nat) (size : Int) (W : World) (hn : n < U64) : Calls Try.prog 32 #[.int .u64 n, .int .i64 size] W fun e w' => ∃ A c, e = .returned (.slice A (cnt size) c) ∧ ReadsInt w' .u8 A (cnt size) (leB n (cnt size)) ∧ Below W.heap.size W w' := by
  refine (coldframeref01_Num.calls 9 n size _ W (refnum_f n size 9 (by omega) hn)).mono ?_
  rintro e w' ⟨v, rfl, hr, hb⟩
  obtain ⟨A, c, rfl, _, hr⟩ := R_form_reads hr (cnt size) (leB_len _ _)
  exact ⟨A, c, rfl, hr, hb⟩
theorem join_loop (l : List (List Int)) (hl : l.length ≤ 10) (hb : ∀ x ∈ l, x.length ≤ 10000) (d : Nat) : ∀ (i : Nat) (out : List Int), i + d = l.length → out.length ≤ 100000 * i → ∀ k, d < k →
    coldframeref01_Join.l0 k l out i = some (out ++ (l.drop i).flatten) := by
  induction d with
  | zero =>
    intro i out hi ho k hk
    obtain ⟨k, rfl⟩ : ∃ m, k = m + 1 := ⟨k - 1, by omega⟩
    simp only [coldframeref01_Join.l0]
    rw [if_neg (by omega), List.drop_of_length_le (by omega)]; simp
  | succ d ih =>
    intro i out hi ho k hk
    obtain ⟨k, rfl⟩ : ∃ m, k = m + 1 := ⟨k - 1, by omega⟩
    simp only [coldframeref01_Join.l0]
    have hil : i < l.length := by omega
    have he : rd_L1 l (i : Int) = l[i] := by unfold rd_L1; simp [List.getD_eq_getElem?_getD, hil]
    have hbl := hb l[i] (List.getElem_mem _)
    rw [if_pos (by omega), if_pos (by omega), he, if_pos (by omega), wrap64_in _ (by omega) (by omega), show ((i : Int) + 1) = ((i + 1 : Nat) : Int) by omega,
      ih (i + 1) _ (by omega) (by simp; omega) k (by omega), List.append_assoc]
    congr 2
    rw [List.drop_eq_getElem_cons hil, List.flatten_cons]
theorem join_f (l : List (List Int)) (hl : l.length ≤ 10) (hb : ∀ x ∈ l, x.length ≤ 10000) (k : Nat) (hk : 10 < k) : coldframeref01_Join.f k l = some l.flatten := by
  have h := join_loop l hl hb l.length 0 [] (by omega) (by simp) k (by omega)
  simpa [coldframeref01_Join.f] using h
theorem u64_nat (n : Nat) (h : n < U64) : IntKind.u64.wrap (n : Int) = (n : Int) := wraps_u64 _ (by omega) (by unfold U64 at h; omega)
theorem refrep_f (n e : Nat) (data : List Int) (hn : n < 18446744073709551616) (he : e < 256) (hd : data.length ≤ 10000) :
    coldframeref15_ReplyBytes.f 20 n e data = some (leB n 8 ++ (leB e 1 ++ data)) := by
  unfold coldframeref15_ReplyBytes.f
  rw [refnum_f n 8 20 (by decide) (by unfold U64; omega), bnd, u64_nat e (by unfold U64; omega), refnum_f e 1 20 (by decide) (by unfold U64; omega), bnd,
    join_f _ (by simp) (fun x hx => by simp at hx; rcases hx with rfl | rfl | rfl <;> first | omega | (rw [leB_len]; decide)) 20 (by decide), bnd]
  rw [show cnt 1 = 1 from rfl, show cnt 8 = 8 from rfl]
  simp
theorem refrep_any (n e : Nat) (A : Option Addr) (m c : Nat) (data : List Int) (w0 W : World) (hB0 : Below w0.heap.size w0 W) (hr : (Kd.int .u8).C w0 A m data) (hm : m = data.length) (hc : m ≤ c)
    (hn : n < 18446744073709551616) (he : e < 256) (hml : m ≤ 10000) :
    Calls Try.prog 19 #[.agg #[.int .u64 n, .int .i64 e, .slice A m c]] W fun x w' => ∃ A1 m1 c1, m1 = (leB n 8 ++ (leB e 1 ++ data)).length ∧ x = .returned (.slice A1 m1 c1) ∧ ReadsInt w' .u8 A1 m1 (leB n 8 ++ (leB e 1 ++ data)) ∧ Below W.heap.size W w' := by
  subst hm
  refine (coldframeref15_ReplyBytes.calls 20 n e (fun k => k < w0.heap.size) A c data _ W (Kd.V_mk hc (Pack.F_of_C hB0 hr)) (refrep_f n e data hn he hml)).mono ?_
  rintro e w' ⟨v, rfl, hr, hb⟩
  obtain ⟨A1, c1, rfl, _, hr⟩ := R_form_reads hr _ rfl
  exact ⟨A1, _, c1, rfl, rfl, hr, hb⟩
def st3 (W : World) (g : Nat) (v0 v1 v2 : Value) : World := ((W.setCell ⟨g, 0, none⟩ v0).setCell ⟨g, 1, none⟩ v1).setCell ⟨g, 2, none⟩ v2
section
variable {w W : World} {g : Nat} {t : TypeId} {a0 a1 a2 v0 v1 v2 : Value}
theorem st3_blk (h : Blk W g t #[a0, a1, a2]) : Blk (st3 W g v0 v1 v2) g t #[v0, v1, v2] := by
  have := ((h.set_ 0 v0).set_ 1 v1).set_ 2 v2
  simpa [st3] using this
theorem st3_below {B : Nat} (h : Below B w W) (hB : B ≤ g) : Below B w (st3 W g v0 v1 v2) :=
  ((h.setCell (p := ⟨g, 0, none⟩) hB _).setCell (p := ⟨g, 1, none⟩) hB _).setCell (p := ⟨g, 2, none⟩) hB _
theorem st3_own {base n : Nat} {e : TypeId} {size : Nat} {v : Value} {xs : List Value} (h : W.ownsRow base e size v n xs) (hne : some g ≠ v.ownBlock) : (st3 W g v0 v1 v2).ownsRow base e size v n xs :=
  own_setCell (own_setCell (own_setCell h (p := ⟨g, 0, none⟩) hne _) (p := ⟨g, 1, none⟩) hne _) (p := ⟨g, 2, none⟩) hne _
theorem blk3 (h : Blk W g t #[a0, a1, a2]) : (W.cell? ⟨g, 0, none⟩ = some a0 ∧ W.cell? ⟨g, 1, none⟩ = some a1 ∧ W.cell? ⟨g, 2, none⟩ = some a2) ∧ (W.frozen? ⟨g, 0, none⟩ = false ∧ W.frozen? ⟨g, 1, none⟩ = false ∧ W.frozen? ⟨g, 2, none⟩ = false) :=
  ⟨⟨(h.cell 0).trans rfl, (h.cell 1).trans rfl, (h.cell 2).trans rfl⟩, h.frozen 0, h.frozen 1, h.frozen 2⟩
end
set_option maxRecDepth 100000 in
set_option maxHeartbeats 1000000 in
theorem rep_bytes (n e : Nat) (A : Option Addr) (m c : Nat) (data : List Int) (w0 W : World) (hB0 : Below w0.heap.size w0 W) (hr : (Kd.int .u8).C w0 A m data) (hm : m = data.length) (hc : m ≤ c)
    (hn : n < 18446744073709551616) (he : e < 256) (hml : m ≤ 800000) :
    Calls Try.prog 18 #[.agg #[.int .u64 n, .int .i64 e, .slice A m c]] W fun x w' => ∃ A1 m1 c1, m1 = (leB n 8 ++ (leB e 1 ++ data)).length ∧ x = .returned (.slice A1 m1 c1) ∧ w'.ownsRow W.heap.size 5 1 (.slice A1 m1 c1) m1 (nums .u8 (leB n 8 ++ (leB e 1 ++ data))) ∧ Below W.heap.size W w' := by
  obtain ⟨W1, hW1⟩ : ∃ W1, W1 = W.alloc (.cells #[.int .u64 n, .int .i64 e, .slice A m c] 47) := ⟨_, rfl⟩
  have hA : Below W.heap.size W W1 := by rw [hW1]; exact (Below.refl _ _).alloc (Nat.le_refl _) _
  have hblk : Blk W1 W.heap.size 47 #[.int .u64 n, .int .i64 e, .slice A m c] := by rw [hW1]; exact Blk.new _ _ _
  have HR := Lib.hid (fun (W' : World) (hW : Below W.heap.size W W') => Kd.reads_of_C (d := (0 : Int)) (Kd.C_below hr (hB0.trans (hW.mono hB0.size))))
  have HW1 := Lib.hid hW1
  have HM := Lib.hid hm
  have e1 : IntKind.u64.wrap (e : Int) = (e : Int) := u64_nat e (by unfold U64; omega)
  have hV := wr_new W1 W.heap.size hA.size
  have hA2 : Below W1.heap.size W1 (W1.alloc (.cells #[.slice none 0 0] 64)) := (Below.refl _ _).alloc (Nat.le_refl _) _
  have HB2 := Lib.hid (hA.trans (hA2.mono hA.size))
  obtain ⟨⟨y0, y1, y2⟩, _⟩ := blk3 (Blk.below hblk hA2 (Blk.lt hblk))
  have HV := Lib.hid hV.to.drew
  obtain ⟨R0, hR0⟩ : ∃ R0, R0 = W.heap.size := ⟨_, rfl⟩
  obtain ⟨G0, hG0⟩ : ∃ G0, G0 = W1.heap.size := ⟨_, rfl⟩
  have hne1 : R0 ≠ G0 := by rw [hR0, hG0]; exact Nat.ne_of_lt (Blk.lt hblk)
  have hne2 : some R0 ≠ (Value.slice none 0 0).ownBlock := by simp [Value.ownBlock]
  have hz : G0 = W.heap.size + 1 := by rw [hG0, hW1]; simp
  obtain ⟨W2, hW2⟩ : ∃ W2, W2 = W1.alloc (.cells #[.slice none 0 0] 64) := ⟨_, rfl⟩
  rw [← hW2] at HB2 y0 y1 y2 HV
  rw [← hR0] at y0 y1 y2
  rw [← hG0] at HV
  have HR0 := Lib.hid hR0
  have HG0 := Lib.hid hz
  have HW2 := Lib.hid (show W2 = (W.alloc (.cells #[.int .u64 n, .int .i64 e, .slice A m c] 47)).alloc (.cells #[.slice none 0 0] 64) by rw [hW2, hW1])
  clear hr hm hc hA hblk hW1 hB0 hR0 hG0 hV hA2 hW2 hz
  go_enter Try.func18, Try.ntmps18
  go_upto_region 2 with (fail)
  rw [← HW2.out, ← HG0.out, ← HR0.out]
  refine wp_region_noPanic ?_
  refine wp_region_held_drew (S := (fun W => W.cell? ⟨R0, 0, none⟩ = some (.int .u64 n) ∧ W.cell? ⟨R0, 1, none⟩ = some (.int .i64 e) ∧ W.cell? ⟨R0, 2, none⟩ = some (.slice A m c))) (by kernel_rfl) ?_ (fun hHeld => ?_)
  · ((try dsimp only); (refine ⟨?_, ?_, ?_⟩ <;> assumption))
  refine wpAnyH_take (i := 0) (oi := { dst := some 6, op := Go.Op.move (Go.Operand.tmp 3), type := 62, pos := "wire.go:81", after := #[], guard := none }) (v := ?_) rfl (by kernel_rfl) (by kernel_rfl) (by kernel_rfl) (fun _ _ _ h => h) (Or.inl ⟨by rfl, ?_⟩) (by assumption) ?_
  rotate_left 1
  · (intro w hSw; (try dsimp only at hSw); go_simp; try with_reducible rfl)
  try simp only [Act.put, List.setIfInBounds_toArray, List.set_cons_zero, List.set_cons_succ]
  refine wpAnyH_take (i := 1) (oi := { dst := some 7, op := Go.Op.fieldAddr 47 (Go.Operand.tmp 1) 0, type := 0, pos := "wire.go:81", after := #[], guard := none }) (v := ?_) rfl (by kernel_rfl) (by kernel_rfl) (by kernel_rfl) (fun _ _ _ h => h) (Or.inl ⟨by rfl, ?_⟩) (by assumption) ?_
  rotate_left 1
  · (intro w hSw; (try dsimp only at hSw); go_simp; try with_reducible rfl)
  try simp only [Act.put, List.setIfInBounds_toArray, List.set_cons_zero, List.set_cons_succ]
  refine wpAnyH_take (i := 2) (oi := { dst := some 8, op := Go.Op.load 22 (Go.Operand.tmp 7), type := 22, pos := "wire.go:81", after := #[{ on := 1, ground := Go.Ground.data }], guard := none }) (v := ?_) rfl (by kernel_rfl) (by kernel_rfl) (by kernel_rfl) (fun _ _ _ h => h) (Or.inl ⟨by rfl, ?_⟩) (by assumption) ?_
  rotate_left 1
  · (intro w hSw; (try dsimp only at hSw); go_simp; try with_reducible rfl)
  try simp only [Act.put, List.setIfInBounds_toArray, List.set_cons_zero, List.set_cons_succ]
  refine wpAnyH_take (i := 4) (oi := { dst := some 10, op := Go.Op.fieldAddr 47 (Go.Operand.tmp 1) 1, type := 0, pos := "wire.go:81", after := #[], guard := none }) (v := ?_) rfl (by kernel_rfl) (by kernel_rfl) (by kernel_rfl) (fun _ _ _ h => h) (Or.inl ⟨by rfl, ?_⟩) (by assumption) ?_
  rotate_left 1
  · (intro w hSw; (try dsimp only at hSw); go_simp; try with_reducible rfl)
  try simp only [Act.put, List.setIfInBounds_toArray, List.set_cons_zero, List.set_cons_succ]
  refine wpAnyH_take (i := 5) (oi := { dst := some 11, op := Go.Op.load 32 (Go.Operand.tmp 10), type := 32, pos := "wire.go:81", after := #[{ on := 4, ground := Go.Ground.data }], guard := none }) (v := ?_) rfl (by kernel_rfl) (by kernel_rfl) (by kernel_rfl) (fun _ _ _ h => h) (Or.inl ⟨by rfl, ?_⟩) (by assumption) ?_
  rotate_left 1
  · (intro w hSw; (try dsimp only at hSw); go_simp; try with_reducible rfl)
  try simp only [Act.put, List.setIfInBounds_toArray, List.set_cons_zero, List.set_cons_succ]
  refine wpAnyH_take (i := 6) (oi := { dst := some 12, op := Go.Op.convert 32 22 (Go.Operand.tmp 11), type := 22, pos := "wire.go:81", after := #[{ on := 5, ground := Go.Ground.data }], guard := none }) (v := ?_) rfl (by kernel_rfl) (by kernel_rfl) (by kernel_rfl) (fun _ _ _ h => h) (Or.inl ⟨by rfl, ?_⟩) (by assumption) ?_
  rotate_left 1
  · (intro w hSw; (try dsimp only at hSw); go_simp; try with_reducible rfl)
  try simp only [Act.put, List.setIfInBounds_toArray, List.set_cons_zero, List.set_cons_succ]
  refine wpAnyH_take (i := 8) (oi := { dst := some 14, op := Go.Op.fieldAddr 47 (Go.Operand.tmp 1) 2, type := 0, pos := "wire.go:81", after := #[], guard := none }) (v := ?_) rfl (by kernel_rfl) (by kernel_rfl) (by kernel_rfl) (fun _ _ _ h => h) (Or.inl ⟨by rfl, ?_⟩) (by assumption) ?_
  rotate_left 1
  · (intro w hSw; (try dsimp only at hSw); go_simp; try with_reducible rfl)
  try simp only [Act.put, List.setIfInBounds_toArray, List.set_cons_zero, List.set_cons_succ]
  refine wpAnyH_take (i := 9) (oi := { dst := some 15, op := Go.Op.load 27 (Go.Operand.tmp 14), type := 27, pos := "wire.go:81", after := #[{ on := 8, ground := Go.Ground.data }], guard := none }) (v := ?_) rfl (by kernel_rfl) (by kernel_rfl) (by kernel_rfl) (fun _ _ _ h => h) (Or.inl ⟨by rfl, ?_⟩) (by assumption) ?_
  rotate_left 1
  · (intro w hSw; (try dsimp only at hSw); go_simp; try with_reducible rfl)
  try simp only [Act.put, List.setIfInBounds_toArray, List.set_cons_zero, List.set_cons_succ]
  refine wpAnyH_ready (rs := [3]) (by kernel_rfl) (by simp) ?_
  refine AllReadyH.cons (o := { dst := some 9, op := Go.Op.call { callee := Go.Callee.value (Go.Operand.func 27), args := #[Go.Operand.tmp 6, Go.Operand.tmp 8, Go.Operand.const (Go.Value.int Go.IntKind.i64 8)], argTypes := #[62, 22, 3] }, type := 62, pos := "wire.go:81", after := #[{ on := 0, ground := Go.Ground.data }, { on := 2, ground := Go.Ground.data }], guard := none }) rfl (fun K hK => ?_) AllReadyH.nil
  go_simp
  go_at_call 27
  (refine (num_w HV.out n 8 (by unfold U64; omega) (by simp) 8 rfl).mono ?_)
  rintro x u1 ⟨rfl, v1, h1⟩
  have HQ := Lib.hid (show WrTo W2 W.heap.size G0 _ u1 v1 (leB n 8) from h1)
  clear h1
  have z0 := cell_kept HQ.out y0 hne1 hne2; have z1 := cell_kept HQ.out y1 hne1 hne2; have z2 := cell_kept HQ.out y2 hne1 hne2
  clear hHeld
  refine hK.out _ _ ?_ (fun hHeld => ?_)
  · ((try dsimp only); (refine ⟨?_, ?_, ?_⟩ <;> assumption))
  clear hK K
  refine wpAnyH_ready (rs := [7]) (by kernel_rfl) (by simp) ?_
  refine AllReadyH.cons (o := { dst := some 13, op := Go.Op.call { callee := Go.Callee.value (Go.Operand.func 27), args := #[Go.Operand.tmp 9, Go.Operand.tmp 12, Go.Operand.const (Go.Value.int Go.IntKind.i64 1)], argTypes := #[62, 22, 3] }, type := 62, pos := "wire.go:81", after := #[{ on := 3, ground := Go.Ground.data }, { on := 6, ground := Go.Ground.data }, { on := 3, ground := Go.Ground.chain }], guard := none }) rfl (fun K hK => ?_) AllReadyH.nil
  go_simp
  go_at_call 27
  (refine (num_w HQ.out e 1 (by unfold U64; omega) (by simp [leB_len]) 1 rfl).mono ?_)
  rintro x u2 ⟨rfl, v2, h1⟩
  clear z0 z1 z2 HQ
  have HQ := Lib.hid h1
  clear h1
  have z0 := cell_kept HQ.out y0 hne1 hne2; have z1 := cell_kept HQ.out y1 hne1 hne2; have z2 := cell_kept HQ.out y2 hne1 hne2
  clear hHeld
  refine hK.out _ _ ?_ (fun hHeld => ?_)
  · ((try dsimp only); (refine ⟨?_, ?_, ?_⟩ <;> assumption))
  clear hK K
  refine wpAnyH_ready (rs := [10]) (by kernel_rfl) (by simp) ?_
  refine AllReadyH.cons (o := { dst := some 16, op := Go.Op.call { callee := Go.Callee.value (Go.Operand.func 29), args := #[Go.Operand.tmp 13, Go.Operand.tmp 15], argTypes := #[62, 27] }, type := 62, pos := "wire.go:81", after := #[{ on := 7, ground := Go.Ground.data }, { on := 9, ground := Go.Ground.data }, { on := 7, ground := Go.Ground.chain }], guard := none }) rfl (fun K hK => ?_) AllReadyH.nil
  go_simp
  go_at_call 29
  (refine (raw_w HQ.out data A m c (HR.out _ (HB2.out.trans HQ.out.bel)) (by simp [leB_len]) (by omega)).mono ?_)
  rintro x u5 ⟨rfl, v5, h1⟩
  clear z0 z1 z2 HQ
  have HQ := Lib.hid (show WrTo W2 W.heap.size G0 _ u5 v5 (leB n 8 ++ (leB e 1 ++ data)) by simpa only [List.append_assoc] using h1)
  clear h1
  have z0 := cell_kept HQ.out y0 hne1 hne2; have z1 := cell_kept HQ.out y1 hne1 hne2; have z2 := cell_kept HQ.out y2 hne1 hne2
  clear hHeld
  refine hK.out _ _ ?_ (fun hHeld => ?_)
  · ((try dsimp only); (refine ⟨?_, ?_, ?_⟩ <;> assumption))
  clear hK K
  refine wpAnyH_ready (rs := [11]) (by kernel_rfl) (by simp) ?_
  refine AllReadyH.cons (o := { dst := some 17, op := Go.Op.call { callee := Go.Callee.value (Go.Operand.func 30), args := #[Go.Operand.tmp 16], argTypes := #[62] }, type := 27, pos := "wire.go:81", after := #[{ on := 10, ground := Go.Ground.data }, { on := 10, ground := Go.Ground.chain }], guard := none }) rfl (fun K hK => ?_) AllReadyH.nil
  go_simp
  go_at_call 30
  (refine (bytes_w HQ.out (by have := HM.out; simp [leB_len]; omega)).mono ?_)
  rintro x u6 ⟨A6, m6, c6, hm6, rfl, ho6, h1⟩
  have HZ := Lib.hid (show W.heap.size ≤ u5.heap.size from Nat.le_trans HB2.out.size HQ.out.keep.1)
  clear z0 z1 z2 HQ
  have HQ := Lib.hid h1
  have HO6 := Lib.hid ho6
  have HM6 := Lib.hid hm6
  clear h1 ho6 hm6
  have z0 := cell_kept HQ.out y0 hne1 hne2; have z1 := cell_kept HQ.out y1 hne1 hne2; have z2 := cell_kept HQ.out y2 hne1 hne2
  clear hHeld
  refine hK.out _ _ ?_ (fun hHeld => ?_)
  · ((try dsimp only); (refine ⟨?_, ?_, ?_⟩ <;> assumption))
  clear hK K
  refine wpAnyH_take (i := 12) (oi := { dst := some 2, op := Go.Op.assign (Go.Operand.tmp 17), type := 27, pos := "wire.go:81", after := #[{ on := 11, ground := Go.Ground.data }, { on := 11, ground := Go.Ground.chain }, { on := 0, ground := Go.Ground.phase }, { on := 1, ground := Go.Ground.phase }, { on := 2, ground := Go.Ground.phase }, { on := 3, ground := Go.Ground.phase }, { on := 4, ground := Go.Ground.phase }, { on := 5, ground := Go.Ground.phase }, { on := 6, ground := Go.Ground.phase }, { on := 7, ground := Go.Ground.phase }, { on := 8, ground := Go.Ground.phase }, { on := 9, ground := Go.Ground.phase }, { on := 10, ground := Go.Ground.phase }, { on := 11, ground := Go.Ground.phase }], guard := none }) (v := ?_) rfl (by kernel_rfl) (by kernel_rfl) (by kernel_rfl) (fun _ _ _ h => h) (Or.inl ⟨by rfl, ?_⟩) (by assumption) ?_
  rotate_left 1
  · (intro w hSw; (try dsimp only at hSw); go_simp; try with_reducible rfl)
  try simp only [Act.put, List.setIfInBounds_toArray, List.set_cons_zero, List.set_cons_succ]
  refine wpAnyH_done (by kernel_rfl) ?_ _
  refine NoPanic.normal ?_
  go_wp2
  go_ret
  exact ⟨A6, m6, c6, HM6.out, rfl, own_less HO6.out HZ.out, HB2.out.trans HQ.out.bel⟩
end Go.Proofs.Ytckcnanklekchaa.Rep
