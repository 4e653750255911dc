/- Replies: the reference's parse. -/
import Derived.Test.YtckcnanklekchaaProg
import Derived.Below
import Derived.Deep.Draws
import Derived.Deep.AppendLies
import Derived.Maps.AppendAt
import Derived.OwnWalk
import Derived.Laws.BytesArg
import Derived.Laws.MakeOwn
import Derived.Laws.OwnMore
import Derived.Deep.OwnRows
import Derived.Tactics
import Derived.Lib.ConvBytes
import Derived.Laws.Slices
import Derived.WalkKit
import Derived.KernelRfl
import Derived.RowKit3
import Derived.Deep.LoopGhost
import Derived.Deep.QuietTactic
import Derived.BigQuiet
import Derived.WideLaws
import Derived.Deep.DeepCutAuto
import Derived.Deep.CutBlock
import Derived.Deep.RegionHeld3
import Derived.Laws.Rows
import Derived.Lib.AppendStr
import Derived.ArgAppend
import Derived.Laws.IdiomCopy
import Derived.OrdersHeld
import Derived.Laws.BitsLemmas
import Derived.RowKit
import Derived.Lib.Hide
import Derived.WalkSpells
import Derived.StillTailTactics
import Derived.Outline
import Derived.OrdersHeld
import Derived.Deep.RegionHeld3
import Derived.Test.YtckcnanklekchaaBWireRepliesRep2
namespace Go.Proofs.Ytckcnanklekchaa.Rep
open Go Go.RowKit Go.Proofs.Ytckcnanklekchaa.Mem Go.Proofs.Ytckcnanklekchaa.Bits Go.Proofs.YtckcnanklekchaaW.PrintWords Go.Proofs.YtckcnanklekchaaW.PrintLast
open Go.Proofs.Ytckcnanklekchaa.Pack
set_option linter.unusedVariables false

set_option maxRecDepth 100000 in
set_option maxHeartbeats 2000000 in
theorem refrparse_any (A : Option Addr) (c : Nat) (b : List Int) (W : World) (hr : (Kd.int .u8).C W A b.length b) (hc : b.length ≤ c) (hl : b.length ≤ 900000) (hb : AllB b) :
    Calls Try.prog 17 #[.slice A b.length c] W (RParse b (.bool true) (.bool false) W) := by
  obtain ⟨W1, hW1⟩ : ∃ W1, W1 = W.alloc (.cells #[.int .u64 0, .int .i64 0, .slice none 0 0] 45) := ⟨_, rfl⟩
  have hb1 : Below W.heap.size W W1 := by rw [hW1]; exact (Below.refl _ _).alloc (Nat.le_refl _) _
  have hblk : Blk W1 W.heap.size 45 #[.int .u64 0, .int .i64 0, .slice none 0 0] := by rw [hW1]; exact Blk.new _ _ _
  obtain ⟨R0, hR0⟩ : ∃ R0, R0 = W.heap.size := ⟨_, rfl⟩
  rw [← hR0] at hblk
  have HB1 := Lib.hid hb1
  have HBK := Lib.hid hblk
  have HW1 := Lib.hid hW1
  have HR0 := Lib.hid hR0
  have hrd := Kd.reads_of_C (d := (0 : Int)) hr
  obtain ⟨N, hN⟩ : ∃ N, N = b.length := ⟨_, rfl⟩
  have HN := Lib.hid hN
  obtain ⟨⟨z0, z1, z2⟩, f0, f1, f2⟩ := blk3 hblk
  by_cases h9 : 9 ≤ b.length
  · obtain ⟨ad, had, hcell⟩ := hrd.2.2 (by omega)
    have hc8 := hcell 8 (by omega)
    obtain ⟨e, he, he256⟩ : ∃ e : Nat, rd b 8 = (e : Int) ∧ e < 256 := by
      have := hb (rd b 8) (rd_mem b 8 (by omega))
      exact ⟨(rd b 8).toNat, by omega, by omega⟩
    have hE : rE b = e := by
      unfold rE
      rw [List.drop_eq_getElem_cons (by omega : 8 < b.length)]
      have : b[8] = (e : Int) := by rw [← he]; simp [rd, List.getD_eq_getElem?_getD, show 8 < b.length by omega]
      simp [leN, this]
    have hcv : W.cell? (ad.add 8) = some (.int .u8 e) := by
      rw [hc8, ← he]; first | rfl | simp [rd, List.getD_eq_getElem?_getD, show 8 < b.length by omega]
    obtain ⟨i0, hi, hz⟩ := Option.map_eq_some_iff.1 info_u8
    simp only [Prod.mk.injEq] at hz
    have k1 := cut_to (P := Try.prog) 27 5 .i64 Try.underlying27 hi A N c 8 (by decide) (by omega) (by omega)
    have k2 := cut_from (P := Try.prog) 27 5 .i64 Try.underlying27 hi 1 hz.2.1 A N c 9 (by decide) (by omega)
    simp only [Nat.mul_one, show (8 : Int).toNat = 8 from rfl, show (9 : Int).toNat = 9 from rfl] at k1 k2
    obtain ⟨A', hA'⟩ : ∃ A', A' = if c = 9 then A else A.map (·.add 9) := ⟨_, rfl⟩
    rw [← hA'] at k2
    have hr8 : ReadsInt W .u8 A 8 (b.take 8) := hrd.take_ 8 (by omega)
    have hr9 : ReadsInt W .u8 A' (b.length - 9) (b.drop 9) := by rw [hA']; exact hrd.drop_ 9 (by omega) hc
    obtain ⟨n, hn⟩ : ∃ n, n = rN b := ⟨_, rfl⟩
    have HOF := Lib.hid (fun W' (hB : Below W.heap.size W W') => of_calls A 8 c (b.take 8) W' (hr8.below hB) (by omega) (fun x hx => hb x (List.mem_of_mem_take hx)) (by omega) n hn.symm)
    have HCELL := Lib.hid (fun W' (hB : Below W.heap.size W W') => show W'.cell? ⟨ad.block, ad.off + 8, none⟩ = some (.int .u8 e) from pw_cell_below hB hcv)
    have HE := Lib.hid hE
    have HR9 := Lib.hid hr9
    have H9 := Lib.hid h9
    have HNN := Lib.hid hn
    have HC := Lib.hid hc
    have cv1 := HCELL.out W1 hb1
    subst had
    have i1 : decide ((N : Int) < 9) = false := by simp; omega
    have i2 : ¬ (N : Int) < 9 := by omega
    have i3 : (8 : Int) < (N : Int) := by omega
    have i4 : 8 < N := by omega
    have w1 : IntKind.i64.wrap (e : Int) = (e : Int) := wraps_i64 _ (by omega) (by omega)
    have HB9 := Lib.hid (show Below W.heap.size W W1.drew from hb1.drew)
    have HD1 := Lib.hid (show Below W1.heap.size W1 W1.drew from (Below.refl _ _).drew)
    rw [← hN]
    by_cases he0 : e = 0
    · have HE0 := Lib.hid he0
      have j1 : ((e : Int) != 0) = false := by simp [he0]
      clear he0 hW1 hb1 hblk hR0 hrd hcell hc8 he he256 hE hcv hi hz hA' hr8 hr9 hn h9 hc hl hb hr hN
      go_enter Try.func17, Try.ntmps17
      go_upto_region 1 with (fail)
      rw [← HW1.out, ← HR0.out]
      go_upto_region 3 with (fail)
      refine wp_region_noPanic ?_
      refine wp_region_held_drew (S := (fun W' => W'.cell? ⟨ad.block, ad.off + 8, none⟩ = some (.int .u8 e))) (by kernel_rfl) ?_ (fun hHeld => ?_)
      · ((try dsimp only); exact HCELL.out _ HB9.out)
      refine wpAnyH_take (i := 0) (oi := { dst := some 19, op := Go.Op.move (Go.Operand.tmp 0), type := 27, pos := "ref.go:77", after := #[], guard := none }) (v := ?_) rfl (by kernel_rfl) (by kernel_rfl) (by kernel_rfl) (fun _ _ _ h => h) (Or.inl ⟨by rfl, ?_⟩) (by assumption) ?_
      rotate_left 1
      · (intro w hSw; (try dsimp only at hSw); go_simp; try with_reducible rfl)
      try simp only [Act.put, List.setIfInBounds_toArray, List.set_cons_zero, List.set_cons_succ]
      refine wpAnyH_take (i := 1) (oi := { dst := some 20, op := Go.Op.slice 27 (Go.Operand.tmp 19) none (some (Go.Operand.const (Go.Value.int Go.IntKind.i64 8))) none, type := 27, pos := "ref.go:77", after := #[{ on := 0, ground := Go.Ground.data }], guard := none }) (v := ?_) rfl (by kernel_rfl) (by kernel_rfl) (by kernel_rfl) (fun _ _ _ h => h) (Or.inl ⟨by rfl, ?_⟩) (by assumption) ?_
      rotate_left 1
      · (intro w hSw; (try dsimp only at hSw); go_simp; try with_reducible rfl)
      try simp only [Act.put, List.setIfInBounds_toArray, List.set_cons_zero, List.set_cons_succ]
      refine wpAnyH_take (i := 3) (oi := { dst := some 22, op := Go.Op.move (Go.Operand.tmp 0), type := 27, pos := "ref.go:77", after := #[], guard := none }) (v := ?_) rfl (by kernel_rfl) (by kernel_rfl) (by kernel_rfl) (fun _ _ _ h => h) (Or.inl ⟨by rfl, ?_⟩) (by assumption) ?_
      rotate_left 1
      · (intro w hSw; (try dsimp only at hSw); go_simp; try with_reducible rfl)
      try simp only [Act.put, List.setIfInBounds_toArray, List.set_cons_zero, List.set_cons_succ]
      refine wpAnyH_take (i := 4) (oi := { dst := some 23, op := Go.Op.indexAddr 27 (Go.Operand.tmp 22) (Go.Operand.const (Go.Value.int Go.IntKind.i64 8)), type := 0, pos := "ref.go:77", after := #[{ on := 3, ground := Go.Ground.data }], guard := none }) (v := ?_) rfl (by kernel_rfl) (by kernel_rfl) (by kernel_rfl) (fun _ _ _ h => h) (Or.inl ⟨by rfl, ?_⟩) (by assumption) ?_
      rotate_left 1
      · (intro w hSw; (try dsimp only at hSw); go_simp; try with_reducible rfl)
      try simp only [Act.put, List.setIfInBounds_toArray, List.set_cons_zero, List.set_cons_succ]
      refine wpAnyH_take (i := 5) (oi := { dst := some 24, op := Go.Op.load 5 (Go.Operand.tmp 23), type := 5, pos := "ref.go:77", after := #[{ on := 4, ground := Go.Ground.data }], guard := none }) (v := ?_) rfl (by kernel_rfl) (by kernel_rfl) (by kernel_rfl) (fun _ _ _ h => h) (Or.inl ⟨by rfl, ?_⟩) (by assumption) ?_
      rotate_left 1
      · (intro w hSw; (try dsimp only at hSw); go_simp; try with_reducible rfl)
      try simp only [Act.put, List.setIfInBounds_toArray, List.set_cons_zero, List.set_cons_succ]
      refine wpAnyH_take (i := 6) (oi := { dst := some 25, op := Go.Op.convert 5 3 (Go.Operand.tmp 24), type := 3, pos := "ref.go:77", after := #[{ on := 5, ground := Go.Ground.data }], guard := none }) (v := ?_) rfl (by kernel_rfl) (by kernel_rfl) (by kernel_rfl) (fun _ _ _ h => h) (Or.inl ⟨by rfl, ?_⟩) (by assumption) ?_
      rotate_left 1
      · (intro w hSw; (try dsimp only at hSw); go_simp; try with_reducible rfl)
      try simp only [Act.put, List.setIfInBounds_toArray, List.set_cons_zero, List.set_cons_succ]
      refine wpAnyH_take (i := 7) (oi := { dst := some 26, op := Go.Op.move (Go.Operand.tmp 0), type := 27, pos := "ref.go:77", after := #[], guard := none }) (v := ?_) rfl (by kernel_rfl) (by kernel_rfl) (by kernel_rfl) (fun _ _ _ h => h) (Or.inl ⟨by rfl, ?_⟩) (by assumption) ?_
      rotate_left 1
      · (intro w hSw; (try dsimp only at hSw); go_simp; try with_reducible rfl)
      try simp only [Act.put, List.setIfInBounds_toArray, List.set_cons_zero, List.set_cons_succ]
      refine wpAnyH_take (i := 8) (oi := { dst := some 27, op := Go.Op.slice 27 (Go.Operand.tmp 26) (some (Go.Operand.const (Go.Value.int Go.IntKind.i64 9))) none none, type := 27, pos := "ref.go:77", after := #[{ on := 7, ground := Go.Ground.data }], guard := none }) (v := ?_) rfl (by kernel_rfl) (by kernel_rfl) (by kernel_rfl) (fun _ _ _ h => h) (Or.inl ⟨by rfl, ?_⟩) (by assumption) ?_
      rotate_left 1
      · (intro w hSw; (try dsimp only at hSw); go_simp; try with_reducible rfl)
      try simp only [Act.put, List.setIfInBounds_toArray, List.set_cons_zero, List.set_cons_succ]
      refine wpAnyH_ready (rs := [2]) (by kernel_rfl) (by simp) ?_
      refine AllReadyH.cons (o := { dst := some 21, op := Go.Op.call { callee := Go.Callee.value (Go.Operand.func 34), args := #[Go.Operand.tmp 20], argTypes := #[27] }, type := 22, pos := "ref.go:77", after := #[{ on := 1, ground := Go.Ground.data }], guard := none }) rfl (fun K hK => ?_) AllReadyH.nil
      go_simp
      go_at_call 34
      (refine (HOF.out _ HB9.out).mono ?_); rintro x u1 ⟨rfl, hb⟩
      replace HB9 := Lib.hid (HB9.out.trans (hb.mono HB9.out.size))
      have HB7 := HB9
      have hbk := Blk.below HBK.out (show Below W1.heap.size W1 u1 from HD1.out.trans (hb.mono HD1.out.size)) (Blk.lt HBK.out)
      have HKU := Lib.hid hbk
      obtain ⟨⟨z0, z1, z2⟩, f0, f1, f2⟩ := blk3 hbk
      clear hb hbk
      clear hHeld
      refine hK.out _ _ ?_ (fun hHeld => ?_)
      · ((try dsimp only); exact HCELL.out _ HB9.out)
      clear hK K
      refine wpAnyH_take (i := 9) (oi := { dst := some 28, op := Go.Op.build 45 #[(0, Go.Operand.tmp 21), (1, Go.Operand.tmp 25), (2, Go.Operand.tmp 27)], type := 45, pos := "ref.go:77", after := #[{ on := 2, ground := Go.Ground.data }, { on := 6, ground := Go.Ground.data }, { on := 8, ground := Go.Ground.data }], guard := none }) (v := ?_) rfl (by kernel_rfl) (by kernel_rfl) (by kernel_rfl) (fun _ _ _ h => h) (Or.inl ⟨by rfl, ?_⟩) (by assumption) ?_
      rotate_left 1
      · (intro w hSw; (try dsimp only at hSw); go_simp; try with_reducible rfl)
      try simp only [Act.put, List.setIfInBounds_toArray, List.set_cons_zero, List.set_cons_succ]
      refine wpAnyH_ready (rs := [10]) (by kernel_rfl) (by simp) ?_
      refine AllReadyH.cons (o := { dst := none, op := Go.Op.store 45 (Go.Operand.tmp 2) (Go.Operand.tmp 28), type := 0, pos := "ref.go:77", after := #[{ on := 9, ground := Go.Ground.data }, { on := 2, ground := Go.Ground.chain }, { on := 0, ground := Go.Ground.phase }, { on := 1, ground := Go.Ground.phase }, { on := 2, ground := Go.Ground.phase }, { on := 3, ground := Go.Ground.phase }, { on := 4, ground := Go.Ground.phase }, { on := 5, ground := Go.Ground.phase }, { on := 6, ground := Go.Ground.phase }, { on := 7, ground := Go.Ground.phase }, { on := 8, ground := Go.Ground.phase }, { on := 9, ground := Go.Ground.phase }], guard := none }) rfl (fun K hK => ?_) AllReadyH.nil
      go_simp
      clear hHeld
      refine hK.out _ _ ?_ (fun hHeld => ?_)
      · ((try dsimp only); exact HCELL.out _ (st3_below (v0 := .int .u64 n) (v1 := .int .i64 e) (v2 := .slice A' (N - 9) (c - 9)) HB9.out (show W.heap.size ≤ R0 from Nat.le_of_eq HR0.out.symm)))
      clear hK K
      refine wpAnyH_take (i := 11) (oi := { dst := some 3, op := Go.Op.assign (Go.Operand.const (Go.Value.bool true)), type := 4, pos := "ref.go:77", after := #[{ on := 10, ground := Go.Ground.chain }, { on := 0, ground := Go.Ground.phase }, { on := 1, ground := Go.Ground.phase }, { on := 2, ground := Go.Ground.phase }, { on := 3, ground := Go.Ground.phase }, { on := 4, ground := Go.Ground.phase }, { on := 5, ground := Go.Ground.phase }, { on := 6, ground := Go.Ground.phase }, { on := 7, ground := Go.Ground.phase }, { on := 8, ground := Go.Ground.phase }, { on := 9, ground := Go.Ground.phase }, { on := 10, ground := Go.Ground.phase }], guard := none }) (v := ?_) rfl (by kernel_rfl) (by kernel_rfl) (by kernel_rfl) (fun _ _ _ h => h) (Or.inl ⟨by rfl, ?_⟩) (by assumption) ?_
      rotate_left 1
      · (intro w hSw; (try dsimp only at hSw); go_simp; try with_reducible rfl)
      try simp only [Act.put, List.setIfInBounds_toArray, List.set_cons_zero, List.set_cons_succ]
      refine wpAnyH_done (by kernel_rfl) ?_ _
      refine NoPanic.normal ?_
      go_wp2
      have hF := st3_blk (v0 := (.int .u64 n)) (v1 := (.int .i64 e)) (v2 := (.slice A' (N - 9) (c - 9))) HKU.out
      have hB8 := st3_below (v0 := (.int .u64 n)) (v1 := (.int .i64 e)) (v2 := (.slice A' (N - 9) (c - 9))) HB7.out (show W.heap.size ≤ R0 from Nat.le_of_eq HR0.out.symm)
      change bodyPost _ _ _ _ _ (st3 u1 R0 (.int .u64 n) (.int .i64 e) (.slice A' (N - 9) (c - 9)))
      generalize st3 u1 R0 (.int .u64 n) (.int .i64 e) (.slice A' (N - 9) (c - 9)) = WF at hF hB8 ⊢
      obtain ⟨⟨g0, g1, g2⟩, _⟩ := blk3 hF
      refine bodyPost_ret (v := .tuple #[.agg #[.int .u64 n, .int .i64 e, .slice A' (N - 9) (c - 9)], .bool true]) (by simp [results, Try.results17, go_sem, g0, g1, g2]) rfl ?_
      refine .inl ⟨A', N - 9, c - 9, ⟨H9.out, .inl (HE.out.trans HE0.out)⟩, by rw [HN.out, List.length_drop], by have := HC.out; have := HN.out; omega, by rw [HE.out, ← HNN.out], ?_, hB8⟩
      exact Kd.C_of_reads (d := (0 : Int)) (by have := HR9.out.below hB8; rw [HN.out]; exact this)
    · have j1 : ((e : Int) != 0) = true := by simp; omega
      have j2 : ¬ (e : Int) = 0 := by omega
      have HE0 := Lib.hid he0
      by_cases hm0 : 9 < N
      · have HM0 := Lib.hid hm0
        have j3 : decide ((N : Int) > 9) = true := by simp; omega
        have j4 : (9 : Int) < (N : Int) := by omega
        clear hW1 hb1 hblk hR0 hrd hcell hc8 he he256 hE hcv hi hz hA' hr8 hr9 hn h9 hc hl hb hr hN he0 hm0
        go_enter Try.func17, Try.ntmps17
        go_upto_region 1 with (fail)
        rw [← HW1.out, ← HR0.out]
        go_wp2
        have hF := st3_blk (v0 := (.int .u64 0)) (v1 := (.int .i64 0)) (v2 := (.slice none 0 0)) HBK.out
        have hB8 := st3_below (v0 := (.int .u64 0)) (v1 := (.int .i64 0)) (v2 := (.slice none 0 0)) HB1.out (show W.heap.size ≤ R0 from Nat.le_of_eq HR0.out.symm)
        change bodyPost _ _ _ _ _ (st3 W1 R0 (.int .u64 0) (.int .i64 0) (.slice none 0 0))
        generalize st3 W1 R0 (.int .u64 0) (.int .i64 0) (.slice none 0 0) = WF at hF hB8 ⊢
        obtain ⟨⟨g0, g1, g2⟩, _⟩ := blk3 hF
        refine bodyPost_ret (v := .tuple #[.agg #[.int .u64 0, .int .i64 0, .slice none 0 0], .bool false]) (by simp [results, Try.results17, go_sem, g0, g1, g2]) rfl ?_
        refine .inr ⟨fun h => ?_, rfl, hB8⟩
        have h1 := h.2
        rw [HE.out, List.length_drop] at h1
        have := HE0.out; have := HM0.out; have := HN.out
        omega
      · have hm1 : N = 9 := by omega
        have HM1 := Lib.hid hm1
        have j3 : decide ((N : Int) > 9) = false := by simp; omega
        have j4 : ¬ (9 : Int) < (N : Int) := by omega
        clear hW1 hb1 hblk hR0 hrd hcell hc8 he he256 hE hcv hi hz hA' hr8 hr9 hn h9 hc hl hb hr hN he0 hm0 hm1
        go_enter Try.func17, Try.ntmps17
        go_upto_region 1 with (fail)
        rw [← HW1.out, ← HR0.out]
        go_upto_region 3 with (fail)
        refine wp_region_noPanic ?_
        refine wp_region_held_drew (S := (fun W' => W'.cell? ⟨ad.block, ad.off + 8, none⟩ = some (.int .u8 e))) (by kernel_rfl) ?_ (fun hHeld => ?_)
        · ((try dsimp only); exact HCELL.out _ HB9.out)
        refine wpAnyH_take (i := 0) (oi := { dst := some 19, op := Go.Op.move (Go.Operand.tmp 0), type := 27, pos := "ref.go:77", after := #[], guard := none }) (v := ?_) rfl (by kernel_rfl) (by kernel_rfl) (by kernel_rfl) (fun _ _ _ h => h) (Or.inl ⟨by rfl, ?_⟩) (by assumption) ?_
        rotate_left 1
        · (intro w hSw; (try dsimp only at hSw); go_simp; try with_reducible rfl)
        try simp only [Act.put, List.setIfInBounds_toArray, List.set_cons_zero, List.set_cons_succ]
        refine wpAnyH_take (i := 1) (oi := { dst := some 20, op := Go.Op.slice 27 (Go.Operand.tmp 19) none (some (Go.Operand.const (Go.Value.int Go.IntKind.i64 8))) none, type := 27, pos := "ref.go:77", after := #[{ on := 0, ground := Go.Ground.data }], guard := none }) (v := ?_) rfl (by kernel_rfl) (by kernel_rfl) (by kernel_rfl) (fun _ _ _ h => h) (Or.inl ⟨by rfl, ?_⟩) (by assumption) ?_
        rotate_left 1
        · (intro w hSw; (try dsimp only at hSw); go_simp; try with_reducible rfl)
        try simp only [Act.put, List.setIfInBounds_toArray, List.set_cons_zero, List.set_cons_succ]
        refine wpAnyH_take (i := 3) (oi := { dst := some 22, op := Go.Op.move (Go.Operand.tmp 0), type := 27, pos := "ref.go:77", after := #[], guard := none }) (v := ?_) rfl (by kernel_rfl) (by kernel_rfl) (by kernel_rfl) (fun _ _ _ h => h) (Or.inl ⟨by rfl, ?_⟩) (by assumption) ?_
        rotate_left 1
        · (intro w hSw; (try dsimp only at hSw); go_simp; try with_reducible rfl)
        try simp only [Act.put, List.setIfInBounds_toArray, List.set_cons_zero, List.set_cons_succ]
        refine wpAnyH_take (i := 4) (oi := { dst := some 23, op := Go.Op.indexAddr 27 (Go.Operand.tmp 22) (Go.Operand.const (Go.Value.int Go.IntKind.i64 8)), type := 0, pos := "ref.go:77", after := #[{ on := 3, ground := Go.Ground.data }], guard := none }) (v := ?_) rfl (by kernel_rfl) (by kernel_rfl) (by kernel_rfl) (fun _ _ _ h => h) (Or.inl ⟨by rfl, ?_⟩) (by assumption) ?_
        rotate_left 1
        · (intro w hSw; (try dsimp only at hSw); go_simp; try with_reducible rfl)
        try simp only [Act.put, List.setIfInBounds_toArray, List.set_cons_zero, List.set_cons_succ]
        refine wpAnyH_take (i := 5) (oi := { dst := some 24, op := Go.Op.load 5 (Go.Operand.tmp 23), type := 5, pos := "ref.go:77", after := #[{ on := 4, ground := Go.Ground.data }], guard := none }) (v := ?_) rfl (by kernel_rfl) (by kernel_rfl) (by kernel_rfl) (fun _ _ _ h => h) (Or.inl ⟨by rfl, ?_⟩) (by assumption) ?_
        rotate_left 1
        · (intro w hSw; (try dsimp only at hSw); go_simp; try with_reducible rfl)
        try simp only [Act.put, List.setIfInBounds_toArray, List.set_cons_zero, List.set_cons_succ]
        refine wpAnyH_take (i := 6) (oi := { dst := some 25, op := Go.Op.convert 5 3 (Go.Operand.tmp 24), type := 3, pos := "ref.go:77", after := #[{ on := 5, ground := Go.Ground.data }], guard := none }) (v := ?_) rfl (by kernel_rfl) (by kernel_rfl) (by kernel_rfl) (fun _ _ _ h => h) (Or.inl ⟨by rfl, ?_⟩) (by assumption) ?_
        rotate_left 1
        · (intro w hSw; (try dsimp only at hSw); go_simp; try with_reducible rfl)
        try simp only [Act.put, List.setIfInBounds_toArray, List.set_cons_zero, List.set_cons_succ]
        refine wpAnyH_take (i := 7) (oi := { dst := some 26, op := Go.Op.move (Go.Operand.tmp 0), type := 27, pos := "ref.go:77", after := #[], guard := none }) (v := ?_) rfl (by kernel_rfl) (by kernel_rfl) (by kernel_rfl) (fun _ _ _ h => h) (Or.inl ⟨by rfl, ?_⟩) (by assumption) ?_
        rotate_left 1
        · (intro w hSw; (try dsimp only at hSw); go_simp; try with_reducible rfl)
        try simp only [Act.put, List.setIfInBounds_toArray, List.set_cons_zero, List.set_cons_succ]
        refine wpAnyH_take (i := 8) (oi := { dst := some 27, op := Go.Op.slice 27 (Go.Operand.tmp 26) (some (Go.Operand.const (Go.Value.int Go.IntKind.i64 9))) none none, type := 27, pos := "ref.go:77", after := #[{ on := 7, ground := Go.Ground.data }], guard := none }) (v := ?_) rfl (by kernel_rfl) (by kernel_rfl) (by kernel_rfl) (fun _ _ _ h => h) (Or.inl ⟨by rfl, ?_⟩) (by assumption) ?_
        rotate_left 1
        · (intro w hSw; (try dsimp only at hSw); go_simp; try with_reducible rfl)
        try simp only [Act.put, List.setIfInBounds_toArray, List.set_cons_zero, List.set_cons_succ]
        refine wpAnyH_ready (rs := [2]) (by kernel_rfl) (by simp) ?_
        refine AllReadyH.cons (o := { dst := some 21, op := Go.Op.call { callee := Go.Callee.value (Go.Operand.func 34), args := #[Go.Operand.tmp 20], argTypes := #[27] }, type := 22, pos := "ref.go:77", after := #[{ on := 1, ground := Go.Ground.data }], guard := none }) rfl (fun K hK => ?_) AllReadyH.nil
        go_simp
        go_at_call 34
        (refine (HOF.out _ HB9.out).mono ?_); rintro x u1 ⟨rfl, hb⟩
        replace HB9 := Lib.hid (HB9.out.trans (hb.mono HB9.out.size))
        have HB7 := HB9
        have hbk := Blk.below HBK.out (show Below W1.heap.size W1 u1 from HD1.out.trans (hb.mono HD1.out.size)) (Blk.lt HBK.out)
        have HKU := Lib.hid hbk
        obtain ⟨⟨z0, z1, z2⟩, f0, f1, f2⟩ := blk3 hbk
        clear hb hbk
        clear hHeld
        refine hK.out _ _ ?_ (fun hHeld => ?_)
        · ((try dsimp only); exact HCELL.out _ HB9.out)
        clear hK K
        refine wpAnyH_take (i := 9) (oi := { dst := some 28, op := Go.Op.build 45 #[(0, Go.Operand.tmp 21), (1, Go.Operand.tmp 25), (2, Go.Operand.tmp 27)], type := 45, pos := "ref.go:77", after := #[{ on := 2, ground := Go.Ground.data }, { on := 6, ground := Go.Ground.data }, { on := 8, ground := Go.Ground.data }], guard := none }) (v := ?_) rfl (by kernel_rfl) (by kernel_rfl) (by kernel_rfl) (fun _ _ _ h => h) (Or.inl ⟨by rfl, ?_⟩) (by assumption) ?_
        rotate_left 1
        · (intro w hSw; (try dsimp only at hSw); go_simp; try with_reducible rfl)
        try simp only [Act.put, List.setIfInBounds_toArray, List.set_cons_zero, List.set_cons_succ]
        refine wpAnyH_ready (rs := [10]) (by kernel_rfl) (by simp) ?_
        refine AllReadyH.cons (o := { dst := none, op := Go.Op.store 45 (Go.Operand.tmp 2) (Go.Operand.tmp 28), type := 0, pos := "ref.go:77", after := #[{ on := 9, ground := Go.Ground.data }, { on := 2, ground := Go.Ground.chain }, { on := 0, ground := Go.Ground.phase }, { on := 1, ground := Go.Ground.phase }, { on := 2, ground := Go.Ground.phase }, { on := 3, ground := Go.Ground.phase }, { on := 4, ground := Go.Ground.phase }, { on := 5, ground := Go.Ground.phase }, { on := 6, ground := Go.Ground.phase }, { on := 7, ground := Go.Ground.phase }, { on := 8, ground := Go.Ground.phase }, { on := 9, ground := Go.Ground.phase }], guard := none }) rfl (fun K hK => ?_) AllReadyH.nil
        go_simp
        clear hHeld
        refine hK.out _ _ ?_ (fun hHeld => ?_)
        · ((try dsimp only); exact HCELL.out _ (st3_below (v0 := .int .u64 n) (v1 := .int .i64 e) (v2 := .slice A' (N - 9) (c - 9)) HB9.out (show W.heap.size ≤ R0 from Nat.le_of_eq HR0.out.symm)))
        clear hK K
        refine wpAnyH_take (i := 11) (oi := { dst := some 3, op := Go.Op.assign (Go.Operand.const (Go.Value.bool true)), type := 4, pos := "ref.go:77", after := #[{ on := 10, ground := Go.Ground.chain }, { on := 0, ground := Go.Ground.phase }, { on := 1, ground := Go.Ground.phase }, { on := 2, ground := Go.Ground.phase }, { on := 3, ground := Go.Ground.phase }, { on := 4, ground := Go.Ground.phase }, { on := 5, ground := Go.Ground.phase }, { on := 6, ground := Go.Ground.phase }, { on := 7, ground := Go.Ground.phase }, { on := 8, ground := Go.Ground.phase }, { on := 9, ground := Go.Ground.phase }, { on := 10, ground := Go.Ground.phase }], guard := none }) (v := ?_) rfl (by kernel_rfl) (by kernel_rfl) (by kernel_rfl) (fun _ _ _ h => h) (Or.inl ⟨by rfl, ?_⟩) (by assumption) ?_
        rotate_left 1
        · (intro w hSw; (try dsimp only at hSw); go_simp; try with_reducible rfl)
        try simp only [Act.put, List.setIfInBounds_toArray, List.set_cons_zero, List.set_cons_succ]
        refine wpAnyH_done (by kernel_rfl) ?_ _
        refine NoPanic.normal ?_
        go_wp2
        have hF := st3_blk (v0 := (.int .u64 n)) (v1 := (.int .i64 e)) (v2 := (.slice A' (N - 9) (c - 9))) HKU.out
        have hB8 := st3_below (v0 := (.int .u64 n)) (v1 := (.int .i64 e)) (v2 := (.slice A' (N - 9) (c - 9))) HB7.out (show W.heap.size ≤ R0 from Nat.le_of_eq HR0.out.symm)
        change bodyPost _ _ _ _ _ (st3 u1 R0 (.int .u64 n) (.int .i64 e) (.slice A' (N - 9) (c - 9)))
        generalize st3 u1 R0 (.int .u64 n) (.int .i64 e) (.slice A' (N - 9) (c - 9)) = WF at hF hB8 ⊢
        obtain ⟨⟨g0, g1, g2⟩, _⟩ := blk3 hF
        refine bodyPost_ret (v := .tuple #[.agg #[.int .u64 n, .int .i64 e, .slice A' (N - 9) (c - 9)], .bool true]) (by simp [results, Try.results17, go_sem, g0, g1, g2]) rfl ?_
        refine .inl ⟨A', N - 9, c - 9, ⟨H9.out, .inr (by rw [List.length_drop]; have := HM1.out; have := HN.out; omega)⟩, by rw [HN.out, List.length_drop], by have := HC.out; have := HN.out; omega, by rw [HE.out, ← HNN.out], ?_, hB8⟩
        exact Kd.C_of_reads (d := (0 : Int)) (by have := HR9.out.below hB8; rw [HN.out]; exact this)
  · have i1 : decide ((N : Int) < 9) = true := by simp; omega
    have i2 : (N : Int) < 9 := by omega
    rw [← hN]
    have H9 := Lib.hid h9
    clear hW1 hb1 hblk hR0 hrd h9 hc hl hb hr hN
    go_enter Try.func17, Try.ntmps17
    go_upto_region 1 with (fail)
    rw [← HW1.out, ← HR0.out]
    go_wp2
    have hF := st3_blk (v0 := (.int .u64 0)) (v1 := (.int .i64 0)) (v2 := (.slice none 0 0)) HBK.out
    have hB8 := st3_below (v0 := (.int .u64 0)) (v1 := (.int .i64 0)) (v2 := (.slice none 0 0)) HB1.out (show W.heap.size ≤ R0 from Nat.le_of_eq HR0.out.symm)
    change bodyPost _ _ _ _ _ (st3 W1 R0 (.int .u64 0) (.int .i64 0) (.slice none 0 0))
    generalize st3 W1 R0 (.int .u64 0) (.int .i64 0) (.slice none 0 0) = WF at hF hB8 ⊢
    obtain ⟨⟨g0, g1, g2⟩, _⟩ := blk3 hF
    refine bodyPost_ret (v := .tuple #[.agg #[.int .u64 0, .int .i64 0, .slice none 0 0], .bool false]) (by simp [results, Try.results17, go_sem, g0, g1, g2]) rfl ?_
    exact .inr ⟨fun h => H9.out h.1, rfl, hB8⟩
end Go.Proofs.Ytckcnanklekchaa.Rep
