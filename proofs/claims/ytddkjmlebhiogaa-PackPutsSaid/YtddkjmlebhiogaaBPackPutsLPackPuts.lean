/- The statement PackPuts, walked. -/
import Derived.Test.YtddkjmlebhiogaaProg
import Derived.Below
import Derived.Deep.Draws
import Derived.Deep.AppendLies
import Derived.Maps.AppendAt
import Derived.OwnWalk
import Derived.Laws.BytesArg
import Derived.Laws.MakeOwn
import Derived.Laws.OwnMore
import Derived.Deep.OwnRows
import Derived.Tactics
import Derived.Lib.ConvBytes
import Derived.Laws.Slices
import Derived.WalkKit
import Derived.KernelRfl
import Derived.RowKit3
import Derived.Deep.LoopGhost
import Derived.Deep.QuietTactic
import Derived.BigQuiet
import Derived.WideLaws
import Derived.Deep.DeepCutAuto
import Derived.Deep.CutBlock
import Derived.Deep.RegionHeld3
import Derived.Laws.Rows
import Derived.Lib.AppendStr
import Derived.ArgAppend
import Derived.Laws.IdiomCopy
import Derived.OrdersHeld
import Derived.Laws.BitsLemmas
import Derived.RowKit
import Derived.Lib.Hide
import Derived.WalkSpells
import Derived.StillTailTactics
import Derived.Outline
import Derived.Test.YtddkjmlebhiogaaBPackPutsPackP
import Derived.Test.YtddkjmlebhiogaaBPackPutsPackR
import Derived.Lib.Builder
namespace Go.Proofs.Ytddkjmlebhiogaa.Pack
open Go Go.RowKit Go.Proofs.Ytddkjmlebhiogaa.PPackPuts Go.Proofs.Ytddkjmlebhiogaa.Mem Go.Proofs.Ytddkjmlebhiogaa.Bits Go.Proofs.YtddkjmlebhiogaaW.PrintWords Go.Proofs.YtddkjmlebhiogaaW.PrintLast
set_option linter.unusedVariables false

/-- Numbers of their kinds. -/
def WfAct (x : Act) : Prop := (0 ≤ x.f1 ∧ x.f1 < 18446744073709551616) ∧ (0 ≤ x.f4.f0 ∧ x.f4.f0 < 4294967296) ∧ (0 ≤ x.f4.f1 ∧ x.f4.f1 < 65536) ∧ (0 ≤ x.f4.f2 ∧ x.f4.f2 < 65536) ∧ (0 ≤ x.f4.f3 ∧ x.f4.f3 < 4294967296)
theorem below_drew' {w w' : World} (h : Below w.drew.heap.size w.drew w') : Below w.heap.size w w' := ⟨h.os, h.tape, h.output, h.size, h.block⟩
theorem num_q (base g : Nat) (v : Value) (xs : List Int) (n : Nat) (size : Int) (q : Nat) (w : World) (hq : q = cnt size) (h : Wr w base g v xs) (hn : n < U64) (hl : xs.length ≤ 1000000) :
    Calls Try.prog 12 #[.pointer (some ⟨g, 0, none⟩), .int .u64 n, .int .i64 size] w (WrPost base g v (xs ++ leB n q) w) := by subst hq; exact num_any base g v xs n size w h hn hl
theorem refnum_q (n : Nat) (size : Int) (q : Nat) (W : World) (hq : q = cnt size) (hn : n < U64) : Calls Try.prog 13 #[.int .u64 n, .int .i64 size] W fun e w' => ∃ A c, e = .returned (.slice A q c) ∧ ReadsInt w' .u8 A q (leB n q) ∧ Below W.heap.size W w' := by subst hq; exact refnum_calls n size W hn
theorem ptr_same (W : World) (a : Addr) : (binOp .neq 25 (.pointer (some a)) (.pointer (some a))).run Try.prog W = .ok (.bool false) W := by
  obtain ⟨i0, hi, _⟩ := Option.map_eq_some_iff.1 (show (Try.prog.info? 28).map (·.size) = some 1 by kernel_rfl)
  exact Lib.run_neq_ptr_same W a Try.underlying25 hi
set_option maxRecDepth 100000 in
set_option maxHeartbeats 1000000 in
theorem puts_heavy (A : Option Addr) (c : Nat) (l : List Act) (w : World) (hL : Calls Try.prog 5 #[.slice A l.length c] w fun e w' => e = .returned (.bool false) ∧ Below w.heap.size w w') :
    Calls Try.prog 3 #[.slice A l.length c] w fun e w' => e = .returned (.bool true) ∧ Below w.heap.size w w' := by
  have HB := Lib.hid (Below.refl w.heap.size w)
  have HL := Lib.hid hL
  clear hL
  go_enter Try.func3, Try.ntmps3
  go_wp2_with (first
    | (go_at_call 5; (with_reducible refine HL.out.mono ?_); rintro e w1 ⟨rfl, hb⟩; have HBn := Lib.hid (HB.out.trans (hb.mono HB.out.size)); clear HB hb; have HB := HBn; clear HBn)
    | (go_at_call 6; (with_reducible refine (awake_calls _).mono ?_); rintro e w1 ⟨rfl, hb⟩; have HBn := Lib.hid (HB.out.trans (hb.mono HB.out.size)); clear HB hb; have HB := HBn; clear HBn))
  go_ret
  exact ⟨rfl, HB.out⟩
set_option maxRecDepth 100000 in
set_option maxHeartbeats 2000000 in
theorem puts_good (A : Option Addr) (c : Nat) (l : List Act) (w : World) (hR : Kd.C kAct w A l.length l) (hl : Light l) (hwf : ∀ j : Nat, j < l.length → WfAct (rdA l j)) (hL : Calls Try.prog 5 #[.slice A l.length c] w fun e w' => e = .returned (.bool true) ∧ Below w.heap.size w w') :
    Calls Try.prog 3 #[.slice A l.length c] w fun e w' => e = .returned (.bool true) ∧ Below w.heap.size w w' := by
  have HB := Lib.hid (Below.refl w.heap.size w)
  have HL := Lib.hid hL
  have HR := Lib.hid hR
  have HF := Lib.hid hwf
  have HS := Lib.hid hl
  have hn40 := hl.1
  obtain ⟨n, hn⟩ : ∃ n, n = l.length := ⟨_, rfl⟩
  have HN := Lib.hid hn
  rw [← hn] at HL hn40 ⊢
  clear hL hR hwf hl hn
  go_enter Try.func3, Try.ntmps3
  go_upto_region 6 with (first
    | (go_at_call 5; (with_reducible refine HL.out.mono ?_); rintro e w1 ⟨rfl, hb⟩; have HV := Lib.hid (wr_new w1 w.heap.size hb.size); have HBn := Lib.hid ((HB.out.trans (hb.mono HB.out.size)).alloc hb.size (.cells #[.slice none 0 0] 28)); have HG := Lib.hid (show w.heap.size ≤ w1.heap.size from hb.size); clear HB hb; have HB := HBn; clear HBn)
    | (go_at_call 6; (with_reducible refine (awake_calls _).mono ?_); rintro e w1 ⟨rfl, hb⟩; have HBn := Lib.hid (HB.out.trans (hb.mono HB.out.size)); clear HB hb; have HB := HBn; clear HBn))
  go_loopw [4, 5, 6, 7] (fun rv i _ _ wr => ∃ (k : Nat) (v : Value) (xs : List Int), k ≤ n ∧ i = .int .i64 k ∧ Hid (St w wr w1.heap.size v xs rv xs) ∧ Hid (xs.length ≤ 10000 * k)) (fun _ i _ _ _ => n - (intOf i).toNat)
  case atStart => exact ⟨0, _, [], by omega, rfl, Lib.hid ⟨HV.out, own_nil _ _ _ _, ne_nil _, HB.out⟩, Lib.hid (by simp)⟩
  case round =>
    obtain ⟨k, v, xs, hk, rfl, KS, KL⟩ := hrel
    clear HV HB HL
    by_cases hlt : k < n
    · have hq0 : (k : Int) < (n : Int) := by omega
      obtain ⟨ad, A3, q3, rfl, e0, e1, e2, e3, e4, e5, e6, e7, hc3, hr3⟩ := at_T35 HR.out (k : Int) (by omega) (by rw [← HN.out]; exact hq0)
      replace e0 := pw_cell_below KS.out.bel e0
      replace e1 := pw_cell_below KS.out.bel e1
      replace e2 := pw_cell_below KS.out.bel e2
      replace e3 := pw_cell_below KS.out.bel e3
      replace e4 := pw_cell_below KS.out.bel e4
      replace e5 := pw_cell_below KS.out.bel e5
      replace e6 := pw_cell_below KS.out.bel e6
      replace e7 := pw_cell_below KS.out.bel e7
      simp only [Int.toNat_natCast] at e0 e1 e2 e3 e4 e5 e6 e7
      have hw := HF.out k (by rw [← HN.out]; exact hlt)
      have hl4 := HS.out.2 k (by rw [← HN.out]; exact hlt)
      obtain ⟨x, hx⟩ : ∃ x, x = rd_T35 l (k : Int) := ⟨_, rfl⟩
      change WfAct (rd_T35 l (k : Int)) at hw
      change (rd_T35 l (k : Int)).f3.length ≤ 4000 at hl4
      rw [← hx] at e0 e1 e2 e3 e4 e5 e6 e7 hc3 hr3 hw hl4
      obtain ⟨x0, x1, x2, ys, ⟨s0, s1, s2, s3⟩⟩ := x
      obtain ⟨⟨w10, w11⟩, ⟨w20, w21⟩, ⟨w30, w31⟩, ⟨w40, w41⟩, w50, w51⟩ := hw
      obtain ⟨x1, rfl⟩ := Int.eq_ofNat_of_zero_le w10
      obtain ⟨s0, rfl⟩ := Int.eq_ofNat_of_zero_le w20
      obtain ⟨s1, rfl⟩ := Int.eq_ofNat_of_zero_le w30
      obtain ⟨s2, rfl⟩ := Int.eq_ofNat_of_zero_le w40
      obtain ⟨s3, rfl⟩ := Int.eq_ofNat_of_zero_le w50
      obtain ⟨m, hm⟩ : ∃ m, m = ys.length := ⟨_, rfl⟩
      simp only at e0 e1 e2 e3 e4 e5 e6 e7 hc3 hr3 hl4
      rw [← hm] at e3 hc3 hl4
      simp only at w11 w21 w31 w41 w51
      have HY := Lib.hid hr3
      have HM := Lib.hid hm
      clear hx hr3 hm w10 w20 w30 w40 w50
      go_upto_region 9 with (fail)
      clear e0 e1 e2 e3 e4 e5 e6 e7
      have HSW := Lib.hid (KS.out.alloc (.cells #[.int .i64 x0, .int .u64 x1, .int .i64 x2, .slice A3 m q3, .int .u32 s0, .int .u16 s1, .int .u16 s2, .int .u32 s3] 35))
      have HBK := Lib.hid (Blk.new wr 35 #[.int .i64 x0, .int .u64 x1, .int .i64 x2, .slice A3 m q3, .int .u32 s0, .int .u16 s1, .int .u16 s2, .int .u32 s3])
      obtain ⟨W, hW⟩ : ∃ W, W = wr.alloc (.cells #[.int .i64 x0, .int .u64 x1, .int .i64 x2, .slice A3 m q3, .int .u32 s0, .int .u16 s1, .int .u16 s2, .int .u32 s3] 35) := ⟨_, rfl⟩
      rw [← hW] at HSW HBK ⊢
      obtain ⟨b, hb⟩ : ∃ b, b = wr.heap.size := ⟨_, rfl⟩
      rw [← hb] at HBK ⊢
      have HLen : Hid (xs.length ≤ 900000 - 100000) := Lib.hid (by have := KL.out; omega)
      have HM4 := Lib.hid (show m ≤ 4000 from hl4)
      clear hW hb KS
      have c0 : W.cell? ⟨b, 0, none⟩ = some (.int .i64 x0) := (HBK.out.cell 0).trans rfl
      go_upto_block 2 with (fail)
      go_cut [4, 7] (fun v4 v7 wc => v7 = .pointer (some ⟨w1.heap.size, 0, none⟩) ∧ ∃ v2 zs, Hid (St w wc w1.heap.size v2 zs v4 zs) ∧ Hid (zs.length ≤ 10000 * (k + 1)))
      case first =>
        by_cases k1 : x0 = 1
        · subst k1
          have c3 : W.cell? ⟨b, 3, none⟩ = some (.slice A3 m q3) := (HBK.out.cell 3).trans rfl
          go_wp2_with (first
            | (go_at_call 7; (refine (raw_any w.heap.size w1.heap.size v xs ys A3 m _ W HSW.out.wr (by rw [HM.out]; exact Kd.reads_of_C (d := (0 : Int)) (Kd.C_below HY.out HSW.out.bel)) (Nat.le_trans HLen.out (by decide)) (Nat.le_trans HM4.out (by decide))).mono ?_); rintro e w2 ⟨rfl, v2, h2⟩; have HS2 := Lib.hid (HSW.out.write h2); have c3' := ((HSW.out.blk h2 HBK.out (by decide) (by decide)).cell 3).trans rfl; clear h2)
            | (at_builtin; refine print_append_row (w0 := w) (k := .u8) w.heap.size rfl _ _ 26 5 1 rfl Try.underlying26 info_u8 (by decide) _ xs ys A3 m q3 rfl rfl HS2.out.own (by rw [HM.out]; exact Kd.reads_of_C (d := (0 : Int)) (Kd.C_below HY.out HS2.out.bel)) HS2.out.bel HS2.out.bel.size (by have := HLen.out; have := HM4.out; omega) ?_; intro v3 w3 h1 h2 h3 h4; have HS3 := Lib.hid (HS2.out.append h1 h2 h3 h4); clear h1 h2 h3 h4))
          go_meet
          case rel => exact ⟨rfl, v2, _, HS3, Lib.hid (by have := KL.out; have := HM4.out; have := HM.out; rw [List.length_append]; omega)⟩
        · have n1 : (x0 == 1) = false := beq_eq_false_iff_ne.2 k1
          by_cases k2 : x0 = 2
          · subst k2
            have c3 : W.cell? ⟨b, 3, none⟩ = some (.slice A3 m q3) := (HBK.out.cell 3).trans rfl
            go_wp2_with (first
              | (go_at_call 8; (refine (text_any w.heap.size w1.heap.size v xs ys A3 m _ W HSW.out.wr (fun W' hW' => by rw [HM.out]; exact Kd.reads_of_C (d := (0 : Int)) (Kd.C_below HY.out (HSW.out.bel.trans hW'))) (Nat.le_trans HLen.out (by decide)) (Nat.le_trans HM4.out (by decide))).mono ?_); rintro e w2 ⟨rfl, v2, h2⟩; have HS2 := Lib.hid (HSW.out.write h2); have c3' := ((HSW.out.blk h2 HBK.out (by decide) (by decide)).cell 3).trans rfl; clear h2)
              | (go_at_call 9; (refine (reftext_calls A3 m q3 ys w _ HS2.out.bel (by rw [HM.out]; exact HY.out) HM.out hc3 (Nat.le_trans HM4.out (by decide))).mono ?_); rintro e w5 ⟨A8, c8, rfl, hr8, hb8⟩; have HR8 := Lib.hid hr8; have HS5 := Lib.hid (HS2.out.next hb8); clear hr8 hb8)
              | (at_builtin; refine print_append_row (w0 := w) (k := .u8) w.heap.size rfl _ _ 26 5 1 rfl Try.underlying26 info_u8 (by decide) _ xs (leB m 2 ++ ys) A8 (m + 2) c8 rfl rfl HS5.out.own HR8.out HS5.out.bel HS5.out.bel.size (by have := HLen.out; have := HM4.out; omega) ?_; intro v3 w3 h1 h2 h3 h4; have HS3 := Lib.hid (HS5.out.append h1 h2 h3 h4); clear h1 h2 h3 h4))
            go_meet
            case rel => exact ⟨rfl, v2, _, HS3, Lib.hid (by have := KL.out; have := HM4.out; have := HM.out; rw [List.length_append, List.length_append, leB_len]; omega)⟩
          · have n2 : (x0 == 2) = false := beq_eq_false_iff_ne.2 k2
            by_cases k3 : x0 = 3
            · subst k3
              have c4 : W.cell? ⟨b, 4, none⟩ = some (.int .u32 s0) := (HBK.out.cell 4).trans rfl
              have c5 : W.cell? ⟨b, 5, none⟩ = some (.int .u16 s1) := (HBK.out.cell 5).trans rfl
              have c6 : W.cell? ⟨b, 6, none⟩ = some (.int .u16 s2) := (HBK.out.cell 6).trans rfl
              have c7 : W.cell? ⟨b, 7, none⟩ = some (.int .u32 s3) := (HBK.out.cell 7).trans rfl
              go_wp2_with (first
                | (go_at_call 10; (refine (shard_any w.heap.size w1.heap.size v xs s0 s1 s2 s3 W HSW.out.wr (by omega) (by omega) (by omega) (by omega) (Nat.le_trans HLen.out (by decide))).mono ?_); rintro e w2 ⟨rfl, v2, h2⟩; have HS2 := Lib.hid (HSW.out.write h2); have c4' := ((HSW.out.blk h2 HBK.out (by decide) (by decide)).cell 4).trans rfl; have c5' := ((HSW.out.blk h2 HBK.out (by decide) (by decide)).cell 5).trans rfl; have c6' := ((HSW.out.blk h2 HBK.out (by decide) (by decide)).cell 6).trans rfl; have c7' := ((HSW.out.blk h2 HBK.out (by decide) (by decide)).cell 7).trans rfl; clear h2)
                | (go_at_call 11; (refine (refshard_calls s0 s1 s2 s3 _ (by omega) (by omega) (by omega) (by omega)).mono ?_); rintro e w5 ⟨A8, c8, rfl, hr8, hb8⟩; have HR8 := Lib.hid hr8; have HS5 := Lib.hid (HS2.out.next hb8); clear hr8 hb8)
                | (at_builtin; refine print_append_row (w0 := w) (k := .u8) w.heap.size rfl _ _ 26 5 1 rfl Try.underlying26 info_u8 (by decide) _ xs (shardB s0 s1 s2 s3) A8 12 c8 rfl rfl HS5.out.own HR8.out HS5.out.bel HS5.out.bel.size (by have := HLen.out; omega) ?_; intro v3 w3 h1 h2 h3 h4; have HS3 := Lib.hid (HS5.out.append h1 h2 h3 h4); clear h1 h2 h3 h4))
              go_meet
              case rel => exact ⟨rfl, v2, _, HS3, Lib.hid (by have := KL.out; rw [List.length_append, shardB_len]; omega)⟩
            · have n3 : (x0 == 3) = false := beq_eq_false_iff_ne.2 k3
              have c1 : W.cell? ⟨b, 1, none⟩ = some (.int .u64 x1) := (HBK.out.cell 1).trans rfl
              have c2 : W.cell? ⟨b, 2, none⟩ = some (.int .i64 x2) := (HBK.out.cell 2).trans rfl
              obtain ⟨q, hq⟩ : ∃ q, q = cnt x2 := ⟨_, rfl⟩
              have hq8 : q ≤ 8 := by rw [hq]; unfold cnt; omega
              have HQ := Lib.hid hq
              have HQ8 := Lib.hid hq8
              clear hq hq8
              by_cases k4 : 0 ≤ x2
              all_goals
                go_wp2_with (first
                  | (go_at_call 12; (refine (num_q w.heap.size w1.heap.size v xs x1 x2 q W HQ.out HSW.out.wr (by unfold U64; omega) (Nat.le_trans HLen.out (by decide))).mono ?_); rintro e w2 ⟨rfl, v2, h2⟩; have HS2 := Lib.hid (HSW.out.write h2); have c1' := ((HSW.out.blk h2 HBK.out (by decide) (by decide)).cell 1).trans rfl; have c2' := ((HSW.out.blk h2 HBK.out (by decide) (by decide)).cell 2).trans rfl; clear h2)
                  | (go_at_call 13; (refine (refnum_q x1 _ q _ (by have := HQ.out; unfold cnt at *; omega) (by unfold U64; omega)).mono ?_); rintro e w5 ⟨A8, c8, rfl, hr8, hb8⟩; have HR8 := Lib.hid hr8; have HS5 := Lib.hid (HS2.out.next hb8); clear hr8 hb8)
                  | (at_builtin; refine print_append_row (w0 := w) (k := .u8) w.heap.size rfl _ _ 26 5 1 rfl Try.underlying26 info_u8 (by decide) _ xs (leB x1 q) A8 q c8 rfl rfl HS5.out.own HR8.out HS5.out.bel HS5.out.bel.size (by have := HLen.out; have := HQ8.out; omega) ?_; intro v3 w3 h1 h2 h3 h4; have HS3 := Lib.hid (HS5.out.append h1 h2 h3 h4); clear h1 h2 h3 h4))
                go_meet
                case rel => exact ⟨rfl, v2, _, HS3, Lib.hid (by have := KL.out; have := HQ8.out; rw [List.length_append, leB_len]; omega)⟩
      case rest =>
        obtain ⟨rfl, v2, zs, HS3, HLF⟩ := hcut
        obtain ⟨w3, hw3⟩ : ∃ W, W = wc := ⟨_, rfl⟩
        rw [← hw3] at HS3 ⊢
        clear hw3
        have hnp := fun (W : World) (a : Addr) => ptr_same W a
        obtain ⟨A5, n5, c5, rfl, hk5⟩ := HS3.out.str
        have k5 := hk5 _ (Below.refl _ _)
        have k5d := hk5 _ (below_drew (Below.refl _ _))
        have HK5 := Lib.hid hk5
        have HSD := Lib.hid (HS3.out.next (below_drew (Below.refl _ _)))
        have HZL := Lib.hid (show zs.length ≤ 1000000 by have := HLF.out; omega)
        clear hk5
        go_upto_region 22 with (fail)
        go_cut [83] (fun v wc => v = .bool false ∧ Hid (St w wc w1.heap.size v2 zs (.slice A5 n5 c5) zs))
        case first =>
          go_region_with (go_at_call 14; (refine (bytes_any w.heap.size w1.heap.size v2 zs _ (by first | exact HS3.out.wr | exact HSD.out.wr) HZL.out).mono ?_); rintro e w4 ⟨A6, c6, rfl, ho, hb⟩; have k6 := str_own ho; have k7 := HK5.out w4 (by first | exact hb | exact below_drew' hb); have HB4 := Lib.hid (show Below w3.heap.size w3 w4 by first | exact hb | exact below_drew' hb); clear ho hb)
          all_goals
            go_wp2
            go_meet
            case rel => exact ⟨by simp, Lib.hid (HS3.out.next HB4.out)⟩
        case rest =>
          obtain ⟨rfl, HSE⟩ := hcut
          go_wp2
          go_roundw
          case rel => exact ⟨k + 1, _, zs, by omega, by go_num, HSE, HLF⟩
          case measure => simp [intOf]; omega
    · go_wp2_with (go_at_call 6; (with_reducible refine (awake_calls _).mono ?_); rintro e w2 ⟨rfl, hb⟩; have KB2 := Lib.hid (KS.out.bel.trans (hb.mono KS.out.bel.size)))
      go_ret
      exact ⟨rfl, KB2.out⟩
end Go.Proofs.Ytddkjmlebhiogaa.Pack
