/- The statement PackBack, walked. -/
import Derived.Test.YtddkjmlebhiogaaProg
import Derived.Below
import Derived.Deep.Draws
import Derived.Deep.AppendLies
import Derived.Maps.AppendAt
import Derived.OwnWalk
import Derived.Laws.BytesArg
import Derived.Laws.MakeOwn
import Derived.Laws.OwnMore
import Derived.Deep.OwnRows
import Derived.Tactics
import Derived.Lib.ConvBytes
import Derived.Laws.Slices
import Derived.WalkKit
import Derived.KernelRfl
import Derived.RowKit3
import Derived.Deep.LoopGhost
import Derived.Deep.QuietTactic
import Derived.BigQuiet
import Derived.WideLaws
import Derived.Deep.DeepCutAuto
import Derived.Deep.CutBlock
import Derived.Deep.RegionHeld3
import Derived.Laws.Rows
import Derived.Lib.AppendStr
import Derived.ArgAppend
import Derived.Laws.IdiomCopy
import Derived.OrdersHeld
import Derived.Laws.BitsLemmas
import Derived.RowKit
import Derived.Lib.Hide
import Derived.WalkSpells
import Derived.StillTailTactics
import Derived.Outline
import Derived.Test.YtddkjmlebhiogaaBPackBackPackB
namespace Go.Proofs.Ytddkjmlebhiogaa.Pack
open Go Go.RowKit Go.Proofs.Ytddkjmlebhiogaa.PPackBack Go.Proofs.Ytddkjmlebhiogaa.Mem Go.Proofs.Ytddkjmlebhiogaa.Bits Go.Proofs.YtddkjmlebhiogaaW.PrintWords Go.Proofs.YtddkjmlebhiogaaW.PrintLast
set_option linter.unusedVariables false

set_option maxRecDepth 100000 in
set_option maxHeartbeats 1000000 in
theorem back_heavy (A : Option Addr) (c : Nat) (l : List Act) (w : World) (hL : Calls Try.prog 5 #[.slice A l.length c] w fun e w' => e = .returned (.bool false) ∧ Below w.heap.size w w') :
    Calls Try.prog 4 #[.slice A l.length c] w fun e w' => e = .returned (.bool true) ∧ Below w.heap.size w w' := by
  have HB := Lib.hid (Below.refl w.heap.size w)
  have HL := Lib.hid hL
  clear hL
  go_enter Try.func4, Try.ntmps4
  go_wp2_with (first
    | (go_at_call 5; (with_reducible refine HL.out.mono ?_); rintro e w1 ⟨rfl, hb⟩; have HBn := Lib.hid (HB.out.trans (hb.mono HB.out.size)); clear HB hb; have HB := HBn; clear HBn)
    | (go_at_call 6; (with_reducible refine (awake_calls _).mono ?_); rintro e w1 ⟨rfl, hb⟩; have HBn := Lib.hid (HB.out.trans (hb.mono HB.out.size)); clear HB hb; have HB := HBn; clear HBn))
  go_ret
  exact ⟨rfl, HB.out⟩
theorem below_drew' {w w' : World} (h : Below w.drew.heap.size w.drew w') : Below w.heap.size w w' := ⟨h.os, h.tape, h.output, h.size, h.block⟩
/-- The block of a row, or another number. -/
def dOf (A : Option Addr) (n : Nat) : Nat := match A with
  | some ad => ad.block
  | none => n + 1
theorem dOf_some {A : Option Addr} {ad : Addr} (n : Nat) (h : A = some ad) : ad.block = dOf A n := by subst h; rfl
theorem dOf_ne {w : World} {base n c : Nat} {A : Option Addr} {xs : List Value} (h : w.ownsRow base 5 1 (.slice A n c) n xs) : dOf A w.heap.size ≠ w.heap.size := by
  rcases h.2 with ⟨e, _⟩ | ⟨g, cap, cur, e, _, hh, _⟩
  · cases e; simp [dOf]
  · cases e
    have := (Array.getElem?_eq_some_iff.1 hh).1
    simp only [dOf]; omega
/-- The text's bytes, wherever they stand. -/
theorem reads_any {w : World} {A : Option Addr} {m : Nat} {ys : List Int} (h : (Kd.int .u8).C w A m ys) (W : World) (hb : Below w.heap.size w W) : ReadsInt W .u8 A m ys := Kd.reads_of_C (d := (0 : Int)) (Kd.C_below h hb)
set_option maxRecDepth 100000 in
set_option maxHeartbeats 4000000 in
theorem back_good (A : Option Addr) (c : Nat) (l : List Act) (w : World) (hR : Kd.C kAct w A l.length l) (hl : Light l) (hwf : ∀ j : Nat, j < l.length → WfA (rdA l j)) (hL : Calls Try.prog 5 #[.slice A l.length c] w fun e w' => e = .returned (.bool true) ∧ Below w.heap.size w w') :
    Calls Try.prog 4 #[.slice A l.length c] w fun e w' => e = .returned (.bool true) ∧ Below w.heap.size w w' := by
  have HB := Lib.hid (Below.refl w.heap.size w)
  have HL := Lib.hid hL
  have HR := Lib.hid hR
  have HF := Lib.hid hwf
  have HS := Lib.hid hl
  have hn40 := hl.1
  have HTL := Lib.hid (actsB_take_len l hl)
  obtain ⟨n, hn⟩ : ∃ n, n = l.length := ⟨_, rfl⟩
  have HN := Lib.hid hn
  rw [← hn] at HL hn40 ⊢
  clear hL hR hwf hl hn
  go_enter Try.func4, Try.ntmps4
  go_upto_block 0 with (first
    | (go_at_call 5; (with_reducible refine HL.out.mono ?_); rintro e w1 ⟨rfl, hb⟩; have HV := Lib.hid (wr_new w1 w.heap.size hb.size); have HBn := Lib.hid ((HB.out.trans (hb.mono HB.out.size)).alloc hb.size (.cells #[.slice none 0 0] 28)); clear HB hb; have HB := HBn; clear HBn)
    | (go_at_call 6; (with_reducible refine (awake_calls _).mono ?_); rintro e w1 ⟨rfl, hb⟩; have HBn := Lib.hid (HB.out.trans (hb.mono HB.out.size)); clear HB hb; have HB := HBn; clear HBn))
  go_cut [4] (fun _ wc => ∃ v, Hid (Wr wc w.heap.size w1.heap.size v (actsB l)) ∧ Hid (Below w.heap.size w wc))
  case first =>
    as_aux_lemma =>
      go_upto_region 5 with (fail)
      go_loopw [4] (fun i wr => ∃ (k : Nat) (v : Value), k ≤ n ∧ i = .int .i64 k ∧ Hid (Wr wr w.heap.size w1.heap.size v (actsB (l.take k))) ∧ Hid (Below w.heap.size w wr)) (fun i _ => n - (intOf i).toNat)
      case atStart => exact ⟨0, _, by omega, rfl, HV, HB⟩
      case round =>
        obtain ⟨k, v, hk, rfl, KV, KB⟩ := hrel
        clear HV HB
        by_cases hlt : k < n
        · have hq0 : (k : Int) < (n : Int) := by omega
          have hkl : k < l.length := by rw [← HN.out]; exact hlt
          obtain ⟨ad, A3, q3, x1, m, s0, s1, s2, s3, ys, rfl, hcl, hm, hmq, hY, r1, r2, r3, r4, r5, hab, hactB, hmf⟩ := act_at HR.out k hkl (HF.out k hkl)
          have hm4 : m ≤ 4000 := by rw [hmf]; exact HS.out.2 k hkl
          have EC := Lib.hid hcl
          have HY := Lib.hid hY
          have HM := Lib.hid hm
          have HAB := Lib.hid hactB
          obtain ⟨xs, hxs⟩ : ∃ xs, xs = actsB (l.take k) := ⟨_, rfl⟩
          have hxl : xs.length ≤ 400000 := by rw [hxs]; have := HTL.out k (by rw [← HN.out]; exact hk); omega
          have HXL := Lib.hid hxl
          rw [← hxs] at KV
          have HSN := Lib.hid (actsB_snoc l k hkl)
          rw [← hxs] at HSN
          have HV := Lib.hid KV.out.to
          have HBu := KB
          have d1 := (EC.out.below HBu.out).c1; have d3 := (EC.out.below HBu.out).c3; have d4 := (EC.out.below HBu.out).c4; have d5 := (EC.out.below HBu.out).c5; have d6 := (EC.out.below HBu.out).c6; have d7 := (EC.out.below HBu.out).c7
          clear hcl hm hY hactB hmf hxs hab hxl hkl
          go_upto_region 7 with (fail)
          go_region_held3 (fun W => W.cell? ⟨(ad.add (k * 8)).block, (ad.add (k * 8)).off + 1, none⟩ = some (.int .u64 x1) ∧ W.cell? ⟨(ad.add (k * 8)).block, (ad.add (k * 8)).off + 3, none⟩ = some (.slice A3 m q3) ∧ W.cell? ⟨(ad.add (k * 8)).block, (ad.add (k * 8)).off + 4, none⟩ = some (.int .u32 s0) ∧ W.cell? ⟨(ad.add (k * 8)).block, (ad.add (k * 8)).off + 5, none⟩ = some (.int .u16 s1) ∧ W.cell? ⟨(ad.add (k * 8)).block, (ad.add (k * 8)).off + 6, none⟩ = some (.int .u16 s2) ∧ W.cell? ⟨(ad.add (k * 8)).block, (ad.add (k * 8)).off + 7, none⟩ = some (.int .u32 s3)) (go_keep)
            (first
              | (go_at_call 12; (refine (wr_grow (by first | exact HV.out | exact HV.out.drew) _ _ (by unfold U64; omega) HXL.out (by decide)).mono ?_); rintro e u1 ⟨rfl, v1, h1, hl1⟩; have H1 := Lib.hid (show WrTo _ _ _ _ _ _ (xs ++ leB x1 8) from h1); have HL1 := Lib.hid (show (xs ++ leB x1 8).length ≤ 400008 from hl1); have HBu := Lib.hid (KB.out.trans h1.bel); clear h1 hl1; have d1 := (EC.out.below HBu.out).c1; have d3 := (EC.out.below HBu.out).c3; have d4 := (EC.out.below HBu.out).c4; have d5 := (EC.out.below HBu.out).c5; have d6 := (EC.out.below HBu.out).c6; have d7 := (EC.out.below HBu.out).c7)
              | (go_at_call 8; (refine (text_any w.heap.size w1.heap.size _ _ ys A3 m _ _ H1.out.wr (fun W' hW' => by rw [HM.out]; exact reads_any (by rw [← HM.out]; exact HY.out) W' ((KB.out.trans H1.out.bel).trans hW')) (Nat.le_trans HL1.out (by decide)) (by omega)).mono ?_); rintro e u2 ⟨rfl, v2, h2⟩; have H2 := Lib.hid (H1.out.trans h2); have HBu := Lib.hid (KB.out.trans H2.out.bel); have HL2 := Lib.hid (show (xs ++ leB x1 8 ++ (leB m 2 ++ ys)).length ≤ 410000 by have h1 := HL1.out; have h2 := HM.out; simp only [List.length_append, leB_len] at h1 ⊢; omega); clear h2; have d1 := (EC.out.below HBu.out).c1; have d3 := (EC.out.below HBu.out).c3; have d4 := (EC.out.below HBu.out).c4; have d5 := (EC.out.below HBu.out).c5; have d6 := (EC.out.below HBu.out).c6; have d7 := (EC.out.below HBu.out).c7)
              | (go_at_call 10; (refine (shard_any w.heap.size w1.heap.size _ _ s0 s1 s2 s3 _ H2.out.wr (by omega) (by omega) (by omega) (by omega) (Nat.le_trans HL2.out (by decide))).mono ?_); rintro e u3 ⟨rfl, v3, h3⟩; have H3 := Lib.hid (H2.out.trans h3); have HBu := Lib.hid (KB.out.trans H3.out.bel); have HL3 := Lib.hid (show (xs ++ leB x1 8 ++ (leB m 2 ++ ys) ++ shardB s0 s1 s2 s3).length ≤ 420000 by have h1 := HL2.out; simp only [List.length_append, leB_len, shardB] at h1 ⊢; omega); clear h3; have d1 := (EC.out.below HBu.out).c1; have d3 := (EC.out.below HBu.out).c3; have d4 := (EC.out.below HBu.out).c4; have d5 := (EC.out.below HBu.out).c5; have d6 := (EC.out.below HBu.out).c6; have d7 := (EC.out.below HBu.out).c7)
              | (go_at_call 7; (refine (raw_any w.heap.size w1.heap.size _ _ ys A3 m _ _ H3.out.wr (by rw [HM.out]; exact reads_any (by rw [← HM.out]; exact HY.out) _ (KB.out.trans H3.out.bel)) (Nat.le_trans HL3.out (by decide)) (by omega)).mono ?_); rintro e u4 ⟨rfl, v4, h4⟩; have H4 := Lib.hid (H3.out.trans h4); have HBu := Lib.hid (KB.out.trans H4.out.bel); clear h4; have d1 := (EC.out.below HBu.out).c1; have d3 := (EC.out.below HBu.out).c3; have d4 := (EC.out.below HBu.out).c4; have d5 := (EC.out.below HBu.out).c5; have d6 := (EC.out.below HBu.out).c6; have d7 := (EC.out.below HBu.out).c7))
          all_goals
            go_wp2
            go_roundw
            case rel => exact ⟨k + 1, v4, by omega, by go_num, Lib.hid (by rw [HSN.out, HAB.out]; have := H4.out.wr; simpa only [List.append_assoc] using this), HBu⟩
            case measure => simp [intOf]; omega
        · obtain rfl : k = n := by omega
          go_wp2
          go_meet
          case rel => exact ⟨v, by have := KV.out; rw [HN.out, List.take_length] at this; exact Lib.hid this, KB⟩
  case rest =>
    obtain ⟨v, HV, HB⟩ := hcut
    have HLL : Hid ((actsB l).length ≤ 400000) := Lib.hid (by have := HTL.out l.length (Nat.le_refl _); rw [List.take_length] at this; have := HN.out; omega)
    have HAB : Hid (AllB (actsB l)) := Lib.hid (actsB_b l (fun x hx => by
      obtain ⟨j, hj, rfl⟩ := List.getElem_of_mem hx
      have := (HF.out j hj).2.2.2.2.2
      have e : rdA l (j : Int) = l[j] := by unfold rdA rd_T35; simp [List.getD_eq_getElem?_getD, hj]
      rwa [e] at this))
    go_upto_block 2 with (first
      | (go_at_call 14; (refine (bytes_any w.heap.size w1.heap.size v _ _ HV.out (Nat.le_trans HLL.out (by decide))).mono ?_); rintro e w2 ⟨A2, c2, rfl, ho, hb⟩; have HO := Lib.hid ho; have HV2 := Lib.hid (HV.out.below hb); have HB2 := Lib.hid (HB.out.trans (hb.mono HB.out.size)); have HZ := Lib.hid (show wc.heap.size ≤ w2.heap.size from hb.size); clear ho hb)
      | (go_at_call 15; (refine (read_new w.heap.size (dOf A2 w2.heap.size) A2 c2 _ w2 (own_reads' HO.out) HB2.out.size (own_cap HO.out) (Nat.le_trans HLL.out (by decide)) HAB.out (fun ad e _ => dOf_some _ e) (dOf_ne HO.out)).mono ?_); rintro e w3 ⟨rfl, hr, hb⟩; have HRD := Lib.hid hr; have HV3 := Lib.hid (HV2.out.below hb); have HB3 := Lib.hid (HB2.out.trans (hb.mono HB2.out.size)); clear hr hb))
    obtain ⟨d, hd⟩ : ∃ d, d = dOf A2 w2.heap.size := ⟨_, rfl⟩
    rw [← hd] at HRD
    clear hd
    go_cut [6] (fun _ wz => Hid (RdS w3 w.heap.size w2.heap.size d wz [] false))
    case first =>
      as_aux_lemma =>
        clear HV HV2 HV3 HO HZ HB HB2
        go_upto_region 12 with (fail)
        go_loopw [6] (fun i wr => ∃ (k : Nat), k ≤ n ∧ i = .int .i64 k ∧ Hid (RdS w3 w.heap.size w2.heap.size d wr (actsB (l.drop k)) false)) (fun i _ => n - (intOf i).toNat)
        case atStart => exact ⟨0, by omega, rfl, HRD⟩
        case round =>
          obtain ⟨k, hk, rfl, KR⟩ := hrel
          clear HRD
          by_cases hlt : k < n
          · have hq0 : (k : Int) < (n : Int) := by omega
            have hkl : k < l.length := by rw [← HN.out]; exact hlt
            obtain ⟨ad, A3, q3, x1, m, s0, s1, s2, s3, ys, rfl, hcl, hm, hmq, hY, r1, r2, r3, r4, r5, hab, hactB, hmf⟩ := act_at HR.out k hkl (HF.out k hkl)
            have hm4 : m ≤ 4000 := by rw [hmf]; exact HS.out.2 k hkl
            have hcons := actsB_cons l k hkl
            obtain ⟨R, hRR⟩ : ∃ R, R = actsB (l.drop (k + 1)) := ⟨_, rfl⟩
            have HRR := Lib.hid hRR
            obtain ⟨T1, T2, T3, t1, t2, t3, t4, t5⟩ := stream x1 m s0 s1 s2 s3 ys R hm hm4 r1 r2 r3 r4 r5
            rw [hcons, hactB, ← hRR] at KR
            have C1 := Lib.hid (fun W (hW : RdS w3 w.heap.size w2.heap.size d W _ false) => num_k hW 8 (x1, T1, false) t1)
            have C2 := Lib.hid (fun W (hW : RdS w3 w.heap.size w2.heap.size d W T1 false) => rtext_k hW (ys, T2, false) t2)
            have C3 := Lib.hid (fun W (hW : RdS w3 w.heap.size w2.heap.size d W T2 false) => rshard_k hW _ (T3, false) t3 t4)
            have C4 := Lib.hid (fun W (hW : RdS w3 w.heap.size w2.heap.size d W T3 false) => raw_k hW m (ys, R, false) t5)
            have EC := Lib.hid hcl
            have HY := Lib.hid (fun W hb => str_any (c := q3) (show (Kd.int .u8).C w A3 m ys by rw [hm] at hY ⊢; exact hY) W hb)
            have HM := Lib.hid hm
            have HBu := Lib.hid (HB3.out.trans KR.out.dn.bel)
            have s0f := HY.out _ HBu.out
            have s1f := HY.out _ (below_drew HBu.out)
            have ns := fun W => neq_shard W s0 s1 s2 s3
            have d1 := (EC.out.below HBu.out).c1; have d3 := (EC.out.below HBu.out).c3; have d4 := (EC.out.below HBu.out).c4; have d5 := (EC.out.below HBu.out).c5; have d6 := (EC.out.below HBu.out).c6; have d7 := (EC.out.below HBu.out).c7
            clear hcl hm hY hactB hmf hab hkl t1 t2 t3 t4 t5 hcons hRR
            go_upto_region 14 with (fail)
            refine wp_region_noPanic ?_
            refine wp_region_held_drew (S := (fun W => W.cell? ⟨(ad.add (k * 8)).block, (ad.add (k * 8)).off + 1, none⟩ = some (.int .u64 x1) ∧ W.cell? ⟨(ad.add (k * 8)).block, (ad.add (k * 8)).off + 3, none⟩ = some (.slice A3 m q3) ∧ W.cell? ⟨(ad.add (k * 8)).block, (ad.add (k * 8)).off + 4, none⟩ = some (.int .u32 s0) ∧ W.cell? ⟨(ad.add (k * 8)).block, (ad.add (k * 8)).off + 5, none⟩ = some (.int .u16 s1) ∧ W.cell? ⟨(ad.add (k * 8)).block, (ad.add (k * 8)).off + 6, none⟩ = some (.int .u16 s2) ∧ W.cell? ⟨(ad.add (k * 8)).block, (ad.add (k * 8)).off + 7, none⟩ = some (.int .u32 s3) ∧ (convert 26 9 (.slice A3 m q3)).run Try.prog W = .ok (.string (strOfNums ys)) W)) (by kernel_rfl) ?_ (fun hHeld => ?_)
            · ((try dsimp only); go_keep)
            refine wpAnyH_take (i := 0) (oi := { dst := some 57, op := Go.Op.move (Go.Operand.tmp 5), type := 43, pos := "law.go:110", after := #[], guard := none }) (v := ?_) rfl (by kernel_rfl) (by kernel_rfl) (by kernel_rfl) (fun _ _ _ h => h) (Or.inl ⟨by rfl, ?_⟩) (by assumption) ?_
            rotate_left 1
            · (intro w hSw; (try dsimp only at hSw); go_simp; try with_reducible rfl)
            try simp only [Act.put, List.setIfInBounds_toArray, List.set_cons_zero, List.set_cons_succ]
            refine wpAnyH_take (i := 2) (oi := { dst := some 59, op := Go.Op.move (Go.Operand.tmp 0), type := 22, pos := "law.go:110", after := #[], guard := none }) (v := ?_) rfl (by kernel_rfl) (by kernel_rfl) (by kernel_rfl) (fun _ _ _ h => h) (Or.inl ⟨by rfl, ?_⟩) (by assumption) ?_
            rotate_left 1
            · (intro w hSw; (try dsimp only at hSw); go_simp; try with_reducible rfl)
            try simp only [Act.put, List.setIfInBounds_toArray, List.set_cons_zero, List.set_cons_succ]
            refine wpAnyH_take (i := 3) (oi := { dst := some 60, op := Go.Op.move (Go.Operand.tmp 6), type := 3, pos := "law.go:110", after := #[], guard := none }) (v := ?_) rfl (by kernel_rfl) (by kernel_rfl) (by kernel_rfl) (fun _ _ _ h => h) (Or.inl ⟨by rfl, ?_⟩) (by assumption) ?_
            rotate_left 1
            · (intro w hSw; (try dsimp only at hSw); go_simp; try with_reducible rfl)
            try simp only [Act.put, List.setIfInBounds_toArray, List.set_cons_zero, List.set_cons_succ]
            refine wpAnyH_take (i := 4) (oi := { dst := some 61, op := Go.Op.indexAddr 22 (Go.Operand.tmp 59) (Go.Operand.tmp 60), type := 0, pos := "law.go:110", after := #[{ on := 2, ground := Go.Ground.data }, { on := 3, ground := Go.Ground.data }], guard := none }) (v := ?_) rfl (by kernel_rfl) (by kernel_rfl) (by kernel_rfl) (fun _ _ _ h => h) (Or.inl ⟨by rfl, ?_⟩) (by assumption) ?_
            rotate_left 1
            · (intro w hSw; (try dsimp only at hSw); go_simp; try with_reducible rfl)
            try simp only [Act.put, List.setIfInBounds_toArray, List.set_cons_zero, List.set_cons_succ]
            refine wpAnyH_take (i := 5) (oi := { dst := some 62, op := Go.Op.fieldAddr 35 (Go.Operand.tmp 61) 1, type := 0, pos := "law.go:110", after := #[{ on := 4, ground := Go.Ground.data }], guard := none }) (v := ?_) rfl (by kernel_rfl) (by kernel_rfl) (by kernel_rfl) (fun _ _ _ h => h) (Or.inl ⟨by rfl, ?_⟩) (by assumption) ?_
            rotate_left 1
            · (intro w hSw; (try dsimp only at hSw); go_simp; try with_reducible rfl)
            try simp only [Act.put, List.setIfInBounds_toArray, List.set_cons_zero, List.set_cons_succ]
            refine wpAnyH_take (i := 6) (oi := { dst := some 63, op := Go.Op.load 29 (Go.Operand.tmp 62), type := 29, pos := "law.go:110", after := #[{ on := 5, ground := Go.Ground.data }], guard := none }) (v := ?_) rfl (by kernel_rfl) (by kernel_rfl) (by kernel_rfl) (fun _ _ _ h => h) (Or.inl ⟨by rfl, ?_⟩) (by assumption) ?_
            rotate_left 1
            · (intro w hSw; (try dsimp only at hSw); go_simp; try with_reducible rfl)
            try simp only [Act.put, List.setIfInBounds_toArray, List.set_cons_zero, List.set_cons_succ]
            refine wpAnyH_ready (rs := [1]) (by kernel_rfl) (by simp) ?_
            refine AllReadyH.cons (o := { dst := some 58, op := Go.Op.call { callee := Go.Callee.value (Go.Operand.func 16), args := #[Go.Operand.tmp 57, Go.Operand.const (Go.Value.int Go.IntKind.i64 8)], argTypes := #[43, 3] }, type := 29, pos := "law.go:110", after := #[{ on := 0, ground := Go.Ground.data }], guard := none }) rfl (fun K hK => ?_) AllReadyH.nil
            go_simp
            go_at_call 16
            (refine (C1.out _ (by first | exact KR.out | exact KR.out.drew)).mono ?_); rintro e u1 ⟨rfl, h1, _⟩; have H1 := Lib.hid (show RdS w3 w.heap.size w2.heap.size d u1 T1 false from h1); have HBu := Lib.hid (HB3.out.trans h1.dn.bel); have sf1 := HY.out _ HBu.out; clear h1; have d1 := (EC.out.below HBu.out).c1; have d3 := (EC.out.below HBu.out).c3; have d4 := (EC.out.below HBu.out).c4; have d5 := (EC.out.below HBu.out).c5; have d6 := (EC.out.below HBu.out).c6; have d7 := (EC.out.below HBu.out).c7
            clear hHeld
            refine hK.out _ _ ?_ (fun hHeld => ?_)
            · ((try dsimp only); go_keep)
            clear hK K
            refine wpAnyH_take (i := 7) (oi := { dst := some 64, op := Go.Op.binOp Go.BinOp.neq 29 (Go.Operand.tmp 58) (Go.Operand.tmp 63) 29, type := 4, pos := "law.go:110", after := #[{ on := 1, ground := Go.Ground.data }, { on := 6, ground := Go.Ground.data }], guard := none }) (v := ?_) rfl (by kernel_rfl) (by kernel_rfl) (by kernel_rfl) (fun _ _ _ h => h) (Or.inl ⟨by rfl, ?_⟩) (by assumption) ?_
            rotate_left 1
            · (intro w hSw; (try dsimp only at hSw); go_simp; try with_reducible rfl)
            try simp only [Act.put, List.setIfInBounds_toArray, List.set_cons_zero, List.set_cons_succ]
            refine wpAnyH_take (i := 8) (oi := { dst := some 65, op := Go.Op.move (Go.Operand.tmp 64), type := 4, pos := "law.go:110", after := #[{ on := 7, ground := Go.Ground.data }, { on := 1, ground := Go.Ground.chain }], guard := none }) (v := ?_) rfl (by kernel_rfl) (by kernel_rfl) (by kernel_rfl) (fun _ _ _ h => h) (Or.inl ⟨by rfl, ?_⟩) (by assumption) ?_
            rotate_left 1
            · (intro w hSw; (try dsimp only at hSw); go_simp; try with_reducible rfl)
            try simp only [Act.put, List.setIfInBounds_toArray, List.set_cons_zero, List.set_cons_succ]
            refine wpAnyH_take (i := 9) (oi := { dst := some 66, op := Go.Op.move (Go.Operand.tmp 5), type := 43, pos := "law.go:110", after := #[{ on := 8, ground := Go.Ground.guard }], guard := some (8, false) }) (v := ?_) rfl (by kernel_rfl) (by kernel_rfl) (by kernel_rfl) (fun _ _ _ h => h) (Or.inl ⟨by rfl, ?_⟩) (by assumption) ?_
            rotate_left 1
            · (intro w hSw; (try dsimp only at hSw); go_simp; try with_reducible rfl)
            try simp only [Act.put, List.setIfInBounds_toArray, List.set_cons_zero, List.set_cons_succ]
            refine wpAnyH_take (i := 12) (oi := { dst := some 69, op := Go.Op.move (Go.Operand.tmp 0), type := 22, pos := "law.go:110", after := #[{ on := 8, ground := Go.Ground.guard }], guard := some (8, false) }) (v := ?_) rfl (by kernel_rfl) (by kernel_rfl) (by kernel_rfl) (fun _ _ _ h => h) (Or.inl ⟨by rfl, ?_⟩) (by assumption) ?_
            rotate_left 1
            · (intro w hSw; (try dsimp only at hSw); go_simp; try with_reducible rfl)
            try simp only [Act.put, List.setIfInBounds_toArray, List.set_cons_zero, List.set_cons_succ]
            refine wpAnyH_take (i := 13) (oi := { dst := some 70, op := Go.Op.move (Go.Operand.tmp 6), type := 3, pos := "law.go:110", after := #[{ on := 8, ground := Go.Ground.guard }], guard := some (8, false) }) (v := ?_) rfl (by kernel_rfl) (by kernel_rfl) (by kernel_rfl) (fun _ _ _ h => h) (Or.inl ⟨by rfl, ?_⟩) (by assumption) ?_
            rotate_left 1
            · (intro w hSw; (try dsimp only at hSw); go_simp; try with_reducible rfl)
            try simp only [Act.put, List.setIfInBounds_toArray, List.set_cons_zero, List.set_cons_succ]
            refine wpAnyH_take (i := 14) (oi := { dst := some 71, op := Go.Op.indexAddr 22 (Go.Operand.tmp 69) (Go.Operand.tmp 70), type := 0, pos := "law.go:110", after := #[{ on := 12, ground := Go.Ground.data }, { on := 13, ground := Go.Ground.data }, { on := 8, ground := Go.Ground.guard }], guard := some (8, false) }) (v := ?_) rfl (by kernel_rfl) (by kernel_rfl) (by kernel_rfl) (fun _ _ _ h => h) (Or.inl ⟨by rfl, ?_⟩) (by assumption) ?_
            rotate_left 1
            · (intro w hSw; (try dsimp only at hSw); go_simp; try with_reducible rfl)
            try simp only [Act.put, List.setIfInBounds_toArray, List.set_cons_zero, List.set_cons_succ]
            refine wpAnyH_take (i := 15) (oi := { dst := some 72, op := Go.Op.fieldAddr 35 (Go.Operand.tmp 71) 3, type := 0, pos := "law.go:110", after := #[{ on := 14, ground := Go.Ground.data }, { on := 8, ground := Go.Ground.guard }], guard := some (8, false) }) (v := ?_) rfl (by kernel_rfl) (by kernel_rfl) (by kernel_rfl) (fun _ _ _ h => h) (Or.inl ⟨by rfl, ?_⟩) (by assumption) ?_
            rotate_left 1
            · (intro w hSw; (try dsimp only at hSw); go_simp; try with_reducible rfl)
            try simp only [Act.put, List.setIfInBounds_toArray, List.set_cons_zero, List.set_cons_succ]
            refine wpAnyH_take (i := 16) (oi := { dst := some 73, op := Go.Op.load 26 (Go.Operand.tmp 72), type := 26, pos := "law.go:110", after := #[{ on := 15, ground := Go.Ground.data }, { on := 8, ground := Go.Ground.guard }], guard := some (8, false) }) (v := ?_) rfl (by kernel_rfl) (by kernel_rfl) (by kernel_rfl) (fun _ _ _ h => h) (Or.inl ⟨by rfl, ?_⟩) (by assumption) ?_
            rotate_left 1
            · (intro w hSw; (try dsimp only at hSw); go_simp; try with_reducible rfl)
            try simp only [Act.put, List.setIfInBounds_toArray, List.set_cons_zero, List.set_cons_succ]
            refine wpAnyH_take (i := 17) (oi := { dst := some 74, op := Go.Op.convert 26 9 (Go.Operand.tmp 73), type := 9, pos := "law.go:110", after := #[{ on := 16, ground := Go.Ground.data }, { on := 8, ground := Go.Ground.guard }], guard := some (8, false) }) (v := ?_) rfl (by kernel_rfl) (by kernel_rfl) (by kernel_rfl) (fun _ _ _ h => h) (Or.inl ⟨by rfl, ?_⟩) (by assumption) ?_
            rotate_left 1
            · (intro w hSw; (try dsimp only at hSw); go_simp; try with_reducible rfl)
            try simp only [Act.put, List.setIfInBounds_toArray, List.set_cons_zero, List.set_cons_succ]
            refine wpAnyH_ready (rs := [10]) (by kernel_rfl) (by simp) ?_
            refine AllReadyH.cons (o := { dst := some 67, op := Go.Op.call { callee := Go.Callee.value (Go.Operand.func 17), args := #[Go.Operand.tmp 66], argTypes := #[43] }, type := 26, pos := "law.go:110", after := #[{ on := 9, ground := Go.Ground.data }, { on := 8, ground := Go.Ground.chain }, { on := 8, ground := Go.Ground.guard }], guard := some (8, false) }) rfl (fun K hK => ?_) AllReadyH.nil
            go_simp
            go_at_call 17
            (refine (C2.out _ H1.out).mono ?_); rintro e u2 ⟨A6, n6, c6, rfl, k6, h2⟩; replace k6 : (convert 26 9 (.slice A6 n6 c6)).run Try.prog u2 = .ok (.string (strOfNums ys)) u2 := k6; have H2 := Lib.hid (show RdS w3 w.heap.size w2.heap.size d u2 T2 false from h2); have HBu := Lib.hid (HB3.out.trans h2.dn.bel); have sf2 := HY.out _ HBu.out; clear h2; have d1 := (EC.out.below HBu.out).c1; have d3 := (EC.out.below HBu.out).c3; have d4 := (EC.out.below HBu.out).c4; have d5 := (EC.out.below HBu.out).c5; have d6 := (EC.out.below HBu.out).c6; have d7 := (EC.out.below HBu.out).c7
            clear hHeld
            refine hK.out _ _ ?_ (fun hHeld => ?_)
            · ((try dsimp only); go_keep)
            clear hK K
            refine wpAnyH_ready (rs := [11]) (by kernel_rfl) (by simp) ?_
            refine AllReadyH.cons (o := { dst := some 68, op := Go.Op.convert 26 9 (Go.Operand.tmp 67), type := 9, pos := "law.go:110", after := #[{ on := 10, ground := Go.Ground.data }, { on := 8, ground := Go.Ground.guard }], guard := some (8, false) }) rfl (fun K hK => ?_) AllReadyH.nil
            go_simp
            clear hHeld
            refine hK.out _ _ ?_ (fun hHeld => ?_)
            · ((try dsimp only); go_keep)
            clear hK K
            refine wpAnyH_take (i := 18) (oi := { dst := some 75, op := Go.Op.binOp Go.BinOp.neq 9 (Go.Operand.tmp 68) (Go.Operand.tmp 74) 9, type := 4, pos := "law.go:110", after := #[{ on := 11, ground := Go.Ground.data }, { on := 17, ground := Go.Ground.data }, { on := 8, ground := Go.Ground.guard }], guard := some (8, false) }) (v := ?_) rfl (by kernel_rfl) (by kernel_rfl) (by kernel_rfl) (fun _ _ _ h => h) (Or.inl ⟨by rfl, ?_⟩) (by assumption) ?_
            rotate_left 1
            · (intro w hSw; (try dsimp only at hSw); go_simp; try with_reducible rfl)
            try simp only [Act.put, List.setIfInBounds_toArray, List.set_cons_zero, List.set_cons_succ]
            refine wpAnyH_take (i := 19) (oi := { dst := some 76, op := Go.Op.pick (Go.Operand.tmp 65) (Go.Operand.const (Go.Value.bool true)) (Go.Operand.tmp 75), type := 4, pos := "law.go:110", after := #[{ on := 8, ground := Go.Ground.data }, { on := 18, ground := Go.Ground.data }], guard := none }) (v := ?_) rfl (by kernel_rfl) (by kernel_rfl) (by kernel_rfl) (fun _ _ _ h => h) (Or.inl ⟨by rfl, ?_⟩) (by assumption) ?_
            rotate_left 1
            · (intro w hSw; (try dsimp only at hSw); go_simp; try with_reducible rfl)
            try simp only [Act.put, List.setIfInBounds_toArray, List.set_cons_zero, List.set_cons_succ]
            refine wpAnyH_take (i := 20) (oi := { dst := some 77, op := Go.Op.move (Go.Operand.tmp 76), type := 4, pos := "law.go:110", after := #[{ on := 19, ground := Go.Ground.data }, { on := 10, ground := Go.Ground.chain }], guard := none }) (v := ?_) rfl (by kernel_rfl) (by kernel_rfl) (by kernel_rfl) (fun _ _ _ h => h) (Or.inl ⟨by rfl, ?_⟩) (by assumption) ?_
            rotate_left 1
            · (intro w hSw; (try dsimp only at hSw); go_simp; try with_reducible rfl)
            try simp only [Act.put, List.setIfInBounds_toArray, List.set_cons_zero, List.set_cons_succ]
            refine wpAnyH_take (i := 21) (oi := { dst := some 78, op := Go.Op.move (Go.Operand.tmp 5), type := 43, pos := "law.go:110", after := #[{ on := 20, ground := Go.Ground.guard }], guard := some (20, false) }) (v := ?_) rfl (by kernel_rfl) (by kernel_rfl) (by kernel_rfl) (fun _ _ _ h => h) (Or.inl ⟨by rfl, ?_⟩) (by assumption) ?_
            rotate_left 1
            · (intro w hSw; (try dsimp only at hSw); go_simp; try with_reducible rfl)
            try simp only [Act.put, List.setIfInBounds_toArray, List.set_cons_zero, List.set_cons_succ]
            refine wpAnyH_take (i := 23) (oi := { dst := some 80, op := Go.Op.move (Go.Operand.tmp 0), type := 22, pos := "law.go:110", after := #[{ on := 20, ground := Go.Ground.guard }], guard := some (20, false) }) (v := ?_) rfl (by kernel_rfl) (by kernel_rfl) (by kernel_rfl) (fun _ _ _ h => h) (Or.inl ⟨by rfl, ?_⟩) (by assumption) ?_
            rotate_left 1
            · (intro w hSw; (try dsimp only at hSw); go_simp; try with_reducible rfl)
            try simp only [Act.put, List.setIfInBounds_toArray, List.set_cons_zero, List.set_cons_succ]
            refine wpAnyH_take (i := 24) (oi := { dst := some 81, op := Go.Op.move (Go.Operand.tmp 6), type := 3, pos := "law.go:110", after := #[{ on := 20, ground := Go.Ground.guard }], guard := some (20, false) }) (v := ?_) rfl (by kernel_rfl) (by kernel_rfl) (by kernel_rfl) (fun _ _ _ h => h) (Or.inl ⟨by rfl, ?_⟩) (by assumption) ?_
            rotate_left 1
            · (intro w hSw; (try dsimp only at hSw); go_simp; try with_reducible rfl)
            try simp only [Act.put, List.setIfInBounds_toArray, List.set_cons_zero, List.set_cons_succ]
            refine wpAnyH_take (i := 25) (oi := { dst := some 82, op := Go.Op.indexAddr 22 (Go.Operand.tmp 80) (Go.Operand.tmp 81), type := 0, pos := "law.go:110", after := #[{ on := 23, ground := Go.Ground.data }, { on := 24, ground := Go.Ground.data }, { on := 20, ground := Go.Ground.guard }], guard := some (20, false) }) (v := ?_) rfl (by kernel_rfl) (by kernel_rfl) (by kernel_rfl) (fun _ _ _ h => h) (Or.inl ⟨by rfl, ?_⟩) (by assumption) ?_
            rotate_left 1
            · (intro w hSw; (try dsimp only at hSw); go_simp; try with_reducible rfl)
            try simp only [Act.put, List.setIfInBounds_toArray, List.set_cons_zero, List.set_cons_succ]
            refine wpAnyH_take (i := 26) (oi := { dst := some 83, op := Go.Op.fieldAddr 35 (Go.Operand.tmp 82) 4, type := 0, pos := "law.go:110", after := #[{ on := 25, ground := Go.Ground.data }, { on := 20, ground := Go.Ground.guard }], guard := some (20, false) }) (v := ?_) rfl (by kernel_rfl) (by kernel_rfl) (by kernel_rfl) (fun _ _ _ h => h) (Or.inl ⟨by rfl, ?_⟩) (by assumption) ?_
            rotate_left 1
            · (intro w hSw; (try dsimp only at hSw); go_simp; try with_reducible rfl)
            try simp only [Act.put, List.setIfInBounds_toArray, List.set_cons_zero, List.set_cons_succ]
            refine wpAnyH_take (i := 27) (oi := { dst := some 84, op := Go.Op.load 33 (Go.Operand.tmp 83), type := 33, pos := "law.go:110", after := #[{ on := 26, ground := Go.Ground.data }, { on := 20, ground := Go.Ground.guard }], guard := some (20, false) }) (v := ?_) rfl (by kernel_rfl) (by kernel_rfl) (by kernel_rfl) (fun _ _ _ h => h) (Or.inl ⟨by rfl, ?_⟩) (by assumption) ?_
            rotate_left 1
            · (intro w hSw; (try dsimp only at hSw); go_simp; try with_reducible rfl)
            try simp only [Act.put, List.setIfInBounds_toArray, List.set_cons_zero, List.set_cons_succ]
            refine wpAnyH_ready (rs := [22]) (by kernel_rfl) (by simp) ?_
            refine AllReadyH.cons (o := { dst := some 79, op := Go.Op.call { callee := Go.Callee.value (Go.Operand.func 18), args := #[Go.Operand.tmp 78], argTypes := #[43] }, type := 33, pos := "law.go:110", after := #[{ on := 21, ground := Go.Ground.data }, { on := 20, ground := Go.Ground.chain }, { on := 20, ground := Go.Ground.guard }], guard := some (20, false) }) rfl (fun K hK => ?_) AllReadyH.nil
            go_simp
            go_at_call 18
            (refine (C3.out _ H2.out).mono ?_); rintro e u3 ⟨rfl, h3⟩; have H3 := Lib.hid (show RdS w3 w.heap.size w2.heap.size d u3 T3 false from h3); have HBu := Lib.hid (HB3.out.trans h3.dn.bel); have sf3 := HY.out _ HBu.out; clear h3; have d1 := (EC.out.below HBu.out).c1; have d3 := (EC.out.below HBu.out).c3; have d4 := (EC.out.below HBu.out).c4; have d5 := (EC.out.below HBu.out).c5; have d6 := (EC.out.below HBu.out).c6; have d7 := (EC.out.below HBu.out).c7
            clear hHeld
            refine hK.out _ _ ?_ (fun hHeld => ?_)
            · ((try dsimp only); go_keep)
            clear hK K
            refine wpAnyH_take (i := 28) (oi := { dst := some 85, op := Go.Op.binOp Go.BinOp.neq 33 (Go.Operand.tmp 79) (Go.Operand.tmp 84) 33, type := 4, pos := "law.go:110", after := #[{ on := 22, ground := Go.Ground.data }, { on := 27, ground := Go.Ground.data }, { on := 20, ground := Go.Ground.guard }], guard := some (20, false) }) (v := ?_) rfl (by kernel_rfl) (by kernel_rfl) (by kernel_rfl) (fun _ _ _ h => h) (Or.inl ⟨by rfl, ?_⟩) (by assumption) ?_
            rotate_left 1
            · (intro w hSw; (try dsimp only at hSw); go_simp; try with_reducible rfl)
            try simp only [Act.put, List.setIfInBounds_toArray, List.set_cons_zero, List.set_cons_succ]
            refine wpAnyH_take (i := 29) (oi := { dst := some 86, op := Go.Op.pick (Go.Operand.tmp 77) (Go.Operand.const (Go.Value.bool true)) (Go.Operand.tmp 85), type := 4, pos := "law.go:110", after := #[{ on := 20, ground := Go.Ground.data }, { on := 28, ground := Go.Ground.data }], guard := none }) (v := ?_) rfl (by kernel_rfl) (by kernel_rfl) (by kernel_rfl) (fun _ _ _ h => h) (Or.inl ⟨by rfl, ?_⟩) (by assumption) ?_
            rotate_left 1
            · (intro w hSw; (try dsimp only at hSw); go_simp; try with_reducible rfl)
            try simp only [Act.put, List.setIfInBounds_toArray, List.set_cons_zero, List.set_cons_succ]
            refine wpAnyH_take (i := 30) (oi := { dst := some 87, op := Go.Op.move (Go.Operand.tmp 86), type := 4, pos := "law.go:110", after := #[{ on := 29, ground := Go.Ground.data }, { on := 22, ground := Go.Ground.chain }], guard := none }) (v := ?_) rfl (by kernel_rfl) (by kernel_rfl) (by kernel_rfl) (fun _ _ _ h => h) (Or.inl ⟨by rfl, ?_⟩) (by assumption) ?_
            rotate_left 1
            · (intro w hSw; (try dsimp only at hSw); go_simp; try with_reducible rfl)
            try simp only [Act.put, List.setIfInBounds_toArray, List.set_cons_zero, List.set_cons_succ]
            refine wpAnyH_take (i := 31) (oi := { dst := some 88, op := Go.Op.move (Go.Operand.tmp 5), type := 43, pos := "law.go:110", after := #[{ on := 30, ground := Go.Ground.guard }], guard := some (30, false) }) (v := ?_) rfl (by kernel_rfl) (by kernel_rfl) (by kernel_rfl) (fun _ _ _ h => h) (Or.inl ⟨by rfl, ?_⟩) (by assumption) ?_
            rotate_left 1
            · (intro w hSw; (try dsimp only at hSw); go_simp; try with_reducible rfl)
            try simp only [Act.put, List.setIfInBounds_toArray, List.set_cons_zero, List.set_cons_succ]
            refine wpAnyH_take (i := 32) (oi := { dst := some 89, op := Go.Op.move (Go.Operand.tmp 0), type := 22, pos := "law.go:110", after := #[{ on := 30, ground := Go.Ground.guard }], guard := some (30, false) }) (v := ?_) rfl (by kernel_rfl) (by kernel_rfl) (by kernel_rfl) (fun _ _ _ h => h) (Or.inl ⟨by rfl, ?_⟩) (by assumption) ?_
            rotate_left 1
            · (intro w hSw; (try dsimp only at hSw); go_simp; try with_reducible rfl)
            try simp only [Act.put, List.setIfInBounds_toArray, List.set_cons_zero, List.set_cons_succ]
            refine wpAnyH_take (i := 33) (oi := { dst := some 90, op := Go.Op.move (Go.Operand.tmp 6), type := 3, pos := "law.go:110", after := #[{ on := 30, ground := Go.Ground.guard }], guard := some (30, false) }) (v := ?_) rfl (by kernel_rfl) (by kernel_rfl) (by kernel_rfl) (fun _ _ _ h => h) (Or.inl ⟨by rfl, ?_⟩) (by assumption) ?_
            rotate_left 1
            · (intro w hSw; (try dsimp only at hSw); go_simp; try with_reducible rfl)
            try simp only [Act.put, List.setIfInBounds_toArray, List.set_cons_zero, List.set_cons_succ]
            refine wpAnyH_take (i := 34) (oi := { dst := some 91, op := Go.Op.indexAddr 22 (Go.Operand.tmp 89) (Go.Operand.tmp 90), type := 0, pos := "law.go:110", after := #[{ on := 32, ground := Go.Ground.data }, { on := 33, ground := Go.Ground.data }, { on := 30, ground := Go.Ground.guard }], guard := some (30, false) }) (v := ?_) rfl (by kernel_rfl) (by kernel_rfl) (by kernel_rfl) (fun _ _ _ h => h) (Or.inl ⟨by rfl, ?_⟩) (by assumption) ?_
            rotate_left 1
            · (intro w hSw; (try dsimp only at hSw); go_simp; try with_reducible rfl)
            try simp only [Act.put, List.setIfInBounds_toArray, List.set_cons_zero, List.set_cons_succ]
            refine wpAnyH_take (i := 35) (oi := { dst := some 92, op := Go.Op.fieldAddr 35 (Go.Operand.tmp 91) 3, type := 0, pos := "law.go:110", after := #[{ on := 34, ground := Go.Ground.data }, { on := 30, ground := Go.Ground.guard }], guard := some (30, false) }) (v := ?_) rfl (by kernel_rfl) (by kernel_rfl) (by kernel_rfl) (fun _ _ _ h => h) (Or.inl ⟨by rfl, ?_⟩) (by assumption) ?_
            rotate_left 1
            · (intro w hSw; (try dsimp only at hSw); go_simp; try with_reducible rfl)
            try simp only [Act.put, List.setIfInBounds_toArray, List.set_cons_zero, List.set_cons_succ]
            refine wpAnyH_take (i := 36) (oi := { dst := some 93, op := Go.Op.load 26 (Go.Operand.tmp 92), type := 26, pos := "law.go:110", after := #[{ on := 35, ground := Go.Ground.data }, { on := 30, ground := Go.Ground.guard }], guard := some (30, false) }) (v := ?_) rfl (by kernel_rfl) (by kernel_rfl) (by kernel_rfl) (fun _ _ _ h => h) (Or.inl ⟨by rfl, ?_⟩) (by assumption) ?_
            rotate_left 1
            · (intro w hSw; (try dsimp only at hSw); go_simp; try with_reducible rfl)
            try simp only [Act.put, List.setIfInBounds_toArray, List.set_cons_zero, List.set_cons_succ]
            refine wpAnyH_take (i := 37) (oi := { dst := some 94, op := Go.Op.call { callee := Go.Callee.builtin Go.Builtin.len, args := #[Go.Operand.tmp 93], argTypes := #[26] }, type := 3, pos := "law.go:110", after := #[{ on := 36, ground := Go.Ground.data }, { on := 30, ground := Go.Ground.guard }], guard := some (30, false) }) (v := ?_) rfl (by kernel_rfl) (by kernel_rfl) (by kernel_rfl) (fun _ _ _ h => h) (Or.inl ⟨by rfl, ?_⟩) (by assumption) ?_
            rotate_left 1
            · (intro w hSw; (try dsimp only at hSw); go_simp; try with_reducible rfl)
            try simp only [Act.put, List.setIfInBounds_toArray, List.set_cons_zero, List.set_cons_succ]
            refine wpAnyH_take (i := 40) (oi := { dst := some 97, op := Go.Op.move (Go.Operand.tmp 0), type := 22, pos := "law.go:110", after := #[{ on := 30, ground := Go.Ground.guard }], guard := some (30, false) }) (v := ?_) rfl (by kernel_rfl) (by kernel_rfl) (by kernel_rfl) (fun _ _ _ h => h) (Or.inl ⟨by rfl, ?_⟩) (by assumption) ?_
            rotate_left 1
            · (intro w hSw; (try dsimp only at hSw); go_simp; try with_reducible rfl)
            try simp only [Act.put, List.setIfInBounds_toArray, List.set_cons_zero, List.set_cons_succ]
            refine wpAnyH_take (i := 41) (oi := { dst := some 98, op := Go.Op.move (Go.Operand.tmp 6), type := 3, pos := "law.go:110", after := #[{ on := 30, ground := Go.Ground.guard }], guard := some (30, false) }) (v := ?_) rfl (by kernel_rfl) (by kernel_rfl) (by kernel_rfl) (fun _ _ _ h => h) (Or.inl ⟨by rfl, ?_⟩) (by assumption) ?_
            rotate_left 1
            · (intro w hSw; (try dsimp only at hSw); go_simp; try with_reducible rfl)
            try simp only [Act.put, List.setIfInBounds_toArray, List.set_cons_zero, List.set_cons_succ]
            refine wpAnyH_take (i := 42) (oi := { dst := some 99, op := Go.Op.indexAddr 22 (Go.Operand.tmp 97) (Go.Operand.tmp 98), type := 0, pos := "law.go:110", after := #[{ on := 40, ground := Go.Ground.data }, { on := 41, ground := Go.Ground.data }, { on := 30, ground := Go.Ground.guard }], guard := some (30, false) }) (v := ?_) rfl (by kernel_rfl) (by kernel_rfl) (by kernel_rfl) (fun _ _ _ h => h) (Or.inl ⟨by rfl, ?_⟩) (by assumption) ?_
            rotate_left 1
            · (intro w hSw; (try dsimp only at hSw); go_simp; try with_reducible rfl)
            try simp only [Act.put, List.setIfInBounds_toArray, List.set_cons_zero, List.set_cons_succ]
            refine wpAnyH_take (i := 43) (oi := { dst := some 100, op := Go.Op.fieldAddr 35 (Go.Operand.tmp 99) 3, type := 0, pos := "law.go:110", after := #[{ on := 42, ground := Go.Ground.data }, { on := 30, ground := Go.Ground.guard }], guard := some (30, false) }) (v := ?_) rfl (by kernel_rfl) (by kernel_rfl) (by kernel_rfl) (fun _ _ _ h => h) (Or.inl ⟨by rfl, ?_⟩) (by assumption) ?_
            rotate_left 1
            · (intro w hSw; (try dsimp only at hSw); go_simp; try with_reducible rfl)
            try simp only [Act.put, List.setIfInBounds_toArray, List.set_cons_zero, List.set_cons_succ]
            refine wpAnyH_take (i := 44) (oi := { dst := some 101, op := Go.Op.load 26 (Go.Operand.tmp 100), type := 26, pos := "law.go:110", after := #[{ on := 43, ground := Go.Ground.data }, { on := 30, ground := Go.Ground.guard }], guard := some (30, false) }) (v := ?_) rfl (by kernel_rfl) (by kernel_rfl) (by kernel_rfl) (fun _ _ _ h => h) (Or.inl ⟨by rfl, ?_⟩) (by assumption) ?_
            rotate_left 1
            · (intro w hSw; (try dsimp only at hSw); go_simp; try with_reducible rfl)
            try simp only [Act.put, List.setIfInBounds_toArray, List.set_cons_zero, List.set_cons_succ]
            refine wpAnyH_take (i := 45) (oi := { dst := some 102, op := Go.Op.convert 26 9 (Go.Operand.tmp 101), type := 9, pos := "law.go:110", after := #[{ on := 44, ground := Go.Ground.data }, { on := 30, ground := Go.Ground.guard }], guard := some (30, false) }) (v := ?_) rfl (by kernel_rfl) (by kernel_rfl) (by kernel_rfl) (fun _ _ _ h => h) (Or.inl ⟨by rfl, ?_⟩) (by assumption) ?_
            rotate_left 1
            · (intro w hSw; (try dsimp only at hSw); go_simp; try with_reducible rfl)
            try simp only [Act.put, List.setIfInBounds_toArray, List.set_cons_zero, List.set_cons_succ]
            refine wpAnyH_ready (rs := [38]) (by kernel_rfl) (by simp) ?_
            refine AllReadyH.cons (o := { dst := some 95, op := Go.Op.call { callee := Go.Callee.value (Go.Operand.func 19), args := #[Go.Operand.tmp 88, Go.Operand.tmp 94], argTypes := #[43, 3] }, type := 26, pos := "law.go:110", after := #[{ on := 31, ground := Go.Ground.data }, { on := 37, ground := Go.Ground.data }, { on := 30, ground := Go.Ground.chain }, { on := 30, ground := Go.Ground.guard }], guard := some (30, false) }) rfl (fun K hK => ?_) AllReadyH.nil
            go_simp
            go_at_call 19
            (refine (C4.out _ H3.out).mono ?_); rintro e u4 ⟨A7, n7, c7, rfl, k7, h4⟩; replace k7 : (convert 26 9 (.slice A7 n7 c7)).run Try.prog u4 = .ok (.string (strOfNums ys)) u4 := k7; have H4 := Lib.hid (show RdS w3 w.heap.size w2.heap.size d u4 R false from h4); have HBu := Lib.hid (HB3.out.trans h4.dn.bel); have sf4 := HY.out _ HBu.out; clear h4; have d1 := (EC.out.below HBu.out).c1; have d3 := (EC.out.below HBu.out).c3; have d4 := (EC.out.below HBu.out).c4; have d5 := (EC.out.below HBu.out).c5; have d6 := (EC.out.below HBu.out).c6; have d7 := (EC.out.below HBu.out).c7
            clear hHeld
            refine hK.out _ _ ?_ (fun hHeld => ?_)
            · ((try dsimp only); go_keep)
            clear hK K
            refine wpAnyH_ready (rs := [39]) (by kernel_rfl) (by simp) ?_
            refine AllReadyH.cons (o := { dst := some 96, op := Go.Op.convert 26 9 (Go.Operand.tmp 95), type := 9, pos := "law.go:110", after := #[{ on := 38, ground := Go.Ground.data }, { on := 30, ground := Go.Ground.guard }], guard := some (30, false) }) rfl (fun K hK => ?_) AllReadyH.nil
            go_simp
            clear hHeld
            refine hK.out _ _ ?_ (fun hHeld => ?_)
            · ((try dsimp only); go_keep)
            clear hK K
            refine wpAnyH_take (i := 46) (oi := { dst := some 103, op := Go.Op.binOp Go.BinOp.neq 9 (Go.Operand.tmp 96) (Go.Operand.tmp 102) 9, type := 4, pos := "law.go:110", after := #[{ on := 39, ground := Go.Ground.data }, { on := 45, ground := Go.Ground.data }, { on := 30, ground := Go.Ground.guard }], guard := some (30, false) }) (v := ?_) rfl (by kernel_rfl) (by kernel_rfl) (by kernel_rfl) (fun _ _ _ h => h) (Or.inl ⟨by rfl, ?_⟩) (by assumption) ?_
            rotate_left 1
            · (intro w hSw; (try dsimp only at hSw); go_simp; try with_reducible rfl)
            try simp only [Act.put, List.setIfInBounds_toArray, List.set_cons_zero, List.set_cons_succ]
            refine wpAnyH_take (i := 47) (oi := { dst := some 104, op := Go.Op.pick (Go.Operand.tmp 87) (Go.Operand.const (Go.Value.bool true)) (Go.Operand.tmp 103), type := 4, pos := "law.go:110", after := #[{ on := 30, ground := Go.Ground.data }, { on := 46, ground := Go.Ground.data }], guard := none }) (v := ?_) rfl (by kernel_rfl) (by kernel_rfl) (by kernel_rfl) (fun _ _ _ h => h) (Or.inl ⟨by rfl, ?_⟩) (by assumption) ?_
            rotate_left 1
            · (intro w hSw; (try dsimp only at hSw); go_simp; try with_reducible rfl)
            try simp only [Act.put, List.setIfInBounds_toArray, List.set_cons_zero, List.set_cons_succ]
            refine wpAnyH_done (by kernel_rfl) ?_ _
            refine NoPanic.normal ?_
            go_wp2
            go_roundw
            case rel => exact ⟨k + 1, by omega, by go_num, by rw [← HRR.out]; exact H4⟩
            case measure => simp [intOf]; omega
          · obtain rfl : k = n := by omega
            go_wp2
            go_meet
            case rel =>
              have h := KR.out
              rw [HN.out, List.drop_length] at h
              exact Lib.hid h
    case rest =>
      have hK := hcut.out.dn.keep
      have hv : v.ownBlock ≠ some w2.heap.size := fun e => by have := own_lt HV2.out.row _ e; omega
      have hne : w1.heap.size ≠ w2.heap.size := by have := HV2.out.blk.lt; omega
      have HVz := Lib.hid (HV3.out.kept hK hne hv)
      have HBz := Lib.hid (HB3.out.trans hcut.out.dn.bel)
      have hblk : ∃ A c, Blk wc w2.heap.size 52 #[.slice A 0 c, .bool false] := by
        obtain ⟨A, c, h⟩ := hcut.out.dn.rd
        exact ⟨A, c, h.blk⟩
      obtain ⟨A9, c9, hblk⟩ := hblk
      clear hK hv hne HV HV2 HV3 HB HB2 HO HZ hcut
      have hA5 : Below wc.heap.size wc (wc.alloc (.cells #[.int .u8 5, .int .u8 6] 5)) := (Below.refl _ _).alloc (Nat.le_refl _) _
      have HW5 := Lib.hid (HVz.out.below hA5)
      have HBK := Lib.hid (hblk.below hA5 hblk.lt)
      have HB5 := Lib.hid (HBz.out.trans (hA5.mono HBz.out.size))
      have HR5 := Lib.hid (own_reads' (show (wc.alloc (.cells #[.int .u8 5, .int .u8 6] 5)).ownsRow wc.heap.size 5 1 (.slice (some ⟨wc.heap.size, 0, none⟩) 2 2) 2 (nums .u8 [5, 6]) from own_lit wc wc.heap.size 5 .u8 [5, 6] (Nat.le_refl _) (by decide)))
      have H56 : Hid (AllB (actsB l ++ [5, 6])) := Lib.hid (HAB.out.append (fun x hx => by simp at hx; omega))
      have HL6 : Hid ((actsB l ++ [5, 6]).length ≤ 500000) := Lib.hid (by have := HLL.out; rw [List.length_append]; simp; omega)
      obtain ⟨zs, hzs⟩ : ∃ zs, zs = actsB l ++ [5, 6] := ⟨_, rfl⟩
      rw [← hzs] at H56 HL6
      have HZS := Lib.hid hzs
      clear hA5 hblk hzs
      go_upto_region 18 with (first
        | (go_at_call 7; (refine (raw_any w.heap.size w1.heap.size v _ [5, 6] _ 2 2 _ HW5.out HR5.out (Nat.le_trans HLL.out (by decide)) (by decide)).mono ?_); rintro e w4 ⟨rfl, v4, h4⟩; have HV4 := Lib.hid (show Wr w4 w.heap.size w1.heap.size v4 zs by rw [HZS.out]; exact h4.wr); have HB4 := Lib.hid (HB5.out.trans h4.bel); have HK4 := Lib.hid (h4.keep.blk HBK.out (Blk.ne_ HBK.out HW5.out.blk (by decide)) (fun e => own_blk_ne HW5.out.row HBK.out (by decide) e.symm)); clear h4)
        | (go_at_call 14; (refine (bytes_any w.heap.size w1.heap.size v4 _ _ HV4.out (Nat.le_trans HL6.out (by decide))).mono ?_); rintro e w5 ⟨A5, c5, rfl, ho, hb⟩; have HO := Lib.hid ho; have HV5 := Lib.hid (HV4.out.below hb); have HB5' := Lib.hid (HB4.out.trans (hb.mono HB4.out.size)); have HK5 := Lib.hid (Blk.below HK4.out hb (Blk.lt HK4.out)); clear ho hb)
        | (go_at_call 15; (refine (read_new w.heap.size (dOf A5 w5.heap.size) A5 c5 _ w5 (own_reads' HO.out) HB5'.out.size (own_cap HO.out) (Nat.le_trans HL6.out (by decide)) H56.out (fun ad e _ => dOf_some _ e) (dOf_ne HO.out)).mono ?_); rintro e w6 ⟨rfl, hr, hb⟩; have HRD6 := Lib.hid hr; have HV6 := Lib.hid (HV5.out.below hb); have HB6 := Lib.hid (HB5'.out.trans (hb.mono HB5'.out.size)); have HK6 := Lib.hid (Blk.below HK5.out hb (Blk.lt HK5.out)); clear hr hb))
      go_upto_region 21 with (go_at_call 20; (refine (rest_s HRD6.out).mono ?_); rintro e w7 ⟨A7, c7, rfl, ho, hr, hb⟩; have HO7 := Lib.hid ho; have HR7 := Lib.hid hr; have HB7 := Lib.hid (HB6.out.trans hb); have HK7 := Lib.hid (hr.dn.keep.blk HK6.out (by have := Blk.lt HK5.out; omega) (by simp)); have HV7 := Lib.hid (HV6.out.kept hr.dn.keep (by have := HV5.out.blk.lt; omega) (fun e => by have := own_lt HV5.out.row _ e; omega)); clear ho hr hb)
      have k7 := str_own HO7.out
      have k7d := str_own (pw_own_below HO7.out (below_drew (Below.refl _ _)))
      have HA1 := Lib.hid awake_calls
      have HVd := Lib.hid (HV7.out.below (below_drew (Below.refl _ _)))
      have HKd := Lib.hid (Blk.drew HK7.out)
      have HRd := Lib.hid HR7.out.drew
      have HLz := Lib.hid (show zs.length ≤ 1000000 from Nat.le_trans HL6.out (by decide))
      refine wp_region_noPanic ?_
      refine wp_region_held_drew (S := (fun W => (convert 26 9 (.slice A7 zs.length c7)).run Try.prog W = .ok (.string (strOfNums zs)) W)) (by kernel_rfl) ?_ (fun hHeld => ?_)
      · ((try dsimp only); exact k7d)
      refine wpAnyH_take (i := 0) (oi := { dst := some 115, op := Go.Op.move (Go.Operand.tmp 5), type := 43, pos := "law.go:120", after := #[], guard := none }) (v := ?_) rfl (by kernel_rfl) (by kernel_rfl) (by kernel_rfl) (fun _ _ _ h => h) (Or.inl ⟨by rfl, ?_⟩) (by assumption) ?_
      rotate_left 1
      · (intro w hSw; (try dsimp only at hSw); go_simp; try with_reducible rfl)
      try simp only [Act.put, List.setIfInBounds_toArray, List.set_cons_zero, List.set_cons_succ]
      refine wpAnyH_ready (rs := [1]) (by kernel_rfl) (by simp) ?_
      refine AllReadyH.cons (o := { dst := some 116, op := Go.Op.call { callee := Go.Callee.value (Go.Operand.func 21), args := #[Go.Operand.tmp 115], argTypes := #[43] }, type := 4, pos := "law.go:120", after := #[{ on := 0, ground := Go.Ground.data }], guard := none }) rfl (fun K hK => ?_) AllReadyH.nil
      go_simp
      go_at_call 21
      (refine (done_b HKd.out).mono ?_); rintro e u1 ⟨rfl, rfl⟩
      clear hHeld
      refine hK.out _ _ ?_ (fun hHeld => ?_)
      · ((try dsimp only); exact k7d)
      clear hK K
      refine wpAnyH_take (i := 2) (oi := { dst := some 117, op := Go.Op.move (Go.Operand.tmp 116), type := 4, pos := "law.go:120", after := #[{ on := 1, ground := Go.Ground.data }, { on := 1, ground := Go.Ground.chain }], guard := none }) (v := ?_) rfl (by kernel_rfl) (by kernel_rfl) (by kernel_rfl) (fun _ _ _ h => h) (Or.inl ⟨by rfl, ?_⟩) (by assumption) ?_
      rotate_left 1
      · (intro w hSw; (try dsimp only at hSw); go_simp; try with_reducible rfl)
      try simp only [Act.put, List.setIfInBounds_toArray, List.set_cons_zero, List.set_cons_succ]
      refine wpAnyH_take (i := 3) (oi := { dst := some 118, op := Go.Op.move (Go.Operand.tmp 7), type := 43, pos := "law.go:120", after := #[{ on := 2, ground := Go.Ground.guard }], guard := some (2, true) }) (v := ?_) rfl (by kernel_rfl) (by kernel_rfl) (by kernel_rfl) (fun _ _ _ h => h) (Or.inl ⟨by rfl, ?_⟩) (by assumption) ?_
      rotate_left 1
      · (intro w hSw; (try dsimp only at hSw); go_simp; try with_reducible rfl)
      try simp only [Act.put, List.setIfInBounds_toArray, List.set_cons_zero, List.set_cons_succ]
      refine wpAnyH_ready (rs := [4]) (by kernel_rfl) (by simp) ?_
      refine AllReadyH.cons (o := { dst := some 119, op := Go.Op.call { callee := Go.Callee.value (Go.Operand.func 21), args := #[Go.Operand.tmp 118], argTypes := #[43] }, type := 4, pos := "law.go:120", after := #[{ on := 3, ground := Go.Ground.data }, { on := 2, ground := Go.Ground.chain }, { on := 2, ground := Go.Ground.guard }], guard := some (2, true) }) rfl (fun K hK => ?_) AllReadyH.nil
      go_simp
      go_at_call 21
      (refine (done_s HRd.out).mono ?_); rintro e u2 ⟨rfl, rfl⟩
      clear hHeld
      refine hK.out _ _ ?_ (fun hHeld => ?_)
      · ((try dsimp only); exact k7d)
      clear hK K
      refine wpAnyH_take (i := 5) (oi := { dst := some 120, op := Go.Op.pick (Go.Operand.tmp 117) (Go.Operand.tmp 119) (Go.Operand.const (Go.Value.bool false)), type := 4, pos := "law.go:120", after := #[{ on := 2, ground := Go.Ground.data }, { on := 4, ground := Go.Ground.data }], guard := none }) (v := ?_) rfl (by kernel_rfl) (by kernel_rfl) (by kernel_rfl) (fun _ _ _ h => h) (Or.inl ⟨by rfl, ?_⟩) (by assumption) ?_
      rotate_left 1
      · (intro w hSw; (try dsimp only at hSw); go_simp; try with_reducible rfl)
      try simp only [Act.put, List.setIfInBounds_toArray, List.set_cons_zero, List.set_cons_succ]
      refine wpAnyH_take (i := 6) (oi := { dst := some 121, op := Go.Op.move (Go.Operand.tmp 120), type := 4, pos := "law.go:120", after := #[{ on := 5, ground := Go.Ground.data }, { on := 4, ground := Go.Ground.chain }], guard := none }) (v := ?_) rfl (by kernel_rfl) (by kernel_rfl) (by kernel_rfl) (fun _ _ _ h => h) (Or.inl ⟨by rfl, ?_⟩) (by assumption) ?_
      rotate_left 1
      · (intro w hSw; (try dsimp only at hSw); go_simp; try with_reducible rfl)
      try simp only [Act.put, List.setIfInBounds_toArray, List.set_cons_zero, List.set_cons_succ]
      refine wpAnyH_take (i := 7) (oi := { dst := some 122, op := Go.Op.move (Go.Operand.tmp 8), type := 26, pos := "law.go:120", after := #[{ on := 6, ground := Go.Ground.guard }], guard := some (6, true) }) (v := ?_) rfl (by kernel_rfl) (by kernel_rfl) (by kernel_rfl) (fun _ _ _ h => h) (Or.inl ⟨by rfl, ?_⟩) (by assumption) ?_
      rotate_left 1
      · (intro w hSw; (try dsimp only at hSw); go_simp; try with_reducible rfl)
      try simp only [Act.put, List.setIfInBounds_toArray, List.set_cons_zero, List.set_cons_succ]
      refine wpAnyH_take (i := 8) (oi := { dst := some 123, op := Go.Op.convert 26 9 (Go.Operand.tmp 122), type := 9, pos := "law.go:120", after := #[{ on := 7, ground := Go.Ground.data }, { on := 6, ground := Go.Ground.guard }], guard := some (6, true) }) (v := ?_) rfl (by kernel_rfl) (by kernel_rfl) (by kernel_rfl) (fun _ _ _ h => h) (Or.inl ⟨by rfl, ?_⟩) (by assumption) ?_
      rotate_left 1
      · (intro w hSw; (try dsimp only at hSw); go_simp; try with_reducible rfl)
      try simp only [Act.put, List.setIfInBounds_toArray, List.set_cons_zero, List.set_cons_succ]
      refine wpAnyH_take (i := 9) (oi := { dst := some 124, op := Go.Op.move (Go.Operand.tmp 3), type := 25, pos := "law.go:120", after := #[{ on := 6, ground := Go.Ground.guard }], guard := some (6, true) }) (v := ?_) rfl (by kernel_rfl) (by kernel_rfl) (by kernel_rfl) (fun _ _ _ h => h) (Or.inl ⟨by rfl, ?_⟩) (by assumption) ?_
      rotate_left 1
      · (intro w hSw; (try dsimp only at hSw); go_simp; try with_reducible rfl)
      try simp only [Act.put, List.setIfInBounds_toArray, List.set_cons_zero, List.set_cons_succ]
      refine wpAnyH_ready (rs := [10]) (by kernel_rfl) (by simp) ?_
      refine AllReadyH.cons (o := { dst := some 125, op := Go.Op.call { callee := Go.Callee.value (Go.Operand.func 14), args := #[Go.Operand.tmp 124], argTypes := #[25] }, type := 26, pos := "law.go:120", after := #[{ on := 9, ground := Go.Ground.data }, { on := 6, ground := Go.Ground.chain }, { on := 6, ground := Go.Ground.guard }], guard := some (6, true) }) rfl (fun K hK => ?_) AllReadyH.nil
      go_simp
      go_at_call 14
      (refine (bytes_any w.heap.size w1.heap.size v4 zs _ HVd.out HLz.out).mono ?_); rintro e u3 ⟨A8, c8, rfl, ho, hb⟩; have k8 := str_own ho; have hb' := below_drew' hb; have k9 := str_own (pw_own_below HO7.out hb'); have HO8 := Lib.hid (pw_own_below HO7.out hb'); have HBf := Lib.hid (HB7.out.trans (hb'.mono HB7.out.size)); clear ho hb hb'
      clear hHeld
      refine hK.out _ _ ?_ (fun hHeld => ?_)
      · ((try dsimp only); exact k9)
      clear hK K
      refine wpAnyH_ready (rs := [11]) (by kernel_rfl) (by simp) ?_
      refine AllReadyH.cons (o := { dst := some 126, op := Go.Op.convert 26 9 (Go.Operand.tmp 125), type := 9, pos := "law.go:120", after := #[{ on := 10, ground := Go.Ground.data }, { on := 6, ground := Go.Ground.guard }], guard := some (6, true) }) rfl (fun K hK => ?_) AllReadyH.nil
      go_simp
      clear hHeld
      refine hK.out _ _ ?_ (fun hHeld => ?_)
      · ((try dsimp only); exact k9)
      clear hK K
      refine wpAnyH_take (i := 12) (oi := { dst := some 127, op := Go.Op.binOp Go.BinOp.eql 9 (Go.Operand.tmp 123) (Go.Operand.tmp 126) 9, type := 4, pos := "law.go:120", after := #[{ on := 8, ground := Go.Ground.data }, { on := 11, ground := Go.Ground.data }, { on := 6, ground := Go.Ground.guard }], guard := some (6, true) }) (v := ?_) rfl (by kernel_rfl) (by kernel_rfl) (by kernel_rfl) (fun _ _ _ h => h) (Or.inl ⟨by rfl, ?_⟩) (by assumption) ?_
      rotate_left 1
      · (intro w hSw; (try dsimp only at hSw); go_simp; try with_reducible rfl)
      try simp only [Act.put, List.setIfInBounds_toArray, List.set_cons_zero, List.set_cons_succ]
      refine wpAnyH_take (i := 13) (oi := { dst := some 128, op := Go.Op.pick (Go.Operand.tmp 121) (Go.Operand.tmp 127) (Go.Operand.const (Go.Value.bool false)), type := 4, pos := "law.go:120", after := #[{ on := 6, ground := Go.Ground.data }, { on := 12, ground := Go.Ground.data }], guard := none }) (v := ?_) rfl (by kernel_rfl) (by kernel_rfl) (by kernel_rfl) (fun _ _ _ h => h) (Or.inl ⟨by rfl, ?_⟩) (by assumption) ?_
      rotate_left 1
      · (intro w hSw; (try dsimp only at hSw); go_simp; try with_reducible rfl)
      try simp only [Act.put, List.setIfInBounds_toArray, List.set_cons_zero, List.set_cons_succ]
      refine wpAnyH_take (i := 14) (oi := { dst := some 129, op := Go.Op.move (Go.Operand.tmp 128), type := 4, pos := "law.go:120", after := #[{ on := 13, ground := Go.Ground.data }, { on := 10, ground := Go.Ground.chain }], guard := none }) (v := ?_) rfl (by kernel_rfl) (by kernel_rfl) (by kernel_rfl) (fun _ _ _ h => h) (Or.inl ⟨by rfl, ?_⟩) (by assumption) ?_
      rotate_left 1
      · (intro w hSw; (try dsimp only at hSw); go_simp; try with_reducible rfl)
      try simp only [Act.put, List.setIfInBounds_toArray, List.set_cons_zero, List.set_cons_succ]
      refine wpAnyH_ready (rs := [15]) (by kernel_rfl) (by simp) ?_
      refine AllReadyH.cons (o := { dst := some 130, op := Go.Op.call { callee := Go.Callee.value (Go.Operand.func 6), args := #[], argTypes := #[] }, type := 4, pos := "law.go:120", after := #[{ on := 14, ground := Go.Ground.chain }, { on := 14, ground := Go.Ground.guard }], guard := some (14, true) }) rfl (fun K hK => ?_) AllReadyH.nil
      go_simp
      go_at_call 6
      (refine (awake_calls _).mono ?_); rintro e u4 ⟨rfl, hb⟩; have HBg := Lib.hid (HBf.out.trans (hb.mono HBf.out.size)); have k9' := str_own (pw_own_below HO8.out hb); clear hb
      clear hHeld
      refine hK.out _ _ ?_ (fun hHeld => ?_)
      · ((try dsimp only); exact k9')
      clear hK K
      refine wpAnyH_take (i := 16) (oi := { dst := some 131, op := Go.Op.pick (Go.Operand.tmp 129) (Go.Operand.tmp 130) (Go.Operand.const (Go.Value.bool false)), type := 4, pos := "law.go:120", after := #[{ on := 14, ground := Go.Ground.data }, { on := 15, ground := Go.Ground.data }], guard := none }) (v := ?_) rfl (by kernel_rfl) (by kernel_rfl) (by kernel_rfl) (fun _ _ _ h => h) (Or.inl ⟨by rfl, ?_⟩) (by assumption) ?_
      rotate_left 1
      · (intro w hSw; (try dsimp only at hSw); go_simp; try with_reducible rfl)
      try simp only [Act.put, List.setIfInBounds_toArray, List.set_cons_zero, List.set_cons_succ]
      refine wpAnyH_take (i := 17) (oi := { dst := some 2, op := Go.Op.assign (Go.Operand.tmp 131), type := 4, pos := "law.go:120", after := #[{ on := 16, ground := Go.Ground.data }, { on := 15, ground := Go.Ground.chain }, { on := 0, ground := Go.Ground.phase }, { on := 1, ground := Go.Ground.phase }, { on := 2, ground := Go.Ground.phase }, { on := 3, ground := Go.Ground.phase }, { on := 4, ground := Go.Ground.phase }, { on := 5, ground := Go.Ground.phase }, { on := 6, ground := Go.Ground.phase }, { on := 7, ground := Go.Ground.phase }, { on := 8, ground := Go.Ground.phase }, { on := 9, ground := Go.Ground.phase }, { on := 10, ground := Go.Ground.phase }, { on := 11, ground := Go.Ground.phase }, { on := 12, ground := Go.Ground.phase }, { on := 13, ground := Go.Ground.phase }, { on := 14, ground := Go.Ground.phase }, { on := 15, ground := Go.Ground.phase }, { on := 16, ground := Go.Ground.phase }], guard := none }) (v := ?_) rfl (by kernel_rfl) (by kernel_rfl) (by kernel_rfl) (fun _ _ _ h => h) (Or.inl ⟨by rfl, ?_⟩) (by assumption) ?_
      rotate_left 1
      · (intro w hSw; (try dsimp only at hSw); go_simp; try with_reducible rfl)
      try simp only [Act.put, List.setIfInBounds_toArray, List.set_cons_zero, List.set_cons_succ]
      refine wpAnyH_done (by kernel_rfl) ?_ _
      refine NoPanic.normal ?_
      go_wp2
      go_ret
      exact ⟨rfl, HBg.out⟩
end Go.Proofs.Ytddkjmlebhiogaa.Pack
