/- JumpSpreads, walked by hand: places that may be. -/
import Derived.Test.YtgadbdhmdeiclaaBJumpSpreadsWalkJS3
namespace Go.Proofs.Ytgadbdhmdeiclaa.JS
open Go Go.RowKit Go.Proofs.Ytgadbdhmdeiclaa.PJumpSpreads Go.Proofs.Ytgadbdhmdeiclaa.BJumpSpreads Go.Proofs.Ytgadbdhmdeiclaa.Jump Go.Proofs.Ytgadbdhmdeiclaa.Bits Go.Proofs.YtgadbdhmdeiclaaW.PrintWords Go.Proofs.YtgadbdhmdeiclaaW.PrintLast
set_option linter.unusedVariables false

theorem info_i64 : (Try.prog.info? 3).map (fun i => (i.zero, i.size, i.bytes)) = some (some (.int .i64 0), 1, 8) := by kernel_rfl
/-- What is kept in the loops: the counts so far, and all that was there. -/
structure Held (w w2 : World) (g wn : Nat) (xs : List Int) (W : World) : Prop where
  own : W.ownsRow 0 3 1 (.slice (some ⟨g, 0, none⟩) wn wn) wn (nums .i64 xs)
  old : Below w2.heap.size w2 W
theorem Held.drewN {w w2 W : World} {g wn : Nat} {xs : List Int} (h : Held w w2 g wn xs W) (n : Nat) : Held w w2 g wn xs (W.drewN n) := ⟨h.own, pw_below_drewN h.old n⟩
theorem Held.store {w w2 W : World} {g wn : Nat} {xs : List Int} (h : Held w w2 g wn xs W) (hg : w2.heap.size ≤ g) (i : Nat) (x : Int) : Held w w2 g wn (xs.set i x) (W.setCell ⟨g, i, none⟩ (.int .i64 x)) := by
  refine ⟨?_, h.old.setCell (p := ⟨g, i, none⟩) hg _⟩
  have := (own_store h.own (i : Int) x).1
  simpa using this

set_option maxRecDepth 100000 in
set_option maxHeartbeats 1000000 in
theorem js_good (A0 : Option Addr) (c0 : Nat) (keys : List Int) (wn nn : Nat) (w : World) (hr0 : Kd.C (Kd.int .u64) w A0 keys.length keys) (hc0 : keys.length ≤ c0) (hk : Keys keys) (hl : keys.length ≤ 60) (h1 : 1 ≤ wn) (h2 : wn ≤ 2000) (h3 : 1 ≤ nn) (h4 : nn ≤ 2000) :
    Calls Try.prog 5 #[.slice A0 keys.length c0, .int .i64 wn, .int .i64 nn] w fun e w' => e = .returned (.bool true) ∧ Below w.heap.size w w' := by
  have HR0 := Lib.hid hr0
  have HC0 := Lib.hid hc0
  have HW := Lib.hid (right_yes wn ⟨by omega, by omega⟩)
  have HN := Lib.hid (right_yes nn ⟨by omega, by omega⟩)
  have HS := Lib.hid (spread_good wn keys hk hl (by omega) (by omega))
  have HM := Lib.hid (moves_good wn nn keys hk hl (by omega) (by omega) (by omega) (by omega))
  obtain ⟨ns, hns⟩ : ∃ ns, ns = acc wn keys keys.length := ⟨_, rfl⟩
  have HL := Lib.hid (show ns.length = wn by rw [hns, acc_len])
  rw [← hns] at HS
  have HNS := Lib.hid hns
  obtain ⟨mv, hmv⟩ : ∃ mv, mv = mvs wn nn keys := ⟨_, rfl⟩
  rw [← hmv] at HM
  have HMV := Lib.hid hmv
  have HK := Lib.hid hk
  have HLen := Lib.hid hl
  have g1 : (wn : Int) ≤ 2000 ∨ 65536 < (wn : Int) := .inl (by omega)
  have g2 : (nn : Int) ≤ 2000 ∨ 65536 < (nn : Int) := .inl (by omega)
  have t0 : decide ((keys.length : Int) > 60) = false := by simp; omega
  have km := print_make (P := Try.prog) 35 3 .i64 8 Try.underlying35 info_i64 (by decide) wn (by omega)
  clear hr0 hc0 hk hl hns hmv
  obtain ⟨was, hwas⟩ : ∃ was : Int, was = wn := ⟨_, rfl⟩
  obtain ⟨now, hnow⟩ : ∃ now : Int, now = nn := ⟨_, rfl⟩
  rw [← hwas] at HW HS HM g1 ⊢
  rw [← hnow] at HN HM g2 ⊢
  have hg1 := g1
  have hg2 := g2
  have HWas := Lib.hid hwas
  have HNow := Lib.hid hnow
  clear g1 g2 hwas hnow
  go_enter Try.func5, Try.ntmps5
  go_upto_region 1 with (fail)
  go_cut [34] (fun v wc => v = .bool false ∧ Hid (Below w.heap.size w wc))
  case first =>
    by_cases h1 : was > 2000
    · have t1 : decide (was > 2000) = true := by simp; omega
      have t2 : decide (was ≤ 65536) = false := by simp; omega
      by_cases h2 : now > 2000
      · have t3 : decide (now > 2000) = true := by simp; omega
        have t4 : decide (now ≤ 65536) = false := by simp; omega
        clear hg1 hg2 h1 h2
        go_wp2
        repeat (go_quiet (fail); try go_wp2)
        go_meet
        case rel => first | exact ⟨rfl, Lib.hid (Below.refl _ _)⟩ | exact ⟨rfl, Lib.hid (pw_below_drewN (Below.refl _ _) _)⟩
      · have t3 : decide (now > 2000) = false := by simp; omega
        clear hg1 hg2 h1 h2
        go_wp2
        repeat (go_quiet (fail); try go_wp2)
        go_meet
        case rel => first | exact ⟨rfl, Lib.hid (Below.refl _ _)⟩ | exact ⟨rfl, Lib.hid (pw_below_drewN (Below.refl _ _) _)⟩
    · have t1 : decide (was > 2000) = false := by simp; omega
      by_cases h2 : now > 2000
      · have t3 : decide (now > 2000) = true := by simp; omega
        have t4 : decide (now ≤ 65536) = false := by simp; omega
        clear hg1 hg2 h1 h2
        go_wp2
        repeat (go_quiet (fail); try go_wp2)
        go_meet
        case rel => first | exact ⟨rfl, Lib.hid (Below.refl _ _)⟩ | exact ⟨rfl, Lib.hid (pw_below_drewN (Below.refl _ _) _)⟩
      · have t3 : decide (now > 2000) = false := by simp; omega
        clear hg1 hg2 h1 h2
        go_wp2
        repeat (go_quiet (fail); try go_wp2)
        go_meet
        case rel => first | exact ⟨rfl, Lib.hid (Below.refl _ _)⟩ | exact ⟨rfl, Lib.hid (pw_below_drewN (Below.refl _ _) _)⟩
  case rest =>
    obtain ⟨rfl, HB⟩ := hcut
    clear t0 hg1 hg2
    go_upto_region 9 with (first | (go_at_call 12; (with_reducible refine (jump_Spread.calls 90000 _ _ keys was _ _ _ (Kd.C_below HR0.out HB.out) HC0.out HS.out).mono ?_); rintro e w1 ⟨v7, rfl, hr, hb⟩; obtain ⟨A7, c7, e7⟩ := Kd.R_slice hr; subst e7; have HR7 := Lib.hid hr; have HB1 := Lib.hid (show Below w.heap.size w w1 from HB.out.trans (hb.mono HB.out.size)); clear hr hb HS HB) | (first | (go_at_call 10; (with_reducible refine (right_calls _ _ _ HW.out).mono ?_); rintro e w' ⟨rfl, nd, rfl⟩; (try first | exact ⟨rfl, _, World.drewN_drewN _ _ _⟩ | exact ⟨rfl, _, Eq.trans (World.drewN_drewN _ _ _) (congrArg (World.drewN _) (Nat.add_assoc _ _ _))⟩)) | (go_at_call 10; (with_reducible refine (right_calls _ _ _ HN.out).mono ?_); rintro e w' ⟨rfl, nd, rfl⟩; (try first | exact ⟨rfl, _, World.drewN_drewN _ _ _⟩ | exact ⟨rfl, _, Eq.trans (World.drewN_drewN _ _ _) (congrArg (World.drewN _) (Nat.add_assoc _ _ _))⟩)) | (go_at_call 8; (with_reducible refine (awake_calls _).mono ?_); rintro e w' ⟨rfl, nd, rfl⟩; (try first | exact ⟨rfl, _, World.drewN_drewN _ _ _⟩ | exact ⟨rfl, _, Eq.trans (World.drewN_drewN _ _ _) (congrArg (World.drewN _) (Nat.add_assoc _ _ _))⟩))) | (go_at_call 13; (with_reducible refine (jump_Moves.calls 90000 _ _ keys was now _ _ _ (Kd.C_below HR0.out (pw_below_drewN HB1.out _)) HC0.out HM.out).mono ?_); rintro e w2 ⟨v9, rfl, hr, hb⟩; obtain ⟨A9, c9, e9⟩ := Kd.R_slice hr; subst e9; have HR9 := Lib.hid hr; have HB2 := Lib.hid (show Below w.heap.size w w2 from (pw_below_drewN HB1.out _).trans (hb.mono HB1.out.size)); have HB12 := Lib.hid hb; clear hr hb HM))
    repeat (go_quiet ((first | (go_at_call 10; (with_reducible refine (right_calls _ _ _ HW.out).mono ?_); rintro e w' ⟨rfl, nd, rfl⟩; (try first | exact ⟨rfl, _, World.drewN_drewN _ _ _⟩ | exact ⟨rfl, _, Eq.trans (World.drewN_drewN _ _ _) (congrArg (World.drewN _) (Nat.add_assoc _ _ _))⟩)) | (go_at_call 10; (with_reducible refine (right_calls _ _ _ HN.out).mono ?_); rintro e w' ⟨rfl, nd, rfl⟩; (try first | exact ⟨rfl, _, World.drewN_drewN _ _ _⟩ | exact ⟨rfl, _, Eq.trans (World.drewN_drewN _ _ _) (congrArg (World.drewN _) (Nat.add_assoc _ _ _))⟩)) | (go_at_call 8; (with_reducible refine (awake_calls _).mono ?_); rintro e w' ⟨rfl, nd, rfl⟩; (try first | exact ⟨rfl, _, World.drewN_drewN _ _ _⟩ | exact ⟨rfl, _, Eq.trans (World.drewN_drewN _ _ _) (congrArg (World.drewN _) (Nat.add_assoc _ _ _))⟩)))); try go_upto_region 9 with (first | (first | (go_at_call 10; (with_reducible refine (right_calls _ _ _ HW.out).mono ?_); rintro e w' ⟨rfl, nd, rfl⟩; (try first | exact ⟨rfl, _, World.drewN_drewN _ _ _⟩ | exact ⟨rfl, _, Eq.trans (World.drewN_drewN _ _ _) (congrArg (World.drewN _) (Nat.add_assoc _ _ _))⟩)) | (go_at_call 10; (with_reducible refine (right_calls _ _ _ HN.out).mono ?_); rintro e w' ⟨rfl, nd, rfl⟩; (try first | exact ⟨rfl, _, World.drewN_drewN _ _ _⟩ | exact ⟨rfl, _, Eq.trans (World.drewN_drewN _ _ _) (congrArg (World.drewN _) (Nat.add_assoc _ _ _))⟩)) | (go_at_call 8; (with_reducible refine (awake_calls _).mono ?_); rintro e w' ⟨rfl, nd, rfl⟩; (try first | exact ⟨rfl, _, World.drewN_drewN _ _ _⟩ | exact ⟨rfl, _, Eq.trans (World.drewN_drewN _ _ _) (congrArg (World.drewN _) (Nat.add_assoc _ _ _))⟩))) | (go_at_call 13; (with_reducible refine (jump_Moves.calls 90000 _ _ keys was now _ _ _ (Kd.C_below HR0.out (pw_below_drewN HB1.out _)) HC0.out HM.out).mono ?_); rintro e w2 ⟨v9, rfl, hr, hb⟩; obtain ⟨A9, c9, e9⟩ := Kd.R_slice hr; subst e9; have HR9 := Lib.hid hr; have HB2 := Lib.hid (show Below w.heap.size w w2 from (pw_below_drewN HB1.out _).trans (hb.mono HB1.out.size)); have HB12 := Lib.hid hb; clear hr hb HM)))
    have hwas := HWas.out
    have hnow := HNow.out
    subst hwas hnow
    have C9 := Lib.hid ((Kd.R_reads' HR9.out).2.2)
    have C7 := Lib.hid (Kd.C_below (Kd.C_drewN (Kd.R_reads' HR7.out).2.2 _) HB12.out)
    have C0 := Lib.hid (Kd.C_below HR0.out HB2.out)
    have HO := Lib.hid (fun n => own_made (w2.drewN n) 0 3 .i64 wn (by omega) (by omega))
    clear HWas HNow HR7 HR9 HB1 HC0 HW HN HB12 HR0
    go_wp2
    clear km
    have HE0 := Lib.hid (show ∀ n, Held w w2 w2.heap.size wn (acc wn keys 0) ((w2.drewN n).alloc (.cells (madeCells #[.int .i64 0] wn) 3)) from fun n => ⟨HO.out n, (pw_below_drewN (Below.refl _ _) n).alloc (Nat.le_refl _) _⟩)
    clear HO
    go_loopw [12, 13] (fun k i wr => ∃ (j : Nat), j ≤ keys.length ∧ i = .int .i64 j ∧ k = .int .i64 (cnt wn nn keys j : Nat) ∧ Hid (Held w w2 w2.heap.size wn (acc wn keys j) wr)) (fun _ i _ => keys.length - (intOf i).toNat)
    case atStart => exact ⟨0, by omega, rfl, rfl, Lib.hid (HE0.out _)⟩
    case round =>
      obtain ⟨j, hj, rfl, rfl, HE⟩ := hrel
      clear HE0
      by_cases hlt : j < keys.length
      · have hc0 := Kd.at_int (Kd.C_below C0.out HE.out.old) (j : Int) (by omega) (by omega)
        obtain ⟨ad, rfl, ck⟩ := hc0
        obtain ⟨ex, m, hm, em⟩ := key_of HK.out j hlt
        rw [ex, show ((j : Int)).toNat = j by omega] at ck
        obtain ⟨x, hx⟩ : ∃ x, x = keys[j] := ⟨_, rfl⟩
        rw [← hx] at ck em
        have hp := fw_lt wn x h1
        obtain ⟨p, hpp⟩ : ∃ p, p = fw wn x := ⟨_, rfl⟩
        have hst := acc_step wn keys j hlt
        rw [← hx, ← hpp] at hst
        rw [← hpp] at hp
        have HST := Lib.hid hst
        have HEM := Lib.hid em
        have HX := Lib.hid hx
        have HPP := Lib.hid hpp
        have HM := Lib.hid hm
        clear hst em hx hpp ex
        have p0 : (0 : Int) ≤ (j : Int) := by omega
        have p1 : (j : Int) < (keys.length : Int) := by omega
        go_upto_region 15 with (first | (go_at_call 11; (with_reducible refine (ref_calls wn x m HM.out HEM.out h1 (by omega) _).mono ?_); rintro e w' ⟨rfl, nd, rfl⟩; (try first | exact ⟨rfl, _, World.drewN_drewN _ _ _⟩ | exact ⟨rfl, _, Eq.trans (World.drewN_drewN _ _ _) (congrArg (World.drewN _) (Nat.add_assoc _ _ _))⟩)))
        rw [← HPP.out]
        clear ck
        go_cut [12, 13, 14] (fun v12 v13 v14 wc => v12 = .int .i64 (cnt wn nn keys j : Nat) ∧ v13 = .int .i64 (j : Nat) ∧ v14 = .int .i64 (p : Nat) ∧ Hid (Held w w2 w2.heap.size wn (acc wn keys (j + 1)) wc))
        case first =>
          have ho := own_at HE.out.own (p : Int) (by omega) (by omega)
          obtain ⟨c1, c2⟩ := ho
          have HS := Lib.hid (fun n => (HE.out.drewN n).store (Nat.le_refl _) p (wrap64 (rd (acc wn keys j) (p : Nat) + 1)))
          rw [← HST.out] at HS
          obtain ⟨q, hq⟩ : ∃ q, q = rd (acc wn keys j) (p : Nat) := ⟨_, rfl⟩
          rw [← hq] at c1 HS
          rw [show ((p : Int)).toNat = p by omega] at c1 c2
          have ew : IntKind.i64.wrap (q + 1) = wrap64 (q + 1) := i64_w _
          have p2 : (0 : Int) ≤ (p : Int) := by omega
          have p3 : (p : Int) < (wn : Int) := by omega
          have p4 : ((p : Int)).toNat = p := by omega
          clear hq
          go_wp2
          go_meet
          case rel => exact ⟨rfl, rfl, rfl, Lib.hid (HS.out _)⟩
        case rest =>
          obtain ⟨rfl, rfl, rfl, HE2⟩ := hcut
          clear HE
          have ck2 := (Kd.at_int (Kd.C_below C0.out HE2.out.old) (j : Int) (by omega) (by omega))
          obtain ⟨ad', had, ck⟩ := ck2
          obtain rfl : ad' = ad := (Option.some.inj had).symm
          rw [(key_of HK.out j hlt).1, ← HX.out, show ((j : Int)).toNat = j by omega] at ck
          clear had
          have hcj := cnt_le wn nn keys j
          have hj60 := HLen.out
          by_cases hc : fw wn x = fw nn x
          · have hcn := cnt_same wn nn keys j hlt (by rw [← HX.out]; exact hc)
            have t1 : ((p : Int) != (fw nn x : Nat)) = false := by rw [HPP.out, hc]; simp
            have HCN := Lib.hid hcn
            obtain ⟨y, hy⟩ : ∃ y, y = fw nn x := ⟨_, rfl⟩
            rw [← hy] at t1
            have HY := Lib.hid hy
            obtain ⟨cn, hcnn⟩ : ∃ cn, cn = cnt wn nn keys j := ⟨_, rfl⟩
            rw [← hcnn]
            have HCC := Lib.hid hcnn
            clear hcn hcnn hcj hc hy
            go_wp2_with ((go_at_call 11; (with_reducible refine (ref_calls nn x m HM.out HEM.out h3 (by omega) _).mono ?_); rintro e w' ⟨rfl, nd, rfl⟩; rw [← HY.out]))
            go_roundw
            case rel => exact ⟨j + 1, by omega, by go_num, by rw [HCN.out, ← HCC.out], Lib.hid (HE2.out.drewN _)⟩
            case measure => simp [intOf]; omega
          · have hcn := cnt_more wn nn keys j hlt (by rw [← HX.out]; exact hc)
            obtain ⟨hk1, hk2⟩ := mvs_at wn nn keys j hlt (by rw [← HX.out]; exact hc)
            have t1 : ((p : Int) != (fw nn x : Nat)) = true := by rw [HPP.out]; simp; omega
            obtain ⟨al, rfl, ck3⟩ := Kd.at_int (Kd.C_below C9.out HE2.out.old) (cnt wn nn keys j : Nat) (by omega) (by rw [HMV.out]; omega)
            rw [show rd mv (cnt wn nn keys j : Nat) = x by rw [HMV.out, HX.out, ← hk2]; unfold rd; simp [hk1], show ((cnt wn nn keys j : Nat) : Int).toNat = cnt wn nn keys j by omega] at ck3
            have hk3 : cnt wn nn keys j < mv.length := by rw [HMV.out]; exact hk1
            have HCN := Lib.hid hcn
            obtain ⟨y, hy⟩ : ∃ y, y = fw nn x := ⟨_, rfl⟩
            rw [← hy] at t1
            have HY := Lib.hid hy
            obtain ⟨cn, hcnn⟩ : ∃ cn, cn = cnt wn nn keys j := ⟨_, rfl⟩
            rw [← hcnn] at ck3 hk3 hcj ⊢
            have HCC := Lib.hid hcnn
            have q0 : (0 : Int) ≤ (cn : Int) := by omega
            have q1 : (cn : Int) < (mv.length : Int) := by omega
            have q2 : decide ((cn : Int) ≥ (mv.length : Int)) = false := by simp; omega
            have q3 : decide ((mv.length : Int) ≤ (cn : Int)) = false := by simp; omega
            clear hcn hcnn hc hy hk1 hk2 q2 q3
            go_wp2_with ((go_at_call 11; (with_reducible refine (ref_calls nn x m HM.out HEM.out h3 (by omega) _).mono ?_); rintro e w' ⟨rfl, nd, rfl⟩; rw [← HY.out]))
            go_quiet (fail)
            go_wp2
            go_roundw
            case rel => exact ⟨j + 1, by omega, by go_num, by rw [HCN.out, ← HCC.out]; go_num, Lib.hid (HE2.out.drewN _)⟩
            case measure => simp [intOf]; omega
      · obtain rfl : j = keys.length := by omega
        have hcl := cnt_all wn nn keys
        rw [← HMV.out] at hcl
        rw [hcl]
        rw [← HNS.out] at HE
        have HCL := Lib.hid hcl
        clear hcl
        go_upto_region 21 with (fail)
        go_loopw [15] (fun i wr => ∃ (j : Nat), j ≤ wn ∧ i = .int .i64 j ∧ Hid (Held w w2 w2.heap.size wn ns wr)) (fun i _ => wn - (intOf i).toNat)
        case atStart => exact ⟨0, by omega, rfl, HE⟩
        case round =>
          obtain ⟨j, hj, rfl, HE⟩ := hrel
          have hnl := HL.out
          by_cases hlt2 : j < wn
          · obtain ⟨an, rfl, ck⟩ := Kd.at_int (Kd.C_below C7.out HE.out.old) (j : Int) (by omega) (by omega)
            obtain ⟨co, _⟩ := own_at HE.out.own (j : Int) (by omega) (by omega)
            obtain ⟨x, hx⟩ : ∃ x, x = rd ns (j : Int) := ⟨_, rfl⟩
            rw [← hx, show ((j : Int)).toNat = j by omega] at ck co
            have q0 : (0 : Int) ≤ (j : Int) := by omega
            have q1 : (j : Int) < (ns.length : Int) := by omega
            have q4 : (j : Int) < (wn : Int) := by omega
            have q2 : decide ((j : Int) ≥ (ns.length : Int)) = false := by simp; omega
            have q3 : decide ((ns.length : Int) ≤ (j : Int)) = false := by simp; omega
            have q6 : j < ns.length := by omega
            clear hx q2 q3 hnl
            go_wp2
            repeat (go_quiet (fail); try go_wp2)
            go_roundw
            case rel => exact ⟨j + 1, by omega, by go_num, Lib.hid (HE.out.drewN _)⟩
            case measure => simp [intOf]; omega
          · have q4 : ¬ (j : Int) < (wn : Int) := by omega
            have q5 : ((ns.length : Int) == (wn : Int)) = true := by simp; omega
            clear hnl
            go_wp2_with ((first | (go_at_call 10; (with_reducible refine (right_calls _ _ _ HW.out).mono ?_); rintro e w' ⟨rfl, nd, rfl⟩; (try first | exact ⟨rfl, _, World.drewN_drewN _ _ _⟩ | exact ⟨rfl, _, Eq.trans (World.drewN_drewN _ _ _) (congrArg (World.drewN _) (Nat.add_assoc _ _ _))⟩)) | (go_at_call 10; (with_reducible refine (right_calls _ _ _ HN.out).mono ?_); rintro e w' ⟨rfl, nd, rfl⟩; (try first | exact ⟨rfl, _, World.drewN_drewN _ _ _⟩ | exact ⟨rfl, _, Eq.trans (World.drewN_drewN _ _ _) (congrArg (World.drewN _) (Nat.add_assoc _ _ _))⟩)) | (go_at_call 8; (with_reducible refine (awake_calls _).mono ?_); rintro e w' ⟨rfl, nd, rfl⟩; (try first | exact ⟨rfl, _, World.drewN_drewN _ _ _⟩ | exact ⟨rfl, _, Eq.trans (World.drewN_drewN _ _ _) (congrArg (World.drewN _) (Nat.add_assoc _ _ _))⟩))))
            repeat (go_quiet ((first | (go_at_call 10; (with_reducible refine (right_calls _ _ _ HW.out).mono ?_); rintro e w' ⟨rfl, nd, rfl⟩; (try first | exact ⟨rfl, _, World.drewN_drewN _ _ _⟩ | exact ⟨rfl, _, Eq.trans (World.drewN_drewN _ _ _) (congrArg (World.drewN _) (Nat.add_assoc _ _ _))⟩)) | (go_at_call 10; (with_reducible refine (right_calls _ _ _ HN.out).mono ?_); rintro e w' ⟨rfl, nd, rfl⟩; (try first | exact ⟨rfl, _, World.drewN_drewN _ _ _⟩ | exact ⟨rfl, _, Eq.trans (World.drewN_drewN _ _ _) (congrArg (World.drewN _) (Nat.add_assoc _ _ _))⟩)) | (go_at_call 8; (with_reducible refine (awake_calls _).mono ?_); rintro e w' ⟨rfl, nd, rfl⟩; (try first | exact ⟨rfl, _, World.drewN_drewN _ _ _⟩ | exact ⟨rfl, _, Eq.trans (World.drewN_drewN _ _ _) (congrArg (World.drewN _) (Nat.add_assoc _ _ _))⟩)))); try go_wp2_with ((first | (go_at_call 10; (with_reducible refine (right_calls _ _ _ HW.out).mono ?_); rintro e w' ⟨rfl, nd, rfl⟩; (try first | exact ⟨rfl, _, World.drewN_drewN _ _ _⟩ | exact ⟨rfl, _, Eq.trans (World.drewN_drewN _ _ _) (congrArg (World.drewN _) (Nat.add_assoc _ _ _))⟩)) | (go_at_call 10; (with_reducible refine (right_calls _ _ _ HN.out).mono ?_); rintro e w' ⟨rfl, nd, rfl⟩; (try first | exact ⟨rfl, _, World.drewN_drewN _ _ _⟩ | exact ⟨rfl, _, Eq.trans (World.drewN_drewN _ _ _) (congrArg (World.drewN _) (Nat.add_assoc _ _ _))⟩)) | (go_at_call 8; (with_reducible refine (awake_calls _).mono ?_); rintro e w' ⟨rfl, nd, rfl⟩; (try first | exact ⟨rfl, _, World.drewN_drewN _ _ _⟩ | exact ⟨rfl, _, Eq.trans (World.drewN_drewN _ _ _) (congrArg (World.drewN _) (Nat.add_assoc _ _ _))⟩)))))
            go_ret
            exact ⟨rfl, pw_below_drewN (HB2.out.trans (HE.out.old.mono HB2.out.size)) _⟩
end Go.Proofs.Ytgadbdhmdeiclaa.JS
