/- JumpSpreads, walked by hand: places that may not be. -/
import Derived.Test.YtgadbdhmdeiclaaBJumpSpreadsWalkJS
namespace Go.Proofs.Ytgadbdhmdeiclaa.JS
open Go Go.RowKit Go.Proofs.Ytgadbdhmdeiclaa.PJumpSpreads Go.Proofs.Ytgadbdhmdeiclaa.BJumpSpreads Go.Proofs.Ytgadbdhmdeiclaa.Jump Go.Proofs.Ytgadbdhmdeiclaa.Bits Go.Proofs.YtgadbdhmdeiclaaW.PrintWords Go.Proofs.YtgadbdhmdeiclaaW.PrintLast
set_option linter.unusedVariables false

/-- Behind the guard: nothing is written. -/
theorem guard_facts (len : Nat) (was now : Int) (h : ¬ Late len was now) : len ≤ 60 ∧ (was ≤ 2000 ∨ 65536 < was) ∧ (now ≤ 2000 ∨ 65536 < now) := by
  unfold Late at h
  omega



set_option maxRecDepth 100000 in
theorem js_wrong (A0 : Option Addr) (c0 : Nat) (keys : List Int) (was now : Int) (w : World) (hr0 : Kd.C (Kd.int .u64) w A0 keys.length keys) (hc0 : keys.length ≤ c0) (h : ¬ Late keys.length was now)
    (hw : coldframelaw40_right.f was = some false) (hs : jump_Spread.f 90000 keys was = some ([], 1)) (f : Int) (hm : jump_Moves.f 90000 keys was now = some ([], f)) (hf : f = 1 ∨ f = 0 ∧ keys.length = 0) :
    Calls Try.prog 5 #[.slice A0 keys.length c0, .int .i64 was, .int .i64 now] w fun e w' => e = .returned (.bool true) ∧ Below w.heap.size w w' := by
  obtain ⟨hg0, hg1, hg2⟩ := guard_facts _ _ _ h
  have HR0 := Lib.hid hr0
  have HC0 := Lib.hid hc0
  have HW := Lib.hid hw
  have HN := Lib.hid hw
  have HS := Lib.hid hs
  have HM := Lib.hid hm
  clear hr0 hc0 hw hs hm h
  have t0 : decide ((keys.length : Int) > 60) = false := by simp; omega
  have HF := Lib.hid hf
  clear hf hg0
  go_enter Try.func5, Try.ntmps5
  go_upto_region 1 with (fail)
  go_cut [34] (fun v wc => v = .bool false ∧ Hid (Below w.heap.size w wc))
  case first =>
    by_cases h1 : was > 2000
    · have t1 : decide (was > 2000) = true := by simp; omega
      have t2 : decide (was ≤ 65536) = false := by simp; omega
      by_cases h2 : now > 2000
      · have t3 : decide (now > 2000) = true := by simp; omega
        have t4 : decide (now ≤ 65536) = false := by simp; omega
        clear hg1 hg2 h1 h2
        go_wp2
        repeat (go_quiet (fail); try go_wp2)
        go_meet
        case rel => first | exact ⟨rfl, Lib.hid (Below.refl _ _)⟩ | exact ⟨rfl, Lib.hid (pw_below_drewN (Below.refl _ _) _)⟩
      · have t3 : decide (now > 2000) = false := by simp; omega
        clear hg1 hg2 h1 h2
        go_wp2
        repeat (go_quiet (fail); try go_wp2)
        go_meet
        case rel => first | exact ⟨rfl, Lib.hid (Below.refl _ _)⟩ | exact ⟨rfl, Lib.hid (pw_below_drewN (Below.refl _ _) _)⟩
    · have t1 : decide (was > 2000) = false := by simp; omega
      by_cases h2 : now > 2000
      · have t3 : decide (now > 2000) = true := by simp; omega
        have t4 : decide (now ≤ 65536) = false := by simp; omega
        clear hg1 hg2 h1 h2
        go_wp2
        repeat (go_quiet (fail); try go_wp2)
        go_meet
        case rel => first | exact ⟨rfl, Lib.hid (Below.refl _ _)⟩ | exact ⟨rfl, Lib.hid (pw_below_drewN (Below.refl _ _) _)⟩
      · have t3 : decide (now > 2000) = false := by simp; omega
        clear hg1 hg2 h1 h2
        go_wp2
        repeat (go_quiet (fail); try go_wp2)
        go_meet
        case rel => first | exact ⟨rfl, Lib.hid (Below.refl _ _)⟩ | exact ⟨rfl, Lib.hid (pw_below_drewN (Below.refl _ _) _)⟩
  case rest =>
    obtain ⟨rfl, HB⟩ := hcut
    clear t0 hg1 hg2
    rcases HF.out with rfl | ⟨rfl, hk0⟩
    · clear HF
      go_wp2_with (first | (go_at_call 12; (with_reducible refine (jump_Spread.calls 90000 _ _ keys was _ _ _ (Kd.C_below HR0.out HB.out) HC0.out HS.out).mono ?_); rintro e w1 ⟨v7, rfl, hr, hb⟩; obtain ⟨A7, c7, e7⟩ := Kd.R_slice hr; subst e7; have HR7 := Lib.hid hr; have HB1 := Lib.hid (show Below w.heap.size w w1 from HB.out.trans (hb.mono HB.out.size)); clear hr hb HS HB) | (first | (go_at_call 10; (with_reducible refine (right_calls _ _ _ HW.out).mono ?_); rintro e w' ⟨rfl, nd, rfl⟩; (try first | exact ⟨rfl, _, World.drewN_drewN _ _ _⟩ | exact ⟨rfl, _, Eq.trans (World.drewN_drewN _ _ _) (congrArg (World.drewN _) (Nat.add_assoc _ _ _))⟩)) | (go_at_call 10; (with_reducible refine (right_calls _ _ _ HN.out).mono ?_); rintro e w' ⟨rfl, nd, rfl⟩; (try first | exact ⟨rfl, _, World.drewN_drewN _ _ _⟩ | exact ⟨rfl, _, Eq.trans (World.drewN_drewN _ _ _) (congrArg (World.drewN _) (Nat.add_assoc _ _ _))⟩)) | (go_at_call 8; (with_reducible refine (awake_calls _).mono ?_); rintro e w' ⟨rfl, nd, rfl⟩; (try first | exact ⟨rfl, _, World.drewN_drewN _ _ _⟩ | exact ⟨rfl, _, Eq.trans (World.drewN_drewN _ _ _) (congrArg (World.drewN _) (Nat.add_assoc _ _ _))⟩))) | (go_at_call 13; (with_reducible refine (jump_Moves.calls 90000 _ _ keys was now _ _ _ (Kd.C_below HR0.out (pw_below_drewN HB1.out _)) HC0.out HM.out).mono ?_); rintro e w2 ⟨v9, rfl, hr, hb⟩; obtain ⟨A9, c9, e9⟩ := Kd.R_slice hr; subst e9; have HR9 := Lib.hid hr; have HB2 := Lib.hid (show Below w.heap.size w w2 from (pw_below_drewN HB1.out _).trans (hb.mono HB1.out.size)); have HB12 := Lib.hid hb; clear hr hb HM))
      repeat (go_quiet ((first | (go_at_call 10; (with_reducible refine (right_calls _ _ _ HW.out).mono ?_); rintro e w' ⟨rfl, nd, rfl⟩; (try first | exact ⟨rfl, _, World.drewN_drewN _ _ _⟩ | exact ⟨rfl, _, Eq.trans (World.drewN_drewN _ _ _) (congrArg (World.drewN _) (Nat.add_assoc _ _ _))⟩)) | (go_at_call 10; (with_reducible refine (right_calls _ _ _ HN.out).mono ?_); rintro e w' ⟨rfl, nd, rfl⟩; (try first | exact ⟨rfl, _, World.drewN_drewN _ _ _⟩ | exact ⟨rfl, _, Eq.trans (World.drewN_drewN _ _ _) (congrArg (World.drewN _) (Nat.add_assoc _ _ _))⟩)) | (go_at_call 8; (with_reducible refine (awake_calls _).mono ?_); rintro e w' ⟨rfl, nd, rfl⟩; (try first | exact ⟨rfl, _, World.drewN_drewN _ _ _⟩ | exact ⟨rfl, _, Eq.trans (World.drewN_drewN _ _ _) (congrArg (World.drewN _) (Nat.add_assoc _ _ _))⟩)))); try go_wp2_with (first | (first | (go_at_call 10; (with_reducible refine (right_calls _ _ _ HW.out).mono ?_); rintro e w' ⟨rfl, nd, rfl⟩; (try first | exact ⟨rfl, _, World.drewN_drewN _ _ _⟩ | exact ⟨rfl, _, Eq.trans (World.drewN_drewN _ _ _) (congrArg (World.drewN _) (Nat.add_assoc _ _ _))⟩)) | (go_at_call 10; (with_reducible refine (right_calls _ _ _ HN.out).mono ?_); rintro e w' ⟨rfl, nd, rfl⟩; (try first | exact ⟨rfl, _, World.drewN_drewN _ _ _⟩ | exact ⟨rfl, _, Eq.trans (World.drewN_drewN _ _ _) (congrArg (World.drewN _) (Nat.add_assoc _ _ _))⟩)) | (go_at_call 8; (with_reducible refine (awake_calls _).mono ?_); rintro e w' ⟨rfl, nd, rfl⟩; (try first | exact ⟨rfl, _, World.drewN_drewN _ _ _⟩ | exact ⟨rfl, _, Eq.trans (World.drewN_drewN _ _ _) (congrArg (World.drewN _) (Nat.add_assoc _ _ _))⟩))) | (go_at_call 13; (with_reducible refine (jump_Moves.calls 90000 _ _ keys was now _ _ _ (Kd.C_below HR0.out (pw_below_drewN HB1.out _)) HC0.out HM.out).mono ?_); rintro e w2 ⟨v9, rfl, hr, hb⟩; obtain ⟨A9, c9, e9⟩ := Kd.R_slice hr; subst e9; have HR9 := Lib.hid hr; have HB2 := Lib.hid (show Below w.heap.size w w2 from (pw_below_drewN HB1.out _).trans (hb.mono HB1.out.size)); have HB12 := Lib.hid hb; clear hr hb HM)))
      go_ret
      exact ⟨rfl, pw_below_drewN HB2.out _⟩
    · have e0 : ((keys.length : Int) == 0) = true := by simp [hk0]
      clear HF hk0
      go_wp2_with (first | (go_at_call 12; (with_reducible refine (jump_Spread.calls 90000 _ _ keys was _ _ _ (Kd.C_below HR0.out HB.out) HC0.out HS.out).mono ?_); rintro e w1 ⟨v7, rfl, hr, hb⟩; obtain ⟨A7, c7, e7⟩ := Kd.R_slice hr; subst e7; have HR7 := Lib.hid hr; have HB1 := Lib.hid (show Below w.heap.size w w1 from HB.out.trans (hb.mono HB.out.size)); clear hr hb HS HB) | (first | (go_at_call 10; (with_reducible refine (right_calls _ _ _ HW.out).mono ?_); rintro e w' ⟨rfl, nd, rfl⟩; (try first | exact ⟨rfl, _, World.drewN_drewN _ _ _⟩ | exact ⟨rfl, _, Eq.trans (World.drewN_drewN _ _ _) (congrArg (World.drewN _) (Nat.add_assoc _ _ _))⟩)) | (go_at_call 10; (with_reducible refine (right_calls _ _ _ HN.out).mono ?_); rintro e w' ⟨rfl, nd, rfl⟩; (try first | exact ⟨rfl, _, World.drewN_drewN _ _ _⟩ | exact ⟨rfl, _, Eq.trans (World.drewN_drewN _ _ _) (congrArg (World.drewN _) (Nat.add_assoc _ _ _))⟩)) | (go_at_call 8; (with_reducible refine (awake_calls _).mono ?_); rintro e w' ⟨rfl, nd, rfl⟩; (try first | exact ⟨rfl, _, World.drewN_drewN _ _ _⟩ | exact ⟨rfl, _, Eq.trans (World.drewN_drewN _ _ _) (congrArg (World.drewN _) (Nat.add_assoc _ _ _))⟩))) | (go_at_call 13; (with_reducible refine (jump_Moves.calls 90000 _ _ keys was now _ _ _ (Kd.C_below HR0.out (pw_below_drewN HB1.out _)) HC0.out HM.out).mono ?_); rintro e w2 ⟨v9, rfl, hr, hb⟩; obtain ⟨A9, c9, e9⟩ := Kd.R_slice hr; subst e9; have HR9 := Lib.hid hr; have HB2 := Lib.hid (show Below w.heap.size w w2 from (pw_below_drewN HB1.out _).trans (hb.mono HB1.out.size)); have HB12 := Lib.hid hb; clear hr hb HM))
      repeat (go_quiet ((first | (go_at_call 10; (with_reducible refine (right_calls _ _ _ HW.out).mono ?_); rintro e w' ⟨rfl, nd, rfl⟩; (try first | exact ⟨rfl, _, World.drewN_drewN _ _ _⟩ | exact ⟨rfl, _, Eq.trans (World.drewN_drewN _ _ _) (congrArg (World.drewN _) (Nat.add_assoc _ _ _))⟩)) | (go_at_call 10; (with_reducible refine (right_calls _ _ _ HN.out).mono ?_); rintro e w' ⟨rfl, nd, rfl⟩; (try first | exact ⟨rfl, _, World.drewN_drewN _ _ _⟩ | exact ⟨rfl, _, Eq.trans (World.drewN_drewN _ _ _) (congrArg (World.drewN _) (Nat.add_assoc _ _ _))⟩)) | (go_at_call 8; (with_reducible refine (awake_calls _).mono ?_); rintro e w' ⟨rfl, nd, rfl⟩; (try first | exact ⟨rfl, _, World.drewN_drewN _ _ _⟩ | exact ⟨rfl, _, Eq.trans (World.drewN_drewN _ _ _) (congrArg (World.drewN _) (Nat.add_assoc _ _ _))⟩)))); try go_wp2_with (first | (first | (go_at_call 10; (with_reducible refine (right_calls _ _ _ HW.out).mono ?_); rintro e w' ⟨rfl, nd, rfl⟩; (try first | exact ⟨rfl, _, World.drewN_drewN _ _ _⟩ | exact ⟨rfl, _, Eq.trans (World.drewN_drewN _ _ _) (congrArg (World.drewN _) (Nat.add_assoc _ _ _))⟩)) | (go_at_call 10; (with_reducible refine (right_calls _ _ _ HN.out).mono ?_); rintro e w' ⟨rfl, nd, rfl⟩; (try first | exact ⟨rfl, _, World.drewN_drewN _ _ _⟩ | exact ⟨rfl, _, Eq.trans (World.drewN_drewN _ _ _) (congrArg (World.drewN _) (Nat.add_assoc _ _ _))⟩)) | (go_at_call 8; (with_reducible refine (awake_calls _).mono ?_); rintro e w' ⟨rfl, nd, rfl⟩; (try first | exact ⟨rfl, _, World.drewN_drewN _ _ _⟩ | exact ⟨rfl, _, Eq.trans (World.drewN_drewN _ _ _) (congrArg (World.drewN _) (Nat.add_assoc _ _ _))⟩))) | (go_at_call 13; (with_reducible refine (jump_Moves.calls 90000 _ _ keys was now _ _ _ (Kd.C_below HR0.out (pw_below_drewN HB1.out _)) HC0.out HM.out).mono ?_); rintro e w2 ⟨v9, rfl, hr, hb⟩; obtain ⟨A9, c9, e9⟩ := Kd.R_slice hr; subst e9; have HR9 := Lib.hid hr; have HB2 := Lib.hid (show Below w.heap.size w w2 from (pw_below_drewN HB1.out _).trans (hb.mono HB1.out.size)); have HB12 := Lib.hid hb; clear hr hb HM)))
      go_ret
      exact ⟨rfl, pw_below_drewN HB2.out _⟩
end Go.Proofs.Ytgadbdhmdeiclaa.JS
