/- The reference's Same: are rows alike? -/
import Derived.Test.YtjoblpkfpfclpaaProg
import Derived.Below
import Derived.Deep.Draws
import Derived.Deep.AppendLies
import Derived.Maps.AppendAt
import Derived.OwnWalk
import Derived.Laws.BytesArg
import Derived.Laws.MakeOwn
import Derived.Laws.OwnMore
import Derived.Deep.OwnRows
import Derived.Tactics
import Derived.Lib.ConvBytes
import Derived.Laws.Slices
import Derived.WalkKit
import Derived.KernelRfl
import Derived.RowKit3
import Derived.Deep.LoopGhost
import Derived.Deep.QuietTactic
import Derived.BigQuiet
import Derived.WideLaws
import Derived.Deep.DeepCutAuto
import Derived.Deep.CutBlock
import Derived.Deep.RegionHeld3
import Derived.Laws.Rows
import Derived.Lib.AppendStr
import Derived.ArgAppend
import Derived.Laws.IdiomCopy
import Derived.OrdersHeld
import Derived.Laws.BitsLemmas
import Derived.RowKit
import Derived.Lib.Hide
import Derived.WalkSpells
import Derived.Outline
import Derived.StillTailTactics
import Derived.Lib.Strings
import Derived.Test.YtjoblpkfpfclpaaRows1
namespace Go.Proofs.Ytjoblpkfpfclpaa.Rws
open Go Go.RowKit Go.Proofs.Ytjoblpkfpfclpaa.Mem Go.Proofs.Ytjoblpkfpfclpaa.Bits Go.Proofs.YtjoblpkfpfclpaaW.PrintWords
set_option linter.unusedVariables false

theorem getD_mem {ls : List (List Int)} {i : Nat} (hi : i < ls.length) : ls.getD i [] ∈ ls := by
  rw [List.getD_eq_getElem?_getD, List.getElem?_eq_getElem hi, Option.getD_some]
  exact List.getElem_mem _
theorem bytes_getD {ls : List (List Int)} (h : AllBytes ls) (k : Nat) : Bytes (ls.getD k []) := by
  rcases Nat.lt_or_ge k ls.length with hk | hk
  · exact h _ (getD_mem hk)
  · rw [List.getD_eq_getElem?_getD, List.getElem?_eq_none hk]; intro x hx; cases hx
theorem nat8_inj {x y : Int} (h0 : 0 ≤ x ∧ x < 256) (h1 : 0 ≤ y ∧ y < 256) (h : UInt8.ofNat x.toNat = UInt8.ofNat y.toNat) : x = y := by
  have := congrArg UInt8.toNat h
  simp at this
  omega
theorem str_inj : ∀ {xs ys : List Int}, Bytes xs → Bytes ys → (strOfNums xs).data.toList = (strOfNums ys).data.toList → xs = ys := by
  intro xs ys hx hy h
  rw [strOfNums_data, strOfNums_data] at h
  induction xs generalizing ys with
  | nil => cases ys with
    | nil => rfl
    | cons y ys => simp at h
  | cons x xs ih => cases ys with
    | nil => simp at h
    | cons y ys =>
      simp only [List.map_cons, List.cons.injEq] at h
      rw [nat8_inj (hx x (by simp)) (hy y (by simp)) h.1, ih (fun z hz => hx z (by simp [hz])) (fun z hz => hy z (by simp [hz])) h.2]
theorem str_eq {xs ys : List Int} (hx : Bytes xs) (hy : Bytes ys) : ((strOfNums xs).toList == (strOfNums ys).toList) = decide (xs = ys) := by
  by_cases h : xs = ys
  · subst h; simp
  · rw [decide_eq_false h]
    refine beq_eq_false_iff_ne.mpr fun e => h (str_inj hx hy ?_)
    rwa [Go.Lib.toList_data, Go.Lib.toList_data] at e
theorem take_eq_step {a b : List (List Int)} {k : Nat} (h : a.take k = b.take k) (ha : k < a.length) (hb : k < b.length) (he : a.getD k [] = b.getD k []) : a.take (k + 1) = b.take (k + 1) := by
  rw [List.getD_eq_getElem?_getD, List.getD_eq_getElem?_getD, List.getElem?_eq_getElem ha, List.getElem?_eq_getElem hb] at he
  simp only [Option.getD_some] at he
  rw [List.take_succ_eq_append_getElem ha, List.take_succ_eq_append_getElem hb, h, he]

set_option maxRecDepth 100000 in
set_option maxHeartbeats 1000000 in
theorem ref_same (A0 A1 : Option Addr) (c0 c1 : Nat) (a b : List (List Int)) (w : World) (hA : RowsC w A0 a) (hB : RowsC w A1 b) (ba : AllBytes a) (bb : AllBytes b) (la : a.length ≤ 1000000) (lb : b.length ≤ 1000000) :
    Calls Try.prog 26 #[.slice A0 a.length c0, .slice A1 b.length c1] w fun e w' => e = .returned (.bool (decide (a = b))) ∧ ∃ n, w' = w.drewN n := by
  have HA := Lib.hid hA
  have HB := Lib.hid hB
  have BA := Lib.hid ba
  have BB := Lib.hid bb
  clear hA hB ba bb
  obtain ⟨n, hn⟩ : ∃ n, n = a.length := ⟨_, rfl⟩
  obtain ⟨m, hm⟩ : ∃ n, n = b.length := ⟨_, rfl⟩
  rw [← hn] at la ⊢
  rw [← hm] at lb ⊢
  have HN := Lib.hid hn
  have HM := Lib.hid hm
  clear hn hm
  go_enter Try.func26, Try.ntmps26
  go_wp2
  repeat (go_quiet (fail); try go_wp2)
  go_loopw [5] (fun i wr => ∃ (k : Nat), k ≤ n ∧ k ≤ m ∧ i = .int .i64 k ∧ Hid (a.take k = b.take k) ∧ Hid (∃ j, wr = w.drewN j)) (fun i _ => n - (intOf i).toNat)
  case atStart => exact ⟨0, by omega, by omega, rfl, Lib.hid rfl, Lib.hid ⟨0, rfl⟩⟩
  case round =>
    obtain ⟨k, hkn, hkm, rfl, HT, HW⟩ := hrel
    by_cases h1 : k < n
    · by_cases h2 : k < m
      · obtain ⟨ad, A2, k2, rfl, ca, _, ra⟩ := HA.out.get k (by rw [← HN.out]; exact h1)
        obtain ⟨bd, A3, k3, rfl, cb, _, rb⟩ := HB.out.get k (by rw [← HM.out]; exact h2)
        have hs := str_eq (bytes_getD BA.out k) (bytes_getD BB.out k)
        have HC1 := Lib.hid (fun q => Kd.C_string (P := Try.prog) (A := A2) (c := k2) Try.underlying38 Try.underlying5 Try.underlying9 (Kd.C_drewN ra q))
        have HC2 := Lib.hid (fun q => Kd.C_string (P := Try.prog) (A := A3) (c := k3) Try.underlying38 Try.underlying5 Try.underlying9 (Kd.C_drewN rb q))
        have HS := Lib.hid (fun (e : a.getD k [] = b.getD k []) => take_eq_step HT.out (by rw [← HN.out]; exact h1) (by rw [← HM.out]; exact h2) e)
        obtain ⟨j, hw⟩ := HW.out
        have hc1 := HC1.out j
        have hc2 := HC2.out j
        have hd1 := HC1.out (j + 1)
        have hd2 := HC2.out (j + 1)
        rw [← World.drewN_drewN, ← hw] at hd1 hd2
        rw [← hw] at hc1 hc2
        have ca : wr.cell? (ad.add k) = some (.slice A2 (a.getD k []).length k2) := by rw [hw]; exact ca
        have cb : wr.cell? (bd.add k) = some (.slice A3 (b.getD k []).length k3) := by rw [hw]; exact cb
        clear hw
        obtain ⟨x, hx⟩ : ∃ x, x = a.getD k [] := ⟨_, rfl⟩
        obtain ⟨y, hy⟩ : ∃ y, y = b.getD k [] := ⟨_, rfl⟩
        rw [← hx] at ca hs hc1 hd1
        rw [← hy] at cb hs hc2 hd2
        have HX := Lib.hid hx
        have HY := Lib.hid hy
        have p0 : (0 : Int) ≤ (k : Int) := by omega
        have p1 : (k : Int) < (n : Int) := by omega
        have p2 : (k : Int) < (m : Int) := by omega
        clear hx hy ra rb HC1 HC2
        by_cases he : x = y
        · rw [decide_eq_true he] at hs
          have hs2 : ((strOfNums x).toList != (strOfNums y).toList) = false := by simpa [bne] using hs
          have HE := Lib.hid he
          clear he
          go_wp2
          refine wp_region_still_tail 10 (by kernel_rfl) (by kernel_rfl) ?_
          change wpStill _ _ (wr.drewN 1) (fun a' => wpList _ _ _ _ a' (wr.drewN 1)) _ _
          simp only [List.take_succ_cons, List.take_zero, List.drop_succ_cons, List.drop_zero]
          repeat still_step
          refine wpStill_nil ?_
          go_wp2
          go_roundw
          case rel => exact ⟨k + 1, by omega, by omega, by go_num, Lib.hid (HS.out (by rw [← HX.out, ← HY.out]; exact HE.out)), Lib.hid (by obtain ⟨j, hw⟩ := HW.out; rw [hw]; first | exact ⟨_, rfl⟩ | exact ⟨_, World.drewN_drewN _ _ _⟩ | exact ⟨j + 1, rfl⟩)⟩
          case measure => simp [intOf]; omega
        · rw [decide_eq_false he] at hs
          have hs2 : ((strOfNums x).toList != (strOfNums y).toList) = true := by simpa [bne] using hs
          have HE := Lib.hid he
          clear he
          go_wp2
          refine wp_region_still_tail 10 (by kernel_rfl) (by kernel_rfl) ?_
          change wpStill _ _ (wr.drewN 1) (fun a' => wpList _ _ _ _ a' (wr.drewN 1)) _ _
          simp only [List.take_succ_cons, List.take_zero, List.drop_succ_cons, List.drop_zero]
          repeat still_step
          refine wpStill_nil ?_
          go_wp2
          go_ret
          refine ⟨?_, by obtain ⟨j, hw⟩ := HW.out; rw [hw]; first | exact ⟨_, rfl⟩ | exact ⟨_, World.drewN_drewN _ _ _⟩ | exact ⟨j + 1, rfl⟩⟩
          rw [decide_eq_false (fun e => HE.out (by rw [HX.out, HY.out, e]))]
          rfl
      · obtain rfl : k = m := by omega
        go_wp2
        repeat (go_quiet (fail); try go_wp2)
        go_ret
        refine ⟨?_, by obtain ⟨j, hw⟩ := HW.out; rw [hw]; first | exact ⟨_, rfl⟩ | exact ⟨_, World.drewN_drewN _ _ _⟩ | exact ⟨j + 1, rfl⟩⟩
        rw [decide_eq_false (fun e => by have := HN.out; have := HM.out; rw [e] at *; omega)]
        simp; omega
    · obtain rfl : k = n := by omega
      go_wp2
      repeat (go_quiet (fail); try go_wp2)
      go_ret
      refine ⟨?_, by obtain ⟨j, hw⟩ := HW.out; rw [hw]; first | exact ⟨_, rfl⟩ | exact ⟨_, World.drewN_drewN _ _ _⟩ | exact ⟨j + 1, rfl⟩⟩
      by_cases he : k = m
      · subst he
        rw [decide_eq_true (by have h := HT.out; rw [List.take_of_length_le (by rw [← HN.out]; omega), List.take_of_length_le (by rw [← HM.out]; omega)] at h; exact h)]
        simp
      · rw [decide_eq_false (fun e => by have := HN.out; have := HM.out; rw [e] at *; omega)]
        simp; omega
set_option maxRecDepth 100000 in
theorem same_true (A0 A1 : Option Addr) (c0 c1 m0 m1 : Nat) (a b : List (List Int)) (w : World) (hA : Kd.C kRow w A0 m0 a) (hm0 : m0 = a.length) (hB : Kd.C kRow w A1 m1 b) (hm1 : m1 = b.length) (ba : AllBytes a) (la : a.length ≤ 1000000) (e : a = b) :
    Calls Try.prog 17 #[.slice A0 m0 c0, .slice A1 m1 c1] w fun e w' => e = .returned (.bool true) ∧ Below w.heap.size w w' := by
  subst e hm0 hm1
  have SC := Lib.hid (ref_same A0 A1 c0 c1 a a w hA hB ba ba la la)
  obtain ⟨n, hn⟩ : ∃ n, n = a.length := ⟨_, rfl⟩
  rw [← hn] at SC ⊢
  clear hA hB ba la hn
  go_enter Try.func17, Try.ntmps17
  go_wp2_with (go_at_call 26; (with_reducible refine SC.out.mono ?_); rintro e w1 ⟨rfl, q, rfl⟩)
  go_ret
  exact ⟨by simp, pw_below_drewN (Below.refl _ _) _⟩
end Go.Proofs.Ytjoblpkfpfclpaa.Rws
