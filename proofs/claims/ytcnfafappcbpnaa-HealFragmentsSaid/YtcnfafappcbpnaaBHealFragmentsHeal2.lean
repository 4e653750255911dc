/- Fragments: the program's Fragment. -/
import Derived.Test.YtcnfafappcbpnaaProg
import Derived.Below
import Derived.Deep.Draws
import Derived.Deep.AppendLies
import Derived.Maps.AppendAt
import Derived.OwnWalk
import Derived.Laws.BytesArg
import Derived.Laws.MakeOwn
import Derived.Laws.OwnMore
import Derived.Deep.OwnRows
import Derived.Tactics
import Derived.Lib.ConvBytes
import Derived.Laws.Slices
import Derived.WalkKit
import Derived.KernelRfl
import Derived.RowKit3
import Derived.Deep.LoopGhost
import Derived.Deep.QuietTactic
import Derived.BigQuiet
import Derived.WideLaws
import Derived.Deep.DeepCutAuto
import Derived.Deep.CutBlock
import Derived.Deep.RegionHeld3
import Derived.Laws.Rows
import Derived.Lib.AppendStr
import Derived.ArgAppend
import Derived.Laws.IdiomCopy
import Derived.OrdersHeld
import Derived.Laws.BitsLemmas
import Derived.RowKit
import Derived.Lib.Hide
import Derived.WalkSpells
import Derived.StillTailTactics
import Derived.Outline
import Derived.OrdersHeld
import Derived.Deep.RegionHeld3
import Derived.Test.YtcnfafappcbpnaaGiMul
import Derived.Test.YtcnfafappcbpnaaBHealFragmentsHeal1
namespace Go.Proofs.Ytcnfafappcbpnaa.Str
open Go Go.RowKit Go.Proofs.Ytcnfafappcbpnaa.PHealFragments Go.Proofs.Ytcnfafappcbpnaa.BHealFragments Go.Proofs.Ytcnfafappcbpnaa.Gf Go.Proofs.Ytcnfafappcbpnaa.Gi Go.Proofs.Ytcnfafappcbpnaa.Bits Go.Proofs.Ytcnfafappcbpnaa.Mem Go.Proofs.Ytcnfafappcbpnaa.VPts Go.Proofs.Ytcnfafappcbpnaa.Rws Go.Proofs.YtcnfafappcbpnaaW.PrintWords Go.Proofs.YtcnfafappcbpnaaW.PrintLast
set_option linter.unusedVariables false

theorem fragMid_zero (x m sz : Nat) (sh : List Int) : fragMid x m sz sh 0 = fragL x m sz sh := line_congr sz _ _ (fun i hi => by rw [if_neg (Nat.not_lt_zero i)])
theorem fragMid_full (x m sz : Nat) (sh : List Int) : fragMid x m sz sh sz = fragL x (m + 1) sz sh := line_congr sz _ _ (fun i hi => by rw [if_pos hi])
theorem fragMid_set (x m sz : Nat) (sh : List Int) (i : Nat) (hi : i < sz) : (fragMid x m sz sh i).set i (fragTo x (m + 1) sz sh i) = fragMid x m sz sh (i + 1) := by
  unfold fragMid
  rw [line_set sz _ i hi]
  refine line_congr sz _ _ (fun k hk => ?_)
  by_cases e : k = i
  · subst e; rw [if_pos rfl, if_pos (by omega)]
  · rw [if_neg e]
    by_cases h : k < i
    · rw [if_pos h, if_pos (by omega)]
    · rw [if_neg h, if_neg (by omega)]
theorem fragMid_get (x m sz : Nat) (sh : List Int) (i : Nat) (hi : i < sz) : (fragMid x m sz sh i).getD i 0 = fragTo x m sz sh i := by
  unfold fragMid
  rw [line_get sz _ i hi, if_neg (Nat.lt_irrefl i)]
theorem fragMid_len (x m sz : Nat) (sh : List Int) (i : Nat) : (fragMid x m sz sh i).length = sz := line_len _ _
theorem fragL_len (x m sz : Nat) (sh : List Int) : (fragL x m sz sh).length = sz := line_len _ _
theorem fragL_zero (x sz : Nat) (sh : List Int) : fragL x 0 sz sh = List.replicate sz 0 := line_zero sz
theorem at_row {w : World} {A : Option Addr} {n : Nat} {xs : List Int} (h : (Kd.int .u8).C w A n xs) (i : Nat) (hi : i < n) : ∃ ad, A = some ad ∧ w.cell? (ad.add i) = some (.int .u8 (xs.getD i 0)) := by
  obtain ⟨ad, e, hc⟩ := Kd.at_int h (i : Int) (by omega) (by omega)
  simp only [Int.toNat_natCast] at hc
  exact ⟨ad, e, by simpa [rd] using hc⟩
/-- A row's cells. -/
def RowAt (w : World) (ad : Addr) (n : Nat) (xs : List Int) : Prop := ∀ j, j < n → w.cell? (ad.add j) = some (.int .u8 (xs.getD j 0))
theorem RowAt.of {w : World} {A : Option Addr} {n : Nat} {xs : List Int} (h : (Kd.int .u8).C w A n xs) (hn : 0 < n) : ∃ ad, A = some ad ∧ RowAt w ad n xs := by
  obtain ⟨ad, e, _⟩ := at_row h 0 hn
  refine ⟨ad, e, fun j hj => ?_⟩
  obtain ⟨ad', e', hc⟩ := at_row h j hj
  rw [e] at e'
  injection e' with e'
  subst e'
  exact hc
theorem RowAt.far {w : World} {ad : Addr} {n : Nat} {xs : List Int} (h : RowAt w ad n xs) {p : Addr} (hp : ad.block ≠ p.block) (u : Value) : RowAt (w.setCell p u) ad n xs :=
  fun j hj => (World.cell?_setCell_other w p (ad.add j) u (fun e => hp (by rw [e, block_of_add]))).trans (h j hj)
theorem RowAt.drewN {w : World} {ad : Addr} {n : Nat} {xs : List Int} (h : RowAt w ad n xs) (q : Nat) : RowAt (w.drewN q) ad n xs := h
theorem RowAt.drew {w : World} {ad : Addr} {n : Nat} {xs : List Int} (h : RowAt w ad n xs) : RowAt w.drew ad n xs := h
theorem pows_get (x n i : Nat) (hi : i < n) : (pows x n).getD i 0 = ((gp x i : Nat) : Int) := by simp [pows, List.getD_eq_getElem?_getD, hi]
set_option maxRecDepth 100000 in
set_option maxHeartbeats 4000000 in
theorem fragment_good (v : Value) (n k lost sz L : Nat) (A0 : Option Addr) (c0 : Nat) (sh : List Int) (w : World) (hc : IsCodeP w v n k) (k1 : 2 ≤ k) (k2 : k ≤ 8) (n2 : n ≤ 24) (hs : lost < n)
    (hr : (Kd.int .u8).C w A0 L sh) (hL : L = sh.length) (hLs : L = (k - 1) * sz) (hsz : 1 ≤ sz) (hL1 : L ≤ 1000) (hbyt : ∀ x ∈ sh, Byt x) :
    Calls Try.prog 10 #[v, .int .i64 lost, .slice A0 L c0] w fun e w' => ∃ A c, e = .returned (.tuple #[.slice A sz c, .int .i64 0]) ∧ (Kd.int .u8).C w' A sz (fragL (ptN n k lost) (k - 1) sz sh) ∧ Below w.heap.size w w' := by
  have NN := Lib.hid (fun W (hB : Below w.heap.size w W) => n_any v n k W (hc.below hB).code)
  have PP := Lib.hid (fun W (hB : Below w.heap.size w W) => parts_any v n k W (hc.below hB).code (by omega) (by omega))
  have HF := Lib.hid (fun W (hB : Below w.heap.size w W) => half_any v n k lost W (hc.below hB) k1 k2 n2 hs)
  have hx2 := ptN_lt n k lost
  obtain ⟨x, hx⟩ : ∃ x, x = ptN n k lost := ⟨_, rfl⟩
  rw [← hx] at HF hx2 ⊢
  obtain ⟨a, ha⟩ : ∃ a, a = k - 1 := ⟨_, rfl⟩
  rw [← ha] at PP HF hLs ⊢
  have a1 : 1 ≤ a := by omega
  have a7 : a ≤ 7 := by omega
  have HS := Lib.hid (fun W (hB : Below w.heap.size w W) => Kd.C_below hr hB)
  have HBY := Lib.hid hbyt
  have HX := Lib.hid hx2
  have l1 : (1 : Int) ≤ (L : Int) := by have := Nat.mul_le_mul a1 hsz; omega
  have sz1 : sz ≤ L := by rw [hLs]; exact Nat.le_mul_of_pos_left sz (by omega)
  have d1 : (L : Int) % (a : Int) = 0 := by rw [hLs, Int.natCast_mul]; exact Int.mul_emod_right _ _
  have d2 : (L : Int) / (a : Int) = (sz : Int) := by rw [hLs, Int.natCast_mul, Int.mul_comm]; exact Int.mul_ediv_cancel _ (by omega)
  have t1 : ¬ (n : Int) ≤ (lost : Int) := by omega
  have t2 : (lost : Int) < (n : Int) := by omega
  have t3 : ((L : Int) == 0) = false := by simp; omega
  have t4 : decide ((lost : Int) < 0) = false := by simp
  obtain ⟨b, A, c, rfl, _⟩ := hc
  have HLS := Lib.hid hLs
  have HB0 := Lib.hid (Below.refl w.heap.size w)
  clear hx ha k1 k2 n2 hs hr hL hLs hbyt hx2
  go_enter Try.func10, Try.ntmps10
  go_upto_region 3 with (first
    | (go_at_call 22; (with_reducible refine (NN.out _ (Below.refl _ _)).mono ?_); rintro e w ⟨rfl, rfl⟩)
    | (go_at_call 23; (with_reducible refine (PP.out _ (Below.refl _ _)).mono ?_); rintro e w ⟨rfl, rfl⟩))
  have hmk : ∀ W : World, True := fun _ => trivial
  go_upto_region 6 with (first
    | (go_at_call 23; (with_reducible refine (PP.out _ (Below.refl _ _)).mono ?_); rintro e w ⟨rfl, rfl⟩)
    | (at_make; refine Kd.R_make (Kd.int .u8) w.heap.size 5 rfl (N := 44) rfl 22 _ _ rfl (sz : Int) rfl rfl Try.underlying22 (.int .u8 0) 1 VPts.info_byte rfl (by decide) (by decide) 0 (ok := fun _ => True) (okp := fun _ => True) rfl (fun _ hk => hk) trivial (by omega) (by omega) (Below.refl _ _) (Nat.le_refl _) ?_; intro v3 w3 h3 hb3 hg3 hf3; simp only [Int.toNat_natCast] at h3; obtain ⟨g, c3, hv3, hgb, _, _, _⟩ := Kd.R_form h3 (by rw [List.length_replicate]; exact hsz); rw [List.length_replicate] at hv3; subst hv3; have HO := Lib.hid h3; have HB3 := Lib.hid hb3; have HGB := Lib.hid hgb; clear h3 hb3 hg3 hf3 hgb)
    | (go_at_call 24; (with_reducible refine (HF.out _ HB3.out).mono ?_); rintro e w4 ⟨A4, c4, rfl, hc4, hC4, had, hb⟩; have HAD := Lib.hid had; have HR4 := Lib.hid hC4; have HGL := Lib.hid (Kd.R_lt HO.out g rfl); have HO4 := Lib.hid (Kd.R_below HO.out hb); have HB4 := Lib.hid (HB3.out.trans (hb.mono HB3.out.size)); clear hc4 hC4 had hb))
  obtain ⟨ad4, rfl, hrow⟩ := RowAt.of HR4.out (by omega)
  have HROW := Lib.hid hrow
  have HNE := Lib.hid (show ad4.block ≠ g from by have h1 : w3.heap.size ≤ ad4.block := HAD.out ad4 rfl; have h2 : g < w3.heap.size := HGL.out; omega)
  have HO5 := Lib.hid (show Kd.R (Kd.int .u8) 5 w4 w.heap.size (fun _ => True) (.slice (some ⟨g, 0, none⟩) sz c3) (fragL x 0 sz sh) by rw [fragL_zero]; exact HO4.out)
  clear hrow HR4 HO HO4 HAD HGL
  go_loopw [49, 10, 11, 12] (fun iv _ _ _ wr => ∃ (m : Nat), m ≤ a ∧ iv = .int .i64 m ∧ Hid (Kd.R (Kd.int .u8) 5 wr w.heap.size (fun _ => True) (.slice (some ⟨g, 0, none⟩) sz c3) (fragL x m sz sh)) ∧ Hid (RowAt wr ad4 a (pows x a)) ∧ Hid (Below w.heap.size w wr)) (fun iv _ _ _ _ => a - (intOf iv).toNat)
  case atStart => exact ⟨0, by omega, rfl, HO5, HROW, HB4⟩
  case round =>
    clear HO5 HROW HB4
    obtain ⟨m, hm, rfl, HO5, HROW, HB4⟩ := hrel
    by_cases hlt : m < a
    · have hcell := HROW.out m hlt
      rw [pows_get x a m hlt] at hcell
      have e0 : (0 : Int) ≤ (m : Int) := by omega
      have e1 : (m : Int) < (a : Int) := by omega
      obtain ⟨f, hf⟩ : ∃ f, f = ((gp x m : Nat) : Int) := ⟨_, rfl⟩
      have hfb : Byt f := by rw [hf]; exact gp_byt x m HX.out
      rw [← hf] at hcell
      have HFF := Lib.hid hf
      have HFB := Lib.hid hfb
      obtain ⟨po, hpo⟩ : ∃ po, po = m * sz := ⟨_, rfl⟩
      have hpl : po + sz ≤ L := by
        have h1 := HLS.out
        have h2 : (m + 1) * sz ≤ a * sz := Nat.mul_le_mul_right sz hlt
        rw [Nat.add_mul, Nat.one_mul] at h2
        omega
      have e2 : IntKind.i64.wrap ((m : Int) * (sz : Int)) = (po : Int) := by rw [hpo, ← Int.natCast_mul]; exact IntWalk.i64_in _ (by omega)
      have HPO := Lib.hid hpo
      clear hf hfb hpo
      go_upto_region 9 with (fail)
      obtain ⟨wo, hwo⟩ : ∃ wo : World, wo = wr := ⟨_, rfl⟩
      have HM0 := Lib.hid (show Kd.R (Kd.int .u8) 5 wr w.heap.size (fun _ => True) (.slice (some ⟨g, 0, none⟩) sz c3) (fragMid x m sz sh 0) by rw [fragMid_zero]; exact HO5.out)
      clear hcell hwo HO5
      go_loopw [56, 12] (fun iv _ wr => ∃ (i : Nat), i ≤ sz ∧ iv = .int .i64 i ∧ Hid (Kd.R (Kd.int .u8) 5 wr w.heap.size (fun _ => True) (.slice (some ⟨g, 0, none⟩) sz c3) (fragMid x m sz sh i)) ∧ Hid (RowAt wr ad4 a (pows x a)) ∧ Hid (Below w.heap.size w wr)) (fun iv _ _ => sz - (intOf iv).toNat)
      case atStart => exact ⟨0, by omega, rfl, HM0, HROW, HB4⟩
      case round =>
        clear HM0 HROW HB4
        obtain ⟨i, hi, rfl, HO5, HROW, HB4⟩ := hrel
        by_cases hli : i < sz
        · obtain ⟨t1', t2'⟩ := Kd.R_celln (0 : Int) HO5.out (i : Int) (by omega) (by omega)
          have t3' : rdOf (0 : Int) (fragMid x m sz sh i) (i : Int) = fragTo x m sz sh i := by
            rw [← fragMid_get x m sz sh i hli]; simp [rdOf]
          rw [t3'] at t1'
          obtain ⟨ad0, hA0, hcell⟩ := at_row (HS.out _ HB4.out) (po + i) (by omega)
          have hpn := fun q => Kd.R_putn (Kd.R_drewN HO5.out q) (i : Int) (fragTo x (m + 1) sz sh i)
          simp only [Int.toNat_natCast] at t1' t2' hpn
          rw [fragMid_set x m sz sh i hli] at hpn
          have hfs := fragTo_succ x m sz sh i
          rw [← HPO.out, ← HFF.out] at hfs
          have hyb := fragTo_byt x m sz sh i HX.out
          have hzb := getD_byt HBY.out (po + i)
          obtain ⟨y, hy⟩ : ∃ y, y = fragTo x m sz sh i := ⟨_, rfl⟩
          obtain ⟨z, hz⟩ : ∃ z, z = sh.getD (po + i) 0 := ⟨_, rfl⟩
          rw [← hy] at t1' hfs hyb
          rw [← hz] at hcell hfs hzb
          rw [hfs, gmI_comm HFB.out hzb] at hpn
          have HZB := Lib.hid hzb
          have HYB := Lib.hid hyb
          have HPN := Lib.hid hpn
          have HBn := Lib.hid (fun q => (pw_below_drewN HB4.out q).setCell (p := ⟨g, i, none⟩) HGB.out (.int .u8 (xorI y (gmI z f))))
          have HRn := Lib.hid (fun q => (HROW.out.drewN q).far (p := ⟨g, i, none⟩) HNE.out (.int .u8 (xorI y (gmI z f))))
          subst hA0
          have g0 : (0 : Int) ≤ (i : Int) := by omega
          have g1 : (i : Int) < (sz : Int) := by omega
          have g2 : IntKind.i64.wrap ((po : Int) + (i : Int)) = (po : Int) + (i : Int) := IntWalk.i64_in _ (by omega)
          have g3 : (0 : Int) ≤ (po : Int) + (i : Int) := by omega
          have g4 : (po : Int) + (i : Int) < (L : Int) := by omega
          have g5 : ((po : Int) + (i : Int)).toNat = po + i := by omega
          clear hy hz hfs hyb hzb t3' hpn
          go_wp2
          refine wp_region_still_tail 18 (by kernel_rfl) (by kernel_rfl) ?_
          change wpStill _ _ (wr.drewN 1) (fun a' => wpList _ _ _ _ a' (wr.drewN 1)) _ _
          simp only [List.take_succ_cons, List.take_zero, List.drop_succ_cons, List.drop_zero]
          iterate 15 still_step
          still_call (mul_still z f (wr.drewN 1) HZB.out HFB.out)
          still_call (add_still y (gmI z f) (wr.drewN 1) HYB.out (gmI_byt HZB.out))
          still_step
          refine wpStill_nil ?_
          go_wp2
          go_roundw
          case rel => exact ⟨i + 1, by omega, by go_num, Lib.hid (HPN.out 1), Lib.hid (HRn.out 1), Lib.hid (HBn.out 1)⟩
          case measure => simp [intOf]; omega
        · obtain rfl : i = sz := by omega
          go_wp2
          go_roundw
          case rel => exact ⟨m + 1, by omega, by go_num, Lib.hid (by rw [← fragMid_full]; exact HO5.out), HROW, HB4⟩
          case measure => simp [intOf]; omega
    · obtain rfl : m = a := by omega
      go_wp2
      go_ret2
      exact ⟨_, _, rfl, (Kd.R_reads' HO5.out).2.2 |> fun h => by rw [fragL_len] at h; exact h, HB4.out⟩
end Go.Proofs.Ytcnfafappcbpnaa.Str
