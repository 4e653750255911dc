/- Fragments: the document's. -/
import Derived.Test.YtcnfafappcbpnaaProg
import Derived.Below
import Derived.Deep.Draws
import Derived.Deep.AppendLies
import Derived.Maps.AppendAt
import Derived.OwnWalk
import Derived.Laws.BytesArg
import Derived.Laws.MakeOwn
import Derived.Laws.OwnMore
import Derived.Deep.OwnRows
import Derived.Tactics
import Derived.Lib.ConvBytes
import Derived.Laws.Slices
import Derived.WalkKit
import Derived.KernelRfl
import Derived.RowKit3
import Derived.Deep.LoopGhost
import Derived.Deep.QuietTactic
import Derived.BigQuiet
import Derived.WideLaws
import Derived.Deep.DeepCutAuto
import Derived.Deep.CutBlock
import Derived.Deep.RegionHeld3
import Derived.Laws.Rows
import Derived.Lib.AppendStr
import Derived.ArgAppend
import Derived.Laws.IdiomCopy
import Derived.OrdersHeld
import Derived.Laws.BitsLemmas
import Derived.RowKit
import Derived.Lib.Hide
import Derived.WalkSpells
import Derived.StillTailTactics
import Derived.Outline
import Derived.Test.YtcnfafappcbpnaaBHealFragmentsHeal2
namespace Go.Proofs.Ytcnfafappcbpnaa.Str
open Go Go.RowKit Go.Proofs.Ytcnfafappcbpnaa.PHealFragments Go.Proofs.Ytcnfafappcbpnaa.BHealFragments Go.Proofs.Ytcnfafappcbpnaa.Gf Go.Proofs.Ytcnfafappcbpnaa.Gi Go.Proofs.Ytcnfafappcbpnaa.Bits Go.Proofs.Ytcnfafappcbpnaa.Mem Go.Proofs.Ytcnfafappcbpnaa.VPts Go.Proofs.Ytcnfafappcbpnaa.Rws Go.Proofs.YtcnfafappcbpnaaW.PrintWords Go.Proofs.YtcnfafappcbpnaaW.PrintLast
set_option linter.unusedVariables false

theorem rowsN_get {w : World} {A : Option Addr} {n : Nat} {ls : List (List Int)} (h : Kd.C kRow w A n ls) (i : Nat) (hi : i < n) :
    ∃ ad A0 c0, A = some ad ∧ w.cell? (ad.add i) = some (.slice A0 (ls.getD i []).length c0) ∧ (ls.getD i []).length ≤ c0 ∧ (Kd.int .u8).C w A0 (ls.getD i []).length (ls.getD i []) := by
  obtain ⟨ad, c, e, _, hK, hc0⟩ := Kd.C_get h [] (i : Int) (by omega) (by omega)
  obtain ⟨A0, c0, rfl, l0, g0⟩ := hK
  refine ⟨ad, A0, c0, e, ?_, l0, g0⟩
  have hq := hc0 0 _ rfl
  simpa [Kd.slice] using hq
theorem rows_row {w : World} {A : Option Addr} {n k : Nat} (h : Kd.C kRow w A n (rowsM n k n)) (i : Nat) (hi : i < n) :
    ∃ ad A0 c0, A = some ad ∧ w.cell? (ad.add i) = some (.slice A0 (2 * k - 2) c0) ∧ 2 * k - 2 ≤ c0 ∧ (Kd.int .u8).C w A0 (2 * k - 2) (pows (ptN n k i) (2 * k - 2)) := by
  obtain ⟨ad, A0, c0, e, h1, h2, h3⟩ := rowsN_get h i hi
  rw [rowsM_get n k n i hi, pows_len] at h1 h2 h3
  exact ⟨ad, A0, c0, e, h1, h2, h3⟩
theorem fragL_succ (x m sz i : Nat) (sh : List Int) : line (i + 1) (fragTo x m sz sh) = line i (fragTo x m sz sh) ++ [fragTo x m sz sh i] := line_succ _ _
set_option maxRecDepth 100000 in
set_option maxHeartbeats 4000000 in
theorem reffrag_any (n k lost sz L : Nat) (A0 : Option Addr) (c0 : Nat) (sh : List Int) (w : World) (k1 : 2 ≤ k) (k2 : k ≤ 8) (n2 : n ≤ 24) (hs : lost < n)
    (hr : (Kd.int .u8).C w A0 L sh) (hL : L = sh.length) (hLs : L = (k - 1) * sz) (hsz : 1 ≤ sz) (hL1 : L ≤ 1000) (hbyt : ∀ x ∈ sh, Byt x) :
    Calls Try.prog 12 #[.int .i64 n, .int .i64 k, .int .i64 lost, .slice A0 L c0] w fun e w' => ∃ A c, e = .returned (.slice A sz c) ∧ (Kd.int .u8).C w' A sz (fragL (ptN n k lost) (k - 1) sz sh) ∧ Below w.heap.size w w' := by
  have RW := Lib.hid (rows_calls n k w k1 k2 n2)
  have hx2 := ptN_lt n k lost
  obtain ⟨x, hx⟩ : ∃ x, x = ptN n k lost := ⟨_, rfl⟩
  rw [← hx] at hx2 ⊢
  obtain ⟨a, ha⟩ : ∃ a, a = k - 1 := ⟨_, rfl⟩
  rw [← ha] at hLs ⊢
  have a1 : 1 ≤ a := by omega
  have a7 : a ≤ 7 := by omega
  have ka : a < 2 * k - 2 := by omega
  have HS := Lib.hid (fun W (hB : Below w.heap.size w W) => Kd.C_below hr hB)
  have HBY := Lib.hid hbyt
  have HX := Lib.hid hx2
  have HKA := Lib.hid ka
  have sz1 : sz ≤ L := by rw [hLs]; exact Nat.le_mul_of_pos_left sz (by omega)
  have d0 : IntKind.i64.wrap ((k : Int) - 1) = (a : Int) := by rw [IntWalk.i64_in _ (by omega)]; omega
  have d2 : (L : Int) / (a : Int) = (sz : Int) := by rw [hLs, Int.natCast_mul, Int.mul_comm]; exact Int.mul_ediv_cancel _ (by omega)
  have t0 : (0 : Int) ≤ (lost : Int) := by omega
  have t2 : (lost : Int) < (n : Int) := by omega
  have HLN := Lib.hid hs
  have HLS := Lib.hid hLs
  have HXE := Lib.hid hx
  clear hx ha k1 k2 n2 hs hr hL hLs hbyt hx2 ka
  go_enter Try.func12, Try.ntmps12
  go_upto_region 5 with (go_at_call 29; (with_reducible refine RW.out.mono ?_); rintro e w1 ⟨A1, c1, rfl, hc1, hC1, hb⟩; obtain ⟨ad1, A9, c9, rfl, hcell, hl9, hC9⟩ := rows_row hC1 lost HLN.out; rw [← HXE.out] at hC9; have HC9 := Lib.hid hC9; have HB1 := Lib.hid hb; clear hc1 hC1 hb hC9 hl9)
  clear hcell
  obtain ⟨q, hq⟩ : ∃ q, q = 2 * k - 2 := ⟨_, rfl⟩
  rw [← hq] at HC9 HKA ⊢
  clear hq RW
  go_loopw [11, 12, 13, 14] (fun u0 iv _ _ wr => ∃ (i : Nat) (u : Value), u0 = u ∧ i ≤ sz ∧ iv = .int .i64 i ∧ Hid (Kd.R (Kd.int .u8) 5 wr w1.heap.size (fun _ => True) u (line i (fragTo x a sz sh))) ∧ Hid (Below w1.heap.size w1 wr)) (fun _ iv _ _ _ => sz - (intOf iv).toNat)
  case atStart => exact ⟨0, _, rfl, by omega, rfl, Lib.hid (Kd.R_nil _ _ _ _ _), Lib.hid (Below.refl _ _)⟩
  case round =>
    obtain ⟨i, u, rfl, hi, rfl, HO, HB2⟩ := hrel
    by_cases hlt : i < sz
    · have g0 : (i : Int) < (sz : Int) := by omega
      go_upto_region 9 with (fail)
      go_loopw [13, 14] (fun s jv wr' => ∃ (j : Nat), j ≤ a ∧ jv = .int .i64 j ∧ s = .int .u8 (fragTo x j sz sh i) ∧ Hid (Kd.R (Kd.int .u8) 5 wr' w1.heap.size (fun _ => True) u11 (line i (fragTo x a sz sh))) ∧ Hid (Below w1.heap.size w1 wr')) (fun _ jv _ => a - (intOf jv).toNat)
      case atStart => exact ⟨0, by omega, rfl, rfl, HO, HB2⟩
      case round =>
        clear HO HB2
        obtain ⟨j, hj, rfl, rfl, HO, HB2⟩ := hrel
        by_cases hja : j < a
        · have hB := HB2.out
          have hBw := HB1.out.trans (hB.mono HB1.out.size)
          obtain ⟨po, hpo⟩ : ∃ po, po = j * sz := ⟨_, rfl⟩
          have hpl : po + sz ≤ L := by
            have h1 := HLS.out
            have h2 : (j + 1) * sz ≤ a * sz := Nat.mul_le_mul_right sz hja
            rw [Nat.add_mul, Nat.one_mul] at h2
            omega
          have e2 : IntKind.i64.wrap ((j : Int) * (sz : Int)) = (po : Int) := by rw [hpo, ← Int.natCast_mul]; exact IntWalk.i64_in _ (by omega)
          obtain ⟨adr, rfl, hc1⟩ := at_row (Kd.C_below HC9.out hB) j (by have := HKA.out; omega)
          obtain ⟨ads, rfl, hc2⟩ := at_row (HS.out _ hBw) (po + i) (by omega)
          rw [pows_get x q j (by have := HKA.out; omega)] at hc1
          have hfs := fragTo_succ x j sz sh i
          rw [← hpo] at hfs
          have hyb := fragTo_byt x j sz sh i HX.out
          have hzb := getD_byt HBY.out (po + i)
          have hgb := gp_byt x j HX.out
          obtain ⟨y, hy⟩ : ∃ y, y = fragTo x j sz sh i := ⟨_, rfl⟩
          obtain ⟨z, hz⟩ : ∃ z, z = sh.getD (po + i) 0 := ⟨_, rfl⟩
          obtain ⟨f, hf⟩ : ∃ f, f = ((gp x j : Nat) : Int) := ⟨_, rfl⟩
          rw [← hy] at hfs hyb ⊢
          rw [← hz] at hc2 hfs hzb
          rw [← hf] at hc1 hfs hgb
          have hxb := xor_bits hyb (gmI_byt (b := z) hgb)
          rw [← hfs] at hxb
          have MC := Lib.hid (fun W => refmul_calls f z W hgb hzb)
          have g2 : IntKind.i64.wrap ((po : Int) + (i : Int)) = (po : Int) + (i : Int) := IntWalk.i64_in _ (by omega)
          have g3 : (0 : Int) ≤ (po : Int) + (i : Int) := by omega
          have g4 : (po : Int) + (i : Int) < (L : Int) := by omega
          have g5 : ((po : Int) + (i : Int)).toNat = po + i := by omega
          have g6 : (j : Int) < (a : Int) := by omega
          have g7 : (0 : Int) ≤ (j : Int) := by omega
          have g8 : (j : Int) < (q : Int) := by have := HKA.out; omega
          have HXB := Lib.hid hxb
          clear hB hBw hpo hfs hyb hzb hgb hy hz hf hxb
          go_wp2
          go_quiet ((go_at_call 30; (with_reducible refine (MC.out _).mono ?_); rintro e w' ⟨rfl, ⟨nd, rfl⟩⟩; (first | exact ⟨rfl, _, World.drewN_drewN _ _ _⟩ | exact ⟨rfl, _, Eq.trans (World.drewN_drewN _ _ _) (congrArg (World.drewN _) (Nat.add_assoc _ _ _))⟩ | exact ⟨rfl, _, rfl⟩)))
          rw [HXB.out]
          go_wp2
          go_roundw
          case rel => exact ⟨j + 1, by omega, by go_num, rfl, Lib.hid (Kd.R_drewN HO.out _), Lib.hid (pw_below_drewN HB2.out _)⟩
          case measure => simp [intOf]; omega
        · obtain rfl : j = a := by omega
          obtain ⟨y, hy⟩ : ∃ y, y = fragTo x j sz sh i := ⟨_, rfl⟩
          rw [← hy]
          have HY := Lib.hid hy
          clear hy
          go_wp2_with (at_builtin; refine byte_append (w0 := w1) rfl w1.heap.size rfl _ _ rfl u11 (line i (fragTo x j sz sh)) y (fun _ => True) rfl rfl HO.out (fun _ _ => trivial) HB2.out HB2.out.size (by rw [line_len]; omega) ?_; intro v1 w2 hr2 hb2 hg2; have HR3 := Lib.hid hr2; have HB3 := Lib.hid hb2; clear hr2 hb2 hg2)
          go_roundw
          case rel => exact ⟨i + 1, _, rfl, by omega, by go_num, Lib.hid (by rw [fragL_succ, ← HY.out]; exact HR3.out), HB3⟩
          case measure => simp [intOf]; omega
    · obtain rfl : i = sz := by omega
      obtain ⟨A7, c7, rfl, hl7, hC7⟩ := Kd.R_reads HO.out
      rw [line_len] at hC7 ⊢
      have HC7 := Lib.hid hC7
      clear hl7 hC7
      go_wp2
      go_ret
      exact ⟨A7, c7, rfl, HC7.out, HB1.out.trans (HB2.out.mono HB1.out.size)⟩
end Go.Proofs.Ytcnfafappcbpnaa.Str
