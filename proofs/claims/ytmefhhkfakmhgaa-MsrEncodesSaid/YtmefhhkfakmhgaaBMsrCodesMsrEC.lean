/- Shards: the program's shard and Encode. -/
import Derived.Test.YtmefhhkfakmhgaaProg
import Derived.Below
import Derived.Deep.Draws
import Derived.Deep.AppendLies
import Derived.Maps.AppendAt
import Derived.OwnWalk
import Derived.Laws.BytesArg
import Derived.Laws.MakeOwn
import Derived.Laws.OwnMore
import Derived.Deep.OwnRows
import Derived.Tactics
import Derived.Lib.ConvBytes
import Derived.Laws.Slices
import Derived.WalkKit
import Derived.KernelRfl
import Derived.RowKit3
import Derived.Deep.LoopGhost
import Derived.Deep.QuietTactic
import Derived.BigQuiet
import Derived.WideLaws
import Derived.Deep.DeepCutAuto
import Derived.Deep.CutBlock
import Derived.Deep.RegionHeld3
import Derived.Laws.Rows
import Derived.Lib.AppendStr
import Derived.ArgAppend
import Derived.Laws.IdiomCopy
import Derived.OrdersHeld
import Derived.Laws.BitsLemmas
import Derived.RowKit
import Derived.Lib.Hide
import Derived.WalkSpells
import Derived.StillTailTactics
import Derived.Outline
import Derived.Test.YtmefhhkfakmhgaaBMsrCodesMsrEB
namespace Go.Proofs.Ytmefhhkfakmhgaa.Str
open Go Go.RowKit Go.Proofs.Ytmefhhkfakmhgaa.PMsrCodes Go.Proofs.Ytmefhhkfakmhgaa.BMsrCodes Go.Proofs.Ytmefhhkfakmhgaa.Gf Go.Proofs.Ytmefhhkfakmhgaa.Gi Go.Proofs.Ytmefhhkfakmhgaa.Bits Go.Proofs.Ytmefhhkfakmhgaa.Mem Go.Proofs.Ytmefhhkfakmhgaa.VPts Go.Proofs.Ytmefhhkfakmhgaa.Rws Go.Proofs.Ytmefhhkfakmhgaa.Plc Go.Proofs.YtmefhhkfakmhgaaW.PrintWords Go.Proofs.YtmefhhkfakmhgaaW.PrintLast
set_option linter.unusedVariables false

theorem chunk_line (b : List Int) (sz p m : Nat) (hp : p < m) (hb : b.length = m * sz) : (b.drop (p * sz)).take sz = line sz (fun i => b.getD (p * sz + i) 0) := by
  have hl := chunk_len b sz m p hp hb
  refine List.ext_getElem (by rw [hl, line_len]) (fun j h1 h2 => ?_)
  have hj : j < sz := by rwa [hl] at h1
  have e1 := chunk_get b sz p j hj
  rw [List.getD_eq_getElem?_getD, List.getElem?_eq_getElem h1] at e1
  have e2 := line_get sz (fun i => b.getD (p * sz + i) 0) j hj
  rw [List.getD_eq_getElem?_getD, List.getElem?_eq_getElem h2] at e2
  simp only [Option.getD_some] at e1 e2
  rw [e1, e2]
set_option maxRecDepth 100000 in
set_option maxHeartbeats 4000000 in
theorem shard_any (v : Value) (n k slot s sz L : Nat) (A : Option Addr) (c : Nat) (b : List Int) (w : World) (hc : IsCodeP w v n k) (k1 : 2 ≤ k) (k2 : k ≤ 8) (n2 : n ≤ 24) (hsl : slot < n) (hs : k * (k - 1) = s)
    (hC : Kd.C kRow w A s (chunks b sz s)) (hL : L = b.length) (hLs : L = s * sz) (hsz : 1 ≤ sz) (hL1 : L ≤ 1000) (hbyt : ∀ x ∈ b, Byt x) :
    Calls Try.prog 25 #[v, .int .i64 slot, .slice A s c] w fun e w' => ∃ u, e = .returned u ∧ Kd.R (Kd.int .u8) 5 w' w.heap.size (fun _ => True) u (shardL (ptN n k slot) (k - 1) sz b) ∧ Below w.heap.size w w' := by
  have RO := Lib.hid (row_any v n k slot w hc k1 k2 n2 hsl)
  have PP := Lib.hid (fun W (hB : Below w.heap.size w W) => parts_any v n k W (hc.below hB).code (by omega) (by omega))
  have PL := Lib.hid (fun W r j (hr : r < 2 * (k - 1)) (hj : j < k - 1) (hB : Below w.heap.size w W) => place_any v n k r j W (hc.below hB).code k1 k2 hr hj)
  have hx2 := ptN_lt n k slot
  obtain ⟨x, hx⟩ : ∃ x, x = ptN n k slot := ⟨_, rfl⟩
  rw [← hx] at RO hx2 ⊢
  obtain ⟨a, ha⟩ : ∃ a, a = k - 1 := ⟨_, rfl⟩
  rw [show 2 * k - 2 = 2 * a by omega] at RO
  rw [← ha] at PP PL hs ⊢
  have a1 : 1 ≤ a := by omega
  have a7 : a ≤ 7 := by omega
  have hss : s = (a + 1) * a := by rw [← hs, show k = a + 1 by omega]
  have HPL := Lib.hid (fun r j (hr : r < 2 * a) (hj : j < a) => show Plc.placeN a r j < s by rw [hss]; exact placeN_lt a r j a1 a7 hr hj)
  have hs56 : s ≤ 56 := by rw [← hs]; exact Nat.mul_le_mul k2 a7
  have hs1 : 1 ≤ s := by rw [hss]; exact Nat.mul_pos (by omega) (by omega)
  have HC := Lib.hid (fun W (hB : Below w.heap.size w W) => Kd.C_below hC hB)
  have HBL := Lib.hid (show b.length = s * sz by omega)
  have HBY := Lib.hid hbyt
  have HX := Lib.hid hx2
  have sz1 : sz ≤ 1000 := by have : sz ≤ s * sz := Nat.le_mul_of_pos_left sz (by omega)
                             omega
  obtain ⟨q, hq⟩ : ∃ q, q = 2 * a := ⟨_, rfl⟩
  rw [← hq] at RO HPL PL
  have HQ := Lib.hid hq
  have hq14 : q ≤ 14 := by omega
  have HB0 := Lib.hid (Below.refl w.heap.size w)
  obtain ⟨L9, hl9⟩ : ∃ L9, L9 = a * sz := ⟨_, rfl⟩
  clear hx ha hs hss hC hL hLs hbyt hx2 k1 k2 n2 hsl hq hc
  go_enter Try.func25, Try.ntmps25
  go_upto_region 4 with (first
    | (go_at_call 20; (with_reducible refine RO.out.mono ?_); rintro e w1 ⟨A8, c8, rfl, hr8, hb⟩; have hc8 := (Kd.R_reads' hr8).2.2; rw [pows_len] at hc8; have HR8 := Lib.hid hc8; have HB1 := Lib.hid hb; clear hr8 hb hc8)
    | (go_at_call 18; (with_reducible refine (PP.out _ HB1.out).mono ?_); rintro e u1 ⟨rfl, hu⟩; subst hu))
  obtain ⟨W1, hW1⟩ : ∃ W1, W1 = u1 := ⟨_, rfl⟩
  rw [← hW1] at HR8 HB1 ⊢
  clear hW1 RO
  go_loopw [7, 9, 10, 11, 12, 18, 28] (fun u0 _ _ _ _ jv _ wr => ∃ (j : Nat) (u : Value), u0 = u ∧ j ≤ a ∧ jv = .int .i64 j ∧ Hid (Kd.R (Kd.int .u8) 5 wr W1.heap.size (fun _ => True) u (shardTo x a sz b j)) ∧ Hid (Below W1.heap.size W1 wr)) (fun _ _ _ _ _ jv _ _ => a - (intOf jv).toNat)
  case atStart => exact ⟨0, _, rfl, by omega, rfl, Lib.hid (by unfold shardTo; exact Kd.R_nil _ _ _ _ _), Lib.hid (Below.refl _ _)⟩
  case round =>
    obtain ⟨j, u, rfl, hj, rfl, HO, HB2⟩ := hrel
    by_cases hja : j < a
    · have hBw := HB1.out.trans (HB2.out.mono HB1.out.size)
      obtain ⟨adm, A3, c3, rfl, hm0, _, _⟩ := rowsN_get (HC.out _ hBw) 0 (by omega)
      rw [chunks_get b sz s 0 (by omega), chunk_len b sz s 0 (by omega) HBL.out] at hm0
      rw [show adm.add 0 = adm by simp [Addr.add]] at hm0
      have HM0 := Lib.hid hm0
      have HBW := Lib.hid hBw
      have g1 : (j : Int) < (a : Int) := by omega
      have g2 : (0 : Int) < (s : Int) := by omega
      clear hBw
      go_upto_region 7 with (at_make; refine Kd.R_make (Kd.int .u8) wr.heap.size 5 rfl (N := 25) rfl 22 _ _ rfl (sz : Int) rfl rfl Try.underlying22 (.int .u8 0) 1 VPts.info_byte rfl (by decide) (by decide) 0 (ok := fun _ => True) (okp := fun _ => True) rfl (fun _ hk => hk) trivial (by omega) (by omega) (Below.refl _ _) (Nat.le_refl _) ?_; intro v3 w3 h3 hb3 hg3 hf3; simp only [Int.toNat_natCast] at h3; obtain ⟨g, cg, hv3, hgb, hgl, _⟩ := Kd.R_form h3 (by rw [List.length_replicate]; exact hsz); rw [List.length_replicate] at hv3; subst hv3; have HXX := Lib.hid h3; have HB3 := Lib.hid hb3; have HGB := Lib.hid hgb; clear h3 hb3 hg3 hf3 hgb hgl)
      clear hm0
      have HXR := Lib.hid (show Kd.R (Kd.int .u8) 5 w3 wr.heap.size (fun _ => True) (.slice (some ⟨g, 0, none⟩) sz cg) (line sz (fun i => symTo x a sz b j i 0)) by
        rw [show line sz (fun i => symTo x a sz b j i 0) = List.replicate sz 0 from line_zero sz]; exact HXX.out)
      clear HXX
      obtain ⟨wo, hwo⟩ : ∃ wo, wo = wr := ⟨_, rfl⟩
      rw [← hwo] at HXR HB3 HGB HO HB2 HBW HM0
      clear hwo
      go_upto_region 8 with (fail)
      go_loopw [11, 12, 28] (fun _ _ rv wr' => ∃ (r : Nat), r ≤ q ∧ rv = .int .i64 r ∧ Hid (Kd.R (Kd.int .u8) 5 wr' wo.heap.size (fun _ => True) (.slice (some ⟨g, 0, none⟩) sz cg) (line sz (fun i => symTo x a sz b j i r))) ∧ Hid (Below wo.heap.size wo wr')) (fun _ _ rv _ => q - (intOf rv).toNat)
      case atStart => exact ⟨0, by omega, rfl, HXR, HB3⟩
      case round =>
        clear HXR HB3
        obtain ⟨r, hr, rfl, HXR, HB3⟩ := hrel
        by_cases hrq : r < q
        · have hB := HB2.out.trans (HB3.out.mono HB2.out.size)
          have hBw := HB1.out.trans (hB.mono HB1.out.size)
          have hpl := HPL.out r j hrq hja
          obtain ⟨p, hp⟩ : ∃ p, p = Plc.placeN a r j := ⟨_, rfl⟩
          have hp' : placeN a r j = p := hp.symm
          rw [← hp] at hpl
          obtain ⟨adr, rfl, hc1⟩ := at_row (Kd.C_below HR8.out hB) r hrq
          rw [show (pows x q).getD r 0 = ((gp x r : Nat) : Int) from pows_get x q r hrq] at hc1
          obtain ⟨adm', A5, c5, e5, hm5, _, hC5⟩ := rowsN_get (HC.out _ HBW.out) p hpl
          injection e5 with e5
          subst e5
          rw [chunks_get b sz s p hpl, chunk_line b sz p s hpl HBL.out, line_len] at hm5 hC5
          obtain ⟨ad5, rfl, hrow5⟩ := RowAt.of hC5 (by omega)
          have hblk5 : ad5.block < wo.heap.size := by
            have := World.block_lt_of_cell? _ _ (hrow5 0 (by omega))
            rwa [block_of_add] at this
          have hm5' := pw_cell_below HB3.out hm5
          have hrow' : RowAt wr ad5 sz (line sz (fun i => b.getD (p * sz + i) 0)) := fun i hi => pw_cell_below HB3.out (hrow5 i hi)
          have hgb := gp_byt x r HX.out
          obtain ⟨f, hf⟩ : ∃ f, f = ((gp x r : Nat) : Int) := ⟨_, rfl⟩
          rw [← hf] at hc1 hgb
          have MX := Lib.hid (mix_any sz g cg c5 wo.heap.size ad5 f (fun i => symTo x a sz b j i r) (fun i => b.getD (p * sz + i) 0) wo wr hgb (fun i => symTo_byt x a sz b j i r HX.out) (fun i => getD_byt HBY.out _) HB3.out HGB.out HXR.out hrow' (by have : wo.heap.size ≤ g := HGB.out; omega) (by omega))
          have HNX := Lib.hid (show line sz (fun i => xorI (symTo x a sz b j i r) (gmI (b.getD (p * sz + i) 0) f)) = line sz (fun i => symTo x a sz b j i (r + 1)) from line_congr sz _ _ (fun i _ => by rw [symTo_succ, ← hp, ← hf, gmI_comm hgb (getD_byt HBY.out _)]))
          have PLr := Lib.hid (PL.out wr r j hrq hja hBw)
          rw [hp'] at PLr
          have g6 : (r : Int) < (q : Int) := by omega
          have g7 : (0 : Int) ≤ (r : Int) := by omega
          have g8 : (0 : Int) ≤ (p : Int) := by omega
          have g9 : (p : Int) < (s : Int) := by omega
          clear hB hBw hpl hp hp' hm5 hC5 hrow5 hblk5 hrow' hgb hf
          go_wp2_with (first
            | (go_at_call 38; (with_reducible refine PLr.out.mono ?_); rintro e u2 ⟨rfl, hu⟩; subst hu)
            | (go_at_call 37; (with_reducible refine MX.out.mono ?_); rintro e w4 ⟨rfl, hr4, hb4⟩; have HR4 := Lib.hid hr4; have HB4 := Lib.hid hb4; clear hr4 hb4))
          go_roundw
          case rel => exact ⟨r + 1, by omega, by go_num, Lib.hid (by rw [← HNX.out]; exact HR4.out), HB4⟩
          case measure => simp [intOf]; omega
        · obtain rfl : r = q := by omega
          have hown := Kd.own_of_R (Kd.R_below HO.out HB3.out)
          have hrd := Kd.reads_of_C (d := (0 : Int)) (Kd.R_reads' HXR.out).2.2
          rw [line_len] at hrd
          have HN := Lib.hid (show shardTo x a sz b j ++ line sz (fun i => symTo x a sz b j i r) = shardTo x a sz b (j + 1) by rw [shardTo_succ, HQ.out]; rfl)
          have HOWN := Lib.hid hown
          have HRD := Lib.hid hrd
          have hlen : (shardTo x a sz b j).length ≤ 7000 := by rw [shardTo_len]; exact Nat.mul_le_mul (show j ≤ 7 by omega) sz1
          have HLEN := Lib.hid hlen
          clear hown hrd hlen
          go_wp2_with (at_builtin; refine print_append_row (w0 := W1) (k := .u8) W1.heap.size rfl _ _ 22 5 1 rfl Try.underlying22 VPts.info_byte (by decide) u7 (shardTo x a sz b j) (line sz (fun i => symTo x a sz b j i r)) _ _ _ rfl rfl HOWN.out HRD.out (HB2.out.trans (HB3.out.mono HB2.out.size)) (Nat.le_trans HB2.out.size HB3.out.size) (by have := HLEN.out; omega) ?_; intro v5 w5 h1 h2 h3 h4; have H1 := Lib.hid h1; have H2 := Lib.hid h2; clear h1 h2 h3 h4)
          go_roundw
          case rel => exact ⟨j + 1, _, rfl, by omega, by go_num, Lib.hid (Kd.R_of_own (by have := H1.out; rw [HN.out] at this; exact this) (fun _ _ => trivial)), H2⟩
          case measure => simp [intOf]; omega
    · obtain rfl : j = a := by omega
      go_wp2
      go_ret
      exact ⟨_, rfl, Kd.R_lower HO.out HB1.out.size, HB1.out.trans (HB2.out.mono HB1.out.size)⟩

set_option maxRecDepth 100000 in
theorem parts_no (s L : Nat) (A : Option Addr) (c : Nat) (w : World) (hs : 1 ≤ s) (hs2 : s ≤ 56) (h : L = 0 ∨ L % s ≠ 0) : Calls Try.prog 24 #[.slice A L c, .int .i64 s] w fun e w' => e = .returned (.tuple #[.slice none 0 0, .bool false]) ∧ w' = w := by
  have h' := len_cases L s h
  have t1 : (1 : Int) ≤ (s : Int) := by omega
  have d5 : decide ((s : Int) < 1) = false := by simp; omega
  clear h
  rcases h' with h1 | ⟨h1, h2⟩
  all_goals
    go_enter Try.func24, Try.ntmps24
    go_wp2
    go_ret2
    exact ⟨rfl, rfl⟩
set_option maxRecDepth 100000 in
theorem encode_bad (v : Value) (n k s L : Nat) (A : Option Addr) (c : Nat) (w : World) (hc : IsCodeP w v n k) (k1 : 2 ≤ k) (k2 : k ≤ 8) (hs : k * (k - 1) = s) (h : L = 0 ∨ L % s ≠ 0) :
    Calls Try.prog 10 #[v, .slice A L c] w fun e w' => e = .returned (.tuple #[.slice none 0 0, .int .i64 1]) ∧ Below w.heap.size w w' := by
  have hs56 : k * (k - 1) ≤ 8 * 7 := Nat.mul_le_mul k2 (by omega)
  have hs2 : 2 * 1 ≤ k * (k - 1) := Nat.mul_le_mul k1 (by omega)
  have SY := Lib.hid (symbols_any v n k s w hc.code (by omega) (by omega) hs)
  have PN := Lib.hid (fun W => parts_no s L A c W (by omega) (by omega) h)
  have HB := Lib.hid (Below.refl w.heap.size w)
  clear hc hs h hs56 hs2 k1 k2
  go_enter Try.func10, Try.ntmps10
  go_wp2_with (first
    | (go_at_call 19; (with_reducible refine SY.out.mono ?_); rintro e u1 ⟨rfl, hu⟩; subst hu)
    | (go_at_call 24; (with_reducible refine (PN.out _).mono ?_); rintro e u2 ⟨rfl, hu⟩; subst hu))
  go_ret2
  exact ⟨rfl, HB.out⟩
set_option maxRecDepth 100000 in
set_option maxHeartbeats 2000000 in
theorem encode_good (v : Value) (n k s sz L : Nat) (A : Option Addr) (c : Nat) (b : List Int) (w : World) (hc : IsCodeP w v n k) (k1 : 2 ≤ k) (k2 : k ≤ 8) (n2 : n ≤ 24) (hs : k * (k - 1) = s) (hr : (Kd.int .u8).C w A L b) (hLc : L ≤ c) (hLs : L = s * sz) (hsz : 1 ≤ sz) (hL1 : L ≤ 1000) (hbyt : ∀ x ∈ b, Byt x) :
    Calls Try.prog 10 #[v, .slice A L c] w fun e w' => ∃ A' c', e = .returned (.tuple #[.slice A' n c', .int .i64 0]) ∧ n ≤ c' ∧ Kd.C kRow w' A' n (shardsM n k sz b n) ∧ Below w.heap.size w w' := by
  have hs56 : k * (k - 1) ≤ 8 * 7 := Nat.mul_le_mul k2 (by omega)
  have hs2 : 2 * 1 ≤ k * (k - 1) := Nat.mul_le_mul k1 (by omega)
  have hLb : L = b.length := by have := hr.1; omega
  have SY := Lib.hid (symbols_any v n k s w hc.code (by omega) (by omega) hs)
  have PG := Lib.hid (parts_good s sz L A c b w hr hLc hLs (by omega) hsz (by omega) hL1)
  have SH := Lib.hid (fun i A1 c1 W (hi : i < n) (hB : Below w.heap.size w W) (hC : Kd.C kRow W A1 s (chunks b sz s)) => shard_any v n k i s sz L A1 c1 b W (hc.below hB) k1 k2 n2 hi hs hC hLb hLs hsz hL1 hbyt)
  have HV := Lib.hid (fun W (hB : Below w.heap.size w W) => hc.below hB)
  obtain ⟨bb, A0, c0, rfl, hblk, _⟩ := hc
  have HBK := Lib.hid hblk
  have HB := Lib.hid (Below.refl w.heap.size w)
  clear hblk hs hs56 hs2 k1 k2 hr hLc hLs hsz hL1 hbyt hLb
  go_enter Try.func10, Try.ntmps10
  go_upto_region 5 with (first
    | (go_at_call 19; (with_reducible refine SY.out.mono ?_); rintro e u1 ⟨rfl, hu⟩; subst hu)
    | (go_at_call 24; (with_reducible refine PG.out.mono ?_); rintro e w2 ⟨A2, c2, rfl, hl2, hC2, hb⟩; have HC2 := Lib.hid hC2; have HB2 := Lib.hid hb; have HBK2 := Lib.hid (Blk.below HBK.out hb (Blk.lt HBK.out)); clear hl2 hC2 hb))
  have y0 : w2.cell? ⟨bb, 0, none⟩ = some (.int .i64 n) := (HBK2.out.cell 0).trans rfl
  go_upto_region 6 with (fail)
  clear y0
  go_loopw [8, 9, 23] (fun u0 _ iv wr => ∃ (i : Nat) (u : Value), u0 = u ∧ i ≤ n ∧ iv = .int .i64 i ∧ Hid (RowsR wr w2.heap.size u (shardsM n k sz b i)) ∧ Hid (Below w2.heap.size w2 wr)) (fun _ _ iv _ => n - (intOf iv).toNat)
  case atStart => exact ⟨0, _, rfl, by omega, rfl, Lib.hid (Kd.R_nil _ _ _ _ _), Lib.hid (Below.refl _ _)⟩
  case round =>
    obtain ⟨i, u, rfl, hi, rfl, HO, HB3⟩ := hrel
    by_cases hlt : i < n
    · have hBw := HB2.out.trans (HB3.out.mono HB2.out.size)
      have SHi := Lib.hid (SH.out i A2 c2 wr hlt hBw (Kd.C_below HC2.out HB3.out))
      have g1 : (i : Int) < (n : Int) := by omega
      clear hBw
      go_wp2_with (first
        | (go_at_call 25; (with_reducible refine SHi.out.mono ?_); rintro e w4 ⟨v4, rfl, hr4, hb4⟩; obtain ⟨A5, c5, rfl⟩ := Kd.R_slice hr4; have HR4 := Lib.hid hr4; have HB4 := Lib.hid hb4; clear hr4 hb4)
        | (at_builtin; refine rows_append2 (w0 := w2) rfl w2.heap.size rfl _ _ rfl u8 _ (shardsM n k sz b i) _ rfl rfl HO.out (HB3.out.trans (HB4.out.mono HB3.out.size)) HB3.out.size HB4.out HR4.out (by rw [shardsM_len]; omega) ?_; intro v5 w5 h5 hb5; have H5 := Lib.hid h5; have HB5 := Lib.hid hb5; clear h5 hb5))
      go_roundw
      case rel => exact ⟨i + 1, _, rfl, by omega, by go_num, Lib.hid (by rw [shardsM_succ]; exact H5.out), HB5⟩
      case measure => simp [intOf]; omega
    · obtain rfl : i = n := by omega
      obtain ⟨A7, c7, rfl, hl7, hC7⟩ := Kd.R_reads HO.out
      rw [shardsM_len] at hC7 hl7 ⊢
      have HC7 := Lib.hid hC7
      have HL7 := Lib.hid hl7
      clear hl7 hC7
      go_wp2
      go_ret2
      exact ⟨A7, c7, rfl, HL7.out, HC7.out, HB2.out.trans (HB3.out.mono HB2.out.size)⟩
end Go.Proofs.Ytmefhhkfakmhgaa.Str
