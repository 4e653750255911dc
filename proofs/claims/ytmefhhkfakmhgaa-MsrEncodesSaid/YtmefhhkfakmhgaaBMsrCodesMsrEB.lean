/- Shards: the program's parts and mix. -/
import Derived.Test.YtmefhhkfakmhgaaProg
import Derived.Below
import Derived.Deep.Draws
import Derived.Deep.AppendLies
import Derived.Maps.AppendAt
import Derived.OwnWalk
import Derived.Laws.BytesArg
import Derived.Laws.MakeOwn
import Derived.Laws.OwnMore
import Derived.Deep.OwnRows
import Derived.Tactics
import Derived.Lib.ConvBytes
import Derived.Laws.Slices
import Derived.WalkKit
import Derived.KernelRfl
import Derived.RowKit3
import Derived.Deep.LoopGhost
import Derived.Deep.QuietTactic
import Derived.BigQuiet
import Derived.WideLaws
import Derived.Deep.DeepCutAuto
import Derived.Deep.CutBlock
import Derived.Deep.RegionHeld3
import Derived.Laws.Rows
import Derived.Lib.AppendStr
import Derived.ArgAppend
import Derived.Laws.IdiomCopy
import Derived.OrdersHeld
import Derived.Laws.BitsLemmas
import Derived.RowKit
import Derived.Lib.Hide
import Derived.WalkSpells
import Derived.StillTailTactics
import Derived.Outline
import Derived.Test.YtmefhhkfakmhgaaGiMul
import Derived.Test.YtmefhhkfakmhgaaBMsrCodesMsrEA
namespace Go.Proofs.Ytmefhhkfakmhgaa.Str
open Go Go.RowKit Go.Proofs.Ytmefhhkfakmhgaa.PMsrCodes Go.Proofs.Ytmefhhkfakmhgaa.BMsrCodes Go.Proofs.Ytmefhhkfakmhgaa.Gf Go.Proofs.Ytmefhhkfakmhgaa.Gi Go.Proofs.Ytmefhhkfakmhgaa.Bits Go.Proofs.Ytmefhhkfakmhgaa.Mem Go.Proofs.Ytmefhhkfakmhgaa.VPts Go.Proofs.Ytmefhhkfakmhgaa.Rws Go.Proofs.Ytmefhhkfakmhgaa.Plc Go.Proofs.YtmefhhkfakmhgaaW.PrintWords Go.Proofs.YtmefhhkfakmhgaaW.PrintLast
set_option linter.unusedVariables false

/-- Slices of one length, told by address and room. -/
def kP (sz : Nat) : Kd (Option Addr × Nat) := Kd.scalar (fun p => .slice p.1 sz p.2) (fun _ => rfl)
def chunkA (A : Option Addr) (c lo : Nat) : Option Addr := if c = lo then A else A.map (·.add lo)
def chunkP (A : Option Addr) (c sz m : Nat) : List (Option Addr × Nat) := (List.range m).map (fun i => (chunkA A c (i * sz), c - i * sz))
theorem chunkP_succ (A : Option Addr) (c sz m : Nat) : chunkP A c sz (m + 1) = chunkP A c sz m ++ [(chunkA A c (m * sz), c - m * sz)] := by simp [chunkP, List.range_succ]
theorem chunkP_len (A : Option Addr) (c sz m : Nat) : (chunkP A c sz m).length = m := by simp [chunkP]
def chunks (b : List Int) (sz m : Nat) : List (List Int) := (List.range m).map (fun i => (b.drop (i * sz)).take sz)
theorem chunks_len (b : List Int) (sz m : Nat) : (chunks b sz m).length = m := by simp [chunks]
theorem chunks_get (b : List Int) (sz m i : Nat) (hi : i < m) : (chunks b sz m).getD i [] = (b.drop (i * sz)).take sz := by simp [chunks, List.getD_eq_getElem?_getD, hi]
theorem chunk_len (b : List Int) (sz m i : Nat) (hi : i < m) (h : b.length = m * sz) : ((b.drop (i * sz)).take sz).length = sz := by
  have : (i + 1) * sz ≤ m * sz := Nat.mul_le_mul_right sz hi
  rw [Nat.add_mul, Nat.one_mul] at this
  rw [List.length_take, List.length_drop]; omega
theorem chunk_get (b : List Int) (sz i j : Nat) (hj : j < sz) : ((b.drop (i * sz)).take sz).getD j 0 = b.getD (i * sz + j) 0 := by
  rw [List.getD_eq_getElem?_getD, List.getElem?_take, if_pos hj, List.getElem?_drop, ← List.getD_eq_getElem?_getD]
/-- The parts read as the bytes' parts. -/
theorem chunks_C {w : World} {A A' : Option Addr} {L c sz m : Nat} {b : List Int} (h : (Kd.int .u8).C w A L b) (hc : L ≤ c) (hL : L = m * sz) (hP : Kd.C (kP sz) w A' m (chunkP A c sz m)) : Kd.C kRow w A' m (chunks b sz m) := by
  have hb : b.length = m * sz := by have := h.1; omega
  refine ⟨chunks_len _ _ _, hP.2.1, fun hn => ?_⟩
  obtain ⟨ad, e, hcell⟩ := hP.2.2 hn
  refine ⟨ad, e, fun j p hj => ?_⟩
  have hjm : j < m := by have := (List.getElem?_eq_some_iff.1 hj).1; rwa [chunks_len] at this
  have hp : p = (b.drop (j * sz)).take sz := by
    simp [chunks, hjm] at hj; exact hj.symm
  subst hp
  obtain ⟨cs, h1, h2, h3⟩ := hcell j (chunkA A c (j * sz), c - j * sz) (by simp [chunkP, hjm])
  have h2' : cs = [.slice (chunkA A c (j * sz)) sz (c - j * sz)] := h2
  subst h2'
  have hle : (j + 1) * sz ≤ m * sz := Nat.mul_le_mul_right sz hjm
  rw [Nat.add_mul, Nat.one_mul] at hle
  have hcl := chunk_len b sz m j hjm hb
  have hr := ((Kd.reads_of_C (d := (0 : Int)) h).drop_ (j * sz) (by omega) hc).take_ sz (by omega)
  refine ⟨_, rfl, ⟨chunkA A c (j * sz), c - j * sz, by rw [hcl], by omega, ?_⟩, h3⟩
  rw [hcl]
  exact Kd.C_of_reads (d := (0 : Int)) hr
set_option maxRecDepth 100000 in
set_option maxHeartbeats 2000000 in
theorem parts_good (s sz L : Nat) (A : Option Addr) (c : Nat) (b : List Int) (w : World) (hr : (Kd.int .u8).C w A L b) (hc : L ≤ c) (hLs : L = s * sz) (hs : 1 ≤ s) (hsz : 1 ≤ sz) (hs2 : s ≤ 56) (hL1 : L ≤ 1000) :
    Calls Try.prog 24 #[.slice A L c, .int .i64 s] w fun e w' => ∃ A' c', e = .returned (.tuple #[.slice A' s c', .bool true]) ∧ s ≤ c' ∧ Kd.C kRow w' A' s (chunks b sz s) ∧ Below w.heap.size w w' := by
  have HS := Lib.hid (fun W (hB : Below w.heap.size w W) => Kd.C_below hr hB)
  have HC := Lib.hid hc
  have HLS := Lib.hid hLs
  have hL0 : 1 * 1 ≤ s * sz := Nat.mul_le_mul hs hsz
  have d2 : (L : Int) % (s : Int) = 0 := by rw [hLs, Int.natCast_mul]; exact Int.mul_emod_right _ _
  have d4 : (L : Int) / (s : Int) = (sz : Int) := by rw [hLs, Int.natCast_mul, Int.mul_comm]; exact Int.mul_ediv_cancel _ (by omega)
  have d3 : ((L : Int) == 0) = false := by simp; omega
  have d5 : decide ((s : Int) < 1) = false := by simp; omega
  have HB0 := Lib.hid (Below.refl w.heap.size w)
  have t1 : (1 : Int) ≤ (s : Int) := by omega
  have sz1 : sz ≤ L := by rw [hLs]; exact Nat.le_mul_of_pos_left sz (by omega)
  clear hr hc hLs hL0
  go_enter Try.func24, Try.ntmps24
  go_wp2
  rw [d2]
  clear d2 d4 d3 d5
  go_loopw [7, 8, 28] (fun u0 _ iv wr => ∃ (i : Nat) (u : Value), u0 = u ∧ i ≤ s ∧ iv = .int .i64 i ∧ Hid (Kd.R (kP sz) 22 wr w.heap.size (fun _ => True) u (chunkP A c sz i)) ∧ Hid (Below w.heap.size w wr)) (fun _ _ iv _ => s - (intOf iv).toNat)
  case atStart => exact ⟨0, _, rfl, by omega, rfl, Lib.hid (Kd.R_nil _ _ _ _ _), HB0⟩
  case round =>
    clear HB0
    obtain ⟨i, u, rfl, hi, rfl, HO, HB2⟩ := hrel
    by_cases hlt : i < s
    · have hle : (i + 1) * sz ≤ s * sz := Nat.mul_le_mul_right sz hlt
      have hls := HLS.out
      have hcl := HC.out
      obtain ⟨po, hpo⟩ : ∃ po, po = i * sz := ⟨_, rfl⟩
      have hpo2 : (i + 1) * sz = po + sz := by rw [Nat.add_mul, Nat.one_mul, hpo]
      rw [hpo2] at hle
      have e1 : IntKind.i64.wrap ((i : Int) * (sz : Int)) = (po : Int) := by rw [hpo, ← Int.natCast_mul]; exact IntWalk.i64_in _ (by omega)
      have e2 : IntKind.i64.wrap (((i : Int) + 1) * (sz : Int)) = (po : Int) + (sz : Int) := by
        rw [show ((i : Int) + 1) * (sz : Int) = ((po + sz : Nat) : Int) by rw [← hpo2, Int.natCast_mul, Int.natCast_add]; rfl, IntWalk.i64_in _ (by omega)]; omega
      have e3 : IntKind.i64.wrap ((i : Int) + 1) = (i : Int) + 1 := IntWalk.i64_in _ (by omega)
      have g1 : (i : Int) < (s : Int) := by omega
      obtain ⟨i0, hi0, hz⟩ := Option.map_eq_some_iff.1 VPts.info_byte
      simp only [Prod.mk.injEq] at hz
      have kc := cut_mid (P := Try.prog) 22 5 .i64 .i64 Try.underlying22 hi0 1 hz.2.1 A L c (po : Int) ((po : Int) + (sz : Int)) (by omega) (by omega) (by omega) (by omega)
      rw [show ((po : Int) + (sz : Int)).toNat - ((po : Int)).toNat = sz by omega, Int.toNat_natCast, Nat.mul_one] at kc
      obtain ⟨A2, hA2⟩ : ∃ A2, A2 = chunkA A c po := ⟨_, rfl⟩
      rw [show (if c = po then A else A.map (·.add po)) = A2 from hA2.symm] at kc
      obtain ⟨c2, hc2⟩ : ∃ c2, c2 = c - po := ⟨_, rfl⟩
      rw [← hc2] at kc
      have HX := Lib.hid (show chunkP A c sz (i + 1) = chunkP A c sz i ++ [(A2, c2)] by rw [chunkP_succ, ← hpo, ← hA2, ← hc2])
      clear hpo2 hle hls hcl hpo hz hi0 hA2 hc2
      go_wp2_with (at_builtin; refine Kd.R_append (kP sz) (w0 := w) w.heap.size rfl _ _ 29 22 (.slice none 0 0) 24 rfl Try.underlying29 info_rows rfl (show 0 < 1 from Nat.one_pos) (by decide) u7 (chunkP A c sz i) (A2, c2) [.slice A2 sz c2] (fun _ => True) (fun _ => False) rfl rfl rfl (fun _ hk => hk.elim) (fun _ _ => trivial) HO.out HB2.out HB2.out.size (by rw [chunkP_len]; omega) ?_; intro v1 w1 h1 h2 h3 h4; have H1 := Lib.hid h1; have H2 := Lib.hid h2; clear h1 h2 h3 h4)
      go_roundw
      case rel =>
        have hfin := Lib.hid (show Kd.R (kP sz) 22 w1 w.heap.size (fun _ => True) v1 (chunkP A c sz (i + 1)) by rw [HX.out]; exact H1.out)
        exact ⟨i + 1, v1, rfl, by omega, by go_num, hfin, H2⟩
      case measure => simp [intOf]; omega
    · obtain rfl : i = s := by omega
      obtain ⟨A7, c7, rfl, hl7, hC7⟩ := Kd.R_reads HO.out
      rw [chunkP_len] at hC7 hl7 ⊢
      have HC7 := Lib.hid hC7
      have HL7 := Lib.hid hl7
      clear hl7 hC7
      go_wp2
      go_ret2
      exact ⟨A7, c7, rfl, HL7.out, chunks_C (HS.out _ HB2.out) HC.out HLS.out HC7.out, HB2.out⟩

/-- A row's cells. -/
def RowAt (w : World) (ad : Addr) (n : Nat) (xs : List Int) : Prop := ∀ j, j < n → w.cell? (ad.add j) = some (.int .u8 (xs.getD j 0))
theorem RowAt.of {w : World} {A : Option Addr} {n : Nat} {xs : List Int} (h : (Kd.int .u8).C w A n xs) (hn : 0 < n) : ∃ ad, A = some ad ∧ RowAt w ad n xs := by
  obtain ⟨ad, e, _⟩ := at_row h 0 hn
  refine ⟨ad, e, fun j hj => ?_⟩
  obtain ⟨ad', e', hc⟩ := at_row h j hj
  rw [e] at e'
  injection e' with e'
  subst e'
  exact hc
theorem RowAt.far {w : World} {ad : Addr} {n : Nat} {xs : List Int} (h : RowAt w ad n xs) {p : Addr} (hp : ad.block ≠ p.block) (u : Value) : RowAt (w.setCell p u) ad n xs :=
  fun j hj => (World.cell?_setCell_other w p (ad.add j) u (fun e => hp (by rw [e, block_of_add]))).trans (h j hj)
theorem RowAt.drewN {w : World} {ad : Addr} {n : Nat} {xs : List Int} (h : RowAt w ad n xs) (q : Nat) : RowAt (w.drewN q) ad n xs := h
/-- Of the first i places what is mixed, of the others what was. -/
def mixL (n : Nat) (f : Int) (xs ls : Nat → Int) (i : Nat) : List Int := line n (fun j => if j < i then xorI (xs j) (gmI (ls j) f) else xs j)
theorem mixL_zero (n : Nat) (f : Int) (xs ls : Nat → Int) : mixL n f xs ls 0 = line n xs := line_congr n _ _ (fun j _ => by rw [if_neg (Nat.not_lt_zero j)])
theorem mixL_set (n : Nat) (f : Int) (xs ls : Nat → Int) (i : Nat) (hi : i < n) : (mixL n f xs ls i).set i (xorI (xs i) (gmI (ls i) f)) = mixL n f xs ls (i + 1) := by
  unfold mixL
  rw [line_set n _ i hi]
  refine line_congr n _ _ (fun k hk => ?_)
  by_cases e : k = i
  · subst e; rw [if_pos rfl, if_pos (by omega)]
  · rw [if_neg e]
    by_cases h : k < i
    · rw [if_pos h, if_pos (by omega)]
    · rw [if_neg h, if_neg (by omega)]
theorem mixL_get (n : Nat) (f : Int) (xs ls : Nat → Int) (i : Nat) (hi : i < n) : (mixL n f xs ls i).getD i 0 = xs i := by
  unfold mixL
  rw [line_get n _ i hi, if_neg (Nat.lt_irrefl i)]
theorem gm0 (a : Int) : gmI a 0 = 0 := by unfold gmI; simp [gm_zero_right]
theorem xor0 {a : Int} (h : Byt a) : xorI a 0 = a := by unfold xorI; have := h.1; simp; omega
set_option maxRecDepth 100000 in
set_option maxHeartbeats 4000000 in
theorem mix_any (n g ct c1 base : Nat) (ad : Addr) (f : Int) (xs ls : Nat → Int) (w0 w : World) (hf : Byt f) (hxs : ∀ j, Byt (xs j)) (hls : ∀ j, Byt (ls j)) (hB : Below base w0 w) (hg : base ≤ g)
    (hR : Kd.R (Kd.int .u8) 5 w base (fun _ => True) (.slice (some ⟨g, 0, none⟩) n ct) (line n xs)) (hrow : RowAt w ad n (line n ls)) (hne : ad.block ≠ g) (hn : n ≤ 1000000) :
    Calls Try.prog 37 #[.slice (some ⟨g, 0, none⟩) n ct, .slice (some ad) n c1, .int .u8 f] w fun e w' => e = .returned (.tuple #[]) ∧ Kd.R (Kd.int .u8) 5 w' base (fun _ => True) (.slice (some ⟨g, 0, none⟩) n ct) (line n (fun j => xorI (xs j) (gmI (ls j) f))) ∧ Below base w0 w' := by
  by_cases hf0 : f = 0
  · have t1 : (f == 0) = true := by simp [hf0]
    have HR := Lib.hid (show Kd.R (Kd.int .u8) 5 w base (fun _ => True) (.slice (some ⟨g, 0, none⟩) n ct) (line n (fun j => xorI (xs j) (gmI (ls j) f))) by
      rw [line_congr n (fun j => xorI (xs j) (gmI (ls j) f)) xs (fun j _ => by show xorI _ _ = _; rw [hf0, gm0, xor0 (hxs j)])]; exact hR)
    have HB := Lib.hid hB
    clear hR hrow hB hf0 hf hxs hls
    go_enter Try.func37, Try.ntmps37
    go_wp2
    first | go_end0 | ((try simp only [Exit.inBlock, Exit.then]); refine bodyPost_ret (results_none rfl _ _ _) rfl ?_)
    exact ⟨rfl, HR.out, HB.out⟩
  · have t1 : (f == 0) = false := by simp [hf0]
    have HF := Lib.hid hf
    have HXS := Lib.hid hxs
    have HLS := Lib.hid hls
    have HG := Lib.hid hg
    have HNE := Lib.hid hne
    have HR := Lib.hid (show Kd.R (Kd.int .u8) 5 w base (fun _ => True) (.slice (some ⟨g, 0, none⟩) n ct) (mixL n f xs ls 0) by rw [mixL_zero]; exact hR)
    have HROW := Lib.hid hrow
    have HB := Lib.hid hB
    clear hR hrow hB hf0 hf hxs hls hg hne
    go_enter Try.func37, Try.ntmps37
    go_wp2
    go_loopw [6, 7, 12] (fun _ _ iv wr => ∃ (i : Nat), i ≤ n ∧ iv = .int .i64 i ∧ Hid (Kd.R (Kd.int .u8) 5 wr base (fun _ => True) (.slice (some ⟨g, 0, none⟩) n ct) (mixL n f xs ls i)) ∧ Hid (RowAt wr ad n (line n ls)) ∧ Hid (Below base w0 wr)) (fun _ _ iv _ => n - (intOf iv).toNat)
    case atStart => exact ⟨0, by omega, rfl, HR, HROW, HB⟩
    case round =>
      clear HR HROW HB
      obtain ⟨i, hi, rfl, HR, HROW, HB⟩ := hrel
      by_cases hlt : i < n
      · obtain ⟨t1', t2'⟩ := Kd.R_celln (0 : Int) HR.out (i : Int) (by omega) (by omega)
        have t3' : rdOf (0 : Int) (mixL n f xs ls i) (i : Int) = xs i := by
          rw [← mixL_get n f xs ls i hlt]; simp [rdOf]
        rw [t3'] at t1'
        have hcell := HROW.out i hlt
        rw [line_get n ls i hlt] at hcell
        have hpn := fun q => Kd.R_putn (Kd.R_drewN HR.out q) (i : Int) (xorI (xs i) (gmI (ls i) f))
        simp only [Int.toNat_natCast] at t1' t2' hpn
        rw [mixL_set n f xs ls i hlt] at hpn
        have hyb := HXS.out i
        have hzb := HLS.out i
        obtain ⟨y, hy⟩ : ∃ y, y = xs i := ⟨_, rfl⟩
        obtain ⟨z, hz⟩ : ∃ z, z = ls i := ⟨_, rfl⟩
        rw [← hy] at t1' hyb hpn
        rw [← hz] at hcell hzb hpn
        have HZB := Lib.hid hzb
        have HYB := Lib.hid hyb
        have HPN := Lib.hid hpn
        have HBn := Lib.hid (fun q => (pw_below_drewN HB.out q).setCell (p := ⟨g, i, none⟩) HG.out (.int .u8 (xorI y (gmI z f))))
        have HRn := Lib.hid (fun q => (HROW.out.drewN q).far (p := ⟨g, i, none⟩) HNE.out (.int .u8 (xorI y (gmI z f))))
        have g0 : (0 : Int) ≤ (i : Int) := by omega
        have g1 : (i : Int) < (n : Int) := by omega
        clear hy hz hyb hzb t3' hpn
        go_wp2
        refine wp_region_still_tail 11 (by kernel_rfl) (by kernel_rfl) ?_
        change wpStill _ _ (wr.drewN 1) (fun a' => wpList _ _ _ _ a' (wr.drewN 1)) _ _
        simp only [List.take_succ_cons, List.take_zero, List.drop_succ_cons, List.drop_zero]
        iterate 8 still_step
        still_call (mul_still z f (wr.drewN 1) HZB.out HF.out)
        still_call (add_still y (gmI z f) (wr.drewN 1) HYB.out (gmI_byt HZB.out))
        still_step
        refine wpStill_nil ?_
        go_wp2
        go_roundw
        case rel => exact ⟨i + 1, by omega, by go_num, Lib.hid (HPN.out 1), Lib.hid (HRn.out 1), Lib.hid (HBn.out 1)⟩
        case measure => simp [intOf]; omega
      · obtain rfl : i = n := by omega
        go_wp2
        first | go_end0 | ((try simp only [Exit.inBlock, Exit.then]); refine bodyPost_ret (results_none rfl _ _ _) rfl ?_)
        have e : mixL i f xs ls i = line i (fun j => xorI (xs j) (gmI (ls j) f)) := line_congr i _ _ (fun j hj => by rw [if_pos hj])
        exact ⟨rfl, by rw [← e]; exact HR.out, HB.out⟩
end Go.Proofs.Ytmefhhkfakmhgaa.Str
