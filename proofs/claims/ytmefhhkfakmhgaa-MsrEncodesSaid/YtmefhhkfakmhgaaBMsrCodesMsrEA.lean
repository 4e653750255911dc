/- Shards: what they are; the document's. -/
import Derived.Test.YtmefhhkfakmhgaaProg
import Derived.Below
import Derived.Deep.Draws
import Derived.Deep.AppendLies
import Derived.Maps.AppendAt
import Derived.OwnWalk
import Derived.Laws.BytesArg
import Derived.Laws.MakeOwn
import Derived.Laws.OwnMore
import Derived.Deep.OwnRows
import Derived.Tactics
import Derived.Lib.ConvBytes
import Derived.Laws.Slices
import Derived.WalkKit
import Derived.KernelRfl
import Derived.RowKit3
import Derived.Deep.LoopGhost
import Derived.Deep.QuietTactic
import Derived.BigQuiet
import Derived.WideLaws
import Derived.Deep.DeepCutAuto
import Derived.Deep.CutBlock
import Derived.Deep.RegionHeld3
import Derived.Laws.Rows
import Derived.Lib.AppendStr
import Derived.ArgAppend
import Derived.Laws.IdiomCopy
import Derived.OrdersHeld
import Derived.Laws.BitsLemmas
import Derived.RowKit
import Derived.Lib.Hide
import Derived.WalkSpells
import Derived.StillTailTactics
import Derived.Outline
import Derived.Test.YtmefhhkfakmhgaaPlc
import Derived.Test.YtmefhhkfakmhgaaBMsrCodesHeal1
namespace Go.Proofs.Ytmefhhkfakmhgaa.Str
open Go Go.RowKit Go.Proofs.Ytmefhhkfakmhgaa.PMsrCodes Go.Proofs.Ytmefhhkfakmhgaa.BMsrCodes Go.Proofs.Ytmefhhkfakmhgaa.Gf Go.Proofs.Ytmefhhkfakmhgaa.Gi Go.Proofs.Ytmefhhkfakmhgaa.Bits Go.Proofs.Ytmefhhkfakmhgaa.Mem Go.Proofs.Ytmefhhkfakmhgaa.VPts Go.Proofs.Ytmefhhkfakmhgaa.Rws Go.Proofs.Ytmefhhkfakmhgaa.Plc Go.Proofs.YtmefhhkfakmhgaaW.PrintWords Go.Proofs.YtmefhhkfakmhgaaW.PrintLast
set_option linter.unusedVariables false

theorem pows_get (x n i : Nat) (hi : i < n) : (pows x n).getD i 0 = ((gp x i : Nat) : Int) := by simp [pows, List.getD_eq_getElem?_getD, hi]
theorem at_row {w : World} {A : Option Addr} {n : Nat} {xs : List Int} (h : (Kd.int .u8).C w A n xs) (i : Nat) (hi : i < n) : ∃ ad, A = some ad ∧ w.cell? (ad.add i) = some (.int .u8 (xs.getD i 0)) := by
  obtain ⟨ad, e, hc⟩ := Kd.at_int h (i : Int) (by omega) (by omega)
  simp only [Int.toNat_natCast] at hc
  exact ⟨ad, e, by simpa [rd] using hc⟩
theorem at_rowI {w : World} {A : Option Addr} {n : Nat} {xs : List Int} (h : (Kd.int .i64).C w A n xs) (i : Nat) (hi : i < n) : ∃ ad, A = some ad ∧ w.cell? (ad.add i) = some (.int .i64 (xs.getD i 0)) := by
  obtain ⟨ad, e, hc⟩ := Kd.at_int h (i : Int) (by omega) (by omega)
  simp only [Int.toNat_natCast] at hc
  exact ⟨ad, e, by simpa [rd] using hc⟩
theorem rowsI_get {w : World} {A : Option Addr} {n : Nat} {ls : List (List Int)} (h : Kd.C kI w A n ls) (i : Nat) (hi : i < n) :
    ∃ ad A0 c0, A = some ad ∧ w.cell? (ad.add i) = some (.slice A0 (ls.getD i []).length c0) ∧ (ls.getD i []).length ≤ c0 ∧ (Kd.int .i64).C w A0 (ls.getD i []).length (ls.getD i []) := by
  obtain ⟨ad, c, e, _, hK, hc0⟩ := Kd.C_get h [] (i : Int) (by omega) (by omega)
  obtain ⟨A0, c0, rfl, l0, g0⟩ := hK
  refine ⟨ad, A0, c0, e, ?_, l0, g0⟩
  have hq := hc0 0 _ rfl
  simpa [Kd.slice] using hq
theorem placesG_get (a r : Nat) (hr : r < 2 * a) : (placesG a).getD r [] = (List.range a).map (fun c => (Plc.placeN a r c : Int)) := by
  simp [placesG, List.getD_eq_getElem?_getD, hr]
theorem placesG_get2 (a r c : Nat) (hr : r < 2 * a) (hc : c < a) : ((placesG a).getD r []).getD c 0 = (Plc.placeN a r c : Int) := by
  rw [placesG_get a r hr]; simp [List.getD_eq_getElem?_getD, hc]
theorem placeN_lt (a r c : Nat) (h1 : 1 ≤ a) (h7 : a ≤ 7) (hr : r < 2 * a) (hc : c < a) : Plc.placeN a r c < (a + 1) * a := by
  have h : ∀ a, a < 8 → ∀ r, r < 2 * a → ∀ c, c < a → Plc.placeN a r c < (a + 1) * a := by decide +kernel
  exact h a (by omega) r hr c hc
/-- A byte of a part of a shard. -/
def symV (x a sz : Nat) (b : List Int) (j i : Nat) : Int := dotN (fun r => ((gp x r : Nat) : Int)) (fun r => b.getD (Plc.placeN a r j * sz + i) 0) (2 * a)
def symTo (x a sz : Nat) (b : List Int) (j i m : Nat) : Int := dotN (fun r => ((gp x r : Nat) : Int)) (fun r => b.getD (Plc.placeN a r j * sz + i) 0) m
theorem symTo_succ (x a sz : Nat) (b : List Int) (j i m : Nat) : symTo x a sz b j i (m + 1) = xorI (symTo x a sz b j i m) (gmI ((gp x m : Nat) : Int) (b.getD (Plc.placeN a m j * sz + i) 0)) := rfl
theorem symTo_byt (x a sz : Nat) (b : List Int) (j i m : Nat) (hx : x < 256) : Byt (symTo x a sz b j i m) := dotN_byt (fun j => gp_byt x j hx) m
theorem symV_eq (x a sz : Nat) (b : List Int) (j i : Nat) : symTo x a sz b j i (2 * a) = symV x a sz b j i := rfl
def shardTo (x a sz : Nat) (b : List Int) (m : Nat) : List Int := ((List.range m).map (fun j => line sz (symV x a sz b j))).flatten
theorem shardTo_succ (x a sz : Nat) (b : List Int) (m : Nat) : shardTo x a sz b (m + 1) = shardTo x a sz b m ++ line sz (symV x a sz b m) := by
  unfold shardTo; rw [List.range_succ, List.map_append, List.flatten_append]; simp
theorem shardTo_len (x a sz : Nat) (b : List Int) (m : Nat) : (shardTo x a sz b m).length = m * sz := by
  induction m with
  | zero => simp [shardTo]
  | succ m ih => rw [shardTo_succ, List.length_append, ih, line_len, Nat.add_mul, Nat.one_mul]
/-- A shard. -/
def shardL (x a sz : Nat) (b : List Int) : List Int := shardTo x a sz b a
theorem shardL_len (x a sz : Nat) (b : List Int) : (shardL x a sz b).length = a * sz := shardTo_len _ _ _ _ _
theorem shardL_byt (x a sz : Nat) (b : List Int) (hx : x < 256) : ∀ y ∈ shardL x a sz b, Byt y := by
  intro y hy
  obtain ⟨l, hl, hy⟩ := List.mem_flatten.1 hy
  obtain ⟨j, _, rfl⟩ := List.mem_map.1 hl
  exact line_byt sz _ (fun i => symTo_byt x a sz b j i (2 * a) hx) y hy
set_option maxRecDepth 100000 in
set_option maxHeartbeats 4000000 in
theorem refshard_any (k x sz L : Nat) (A1 : Option Addr) (c1 : Nat) (A2 : Option Addr) (c2 : Nat) (b : List Int) (w : World) (k1 : 2 ≤ k) (k2 : k ≤ 8) (hx : x < 256)
    (h1 : (Kd.int .u8).C w A1 (2 * k - 2) (pows x (2 * k - 2))) (h2 : (Kd.int .u8).C w A2 L b) (hLs : L = (k * (k - 1)) * sz) (hsz : 1 ≤ sz) (hL1 : L ≤ 1000) (hbyt : ∀ x ∈ b, Byt x) :
    Calls Try.prog 26 #[.int .i64 k, .slice A1 (2 * k - 2) c1, .slice A2 L c2] w fun e w' => ∃ v, e = .returned v ∧ Kd.R (Kd.int .u8) 5 w' w.heap.size (fun _ => True) v (shardL x (k - 1) sz b) ∧ Below w.heap.size w w' := by
  have PL := Lib.hid (places_any k w k1 k2)
  obtain ⟨a, ha⟩ : ∃ a, a = k - 1 := ⟨_, rfl⟩
  rw [← ha] at PL hLs ⊢
  have a1 : 1 ≤ a := by omega
  have a7 : a ≤ 7 := by omega
  rw [show 2 * k - 2 = 2 * a by omega] at h1 ⊢
  rw [show k = a + 1 by omega] at hLs
  have HR1 := Lib.hid (fun W (hB : Below w.heap.size w W) => Kd.C_below h1 hB)
  have HR2 := Lib.hid (fun W (hB : Below w.heap.size w W) => Kd.C_below h2 hB)
  have HBY := Lib.hid hbyt
  have HX := Lib.hid hx
  have hs56 : (a + 1) * a ≤ 8 * 7 := Nat.mul_le_mul (by omega) a7
  have hs1 : 1 * 1 ≤ (a + 1) * a := Nat.mul_le_mul (by omega) a1
  obtain ⟨s, hs⟩ : ∃ s, s = (a + 1) * a := ⟨_, rfl⟩
  have HPL := Lib.hid (fun r j (hr : r < 2 * a) (hj : j < a) => show Plc.placeN a r j < s by rw [hs]; exact placeN_lt a r j a1 a7 hr hj)
  rw [← hs] at hLs hs56 hs1
  have d0 : IntKind.i64.wrap ((k : Int) - 1) = (a : Int) := by rw [IntWalk.i64_in _ (by omega)]; omega
  have d1 : IntKind.i64.wrap ((k : Int) * (a : Int)) = (s : Int) := by rw [show (k : Int) = ((a + 1 : Nat) : Int) by omega, ← Int.natCast_mul, ← hs, IntWalk.i64_in _ (by omega)]
  have d2 : (L : Int) / (s : Int) = (sz : Int) := by rw [hLs, Int.natCast_mul, Int.mul_comm]; exact Int.mul_ediv_cancel _ (by omega)
  have sz1 : sz ≤ L := by rw [hLs]; exact Nat.le_mul_of_pos_left sz (by omega)
  have HLS := Lib.hid hLs
  obtain ⟨q, hq⟩ : ∃ q, q = 2 * a := ⟨_, rfl⟩
  rw [← hq] at PL HR1 HPL ⊢
  have HQ := Lib.hid hq
  have hq14 : q ≤ 14 := by omega
  clear ha hs h1 h2 hLs hx hbyt k1 k2 hq
  go_enter Try.func26, Try.ntmps26
  go_upto_region 5 with (go_at_call 31; (with_reducible refine PL.out.mono ?_); rintro e w1 ⟨A3, c3, rfl, _, hC3, hb⟩; have HC3 := Lib.hid hC3; have HB1 := Lib.hid hb; clear hC3 hb)
  go_loopw [9, 10, 11, 12, 13] (fun u0 jv _ _ _ wr => ∃ (j : Nat) (u : Value), u0 = u ∧ j ≤ a ∧ jv = .int .i64 j ∧ Hid (Kd.R (Kd.int .u8) 5 wr w1.heap.size (fun _ => True) u (shardTo x a sz b j)) ∧ Hid (Below w1.heap.size w1 wr)) (fun _ jv _ _ _ _ => a - (intOf jv).toNat)
  case atStart => exact ⟨0, _, rfl, by omega, rfl, Lib.hid (by unfold shardTo; exact Kd.R_nil _ _ _ _ _), Lib.hid (Below.refl _ _)⟩
  case round =>
    obtain ⟨j, u, rfl, hj, rfl, HO, HB2⟩ := hrel
    by_cases hja : j < a
    · have g0 : (j : Int) < (a : Int) := by omega
      go_upto_region 8 with (fail)
      go_loopw [9, 11, 12, 13] (fun u0 iv _ _ wr => ∃ (i : Nat) (u : Value), u0 = u ∧ i ≤ sz ∧ iv = .int .i64 i ∧ Hid (Kd.R (Kd.int .u8) 5 wr w1.heap.size (fun _ => True) u (shardTo x a sz b j ++ line i (symV x a sz b j))) ∧ Hid (Below w1.heap.size w1 wr)) (fun _ iv _ _ _ => sz - (intOf iv).toNat)
      case atStart => exact ⟨0, _, rfl, by omega, rfl, Lib.hid (by rw [show line 0 (symV x a sz b j) = [] from rfl, List.append_nil]; exact HO.out), HB2⟩
      case round =>
        clear HO HB2
        obtain ⟨i, u, rfl, hi, rfl, HO, HB2⟩ := hrel
        by_cases hlt : i < sz
        · have g1 : (i : Int) < (sz : Int) := by omega
          go_upto_region 12 with (fail)
          go_loopw [12, 13] (fun s0 rv wr' => ∃ (r : Nat), r ≤ q ∧ rv = .int .i64 r ∧ s0 = .int .u8 (symTo x a sz b j i r) ∧ Hid (Kd.R (Kd.int .u8) 5 wr' w1.heap.size (fun _ => True) u9 (shardTo x a sz b j ++ line i (symV x a sz b j))) ∧ Hid (Below w1.heap.size w1 wr')) (fun _ rv _ => q - (intOf rv).toNat)
          case atStart => exact ⟨0, by omega, rfl, rfl, HO, HB2⟩
          case round =>
            clear HO HB2
            obtain ⟨r, hr, rfl, rfl, HO, HB2⟩ := hrel
            by_cases hrq : r < q
            · have hB := HB2.out
              have hBw := HB1.out.trans (hB.mono HB1.out.size)
              have hpl := HPL.out r j hrq hja
              have hLS := HLS.out
              have hr2 : r < 2 * a := by have := HQ.out; omega
              obtain ⟨p, hp⟩ : ∃ p, p = Plc.placeN a r j := ⟨_, rfl⟩
              rw [← hp] at hpl
              have hps : (p + 1) * sz ≤ s * sz := Nat.mul_le_mul_right sz hpl
              rw [Nat.add_mul, Nat.one_mul] at hps
              have hp56 : p * sz ≤ 1000 := by omega
              obtain ⟨po, hpo⟩ : ∃ po, po = p * sz := ⟨_, rfl⟩
              have e2 : IntKind.i64.wrap ((p : Int) * (sz : Int)) = (po : Int) := by rw [hpo, ← Int.natCast_mul]; exact IntWalk.i64_in _ (by omega)
              rw [← hpo] at hps
              obtain ⟨adr, rfl, hc1⟩ := at_row (HR1.out _ hBw) r hrq
              obtain ⟨ads, rfl, hc2⟩ := at_row (HR2.out _ hBw) (po + i) (by omega)
              obtain ⟨adp, A7, c7, rfl, hc3, _, hC7⟩ := rowsI_get (Kd.C_below HC3.out hB) r hrq
              rw [placesG_get a r hr2, List.length_map, List.length_range] at hc3
              have hC7' : (Kd.int .i64).C wr A7 a ((placesG a).getD r []) := by
                have e : ((placesG a).getD r []).length = a := by rw [placesG_get a r hr2]; simp
                rw [e] at hC7; exact hC7
              obtain ⟨ad7, rfl, hc4⟩ := at_rowI hC7' j hja
              rw [placesG_get2 a r j hr2 hja, ← hp] at hc4
              rw [pows_get x q r hrq] at hc1
              have hfs := symTo_succ x a sz b j i r
              rw [← hp, ← hpo] at hfs
              have hyb := symTo_byt x a sz b j i r HX.out
              have hzb := getD_byt HBY.out (po + i)
              have hgb := gp_byt x r HX.out
              obtain ⟨y, hy⟩ : ∃ y, y = symTo x a sz b j i r := ⟨_, rfl⟩
              obtain ⟨z, hz⟩ : ∃ z, z = b.getD (po + i) 0 := ⟨_, rfl⟩
              obtain ⟨f, hf⟩ : ∃ f, f = ((gp x r : Nat) : Int) := ⟨_, rfl⟩
              rw [← hy] at hfs hyb ⊢
              rw [← hz] at hc2 hfs hzb
              rw [← hf] at hc1 hfs hgb
              have hxb := xor_bits hyb (gmI_byt (b := z) hgb)
              rw [← hfs] at hxb
              have MC := Lib.hid (fun W => refmul_calls f z W hgb hzb)
              have g2 : IntKind.i64.wrap ((po : Int) + (i : Int)) = (po : Int) + (i : Int) := IntWalk.i64_in _ (by omega)
              have g3 : (0 : Int) ≤ (po : Int) + (i : Int) := by omega
              have g4 : (po : Int) + (i : Int) < (L : Int) := by omega
              have g5 : ((po : Int) + (i : Int)).toNat = po + i := by omega
              have g6 : (r : Int) < (q : Int) := by omega
              have g7 : (0 : Int) ≤ (r : Int) := by omega
              have g8 : (0 : Int) ≤ (j : Int) := by omega
              have HXB := Lib.hid hxb
              clear hB hBw hpl hLS hp hpo hps hp56 hC7 hC7' hfs hyb hzb hgb hy hz hf hxb hr2
              go_wp2
              go_quiet ((go_at_call 39; (with_reducible refine (MC.out _).mono ?_); rintro e w' ⟨rfl, ⟨nd, rfl⟩⟩; (first | exact ⟨rfl, _, World.drewN_drewN _ _ _⟩ | exact ⟨rfl, _, Eq.trans (World.drewN_drewN _ _ _) (congrArg (World.drewN _) (Nat.add_assoc _ _ _))⟩ | exact ⟨rfl, _, rfl⟩)))
              rw [HXB.out]
              go_wp2
              go_roundw
              case rel => exact ⟨r + 1, by omega, by go_num, rfl, Lib.hid (Kd.R_drewN HO.out _), Lib.hid (pw_below_drewN HB2.out _)⟩
              case measure => simp [intOf]; omega
            · obtain rfl : r = q := by omega
              have hsv := symV_eq x a sz b j i
              rw [← HQ.out] at hsv
              rw [hsv]
              obtain ⟨y, hy⟩ : ∃ y, y = symV x a sz b j i := ⟨_, rfl⟩
              rw [← hy]
              have HY := Lib.hid hy
              clear hy hsv
              go_wp2_with (at_builtin; refine byte_append (w0 := w1) rfl w1.heap.size rfl _ _ rfl u9 (shardTo x a sz b j ++ line i (symV x a sz b j)) y (fun _ => True) rfl rfl HO.out (fun _ _ => trivial) HB2.out HB2.out.size (by rw [List.length_append, shardTo_len, line_len]; have := Nat.mul_le_mul (show j ≤ 7 by omega) (show sz ≤ 1000 by omega); omega) ?_; intro v1 w2 hr2 hb2 hg2; have HR3 := Lib.hid hr2; have HB3 := Lib.hid hb2; clear hr2 hb2 hg2)
              go_roundw
              case rel => exact ⟨i + 1, _, rfl, by omega, by go_num, Lib.hid (by rw [line_succ, ← List.append_assoc, ← HY.out]; exact HR3.out), HB3⟩
              case measure => simp [intOf]; omega
        · obtain rfl : i = sz := by omega
          go_wp2
          go_roundw
          case rel => exact ⟨j + 1, _, rfl, by omega, by go_num, Lib.hid (by rw [shardTo_succ]; exact HO.out), HB2⟩
          case measure => simp [intOf]; omega
    · obtain rfl : j = a := by omega
      go_wp2
      go_ret
      exact ⟨_, rfl, Kd.R_lower HO.out HB1.out.size, HB1.out.trans (HB2.out.mono HB1.out.size)⟩

theorem rowsN_get {w : World} {A : Option Addr} {n : Nat} {ls : List (List Int)} (h : Kd.C kRow w A n ls) (i : Nat) (hi : i < n) :
    ∃ ad A0 c0, A = some ad ∧ w.cell? (ad.add i) = some (.slice A0 (ls.getD i []).length c0) ∧ (ls.getD i []).length ≤ c0 ∧ (Kd.int .u8).C w A0 (ls.getD i []).length (ls.getD i []) := by
  obtain ⟨ad, c, e, _, hK, hc0⟩ := Kd.C_get h [] (i : Int) (by omega) (by omega)
  obtain ⟨A0, c0, rfl, l0, g0⟩ := hK
  refine ⟨ad, A0, c0, e, ?_, l0, g0⟩
  have hq := hc0 0 _ rfl
  simpa [Kd.slice] using hq
theorem rows_row {w : World} {A : Option Addr} {n k : Nat} (h : Kd.C kRow w A n (rowsM n k n)) (i : Nat) (hi : i < n) :
    ∃ ad A0 c0, A = some ad ∧ w.cell? (ad.add i) = some (.slice A0 (2 * k - 2) c0) ∧ 2 * k - 2 ≤ c0 ∧ (Kd.int .u8).C w A0 (2 * k - 2) (pows (ptN n k i) (2 * k - 2)) := by
  obtain ⟨ad, A0, c0, e, h1, h2, h3⟩ := rowsN_get h i hi
  rw [rowsM_get n k n i hi, pows_len] at h1 h2 h3
  exact ⟨ad, A0, c0, e, h1, h2, h3⟩
/-- The first m shards. -/
def shardsM (n k sz : Nat) (b : List Int) (m : Nat) : List (List Int) := (List.range m).map (fun i => shardL (ptN n k i) (k - 1) sz b)
theorem shardsM_succ (n k sz : Nat) (b : List Int) (m : Nat) : shardsM n k sz b (m + 1) = shardsM n k sz b m ++ [shardL (ptN n k m) (k - 1) sz b] := by simp [shardsM, List.range_succ]
theorem shardsM_len (n k sz : Nat) (b : List Int) (m : Nat) : (shardsM n k sz b m).length = m := by simp [shardsM]
theorem shardsM_byt (n k sz : Nat) (b : List Int) (m : Nat) : ∀ l ∈ shardsM n k sz b m, ∀ x ∈ l, Byt x := by
  intro l hl
  obtain ⟨i, _, rfl⟩ := List.mem_map.1 hl
  exact shardL_byt _ _ _ _ (ptN_lt n k i)
theorem len_cases (L s : Nat) (h : L = 0 ∨ L % s ≠ 0) : ((L : Int) == 0) = true ∨ (((L : Int) == 0) = false ∧ ((L : Int) % (s : Int) != 0) = true) := by
  by_cases h0 : L = 0
  · left; simp; omega
  · right
    refine ⟨by simp; omega, ?_⟩
    have : L % s ≠ 0 := h.resolve_left h0
    simp only [bne_iff_ne]; omega
set_option maxRecDepth 100000 in
theorem refenc_bad (n : Int) (k s L : Nat) (A : Option Addr) (c : Nat) (w : World) (k1 : 2 ≤ k) (k2 : k ≤ 8) (hs : k * (k - 1) = s) (h : L = 0 ∨ L % s ≠ 0) :
    Calls Try.prog 11 #[.int .i64 n, .int .i64 k, .slice A L c] w fun e w' => e = .returned (.tuple #[.slice none 0 0, .bool false]) ∧ Below w.heap.size w w' := by
  have hs56 : k * (k - 1) ≤ 8 * 7 := Nat.mul_le_mul k2 (by omega)
  have hs2 : 2 * 1 ≤ k * (k - 1) := Nat.mul_le_mul k1 (by omega)
  have d0 : IntKind.i64.wrap ((k : Int) - 1) = ((k - 1 : Nat) : Int) := by rw [IntWalk.i64_in _ (by omega)]; omega
  obtain ⟨a, ha⟩ : ∃ a, a = k - 1 := ⟨_, rfl⟩
  rw [← ha] at d0 hs hs56 hs2
  rw [hs] at hs56 hs2
  have d1 : IntKind.i64.wrap ((k : Int) * (a : Int)) = (s : Int) := by rw [← Int.natCast_mul, hs, IntWalk.i64_in _ (by omega)]
  have h' := len_cases L s h
  have HB := Lib.hid (Below.refl w.heap.size w)
  have t1 : (1 : Int) ≤ (s : Int) := by omega
  clear h ha hs k1 k2
  rcases h' with h1 | ⟨h1, h2⟩
  all_goals
    go_enter Try.func11, Try.ntmps11
    go_wp2
    go_ret2
    exact ⟨rfl, HB.out⟩
set_option maxRecDepth 100000 in
set_option maxHeartbeats 2000000 in
theorem refenc_good (n k s sz L : Nat) (A : Option Addr) (c : Nat) (b : List Int) (w : World) (k1 : 2 ≤ k) (k2 : k ≤ 8) (n2 : n ≤ 24) (hs : k * (k - 1) = s) (hr : (Kd.int .u8).C w A L b) (hLs : L = s * sz) (hsz : 1 ≤ sz) (hL1 : L ≤ 1000) (hbyt : ∀ x ∈ b, Byt x) :
    Calls Try.prog 11 #[.int .i64 n, .int .i64 k, .slice A L c] w fun e w' => ∃ A' c', e = .returned (.tuple #[.slice A' n c', .bool true]) ∧ n ≤ c' ∧ Kd.C kRow w' A' n (shardsM n k sz b n) ∧ Below w.heap.size w w' := by
  have RW := Lib.hid (rows_calls n k w k1 k2 n2)
  have HS := Lib.hid (fun W (hB : Below w.heap.size w W) => Kd.C_below hr hB)
  have SH := Lib.hid (fun i A1 c1 W (hB : Below w.heap.size w W) (h1 : (Kd.int .u8).C W A1 (2 * k - 2) (pows (ptN n k i) (2 * k - 2))) => refshard_any k (ptN n k i) sz L A1 c1 A c b W k1 k2 (ptN_lt n k i) h1 (Kd.C_below hr hB) (by rw [hs]; exact hLs) hsz hL1 hbyt)
  have RG := Lib.hid (fun W A (hC : Kd.C kRow W A n (rowsM n k n)) i (hi : i < n) => rows_row hC i hi)
  obtain ⟨m, hm⟩ : ∃ m, m = 2 * k - 2 := ⟨_, rfl⟩
  rw [← hm] at SH RG
  have hs56 : k * (k - 1) ≤ 8 * 7 := Nat.mul_le_mul k2 (by omega)
  have hs2 : 2 * 1 ≤ k * (k - 1) := Nat.mul_le_mul k1 (by omega)
  have d0 : IntKind.i64.wrap ((k : Int) - 1) = ((k - 1 : Nat) : Int) := by rw [IntWalk.i64_in _ (by omega)]; omega
  obtain ⟨a, ha⟩ : ∃ a, a = k - 1 := ⟨_, rfl⟩
  have HA := Lib.hid ha
  rw [← ha] at d0 hs hs56 hs2
  rw [hs] at hs56 hs2
  have d1 : IntKind.i64.wrap ((k : Int) * (a : Int)) = (s : Int) := by rw [← Int.natCast_mul, hs, IntWalk.i64_in _ (by omega)]
  have t1 : (1 : Int) ≤ (s : Int) := by omega
  have d2 : (L : Int) % (s : Int) = 0 := by rw [hLs, Int.natCast_mul]; exact Int.mul_emod_right _ _
  have hL0 : 2 * 1 ≤ s * sz := Nat.mul_le_mul (by omega) hsz
  have d3 : ((L : Int) == 0) = false := by simp; omega
  clear hm ha hs hr hLs hsz hL1 hbyt hs56 hs2 k1 k2 hL0
  go_enter Try.func11, Try.ntmps11
  go_upto_region 6 with (go_at_call 22; (with_reducible refine RW.out.mono ?_); rintro e w1 ⟨A1, c1, rfl, _, hC1, hb⟩; have HC1 := Lib.hid hC1; have HB1 := Lib.hid hb; clear hC1 hb)
  go_loopw [9, 10] (fun u0 iv wr => ∃ (i : Nat) (u : Value), u0 = u ∧ i ≤ n ∧ iv = .int .i64 i ∧ Hid (RowsR wr w1.heap.size u (shardsM n k sz b i)) ∧ Hid (Below w1.heap.size w1 wr)) (fun _ iv _ => n - (intOf iv).toNat)
  case atStart => exact ⟨0, _, rfl, by omega, rfl, Lib.hid (Kd.R_nil _ _ _ _ _), Lib.hid (Below.refl _ _)⟩
  case round =>
    obtain ⟨i, u, rfl, hi, rfl, HO, HB2⟩ := hrel
    by_cases hlt : i < n
    · have hBw := HB1.out.trans (HB2.out.mono HB1.out.size)
      obtain ⟨ad, A3, c3, rfl, hcell, _, hC3⟩ := RG.out _ _ (Kd.C_below HC1.out HB2.out) i hlt
      have HC3 := Lib.hid hC3
      have HBW := Lib.hid hBw
      have g1 : (i : Int) < (n : Int) := by omega
      have g2 : (0 : Int) ≤ (i : Int) := by omega
      clear hC3 hBw
      go_wp2_with (first
        | (go_at_call 26; (with_reducible refine (SH.out i A3 c3 wr HBW.out HC3.out).mono ?_); rintro e w3 ⟨v3, rfl, hr3, hb⟩; obtain ⟨A5, c5, rfl⟩ := Kd.R_slice hr3; have HR3 := Lib.hid hr3; have HB3 := Lib.hid hb; clear hr3 hb)
        | (at_builtin; refine rows_append2 (w0 := w1) rfl w1.heap.size rfl _ _ rfl u9 _ (shardsM n k sz b i) _ rfl rfl HO.out (HB2.out.trans (HB3.out.mono HB2.out.size)) HB2.out.size HB3.out HR3.out (by rw [shardsM_len]; omega) ?_; intro v5 w5 h5 hb5; have H5 := Lib.hid h5; have HB5 := Lib.hid hb5; clear h5 hb5))
      go_roundw
      case rel => exact ⟨i + 1, _, rfl, by omega, by go_num, Lib.hid (by rw [shardsM_succ]; exact H5.out), HB5⟩
      case measure => simp [intOf]; omega
    · obtain rfl : i = n := by omega
      obtain ⟨A7, c7, rfl, hl7, hC7⟩ := Kd.R_reads HO.out
      rw [shardsM_len] at hC7 hl7 ⊢
      have HC7 := Lib.hid hC7
      have HL7 := Lib.hid hl7
      clear hl7 hC7
      go_wp2
      go_ret2
      exact ⟨A7, c7, rfl, HL7.out, HC7.out, HB1.out.trans (HB2.out.mono HB1.out.size)⟩
end Go.Proofs.Ytmefhhkfakmhgaa.Str
