/- Shards: what they are; the document's. -/
import Derived.Test.YtjoblpkfpfclpaaProg
import Derived.Below
import Derived.Deep.Draws
import Derived.Deep.AppendLies
import Derived.Maps.AppendAt
import Derived.OwnWalk
import Derived.Laws.BytesArg
import Derived.Laws.MakeOwn
import Derived.Laws.OwnMore
import Derived.Deep.OwnRows
import Derived.Tactics
import Derived.Lib.ConvBytes
import Derived.Laws.Slices
import Derived.WalkKit
import Derived.KernelRfl
import Derived.RowKit3
import Derived.Deep.LoopGhost
import Derived.Deep.QuietTactic
import Derived.BigQuiet
import Derived.WideLaws
import Derived.Deep.DeepCutAuto
import Derived.Deep.CutBlock
import Derived.Deep.RegionHeld3
import Derived.Laws.Rows
import Derived.Lib.AppendStr
import Derived.ArgAppend
import Derived.Laws.IdiomCopy
import Derived.OrdersHeld
import Derived.Laws.BitsLemmas
import Derived.RowKit
import Derived.Lib.Hide
import Derived.WalkSpells
import Derived.StillTailTactics
import Derived.Outline
import Derived.Test.YtjoblpkfpfclpaaPlc
import Derived.Test.YtjoblpkfpfclpaaBRowsHealR
import Derived.Test.YtjoblpkfpfclpaaGiMul
namespace Go.Proofs.Ytjoblpkfpfclpaa.Str
open Go Go.RowKit Go.Proofs.Ytjoblpkfpfclpaa.PRows Go.Proofs.Ytjoblpkfpfclpaa.BRows Go.Proofs.Ytjoblpkfpfclpaa.BStripeSpreads Go.Proofs.Ytjoblpkfpfclpaa.Gf Go.Proofs.Ytjoblpkfpfclpaa.Gi Go.Proofs.Ytjoblpkfpfclpaa.Bits Go.Proofs.Ytjoblpkfpfclpaa.Mem Go.Proofs.Ytjoblpkfpfclpaa.VPts Go.Proofs.Ytjoblpkfpfclpaa.Rws Go.Proofs.Ytjoblpkfpfclpaa.Plc Go.Proofs.YtjoblpkfpfclpaaW.PrintWords Go.Proofs.YtjoblpkfpfclpaaW.PrintLast
set_option linter.unusedVariables false

theorem pows_get (x n i : Nat) (hi : i < n) : (pows x n).getD i 0 = ((gp x i : Nat) : Int) := by simp [pows, List.getD_eq_getElem?_getD, hi]
theorem at_row {w : World} {A : Option Addr} {n : Nat} {xs : List Int} (h : (Kd.int .u8).C w A n xs) (i : Nat) (hi : i < n) : ∃ ad, A = some ad ∧ w.cell? (ad.add i) = some (.int .u8 (xs.getD i 0)) := by
  obtain ⟨ad, e, hc⟩ := Kd.at_int h (i : Int) (by omega) (by omega)
  simp only [Int.toNat_natCast] at hc
  exact ⟨ad, e, by simpa [rd] using hc⟩
theorem at_rowI {w : World} {A : Option Addr} {n : Nat} {xs : List Int} (h : (Kd.int .i64).C w A n xs) (i : Nat) (hi : i < n) : ∃ ad, A = some ad ∧ w.cell? (ad.add i) = some (.int .i64 (xs.getD i 0)) := by
  obtain ⟨ad, e, hc⟩ := Kd.at_int h (i : Int) (by omega) (by omega)
  simp only [Int.toNat_natCast] at hc
  exact ⟨ad, e, by simpa [rd] using hc⟩
theorem rowsI_get {w : World} {A : Option Addr} {n : Nat} {ls : List (List Int)} (h : Kd.C kI w A n ls) (i : Nat) (hi : i < n) :
    ∃ ad A0 c0, A = some ad ∧ w.cell? (ad.add i) = some (.slice A0 (ls.getD i []).length c0) ∧ (ls.getD i []).length ≤ c0 ∧ (Kd.int .i64).C w A0 (ls.getD i []).length (ls.getD i []) := by
  obtain ⟨ad, c, e, _, hK, hc0⟩ := Kd.C_get h [] (i : Int) (by omega) (by omega)
  obtain ⟨A0, c0, rfl, l0, g0⟩ := hK
  refine ⟨ad, A0, c0, e, ?_, l0, g0⟩
  have hq := hc0 0 _ rfl
  simpa [Kd.slice] using hq
theorem placesG_get (a r : Nat) (hr : r < 2 * a) : (placesG a).getD r [] = (List.range a).map (fun c => (Plc.placeN a r c : Int)) := by
  simp [placesG, List.getD_eq_getElem?_getD, hr]
theorem placesG_get2 (a r c : Nat) (hr : r < 2 * a) (hc : c < a) : ((placesG a).getD r []).getD c 0 = (Plc.placeN a r c : Int) := by
  rw [placesG_get a r hr]; simp [List.getD_eq_getElem?_getD, hc]
theorem placeN_lt (a r c : Nat) (h1 : 1 ≤ a) (h7 : a ≤ 7) (hr : r < 2 * a) (hc : c < a) : Plc.placeN a r c < (a + 1) * a := by
  have h : ∀ a, a < 8 → ∀ r, r < 2 * a → ∀ c, c < a → Plc.placeN a r c < (a + 1) * a := by decide +kernel
  exact h a (by omega) r hr c hc
/-- A byte of a part of a shard. -/
def symV (x a sz : Nat) (b : List Int) (j i : Nat) : Int := dotN (fun r => ((gp x r : Nat) : Int)) (fun r => b.getD (Plc.placeN a r j * sz + i) 0) (2 * a)
def symTo (x a sz : Nat) (b : List Int) (j i m : Nat) : Int := dotN (fun r => ((gp x r : Nat) : Int)) (fun r => b.getD (Plc.placeN a r j * sz + i) 0) m
theorem symTo_succ (x a sz : Nat) (b : List Int) (j i m : Nat) : symTo x a sz b j i (m + 1) = xorI (symTo x a sz b j i m) (gmI ((gp x m : Nat) : Int) (b.getD (Plc.placeN a m j * sz + i) 0)) := rfl
theorem symTo_byt (x a sz : Nat) (b : List Int) (j i m : Nat) (hx : x < 256) : Byt (symTo x a sz b j i m) := dotN_byt (fun j => gp_byt x j hx) m
theorem symV_eq (x a sz : Nat) (b : List Int) (j i : Nat) : symTo x a sz b j i (2 * a) = symV x a sz b j i := rfl
def shardTo (x a sz : Nat) (b : List Int) (m : Nat) : List Int := ((List.range m).map (fun j => line sz (symV x a sz b j))).flatten
theorem shardTo_succ (x a sz : Nat) (b : List Int) (m : Nat) : shardTo x a sz b (m + 1) = shardTo x a sz b m ++ line sz (symV x a sz b m) := by
  unfold shardTo; rw [List.range_succ, List.map_append, List.flatten_append]; simp
theorem shardTo_len (x a sz : Nat) (b : List Int) (m : Nat) : (shardTo x a sz b m).length = m * sz := by
  induction m with
  | zero => simp [shardTo]
  | succ m ih => rw [shardTo_succ, List.length_append, ih, line_len, Nat.add_mul, Nat.one_mul]
/-- A shard. -/
def shardL (x a sz : Nat) (b : List Int) : List Int := shardTo x a sz b a
theorem shardL_len (x a sz : Nat) (b : List Int) : (shardL x a sz b).length = a * sz := shardTo_len _ _ _ _ _
theorem shardL_byt (x a sz : Nat) (b : List Int) (hx : x < 256) : ∀ y ∈ shardL x a sz b, Byt y := by
  intro y hy
  obtain ⟨l, hl, hy⟩ := List.mem_flatten.1 hy
  obtain ⟨j, _, rfl⟩ := List.mem_map.1 hl
  exact line_byt sz _ (fun i => symTo_byt x a sz b j i (2 * a) hx) y hy
set_option maxRecDepth 100000 in
set_option maxHeartbeats 4000000 in
theorem refshard_any (k x sz L : Nat) (A1 : Option Addr) (c1 : Nat) (A2 : Option Addr) (c2 : Nat) (b : List Int) (w : World) (k1 : 2 ≤ k) (k2 : k ≤ 8) (hx : x < 256)
    (h1 : (Kd.int .u8).C w A1 (2 * k - 2) (pows x (2 * k - 2))) (h2 : (Kd.int .u8).C w A2 L b) (hLs : L = (k * (k - 1)) * sz) (hsz : 1 ≤ sz) (hL1 : L ≤ 1000) (hbyt : ∀ x ∈ b, Byt x) :
    Calls Try.prog 34 #[.int .i64 k, .slice A1 (2 * k - 2) c1, .slice A2 L c2] w fun e w' => ∃ v, e = .returned v ∧ Kd.R (Kd.int .u8) 5 w' w.heap.size (fun _ => True) v (shardL x (k - 1) sz b) ∧ Below w.heap.size w w' := by
  have PL := Lib.hid (places_any k w k1 k2)
  obtain ⟨a, ha⟩ : ∃ a, a = k - 1 := ⟨_, rfl⟩
  rw [← ha] at PL hLs ⊢
  have a1 : 1 ≤ a := by omega
  have a7 : a ≤ 7 := by omega
  rw [show 2 * k - 2 = 2 * a by omega] at h1 ⊢
  rw [show k = a + 1 by omega] at hLs
  have HR1 := Lib.hid (fun W (hB : Below w.heap.size w W) => Kd.C_below h1 hB)
  have HR2 := Lib.hid (fun W (hB : Below w.heap.size w W) => Kd.C_below h2 hB)
  have HBY := Lib.hid hbyt
  have HX := Lib.hid hx
  have hs56 : (a + 1) * a ≤ 8 * 7 := Nat.mul_le_mul (by omega) a7
  have hs1 : 1 * 1 ≤ (a + 1) * a := Nat.mul_le_mul (by omega) a1
  obtain ⟨s, hs⟩ : ∃ s, s = (a + 1) * a := ⟨_, rfl⟩
  have HPL := Lib.hid (fun r j (hr : r < 2 * a) (hj : j < a) => show Plc.placeN a r j < s by rw [hs]; exact placeN_lt a r j a1 a7 hr hj)
  rw [← hs] at hLs hs56 hs1
  have d0 : IntKind.i64.wrap ((k : Int) - 1) = (a : Int) := by rw [IntWalk.i64_in _ (by omega)]; omega
  have d1 : IntKind.i64.wrap ((k : Int) * (a : Int)) = (s : Int) := by rw [show (k : Int) = ((a + 1 : Nat) : Int) by omega, ← Int.natCast_mul, ← hs, IntWalk.i64_in _ (by omega)]
  have d2 : (L : Int) / (s : Int) = (sz : Int) := by rw [hLs, Int.natCast_mul, Int.mul_comm]; exact Int.mul_ediv_cancel _ (by omega)
  have sz1 : sz ≤ L := by rw [hLs]; exact Nat.le_mul_of_pos_left sz (by omega)
  have HLS := Lib.hid hLs
  obtain ⟨q, hq⟩ : ∃ q, q = 2 * a := ⟨_, rfl⟩
  rw [← hq] at PL HR1 HPL ⊢
  have HQ := Lib.hid hq
  have hq14 : q ≤ 14 := by omega
  clear ha hs h1 h2 hLs hx hbyt k1 k2 hq
  go_enter Try.func34, Try.ntmps34
  go_upto_region 5 with (go_at_call 41; (with_reducible refine PL.out.mono ?_); rintro e w1 ⟨A3, c3, rfl, _, hC3, hb⟩; have HC3 := Lib.hid hC3; have HB1 := Lib.hid hb; clear hC3 hb)
  go_loopw [9, 10, 11, 12, 13] (fun u0 jv _ _ _ wr => ∃ (j : Nat) (u : Value), u0 = u ∧ j ≤ a ∧ jv = .int .i64 j ∧ Hid (Kd.R (Kd.int .u8) 5 wr w1.heap.size (fun _ => True) u (shardTo x a sz b j)) ∧ Hid (Below w1.heap.size w1 wr)) (fun _ jv _ _ _ _ => a - (intOf jv).toNat)
  case atStart => exact ⟨0, _, rfl, by omega, rfl, Lib.hid (by unfold shardTo; exact Kd.R_nil _ _ _ _ _), Lib.hid (Below.refl _ _)⟩
  case round =>
    obtain ⟨j, u, rfl, hj, rfl, HO, HB2⟩ := hrel
    by_cases hja : j < a
    · have g0 : (j : Int) < (a : Int) := by omega
      go_upto_region 8 with (fail)
      go_loopw [9, 11, 12, 13] (fun u0 iv _ _ wr => ∃ (i : Nat) (u : Value), u0 = u ∧ i ≤ sz ∧ iv = .int .i64 i ∧ Hid (Kd.R (Kd.int .u8) 5 wr w1.heap.size (fun _ => True) u (shardTo x a sz b j ++ line i (symV x a sz b j))) ∧ Hid (Below w1.heap.size w1 wr)) (fun _ iv _ _ _ => sz - (intOf iv).toNat)
      case atStart => exact ⟨0, _, rfl, by omega, rfl, Lib.hid (by rw [show line 0 (symV x a sz b j) = [] from rfl, List.append_nil]; exact HO.out), HB2⟩
      case round =>
        clear HO HB2
        obtain ⟨i, u, rfl, hi, rfl, HO, HB2⟩ := hrel
        by_cases hlt : i < sz
        · have g1 : (i : Int) < (sz : Int) := by omega
          go_upto_region 12 with (fail)
          go_loopw [12, 13] (fun s0 rv wr' => ∃ (r : Nat), r ≤ q ∧ rv = .int .i64 r ∧ s0 = .int .u8 (symTo x a sz b j i r) ∧ Hid (Kd.R (Kd.int .u8) 5 wr' w1.heap.size (fun _ => True) u9 (shardTo x a sz b j ++ line i (symV x a sz b j))) ∧ Hid (Below w1.heap.size w1 wr')) (fun _ rv _ => q - (intOf rv).toNat)
          case atStart => exact ⟨0, by omega, rfl, rfl, HO, HB2⟩
          case round =>
            clear HO HB2
            obtain ⟨r, hr, rfl, rfl, HO, HB2⟩ := hrel
            by_cases hrq : r < q
            · have hB := HB2.out
              have hBw := HB1.out.trans (hB.mono HB1.out.size)
              have hpl := HPL.out r j hrq hja
              have hLS := HLS.out
              have hr2 : r < 2 * a := by have := HQ.out; omega
              obtain ⟨p, hp⟩ : ∃ p, p = Plc.placeN a r j := ⟨_, rfl⟩
              rw [← hp] at hpl
              have hps : (p + 1) * sz ≤ s * sz := Nat.mul_le_mul_right sz hpl
              rw [Nat.add_mul, Nat.one_mul] at hps
              have hp56 : p * sz ≤ 1000 := by omega
              obtain ⟨po, hpo⟩ : ∃ po, po = p * sz := ⟨_, rfl⟩
              have e2 : IntKind.i64.wrap ((p : Int) * (sz : Int)) = (po : Int) := by rw [hpo, ← Int.natCast_mul]; exact IntWalk.i64_in _ (by omega)
              rw [← hpo] at hps
              obtain ⟨adr, rfl, hc1⟩ := at_row (HR1.out _ hBw) r hrq
              obtain ⟨ads, rfl, hc2⟩ := at_row (HR2.out _ hBw) (po + i) (by omega)
              obtain ⟨adp, A7, c7, rfl, hc3, _, hC7⟩ := rowsI_get (Kd.C_below HC3.out hB) r hrq
              rw [placesG_get a r hr2, List.length_map, List.length_range] at hc3
              have hC7' : (Kd.int .i64).C wr A7 a ((placesG a).getD r []) := by
                have e : ((placesG a).getD r []).length = a := by rw [placesG_get a r hr2]; simp
                rw [e] at hC7; exact hC7
              obtain ⟨ad7, rfl, hc4⟩ := at_rowI hC7' j hja
              rw [placesG_get2 a r j hr2 hja, ← hp] at hc4
              rw [pows_get x q r hrq] at hc1
              have hfs := symTo_succ x a sz b j i r
              rw [← hp, ← hpo] at hfs
              have hyb := symTo_byt x a sz b j i r HX.out
              have hzb := getD_byt HBY.out (po + i)
              have hgb := gp_byt x r HX.out
              obtain ⟨y, hy⟩ : ∃ y, y = symTo x a sz b j i r := ⟨_, rfl⟩
              obtain ⟨z, hz⟩ : ∃ z, z = b.getD (po + i) 0 := ⟨_, rfl⟩
              obtain ⟨f, hf⟩ : ∃ f, f = ((gp x r : Nat) : Int) := ⟨_, rfl⟩
              rw [← hy] at hfs hyb ⊢
              rw [← hz] at hc2 hfs hzb
              rw [← hf] at hc1 hfs hgb
              have hxb := xor_bits hyb (gmI_byt (b := z) hgb)
              rw [← hfs] at hxb
              have MC := Lib.hid (fun W => refmul_calls f z W hgb hzb)
              have g2 : IntKind.i64.wrap ((po : Int) + (i : Int)) = (po : Int) + (i : Int) := IntWalk.i64_in _ (by omega)
              have g3 : (0 : Int) ≤ (po : Int) + (i : Int) := by omega
              have g4 : (po : Int) + (i : Int) < (L : Int) := by omega
              have g5 : ((po : Int) + (i : Int)).toNat = po + i := by omega
              have g6 : (r : Int) < (q : Int) := by omega
              have g7 : (0 : Int) ≤ (r : Int) := by omega
              have g8 : (0 : Int) ≤ (j : Int) := by omega
              have HXB := Lib.hid hxb
              clear hB hBw hpl hLS hp hpo hps hp56 hC7 hC7' hfs hyb hzb hgb hy hz hf hxb hr2
              go_wp2
              go_quiet ((go_at_call 42; (with_reducible refine (MC.out _).mono ?_); rintro e w' ⟨rfl, ⟨nd, rfl⟩⟩; (first | exact ⟨rfl, _, World.drewN_drewN _ _ _⟩ | exact ⟨rfl, _, Eq.trans (World.drewN_drewN _ _ _) (congrArg (World.drewN _) (Nat.add_assoc _ _ _))⟩ | exact ⟨rfl, _, rfl⟩)))
              rw [HXB.out]
              go_wp2
              go_roundw
              case rel => exact ⟨r + 1, by omega, by go_num, rfl, Lib.hid (Kd.R_drewN HO.out _), Lib.hid (pw_below_drewN HB2.out _)⟩
              case measure => simp [intOf]; omega
            · obtain rfl : r = q := by omega
              have hsv := symV_eq x a sz b j i
              rw [← HQ.out] at hsv
              rw [hsv]
              obtain ⟨y, hy⟩ : ∃ y, y = symV x a sz b j i := ⟨_, rfl⟩
              rw [← hy]
              have HY := Lib.hid hy
              clear hy hsv
              go_wp2_with (at_builtin; refine byte_append (w0 := w1) rfl w1.heap.size rfl _ _ rfl u9 (shardTo x a sz b j ++ line i (symV x a sz b j)) y (fun _ => True) rfl rfl HO.out (fun _ _ => trivial) HB2.out HB2.out.size (by rw [List.length_append, shardTo_len, line_len]; have := Nat.mul_le_mul (show j ≤ 7 by omega) (show sz ≤ 1000 by omega); omega) ?_; intro v1 w2 hr2 hb2 hg2; have HR3 := Lib.hid hr2; have HB3 := Lib.hid hb2; clear hr2 hb2 hg2)
              go_roundw
              case rel => exact ⟨i + 1, _, rfl, by omega, by go_num, Lib.hid (by rw [line_succ, ← List.append_assoc, ← HY.out]; exact HR3.out), HB3⟩
              case measure => simp [intOf]; omega
        · obtain rfl : i = sz := by omega
          go_wp2
          go_roundw
          case rel => exact ⟨j + 1, _, rfl, by omega, by go_num, Lib.hid (by rw [shardTo_succ]; exact HO.out), HB2⟩
          case measure => simp [intOf]; omega
    · obtain rfl : j = a := by omega
      go_wp2
      go_ret
      exact ⟨_, rfl, Kd.R_lower HO.out HB1.out.size, HB1.out.trans (HB2.out.mono HB1.out.size)⟩

theorem rowsN_get {w : World} {A : Option Addr} {n : Nat} {ls : List (List Int)} (h : Kd.C kRow w A n ls) (i : Nat) (hi : i < n) :
    ∃ ad A0 c0, A = some ad ∧ w.cell? (ad.add i) = some (.slice A0 (ls.getD i []).length c0) ∧ (ls.getD i []).length ≤ c0 ∧ (Kd.int .u8).C w A0 (ls.getD i []).length (ls.getD i []) := by
  obtain ⟨ad, c, e, _, hK, hc0⟩ := Kd.C_get h [] (i : Int) (by omega) (by omega)
  obtain ⟨A0, c0, rfl, l0, g0⟩ := hK
  refine ⟨ad, A0, c0, e, ?_, l0, g0⟩
  have hq := hc0 0 _ rfl
  simpa [Kd.slice] using hq
theorem rows_row {w : World} {A : Option Addr} {n k : Nat} (h : Kd.C kRow w A n (rowsM n k n)) (i : Nat) (hi : i < n) :
    ∃ ad A0 c0, A = some ad ∧ w.cell? (ad.add i) = some (.slice A0 (2 * k - 2) c0) ∧ 2 * k - 2 ≤ c0 ∧ (Kd.int .u8).C w A0 (2 * k - 2) (pows (ptN n k i) (2 * k - 2)) := by
  obtain ⟨ad, A0, c0, e, h1, h2, h3⟩ := rowsN_get h i hi
  rw [rowsM_get n k n i hi, pows_len] at h1 h2 h3
  exact ⟨ad, A0, c0, e, h1, h2, h3⟩
/-- The first m shards. -/
def shardsM (n k sz : Nat) (b : List Int) (m : Nat) : List (List Int) := (List.range m).map (fun i => shardL (ptN n k i) (k - 1) sz b)
theorem shardsM_succ (n k sz : Nat) (b : List Int) (m : Nat) : shardsM n k sz b (m + 1) = shardsM n k sz b m ++ [shardL (ptN n k m) (k - 1) sz b] := by simp [shardsM, List.range_succ]
theorem shardsM_len (n k sz : Nat) (b : List Int) (m : Nat) : (shardsM n k sz b m).length = m := by simp [shardsM]
theorem shardsM_byt (n k sz : Nat) (b : List Int) (m : Nat) : ∀ l ∈ shardsM n k sz b m, ∀ x ∈ l, Byt x := by
  intro l hl
  obtain ⟨i, _, rfl⟩ := List.mem_map.1 hl
  exact shardL_byt _ _ _ _ (ptN_lt n k i)
theorem len_cases (L s : Nat) (h : L = 0 ∨ L % s ≠ 0) : ((L : Int) == 0) = true ∨ (((L : Int) == 0) = false ∧ ((L : Int) % (s : Int) != 0) = true) := by
  by_cases h0 : L = 0
  · left; simp; omega
  · right
    refine ⟨by simp; omega, ?_⟩
    have : L % s ≠ 0 := h.resolve_left h0
    simp only [bne_iff_ne]; omega
set_option maxRecDepth 100000 in
theorem refenc_bad (n : Int) (k s L : Nat) (A : Option Addr) (c : Nat) (w : World) (k1 : 2 ≤ k) (k2 : k ≤ 8) (hs : k * (k - 1) = s) (h : L = 0 ∨ L % s ≠ 0) :
    Calls Try.prog 28 #[.int .i64 n, .int .i64 k, .slice A L c] w fun e w' => e = .returned (.tuple #[.slice none 0 0, .bool false]) ∧ Below w.heap.size w w' := by
  have hs56 : k * (k - 1) ≤ 8 * 7 := Nat.mul_le_mul k2 (by omega)
  have hs2 : 2 * 1 ≤ k * (k - 1) := Nat.mul_le_mul k1 (by omega)
  have d0 : IntKind.i64.wrap ((k : Int) - 1) = ((k - 1 : Nat) : Int) := by rw [IntWalk.i64_in _ (by omega)]; omega
  obtain ⟨a, ha⟩ : ∃ a, a = k - 1 := ⟨_, rfl⟩
  rw [← ha] at d0 hs hs56 hs2
  rw [hs] at hs56 hs2
  have d1 : IntKind.i64.wrap ((k : Int) * (a : Int)) = (s : Int) := by rw [← Int.natCast_mul, hs, IntWalk.i64_in _ (by omega)]
  have h' := len_cases L s h
  have HB := Lib.hid (Below.refl w.heap.size w)
  have t1 : (1 : Int) ≤ (s : Int) := by omega
  clear h ha hs k1 k2
  rcases h' with h1 | ⟨h1, h2⟩
  all_goals
    go_enter Try.func28, Try.ntmps28
    go_wp2
    go_ret2
    exact ⟨rfl, HB.out⟩
set_option maxRecDepth 100000 in
set_option maxHeartbeats 2000000 in
theorem refenc_good (n k s sz L : Nat) (A : Option Addr) (c : Nat) (b : List Int) (w : World) (k1 : 2 ≤ k) (k2 : k ≤ 8) (n2 : n ≤ 24) (hs : k * (k - 1) = s) (hr : (Kd.int .u8).C w A L b) (hLs : L = s * sz) (hsz : 1 ≤ sz) (hL1 : L ≤ 1000) (hbyt : ∀ x ∈ b, Byt x) :
    Calls Try.prog 28 #[.int .i64 n, .int .i64 k, .slice A L c] w fun e w' => ∃ A' c', e = .returned (.tuple #[.slice A' n c', .bool true]) ∧ RowsR w' w.heap.size (.slice A' n c') (shardsM n k sz b n) ∧ Kd.C kRow w' A' n (shardsM n k sz b n) ∧ Below w.heap.size w w' := by
  have RW := Lib.hid (rows_calls n k w k1 k2 n2)
  have HS := Lib.hid (fun W (hB : Below w.heap.size w W) => Kd.C_below hr hB)
  have SH := Lib.hid (fun i A1 c1 W (hB : Below w.heap.size w W) (h1 : (Kd.int .u8).C W A1 (2 * k - 2) (pows (ptN n k i) (2 * k - 2))) => refshard_any k (ptN n k i) sz L A1 c1 A c b W k1 k2 (ptN_lt n k i) h1 (Kd.C_below hr hB) (by rw [hs]; exact hLs) hsz hL1 hbyt)
  have RG := Lib.hid (fun W A (hC : Kd.C kRow W A n (rowsM n k n)) i (hi : i < n) => rows_row hC i hi)
  obtain ⟨m, hm⟩ : ∃ m, m = 2 * k - 2 := ⟨_, rfl⟩
  rw [← hm] at SH RG
  have hs56 : k * (k - 1) ≤ 8 * 7 := Nat.mul_le_mul k2 (by omega)
  have hs2 : 2 * 1 ≤ k * (k - 1) := Nat.mul_le_mul k1 (by omega)
  have d0 : IntKind.i64.wrap ((k : Int) - 1) = ((k - 1 : Nat) : Int) := by rw [IntWalk.i64_in _ (by omega)]; omega
  obtain ⟨a, ha⟩ : ∃ a, a = k - 1 := ⟨_, rfl⟩
  have HA := Lib.hid ha
  rw [← ha] at d0 hs hs56 hs2
  rw [hs] at hs56 hs2
  have d1 : IntKind.i64.wrap ((k : Int) * (a : Int)) = (s : Int) := by rw [← Int.natCast_mul, hs, IntWalk.i64_in _ (by omega)]
  have t1 : (1 : Int) ≤ (s : Int) := by omega
  have d2 : (L : Int) % (s : Int) = 0 := by rw [hLs, Int.natCast_mul]; exact Int.mul_emod_right _ _
  have hL0 : 2 * 1 ≤ s * sz := Nat.mul_le_mul (by omega) hsz
  have d3 : ((L : Int) == 0) = false := by simp; omega
  clear hm ha hs hr hLs hsz hL1 hbyt hs56 hs2 k1 k2 hL0
  go_enter Try.func28, Try.ntmps28
  go_upto_region 6 with (go_at_call 33; (with_reducible refine RW.out.mono ?_); rintro e w1 ⟨A1, c1, rfl, _, hC1, hb⟩; have HC1 := Lib.hid hC1; have HB1 := Lib.hid hb; clear hC1 hb)
  go_loopw [9, 10] (fun u0 iv wr => ∃ (i : Nat) (u : Value), u0 = u ∧ i ≤ n ∧ iv = .int .i64 i ∧ Hid (RowsR wr w1.heap.size u (shardsM n k sz b i)) ∧ Hid (Below w1.heap.size w1 wr)) (fun _ iv _ => n - (intOf iv).toNat)
  case atStart => exact ⟨0, _, rfl, by omega, rfl, Lib.hid (Kd.R_nil _ _ _ _ _), Lib.hid (Below.refl _ _)⟩
  case round =>
    obtain ⟨i, u, rfl, hi, rfl, HO, HB2⟩ := hrel
    by_cases hlt : i < n
    · have hBw := HB1.out.trans (HB2.out.mono HB1.out.size)
      obtain ⟨ad, A3, c3, rfl, hcell, _, hC3⟩ := RG.out _ _ (Kd.C_below HC1.out HB2.out) i hlt
      have HC3 := Lib.hid hC3
      have HBW := Lib.hid hBw
      have g1 : (i : Int) < (n : Int) := by omega
      have g2 : (0 : Int) ≤ (i : Int) := by omega
      clear hC3 hBw
      go_wp2_with (first
        | (go_at_call 34; (with_reducible refine (SH.out i A3 c3 wr HBW.out HC3.out).mono ?_); rintro e w3 ⟨v3, rfl, hr3, hb⟩; obtain ⟨A5, c5, rfl⟩ := Kd.R_slice hr3; have HR3 := Lib.hid hr3; have HB3 := Lib.hid hb; clear hr3 hb)
        | (at_builtin; refine rows_append2 (w0 := w1) rfl w1.heap.size rfl _ _ rfl u9 _ (shardsM n k sz b i) _ rfl rfl HO.out (HB2.out.trans (HB3.out.mono HB2.out.size)) HB2.out.size HB3.out HR3.out (by rw [shardsM_len]; omega) ?_; intro v5 w5 h5 hb5; have H5 := Lib.hid h5; have HB5 := Lib.hid hb5; clear h5 hb5))
      go_roundw
      case rel => exact ⟨i + 1, _, rfl, by omega, by go_num, Lib.hid (by rw [shardsM_succ]; exact H5.out), HB5⟩
      case measure => simp [intOf]; omega
    · obtain rfl : i = n := by omega
      obtain ⟨A7, c7, rfl, hl7, hC7⟩ := Kd.R_reads HO.out
      have hro := HO.out
      rw [shardsM_len] at hro hC7 hl7 ⊢
      have HC7 := Lib.hid hC7
      have HL7 := Lib.hid (Kd.R_lower hro HB1.out.size)
      clear hl7 hC7 hro
      go_wp2
      go_ret2
      exact ⟨A7, c7, rfl, HL7.out, HC7.out, HB1.out.trans (HB2.out.mono HB1.out.size)⟩

/-- Slices of one length, told by address and room. -/
def kP (sz : Nat) : Kd (Option Addr × Nat) := Kd.scalar (fun p => .slice p.1 sz p.2) (fun _ => rfl)
def chunkA (A : Option Addr) (c lo : Nat) : Option Addr := if c = lo then A else A.map (·.add lo)
def chunkP (A : Option Addr) (c sz m : Nat) : List (Option Addr × Nat) := (List.range m).map (fun i => (chunkA A c (i * sz), c - i * sz))
theorem chunkP_succ (A : Option Addr) (c sz m : Nat) : chunkP A c sz (m + 1) = chunkP A c sz m ++ [(chunkA A c (m * sz), c - m * sz)] := by simp [chunkP, List.range_succ]
theorem chunkP_len (A : Option Addr) (c sz m : Nat) : (chunkP A c sz m).length = m := by simp [chunkP]
def chunks (b : List Int) (sz m : Nat) : List (List Int) := (List.range m).map (fun i => (b.drop (i * sz)).take sz)
theorem chunks_len (b : List Int) (sz m : Nat) : (chunks b sz m).length = m := by simp [chunks]
theorem chunks_get (b : List Int) (sz m i : Nat) (hi : i < m) : (chunks b sz m).getD i [] = (b.drop (i * sz)).take sz := by simp [chunks, List.getD_eq_getElem?_getD, hi]
theorem chunk_len (b : List Int) (sz m i : Nat) (hi : i < m) (h : b.length = m * sz) : ((b.drop (i * sz)).take sz).length = sz := by
  have : (i + 1) * sz ≤ m * sz := Nat.mul_le_mul_right sz hi
  rw [Nat.add_mul, Nat.one_mul] at this
  rw [List.length_take, List.length_drop]; omega
theorem chunk_get (b : List Int) (sz i j : Nat) (hj : j < sz) : ((b.drop (i * sz)).take sz).getD j 0 = b.getD (i * sz + j) 0 := by
  rw [List.getD_eq_getElem?_getD, List.getElem?_take, if_pos hj, List.getElem?_drop, ← List.getD_eq_getElem?_getD]
/-- The parts read as the bytes' parts. -/
theorem chunks_C {w : World} {A A' : Option Addr} {L c sz m : Nat} {b : List Int} (h : (Kd.int .u8).C w A L b) (hc : L ≤ c) (hL : L = m * sz) (hP : Kd.C (kP sz) w A' m (chunkP A c sz m)) : Kd.C kRow w A' m (chunks b sz m) := by
  have hb : b.length = m * sz := by have := h.1; omega
  refine ⟨chunks_len _ _ _, hP.2.1, fun hn => ?_⟩
  obtain ⟨ad, e, hcell⟩ := hP.2.2 hn
  refine ⟨ad, e, fun j p hj => ?_⟩
  have hjm : j < m := by have := (List.getElem?_eq_some_iff.1 hj).1; rwa [chunks_len] at this
  have hp : p = (b.drop (j * sz)).take sz := by
    simp [chunks, hjm] at hj; exact hj.symm
  subst hp
  obtain ⟨cs, h1, h2, h3⟩ := hcell j (chunkA A c (j * sz), c - j * sz) (by simp [chunkP, hjm])
  have h2' : cs = [.slice (chunkA A c (j * sz)) sz (c - j * sz)] := h2
  subst h2'
  have hle : (j + 1) * sz ≤ m * sz := Nat.mul_le_mul_right sz hjm
  rw [Nat.add_mul, Nat.one_mul] at hle
  have hcl := chunk_len b sz m j hjm hb
  have hr := ((Kd.reads_of_C (d := (0 : Int)) h).drop_ (j * sz) (by omega) hc).take_ sz (by omega)
  refine ⟨_, rfl, ⟨chunkA A c (j * sz), c - j * sz, by rw [hcl], by omega, ?_⟩, h3⟩
  rw [hcl]
  exact Kd.C_of_reads (d := (0 : Int)) hr
set_option maxRecDepth 100000 in
set_option maxHeartbeats 2000000 in
theorem parts_good (s sz L : Nat) (A : Option Addr) (c : Nat) (b : List Int) (w : World) (hr : (Kd.int .u8).C w A L b) (hc : L ≤ c) (hLs : L = s * sz) (hs : 1 ≤ s) (hsz : 1 ≤ sz) (hs2 : s ≤ 56) (hL1 : L ≤ 1000) :
    Calls Try.prog 31 #[.slice A L c, .int .i64 s] w fun e w' => ∃ A' c', e = .returned (.tuple #[.slice A' s c', .bool true]) ∧ s ≤ c' ∧ Kd.C kRow w' A' s (chunks b sz s) ∧ Below w.heap.size w w' := by
  have HS := Lib.hid (fun W (hB : Below w.heap.size w W) => Kd.C_below hr hB)
  have HC := Lib.hid hc
  have HLS := Lib.hid hLs
  have hL0 : 1 * 1 ≤ s * sz := Nat.mul_le_mul hs hsz
  have d2 : (L : Int) % (s : Int) = 0 := by rw [hLs, Int.natCast_mul]; exact Int.mul_emod_right _ _
  have d4 : (L : Int) / (s : Int) = (sz : Int) := by rw [hLs, Int.natCast_mul, Int.mul_comm]; exact Int.mul_ediv_cancel _ (by omega)
  have d3 : ((L : Int) == 0) = false := by simp; omega
  have d5 : decide ((s : Int) < 1) = false := by simp; omega
  have HB0 := Lib.hid (Below.refl w.heap.size w)
  have t1 : (1 : Int) ≤ (s : Int) := by omega
  have sz1 : sz ≤ L := by rw [hLs]; exact Nat.le_mul_of_pos_left sz (by omega)
  clear hr hc hLs hL0
  go_enter Try.func31, Try.ntmps31
  go_wp2
  rw [d2]
  clear d2 d4 d3 d5
  go_loopw [7, 8, 28] (fun u0 _ iv wr => ∃ (i : Nat) (u : Value), u0 = u ∧ i ≤ s ∧ iv = .int .i64 i ∧ Hid (Kd.R (kP sz) 38 wr w.heap.size (fun _ => True) u (chunkP A c sz i)) ∧ Hid (Below w.heap.size w wr)) (fun _ _ iv _ => s - (intOf iv).toNat)
  case atStart => exact ⟨0, _, rfl, by omega, rfl, Lib.hid (Kd.R_nil _ _ _ _ _), HB0⟩
  case round =>
    clear HB0
    obtain ⟨i, u, rfl, hi, rfl, HO, HB2⟩ := hrel
    by_cases hlt : i < s
    · have hle : (i + 1) * sz ≤ s * sz := Nat.mul_le_mul_right sz hlt
      have hls := HLS.out
      have hcl := HC.out
      obtain ⟨po, hpo⟩ : ∃ po, po = i * sz := ⟨_, rfl⟩
      have hpo2 : (i + 1) * sz = po + sz := by rw [Nat.add_mul, Nat.one_mul, hpo]
      rw [hpo2] at hle
      have e1 : IntKind.i64.wrap ((i : Int) * (sz : Int)) = (po : Int) := by rw [hpo, ← Int.natCast_mul]; exact IntWalk.i64_in _ (by omega)
      have e2 : IntKind.i64.wrap (((i : Int) + 1) * (sz : Int)) = (po : Int) + (sz : Int) := by
        rw [show ((i : Int) + 1) * (sz : Int) = ((po + sz : Nat) : Int) by rw [← hpo2, Int.natCast_mul, Int.natCast_add]; rfl, IntWalk.i64_in _ (by omega)]; omega
      have e3 : IntKind.i64.wrap ((i : Int) + 1) = (i : Int) + 1 := IntWalk.i64_in _ (by omega)
      have g1 : (i : Int) < (s : Int) := by omega
      obtain ⟨i0, hi0, hz⟩ := Option.map_eq_some_iff.1 VPts.info_byte
      simp only [Prod.mk.injEq] at hz
      have kc := cut_mid (P := Try.prog) 38 5 .i64 .i64 Try.underlying38 hi0 1 hz.2.1 A L c (po : Int) ((po : Int) + (sz : Int)) (by omega) (by omega) (by omega) (by omega)
      rw [show ((po : Int) + (sz : Int)).toNat - ((po : Int)).toNat = sz by omega, Int.toNat_natCast, Nat.mul_one] at kc
      obtain ⟨A2, hA2⟩ : ∃ A2, A2 = chunkA A c po := ⟨_, rfl⟩
      rw [show (if c = po then A else A.map (·.add po)) = A2 from hA2.symm] at kc
      obtain ⟨c2, hc2⟩ : ∃ c2, c2 = c - po := ⟨_, rfl⟩
      rw [← hc2] at kc
      have HX := Lib.hid (show chunkP A c sz (i + 1) = chunkP A c sz i ++ [(A2, c2)] by rw [chunkP_succ, ← hpo, ← hA2, ← hc2])
      clear hpo2 hle hls hcl hpo hz hi0 hA2 hc2
      go_wp2_with (at_builtin; refine Kd.R_append (kP sz) (w0 := w) w.heap.size rfl _ _ 39 38 (.slice none 0 0) 24 rfl Try.underlying39 info_rows rfl (show 0 < 1 from Nat.one_pos) (by decide) u7 (chunkP A c sz i) (A2, c2) [.slice A2 sz c2] (fun _ => True) (fun _ => False) rfl rfl rfl (fun _ hk => hk.elim) (fun _ _ => trivial) HO.out HB2.out HB2.out.size (by rw [chunkP_len]; omega) ?_; intro v1 w1 h1 h2 h3 h4; have H1 := Lib.hid h1; have H2 := Lib.hid h2; clear h1 h2 h3 h4)
      go_roundw
      case rel =>
        have hfin := Lib.hid (show Kd.R (kP sz) 38 w1 w.heap.size (fun _ => True) v1 (chunkP A c sz (i + 1)) by rw [HX.out]; exact H1.out)
        exact ⟨i + 1, v1, rfl, by omega, by go_num, hfin, H2⟩
      case measure => simp [intOf]; omega
    · obtain rfl : i = s := by omega
      obtain ⟨A7, c7, rfl, hl7, hC7⟩ := Kd.R_reads HO.out
      rw [chunkP_len] at hC7 hl7 ⊢
      have HC7 := Lib.hid hC7
      have HL7 := Lib.hid hl7
      clear hl7 hC7
      go_wp2
      go_ret2
      exact ⟨A7, c7, rfl, HL7.out, chunks_C (HS.out _ HB2.out) HC.out HLS.out HC7.out, HB2.out⟩

/-- A row's cells. -/
def RowAt (w : World) (ad : Addr) (n : Nat) (xs : List Int) : Prop := ∀ j, j < n → w.cell? (ad.add j) = some (.int .u8 (xs.getD j 0))
theorem RowAt.of {w : World} {A : Option Addr} {n : Nat} {xs : List Int} (h : (Kd.int .u8).C w A n xs) (hn : 0 < n) : ∃ ad, A = some ad ∧ RowAt w ad n xs := by
  obtain ⟨ad, e, _⟩ := at_row h 0 hn
  refine ⟨ad, e, fun j hj => ?_⟩
  obtain ⟨ad', e', hc⟩ := at_row h j hj
  rw [e] at e'
  injection e' with e'
  subst e'
  exact hc
theorem RowAt.far {w : World} {ad : Addr} {n : Nat} {xs : List Int} (h : RowAt w ad n xs) {p : Addr} (hp : ad.block ≠ p.block) (u : Value) : RowAt (w.setCell p u) ad n xs :=
  fun j hj => (World.cell?_setCell_other w p (ad.add j) u (fun e => hp (by rw [e, block_of_add]))).trans (h j hj)
theorem RowAt.drewN {w : World} {ad : Addr} {n : Nat} {xs : List Int} (h : RowAt w ad n xs) (q : Nat) : RowAt (w.drewN q) ad n xs := h
/-- Of the first i places what is mixed, of the others what was. -/
def mixL (n : Nat) (f : Int) (xs ls : Nat → Int) (i : Nat) : List Int := line n (fun j => if j < i then xorI (xs j) (gmI (ls j) f) else xs j)
theorem mixL_zero (n : Nat) (f : Int) (xs ls : Nat → Int) : mixL n f xs ls 0 = line n xs := line_congr n _ _ (fun j _ => by rw [if_neg (Nat.not_lt_zero j)])
theorem mixL_set (n : Nat) (f : Int) (xs ls : Nat → Int) (i : Nat) (hi : i < n) : (mixL n f xs ls i).set i (xorI (xs i) (gmI (ls i) f)) = mixL n f xs ls (i + 1) := by
  unfold mixL
  rw [line_set n _ i hi]
  refine line_congr n _ _ (fun k hk => ?_)
  by_cases e : k = i
  · subst e; rw [if_pos rfl, if_pos (by omega)]
  · rw [if_neg e]
    by_cases h : k < i
    · rw [if_pos h, if_pos (by omega)]
    · rw [if_neg h, if_neg (by omega)]
theorem mixL_get (n : Nat) (f : Int) (xs ls : Nat → Int) (i : Nat) (hi : i < n) : (mixL n f xs ls i).getD i 0 = xs i := by
  unfold mixL
  rw [line_get n _ i hi, if_neg (Nat.lt_irrefl i)]
theorem gm0 (a : Int) : gmI a 0 = 0 := by unfold gmI; simp [gm_zero_right]
theorem xor0 {a : Int} (h : Byt a) : xorI a 0 = a := by unfold xorI; have := h.1; simp; omega
set_option maxRecDepth 100000 in
set_option maxHeartbeats 4000000 in
theorem mix_any (n g ct c1 base : Nat) (ad : Addr) (f : Int) (xs ls : Nat → Int) (w0 w : World) (hf : Byt f) (hxs : ∀ j, Byt (xs j)) (hls : ∀ j, Byt (ls j)) (hB : Below base w0 w) (hg : base ≤ g)
    (hR : Kd.R (Kd.int .u8) 5 w base (fun _ => True) (.slice (some ⟨g, 0, none⟩) n ct) (line n xs)) (hrow : RowAt w ad n (line n ls)) (hne : ad.block ≠ g) (hn : n ≤ 1000000) :
    Calls Try.prog 37 #[.slice (some ⟨g, 0, none⟩) n ct, .slice (some ad) n c1, .int .u8 f] w fun e w' => e = .returned (.tuple #[]) ∧ Kd.R (Kd.int .u8) 5 w' base (fun _ => True) (.slice (some ⟨g, 0, none⟩) n ct) (line n (fun j => xorI (xs j) (gmI (ls j) f))) ∧ Below base w0 w' := by
  by_cases hf0 : f = 0
  · have t1 : (f == 0) = true := by simp [hf0]
    have HR := Lib.hid (show Kd.R (Kd.int .u8) 5 w base (fun _ => True) (.slice (some ⟨g, 0, none⟩) n ct) (line n (fun j => xorI (xs j) (gmI (ls j) f))) by
      rw [line_congr n (fun j => xorI (xs j) (gmI (ls j) f)) xs (fun j _ => by show xorI _ _ = _; rw [hf0, gm0, xor0 (hxs j)])]; exact hR)
    have HB := Lib.hid hB
    clear hR hrow hB hf0 hf hxs hls
    go_enter Try.func37, Try.ntmps37
    go_wp2
    first | go_end0 | ((try simp only [Exit.inBlock, Exit.then]); refine bodyPost_ret (results_none rfl _ _ _) rfl ?_)
    exact ⟨rfl, HR.out, HB.out⟩
  · have t1 : (f == 0) = false := by simp [hf0]
    have HF := Lib.hid hf
    have HXS := Lib.hid hxs
    have HLS := Lib.hid hls
    have HG := Lib.hid hg
    have HNE := Lib.hid hne
    have HR := Lib.hid (show Kd.R (Kd.int .u8) 5 w base (fun _ => True) (.slice (some ⟨g, 0, none⟩) n ct) (mixL n f xs ls 0) by rw [mixL_zero]; exact hR)
    have HROW := Lib.hid hrow
    have HB := Lib.hid hB
    clear hR hrow hB hf0 hf hxs hls hg hne
    go_enter Try.func37, Try.ntmps37
    go_wp2
    go_loopw [6, 7, 12] (fun _ _ iv wr => ∃ (i : Nat), i ≤ n ∧ iv = .int .i64 i ∧ Hid (Kd.R (Kd.int .u8) 5 wr base (fun _ => True) (.slice (some ⟨g, 0, none⟩) n ct) (mixL n f xs ls i)) ∧ Hid (RowAt wr ad n (line n ls)) ∧ Hid (Below base w0 wr)) (fun _ _ iv _ => n - (intOf iv).toNat)
    case atStart => exact ⟨0, by omega, rfl, HR, HROW, HB⟩
    case round =>
      clear HR HROW HB
      obtain ⟨i, hi, rfl, HR, HROW, HB⟩ := hrel
      by_cases hlt : i < n
      · obtain ⟨t1', t2'⟩ := Kd.R_celln (0 : Int) HR.out (i : Int) (by omega) (by omega)
        have t3' : rdOf (0 : Int) (mixL n f xs ls i) (i : Int) = xs i := by
          rw [← mixL_get n f xs ls i hlt]; simp [rdOf]
        rw [t3'] at t1'
        have hcell := HROW.out i hlt
        rw [line_get n ls i hlt] at hcell
        have hpn := fun q => Kd.R_putn (Kd.R_drewN HR.out q) (i : Int) (xorI (xs i) (gmI (ls i) f))
        simp only [Int.toNat_natCast] at t1' t2' hpn
        rw [mixL_set n f xs ls i hlt] at hpn
        have hyb := HXS.out i
        have hzb := HLS.out i
        obtain ⟨y, hy⟩ : ∃ y, y = xs i := ⟨_, rfl⟩
        obtain ⟨z, hz⟩ : ∃ z, z = ls i := ⟨_, rfl⟩
        rw [← hy] at t1' hyb hpn
        rw [← hz] at hcell hzb hpn
        have HZB := Lib.hid hzb
        have HYB := Lib.hid hyb
        have HPN := Lib.hid hpn
        have HBn := Lib.hid (fun q => (pw_below_drewN HB.out q).setCell (p := ⟨g, i, none⟩) HG.out (.int .u8 (xorI y (gmI z f))))
        have HRn := Lib.hid (fun q => (HROW.out.drewN q).far (p := ⟨g, i, none⟩) HNE.out (.int .u8 (xorI y (gmI z f))))
        have g0 : (0 : Int) ≤ (i : Int) := by omega
        have g1 : (i : Int) < (n : Int) := by omega
        clear hy hz hyb hzb t3' hpn
        go_wp2
        refine wp_region_still_tail 11 (by kernel_rfl) (by kernel_rfl) ?_
        change wpStill _ _ (wr.drewN 1) (fun a' => wpList _ _ _ _ a' (wr.drewN 1)) _ _
        simp only [List.take_succ_cons, List.take_zero, List.drop_succ_cons, List.drop_zero]
        iterate 8 still_step
        still_call (mul_still z f (wr.drewN 1) HZB.out HF.out)
        still_call (add_still y (gmI z f) (wr.drewN 1) HYB.out (gmI_byt HZB.out))
        still_step
        refine wpStill_nil ?_
        go_wp2
        go_roundw
        case rel => exact ⟨i + 1, by omega, by go_num, Lib.hid (HPN.out 1), Lib.hid (HRn.out 1), Lib.hid (HBn.out 1)⟩
        case measure => simp [intOf]; omega
      · obtain rfl : i = n := by omega
        go_wp2
        first | go_end0 | ((try simp only [Exit.inBlock, Exit.then]); refine bodyPost_ret (results_none rfl _ _ _) rfl ?_)
        have e : mixL i f xs ls i = line i (fun j => xorI (xs j) (gmI (ls j) f)) := line_congr i _ _ (fun j hj => by rw [if_pos hj])
        exact ⟨rfl, by rw [← e]; exact HR.out, HB.out⟩

theorem chunk_line (b : List Int) (sz p m : Nat) (hp : p < m) (hb : b.length = m * sz) : (b.drop (p * sz)).take sz = line sz (fun i => b.getD (p * sz + i) 0) := by
  have hl := chunk_len b sz m p hp hb
  refine List.ext_getElem (by rw [hl, line_len]) (fun j h1 h2 => ?_)
  have hj : j < sz := by rwa [hl] at h1
  have e1 := chunk_get b sz p j hj
  rw [List.getD_eq_getElem?_getD, List.getElem?_eq_getElem h1] at e1
  have e2 := line_get sz (fun i => b.getD (p * sz + i) 0) j hj
  rw [List.getD_eq_getElem?_getD, List.getElem?_eq_getElem h2] at e2
  simp only [Option.getD_some] at e1 e2
  rw [e1, e2]
set_option maxRecDepth 100000 in
set_option maxHeartbeats 4000000 in
theorem mshard_any (v : Value) (n k slot s sz L : Nat) (A : Option Addr) (c : Nat) (b : List Int) (w : World) (hc : IsCodeP w v n k) (k1 : 2 ≤ k) (k2 : k ≤ 8) (n2 : n ≤ 24) (hsl : slot < n) (hs : k * (k - 1) = s)
    (hC : Kd.C kRow w A s (chunks b sz s)) (hL : L = b.length) (hLs : L = s * sz) (hsz : 1 ≤ sz) (hL1 : L ≤ 1000) (hbyt : ∀ x ∈ b, Byt x) :
    Calls Try.prog 32 #[v, .int .i64 slot, .slice A s c] w fun e w' => ∃ u, e = .returned u ∧ Kd.R (Kd.int .u8) 5 w' w.heap.size (fun _ => True) u (shardL (ptN n k slot) (k - 1) sz b) ∧ Below w.heap.size w w' := by
  have RO := Lib.hid (row_any v n k slot w hc k1 k2 n2 hsl)
  have PP := Lib.hid (fun W (hB : Below w.heap.size w W) => parts_any v n k W (hc.below hB).code (by omega) (by omega))
  have PL := Lib.hid (fun W r j (hr : r < 2 * (k - 1)) (hj : j < k - 1) (hB : Below w.heap.size w W) => place_any v n k r j W (hc.below hB).code k1 k2 hr hj)
  have hx2 := ptN_lt n k slot
  obtain ⟨x, hx⟩ : ∃ x, x = ptN n k slot := ⟨_, rfl⟩
  rw [← hx] at RO hx2 ⊢
  obtain ⟨a, ha⟩ : ∃ a, a = k - 1 := ⟨_, rfl⟩
  rw [show 2 * k - 2 = 2 * a by omega] at RO
  rw [← ha] at PP PL hs ⊢
  have a1 : 1 ≤ a := by omega
  have a7 : a ≤ 7 := by omega
  have hss : s = (a + 1) * a := by rw [← hs, show k = a + 1 by omega]
  have HPL := Lib.hid (fun r j (hr : r < 2 * a) (hj : j < a) => show Plc.placeN a r j < s by rw [hss]; exact placeN_lt a r j a1 a7 hr hj)
  have hs56 : s ≤ 56 := by rw [← hs]; exact Nat.mul_le_mul k2 a7
  have hs1 : 1 ≤ s := by rw [hss]; exact Nat.mul_pos (by omega) (by omega)
  have HC := Lib.hid (fun W (hB : Below w.heap.size w W) => Kd.C_below hC hB)
  have HBL := Lib.hid (show b.length = s * sz by omega)
  have HBY := Lib.hid hbyt
  have HX := Lib.hid hx2
  have sz1 : sz ≤ 1000 := by have : sz ≤ s * sz := Nat.le_mul_of_pos_left sz (by omega)
                             omega
  obtain ⟨q, hq⟩ : ∃ q, q = 2 * a := ⟨_, rfl⟩
  rw [← hq] at RO HPL PL
  have HQ := Lib.hid hq
  have hq14 : q ≤ 14 := by omega
  have HB0 := Lib.hid (Below.refl w.heap.size w)
  obtain ⟨L9, hl9⟩ : ∃ L9, L9 = a * sz := ⟨_, rfl⟩
  clear hx ha hs hss hC hL hLs hbyt hx2 k1 k2 n2 hsl hq hc
  go_enter Try.func32, Try.ntmps32
  go_upto_region 4 with (first
    | (go_at_call 36; (with_reducible refine RO.out.mono ?_); rintro e w1 ⟨A8, c8, rfl, hr8, hb⟩; have hc8 := (Kd.R_reads' hr8).2.2; rw [pows_len] at hc8; have HR8 := Lib.hid hc8; have HB1 := Lib.hid hb; clear hr8 hb hc8)
    | (go_at_call 25; (with_reducible refine (PP.out _ HB1.out).mono ?_); rintro e u1 ⟨rfl, hu⟩; subst hu))
  obtain ⟨W1, hW1⟩ : ∃ W1, W1 = u1 := ⟨_, rfl⟩
  rw [← hW1] at HR8 HB1 ⊢
  clear hW1 RO
  go_loopw [7, 9, 10, 11, 12, 18, 28] (fun u0 _ _ _ _ jv _ wr => ∃ (j : Nat) (u : Value), u0 = u ∧ j ≤ a ∧ jv = .int .i64 j ∧ Hid (Kd.R (Kd.int .u8) 5 wr W1.heap.size (fun _ => True) u (shardTo x a sz b j)) ∧ Hid (Below W1.heap.size W1 wr)) (fun _ _ _ _ _ jv _ _ => a - (intOf jv).toNat)
  case atStart => exact ⟨0, _, rfl, by omega, rfl, Lib.hid (by unfold shardTo; exact Kd.R_nil _ _ _ _ _), Lib.hid (Below.refl _ _)⟩
  case round =>
    obtain ⟨j, u, rfl, hj, rfl, HO, HB2⟩ := hrel
    by_cases hja : j < a
    · have hBw := HB1.out.trans (HB2.out.mono HB1.out.size)
      obtain ⟨adm, A3, c3, rfl, hm0, _, _⟩ := rowsN_get (HC.out _ hBw) 0 (by omega)
      rw [chunks_get b sz s 0 (by omega), chunk_len b sz s 0 (by omega) HBL.out] at hm0
      rw [show adm.add 0 = adm by simp [Addr.add]] at hm0
      have HM0 := Lib.hid hm0
      have HBW := Lib.hid hBw
      have g1 : (j : Int) < (a : Int) := by omega
      have g2 : (0 : Int) < (s : Int) := by omega
      clear hBw
      go_upto_region 7 with (at_make; refine Kd.R_make (Kd.int .u8) wr.heap.size 5 rfl (N := 25) rfl 38 _ _ rfl (sz : Int) rfl rfl Try.underlying38 (.int .u8 0) 1 VPts.info_byte rfl (by decide) (by decide) 0 (ok := fun _ => True) (okp := fun _ => True) rfl (fun _ hk => hk) trivial (by omega) (by omega) (Below.refl _ _) (Nat.le_refl _) ?_; intro v3 w3 h3 hb3 hg3 hf3; simp only [Int.toNat_natCast] at h3; obtain ⟨g, cg, hv3, hgb, hgl, _⟩ := Kd.R_form h3 (by rw [List.length_replicate]; exact hsz); rw [List.length_replicate] at hv3; subst hv3; have HXX := Lib.hid h3; have HB3 := Lib.hid hb3; have HGB := Lib.hid hgb; clear h3 hb3 hg3 hf3 hgb hgl)
      clear hm0
      have HXR := Lib.hid (show Kd.R (Kd.int .u8) 5 w3 wr.heap.size (fun _ => True) (.slice (some ⟨g, 0, none⟩) sz cg) (line sz (fun i => symTo x a sz b j i 0)) by
        rw [show line sz (fun i => symTo x a sz b j i 0) = List.replicate sz 0 from line_zero sz]; exact HXX.out)
      clear HXX
      obtain ⟨wo, hwo⟩ : ∃ wo, wo = wr := ⟨_, rfl⟩
      rw [← hwo] at HXR HB3 HGB HO HB2 HBW HM0
      clear hwo
      go_upto_region 8 with (fail)
      go_loopw [11, 12, 28] (fun _ _ rv wr' => ∃ (r : Nat), r ≤ q ∧ rv = .int .i64 r ∧ Hid (Kd.R (Kd.int .u8) 5 wr' wo.heap.size (fun _ => True) (.slice (some ⟨g, 0, none⟩) sz cg) (line sz (fun i => symTo x a sz b j i r))) ∧ Hid (Below wo.heap.size wo wr')) (fun _ _ rv _ => q - (intOf rv).toNat)
      case atStart => exact ⟨0, by omega, rfl, HXR, HB3⟩
      case round =>
        clear HXR HB3
        obtain ⟨r, hr, rfl, HXR, HB3⟩ := hrel
        by_cases hrq : r < q
        · have hB := HB2.out.trans (HB3.out.mono HB2.out.size)
          have hBw := HB1.out.trans (hB.mono HB1.out.size)
          have hpl := HPL.out r j hrq hja
          obtain ⟨p, hp⟩ : ∃ p, p = Plc.placeN a r j := ⟨_, rfl⟩
          have hp' : placeN a r j = p := hp.symm
          rw [← hp] at hpl
          obtain ⟨adr, rfl, hc1⟩ := at_row (Kd.C_below HR8.out hB) r hrq
          rw [show (pows x q).getD r 0 = ((gp x r : Nat) : Int) from pows_get x q r hrq] at hc1
          obtain ⟨adm', A5, c5, e5, hm5, _, hC5⟩ := rowsN_get (HC.out _ HBW.out) p hpl
          injection e5 with e5
          subst e5
          rw [chunks_get b sz s p hpl, chunk_line b sz p s hpl HBL.out, line_len] at hm5 hC5
          obtain ⟨ad5, rfl, hrow5⟩ := RowAt.of hC5 (by omega)
          have hblk5 : ad5.block < wo.heap.size := by
            have := World.block_lt_of_cell? _ _ (hrow5 0 (by omega))
            rwa [block_of_add] at this
          have hm5' := pw_cell_below HB3.out hm5
          have hrow' : RowAt wr ad5 sz (line sz (fun i => b.getD (p * sz + i) 0)) := fun i hi => pw_cell_below HB3.out (hrow5 i hi)
          have hgb := gp_byt x r HX.out
          obtain ⟨f, hf⟩ : ∃ f, f = ((gp x r : Nat) : Int) := ⟨_, rfl⟩
          rw [← hf] at hc1 hgb
          have MX := Lib.hid (mix_any sz g cg c5 wo.heap.size ad5 f (fun i => symTo x a sz b j i r) (fun i => b.getD (p * sz + i) 0) wo wr hgb (fun i => symTo_byt x a sz b j i r HX.out) (fun i => getD_byt HBY.out _) HB3.out HGB.out HXR.out hrow' (by have : wo.heap.size ≤ g := HGB.out; omega) (by omega))
          have HNX := Lib.hid (show line sz (fun i => xorI (symTo x a sz b j i r) (gmI (b.getD (p * sz + i) 0) f)) = line sz (fun i => symTo x a sz b j i (r + 1)) from line_congr sz _ _ (fun i _ => by rw [symTo_succ, ← hp, ← hf, gmI_comm hgb (getD_byt HBY.out _)]))
          have PLr := Lib.hid (PL.out wr r j hrq hja hBw)
          rw [hp'] at PLr
          have g6 : (r : Int) < (q : Int) := by omega
          have g7 : (0 : Int) ≤ (r : Int) := by omega
          have g8 : (0 : Int) ≤ (p : Int) := by omega
          have g9 : (p : Int) < (s : Int) := by omega
          clear hB hBw hpl hp hp' hm5 hC5 hrow5 hblk5 hrow' hgb hf
          go_wp2_with (first
            | (go_at_call 38; (with_reducible refine PLr.out.mono ?_); rintro e u2 ⟨rfl, hu⟩; subst hu)
            | (go_at_call 37; (with_reducible refine MX.out.mono ?_); rintro e w4 ⟨rfl, hr4, hb4⟩; have HR4 := Lib.hid hr4; have HB4 := Lib.hid hb4; clear hr4 hb4))
          go_roundw
          case rel => exact ⟨r + 1, by omega, by go_num, Lib.hid (by rw [← HNX.out]; exact HR4.out), HB4⟩
          case measure => simp [intOf]; omega
        · obtain rfl : r = q := by omega
          have hown := Kd.own_of_R (Kd.R_below HO.out HB3.out)
          have hrd := Kd.reads_of_C (d := (0 : Int)) (Kd.R_reads' HXR.out).2.2
          rw [line_len] at hrd
          have HN := Lib.hid (show shardTo x a sz b j ++ line sz (fun i => symTo x a sz b j i r) = shardTo x a sz b (j + 1) by rw [shardTo_succ, HQ.out]; rfl)
          have HOWN := Lib.hid hown
          have HRD := Lib.hid hrd
          have hlen : (shardTo x a sz b j).length ≤ 7000 := by rw [shardTo_len]; exact Nat.mul_le_mul (show j ≤ 7 by omega) sz1
          have HLEN := Lib.hid hlen
          clear hown hrd hlen
          go_wp2_with (at_builtin; refine print_append_row (w0 := W1) (k := .u8) W1.heap.size rfl _ _ 38 5 1 rfl Try.underlying38 VPts.info_byte (by decide) u7 (shardTo x a sz b j) (line sz (fun i => symTo x a sz b j i r)) _ _ _ rfl rfl HOWN.out HRD.out (HB2.out.trans (HB3.out.mono HB2.out.size)) (Nat.le_trans HB2.out.size HB3.out.size) (by have := HLEN.out; omega) ?_; intro v5 w5 h1 h2 h3 h4; have H1 := Lib.hid h1; have H2 := Lib.hid h2; clear h1 h2 h3 h4)
          go_roundw
          case rel => exact ⟨j + 1, _, rfl, by omega, by go_num, Lib.hid (Kd.R_of_own (by have := H1.out; rw [HN.out] at this; exact this) (fun _ _ => trivial)), H2⟩
          case measure => simp [intOf]; omega
    · obtain rfl : j = a := by omega
      go_wp2
      go_ret
      exact ⟨_, rfl, Kd.R_lower HO.out HB1.out.size, HB1.out.trans (HB2.out.mono HB1.out.size)⟩

set_option maxRecDepth 100000 in
theorem parts_no (s L : Nat) (A : Option Addr) (c : Nat) (w : World) (hs : 1 ≤ s) (hs2 : s ≤ 56) (h : L = 0 ∨ L % s ≠ 0) : Calls Try.prog 31 #[.slice A L c, .int .i64 s] w fun e w' => e = .returned (.tuple #[.slice none 0 0, .bool false]) ∧ w' = w := by
  have h' := len_cases L s h
  have t1 : (1 : Int) ≤ (s : Int) := by omega
  have d5 : decide ((s : Int) < 1) = false := by simp; omega
  clear h
  rcases h' with h1 | ⟨h1, h2⟩
  all_goals
    go_enter Try.func31, Try.ntmps31
    go_wp2
    go_ret2
    exact ⟨rfl, rfl⟩
set_option maxRecDepth 100000 in
theorem encode_bad (v : Value) (n k s L : Nat) (A : Option Addr) (c : Nat) (w : World) (hc : IsCodeP w v n k) (k1 : 2 ≤ k) (k2 : k ≤ 8) (hs : k * (k - 1) = s) (h : L = 0 ∨ L % s ≠ 0) :
    Calls Try.prog 27 #[v, .slice A L c] w fun e w' => e = .returned (.tuple #[.slice none 0 0, .int .i64 1]) ∧ Below w.heap.size w w' := by
  have hs56 : k * (k - 1) ≤ 8 * 7 := Nat.mul_le_mul k2 (by omega)
  have hs2 : 2 * 1 ≤ k * (k - 1) := Nat.mul_le_mul k1 (by omega)
  have SY := Lib.hid (symbols_any v n k s w hc.code (by omega) (by omega) hs)
  have PN := Lib.hid (fun W => parts_no s L A c W (by omega) (by omega) h)
  have HB := Lib.hid (Below.refl w.heap.size w)
  clear hc hs h hs56 hs2 k1 k2
  go_enter Try.func27, Try.ntmps27
  go_wp2_with (first
    | (go_at_call 24; (with_reducible refine SY.out.mono ?_); rintro e u1 ⟨rfl, hu⟩; subst hu)
    | (go_at_call 31; (with_reducible refine (PN.out _).mono ?_); rintro e u2 ⟨rfl, hu⟩; subst hu))
  go_ret2
  exact ⟨rfl, HB.out⟩
set_option maxRecDepth 100000 in
set_option maxHeartbeats 2000000 in
theorem encode_good (v : Value) (n k s sz L : Nat) (A : Option Addr) (c : Nat) (b : List Int) (w : World) (hc : IsCodeP w v n k) (k1 : 2 ≤ k) (k2 : k ≤ 8) (n2 : n ≤ 24) (hs : k * (k - 1) = s) (hr : (Kd.int .u8).C w A L b) (hLc : L ≤ c) (hLs : L = s * sz) (hsz : 1 ≤ sz) (hL1 : L ≤ 1000) (hbyt : ∀ x ∈ b, Byt x) :
    Calls Try.prog 27 #[v, .slice A L c] w fun e w' => ∃ A' c', e = .returned (.tuple #[.slice A' n c', .int .i64 0]) ∧ RowsR w' w.heap.size (.slice A' n c') (shardsM n k sz b n) ∧ Kd.C kRow w' A' n (shardsM n k sz b n) ∧ Below w.heap.size w w' := by
  have hs56 : k * (k - 1) ≤ 8 * 7 := Nat.mul_le_mul k2 (by omega)
  have hs2 : 2 * 1 ≤ k * (k - 1) := Nat.mul_le_mul k1 (by omega)
  have hLb : L = b.length := by have := hr.1; omega
  have SY := Lib.hid (symbols_any v n k s w hc.code (by omega) (by omega) hs)
  have PG := Lib.hid (parts_good s sz L A c b w hr hLc hLs (by omega) hsz (by omega) hL1)
  have SH := Lib.hid (fun i A1 c1 W (hi : i < n) (hB : Below w.heap.size w W) (hC : Kd.C kRow W A1 s (chunks b sz s)) => mshard_any v n k i s sz L A1 c1 b W (hc.below hB) k1 k2 n2 hi hs hC hLb hLs hsz hL1 hbyt)
  have HV := Lib.hid (fun W (hB : Below w.heap.size w W) => hc.below hB)
  obtain ⟨bb, A0, c0, rfl, hblk, _⟩ := hc
  have HBK := Lib.hid hblk
  have HB := Lib.hid (Below.refl w.heap.size w)
  clear hblk hs hs56 hs2 k1 k2 hr hLc hLs hsz hL1 hbyt hLb
  go_enter Try.func27, Try.ntmps27
  go_upto_region 5 with (first
    | (go_at_call 24; (with_reducible refine SY.out.mono ?_); rintro e u1 ⟨rfl, hu⟩; subst hu)
    | (go_at_call 31; (with_reducible refine PG.out.mono ?_); rintro e w2 ⟨A2, c2, rfl, hl2, hC2, hb⟩; have HC2 := Lib.hid hC2; have HB2 := Lib.hid hb; have HBK2 := Lib.hid (Blk.below HBK.out hb (Blk.lt HBK.out)); clear hl2 hC2 hb))
  have y0 : w2.cell? ⟨bb, 0, none⟩ = some (.int .i64 n) := (HBK2.out.cell 0).trans rfl
  go_upto_region 6 with (fail)
  clear y0
  go_loopw [8, 9, 23] (fun u0 _ iv wr => ∃ (i : Nat) (u : Value), u0 = u ∧ i ≤ n ∧ iv = .int .i64 i ∧ Hid (RowsR wr w2.heap.size u (shardsM n k sz b i)) ∧ Hid (Below w2.heap.size w2 wr)) (fun _ _ iv _ => n - (intOf iv).toNat)
  case atStart => exact ⟨0, _, rfl, by omega, rfl, Lib.hid (Kd.R_nil _ _ _ _ _), Lib.hid (Below.refl _ _)⟩
  case round =>
    obtain ⟨i, u, rfl, hi, rfl, HO, HB3⟩ := hrel
    by_cases hlt : i < n
    · have hBw := HB2.out.trans (HB3.out.mono HB2.out.size)
      have SHi := Lib.hid (SH.out i A2 c2 wr hlt hBw (Kd.C_below HC2.out HB3.out))
      have g1 : (i : Int) < (n : Int) := by omega
      clear hBw
      go_wp2_with (first
        | (go_at_call 32; (with_reducible refine SHi.out.mono ?_); rintro e w4 ⟨v4, rfl, hr4, hb4⟩; obtain ⟨A5, c5, rfl⟩ := Kd.R_slice hr4; have HR4 := Lib.hid hr4; have HB4 := Lib.hid hb4; clear hr4 hb4)
        | (at_builtin; refine rows_append2 (w0 := w2) rfl w2.heap.size rfl _ _ rfl u8 _ (shardsM n k sz b i) _ rfl rfl HO.out (HB3.out.trans (HB4.out.mono HB3.out.size)) HB3.out.size HB4.out HR4.out (by rw [shardsM_len]; omega) ?_; intro v5 w5 h5 hb5; have H5 := Lib.hid h5; have HB5 := Lib.hid hb5; clear h5 hb5))
      go_roundw
      case rel => exact ⟨i + 1, _, rfl, by omega, by go_num, Lib.hid (by rw [shardsM_succ]; exact H5.out), HB5⟩
      case measure => simp [intOf]; omega
    · obtain rfl : i = n := by omega
      obtain ⟨A7, c7, rfl, hl7, hC7⟩ := Kd.R_reads HO.out
      have hro := HO.out
      rw [shardsM_len] at hro hC7 hl7 ⊢
      have HC7 := Lib.hid hC7
      have HL7 := Lib.hid (Kd.R_lower hro HB2.out.size)
      clear hl7 hC7 hro
      go_wp2
      go_ret2
      exact ⟨A7, c7, rfl, HL7.out, HC7.out, HB2.out.trans (HB3.out.mono HB2.out.size)⟩
end Go.Proofs.Ytjoblpkfpfclpaa.Str
