/- The statement MsrDecodes: what its proof rests on, part 4 of 4. -/
import Derived.Test.YtmefhhkfakmhgaaProg
import Derived.Below
import Derived.Deep.Draws
import Derived.Deep.AppendLies
import Derived.Maps.AppendAt
import Derived.OwnWalk
import Derived.Laws.BytesArg
import Derived.Laws.MakeOwn
import Derived.Laws.OwnMore
import Derived.Deep.OwnRows
import Derived.Tactics
import Derived.Lib.ConvBytes
import Derived.Laws.Slices
import Derived.WalkKit
import Derived.KernelRfl
import Derived.RowKit3
import Derived.Deep.LoopGhost
import Derived.Deep.QuietTactic
import Derived.BigQuiet
import Derived.WideLaws
import Derived.Deep.DeepCutAuto
import Derived.Deep.CutBlock
import Derived.Deep.RegionHeld3
import Derived.Laws.Rows
import Derived.Lib.AppendStr
import Derived.ArgAppend
import Derived.Laws.IdiomCopy
import Derived.OrdersHeld
import Derived.Laws.BitsLemmas
import Derived.RowKit
import Derived.Lib.Hide
import Derived.WalkSpells
import Derived.StillTailTactics
import Derived.Outline
import Derived.Test.YtmefhhkfakmhgaaZMsrDecodesc
namespace Go.Proofs.Ytmefhhkfakmhgaa.Hl
open Go Go.RowKit Go.Proofs.Ytmefhhkfakmhgaa.Gf Go.Proofs.Ytmefhhkfakmhgaa.Gi Go.Proofs.Ytmefhhkfakmhgaa.Bits Go.Proofs.Ytmefhhkfakmhgaa.Mem Go.Proofs.Ytmefhhkfakmhgaa.Alg Go.Proofs.Ytmefhhkfakmhgaa.Sol Go.Proofs.Ytmefhhkfakmhgaa.VPts Go.Proofs.Ytmefhhkfakmhgaa.Str Go.Proofs.Ytmefhhkfakmhgaa.Rws Go.Proofs.Ytmefhhkfakmhgaa.Par Go.Proofs.Ytmefhhkfakmhgaa.Mdc Go.Proofs.Ytmefhhkfakmhgaa.BMsrCodes Go.Proofs.YtmefhhkfakmhgaaW.PrintWords Go.Proofs.YtmefhhkfakmhgaaW.PrintLast
set_option linter.unusedVariables false
theorem ii_row {w : World} {A : Option Addr} {n : Nat} {xs : List Int} (h : (Kd.int .i64).C w A n xs) (i : Nat) (hi : i < n) : ∃ ad, A = some ad ∧ w.cell? (ad.add i) = some (.int .i64 (xs.getD i 0)) := by
  obtain ⟨ad, e, hc⟩ := Kd.at_int h (i : Int) (by omega) (by omega)
  simp only [Int.toNat_natCast] at hc
  exact ⟨ad, e, by simpa [rd] using hc⟩
theorem ii_rows {w : World} {A : Option Addr} {n : Nat} {ls : List (List Int)} (h : Kd.C Plc.kI w A n ls) (i : Nat) (hi : i < n) :
    ∃ ad A0 c0, A = some ad ∧ w.cell? (ad.add i) = some (.slice A0 (ls.getD i []).length c0) ∧ (ls.getD i []).length ≤ c0 ∧ (Kd.int .i64).C w A0 (ls.getD i []).length (ls.getD i []) := by
  obtain ⟨ad, c, e, _, hK, hc0⟩ := Kd.C_get h [] (i : Int) (by omega) (by omega)
  obtain ⟨A0, c0, rfl, l0, g0⟩ := hK
  refine ⟨ad, A0, c0, e, ?_, l0, g0⟩
  have hq := hc0 0 _ rfl
  simpa [Kd.slice] using hq
theorem ii_place {w : World} {A : Option Addr} {a : Nat} (h : Kd.C Plc.kI w A (2 * a) (Plc.placesG a)) (r j : Nat) (hr : r < 2 * a) (hj : j < a) : ∃ ad A0 c0 ad0, A = some ad ∧ w.cell? (ad.add r) = some (.slice A0 a c0) ∧ A0 = some ad0 ∧ w.cell? (ad0.add j) = some (.int .i64 (placeN a r j : Nat)) := by
  obtain ⟨ad, A0, c0, rfl, h1, _, h3⟩ := ii_rows h r hr
  have e1 : (Plc.placesG a).getD r [] = (List.range a).map (fun c => (placeN a r c : Int)) := by
    simp [Plc.placesG, List.getD_eq_getElem?_getD, hr]
    exact fun _ _ => rfl
  have e2 : ((Plc.placesG a).getD r []).length = a := by rw [e1]; simp
  rw [e2] at h1 h3
  obtain ⟨ad0, rfl, h4⟩ := ii_row h3 j hj
  have e3 : ((Plc.placesG a).getD r []).getD j 0 = (placeN a r j : Int) := by rw [e1]; simp [List.getD_eq_getElem?_getD, hj]
  rw [e3] at h4
  exact ⟨ad, some ad0, c0, ad0, rfl, h1, rfl, h4⟩
def dataM (a sz : Nat) (x : Nat → List Int) : Mtx := fun e m => (x (e / a)).getD (e % a * sz + m) 0
def decM (a sz : Nat) (f : Nat → Nat) (x : Nat → List Int) : Mtx := augM ((a + 1) * a) (eqsM a f) (dataM a sz x)
def rowL (a R : Nat) (f : Nat → Nat) (i j : Nat) : Nat → Int := fun u => xrow a (powM f i) j R u
def rowR (a sz S : Nat) (f : Nat → Nat) (x : Nat → List Int) (i j m : Nat) : Nat → Int := fun u => if u < S then xrow a (powM f i) j (2 * a) u else if u < S + m then (x i).getD (j * sz + (u - S)) 0 else 0
theorem xrow_out {a : Nat} {y : Nat → Int} {c S : Nat} (R : Nat) (h : ∀ r, r < R → placeN a r c < S) (u : Nat) (hu : S ≤ u) : xrow a y c R u = 0 := by
  induction R with
  | zero => rfl
  | succ R ih =>
    show (if u = placeN a R c then xorI (xrow a y c R u) (y R) else xrow a y c R u) = 0
    have := h R (by omega)
    rw [if_neg (by omega)]
    exact ih (fun r hr => h r (by omega))
theorem rowR_zero {a sz S i j L : Nat} {f : Nat → Nat} {x : Nat → List Int} (h : ∀ r, r < 2 * a → placeN a r j < S) : line L (rowL a (2 * a) f i j) = line L (rowR a sz S f x i j 0) := by
  refine line_congr _ _ _ (fun u hu => ?_)
  unfold rowL rowR
  by_cases e : u < S
  · rw [if_pos e]
  · rw [if_neg e, if_neg (by omega), xrow_out (2 * a) h u (by omega)]
theorem rowR_set {a sz S i j m L : Nat} {f : Nat → Nat} {x : Nat → List Int} (hL : S + m < L) : (line L (rowR a sz S f x i j m)).set (S + m) ((x i).getD (j * sz + m) 0) = line L (rowR a sz S f x i j (m + 1)) := by
  rw [line_set _ _ _ hL]
  refine line_congr _ _ _ (fun u hu => ?_)
  show (if u = S + m then (x i).getD (j * sz + m) 0 else rowR a sz S f x i j m u) = _
  unfold rowR
  by_cases e : u = S + m
  · rw [if_pos e, if_neg (by omega), if_pos (by omega), show u - S = m by omega]
  · rw [if_neg e]
    by_cases e2 : u < S
    · rw [if_pos e2, if_pos e2]
    · rw [if_neg e2, if_neg e2]
      by_cases e3 : u < S + m
      · rw [if_pos e3, if_pos (by omega)]
      · rw [if_neg e3, if_neg (by omega)]
theorem rowR_all {a sz i j : Nat} {f : Nat → Nat} {x : Nat → List Int} (hj : j < a) : line ((a + 1) * a + sz) (rowR a sz ((a + 1) * a) f x i j sz) = line ((a + 1) * a + sz) (decM a sz f x (i * a + j)) := by
  have e1 : (i * a + j) / a = i := by rw [Nat.mul_comm, Nat.mul_add_div (by omega), Nat.div_eq_of_lt hj, Nat.add_zero]
  have e2 : (i * a + j) % a = j := by rw [Nat.mul_comm, Nat.mul_add_mod, Nat.mod_eq_of_lt hj]
  refine line_congr _ _ _ (fun u hu => ?_)
  unfold rowR decM augM eqsM dataM
  rw [e1, e2]
  by_cases e : u < (a + 1) * a
  · rw [if_pos e, if_pos e]
  · rw [if_neg e, if_neg e, if_pos (by omega)]
theorem rowL_set {a R i j L : Nat} {f : Nat → Nat} (hL : placeN a R j < L) : (line L (rowL a R f i j)).set (placeN a R j) (xorI (rowL a R f i j (placeN a R j)) (powM f i R)) = line L (rowL a (R + 1) f i j) := by
  rw [line_set _ _ _ hL]
  refine line_congr _ _ _ (fun u hu => ?_)
  show (if u = placeN a R j then _ else rowL a R f i j u) = (if u = placeN a R j then xorI (xrow a (powM f i) j R u) (powM f i R) else xrow a (powM f i) j R u)
  by_cases e : u = placeN a R j
  · rw [if_pos e, if_pos e, e]; rfl
  · rw [if_neg e, if_neg e]; rfl
def outM (S sz : Nat) (M : Mtx) : Nat → Int := fun pos => M (pos / sz) (S + pos % sz)
theorem outM_row {S sz e : Nat} {M : Mtx} (hs : 1 ≤ sz) : line (e * sz) (outM S sz M) ++ (line (S + sz) (M e)).drop S = line ((e + 1) * sz) (outM S sz M) := by
  rw [show (line (S + sz) (M e)).drop S = line sz (fun m => M e (S + m)) from by
    refine List.ext_getElem (by simp [line_len]) (fun i h1 h2 => ?_)
    simp [line], Nat.add_mul, Nat.one_mul]
  refine List.ext_getElem (by simp [line_len]) (fun i h1 h2 => ?_)
  rw [line_len] at h2
  rw [List.getElem_append]
  by_cases hi : i < e * sz
  · rw [dif_pos (by rw [line_len]; exact hi)]
    simp [line]
  · rw [dif_neg (by rw [line_len]; exact hi)]
    simp only [line, List.getElem_map, List.getElem_range, List.length_map, List.length_range]
    unfold outM
    have h3 : i / sz = e := by
      rw [show i = sz * e + (i - e * sz) by rw [Nat.mul_comm]; omega, Nat.mul_add_div (by omega), Nat.div_eq_of_lt (by omega), Nat.add_zero]
    have h4 : i % sz = i - e * sz := by
      rw [show i = sz * e + (i - e * sz) by rw [Nat.mul_comm]; omega, Nat.mul_add_mod, Nat.mod_eq_of_lt (by omega), Nat.mul_comm]
      omega
    rw [h3, h4]
def RDecPost (S sz : Nat) (M0 : Mtx) (w : World) (e : Ending) (w' : World) : Prop :=
  ∃ A c t M, e = .returned (.slice A (S * sz) c) ∧ StepsTo S M0 (S + sz) t M ∧ S * sz ≤ c ∧ (Kd.int .u8).C w' A (S * sz) (line (S * sz) (outM S sz M)) ∧ Below w.heap.size w w'
set_option maxRecDepth 100000 in
set_option maxHeartbeats 8000000 in
theorem rdec_any (n k N c0 c1 sz a S : Nat) (A0 A1 : Option Addr) (s : Nat → Int) (x : Nat → List Int) (w : World) (k1 : 2 ≤ k) (k2 : k ≤ 8) (n2 : n ≤ 24) (ha : a = k - 1) (hS0 : S = (a + 1) * a) (hN : k ≤ N) (hN100 : N ≤ 100)
    (hS : (Kd.int .i64).C w A0 N (line N s)) (hX : Kd.C kRow w A1 N (rowsX x N)) (hs : ∀ i, i < N → 0 ≤ s i ∧ s i < n) (hxl : ∀ i, i < N → (x i).length = sz * a) (hxb : ∀ q i, Byt ((x q).getD i 0)) (s1 : 1 ≤ sz) (s2 : sz ≤ 100) :
    Calls Try.prog 14 #[.int .i64 n, .int .i64 k, .slice A0 N c0, .slice A1 N c1] w (RDecPost S sz (decM a sz (fun i => ptN n k (s i).toNat) x) w) := by
  have RW := Lib.hid (rows_calls n k w k1 k2 n2)
  obtain ⟨f, hf⟩ : ∃ f : Nat → Nat, f = fun i => ptN n k (s i).toNat := ⟨_, rfl⟩
  rw [← hf]
  have hfb : ∀ i, f i < 256 := fun i => by rw [hf]; exact ptN_lt n k _
  have HFB := Lib.hid hfb
  have a1 : 1 ≤ a := by omega
  have a7 : a ≤ 7 := by omega
  have ka : k = a + 1 := by omega
  have hS56 : S ≤ 56 := by rw [hS0]; exact Nat.mul_le_mul (show a + 1 ≤ 8 by omega) a7
  have hS2 : 2 ≤ S := by rw [hS0]; exact Nat.mul_le_mul (show 2 ≤ a + 1 by omega) a1
  have HM0 := Lib.hid (show BytM (decM a sz f x) from augM_byt (eqsM_byt hfb) (fun e m => hxb _ _))
  have HS := Lib.hid (fun W (hB : Below w.heap.size w W) => Kd.C_below hS hB)
  have HX := Lib.hid (fun W (hB : Below w.heap.size w W) i (hi : i < N) => show ∃ ad A0 c0, A1 = some ad ∧ W.cell? (ad.add i) = some (.slice A0 (sz * a) c0) ∧ (Kd.int .u8).C W A0 (sz * a) (x i) by
    obtain ⟨ad, A0, c0, e, h1, _, h3⟩ := rowsN_get (show Kd.C kRow W A1 (rowsX x N).length (rowsX x N) by rw [rowsX_len]; exact Kd.C_below hX hB) i (by rw [rowsX_len]; omega)
    rw [rowsX_get x N i (by omega), hxl i (by omega)] at h1 h3
    exact ⟨ad, A0, c0, e, h1, h3⟩)
  have HSR := Lib.hid hs
  obtain ⟨d, hd⟩ : ∃ d, d = 2 * k - 2 := ⟨_, rfl⟩
  have HRR := Lib.hid (fun W A (h : Kd.C kRow W A n (rowsM n k n)) i (hi : i < n) => show ∃ ad A0 c0, A = some ad ∧ W.cell? (ad.add i) = some (.slice A0 d c0) ∧ (Kd.int .u8).C W A0 d (pows (ptN n k i) d) by
    obtain ⟨ad, A0, c0, e, h1, _, h3⟩ := rows_row h i hi
    rw [← hd] at h1 h3
    exact ⟨ad, A0, c0, e, h1, h3⟩)
  have HF := Lib.hid hf
  have HPL := Lib.hid (fun W (hB : Below w.heap.size w W) => show Calls Try.prog 31 #[.int .i64 k] W fun e w' => ∃ A c, e = .returned (.slice A (2 * a) c) ∧ Kd.C Plc.kI w' A (2 * a) (Plc.placesG a) ∧ Below W.heap.size W w' by
    refine (Plc.places_any k W k1 k2).mono ?_
    rintro e w' ⟨A, c, rfl, _, h, hb⟩
    rw [← ha] at h ⊢
    exact ⟨A, c, rfl, h, hb⟩)
  have d2a : d = 2 * a := by omega
  have HKA := Lib.hid (And.intro ka (And.intro d2a hS0))
  have HPT := Lib.hid (fun r j (hr : r < 2 * a) (hj : j < a) => show placeN a r j < S by rw [hS0]; exact place_lt a r j a1 a7 hr hj)
  obtain ⟨ad0, rfl, _⟩ := int_row hS 0 (by omega)
  obtain ⟨ad1, A30, c30, rfl, kx0, _⟩ := HX.out w (Below.refl _ _) 0 (by omega)
  have kx0' : w.cell? ad1 = some (.slice A30 (sz * a) c30) := by simpa [Addr.add] using kx0
  obtain ⟨M0, hM0⟩ : ∃ M0, M0 = sz * a := ⟨_, rfl⟩
  rw [← hM0] at kx0'
  have KX0 := Lib.hid (fun W (hB : Below w.heap.size w W) => pw_cell_below hB kx0')
  have hM7 : M0 ≤ 700 := by rw [hM0]; exact Nat.mul_le_mul s2 a7
  have v1 : IntKind.i64.wrap ((k : Int) - 1) = (a : Int) := by rw [IntWalk.i64_in _ (by omega)]; omega
  have v2 : (k : Int) - 1 = (a : Int) := by omega
  have v3 : IntKind.i64.wrap ((k : Int) * (a : Int)) = (S : Int) := by rw [← Int.natCast_mul, ka, ← hS0]; exact IntWalk.i64_in _ (by omega)
  have v4 : (k : Int) * (a : Int) = (S : Int) := by rw [← Int.natCast_mul, ka, ← hS0]
  have v5 : Int.tdiv (M0 : Int) (a : Int) = (sz : Int) := by simp only [Int.tdiv]; rw [hM0, Nat.mul_div_cancel _ (by omega)]; rfl
  have v6 : (M0 : Int) / (a : Int) = (sz : Int) := by rw [hM0, Int.natCast_mul]; exact Int.mul_ediv_cancel _ (by omega)
  have v7 : IntKind.i64.wrap ((S : Int) + (sz : Int)) = (S : Int) + (sz : Int) := IntWalk.i64_in _ (by omega)
  have v8 : IntKind.i64.wrap (2 * (k : Int)) = 2 * (k : Int) := IntWalk.i64_in _ (by omega)
  have v9 : 2 * (k : Int) - 2 = (d : Int) := by omega
  have v10 : IntKind.i64.wrap (2 * (k : Int) - 2) = (d : Int) := by rw [IntWalk.i64_in _ (by omega)]; omega
  have g1 : (0 : Int) < (N : Int) := by omega
  have g2 : (0 : Int) < (a : Int) := by omega
  have g3 : ((a : Int) == 0) = false := by simp; omega
  have g4 : (a : Int) ≠ 0 := by omega
  have HM00 := Lib.hid hM0
  have HB0 := Lib.hid (Below.refl w.heap.size w)
  have HNN := Lib.hid (show k ≤ N from hN)
  clear hS hX hs hxl hxb hf hfb k1 k2 ka kx0 kx0' hd d2a hS0 ha hM0 hN
  go_enter Try.func14, Try.ntmps14
  go_upto_region 3 with (first
    | (go_at_call 22; (with_reducible refine RW.out.mono ?_); rintro e wR ⟨AR, cR, rfl, hcR, hCR, hb⟩; have HCR := Lib.hid hCR; have HBR := Lib.hid hb; clear hcR hCR hb)
    | (go_at_call 31; (with_reducible refine (HPL.out _ HBR.out).mono ?_); rintro e wP ⟨AP, cP, rfl, hCP, hb⟩; have HCP := Lib.hid hCP; have HBP := Lib.hid (HBR.out.trans (hb.mono HBR.out.size)); have HCR2 := Lib.hid (Kd.C_below HCR.out hb); clear HCR hCP hb))
  clear RW HPL HBR HB0
  have y0 := KX0.out wP HBP.out
  go_upto_region 6 with (fail)
  clear y0 v5 v6
  go_loopw [13, 14, 15, 16, 17, 18] (fun uv iv _ _ _ _ wr => ∃ (i : Nat) (u : Value), uv = u ∧ i ≤ k ∧ iv = .int .i64 i ∧ Hid (RowsR wr wP.heap.size u (mat (i * a) (S + sz) (decM a sz f x))) ∧ Hid (Below wP.heap.size wP wr)) (fun _ iv _ _ _ _ _ => k - (intOf iv).toNat)
  case atStart => exact ⟨0, _, rfl, by omega, rfl, Lib.hid (by rw [Nat.zero_mul]; exact Kd.R_nil _ _ _ _ _), Lib.hid (Below.refl _ _)⟩
  case round =>
    obtain ⟨i, u, rfl, hi, rfl, HO, HB⟩ := hrel
    by_cases hlt : i < k
    · have q1 : (i : Int) < (k : Int) := by omega
      have q2 : (0 : Int) ≤ (i : Int) := by omega
      go_upto_region 9 with (fail)
      go_loopw [13, 15, 16, 17, 18] (fun uv jv _ _ _ wr => ∃ (j : Nat) (u : Value), uv = u ∧ j ≤ a ∧ jv = .int .i64 j ∧ Hid (RowsR wr wP.heap.size u (mat (i * a + j) (S + sz) (decM a sz f x))) ∧ Hid (Below wP.heap.size wP wr)) (fun _ jv _ _ _ _ => a - (intOf jv).toNat)
      case atStart => exact ⟨0, _, rfl, by omega, rfl, HO, HB⟩
      case round =>
        clear HO HB
        obtain ⟨j, u, rfl, hj, rfl, HO, HB⟩ := hrel
        by_cases hja : j < a
        · have q3 : (j : Int) < (a : Int) := by omega
          have q4 : (0 : Int) ≤ (j : Int) := by omega
          obtain ⟨x1, hx1⟩ : ∃ x1, x1 = wr := ⟨_, rfl⟩
          rw [← hx1] at HO HB
          have HX1 := Lib.hid hx1
          clear hx1
          have hts : ((S : Int) + (sz : Int)).toNat = S + sz := by omega
          have HTS := Lib.hid hts
          clear hts
          go_upto_region 13 with (at_make; refine Kd.R_make (Kd.int .u8) (w0 := x1) x1.heap.size 5 rfl (N := 52) rfl 22 _ _ rfl ((S : Int) + (sz : Int)) rfl rfl Try.underlying22 (.int .u8 0) 1 Rws.info_byte rfl (by decide) (by decide) 0 (ok := fun _ => True) (okp := fun _ => True) rfl (fun _ hk => hk) trivial (by omega) (by omega) (by rw [HX1.out]; exact Below.refl _ _) (by rw [HX1.out]; exact Nat.le_refl _) ?_; intro v4 w4 h4 hb4 hg4 hf4; rw [HTS.out] at h4; obtain ⟨g, c4, hv4, hgb, _, _, _⟩ := Kd.R_form h4 (by rw [List.length_replicate]; omega); rw [List.length_replicate] at hv4; subst hv4; have HR0 := Lib.hid h4; have HQ0 := Lib.hid hb4; have HGB := Lib.hid hgb; clear h4 hb4 hg4 hf4 hgb)
          have HR1 := Lib.hid (show (Kd.int .u8).R 5 w4 x1.heap.size (fun _ => True) (.slice (some ⟨g, 0, none⟩) (S + sz) c4) (line (S + sz) (rowL a 0 f i j)) by rw [show line (S + sz) (rowL a 0 f i j) = List.replicate (S + sz) 0 from line_zero _]; exact HR0.out)
          clear HR0 HX1 HTS
          obtain ⟨ad, e, ks⟩ := int_row (HS.out w (Below.refl _ _)) i (by have := HNN.out; omega)
          injection e with e
          subst e
          have hsr := HSR.out i (by have := HNN.out; omega)
          obtain ⟨p, hp⟩ : ∃ p : Nat, s i = p := ⟨(s i).toNat, by omega⟩
          rw [hp] at ks
          have hfp : f i = ptN n k p := by rw [HF.out]; show ptN n k (s i).toNat = _; rw [hp]; rfl
          obtain ⟨adR, A2, c2, rfl, kr, hrow⟩ := HRR.out wP AR HCR2.out p (by omega)
          obtain ⟨adP, _, _, _, rfl, _⟩ := ii_place HCP.out 0 0 (by omega) (by omega)
          have KS := Lib.hid (fun W (hB : Below wP.heap.size wP W) => And.intro (pw_cell_below (HBP.out.trans (hB.mono HBP.out.size)) ks) (pw_cell_below hB kr))
          have HROW := Lib.hid hrow
          have HFP := Lib.hid hfp
          have q5 : (p : Int) < (n : Int) := by omega
          have q6 : (0 : Int) ≤ (p : Int) := by omega
          obtain ⟨ad, A3, c3, e, kx, hx3⟩ := HX.out w (Below.refl _ _) i (by have := HNN.out; omega)
          injection e with e
          subst e
          have HX3 := Lib.hid (fun W (hB : Below w.heap.size w W) => And.intro (pw_cell_below hB kx) (Kd.C_below hx3 hB))
          clear ks kr hrow hfp hsr hp kx hx3
          go_loopw [17] (fun rv wr => ∃ (r : Nat), r ≤ d ∧ rv = .int .i64 r ∧ Hid ((Kd.int .u8).R 5 wr x1.heap.size (fun _ => True) (.slice (some ⟨g, 0, none⟩) (S + sz) c4) (line (S + sz) (rowL a r f i j))) ∧ Hid (Below x1.heap.size x1 wr)) (fun rv _ => d - (intOf rv).toNat)
          case atStart => exact ⟨0, by omega, rfl, HR1, HQ0⟩
          case round =>
            clear HR1 HQ0
            obtain ⟨r, hr, rfl, HR, HQ⟩ := hrel
            by_cases hrd : r < d
            · have q7 : (r : Int) < (d : Int) := by omega
              have q8 : (0 : Int) ≤ (r : Int) := by omega
              have hr2 : r < 2 * a := by have := HKA.out.2.1; omega
              have hBP := HB.out.trans (HQ.out.mono HB.out.size)
              have hBw := HBP.out.trans (hBP.mono HBP.out.size)
              obtain ⟨k1', k2'⟩ := KS.out wr hBP
              obtain ⟨ad2, rfl, k3'⟩ := Sol.at_row (Kd.C_below HROW.out hBP) r hrd
              rw [pows_get _ _ _ hrd, ← HFP.out] at k3'
              obtain ⟨ad, A5, c5, ad5, e, k4', rfl, k5'⟩ := ii_place (Kd.C_below HCP.out hBP) r j hr2 hja
              injection e with e
              subst e
              have hpt := HPT.out r j hr2 hja
              obtain ⟨u, hu⟩ : ∃ u, u = placeN a r j := ⟨_, rfl⟩
              obtain ⟨c1', c2'⟩ := cell_of HR.out u (by omega)
              have hy1 : Byt (rowL a r f i j u) := xrow_byt (powM_byt HFB.out i) j r u
              have hy2 := powM_byt HFB.out i r
              have hxb := xor_bits hy1 hy2
              have hpn := fun q => put_of (Kd.R_drewN HR.out q) u (xorI (rowL a r f i j u) (powM f i r))
              rw [hu, rowL_set (by omega), ← hu] at hpn
              rw [← hu] at k5' hpt
              obtain ⟨y1, hy1e⟩ : ∃ y1, y1 = rowL a r f i j u := ⟨_, rfl⟩
              obtain ⟨y2, hy2e⟩ : ∃ y2 : Int, y2 = ((gp (f i) r : Nat) : Int) := ⟨_, rfl⟩
              have hy2p : powM f i r = y2 := by rw [hy2e]; rfl
              rw [hy2p] at hxb hpn
              rw [← hy1e] at hxb c1' hpn
              rw [← hy2e] at k3'
              obtain ⟨y3, hy3e⟩ : ∃ y3, y3 = xorI y1 y2 := ⟨_, rfl⟩
              rw [← hy3e] at hxb hpn
              have HPN := Lib.hid hpn
              have HBn := Lib.hid (fun q => (pw_below_drewN HQ.out q).setCell (p := ⟨g, u, none⟩) HGB.out (.int .u8 y3))
              have t1 : (u : Int) < (S : Int) + (sz : Int) := by omega
              have t2 : (0 : Int) ≤ (u : Int) := by omega
              have t3 : (u : Int) < ((S + sz : Nat) : Int) := by omega
              have t4 : (r : Int) < 2 * (a : Int) := by omega
              have t5 : (r : Int) < ((2 * a : Nat) : Int) := by omega
              have t6 : (i : Int) < (N : Int) := by have := HNN.out; omega
              clear hu hpt hy1 hy2 hpn hy1e hy2e hy2p hy3e hBP hBw hr2
              go_upto_region 15 with (fail)
              refine wp_region_still_tail 30 (by kernel_rfl) (by kernel_rfl) ?_
              change wpStill _ _ (wr.drewN 1) (fun a' => wpList _ _ _ _ a' (wr.drewN 1)) _ _
              simp only [List.take_succ_cons, List.take_zero, List.drop_succ_cons, List.drop_zero]
              repeat still_step
              refine wpStill_nil ?_
              go_wp2
              go_roundw
              case rel => exact ⟨r + 1, by omega, by go_num, Lib.hid (HPN.out 1), Lib.hid (HBn.out 1)⟩
              case measure => simp [intOf]; omega
            · obtain rfl : d = r := by omega
              have HR2 := Lib.hid (show (Kd.int .u8).R 5 wr x1.heap.size (fun _ => True) (.slice (some ⟨g, 0, none⟩) (S + sz) c4) (line (S + sz) (rowR a sz S f x i j 0)) by
                have h := HR.out
                rw [HKA.out.2.1, rowR_zero (S := S) (x := x) (sz := sz) (fun r hr => HPT.out r j hr hja)] at h
                exact h)
              have HQ2 := Lib.hid (show Below x1.heap.size x1 wr from HQ.out)
              clear HR HQ
              go_upto_region 17 with (fail)
              go_loopw [18] (fun mv wr => ∃ (m : Nat), m ≤ sz ∧ mv = .int .i64 m ∧ Hid ((Kd.int .u8).R 5 wr x1.heap.size (fun _ => True) (.slice (some ⟨g, 0, none⟩) (S + sz) c4) (line (S + sz) (rowR a sz S f x i j m))) ∧ Hid (Below x1.heap.size x1 wr)) (fun mv _ => sz - (intOf mv).toNat)
              case atStart => exact ⟨0, by omega, rfl, HR2, HQ2⟩
              case round =>
                clear HR2 HQ2
                obtain ⟨m, hm, rfl, HR, HQ⟩ := hrel
                by_cases hms : m < sz
                · have q7 : (m : Int) < (sz : Int) := by omega
                  have q8 : (0 : Int) ≤ (m : Int) := by omega
                  have hBP := HB.out.trans (HQ.out.mono HB.out.size)
                  have hBw := HBP.out.trans (hBP.mono HBP.out.size)
                  obtain ⟨k1', k2'⟩ := HX3.out wr hBw
                  rw [← HM00.out] at k1' k2'
                  have hpm : j * sz + m < M0 := by
                    have h2 : (j + 1) * sz ≤ a * sz := Nat.mul_le_mul_right sz hja
                    rw [Nat.add_mul, Nat.one_mul] at h2
                    have := HM00.out
                    rw [Nat.mul_comm] at this
                    omega
                  have hset := rowR_set (a := a) (sz := sz) (S := S) (i := i) (j := j) (m := m) (L := S + sz) (f := f) (x := x) (by omega)
                  obtain ⟨js, hjs⟩ : ∃ js, js = j * sz := ⟨_, rfl⟩
                  rw [← hjs] at hpm hset
                  obtain ⟨p2, hp2⟩ : ∃ p2, p2 = js + m := ⟨_, rfl⟩
                  rw [← hp2] at hpm hset
                  obtain ⟨u, hu⟩ : ∃ u, u = S + m := ⟨_, rfl⟩
                  rw [← hu] at hset
                  obtain ⟨ad3, rfl, k3'⟩ := Sol.at_row k2' p2 hpm
                  obtain ⟨c1', c2'⟩ := cell_of HR.out u (by omega)
                  obtain ⟨z0, hz0⟩ : ∃ z0, z0 = rowR a sz S f x i j m u := ⟨_, rfl⟩
                  rw [← hz0] at c1'
                  have hpn := put_of HR.out u ((x i).getD p2 0)
                  rw [hset] at hpn
                  obtain ⟨z, hz⟩ : ∃ z, z = (x i).getD p2 0 := ⟨_, rfl⟩
                  rw [← hz] at hpn k3'
                  have HPN := Lib.hid hpn
                  have HBn := Lib.hid (HQ.out.setCell (p := ⟨g, u, none⟩) HGB.out (.int .u8 z))
                  have w1 : IntKind.i64.wrap ((j : Int) * (sz : Int)) = (js : Int) := by rw [hjs, ← Int.natCast_mul]; exact IntWalk.i64_in _ (by rw [← hjs]; omega)
                  have w2 : (j : Int) * (sz : Int) = (js : Int) := by rw [hjs, ← Int.natCast_mul]
                  have w3 : (js : Int) + (m : Int) = (p2 : Int) := by omega
                  have w4 : (S : Int) + (m : Int) = (u : Int) := by omega
                  have w5 : IntKind.i64.wrap (js : Int) = (js : Int) := IntWalk.i64_in _ (by omega)
                  have t1 : (u : Int) < (S : Int) + (sz : Int) := by omega
                  have t2 : (0 : Int) ≤ (u : Int) := by omega
                  have t3 : (p2 : Int) < (M0 : Int) := by omega
                  have t4 : (0 : Int) ≤ (p2 : Int) := by omega
                  have t6 : (i : Int) < (N : Int) := by have := HNN.out; omega
                  have t7 : IntKind.i64.wrap (p2 : Int) = (p2 : Int) := IntWalk.i64_in _ (by omega)
                  have t8 : IntKind.i64.wrap (u : Int) = (u : Int) := IntWalk.i64_in _ (by omega)
                  clear hjs hp2 hu hz0 hset hpn hz hpm hBP hBw k2'
                  go_wp2
                  go_roundw
                  case rel => exact ⟨m + 1, by omega, by go_num, HPN, HBn⟩
                  case measure => simp [intOf]; omega
                · obtain rfl : sz = m := by omega
                  have HRX := Lib.hid (show (Kd.int .u8).R 5 wr x1.heap.size (fun _ => True) (.slice (some ⟨g, 0, none⟩) (S + sz) c4) (line (S + sz) (decM a sz f x (i * a + j))) by
                    have h := HR.out
                    have hS' := HKA.out.2.2
                    rw [hS', rowR_all hja, ← hS'] at h
                    exact h)
                  clear HR
                  go_wp2_with (at_builtin; refine rows_append2 (w0 := wP) rfl wP.heap.size rfl _ _ rfl u13 _ (mat (i * a + j) (S + sz) (decM a sz f x)) _ rfl rfl HO.out (HB.out.trans (HQ.out.mono HB.out.size)) HB.out.size HQ.out HRX.out (by rw [mat_len]; have := Nat.mul_le_mul (show i ≤ 8 by have := HKA.out.1; omega) a7; omega) ?_; intro v5 w5 h5 hb5; have H5 := Lib.hid h5; have HB5 := Lib.hid hb5; clear h5 hb5)
                  go_roundw
                  case rel => exact ⟨j + 1, _, rfl, by omega, by go_num, Lib.hid (by rw [show i * a + (j + 1) = i * a + j + 1 by omega, mat_succ]; exact H5.out), HB5⟩
                  case measure => simp [intOf]; omega
        · obtain rfl : a = j := by omega
          go_wp2
          go_roundw
          case rel => exact ⟨i + 1, _, rfl, by omega, by go_num, Lib.hid (by rw [Nat.add_mul, Nat.one_mul]; exact HO.out), HB⟩
          case measure => simp [intOf]; omega
    · obtain rfl : k = i := by omega
      have hka : k * a = S := by rw [HKA.out.1, HKA.out.2.2]
      have HO1 := Lib.hid (show RowsR wr wP.heap.size u13 (mat S (S + sz) (decM a sz f x)) by have h := HO.out; rw [hka] at h; exact h)
      have ST := Lib.hid (show Calls Try.prog 32 #[u13] wr fun e w' => ∃ As cs t M, e = .returned (.slice (some As) S cs) ∧ Kd.C kRow w' (some As) S (mat S (S + sz) M) ∧ StepsTo S (decM a sz f x) (S + sz) t M ∧ Below wr.heap.size wr w' by
        obtain ⟨A8, c8, rfl⟩ := Kd.R_slice HO1.out
        have h := (Kd.R_reads' HO1.out).2.2
        rw [mat_len] at h ⊢
        refine (steps_any S (S + sz) c8 A8 (decM a sz f x) wr h HM0.out (by omega) (by omega) (by omega) (by omega)).mono ?_
        rintro e w' ⟨u, t, M, rfl, hr, hst, hb⟩
        obtain ⟨As, cs, rfl⟩ := Kd.R_slice hr
        have h := (Kd.R_reads' hr).2.2
        rw [mat_len] at h ⊢
        obtain ⟨ad, _, _, rfl, _⟩ := mrow h 0 (by omega)
        exact ⟨ad, cs, t, M, rfl, h, hst, hb⟩)
      clear HO HO1 hka HX HS HSR HRR HPT HF KX0
      go_upto_region 24 with (go_at_call 32; (with_reducible refine ST.out.mono ?_); rintro e w2 ⟨As, cs, t, M, rfl, hC, hst, hb⟩; have HC2 := Lib.hid hC; have HST := Lib.hid hst; have HB2 := Lib.hid (HBP.out.trans ((HB.out.trans (hb.mono HB.out.size)).mono HBP.out.size)); clear hC hst hb)
      clear ST HB HM0
      go_loopw [20, 21] (fun ov ev wq => ∃ (e : Nat) (u : Value), ov = u ∧ e ≤ S ∧ ev = .int .i64 e ∧ Hid ((Kd.int .u8).R 5 wq w2.heap.size (fun _ => True) u (line (e * sz) (outM S sz M))) ∧ Hid (Below w2.heap.size w2 wq)) (fun _ ev _ => S - (intOf ev).toNat)
      case atStart => exact ⟨0, _, rfl, by omega, rfl, Lib.hid (by rw [Nat.zero_mul]; exact Kd.R_nil _ _ _ _ _), Lib.hid (Below.refl _ _)⟩
      case round =>
        obtain ⟨e, u, rfl, he, rfl, HO, HB⟩ := hrel
        by_cases heS : e < S
        · have q1 : (e : Int) < (S : Int) := by omega
          have q2 : (0 : Int) ≤ (e : Int) := by omega
          obtain ⟨ad, A3, c3, e3, kc, hc3, hC3⟩ := mrow (Kd.C_below HC2.out HB.out) e heS
          injection e3 with e3
          subst e3
          obtain ⟨i0, hinf, hzz⟩ := Option.map_eq_some_iff.1 Rws.info_byte
          simp only [Prod.mk.injEq] at hzz
          have k2 := cut_from (P := Try.prog) 22 5 .i64 Try.underlying22 hinf 1 hzz.2.1 A3 (S + sz) c3 (S : Int) (by omega) (by omega)
          simp only [Int.toNat_natCast, Nat.mul_one] at k2
          have hR1 := Kd.reads_of_C (d := (0 : Int)) hC3
          obtain ⟨A4, hA4⟩ : ∃ A4, A4 = if c3 = S then A3 else A3.map (·.add S) := ⟨_, rfl⟩
          rw [← hA4] at k2
          have hdr : ReadsInt wr .u8 A4 (S + sz - S) ((line (S + sz) (M e)).drop S) := by rw [hA4]; exact hR1.drop_ S (by omega) hc3
          rw [show S + sz - S = sz by omega] at hdr k2
          have HDR := Lib.hid (show (Kd.int .u8).C wr A4 sz ((line (S + sz) (M e)).drop S) from Kd.C_of_reads (d := (0 : Int)) hdr)
          have HXS := Lib.hid (outM_row (S := S) (sz := sz) (e := e) (M := M) s1)
          clear hdr hR1 hA4 hinf hzz hC3
          have hlen : e * sz + sz ≤ 6000 := by
            have := Nat.mul_le_mul (show e ≤ 56 by omega) s2
            omega
          have HLEN := Lib.hid hlen
          clear hlen
          go_wp2_with (at_builtin; refine Kd.R_append_rows (Kd.int .u8) (w0 := w2) w2.heap.size rfl _ _ 22 5 (.int .u8 0) 1 rfl Try.underlying22 Rws.info_byte rfl (by decide) (by decide) u20 (line (e * sz) (outM S sz M)) ((line (S + sz) (M e)).drop S) _ _ _ (fun _ => True) (fun _ => False) rfl rfl HO.out HDR.out (fun _ _ h => h) (fun _ h => h.elim) (fun _ _ => trivial) HB.out HB.out.size (by rw [line_len]; have := HLEN.out; omega) ?_; intro v5 w5 h5 hb5 _ _; rw [HXS.out] at h5; have H5 := Lib.hid h5; have HB5 := Lib.hid hb5; clear h5 hb5)
          go_roundw
          case rel => exact ⟨e + 1, _, rfl, by omega, by go_num, H5, HB5⟩
          case measure => simp [intOf]; omega
        · obtain rfl : S = e := by omega
          obtain ⟨A9, c9, rfl⟩ := Kd.R_slice HO.out
          rw [line_len]
          obtain ⟨h0, h1, h⟩ := Kd.R_reads' HO.out
          rw [line_len] at h h0
          rw [line_len] at h1
          have HC9 := Lib.hid h
          have HL9 := Lib.hid h1
          clear h h1 h0
          go_wp2
          go_ret
          exact ⟨A9, c9, t, M, rfl, HST.out, HL9.out, HC9.out, HB2.out.trans (HB.out.mono HB2.out.size)⟩
end Go.Proofs.Ytmefhhkfakmhgaa.Hl
namespace Go.Proofs.Ytmefhhkfakmhgaa.Hl
open Go Go.RowKit Go.Proofs.Ytmefhhkfakmhgaa.Gf Go.Proofs.Ytmefhhkfakmhgaa.Gi Go.Proofs.Ytmefhhkfakmhgaa.Bits Go.Proofs.Ytmefhhkfakmhgaa.Mem Go.Proofs.Ytmefhhkfakmhgaa.Alg Go.Proofs.Ytmefhhkfakmhgaa.Sol Go.Proofs.Ytmefhhkfakmhgaa.VPts Go.Proofs.Ytmefhhkfakmhgaa.Str Go.Proofs.Ytmefhhkfakmhgaa.Rws Go.Proofs.Ytmefhhkfakmhgaa.Par Go.Proofs.Ytmefhhkfakmhgaa.Mdc Go.Proofs.Ytmefhhkfakmhgaa.BMsrCodes Go.Proofs.YtmefhhkfakmhgaaW.PrintWords
set_option linter.unusedVariables false
theorem slots_inj {n k N a : Nat} {s : Nat → Int} {m : Nat → Nat} (k1 : 2 ≤ k) (k2 : k ≤ 8) (n2 : n ≤ 24) (ha : a = k - 1) (hok : okTo n s m N) (hk : k ≤ N) :
    (∀ i j, i < a + 1 → j < a + 1 → ptS n k s i = ptS n k s j → i = j) ∧ (∀ i j, i < a + 1 → j < a + 1 → gp (ptS n k s i) a = gp (ptS n k s j) a → i = j) := by
  have h1 : ∀ i j, i < k → j < k → ptS n k s i = ptS n k s j → i = j := ptS_inj (n := n) (k := k) (d := k) k1 k2 n2 hok hk
  refine ⟨fun i j hi hj e => h1 i j (by omega) (by omega) e, fun i j hi hj e => h1 i j (by omega) (by omega) ?_⟩
  have h2 := hok i (by omega)
  have h3 := hok j (by omega)
  have e2 : gp (ptN n k (s i).toNat) (k - 1) = gp (ptN n k (s j).toNat) (k - 1) := by rw [← ha]; exact e
  have := lam_inj n k (s i).toNat (s j).toNat k1 k2 n2 (by have := h2.1; have := h2.2.1; omega) (by have := h3.1; have := h3.2.1; omega) e2
  show ptN n k (s i).toNat = ptN n k (s j).toNat
  rw [this]
theorem dec_inj {n k N a : Nat} {s : Nat → Int} {m : Nat → Nat} (k1 : 2 ≤ k) (k2 : k ≤ 8) (n2 : n ≤ 24) (ha : a = k - 1) (hok : okTo n s m N) (hk : k ≤ N) : Inj ((a + 1) * a) (eqsM a (ptS n k s)) := by
  obtain ⟨h1, h2⟩ := slots_inj k1 k2 n2 ha hok hk
  exact eqs_inj (fun i => ptN_lt n k _) (by omega) (by omega) h1 h2
theorem dec_msg {n k N a sz t : Nat} {s : Nat → Int} {x : Nat → List Int} {m : Nat → Nat} {M : Mtx} (k1 : 2 ≤ k) (k2 : k ≤ 8) (n2 : n ≤ 24) (ha : a = k - 1) (hok : okTo n s m N) (hk : k ≤ N) (hxb : ∀ q i, Byt ((x q).getD i 0))
    (h : StepsTo ((a + 1) * a) (decM a sz (ptS n k s) x) ((a + 1) * a + sz) t M) : MsgOf k a sz (ptS n k s) x (fun u c => M u ((a + 1) * a + c)) := by
  have hfb : ∀ i, ptS n k s i < 256 := fun i => ptN_lt n k _
  have hA : BytM (eqsM a (ptS n k s)) := eqsM_byt hfb
  have hD : BytM (dataM a sz x) := fun e q => hxb _ _
  intro c hc i hi q hq
  have hia : i * a + q < (a + 1) * a := by
    have h2 : (i + 1) * a ≤ (a + 1) * a := Nat.mul_le_mul_right a (by omega)
    rw [Nat.add_mul, Nat.one_mul] at h2
    omega
  have h1 := steps_answer (q := sz) hA hD (dec_inj k1 k2 n2 ha hok hk) (Nat.le_add_right _ _) h (i * a + q) hia c hc
  rw [eqs_dot hfb (by omega) (by omega) _ i q hq] at h1
  have e1 : (i * a + q) / a = i := by rw [Nat.mul_comm, Nat.mul_add_div (by omega), Nat.div_eq_of_lt hq, Nat.add_zero]
  have e2 : (i * a + q) % a = q := by rw [Nat.mul_comm, Nat.mul_add_mod, Nat.mod_eq_of_lt hq]
  show G.of ((x i).getD (q * sz + c) 0) = _
  have e3 : dataM a sz x (i * a + q) c = (x i).getD (q * sz + c) 0 := by unfold dataM; rw [e1, e2]
  rw [e3] at h1
  exact h1.symm
theorem dec_same {n k N a sz t t' : Nat} {s : Nat → Int} {x : Nat → List Int} {m : Nat → Nat} {M M' : Mtx} (k1 : 2 ≤ k) (k2 : k ≤ 8) (n2 : n ≤ 24) (ha : a = k - 1) (hok : okTo n s m N) (hk : k ≤ N) (hxb : ∀ q i, Byt ((x q).getD i 0)) (s1 : 1 ≤ sz)
    (h : StepsTo ((a + 1) * a) (decM a sz (ptS n k s) x) ((a + 1) * a + sz) t M) (h' : StepsTo ((a + 1) * a) (decM a sz (ptS n k s) x) ((a + 1) * a + sz) t' M') :
    line ((a + 1) * a * sz) (outM ((a + 1) * a) sz M') = line ((a + 1) * a * sz) (outB (fun u c => M u ((a + 1) * a + c)) sz) := by
  have hfb : ∀ i, ptS n k s i < 256 := fun i => ptN_lt n k _
  have hA : BytM (eqsM a (ptS n k s)) := eqsM_byt hfb
  have hD : BytM (dataM a sz x) := fun e q => hxb _ _
  have hM0 : BytM (decM a sz (ptS n k s) x) := augM_byt hA hD
  have hI := dec_inj k1 k2 n2 ha hok hk
  refine line_congr _ _ _ (fun pos hp => ?_)
  have h1 : pos % sz < sz := Nat.mod_lt _ (by omega)
  have h2 : pos / sz < (a + 1) * a := Nat.div_lt_of_lt_mul (by rw [Nat.mul_comm]; exact hp)
  unfold outM outB
  refine G.of_inj (h'.byt hM0 _ _) (h.byt hM0 _ _) ?_
  exact hI.uniq (x := fun j => G.of (M' j ((a + 1) * a + pos % sz))) (y := fun j => G.of (M j ((a + 1) * a + pos % sz))) (fun i hi => by
    rw [steps_answer (q := sz) hA hD hI (Nat.le_add_right _ _) h' i hi (pos % sz) h1, steps_answer (q := sz) hA hD hI (Nat.le_add_right _ _) h i hi (pos % sz) h1]) (pos / sz) h2
theorem dec_ex {n k N a sz : Nat} {s : Nat → Int} {x : Nat → List Int} {m : Nat → Nat} (k1 : 2 ≤ k) (k2 : k ≤ 8) (n2 : n ≤ 24) (ha : a = k - 1) (hok : okTo n s m N) (hk : k ≤ N) (hxb : ∀ q i, Byt ((x q).getD i 0)) (s1 : 1 ≤ sz) :
    ∃ B : Nat → Nat → Int, (∀ u q, Byt (B u q)) ∧ MsgOf k a sz (ptS n k s) x B ∧ ∀ t' M', StepsTo ((a + 1) * a) (decM a sz (ptS n k s) x) ((a + 1) * a + sz) t' M' → line ((a + 1) * a * sz) (outM ((a + 1) * a) sz M') = line ((a + 1) * a * sz) (outB B sz) := by
  have hfb : ∀ i, ptS n k s i < 256 := fun i => ptN_lt n k _
  have hM0 : BytM (decM a sz (ptS n k s) x) := augM_byt (eqsM_byt hfb) (fun e q => hxb _ _)
  obtain ⟨t, M, h⟩ := StepsTo.ex ((a + 1) * a) hM0 ((a + 1) * a + sz)
  exact ⟨fun u c => M u ((a + 1) * a + c), fun u q => h.byt hM0 _ _, dec_msg k1 k2 n2 ha hok hk hxb h, fun t' M' h' => dec_same k1 k2 n2 ha hok hk hxb s1 h h'⟩
end Go.Proofs.Ytmefhhkfakmhgaa.Hl
namespace Go.Proofs.Ytmefhhkfakmhgaa.Str
open Go Go.RowKit Go.Proofs.Ytmefhhkfakmhgaa.PMsrCodes Go.Proofs.Ytmefhhkfakmhgaa.BMsrCodes Go.Proofs.Ytmefhhkfakmhgaa.Gf Go.Proofs.Ytmefhhkfakmhgaa.Gi Go.Proofs.Ytmefhhkfakmhgaa.Bits Go.Proofs.Ytmefhhkfakmhgaa.Mem Go.Proofs.Ytmefhhkfakmhgaa.VPts Go.Proofs.Ytmefhhkfakmhgaa.Rws Go.Proofs.YtmefhhkfakmhgaaW.PrintWords Go.Proofs.YtmefhhkfakmhgaaW.PrintLast
set_option linter.unusedVariables false
theorem right_f (n k : Int) (b : Bool) (h : decide (2 ≤ k ∧ k ≤ 8 ∧ 2 * k - 1 ≤ n ∧ n ≤ 24) = b) : coldframeref06_Right.f n k = some b := by
  subst h
  unfold coldframeref06_Right.f
  by_cases h1 : k ≥ 2
  · rw [if_pos h1]
    by_cases h2 : k ≤ 8
    · rw [if_pos h2, show wrap64 (2 * k) = 2 * k from wrap64_in _ (by omega) (by omega), show wrap64 (2 * k - 1) = 2 * k - 1 from wrap64_in _ (by omega) (by omega)]
      by_cases h3 : n ≥ 2 * k - 1
      · rw [if_pos h3]; congr 1; rw [decide_eq_decide]; omega
      · rw [if_neg h3]; congr 1; symm; rw [decide_eq_false_iff_not]; omega
    · rw [if_neg h2]; congr 1; symm; rw [decide_eq_false_iff_not]; omega
  · rw [if_neg h1]; congr 1; symm; rw [decide_eq_false_iff_not]; omega
theorem right_calls (n k : Int) (b : Bool) (w : World) (h : decide (2 ≤ k ∧ k ≤ 8 ∧ 2 * k - 1 ≤ n ∧ n ≤ 24) = b) :
    Calls Try.prog 21 #[.int .i64 n, .int .i64 k] w fun e w' => e = .returned (.bool b) ∧ Below w.heap.size w w' := by
  refine (coldframeref06_Right.calls n k b w (right_f n k b h)).mono ?_
  rintro e w' ⟨rfl, h⟩
  exact ⟨rfl, h.below⟩
set_option maxRecDepth 100000 in
theorem awake_calls (w : World) : Calls Try.prog 8 #[] w fun e w' => e = .returned (.bool true) ∧ Below w.heap.size w w' := by
  have NC : Hid (∀ W, Calls Try.prog 9 #[.int .i64 3, .int .i64 2] W fun e w' => ∃ v, e = .returned (.tuple #[v, .int .i64 0]) ∧ IsCodeP w' v 3 2 ∧ Below W.heap.size W w') := Lib.hid (fun W => new_codeP 3 2 W (by omega) (by omega) (by omega) (by omega))
  have SY : Hid (∀ v W, IsCodeP W v 3 2 → Calls Try.prog 19 #[v] W fun e w' => e = .returned (.int .i64 2) ∧ w' = W) := Lib.hid (fun v W hc => symbols_any v 3 2 2 W hc.code (by omega) (by omega) (by omega))
  have HE : Hid (∀ v W, IsCodeP W v 3 2 → Calls Try.prog 17 #[v] W fun e w' => e = .returned (.int .i64 2) ∧ w' = W) := Lib.hid (fun v W hc => helpers_any v 3 2 W hc.code (by omega) (by omega))
  have PA : Hid (∀ v W, IsCodeP W v 3 2 → Calls Try.prog 18 #[v] W fun e w' => e = .returned (.int .i64 1) ∧ w' = W) := Lib.hid (fun v W hc => parts_any v 3 2 W hc.code (by omega) (by omega))
  go_enter Try.func8, Try.ntmps8
  go_wp2_with (first
    | (go_at_call 9; (with_reducible refine (NC.out _).mono ?_); rintro e w1 ⟨v, rfl, hc, hb⟩; have HC := Lib.hid hc; have HB := Lib.hid hb; clear hc hb)
    | (go_at_call 19; (with_reducible refine (SY.out _ _ HC.out).mono ?_); rintro e w1 ⟨rfl, rfl⟩)
    | (go_at_call 17; (with_reducible refine (HE.out _ _ HC.out).mono ?_); rintro e w1 ⟨rfl, rfl⟩)
    | (go_at_call 18; (with_reducible refine (PA.out _ _ HC.out).mono ?_); rintro e w1 ⟨rfl, rfl⟩))
  go_ret
  exact ⟨rfl, HB.out⟩
set_option maxRecDepth 100000 in
theorem small_yes (n k : Nat) (w : World) (h1 : 2 ≤ k) (h2 : k ≤ 4) (h3 : 2 * k - 1 ≤ n) (h4 : n ≤ 12) :
    Calls Try.prog 7 #[.int .i64 n, .int .i64 k] w fun e w' => e = .returned (.bool true) ∧ Below w.heap.size w w' := by
  have RC := Lib.hid (right_calls n k true w (by simp; omega))
  have e1 : (n : Int) ≤ 12 := by omega
  have e2 : (k : Int) ≤ 4 := by omega
  clear h1 h2 h3 h4
  go_enter Try.func7, Try.ntmps7
  go_wp2_with (go_at_call 21; (with_reducible refine RC.out.mono ?_); rintro e w1 ⟨rfl, hb⟩; have HB := Lib.hid hb; clear hb)
  go_ret
  exact ⟨by simp, HB.out⟩
set_option maxRecDepth 100000 in
theorem small_no (n k : Int) (w : World) (h : ¬ (2 ≤ k ∧ k ≤ 4 ∧ 2 * k - 1 ≤ n ∧ n ≤ 12)) :
    Calls Try.prog 7 #[.int .i64 n, .int .i64 k] w fun e w' => e = .returned (.bool false) ∧ Below w.heap.size w w' := by
  by_cases hr : 2 ≤ k ∧ k ≤ 8 ∧ 2 * k - 1 ≤ n ∧ n ≤ 24
  · have RC := Lib.hid (right_calls n k true w (by simp; omega))
    by_cases e1 : n ≤ 12
    · have e2 : ¬ k ≤ 4 := by omega
      have e3 : decide (k ≤ 4) = false := by simp; omega
      clear h hr
      go_enter Try.func7, Try.ntmps7
      go_wp2_with (go_at_call 21; (with_reducible refine RC.out.mono ?_); rintro e w1 ⟨rfl, hb⟩; have HB := Lib.hid hb; clear hb)
      go_ret
      exact ⟨by simp, HB.out⟩
    · have e3 : decide (n ≤ 12) = false := by simp; omega
      clear h hr
      go_enter Try.func7, Try.ntmps7
      go_wp2_with (go_at_call 21; (with_reducible refine RC.out.mono ?_); rintro e w1 ⟨rfl, hb⟩; have HB := Lib.hid hb; clear hb)
      go_ret
      exact ⟨by simp, HB.out⟩
  · have RC := Lib.hid (right_calls n k false w (by simp; omega))
    clear h hr
    go_enter Try.func7, Try.ntmps7
    go_wp2_with (go_at_call 21; (with_reducible refine RC.out.mono ?_); rintro e w1 ⟨rfl, hb⟩; have HB := Lib.hid hb; clear hb)
    go_ret
    exact ⟨by simp, HB.out⟩
end Go.Proofs.Ytmefhhkfakmhgaa.Str
namespace Go.Proofs.Ytmefhhkfakmhgaa.Hl
open Go Go.RowKit Go.Proofs.Ytmefhhkfakmhgaa.Gf Go.Proofs.Ytmefhhkfakmhgaa.Gi Go.Proofs.Ytmefhhkfakmhgaa.Bits Go.Proofs.Ytmefhhkfakmhgaa.Mem Go.Proofs.Ytmefhhkfakmhgaa.Alg Go.Proofs.Ytmefhhkfakmhgaa.Sol Go.Proofs.Ytmefhhkfakmhgaa.VPts Go.Proofs.Ytmefhhkfakmhgaa.Str Go.Proofs.Ytmefhhkfakmhgaa.Rws Go.Proofs.Ytmefhhkfakmhgaa.Par Go.Proofs.Ytmefhhkfakmhgaa.Mdc Go.Proofs.Ytmefhhkfakmhgaa.BMsrCodes Go.Proofs.YtmefhhkfakmhgaaW.PrintWords
set_option linter.unusedVariables false
theorem md_reads {w : World} {A : Option Addr} {n c : Nat} {xs : List Int} (h : ReadsInt w .u8 A n xs) : (convert 22 9 (.slice A n c)).run Try.prog w = .ok (.string (strOfNums xs)) w :=
  string_of_reads Try.underlying22 Try.underlying5 Try.underlying9 h
theorem md_str {w : World} {A : Option Addr} {m c : Nat} {ys : List Int} (h : (Kd.int .u8).C w A m ys) (W : World) (hb : Below w.heap.size w W) : (convert 22 9 (.slice A m c)).run Try.prog W = .ok (.string (strOfNums ys)) W :=
  md_reads (Kd.reads_of_C (d := (0 : Int)) (Kd.C_below h hb))
set_option maxRecDepth 100000 in
theorem md_no (n k : Int) (A : Option Addr) (L c : Nat) (w : World) (h : ¬ (2 ≤ k ∧ k ≤ 4 ∧ 2 * k - 1 ≤ n ∧ n ≤ 12)) :
    Calls Try.prog 4 #[.int .i64 n, .int .i64 k, .slice A L c] w fun e w' => e = .returned (.bool true) ∧ Below w.heap.size w w' := by
  have SM := Lib.hid (small_no n k w h)
  have AW := Lib.hid awake_calls
  clear h
  go_enter Try.func4, Try.ntmps4
  go_wp2_with (first | (go_at_call 7; (with_reducible refine SM.out.mono ?_); rintro e w1 ⟨rfl, hb⟩; have HB1 := Lib.hid hb; clear hb) | (go_at_call 8; (with_reducible refine (AW.out _).mono ?_); rintro e w9 ⟨rfl, hb⟩; have HB9 := Lib.hid (HB1.out.trans (hb.mono HB1.out.size)); clear hb))
  go_ret
  exact ⟨rfl, HB9.out⟩
set_option maxRecDepth 100000 in
theorem md_long (n k : Nat) (A : Option Addr) (L c : Nat) (w : World) (h1 : 2 ≤ k) (h2 : k ≤ 4) (h3 : 2 * k - 1 ≤ n) (h4 : n ≤ 12) (hL : 30 < L) :
    Calls Try.prog 4 #[.int .i64 n, .int .i64 k, .slice A L c] w fun e w' => e = .returned (.bool true) ∧ Below w.heap.size w w' := by
  have SM := Lib.hid (small_yes n k w h1 h2 h3 h4)
  have AW := Lib.hid awake_calls
  have q1 : (30 : Int) < (L : Int) := by omega
  clear h1 h2 h3 h4 hL
  go_enter Try.func4, Try.ntmps4
  go_wp2_with (first | (go_at_call 7; (with_reducible refine SM.out.mono ?_); rintro e w1 ⟨rfl, hb⟩; have HB1 := Lib.hid hb; clear hb) | (go_at_call 8; (with_reducible refine (AW.out _).mono ?_); rintro e w9 ⟨rfl, hb⟩; have HB9 := Lib.hid (HB1.out.trans (hb.mono HB1.out.size)); clear hb))
  go_ret
  exact ⟨rfl, HB9.out⟩
set_option maxRecDepth 100000 in
set_option maxHeartbeats 8000000 in
theorem md_main (n k N c : Nat) (A : Option Addr) (s : Nat → Int) (h : Nat → Hd) (x : Nat → List Int) (w : World) (hp : PA w A N s h x) (hxb : ∀ q i, Byt ((x q).getD i 0)) (k1 : 2 ≤ k) (k2 : k ≤ 4) (n1 : 2 * k - 1 ≤ n) (n2 : n ≤ 12) (hN : N ≤ 30) (hNc : N ≤ c) :
    Calls Try.prog 4 #[.int .i64 n, .int .i64 k, .slice A N c] w fun e w' => e = .returned (.bool true) ∧ Below w.heap.size w w' := by
  have SM := Lib.hid (small_yes n k w k1 k2 n1 n2)
  have AW := Lib.hid awake_calls
  have NC := Lib.hid (fun W => new_codeP n k W k1 (by omega) n1 (by omega))
  have HP := Lib.hid (fun W (hB : Below w.heap.size w W) => hp.below hB)
  obtain ⟨m, hm⟩ : ∃ m : Nat → Nat, m = fun i => (x i).length := ⟨_, rfl⟩
  have HMX := Lib.hid (show ∀ i, (x i).length = m i by rw [hm]; exact fun _ => rfl)
  have HXB := Lib.hid hxb
  have HKN := Lib.hid (And.intro (And.intro k1 k2) (And.intro n1 n2))
  have HNC := Lib.hid hNc
  have q1 : ¬ (30 : Int) < (N : Int) := by omega
  have q2 : decide ((N : Int) > 30) = false := by simp; omega
  clear hp hm hxb k1 k2 n1 n2 hNc
  go_enter Try.func4, Try.ntmps4
  go_upto_region 7 with (go_at_call 7; (with_reducible refine SM.out.mono ?_); rintro e w1 ⟨rfl, hb⟩; have HB1 := Lib.hid hb; clear hb)
  clear q1 q2 SM
  go_loopw [7, 8, 9, 10, 11] (fun ov uv dv iv _ wr => ∃ (i : Nat) (ok : Bool) (u d : Value), ov = .bool ok ∧ uv = u ∧ dv = d ∧ i ≤ N ∧ iv = .int .i64 i ∧ Hid (ok = true ↔ okTo n s m i) ∧ Hid ((Kd.int .i64).R 3 wr w.heap.size (fun _ => True) u (line i s)) ∧ Hid (Kd.R kH 22 wr w.heap.size (fun _ => True) d (heads h i)) ∧ Hid (∀ j, j < i → m j ≤ 60) ∧ Hid (Below w.heap.size w wr)) (fun _ _ _ iv _ _ => N - (intOf iv).toNat)
  case atStart => exact ⟨0, true, _, _, rfl, rfl, rfl, by omega, rfl, Lib.hid ⟨fun _ i hi => absurd hi (Nat.not_lt_zero i), fun _ => rfl⟩, Lib.hid (Kd.R_nil _ _ _ _ _), Lib.hid (Kd.R_nil _ _ _ _ _), Lib.hid (fun j hj => absurd hj (Nat.not_lt_zero j)), HB1⟩
  case round =>
    clear HB1
    obtain ⟨i, ok, u, d, rfl, rfl, rfl, hi, rfl, HOK, HU, HD, HL, HB⟩ := hrel
    by_cases hlt : i < N
    · have g1 : (i : Int) < (N : Int) := by omega
      have g2 : (0 : Int) ≤ (i : Int) := by omega
      have g3 : (0 : Int) < (N : Int) := by omega
      obtain ⟨ad, rfl, k1, k2, k3, k4, k5⟩ := HP.out wr HB.out i hlt
      obtain ⟨ad', e0, j1, j2, j3, j4, j5⟩ := HP.out wr HB.out 0 (by omega)
      injection e0 with e0
      subst e0
      have j6 : ad.add (0 * 2) = ad := by simp [Addr.add]
      rw [j6] at j1 j2
      obtain ⟨⟨A2, m2, c2⟩, hh2⟩ : ∃ q, q = h i := ⟨_, rfl⟩
      obtain ⟨⟨A0, m0, c0⟩, hh0⟩ : ∃ q, q = h 0 := ⟨_, rfl⟩
      rw [← hh2] at k2 k3
      rw [← hh0] at j2 j3
      have KK := Lib.hid (fun W (hB : Below wr.heap.size wr W) => show W.cell? (ad.add (i * 2)) = some (.int .i64 (s i)) ∧ W.cell? ⟨(ad.add (i * 2)).block, (ad.add (i * 2)).off + 1, none⟩ = some (.slice A2 m2 c2) ∧ W.cell? ⟨ad.block, ad.off + 1, none⟩ = some (.slice A0 m0 c0) from ⟨pw_cell_below hB k1, pw_cell_below hB k2, pw_cell_below hB j2⟩)
      have HK3 := Lib.hid (show m i = m2 by rw [← HMX.out]; exact k3)
      have HJ3 := Lib.hid (show m 0 = m0 by rw [← HMX.out]; exact j3)
      have HH2 := Lib.hid hh2
      obtain ⟨si, hsi⟩ : ∃ si, si = s i := ⟨_, rfl⟩
      rw [← hsi] at KK
      have HSI := Lib.hid hsi
      obtain ⟨k1r, k2r, _⟩ := KK.out wr (Below.refl _ _)
      clear k1 k2 k3 k4 k5 j1 j2 j3 j4 j5 j6 hh2 hh0 hsi
      by_cases h60 : 60 < m2
      · have g4 : (60 : Int) < (m2 : Int) := by omega
        have HB1 := HB
        clear KK HU HD HL
        go_wp2_with (go_at_call 8; (with_reducible refine (AW.out _).mono ?_); rintro e w9 ⟨rfl, hb⟩; have HB9 := Lib.hid (HB1.out.trans (hb.mono HB1.out.size)); clear hb)
        go_ret
        exact ⟨rfl, HB9.out⟩
      have g4 : ¬ (60 : Int) < (m2 : Int) := by omega
      have g4' : decide ((m2 : Int) > 60) = false := by simp; omega
      have HLQ := Lib.hid (show ∀ q, q < i + 1 → m q ≤ 60 by
        intro q hq
        rcases Nat.lt_or_ge q i with hh | hh
        · exact HL.out q hh
        · obtain rfl : q = i := by omega
          rw [HK3.out]; omega)
      clear HL
      go_upto_region 11 with (fail)
      clear k1r k2r g4 g4'
      go_cut [7] (fun v wc => ∃ (b : Bool), v = .bool b ∧ Hid (b = true ↔ okIn n s m i 0) ∧ Hid (Below wr.heap.size wr wc))
      case first =>
        obtain ⟨k1, k2, k3⟩ := KK.out wr (Below.refl _ _)
        have HBn := Lib.hid (fun q => pw_below_drewN (Below.refl wr.heap.size wr) q)
        cases ok
        case false =>
          go_quiet (fail)
          go_wp2
          go_meet
          case rel => exact ⟨false, rfl, Lib.hid ⟨fun e => Bool.noConfusion e, fun e => by have h := HOK.out.2 e.1; first | exact h.elim | cases h⟩, Lib.hid (HBn.out _)⟩
        case true =>
          by_cases h1 : 0 ≤ si
          · by_cases h2 : si < n
            · by_cases h3 : 0 < m2
              · go_quiet (fail)
                go_wp2
                go_meet
                case rel => exact ⟨_, rfl, Lib.hid ⟨fun e => ⟨HOK.out.1 (by first | rfl | trivial), by rw [← HSI.out]; exact h1, by rw [← HSI.out]; exact h2, by rw [HK3.out]; exact h3, by rw [HK3.out, HJ3.out]; (have e' : (m2 : Int) = (m0 : Int) := by simpa using e); omega, fun q hq => absurd hq (Nat.not_lt_zero q)⟩, fun e => by have := e.2.2.2.2.1; rw [HK3.out, HJ3.out] at this; simp [this]⟩, Lib.hid (HBn.out _)⟩
              · have h3' : ¬ (0 : Int) < (m2 : Int) := by omega
                have h3'' : decide ((m2 : Int) > 0) = false := by simp; omega
                go_quiet (fail)
                go_wp2
                go_meet
                case rel => exact ⟨false, rfl, Lib.hid ⟨fun e => Bool.noConfusion e, fun e => by have := e.2.2.2.1; rw [HK3.out] at this; omega⟩, Lib.hid (HBn.out _)⟩
            · have h2' : decide (si < (n : Int)) = false := by simp; omega
              go_quiet (fail)
              go_wp2
              go_meet
              case rel => exact ⟨false, rfl, Lib.hid ⟨fun e => Bool.noConfusion e, fun e => by have := e.2.2.1; rw [← HSI.out] at this; omega⟩, Lib.hid (HBn.out _)⟩
          · have h1' : decide (si ≥ 0) = false := by simp; omega
            go_quiet (fail)
            go_wp2
            go_meet
            case rel => exact ⟨false, rfl, Lib.hid ⟨fun e => Bool.noConfusion e, fun e => by have := e.2.1; rw [← HSI.out] at this; omega⟩, Lib.hid (HBn.out _)⟩
      case rest =>
        obtain ⟨b, rfl, HBI, HQ⟩ := hcut
        go_wp2
        obtain ⟨x1, hx1⟩ : ∃ x1, x1 = wr := ⟨_, rfl⟩
        rw [← hx1] at HU HD HB HQ KK
        clear hx1
        go_loopw [7, 11] (fun ov jv wr => ∃ (j : Nat) (b : Bool), j ≤ i ∧ jv = .int .i64 j ∧ ov = .bool b ∧ Hid (b = true ↔ okIn n s m i j) ∧ Hid (Below x1.heap.size x1 wr)) (fun _ jv _ => i - (intOf jv).toNat)
        case atStart => exact ⟨0, b, by omega, rfl, rfl, HBI, HQ⟩
        case round =>
          clear HBI HQ b
          obtain ⟨j, b, hj, rfl, rfl, HBI, HQ⟩ := hrel
          by_cases hji : j < i
          · obtain ⟨ad9, e9, j1, _⟩ := HP.out wr (HB.out.trans (HQ.out.mono HB.out.size)) j (by omega)
            injection e9 with e9
            subst e9
            obtain ⟨k1, _, _⟩ := KK.out wr HQ.out
            have g4 : (j : Int) < (i : Int) := by omega
            have g5 : (0 : Int) ≤ (j : Int) := by omega
            have g6 : (j : Int) < (N : Int) := by omega
            obtain ⟨sj, hsj⟩ : ∃ sj, sj = s j := ⟨_, rfl⟩
            rw [← hsj] at j1
            have HSJ := Lib.hid hsj
            have HBn := Lib.hid (fun q => pw_below_drewN HQ.out q)
            clear hsj
            cases b
            case false =>
              go_wp2
              go_quiet (fail)
              go_wp2
              go_roundw
              case rel => exact ⟨j + 1, false, by omega, by go_num, rfl, Lib.hid ⟨fun e => Bool.noConfusion e, fun e => by have h := HBI.out.2 ⟨e.1, e.2.1, e.2.2.1, e.2.2.2.1, e.2.2.2.2.1, fun q hq => e.2.2.2.2.2 q (by omega)⟩; first | exact h.elim | cases h⟩, Lib.hid (HBn.out _)⟩
              case measure => simp [intOf]; omega
            case true =>
              by_cases hne : sj = si
              · have h7 : (sj != si) = false := by simp [hne]
                have HNE := Lib.hid hne
                clear hne
                go_wp2
                go_quiet (fail)
                go_wp2
                go_roundw
                case rel => exact ⟨j + 1, false, by omega, by go_num, by first | rfl | simp [HNE.out], Lib.hid ⟨fun e => Bool.noConfusion e, fun e => absurd (by rw [← HSJ.out, ← HSI.out]; exact HNE.out) (e.2.2.2.2.2 j (by omega))⟩, Lib.hid (HBn.out _)⟩
                case measure => simp [intOf]; omega
              · have h7 : (sj != si) = true := by simp [hne]
                have HNE := Lib.hid hne
                clear hne
                go_wp2
                go_quiet (fail)
                go_wp2
                go_roundw
                case rel => exact ⟨j + 1, true, by omega, by go_num, by first | rfl | simp [HNE.out], Lib.hid ⟨fun _ => by
                  obtain ⟨a1, a2, a3, a4, a5, a6⟩ := HBI.out.1 (by first | rfl | trivial)
                  refine ⟨a1, a2, a3, a4, a5, fun q hq => ?_⟩
                  rcases Nat.lt_or_ge q j with hh | hh
                  · exact a6 q hh
                  · obtain rfl : q = j := by omega
                    rw [← HSJ.out, ← HSI.out]; exact HNE.out, fun _ => rfl⟩, Lib.hid (HBn.out _)⟩
                case measure => simp [intOf]; omega
          · obtain rfl : j = i := by omega
            have HOK2 := Lib.hid (show b = true ↔ okTo n s m (j + 1) by
              rw [HBI.out, okTo_succ]
              exact ⟨fun e => ⟨e.1, e.2⟩, fun e => ⟨e.1, e.2⟩⟩)
            have HUw := Lib.hid (Kd.R_below HU.out HQ.out)
            have HDw := Lib.hid (Kd.R_below HD.out HQ.out)
            have HBw := Lib.hid (HB.out.trans (HQ.out.mono HB.out.size))
            have HLI := Lib.hid (Par.heads_len h j)
            have HHS := Lib.hid (Par.heads_succ h j)
            have HSU := Lib.hid (show line j s ++ [si] = line (j + 1) s by rw [line_succ, HSI.out])
            have KKz := Lib.hid (fun W (hB : Below w.heap.size w W) => show W.cell? (ad.add (j * 2)) = some (.int .i64 si) ∧ W.cell? ⟨(ad.add (j * 2)).block, (ad.add (j * 2)).off + 1, none⟩ = some (.slice A2 m2 c2) by
              obtain ⟨ad9, e9, j1, j2, _⟩ := HP.out W hB j hlt
              injection e9 with e9
              subst e9
              rw [← HH2.out] at j2
              rw [HSI.out]
              exact ⟨j1, j2⟩)
            rw [← HH2.out] at HHS
            clear HU HD HB HQ HOK HBI HK3 HJ3 KK
            go_upto_region 16 with (fail)
            have HBz := Lib.hid (show Below w.heap.size w wr.drew from HBw.out.drew)
            have HUz := Lib.hid (show (Kd.int .i64).R 3 wr.drew w.heap.size (fun _ => True) u8 (line j s) from Kd.R_drew HUw.out)
            have HDz := Lib.hid (show Kd.R kH 22 wr.drew w.heap.size (fun _ => True) u9 (heads h j) from Kd.R_drew HDw.out)
            clear HUw HDw
            refine wp_region_noPanic ?_
            refine wp_region_held_drew (S := (fun W => W.cell? (ad.add (j * 2)) = some (.int .i64 si) ∧ W.cell? ⟨(ad.add (j * 2)).block, (ad.add (j * 2)).off + 1, none⟩ = some (.slice A2 m2 c2))) (by kernel_rfl) ?_ (fun hHeld => ?_)
            · ((try dsimp only); exact KKz.out _ HBz.out)
            refine wpAnyH_take (i := 0) (oi := { dst := some 100, op := .move (.tmp 8), type := 37, pos := _, after := _, guard := none }) (v := ?_) rfl (by kernel_rfl) (by kernel_rfl) (by kernel_rfl) (fun _ _ _ h => h) (Or.inl ⟨by rfl, ?_⟩) (by assumption) ?_
            rotate_left 1
            · (intro w hSw; (try dsimp only at hSw); go_simp; try with_reducible rfl)
            try simp only [Act.put, List.setIfInBounds_toArray, List.set_cons_zero, List.set_cons_succ]
            refine wpAnyH_take (i := 1) (oi := { dst := some 101, op := .move (.tmp 2), type := 36, pos := _, after := _, guard := none }) (v := ?_) rfl (by kernel_rfl) (by kernel_rfl) (by kernel_rfl) (fun _ _ _ h => h) (Or.inl ⟨by rfl, ?_⟩) (by assumption) ?_
            rotate_left 1
            · (intro w hSw; (try dsimp only at hSw); go_simp; try with_reducible rfl)
            try simp only [Act.put, List.setIfInBounds_toArray, List.set_cons_zero, List.set_cons_succ]
            refine wpAnyH_take (i := 2) (oi := { dst := some 102, op := .move (.tmp 10), type := 3, pos := _, after := _, guard := none }) (v := ?_) rfl (by kernel_rfl) (by kernel_rfl) (by kernel_rfl) (fun _ _ _ h => h) (Or.inl ⟨by rfl, ?_⟩) (by assumption) ?_
            rotate_left 1
            · (intro w hSw; (try dsimp only at hSw); go_simp; try with_reducible rfl)
            try simp only [Act.put, List.setIfInBounds_toArray, List.set_cons_zero, List.set_cons_succ]
            refine wpAnyH_take (i := 3) (oi := { dst := some 103, op := .indexAddr 36 (.tmp 101) (.tmp 102), type := 0, pos := _, after := _, guard := none }) (v := ?_) rfl (by kernel_rfl) (by kernel_rfl) (by kernel_rfl) (fun _ _ _ h => h) (Or.inl ⟨by rfl, ?_⟩) (by assumption) ?_
            rotate_left 1
            · (intro w hSw; (try dsimp only at hSw); go_simp; try with_reducible rfl)
            try simp only [Act.put, List.setIfInBounds_toArray, List.set_cons_zero, List.set_cons_succ]
            refine wpAnyH_take (i := 4) (oi := { dst := some 104, op := .fieldAddr 39 (.tmp 103) 0, type := 0, pos := _, after := _, guard := none }) (v := ?_) rfl (by kernel_rfl) (by kernel_rfl) (by kernel_rfl) (fun _ _ _ h => h) (Or.inl ⟨by rfl, ?_⟩) (by assumption) ?_
            rotate_left 1
            · (intro w hSw; (try dsimp only at hSw); go_simp; try with_reducible rfl)
            try simp only [Act.put, List.setIfInBounds_toArray, List.set_cons_zero, List.set_cons_succ]
            refine wpAnyH_take (i := 5) (oi := { dst := some 105, op := .load 3 (.tmp 104), type := 3, pos := _, after := _, guard := none }) (v := ?_) rfl (by kernel_rfl) (by kernel_rfl) (by kernel_rfl) (fun _ _ _ h => h) (Or.inl ⟨by rfl, ?_⟩) (by assumption) ?_
            rotate_left 1
            · (intro w hSw; (try dsimp only at hSw); go_simp; try with_reducible rfl)
            try simp only [Act.put, List.setIfInBounds_toArray, List.set_cons_zero, List.set_cons_succ]
            refine wpAnyH_take (i := 8) (oi := { dst := some 108, op := .move (.tmp 9), type := 29, pos := _, after := _, guard := none }) (v := ?_) rfl (by kernel_rfl) (by kernel_rfl) (by kernel_rfl) (fun _ _ _ h => h) (Or.inl ⟨by rfl, ?_⟩) (by assumption) ?_
            rotate_left 1
            · (intro w hSw; (try dsimp only at hSw); go_simp; try with_reducible rfl)
            try simp only [Act.put, List.setIfInBounds_toArray, List.set_cons_zero, List.set_cons_succ]
            refine wpAnyH_take (i := 9) (oi := { dst := some 109, op := .move (.tmp 2), type := 36, pos := _, after := _, guard := none }) (v := ?_) rfl (by kernel_rfl) (by kernel_rfl) (by kernel_rfl) (fun _ _ _ h => h) (Or.inl ⟨by rfl, ?_⟩) (by assumption) ?_
            rotate_left 1
            · (intro w hSw; (try dsimp only at hSw); go_simp; try with_reducible rfl)
            try simp only [Act.put, List.setIfInBounds_toArray, List.set_cons_zero, List.set_cons_succ]
            refine wpAnyH_take (i := 10) (oi := { dst := some 110, op := .move (.tmp 10), type := 3, pos := _, after := _, guard := none }) (v := ?_) rfl (by kernel_rfl) (by kernel_rfl) (by kernel_rfl) (fun _ _ _ h => h) (Or.inl ⟨by rfl, ?_⟩) (by assumption) ?_
            rotate_left 1
            · (intro w hSw; (try dsimp only at hSw); go_simp; try with_reducible rfl)
            try simp only [Act.put, List.setIfInBounds_toArray, List.set_cons_zero, List.set_cons_succ]
            refine wpAnyH_take (i := 11) (oi := { dst := some 111, op := .indexAddr 36 (.tmp 109) (.tmp 110), type := 0, pos := _, after := _, guard := none }) (v := ?_) rfl (by kernel_rfl) (by kernel_rfl) (by kernel_rfl) (fun _ _ _ h => h) (Or.inl ⟨by rfl, ?_⟩) (by assumption) ?_
            rotate_left 1
            · (intro w hSw; (try dsimp only at hSw); go_simp; try with_reducible rfl)
            try simp only [Act.put, List.setIfInBounds_toArray, List.set_cons_zero, List.set_cons_succ]
            refine wpAnyH_take (i := 12) (oi := { dst := some 112, op := .fieldAddr 39 (.tmp 111) 1, type := 0, pos := _, after := _, guard := none }) (v := ?_) rfl (by kernel_rfl) (by kernel_rfl) (by kernel_rfl) (fun _ _ _ h => h) (Or.inl ⟨by rfl, ?_⟩) (by assumption) ?_
            rotate_left 1
            · (intro w hSw; (try dsimp only at hSw); go_simp; try with_reducible rfl)
            try simp only [Act.put, List.setIfInBounds_toArray, List.set_cons_zero, List.set_cons_succ]
            refine wpAnyH_take (i := 13) (oi := { dst := some 113, op := .load 22 (.tmp 112), type := 22, pos := _, after := _, guard := none }) (v := ?_) rfl (by kernel_rfl) (by kernel_rfl) (by kernel_rfl) (fun _ _ _ h => h) (Or.inl ⟨by rfl, ?_⟩) (by assumption) ?_
            rotate_left 1
            · (intro w hSw; (try dsimp only at hSw); go_simp; try with_reducible rfl)
            try simp only [Act.put, List.setIfInBounds_toArray, List.set_cons_zero, List.set_cons_succ]
            refine wpAnyH_ready (rs := [6, 14]) (by kernel_rfl) (by simp) ?_
            refine AllReadyH.cons (o := { dst := some 106, op := .buildSlice 37 1 #[(0, .tmp 105)], type := 37, pos := _, after := _, guard := none }) rfl (fun K hK => ?_) ?_
            · go_simp
              have HL1 := Lib.hid (lit1i _ w.heap.size HBz.out.size si)
              replace HBz := Lib.hid (HBz.out.alloc HBz.out.size (.cells #[.int .i64 si] 3))
              replace HUz := Lib.hid (Kd.R_alloc HUz.out (.cells #[.int .i64 si] 3))
              replace HDz := Lib.hid (Kd.R_alloc HDz.out (.cells #[.int .i64 si] 3))
              (try replace HL2 := Lib.hid (Kd.R_alloc HL2.out (.cells #[.int .i64 si] 3)))
              clear hHeld
              refine hK.out _ _ ?_ (fun hHeld => ?_)
              · ((try dsimp only); exact KKz.out _ HBz.out)
              clear hK K
              refine wpAnyH_ready (rs := [7, 14]) (by kernel_rfl) (by simp) ?_
              refine AllReadyH.cons (o := { dst := some 107, op := .call { callee := .builtin .append, args := #[.tmp 100, .tmp 106], argTypes := #[37, 37] }, type := 37, pos := _, after := _, guard := none }) rfl (fun K hK => ?_) ?_
              · refine Kd.R_append_rows_step (Kd.int .i64) (w0 := w) w.heap.size (by rfl) (.tmp 100) (.tmp 106) 37 3 (.int .i64 0) 8 rfl Try.underlying37 Par.info_int rfl (by decide) (by decide) u8 (line j s) [si] _ _ _ (fun _ => True) (fun _ => False) rfl rfl HUz.out (by first | exact (Kd.R_reads' HL1.out).2.2 | (have h := (Kd.R_reads' HL1.out).2.2; rw [show (wr.drew.alloc (.cells #[.slice A2 m2 c2] 22)).heap.size = wr.heap.size + 1 by simp] at h; exact h)) (fun _ _ h => h) (fun _ h => h.elim) (fun _ _ => trivial) HBz.out HBz.out.size (by rw [line_len]; omega) ?_
                intro v7 x7 ho hb hg _
                have HUf := Lib.hid (show (Kd.int .i64).R 3 x7 w.heap.size (fun _ => True) v7 (line (j + 1) s) by rw [← HSU.out]; exact ho)
                have HDn := Lib.hid (Kd.R_over HDz.out HUz.out (by decide) hg)
                (try have HLn := Lib.hid (Kd.R_over HL2.out HUz.out (by decide) hg))
                clear HDz HUz HL1
                have HDz := HDn
                clear HDn
                (try clear HL2)
                (try have HL2 := HLn)
                (try clear HLn)
                have HBz := Lib.hid hb
                clear ho hb hg
                clear hHeld
                refine hK.out _ _ ?_ (fun hHeld => ?_)
                · ((try dsimp only); exact KKz.out _ HBz.out)
                clear hK K
                refine wpAnyH_ready (rs := [14]) (by kernel_rfl) (by simp) ?_
                refine AllReadyH.cons (o := { dst := some 114, op := .buildSlice 29 1 #[(0, .tmp 113)], type := 29, pos := _, after := _, guard := none }) rfl (fun K hK => ?_) AllReadyH.nil
                go_simp
                have HL2 := Lib.hid (lit1h _ w.heap.size HBz.out.size (A2, m2, c2))
                replace HBz := Lib.hid (HBz.out.alloc HBz.out.size (.cells #[.slice A2 m2 c2] 22))
                (try replace HUz := Lib.hid (Kd.R_alloc HUz.out (.cells #[.slice A2 m2 c2] 22)))
                (try replace HUf := Lib.hid (Kd.R_alloc HUf.out (.cells #[.slice A2 m2 c2] 22)))
                replace HDz := Lib.hid (Kd.R_alloc HDz.out (.cells #[.slice A2 m2 c2] 22))
                (try replace HL1 := Lib.hid (Kd.R_alloc HL1.out (.cells #[.slice A2 m2 c2] 22)))
                clear hHeld
                refine hK.out _ _ ?_ (fun hHeld => ?_)
                · ((try dsimp only); exact KKz.out _ HBz.out)
                clear hK K
                refine wpAnyH_ready (rs := [15]) (by kernel_rfl) (by simp) ?_
                refine AllReadyH.cons (o := { dst := some 115, op := .call { callee := .builtin .append, args := #[.tmp 108, .tmp 114], argTypes := #[29, 29] }, type := 29, pos := _, after := _, guard := none }) rfl (fun K hK => ?_) AllReadyH.nil
                refine Kd.R_append_rows_step kH (w0 := w) w.heap.size (by rfl) (.tmp 108) (.tmp 114) 29 22 (.slice none 0 0) 24 rfl Try.underlying29 info_rows rfl (by decide) (by decide) u9 (heads h j) [(A2, m2, c2)] _ _ _ (fun _ => True) (fun _ => False) rfl rfl HDz.out (by first | exact (Kd.R_reads' HL2.out).2.2 | (have h := (Kd.R_reads' HL2.out).2.2; rw [show (wr.drew.alloc (.cells #[.int .i64 si] 3)).heap.size = wr.heap.size + 1 by simp] at h; exact h)) (fun _ _ h => h) (fun _ h => h.elim) (fun _ _ => trivial) HBz.out HBz.out.size (by rw [HLI.out]; omega) ?_
                intro v9 x9 ho hb hg _
                have HDf := Lib.hid (show Kd.R kH 22 x9 w.heap.size (fun _ => True) v9 (heads h (j + 1)) by rw [HHS.out]; exact ho)
                have HUn := Lib.hid (Kd.R_over HUf.out HDz.out (by decide) hg)
                clear HUf
                have HUf := HUn
                have HBz := Lib.hid hb
                clear ho hb hg
                clear hHeld
                refine hK.out _ _ ?_ (fun hHeld => ?_)
                · ((try dsimp only); exact KKz.out _ HBz.out)
                clear hK K
                refine wpAnyH_take (i := 16) (oi := { dst := some 8, op := .assign (.tmp 107), type := 37, pos := _, after := _, guard := none }) (v := ?_) rfl (by kernel_rfl) (by kernel_rfl) (by kernel_rfl) (fun _ _ _ h => h) (Or.inl ⟨by rfl, ?_⟩) (by assumption) ?_
                rotate_left 1
                · (intro w hSw; (try dsimp only at hSw); go_simp; try with_reducible rfl)
                try simp only [Act.put, List.setIfInBounds_toArray, List.set_cons_zero, List.set_cons_succ]
                refine wpAnyH_take (i := 17) (oi := { dst := some 9, op := .assign (.tmp 115), type := 29, pos := _, after := _, guard := none }) (v := ?_) rfl (by kernel_rfl) (by kernel_rfl) (by kernel_rfl) (fun _ _ _ h => h) (Or.inl ⟨by rfl, ?_⟩) (by assumption) ?_
                rotate_left 1
                · (intro w hSw; (try dsimp only at hSw); go_simp; try with_reducible rfl)
                try simp only [Act.put, List.setIfInBounds_toArray, List.set_cons_zero, List.set_cons_succ]
                refine wpAnyH_done (by kernel_rfl) ?_ _
                refine NoPanic.normal ?_
                (go_wp2; go_roundw; (case rel => exact ⟨j + 1, b, _, _, rfl, rfl, rfl, by omega, by go_num, HOK2, HUf, HDf, HLQ, HBz⟩); (case measure => simp [intOf]; omega))
              refine AllReadyH.cons (o := { dst := some 114, op := .buildSlice 29 1 #[(0, .tmp 113)], type := 29, pos := _, after := _, guard := none }) rfl (fun K hK => ?_) AllReadyH.nil
              go_simp
              have HL2 := Lib.hid (lit1h _ w.heap.size HBz.out.size (A2, m2, c2))
              replace HBz := Lib.hid (HBz.out.alloc HBz.out.size (.cells #[.slice A2 m2 c2] 22))
              (try replace HUz := Lib.hid (Kd.R_alloc HUz.out (.cells #[.slice A2 m2 c2] 22)))
              (try replace HUf := Lib.hid (Kd.R_alloc HUf.out (.cells #[.slice A2 m2 c2] 22)))
              replace HDz := Lib.hid (Kd.R_alloc HDz.out (.cells #[.slice A2 m2 c2] 22))
              (try replace HL1 := Lib.hid (Kd.R_alloc HL1.out (.cells #[.slice A2 m2 c2] 22)))
              clear hHeld
              refine hK.out _ _ ?_ (fun hHeld => ?_)
              · ((try dsimp only); exact KKz.out _ HBz.out)
              clear hK K
              refine wpAnyH_ready (rs := [7]) (by kernel_rfl) (by simp) ?_
              refine AllReadyH.cons (o := { dst := some 107, op := .call { callee := .builtin .append, args := #[.tmp 100, .tmp 106], argTypes := #[37, 37] }, type := 37, pos := _, after := _, guard := none }) rfl (fun K hK => ?_) AllReadyH.nil
              refine Kd.R_append_rows_step (Kd.int .i64) (w0 := w) w.heap.size (by rfl) (.tmp 100) (.tmp 106) 37 3 (.int .i64 0) 8 rfl Try.underlying37 Par.info_int rfl (by decide) (by decide) u8 (line j s) [si] _ _ _ (fun _ => True) (fun _ => False) rfl rfl HUz.out (by first | exact (Kd.R_reads' HL1.out).2.2 | (have h := (Kd.R_reads' HL1.out).2.2; rw [show (wr.drew.alloc (.cells #[.slice A2 m2 c2] 22)).heap.size = wr.heap.size + 1 by simp] at h; exact h)) (fun _ _ h => h) (fun _ h => h.elim) (fun _ _ => trivial) HBz.out HBz.out.size (by rw [line_len]; omega) ?_
              intro v7 x7 ho hb hg _
              have HUf := Lib.hid (show (Kd.int .i64).R 3 x7 w.heap.size (fun _ => True) v7 (line (j + 1) s) by rw [← HSU.out]; exact ho)
              have HDn := Lib.hid (Kd.R_over HDz.out HUz.out (by decide) hg)
              (try have HLn := Lib.hid (Kd.R_over HL2.out HUz.out (by decide) hg))
              clear HDz HUz HL1
              have HDz := HDn
              clear HDn
              (try clear HL2)
              (try have HL2 := HLn)
              (try clear HLn)
              have HBz := Lib.hid hb
              clear ho hb hg
              clear hHeld
              refine hK.out _ _ ?_ (fun hHeld => ?_)
              · ((try dsimp only); exact KKz.out _ HBz.out)
              clear hK K
              refine wpAnyH_ready (rs := [15]) (by kernel_rfl) (by simp) ?_
              refine AllReadyH.cons (o := { dst := some 115, op := .call { callee := .builtin .append, args := #[.tmp 108, .tmp 114], argTypes := #[29, 29] }, type := 29, pos := _, after := _, guard := none }) rfl (fun K hK => ?_) AllReadyH.nil
              refine Kd.R_append_rows_step kH (w0 := w) w.heap.size (by rfl) (.tmp 108) (.tmp 114) 29 22 (.slice none 0 0) 24 rfl Try.underlying29 info_rows rfl (by decide) (by decide) u9 (heads h j) [(A2, m2, c2)] _ _ _ (fun _ => True) (fun _ => False) rfl rfl HDz.out (by first | exact (Kd.R_reads' HL2.out).2.2 | (have h := (Kd.R_reads' HL2.out).2.2; rw [show (wr.drew.alloc (.cells #[.int .i64 si] 3)).heap.size = wr.heap.size + 1 by simp] at h; exact h)) (fun _ _ h => h) (fun _ h => h.elim) (fun _ _ => trivial) HBz.out HBz.out.size (by rw [HLI.out]; omega) ?_
              intro v9 x9 ho hb hg _
              have HDf := Lib.hid (show Kd.R kH 22 x9 w.heap.size (fun _ => True) v9 (heads h (j + 1)) by rw [HHS.out]; exact ho)
              have HUn := Lib.hid (Kd.R_over HUf.out HDz.out (by decide) hg)
              clear HUf
              have HUf := HUn
              have HBz := Lib.hid hb
              clear ho hb hg
              clear hHeld
              refine hK.out _ _ ?_ (fun hHeld => ?_)
              · ((try dsimp only); exact KKz.out _ HBz.out)
              clear hK K
              refine wpAnyH_take (i := 16) (oi := { dst := some 8, op := .assign (.tmp 107), type := 37, pos := _, after := _, guard := none }) (v := ?_) rfl (by kernel_rfl) (by kernel_rfl) (by kernel_rfl) (fun _ _ _ h => h) (Or.inl ⟨by rfl, ?_⟩) (by assumption) ?_
              rotate_left 1
              · (intro w hSw; (try dsimp only at hSw); go_simp; try with_reducible rfl)
              try simp only [Act.put, List.setIfInBounds_toArray, List.set_cons_zero, List.set_cons_succ]
              refine wpAnyH_take (i := 17) (oi := { dst := some 9, op := .assign (.tmp 115), type := 29, pos := _, after := _, guard := none }) (v := ?_) rfl (by kernel_rfl) (by kernel_rfl) (by kernel_rfl) (fun _ _ _ h => h) (Or.inl ⟨by rfl, ?_⟩) (by assumption) ?_
              rotate_left 1
              · (intro w hSw; (try dsimp only at hSw); go_simp; try with_reducible rfl)
              try simp only [Act.put, List.setIfInBounds_toArray, List.set_cons_zero, List.set_cons_succ]
              refine wpAnyH_done (by kernel_rfl) ?_ _
              refine NoPanic.normal ?_
              (go_wp2; go_roundw; (case rel => exact ⟨j + 1, b, _, _, rfl, rfl, rfl, by omega, by go_num, HOK2, HUf, HDf, HLQ, HBz⟩); (case measure => simp [intOf]; omega))
            refine AllReadyH.cons (o := { dst := some 114, op := .buildSlice 29 1 #[(0, .tmp 113)], type := 29, pos := _, after := _, guard := none }) rfl (fun K hK => ?_) AllReadyH.nil
            go_simp
            have HL2 := Lib.hid (lit1h _ w.heap.size HBz.out.size (A2, m2, c2))
            replace HBz := Lib.hid (HBz.out.alloc HBz.out.size (.cells #[.slice A2 m2 c2] 22))
            (try replace HUz := Lib.hid (Kd.R_alloc HUz.out (.cells #[.slice A2 m2 c2] 22)))
            (try replace HUf := Lib.hid (Kd.R_alloc HUf.out (.cells #[.slice A2 m2 c2] 22)))
            replace HDz := Lib.hid (Kd.R_alloc HDz.out (.cells #[.slice A2 m2 c2] 22))
            (try replace HL1 := Lib.hid (Kd.R_alloc HL1.out (.cells #[.slice A2 m2 c2] 22)))
            clear hHeld
            refine hK.out _ _ ?_ (fun hHeld => ?_)
            · ((try dsimp only); exact KKz.out _ HBz.out)
            clear hK K
            refine wpAnyH_ready (rs := [6]) (by kernel_rfl) (by simp) ?_
            refine AllReadyH.cons (o := { dst := some 106, op := .buildSlice 37 1 #[(0, .tmp 105)], type := 37, pos := _, after := _, guard := none }) rfl (fun K hK => ?_) AllReadyH.nil
            go_simp
            have HL1 := Lib.hid (lit1i _ w.heap.size HBz.out.size si)
            replace HBz := Lib.hid (HBz.out.alloc HBz.out.size (.cells #[.int .i64 si] 3))
            replace HUz := Lib.hid (Kd.R_alloc HUz.out (.cells #[.int .i64 si] 3))
            replace HDz := Lib.hid (Kd.R_alloc HDz.out (.cells #[.int .i64 si] 3))
            (try replace HL2 := Lib.hid (Kd.R_alloc HL2.out (.cells #[.int .i64 si] 3)))
            clear hHeld
            refine hK.out _ _ ?_ (fun hHeld => ?_)
            · ((try dsimp only); exact KKz.out _ HBz.out)
            clear hK K
            refine wpAnyH_ready (rs := [7]) (by kernel_rfl) (by simp) ?_
            refine AllReadyH.cons (o := { dst := some 107, op := .call { callee := .builtin .append, args := #[.tmp 100, .tmp 106], argTypes := #[37, 37] }, type := 37, pos := _, after := _, guard := none }) rfl (fun K hK => ?_) AllReadyH.nil
            refine Kd.R_append_rows_step (Kd.int .i64) (w0 := w) w.heap.size (by rfl) (.tmp 100) (.tmp 106) 37 3 (.int .i64 0) 8 rfl Try.underlying37 Par.info_int rfl (by decide) (by decide) u8 (line j s) [si] _ _ _ (fun _ => True) (fun _ => False) rfl rfl HUz.out (by first | exact (Kd.R_reads' HL1.out).2.2 | (have h := (Kd.R_reads' HL1.out).2.2; rw [show (wr.drew.alloc (.cells #[.slice A2 m2 c2] 22)).heap.size = wr.heap.size + 1 by simp] at h; exact h)) (fun _ _ h => h) (fun _ h => h.elim) (fun _ _ => trivial) HBz.out HBz.out.size (by rw [line_len]; omega) ?_
            intro v7 x7 ho hb hg _
            have HUf := Lib.hid (show (Kd.int .i64).R 3 x7 w.heap.size (fun _ => True) v7 (line (j + 1) s) by rw [← HSU.out]; exact ho)
            have HDn := Lib.hid (Kd.R_over HDz.out HUz.out (by decide) hg)
            (try have HLn := Lib.hid (Kd.R_over HL2.out HUz.out (by decide) hg))
            clear HDz HUz HL1
            have HDz := HDn
            clear HDn
            (try clear HL2)
            (try have HL2 := HLn)
            (try clear HLn)
            have HBz := Lib.hid hb
            clear ho hb hg
            clear hHeld
            refine hK.out _ _ ?_ (fun hHeld => ?_)
            · ((try dsimp only); exact KKz.out _ HBz.out)
            clear hK K
            refine wpAnyH_ready (rs := [15]) (by kernel_rfl) (by simp) ?_
            refine AllReadyH.cons (o := { dst := some 115, op := .call { callee := .builtin .append, args := #[.tmp 108, .tmp 114], argTypes := #[29, 29] }, type := 29, pos := _, after := _, guard := none }) rfl (fun K hK => ?_) AllReadyH.nil
            refine Kd.R_append_rows_step kH (w0 := w) w.heap.size (by rfl) (.tmp 108) (.tmp 114) 29 22 (.slice none 0 0) 24 rfl Try.underlying29 info_rows rfl (by decide) (by decide) u9 (heads h j) [(A2, m2, c2)] _ _ _ (fun _ => True) (fun _ => False) rfl rfl HDz.out (by first | exact (Kd.R_reads' HL2.out).2.2 | (have h := (Kd.R_reads' HL2.out).2.2; rw [show (wr.drew.alloc (.cells #[.int .i64 si] 3)).heap.size = wr.heap.size + 1 by simp] at h; exact h)) (fun _ _ h => h) (fun _ h => h.elim) (fun _ _ => trivial) HBz.out HBz.out.size (by rw [HLI.out]; omega) ?_
            intro v9 x9 ho hb hg _
            have HDf := Lib.hid (show Kd.R kH 22 x9 w.heap.size (fun _ => True) v9 (heads h (j + 1)) by rw [HHS.out]; exact ho)
            have HUn := Lib.hid (Kd.R_over HUf.out HDz.out (by decide) hg)
            clear HUf
            have HUf := HUn
            have HBz := Lib.hid hb
            clear ho hb hg
            clear hHeld
            refine hK.out _ _ ?_ (fun hHeld => ?_)
            · ((try dsimp only); exact KKz.out _ HBz.out)
            clear hK K
            refine wpAnyH_take (i := 16) (oi := { dst := some 8, op := .assign (.tmp 107), type := 37, pos := _, after := _, guard := none }) (v := ?_) rfl (by kernel_rfl) (by kernel_rfl) (by kernel_rfl) (fun _ _ _ h => h) (Or.inl ⟨by rfl, ?_⟩) (by assumption) ?_
            rotate_left 1
            · (intro w hSw; (try dsimp only at hSw); go_simp; try with_reducible rfl)
            try simp only [Act.put, List.setIfInBounds_toArray, List.set_cons_zero, List.set_cons_succ]
            refine wpAnyH_take (i := 17) (oi := { dst := some 9, op := .assign (.tmp 115), type := 29, pos := _, after := _, guard := none }) (v := ?_) rfl (by kernel_rfl) (by kernel_rfl) (by kernel_rfl) (fun _ _ _ h => h) (Or.inl ⟨by rfl, ?_⟩) (by assumption) ?_
            rotate_left 1
            · (intro w hSw; (try dsimp only at hSw); go_simp; try with_reducible rfl)
            try simp only [Act.put, List.setIfInBounds_toArray, List.set_cons_zero, List.set_cons_succ]
            refine wpAnyH_done (by kernel_rfl) ?_ _
            refine NoPanic.normal ?_
            (go_wp2; go_roundw; (case rel => exact ⟨j + 1, b, _, _, rfl, rfl, rfl, by omega, by go_num, HOK2, HUf, HDf, HLQ, HBz⟩); (case measure => simp [intOf]; omega))
    · obtain rfl : N = i := by omega
      obtain ⟨A5, c5, rfl, hc8, hC8⟩ := Kd.R_reads HU.out
      obtain ⟨A6, c6, rfl, hc9, hC9⟩ := Kd.R_reads HD.out
      rw [line_len] at hc8 hC8
      rw [Par.heads_len] at hc9 hC9
      simp only [line_len, Par.heads_len]
      have HC5 := Lib.hid hC8
      have HC6 := Lib.hid (show Kd.C kRow wr A6 N (rowsX x N) from Par.heads_C (h := h) (fun q hq => by
        obtain ⟨_, _, _, _, h3, h4, h5⟩ := HP.out _ HB.out q hq
        exact ⟨h3, h4, h5⟩) hC9)
      clear hc8 hC8 hc9 hC9 HU HD
      have hk := HKN.out
      obtain ⟨a, ha⟩ : ∃ a, a = k - 1 := ⟨_, rfl⟩
      have HA := Lib.hid ha
      have HK2 := Lib.hid (show 2 ≤ k ∧ k ≤ 8 ∧ n ≤ 24 ∧ 1 ≤ a ∧ a ≤ 3 ∧ k = a + 1 by omega)
      have v1 : IntKind.i64.wrap ((k : Int) - 1) = (a : Int) := by rw [IntWalk.i64_in _ (by omega)]; omega
      have v2 : (k : Int) - 1 = (a : Int) := by omega
      have v3 : (0 : Int) < (a : Int) := by omega
      have v4 : ((a : Int) == 0) = false := by simp; omega
      have v5 : (a : Int) ≠ 0 := by omega
      have HB1 := HB
      obtain ⟨wP, hwP⟩ : ∃ wP, wP = wr := ⟨_, rfl⟩
      have HQ := Lib.hid (show Below wP.heap.size wP wr by rw [hwP]; exact Below.refl _ _)
      rw [← hwP] at HC5 HC6
      clear hk ha HB hwP
      cases ok
      case false =>
        have RB := Lib.hid (fun v W (hB : Below w.heap.size w W) (hc : IsCodeP W v n k) => decode_bad v n k N c A s h x m W hc HK2.out.2.2.1 (HP.out W hB) HMX.out (by omega) (fun e => by have h := HOK.out.2 e; first | exact h.elim | cases h))
        clear HC5 HC6 HL HQ
        go_wp2_with (first | (go_at_call 9; (with_reducible refine (NC.out _).mono ?_); rintro e w2 ⟨v, rfl, hcd, hb⟩; have HV := Lib.hid hcd; have HBn := Lib.hid (HB1.out.trans (hb.mono HB1.out.size)); clear HB1 hb hcd; have HB1 := HBn; clear HBn) | (go_at_call 13; (with_reducible refine (RB.out v _ HB1.out HV.out).mono ?_); rintro e w4 ⟨rfl, hb⟩; have HBn := Lib.hid (HB1.out.trans (hb.mono HB1.out.size)); clear HB1 HV hb; have HB1 := HBn; clear HBn) | (go_at_call 8; (with_reducible refine (AW.out _).mono ?_); rintro e w9 ⟨rfl, hb⟩; have HB9 := Lib.hid (HB1.out.trans (hb.mono HB1.out.size)); clear hb))
        go_ret
        exact ⟨rfl, HB9.out⟩
      case true =>
        have HO := Lib.hid (HOK.out.1 (by first | rfl | trivial))
        clear HOK
        by_cases hfew : N < k
        · have g3 : (N : Int) < (k : Int) := by omega
          have RB := Lib.hid (fun v W (hB : Below w.heap.size w W) (hc : IsCodeP W v n k) => decode_few v n k N c A s h x m W hc HK2.out.2.2.1 (HP.out W hB) HMX.out (by omega) HO.out hfew)
          clear HC5 HC6 HL hfew HQ
          go_wp2_with (first | (go_at_call 9; (with_reducible refine (NC.out _).mono ?_); rintro e w2 ⟨v, rfl, hcd, hb⟩; have HV := Lib.hid hcd; have HBn := Lib.hid (HB1.out.trans (hb.mono HB1.out.size)); clear HB1 hb hcd; have HB1 := HBn; clear HBn) | (go_at_call 13; (with_reducible refine (RB.out v _ HB1.out HV.out).mono ?_); rintro e w4 ⟨rfl, hb⟩; have HBn := Lib.hid (HB1.out.trans (hb.mono HB1.out.size)); clear HB1 HV hb; have HB1 := HBn; clear HBn) | (go_at_call 8; (with_reducible refine (AW.out _).mono ?_); rintro e w9 ⟨rfl, hb⟩; have HB9 := Lib.hid (HB1.out.trans (hb.mono HB1.out.size)); clear hb))
          go_ret
          exact ⟨rfl, HB9.out⟩
        have g3 : ¬ (N : Int) < (k : Int) := by omega
        have hk0 := HK2.out
        have h0N : 0 < N := by omega
        have HKN2 := Lib.hid (show k ≤ N by omega)
        have g4 : (0 : Int) < (N : Int) := by omega
        obtain ⟨ad, rfl, _, kc2, kl2, _⟩ := HP.out w (Below.refl _ _) 0 h0N
        obtain ⟨⟨A60, m0, c60⟩, hh2⟩ : ∃ q, q = h 0 := ⟨_, rfl⟩
        rw [← hh2] at kc2 kl2
        have hk2 : w.cell? ⟨ad.block, ad.off + 1, none⟩ = some (.slice A60 m0 c60) := by simpa [Addr.add, hv] using kc2
        have hm0 : m0 = m 0 := by rw [← HMX.out]; exact kl2.symm
        have K6 := Lib.hid (fun W (hB : Below w.heap.size w W) => pw_cell_below hB hk2)
        have HM0 := Lib.hid hm0
        have hm60 : m0 ≤ 60 := by rw [hm0]; exact HL.out 0 h0N
        clear kc2 kl2 hh2 hk2 hfew h0N hk0
        by_cases hodd : m0 % a ≠ 0
        · have RB := Lib.hid (fun v W (hB : Below w.heap.size w W) (hc : IsCodeP W v n k) => decode_odd v n k N c a (some ad) s h x m W hc HK2.out.1 HK2.out.2.1 HK2.out.2.2.1 HA.out (HP.out W hB) HMX.out (by omega) HO.out HKN2.out (by rw [← HM0.out]; exact hodd) (by rw [← HM0.out]; omega))
          obtain ⟨r, hr⟩ : ∃ r, r = m0 % a := ⟨_, rfl⟩
          have d3 : (m0 : Int) % (a : Int) = (r : Int) := by rw [hr]; exact (Int.natCast_emod m0 a).symm
          have d4 : ((r : Int) != 0) = true := by simp; omega
          clear HC5 HC6 HL hm0 hr hodd HQ
          go_upto_region 23 with (first | (go_at_call 9; (with_reducible refine (NC.out _).mono ?_); rintro e w2 ⟨v, rfl, hcd, hb⟩; have HV := Lib.hid hcd; have HBn := Lib.hid (HB1.out.trans (hb.mono HB1.out.size)); clear HB1 hb hcd; have HB1 := HBn; clear HBn) | (go_at_call 13; (with_reducible refine (RB.out v _ HB1.out HV.out).mono ?_); rintro e w4 ⟨rfl, hb⟩; have HBn := Lib.hid (HB1.out.trans (hb.mono HB1.out.size)); clear HB1 HV hb; have HB1 := HBn; clear HBn))
          have y6 := K6.out _ HB1.out
          go_wp2_with (go_at_call 8; (with_reducible refine (AW.out _).mono ?_); rintro e w9 ⟨rfl, hb⟩; have HB9 := Lib.hid (HB1.out.trans (hb.mono HB1.out.size)); clear hb)
          go_ret
          exact ⟨rfl, HB9.out⟩
        have hodd0 : m0 % a = 0 := by omega
        obtain ⟨sz, hsz⟩ : ∃ sz, sz = m0 / a := ⟨_, rfl⟩
        have hk0 := HK2.out
        have hma : m0 = sz * a := by
          have := Nat.div_add_mod m0 a
          rw [hodd0, Nat.add_zero, Nat.mul_comm, ← hsz] at this
          exact this.symm
        have hm1 : 0 < m0 := by rw [HM0.out]; exact (HO.out 0 (by have := HKN2.out; omega)).2.2.1
        have hs1 : 1 ≤ sz := by
          rcases Nat.eq_zero_or_pos sz with h0 | h0
          · rw [h0, Nat.zero_mul] at hma; omega
          · exact h0
        have hs60 : sz ≤ 60 := by
          have : sz * 1 ≤ sz * a := Nat.mul_le_mul_left sz hk0.2.2.2.1
          omega
        obtain ⟨B, hBb, hMs, hRf⟩ := dec_ex (n := n) (k := k) (N := N) (a := a) (sz := sz) (s := s) (x := x) (m := m) hk0.1 hk0.2.1 hk0.2.2.1 HA.out HO.out HKN2.out HXB.out hs1
        obtain ⟨S0, hS0⟩ : ∃ S0, S0 = (a + 1) * a := ⟨_, rfl⟩
        obtain ⟨L, hL⟩ : ∃ L, L = S0 * sz := ⟨_, rfl⟩
        obtain ⟨b, hb⟩ : ∃ b, b = line L (outB B sz) := ⟨_, rfl⟩
        have hbl : b.length = L := by rw [hb, line_len]
        have RB := Lib.hid (fun v W (hB : Below w.heap.size w W) (hc : IsCodeP W v n k) => show Calls Try.prog 13 #[v, .slice (some ad) N c] W fun e w' => ∃ A' c', e = .returned (.tuple #[.slice A' L c', .int .i64 0]) ∧ (Kd.int .u8).C w' A' L b ∧ Below W.heap.size W w' by
          refine (decode_good v n k N c a sz L (some ad) s h x m B W hc HK2.out.1 HK2.out.2.1 HK2.out.2.2.1 HA.out (HP.out W hB) HMX.out (by omega) HNC.out HO.out HKN2.out (by rw [← HM0.out]; exact hma) hs1 (by omega) (by rw [hL, hS0]) HXB.out hBb hMs).mono ?_
          rintro e w' ⟨A', c', rfl, hr, hbw⟩
          refine ⟨A', c', rfl, ?_, hbw⟩
          have h1 := (Kd.R_reads' hr).2.2
          rw [line_len] at h1
          rw [hb]
          exact h1)
        have RD := Lib.hid (fun W (hB : Below wP.heap.size wP W) => show Calls Try.prog 14 #[.int .i64 n, .int .i64 k, .slice A5 N c5, .slice A6 N c6] W fun e w' => ∃ A c, e = .returned (.slice A L c) ∧ (Kd.int .u8).C w' A L b ∧ Below W.heap.size W w' from
          (rdec_any n k N c5 c6 sz a S0 A5 A6 s x W hk0.1 hk0.2.1 hk0.2.2.1 HA.out hS0 HKN2.out (by omega) (Kd.C_below HC5.out hB) (Kd.C_below HC6.out hB) (fun i hi => ⟨(HO.out i hi).1, (HO.out i hi).2.1⟩) (fun i hi => by rw [HMX.out, (HO.out i hi).2.2.2.1, ← HM0.out, hma]) HXB.out hs1 (by omega)).mono (by
            rintro e w' ⟨A9, c9, t, M, rfl, hst, _, hC, hbw⟩
            refine ⟨A9, c9, by rw [hL], ?_, hbw⟩
            rw [hS0] at hst hC
            have h1 := hRf t M hst
            rw [h1] at hC
            rw [hb, hL, hS0]
            exact hC))
        obtain ⟨r, hr⟩ : ∃ r, r = m0 % a := ⟨_, rfl⟩
        have d3 : (m0 : Int) % (a : Int) = 0 := by rw [← Int.natCast_emod, hodd0]; rfl
        clear hodd hodd0 hsz hma hm1 hs1 hs60 hBb hMs hRf hS0 hL hb hbl hm0 hr hk0 HL HC5 HC6
        go_upto_region 23 with (first
          | (go_at_call 9; (with_reducible refine (NC.out _).mono ?_); rintro e w2 ⟨v, rfl, hcd, hb⟩; have HV := Lib.hid hcd; have HBn := Lib.hid (HB1.out.trans (hb.mono HB1.out.size)); have HQn := Lib.hid (HQ.out.trans (hb.mono HQ.out.size)); clear HB1 HQ hb hcd; have HB1 := HBn; have HQ := HQn; clear HBn HQn)
          | (go_at_call 13; (with_reducible refine (RB.out v _ HB1.out HV.out).mono ?_); rintro e w5 ⟨A7, c7, rfl, hr, hb⟩; have HC7 := Lib.hid hr; have HBn := Lib.hid (HB1.out.trans (hb.mono HB1.out.size)); have HQn := Lib.hid (HQ.out.trans (hb.mono HQ.out.size)); clear HB1 HQ HV hb hr; have HB1 := HBn; have HQ := HQn; clear HBn HQn))
        have y6 := K6.out _ HB1.out
        go_upto_region 25 with (fail)
        have K5 := Lib.hid (fun W (hB : Below w5.heap.size w5 W) => md_str (c := c7) HC7.out W hB)
        have HXd := Lib.hid (show Below w5.heap.size w5 w5.drew from (Below.refl _ _).drew)
        have HBd := Lib.hid (show Below w.heap.size w w5.drew from HB1.out.drew)
        have HQd := Lib.hid (show Below wP.heap.size wP w5.drew from HQ.out.drew)
        clear y6 K6 HB1 HQ RB
        refine wp_region_noPanic ?_
        refine wp_region_held_drew (S := (fun W => (convert 22 9 (.slice A7 L c7)).run Try.prog W = .ok (.string (strOfNums b)) W)) (by kernel_rfl) ?_ (fun hHeld => ?_)
        · ((try dsimp only); exact K5.out _ HXd.out)
        refine wpAnyH_take (i := 0) (oi := { dst := some 176, op := .move (.tmp 14), type := 22, pos := _, after := _, guard := none }) (v := ?_) rfl (by kernel_rfl) (by kernel_rfl) (by kernel_rfl) (fun _ _ _ h => h) (Or.inl ⟨by rfl, ?_⟩) (by assumption) ?_
        rotate_left 1
        · (intro w hSw; (try dsimp only at hSw); go_simp; try with_reducible rfl)
        try simp only [Act.put, List.setIfInBounds_toArray, List.set_cons_zero, List.set_cons_succ]
        refine wpAnyH_take (i := 1) (oi := { dst := some 177, op := .convert 22 9 (.tmp 176), type := 9, pos := _, after := _, guard := none }) (v := ?_) rfl (by kernel_rfl) (by kernel_rfl) (by kernel_rfl) (fun _ _ _ h => h) (Or.inl ⟨by rfl, ?_⟩) (by assumption) ?_
        rotate_left 1
        · (intro w hSw; (try dsimp only at hSw); go_simp; try with_reducible rfl)
        try simp only [Act.put, List.setIfInBounds_toArray, List.set_cons_zero, List.set_cons_succ]
        refine wpAnyH_take (i := 2) (oi := { dst := some 178, op := .move (.tmp 0), type := 3, pos := _, after := _, guard := none }) (v := ?_) rfl (by kernel_rfl) (by kernel_rfl) (by kernel_rfl) (fun _ _ _ h => h) (Or.inl ⟨by rfl, ?_⟩) (by assumption) ?_
        rotate_left 1
        · (intro w hSw; (try dsimp only at hSw); go_simp; try with_reducible rfl)
        try simp only [Act.put, List.setIfInBounds_toArray, List.set_cons_zero, List.set_cons_succ]
        refine wpAnyH_take (i := 3) (oi := { dst := some 179, op := .move (.tmp 1), type := 3, pos := _, after := _, guard := none }) (v := ?_) rfl (by kernel_rfl) (by kernel_rfl) (by kernel_rfl) (fun _ _ _ h => h) (Or.inl ⟨by rfl, ?_⟩) (by assumption) ?_
        rotate_left 1
        · (intro w hSw; (try dsimp only at hSw); go_simp; try with_reducible rfl)
        try simp only [Act.put, List.setIfInBounds_toArray, List.set_cons_zero, List.set_cons_succ]
        refine wpAnyH_take (i := 4) (oi := { dst := some 180, op := .move (.tmp 8), type := 37, pos := _, after := _, guard := none }) (v := ?_) rfl (by kernel_rfl) (by kernel_rfl) (by kernel_rfl) (fun _ _ _ h => h) (Or.inl ⟨by rfl, ?_⟩) (by assumption) ?_
        rotate_left 1
        · (intro w hSw; (try dsimp only at hSw); go_simp; try with_reducible rfl)
        try simp only [Act.put, List.setIfInBounds_toArray, List.set_cons_zero, List.set_cons_succ]
        refine wpAnyH_take (i := 5) (oi := { dst := some 181, op := .move (.tmp 9), type := 29, pos := _, after := _, guard := none }) (v := ?_) rfl (by kernel_rfl) (by kernel_rfl) (by kernel_rfl) (fun _ _ _ h => h) (Or.inl ⟨by rfl, ?_⟩) (by assumption) ?_
        rotate_left 1
        · (intro w hSw; (try dsimp only at hSw); go_simp; try with_reducible rfl)
        try simp only [Act.put, List.setIfInBounds_toArray, List.set_cons_zero, List.set_cons_succ]
        refine wpAnyH_ready (rs := [6]) (by kernel_rfl) (by simp) ?_
        refine AllReadyH.cons (o := { dst := some 182, op := .call { callee := .value (.func 14), args := #[.tmp 178, .tmp 179, .tmp 180, .tmp 181], argTypes := #[3, 3, 37, 29] }, type := 22, pos := _, after := _, guard := none }) rfl (fun K hK => ?_) AllReadyH.nil
        go_simp
        go_at_call 14
        (refine (RD.out _ HQd.out).mono ?_); rintro e u1 ⟨A8, c8, rfl, hC8, hb⟩; have k8 := md_str (c := c8) hC8 u1 (Below.refl _ _); have HXe := Lib.hid (HXd.out.trans (hb.mono HXd.out.size)); have HBe := Lib.hid (HBd.out.trans (hb.mono HBd.out.size)); clear hb hC8
        clear hHeld
        refine hK.out _ _ ?_ (fun hHeld => ?_)
        · ((try dsimp only); exact K5.out _ HXe.out)
        clear hK K
        refine wpAnyH_ready (rs := [7]) (by kernel_rfl) (by simp) ?_
        refine AllReadyH.cons (o := { dst := some 183, op := .convert 22 9 (.tmp 182), type := 9, pos := _, after := _, guard := none }) rfl (fun K hK => ?_) AllReadyH.nil
        go_simp
        clear hHeld
        refine hK.out _ _ ?_ (fun hHeld => ?_)
        · ((try dsimp only); exact K5.out _ HXe.out)
        clear hK K
        refine wpAnyH_take (i := 8) (oi := { dst := some 184, op := .binOp .eql 9 (.tmp 177) (.tmp 183) 9, type := 4, pos := _, after := _, guard := none }) (v := ?_) rfl (by kernel_rfl) (by kernel_rfl) (by kernel_rfl) (fun _ _ _ h => h) (Or.inl ⟨by rfl, ?_⟩) (by assumption) ?_
        rotate_left 1
        · (intro w hSw; (try dsimp only at hSw); go_simp; try with_reducible rfl)
        try simp only [Act.put, List.setIfInBounds_toArray, List.set_cons_zero, List.set_cons_succ]
        refine wpAnyH_take (i := 9) (oi := { dst := some 185, op := .move (.tmp 184), type := 4, pos := _, after := _, guard := none }) (v := ?_) rfl (by kernel_rfl) (by kernel_rfl) (by kernel_rfl) (fun _ _ _ h => h) (Or.inl ⟨by rfl, ?_⟩) (by assumption) ?_
        rotate_left 1
        · (intro w hSw; (try dsimp only at hSw); go_simp; try with_reducible rfl)
        try simp only [Act.put, List.setIfInBounds_toArray, List.set_cons_zero, List.set_cons_succ]
        refine wpAnyH_take (i := 10) (oi := { dst := some 186, op := .move (.tmp 15), type := 26, pos := _, after := _, guard := some (9, true) }) (v := ?_) rfl (by kernel_rfl) (by kernel_rfl) (by kernel_rfl) (fun _ _ _ h => h) (Or.inl ⟨by rfl, ?_⟩) (by assumption) ?_
        rotate_left 1
        · (intro w hSw; (try dsimp only at hSw); go_simp; try with_reducible rfl)
        try simp only [Act.put, List.setIfInBounds_toArray, List.set_cons_zero, List.set_cons_succ]
        refine wpAnyH_take (i := 11) (oi := { dst := some 187, op := .binOp .eql 26 (.tmp 186) (.const (.int .i64 0)) 26, type := 4, pos := _, after := _, guard := some (9, true) }) (v := ?_) rfl (by kernel_rfl) (by kernel_rfl) (by kernel_rfl) (fun _ _ _ h => h) (Or.inl ⟨by rfl, ?_⟩) (by assumption) ?_
        rotate_left 1
        · (intro w hSw; (try dsimp only at hSw); go_simp; try with_reducible rfl)
        try simp only [Act.put, List.setIfInBounds_toArray, List.set_cons_zero, List.set_cons_succ]
        refine wpAnyH_take (i := 12) (oi := { dst := some 188, op := .pick (.tmp 185) (.tmp 187) (.const (.bool false)), type := 4, pos := _, after := _, guard := none }) (v := ?_) rfl (by kernel_rfl) (by kernel_rfl) (by kernel_rfl) (fun _ _ _ h => h) (Or.inl ⟨by rfl, ?_⟩) (by assumption) ?_
        rotate_left 1
        · (intro w hSw; (try dsimp only at hSw); go_simp; try with_reducible rfl)
        try simp only [Act.put, List.setIfInBounds_toArray, List.set_cons_zero, List.set_cons_succ]
        refine wpAnyH_take (i := 13) (oi := { dst := some 189, op := .move (.tmp 188), type := 4, pos := _, after := _, guard := none }) (v := ?_) rfl (by kernel_rfl) (by kernel_rfl) (by kernel_rfl) (fun _ _ _ h => h) (Or.inl ⟨by rfl, ?_⟩) (by assumption) ?_
        rotate_left 1
        · (intro w hSw; (try dsimp only at hSw); go_simp; try with_reducible rfl)
        try simp only [Act.put, List.setIfInBounds_toArray, List.set_cons_zero, List.set_cons_succ]
        refine wpAnyH_ready (rs := [14]) (by kernel_rfl) (by simp) ?_
        refine AllReadyH.cons (o := { dst := some 190, op := .call { callee := .value (.func 8), args := #[], argTypes := #[] }, type := 4, pos := _, after := _, guard := some (13, true) }) rfl (fun K hK => ?_) AllReadyH.nil
        go_simp
        go_at_call 8
        (refine (AW.out _).mono ?_); rintro e u4 ⟨rfl, hb⟩; have HXf := Lib.hid (HXe.out.trans (hb.mono HXe.out.size)); have HBf := Lib.hid (HBe.out.trans (hb.mono HBe.out.size)); clear hb
        clear hHeld
        refine hK.out _ _ ?_ (fun hHeld => ?_)
        · ((try dsimp only); exact K5.out _ HXf.out)
        clear hK K
        refine wpAnyH_take (i := 15) (oi := { dst := some 191, op := .pick (.tmp 189) (.tmp 190) (.const (.bool false)), type := 4, pos := _, after := _, guard := none }) (v := ?_) rfl (by kernel_rfl) (by kernel_rfl) (by kernel_rfl) (fun _ _ _ h => h) (Or.inl ⟨by rfl, ?_⟩) (by assumption) ?_
        rotate_left 1
        · (intro w hSw; (try dsimp only at hSw); go_simp; try with_reducible rfl)
        try simp only [Act.put, List.setIfInBounds_toArray, List.set_cons_zero, List.set_cons_succ]
        refine wpAnyH_take (i := 16) (oi := { dst := some 6, op := .assign (.tmp 191), type := 4, pos := _, after := _, guard := none }) (v := ?_) rfl (by kernel_rfl) (by kernel_rfl) (by kernel_rfl) (fun _ _ _ h => h) (Or.inl ⟨by rfl, ?_⟩) (by assumption) ?_
        rotate_left 1
        · (intro w hSw; (try dsimp only at hSw); go_simp; try with_reducible rfl)
        try simp only [Act.put, List.setIfInBounds_toArray, List.set_cons_zero, List.set_cons_succ]
        refine wpAnyH_done (by kernel_rfl) ?_ _
        refine NoPanic.normal ?_
        go_wp2
        go_ret
        exact ⟨rfl, HBf.out⟩
end Go.Proofs.Ytmefhhkfakmhgaa.Hl
namespace Go.Proofs.Ytmefhhkfakmhgaa.Hl
open Go Go.RowKit Go.Proofs.Ytmefhhkfakmhgaa.Gi Go.Proofs.Ytmefhhkfakmhgaa.Opn Go.Proofs.Ytmefhhkfakmhgaa.Mem Go.Proofs.Ytmefhhkfakmhgaa.Bits Go.Proofs.Ytmefhhkfakmhgaa.Rws Go.Proofs.Ytmefhhkfakmhgaa.Par Go.Proofs.YtmefhhkfakmhgaaW.PrintWords
set_option linter.unusedVariables false
theorem part_u8 {a : Int} (h : (Lit.int .u8 a).wf = true) : 0 ≤ a ∧ a < 256 := by
  simp [Lit.wf, IntKind.min, IntKind.max, IntKind.signed, IntKind.bits] at h; omega
theorem parts_byt {l : List (Int × List Int)} (h : ∀ p ∈ l, (Lit.int .i64 p.1).wf = true ∧ p.2.length ≤ 9223372036854775807 ∧ ∀ a ∈ p.2, (Lit.int .u8 a).wf = true) (q i : Nat) : Byt (((l.getD q (0, [])).2).getD i 0) := by
  have h0 : Byt 0 := ⟨by decide, by decide⟩
  rcases Nat.lt_or_ge q l.length with hq | hq
  · have e : l.getD q (0, []) = l[q] := by rw [List.getD_eq_getElem?_getD, List.getElem?_eq_getElem hq]; rfl
    rw [e]
    have hm := h _ (List.getElem_mem hq)
    rcases Nat.lt_or_ge i (l[q].2).length with hi | hi
    · have e2 : (l[q].2).getD i 0 = (l[q].2)[i] := by rw [List.getD_eq_getElem?_getD, List.getElem?_eq_getElem hi]; rfl
      rw [e2]
      exact part_u8 (hm.2.2 _ (List.getElem_mem hi))
    · rw [List.getD_eq_getElem?_getD, List.getElem?_eq_none hi]
      exact h0
  · have e : l.getD q (0, []) = (0, []) := by rw [List.getD_eq_getElem?_getD, List.getElem?_eq_none hq]; rfl
    rw [e]
    exact h0
theorem md_row (n : Int) (_ : (Lit.int .i64 n).wf = true) (k : Int) (_ : (Lit.int .i64 k).wf = true)
    {w : World} (A : Option Addr) (c : Nat) (l : List (Int × List Int)) (hC : Kd.C kPart w A l.length l) (hc : l.length ≤ c) (hok : l.length ≤ 9223372036854775807 ∧ ∀ p ∈ l, (Lit.int .i64 p.1).wf = true ∧ p.2.length ≤ 9223372036854775807 ∧ ∀ a ∈ p.2, (Lit.int .u8 a).wf = true) (_ : World) :
    Calls Try.prog 4 #[.int .i64 n, .int .i64 k, .slice A l.length c] w fun e w' => e = .returned (.bool true) ∧ Below w.heap.size w w' := by
  by_cases hr : 2 ≤ k ∧ k ≤ 4 ∧ 2 * k - 1 ≤ n ∧ n ≤ 12
  · obtain ⟨r1, r2, r3, r4⟩ := hr
    obtain ⟨k, rfl⟩ := Int.eq_ofNat_of_zero_le (show 0 ≤ k by omega)
    obtain ⟨n, rfl⟩ := Int.eq_ofNat_of_zero_le (show 0 ≤ n by omega)
    by_cases hL : 30 < l.length
    · exact md_long n k A _ c w (by omega) (by omega) (by omega) (by omega) hL
    obtain ⟨h, hp⟩ := PA.of hC
    exact md_main n k l.length c A _ h _ w hp (parts_byt hok.2) (by omega) (by omega) (by omega) (by omega) (by omega) hc
  · exact md_no n k A _ c w hr
end Go.Proofs.Ytmefhhkfakmhgaa.Hl
