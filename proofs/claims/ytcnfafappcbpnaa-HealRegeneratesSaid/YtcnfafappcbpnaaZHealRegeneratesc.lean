/- The statement HealRegenerates: what its proof rests on, part 3 of 4. -/
import Derived.Test.YtcnfafappcbpnaaProg
import Derived.Below
import Derived.Deep.Draws
import Derived.Deep.AppendLies
import Derived.Maps.AppendAt
import Derived.OwnWalk
import Derived.Laws.BytesArg
import Derived.Laws.MakeOwn
import Derived.Laws.OwnMore
import Derived.Deep.OwnRows
import Derived.Tactics
import Derived.Lib.ConvBytes
import Derived.Laws.Slices
import Derived.WalkKit
import Derived.KernelRfl
import Derived.RowKit3
import Derived.Deep.LoopGhost
import Derived.Deep.QuietTactic
import Derived.BigQuiet
import Derived.WideLaws
import Derived.Deep.DeepCutAuto
import Derived.Deep.CutBlock
import Derived.Deep.RegionHeld3
import Derived.Laws.Rows
import Derived.Lib.AppendStr
import Derived.ArgAppend
import Derived.Laws.IdiomCopy
import Derived.OrdersHeld
import Derived.Laws.BitsLemmas
import Derived.RowKit
import Derived.Lib.Hide
import Derived.WalkSpells
import Derived.StillTailTactics
import Derived.Outline
import Derived.Test.YtcnfafappcbpnaaPStepsx1
import Derived.Test.YtcnfafappcbpnaaZHealRegeneratesb
/- Fragments: what the helpers' equations come to. -/
namespace Go.Proofs.Ytcnfafappcbpnaa.Hl
open Go Go.RowKit Go.Proofs.Ytcnfafappcbpnaa.Gf Go.Proofs.Ytcnfafappcbpnaa.Gi Go.Proofs.Ytcnfafappcbpnaa.Alg Go.Proofs.Ytcnfafappcbpnaa.Sol Go.Proofs.Ytcnfafappcbpnaa.VPts Go.Proofs.Ytcnfafappcbpnaa.Str Go.Proofs.Ytcnfafappcbpnaa.BHealFragments
set_option linter.unusedVariables false

theorem pws_map (f : Nat → Nat) : ∀ k, pws f k = (firsts f k).map (fun x => ((f x.toNat : Nat) : Int))
  | 0 => rfl
  | k + 1 => by
    rw [pws_succ, firsts_succ]
    split
    · exact pws_map f k
    · rw [List.map_append, pws_map f k]; simp
theorem lam_inj (n k i j : Nat) (k1 : 2 ≤ k) (k2 : k ≤ 8) (n2 : n ≤ 24) (hi : i < n) (hj : j < n) (h : gp (ptN n k i) (k - 1) = gp (ptN n k j) (k - 1)) : i = j := by
  have h24 := many (k - 1) (by omega) (by omega)
  have hnd := pws_nodup (fun x => gp x (k - 1)) 40
  rw [pws_map] at hnd
  have e : ∀ q, q < n → (ptsL n (k - 1)).getD q 0 = (firsts (fun x => gp x (k - 1)) 40).getD q 0 := by
    intro q hq
    unfold ptsL
    rw [List.getD_eq_getElem?_getD, List.getD_eq_getElem?_getD, List.getElem?_take, if_pos hq]
  have hg : ∀ q, q < n → ((firsts (fun x => gp x (k - 1)) 40).map (fun x => ((gp x.toNat (k - 1) : Nat) : Int)))[q]? = some ((gp (ptN n k q) (k - 1) : Nat) : Int) := by
    intro q hq
    have hq2 : q < (firsts (fun x => gp x (k - 1)) 40).length := by omega
    rw [List.getElem?_map, List.getElem?_eq_getElem hq2]
    simp only [Option.map_some]
    congr 3
    unfold ptN
    rw [e q hq, List.getD_eq_getElem?_getD, List.getElem?_eq_getElem hq2]
    rfl
  have hii := hg i hi
  have hjj := hg j hj
  rw [h] at hii
  have hl : i < ((firsts (fun x => gp x (k - 1)) 40).map (fun x => ((gp x.toNat (k - 1) : Nat) : Int))).length := by rw [List.length_map]; omega
  have hl2 : j < ((firsts (fun x => gp x (k - 1)) 40).map (fun x => ((gp x.toNat (k - 1) : Nat) : Int))).length := by rw [List.length_map]; omega
  rw [List.getElem?_eq_getElem hl] at hii
  rw [List.getElem?_eq_getElem hl2] at hjj
  injection hii with a
  injection hjj with b
  rw [List.nodup_iff_pairwise_ne, List.pairwise_iff_getElem] at hnd
  rcases Nat.lt_trichotomy i j with hh | hh | hh
  · exact absurd (by rw [a, b]) (hnd i j hl hl2 hh)
  · exact hh
  · exact absurd (by rw [a, b]) (hnd j i hl2 hl hh)
theorem pt_inj (n k i j : Nat) (k1 : 2 ≤ k) (k2 : k ≤ 8) (n2 : n ≤ 24) (hi : i < n) (hj : j < n) (h : ptN n k i = ptN n k j) : i = j := lam_inj n k i j k1 k2 n2 hi hj (by rw [h])

/-- Powers of points. -/
def powM (f : Nat → Nat) : Mtx := fun i j => ((gp (f i) j : Nat) : Int)
theorem powM_byt {f : Nat → Nat} (hf : ∀ i, f i < 256) : BytM (powM f) := fun i j => by
  have := gp_lt (f i) (hf i) j
  exact ⟨by unfold powM; omega, by unfold powM; omega⟩
theorem powM_inj {f : Nat → Nat} {n : Nat} (hf : ∀ i, f i < 256) (hd : ∀ i j, i < n → j < n → f i = f j → i = j) (c : Nat → G) (h : ∀ i, i < n → dotF n (el (powM f) i) c = 0) : ∀ j, j < n → c j = 0 :=
  powers_inj n (fun i => G.of ((f i : Nat) : Int)) (fun i j hi hj e => hd i j hi hj (by
    have h1 := hf i
    have h2 := hf j
    have := G.of_inj (x := ((f i : Nat) : Int)) (y := ((f j : Nat) : Int)) ⟨by omega, by omega⟩ ⟨by omega, by omega⟩ e
    omega)) (el (powM f)) (fun i j hi hj => of_gp (f i) j (hf i)) c h
/-- Each last column becomes what solves it. -/
theorem solvesAt {n m l : Nat} {M0 : Mtx} (h0 : BytM M0) (hinj : ∀ c : Nat → G, (∀ i, i < n → dotF n (el M0 i) c = 0) → ∀ j, j < n → c j = 0) (hl : n ≤ l) (hm : l < m) {t : Nat} {M : Mtx} (h : StepsTo n M0 m t M)
    (p : Nat → G) (hp : ∀ i, i < n → dotF n (el M0 i) p = el M0 i l) : ∀ i, i < n → el M i l = p i := by
  have ho := (h.one h0 hinj).2
  rw [Nat.min_eq_right (by omega)] at ho
  have hsum : ∀ N : Mtx, ∀ i, dotF m (el N i) (fun j => if j < n then p j else if j = l then 1 else 0) = dotF n (el N i) p + el N i l := by
    intro N i
    unfold dotF
    rw [show m = n + (m - n) by omega, sum_split]
    congr 1
    · exact sum_congr (fun j hj => by (show el N i j * (if j < n then p j else if j = l then 1 else 0) = _); rw [if_pos hj])
    · rw [sum_at (a := l - n) (by omega) (fun j hj hne => by (show el N i (n + j) * (if n + j < n then p (n + j) else if n + j = l then 1 else 0) = 0); rw [if_neg (by omega), if_neg (by omega), mul_zero])]
      show el N i (n + (l - n)) * (if n + (l - n) < n then p (n + (l - n)) else if n + (l - n) = l then 1 else 0) = _
      rw [if_neg (by omega), if_pos (by omega), Fd.mul_one, show n + (l - n) = l by omega]
  have hk := (h.ker (m := m) h0 (fun j => if j < n then p j else if j = l then 1 else 0)).2 (fun i hi => by rw [hsum, hp i hi, Fd.add_self])
  intro i hi
  have h1 := hk i hi
  rw [hsum] at h1
  have h2 : dotF n (el M i) p = p i := by
    unfold dotF
    rw [sum_at (a := i) hi (fun j hj hne => by rw [ho i j hi hj, if_neg (fun e => hne e.symm), zero_mul]), ho i i hi hi, if_pos rfl, one_mul]
  rw [h2] at h1
  exact (eq_of_add_zero h1).symm
/-- The program's sum over helpers. -/
def mixY (P : Nat) (Z : Mtx) (F : Int) (j q : Nat) : Int := xorI (Z j q) (gmI (Z (j + P) q) F)
theorem mixY_byt {P : Nat} {Z : Mtx} {F : Int} (hZ : BytM Z) (j q : Nat) : Byt (mixY P Z F j q) := xorI_byt (hZ _ _) (gmI_byt (hZ _ _))
/-- The sum over helpers of what the inverse makes of their bytes is what the equations come to. -/
theorem regen_eq {d P m l : Nat} {A Z M0 M : Mtx} {t : Nat} {D : Nat → Int} {F : Int} (hA : BytM A) (hZ : BytM Z) (hM0 : BytM M0) (hD : ∀ q, Byt (D q)) (hF : Byt F)
    (hinj : ∀ c : Nat → G, (∀ i, i < d → dotF d (el A i) c = 0) → ∀ j, j < d → c j = 0)
    (hs : ∀ i, i < d → ∀ q, q < d → dotF d (el A i) (fun j => G.of (Z j q)) = G.of (idM i q))
    (hl : d ≤ l) (hm : l < m) (h : StepsTo d M0 m t M) (h1 : ∀ i j, i < d → j < d → M0 i j = A i j) (h2 : ∀ i, i < d → M0 i l = D i) (j : Nat) (hj : j + P < d) :
    dotN D (fun q => mixY P Z F j q) d = xorI (M j l) (gmI (M (j + P) l) F) := by
  have hel : ∀ i, i < d → ∀ c : Nat → G, dotF d (el M0 i) c = dotF d (el A i) c := by
    intro i hi c
    unfold dotF
    exact sum_congr (fun q hq => by unfold el; rw [h1 i q hi hq])
  have hS := solvesAt hM0 (fun c hc => hinj c (fun i hi => by rw [← hel i hi]; exact hc i hi)) hl hm h (fun q => sum d (fun u => G.of (Z q u) * G.of (D u))) (fun i hi => by
    rw [hel i hi]
    unfold dotF
    rw [sum_congr (g := fun q => sum d (fun u => el A i q * G.of (Z q u) * G.of (D u))) (fun q hq => by rw [← sum_left]; exact sum_congr (fun u hu => (Fd.mul_assoc _ _ _).symm)), sum_comm]
    rw [sum_congr (g := fun u => G.of (idM i u) * G.of (D u)) (fun u hu => by rw [sum_scale]; congr 1; exact hs i hi u hu)]
    rw [sum_at (a := i) hi (fun u hu hne => by unfold idM; rw [if_neg (fun e => hne e.symm), G.of_zero, zero_mul])]
    unfold el idM
    rw [if_pos rfl, G.of_one, one_mul, h2 i hi])
  have hMb := h.byt hM0
  refine G.of_inj (dotN_byt hD d) (xorI_byt (hMb _ _) (gmI_byt (hMb _ _))) ?_
  have e1 := hS j (by omega)
  have e2 := hS (j + P) hj
  rw [of_xor (hMb _ _) (gmI_byt (hMb _ _)), of_gm (hMb _ _) hF]
  show G.of (dotN D _ d) = el M j l + el M (j + P) l * G.of F
  rw [e1, e2]
  have hdn : ∀ n, G.of (dotN D (fun q => mixY P Z F j q) n) = sum n (fun u => G.of (Z j u) * G.of (D u)) + sum n (fun u => G.of (Z (j + P) u) * G.of (D u)) * G.of F := by
    intro n
    rw [← sum_scale, ← sum_add]
    induction n with
    | zero => rfl
    | succ n ih =>
      show G.of (xorI (dotN D _ n) (gmI (D n) (mixY P Z F j n))) = sum n _ + _
      rw [of_xor (dotN_byt hD n) (gmI_byt (hD n)), of_gm (hD n) (mixY_byt hZ j n), ih]
      congr 1
      unfold mixY
      rw [of_xor (hZ _ _) (gmI_byt (hZ _ _)), of_gm (hZ _ _) hF, Fd.mul_add, Fd.mul_comm (G.of (D n))]
      congr 1
      rw [← Fd.mul_assoc, Fd.mul_comm (G.of (D n))]
  exact hdn d
end Go.Proofs.Ytcnfafappcbpnaa.Hl
/- Fragments: the program's N, Helpers, half, Fragment. -/
namespace Go.Proofs.Ytcnfafappcbpnaa.Str
open Go Go.RowKit Go.Proofs.Ytcnfafappcbpnaa.PHealFragments Go.Proofs.Ytcnfafappcbpnaa.BHealFragments Go.Proofs.Ytcnfafappcbpnaa.Gf Go.Proofs.Ytcnfafappcbpnaa.Gi Go.Proofs.Ytcnfafappcbpnaa.Bits Go.Proofs.Ytcnfafappcbpnaa.Mem Go.Proofs.Ytcnfafappcbpnaa.VPts Go.Proofs.Ytcnfafappcbpnaa.Rws Go.Proofs.YtcnfafappcbpnaaW.PrintWords Go.Proofs.YtcnfafappcbpnaaW.PrintLast
set_option linter.unusedVariables false

theorem mul_calls (a b : Int) (w : World) (ha : Byt a) (hb : Byt b) :
    Calls Try.prog 26 #[.int .u8 a, .int .u8 b] w fun e w' => e = .returned (.int .u8 (gmI a b)) ∧ ∃ n, w' = w.drewN n := by
  obtain ⟨x, hx, rfl⟩ := byt_nat ha
  obtain ⟨y, hy, rfl⟩ := byt_nat hb
  refine (gf_Mul.calls 9 x y _ w (gf_mul 9 x y hx hy (by decide))).mono ?_
  rintro e w' ⟨rfl, h⟩
  exact ⟨by simp [gmI], h.out⟩
theorem add_calls (a b : Int) (w : World) (ha : Byt a) (hb : Byt b) :
    Calls Try.prog 25 #[.int .u8 a, .int .u8 b] w fun e w' => e = .returned (.int .u8 (xorI a b)) ∧ ∃ n, w' = w.drewN n := by
  refine (gf_Add.calls a b _ w (show gf_Add.f a b = some (xorI a b) by unfold gf_Add.f; rw [xor_bits ha hb])).mono ?_
  rintro e w' ⟨rfl, h⟩
  exact ⟨rfl, h.out⟩
theorem refmul_calls (a b : Int) (w : World) (ha : Byt a) (hb : Byt b) :
    Calls Try.prog 30 #[.int .u8 a, .int .u8 b] w fun e w' => e = .returned (.int .u8 (gmI a b)) ∧ ∃ n, w' = w.drewN n := by
  obtain ⟨x, hx, rfl⟩ := byt_nat ha
  obtain ⟨y, hy, rfl⟩ := byt_nat hb
  refine (coldframeref02_Mul.calls 68 x y _ w (ref_mul 68 x y hx hy (by decide))).mono ?_
  rintro e w' ⟨rfl, h⟩
  exact ⟨by simp [gmI], h.out⟩
set_option maxRecDepth 100000 in
theorem n_any (v : Value) (n k : Nat) (w : World) (h : IsCode w v n k) :
    Calls Try.prog 22 #[v] w fun e w' => e = .returned (.int .i64 n) ∧ w' = w := by
  obtain ⟨b, A, c, rfl, h⟩ := h
  have h1 := (h.cell 0).trans rfl
  simp at h1
  go_enter Try.func22, Try.ntmps22
  go_wp2
  go_ret
  exact ⟨rfl, rfl⟩
set_option maxRecDepth 100000 in
theorem helpers_any (v : Value) (n k : Nat) (w : World) (h : IsCode w v n k) (h1 : 1 ≤ k) (h2 : k ≤ 100) :
    Calls Try.prog 27 #[v] w fun e w' => e = .returned (.int .i64 ((2 * k - 2 : Nat) : Int)) ∧ w' = w := by
  have H := Lib.hid h
  have e1 : IntKind.i64.wrap (2 * (k : Int)) = 2 * (k : Int) := IntWalk.i64_in _ (by omega)
  have e2 : IntKind.i64.wrap (2 * (k : Int) - 2) = ((2 * k - 2 : Nat) : Int) := by rw [IntWalk.i64_in _ (by omega)]; omega
  obtain ⟨q, hq⟩ : ∃ q, q = 2 * k - 2 := ⟨_, rfl⟩
  rw [← hq] at e2 ⊢
  have e3 : max (q : Int) 0 = (q : Int) := by omega
  clear h hq h1 h2
  go_enter Try.func27, Try.ntmps27
  go_wp2_with (go_at_call 28; (with_reducible refine (k_any _ _ _ _ H.out).mono ?_); rintro e w1 ⟨rfl, rfl⟩)
  go_ret
  exact ⟨rfl, rfl⟩
theorem pows_take (x m n : Nat) (h : m ≤ n) : (pows x n).take m = pows x m := by
  unfold pows
  rw [← List.map_take, List.take_range, Nat.min_eq_left h]
theorem R_new_block {w : World} {base n c : Nat} {ok : Nat → Prop} {A : Option Addr} {ad : Addr} {xs : List Int} (h : Kd.R (Kd.int .u8) 5 w base ok (.slice A n c) xs) (e : A = some ad) : base ≤ ad.block := by
  have h1 := Kd.own_of_R h
  rcases h1.2 with ⟨h2, _⟩ | ⟨g, cap, cur, h2, h3, _⟩
  · injection h2 with h2; rw [e] at h2; cases h2
  · injection h2 with h2; rw [e] at h2; injection h2 with h2; subst h2; exact h3
set_option maxRecDepth 100000 in
theorem half_any (v : Value) (n k slot : Nat) (w : World) (hc : IsCodeP w v n k) (k1 : 2 ≤ k) (k2 : k ≤ 8) (n2 : n ≤ 24) (hs : slot < n) :
    Calls Try.prog 24 #[v, .int .i64 slot] w fun e w' => ∃ A c, e = .returned (.slice A (k - 1) c) ∧ k - 1 ≤ c ∧ (Kd.int .u8).C w' A (k - 1) (pows (ptN n k slot) (k - 1)) ∧ (∀ ad, A = some ad → w.heap.size ≤ ad.block) ∧ Below w.heap.size w w' := by
  have RC := Lib.hid (row_any v n k slot w hc k1 k2 n2 hs)
  obtain ⟨i0, hi, hz⟩ := Option.map_eq_some_iff.1 VPts.info_byte
  simp only [Prod.mk.injEq] at hz
  obtain ⟨x, hx⟩ : ∃ x, x = ptN n k slot := ⟨_, rfl⟩
  rw [← hx] at RC ⊢
  obtain ⟨a, ha⟩ : ∃ a, a = k - 1 := ⟨_, rfl⟩
  obtain ⟨m, hm⟩ : ∃ m, m = 2 * k - 2 := ⟨_, rfl⟩
  have KC := Lib.hid (fun (A : Option Addr) (c : Nat) (hcm : m ≤ c) => show (∀ w : World, (Kd.int .u8).C w A m (pows x m) → (Kd.int .u8).C w A a (pows x a)) by
    have h := print_take_int (k := .u8) 22 5 Try.underlying22 hi hz.2.1 A c (pows x m) ((m : Int) / 2) (by omega) (by rw [pows_len]; omega) (by rw [pows_len]; exact hcm)
    rw [show ((m : Int) / 2).toNat = a by omega, pows_take x a m (by omega), pows_len, pows_len] at h
    exact fun w hC => Kd.C_of_reads (d := (0 : Int)) (h.2.1 w (Kd.reads_of_C (d := (0 : Int)) hC)))
  have q1 : (m : Int) ≤ 14 := by omega
  have q2 : ((m : Int) / 2).toNat = a := by omega
  rw [← ha]
  rw [← hm] at RC
  have HM := Lib.hid (show a ≤ m by omega)
  clear hx ha hm k1 k2 n2 hs hc hi hz
  go_enter Try.func24, Try.ntmps24
  go_wp2_with (go_at_call 32; (with_reducible refine RC.out.mono ?_); rintro e w1 ⟨A5, c5, rfl, hr, hb⟩; obtain ⟨hzz, hle, hC⟩ := Kd.R_reads' hr; clear hzz; rw [pows_len] at hC; have HC := Lib.hid hC; have HL := Lib.hid hle; have q3 : (m : Int) / 2 ≤ (c5 : Int) := (by omega); have q4 : (0 : Int) ≤ (m : Int) / 2 := (by omega); have HB := Lib.hid hb; have HAD := Lib.hid (fun ad (e : A5 = some ad) => R_new_block hr e); clear hr hb hC hle)
  go_ret
  exact ⟨A5, c5, rfl, by have := HL.out; have := HM.out; omega, KC.out A5 c5 HL.out _ HC.out, HAD.out, HB.out⟩
/-- What a helper sends. -/
def fragTo (x m sz : Nat) (sh : List Int) (i : Nat) : Int := dotN (fun j => ((gp x j : Nat) : Int)) (fun j => sh.getD (j * sz + i) 0) m
def fragL (x m sz : Nat) (sh : List Int) : List Int := line sz (fragTo x m sz sh)
theorem fragTo_succ (x m sz : Nat) (sh : List Int) (i : Nat) : fragTo x (m + 1) sz sh i = xorI (fragTo x m sz sh i) (gmI ((gp x m : Nat) : Int) (sh.getD (m * sz + i) 0)) := rfl
theorem gp_byt (x j : Nat) (hx : x < 256) : Byt ((gp x j : Nat) : Int) := by have := gp_lt x hx j; exact ⟨by omega, by omega⟩
theorem fragTo_byt (x m sz : Nat) (sh : List Int) (i : Nat) (hx : x < 256) : Byt (fragTo x m sz sh i) := dotN_byt (fun j => gp_byt x j hx) m
/-- Fragments on the way: of the first i places m + 1 terms, of the others m. -/
def fragMid (x m sz : Nat) (sh : List Int) (i : Nat) : List Int := line sz (fun i' => if i' < i then fragTo x (m + 1) sz sh i' else fragTo x m sz sh i')
end Go.Proofs.Ytcnfafappcbpnaa.Str
/- Fragments: the program's Fragment. -/
namespace Go.Proofs.Ytcnfafappcbpnaa.Str
open Go Go.RowKit Go.Proofs.Ytcnfafappcbpnaa.PHealFragments Go.Proofs.Ytcnfafappcbpnaa.BHealFragments Go.Proofs.Ytcnfafappcbpnaa.Gf Go.Proofs.Ytcnfafappcbpnaa.Gi Go.Proofs.Ytcnfafappcbpnaa.Bits Go.Proofs.Ytcnfafappcbpnaa.Mem Go.Proofs.Ytcnfafappcbpnaa.VPts Go.Proofs.Ytcnfafappcbpnaa.Rws Go.Proofs.YtcnfafappcbpnaaW.PrintWords Go.Proofs.YtcnfafappcbpnaaW.PrintLast
set_option linter.unusedVariables false

theorem fragMid_zero (x m sz : Nat) (sh : List Int) : fragMid x m sz sh 0 = fragL x m sz sh := line_congr sz _ _ (fun i hi => by rw [if_neg (Nat.not_lt_zero i)])
theorem fragMid_full (x m sz : Nat) (sh : List Int) : fragMid x m sz sh sz = fragL x (m + 1) sz sh := line_congr sz _ _ (fun i hi => by rw [if_pos hi])
theorem fragMid_set (x m sz : Nat) (sh : List Int) (i : Nat) (hi : i < sz) : (fragMid x m sz sh i).set i (fragTo x (m + 1) sz sh i) = fragMid x m sz sh (i + 1) := by
  unfold fragMid
  rw [line_set sz _ i hi]
  refine line_congr sz _ _ (fun k hk => ?_)
  by_cases e : k = i
  · subst e; rw [if_pos rfl, if_pos (by omega)]
  · rw [if_neg e]
    by_cases h : k < i
    · rw [if_pos h, if_pos (by omega)]
    · rw [if_neg h, if_neg (by omega)]
theorem fragMid_get (x m sz : Nat) (sh : List Int) (i : Nat) (hi : i < sz) : (fragMid x m sz sh i).getD i 0 = fragTo x m sz sh i := by
  unfold fragMid
  rw [line_get sz _ i hi, if_neg (Nat.lt_irrefl i)]
theorem fragMid_len (x m sz : Nat) (sh : List Int) (i : Nat) : (fragMid x m sz sh i).length = sz := line_len _ _
theorem fragL_len (x m sz : Nat) (sh : List Int) : (fragL x m sz sh).length = sz := line_len _ _
theorem fragL_zero (x sz : Nat) (sh : List Int) : fragL x 0 sz sh = List.replicate sz 0 := line_zero sz
theorem at_row {w : World} {A : Option Addr} {n : Nat} {xs : List Int} (h : (Kd.int .u8).C w A n xs) (i : Nat) (hi : i < n) : ∃ ad, A = some ad ∧ w.cell? (ad.add i) = some (.int .u8 (xs.getD i 0)) := by
  obtain ⟨ad, e, hc⟩ := Kd.at_int h (i : Int) (by omega) (by omega)
  simp only [Int.toNat_natCast] at hc
  exact ⟨ad, e, by simpa [rd] using hc⟩
/-- A row's cells. -/
def RowAt (w : World) (ad : Addr) (n : Nat) (xs : List Int) : Prop := ∀ j, j < n → w.cell? (ad.add j) = some (.int .u8 (xs.getD j 0))
theorem RowAt.of {w : World} {A : Option Addr} {n : Nat} {xs : List Int} (h : (Kd.int .u8).C w A n xs) (hn : 0 < n) : ∃ ad, A = some ad ∧ RowAt w ad n xs := by
  obtain ⟨ad, e, _⟩ := at_row h 0 hn
  refine ⟨ad, e, fun j hj => ?_⟩
  obtain ⟨ad', e', hc⟩ := at_row h j hj
  rw [e] at e'
  injection e' with e'
  subst e'
  exact hc
theorem RowAt.far {w : World} {ad : Addr} {n : Nat} {xs : List Int} (h : RowAt w ad n xs) {p : Addr} (hp : ad.block ≠ p.block) (u : Value) : RowAt (w.setCell p u) ad n xs :=
  fun j hj => (World.cell?_setCell_other w p (ad.add j) u (fun e => hp (by rw [e, block_of_add]))).trans (h j hj)
theorem RowAt.drewN {w : World} {ad : Addr} {n : Nat} {xs : List Int} (h : RowAt w ad n xs) (q : Nat) : RowAt (w.drewN q) ad n xs := h
theorem RowAt.drew {w : World} {ad : Addr} {n : Nat} {xs : List Int} (h : RowAt w ad n xs) : RowAt w.drew ad n xs := h
theorem pows_get (x n i : Nat) (hi : i < n) : (pows x n).getD i 0 = ((gp x i : Nat) : Int) := by simp [pows, List.getD_eq_getElem?_getD, hi]
set_option maxRecDepth 100000 in
set_option maxHeartbeats 4000000 in
theorem fragment_good (v : Value) (n k lost sz L : Nat) (A0 : Option Addr) (c0 : Nat) (sh : List Int) (w : World) (hc : IsCodeP w v n k) (k1 : 2 ≤ k) (k2 : k ≤ 8) (n2 : n ≤ 24) (hs : lost < n)
    (hr : (Kd.int .u8).C w A0 L sh) (hL : L = sh.length) (hLs : L = (k - 1) * sz) (hsz : 1 ≤ sz) (hL1 : L ≤ 1000) (hbyt : ∀ x ∈ sh, Byt x) :
    Calls Try.prog 10 #[v, .int .i64 lost, .slice A0 L c0] w fun e w' => ∃ A c, e = .returned (.tuple #[.slice A sz c, .int .i64 0]) ∧ (Kd.int .u8).C w' A sz (fragL (ptN n k lost) (k - 1) sz sh) ∧ Below w.heap.size w w' := by
  have NN := Lib.hid (fun W (hB : Below w.heap.size w W) => n_any v n k W (hc.below hB).code)
  have PP := Lib.hid (fun W (hB : Below w.heap.size w W) => parts_any v n k W (hc.below hB).code (by omega) (by omega))
  have HF := Lib.hid (fun W (hB : Below w.heap.size w W) => half_any v n k lost W (hc.below hB) k1 k2 n2 hs)
  have hx2 := ptN_lt n k lost
  obtain ⟨x, hx⟩ : ∃ x, x = ptN n k lost := ⟨_, rfl⟩
  rw [← hx] at HF hx2 ⊢
  obtain ⟨a, ha⟩ : ∃ a, a = k - 1 := ⟨_, rfl⟩
  rw [← ha] at PP HF hLs ⊢
  have a1 : 1 ≤ a := by omega
  have a7 : a ≤ 7 := by omega
  have HS := Lib.hid (fun W (hB : Below w.heap.size w W) => Kd.C_below hr hB)
  have HBY := Lib.hid hbyt
  have HX := Lib.hid hx2
  have l1 : (1 : Int) ≤ (L : Int) := by have := Nat.mul_le_mul a1 hsz; omega
  have sz1 : sz ≤ L := by rw [hLs]; exact Nat.le_mul_of_pos_left sz (by omega)
  have d1 : (L : Int) % (a : Int) = 0 := by rw [hLs, Int.natCast_mul]; exact Int.mul_emod_right _ _
  have d2 : (L : Int) / (a : Int) = (sz : Int) := by rw [hLs, Int.natCast_mul, Int.mul_comm]; exact Int.mul_ediv_cancel _ (by omega)
  have t1 : ¬ (n : Int) ≤ (lost : Int) := by omega
  have t2 : (lost : Int) < (n : Int) := by omega
  have t3 : ((L : Int) == 0) = false := by simp; omega
  have t4 : decide ((lost : Int) < 0) = false := by simp
  obtain ⟨b, A, c, rfl, _⟩ := hc
  have HLS := Lib.hid hLs
  have HB0 := Lib.hid (Below.refl w.heap.size w)
  clear hx ha k1 k2 n2 hs hr hL hLs hbyt hx2
  go_enter Try.func10, Try.ntmps10
  go_upto_region 3 with (first
    | (go_at_call 22; (with_reducible refine (NN.out _ (Below.refl _ _)).mono ?_); rintro e w ⟨rfl, rfl⟩)
    | (go_at_call 23; (with_reducible refine (PP.out _ (Below.refl _ _)).mono ?_); rintro e w ⟨rfl, rfl⟩))
  have hmk : ∀ W : World, True := fun _ => trivial
  go_upto_region 6 with (first
    | (go_at_call 23; (with_reducible refine (PP.out _ (Below.refl _ _)).mono ?_); rintro e w ⟨rfl, rfl⟩)
    | (at_make; refine Kd.R_make (Kd.int .u8) w.heap.size 5 rfl (N := 44) rfl 22 _ _ rfl (sz : Int) rfl rfl Try.underlying22 (.int .u8 0) 1 VPts.info_byte rfl (by decide) (by decide) 0 (ok := fun _ => True) (okp := fun _ => True) rfl (fun _ hk => hk) trivial (by omega) (by omega) (Below.refl _ _) (Nat.le_refl _) ?_; intro v3 w3 h3 hb3 hg3 hf3; simp only [Int.toNat_natCast] at h3; obtain ⟨g, c3, hv3, hgb, _, _, _⟩ := Kd.R_form h3 (by rw [List.length_replicate]; exact hsz); rw [List.length_replicate] at hv3; subst hv3; have HO := Lib.hid h3; have HB3 := Lib.hid hb3; have HGB := Lib.hid hgb; clear h3 hb3 hg3 hf3 hgb)
    | (go_at_call 24; (with_reducible refine (HF.out _ HB3.out).mono ?_); rintro e w4 ⟨A4, c4, rfl, hc4, hC4, had, hb⟩; have HAD := Lib.hid had; have HR4 := Lib.hid hC4; have HGL := Lib.hid (Kd.R_lt HO.out g rfl); have HO4 := Lib.hid (Kd.R_below HO.out hb); have HB4 := Lib.hid (HB3.out.trans (hb.mono HB3.out.size)); clear hc4 hC4 had hb))
  obtain ⟨ad4, rfl, hrow⟩ := RowAt.of HR4.out (by omega)
  have HROW := Lib.hid hrow
  have HNE := Lib.hid (show ad4.block ≠ g from by have h1 : w3.heap.size ≤ ad4.block := HAD.out ad4 rfl; have h2 : g < w3.heap.size := HGL.out; omega)
  have HO5 := Lib.hid (show Kd.R (Kd.int .u8) 5 w4 w.heap.size (fun _ => True) (.slice (some ⟨g, 0, none⟩) sz c3) (fragL x 0 sz sh) by rw [fragL_zero]; exact HO4.out)
  clear hrow HR4 HO HO4 HAD HGL
  go_loopw [49, 10, 11, 12] (fun iv _ _ _ wr => ∃ (m : Nat), m ≤ a ∧ iv = .int .i64 m ∧ Hid (Kd.R (Kd.int .u8) 5 wr w.heap.size (fun _ => True) (.slice (some ⟨g, 0, none⟩) sz c3) (fragL x m sz sh)) ∧ Hid (RowAt wr ad4 a (pows x a)) ∧ Hid (Below w.heap.size w wr)) (fun iv _ _ _ _ => a - (intOf iv).toNat)
  case atStart => exact ⟨0, by omega, rfl, HO5, HROW, HB4⟩
  case round =>
    clear HO5 HROW HB4
    obtain ⟨m, hm, rfl, HO5, HROW, HB4⟩ := hrel
    by_cases hlt : m < a
    · have hcell := HROW.out m hlt
      rw [pows_get x a m hlt] at hcell
      have e0 : (0 : Int) ≤ (m : Int) := by omega
      have e1 : (m : Int) < (a : Int) := by omega
      obtain ⟨f, hf⟩ : ∃ f, f = ((gp x m : Nat) : Int) := ⟨_, rfl⟩
      have hfb : Byt f := by rw [hf]; exact gp_byt x m HX.out
      rw [← hf] at hcell
      have HFF := Lib.hid hf
      have HFB := Lib.hid hfb
      obtain ⟨po, hpo⟩ : ∃ po, po = m * sz := ⟨_, rfl⟩
      have hpl : po + sz ≤ L := by
        have h1 := HLS.out
        have h2 : (m + 1) * sz ≤ a * sz := Nat.mul_le_mul_right sz hlt
        rw [Nat.add_mul, Nat.one_mul] at h2
        omega
      have e2 : IntKind.i64.wrap ((m : Int) * (sz : Int)) = (po : Int) := by rw [hpo, ← Int.natCast_mul]; exact IntWalk.i64_in _ (by omega)
      have HPO := Lib.hid hpo
      clear hf hfb hpo
      go_upto_region 9 with (fail)
      obtain ⟨wo, hwo⟩ : ∃ wo : World, wo = wr := ⟨_, rfl⟩
      have HM0 := Lib.hid (show Kd.R (Kd.int .u8) 5 wr w.heap.size (fun _ => True) (.slice (some ⟨g, 0, none⟩) sz c3) (fragMid x m sz sh 0) by rw [fragMid_zero]; exact HO5.out)
      clear hcell hwo HO5
      go_loopw [56, 12] (fun iv _ wr => ∃ (i : Nat), i ≤ sz ∧ iv = .int .i64 i ∧ Hid (Kd.R (Kd.int .u8) 5 wr w.heap.size (fun _ => True) (.slice (some ⟨g, 0, none⟩) sz c3) (fragMid x m sz sh i)) ∧ Hid (RowAt wr ad4 a (pows x a)) ∧ Hid (Below w.heap.size w wr)) (fun iv _ _ => sz - (intOf iv).toNat)
      case atStart => exact ⟨0, by omega, rfl, HM0, HROW, HB4⟩
      case round =>
        clear HM0 HROW HB4
        obtain ⟨i, hi, rfl, HO5, HROW, HB4⟩ := hrel
        by_cases hli : i < sz
        · obtain ⟨t1', t2'⟩ := Kd.R_celln (0 : Int) HO5.out (i : Int) (by omega) (by omega)
          have t3' : rdOf (0 : Int) (fragMid x m sz sh i) (i : Int) = fragTo x m sz sh i := by
            rw [← fragMid_get x m sz sh i hli]; simp [rdOf]
          rw [t3'] at t1'
          obtain ⟨ad0, hA0, hcell⟩ := at_row (HS.out _ HB4.out) (po + i) (by omega)
          have hpn := fun q => Kd.R_putn (Kd.R_drewN HO5.out q) (i : Int) (fragTo x (m + 1) sz sh i)
          simp only [Int.toNat_natCast] at t1' t2' hpn
          rw [fragMid_set x m sz sh i hli] at hpn
          have hfs := fragTo_succ x m sz sh i
          rw [← HPO.out, ← HFF.out] at hfs
          have hyb := fragTo_byt x m sz sh i HX.out
          have hzb := getD_byt HBY.out (po + i)
          obtain ⟨y, hy⟩ : ∃ y, y = fragTo x m sz sh i := ⟨_, rfl⟩
          obtain ⟨z, hz⟩ : ∃ z, z = sh.getD (po + i) 0 := ⟨_, rfl⟩
          rw [← hy] at t1' hfs hyb
          rw [← hz] at hcell hfs hzb
          rw [hfs, gmI_comm HFB.out hzb] at hpn
          have HZB := Lib.hid hzb
          have HYB := Lib.hid hyb
          have HPN := Lib.hid hpn
          have HBn := Lib.hid (fun q => (pw_below_drewN HB4.out q).setCell (p := ⟨g, i, none⟩) HGB.out (.int .u8 (xorI y (gmI z f))))
          have HRn := Lib.hid (fun q => (HROW.out.drewN q).far (p := ⟨g, i, none⟩) HNE.out (.int .u8 (xorI y (gmI z f))))
          subst hA0
          have g0 : (0 : Int) ≤ (i : Int) := by omega
          have g1 : (i : Int) < (sz : Int) := by omega
          have g2 : IntKind.i64.wrap ((po : Int) + (i : Int)) = (po : Int) + (i : Int) := IntWalk.i64_in _ (by omega)
          have g3 : (0 : Int) ≤ (po : Int) + (i : Int) := by omega
          have g4 : (po : Int) + (i : Int) < (L : Int) := by omega
          have g5 : ((po : Int) + (i : Int)).toNat = po + i := by omega
          clear hy hz hfs hyb hzb t3' hpn
          go_wp2
          refine wp_region_still_tail 18 (by kernel_rfl) (by kernel_rfl) ?_
          change wpStill _ _ (wr.drewN 1) (fun a' => wpList _ _ _ _ a' (wr.drewN 1)) _ _
          simp only [List.take_succ_cons, List.take_zero, List.drop_succ_cons, List.drop_zero]
          iterate 15 still_step
          still_call (mul_still z f (wr.drewN 1) HZB.out HFB.out)
          still_call (add_still y (gmI z f) (wr.drewN 1) HYB.out (gmI_byt HZB.out))
          still_step
          refine wpStill_nil ?_
          go_wp2
          go_roundw
          case rel => exact ⟨i + 1, by omega, by go_num, Lib.hid (HPN.out 1), Lib.hid (HRn.out 1), Lib.hid (HBn.out 1)⟩
          case measure => simp [intOf]; omega
        · obtain rfl : i = sz := by omega
          go_wp2
          go_roundw
          case rel => exact ⟨m + 1, by omega, by go_num, Lib.hid (by rw [← fragMid_full]; exact HO5.out), HROW, HB4⟩
          case measure => simp [intOf]; omega
    · obtain rfl : m = a := by omega
      go_wp2
      go_ret2
      exact ⟨_, _, rfl, (Kd.R_reads' HO5.out).2.2 |> fun h => by rw [fragL_len] at h; exact h, HB4.out⟩
end Go.Proofs.Ytcnfafappcbpnaa.Str
/- Fragments: the document's. -/
namespace Go.Proofs.Ytcnfafappcbpnaa.Str
open Go Go.RowKit Go.Proofs.Ytcnfafappcbpnaa.PHealFragments Go.Proofs.Ytcnfafappcbpnaa.BHealFragments Go.Proofs.Ytcnfafappcbpnaa.Gf Go.Proofs.Ytcnfafappcbpnaa.Gi Go.Proofs.Ytcnfafappcbpnaa.Bits Go.Proofs.Ytcnfafappcbpnaa.Mem Go.Proofs.Ytcnfafappcbpnaa.VPts Go.Proofs.Ytcnfafappcbpnaa.Rws Go.Proofs.YtcnfafappcbpnaaW.PrintWords Go.Proofs.YtcnfafappcbpnaaW.PrintLast
set_option linter.unusedVariables false

theorem rowsN_get {w : World} {A : Option Addr} {n : Nat} {ls : List (List Int)} (h : Kd.C kRow w A n ls) (i : Nat) (hi : i < n) :
    ∃ ad A0 c0, A = some ad ∧ w.cell? (ad.add i) = some (.slice A0 (ls.getD i []).length c0) ∧ (ls.getD i []).length ≤ c0 ∧ (Kd.int .u8).C w A0 (ls.getD i []).length (ls.getD i []) := by
  obtain ⟨ad, c, e, _, hK, hc0⟩ := Kd.C_get h [] (i : Int) (by omega) (by omega)
  obtain ⟨A0, c0, rfl, l0, g0⟩ := hK
  refine ⟨ad, A0, c0, e, ?_, l0, g0⟩
  have hq := hc0 0 _ rfl
  simpa [Kd.slice] using hq
theorem rows_row {w : World} {A : Option Addr} {n k : Nat} (h : Kd.C kRow w A n (rowsM n k n)) (i : Nat) (hi : i < n) :
    ∃ ad A0 c0, A = some ad ∧ w.cell? (ad.add i) = some (.slice A0 (2 * k - 2) c0) ∧ 2 * k - 2 ≤ c0 ∧ (Kd.int .u8).C w A0 (2 * k - 2) (pows (ptN n k i) (2 * k - 2)) := by
  obtain ⟨ad, A0, c0, e, h1, h2, h3⟩ := rowsN_get h i hi
  rw [rowsM_get n k n i hi, pows_len] at h1 h2 h3
  exact ⟨ad, A0, c0, e, h1, h2, h3⟩
theorem fragL_succ (x m sz i : Nat) (sh : List Int) : line (i + 1) (fragTo x m sz sh) = line i (fragTo x m sz sh) ++ [fragTo x m sz sh i] := line_succ _ _
set_option maxRecDepth 100000 in
set_option maxHeartbeats 4000000 in
theorem reffrag_any (n k lost sz L : Nat) (A0 : Option Addr) (c0 : Nat) (sh : List Int) (w : World) (k1 : 2 ≤ k) (k2 : k ≤ 8) (n2 : n ≤ 24) (hs : lost < n)
    (hr : (Kd.int .u8).C w A0 L sh) (hL : L = sh.length) (hLs : L = (k - 1) * sz) (hsz : 1 ≤ sz) (hL1 : L ≤ 1000) (hbyt : ∀ x ∈ sh, Byt x) :
    Calls Try.prog 12 #[.int .i64 n, .int .i64 k, .int .i64 lost, .slice A0 L c0] w fun e w' => ∃ A c, e = .returned (.slice A sz c) ∧ (Kd.int .u8).C w' A sz (fragL (ptN n k lost) (k - 1) sz sh) ∧ Below w.heap.size w w' := by
  have RW := Lib.hid (rows_calls n k w k1 k2 n2)
  have hx2 := ptN_lt n k lost
  obtain ⟨x, hx⟩ : ∃ x, x = ptN n k lost := ⟨_, rfl⟩
  rw [← hx] at hx2 ⊢
  obtain ⟨a, ha⟩ : ∃ a, a = k - 1 := ⟨_, rfl⟩
  rw [← ha] at hLs ⊢
  have a1 : 1 ≤ a := by omega
  have a7 : a ≤ 7 := by omega
  have ka : a < 2 * k - 2 := by omega
  have HS := Lib.hid (fun W (hB : Below w.heap.size w W) => Kd.C_below hr hB)
  have HBY := Lib.hid hbyt
  have HX := Lib.hid hx2
  have HKA := Lib.hid ka
  have sz1 : sz ≤ L := by rw [hLs]; exact Nat.le_mul_of_pos_left sz (by omega)
  have d0 : IntKind.i64.wrap ((k : Int) - 1) = (a : Int) := by rw [IntWalk.i64_in _ (by omega)]; omega
  have d2 : (L : Int) / (a : Int) = (sz : Int) := by rw [hLs, Int.natCast_mul, Int.mul_comm]; exact Int.mul_ediv_cancel _ (by omega)
  have t0 : (0 : Int) ≤ (lost : Int) := by omega
  have t2 : (lost : Int) < (n : Int) := by omega
  have HLN := Lib.hid hs
  have HLS := Lib.hid hLs
  have HXE := Lib.hid hx
  clear hx ha k1 k2 n2 hs hr hL hLs hbyt hx2 ka
  go_enter Try.func12, Try.ntmps12
  go_upto_region 5 with (go_at_call 29; (with_reducible refine RW.out.mono ?_); rintro e w1 ⟨A1, c1, rfl, hc1, hC1, hb⟩; obtain ⟨ad1, A9, c9, rfl, hcell, hl9, hC9⟩ := rows_row hC1 lost HLN.out; rw [← HXE.out] at hC9; have HC9 := Lib.hid hC9; have HB1 := Lib.hid hb; clear hc1 hC1 hb hC9 hl9)
  clear hcell
  obtain ⟨q, hq⟩ : ∃ q, q = 2 * k - 2 := ⟨_, rfl⟩
  rw [← hq] at HC9 HKA ⊢
  clear hq RW
  go_loopw [11, 12, 13, 14] (fun u0 iv _ _ wr => ∃ (i : Nat) (u : Value), u0 = u ∧ i ≤ sz ∧ iv = .int .i64 i ∧ Hid (Kd.R (Kd.int .u8) 5 wr w1.heap.size (fun _ => True) u (line i (fragTo x a sz sh))) ∧ Hid (Below w1.heap.size w1 wr)) (fun _ iv _ _ _ => sz - (intOf iv).toNat)
  case atStart => exact ⟨0, _, rfl, by omega, rfl, Lib.hid (Kd.R_nil _ _ _ _ _), Lib.hid (Below.refl _ _)⟩
  case round =>
    obtain ⟨i, u, rfl, hi, rfl, HO, HB2⟩ := hrel
    by_cases hlt : i < sz
    · have g0 : (i : Int) < (sz : Int) := by omega
      go_upto_region 9 with (fail)
      go_loopw [13, 14] (fun s jv wr' => ∃ (j : Nat), j ≤ a ∧ jv = .int .i64 j ∧ s = .int .u8 (fragTo x j sz sh i) ∧ Hid (Kd.R (Kd.int .u8) 5 wr' w1.heap.size (fun _ => True) u11 (line i (fragTo x a sz sh))) ∧ Hid (Below w1.heap.size w1 wr')) (fun _ jv _ => a - (intOf jv).toNat)
      case atStart => exact ⟨0, by omega, rfl, rfl, HO, HB2⟩
      case round =>
        clear HO HB2
        obtain ⟨j, hj, rfl, rfl, HO, HB2⟩ := hrel
        by_cases hja : j < a
        · have hB := HB2.out
          have hBw := HB1.out.trans (hB.mono HB1.out.size)
          obtain ⟨po, hpo⟩ : ∃ po, po = j * sz := ⟨_, rfl⟩
          have hpl : po + sz ≤ L := by
            have h1 := HLS.out
            have h2 : (j + 1) * sz ≤ a * sz := Nat.mul_le_mul_right sz hja
            rw [Nat.add_mul, Nat.one_mul] at h2
            omega
          have e2 : IntKind.i64.wrap ((j : Int) * (sz : Int)) = (po : Int) := by rw [hpo, ← Int.natCast_mul]; exact IntWalk.i64_in _ (by omega)
          obtain ⟨adr, rfl, hc1⟩ := at_row (Kd.C_below HC9.out hB) j (by have := HKA.out; omega)
          obtain ⟨ads, rfl, hc2⟩ := at_row (HS.out _ hBw) (po + i) (by omega)
          rw [pows_get x q j (by have := HKA.out; omega)] at hc1
          have hfs := fragTo_succ x j sz sh i
          rw [← hpo] at hfs
          have hyb := fragTo_byt x j sz sh i HX.out
          have hzb := getD_byt HBY.out (po + i)
          have hgb := gp_byt x j HX.out
          obtain ⟨y, hy⟩ : ∃ y, y = fragTo x j sz sh i := ⟨_, rfl⟩
          obtain ⟨z, hz⟩ : ∃ z, z = sh.getD (po + i) 0 := ⟨_, rfl⟩
          obtain ⟨f, hf⟩ : ∃ f, f = ((gp x j : Nat) : Int) := ⟨_, rfl⟩
          rw [← hy] at hfs hyb ⊢
          rw [← hz] at hc2 hfs hzb
          rw [← hf] at hc1 hfs hgb
          have hxb := xor_bits hyb (gmI_byt (b := z) hgb)
          rw [← hfs] at hxb
          have MC := Lib.hid (fun W => refmul_calls f z W hgb hzb)
          have g2 : IntKind.i64.wrap ((po : Int) + (i : Int)) = (po : Int) + (i : Int) := IntWalk.i64_in _ (by omega)
          have g3 : (0 : Int) ≤ (po : Int) + (i : Int) := by omega
          have g4 : (po : Int) + (i : Int) < (L : Int) := by omega
          have g5 : ((po : Int) + (i : Int)).toNat = po + i := by omega
          have g6 : (j : Int) < (a : Int) := by omega
          have g7 : (0 : Int) ≤ (j : Int) := by omega
          have g8 : (j : Int) < (q : Int) := by have := HKA.out; omega
          have HXB := Lib.hid hxb
          clear hB hBw hpo hfs hyb hzb hgb hy hz hf hxb
          go_wp2
          go_quiet ((go_at_call 30; (with_reducible refine (MC.out _).mono ?_); rintro e w' ⟨rfl, ⟨nd, rfl⟩⟩; (first | exact ⟨rfl, _, World.drewN_drewN _ _ _⟩ | exact ⟨rfl, _, Eq.trans (World.drewN_drewN _ _ _) (congrArg (World.drewN _) (Nat.add_assoc _ _ _))⟩ | exact ⟨rfl, _, rfl⟩)))
          rw [HXB.out]
          go_wp2
          go_roundw
          case rel => exact ⟨j + 1, by omega, by go_num, rfl, Lib.hid (Kd.R_drewN HO.out _), Lib.hid (pw_below_drewN HB2.out _)⟩
          case measure => simp [intOf]; omega
        · obtain rfl : j = a := by omega
          obtain ⟨y, hy⟩ : ∃ y, y = fragTo x j sz sh i := ⟨_, rfl⟩
          rw [← hy]
          have HY := Lib.hid hy
          clear hy
          go_wp2_with (at_builtin; refine byte_append (w0 := w1) rfl w1.heap.size rfl _ _ rfl u11 (line i (fragTo x j sz sh)) y (fun _ => True) rfl rfl HO.out (fun _ _ => trivial) HB2.out HB2.out.size (by rw [line_len]; omega) ?_; intro v1 w2 hr2 hb2 hg2; have HR3 := Lib.hid hr2; have HB3 := Lib.hid hb2; clear hr2 hb2 hg2)
          go_roundw
          case rel => exact ⟨i + 1, _, rfl, by omega, by go_num, Lib.hid (by rw [fragL_succ, ← HY.out]; exact HR3.out), HB3⟩
          case measure => simp [intOf]; omega
    · obtain rfl : i = sz := by omega
      obtain ⟨A7, c7, rfl, hl7, hC7⟩ := Kd.R_reads HO.out
      rw [line_len] at hC7 ⊢
      have HC7 := Lib.hid hC7
      clear hl7 hC7
      go_wp2
      go_ret
      exact ⟨A7, c7, rfl, HC7.out, HB1.out.trans (HB2.out.mono HB1.out.size)⟩
end Go.Proofs.Ytcnfafappcbpnaa.Str
/- Fragments: the program's factor and fold, walked. -/
namespace Go.Proofs.Ytcnfafappcbpnaa.Hl
open Go Go.RowKit Go.Proofs.Ytcnfafappcbpnaa.Gf Go.Proofs.Ytcnfafappcbpnaa.Gi Go.Proofs.Ytcnfafappcbpnaa.Bits Go.Proofs.Ytcnfafappcbpnaa.Mem Go.Proofs.Ytcnfafappcbpnaa.Alg Go.Proofs.Ytcnfafappcbpnaa.Sol Go.Proofs.Ytcnfafappcbpnaa.VPts Go.Proofs.Ytcnfafappcbpnaa.Str Go.Proofs.Ytcnfafappcbpnaa.Rws Go.Proofs.Ytcnfafappcbpnaa.Par Go.Proofs.Ytcnfafappcbpnaa.BHealFragments Go.Proofs.YtcnfafappcbpnaaW.PrintWords
set_option linter.unusedVariables false

/-- What stands where, in the round over part a, helper q, byte i. -/
def FF (sz : Nat) (T : Nat → Nat → Nat → Int) (d a q i : Nat) : Nat → Int := fun pos =>
  if pos < a * sz then T (pos / sz) (pos % sz) d else if pos < a * sz + i then T a (pos - a * sz) (q + 1) else if pos < (a + 1) * sz then T a (pos - a * sz) q else 0
theorem suc_mul (a sz : Nat) : (a + 1) * sz = a * sz + sz := by rw [Nat.add_mul, Nat.one_mul]
theorem FF_start (sz d L : Nat) (T : Nat → Nat → Nat → Int) (h0 : ∀ j i, T j i 0 = 0) : line L (FF sz T d 0 0 0) = List.replicate L 0 := by
  rw [← line_zero]
  refine line_congr L _ _ (fun pos _ => ?_)
  unfold FF
  rw [Nat.zero_mul, if_neg (by omega), if_neg (by omega)]
  split
  · exact h0 _ _
  · rfl
theorem FF_get (sz d a q i : Nat) (T : Nat → Nat → Nat → Int) (hi : i < sz) : FF sz T d a q i (a * sz + i) = T a i q := by
  unfold FF
  rw [suc_mul, if_neg (by omega), if_neg (by omega), if_pos (by omega), Nat.add_sub_cancel_left]
theorem FF_step (sz d a q i L : Nat) (T : Nat → Nat → Nat → Int) (hi : i < sz) (hL : a * sz + i < L) : (line L (FF sz T d a q i)).set (a * sz + i) (T a i (q + 1)) = line L (FF sz T d a q (i + 1)) := by
  rw [line_set L _ _ hL]
  refine line_congr L _ _ (fun pos _ => ?_)
  unfold FF
  rw [suc_mul]
  by_cases e : pos = a * sz + i
  · rw [if_pos e, if_neg (by omega), if_pos (by omega), e, Nat.add_sub_cancel_left]
  · rw [if_neg e]
    by_cases h1 : pos < a * sz
    · rw [if_pos h1, if_pos h1]
    · rw [if_neg h1, if_neg h1]
      by_cases h2 : pos < a * sz + i
      · rw [if_pos h2, if_pos (by omega)]
      · rw [if_neg h2, if_neg (show ¬ pos < a * sz + (i + 1) by omega)]
theorem FF_row (sz d a q L : Nat) (T : Nat → Nat → Nat → Int) : line L (FF sz T d a q sz) = line L (FF sz T d a (q + 1) 0) := by
  refine line_congr L _ _ (fun pos _ => ?_)
  unfold FF
  rw [suc_mul]
  by_cases h1 : pos < a * sz
  · rw [if_pos h1, if_pos h1]
  · rw [if_neg h1, if_neg h1]
    by_cases h2 : pos < a * sz + sz
    · rw [if_pos h2, if_neg (by omega), if_pos h2]
    · rw [if_neg h2, if_neg h2, if_neg (by omega), if_neg h2]
theorem FF_next (sz d a L : Nat) (T : Nat → Nat → Nat → Int) (h0 : ∀ j i, T j i 0 = 0) (hs : 0 < sz) : line L (FF sz T d a d 0) = line L (FF sz T d (a + 1) 0 0) := by
  refine line_congr L _ _ (fun pos _ => ?_)
  unfold FF
  rw [suc_mul (a + 1), suc_mul a]
  by_cases h1 : pos < a * sz
  · rw [if_pos h1, if_pos (by omega)]
  · rw [if_neg h1, if_neg (by omega)]
    by_cases h2 : pos < a * sz + sz
    · rw [if_pos h2, if_pos h2]
      have e : pos = (pos - a * sz) + a * sz := by omega
      have e1 : pos / sz = a := by rw [e, Nat.add_mul_div_right _ _ hs, Nat.div_eq_of_lt (by omega), Nat.zero_add]
      have e2 : pos % sz = pos - a * sz := by
        have := Nat.div_add_mod pos sz
        rw [e1, Nat.mul_comm] at this
        omega
      rw [e1, e2]
    · rw [if_neg h2, if_neg h2, if_neg (by omega)]
      split
      · exact (h0 _ _).symm
      · rfl
theorem FF_end (sz d a : Nat) (T : Nat → Nat → Nat → Int) : line (a * sz) (FF sz T d a 0 0) = line (a * sz) (fun pos => T (pos / sz) (pos % sz) d) := by
  refine line_congr _ _ _ (fun pos hp => ?_)
  unfold FF
  rw [if_pos hp]
set_option maxRecDepth 100000 in
theorem factor_any (v : Value) (n k slot : Nat) (w : World) (hc : IsCodeP w v n k) (k1 : 2 ≤ k) (k2 : k ≤ 8) (n2 : n ≤ 24) (hs : slot < n) :
    Calls Try.prog 53 #[v, .int .i64 slot] w fun e w' => e = .returned (.int .u8 ((gp (ptN n k slot) (k - 1) : Nat) : Int)) ∧ Below w.heap.size w w' := by
  have RC := Lib.hid (row_any v n k slot w hc k1 k2 n2 hs)
  have HG := Lib.hid (fun W A c base (h : Kd.R (Kd.int .u8) 5 W base (fun _ => True) (.slice A (2 * k - 2) c) (pows (ptN n k slot) (2 * k - 2))) => show ∃ ad, A = some ad ∧ W.cell? (ad.add (k - 1)) = some (.int .u8 ((gp (ptN n k slot) (k - 1) : Nat) : Int)) by
    have hC := (Kd.R_reads' h).2.2
    rw [pows_len] at hC
    obtain ⟨ad, e, hcl⟩ := Sol.at_row hC (k - 1) (by omega)
    rw [Str.pows_get _ _ _ (by omega)] at hcl
    exact ⟨ad, e, hcl⟩)
  obtain ⟨d, hd⟩ : ∃ d, d = 2 * k - 2 := ⟨_, rfl⟩
  have e1 : (d : Int) / 2 = ((k - 1 : Nat) : Int) := by omega
  have g1 : ((k - 1 : Nat) : Int) < (d : Int) := by omega
  have g2 : (0 : Int) ≤ ((k - 1 : Nat) : Int) := by omega
  obtain ⟨p, hp⟩ : ∃ p, p = k - 1 := ⟨_, rfl⟩
  rw [← hp] at HG e1 g1 g2 ⊢
  rw [← hd] at RC HG
  obtain ⟨z, hz⟩ : ∃ z, z = gp (ptN n k slot) p := ⟨_, rfl⟩
  rw [← hz] at HG ⊢
  have hp8 : p ≤ 8 := by omega
  clear hd hp hz k1 k2 n2 hs hc
  go_enter Try.func53, Try.ntmps53
  go_upto_region 2 with (go_at_call 32; (with_reducible refine RC.out.mono ?_); rintro e w1 ⟨A8, c8, rfl, hr8, hb⟩; have HR8 := Lib.hid hr8; have HB := Lib.hid hb; clear hr8 hb)
  obtain ⟨ad, rfl, hcl⟩ := HG.out w1 A8 c8 w.heap.size HR8.out
  have hdd : ((d : Int)).tdiv 2 = (p : Int) := by rw [Int.tdiv_eq_ediv_of_nonneg (by omega)]; exact e1
  have hdw : IntKind.i64.wrap (p : Int) = (p : Int) := IntWalk.i64_in _ (by omega)
  go_wp2
  go_ret
  exact ⟨rfl, HB.out⟩
theorem zrow_calls (v : Value) (d i : Nat) (Z : Mtx) (w : World) (h : Mat.IsMat w v d d (Mat.flat (mat d d Z))) (hi : i < d) :
    Calls Try.prog 54 #[v, .int .i64 i] w fun e w' => ∃ A c, e = .returned (.slice A d c) ∧ Kd.R (Kd.int .u8) 5 w' w.heap.size (fun k => w.heap.size ≤ k) (.slice A d c) (line d (Z i)) ∧ Below w.heap.size w w' := by
  refine (Mat.row_in v d d _ i w h hi).mono ?_
  rintro e w' ⟨u, rfl, ho, hb⟩
  have e1 : Mat.rowOf d (Mat.flat (mat d d Z)) i = line d (Z i) := by
    rw [Mat.rowOf_flat d (mat d d Z) (fun l hl => by
      obtain ⟨j, _, rfl⟩ := List.mem_map.1 hl
      exact line_len _ _) i (by rw [mat_len]; exact hi), mat_get d d Z i hi]
  rw [e1] at ho
  obtain ⟨A, c, rfl⟩ := own_slice ho
  have hR : Kd.R (Kd.int .u8) 5 w' w.heap.size (fun _ => True) (.slice A d c) (line d (Z i)) := Kd.R_of_own (by rw [line_len]; exact ho) (fun _ _ => trivial)
  exact ⟨A, c, rfl, Kd.R_mono (Kd.R_bound hR) (fun k hk => hk.2.1), hb⟩
theorem cell_of {W : World} {base g n cap : Nat} {ok : Nat → Prop} {f : Nat → Int} (h : (Kd.int .u8).R 5 W base ok (.slice (some ⟨g, 0, none⟩) n cap) (line n f)) (i : Nat) (hi : i < n) : W.cell? ⟨g, i, none⟩ = some (.int .u8 (f i)) ∧ W.frozen? ⟨g, i, none⟩ = false := by
  obtain ⟨x1, x2⟩ := Kd.R_celln (0 : Int) h (i : Int) (by omega) (by omega)
  have x3 : rdOf (0 : Int) (line n f) (i : Int) = f i := by
    rw [← line_get n f i hi]; simp [rdOf]
  rw [x3, Int.toNat_natCast] at x1
  rw [Int.toNat_natCast] at x2
  exact ⟨x1, x2⟩
theorem put_of {W : World} {base g n cap : Nat} {ok : Nat → Prop} {xs : List Int} (h : (Kd.int .u8).R 5 W base ok (.slice (some ⟨g, 0, none⟩) n cap) xs) (i : Nat) (x : Int) : (Kd.int .u8).R 5 (W.setCell ⟨g, i, none⟩ (.int .u8 x)) base ok (.slice (some ⟨g, 0, none⟩) n cap) (xs.set i x) := by
  have := Kd.R_putn h (i : Int) x
  simp only [Int.toNat_natCast] at this
  exact this
theorem row_cell {W : World} {base n c : Nat} {ok : Nat → Prop} {A : Option Addr} {f : Nat → Int} (h : (Kd.int .u8).R 5 W base ok (.slice A n c) (line n f)) (i : Nat) (hi : i < n) : ∃ ad, A = some ad ∧ W.cell? (ad.add i) = some (.int .u8 (f i)) := by
  have hC := (Kd.R_reads' h).2.2
  rw [line_len] at hC
  obtain ⟨ad, e, hc⟩ := Sol.at_row hC i hi
  rw [line_get n f i hi] at hc
  exact ⟨ad, e, hc⟩
theorem row_far {W : World} {base n c g i : Nat} {A : Option Addr} {xs : List Int} (h : (Kd.int .u8).R 5 W base (fun k => base ≤ k) (.slice A n c) xs) (hg : g < base) (u : Value) : (Kd.int .u8).R 5 (W.setCell ⟨g, i, none⟩ u) base (fun k => base ≤ k) (.slice A n c) xs :=
  Kd.R_far h (fun k hk => by (show k ≠ g); omega) u
def outT (x : Nat → List Int) (P : Nat) (Z : Mtx) (F : Int) (j i q : Nat) : Int := dotN (fun t => (x t).getD i 0) (fun t => mixY P Z F j t) q
set_option maxRecDepth 100000 in
set_option maxHeartbeats 8000000 in
theorem fold_any (v vi : Value) (n k lost sz d c : Nat) (A3 : Option Addr) (x : Nat → List Int) (Z : Mtx) (w : World) (hc : IsCodeP w v n k) (k1 : 2 ≤ k) (k2 : k ≤ 8) (n2 : n ≤ 24) (hl : lost < n) (hd : d = 2 * k - 2)
    (hZ : Mat.IsMat w vi d d (Mat.flat (mat d d Z))) (hZb : BytM Z) (hx : Kd.C kRow w A3 d (rowsX x d)) (hxl : ∀ q, q < d → (x q).length = sz) (hxb : ∀ q i, Byt ((x q).getD i 0)) (hs1 : 1 ≤ sz) (hs2 : sz ≤ 100) :
    Calls Try.prog 35 #[v, .int .i64 lost, vi, .slice A3 d c] w fun e w' => ∃ A c', e = .returned (.slice A ((k - 1) * sz) c') ∧ (Kd.int .u8).R 5 w' w.heap.size (fun _ => True) (.slice A ((k - 1) * sz) c')
      (line ((k - 1) * sz) (fun pos => outT x (k - 1) Z ((gp (ptN n k lost) (k - 1) : Nat) : Int) (pos / sz) (pos % sz) d)) ∧ Below w.heap.size w w' := by
  have FA := Lib.hid (fun W (hB : Below w.heap.size w W) => factor_any v n k lost W (hc.below hB) k1 k2 n2 hl)
  have PP := Lib.hid (fun W (hB : Below w.heap.size w W) => parts_any v n k W (hc.below hB).code (by omega) (by omega))
  obtain ⟨F, hF⟩ : ∃ F, F = ((gp (ptN n k lost) (k - 1) : Nat) : Int) := ⟨_, rfl⟩
  have HFB := Lib.hid (show Byt F by rw [hF]; exact Str.gp_byt _ _ (ptN_lt n k lost))
  rw [← hF] at FA ⊢
  obtain ⟨P, hP⟩ : ∃ P, P = k - 1 := ⟨_, rfl⟩
  rw [← hP] at PP ⊢
  have hP1 : 1 ≤ P := by omega
  have hP7 : P ≤ 7 := by omega
  have hdP : d = P + P := by omega
  have RZ := Lib.hid (fun i W (hi : i < d) (hB : Below w.heap.size w W) => zrow_calls vi d i Z W (hZ.below hB) hi)
  have HX := Lib.hid (fun W (hB : Below w.heap.size w W) q (hq : q < d) => show ∃ ad A0 c0, A3 = some ad ∧ W.cell? (ad.add q) = some (.slice A0 sz c0) ∧ (Kd.int .u8).C W A0 sz (x q) by
    obtain ⟨ad, A0, c0, e, h1, h2, h3⟩ := rowsN_get (Kd.C_below hx hB) q hq
    rw [rowsX_get x d q hq, hxl q hq] at h1 h3
    exact ⟨ad, A0, c0, e, h1, h3⟩)
  have HXB := Lib.hid hxb
  have HZB := Lib.hid hZb
  have HT0 := Lib.hid (fun j i => show outT x P Z F j i 0 = 0 from rfl)
  have HTS := Lib.hid (fun j i q => show outT x P Z F j i (q + 1) = xorI (outT x P Z F j i q) (gmI ((x q).getD i 0) (mixY P Z F j q)) from rfl)
  have HTB := Lib.hid (fun j i q => show Byt (outT x P Z F j i q) from dotN_byt (fun t => hxb t i) q)
  have hsz : P * sz ≤ 700 := Nat.mul_le_mul hP7 hs2
  have hsz1 : 1 ≤ P * sz := Nat.mul_pos hP1 hs1
  obtain ⟨L, hL⟩ : ∃ L, L = P * sz := ⟨_, rfl⟩
  rw [← hL] at hsz hsz1 ⊢
  have HL := Lib.hid hL
  have eL : IntKind.i64.wrap ((P : Int) * (sz : Int)) = (L : Int) := by rw [hL, ← Int.natCast_mul]; exact IntWalk.i64_in _ (by omega)
  have HD := Lib.hid hdP
  have hd16 : d ≤ 14 := by omega
  clear hc k1 k2 n2 hl hd hZ hZb hx hxl hxb hF hP hL hdP
  obtain ⟨ad3, A0, c0, rfl, hcell0, _⟩ := HX.out w (Below.refl _ _) 0 (by have := HD.out; omega)
  rw [show ad3.add 0 = ad3 by simp [Addr.add]] at hcell0
  go_enter Try.func35, Try.ntmps35
  have gd : (0 : Int) < (d : Int) := by have := HD.out; omega
  go_upto_region 5 with (first
    | (go_at_call 23; (first | (with_reducible refine (PP.out _ (Below.refl _ _)).mono ?_) | (with_reducible refine (PP.out _ HB1.out).mono ?_)); rintro e u1 ⟨rfl, hu⟩; have hu' := hu.symm; subst hu'; clear hu)
    | (at_make; refine Kd.R_make (Kd.int .u8) w.heap.size 5 rfl (N := 27) rfl 22 _ _ rfl (L : Int) rfl rfl Try.underlying22 (.int .u8 0) 1 Go.Proofs.Ytcnfafappcbpnaa.Rws.info_byte rfl (by decide) (by decide) 0 (ok := fun _ => True) (okp := fun _ => True) rfl (fun _ hk => hk) trivial (by omega) (by omega) (Below.refl _ _) (Nat.le_refl _) ?_; intro v3 w3 h3 hb3 hg3 hf3; simp only [Int.toNat_natCast] at h3; obtain ⟨g, c3, hv3, hgb, _, _⟩ := Kd.R_form h3 (by rw [List.length_replicate]; exact hsz1); rw [List.length_replicate] at hv3; subst hv3; have HR0 := Lib.hid h3; have HB0 := Lib.hid hb3; have HGB := Lib.hid hgb; clear h3 hb3 hg3 hf3 hgb)
    | (go_at_call 53; (with_reducible refine (FA.out _ HB0.out).mono ?_); rintro e w4 ⟨rfl, hb⟩; have HB1 := Lib.hid (HB0.out.trans (hb.mono HB0.out.size)); have HR1 := Lib.hid (Kd.R_below HR0.out hb); clear hb HR0 HB0))
  have HR2 := Lib.hid (show (Kd.int .u8).R 5 w4 w.heap.size (fun _ => True) (.slice (some ⟨g, 0, none⟩) L c3) (line L (FF sz (outT x P Z F) d 0 0 0)) by rw [FF_start sz d L _ HT0.out]; exact HR1.out)
  clear HR1 hcell0 FA
  go_loopw [12, 13, 14, 15, 16, 17, 18, 33, 47, 64] (fun _ _ _ _ _ _ _ av _ _ wr => ∃ (a : Nat), a ≤ P ∧ av = .int .i64 a ∧ Hid ((Kd.int .u8).R 5 wr w.heap.size (fun _ => True) (.slice (some ⟨g, 0, none⟩) L c3) (line L (FF sz (outT x P Z F) d a 0 0))) ∧ Hid (Below w.heap.size w wr)) (fun _ _ _ _ _ _ _ av _ _ _ => P - (intOf av).toNat)
  case atStart => exact ⟨0, by omega, rfl, HR2, HB1⟩
  case round =>
    clear HR2 HB1
    obtain ⟨a, ha, rfl, HR, HB⟩ := hrel
    by_cases haP : a < P
    · have g1 : (a : Int) < (P : Int) := by omega
      have g2 : (0 : Int) ≤ (a : Int) := by omega
      have R1 := Lib.hid (fun W (hB : Below w.heap.size w W) => RZ.out a W (by have := HD.out; omega) hB)
      have r2 := fun W (hB : Below w.heap.size w W) => RZ.out (a + P) W (by have := HD.out; omega) hB
      simp only [Int.natCast_add] at r2
      have R2 := Lib.hid r2
      clear r2
      obtain ⟨x1, hx1⟩ : ∃ x1, x1 = wr := ⟨_, rfl⟩
      rw [← hx1] at HR HB ⊢
      clear hx1
      have HGL := Lib.hid (show g < x1.heap.size from Kd.R_lt HR.out g rfl)
      go_upto_region 8 with (first
        | (go_at_call 54; (with_reducible refine (R1.out _ HB.out).mono ?_); rintro e w5 ⟨A13, c13, rfl, hr, hb⟩; have HO := Lib.hid hr; have HB5 := Lib.hid hb; clear hr hb)
        | (go_at_call 23; (with_reducible refine (PP.out _ (HB.out.trans (HB5.out.mono HB.out.size))).mono ?_); rintro e u1 ⟨rfl, hu⟩; have hu' := hu.symm; subst hu'; clear hu)
        | (go_at_call 54; (with_reducible refine (R2.out _ (HB.out.trans (HB5.out.mono HB.out.size))).mono ?_); rintro e w6 ⟨A14, c14, rfl, hr, hb⟩; have HT := Lib.hid (show Kd.R (Kd.int .u8) 5 w6 x1.heap.size (fun k => x1.heap.size ≤ k) (.slice A14 d c14) (line d (Z (a + P))) from Kd.R_mono (Kd.R_lower hr HB5.out.size) (fun k hk => Nat.le_trans HB5.out.size hk)); have HO2 := Lib.hid (Kd.R_below HO.out hb); have HB6 := Lib.hid (HB5.out.trans (hb.mono HB5.out.size)); clear hr hb HO HB5))
      have HR6 := Lib.hid (Kd.R_below HR.out HB6.out)
      have HBw := Lib.hid (HB.out.trans (HB6.out.mono HB.out.size))
      have HGX := Lib.hid (show w.heap.size ≤ x1.heap.size from HB.out.size)
      clear HR HB HB6 R1 R2
      go_wp2
      go_loopw [15, 16, 17, 18, 47, 64] (fun _ _ _ _ qv _ wr => ∃ (q : Nat), q ≤ d ∧ qv = .int .i64 q ∧ Hid ((Kd.int .u8).R 5 wr w.heap.size (fun _ => True) (.slice (some ⟨g, 0, none⟩) L c3) (line L (FF sz (outT x P Z F) d a q 0))) ∧ Hid (Kd.R (Kd.int .u8) 5 wr x1.heap.size (fun k => x1.heap.size ≤ k) (.slice A13 d c13) (line d (Z a))) ∧ Hid (Kd.R (Kd.int .u8) 5 wr x1.heap.size (fun k => x1.heap.size ≤ k) (.slice A14 d c14) (line d (Z (a + P)))) ∧ Hid (Below w.heap.size w wr)) (fun _ _ _ _ qv _ _ => d - (intOf qv).toNat)
      case atStart => exact ⟨0, by omega, rfl, HR6, HO2, HT, HBw⟩
      case round =>
        clear HR6 HO2 HT HBw
        obtain ⟨q, hq, rfl, HR, HO, HT, HB⟩ := hrel
        by_cases hqd : q < d
        · have g3 : (q : Int) < (d : Int) := by omega
          have g4 : (0 : Int) ≤ (q : Int) := by omega
          obtain ⟨ad9, A16, c16, e9, hcellw, hC16⟩ := HX.out w (Below.refl _ _) q hqd
          have hcell := pw_cell_below HB.out hcellw
          injection e9 with e9
          subst e9
          obtain ⟨ad13, rfl, h13⟩ := row_cell HO.out q hqd
          obtain ⟨ad14, rfl, h14⟩ := row_cell HT.out q hqd
          obtain ⟨ad16, rfl, _⟩ := Sol.at_row hC16 0 (by omega)
          have HXC := Lib.hid (fun W (hB : Below w.heap.size w W) i (hi : i < sz) => show W.cell? (ad16.add i) = some (.int .u8 ((x q).getD i 0)) by
            obtain ⟨ad8, e8, h8⟩ := Sol.at_row (Kd.C_below hC16 hB) i hi
            injection e8 with e8
            rw [← e8] at h8
            exact h8)
          have HZ1 := Lib.hid (HZB.out a q)
          have HZ2 := Lib.hid (HZB.out (a + P) q)
          have HMY := Lib.hid (show mixY P Z F a q = xorI (Z a q) (gmI (Z (a + P) q) F) from rfl)
          obtain ⟨z1, hz1⟩ : ∃ z1, z1 = Z a q := ⟨_, rfl⟩
          obtain ⟨z2, hz2⟩ : ∃ z2, z2 = Z (a + P) q := ⟨_, rfl⟩
          rw [← hz1] at h13 HZ1 HMY
          rw [← hz2] at h14 HZ2 HMY
          have ML := Lib.hid (fun W => mul_still z2 F W HZ2.out HFB.out)
          have AD := Lib.hid (fun W => add_still z1 (gmI z2 F) W HZ1.out (gmI_byt HZ2.out))
          have HYB := Lib.hid (show Byt (mixY P Z F a q) by rw [HMY.out]; exact xorI_byt HZ1.out (gmI_byt HZ2.out))
          rw [← HMY.out] at AD
          obtain ⟨y, hy⟩ : ∃ y, y = mixY P Z F a q := ⟨_, rfl⟩
          rw [← hy] at AD HYB
          have HY := Lib.hid hy
          clear hz1 hz2 hy hC16 HMY hcellw
          go_upto_region 11 with (fail)
          go_quiet (first
            | (go_at_call 26; exact Calls.quiet_of_same (ML.out _))
            | (go_at_call 25; exact Calls.quiet_of_same (AD.out _)))
          clear h13 h14 ML AD
          have HRd := Lib.hid (fun j => Kd.R_drewN HR.out j)
          have HOd := Lib.hid (fun j => Kd.R_drewN HO.out j)
          have HTd := Lib.hid (fun j => Kd.R_drewN HT.out j)
          have HBd := Lib.hid (fun j => pw_below_drewN HB.out j)
          clear HR HO HT HB hcell
          go_wp2
          go_loopw [18, 64] (fun _ iv wr => ∃ (i : Nat), i ≤ sz ∧ iv = .int .i64 i ∧ Hid ((Kd.int .u8).R 5 wr w.heap.size (fun _ => True) (.slice (some ⟨g, 0, none⟩) L c3) (line L (FF sz (outT x P Z F) d a q i))) ∧ Hid (Kd.R (Kd.int .u8) 5 wr x1.heap.size (fun k => x1.heap.size ≤ k) (.slice (some ad13) d c13) (line d (Z a))) ∧ Hid (Kd.R (Kd.int .u8) 5 wr x1.heap.size (fun k => x1.heap.size ≤ k) (.slice (some ad14) d c14) (line d (Z (a + P)))) ∧ Hid (Below w.heap.size w wr)) (fun _ iv _ => sz - (intOf iv).toNat)
          case atStart => exact ⟨0, by omega, rfl, Lib.hid (HRd.out _), Lib.hid (HOd.out _), Lib.hid (HTd.out _), Lib.hid (HBd.out _)⟩
          case round =>
            clear HRd HOd HTd HBd
            obtain ⟨i, hi, rfl, HR, HO, HT, HB⟩ := hrel
            by_cases his : i < sz
            · have g5 : (i : Int) < (sz : Int) := by omega
              have g6 : (0 : Int) ≤ (i : Int) := by omega
              have hle : a * sz + sz ≤ L := by rw [HL.out, ← suc_mul]; exact Nat.mul_le_mul_right sz haP
              obtain ⟨m, hm⟩ : ∃ m, m = a * sz := ⟨_, rfl⟩
              have e3 : IntKind.i64.wrap ((a : Int) * (sz : Int)) = (m : Int) := by rw [hm, ← Int.natCast_mul]; exact IntWalk.i64_in _ (by omega)
              have hstp := FF_step sz d a q i L (outT x P Z F) his (by omega)
              have hget := FF_get sz d a q i (outT x P Z F) his
              rw [HTS.out] at hstp
              rw [← hm] at hstp hget hle
              obtain ⟨p, hp⟩ : ∃ p, p = m + i := ⟨_, rfl⟩
              have e4 : IntKind.i64.wrap ((m : Int) + (i : Int)) = (p : Int) := by rw [IntWalk.i64_in _ (by omega)]; omega
              have e4' : (m : Int) + (i : Int) = (p : Int) := by omega
              rw [← hp] at hstp hget
              have g7 : (p : Int) < (L : Int) := by omega
              have g8 : (0 : Int) ≤ (p : Int) := by omega
              obtain ⟨x1', x2'⟩ := cell_of HR.out p (by omega)
              rw [hget] at x1'
              have hxc := HXC.out wr HB.out i his
              have HYO := Lib.hid (HTB.out a i q)
              have HXO := Lib.hid (HXB.out q i)
              have hpn := fun j => put_of (Kd.R_drewN HR.out j) p (xorI (outT x P Z F a i q) (gmI ((x q).getD i 0) (mixY P Z F a q)))
              simp only [hstp] at hpn
              rw [← HY.out] at hpn
              obtain ⟨o, ho⟩ : ∃ o, o = outT x P Z F a i q := ⟨_, rfl⟩
              obtain ⟨b, hb⟩ : ∃ b, b = (x q).getD i 0 := ⟨_, rfl⟩
              rw [← ho] at x1' HYO hpn
              rw [← hb] at hxc HXO hpn
              have HPN := Lib.hid hpn
              have HBn := Lib.hid (fun j => (pw_below_drewN HB.out j).setCell (p := ⟨g, p, none⟩) HGB.out (.int .u8 (xorI o (gmI b y))))
              have HOn := Lib.hid (fun j => row_far (Kd.R_drewN HO.out j) HGL.out (i := p) (.int .u8 (xorI o (gmI b y))))
              have HTn := Lib.hid (fun j => row_far (Kd.R_drewN HT.out j) HGL.out (i := p) (.int .u8 (xorI o (gmI b y))))
              have HE := Lib.hid e4'
              clear hstp hget hm hp ho hb hpn hle e4'
              go_wp2
              refine wp_region_still_tail 22 (by kernel_rfl) (by kernel_rfl) ?_
              change wpStill _ _ (wr.drewN 1) (fun a' => wpList _ _ _ _ a' (wr.drewN 1)) _ _
              simp only [List.take_succ_cons, List.take_zero, List.drop_succ_cons, List.drop_zero]
              iterate 19 still_step
              still_call (mul_still b y (wr.drewN 1) HXO.out HYB.out)
              still_call (add_still o (gmI b y) (wr.drewN 1) HYO.out (gmI_byt HXO.out))
              still_step
              refine wpStill_nil ?_
              go_wp2
              go_roundw
              case rel => exact ⟨i + 1, by omega, by go_num, Lib.hid (HPN.out 1), Lib.hid (HOn.out 1), Lib.hid (HTn.out 1), Lib.hid (HBn.out 1)⟩
              case measure => simp [intOf]; omega
            · obtain rfl : i = sz := by omega
              have hr := HR.out
              rw [FF_row] at hr
              have HRn := Lib.hid hr
              clear hr
              go_wp2
              go_roundw
              case rel => exact ⟨q + 1, by omega, by go_num, HRn, HO, HT, HB⟩
              case measure => simp [intOf]; omega
        · obtain rfl : q = d := by omega
          have hr := HR.out
          rw [FF_next sz q a L _ HT0.out (by omega)] at hr
          have HRn := Lib.hid hr
          clear hr
          go_wp2
          go_roundw
          case rel => exact ⟨a + 1, by omega, by go_num, HRn, HB⟩
          case measure => simp [intOf]; omega
    · obtain rfl : a = P := by omega
      have hr := HR.out
      rw [HL.out, FF_end, ← HL.out] at hr
      have HRn := Lib.hid hr
      clear hr
      go_wp2
      go_ret
      exact ⟨_, _, rfl, HRn.out, HB.out⟩
end Go.Proofs.Ytcnfafappcbpnaa.Hl
/- Parts that come in: heal's right. -/
namespace Go.Proofs.Ytcnfafappcbpnaa.Par
open Go Go.RowKit Go.Proofs.Ytcnfafappcbpnaa.Bits Go.Proofs.Ytcnfafappcbpnaa.Mem Go.Proofs.Ytcnfafappcbpnaa.Gi Go.Proofs.Ytcnfafappcbpnaa.Rws Go.Proofs.Ytcnfafappcbpnaa.Opn Go.Proofs.Ytcnfafappcbpnaa.Str Go.Proofs.YtcnfafappcbpnaaW.PrintWords
set_option linter.unusedVariables false

def Z24 : Array Value := Array.replicate 24 (.bool false)
theorem zero_24 (w : World) : (zeroValue 79).run Try.prog w = .ok (.agg Z24) w := by kernel_rfl
def seenB (s : Nat → Int) (i : Nat) (y : Nat) : Bool := decide (∃ j, j < i ∧ s j = (y : Int))
def Seen24 (s : Nat → Int) (i : Nat) (cs : Array Value) : Prop := cs.size = 24 ∧ ∀ y, y < 24 → cs[y]? = some (.bool (seenB s i y))
theorem seen24_0 (s : Nat → Int) : Seen24 s 0 Z24 := by
  refine ⟨by simp [Z24], fun y hy => ?_⟩
  have : seenB s 0 y = false := by unfold seenB; simp
  rw [this]
  simp [Z24, hy]
theorem seen24_more {s : Nat → Int} {i : Nat} {cs : Array Value} (h : Seen24 s i cs) (p : Nat) (hp : p < 24) (hs : s i = (p : Int)) : Seen24 s (i + 1) (cs.setIfInBounds p (.bool true)) := by
  refine ⟨by simp [h.1], fun y hy => ?_⟩
  rw [Array.getElem?_setIfInBounds]
  by_cases e : p = y
  · subst e
    rw [if_pos rfl, if_pos (by rw [h.1]; exact hp)]
    congr 2
    symm
    unfold seenB
    rw [decide_eq_true_iff]
    exact ⟨i, by omega, hs⟩
  · rw [if_neg e, h.2 y hy]
    congr 2
    unfold seenB
    rw [decide_eq_decide]
    constructor
    · rintro ⟨j, hj, e2⟩
      exact ⟨j, by omega, e2⟩
    · rintro ⟨j, hj, e2⟩
      rcases Nat.lt_or_ge j i with hh | hh
      · exact ⟨j, hh, e2⟩
      · obtain rfl : j = i := by omega
        rw [hs] at e2
        omega
def RightPost (n : Nat) (s : Nat → Int) (m : Nat → Nat) (lost : Int) (N : Nat) (w : World) (e : Ending) (w' : World) : Prop :=
  ∃ b : Bool, e = .returned (.bool b) ∧ (b = true ↔ okTo n s m N ∧ ∀ i, i < N → s i ≠ lost) ∧ Below w.heap.size w w'
theorem bad_at {n N i : Nat} {s : Nat → Int} {m : Nat → Nat} {lost : Int} (hi : i < N) (hb : ¬ (okAt n s m i ∧ s i ≠ lost)) : (false = true ↔ okTo n s m N ∧ ∀ i, i < N → s i ≠ lost) :=
  ⟨fun e => Bool.noConfusion e, fun e => absurd ⟨e.1 i hi, e.2 i hi⟩ hb⟩
set_option maxRecDepth 100000 in
set_option maxHeartbeats 4000000 in
theorem right_any (v : Value) (n k N c : Nat) (lost : Int) (A : Option Addr) (s : Nat → Int) (h : Nat → Hd) (x : Nat → List Int) (w : World) (hv : IsCode w v n k) (hp : PA w A N s h x) (m : Nat → Nat) (hm : ∀ i, (x i).length = m i) (hN : N ≤ 100) (hn : n ≤ 24) :
    Calls Try.prog 31 #[v, .int .i64 lost, .slice A N c] w (RightPost n s m lost N w) := by
  have HP := Lib.hid (fun W (hB : Below w.heap.size w W) => hp.below hB)
  have HMX := Lib.hid hm
  have HNA := Lib.hid (fun W (hB : Below w.heap.size w W) => n_any v n k W (hv.below hB))
  have hz := zero_24
  have HB0 := Lib.hid (show Below w.heap.size w (w.alloc (.cells Z24 79)) from (Below.refl _ _).alloc (Nat.le_refl _) _)
  have HG0 := Lib.hid (show ∃ cs, Blk (w.alloc (.cells Z24 79)) w.heap.size 79 cs ∧ Seen24 s 0 cs from ⟨Z24, Blk.new _ _ _, seen24_0 s⟩)
  clear hp hm hv
  go_enter Try.func31, Try.ntmps31
  go_wp2
  clear hz
  go_loopw [9, 12] (fun _ iv wr => ∃ (i : Nat), i ≤ N ∧ iv = .int .i64 i ∧ Hid (okTo n s m i ∧ ∀ j, j < i → s j ≠ lost) ∧ Hid (∃ cs, Blk wr w.heap.size 79 cs ∧ Seen24 s i cs) ∧ Hid (Below w.heap.size w wr)) (fun _ iv _ => N - (intOf iv).toNat)
  case atStart => exact ⟨0, by omega, rfl, Lib.hid ⟨fun i hi => absurd hi (Nat.not_lt_zero i), fun j hj => absurd hj (Nat.not_lt_zero j)⟩, HG0, HB0⟩
  case round =>
    clear HB0 HG0
    obtain ⟨i, hi, rfl, HOK, HG, HB⟩ := hrel
    by_cases hlt : i < N
    · have g1 : (i : Int) < (N : Int) := by omega
      have g2 : (0 : Int) ≤ (i : Int) := by omega
      have g3 : (0 : Int) < (N : Int) := by omega
      obtain ⟨ad, rfl, k1, k2, k3, k4, k5⟩ := HP.out wr HB.out i hlt
      obtain ⟨ad', e0, j1, j2, j3, j4, j5⟩ := HP.out wr HB.out 0 (by omega)
      injection e0 with e0
      subst e0
      have j6 : ad.add (0 * 2) = ad := by simp [Addr.add]
      rw [j6] at j1 j2
      obtain ⟨⟨A2, m2, c2⟩, hh2⟩ : ∃ q, q = h i := ⟨_, rfl⟩
      obtain ⟨⟨A0, m0, c0⟩, hh0⟩ : ∃ q, q = h 0 := ⟨_, rfl⟩
      rw [← hh2] at k2 k3
      rw [← hh0] at j2 j3
      have HK3 := Lib.hid (show m i = m2 by rw [← HMX.out]; exact k3)
      have HJ3 := Lib.hid (show m 0 = m0 by rw [← HMX.out]; exact j3)
      obtain ⟨si, hsi⟩ : ∃ si, si = s i := ⟨_, rfl⟩
      rw [← hsi] at k1
      have HSI := Lib.hid hsi
      have hk2 : wr.cell? ⟨(ad.add (i * 2)).block, (ad.add (i * 2)).off + 1, none⟩ = some (.slice A2 m2 c2) := k2
      have hj2 : wr.cell? ⟨ad.block, ad.off + 1, none⟩ = some (.slice A0 m0 c0) := j2
      obtain ⟨W1, hW1⟩ : ∃ W1, W1 = wr.alloc (.cells #[.int .i64 si, .slice A2 m2 c2] 37) := ⟨_, rfl⟩
      have hb1 : Below wr.heap.size wr W1 := by rw [hW1]; exact (Below.refl _ _).alloc (Nat.le_refl _) _
      have HBK := Lib.hid (show Blk W1 wr.heap.size 37 #[.int .i64 si, .slice A2 m2 c2] by rw [hW1]; exact Blk.new _ _ _)
      have HJ2 := Lib.hid (pw_cell_below hb1 hj2)
      have HW1 := Lib.hid hW1
      have HB1 := Lib.hid (HB.out.trans (hb1.mono HB.out.size))
      have HG1 := Lib.hid (show ∃ cs, Blk W1 w.heap.size 79 cs ∧ Seen24 s i cs by
        obtain ⟨cs, h1, h2⟩ := HG.out
        exact ⟨cs, h1.below hb1 h1.lt, h2⟩)
      obtain ⟨b1, hb1'⟩ : ∃ b1, b1 = wr.heap.size := ⟨_, rfl⟩
      rw [← hb1'] at HBK
      have HB1' := Lib.hid hb1'
      clear k2 k3 k4 k5 j1 j2 j3 j4 j5 j6 hh2 hh0 hsi hW1 hb1 hb1'
      go_upto_region 5 with (fail)
      rw [← HW1.out, ← HB1'.out]
      have c0 : W1.cell? ⟨b1, 0, none⟩ = some (.int .i64 si) := (HBK.out.cell 0).trans rfl
      have c1 : W1.cell? ⟨b1, 1, none⟩ = some (.slice A2 m2 c2) := (HBK.out.cell 1).trans rfl
      have c2' := HJ2.out
      have HBq := Lib.hid (fun q => pw_below_drewN HB1.out q)
      clear k1 hk2 hj2
      by_cases h1 : si < 0
      · go_quiet ((go_at_call 22; exact Calls.quiet_of_same (HNA.out _ (pw_below_drewN HB1.out _))))
        go_wp2
        go_ret
        exact ⟨false, rfl, bad_at hlt (fun e => by have := e.1.1; rw [← HSI.out] at this; omega), HBq.out _⟩
      by_cases h2 : (n : Int) ≤ si
      · go_quiet ((go_at_call 22; exact Calls.quiet_of_same (HNA.out _ (pw_below_drewN HB1.out _))))
        go_wp2
        go_ret
        exact ⟨false, rfl, bad_at hlt (fun e => by have := e.1.2.1; rw [← HSI.out] at this; omega), HBq.out _⟩
      obtain ⟨p, hp⟩ : ∃ p : Nat, si = p := ⟨si.toNat, by omega⟩
      subst hp
      have h1' : decide ((p : Int) < 0) = false := by simp
      have h2' : decide ((n : Int) ≤ (p : Int)) = false := by simp; omega
      have p1 : p < 24 := by omega
      have p2 : (p : Int) < 24 := by omega
      have p3 : (0 : Int) ≤ (p : Int) := by omega
      by_cases h3 : (p : Int) = lost
      · have h3' : ((p : Int) == lost) = true := by simp [h3]
        have H3 := Lib.hid h3
        clear h3
        go_quiet ((go_at_call 22; exact Calls.quiet_of_same (HNA.out _ (pw_below_drewN HB1.out _))))
        go_wp2
        go_ret
        exact ⟨false, rfl, bad_at hlt (fun e => e.2 (by rw [← HSI.out]; exact H3.out)), HBq.out _⟩
      have h3' : ((p : Int) == lost) = false := by simp [h3]
      have H3 := Lib.hid h3
      clear h3
      obtain ⟨cs, hbk, hsn⟩ := HG1.out
      have hc := (hbk.cell p).trans (hsn.2 p p1)
      have hfz := hbk.frozen p
      have HBS := Lib.hid hbk
      have HSN := Lib.hid hsn
      have HSB := Lib.hid (show seenB s i p = decide (∃ j, j < i ∧ s j = (p : Int)) from rfl)
      clear hbk hsn
      obtain ⟨sb, hsb⟩ : ∃ sb, sb = seenB s i p := ⟨_, rfl⟩
      rw [← hsb] at hc HSB
      clear hsb
      cases sb
      case true =>
        go_quiet ((go_at_call 22; exact Calls.quiet_of_same (HNA.out _ (pw_below_drewN HB1.out _))))
        go_wp2
        go_ret
        refine ⟨false, rfl, bad_at hlt (fun e => ?_), HBq.out _⟩
        obtain ⟨j, hj, e2⟩ := of_decide_eq_true (by first | exact HSB.out.symm | (have := HSB.out; simpa using this))
        exact e.1.2.2.2.2 j hj (by rw [e2, HSI.out])
      case false =>
        by_cases h4 : m2 = 0
        · have h4' : ((m2 : Int) == 0) = true := by simp [h4]
          have H4 := Lib.hid h4
          clear h4
          go_quiet ((go_at_call 22; exact Calls.quiet_of_same (HNA.out _ (pw_below_drewN HB1.out _))))
          go_wp2
          go_ret
          exact ⟨false, rfl, bad_at hlt (fun e => by have := e.1.2.2.1; rw [HK3.out, H4.out] at this; omega), HBq.out _⟩
        have h4' : ((m2 : Int) == 0) = false := by simp [h4]
        have H4 := Lib.hid h4
        clear h4
        by_cases h5 : m2 = m0
        · have h5' : ((m2 : Int) != (m0 : Int)) = false := by simp [h5]
          have H5 := Lib.hid h5
          clear h5
          go_quiet ((go_at_call 22; exact Calls.quiet_of_same (HNA.out _ (pw_below_drewN HB1.out _))))
          have HBw := Lib.hid (fun q => (HBq.out q).setCell (p := ⟨w.heap.size, p, none⟩) (Nat.le_refl _) (.bool true))
          have HGw := Lib.hid (fun q => (HBS.out.drewN q).set_ p (.bool true))
          go_wp2
          go_roundw
          case rel =>
            refine ⟨i + 1, by omega, by go_num, Lib.hid ⟨okTo_succ.2 ⟨HOK.out.1, by rw [← HSI.out]; omega, by rw [← HSI.out]; omega, by rw [HK3.out]; exact Nat.pos_of_ne_zero H4.out, by rw [HK3.out, HJ3.out]; exact H5.out, fun j hj e => ?_⟩, fun j hj => ?_⟩, Lib.hid ⟨_, HGw.out _, seen24_more HSN.out p p1 HSI.out.symm⟩, Lib.hid (HBw.out _)⟩
            · have := HSB.out
              have h9 : decide (∃ j, j < i ∧ s j = (p : Int)) = true := by rw [decide_eq_true_iff]; exact ⟨j, hj, by rw [e, ← HSI.out]⟩
              rw [h9] at this
              first | cases this | simp at this
            · rcases Nat.lt_or_ge j i with hh | hh
              · exact HOK.out.2 j hh
              · obtain rfl : j = i := by omega
                rw [← HSI.out]; exact H3.out
          case measure => simp [intOf]; omega
        · have h5' : ((m2 : Int) != (m0 : Int)) = true := by simp; omega
          have H5 := Lib.hid h5
          clear h5
          go_quiet ((go_at_call 22; exact Calls.quiet_of_same (HNA.out _ (pw_below_drewN HB1.out _))))
          go_wp2
          go_ret
          exact ⟨false, rfl, bad_at hlt (fun e => by have := e.1.2.2.2.1; rw [HK3.out, HJ3.out] at this; exact H5.out this), HBq.out _⟩
    · obtain rfl : i = N := by omega
      go_wp2
      go_ret
      exact ⟨true, rfl, ⟨fun _ => HOK.out, fun _ => rfl⟩, HB.out⟩
end Go.Proofs.Ytcnfafappcbpnaa.Par
/- Fragments: the program's Regenerate, walked. -/
namespace Go.Proofs.Ytcnfafappcbpnaa.Hl
open Go Go.RowKit Go.Proofs.Ytcnfafappcbpnaa.Gf Go.Proofs.Ytcnfafappcbpnaa.Gi Go.Proofs.Ytcnfafappcbpnaa.Bits Go.Proofs.Ytcnfafappcbpnaa.Mem Go.Proofs.Ytcnfafappcbpnaa.Alg Go.Proofs.Ytcnfafappcbpnaa.Sol Go.Proofs.Ytcnfafappcbpnaa.VPts Go.Proofs.Ytcnfafappcbpnaa.Str Go.Proofs.Ytcnfafappcbpnaa.Rws Go.Proofs.Ytcnfafappcbpnaa.Par Go.Proofs.Ytcnfafappcbpnaa.BHealFragments Go.Proofs.YtcnfafappcbpnaaW.PrintWords
set_option linter.unusedVariables false

abbrev But (v : Value) : Nat → Prop := fun k => True ∧ some k ≠ v.ownBlock
/-- One row more, beside heads in a row of their own. -/
theorem rows_appendS {P : Program} {ops : Array Oper} {rest : List Oper} {o : Oper} {a : Act} {Q : Exit → Act → World → Prop} {w0 W wr : World} (hP : P = Try.prog) (base : Nat) (hgd : o.guard = none) (s x : Operand)
    (ho : o.op = .call { callee := .builtin .append, args := #[s, x], argTypes := #[39, 39] }) (v u dv : Value) (ls : List (List Int)) (ys : List Int) (hh : List Hd)
    (hs : a.eval s = v) (hx : a.eval x = .slice (some ⟨W.heap.size, 0, none⟩) 1 1) (HR : Kd.R kRow 22 wr base (But dv) v ls) (HD : Kd.R kH 22 wr base (But v) dv hh) (HB : Below base w0 W) (hbase : base ≤ wr.heap.size) (hB : Below wr.heap.size wr W)
    (hu : (Kd.int .u8).R 5 W wr.heap.size (fun _ => True) u ys) (hl : ls.length ≤ 1000000)
    (h : ∀ v1 w1, Kd.R kRow 22 w1 base (But dv) v1 (ls ++ [ys]) → Kd.R kH 22 w1 base (But v1) dv hh → Below base w0 w1 → W.grownBy w1 v.ownBlock → wpList P ops Q rest (a.put o.dst v1) w1) :
    wpList P ops Q (o :: rest) a (W.alloc (.cells #[u] 22)) := by
  subst hP
  have hown : W.ownsRow wr.heap.size 5 1 u ys.length (nums .u8 ys) := Kd.own_of_R hu
  have HDW := Kd.R_below HD hB
  refine Kd.R_append kRow (w0 := w0) base hgd s x 39 22 (.slice none 0 0) 24 ho Try.underlying39 info_rows rfl (by decide) (by decide) v ls ys [u] (But dv)
    (fun k => some k = u.ownBlock) hs hx (row_M hown hbase rfl) ?_ (fun k hk => ⟨trivial, Kd.fresh_ok HDW k hk⟩) (Kd.R_below HR hB) HB (Nat.le_trans hbase hB.size) (by omega) (fun v1 w1 h1 h2 h3 h4 => h v1 w1 h1 (Kd.R_after HDW h3 h4) h2 h3)
  intro k hk
  have h1 := own_base hown k hk.symm
  refine ⟨⟨trivial, fun e => ?_⟩, fun e => ?_⟩
  · have := Kd.R_lt HD k e.symm
    omega
  · have := Kd.R_lt HR k e.symm
    omega
/-- One head more, beside rows. -/
theorem heads_appendS {P : Program} {ops : Array Oper} {rest : List Oper} {o : Oper} {a : Act} {Q : Exit → Act → World → Prop} {w0 W : World} (hP : P = Try.prog) (base : Nat) (hgd : o.guard = none) (s x : Operand)
    (ho : o.op = .call { callee := .builtin .append, args := #[s, x], argTypes := #[39, 39] }) (v dv : Value) (ls : List (List Int)) (hh : List Hd) (p : Hd)
    (hs : a.eval s = dv) (hx : a.eval x = .slice (some ⟨W.heap.size, 0, none⟩) 1 1) (HR : Kd.R kRow 22 W base (But dv) v ls) (HD : Kd.R kH 22 W base (But v) dv hh) (HB : Below base w0 W) (hbase : base ≤ W.heap.size) (hl : hh.length ≤ 1000000)
    (h : ∀ d1 w1, Kd.R kRow 22 w1 base (But d1) v ls → Kd.R kH 22 w1 base (But v) d1 (hh ++ [p]) → Below base w0 w1 → wpList P ops Q rest (a.put o.dst d1) w1) :
    wpList P ops Q (o :: rest) a (W.alloc (.cells #[.slice p.1 p.2.1 p.2.2] 22)) := by
  subst hP
  exact Kd.R_append kH (w0 := w0) base hgd s x 39 22 (.slice none 0 0) 24 ho Try.underlying39 info_rows rfl (show 0 < 1 from Nat.one_pos) (by decide) dv hh p [.slice p.1 p.2.1 p.2.2] (But v)
    (fun _ => False) hs hx rfl (fun _ hk => hk.elim) (fun k hk => ⟨trivial, Kd.fresh_ok HR k hk⟩) HD HB hbase (by omega) (fun d1 w1 h1 h2 h3 h4 => h d1 w1 (Kd.R_after HR h3 h4) h1 h2)
set_option maxRecDepth 100000 in
theorem regen_nil (lost : Int) (A : Option Addr) (N c : Nat) (w : World) : Calls Try.prog 14 #[.pointer none, .int .i64 lost, .slice A N c] w fun e w' => e = .returned (.tuple #[.slice none 0 0, .int .i64 1]) ∧ w' = w := by
  go_enter Try.func14, Try.ntmps14
  go_wp2
  go_ret2
  exact ⟨rfl, rfl⟩
/-- What is known of code and parts. -/
structure RgArgs (v : Value) (n k N : Nat) (A : Option Addr) (s : Nat → Int) (h : Nat → Hd) (x : Nat → List Int) (m : Nat → Nat) (w : World) : Prop where
  hc : IsCodeP w v n k
  k1 : 2 ≤ k
  k2 : k ≤ 8
  n2 : n ≤ 24
  hp : PA w A N s h x
  hm : ∀ i, (x i).length = m i
  hN : N ≤ 100
set_option maxRecDepth 100000 in
set_option maxHeartbeats 2000000 in
theorem regen_bad (v : Value) (n k N c : Nat) (lost : Int) (A : Option Addr) (s : Nat → Int) (h : Nat → Hd) (x : Nat → List Int) (m : Nat → Nat) (w : World) (ha : RgArgs v n k N A s h x m w) (hb : ¬ (0 ≤ lost ∧ lost < n ∧ okTo n s m N ∧ ∀ i, i < N → s i ≠ lost)) :
    Calls Try.prog 14 #[v, .int .i64 lost, .slice A N c] w fun e w' => e = .returned (.tuple #[.slice none 0 0, .int .i64 1]) ∧ Below w.heap.size w w' := by
  have HN := Lib.hid (n_any v n k w ha.hc.code)
  have RA := Lib.hid (right_any v n k N c lost A s h x w ha.hc.code ha.hp m ha.hm ha.hN ha.n2)
  obtain ⟨b, A1, c1, rfl, _⟩ := ha.hc
  have HB0 := Lib.hid (Below.refl w.heap.size w)
  clear ha
  by_cases h1 : lost < 0
  · clear hb
    go_enter Try.func14, Try.ntmps14
    go_wp2
    go_ret2
    exact ⟨rfl, HB0.out⟩
  have h1' : decide (lost < 0) = false := by simp; omega
  by_cases h2 : (n : Int) ≤ lost
  · clear hb
    go_enter Try.func14, Try.ntmps14
    go_wp2_with (go_at_call 22; (with_reducible refine HN.out.mono ?_); rintro e u ⟨rfl, hu⟩; have hu' := hu.symm; subst hu'; clear hu)
    go_ret2
    exact ⟨rfl, HB0.out⟩
  have h2' : decide (lost ≥ (n : Int)) = false := by simp; omega
  have RB := Lib.hid (show Calls Try.prog 31 #[.pointer (some ⟨b, 0, none⟩), .int .i64 lost, .slice A N c] w fun e w' => e = .returned (.bool false) ∧ Below w.heap.size w w' from RA.out.mono (by
    rintro e w' ⟨bb, rfl, hbb, hB⟩
    refine ⟨?_, hB⟩
    cases bb
    · rfl
    · exact absurd ⟨by omega, by omega, hbb.1 rfl⟩ hb))
  clear hb RA
  go_enter Try.func14, Try.ntmps14
  go_wp2_with (first
    | (go_at_call 22; (with_reducible refine HN.out.mono ?_); rintro e u ⟨rfl, hu⟩; have hu' := hu.symm; subst hu'; clear hu)
    | (go_at_call 31; (with_reducible refine RB.out.mono ?_); rintro e w1 ⟨rfl, hb⟩; have HB1 := Lib.hid hb; clear hb))
  go_ret2
  exact ⟨rfl, HB1.out⟩
set_option maxRecDepth 100000 in
set_option maxHeartbeats 2000000 in
theorem regen_few (v : Value) (n k N c lost : Nat) (A : Option Addr) (s : Nat → Int) (h : Nat → Hd) (x : Nat → List Int) (m : Nat → Nat) (w : World) (ha : RgArgs v n k N A s h x m w) (hl : lost < n) (hg : okTo n s m N ∧ ∀ i, i < N → s i ≠ (lost : Int)) (hN : N < 2 * k - 2) :
    Calls Try.prog 14 #[v, .int .i64 lost, .slice A N c] w fun e w' => e = .returned (.tuple #[.slice none 0 0, .int .i64 24]) ∧ Below w.heap.size w w' := by
  have RGT := Lib.hid (fun (lost : Int) (hg : okTo n s m N ∧ ∀ i, i < N → s i ≠ lost) => hg)
  have HN := Lib.hid (n_any v n k w ha.hc.code)
  have HH := Lib.hid (fun W (hB : Below w.heap.size w W) => helpers_any v n k W (ha.hc.below hB).code (by have := ha.k1; omega) (by have := ha.k2; omega))
  have RB := Lib.hid (show Calls Try.prog 31 #[v, .int .i64 lost, .slice A N c] w fun e w' => e = .returned (.bool true) ∧ Below w.heap.size w w' from (right_any v n k N c lost A s h x w ha.hc.code ha.hp m ha.hm ha.hN ha.n2).mono (by
    rintro e w' ⟨bb, rfl, hbb, hB⟩
    refine ⟨?_, hB⟩
    rw [hbb.2 hg]))
  obtain ⟨b, A1, c1, rfl, _⟩ := ha.hc
  have g1 : ¬ (n : Int) ≤ (lost : Int) := by omega
  have g2 : decide ((lost : Int) < 0) = false := by simp
  have g3 : (N : Int) < ((2 * k - 2 : Nat) : Int) := by omega
  obtain ⟨d, hd⟩ : ∃ d, d = 2 * k - 2 := ⟨_, rfl⟩
  rw [← hd] at HH g3
  clear ha hg hN hd RGT hl
  go_enter Try.func14, Try.ntmps14
  go_wp2_with (first
    | (go_at_call 22; (with_reducible refine HN.out.mono ?_); rintro e u ⟨rfl, hu⟩; have hu' := hu.symm; subst hu'; clear hu)
    | (go_at_call 31; (with_reducible refine RB.out.mono ?_); rintro e w1 ⟨rfl, hb⟩; have HB1 := Lib.hid hb; clear hb)
    | (go_at_call 27; (with_reducible refine (HH.out _ HB1.out).mono ?_); rintro e u ⟨rfl, hu⟩; have hu' := hu.symm; subst hu'; clear hu))
  go_ret2
  exact ⟨rfl, HB1.out⟩
end Go.Proofs.Ytcnfafappcbpnaa.Hl
/- Fragments: the program's Regenerate, of what may be. -/
namespace Go.Proofs.Ytcnfafappcbpnaa.Hl
open Go Go.RowKit Go.Proofs.Ytcnfafappcbpnaa.Gf Go.Proofs.Ytcnfafappcbpnaa.Gi Go.Proofs.Ytcnfafappcbpnaa.Bits Go.Proofs.Ytcnfafappcbpnaa.Mem Go.Proofs.Ytcnfafappcbpnaa.Alg Go.Proofs.Ytcnfafappcbpnaa.Sol Go.Proofs.Ytcnfafappcbpnaa.VPts Go.Proofs.Ytcnfafappcbpnaa.Str Go.Proofs.Ytcnfafappcbpnaa.Rws Go.Proofs.Ytcnfafappcbpnaa.Par Go.Proofs.Ytcnfafappcbpnaa.BHealFragments Go.Proofs.YtcnfafappcbpnaaW.PrintWords
set_option linter.unusedVariables false

/-- The points of parts. -/
def ptS (n k : Nat) (s : Nat → Int) (i : Nat) : Nat := ptN n k (s i).toNat
theorem ptS_inj {n k d N : Nat} {s : Nat → Int} {m : Nat → Nat} (k1 : 2 ≤ k) (k2 : k ≤ 8) (n2 : n ≤ 24) (hok : okTo n s m N) (hd : d ≤ N) (i j : Nat) (hi : i < d) (hj : j < d) (h : ptS n k s i = ptS n k s j) : i = j := by
  have hi' := hok i (by omega)
  have hj' := hok j (by omega)
  have h1 := pt_inj n k _ _ k1 k2 n2 (by have := hi'.1; have := hi'.2.1; omega) (by have := hj'.1; have := hj'.2.1; omega) h
  rcases Nat.lt_trichotomy i j with hh | hh | hh
  · exact absurd (show s i = s j by have := hi'.1; have := hj'.1; omega) (hj'.2.2.2.2 i hh)
  · exact hh
  · exact absurd (show s j = s i by have := hi'.1; have := hj'.1; omega) (hi'.2.2.2.2 j hh)
def RegenPost (n k d sz lost : Nat) (s : Nat → Int) (x : Nat → List Int) (w : World) (e : Ending) (w' : World) : Prop :=
  ∃ Z A c', BytM Z ∧ (∀ i, i < d → ∀ q, q < d → dotF d (el (powM (ptS n k s)) i) (fun j => G.of (Z j q)) = G.of (idM i q)) ∧ e = .returned (.tuple #[.slice A ((k - 1) * sz) c', .int .i64 0]) ∧
    (Kd.int .u8).R 5 w' w.heap.size (fun _ => True) (.slice A ((k - 1) * sz) c') (line ((k - 1) * sz) (fun pos => outT x (k - 1) Z ((gp (ptN n k lost) (k - 1) : Nat) : Int) (pos / sz) (pos % sz) d)) ∧ Below w.heap.size w w'
set_option maxRecDepth 100000 in
set_option maxHeartbeats 8000000 in
theorem regen_good (v : Value) (n k N c lost sz : Nat) (A : Option Addr) (s : Nat → Int) (h : Nat → Hd) (x : Nat → List Int) (m : Nat → Nat) (w : World) (ha : RgArgs v n k N A s h x m w) (hl : lost < n) (hg : okTo n s m N ∧ ∀ i, i < N → s i ≠ (lost : Int)) (hN : 2 * k - 2 ≤ N) (hNc : N ≤ c)
    (hsz : m 0 = sz) (hsz2 : sz ≤ 100) (hxb : ∀ q i, Byt ((x q).getD i 0)) :
    Calls Try.prog 14 #[v, .int .i64 lost, .slice A N c] w (RegenPost n k (2 * k - 2) sz lost s x w) := by
  have HN := Lib.hid (n_any v n k w ha.hc.code)
  have HH := Lib.hid (fun W (hB : Below w.heap.size w W) => helpers_any v n k W (ha.hc.below hB).code (by have := ha.k1; omega) (by have := ha.k2; omega))
  have RB := Lib.hid (show Calls Try.prog 31 #[v, .int .i64 lost, .slice A N c] w fun e w' => e = .returned (.bool true) ∧ Below w.heap.size w w' from (right_any v n k N c lost A s h x w ha.hc.code ha.hp m ha.hm ha.hN ha.n2).mono (by
    rintro e w' ⟨bb, rfl, hbb, hB⟩
    refine ⟨?_, hB⟩
    rw [hbb.2 hg]))
  have k1 := ha.k1
  have k2 := ha.k2
  have n2 := ha.n2
  have hN100 := ha.hN
  have RO := Lib.hid (fun W (hB : Below w.heap.size w W) i (hi : i < N) => show Calls Try.prog 32 #[v, .int .i64 (s i)] W fun e w' => ∃ A c, e = .returned (.slice A (2 * k - 2) c) ∧ Kd.R (Kd.int .u8) 5 w' W.heap.size (fun _ => True) (.slice A (2 * k - 2) c) (line (2 * k - 2) (powM (ptS n k s) i)) ∧ Below W.heap.size W w' by
    have h0 := hg.1 i hi
    have h1 := row_any v n k (s i).toNat W (ha.hc.below hB) k1 k2 n2 (by have := h0.1; have := h0.2.1; omega)
    rw [show (((s i).toNat : Nat) : Int) = s i by have := h0.1; omega] at h1
    exact h1)
  have HP := Lib.hid (fun W (hB : Below w.heap.size w W) => (ha.hp.below hB).fewer hN)
  have HXL := Lib.hid (fun q (hq : q < 2 * k - 2) => show (x q).length = sz by rw [ha.hm, (hg.1 q (by omega)).2.2.2.1, hsz])
  have hs1 : 1 ≤ sz := by have := (hg.1 0 (by omega)).2.2.1; omega
  have HInj := Lib.hid (ptS_inj (n := n) (k := k) (d := 2 * k - 2) k1 k2 n2 hg.1 hN)
  have HFB := Lib.hid (fun i => ptN_lt n k (s i).toNat)
  have FO := Lib.hid (fun W vi c A3 Z (hB : Below w.heap.size w W) hZ hZb hx => fold_any v vi n k lost sz (2 * k - 2) c A3 x Z W (ha.hc.below hB) k1 k2 n2 hl rfl hZ hZb hx HXL.out hxb hs1 hsz2)
  obtain ⟨adA, rfl, _⟩ := ha.hp 0 (by omega)
  obtain ⟨b, A1, c1, rfl, _⟩ := ha.hc
  have g1 : ¬ (n : Int) ≤ (lost : Int) := by omega
  have g2 : decide ((lost : Int) < 0) = false := by simp
  have g3 : ¬ (N : Int) < ((2 * k - 2 : Nat) : Int) := by omega
  have g9 : ((2 * k - 2 : Nat) : Int) ≤ (N : Int) := by omega
  have g10 : ((2 * k - 2 : Nat) : Int) ≤ (c : Int) := by omega
  have g11 : (0 : Int) ≤ ((2 * k - 2 : Nat) : Int) := by omega
  obtain ⟨f, hf⟩ : ∃ f, f = ptS n k s := ⟨_, rfl⟩
  have HFB2 := Lib.hid (show ∀ i, f i < 256 by intro i; rw [hf]; exact HFB.out i)
  rw [← hf] at RO
  have HInj2 := Lib.hid (show ∀ i j, i < 2 * k - 2 → j < 2 * k - 2 → f i = f j → i = j by rw [hf]; exact HInj.out)
  have HF := Lib.hid hf
  have HKD := Lib.hid (show 2 * k - 2 ≤ 14 ∧ 2 ≤ 2 * k - 2 by omega)
  have HDI := Lib.hid (show 2 * k - 2 ≤ N from hN)
  obtain ⟨d, hd⟩ : ∃ d, d = 2 * k - 2 := ⟨_, rfl⟩
  rw [← hd] at HH g3 g9 g10 g11 RO HP HXL HInj2 FO HKD HDI ⊢
  have hd14 := HKD.out.1
  have hd2 := HKD.out.2
  have HDK := Lib.hid hd
  clear ha hg hN hNc hsz hxb hf HInj HFB hd k1 k2 n2 hl
  go_enter Try.func14, Try.ntmps14
  go_upto_region 6 with (first
    | (go_at_call 22; (with_reducible refine HN.out.mono ?_); rintro e u ⟨rfl, hu⟩; have hu' := hu.symm; subst hu'; clear hu)
    | (go_at_call 31; (with_reducible refine RB.out.mono ?_); rintro e w1 ⟨rfl, hb⟩; have HB1 := Lib.hid hb; clear hb)
    | (go_at_call 27; (with_reducible refine (HH.out _ HB1.out).mono ?_); rintro e u ⟨rfl, hu⟩; have hu' := hu.symm; subst hu'; clear hu))
  have HB0 := HB1
  clear HB1 RB HN HH
  have HA := Lib.hid (fun W (hB : Below w.heap.size w W) i (hi : i < d) => show W.cell? (adA.add (i * 2)) = some (.int .i64 (s i)) ∧ W.cell? ⟨(adA.add (i * 2)).block, (adA.add (i * 2)).off + 1, none⟩ = some (hv (h i)) by
    obtain ⟨ad, e, h1, h2, _⟩ := HP.out W hB i hi
    injection e with e
    subst e
    exact ⟨h1, h2⟩)
  go_wp2
  go_loopw [8, 9, 11, 48] (fun uv dv _ iv wr => ∃ (i : Nat) (u dd : Value), uv = u ∧ dv = dd ∧ i ≤ d ∧ iv = .int .i64 i ∧ Hid (Kd.R kRow 22 wr w.heap.size (But dd) u (mat i d (powM f))) ∧ Hid (Kd.R kH 22 wr w.heap.size (But u) dd (heads h i)) ∧ Hid (Below w.heap.size w wr)) (fun _ _ _ iv _ => d - (intOf iv).toNat)
  case atStart => exact ⟨0, _, _, rfl, rfl, by omega, rfl, Lib.hid (Kd.R_nil _ _ _ _ _), Lib.hid (Kd.R_nil _ _ _ _ _), HB0⟩
  case round =>
    clear HB0
    obtain ⟨i, u, dd, rfl, rfl, hi, rfl, HU, HD, HB⟩ := hrel
    by_cases hlt : i < d
    · have g1 : (i : Int) < (d : Int) := by omega
      have g2 : (0 : Int) ≤ (i : Int) := by omega
      obtain ⟨k1, k2⟩ := HA.out wr HB.out i hlt
      obtain ⟨⟨A2, m2, c2⟩, hh2⟩ : ∃ q, q = h i := ⟨_, rfl⟩
      rw [← hh2] at k2
      have HH2 := Lib.hid hh2
      have hk2 : wr.cell? ⟨(adA.add (i * 2)).block, (adA.add (i * 2)).off + 1, none⟩ = some (.slice A2 m2 c2) := k2
      have RI := Lib.hid (fun W (hB : Below w.heap.size w W) => RO.out W hB i (Nat.lt_of_lt_of_le hlt HDI.out))
      obtain ⟨si, hsi⟩ : ∃ si, si = s i := ⟨_, rfl⟩
      rw [← hsi] at k1 RI
      obtain ⟨W1, hW1⟩ : ∃ W1, W1 = wr.alloc (.cells #[.int .i64 si, .slice A2 m2 c2] 37) := ⟨_, rfl⟩
      have hb1 : Below wr.heap.size wr W1 := by rw [hW1]; exact (Below.refl _ _).alloc (Nat.le_refl _) _
      have HBK := Lib.hid (show Blk W1 wr.heap.size 37 #[.int .i64 si, .slice A2 m2 c2] by rw [hW1]; exact Blk.new _ _ _)
      have HW1 := Lib.hid hW1
      have HB1 := Lib.hid (HB.out.trans (hb1.mono HB.out.size))
      have HU1 := Lib.hid (Kd.R_below HU.out hb1)
      have HD1 := Lib.hid (Kd.R_below HD.out hb1)
      have HNE := Lib.hid (Kd.fresh_ok HU.out wr.heap.size (Nat.le_refl _))
      obtain ⟨b1, hb1'⟩ : ∃ b1, b1 = wr.heap.size := ⟨_, rfl⟩
      rw [← hb1'] at HBK HNE
      have HB1' := Lib.hid hb1'
      clear k2 hh2 hsi hW1 hb1 hb1' HU HD HB RO
      go_upto_region 10 with (fail)
      rw [← HW1.out, ← HB1'.out]
      clear k1 hk2 HW1 HB1'
      have c0 : W1.cell? ⟨b1, 0, none⟩ = some (.int .i64 si) := (HBK.out.cell 0).trans rfl
      go_wp2_with (first
        | (go_at_call 32; (with_reducible refine (RI.out _ HB1.out).mono ?_); rintro e w3 ⟨A8, c8, rfl, hr8, hb⟩; have HR8 := Lib.hid hr8; have HB3 := Lib.hid hb; clear hr8 hb)
        | (at_builtin; refine rows_appendS (w0 := w) (W := w3) (wr := W1) rfl w.heap.size rfl _ _ rfl u8 _ u9 _ _ _ rfl rfl HU1.out HD1.out (HB1.out.trans (HB3.out.mono HB1.out.size)) HB1.out.size HB3.out HR8.out (by rw [mat_len]; have := HKD.out; omega) ?_; intro v5 w5 h5 h6 h7 h8; have H5 := Lib.hid h5; have H6 := Lib.hid h6; have HB5 := Lib.hid h7; have c1 : w5.cell? ⟨b1, 1, none⟩ = some (.slice A2 m2 c2) := (((HBK.out.below HB3.out HBK.out.lt).grown h8 HNE.out).cell 1).trans rfl; clear h5 h6 h7 h8 c0)
        | (at_builtin; refine heads_appendS (w0 := w) (W := w5) rfl w.heap.size rfl _ _ rfl v5 u9 _ _ (A2, m2, c2) rfl rfl H5.out H6.out HB5.out HB5.out.size (by rw [Par.heads_len]; have := HKD.out; omega) ?_; intro v6 w6 h5 h6 h7; have H7 := Lib.hid h5; have H8 := Lib.hid h6; have HB6 := Lib.hid h7; clear h5 h6 h7))
      go_roundw
      case rel =>
        refine ⟨i + 1, _, _, rfl, rfl, by omega, by go_num, Lib.hid ?_, Lib.hid ?_, HB6⟩
        · rw [mat_succ]; exact H7.out
        · rw [Par.heads_succ, ← HH2.out]; exact H8.out
      case measure => simp [intOf]; omega
    · obtain rfl : d = i := by omega
      clear HA RO
      have hMb := powM_byt HFB2.out
      have hinj := powM_inj HFB2.out HInj2.out
      obtain ⟨t0, C0, hst⟩ := StepsTo.ex d hMb d
      have ht : t0 = d := by have := (hst.one hMb hinj).1; omega
      have OFC := Lib.hid (show Calls Try.prog 33 #[u8] wr fun e w' => ∃ b s cap, e = .returned (.tuple #[.pointer (some ⟨b, 0, none⟩), .int .i64 0]) ∧ Mat.MatIn w' b s d d cap (Mat.flat (mat d d (powM f))) ∧ Below wr.heap.size wr w' by
        obtain ⟨A7, c7, rfl⟩ := Kd.R_slice HU.out
        rw [mat_len]
        obtain ⟨hl, hc, hC'⟩ := Kd.R_reads' HU.out
        have e : ((mat d d (powM f)).getD 0 []).length = d := by rw [mat_get d d (powM f) 0 (by omega), line_len]
        have h := Mat.of_right A7 c7 (mat d d (powM f)) wr wr (Below.refl _ _) hC' (mat_right d d (powM f) (by omega) (by omega) (by omega) (by omega)) (mat_bytes d d hMb) (by rw [mat_len] at hl hc ⊢; omega)
        rw [mat_len, e] at h
        refine h.mono ?_
        rintro e w' ⟨b, s, cap, rfl, hm, hb, _, _⟩
        exact ⟨b, s, cap, rfl, hm, hb⟩)
      have INV := Lib.hid (fun bq sq cq W (hm : Mat.MatIn W bq sq d d cq (Mat.flat (mat d d (powM f)))) => invert_wholeE bq sq cq d t0 (powM f) C0 W hm hMb hst ht)
      have FOC := Lib.hid (fun W vi Z (hB : Below wr.heap.size wr W) (hZ : Mat.IsMat W vi d d (Mat.flat (mat d d Z))) (hZb : BytM Z) => show Calls Try.prog 35 #[.pointer (some ⟨b, 0, none⟩), .int .i64 lost, vi, u9] W fun e w' => ∃ A c', e = .returned (.slice A ((k - 1) * sz) c') ∧ (Kd.int .u8).R 5 w' W.heap.size (fun _ => True) (.slice A ((k - 1) * sz) c') (line ((k - 1) * sz) (fun pos => outT x (k - 1) Z ((gp (ptN n k lost) (k - 1) : Nat) : Int) (pos / sz) (pos % sz) d)) ∧ Below W.heap.size W w' by
        have HDW := Kd.R_below HD.out hB
        have hBW := HB.out.trans (hB.mono HB.out.size)
        obtain ⟨A7, c7, rfl⟩ := Kd.R_slice HDW
        rw [Par.heads_len]
        obtain ⟨hl, hc, hC'⟩ := Kd.R_reads' HDW
        rw [Par.heads_len] at hC'
        refine FO.out W vi c7 A7 Z hBW hZ hZb (Par.heads_C (h := h) (fun i hi => ?_) hC')
        obtain ⟨ad, e, _, _, h3, h4, h5⟩ := HP.out W hBW i hi
        exact ⟨h3, h4, h5⟩)
      clear FO HU HD hMb hinj hst ht HInj2 HFB2 HP HXL HDI
      go_wp2_with (first
        | (go_at_call 33; (with_reducible refine OFC.out.mono ?_); rintro e w3 ⟨b3, s3, cap3, rfl, hm, hb⟩; have HM3 := Lib.hid hm; have HB3 := Lib.hid hb; clear hm hb)
        | (go_at_call 34; (with_reducible refine (INV.out _ _ _ _ HM3.out).mono ?_); rintro e w4 ⟨b4, s4, cap4, Z, rfl, hm, hs, hb⟩; have HM4 := Lib.hid hm; have HS4 := Lib.hid hs; have HZ4 := Lib.hid hs.1; have HI4 : Mat.IsMat w4 (.pointer (some ⟨b4, 0, none⟩)) d d (Mat.flat (mat d d Z)) := ⟨b4, s4, cap4, rfl, hm⟩; have HI5 := Lib.hid HI4; clear HI4; have HB4 := Lib.hid (HB3.out.trans (hb.mono HB3.out.size)); clear hm hs hb)
        | (go_at_call 35; (with_reducible refine (FOC.out _ _ Z HB4.out HI5.out HZ4.out).mono ?_); rintro e w5 ⟨A5, c5, rfl, hr, hb⟩; have HR5 := Lib.hid hr; have HB5 := Lib.hid (HB.out.trans ((HB4.out.trans (hb.mono HB4.out.size)).mono HB.out.size)); clear hr hb))
      go_ret2
      exact ⟨Z, A5, c5, HS4.out.1, by rw [← HF.out]; exact HS4.out.2, rfl, Kd.R_lower HR5.out (Nat.le_trans HB.out.size HB4.out.size), HB5.out⟩
end Go.Proofs.Ytcnfafappcbpnaa.Hl
/- The printed product of the document's answer is the plain one. -/
namespace Go.Proofs.Ytcnfafappcbpnaa.BSteps
open Go Go.RowKit Go.Proofs.Ytcnfafappcbpnaa.PSteps Go.Proofs.Ytcnfafappcbpnaa.Gf Go.Proofs.Ytcnfafappcbpnaa.Bits Go.Proofs.YtcnfafappcbpnaaW.PrintWords Go.Proofs.YtcnfafappcbpnaaW.PrintLast

theorem ref_bit (i : Nat) : ∀ (k n : Nat), n < 9223372036854775808 → i < 64 → i < k → coldframeref02_bit.f k n i = some ((n / 2 ^ i % 2 : Nat) : Int) := by
  induction i with
  | zero =>
    intro k n hn hi hk
    obtain ⟨k, rfl⟩ : ∃ m, k = m + 1 := ⟨k - 1, by omega⟩
    simp only [coldframeref02_bit.f, coldframeref02_bit.l0]
    rw [if_neg (by omega), Int.tmod_eq_emod_of_nonneg (by omega)]
    congr 1; simp
  | succ i ih =>
    intro k n hn hi hk
    obtain ⟨k, rfl⟩ : ∃ m, k = m + 1 := ⟨k - 1, by omega⟩
    simp only [coldframeref02_bit.f, coldframeref02_bit.l0]
    have e1 : wrap64 (Int.tdiv (n : Int) 2) = ((n / 2 : Nat) : Int) := by
      rw [Int.tdiv_eq_ediv_of_nonneg (by omega), wrap64_in _ (by omega) (by omega)]; omega
    have e2 : wrap64 (((i + 1 : Nat) : Int) - 1) = (i : Int) := by rw [wrap64_in _ (by omega) (by omega)]; omega
    rw [if_pos (by omega), e1, e2]
    have := ih k (n / 2) (by omega) (by omega) (by omega)
    simp only [coldframeref02_bit.f] at this
    rw [this, Nat.div_div_eq_div_mul, Nat.pow_succ, Nat.mul_comm 2]

theorem ref_power (i : Nat) : ∀ (k p : Nat), p * 2 ^ i < 9223372036854775808 → i < 64 → i < k → coldframeref02_power.l0 k i p = some ((p * 2 ^ i : Nat) : Int) := by
  induction i with
  | zero =>
    intro k p hp hi hk
    obtain ⟨k, rfl⟩ : ∃ m, k = m + 1 := ⟨k - 1, by omega⟩
    simp only [coldframeref02_power.l0]
    rw [if_neg (by omega)]
    congr 1; simp
  | succ i ih =>
    intro k p hp hi hk
    obtain ⟨k, rfl⟩ : ∃ m, k = m + 1 := ⟨k - 1, by omega⟩
    simp only [coldframeref02_power.l0]
    have hpos : 0 < 2 ^ i := Nat.two_pow_pos i
    have hle : p * 2 ≤ p * 2 ^ (i + 1) := by
      rw [Nat.pow_succ]; exact Nat.mul_le_mul_left p (by omega)
    have e1 : wrap64 ((p : Int) * 2) = ((p * 2 : Nat) : Int) := by
      rw [wrap64_in _ (by omega) (by omega)]; omega
    have e2 : wrap64 (((i + 1 : Nat) : Int) - 1) = (i : Int) := by rw [wrap64_in _ (by omega) (by omega)]; omega
    have e3 : p * 2 * 2 ^ i = p * 2 ^ (i + 1) := by rw [Nat.pow_succ, Nat.mul_assoc, Nat.mul_comm 2]
    rw [if_pos (by omega), e1, e2, ih k (p * 2) (by omega) (by omega) (by omega), e3]

theorem ref_pow2 (i k : Nat) (hi : i < 62) (hk : i < k) : coldframeref02_power.f k i = some ((2 ^ i : Nat) : Int) := by
  unfold coldframeref02_power.f
  have hp : 2 ^ i ≤ 2 ^ 61 := Nat.pow_le_pow_right (by decide) (by omega)
  have := ref_power i k 1 (by omega) (by omega) hk
  simpa using this

theorem ref_down (n : Nat) : ∀ (k p : Nat), n ≤ 7 → p < 2 ^ 15 → 40 ≤ k → coldframeref02_Mul.l1 (k + n) p ((n : Int) + 7) = some ((redA n p % 256 : Nat) : Int) := by
  induction n with
  | zero =>
    intro k p hn hp hk
    obtain ⟨k, rfl⟩ : ∃ m, k = m + 1 := ⟨k - 1, by omega⟩
    simp only [coldframeref02_Mul.l1, redA]
    rw [if_neg (by omega)]
    congr 1
  | succ n ih =>
    intro k p hn hp hk
    rw [show k + (n + 1) = (k + n) + 1 from rfl]
    simp only [coldframeref02_Mul.l1, redA]
    have e0 : ((n + 1 : Nat) : Int) + 7 = ((n + 8 : Nat) : Int) := by omega
    have e1 : wrap64 (((n + 8 : Nat) : Int) - 8) = (n : Int) := by rw [wrap64_in _ (by omega) (by omega)]; omega
    have e2 : wrap64 (((n + 8 : Nat) : Int) - 1) = (n : Int) + 7 := by rw [wrap64_in _ (by omega) (by omega)]; omega
    rw [e0, if_pos (by omega), ref_bit (n + 8) _ p (by omega) (by omega) (by omega)]
    simp only [bnd]
    rw [e1, e2]
    rcases bit01 (p / 2 ^ (n + 8)) with h | h
    · rw [if_neg (by omega), h, Nat.zero_mul, Nat.xor_zero, ih k p (by omega) hp hk]
    · have hq : 2 ^ n ≤ 2 ^ 6 := Nat.pow_le_pow_right (by decide) (by omega)
      have hm : 285 * 2 ^ n ≤ 285 * 2 ^ 6 := Nat.mul_le_mul_left 285 hq
      have hm' : 285 * 2 ^ n < 2 ^ 15 := Nat.lt_of_le_of_lt hm (by decide)
      have e3 : wrap64 (285 * ((2 ^ n : Nat) : Int)) = ((285 * 2 ^ n : Nat) : Int) := by
        show wrap64 (((285 : Nat) : Int) * ((2 ^ n : Nat) : Int)) = _
        rw [← Int.natCast_mul]; exact wrap64_nat _ (Nat.lt_of_lt_of_le hm' (by decide))
      rw [if_pos (by omega), ref_pow2 n _ (by omega) (by omega)]
      simp only [bnd]
      have hx : p ^^^ 285 * 2 ^ n < 2 ^ 15 := Nat.xor_lt_two_pow hp hm'
      rw [e3, xor_i64 p (285 * 2 ^ n) (Nat.lt_of_lt_of_le hp (by decide)) (Nat.lt_of_lt_of_le hm' (by decide)), h, Nat.one_mul, ih k _ (by omega) hx hk]

theorem ref_up (n : Nat) : ∀ (k a b p i : Nat), n + i = 8 → a < 256 → b < 256 → p < 2 ^ 15 → 60 ≤ k →
    coldframeref02_Mul.l0 (k + n) a b p i = some ((redA 7 (clA n (b / 2 ^ i) p (a * 2 ^ i)) % 256 : Nat) : Int) := by
  induction n with
  | zero =>
    intro k a b p i hi ha hb hp hk
    obtain ⟨k, rfl⟩ : ∃ m, k = m + 7 + 1 := ⟨k - 8, by omega⟩
    simp only [coldframeref02_Mul.l0, clA]
    rw [if_neg (by omega)]
    exact ref_down 7 k p (by omega) hp (by omega)
  | succ n ih =>
    intro k a b p i hi ha hb hp hk
    rw [show k + (n + 1) = (k + n) + 1 from rfl]
    simp only [coldframeref02_Mul.l0, clA]
    have e2 : wrap64 ((i : Int) + 1) = ((i + 1 : Nat) : Int) := by rw [wrap64_in _ (by omega) (by omega)]; omega
    have e4 : b / 2 ^ i / 2 = b / 2 ^ (i + 1) := by rw [Nat.div_div_eq_div_mul, Nat.pow_succ]
    have e5 : a * 2 ^ i * 2 = a * 2 ^ (i + 1) := by rw [Nat.pow_succ, Nat.mul_assoc]
    rw [if_pos (by omega), wrap64_nat b (by omega), wrap64_nat a (by omega), ref_bit i _ b (by omega) (by omega) (by omega)]
    simp only [bnd]
    rw [e2, e4, e5]
    rcases bit01 (b / 2 ^ i) with h | h
    · rw [if_neg (by omega), h, Nat.zero_mul, Nat.xor_zero, ih k a b p (i + 1) (by omega) ha hb hp hk]
    · have hq : 2 ^ i ≤ 2 ^ 7 := Nat.pow_le_pow_right (by decide) (by omega)
      have hm : a * 2 ^ i ≤ 255 * 2 ^ 7 := Nat.mul_le_mul (by omega) hq
      have hm' : a * 2 ^ i < 2 ^ 15 := Nat.lt_of_le_of_lt hm (by decide)
      have e3 : wrap64 ((a : Int) * ((2 ^ i : Nat) : Int)) = ((a * 2 ^ i : Nat) : Int) := by
        rw [← Int.natCast_mul]; exact wrap64_nat _ (Nat.lt_of_lt_of_le hm' (by decide))
      rw [if_pos (by omega), ref_pow2 i _ (by omega) (by omega)]
      simp only [bnd]
      have hx : p ^^^ a * 2 ^ i < 2 ^ 15 := Nat.xor_lt_two_pow hp hm'
      rw [e3, xor_i64 p (a * 2 ^ i) (Nat.lt_of_lt_of_le hp (by decide)) (Nat.lt_of_lt_of_le hm' (by decide)), h, Nat.one_mul, ih k a b _ (i + 1) (by omega) ha hb hx hk]

theorem ref_mul (k a b : Nat) (ha : a < 256) (hb : b < 256) (hk : 68 ≤ k) : coldframeref02_Mul.f k a b = some ((gm a b : Nat) : Int) := by
  unfold coldframeref02_Mul.f
  obtain ⟨k, rfl⟩ : ∃ m, k = m + 8 := ⟨k - 8, by omega⟩
  have h := ref_up 8 k a b 0 0 (by omega) ha hb (by omega) (by omega)
  have h1 := ref_eq a b ha hb
  have h2 := gm_lt a b ha
  simp only [Nat.pow_zero, Nat.div_one, Nat.mul_one, h1, Nat.mod_eq_of_lt h2] at h
  exact h
end Go.Proofs.Ytcnfafappcbpnaa.BSteps
/- Steps: the document's times, plus and Inv, as printed. -/
namespace Go.Proofs.Ytcnfafappcbpnaa.Sol
open Go Go.RowKit Go.Proofs.Ytcnfafappcbpnaa.PSteps Go.Proofs.Ytcnfafappcbpnaa.BSteps Go.Proofs.Ytcnfafappcbpnaa.Gf Go.Proofs.Ytcnfafappcbpnaa.Gi Go.Proofs.Ytcnfafappcbpnaa.Bits Go.Proofs.Ytcnfafappcbpnaa.Rws Go.Proofs.YtcnfafappcbpnaaW.PrintWords Go.Proofs.YtcnfafappcbpnaaW.PrintLast
set_option linter.unusedVariables false

/-- The first i by f, the others nought. -/
def upto (m : Nat) (f : Nat → Int) (i : Nat) : List Int := line m (fun j => if j < i then f j else 0)
theorem upto_zero (m : Nat) (f : Nat → Int) : upto m f 0 = List.replicate m 0 := by
  rw [← line_zero]; exact line_congr m _ _ (fun j _ => by rw [if_neg (Nat.not_lt_zero j)])
theorem upto_full (m : Nat) (f : Nat → Int) : upto m f m = line m f := line_congr m _ _ (fun j hj => by rw [if_pos hj])
theorem upto_len (m : Nat) (f : Nat → Int) (i : Nat) : (upto m f i).length = m := line_len _ _
theorem upto_set (m : Nat) (f : Nat → Int) (i : Nat) (hi : i < m) : (upto m f i).set i (f i) = upto m f (i + 1) := by
  unfold upto
  rw [line_set m _ i hi]
  refine line_congr m _ _ (fun k hk => ?_)
  by_cases e : k = i
  · subst e; rw [if_pos rfl, if_pos (by omega)]
  · rw [if_neg e]
    by_cases h : k < i
    · rw [if_pos h, if_pos (by omega)]
    · rw [if_neg h, if_neg (by omega)]
theorem rd_line (m : Nat) (f : Nat → Int) (i : Nat) (hi : i < m) : rd (line m f) (i : Int) = f i := by
  have h := line_get m f i hi
  simpa [rd, List.getD_eq_getElem?_getD] using h
theorem inc (i : Nat) (h : i < 1000000) : wrap64 ((i : Int) + 1) = ((i + 1 : Nat) : Int) := by rw [wrap64_in _ (by omega) (by omega)]; omega
theorem mulI (k : Nat) (a b : Int) (ha : Byt a) (hb : Byt b) (hk : 68 ≤ k) : coldframeref02_Mul.f k a b = some (gmI a b) := by
  obtain ⟨x, hx, rfl⟩ := byt_nat ha
  obtain ⟨y, hy, rfl⟩ := byt_nat hb
  rw [ref_mul k x y hx hy hk]; simp [gmI]
theorem times_loop (m : Nat) (hm : m ≤ 1000) (f : Nat → Int) (x : Int) (hf : ∀ i, Byt (f i)) (hx : Byt x) (d : Nat) : ∀ (k i : Nat), i + d = m → 100 + d ≤ k → coldframeref04_times.l0 k (line m f) x (upto m (fun i => gmI (f i) x) i) (i : Int) = some (line m (fun i => gmI (f i) x)) := by
  induction d with
  | zero =>
    intro k i hi hk
    obtain ⟨k, rfl⟩ : ∃ q, k = q + 1 := ⟨k - 1, by omega⟩
    obtain rfl : i = m := by omega
    simp only [coldframeref04_times.l0]
    rw [line_len, if_neg (by omega), upto_full]
  | succ d ih =>
    intro k i hi hk
    obtain ⟨k, rfl⟩ : ∃ q, k = q + 1 := ⟨k - 1, by omega⟩
    simp only [coldframeref04_times.l0]
    rw [line_len, if_pos (by omega), if_pos (by omega), rd_line m f i (by omega), mulI k _ _ (hf i) hx (by omega), Option.bind_some, upto_len, if_pos (by omega), Int.toNat_natCast, upto_set m (fun i => gmI (f i) x) i (by omega), inc i (by omega)]
    exact ih k (i + 1) (by omega) (by omega)
theorem times_f (m : Nat) (hm : m ≤ 1000) (f : Nat → Int) (x : Int) (hf : ∀ i, Byt (f i)) (hx : Byt x) : coldframeref04_times.f 2000 (line m f) x = some (line m (fun i => gmI (f i) x)) := by
  unfold coldframeref04_times.f
  rw [line_len, if_pos (by omega), if_pos (by omega), Int.toNat_natCast, ← upto_zero m (fun i => gmI (f i) x)]
  exact times_loop m hm f x hf hx m 2000 0 (by omega) (by omega)
theorem plus_loop (m : Nat) (hm : m ≤ 1000) (f g : Nat → Int) (hf : ∀ i, Byt (f i)) (hg : ∀ i, Byt (g i)) (d : Nat) : ∀ (k i : Nat), i + d = m → 100 + d ≤ k → coldframeref04_plus.l0 k (line m f) (line m g) (upto m (fun i => xorI (f i) (g i)) i) (i : Int) = some (line m (fun i => xorI (f i) (g i))) := by
  induction d with
  | zero =>
    intro k i hi hk
    obtain ⟨k, rfl⟩ : ∃ q, k = q + 1 := ⟨k - 1, by omega⟩
    obtain rfl : i = m := by omega
    simp only [coldframeref04_plus.l0]
    rw [line_len, if_neg (by omega), upto_full]
  | succ d ih =>
    intro k i hi hk
    obtain ⟨k, rfl⟩ : ∃ q, k = q + 1 := ⟨k - 1, by omega⟩
    simp only [coldframeref04_plus.l0]
    rw [line_len, if_pos (by omega), if_pos (by omega), line_len, if_pos (by omega), upto_len, if_pos (by omega), rd_line m f i (by omega), rd_line m g i (by omega), xor_bits (hf i) (hg i), Int.toNat_natCast, upto_set m (fun i => xorI (f i) (g i)) i (by omega), inc i (by omega)]
    exact ih k (i + 1) (by omega) (by omega)
theorem plus_f (m : Nat) (hm : m ≤ 1000) (f g : Nat → Int) (hf : ∀ i, Byt (f i)) (hg : ∀ i, Byt (g i)) : coldframeref04_plus.f 2000 (line m f) (line m g) = some (line m (fun i => xorI (f i) (g i))) := by
  unfold coldframeref04_plus.f
  rw [line_len, if_pos (by omega), if_pos (by omega), Int.toNat_natCast, ← upto_zero m (fun i => xorI (f i) (g i))]
  exact plus_loop m hm f g hf hg m 2000 0 (by omega) (by omega)
theorem inv_loop (a : Int) (ha : Byt a) (d : Nat) : ∀ (k b : Nat), b + d = 256 → (∃ j : Nat, b ≤ j ∧ j < 256 ∧ gmI a j = 1) → 100 + d ≤ k → ∃ r, Byt r ∧ gmI a r = 1 ∧ coldframeref02_Inv.l0 k a (b : Int) = some r := by
  induction d with
  | zero => intro k b hb ⟨j, h1, h2, _⟩; omega
  | succ d ih =>
    intro k b hb hj hk
    obtain ⟨k, rfl⟩ : ∃ q, k = q + 1 := ⟨k - 1, by omega⟩
    simp only [coldframeref02_Inv.l0]
    have e : ((b : Int) % 256) = (b : Int) := by omega
    rw [if_pos (by omega), e, mulI k a b ha ⟨by omega, by omega⟩ (by omega), Option.bind_some]
    by_cases h1 : gmI a b = 1
    · rw [if_pos h1]; exact ⟨_, ⟨by omega, by omega⟩, h1, rfl⟩
    · rw [if_neg h1, inc b (by omega)]
      obtain ⟨j, j1, j2, j3⟩ := hj
      have hne : j ≠ b := fun e => h1 (by rw [← e]; exact j3)
      exact ih k (b + 1) (by omega) ⟨j, by omega, j2, j3⟩ (by omega)
theorem inv_f (a : Int) (ha : Byt a) (h0 : a ≠ 0) : ∃ r, Byt r ∧ gmI a r = 1 ∧ coldframeref02_Inv.f 2000 a = some r := by
  obtain ⟨x, hx, rfl⟩ := byt_nat ha
  refine inv_loop x ha 255 2000 1 rfl ⟨ginv x, ?_, ginv_lt x hx, ?_⟩ (by omega)
  · rcases Nat.eq_zero_or_pos (ginv x) with h | h
    · have := gm_inv x hx (by omega)
      rw [h, gm_zero_right] at this
      cases this
    · exact h
  · simp only [gmI, Int.toNat_natCast, gm_inv x hx (by omega)]; rfl
theorem times_any (m c0 : Nat) (A : Option Addr) (f : Nat → Int) (x : Int) (w : World) (hC : (Kd.int .u8).C w A m (line m f)) (hf : ∀ i, Byt (f i)) (hx : Byt x) (hc : m ≤ c0) (hm : m ≤ 1000) :
    Calls Try.prog 55 #[.slice A m c0, .int .u8 x] w fun e w' => ∃ A' c', e = .returned (.slice A' m c') ∧ Kd.R (Kd.int .u8) 5 w' w.heap.size (fun _ => True) (.slice A' m c') (line m (fun i => gmI (f i) x)) ∧ Below w.heap.size w w' := by
  have h := coldframeref04_times.calls 2000 A c0 (line m f) x _ w (by rw [line_len]; exact hC) (by rw [line_len]; exact hc) (times_f m hm f x hf hx)
  rw [line_len] at h
  refine h.mono ?_
  rintro e w' ⟨v, rfl, hR, hB⟩
  obtain ⟨A', c', rfl⟩ := Kd.R_slice hR
  rw [line_len] at hR ⊢
  exact ⟨A', c', rfl, hR, hB⟩
theorem plus_any (m c0 c1 : Nat) (A A1 : Option Addr) (f g : Nat → Int) (w : World) (hC : (Kd.int .u8).C w A m (line m f)) (hC1 : (Kd.int .u8).C w A1 m (line m g)) (hf : ∀ i, Byt (f i)) (hg : ∀ i, Byt (g i)) (hc : m ≤ c0) (hc1 : m ≤ c1) (hm : m ≤ 1000) :
    Calls Try.prog 57 #[.slice A m c0, .slice A1 m c1] w fun e w' => ∃ A' c', e = .returned (.slice A' m c') ∧ Kd.R (Kd.int .u8) 5 w' w.heap.size (fun _ => True) (.slice A' m c') (line m (fun i => xorI (f i) (g i))) ∧ Below w.heap.size w w' := by
  have h := coldframeref04_plus.calls 2000 A c0 (line m f) A1 c1 (line m g) _ w (by rw [line_len]; exact hC) (by rw [line_len]; exact hc) (by rw [line_len]; exact hC1) (by rw [line_len]; exact hc1) (plus_f m hm f g hf hg)
  rw [line_len, line_len] at h
  refine h.mono ?_
  rintro e w' ⟨v, rfl, hR, hB⟩
  obtain ⟨A', c', rfl⟩ := Kd.R_slice hR
  rw [line_len] at hR ⊢
  exact ⟨A', c', rfl, hR, hB⟩
theorem inv_any (a : Int) (ha : Byt a) (h0 : a ≠ 0) : ∃ r, Byt r ∧ gmI a r = 1 ∧ ∀ w, Calls Try.prog 56 #[.int .u8 a] w fun e w' => e = .returned (.int .u8 r) ∧ Below w.heap.size w w' := by
  obtain ⟨r, h1, h2, h3⟩ := inv_f a ha h0
  refine ⟨r, h1, h2, fun w => (coldframeref02_Inv.calls 2000 a r w h3).mono ?_⟩
  rintro e w' ⟨rfl, hD⟩
  obtain ⟨n, rfl⟩ := hD.out
  exact ⟨rfl, pw_below_drewN (Below.refl _ _) n⟩
end Go.Proofs.Ytcnfafappcbpnaa.Sol
/- Steps: the document's, walked: first the copy. -/
namespace Go.Proofs.Ytcnfafappcbpnaa.Sol
open Go Go.RowKit Go.Proofs.Ytcnfafappcbpnaa.PSteps Go.Proofs.Ytcnfafappcbpnaa.BSteps Go.Proofs.Ytcnfafappcbpnaa.Gf Go.Proofs.Ytcnfafappcbpnaa.Gi Go.Proofs.Ytcnfafappcbpnaa.Bits Go.Proofs.Ytcnfafappcbpnaa.Mem Go.Proofs.Ytcnfafappcbpnaa.Rws Go.Proofs.YtcnfafappcbpnaaW.PrintWords Go.Proofs.YtcnfafappcbpnaaW.PrintLast
set_option linter.unusedVariables false

theorem rowq {W : World} {base b1 g n m cap q t k col : Nat} {M : Mtx} {r : Int} {A6 : Option Addr} {c6 : Nat} (h : RowsR W base (.slice (some ⟨g, 0, none⟩) n cap) (mat n m (fun p => if p < q then stepI M t k col r p else if p = t then (fun j => gmI (M k j) r) else swapI M t k p))) (hq : q < n) (hqt : ¬ q = t)
    (hR : (Kd.int .u8).R 5 W b1 (fun _ => True) (.slice A6 m c6) (line m (fun j => xorI (swapI M t k q j) (gmI (gmI (M k j) r) (swapI M t k q col))))) (hb : base ≤ b1) (hg : g < b1) :
    RowsR (W.setCell ⟨g, q, none⟩ (.slice A6 m c6)) base (.slice (some ⟨g, 0, none⟩) n cap) (mat n m (fun p => if p < q + 1 then stepI M t k col r p else if p = t then (fun j => gmI (M k j) r) else swapI M t k p)) := by
  have h1 := rput h q hq (.slice A6 m c6) _ (fun p => some p = (Value.slice A6 m c6).ownBlock) (row_M (Kd.own_of_R hR) hb rfl) (fun p hp => by
    have := Kd.R_base hR p hp.symm
    omega)
  rw [mat_set n m _ q hq] at h1
  rw [mat_congr n m _ (fun p => if p = q then (fun j => xorI (swapI M t k q j) (gmI (gmI (M k j) r) (swapI M t k q col))) else if p < q then stepI M t k col r p else if p = t then (fun j => gmI (M k j) r) else swapI M t k p) (fun p hp j hj => ?_)]
  · exact h1
  · by_cases e : p = q
    · subst e
      rw [if_pos (by omega), if_pos rfl]
      unfold stepI
      rw [if_neg hqt]
    · rw [if_neg e]
      by_cases h1 : p < q
      · rw [if_pos (by omega), if_pos h1]
      · rw [if_neg (by omega), if_neg h1]
theorem setx {W : World} {base b1 g n cap : Nat} {ls : List (List Int)} {v : Value} {xs : List Int} (hR : (Kd.int .u8).R 5 W b1 (fun _ => True) v xs) (h : RowsR W base (.slice (some ⟨g, 0, none⟩) n cap) ls) (q : Nat) (u : Value) : (Kd.int .u8).R 5 (W.setCell ⟨g, q, none⟩ u) b1 (fun _ => True) v xs := by
  obtain ⟨cur, hh⟩ := (rblk h).2
  exact Kd.R_set hR hh (by decide) q u
set_option maxRecDepth 100000 in
set_option maxHeartbeats 4000000 in
theorem steps_any (n m c0 : Nat) (A : Option Addr) (M0 : Mtx) (w : World) (hC : Kd.C kRow w A n (mat n m M0)) (h0 : BytM M0) (hn1 : 1 ≤ n) (hn : n ≤ 1000) (hm1 : 1 ≤ m) (hm : m ≤ 1000) :
    Calls Try.prog 36 #[.slice A n c0] w fun e w' => ∃ u t M, e = .returned u ∧ RowsR w' w.heap.size u (mat n m M) ∧ StepsTo n M0 m t M ∧ Below w.heap.size w w' := by
  have HC := Lib.hid (fun W (hB : Below w.heap.size w W) => Kd.C_below hC hB)
  have H0 := Lib.hid h0
  clear hC h0
  go_enter Try.func36, Try.ntmps36
  go_wp2
  go_loopw [3, 4] (fun u0 iv wr => ∃ (i : Nat) (u : Value), u0 = u ∧ i ≤ n ∧ iv = .int .i64 i ∧ Hid (RowsR wr w.heap.size u (mat i m M0)) ∧ Hid (Below w.heap.size w wr)) (fun _ iv _ => n - (intOf iv).toNat)
  case atStart => exact ⟨0, _, rfl, by omega, rfl, Lib.hid (Kd.R_nil _ _ _ _ _), Lib.hid (Below.refl _ _)⟩
  case round =>
    obtain ⟨i, u, rfl, hi, rfl, HO, HB⟩ := hrel
    by_cases hlt : i < n
    · obtain ⟨ad, A1, c1, rfl, hcell, _, hC1⟩ := mrow (HC.out _ HB.out) i hlt
      have HR1 := Lib.hid (Kd.reads_of_C (d := (0 : Int)) hC1)
      have HL0 := Lib.hid (show (wr.alloc (.cells #[] 5)).ownsRow wr.heap.size 5 1 (.slice (some ⟨wr.heap.size, 0, none⟩) 0 0) ([] : List Int).length (nums .u8 []) from own_lit wr wr.heap.size 5 .u8 [] (Nat.le_refl _) (by simp))
      have g1 : (i : Int) < (n : Int) := by omega
      have g2 : (0 : Int) ≤ (i : Int) := by omega
      have hl := line_len m (M0 i)
      obtain ⟨xs, hxs⟩ : ∃ xs, xs = line m (M0 i) := ⟨_, rfl⟩
      rw [← hxs] at HR1 hl
      have HXS := Lib.hid hxs
      have hcella := pw_cell_below (((Below.refl wr.heap.size wr).alloc (Nat.le_refl _) (.cells #[] 5))) hcell
      clear hC1 hxs
      go_wp2_with (first
        | (at_builtin; refine print_append_row (w0 := wr) wr.heap.size rfl _ _ 22 5 .u8 1 rfl Try.underlying22 info_byte (by decide) _ [] xs _ _ _ rfl rfl HL0.out (ReadsInt.allocS HR1.out _) ((Below.refl _ _).alloc (Nat.le_refl _) _) (by simp) (by simp; omega) ?_; intro v1 w1 ho hb _ _; obtain ⟨A9, c9, rfl⟩ := own_slice ho; have HOW := Lib.hid (clone_R ho hl); have HB1 := Lib.hid hb; clear ho hb)
        | (at_builtin; refine rows_append2 (w0 := w) (wr := wr) rfl w.heap.size rfl _ _ rfl u3 _ (mat i m M0) _ rfl rfl HO.out (HB.out.trans (HB1.out.mono HB.out.size)) HB.out.size HB1.out HOW.out (by rw [mat_len]; omega) ?_; intro v5 w5 h5 hb5; have H5 := Lib.hid h5; have HB5 := Lib.hid hb5; clear h5 hb5))
      go_roundw
      case rel => exact ⟨i + 1, _, rfl, by omega, by go_num, Lib.hid (by rw [mat_succ, ← HXS.out]; exact H5.out), HB5⟩
      case measure => simp [intOf]; omega
    · obtain rfl : i = n := by omega
      obtain ⟨g, cO, hv, hgb, _, _⟩ := Kd.R_form HO.out (by rw [mat_len]; exact hn1)
      rw [mat_len] at hv
      subst hv
      have HGB := Lib.hid hgb
      clear hgb
      go_wp2
      go_loopw [5, 6, 7, 8, 9] (fun tv cv _ _ _ wr => ∃ (t col : Nat) (M : Mtx), tv = .int .i64 t ∧ cv = .int .i64 col ∧ col ≤ m ∧ Hid (StepsTo i M0 col t M) ∧ Hid (RowsR wr w.heap.size (.slice (some ⟨g, 0, none⟩) i cO) (mat i m M)) ∧ Hid (Below w.heap.size w wr)) (fun _ cv _ _ _ _ => m - (intOf cv).toNat)
      case atStart => exact ⟨0, 0, M0, rfl, rfl, by omega, Lib.hid .start, HO, HB⟩
      case round =>
        clear HO HB
        obtain ⟨t, col, M, rfl, rfl, hcol, HS, HO, HB⟩ := hrel
        have hCO := (Kd.R_reads' HO.out).2.2
        rw [mat_len] at hCO
        obtain ⟨ad0, A1, c1, e0, hc0, _, _⟩ := mrow hCO 0 (by omega)
        injection e0 with e0
        subst e0
        rw [addk g 0] at hc0
        have HCO := Lib.hid hCO
        have g0 : (0 : Int) < (i : Int) := by omega
        clear hCO
        by_cases hlt : col < m
        · have g1 : (col : Int) < (m : Int) := by omega
          have g2 : (0 : Int) ≤ (col : Int) := by omega
          have htn := HS.out.le
          go_wp2
          go_loopw [7] (fun kv wr' => ∃ (k : Nat), t ≤ k ∧ k ≤ i ∧ kv = .int .i64 k ∧ wr' = wr ∧ Hid (∀ j, t ≤ j → j < k → M j col = 0)) (fun kv _ => i - (intOf kv).toNat)
          case atStart => exact ⟨t, Nat.le_refl _, htn.2, rfl, rfl, Lib.hid (fun j h1 h2 => absurd h1 (by omega))⟩
          case round =>
            obtain ⟨k, htk, hki, rfl, rfl, HZ⟩ := hrel
            by_cases hk : k < i
            · obtain ⟨adk, A2, c2, e2, hck, hc2, hC2⟩ := mrow HCO.out k hk
              injection e2 with e2
              subst e2
              rw [addk g k] at hck
              obtain ⟨ad2, rfl, hcc⟩ := at_row hC2 col hlt
              rw [line_get m (M k) col hlt] at hcc
              have HC2 := Lib.hid hC2
              have g3 : (k : Int) < (i : Int) := by omega
              have g4 : (0 : Int) ≤ (k : Int) := by omega
              clear hC2
              by_cases hz : M k col = 0
              · rw [hz] at hcc
                go_wp2
                go_roundw
                case rel =>
                  refine ⟨k + 1, by omega, by omega, by go_num, (by first | trivial | rfl), Lib.hid (fun j h1 h2 => ?_)⟩
                  rcases Nat.lt_or_ge j k with h | h
                  · exact HZ.out j h1 h
                  · obtain rfl : j = k := by omega
                    exact hz
                case measure => simp [intOf]; omega
              · have t1 : (M k col == 0) = false := by simp [hz]
                have hby := HS.out.byt H0.out
                obtain ⟨r, hr, hr1, hinv⟩ := inv_any (M k col) (hby k col) hz
                have IV := Lib.hid hinv
                have HR1 := Lib.hid hr1
                have HRB := Lib.hid hr
                have HBY := Lib.hid hby
                have TM := Lib.hid (fun W (hB : Below wr.heap.size wr W) => times_any m c2 (some ad2) (M k) r W (Kd.C_below HC2.out hB) (hby k) hr hc2 hm)
                have KK := Lib.hid (fun W (hB : Below wr.heap.size wr W) => And.intro (pw_cell_below hB hck) (pw_cell_below hB hcc))
                have HXd := Lib.hid (show Below wr.heap.size wr wr.drew from (Below.refl _ _).drew)
                clear hby hinv hr1 hr
                go_upto_region 14 with (fail)
                refine wp_region_noPanic ?_
                refine wp_region_held_drew (S := (fun W => W.cell? ⟨g, k, none⟩ = some (.slice (some ad2) m c2) ∧ W.cell? (ad2.add col) = some (.int .u8 (M k col)))) (by kernel_rfl) ?_ (fun hHeld => ?_)
                · ((try dsimp only); exact KK.out _ HXd.out)
                refine wpAnyH_take (i := 0) (oi := { dst := some 59, op := Go.Op.move (Go.Operand.tmp 3), type := 39, pos := "ref.go:21", after := #[], guard := none }) (v := ?_) rfl (by kernel_rfl) (by kernel_rfl) (by kernel_rfl) (fun _ _ _ h => h) (Or.inl ⟨by rfl, ?_⟩) (by assumption) ?_
                rotate_left 1
                · (intro w hSw; (try dsimp only at hSw); go_simp; try with_reducible rfl)
                try simp only [Act.put, List.setIfInBounds_toArray, List.set_cons_zero, List.set_cons_succ]
                refine wpAnyH_take (i := 1) (oi := { dst := some 60, op := Go.Op.move (Go.Operand.tmp 7), type := 3, pos := "ref.go:21", after := #[], guard := none }) (v := ?_) rfl (by kernel_rfl) (by kernel_rfl) (by kernel_rfl) (fun _ _ _ h => h) (Or.inl ⟨by rfl, ?_⟩) (by assumption) ?_
                rotate_left 1
                · (intro w hSw; (try dsimp only at hSw); go_simp; try with_reducible rfl)
                try simp only [Act.put, List.setIfInBounds_toArray, List.set_cons_zero, List.set_cons_succ]
                refine wpAnyH_take (i := 2) (oi := { dst := some 61, op := Go.Op.indexAddr 39 (Go.Operand.tmp 59) (Go.Operand.tmp 60), type := 0, pos := "ref.go:21", after := #[{ on := 0, ground := Go.Ground.data }, { on := 1, ground := Go.Ground.data }], guard := none }) (v := ?_) rfl (by kernel_rfl) (by kernel_rfl) (by kernel_rfl) (fun _ _ _ h => h) (Or.inl ⟨by rfl, ?_⟩) (by assumption) ?_
                rotate_left 1
                · (intro w hSw; (try dsimp only at hSw); go_simp; try with_reducible rfl)
                try simp only [Act.put, List.setIfInBounds_toArray, List.set_cons_zero, List.set_cons_succ]
                refine wpAnyH_take (i := 3) (oi := { dst := some 62, op := Go.Op.load 22 (Go.Operand.tmp 61), type := 22, pos := "ref.go:21", after := #[{ on := 2, ground := Go.Ground.data }], guard := none }) (v := ?_) rfl (by kernel_rfl) (by kernel_rfl) (by kernel_rfl) (fun _ _ _ h => h) (Or.inl ⟨by rfl, ?_⟩) (by assumption) ?_
                rotate_left 1
                · (intro w hSw; (try dsimp only at hSw); go_simp; try with_reducible rfl)
                try simp only [Act.put, List.setIfInBounds_toArray, List.set_cons_zero, List.set_cons_succ]
                refine wpAnyH_take (i := 4) (oi := { dst := some 63, op := Go.Op.move (Go.Operand.tmp 3), type := 39, pos := "ref.go:21", after := #[], guard := none }) (v := ?_) rfl (by kernel_rfl) (by kernel_rfl) (by kernel_rfl) (fun _ _ _ h => h) (Or.inl ⟨by rfl, ?_⟩) (by assumption) ?_
                rotate_left 1
                · (intro w hSw; (try dsimp only at hSw); go_simp; try with_reducible rfl)
                try simp only [Act.put, List.setIfInBounds_toArray, List.set_cons_zero, List.set_cons_succ]
                refine wpAnyH_take (i := 5) (oi := { dst := some 64, op := Go.Op.move (Go.Operand.tmp 7), type := 3, pos := "ref.go:21", after := #[], guard := none }) (v := ?_) rfl (by kernel_rfl) (by kernel_rfl) (by kernel_rfl) (fun _ _ _ h => h) (Or.inl ⟨by rfl, ?_⟩) (by assumption) ?_
                rotate_left 1
                · (intro w hSw; (try dsimp only at hSw); go_simp; try with_reducible rfl)
                try simp only [Act.put, List.setIfInBounds_toArray, List.set_cons_zero, List.set_cons_succ]
                refine wpAnyH_take (i := 6) (oi := { dst := some 65, op := Go.Op.indexAddr 39 (Go.Operand.tmp 63) (Go.Operand.tmp 64), type := 0, pos := "ref.go:21", after := #[{ on := 4, ground := Go.Ground.data }, { on := 5, ground := Go.Ground.data }], guard := none }) (v := ?_) rfl (by kernel_rfl) (by kernel_rfl) (by kernel_rfl) (fun _ _ _ h => h) (Or.inl ⟨by rfl, ?_⟩) (by assumption) ?_
                rotate_left 1
                · (intro w hSw; (try dsimp only at hSw); go_simp; try with_reducible rfl)
                try simp only [Act.put, List.setIfInBounds_toArray, List.set_cons_zero, List.set_cons_succ]
                refine wpAnyH_take (i := 7) (oi := { dst := some 66, op := Go.Op.load 22 (Go.Operand.tmp 65), type := 22, pos := "ref.go:21", after := #[{ on := 6, ground := Go.Ground.data }], guard := none }) (v := ?_) rfl (by kernel_rfl) (by kernel_rfl) (by kernel_rfl) (fun _ _ _ h => h) (Or.inl ⟨by rfl, ?_⟩) (by assumption) ?_
                rotate_left 1
                · (intro w hSw; (try dsimp only at hSw); go_simp; try with_reducible rfl)
                try simp only [Act.put, List.setIfInBounds_toArray, List.set_cons_zero, List.set_cons_succ]
                refine wpAnyH_take (i := 8) (oi := { dst := some 67, op := Go.Op.move (Go.Operand.tmp 6), type := 3, pos := "ref.go:21", after := #[], guard := none }) (v := ?_) rfl (by kernel_rfl) (by kernel_rfl) (by kernel_rfl) (fun _ _ _ h => h) (Or.inl ⟨by rfl, ?_⟩) (by assumption) ?_
                rotate_left 1
                · (intro w hSw; (try dsimp only at hSw); go_simp; try with_reducible rfl)
                try simp only [Act.put, List.setIfInBounds_toArray, List.set_cons_zero, List.set_cons_succ]
                refine wpAnyH_take (i := 9) (oi := { dst := some 68, op := Go.Op.indexAddr 22 (Go.Operand.tmp 66) (Go.Operand.tmp 67), type := 0, pos := "ref.go:21", after := #[{ on := 7, ground := Go.Ground.data }, { on := 8, ground := Go.Ground.data }], guard := none }) (v := ?_) rfl (by kernel_rfl) (by kernel_rfl) (by kernel_rfl) (fun _ _ _ h => h) (Or.inl ⟨by rfl, ?_⟩) (by assumption) ?_
                rotate_left 1
                · (intro w hSw; (try dsimp only at hSw); go_simp; try with_reducible rfl)
                try simp only [Act.put, List.setIfInBounds_toArray, List.set_cons_zero, List.set_cons_succ]
                refine wpAnyH_take (i := 10) (oi := { dst := some 69, op := Go.Op.load 5 (Go.Operand.tmp 68), type := 5, pos := "ref.go:21", after := #[{ on := 9, ground := Go.Ground.data }], guard := none }) (v := ?_) rfl (by kernel_rfl) (by kernel_rfl) (by kernel_rfl) (fun _ _ _ h => h) (Or.inl ⟨by rfl, ?_⟩) (by assumption) ?_
                rotate_left 1
                · (intro w hSw; (try dsimp only at hSw); go_simp; try with_reducible rfl)
                try simp only [Act.put, List.setIfInBounds_toArray, List.set_cons_zero, List.set_cons_succ]
                refine wpAnyH_ready (rs := [11]) (by kernel_rfl) (by simp) ?_
                refine AllReadyH.cons (o := { dst := some 70, op := Go.Op.call { callee := Go.Callee.value (Go.Operand.func 56), args := #[Go.Operand.tmp 69], argTypes := #[5] }, type := 5, pos := "ref.go:21", after := #[{ on := 10, ground := Go.Ground.data }], guard := none }) rfl (fun K hK => ?_) AllReadyH.nil
                go_simp
                go_at_call 56
                (refine (IV.out _).mono ?_); rintro e x1 ⟨rfl, hb⟩; have HXe := Lib.hid (HXd.out.trans (hb.mono HXd.out.size)); clear hb
                clear hHeld
                refine hK.out _ _ ?_ (fun hHeld => ?_)
                · ((try dsimp only); exact KK.out _ HXe.out)
                clear hK K
                refine wpAnyH_ready (rs := [12]) (by kernel_rfl) (by simp) ?_
                refine AllReadyH.cons (o := { dst := some 71, op := Go.Op.call { callee := Go.Callee.value (Go.Operand.func 55), args := #[Go.Operand.tmp 62, Go.Operand.tmp 70], argTypes := #[22, 5] }, type := 22, pos := "ref.go:21", after := #[{ on := 3, ground := Go.Ground.data }, { on := 11, ground := Go.Ground.data }, { on := 11, ground := Go.Ground.chain }], guard := none }) rfl (fun K hK => ?_) AllReadyH.nil
                go_simp
                go_at_call 55
                (refine (TM.out _ HXe.out).mono ?_); rintro e x2 ⟨A9, c9, rfl, hr9, hb⟩; have HR9 := Lib.hid hr9; have HXf := Lib.hid (HXe.out.trans (hb.mono HXe.out.size)); clear hb hr9
                clear hHeld
                refine hK.out _ _ ?_ (fun hHeld => ?_)
                · ((try dsimp only); exact KK.out _ HXf.out)
                clear hK K
                refine wpAnyH_take (i := 13) (oi := { dst := some 8, op := Go.Op.assign (Go.Operand.tmp 71), type := 22, pos := "ref.go:21", after := #[{ on := 12, ground := Go.Ground.data }, { on := 12, ground := Go.Ground.chain }, { on := 0, ground := Go.Ground.phase }, { on := 1, ground := Go.Ground.phase }, { on := 2, ground := Go.Ground.phase }, { on := 3, ground := Go.Ground.phase }, { on := 4, ground := Go.Ground.phase }, { on := 5, ground := Go.Ground.phase }, { on := 6, ground := Go.Ground.phase }, { on := 7, ground := Go.Ground.phase }, { on := 8, ground := Go.Ground.phase }, { on := 9, ground := Go.Ground.phase }, { on := 10, ground := Go.Ground.phase }, { on := 11, ground := Go.Ground.phase }, { on := 12, ground := Go.Ground.phase }], guard := none }) (v := ?_) rfl (by kernel_rfl) (by kernel_rfl) (by kernel_rfl) (fun _ _ _ h => h) (Or.inl ⟨by rfl, ?_⟩) (by assumption) ?_
                rotate_left 1
                · (intro w hSw; (try dsimp only at hSw); go_simp; try with_reducible rfl)
                try simp only [Act.put, List.setIfInBounds_toArray, List.set_cons_zero, List.set_cons_succ]
                refine wpAnyH_done (by kernel_rfl) ?_ _
                refine NoPanic.normal ?_
                clear hc0 hck hcc KK IV TM
                have HO2 := Lib.hid (Kd.R_below HO.out HXf.out)
                have HB2 := Lib.hid (HB.out.trans (HXf.out.mono HB.out.size))
                have hgw := (rblk HO.out).2
                have hgwr : g < wr.heap.size := by obtain ⟨cur, hh⟩ := hgw; exact (Array.getElem?_eq_some_iff.1 hh).1
                have HGW := Lib.hid hgwr
                obtain ⟨At, ct, z1, z2, _, _, hMt⟩ := relem HO2.out t (by omega)
                obtain ⟨Ak, ck, z3, z4, _, _, _⟩ := relem HO2.out k hk
                rw [mat_get i m M t (by omega), line_len] at z1 hMt
                rw [mat_get i m M k hk, line_len] at z3
                have HMT := Lib.hid hMt
                have g5 : (0 : Int) ≤ (t : Int) := by omega
                have g6 : (t : Int) < (i : Int) := by omega
                clear hMt hgw hgwr
                go_upto_region 16 with (fail)
                obtain ⟨W6, hW6⟩ : ∃ W6, W6 = x2.setCell ⟨g, k, none⟩ (.slice At m ct) := ⟨_, rfl⟩
                have HO6 := Lib.hid (show RowsR W6 w.heap.size (.slice (some ⟨g, 0, none⟩) i cO) (mat i m (swapI M t k)) by
                  have h := rput HO2.out k hk (.slice At m ct) (line m (M t)) _ HMT.out (fun q hq => hq)
                  rw [mat_set i m M k hk, ← hW6] at h
                  exact h)
                have HB6 := Lib.hid (show Below w.heap.size w W6 by rw [hW6]; exact HB2.out.setCell HGB.out _)
                have HR6 := Lib.hid (show (Kd.int .u8).R 5 W6 wr.heap.size (fun _ => True) (.slice A9 m c9) (line m (fun j => gmI (M k j) r)) by
                  obtain ⟨cur, hh⟩ := (rblk HO2.out).2
                  rw [hW6]
                  exact Kd.R_set (Kd.R_lower HR9.out HXe.out.size) hh (by decide) k _)
                rw [← hW6]
                clear hW6 z1 z2 z3 z4 HMT HO2 HB2 HR9 HXf HXe HXd
                obtain ⟨Aj, cj, z1, z2, _, _, _⟩ := relem HO6.out t (by omega)
                go_upto_region 17 with (fail)
                obtain ⟨W7, hW7⟩ : ∃ W7, W7 = W6.setCell ⟨g, t, none⟩ (.slice A9 m c9) := ⟨_, rfl⟩
                have HO7 := Lib.hid (show RowsR W7 w.heap.size (.slice (some ⟨g, 0, none⟩) i cO) (mat i m (fun q => if q < 0 then stepI M t k col r q else if q = t then (fun j => gmI (M k j) r) else swapI M t k q)) by
                  have h := rput HO6.out t (by omega) (.slice A9 m c9) (line m (fun j => gmI (M k j) r)) (fun q => some q = (Value.slice A9 m c9).ownBlock) (row_M (Kd.own_of_R HR6.out) HB.out.size rfl) (fun q hq => by
                    have h1 := Kd.R_base HR6.out q hq.symm
                    have := HGW.out
                    omega)
                  rw [mat_set i m (swapI M t k) t (by omega), ← hW7] at h
                  exact h)
                have HB7 := Lib.hid (show Below w.heap.size w W7 by rw [hW7]; exact HB6.out.setCell HGB.out _)
                have HX7 := Lib.hid (show (Kd.int .u8).R 5 W7 wr.heap.size (fun _ => True) (.slice A9 m c9) (line m (fun j => gmI (M k j) r)) by
                  obtain ⟨cur, hh⟩ := (rblk HO6.out).2
                  have h := Kd.R_set HR6.out hh (by decide) t (.slice A9 m c9)
                  rw [← hW7] at h
                  exact h)
                have hc9 : m ≤ c9 := (Kd.R_reads' HR6.out).2.1
                rw [← hW7]
                clear hW7 z1 z2 HO6 HB6 HR6
                have HSW := Lib.hid (show BytM (swapI M t k) by intro a b; unfold swapI; split <;> exact HBY.out _ _)
                have HC9 := Lib.hid hc9
                clear hc9
                go_wp2
                go_loopw [9] (fun qv wr' => ∃ (q : Nat), q ≤ i ∧ qv = .int .i64 q ∧ Hid (RowsR wr' w.heap.size (.slice (some ⟨g, 0, none⟩) i cO) (mat i m (fun p => if p < q then stepI M t k col r p else if p = t then (fun j => gmI (M k j) r) else swapI M t k p))) ∧ Hid ((Kd.int .u8).R 5 wr' wr.heap.size (fun _ => True) (.slice A9 m c9) (line m (fun j => gmI (M k j) r))) ∧ Hid (Below w.heap.size w wr')) (fun qv _ => i - (intOf qv).toNat)
                case atStart => exact ⟨0, by omega, rfl, HO7, HX7, HB7⟩
                case round =>
                  clear HO7 HX7 HB7
                  obtain ⟨q, hq, rfl, HO7, HX7, HB7⟩ := hrel
                  by_cases hqi : q < i
                  · have g7 : (0 : Int) ≤ (q : Int) := by omega
                    have g8 : (q : Int) < (i : Int) := by omega
                    by_cases hqt : q = t
                    · have t2 : ((q : Int) != (t : Int)) = false := by simp [hqt]
                      go_wp2
                      go_roundw
                      case rel =>
                        refine ⟨q + 1, by omega, by go_num, Lib.hid ?_, HX7, HB7⟩
                        rw [mat_congr i m _ (fun p => if p < q then stepI M t k col r p else if p = t then (fun j => gmI (M k j) r) else swapI M t k p) (fun p hp j hj => ?_)]
                        · exact HO7.out
                        · by_cases h1 : p < q
                          · rw [if_pos (by omega), if_pos h1]
                          · rw [if_neg h1]
                            by_cases h2 : p = t
                            · rw [if_pos (by omega), if_pos h2]; unfold stepI; rw [if_pos h2]
                            · rw [if_neg (by omega)]
                      case measure => simp [intOf]; omega
                    · have t2 : ((q : Int) != (t : Int)) = true := by simp; omega
                      have e1 : (mat i m (fun p => if p < q then stepI M t k col r p else if p = t then (fun j => gmI (M k j) r) else swapI M t k p)).getD q [] = line m (swapI M t k q) := by rw [mat_get i m _ q hqi]; simp [hqt]
                      obtain ⟨Aq, cq, z1, _, l1, hCq, _⟩ := relem HO7.out q hqi
                      rw [e1, line_len] at z1 l1 hCq
                      obtain ⟨adq, rfl, hcb⟩ := at_row hCq col hlt
                      rw [line_get m (swapI M t k q) col hlt] at hcb
                      have KK := Lib.hid (fun W (hB : Below wr.heap.size wr W) => And.intro (pw_cell_below hB z1) (pw_cell_below hB hcb))
                      have hC9' : (Kd.int .u8).C wr A9 m (line m (fun j => gmI (M k j) r)) := by
                        have h := (Kd.R_reads' HX7.out).2.2
                        rw [line_len] at h
                        exact h
                      have TM := Lib.hid (fun W (hB : Below wr.heap.size wr W) => times_any m c9 A9 (fun j => gmI (M k j) r) (swapI M t k q col) W (Kd.C_below hC9' hB) (fun j => gmI_byt (HBY.out k j)) (HSW.out q col) HC9.out hm)
                      have PM := Lib.hid (fun A2 c2 W (hB : Below wr.heap.size wr W) (h2 : (Kd.int .u8).C W A2 m (line m (fun j => gmI (gmI (M k j) r) (swapI M t k q col)))) (hc2 : m ≤ c2) => plus_any m cq c2 (some adq) A2 (swapI M t k q) (fun j => gmI (gmI (M k j) r) (swapI M t k q col)) W (Kd.C_below hCq hB) h2 (HSW.out q) (fun j => gmI_byt (gmI_byt (HBY.out k j))) l1 hc2 hm)
                      have HGQ := Lib.hid (show g < wr.heap.size by obtain ⟨cur, hh⟩ := (rblk HO7.out).2; exact (Array.getElem?_eq_some_iff.1 hh).1)
                      have HXd := Lib.hid (show Below wr.heap.size wr wr.drew from (Below.refl _ _).drew)
                      clear z1 l1 hCq hcb hC9' e1
                      go_upto_region 21 with (fail)
                      refine wp_region_noPanic ?_
                      refine wp_region_held_drew (S := (fun W => True)) (by kernel_rfl) ?_ (fun hHeld => ?_)
                      · ((try dsimp only); all_goals exact trivial)
                      refine wpAnyH_take (i := 0) (oi := { dst := some 92, op := Go.Op.move (Go.Operand.tmp 3), type := 39, pos := "ref.go:26", after := #[], guard := none }) (v := ?_) rfl (by kernel_rfl) (by kernel_rfl) (by kernel_rfl) (fun _ _ _ h => h) (Or.inl ⟨by rfl, ?_⟩) (by assumption) ?_
                      rotate_left 1
                      · (intro w hSw; (try dsimp only at hSw); go_simp; try with_reducible rfl)
                      try simp only [Act.put, List.setIfInBounds_toArray, List.set_cons_zero, List.set_cons_succ]
                      refine wpAnyH_take (i := 1) (oi := { dst := some 93, op := Go.Op.move (Go.Operand.tmp 9), type := 3, pos := "ref.go:26", after := #[], guard := none }) (v := ?_) rfl (by kernel_rfl) (by kernel_rfl) (by kernel_rfl) (fun _ _ _ h => h) (Or.inl ⟨by rfl, ?_⟩) (by assumption) ?_
                      rotate_left 1
                      · (intro w hSw; (try dsimp only at hSw); go_simp; try with_reducible rfl)
                      try simp only [Act.put, List.setIfInBounds_toArray, List.set_cons_zero, List.set_cons_succ]
                      refine wpAnyH_take (i := 2) (oi := { dst := some 94, op := Go.Op.move (Go.Operand.tmp 3), type := 39, pos := "ref.go:26", after := #[], guard := none }) (v := ?_) rfl (by kernel_rfl) (by kernel_rfl) (by kernel_rfl) (fun _ _ _ h => h) (Or.inl ⟨by rfl, ?_⟩) (by assumption) ?_
                      rotate_left 1
                      · (intro w hSw; (try dsimp only at hSw); go_simp; try with_reducible rfl)
                      try simp only [Act.put, List.setIfInBounds_toArray, List.set_cons_zero, List.set_cons_succ]
                      refine wpAnyH_take (i := 3) (oi := { dst := some 95, op := Go.Op.move (Go.Operand.tmp 9), type := 3, pos := "ref.go:26", after := #[], guard := none }) (v := ?_) rfl (by kernel_rfl) (by kernel_rfl) (by kernel_rfl) (fun _ _ _ h => h) (Or.inl ⟨by rfl, ?_⟩) (by assumption) ?_
                      rotate_left 1
                      · (intro w hSw; (try dsimp only at hSw); go_simp; try with_reducible rfl)
                      try simp only [Act.put, List.setIfInBounds_toArray, List.set_cons_zero, List.set_cons_succ]
                      refine wpAnyH_take (i := 4) (oi := { dst := some 96, op := Go.Op.indexAddr 39 (Go.Operand.tmp 94) (Go.Operand.tmp 95), type := 0, pos := "ref.go:26", after := #[{ on := 2, ground := Go.Ground.data }, { on := 3, ground := Go.Ground.data }], guard := none }) (v := ?_) rfl (by kernel_rfl) (by kernel_rfl) (by kernel_rfl) (fun _ _ _ h => h) (Or.inl ⟨by rfl, ?_⟩) (by assumption) ?_
                      rotate_left 1
                      · (intro w hSw; (try dsimp only at hSw); go_simp; try with_reducible rfl)
                      try simp only [Act.put, List.setIfInBounds_toArray, List.set_cons_zero, List.set_cons_succ]
                      refine wpAnyH_take (i := 6) (oi := { dst := some 98, op := Go.Op.move (Go.Operand.tmp 8), type := 22, pos := "ref.go:26", after := #[], guard := none }) (v := ?_) rfl (by kernel_rfl) (by kernel_rfl) (by kernel_rfl) (fun _ _ _ h => h) (Or.inl ⟨by rfl, ?_⟩) (by assumption) ?_
                      rotate_left 1
                      · (intro w hSw; (try dsimp only at hSw); go_simp; try with_reducible rfl)
                      try simp only [Act.put, List.setIfInBounds_toArray, List.set_cons_zero, List.set_cons_succ]
                      refine wpAnyH_take (i := 7) (oi := { dst := some 99, op := Go.Op.move (Go.Operand.tmp 3), type := 39, pos := "ref.go:26", after := #[], guard := none }) (v := ?_) rfl (by kernel_rfl) (by kernel_rfl) (by kernel_rfl) (fun _ _ _ h => h) (Or.inl ⟨by rfl, ?_⟩) (by assumption) ?_
                      rotate_left 1
                      · (intro w hSw; (try dsimp only at hSw); go_simp; try with_reducible rfl)
                      try simp only [Act.put, List.setIfInBounds_toArray, List.set_cons_zero, List.set_cons_succ]
                      refine wpAnyH_take (i := 8) (oi := { dst := some 100, op := Go.Op.move (Go.Operand.tmp 9), type := 3, pos := "ref.go:26", after := #[], guard := none }) (v := ?_) rfl (by kernel_rfl) (by kernel_rfl) (by kernel_rfl) (fun _ _ _ h => h) (Or.inl ⟨by rfl, ?_⟩) (by assumption) ?_
                      rotate_left 1
                      · (intro w hSw; (try dsimp only at hSw); go_simp; try with_reducible rfl)
                      try simp only [Act.put, List.setIfInBounds_toArray, List.set_cons_zero, List.set_cons_succ]
                      refine wpAnyH_take (i := 9) (oi := { dst := some 101, op := Go.Op.indexAddr 39 (Go.Operand.tmp 99) (Go.Operand.tmp 100), type := 0, pos := "ref.go:26", after := #[{ on := 7, ground := Go.Ground.data }, { on := 8, ground := Go.Ground.data }], guard := none }) (v := ?_) rfl (by kernel_rfl) (by kernel_rfl) (by kernel_rfl) (fun _ _ _ h => h) (Or.inl ⟨by rfl, ?_⟩) (by assumption) ?_
                      rotate_left 1
                      · (intro w hSw; (try dsimp only at hSw); go_simp; try with_reducible rfl)
                      try simp only [Act.put, List.setIfInBounds_toArray, List.set_cons_zero, List.set_cons_succ]
                      refine wpAnyH_take (i := 11) (oi := { dst := some 103, op := Go.Op.move (Go.Operand.tmp 6), type := 3, pos := "ref.go:26", after := #[], guard := none }) (v := ?_) rfl (by kernel_rfl) (by kernel_rfl) (by kernel_rfl) (fun _ _ _ h => h) (Or.inl ⟨by rfl, ?_⟩) (by assumption) ?_
                      rotate_left 1
                      · (intro w hSw; (try dsimp only at hSw); go_simp; try with_reducible rfl)
                      try simp only [Act.put, List.setIfInBounds_toArray, List.set_cons_zero, List.set_cons_succ]
                      refine wpAnyH_ready (rs := [5, 10]) (by kernel_rfl) (by simp) ?_
                      refine AllReadyH.cons (o := { dst := some 97, op := Go.Op.load 22 (Go.Operand.tmp 96), type := 22, pos := "ref.go:26", after := #[{ on := 4, ground := Go.Ground.data }], guard := none }) rfl (fun K hK => ?_) ?_
                      · (have kk := KK.out _ (by first | exact HXe.out | exact HXd.out)); obtain ⟨kk1, kk2⟩ := kk; go_simp
                        clear hHeld
                        refine hK.out _ _ ?_ (fun hHeld => ?_)
                        · ((try dsimp only); all_goals exact trivial)
                        clear hK K
                        refine wpAnyH_ready (rs := [10]) (by kernel_rfl) (by simp) ?_
                        refine AllReadyH.cons (o := { dst := some 102, op := Go.Op.load 22 (Go.Operand.tmp 101), type := 22, pos := "ref.go:26", after := #[{ on := 9, ground := Go.Ground.data }], guard := none }) rfl (fun K hK => ?_) AllReadyH.nil
                        (have kk := KK.out _ HXd.out); obtain ⟨kk1, kk2⟩ := kk; go_simp
                        clear hHeld
                        refine hK.out _ _ ?_ (fun hHeld => ?_)
                        · ((try dsimp only); all_goals exact trivial)
                        clear hK K
                        refine wpAnyH_take (i := 12) (oi := { dst := some 104, op := Go.Op.indexAddr 22 (Go.Operand.tmp 102) (Go.Operand.tmp 103), type := 0, pos := "ref.go:26", after := #[{ on := 10, ground := Go.Ground.data }, { on := 11, ground := Go.Ground.data }], guard := none }) (v := ?_) rfl (by kernel_rfl) (by kernel_rfl) (by kernel_rfl) (fun _ _ _ h => h) (Or.inl ⟨by rfl, ?_⟩) (by assumption) ?_
                        rotate_left 1
                        · (intro w hSw; (try dsimp only at hSw); go_simp; try with_reducible rfl)
                        try simp only [Act.put, List.setIfInBounds_toArray, List.set_cons_zero, List.set_cons_succ]
                        refine wpAnyH_ready (rs := [13]) (by kernel_rfl) (by simp) ?_
                        refine AllReadyH.cons (o := { dst := some 105, op := Go.Op.load 5 (Go.Operand.tmp 104), type := 5, pos := "ref.go:26", after := #[{ on := 12, ground := Go.Ground.data }], guard := none }) rfl (fun K hK => ?_) AllReadyH.nil
                        (have kk := KK.out _ HXd.out); obtain ⟨kk1, kk2⟩ := kk; go_simp
                        clear hHeld
                        refine hK.out _ _ ?_ (fun hHeld => ?_)
                        · ((try dsimp only); all_goals exact trivial)
                        clear hK K
                        refine wpAnyH_ready (rs := [14]) (by kernel_rfl) (by simp) ?_
                        refine AllReadyH.cons (o := { dst := some 106, op := Go.Op.call { callee := Go.Callee.value (Go.Operand.func 55), args := #[Go.Operand.tmp 98, Go.Operand.tmp 105], argTypes := #[22, 5] }, type := 22, pos := "ref.go:26", after := #[{ on := 6, ground := Go.Ground.data }, { on := 13, ground := Go.Ground.data }], guard := none }) rfl (fun K hK => ?_) AllReadyH.nil
                        go_simp
                        go_at_call 55
                        (refine (TM.out _ HXd.out).mono ?_); rintro e x1 ⟨A5, c5, rfl, hr5, hb⟩; have h5 := (Kd.R_reads' hr5).2; rw [line_len] at h5; have HC5 := Lib.hid h5; have HXe := Lib.hid (HXd.out.trans (hb.mono HXd.out.size)); clear hb hr5 h5
                        clear hHeld
                        refine hK.out _ _ ?_ (fun hHeld => ?_)
                        · ((try dsimp only); all_goals exact trivial)
                        clear hK K
                        refine wpAnyH_ready (rs := [15]) (by kernel_rfl) (by simp) ?_
                        refine AllReadyH.cons (o := { dst := some 107, op := Go.Op.call { callee := Go.Callee.value (Go.Operand.func 57), args := #[Go.Operand.tmp 97, Go.Operand.tmp 106], argTypes := #[22, 22] }, type := 22, pos := "ref.go:26", after := #[{ on := 5, ground := Go.Ground.data }, { on := 14, ground := Go.Ground.data }, { on := 14, ground := Go.Ground.chain }], guard := none }) rfl (fun K hK => ?_) AllReadyH.nil
                        go_simp
                        go_at_call 57
                        (refine (PM.out A5 c5 _ HXe.out HC5.out.2 HC5.out.1).mono ?_); rintro e x2 ⟨A6, c6, rfl, hr6, hb⟩; have HR6 := Lib.hid hr6; have HXf := Lib.hid (HXe.out.trans (hb.mono HXe.out.size)); clear hb hr6
                        clear hHeld
                        refine hK.out _ _ ?_ (fun hHeld => ?_)
                        · ((try dsimp only); all_goals exact trivial)
                        clear hK K
                        refine wpAnyH_take (i := 16) (oi := { dst := some 108, op := Go.Op.indexAddr 39 (Go.Operand.tmp 92) (Go.Operand.tmp 93), type := 0, pos := "ref.go:26", after := #[{ on := 0, ground := Go.Ground.data }, { on := 1, ground := Go.Ground.data }, { on := 0, ground := Go.Ground.phase }, { on := 1, ground := Go.Ground.phase }, { on := 2, ground := Go.Ground.phase }, { on := 3, ground := Go.Ground.phase }, { on := 4, ground := Go.Ground.phase }, { on := 5, ground := Go.Ground.phase }, { on := 6, ground := Go.Ground.phase }, { on := 7, ground := Go.Ground.phase }, { on := 8, ground := Go.Ground.phase }, { on := 9, ground := Go.Ground.phase }, { on := 10, ground := Go.Ground.phase }, { on := 11, ground := Go.Ground.phase }, { on := 12, ground := Go.Ground.phase }, { on := 13, ground := Go.Ground.phase }, { on := 14, ground := Go.Ground.phase }, { on := 15, ground := Go.Ground.phase }], guard := none }) (v := ?_) rfl (by kernel_rfl) (by kernel_rfl) (by kernel_rfl) (fun _ _ _ h => h) (Or.inl ⟨by rfl, ?_⟩) (by assumption) ?_
                        rotate_left 1
                        · (intro w hSw; (try dsimp only at hSw); go_simp; try with_reducible rfl)
                        try simp only [Act.put, List.setIfInBounds_toArray, List.set_cons_zero, List.set_cons_succ]
                        refine wpAnyH_ready (rs := [17]) (by kernel_rfl) (by simp) ?_
                        refine AllReadyH.cons (o := { dst := none, op := Go.Op.store 22 (Go.Operand.tmp 108) (Go.Operand.tmp 107), type := 0, pos := "ref.go:26", after := #[{ on := 16, ground := Go.Ground.data }, { on := 15, ground := Go.Ground.data }, { on := 15, ground := Go.Ground.chain }, { on := 0, ground := Go.Ground.phase }, { on := 1, ground := Go.Ground.phase }, { on := 2, ground := Go.Ground.phase }, { on := 3, ground := Go.Ground.phase }, { on := 4, ground := Go.Ground.phase }, { on := 5, ground := Go.Ground.phase }, { on := 6, ground := Go.Ground.phase }, { on := 7, ground := Go.Ground.phase }, { on := 8, ground := Go.Ground.phase }, { on := 9, ground := Go.Ground.phase }, { on := 10, ground := Go.Ground.phase }, { on := 11, ground := Go.Ground.phase }, { on := 12, ground := Go.Ground.phase }, { on := 13, ground := Go.Ground.phase }, { on := 14, ground := Go.Ground.phase }, { on := 15, ground := Go.Ground.phase }], guard := none }) rfl (fun K hK => ?_) AllReadyH.nil
                        have HOf := Lib.hid (Kd.R_below HO7.out HXf.out); obtain ⟨_, _, y1, y2, _, _, _⟩ := relem HOf.out q hqi; go_simp
                        clear hHeld
                        refine hK.out _ _ ?_ (fun hHeld => ?_)
                        · ((try dsimp only); all_goals exact trivial)
                        clear hK K
                        refine wpAnyH_done (by kernel_rfl) ?_ _
                        refine NoPanic.normal ?_
                        (go_wp2; go_roundw; (case rel => exact ⟨q + 1, by omega, by go_num, Lib.hid (rowq HOf.out hqi hqt HR6.out (Nat.le_trans HB7.out.size HXe.out.size) (Nat.lt_of_lt_of_le HGQ.out HXe.out.size)), Lib.hid (setx (Kd.R_below HX7.out HXf.out) HOf.out q _), Lib.hid ((HB7.out.trans (HXf.out.mono HB7.out.size)).setCell HGB.out _)⟩); (case measure => simp [intOf]; omega))
                      refine AllReadyH.cons (o := { dst := some 102, op := Go.Op.load 22 (Go.Operand.tmp 101), type := 22, pos := "ref.go:26", after := #[{ on := 9, ground := Go.Ground.data }], guard := none }) rfl (fun K hK => ?_) AllReadyH.nil
                      (have kk := KK.out _ HXd.out); obtain ⟨kk1, kk2⟩ := kk; go_simp
                      clear hHeld
                      refine hK.out _ _ ?_ (fun hHeld => ?_)
                      · ((try dsimp only); all_goals exact trivial)
                      clear hK K
                      refine wpAnyH_take (i := 12) (oi := { dst := some 104, op := Go.Op.indexAddr 22 (Go.Operand.tmp 102) (Go.Operand.tmp 103), type := 0, pos := "ref.go:26", after := #[{ on := 10, ground := Go.Ground.data }, { on := 11, ground := Go.Ground.data }], guard := none }) (v := ?_) rfl (by kernel_rfl) (by kernel_rfl) (by kernel_rfl) (fun _ _ _ h => h) (Or.inl ⟨by rfl, ?_⟩) (by assumption) ?_
                      rotate_left 1
                      · (intro w hSw; (try dsimp only at hSw); go_simp; try with_reducible rfl)
                      try simp only [Act.put, List.setIfInBounds_toArray, List.set_cons_zero, List.set_cons_succ]
                      refine wpAnyH_ready (rs := [5, 13]) (by kernel_rfl) (by simp) ?_
                      refine AllReadyH.cons (o := { dst := some 97, op := Go.Op.load 22 (Go.Operand.tmp 96), type := 22, pos := "ref.go:26", after := #[{ on := 4, ground := Go.Ground.data }], guard := none }) rfl (fun K hK => ?_) ?_
                      · (have kk := KK.out _ (by first | exact HXe.out | exact HXd.out)); obtain ⟨kk1, kk2⟩ := kk; go_simp
                        clear hHeld
                        refine hK.out _ _ ?_ (fun hHeld => ?_)
                        · ((try dsimp only); all_goals exact trivial)
                        clear hK K
                        refine wpAnyH_ready (rs := [13]) (by kernel_rfl) (by simp) ?_
                        refine AllReadyH.cons (o := { dst := some 105, op := Go.Op.load 5 (Go.Operand.tmp 104), type := 5, pos := "ref.go:26", after := #[{ on := 12, ground := Go.Ground.data }], guard := none }) rfl (fun K hK => ?_) AllReadyH.nil
                        (have kk := KK.out _ HXd.out); obtain ⟨kk1, kk2⟩ := kk; go_simp
                        clear hHeld
                        refine hK.out _ _ ?_ (fun hHeld => ?_)
                        · ((try dsimp only); all_goals exact trivial)
                        clear hK K
                        refine wpAnyH_ready (rs := [14]) (by kernel_rfl) (by simp) ?_
                        refine AllReadyH.cons (o := { dst := some 106, op := Go.Op.call { callee := Go.Callee.value (Go.Operand.func 55), args := #[Go.Operand.tmp 98, Go.Operand.tmp 105], argTypes := #[22, 5] }, type := 22, pos := "ref.go:26", after := #[{ on := 6, ground := Go.Ground.data }, { on := 13, ground := Go.Ground.data }], guard := none }) rfl (fun K hK => ?_) AllReadyH.nil
                        go_simp
                        go_at_call 55
                        (refine (TM.out _ HXd.out).mono ?_); rintro e x1 ⟨A5, c5, rfl, hr5, hb⟩; have h5 := (Kd.R_reads' hr5).2; rw [line_len] at h5; have HC5 := Lib.hid h5; have HXe := Lib.hid (HXd.out.trans (hb.mono HXd.out.size)); clear hb hr5 h5
                        clear hHeld
                        refine hK.out _ _ ?_ (fun hHeld => ?_)
                        · ((try dsimp only); all_goals exact trivial)
                        clear hK K
                        refine wpAnyH_ready (rs := [15]) (by kernel_rfl) (by simp) ?_
                        refine AllReadyH.cons (o := { dst := some 107, op := Go.Op.call { callee := Go.Callee.value (Go.Operand.func 57), args := #[Go.Operand.tmp 97, Go.Operand.tmp 106], argTypes := #[22, 22] }, type := 22, pos := "ref.go:26", after := #[{ on := 5, ground := Go.Ground.data }, { on := 14, ground := Go.Ground.data }, { on := 14, ground := Go.Ground.chain }], guard := none }) rfl (fun K hK => ?_) AllReadyH.nil
                        go_simp
                        go_at_call 57
                        (refine (PM.out A5 c5 _ HXe.out HC5.out.2 HC5.out.1).mono ?_); rintro e x2 ⟨A6, c6, rfl, hr6, hb⟩; have HR6 := Lib.hid hr6; have HXf := Lib.hid (HXe.out.trans (hb.mono HXe.out.size)); clear hb hr6
                        clear hHeld
                        refine hK.out _ _ ?_ (fun hHeld => ?_)
                        · ((try dsimp only); all_goals exact trivial)
                        clear hK K
                        refine wpAnyH_take (i := 16) (oi := { dst := some 108, op := Go.Op.indexAddr 39 (Go.Operand.tmp 92) (Go.Operand.tmp 93), type := 0, pos := "ref.go:26", after := #[{ on := 0, ground := Go.Ground.data }, { on := 1, ground := Go.Ground.data }, { on := 0, ground := Go.Ground.phase }, { on := 1, ground := Go.Ground.phase }, { on := 2, ground := Go.Ground.phase }, { on := 3, ground := Go.Ground.phase }, { on := 4, ground := Go.Ground.phase }, { on := 5, ground := Go.Ground.phase }, { on := 6, ground := Go.Ground.phase }, { on := 7, ground := Go.Ground.phase }, { on := 8, ground := Go.Ground.phase }, { on := 9, ground := Go.Ground.phase }, { on := 10, ground := Go.Ground.phase }, { on := 11, ground := Go.Ground.phase }, { on := 12, ground := Go.Ground.phase }, { on := 13, ground := Go.Ground.phase }, { on := 14, ground := Go.Ground.phase }, { on := 15, ground := Go.Ground.phase }], guard := none }) (v := ?_) rfl (by kernel_rfl) (by kernel_rfl) (by kernel_rfl) (fun _ _ _ h => h) (Or.inl ⟨by rfl, ?_⟩) (by assumption) ?_
                        rotate_left 1
                        · (intro w hSw; (try dsimp only at hSw); go_simp; try with_reducible rfl)
                        try simp only [Act.put, List.setIfInBounds_toArray, List.set_cons_zero, List.set_cons_succ]
                        refine wpAnyH_ready (rs := [17]) (by kernel_rfl) (by simp) ?_
                        refine AllReadyH.cons (o := { dst := none, op := Go.Op.store 22 (Go.Operand.tmp 108) (Go.Operand.tmp 107), type := 0, pos := "ref.go:26", after := #[{ on := 16, ground := Go.Ground.data }, { on := 15, ground := Go.Ground.data }, { on := 15, ground := Go.Ground.chain }, { on := 0, ground := Go.Ground.phase }, { on := 1, ground := Go.Ground.phase }, { on := 2, ground := Go.Ground.phase }, { on := 3, ground := Go.Ground.phase }, { on := 4, ground := Go.Ground.phase }, { on := 5, ground := Go.Ground.phase }, { on := 6, ground := Go.Ground.phase }, { on := 7, ground := Go.Ground.phase }, { on := 8, ground := Go.Ground.phase }, { on := 9, ground := Go.Ground.phase }, { on := 10, ground := Go.Ground.phase }, { on := 11, ground := Go.Ground.phase }, { on := 12, ground := Go.Ground.phase }, { on := 13, ground := Go.Ground.phase }, { on := 14, ground := Go.Ground.phase }, { on := 15, ground := Go.Ground.phase }], guard := none }) rfl (fun K hK => ?_) AllReadyH.nil
                        have HOf := Lib.hid (Kd.R_below HO7.out HXf.out); obtain ⟨_, _, y1, y2, _, _, _⟩ := relem HOf.out q hqi; go_simp
                        clear hHeld
                        refine hK.out _ _ ?_ (fun hHeld => ?_)
                        · ((try dsimp only); all_goals exact trivial)
                        clear hK K
                        refine wpAnyH_done (by kernel_rfl) ?_ _
                        refine NoPanic.normal ?_
                        (go_wp2; go_roundw; (case rel => exact ⟨q + 1, by omega, by go_num, Lib.hid (rowq HOf.out hqi hqt HR6.out (Nat.le_trans HB7.out.size HXe.out.size) (Nat.lt_of_lt_of_le HGQ.out HXe.out.size)), Lib.hid (setx (Kd.R_below HX7.out HXf.out) HOf.out q _), Lib.hid ((HB7.out.trans (HXf.out.mono HB7.out.size)).setCell HGB.out _)⟩); (case measure => simp [intOf]; omega))
                      refine AllReadyH.cons (o := { dst := some 105, op := Go.Op.load 5 (Go.Operand.tmp 104), type := 5, pos := "ref.go:26", after := #[{ on := 12, ground := Go.Ground.data }], guard := none }) rfl (fun K hK => ?_) AllReadyH.nil
                      (have kk := KK.out _ HXd.out); obtain ⟨kk1, kk2⟩ := kk; go_simp
                      clear hHeld
                      refine hK.out _ _ ?_ (fun hHeld => ?_)
                      · ((try dsimp only); all_goals exact trivial)
                      clear hK K
                      refine wpAnyH_ready (rs := [5, 14]) (by kernel_rfl) (by simp) ?_
                      refine AllReadyH.cons (o := { dst := some 97, op := Go.Op.load 22 (Go.Operand.tmp 96), type := 22, pos := "ref.go:26", after := #[{ on := 4, ground := Go.Ground.data }], guard := none }) rfl (fun K hK => ?_) ?_
                      · (have kk := KK.out _ (by first | exact HXe.out | exact HXd.out)); obtain ⟨kk1, kk2⟩ := kk; go_simp
                        clear hHeld
                        refine hK.out _ _ ?_ (fun hHeld => ?_)
                        · ((try dsimp only); all_goals exact trivial)
                        clear hK K
                        refine wpAnyH_ready (rs := [14]) (by kernel_rfl) (by simp) ?_
                        refine AllReadyH.cons (o := { dst := some 106, op := Go.Op.call { callee := Go.Callee.value (Go.Operand.func 55), args := #[Go.Operand.tmp 98, Go.Operand.tmp 105], argTypes := #[22, 5] }, type := 22, pos := "ref.go:26", after := #[{ on := 6, ground := Go.Ground.data }, { on := 13, ground := Go.Ground.data }], guard := none }) rfl (fun K hK => ?_) AllReadyH.nil
                        go_simp
                        go_at_call 55
                        (refine (TM.out _ HXd.out).mono ?_); rintro e x1 ⟨A5, c5, rfl, hr5, hb⟩; have h5 := (Kd.R_reads' hr5).2; rw [line_len] at h5; have HC5 := Lib.hid h5; have HXe := Lib.hid (HXd.out.trans (hb.mono HXd.out.size)); clear hb hr5 h5
                        clear hHeld
                        refine hK.out _ _ ?_ (fun hHeld => ?_)
                        · ((try dsimp only); all_goals exact trivial)
                        clear hK K
                        refine wpAnyH_ready (rs := [15]) (by kernel_rfl) (by simp) ?_
                        refine AllReadyH.cons (o := { dst := some 107, op := Go.Op.call { callee := Go.Callee.value (Go.Operand.func 57), args := #[Go.Operand.tmp 97, Go.Operand.tmp 106], argTypes := #[22, 22] }, type := 22, pos := "ref.go:26", after := #[{ on := 5, ground := Go.Ground.data }, { on := 14, ground := Go.Ground.data }, { on := 14, ground := Go.Ground.chain }], guard := none }) rfl (fun K hK => ?_) AllReadyH.nil
                        go_simp
                        go_at_call 57
                        (refine (PM.out A5 c5 _ HXe.out HC5.out.2 HC5.out.1).mono ?_); rintro e x2 ⟨A6, c6, rfl, hr6, hb⟩; have HR6 := Lib.hid hr6; have HXf := Lib.hid (HXe.out.trans (hb.mono HXe.out.size)); clear hb hr6
                        clear hHeld
                        refine hK.out _ _ ?_ (fun hHeld => ?_)
                        · ((try dsimp only); all_goals exact trivial)
                        clear hK K
                        refine wpAnyH_take (i := 16) (oi := { dst := some 108, op := Go.Op.indexAddr 39 (Go.Operand.tmp 92) (Go.Operand.tmp 93), type := 0, pos := "ref.go:26", after := #[{ on := 0, ground := Go.Ground.data }, { on := 1, ground := Go.Ground.data }, { on := 0, ground := Go.Ground.phase }, { on := 1, ground := Go.Ground.phase }, { on := 2, ground := Go.Ground.phase }, { on := 3, ground := Go.Ground.phase }, { on := 4, ground := Go.Ground.phase }, { on := 5, ground := Go.Ground.phase }, { on := 6, ground := Go.Ground.phase }, { on := 7, ground := Go.Ground.phase }, { on := 8, ground := Go.Ground.phase }, { on := 9, ground := Go.Ground.phase }, { on := 10, ground := Go.Ground.phase }, { on := 11, ground := Go.Ground.phase }, { on := 12, ground := Go.Ground.phase }, { on := 13, ground := Go.Ground.phase }, { on := 14, ground := Go.Ground.phase }, { on := 15, ground := Go.Ground.phase }], guard := none }) (v := ?_) rfl (by kernel_rfl) (by kernel_rfl) (by kernel_rfl) (fun _ _ _ h => h) (Or.inl ⟨by rfl, ?_⟩) (by assumption) ?_
                        rotate_left 1
                        · (intro w hSw; (try dsimp only at hSw); go_simp; try with_reducible rfl)
                        try simp only [Act.put, List.setIfInBounds_toArray, List.set_cons_zero, List.set_cons_succ]
                        refine wpAnyH_ready (rs := [17]) (by kernel_rfl) (by simp) ?_
                        refine AllReadyH.cons (o := { dst := none, op := Go.Op.store 22 (Go.Operand.tmp 108) (Go.Operand.tmp 107), type := 0, pos := "ref.go:26", after := #[{ on := 16, ground := Go.Ground.data }, { on := 15, ground := Go.Ground.data }, { on := 15, ground := Go.Ground.chain }, { on := 0, ground := Go.Ground.phase }, { on := 1, ground := Go.Ground.phase }, { on := 2, ground := Go.Ground.phase }, { on := 3, ground := Go.Ground.phase }, { on := 4, ground := Go.Ground.phase }, { on := 5, ground := Go.Ground.phase }, { on := 6, ground := Go.Ground.phase }, { on := 7, ground := Go.Ground.phase }, { on := 8, ground := Go.Ground.phase }, { on := 9, ground := Go.Ground.phase }, { on := 10, ground := Go.Ground.phase }, { on := 11, ground := Go.Ground.phase }, { on := 12, ground := Go.Ground.phase }, { on := 13, ground := Go.Ground.phase }, { on := 14, ground := Go.Ground.phase }, { on := 15, ground := Go.Ground.phase }], guard := none }) rfl (fun K hK => ?_) AllReadyH.nil
                        have HOf := Lib.hid (Kd.R_below HO7.out HXf.out); obtain ⟨_, _, y1, y2, _, _, _⟩ := relem HOf.out q hqi; go_simp
                        clear hHeld
                        refine hK.out _ _ ?_ (fun hHeld => ?_)
                        · ((try dsimp only); all_goals exact trivial)
                        clear hK K
                        refine wpAnyH_done (by kernel_rfl) ?_ _
                        refine NoPanic.normal ?_
                        (go_wp2; go_roundw; (case rel => exact ⟨q + 1, by omega, by go_num, Lib.hid (rowq HOf.out hqi hqt HR6.out (Nat.le_trans HB7.out.size HXe.out.size) (Nat.lt_of_lt_of_le HGQ.out HXe.out.size)), Lib.hid (setx (Kd.R_below HX7.out HXf.out) HOf.out q _), Lib.hid ((HB7.out.trans (HXf.out.mono HB7.out.size)).setCell HGB.out _)⟩); (case measure => simp [intOf]; omega))
                      refine AllReadyH.cons (o := { dst := some 106, op := Go.Op.call { callee := Go.Callee.value (Go.Operand.func 55), args := #[Go.Operand.tmp 98, Go.Operand.tmp 105], argTypes := #[22, 5] }, type := 22, pos := "ref.go:26", after := #[{ on := 6, ground := Go.Ground.data }, { on := 13, ground := Go.Ground.data }], guard := none }) rfl (fun K hK => ?_) AllReadyH.nil
                      go_simp
                      go_at_call 55
                      (refine (TM.out _ HXd.out).mono ?_); rintro e x1 ⟨A5, c5, rfl, hr5, hb⟩; have h5 := (Kd.R_reads' hr5).2; rw [line_len] at h5; have HC5 := Lib.hid h5; have HXe := Lib.hid (HXd.out.trans (hb.mono HXd.out.size)); clear hb hr5 h5
                      clear hHeld
                      refine hK.out _ _ ?_ (fun hHeld => ?_)
                      · ((try dsimp only); all_goals exact trivial)
                      clear hK K
                      refine wpAnyH_ready (rs := [5]) (by kernel_rfl) (by simp) ?_
                      refine AllReadyH.cons (o := { dst := some 97, op := Go.Op.load 22 (Go.Operand.tmp 96), type := 22, pos := "ref.go:26", after := #[{ on := 4, ground := Go.Ground.data }], guard := none }) rfl (fun K hK => ?_) AllReadyH.nil
                      (have kk := KK.out _ (by first | exact HXe.out | exact HXd.out)); obtain ⟨kk1, kk2⟩ := kk; go_simp
                      clear hHeld
                      refine hK.out _ _ ?_ (fun hHeld => ?_)
                      · ((try dsimp only); all_goals exact trivial)
                      clear hK K
                      refine wpAnyH_ready (rs := [15]) (by kernel_rfl) (by simp) ?_
                      refine AllReadyH.cons (o := { dst := some 107, op := Go.Op.call { callee := Go.Callee.value (Go.Operand.func 57), args := #[Go.Operand.tmp 97, Go.Operand.tmp 106], argTypes := #[22, 22] }, type := 22, pos := "ref.go:26", after := #[{ on := 5, ground := Go.Ground.data }, { on := 14, ground := Go.Ground.data }, { on := 14, ground := Go.Ground.chain }], guard := none }) rfl (fun K hK => ?_) AllReadyH.nil
                      go_simp
                      go_at_call 57
                      (refine (PM.out A5 c5 _ HXe.out HC5.out.2 HC5.out.1).mono ?_); rintro e x2 ⟨A6, c6, rfl, hr6, hb⟩; have HR6 := Lib.hid hr6; have HXf := Lib.hid (HXe.out.trans (hb.mono HXe.out.size)); clear hb hr6
                      clear hHeld
                      refine hK.out _ _ ?_ (fun hHeld => ?_)
                      · ((try dsimp only); all_goals exact trivial)
                      clear hK K
                      refine wpAnyH_take (i := 16) (oi := { dst := some 108, op := Go.Op.indexAddr 39 (Go.Operand.tmp 92) (Go.Operand.tmp 93), type := 0, pos := "ref.go:26", after := #[{ on := 0, ground := Go.Ground.data }, { on := 1, ground := Go.Ground.data }, { on := 0, ground := Go.Ground.phase }, { on := 1, ground := Go.Ground.phase }, { on := 2, ground := Go.Ground.phase }, { on := 3, ground := Go.Ground.phase }, { on := 4, ground := Go.Ground.phase }, { on := 5, ground := Go.Ground.phase }, { on := 6, ground := Go.Ground.phase }, { on := 7, ground := Go.Ground.phase }, { on := 8, ground := Go.Ground.phase }, { on := 9, ground := Go.Ground.phase }, { on := 10, ground := Go.Ground.phase }, { on := 11, ground := Go.Ground.phase }, { on := 12, ground := Go.Ground.phase }, { on := 13, ground := Go.Ground.phase }, { on := 14, ground := Go.Ground.phase }, { on := 15, ground := Go.Ground.phase }], guard := none }) (v := ?_) rfl (by kernel_rfl) (by kernel_rfl) (by kernel_rfl) (fun _ _ _ h => h) (Or.inl ⟨by rfl, ?_⟩) (by assumption) ?_
                      rotate_left 1
                      · (intro w hSw; (try dsimp only at hSw); go_simp; try with_reducible rfl)
                      try simp only [Act.put, List.setIfInBounds_toArray, List.set_cons_zero, List.set_cons_succ]
                      refine wpAnyH_ready (rs := [17]) (by kernel_rfl) (by simp) ?_
                      refine AllReadyH.cons (o := { dst := none, op := Go.Op.store 22 (Go.Operand.tmp 108) (Go.Operand.tmp 107), type := 0, pos := "ref.go:26", after := #[{ on := 16, ground := Go.Ground.data }, { on := 15, ground := Go.Ground.data }, { on := 15, ground := Go.Ground.chain }, { on := 0, ground := Go.Ground.phase }, { on := 1, ground := Go.Ground.phase }, { on := 2, ground := Go.Ground.phase }, { on := 3, ground := Go.Ground.phase }, { on := 4, ground := Go.Ground.phase }, { on := 5, ground := Go.Ground.phase }, { on := 6, ground := Go.Ground.phase }, { on := 7, ground := Go.Ground.phase }, { on := 8, ground := Go.Ground.phase }, { on := 9, ground := Go.Ground.phase }, { on := 10, ground := Go.Ground.phase }, { on := 11, ground := Go.Ground.phase }, { on := 12, ground := Go.Ground.phase }, { on := 13, ground := Go.Ground.phase }, { on := 14, ground := Go.Ground.phase }, { on := 15, ground := Go.Ground.phase }], guard := none }) rfl (fun K hK => ?_) AllReadyH.nil
                      have HOf := Lib.hid (Kd.R_below HO7.out HXf.out); obtain ⟨_, _, y1, y2, _, _, _⟩ := relem HOf.out q hqi; go_simp
                      clear hHeld
                      refine hK.out _ _ ?_ (fun hHeld => ?_)
                      · ((try dsimp only); all_goals exact trivial)
                      clear hK K
                      refine wpAnyH_done (by kernel_rfl) ?_ _
                      refine NoPanic.normal ?_
                      (go_wp2; go_roundw; (case rel => exact ⟨q + 1, by omega, by go_num, Lib.hid (rowq HOf.out hqi hqt HR6.out (Nat.le_trans HB7.out.size HXe.out.size) (Nat.lt_of_lt_of_le HGQ.out HXe.out.size)), Lib.hid (setx (Kd.R_below HX7.out HXf.out) HOf.out q _), Lib.hid ((HB7.out.trans (HXf.out.mono HB7.out.size)).setCell HGB.out _)⟩); (case measure => simp [intOf]; omega))
                  · obtain rfl : q = i := by omega
                    have HOe := Lib.hid (show RowsR wr w.heap.size (.slice (some ⟨g, 0, none⟩) q cO) (mat q m (stepI M t k col r)) by
                      rw [mat_congr q m (stepI M t k col r) (fun p => if p < q then stepI M t k col r p else if p = t then (fun j => gmI (M k j) r) else swapI M t k p) (fun p hp j hj => by rw [if_pos hp])]
                      exact HO7.out)
                    go_wp2
                    go_roundw
                    case rel => exact ⟨t + 1, col + 1, stepI M t k col r, by go_num, by go_num, by omega, Lib.hid (.step HS.out htk hk HZ.out hz HRB.out HR1.out), HOe, HB7⟩
                    case measure => simp [intOf]; omega
            · obtain rfl : k = i := by omega
              go_wp2
              go_roundw
              case rel => exact ⟨t, col + 1, M, rfl, by go_num, by omega, Lib.hid (.skip HS.out (fun j h1 h2 => HZ.out j h1 h2)), HO, HB⟩
              case measure => simp [intOf]; omega
        · obtain rfl : col = m := by omega
          go_wp2
          go_ret
          exact ⟨_, t, M, rfl, HO.out, HS.out, HB.out⟩
end Go.Proofs.Ytcnfafappcbpnaa.Sol
/- Fragments: the document's Regenerate, walked. -/
namespace Go.Proofs.Ytcnfafappcbpnaa.Hl
open Go Go.RowKit Go.Proofs.Ytcnfafappcbpnaa.Gf Go.Proofs.Ytcnfafappcbpnaa.Gi Go.Proofs.Ytcnfafappcbpnaa.Bits Go.Proofs.Ytcnfafappcbpnaa.Mem Go.Proofs.Ytcnfafappcbpnaa.Alg Go.Proofs.Ytcnfafappcbpnaa.Sol Go.Proofs.Ytcnfafappcbpnaa.VPts Go.Proofs.Ytcnfafappcbpnaa.Str Go.Proofs.Ytcnfafappcbpnaa.Rws Go.Proofs.Ytcnfafappcbpnaa.Par Go.Proofs.Ytcnfafappcbpnaa.BHealFragments Go.Proofs.YtcnfafappcbpnaaW.PrintWords
set_option linter.unusedVariables false

/-- One row more, appended, within a region. -/
theorem rows_append_stepR {P : Program} {ops : Array Oper} {o : Oper} {a : Act} {Q : Exit → Act → World → Prop} {Kc : Act → World → Prop} {w0 W wr : World} (hP : P = Try.prog) (base : Nat) (hw : Region.wanted o (yielded ops a.tmps) = true) (s x : Operand)
    (ho : o.op = .call { callee := .builtin .append, args := #[s, x], argTypes := #[39, 39] }) (v u : Value) (ls : List (List Int)) (ys : List Int)
    (hs : a.eval s = v) (hx : a.eval x = .slice (some ⟨W.heap.size, 0, none⟩) 1 1) (HR : RowsR wr base v ls) (HB : Below base w0 W) (hbase : base ≤ wr.heap.size) (hB : Below wr.heap.size wr W)
    (hu : (Kd.int .u8).R 5 W wr.heap.size (fun _ => True) u ys) (hl : ls.length ≤ 1000000)
    (h : ∀ v1 w1, RowsR w1 base v1 (ls ++ [ys]) → Below base w0 w1 → Kc (a.put o.dst v1) w1) :
    if Region.wanted o (yielded ops a.tmps) = true then Oper.wp P o a (W.alloc (.cells #[u] 22)) Kc Q else Kc (a.put o.dst undef) (W.alloc (.cells #[u] 22)) := by
  subst hP
  have hown : W.ownsRow wr.heap.size 5 1 u ys.length (nums .u8 ys) := Kd.own_of_R hu
  refine Kd.R_append_step kRow (w0 := w0) base hw s x 39 22 (.slice none 0 0) 24 ho Try.underlying39 info_rows rfl (by decide) (by decide) v ls ys [u] (fun _ => True)
    (fun k => some k = u.ownBlock) hs hx (row_M hown hbase rfl) ?_ (fun _ _ => trivial) (Kd.R_below HR hB) HB (Nat.le_trans hbase hB.size) (by omega) (fun v1 w1 h1 h2 _ _ => h v1 w1 h1 h2)
  intro k hk
  refine ⟨trivial, fun e => ?_⟩
  have h1 := own_base hown k hk.symm
  have := Kd.R_lt HR k e.symm
  omega
theorem lit0R {w X : World} (h : Below w.heap.size w X) : (Kd.int .u8).R 5 (X.alloc (.cells #[] 5)) w.heap.size (fun _ => True) (.slice (some ⟨X.heap.size, 0, none⟩) 0 0) ([] : List Int) :=
  Kd.R_of_own (own_lit X w.heap.size 5 .u8 [] h.size (by simp)) (fun _ _ => trivial)
theorem lit1R {X : World} (b : Nat) (h : b ≤ X.heap.size) (z : Int) : (Kd.int .u8).R 5 (X.alloc (.cells #[.int .u8 z] 5)) b (fun _ => True) (.slice (some ⟨X.heap.size, 0, none⟩) 1 1) [z] :=
  Kd.R_of_own (own_lit X b 5 .u8 [z] h (by simp)) (fun _ _ => trivial)
/-- Powers, and bytes behind them. -/
def augX (d : Nat) (f : Nat → Nat) (x : Nat → List Int) : Mtx := fun i j => if j < d then powM f i j else (x i).getD (j - d) 0
theorem augX_byt {d : Nat} {f : Nat → Nat} {x : Nat → List Int} (hf : ∀ i, f i < 256) (hx : ∀ q i, Byt ((x q).getD i 0)) : BytM (augX d f x) := by
  intro i j
  unfold augX
  split
  · exact powM_byt hf i j
  · exact hx _ _
theorem augX_line {d sz i : Nat} {f : Nat → Nat} {x : Nat → List Int} (h : (x i).length = sz) : line d (powM f i) ++ x i = line (d + sz) (augX d f x i) := by
  refine List.ext_getElem (by simp [line_len, h]) (fun j h1 h2 => ?_)
  rw [line_len] at h2
  rw [List.getElem_append]
  by_cases e : j < d
  · rw [dif_pos (by rw [line_len]; exact e)]
    simp only [line, List.getElem_map, List.getElem_range]
    unfold augX; rw [if_pos e]
  · rw [dif_neg (by rw [line_len]; exact e)]
    simp only [line, List.getElem_map, List.getElem_range, List.length_map, List.length_range]
    unfold augX; rw [if_neg e, List.getD_eq_getElem?_getD, List.getElem?_eq_getElem (by omega)]
    rfl
def outR (d sz a : Nat) (F : Int) (M : Mtx) (pos : Nat) : Int := xorI (M (pos / sz) (d + pos % sz)) (gmI (M (pos / sz + a) (d + pos % sz)) F)
def RRegenPost (d sz a : Nat) (F : Int) (f : Nat → Nat) (x : Nat → List Int) (w : World) (e : Ending) (w' : World) : Prop :=
  ∃ A c t M, e = .returned (.slice A (a * sz) c) ∧ StepsTo d (augX d f x) (d + sz) t M ∧ (Kd.int .u8).C w' A (a * sz) (line (a * sz) (outR d sz a F M)) ∧ Below w.heap.size w w'
theorem int_row {w : World} {A : Option Addr} {n : Nat} {s : Nat → Int} (h : (Kd.int .i64).C w A n (line n s)) (i : Nat) (hi : i < n) : ∃ ad, A = some ad ∧ w.cell? (ad.add i) = some (.int .i64 (s i)) := by
  obtain ⟨ad, c, e, _, hK, hc0⟩ := Kd.C_get h (0 : Int) (i : Int) (by omega) (by omega)
  refine ⟨ad, e, ?_⟩
  have hK' : c = [.int .i64 ((line n s).getD i 0)] := by simpa [Kd.int, Kd.scalar] using hK
  subst hK'
  have hq := hc0 0 _ rfl
  rw [line_get n s i hi] at hq
  simpa [Kd.int, Kd.scalar] using hq
set_option maxRecDepth 100000 in
set_option maxHeartbeats 8000000 in
theorem rregen_any (n k N c0 c1 lost sz d a : Nat) (A0 A1 : Option Addr) (s : Nat → Int) (x : Nat → List Int) (w : World) (k1 : 2 ≤ k) (k2 : k ≤ 8) (n2 : n ≤ 24) (hl : lost < n) (hd : d = 2 * k - 2) (ha : a = k - 1) (hN : d ≤ N) (hN100 : N ≤ 100)
    (hS : (Kd.int .i64).C w A0 N (line N s)) (hX : Kd.C kRow w A1 N (rowsX x N)) (hs : ∀ i, i < N → 0 ≤ s i ∧ s i < n) (hxl : ∀ i, i < N → (x i).length = sz) (hxb : ∀ q i, Byt ((x q).getD i 0)) (s1 : 1 ≤ sz) (s2 : sz ≤ 100) :
    Calls Try.prog 15 #[.int .i64 n, .int .i64 k, .int .i64 lost, .slice A0 N c0, .slice A1 N c1] w (RRegenPost d sz a ((gp (ptN n k lost) (k - 1) : Nat) : Int) (fun i => ptN n k (s i).toNat) x w) := by
  have RW := Lib.hid (rows_calls n k w k1 k2 n2)
  obtain ⟨f, hf⟩ : ∃ f : Nat → Nat, f = fun i => ptN n k (s i).toNat := ⟨_, rfl⟩
  rw [← hf]
  have hfb : ∀ i, f i < 256 := fun i => by rw [hf]; exact ptN_lt n k _
  have HM0 := Lib.hid (augX_byt (d := d) hfb hxb)
  have HLI := Lib.hid (fun i (hi : i < d) => augX_line (d := d) (f := f) (hxl i (by omega)))
  have HS := Lib.hid (fun W (hB : Below w.heap.size w W) => Kd.C_below hS hB)
  have HX := Lib.hid (fun W (hB : Below w.heap.size w W) i (hi : i < d) => show ∃ ad A0 c0, A1 = some ad ∧ W.cell? (ad.add i) = some (.slice A0 sz c0) ∧ (Kd.int .u8).C W A0 sz (x i) by
    obtain ⟨ad, A0, c0, e, h1, _, h3⟩ := rowsN_get (show Kd.C kRow W A1 (rowsX x N).length (rowsX x N) by rw [rowsX_len]; exact Kd.C_below hX hB) i (by rw [rowsX_len]; omega)
    rw [rowsX_get x N i (by omega), hxl i (by omega)] at h1 h3
    exact ⟨ad, A0, c0, e, h1, h3⟩)
  have HSR := Lib.hid (fun i (hi : i < d) => hs i (Nat.lt_of_lt_of_le hi hN))
  have HRR := Lib.hid (fun W A (h : Kd.C kRow W A n (rowsM n k n)) i (hi : i < n) => show ∃ ad A0 c0, A = some ad ∧ W.cell? (ad.add i) = some (.slice A0 d c0) ∧ (Kd.int .u8).C W A0 d (pows (ptN n k i) d) by
    obtain ⟨ad, A0, c0, e, h1, _, h3⟩ := rows_row h i hi
    rw [← hd] at h1 h3
    exact ⟨ad, A0, c0, e, h1, h3⟩)
  have HF := Lib.hid hf
  have d14 : d ≤ 14 := by omega
  have d2 : 2 ≤ d := by omega
  have a1 : 1 ≤ a := by omega
  have a7 : a ≤ 7 := by omega
  have k8 : k ≤ 8 := k2
  have ka : k = a + 1 := by omega
  have da : d = 2 * a := by omega
  have HKA := Lib.hid (And.intro ka da)
  obtain ⟨ad0, rfl, _⟩ := int_row hS 0 (by omega)
  obtain ⟨ad1, A30, c30, rfl, _⟩ := HX.out w (Below.refl _ _) 0 (by omega)
  have w1 : IntKind.i64.wrap (2 * (k : Int)) = 2 * (k : Int) := IntWalk.i64_in _ (by omega)
  have w2 : IntKind.i64.wrap (2 * (k : Int) - 2) = (d : Int) := by rw [IntWalk.i64_in _ (by omega)]; omega
  have w3 : 2 * (k : Int) - 2 = (d : Int) := by omega
  have w4 : (k : Int) - 1 = (a : Int) := by omega
  have w5 : k - 1 = a := by omega
  rw [w5]
  have HNd := Lib.hid hN
  clear hd ha hS hX hs hxl hxb hf hfb k1 k2 ka da w5
  go_enter Try.func15, Try.ntmps15
  go_upto_region 5 with (go_at_call 29; (with_reducible refine RW.out.mono ?_); rintro e wR ⟨AR, cR, rfl, hcR, hCR, hb⟩; have HCR := Lib.hid hCR; have HBR := Lib.hid hb; clear hcR hCR hb)
  go_loopw [13, 14] (fun uv iv wr => ∃ (i : Nat) (u : Value), uv = u ∧ i ≤ d ∧ iv = .int .i64 i ∧ Hid (RowsR wr wR.heap.size u (mat i (d + sz) (augX d f x))) ∧ Hid (Below wR.heap.size wR wr)) (fun _ iv _ => d - (intOf iv).toNat)
  case atStart => exact ⟨0, _, rfl, by omega, rfl, Lib.hid (Kd.R_nil _ _ _ _ _), Lib.hid (Below.refl _ _)⟩
  case round =>
    obtain ⟨i, u, rfl, hi, rfl, HO, HB⟩ := hrel
    by_cases hlt : i < d
    · obtain ⟨ad, e, kc1⟩ := int_row (HS.out wR HBR.out) i (by have := HNd.out; omega)
      injection e with e
      subst e
      obtain ⟨ad, A3, c3, e, kc3, hc3⟩ := HX.out wR HBR.out i hlt
      injection e with e
      subst e
      have hsr := HSR.out i hlt
      obtain ⟨p, hp⟩ : ∃ p : Nat, s i = p := ⟨(s i).toNat, by omega⟩
      rw [hp] at kc1 hsr
      have hpn : p < n := by omega
      obtain ⟨adR, A2, c2, rfl, kc2, hc2⟩ := HRR.out wR AR HCR.out p hpn
      have hpf : pows (ptN n k p) d = line d (powM f i) := by
        rw [HF.out]
        show pows (ptN n k p) d = line d (fun j => ((gp (ptN n k (s i).toNat) j : Nat) : Int))
        rw [hp, Int.toNat_natCast]
        rfl
      rw [hpf] at hc2
      have g1 : (i : Int) < (d : Int) := by omega
      have g2 : (0 : Int) ≤ (i : Int) := by omega
      have g3 : (i : Int) < (N : Int) := by have := HNd.out; omega
      have g4 : (p : Int) < (n : Int) := by omega
      have g5 : (0 : Int) ≤ (p : Int) := by omega
      obtain ⟨xs, hxs⟩ : ∃ xs, xs = line d (powM f i) := ⟨_, rfl⟩
      obtain ⟨ys, hys⟩ : ∃ ys, ys = x i := ⟨_, rfl⟩
      have hxl : xs.length = d := by rw [hxs, line_len]
      have hyl : ys.length = sz := by
        have h := congrArg List.length (HLI.out i hlt)
        rw [List.length_append, line_len, line_len] at h
        rw [hys]; omega
      have HXY := Lib.hid (show xs ++ ys = line (d + sz) (augX d f x i) by rw [hxs, hys]; exact HLI.out i hlt)
      rw [← hxs] at hc2
      rw [← hys] at hc3
      have HRA := Lib.hid (fun W (hB : Below wr.heap.size wr W) => Kd.C_below hc2 (HB.out.trans (hB.mono HB.out.size)))
      have HRB := Lib.hid (fun W (hB : Below wr.heap.size wr W) => Kd.C_below hc3 (HB.out.trans (hB.mono HB.out.size)))
      have HXL := Lib.hid hxl
      have HYL := Lib.hid hyl
      have KK0 := Lib.hid (fun W (hB : Below wR.heap.size wR W) => (⟨pw_cell_below hB kc1, pw_cell_below hB kc2, pw_cell_below hB kc3⟩ : W.cell? (ad0.add i) = some (.int .i64 p) ∧ W.cell? (adR.add p) = some (.slice A2 d c2) ∧ W.cell? (ad1.add i) = some (.slice A3 sz c3)))
      have KK := Lib.hid (fun W (hB : Below wr.heap.size wr W) => KK0.out W (HB.out.trans (hB.mono HB.out.size)))
      have HZ := Lib.hid (show Below wr.heap.size wr wr.drew from (Below.refl _ _).drew)
      clear hc2 hc3 hxs hys hxl hyl hpf hp hsr kc1 kc2 kc3 HF
      go_upto_region 7 with (fail)
      refine wp_region_noPanic ?_
      refine wp_region_held_drew (S := (fun W => W.cell? (ad0.add i) = some (.int .i64 p) ∧ W.cell? (adR.add p) = some (.slice A2 d c2) ∧ W.cell? (ad1.add i) = some (.slice A3 sz c3))) (by kernel_rfl) ?_ (fun hHeld => ?_)
      · ((try dsimp only); exact KK.out _ HZ.out)
      refine wpAnyH_take (i := 0) (oi := { dst := some 30, op := Go.Op.move (Go.Operand.tmp 13), type := 39, pos := "ref.go:31", after := #[], guard := none }) (v := ?_) rfl (by kernel_rfl) (by kernel_rfl) (by kernel_rfl) (fun _ _ _ h => h) (Or.inl ⟨by rfl, ?_⟩) (by assumption) ?_
      rotate_left 1
      · (intro w hSw; (try dsimp only at hSw); go_simp; try with_reducible rfl)
      try simp only [Act.put, List.setIfInBounds_toArray, List.set_cons_zero, List.set_cons_succ]
      refine wpAnyH_take (i := 2) (oi := { dst := some 32, op := Go.Op.move (Go.Operand.tmp 11), type := 39, pos := "ref.go:31", after := #[], guard := none }) (v := ?_) rfl (by kernel_rfl) (by kernel_rfl) (by kernel_rfl) (fun _ _ _ h => h) (Or.inl ⟨by rfl, ?_⟩) (by assumption) ?_
      rotate_left 1
      · (intro w hSw; (try dsimp only at hSw); go_simp; try with_reducible rfl)
      try simp only [Act.put, List.setIfInBounds_toArray, List.set_cons_zero, List.set_cons_succ]
      refine wpAnyH_take (i := 3) (oi := { dst := some 33, op := Go.Op.move (Go.Operand.tmp 3), type := 38, pos := "ref.go:31", after := #[], guard := none }) (v := ?_) rfl (by kernel_rfl) (by kernel_rfl) (by kernel_rfl) (fun _ _ _ h => h) (Or.inl ⟨by rfl, ?_⟩) (by assumption) ?_
      rotate_left 1
      · (intro w hSw; (try dsimp only at hSw); go_simp; try with_reducible rfl)
      try simp only [Act.put, List.setIfInBounds_toArray, List.set_cons_zero, List.set_cons_succ]
      refine wpAnyH_take (i := 4) (oi := { dst := some 34, op := Go.Op.move (Go.Operand.tmp 14), type := 3, pos := "ref.go:31", after := #[], guard := none }) (v := ?_) rfl (by kernel_rfl) (by kernel_rfl) (by kernel_rfl) (fun _ _ _ h => h) (Or.inl ⟨by rfl, ?_⟩) (by assumption) ?_
      rotate_left 1
      · (intro w hSw; (try dsimp only at hSw); go_simp; try with_reducible rfl)
      try simp only [Act.put, List.setIfInBounds_toArray, List.set_cons_zero, List.set_cons_succ]
      refine wpAnyH_take (i := 5) (oi := { dst := some 35, op := Go.Op.indexAddr 38 (Go.Operand.tmp 33) (Go.Operand.tmp 34), type := 0, pos := "ref.go:31", after := #[{ on := 3, ground := Go.Ground.data }, { on := 4, ground := Go.Ground.data }], guard := none }) (v := ?_) rfl (by kernel_rfl) (by kernel_rfl) (by kernel_rfl) (fun _ _ _ h => h) (Or.inl ⟨by rfl, ?_⟩) (by assumption) ?_
      rotate_left 1
      · (intro w hSw; (try dsimp only at hSw); go_simp; try with_reducible rfl)
      try simp only [Act.put, List.setIfInBounds_toArray, List.set_cons_zero, List.set_cons_succ]
      refine wpAnyH_take (i := 6) (oi := { dst := some 36, op := Go.Op.load 3 (Go.Operand.tmp 35), type := 3, pos := "ref.go:31", after := #[{ on := 5, ground := Go.Ground.data }], guard := none }) (v := ?_) rfl (by kernel_rfl) (by kernel_rfl) (by kernel_rfl) (fun _ _ _ h => h) (Or.inl ⟨by rfl, ?_⟩) (by assumption) ?_
      rotate_left 1
      · (intro w hSw; (try dsimp only at hSw); go_simp; try with_reducible rfl)
      try simp only [Act.put, List.setIfInBounds_toArray, List.set_cons_zero, List.set_cons_succ]
      refine wpAnyH_take (i := 7) (oi := { dst := some 37, op := Go.Op.indexAddr 39 (Go.Operand.tmp 32) (Go.Operand.tmp 36), type := 0, pos := "ref.go:31", after := #[{ on := 2, ground := Go.Ground.data }, { on := 6, ground := Go.Ground.data }], guard := none }) (v := ?_) rfl (by kernel_rfl) (by kernel_rfl) (by kernel_rfl) (fun _ _ _ h => h) (Or.inl ⟨by rfl, ?_⟩) (by assumption) ?_
      rotate_left 1
      · (intro w hSw; (try dsimp only at hSw); go_simp; try with_reducible rfl)
      try simp only [Act.put, List.setIfInBounds_toArray, List.set_cons_zero, List.set_cons_succ]
      refine wpAnyH_take (i := 8) (oi := { dst := some 38, op := Go.Op.load 22 (Go.Operand.tmp 37), type := 22, pos := "ref.go:31", after := #[{ on := 7, ground := Go.Ground.data }], guard := none }) (v := ?_) rfl (by kernel_rfl) (by kernel_rfl) (by kernel_rfl) (fun _ _ _ h => h) (Or.inl ⟨by rfl, ?_⟩) (by assumption) ?_
      rotate_left 1
      · (intro w hSw; (try dsimp only at hSw); go_simp; try with_reducible rfl)
      try simp only [Act.put, List.setIfInBounds_toArray, List.set_cons_zero, List.set_cons_succ]
      refine wpAnyH_take (i := 10) (oi := { dst := some 40, op := Go.Op.move (Go.Operand.tmp 4), type := 39, pos := "ref.go:31", after := #[], guard := none }) (v := ?_) rfl (by kernel_rfl) (by kernel_rfl) (by kernel_rfl) (fun _ _ _ h => h) (Or.inl ⟨by rfl, ?_⟩) (by assumption) ?_
      rotate_left 1
      · (intro w hSw; (try dsimp only at hSw); go_simp; try with_reducible rfl)
      try simp only [Act.put, List.setIfInBounds_toArray, List.set_cons_zero, List.set_cons_succ]
      refine wpAnyH_take (i := 11) (oi := { dst := some 41, op := Go.Op.move (Go.Operand.tmp 14), type := 3, pos := "ref.go:31", after := #[], guard := none }) (v := ?_) rfl (by kernel_rfl) (by kernel_rfl) (by kernel_rfl) (fun _ _ _ h => h) (Or.inl ⟨by rfl, ?_⟩) (by assumption) ?_
      rotate_left 1
      · (intro w hSw; (try dsimp only at hSw); go_simp; try with_reducible rfl)
      try simp only [Act.put, List.setIfInBounds_toArray, List.set_cons_zero, List.set_cons_succ]
      refine wpAnyH_take (i := 12) (oi := { dst := some 42, op := Go.Op.indexAddr 39 (Go.Operand.tmp 40) (Go.Operand.tmp 41), type := 0, pos := "ref.go:31", after := #[{ on := 10, ground := Go.Ground.data }, { on := 11, ground := Go.Ground.data }], guard := none }) (v := ?_) rfl (by kernel_rfl) (by kernel_rfl) (by kernel_rfl) (fun _ _ _ h => h) (Or.inl ⟨by rfl, ?_⟩) (by assumption) ?_
      rotate_left 1
      · (intro w hSw; (try dsimp only at hSw); go_simp; try with_reducible rfl)
      try simp only [Act.put, List.setIfInBounds_toArray, List.set_cons_zero, List.set_cons_succ]
      refine wpAnyH_take (i := 13) (oi := { dst := some 43, op := Go.Op.load 22 (Go.Operand.tmp 42), type := 22, pos := "ref.go:31", after := #[{ on := 12, ground := Go.Ground.data }], guard := none }) (v := ?_) rfl (by kernel_rfl) (by kernel_rfl) (by kernel_rfl) (fun _ _ _ h => h) (Or.inl ⟨by rfl, ?_⟩) (by assumption) ?_
      rotate_left 1
      · (intro w hSw; (try dsimp only at hSw); go_simp; try with_reducible rfl)
      try simp only [Act.put, List.setIfInBounds_toArray, List.set_cons_zero, List.set_cons_succ]
      refine wpAnyH_ready (rs := [1]) (by kernel_rfl) (by simp) ?_
      refine AllReadyH.cons (o := { dst := some 31, op := Go.Op.buildSlice 22 0 #[], type := 22, pos := "ref.go:31", after := #[], guard := none }) rfl (fun K hK => ?_) AllReadyH.nil
      go_simp
      have HE := Lib.hid (lit0R (w := wr) (X := wr.drew) HZ.out)
      replace HZ := Lib.hid (HZ.out.alloc HZ.out.size (.cells #[] 5))
      clear hHeld
      refine hK.out _ _ ?_ (fun hHeld => ?_)
      · ((try dsimp only); exact KK.out _ HZ.out)
      clear hK K
      refine wpAnyH_ready (rs := [9]) (by kernel_rfl) (by simp) ?_
      refine AllReadyH.cons (o := { dst := some 39, op := Go.Op.call { callee := Go.Callee.builtin Go.Builtin.append, args := #[Go.Operand.tmp 31, Go.Operand.tmp 38], argTypes := #[22, 22] }, type := 22, pos := "ref.go:31", after := #[{ on := 1, ground := Go.Ground.data }, { on := 8, ground := Go.Ground.data }], guard := none }) rfl (fun K hK => ?_) AllReadyH.nil
      refine Kd.R_append_rows_step (Kd.int .u8) (w0 := wr) wr.heap.size (by rfl) (.tmp 31) (.tmp 38) 22 5 (.int .u8 0) 1 rfl Try.underlying22 Rws.info_byte rfl (by decide) (by decide) _ [] xs _ _ _ (fun _ => True) (fun _ => False) rfl rfl HE.out (HRA.out _ HZ.out) (fun _ _ h => h) (fun _ h => h.elim) (fun _ _ => trivial) HZ.out HZ.out.size (by have := HXL.out; simp; omega) ?_
      intro v2 x2 ho hb _ _
      rw [List.nil_append] at ho
      obtain ⟨A6, c6, e6⟩ := Kd.R_slice ho
      rw [HXL.out] at e6
      subst e6
      have HR6 := Lib.hid ho
      replace HZ := Lib.hid hb
      clear ho hb HE
      clear hHeld
      refine hK.out _ _ ?_ (fun hHeld => ?_)
      · ((try dsimp only); exact KK.out _ HZ.out)
      clear hK K
      refine wpAnyH_ready (rs := [14]) (by kernel_rfl) (by simp) ?_
      refine AllReadyH.cons (o := { dst := some 44, op := Go.Op.call { callee := Go.Callee.builtin Go.Builtin.append, args := #[Go.Operand.tmp 39, Go.Operand.tmp 43], argTypes := #[22, 22] }, type := 22, pos := "ref.go:31", after := #[{ on := 9, ground := Go.Ground.data }, { on := 13, ground := Go.Ground.data }, { on := 9, ground := Go.Ground.chain }], guard := none }) rfl (fun K hK => ?_) AllReadyH.nil
      refine Kd.R_append_rows_step (Kd.int .u8) (w0 := wr) wr.heap.size (by rfl) (.tmp 39) (.tmp 43) 22 5 (.int .u8 0) 1 rfl Try.underlying22 Rws.info_byte rfl (by decide) (by decide) (.slice A6 d c6) xs ys _ _ _ (fun _ => True) (fun _ => False) rfl rfl HR6.out (HRB.out _ HZ.out) (fun _ _ h => h) (fun _ h => h.elim) (fun _ _ => trivial) HZ.out HZ.out.size (by have := HXL.out; omega) ?_
      intro v3 x3 ho hb _ _
      rw [HXY.out] at ho
      obtain ⟨A7, c7, e7⟩ := Kd.R_slice ho
      rw [line_len] at e7
      subst e7
      have HR7 := Lib.hid ho
      replace HZ := Lib.hid hb
      clear ho hb HR6
      clear hHeld
      refine hK.out _ _ ?_ (fun hHeld => ?_)
      · ((try dsimp only); exact KK.out _ HZ.out)
      clear hK K
      refine wpAnyH_ready (rs := [15]) (by kernel_rfl) (by simp) ?_
      refine AllReadyH.cons (o := { dst := some 45, op := Go.Op.buildSlice 39 1 #[(0, Go.Operand.tmp 44)], type := 39, pos := "ref.go:31", after := #[{ on := 14, ground := Go.Ground.data }], guard := none }) rfl (fun K hK => ?_) AllReadyH.nil
      go_simp
      have HZ5 := Lib.hid (HZ.out.alloc HZ.out.size (.cells #[.slice A7 (d + sz) c7] 22))
      clear hHeld
      refine hK.out _ _ ?_ (fun hHeld => ?_)
      · ((try dsimp only); exact KK.out _ HZ5.out)
      clear hK K
      refine wpAnyH_ready (rs := [16]) (by kernel_rfl) (by simp) ?_
      refine AllReadyH.cons (o := { dst := some 46, op := Go.Op.call { callee := Go.Callee.builtin Go.Builtin.append, args := #[Go.Operand.tmp 30, Go.Operand.tmp 45], argTypes := #[39, 39] }, type := 39, pos := "ref.go:31", after := #[{ on := 0, ground := Go.Ground.data }, { on := 15, ground := Go.Ground.data }, { on := 14, ground := Go.Ground.chain }], guard := none }) rfl (fun K hK => ?_) AllReadyH.nil
      refine rows_append_stepR (w0 := wR) (wr := wr) rfl wR.heap.size (by rfl) (.tmp 30) (.tmp 45) rfl u13 _ (mat i (d + sz) (augX d f x)) (line (d + sz) (augX d f x i)) rfl rfl HO.out (HB.out.trans (HZ.out.mono HB.out.size)) HB.out.size HZ.out HR7.out (by rw [mat_len]; omega) ?_
      intro v7 x7 h7 hb7
      have H5 := Lib.hid h7
      have HB5 := Lib.hid hb7
      clear h7 hb7
      clear hHeld
      refine hK.out _ _ ?_ (fun hHeld => ?_)
      · ((try dsimp only); exact KK0.out _ HB5.out)
      clear hK K
      refine wpAnyH_take (i := 17) (oi := { dst := some 13, op := Go.Op.assign (Go.Operand.tmp 46), type := 39, pos := "ref.go:31", after := #[{ on := 16, ground := Go.Ground.data }, { on := 16, ground := Go.Ground.chain }, { on := 0, ground := Go.Ground.phase }, { on := 1, ground := Go.Ground.phase }, { on := 2, ground := Go.Ground.phase }, { on := 3, ground := Go.Ground.phase }, { on := 4, ground := Go.Ground.phase }, { on := 5, ground := Go.Ground.phase }, { on := 6, ground := Go.Ground.phase }, { on := 7, ground := Go.Ground.phase }, { on := 8, ground := Go.Ground.phase }, { on := 9, ground := Go.Ground.phase }, { on := 10, ground := Go.Ground.phase }, { on := 11, ground := Go.Ground.phase }, { on := 12, ground := Go.Ground.phase }, { on := 13, ground := Go.Ground.phase }, { on := 14, ground := Go.Ground.phase }, { on := 15, ground := Go.Ground.phase }, { on := 16, ground := Go.Ground.phase }], guard := none }) (v := ?_) rfl (by kernel_rfl) (by kernel_rfl) (by kernel_rfl) (fun _ _ _ h => h) (Or.inl ⟨by rfl, ?_⟩) (by assumption) ?_
      rotate_left 1
      · (intro w hSw; (try dsimp only at hSw); go_simp; try with_reducible rfl)
      try simp only [Act.put, List.setIfInBounds_toArray, List.set_cons_zero, List.set_cons_succ]
      refine wpAnyH_done (by kernel_rfl) ?_ _
      refine NoPanic.normal ?_
      go_wp2
      go_roundw
      case rel => exact ⟨i + 1, _, rfl, by omega, by go_num, Lib.hid (by rw [mat_succ]; exact H5.out), HB5⟩
      case measure => simp [intOf]; omega
    · obtain rfl : d = i := by omega
      have ST := Lib.hid (show Calls Try.prog 36 #[u13] wr fun e w' => ∃ As cs t M, e = .returned (.slice (some As) d cs) ∧ Kd.C kRow w' (some As) d (mat d (d + sz) M) ∧ StepsTo d (augX d f x) (d + sz) t M ∧ Below wr.heap.size wr w' by
        obtain ⟨A8, c8, rfl⟩ := Kd.R_slice HO.out
        have h := (Kd.R_reads' HO.out).2.2
        rw [mat_len] at h ⊢
        refine (steps_any d (d + sz) c8 A8 (augX d f x) wr h HM0.out (by omega) (by omega) (by omega) (by omega)).mono ?_
        rintro e w' ⟨u, t, M, rfl, hr, hst, hb⟩
        obtain ⟨As, cs, rfl⟩ := Kd.R_slice hr
        have h := (Kd.R_reads' hr).2.2
        rw [mat_len] at h ⊢
        obtain ⟨ad, _, _, rfl, _⟩ := mrow h 0 (by omega)
        exact ⟨ad, cs, t, M, rfl, h, hst, hb⟩)
      obtain ⟨adR, A2, c2, rfl, kc2, hc2⟩ := HRR.out wR AR HCR.out lost hl
      have HFB := Lib.hid (gp_byt (ptN n k lost) a (ptN_lt n k lost))
      obtain ⟨ad2, rfl, kf⟩ := Str.at_row hc2 a (by have := HKA.out; omega)
      rw [pows_get _ _ _ (by have := HKA.out; omega)] at kf
      obtain ⟨F, hF⟩ : ∃ F : Int, F = ((gp (ptN n k lost) a : Nat) : Int) := ⟨_, rfl⟩
      rw [← hF] at kf HFB ⊢
      have HFE := Lib.hid hF
      have KF := Lib.hid (fun W (hB : Below wR.heap.size wR W) => And.intro (pw_cell_below hB kc2) (pw_cell_below hB kf))
      have KX := Lib.hid (fun W (hB : Below wR.heap.size wR W) => show ∃ A30 c30, W.cell? (ad1.add 0) = some (.slice A30 sz c30) by
        obtain ⟨ad, A3, c3, e, kc3, hc3⟩ := HX.out W (HBR.out.trans (hB.mono HBR.out.size)) 0 (by omega)
        injection e with e
        subst e
        exact ⟨A3, c3, kc3⟩)
      clear HO HRR HX HS HSR HLI HF hF kf kc2 hc2 hlt hi RW
      go_upto_region 11 with (go_at_call 36; (with_reducible refine ST.out.mono ?_); rintro e w2 ⟨As, cs, t, M, rfl, hC, hst, hb⟩; have HC2 := Lib.hid hC; have HST := Lib.hid hst; have HB2 := Lib.hid (HB.out.trans (hb.mono HB.out.size)); clear hC hst hb)
      have KC2 := Lib.hid (KF.out _ HB2.out)
      have KX2 := Lib.hid (KX.out _ HB2.out)
      have HBY := Lib.hid (HST.out.byt HM0.out)
      clear KF KX ST HB HCR HM0
      have HBw := Lib.hid (HBR.out.trans (HB2.out.mono HBR.out.size))
      clear HB2 HBR
      go_loopw [16, 17, 18] (fun ov jv _ wq => ∃ (j : Nat) (u : Value), ov = u ∧ j ≤ a ∧ jv = .int .i64 j ∧ Hid ((Kd.int .u8).R 5 wq w2.heap.size (fun _ => True) u (line (j * sz) (outR d sz a F M))) ∧ Hid (Below w2.heap.size w2 wq)) (fun _ jv _ _ => a - (intOf jv).toNat)
      case atStart => exact ⟨0, _, rfl, by omega, rfl, Lib.hid (by rw [Nat.zero_mul]; exact Kd.R_nil _ _ _ _ _), Lib.hid (Below.refl _ _)⟩
      case round =>
        obtain ⟨j, u, rfl, hj, rfl, HO, HB⟩ := hrel
        by_cases hja : j < a
        · have g1 : (j : Int) < (a : Int) := by omega
          have g2 : (0 : Int) ≤ (j : Int) := by omega
          go_upto_region 14 with (fail)
          go_loopw [16, 18] (fun ov iv wq => ∃ (i : Nat) (u : Value), ov = u ∧ i ≤ sz ∧ iv = .int .i64 i ∧ Hid ((Kd.int .u8).R 5 wq w2.heap.size (fun _ => True) u (line (j * sz + i) (outR d sz a F M))) ∧ Hid (Below w2.heap.size w2 wq)) (fun _ iv _ => sz - (intOf iv).toNat)
          case atStart => exact ⟨0, _, rfl, by omega, rfl, HO, HB⟩
          case round =>
            clear HO HB
            obtain ⟨i, u, rfl, hi, rfl, HO, HB⟩ := hrel
            obtain ⟨A30, c30, kx⟩ := KX2.out
            have KX3 : wr.cell? ad1 = some (.slice A30 sz c30) := pw_cell_below HB.out (show w2.cell? ad1 = some (.slice A30 sz c30) from kx)
            have KX4 : (0 : Int) < (N : Int) := by omega
            by_cases hlt : i < sz
            · have g3 : (i : Int) < (sz : Int) := by omega
              have g4 : (0 : Int) ≤ (i : Int) := by omega
              obtain ⟨r, hr⟩ : ∃ r, r = d + i := ⟨_, rfl⟩
              obtain ⟨q, hq⟩ : ∃ q, q = j + a := ⟨_, rfl⟩
              have hqd : q < d := by have := HKA.out; omega
              have hrm : r < d + sz := by omega
              obtain ⟨ad, B1, e1, e, kb1, _, hb1⟩ := mrow HC2.out j (by have := HKA.out; omega)
              injection e with e
              subst e
              obtain ⟨b1, rfl, kd1⟩ := Str.at_row hb1 r hrm
              rw [line_get _ _ _ hrm] at kd1
              obtain ⟨ad, B2, e2, e, kb2, _, hb2⟩ := mrow HC2.out q hqd
              injection e with e
              subst e
              obtain ⟨b2, rfl, kd2⟩ := Str.at_row hb2 r hrm
              rw [line_get _ _ _ hrm] at kd2
              have hlen : j * sz + i < a * sz := by
                have h2 : (j + 1) * sz ≤ a * sz := Nat.mul_le_mul_right sz hja
                rw [Nat.add_mul, Nat.one_mul] at h2
                omega
              have hmax : a * sz ≤ 700 := by
                have := Nat.mul_le_mul a7 s2
                omega
              have hpos : outR d sz a F M (j * sz + i) = xorI (M j r) (gmI (M q r) F) := by
                unfold outR
                have h1 : (j * sz + i) / sz = j := by rw [Nat.mul_comm, Nat.mul_add_div (by omega), Nat.div_eq_of_lt hlt, Nat.add_zero]
                have h2 : (j * sz + i) % sz = i := by rw [Nat.mul_comm, Nat.mul_add_mod, Nat.mod_eq_of_lt hlt]
                rw [h1, h2, hr, hq]
              have hY1 := HBY.out j r
              have hY2 := HBY.out q r
              have MC := Lib.hid (fun W => refmul_calls (M q r) F W hY2 HFB.out)
              have hxb := xor_bits hY1 (gmI_byt (b := F) hY2)
              rw [← hpos] at hxb
              obtain ⟨z, hz⟩ : ∃ z, z = outR d sz a F M (j * sz + i) := ⟨_, rfl⟩
              rw [← hz] at hxb
              have HLS := Lib.hid (show line (j * sz + i) (outR d sz a F M) ++ [z] = line (j * sz + (i + 1)) (outR d sz a F M) by rw [hz, ← line_succ]; rfl)
              obtain ⟨y1, hy1⟩ : ∃ y1, y1 = M j r := ⟨_, rfl⟩
              obtain ⟨y2, hy2⟩ : ∃ y2, y2 = M q r := ⟨_, rfl⟩
              obtain ⟨gm, hgm⟩ : ∃ gm, gm = gmI y2 F := ⟨_, rfl⟩
              rw [← hy1] at kd1 hxb
              rw [← hy2] at kd2 hxb MC
              rw [← hgm] at hxb MC
              have KK := Lib.hid (fun W (hB : Below w2.heap.size w2 W) => (⟨pw_cell_below hB kb1, pw_cell_below hB kd1, pw_cell_below hB kb2, pw_cell_below hB kd2, pw_cell_below hB KC2.out.1, pw_cell_below hB KC2.out.2⟩ : W.cell? (As.add j) = some (.slice (some b1) (d + sz) e1) ∧ W.cell? (b1.add r) = some (.int .u8 y1) ∧ W.cell? (As.add q) = some (.slice (some b2) (d + sz) e2) ∧ W.cell? (b2.add r) = some (.int .u8 y2) ∧ W.cell? (adR.add lost) = some (.slice (some ad2) d c2) ∧ W.cell? (ad2.add a) = some (.int .u8 F)))
              have v1 : IntKind.i64.wrap ((d : Int) + (i : Int)) = (r : Int) := by rw [IntWalk.i64_in _ (by omega)]; omega
              have v2 : (d : Int) + (i : Int) = (r : Int) := by omega
              have v3 : IntKind.i64.wrap ((j : Int) + (k : Int)) = (j : Int) + (k : Int) := IntWalk.i64_in _ (by omega)
              have v4 : IntKind.i64.wrap ((j : Int) + (k : Int) - 1) = (q : Int) := by rw [IntWalk.i64_in _ (by omega)]; omega
              have v5 : (j : Int) + (k : Int) - 1 = (q : Int) := by omega
              have v6 : IntKind.i64.wrap (r : Int) = (r : Int) := IntWalk.i64_in _ (by omega)
              have v7 : IntKind.i64.wrap (q : Int) = (q : Int) := IntWalk.i64_in _ (by omega)
              have v8 : IntKind.i64.wrap (a : Int) = (a : Int) := IntWalk.i64_in _ (by omega)
              have t1 : (0 : Int) ≤ (r : Int) := by omega
              have t2 : (r : Int) < ((d + sz : Nat) : Int) := by omega
              have t3 : (0 : Int) ≤ (q : Int) := by omega
              have t4 : (q : Int) < (d : Int) := by omega
              have t5 : (j : Int) < (d : Int) := by omega
              have t6 : (a : Int) < (d : Int) := by omega
              have t7 : (0 : Int) ≤ (a : Int) := by omega
              have t8 : (lost : Int) < (n : Int) := by omega
              have t9 : (0 : Int) ≤ (lost : Int) := by omega
              obtain ⟨mm, hmm⟩ : ∃ mm, mm = d + sz := ⟨_, rfl⟩
              rw [← hmm] at KK t2 HC2
              have HMM := Lib.hid hmm
              have HLL := Lib.hid (show j * sz + i ≤ 1000 by omega)
              clear hr hq hz hy1 hy2 hgm kb1 hb1 kd1 kb2 hb2 kd2 hlen hmax hpos hY1 hY2 kx hmm hrm hqd
              go_upto_region 16 with (fail)
              have HBz := Lib.hid (show Below w2.heap.size w2 wr.drew from HB.out.drew)
              have HOz := Lib.hid (show (Kd.int .u8).R 5 wr.drew w2.heap.size (fun _ => True) u16 (line (j * sz + i) (outR d sz a F M)) from Kd.R_drew HO.out)
              clear HO HB KX3 KX4
              refine wp_region_noPanic ?_
              refine wp_region_held_drew (S := (fun W => W.cell? (As.add j) = some (.slice (some b1) mm e1) ∧ W.cell? (b1.add r) = some (.int .u8 y1) ∧ W.cell? (As.add q) = some (.slice (some b2) mm e2) ∧ W.cell? (b2.add r) = some (.int .u8 y2) ∧ W.cell? (adR.add lost) = some (.slice (some ad2) d c2) ∧ W.cell? (ad2.add a) = some (.int .u8 F))) (by kernel_rfl) ?_ (fun hHeld => ?_)
              · ((try dsimp only); exact KK.out _ HBz.out)
              refine wpAnyH_take (i := 0) (oi := { dst := some 63, op := Go.Op.move (Go.Operand.tmp 16), type := 22, pos := "ref.go:37", after := #[], guard := none }) (v := ?_) rfl (by kernel_rfl) (by kernel_rfl) (by kernel_rfl) (fun _ _ _ h => h) (Or.inl ⟨by rfl, ?_⟩) (by assumption) ?_
              rotate_left 1
              · (intro w hSw; (try dsimp only at hSw); go_simp; try with_reducible rfl)
              try simp only [Act.put, List.setIfInBounds_toArray, List.set_cons_zero, List.set_cons_succ]
              refine wpAnyH_take (i := 1) (oi := { dst := some 64, op := Go.Op.move (Go.Operand.tmp 15), type := 39, pos := "ref.go:37", after := #[], guard := none }) (v := ?_) rfl (by kernel_rfl) (by kernel_rfl) (by kernel_rfl) (fun _ _ _ h => h) (Or.inl ⟨by rfl, ?_⟩) (by assumption) ?_
              rotate_left 1
              · (intro w hSw; (try dsimp only at hSw); go_simp; try with_reducible rfl)
              try simp only [Act.put, List.setIfInBounds_toArray, List.set_cons_zero, List.set_cons_succ]
              refine wpAnyH_take (i := 2) (oi := { dst := some 65, op := Go.Op.move (Go.Operand.tmp 17), type := 3, pos := "ref.go:37", after := #[], guard := none }) (v := ?_) rfl (by kernel_rfl) (by kernel_rfl) (by kernel_rfl) (fun _ _ _ h => h) (Or.inl ⟨by rfl, ?_⟩) (by assumption) ?_
              rotate_left 1
              · (intro w hSw; (try dsimp only at hSw); go_simp; try with_reducible rfl)
              try simp only [Act.put, List.setIfInBounds_toArray, List.set_cons_zero, List.set_cons_succ]
              refine wpAnyH_take (i := 3) (oi := { dst := some 66, op := Go.Op.indexAddr 39 (Go.Operand.tmp 64) (Go.Operand.tmp 65), type := 0, pos := "ref.go:37", after := #[{ on := 1, ground := Go.Ground.data }, { on := 2, ground := Go.Ground.data }], guard := none }) (v := ?_) rfl (by kernel_rfl) (by kernel_rfl) (by kernel_rfl) (fun _ _ _ h => h) (Or.inl ⟨by rfl, ?_⟩) (by assumption) ?_
              rotate_left 1
              · (intro w hSw; (try dsimp only at hSw); go_simp; try with_reducible rfl)
              try simp only [Act.put, List.setIfInBounds_toArray, List.set_cons_zero, List.set_cons_succ]
              refine wpAnyH_take (i := 4) (oi := { dst := some 67, op := Go.Op.load 22 (Go.Operand.tmp 66), type := 22, pos := "ref.go:37", after := #[{ on := 3, ground := Go.Ground.data }], guard := none }) (v := ?_) rfl (by kernel_rfl) (by kernel_rfl) (by kernel_rfl) (fun _ _ _ h => h) (Or.inl ⟨by rfl, ?_⟩) (by assumption) ?_
              rotate_left 1
              · (intro w hSw; (try dsimp only at hSw); go_simp; try with_reducible rfl)
              try simp only [Act.put, List.setIfInBounds_toArray, List.set_cons_zero, List.set_cons_succ]
              refine wpAnyH_take (i := 5) (oi := { dst := some 68, op := Go.Op.move (Go.Operand.tmp 12), type := 3, pos := "ref.go:37", after := #[], guard := none }) (v := ?_) rfl (by kernel_rfl) (by kernel_rfl) (by kernel_rfl) (fun _ _ _ h => h) (Or.inl ⟨by rfl, ?_⟩) (by assumption) ?_
              rotate_left 1
              · (intro w hSw; (try dsimp only at hSw); go_simp; try with_reducible rfl)
              try simp only [Act.put, List.setIfInBounds_toArray, List.set_cons_zero, List.set_cons_succ]
              refine wpAnyH_take (i := 6) (oi := { dst := some 69, op := Go.Op.move (Go.Operand.tmp 18), type := 3, pos := "ref.go:37", after := #[], guard := none }) (v := ?_) rfl (by kernel_rfl) (by kernel_rfl) (by kernel_rfl) (fun _ _ _ h => h) (Or.inl ⟨by rfl, ?_⟩) (by assumption) ?_
              rotate_left 1
              · (intro w hSw; (try dsimp only at hSw); go_simp; try with_reducible rfl)
              try simp only [Act.put, List.setIfInBounds_toArray, List.set_cons_zero, List.set_cons_succ]
              refine wpAnyH_take (i := 7) (oi := { dst := some 70, op := Go.Op.binOp Go.BinOp.add 3 (Go.Operand.tmp 68) (Go.Operand.tmp 69) 3, type := 3, pos := "ref.go:37", after := #[{ on := 5, ground := Go.Ground.data }, { on := 6, ground := Go.Ground.data }], guard := none }) (v := ?_) rfl (by kernel_rfl) (by kernel_rfl) (by kernel_rfl) (fun _ _ _ h => h) (Or.inl ⟨by rfl, ?_⟩) (by assumption) ?_
              rotate_left 1
              · (intro w hSw; (try dsimp only at hSw); go_simp; try with_reducible rfl)
              try simp only [Act.put, List.setIfInBounds_toArray, List.set_cons_zero, List.set_cons_succ]
              refine wpAnyH_take (i := 8) (oi := { dst := some 71, op := Go.Op.indexAddr 22 (Go.Operand.tmp 67) (Go.Operand.tmp 70), type := 0, pos := "ref.go:37", after := #[{ on := 4, ground := Go.Ground.data }, { on := 7, ground := Go.Ground.data }], guard := none }) (v := ?_) rfl (by kernel_rfl) (by kernel_rfl) (by kernel_rfl) (fun _ _ _ h => h) (Or.inl ⟨by rfl, ?_⟩) (by assumption) ?_
              rotate_left 1
              · (intro w hSw; (try dsimp only at hSw); go_simp; try with_reducible rfl)
              try simp only [Act.put, List.setIfInBounds_toArray, List.set_cons_zero, List.set_cons_succ]
              refine wpAnyH_take (i := 9) (oi := { dst := some 72, op := Go.Op.load 5 (Go.Operand.tmp 71), type := 5, pos := "ref.go:37", after := #[{ on := 8, ground := Go.Ground.data }], guard := none }) (v := ?_) rfl (by kernel_rfl) (by kernel_rfl) (by kernel_rfl) (fun _ _ _ h => h) (Or.inl ⟨by rfl, ?_⟩) (by assumption) ?_
              rotate_left 1
              · (intro w hSw; (try dsimp only at hSw); go_simp; try with_reducible rfl)
              try simp only [Act.put, List.setIfInBounds_toArray, List.set_cons_zero, List.set_cons_succ]
              refine wpAnyH_take (i := 10) (oi := { dst := some 73, op := Go.Op.move (Go.Operand.tmp 15), type := 39, pos := "ref.go:37", after := #[], guard := none }) (v := ?_) rfl (by kernel_rfl) (by kernel_rfl) (by kernel_rfl) (fun _ _ _ h => h) (Or.inl ⟨by rfl, ?_⟩) (by assumption) ?_
              rotate_left 1
              · (intro w hSw; (try dsimp only at hSw); go_simp; try with_reducible rfl)
              try simp only [Act.put, List.setIfInBounds_toArray, List.set_cons_zero, List.set_cons_succ]
              refine wpAnyH_take (i := 11) (oi := { dst := some 74, op := Go.Op.move (Go.Operand.tmp 17), type := 3, pos := "ref.go:37", after := #[], guard := none }) (v := ?_) rfl (by kernel_rfl) (by kernel_rfl) (by kernel_rfl) (fun _ _ _ h => h) (Or.inl ⟨by rfl, ?_⟩) (by assumption) ?_
              rotate_left 1
              · (intro w hSw; (try dsimp only at hSw); go_simp; try with_reducible rfl)
              try simp only [Act.put, List.setIfInBounds_toArray, List.set_cons_zero, List.set_cons_succ]
              refine wpAnyH_take (i := 12) (oi := { dst := some 75, op := Go.Op.move (Go.Operand.tmp 1), type := 3, pos := "ref.go:37", after := #[], guard := none }) (v := ?_) rfl (by kernel_rfl) (by kernel_rfl) (by kernel_rfl) (fun _ _ _ h => h) (Or.inl ⟨by rfl, ?_⟩) (by assumption) ?_
              rotate_left 1
              · (intro w hSw; (try dsimp only at hSw); go_simp; try with_reducible rfl)
              try simp only [Act.put, List.setIfInBounds_toArray, List.set_cons_zero, List.set_cons_succ]
              refine wpAnyH_take (i := 13) (oi := { dst := some 76, op := Go.Op.binOp Go.BinOp.add 3 (Go.Operand.tmp 74) (Go.Operand.tmp 75) 3, type := 3, pos := "ref.go:37", after := #[{ on := 11, ground := Go.Ground.data }, { on := 12, ground := Go.Ground.data }], guard := none }) (v := ?_) rfl (by kernel_rfl) (by kernel_rfl) (by kernel_rfl) (fun _ _ _ h => h) (Or.inl ⟨by rfl, ?_⟩) (by assumption) ?_
              rotate_left 1
              · (intro w hSw; (try dsimp only at hSw); go_simp; try with_reducible rfl)
              try simp only [Act.put, List.setIfInBounds_toArray, List.set_cons_zero, List.set_cons_succ]
              refine wpAnyH_take (i := 14) (oi := { dst := some 77, op := Go.Op.binOp Go.BinOp.sub 3 (Go.Operand.tmp 76) (Go.Operand.const (Go.Value.int Go.IntKind.i64 1)) 3, type := 3, pos := "ref.go:37", after := #[{ on := 13, ground := Go.Ground.data }], guard := none }) (v := ?_) rfl (by kernel_rfl) (by kernel_rfl) (by kernel_rfl) (fun _ _ _ h => h) (Or.inl ⟨by rfl, ?_⟩) (by assumption) ?_
              rotate_left 1
              · (intro w hSw; (try dsimp only at hSw); go_simp; try with_reducible rfl)
              try simp only [Act.put, List.setIfInBounds_toArray, List.set_cons_zero, List.set_cons_succ]
              refine wpAnyH_take (i := 15) (oi := { dst := some 78, op := Go.Op.indexAddr 39 (Go.Operand.tmp 73) (Go.Operand.tmp 77), type := 0, pos := "ref.go:37", after := #[{ on := 10, ground := Go.Ground.data }, { on := 14, ground := Go.Ground.data }], guard := none }) (v := ?_) rfl (by kernel_rfl) (by kernel_rfl) (by kernel_rfl) (fun _ _ _ h => h) (Or.inl ⟨by rfl, ?_⟩) (by assumption) ?_
              rotate_left 1
              · (intro w hSw; (try dsimp only at hSw); go_simp; try with_reducible rfl)
              try simp only [Act.put, List.setIfInBounds_toArray, List.set_cons_zero, List.set_cons_succ]
              refine wpAnyH_take (i := 16) (oi := { dst := some 79, op := Go.Op.load 22 (Go.Operand.tmp 78), type := 22, pos := "ref.go:37", after := #[{ on := 15, ground := Go.Ground.data }], guard := none }) (v := ?_) rfl (by kernel_rfl) (by kernel_rfl) (by kernel_rfl) (fun _ _ _ h => h) (Or.inl ⟨by rfl, ?_⟩) (by assumption) ?_
              rotate_left 1
              · (intro w hSw; (try dsimp only at hSw); go_simp; try with_reducible rfl)
              try simp only [Act.put, List.setIfInBounds_toArray, List.set_cons_zero, List.set_cons_succ]
              refine wpAnyH_take (i := 17) (oi := { dst := some 80, op := Go.Op.move (Go.Operand.tmp 12), type := 3, pos := "ref.go:37", after := #[], guard := none }) (v := ?_) rfl (by kernel_rfl) (by kernel_rfl) (by kernel_rfl) (fun _ _ _ h => h) (Or.inl ⟨by rfl, ?_⟩) (by assumption) ?_
              rotate_left 1
              · (intro w hSw; (try dsimp only at hSw); go_simp; try with_reducible rfl)
              try simp only [Act.put, List.setIfInBounds_toArray, List.set_cons_zero, List.set_cons_succ]
              refine wpAnyH_take (i := 18) (oi := { dst := some 81, op := Go.Op.move (Go.Operand.tmp 18), type := 3, pos := "ref.go:37", after := #[], guard := none }) (v := ?_) rfl (by kernel_rfl) (by kernel_rfl) (by kernel_rfl) (fun _ _ _ h => h) (Or.inl ⟨by rfl, ?_⟩) (by assumption) ?_
              rotate_left 1
              · (intro w hSw; (try dsimp only at hSw); go_simp; try with_reducible rfl)
              try simp only [Act.put, List.setIfInBounds_toArray, List.set_cons_zero, List.set_cons_succ]
              refine wpAnyH_take (i := 19) (oi := { dst := some 82, op := Go.Op.binOp Go.BinOp.add 3 (Go.Operand.tmp 80) (Go.Operand.tmp 81) 3, type := 3, pos := "ref.go:37", after := #[{ on := 17, ground := Go.Ground.data }, { on := 18, ground := Go.Ground.data }], guard := none }) (v := ?_) rfl (by kernel_rfl) (by kernel_rfl) (by kernel_rfl) (fun _ _ _ h => h) (Or.inl ⟨by rfl, ?_⟩) (by assumption) ?_
              rotate_left 1
              · (intro w hSw; (try dsimp only at hSw); go_simp; try with_reducible rfl)
              try simp only [Act.put, List.setIfInBounds_toArray, List.set_cons_zero, List.set_cons_succ]
              refine wpAnyH_take (i := 20) (oi := { dst := some 83, op := Go.Op.indexAddr 22 (Go.Operand.tmp 79) (Go.Operand.tmp 82), type := 0, pos := "ref.go:37", after := #[{ on := 16, ground := Go.Ground.data }, { on := 19, ground := Go.Ground.data }], guard := none }) (v := ?_) rfl (by kernel_rfl) (by kernel_rfl) (by kernel_rfl) (fun _ _ _ h => h) (Or.inl ⟨by rfl, ?_⟩) (by assumption) ?_
              rotate_left 1
              · (intro w hSw; (try dsimp only at hSw); go_simp; try with_reducible rfl)
              try simp only [Act.put, List.setIfInBounds_toArray, List.set_cons_zero, List.set_cons_succ]
              refine wpAnyH_take (i := 21) (oi := { dst := some 84, op := Go.Op.load 5 (Go.Operand.tmp 83), type := 5, pos := "ref.go:37", after := #[{ on := 20, ground := Go.Ground.data }], guard := none }) (v := ?_) rfl (by kernel_rfl) (by kernel_rfl) (by kernel_rfl) (fun _ _ _ h => h) (Or.inl ⟨by rfl, ?_⟩) (by assumption) ?_
              rotate_left 1
              · (intro w hSw; (try dsimp only at hSw); go_simp; try with_reducible rfl)
              try simp only [Act.put, List.setIfInBounds_toArray, List.set_cons_zero, List.set_cons_succ]
              refine wpAnyH_take (i := 22) (oi := { dst := some 85, op := Go.Op.move (Go.Operand.tmp 11), type := 39, pos := "ref.go:37", after := #[], guard := none }) (v := ?_) rfl (by kernel_rfl) (by kernel_rfl) (by kernel_rfl) (fun _ _ _ h => h) (Or.inl ⟨by rfl, ?_⟩) (by assumption) ?_
              rotate_left 1
              · (intro w hSw; (try dsimp only at hSw); go_simp; try with_reducible rfl)
              try simp only [Act.put, List.setIfInBounds_toArray, List.set_cons_zero, List.set_cons_succ]
              refine wpAnyH_take (i := 23) (oi := { dst := some 86, op := Go.Op.move (Go.Operand.tmp 2), type := 3, pos := "ref.go:37", after := #[], guard := none }) (v := ?_) rfl (by kernel_rfl) (by kernel_rfl) (by kernel_rfl) (fun _ _ _ h => h) (Or.inl ⟨by rfl, ?_⟩) (by assumption) ?_
              rotate_left 1
              · (intro w hSw; (try dsimp only at hSw); go_simp; try with_reducible rfl)
              try simp only [Act.put, List.setIfInBounds_toArray, List.set_cons_zero, List.set_cons_succ]
              refine wpAnyH_take (i := 24) (oi := { dst := some 87, op := Go.Op.indexAddr 39 (Go.Operand.tmp 85) (Go.Operand.tmp 86), type := 0, pos := "ref.go:37", after := #[{ on := 22, ground := Go.Ground.data }, { on := 23, ground := Go.Ground.data }], guard := none }) (v := ?_) rfl (by kernel_rfl) (by kernel_rfl) (by kernel_rfl) (fun _ _ _ h => h) (Or.inl ⟨by rfl, ?_⟩) (by assumption) ?_
              rotate_left 1
              · (intro w hSw; (try dsimp only at hSw); go_simp; try with_reducible rfl)
              try simp only [Act.put, List.setIfInBounds_toArray, List.set_cons_zero, List.set_cons_succ]
              refine wpAnyH_take (i := 25) (oi := { dst := some 88, op := Go.Op.load 22 (Go.Operand.tmp 87), type := 22, pos := "ref.go:37", after := #[{ on := 24, ground := Go.Ground.data }], guard := none }) (v := ?_) rfl (by kernel_rfl) (by kernel_rfl) (by kernel_rfl) (fun _ _ _ h => h) (Or.inl ⟨by rfl, ?_⟩) (by assumption) ?_
              rotate_left 1
              · (intro w hSw; (try dsimp only at hSw); go_simp; try with_reducible rfl)
              try simp only [Act.put, List.setIfInBounds_toArray, List.set_cons_zero, List.set_cons_succ]
              refine wpAnyH_take (i := 26) (oi := { dst := some 89, op := Go.Op.move (Go.Operand.tmp 1), type := 3, pos := "ref.go:37", after := #[], guard := none }) (v := ?_) rfl (by kernel_rfl) (by kernel_rfl) (by kernel_rfl) (fun _ _ _ h => h) (Or.inl ⟨by rfl, ?_⟩) (by assumption) ?_
              rotate_left 1
              · (intro w hSw; (try dsimp only at hSw); go_simp; try with_reducible rfl)
              try simp only [Act.put, List.setIfInBounds_toArray, List.set_cons_zero, List.set_cons_succ]
              refine wpAnyH_take (i := 27) (oi := { dst := some 90, op := Go.Op.binOp Go.BinOp.sub 3 (Go.Operand.tmp 89) (Go.Operand.const (Go.Value.int Go.IntKind.i64 1)) 3, type := 3, pos := "ref.go:37", after := #[{ on := 26, ground := Go.Ground.data }], guard := none }) (v := ?_) rfl (by kernel_rfl) (by kernel_rfl) (by kernel_rfl) (fun _ _ _ h => h) (Or.inl ⟨by rfl, ?_⟩) (by assumption) ?_
              rotate_left 1
              · (intro w hSw; (try dsimp only at hSw); go_simp; try with_reducible rfl)
              try simp only [Act.put, List.setIfInBounds_toArray, List.set_cons_zero, List.set_cons_succ]
              refine wpAnyH_take (i := 28) (oi := { dst := some 91, op := Go.Op.indexAddr 22 (Go.Operand.tmp 88) (Go.Operand.tmp 90), type := 0, pos := "ref.go:37", after := #[{ on := 25, ground := Go.Ground.data }, { on := 27, ground := Go.Ground.data }], guard := none }) (v := ?_) rfl (by kernel_rfl) (by kernel_rfl) (by kernel_rfl) (fun _ _ _ h => h) (Or.inl ⟨by rfl, ?_⟩) (by assumption) ?_
              rotate_left 1
              · (intro w hSw; (try dsimp only at hSw); go_simp; try with_reducible rfl)
              try simp only [Act.put, List.setIfInBounds_toArray, List.set_cons_zero, List.set_cons_succ]
              refine wpAnyH_take (i := 29) (oi := { dst := some 92, op := Go.Op.load 5 (Go.Operand.tmp 91), type := 5, pos := "ref.go:37", after := #[{ on := 28, ground := Go.Ground.data }], guard := none }) (v := ?_) rfl (by kernel_rfl) (by kernel_rfl) (by kernel_rfl) (fun _ _ _ h => h) (Or.inl ⟨by rfl, ?_⟩) (by assumption) ?_
              rotate_left 1
              · (intro w hSw; (try dsimp only at hSw); go_simp; try with_reducible rfl)
              try simp only [Act.put, List.setIfInBounds_toArray, List.set_cons_zero, List.set_cons_succ]
              refine wpAnyH_ready (rs := [30]) (by kernel_rfl) (by simp) ?_
              refine AllReadyH.cons (o := { dst := some 93, op := Go.Op.call { callee := Go.Callee.value (Go.Operand.func 30), args := #[Go.Operand.tmp 84, Go.Operand.tmp 92], argTypes := #[5, 5] }, type := 5, pos := "ref.go:37", after := #[{ on := 21, ground := Go.Ground.data }, { on := 29, ground := Go.Ground.data }], guard := none }) rfl (fun K hK => ?_) AllReadyH.nil
              go_simp
              go_at_call 30
              (refine (MC.out _).mono ?_); rintro e x2 ⟨rfl, ⟨nd, hx2⟩⟩
              replace HBz := Lib.hid (show Below w2.heap.size w2 x2 by rw [hx2]; exact pw_below_drewN HBz.out nd)
              replace HOz := Lib.hid (show (Kd.int .u8).R 5 x2 w2.heap.size (fun _ => True) u16 (line (j * sz + i) (outR d sz a F M)) by rw [hx2]; exact Kd.R_drewN HOz.out nd)
              clear hx2
              clear hHeld
              refine hK.out _ _ ?_ (fun hHeld => ?_)
              · ((try dsimp only); exact KK.out _ HBz.out)
              clear hK K
              refine wpAnyH_take (i := 31) (oi := { dst := some 94, op := Go.Op.binOp Go.BinOp.xor 5 (Go.Operand.tmp 72) (Go.Operand.tmp 93) 5, type := 5, pos := "ref.go:37", after := #[{ on := 9, ground := Go.Ground.data }, { on := 30, ground := Go.Ground.data }], guard := none }) (v := ?_) rfl (by kernel_rfl) (by kernel_rfl) (by kernel_rfl) (fun _ _ _ h => h) (Or.inl ⟨by rfl, ?_⟩) (by assumption) ?_
              rotate_left 1
              · (intro w hSw; (try dsimp only at hSw); go_simp; try with_reducible rfl)
              try simp only [Act.put, List.setIfInBounds_toArray, List.set_cons_zero, List.set_cons_succ]
              refine wpAnyH_ready (rs := [32]) (by kernel_rfl) (by simp) ?_
              refine AllReadyH.cons (o := { dst := some 95, op := Go.Op.buildSlice 22 1 #[(0, Go.Operand.tmp 94)], type := 22, pos := "ref.go:37", after := #[{ on := 31, ground := Go.Ground.data }], guard := none }) rfl (fun K hK => ?_) AllReadyH.nil
              go_simp
              have HL1 := Lib.hid (lit1R w2.heap.size HBz.out.size z)
              replace HBz := Lib.hid (HBz.out.alloc HBz.out.size (.cells #[.int .u8 z] 5))
              replace HOz := Lib.hid (Kd.R_alloc HOz.out (.cells #[.int .u8 z] 5))
              clear hHeld
              refine hK.out _ _ ?_ (fun hHeld => ?_)
              · ((try dsimp only); exact KK.out _ HBz.out)
              clear hK K
              refine wpAnyH_ready (rs := [33]) (by kernel_rfl) (by simp) ?_
              refine AllReadyH.cons (o := { dst := some 96, op := Go.Op.call { callee := Go.Callee.builtin Go.Builtin.append, args := #[Go.Operand.tmp 63, Go.Operand.tmp 95], argTypes := #[22, 22] }, type := 22, pos := "ref.go:37", after := #[{ on := 0, ground := Go.Ground.data }, { on := 32, ground := Go.Ground.data }, { on := 30, ground := Go.Ground.chain }], guard := none }) rfl (fun K hK => ?_) AllReadyH.nil
              refine Kd.R_append_rows_step (Kd.int .u8) (w0 := w2) w2.heap.size (by rfl) (.tmp 63) (.tmp 95) 22 5 (.int .u8 0) 1 rfl Try.underlying22 Rws.info_byte rfl (by decide) (by decide) u16 (line (j * sz + i) (outR d sz a F M)) [z] _ _ _ (fun _ => True) (fun _ => False) rfl rfl HOz.out ((Kd.R_reads' HL1.out).2.2) (fun _ _ h => h) (fun _ h => h.elim) (fun _ _ => trivial) HBz.out HBz.out.size (by rw [line_len]; have := HLL.out; simp; omega) ?_
              intro v7 x7 ho hb _ _
              rw [HLS.out] at ho
              have HO7 := Lib.hid ho
              have HB7 := Lib.hid hb
              clear ho hb
              clear hHeld
              refine hK.out _ _ ?_ (fun hHeld => ?_)
              · ((try dsimp only); exact KK.out _ HB7.out)
              clear hK K
              refine wpAnyH_take (i := 34) (oi := { dst := some 16, op := Go.Op.assign (Go.Operand.tmp 96), type := 22, pos := "ref.go:37", after := #[{ on := 33, ground := Go.Ground.data }, { on := 33, ground := Go.Ground.chain }, { on := 0, ground := Go.Ground.phase }, { on := 1, ground := Go.Ground.phase }, { on := 2, ground := Go.Ground.phase }, { on := 3, ground := Go.Ground.phase }, { on := 4, ground := Go.Ground.phase }, { on := 5, ground := Go.Ground.phase }, { on := 6, ground := Go.Ground.phase }, { on := 7, ground := Go.Ground.phase }, { on := 8, ground := Go.Ground.phase }, { on := 9, ground := Go.Ground.phase }, { on := 10, ground := Go.Ground.phase }, { on := 11, ground := Go.Ground.phase }, { on := 12, ground := Go.Ground.phase }, { on := 13, ground := Go.Ground.phase }, { on := 14, ground := Go.Ground.phase }, { on := 15, ground := Go.Ground.phase }, { on := 16, ground := Go.Ground.phase }, { on := 17, ground := Go.Ground.phase }, { on := 18, ground := Go.Ground.phase }, { on := 19, ground := Go.Ground.phase }, { on := 20, ground := Go.Ground.phase }, { on := 21, ground := Go.Ground.phase }, { on := 22, ground := Go.Ground.phase }, { on := 23, ground := Go.Ground.phase }, { on := 24, ground := Go.Ground.phase }, { on := 25, ground := Go.Ground.phase }, { on := 26, ground := Go.Ground.phase }, { on := 27, ground := Go.Ground.phase }, { on := 28, ground := Go.Ground.phase }, { on := 29, ground := Go.Ground.phase }, { on := 30, ground := Go.Ground.phase }, { on := 31, ground := Go.Ground.phase }, { on := 32, ground := Go.Ground.phase }, { on := 33, ground := Go.Ground.phase }], guard := none }) (v := ?_) rfl (by kernel_rfl) (by kernel_rfl) (by kernel_rfl) (fun _ _ _ h => h) (Or.inl ⟨by rfl, ?_⟩) (by assumption) ?_
              rotate_left 1
              · (intro w hSw; (try dsimp only at hSw); go_simp; try with_reducible rfl)
              try simp only [Act.put, List.setIfInBounds_toArray, List.set_cons_zero, List.set_cons_succ]
              refine wpAnyH_done (by kernel_rfl) ?_ _
              refine NoPanic.normal ?_
              go_wp2
              go_roundw
              case rel => exact ⟨i + 1, _, rfl, by omega, by go_num, HO7, HB7⟩
              case measure => simp [intOf]; omega
            · obtain rfl : sz = i := by omega
              go_wp2
              go_roundw
              case rel => exact ⟨j + 1, _, rfl, by omega, by go_num, Lib.hid (by rw [Nat.add_mul, Nat.one_mul]; exact HO.out), HB⟩
              case measure => simp [intOf]; omega
        · obtain rfl : a = j := by omega
          obtain ⟨A9, c9, rfl⟩ := Kd.R_slice HO.out
          rw [line_len]
          have h := (Kd.R_reads' HO.out).2.2
          rw [line_len] at h
          have HC9 := Lib.hid h
          clear h
          go_wp2
          go_ret
          exact ⟨A9, c9, t, M, rfl, HST.out, by rw [← HFE.out]; exact HC9.out, HBw.out.trans (HB.out.mono HBw.out.size)⟩
end Go.Proofs.Ytcnfafappcbpnaa.Hl
