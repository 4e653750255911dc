/- The program's Value is Horner's. -/
import Derived.Test.YtelgefkfflgbeaaProg
import Derived.Below
import Derived.Deep.Draws
import Derived.Deep.AppendLies
import Derived.Maps.AppendAt
import Derived.OwnWalk
import Derived.Laws.BytesArg
import Derived.Laws.MakeOwn
import Derived.Laws.OwnMore
import Derived.Deep.OwnRows
import Derived.Tactics
import Derived.Lib.ConvBytes
import Derived.Laws.Slices
import Derived.WalkKit
import Derived.KernelRfl
import Derived.RowKit3
import Derived.Deep.LoopGhost
import Derived.Deep.QuietTactic
import Derived.BigQuiet
import Derived.WideLaws
import Derived.Deep.DeepCutAuto
import Derived.Deep.CutBlock
import Derived.Deep.RegionHeld3
import Derived.Laws.Rows
import Derived.Lib.AppendStr
import Derived.ArgAppend
import Derived.Laws.IdiomCopy
import Derived.OrdersHeld
import Derived.Laws.BitsLemmas
import Derived.RowKit
import Derived.Lib.Hide
import Derived.Test.YtelgefkfflgbeaaBVandThroughSol1
import Derived.Test.YtelgefkfflgbeaaBVandThroughGfMul
import Derived.Test.YtelgefkfflgbeaaSol3
import Derived.WalkSpells
import Derived.StillTailTactics
import Derived.Outline
import Derived.Test.YtelgefkfflgbeaaMem
import Derived.Test.YtelgefkfflgbeaaGiMul
import Derived.Test.YtelgefkfflgbeaaBVandThroughGfPowP
import Derived.Test.YtelgefkfflgbeaaBVandThroughSol4
import Derived.Test.YtelgefkfflgbeaaLag
namespace Go.Proofs.Ytelgefkfflgbeaa.Sol
open Go Go.RowKit Go.Proofs.Ytelgefkfflgbeaa.PVandThrough Go.Proofs.Ytelgefkfflgbeaa.BVandThrough Go.Proofs.Ytelgefkfflgbeaa.Gf Go.Proofs.Ytelgefkfflgbeaa.Gi Go.Proofs.Ytelgefkfflgbeaa.Bits Go.Proofs.YtelgefkfflgbeaaW.PrintWords Go.Proofs.YtelgefkfflgbeaaW.PrintLast Go.Proofs.Ytelgefkfflgbeaa.Alg Go.Proofs.Ytelgefkfflgbeaa.Mem Go.Proofs.Ytelgefkfflgbeaa.Rws
set_option linter.unusedVariables false

def horI : List Int → Int → Int
  | [], _ => 0
  | c :: l, x => xorI (gmI (horI l x) x) c
theorem horI_byt {x : Int} : ∀ {l : List Int}, (∀ c ∈ l, Byt c) → Byt (horI l x)
  | [], _ => byt0
  | c :: l, h => xorI_byt (gmI_byt (horI_byt (fun d hd => h d (by simp [hd])))) (h c (by simp))
theorem gmulI (k : Nat) (a b : Int) (ha : Byt a) (hb : Byt b) (hk : 9 ≤ k) : gf_Mul.f k a b = some (gmI a b) := by
  obtain ⟨x, hx, rfl⟩ := byt_nat ha
  obtain ⟨y, hy, rfl⟩ := byt_nat hb
  rw [gf_mul k x y hx hy hk]; simp [gmI]
theorem value_loop (l : List Int) (hl : ∀ c ∈ l, Byt c) (hn : l.length ≤ 1000) (x : Int) (hx : Byt x) (i : Nat) : ∀ k : Nat, i ≤ l.length → 100 + i ≤ k → vand_Value.l0 k l x (horI (l.drop i) x) ((i : Int) - 1) = some (horI l x) := by
  induction i with
  | zero =>
    intro k _ hk
    obtain ⟨k, rfl⟩ : ∃ q, k = q + 1 := ⟨k - 1, by omega⟩
    simp only [vand_Value.l0]
    rw [if_neg (by omega), List.drop_zero]
  | succ i ih =>
    intro k hi hk
    obtain ⟨k, rfl⟩ : ∃ q, k = q + 1 := ⟨k - 1, by omega⟩
    have e : (((i + 1 : Nat) : Int) - 1) = (i : Int) := by omega
    have hb : Byt (horI (l.drop (i + 1)) x) := horI_byt (fun c hc => hl c (List.mem_of_mem_drop hc))
    have hr : rd l (i : Int) = l[i] := by unfold rd; simp [List.getD_eq_getElem?_getD, show i < l.length by omega]
    have hd : l.drop i = l[i] :: l.drop (i + 1) := List.drop_eq_getElem_cons (by omega)
    have hw : wrap64 ((i : Int) - 1) = (i : Int) - 1 := wrap64_in _ (by omega) (by omega)
    simp only [vand_Value.l0]
    rw [e, if_pos (by omega), gmulI k _ _ hb hx (by omega), Option.bind_some, if_pos (by omega), if_pos (by omega)]
    unfold gf_Add.f
    rw [Option.bind_some, hr, hw, xor_bits (gmI_byt hb) (hl _ (List.getElem_mem _))]
    have := ih k (by omega) (by omega)
    rw [hd] at this
    exact this
theorem value_f (l : List Int) (hl : ∀ c ∈ l, Byt c) (hn : l.length ≤ 1000) (x : Int) (hx : Byt x) : vand_Value.f 2000 l x = some (horI l x) := by
  unfold vand_Value.f
  have h := value_loop l hl hn x hx l.length 2000 (Nat.le_refl _) (by omega)
  rw [List.drop_length] at h
  rw [wrap64_in _ (by omega) (by omega)]
  exact h

theorem of_horI {x : Int} (hx : Byt x) : ∀ {l : List Int}, (∀ c ∈ l, Byt c) → G.of (horI l x) = hor (l.map G.of) (G.of x)
  | [], _ => rfl
  | c :: l, h => by
    have hl : ∀ d ∈ l, Byt d := fun d hd => h d (by simp [hd])
    have hb := horI_byt (x := x) hl
    show G.of (xorI (gmI (horI l x) x) c) = G.of c + G.of x * hor (l.map G.of) (G.of x)
    rw [of_xor (gmI_byt hb) (h c (by simp)), of_gm hb hx, of_horI hx hl, Fd.add_comm, Fd.mul_comm]

theorem div_f (a b : Int) (ha : Byt a) (hb : Byt b) (h0 : b ≠ 0) : ∃ r, Byt r ∧ gmI b r = 1 ∧ gf_Div.f 2000 a b = some (gmI a r, 0) := by
  obtain ⟨x, hx, rfl⟩ := byt_nat ha
  obtain ⟨y, hy, rfl⟩ := byt_nat hb
  have hp := gp_lt y hy 254
  have hi := gm_inv y hy (by omega)
  rw [ginv_gp y hy] at hi
  refine ⟨((gp y 254 : Nat) : Int), ⟨by omega, by omega⟩, by simp only [gmI, Int.toNat_natCast, hi]; rfl, ?_⟩
  unfold gf_Div.f gf_Inv.f
  have h2 := gf_pow 2000 y 254 hy (by omega) (by omega)
  have e254 : ((254 : Nat) : Int) = 254 := rfl
  rw [e254] at h2
  rw [if_neg h0, h2]
  simp only [bnd]
  rw [if_pos trivial, gf_mul 2000 x _ hx hp (by omega)]
  simp only [bnd]
  simp [gmI]
theorem div_no (a : Int) : gf_Div.f 2000 a 0 = some (0, 1) := by
  unfold gf_Div.f gf_Inv.f
  rw [if_pos rfl]
  simp only [bnd]
  rw [if_neg (by decide)]
theorem xorI_zero {a : Int} (ha : Byt a) : xorI a 0 = a := by
  obtain ⟨x, hx, rfl⟩ := byt_nat ha
  simp [xorI]
theorem zero_xorI {a : Int} (ha : Byt a) : xorI 0 a = a := by
  obtain ⟨x, hx, rfl⟩ := byt_nat ha
  simp [xorI]
/-- A polynomial times (z + x), the first i of its coefficients taken in. -/
def tmx (f : Nat → Int) (x : Int) (i : Nat) : Nat → Int := fun j => xorI (if 0 < j ∧ j ≤ i then f (j - 1) else 0) (if j < i then gmI (f j) x else 0)
theorem tmx_byt {f : Nat → Int} {x : Int} (hf : ∀ j, Byt (f j)) (hx : Byt x) (i : Nat) : ∀ j, Byt (tmx f x i j) := by
  intro j
  unfold tmx
  refine xorI_byt ?_ ?_
  · split
    · exact hf _
    · exact byt0
  · split
    · exact gmI_byt (hf _)
    · exact byt0
theorem tmx_zero (f : Nat → Int) (x : Int) (j : Nat) : tmx f x 0 j = 0 := by
  unfold tmx
  rw [if_neg (by omega), if_neg (by omega)]; rfl
theorem tmx_next (f : Nat → Int) (x : Int) (i : Nat) : tmx f x i (i + 1) = 0 := by
  unfold tmx
  rw [if_neg (by omega), if_neg (by omega)]; rfl
/-- Behind the first of two stores. -/
def tmy (f : Nat → Int) (x : Int) (i : Nat) : Nat → Int := fun j => if j = i then xorI (tmx f x i i) (gmI (f i) x) else tmx f x i j
theorem tmy_set (f : Nat → Int) (x : Int) (m i : Nat) (hi : i < m) : (line (m + 1) (tmx f x i)).set i (xorI (tmx f x i i) (gmI (f i) x)) = line (m + 1) (tmy f x i) := line_set _ _ i (by omega) _
theorem tmy_next (f : Nat → Int) (x : Int) (i : Nat) : tmy f x i (i + 1) = 0 := by
  unfold tmy
  rw [if_neg (by omega), tmx_next]
theorem tmx_set {f : Nat → Int} {x : Int} (hf : ∀ j, Byt (f j)) (m i : Nat) (hi : i < m) : (line (m + 1) (tmy f x i)).set (i + 1) (xorI 0 (f i)) = line (m + 1) (tmx f x (i + 1)) := by
  rw [line_set _ _ (i + 1) (by omega)]
  refine line_congr _ _ _ (fun j hj => ?_)
  by_cases e : j = i + 1
  · subst e
    rw [if_pos rfl]
    unfold tmx
    rw [if_pos (by omega), if_neg (by omega), xorI_zero (hf _), zero_xorI (hf _)]; rfl
  · rw [if_neg e]
    unfold tmy
    by_cases e1 : j = i
    · subst e1
      rw [if_pos rfl]
      unfold tmx
      rw [if_neg (show ¬ j < j by omega), if_pos (show j < j + 1 by omega)]
      by_cases e2 : 0 < j
      · rw [if_pos ⟨e2, by omega⟩, if_pos ⟨e2, by omega⟩, xorI_zero (hf _)]
      · rw [if_neg (by omega), if_neg (by omega)]; rfl
    · rw [if_neg e1]
      unfold tmx
      by_cases e2 : j < i
      · rw [if_pos e2, if_pos (show j < i + 1 by omega)]
        by_cases e3 : 0 < j
        · rw [if_pos ⟨e3, by omega⟩, if_pos ⟨e3, by omega⟩]
        · rw [if_neg (by omega), if_neg (by omega)]
      · rw [if_neg e2, if_neg (show ¬ j < i + 1 by omega), if_neg (by omega), if_neg (by omega)]
set_option maxRecDepth 100000 in
set_option maxHeartbeats 4000000 in
theorem vtimes_any (m c0 : Nat) (A0 : Option Addr) (f : Nat → Int) (x : Int) (w : World) (hC : (Kd.int .u8).C w A0 m (line m f)) (hf : ∀ j, Byt (f j)) (hx : Byt x) (hm : m ≤ 1000) :
    Calls Try.prog 31 #[.slice A0 m c0, .int .u8 x] w fun e w' => ∃ A c, e = .returned (.slice A (m + 1) c) ∧ Kd.R (Kd.int .u8) 5 w' w.heap.size (fun _ => True) (.slice A (m + 1) c) (line (m + 1) (tmx f x m)) ∧ Below w.heap.size w w' := by
  have HS := Lib.hid (fun W (hB : Below w.heap.size w W) => Kd.C_below hC hB)
  have HF := Lib.hid hf
  have HX := Lib.hid hx
  have HB0 := Lib.hid (Below.refl w.heap.size w)
  clear hC hf hx
  go_enter Try.func31, Try.ntmps31
  go_upto_region 3 with (at_make; refine Kd.R_make (Kd.int .u8) w.heap.size 5 rfl (N := 11) rfl 22 _ _ rfl ((m : Int) + 1) rfl rfl Try.underlying22 (.int .u8 0) 1 info_byte rfl (by decide) (by decide) 0 (ok := fun _ => True) (okp := fun _ => True) rfl (fun _ hk => hk) trivial (by omega) (by omega) (Below.refl _ _) (Nat.le_refl _) ?_; intro v3 w3 h3 hb3 hg3 hf3; rw [show ((m : Int) + 1).toNat = m + 1 by omega] at h3; obtain ⟨g, c3, hv3, hgb, _, _, _⟩ := Kd.R_form h3 (by rw [List.length_replicate]; omega); rw [List.length_replicate] at hv3; subst hv3; have HO := Lib.hid h3; have HB3 := Lib.hid hb3; have HGB := Lib.hid hgb; clear h3 hb3 hg3 hf3 hgb)
  have HO5 := Lib.hid (show Kd.R (Kd.int .u8) 5 w3 w.heap.size (fun _ => True) (.slice (some ⟨g, 0, none⟩) (m + 1) c3) (line (m + 1) (tmx f x 0)) by
    have h := HO.out
    rw [← line_zero] at h
    rw [line_congr (m + 1) (tmx f x 0) (fun _ => 0) (fun j _ => tmx_zero f x j)]
    exact h)
  clear HO
  go_loopw [14, 6, 7] (fun iv _ _ wr => ∃ (i : Nat), i ≤ m ∧ iv = .int .i64 i ∧ Hid (Kd.R (Kd.int .u8) 5 wr w.heap.size (fun _ => True) (.slice (some ⟨g, 0, none⟩) (m + 1) c3) (line (m + 1) (tmx f x i))) ∧ Hid (Below w.heap.size w wr)) (fun iv _ _ _ => m - (intOf iv).toNat)
  case atStart => exact ⟨0, by omega, rfl, HO5, HB3⟩
  case round =>
    clear HO5 HB3
    obtain ⟨i, hi, rfl, HO, HB⟩ := hrel
    by_cases hlt : i < m
    · obtain ⟨ad0, hA0, hcell⟩ := at_row (HS.out _ HB.out) i hlt
      rw [line_get m f i hlt] at hcell
      subst hA0
      obtain ⟨t1, t2⟩ := Kd.R_celln (0 : Int) HO.out (i : Int) (by omega) (by omega)
      have t3 : rdOf (0 : Int) (line (m + 1) (tmx f x i)) (i : Int) = tmx f x i i := by
        rw [← line_get (m + 1) (tmx f x i) i (by omega)]; simp [rdOf]
      rw [t3] at t1
      have hpn := fun q => Kd.R_putn (Kd.R_drewN HO.out q) (i : Int) (xorI (tmx f x i i) (gmI (f i) x))
      simp only [Int.toNat_natCast] at t1 t2 hpn
      rw [tmy_set f x m i hlt] at hpn
      have HSET := Lib.hid (tmx_set (x := x) HF.out m i hlt)
      have hyb := tmx_byt HF.out HX.out i i
      have hzb := HF.out i
      obtain ⟨y, hy⟩ : ∃ y, y = tmx f x i i := ⟨_, rfl⟩
      obtain ⟨z, hz⟩ : ∃ z, z = f i := ⟨_, rfl⟩
      rw [← hy] at t1 hyb
      rw [← hz] at hcell hzb
      rw [← hy, ← hz] at hpn
      have HYB := Lib.hid hyb
      have HZB := Lib.hid hzb
      have HPN := Lib.hid hpn
      have HBn := Lib.hid (fun q => (pw_below_drewN HB.out q).setCell (p := ⟨g, i, none⟩) HGB.out (.int .u8 (xorI y (gmI z x))))
      have g0 : (0 : Int) ≤ (i : Int) := by omega
      have g1 : (i : Int) < (m : Int) := by omega
      have g2 : (i : Int) < (m : Int) + 1 := by omega
      have HZZ := Lib.hid hz
      clear hy hz hyb hzb t3 hpn
      go_wp2
      refine wp_region_still_tail 11 (by kernel_rfl) (by kernel_rfl) ?_
      change wpStill _ _ (wr.drewN 1) (fun a' => wpList _ _ _ _ a' (wr.drewN 1)) _ _
      simp only [List.take_succ_cons, List.take_zero, List.drop_succ_cons, List.drop_zero]
      iterate 8 still_step
      still_call (mul_still z x (wr.drewN 1) HZB.out HX.out)
      still_call (add_still y (gmI z x) (wr.drewN 1) HYB.out (gmI_byt HZB.out))
      still_step
      refine wpStill_nil ?_
      go_upto_region 6 with (fail)
      obtain ⟨W6, hW6⟩ : ∃ W6, W6 = (wr.drewN 1).setCell ⟨g, i, none⟩ (.int .u8 (xorI y (gmI z x))) := ⟨_, rfl⟩
      rw [← hW6]
      have HO6 := Lib.hid (show Kd.R (Kd.int .u8) 5 W6 w.heap.size (fun _ => True) (.slice (some ⟨g, 0, none⟩) (m + 1) c3) (line (m + 1) (tmy f x i)) by rw [hW6]; exact HPN.out 1)
      have HB6 := Lib.hid (show Below w.heap.size w W6 by rw [hW6]; exact HBn.out 1)
      clear hW6 t1 t2 HPN HBn hcell HO HB
      obtain ⟨t1, t2⟩ := Kd.R_celln (0 : Int) HO6.out ((i + 1 : Nat) : Int) (by omega) (by omega)
      have t3 : rdOf (0 : Int) (line (m + 1) (tmy f x i)) ((i + 1 : Nat) : Int) = 0 := by
        have h : rdOf (0 : Int) (line (m + 1) (tmy f x i)) ((i + 1 : Nat) : Int) = (line (m + 1) (tmy f x i)).getD (i + 1) 0 := by simp [rdOf]
        rw [h, line_get (m + 1) (tmy f x i) (i + 1) (by omega), tmy_next]
      rw [t3] at t1
      have hpn := Kd.R_putn HO6.out ((i + 1 : Nat) : Int) (xorI 0 z)
      simp only [Int.toNat_natCast] at t1 t2 hpn
      rw [HZZ.out, HSET.out, ← HZZ.out] at hpn
      have HPN := Lib.hid hpn
      have HBn := Lib.hid (HB6.out.setCell (p := ⟨g, i + 1, none⟩) HGB.out (.int .u8 (xorI 0 z)))
      have e9 : ((i : Int) + 1).toNat = i + 1 := by omega
      have g3 : IntKind.i64.wrap ((i : Int) + 1) = (i : Int) + 1 := IntWalk.i64_in _ (by omega)
      have g4 : (0 : Int) ≤ (i : Int) + 1 := by omega
      have g5 : (i : Int) + 1 < (m : Int) + 1 := by omega
      clear hpn t3
      go_wp2_with (go_at_call 26; (with_reducible refine (add_still 0 z _ byt0 HZB.out).mono ?_); rintro e w' ⟨rfl, rfl⟩)
      go_roundw
      case rel => exact ⟨i + 1, by omega, by go_num, HPN, HBn⟩
      case measure => simp [intOf]; omega
    · obtain rfl : i = m := by omega
      go_wp2
      go_ret
      exact ⟨_, _, rfl, HO.out, HB.out⟩

/-- A row's cells. -/
def RowAt (w : World) (ad : Addr) (n : Nat) (xs : List Int) : Prop := ∀ j, j < n → w.cell? (ad.add j) = some (.int .u8 (xs.getD j 0))
theorem RowAt.of {w : World} {A : Option Addr} {n : Nat} {xs : List Int} (h : (Kd.int .u8).C w A n xs) (hn : 0 < n) : ∃ ad, A = some ad ∧ RowAt w ad n xs := by
  obtain ⟨ad, e, _⟩ := at_row h 0 hn
  refine ⟨ad, e, fun j hj => ?_⟩
  obtain ⟨ad', e', hc⟩ := at_row h j hj
  rw [e] at e'
  injection e' with e'
  subst e'
  exact hc
theorem RowAt.far {w : World} {ad : Addr} {n : Nat} {xs : List Int} (h : RowAt w ad n xs) {p : Addr} (hp : ad.block ≠ p.block) (u : Value) : RowAt (w.setCell p u) ad n xs :=
  fun j hj => (World.cell?_setCell_other w p (ad.add j) u (fun e => hp (by rw [e, block_of_add]))).trans (h j hj)
theorem RowAt.drewN {w : World} {ad : Addr} {n : Nat} {xs : List Int} (h : RowAt w ad n xs) (q : Nat) : RowAt (w.drewN q) ad n xs := h
/-- The first k terms taken in. -/
def lagm (o b : Nat → Int) (s : Int) (k : Nat) : Nat → Int := fun j => if j < k then xorI (o j) (gmI (b j) s) else o j
theorem lagm_zero (n : Nat) (o b : Nat → Int) (s : Int) : line n (lagm o b s 0) = line n o := line_congr n _ _ (fun j _ => by unfold lagm; rw [if_neg (Nat.not_lt_zero j)])
theorem lagm_full (n : Nat) (o b : Nat → Int) (s : Int) : line n (lagm o b s n) = line n (fun j => xorI (o j) (gmI (b j) s)) := line_congr n _ _ (fun j hj => by unfold lagm; rw [if_pos hj])
theorem lagm_set (n : Nat) (o b : Nat → Int) (s : Int) (k : Nat) (hk : k < n) : (line n (lagm o b s k)).set k (xorI (o k) (gmI (b k) s)) = line n (lagm o b s (k + 1)) := by
  rw [line_set n _ k hk]
  refine line_congr n _ _ (fun j hj => ?_)
  unfold lagm
  by_cases e : j = k
  · subst e; rw [if_pos rfl, if_pos (by omega)]
  · rw [if_neg e]
    by_cases h : j < k
    · rw [if_pos h, if_pos (by omega)]
    · rw [if_neg h, if_neg (by omega)]
/-- Two of the points are alike. -/
def Dupl (n : Nat) (x : Nat → Int) : Prop := ∃ i k, i < n ∧ k < n ∧ k ≠ i ∧ x i = x k
/-- What Through tells. -/
def Thr (n : Nat) (x v : Nat → Int) (w : World) (e : Ending) (w' : World) : Prop :=
  Below w.heap.size w w' ∧ ((e = .returned (.tuple #[.slice none 0 0, .int .i64 1]) ∧ Dupl n x) ∨
    (¬ Dupl n x ∧ ∃ A c p, e = .returned (.tuple #[.slice A n c, .int .i64 0]) ∧ (∀ j, Byt (p j)) ∧ (Kd.int .u8).R 5 w' w.heap.size (fun _ => True) (.slice A n c) (line n p) ∧ ∀ j, j < n → ev n p (x j) = G.of (v j)))
theorem add_quiet (a b : Int) (ha : Byt a) (hb : Byt b) (W : World) : Calls Try.prog 26 #[.int .u8 a, .int .u8 b] W fun e w' => e = .returned (.int .u8 (xorI a b)) ∧ ∃ n, w' = W.drewN n := by
  refine (add_still a b W ha hb).mono ?_
  rintro e w' ⟨rfl, rfl⟩
  exact ⟨rfl, 0, rfl⟩
set_option maxRecDepth 100000 in
set_option maxHeartbeats 8000000 in
theorem through_any (n c0 c1 : Nat) (A0 A1 : Option Addr) (x v : Nat → Int) (w : World) (hC0 : (Kd.int .u8).C w A0 n (line n x)) (hC1 : (Kd.int .u8).C w A1 n (line n v)) (hx : ∀ j, Byt (x j)) (hv : ∀ j, Byt (v j)) (h1 : 1 ≤ n) (h64 : n ≤ 64) :
    Calls Try.prog 12 #[.slice A0 n c0, .slice A1 n c1] w (Thr n x v w) := by
  obtain ⟨ad0, rfl, _⟩ := at_row hC0 0 (by omega)
  obtain ⟨ad1, rfl, _⟩ := at_row hC1 0 (by omega)
  have HX := Lib.hid (fun W (hB : Below w.heap.size w W) j (hj : j < n) => show W.cell? (ad0.add j) = some (.int .u8 (x j)) by
    obtain ⟨a, e, h⟩ := at_row (Kd.C_below hC0 hB) j hj
    injection e with e
    rw [line_get n x j hj, ← e] at h
    exact h)
  have HV := Lib.hid (fun W (hB : Below w.heap.size w W) j (hj : j < n) => show W.cell? (ad1.add j) = some (.int .u8 (v j)) by
    obtain ⟨a, e, h⟩ := at_row (Kd.C_below hC1 hB) j hj
    injection e with e
    rw [line_get n v j hj, ← e] at h
    exact h)
  have HXB := Lib.hid hx
  have HVB := Lib.hid hv
  have t1 : ¬ (n : Int) < 1 := by omega
  have t2 : ((n : Int) != (n : Int)) = false := by simp
  have t3 : ¬ (64 : Int) < (n : Int) := by omega
  clear hC0 hC1 hx hv
  go_enter Try.func12, Try.ntmps12
  go_upto_region 6 with (at_make; refine Kd.R_make (Kd.int .u8) w.heap.size 5 rfl (N := 31) rfl 22 _ _ rfl (n : Int) rfl rfl Try.underlying22 (.int .u8 0) 1 info_byte rfl (by decide) (by decide) 0 (ok := fun _ => True) (okp := fun _ => True) rfl (fun _ hk => hk) trivial (by omega) (by omega) (Below.refl _ _) (Nat.le_refl _) ?_; intro v3 w3 h3 hb3 hg3 hf3; rw [Int.toNat_natCast] at h3; obtain ⟨g, c3, hv3, hgb, _, _, _⟩ := Kd.R_form h3 (by rw [List.length_replicate]; omega); rw [List.length_replicate] at hv3; subst hv3; have HO := Lib.hid h3; have HB3 := Lib.hid hb3; have HGB := Lib.hid hgb; clear h3 hb3 hg3 hf3 hgb)
  have HGL := Lib.hid (Kd.R_lt HO.out g rfl)
  have HO5 := Lib.hid (show Kd.R (Kd.int .u8) 5 w3 w.heap.size (fun _ => True) (.slice (some ⟨g, 0, none⟩) n c3) (line n (fun _ => 0)) by
    have h := HO.out
    rw [← line_zero] at h
    exact h)
  clear HO
  go_loopw [33, 8, 9, 10, 11, 12, 13, 14, 15] (fun iv _ _ _ _ _ _ _ _ wr => ∃ (i : Nat) (o : Nat → Int), i ≤ n ∧ iv = .int .i64 i ∧ Hid (LagO n x v i o) ∧ Hid (∀ a k, a < i → k < n → k ≠ a → x a ≠ x k) ∧ Hid (w3.heap.size ≤ wr.heap.size) ∧ Hid (Kd.R (Kd.int .u8) 5 wr w.heap.size (fun _ => True) (.slice (some ⟨g, 0, none⟩) n c3) (line n o)) ∧ Hid (Below w.heap.size w wr)) (fun iv _ _ _ _ _ _ _ _ _ => n - (intOf iv).toNat)
  case atStart => exact ⟨0, fun _ => 0, by omega, rfl, Lib.hid (lagO_start n x v), Lib.hid (fun a k ha => absurd ha (Nat.not_lt_zero a)), Lib.hid (Nat.le_refl _), HO5, HB3⟩
  case round =>
    clear HO5 HB3
    obtain ⟨i, o, hi, rfl, HL, HD, HSZ, HO, HB⟩ := hrel
    by_cases hlt : i < n
    · have hcv := HV.out _ HB.out i hlt
      have g0 : (0 : Int) ≤ (i : Int) := by omega
      have g1 : (i : Int) < (n : Int) := by omega
      have hcv' := pw_cell_below ((Below.refl wr.heap.size wr).alloc (Nat.le_refl _) (.cells #[.int .u8 1] 5)) hcv
      go_upto_region 11 with (fail)
      clear hcv hcv'
      obtain ⟨W0, hW0⟩ : ∃ W0, W0 = wr.alloc (.cells #[.int .u8 1] 5) := ⟨_, rfl⟩
      have HBa := Lib.hid (show Below wr.heap.size wr W0 by rw [hW0]; exact (Below.refl _ _).alloc (Nat.le_refl _) _)
      have HO0 := Lib.hid (Kd.R_below HO.out HBa.out)
      have HB0 := Lib.hid (HB.out.trans (HBa.out.mono HB.out.size))
      have HQ0 := Lib.hid (show Kd.R (Kd.int .u8) 5 W0 w3.heap.size (fun _ => True) (.slice (some ⟨wr.heap.size, 0, none⟩) 1 1) (line 1 (fun _ => 1)) by
        rw [hW0]
        exact Kd.R_of_own (own_lit wr w3.heap.size 5 .u8 [1] HSZ.out (by simp)) (fun _ _ => trivial))
      have HS0 := Lib.hid (show w3.heap.size ≤ W0.heap.size from Nat.le_trans HSZ.out HBa.out.size)
      have HL0 := Lib.hid (lagB_start n x v i (HVB.out i))
      rw [← hW0]
      clear hW0 HBa HO HB HSZ
      go_loopw [42, 9, 10, 11, 12, 13] (fun kv bv sv _ _ _ wr => ∃ (k len : Nat) (b : Nat → Int) (s : Int) (A : Option Addr) (c : Nat), k ≤ n ∧ kv = .int .i64 k ∧ bv = .slice A len c ∧ sv = .int .u8 s ∧ Hid (LagB n x v i k len b s) ∧ Hid (∀ j, j < k → j ≠ i → x i ≠ x j) ∧ Hid (w3.heap.size ≤ wr.heap.size) ∧ Hid (Kd.R (Kd.int .u8) 5 wr w3.heap.size (fun _ => True) (.slice A len c) (line len b)) ∧ Hid (Kd.R (Kd.int .u8) 5 wr w.heap.size (fun _ => True) (.slice (some ⟨g, 0, none⟩) n c3) (line n o)) ∧ Hid (Below w.heap.size w wr)) (fun kv _ _ _ _ _ _ => n - (intOf kv).toNat)
      case atStart => exact ⟨0, 1, fun _ => 1, v i, _, _, by omega, rfl, rfl, rfl, HL0, Lib.hid (fun j hj => absurd hj (Nat.not_lt_zero j)), HS0, HQ0, HO0, HB0⟩
      case round =>
        clear HL0 HS0 HQ0 HO0 HB0
        obtain ⟨k, len, b, s, A, c, hk, rfl, rfl, rfl, HLB, HDK, HSZ, HQ, HO, HB⟩ := hrel
        by_cases hkn : k < n
        · by_cases hki : k = i
          · have tt : ((k : Int) == (i : Int)) = true := by simp; omega
            have HKI := Lib.hid hki
            clear hki
            go_wp2
            go_roundw
            case rel => exact ⟨k + 1, len, b, s, A, c, by omega, by go_num, rfl, rfl, Lib.hid (by have h := HLB.out; rw [HKI.out] at h ⊢; exact lagB_skip h), Lib.hid (fun j hj hne => HDK.out j (by have := HKI.out; omega) hne), HSZ, HQ, HO, HB⟩
            case measure => simp [intOf]; omega
          · have tt : ((k : Int) == (i : Int)) = false := by simp; omega
            have hci := HX.out _ HB.out i hlt
            have hck := HX.out _ HB.out k hkn
            have g2 : (0 : Int) ≤ (k : Int) := by omega
            have g3 : (k : Int) < (n : Int) := by omega
            have HKI := Lib.hid hki
            have hbi := HXB.out i
            have hbk := HXB.out k
            have hsb := HLB.out.2.1
            by_cases hxx : x i = x k
            · have hy := xor_same (x k)
              have hdv := div_no s
              rw [hxx] at hci
              have HXX := Lib.hid hxx
              obtain ⟨xk, hxk⟩ : ∃ xk, xk = x k := ⟨_, rfl⟩
              rw [← hxk] at hci hck hbk hy
              have AD := Lib.hid (fun W => add_quiet xk xk hbk hbk W)
              rw [hy] at AD
              have DV := Lib.hid (fun W => gf_Div.calls 2000 s 0 0 1 W hdv)
              clear hki hxx hxk hy hdv hbi hbk hsb
              go_wp2
              go_quiet ((first | (go_at_call 26; (with_reducible refine (AD.out _).mono ?_); rintro e w' ⟨rfl, ⟨nd, rfl⟩⟩; (first | exact ⟨rfl, _, World.drewN_drewN _ _ _⟩ | exact ⟨rfl, _, Eq.trans (World.drewN_drewN _ _ _) (congrArg (World.drewN _) (Nat.add_assoc _ _ _))⟩ | exact ⟨rfl, _, rfl⟩)) | (go_at_call 30; (with_reducible refine (DV.out _).mono ?_); rintro e w' ⟨rfl, ⟨nd, rfl⟩⟩; (first | exact ⟨rfl, _, World.drewN_drewN _ _ _⟩ | exact ⟨rfl, _, Eq.trans (World.drewN_drewN _ _ _) (congrArg (World.drewN _) (Nat.add_assoc _ _ _))⟩ | exact ⟨rfl, _, rfl⟩))))
              go_wp2
              refine bodyPost_ret (v := .tuple #[.slice none 0 0, .int .i64 1]) (by simp [results, Try.results12, go_sem]) rfl ?_
              exact ⟨pw_below_drewN HB.out _, .inl ⟨rfl, i, k, hlt, hkn, HKI.out, HXX.out⟩⟩
            · obtain ⟨r, hr, hr1, hdv⟩ := div_f s (xorI (x i) (x k)) hsb (xorI_byt hbi hbk) (xor_ne hbi hbk hxx)
              have HXX := Lib.hid hxx
              have HR := Lib.hid hr
              have HR1 := Lib.hid hr1
              have hlen : len ≤ 1000 := by have := HLB.out.2.2.1; split at this <;> omega
              have TM := Lib.hid (fun q => vtimes_any len c A b (x k) (wr.drewN q) (by have h := (Kd.R_reads' (Kd.R_drewN HQ.out q)).2.2; rw [line_len] at h; exact h) HLB.out.1 hbk hlen)
              have HTB := Lib.hid (tmx_byt (f := b) (x := x k) HLB.out.1 hbk len)
              have AD := Lib.hid (fun W => add_quiet (x i) (x k) hbi hbk W)
              have DV := Lib.hid (fun W => gf_Div.calls 2000 s (xorI (x i) (x k)) (gmI s r) 0 W hdv)
              obtain ⟨tl, htl⟩ : ∃ tl, tl = line (len + 1) (tmx b (x k) len) := ⟨_, rfl⟩
              rw [← htl] at TM
              have HTL := Lib.hid htl
              obtain ⟨y, hy⟩ : ∃ y, y = xorI (x i) (x k) := ⟨_, rfl⟩
              rw [← hy] at AD DV
              obtain ⟨sr, hsr⟩ : ∃ sr, sr = gmI s r := ⟨_, rfl⟩
              rw [← hsr] at DV
              have HSR := Lib.hid hsr
              obtain ⟨xk, hxk⟩ : ∃ xk, xk = x k := ⟨_, rfl⟩
              obtain ⟨xi, hxi⟩ : ∃ xi, xi = x i := ⟨_, rfl⟩
              rw [← hxk] at hck AD TM
              rw [← hxi] at hci AD
              clear hki hxx hxk hxi hy hdv hbi hbk hsb hr hr1 hlen htl hsr
              go_wp2
              go_quiet ((first | (go_at_call 26; (with_reducible refine (AD.out _).mono ?_); rintro e w' ⟨rfl, ⟨nd, rfl⟩⟩; (first | exact ⟨rfl, _, World.drewN_drewN _ _ _⟩ | exact ⟨rfl, _, Eq.trans (World.drewN_drewN _ _ _) (congrArg (World.drewN _) (Nat.add_assoc _ _ _))⟩ | exact ⟨rfl, _, rfl⟩)) | (go_at_call 30; (with_reducible refine (DV.out _).mono ?_); rintro e w' ⟨rfl, ⟨nd, rfl⟩⟩; (first | exact ⟨rfl, _, World.drewN_drewN _ _ _⟩ | exact ⟨rfl, _, Eq.trans (World.drewN_drewN _ _ _) (congrArg (World.drewN _) (Nat.add_assoc _ _ _))⟩ | exact ⟨rfl, _, rfl⟩))))
              go_wp2_with (go_at_call 31; (with_reducible refine (TM.out _).mono ?_); rintro e w5 ⟨A5, c5, rfl, h5, hb5⟩; have H5 := Lib.hid h5; have HB5 := Lib.hid hb5; clear h5 hb5)
              go_roundw
              case rel =>
                refine ⟨k + 1, len + 1, tmx b (x k) len, sr, A5, c5, by omega, by go_num, rfl, rfl, Lib.hid ?_, Lib.hid (fun j hj hne => ?_), Lib.hid (Nat.le_trans HSZ.out HB5.out.size), Lib.hid ?_, Lib.hid (Kd.R_below (Kd.R_drewN HO.out _) HB5.out), Lib.hid ((pw_below_drewN HB.out _).trans (HB5.out.mono (pw_below_drewN HB.out _).size))⟩
                · rw [HSR.out]
                  exact lagB_step HLB.out HKI.out HXB.out HR.out HR1.out HTB.out (fun j => rfl)
                · by_cases e : j = k
                  · rw [e]; exact HXX.out
                  · exact HDK.out j (by omega) hne
                · have h := Kd.R_lower H5.out HSZ.out
                  rw [HTL.out] at h
                  exact h
              case measure => simp [intOf]; omega
        · obtain rfl : k = n := by omega
          have hln : len = k := by have := HLB.out.2.2.1; rw [if_neg (by omega)] at this; exact this
          subst hln
          obtain ⟨gb, cb, hvb, hgb, _, _, _⟩ := Kd.R_form HQ.out (by rw [line_len]; omega)
          rw [line_len] at hvb
          injection hvb with ea _ ec
          subst ea ec
          have HNE := Lib.hid (show gb ≠ g from by have h1 := HGL.out; omega)
          obtain ⟨adb, eb, hrow⟩ := RowAt.of (n := len) (by have h := (Kd.R_reads' HQ.out).2.2; rw [line_len] at h; exact h) (by omega)
          injection eb with eb
          subst eb
          have HROW := Lib.hid hrow
          have HO1 := Lib.hid (show Kd.R (Kd.int .u8) 5 wr w.heap.size (fun _ => True) (.slice (some ⟨g, 0, none⟩) len c3) (line len (lagm o b s 0)) by rw [lagm_zero]; exact HO.out)
          clear hgb hrow HQ HO
          go_upto_region 21 with (fail)
          go_loopw [74, 14, 15] (fun qv _ _ wr => ∃ (q : Nat), q ≤ len ∧ qv = .int .i64 q ∧ Hid (w3.heap.size ≤ wr.heap.size) ∧ Hid (Kd.R (Kd.int .u8) 5 wr w.heap.size (fun _ => True) (.slice (some ⟨g, 0, none⟩) len c3) (line len (lagm o b s q))) ∧ Hid (RowAt wr ⟨gb, 0, none⟩ len (line len b)) ∧ Hid (Below w.heap.size w wr)) (fun qv _ _ _ => len - (intOf qv).toNat)
          case atStart => exact ⟨0, by omega, rfl, HSZ, HO1, HROW, HB⟩
          case round =>
            clear HSZ HO1 HROW HB
            obtain ⟨q, hq, rfl, HSZ, HO, HROW, HB⟩ := hrel
            by_cases hqn : q < len
            · have hcell := HROW.out q hqn
              rw [line_get len b q hqn, addk gb q] at hcell
              obtain ⟨t1', t2'⟩ := Kd.R_celln (0 : Int) HO.out (q : Int) (by omega) (by omega)
              have t3' : rdOf (0 : Int) (line len (lagm o b s q)) (q : Int) = o q := by
                have h := line_get len (lagm o b s q) q hqn
                rw [show lagm o b s q q = o q from by unfold lagm; rw [if_neg (Nat.lt_irrefl q)]] at h
                rw [← h]; simp [rdOf]
              rw [t3'] at t1'
              have hpn := fun p => Kd.R_putn (Kd.R_drewN HO.out p) (q : Int) (xorI (o q) (gmI (b q) s))
              simp only [Int.toNat_natCast] at t1' t2' hpn
              rw [lagm_set len o b s q hqn] at hpn
              have hyb := HL.out.1 q
              have hzb := HLB.out.1 q
              have hsb := HLB.out.2.1
              obtain ⟨y, hy⟩ : ∃ y, y = o q := ⟨_, rfl⟩
              obtain ⟨z, hz⟩ : ∃ z, z = b q := ⟨_, rfl⟩
              rw [← hy] at t1' hyb
              rw [← hz] at hcell hzb
              rw [← hy, ← hz] at hpn
              have HYB := Lib.hid hyb
              have HZB := Lib.hid hzb
              have HSB := Lib.hid hsb
              have HPN := Lib.hid hpn
              have HBn := Lib.hid (fun p => (pw_below_drewN HB.out p).setCell (p := ⟨g, q, none⟩) HGB.out (.int .u8 (xorI y (gmI z s))))
              have HRn := Lib.hid (fun p => (HROW.out.drewN p).far (p := ⟨g, q, none⟩) HNE.out (.int .u8 (xorI y (gmI z s))))
              have HSn := Lib.hid (show ∀ p u, w3.heap.size ≤ ((wr.drewN p).setCell ⟨g, q, none⟩ u).heap.size from fun p u => by simpa using HSZ.out)
              have g2 : (0 : Int) ≤ (q : Int) := by omega
              have g3 : (q : Int) < (len : Int) := by omega
              clear hy hz hyb hzb hsb t3' hpn
              go_wp2
              refine wp_region_still_tail 11 (by kernel_rfl) (by kernel_rfl) ?_
              change wpStill _ _ (wr.drewN 1) (fun a' => wpList _ _ _ _ a' (wr.drewN 1)) _ _
              simp only [List.take_succ_cons, List.take_zero, List.drop_succ_cons, List.drop_zero]
              iterate 8 still_step
              still_call (mul_still z s (wr.drewN 1) HZB.out HSB.out)
              still_call (add_still y (gmI z s) (wr.drewN 1) HYB.out (gmI_byt HZB.out))
              still_step
              refine wpStill_nil ?_
              go_wp2
              go_roundw
              case rel => exact ⟨q + 1, by omega, by go_num, Lib.hid (HSn.out 1 _), Lib.hid (HPN.out 1), Lib.hid (HRn.out 1), Lib.hid (HBn.out 1)⟩
              case measure => simp [intOf]; omega
            · obtain rfl : q = len := by omega
              go_wp2
              go_roundw
              case rel =>
                refine ⟨i + 1, fun j => xorI (o j) (gmI (b j) s), by omega, by go_num, Lib.hid (lagO_step HL.out HLB.out hlt), Lib.hid (fun a k ha hk hne => ?_), HSZ, Lib.hid (by rw [← lagm_full]; exact HO.out), HB⟩
                by_cases e : a = i
                · subst e; exact HDK.out k hk hne
                · exact HD.out a k (by omega) hk hne
              case measure => simp [intOf]; omega
    · obtain rfl : i = n := by omega
      go_wp2
      refine bodyPost_ret (v := .tuple #[.slice (some ⟨g, 0, none⟩) i c3, .int .i64 0]) (by simp [results, Try.results12, go_sem]) rfl ?_
      refine ⟨HB.out, .inr ⟨?_, _, _, o, rfl, HL.out.1, HO.out, fun j hj => ?_⟩⟩
      · rintro ⟨a, k, ha, hk, hne, he⟩
        exact HD.out a k ha hk hne he
      · rw [HL.out.2 j hj, if_pos hj]
end Go.Proofs.Ytelgefkfflgbeaa.Sol
