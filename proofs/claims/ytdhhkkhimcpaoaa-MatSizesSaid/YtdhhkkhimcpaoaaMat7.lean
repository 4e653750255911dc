/- What the product of two matrices comes to. -/
import Derived.Test.YtdhhkkhimcpaoaaProg
import Derived.Below
import Derived.Deep.Draws
import Derived.Deep.AppendLies
import Derived.Maps.AppendAt
import Derived.OwnWalk
import Derived.Laws.BytesArg
import Derived.Laws.MakeOwn
import Derived.Laws.OwnMore
import Derived.Deep.OwnRows
import Derived.Tactics
import Derived.Lib.ConvBytes
import Derived.Laws.Slices
import Derived.WalkKit
import Derived.KernelRfl
import Derived.RowKit3
import Derived.Deep.LoopGhost
import Derived.Deep.QuietTactic
import Derived.BigQuiet
import Derived.WideLaws
import Derived.Deep.DeepCutAuto
import Derived.Deep.CutBlock
import Derived.Deep.RegionHeld3
import Derived.Laws.Rows
import Derived.Lib.AppendStr
import Derived.ArgAppend
import Derived.Laws.IdiomCopy
import Derived.OrdersHeld
import Derived.Laws.BitsLemmas
import Derived.RowKit
import Derived.Lib.Hide
import Derived.WalkSpells
import Derived.StillTailTactics
import Derived.Deep.RegionHeld3
import Derived.Outline
import Derived.Test.YtdhhkkhimcpaoaaMat6
namespace Go.Proofs.Ytdhhkkhimcpaoaa.Mat
open Go Go.RowKit Go.Proofs.Ytdhhkkhimcpaoaa.Mem Go.Proofs.Ytdhhkkhimcpaoaa.Bits Go.Proofs.Ytdhhkkhimcpaoaa.Gf Go.Proofs.YtdhhkkhimcpaoaaW.PrintWords
set_option linter.unusedVariables false

/-- A matrix filled: k elements of row i, set into ys .. -/
def fillRow (c : Nat) (f : Nat → Nat → Int) (i : Nat) : Nat → List Int → List Int
  | 0, ys => ys
  | k + 1, ys => (fillRow c f i k ys).set (i * c + k) (f i k)
/-- .. and i rows. -/
def fillTo (r c : Nat) (f : Nat → Nat → Int) : Nat → List Int
  | 0 => List.replicate (r * c) 0
  | i + 1 => fillRow c f i c (fillTo r c f i)

theorem cell_far {w : World} {p q : Addr} {v : Value} (h : q.block ≠ p.block) (u : Value) (hc : w.cell? q = some v) : (w.setCell p u).cell? q = some v := by
  rw [World.cell?_setCell_other w p q u (fun e => h (by rw [e]))]; exact hc
/-- The elements of a product. -/
def prodAt (n : Nat) (xs zs : List Int) (i k : Nat) : Int := dotTo (rowOf n xs i) (rowOf n zs k) n

set_option maxRecDepth 100000 in
theorem mul_nil_l (v : Value) (hv : ∃ p, v = .pointer p) (w : World) :
    Calls Try.prog 10 #[.pointer none, v] w fun e w' => e = .returned (.tuple #[.pointer none, .int .i64 1]) ∧ ∃ n, w' = w.drewN n := by
  obtain ⟨p, rfl⟩ := hv
  go_enter Try.func10, Try.ntmps10
  go_wp2
  go_quiet (fail)
  go_wp2
  go_ret2
  exact ⟨rfl, _, rfl⟩
set_option maxRecDepth 100000 in
theorem mul_nil_r (a : Addr) (w : World) :
    Calls Try.prog 10 #[.pointer (some a), .pointer none] w fun e w' => e = .returned (.tuple #[.pointer none, .int .i64 1]) ∧ ∃ n, w' = w.drewN n := by
  go_enter Try.func10, Try.ntmps10
  go_wp2
  go_quiet (fail)
  go_wp2
  go_ret2
  exact ⟨rfl, _, rfl⟩
set_option maxRecDepth 100000 in
theorem mul_bad (v u : Value) (r c r' c' : Nat) (xs ys : List Int) (w : World) (h : IsMat w v r c xs) (h' : IsMat w u r' c' ys) (hne : c ≠ r') :
    Calls Try.prog 10 #[v, u] w fun e w' => e = .returned (.tuple #[.pointer none, .int .i64 1]) ∧ ∃ n, w' = w.drewN n := by
  obtain ⟨b, s, cap, rfl, h⟩ := h
  obtain ⟨b', s', cap', rfl, h'⟩ := h'
  obtain ⟨m0, m1, m2⟩ := h.cells
  obtain ⟨n0, n1, n2⟩ := h'.cells
  have hd : ((c : Int) != (r' : Int)) = true := by simp; omega
  clear h h' hne
  go_enter Try.func10, Try.ntmps10
  go_wp2
  go_quiet (fail)
  go_wp2
  go_ret2
  exact ⟨rfl, _, rfl⟩

theorem mid_of (w : World) (b s r c cap : Nat) (xs : List Int) (h : MatIn w b s r c cap xs) (i : Nat) (hi : i < r) (q p p2 : Nat) (hq : q = r * c) (hp : p = i * c) (hp2 : p2 = (i + 1) * c) :
    (∀ W : World, (Instr.slice 24 (.slice (some ⟨s, 0, none⟩) q cap) (some (.int .i64 (p : Int))) (some (.int .i64 (p2 : Int))) none).run Try.prog W = .ok (.slice (some ⟨s, p, none⟩) c (cap - p)) W) ∧
    ReadsInt w .u8 (some ⟨s, p, none⟩) c (rowOf c xs i) ∧ Bytes (rowOf c xs i) ∧ IntKind.i64.wrap ((i : Int) * (c : Int)) = (p : Int) ∧ IntKind.i64.wrap ((i : Int) + 1) = (i : Int) + 1 ∧
    IntKind.i64.wrap (((i : Int) + 1) * (c : Int)) = (p2 : Int) := by
  subst hq; subst hp; subst hp2
  have hrc := h.rc
  have hle : (i + 1) * c ≤ r * c := Nat.mul_le_mul_right c hi
  have hlt : i * c < (i + 1) * c := by rw [Nat.add_mul]; have := h.c0; omega
  obtain ⟨kc, hr⟩ := mid_cut s cap (r * c) xs (i * c) ((i + 1) * c) h.len hlt hle h.capLe
  have hR := hr w (by have := h.reads; rwa [h.len] at this)
  have hd : (i + 1) * c - i * c = c := by rw [Nat.add_mul]; omega
  rw [hd] at kc
  change ReadsInt w .u8 _ (rowOf c xs i).length (rowOf c xs i) at hR
  rw [rowOf_len h.len i hi] at hR
  refine ⟨kc, hR, (h.byt.take _).drop _, ?_, IntWalk.i64_in _ (by have := h.r1; omega), ?_⟩
  · rw [← Int.natCast_mul]; exact IntWalk.i64_in _ (by omega)
  · rw [show ((i : Int) + 1) = ((i + 1 : Nat) : Int) by omega, ← Int.natCast_mul]; exact IntWalk.i64_in _ (by omega)

set_option maxRecDepth 100000 in
set_option maxHeartbeats 2000000 in
theorem mul_good (v u : Value) (r n c : Nat) (xs ys : List Int) (w : World) (h : IsMat w v r n xs) (h' : IsMat w u n c ys) :
    Calls Try.prog 10 #[v, u] w fun e w' => ∃ b s cap, e = .returned (.tuple #[.pointer (some ⟨b, 0, none⟩), .int .i64 0]) ∧ MatIn w' b s r c cap (fillTo r c (prodAt n xs (turnTo n c ys n)) r) ∧ Below w.heap.size w w' ∧ w.heap.size ≤ b ∧ w.heap.size ≤ s := by
  obtain ⟨ba, sa, capa, rfl, ha⟩ := h
  have hU := h'
  obtain ⟨bb, sb, capb, rfl, hb⟩ := h'
  obtain ⟨a0, a1, a2⟩ := ha.cells
  obtain ⟨b0, b1, b2⟩ := hb.cells
  have hd : ((n : Int) != (n : Int)) = false := by simp
  have hr64 := ha.r1
  have hn64 := ha.c1
  have hc64 := hb.c1
  obtain ⟨q, hq⟩ : ∃ q, q = r * c := ⟨_, rfl⟩
  have hqle : q ≤ 4096 := by rw [hq]; exact Nat.le_trans (Nat.mul_le_mul hr64 hc64) (by decide)
  have e0 : IntKind.i64.wrap ((r : Int) * (c : Int)) = (q : Int) := by
    rw [← Int.natCast_mul, ← hq]; exact IntWalk.i64_in _ (by omega)
  have km := print_make (P := Try.prog) 24 5 .u8 1 Try.underlying24 info_u8 (by decide) q (by omega)
  have HMM := Lib.hid (fun w => mat_made w r c q hq ha.r0 hb.c0 hr64 hc64)
  have HQ := Lib.hid hq
  have HU := Lib.hid hU
  have HA := Lib.hid ha
  have HBb := Lib.hid hb
  obtain ⟨zs, hzs⟩ : ∃ zs, zs = turnTo n c ys n := ⟨_, rfl⟩
  rw [← hzs]
  have HZS := Lib.hid hzs
  clear hq ha hb hU a2 b2 hzs
  go_enter Try.func10, Try.ntmps10
  go_wp2
  go_quiet (fail)
  go_wp2
  clear hd
  go_cut [6] (fun v6 wc => ∃ b2 s2, v6 = .pointer (some ⟨b2, 0, none⟩) ∧ Hid (MatIn wc b2 s2 r c q (List.replicate q 0)) ∧ Hid (Below w.heap.size w wc) ∧ w.heap.size ≤ b2 ∧ w.heap.size ≤ s2)
  case first =>
    go_region_held3 (fun W => W.cell? ⟨ba, 0, none⟩ = some (.int .i64 r) ∧ W.cell? ⟨bb, 1, none⟩ = some (.int .i64 c)) (go_keep) (fail)
    all_goals
      go_wp2
      go_meet
      case rel => exact ⟨_, _, rfl, Lib.hid (HMM.out (w.drewN _)), Lib.hid (((pw_below_drewN (Below.refl _ _) _).alloc (Nat.le_refl _) _).alloc (by simp) _), Nat.le_succ _, Nat.le_refl _⟩
  case rest =>
    obtain ⟨bo, so, rfl, HM, HB, hbo, hso⟩ := hcut
    clear km HMM e0 a0 a1 b0 b1
    have HUc := Lib.hid (show IsMat wc (.pointer (some ⟨bb, 0, none⟩)) n c ys from HU.out.below HB.out)
    clear HU
    go_wp2_with (go_at_call 11; refine (turned_any _ _ _ _ _ HUc.out).mono ?_; rintro e w1 ⟨bt, st, capt, rfl, hT, hB1, hbt, hst⟩; have HT := Lib.hid hT; have HB1 := Lib.hid hB1; clear hT hB1; have a0 := ((HB1.out.cell (p := ⟨ba, 0, none⟩) (Nat.lt_of_lt_of_le HA.out.blk.lt HB.out.size)).trans (HB.out.cell (p := ⟨ba, 0, none⟩) HA.out.blk.lt)).trans HA.out.cells.1)
    have HBx := Lib.hid (show Below w.heap.size w w1 from HB.out.trans (HB1.out.mono HB.out.size))
    have HM1 := Lib.hid (HM.out.below HB1.out)
    have hgeb := Lib.hid (show wc.heap.size ≤ bt from hbt)
    have hges := Lib.hid (show wc.heap.size ≤ st from hst)
    have hlb := Lib.hid (HM.out.blk.lt)
    have hls := Lib.hid (HM.out.slt)
    clear HB HM HUc hbt hst
    have hnbt := Lib.hid (show bt ≠ so by have := hgeb.out; have := hls.out; omega)
    have hnst := Lib.hid (show st ≠ so by have := hges.out; have := hls.out; omega)
    have hna := Lib.hid (show ba ≠ so by have := HA.out.blk.lt; omega)
    have hnb := Lib.hid (show bb ≠ so by have := HBb.out.blk.lt; omega)
    have hno := Lib.hid (show bo ≠ so from HM1.out.ne)
    clear hgeb hges hlb hls
    rw [← HZS.out] at HT
    have HM0 := Lib.hid (show MatIn w1 bo so r c q (fillTo r c (prodAt n xs zs) 0) by rw [fillTo, ← HQ.out]; exact HM1.out)
    clear HM1
    go_loopw [8, 53] (fun _ i wr => ∃ (k : Nat), k ≤ r ∧ i = .int .i64 k ∧ Hid (MatIn wr bo so r c q (fillTo r c (prodAt n xs zs) k)) ∧ Hid (MatIn wr bt st c n capt zs) ∧ Hid (Below w.heap.size w wr)) (fun _ i _ => r - (intOf i).toNat)
    case atStart => exact ⟨0, by omega, rfl, HM0, HT, HBx⟩
    case round =>
      obtain ⟨i, hi, rfl, HK, HTk, HW⟩ := hrel
      clear HM0 HT HBx a0
      by_cases hlt : i < r
      · have b1 := (HW.out.cell (p := ⟨bb, 1, none⟩) HBb.out.blk.lt).trans HBb.out.cells.2.1
        go_wp2
        obtain ⟨wo, hwo⟩ : ∃ wo : World, wo = wr := ⟨_, rfl⟩
        go_loopw [9, 60] (fun _ j wr => ∃ (k : Nat), k ≤ c ∧ j = .int .i64 k ∧ Hid (MatIn wr bo so r c q (fillRow c (prodAt n xs zs) i k (fillTo r c (prodAt n xs zs) i))) ∧ Hid (MatIn wr bt st c n capt zs) ∧ Hid (Below w.heap.size w wr)) (fun _ j _ => c - (intOf j).toNat)
        case atStart => exact ⟨0, by omega, rfl, HK, HTk, HW⟩
        case round =>
          obtain ⟨k, hk, rfl, HK2, HT2, HW2⟩ := hrel
          clear HK HTk HW b1
          by_cases hlk : k < c
          · have hA2 := HA.out.keep (HW2.out.block ba HA.out.blk.lt) (HW2.out.block sa HA.out.slt)
            have hB2 := HBb.out.keep (HW2.out.block bb HBb.out.blk.lt) (HW2.out.block sb HBb.out.slt)
            obtain ⟨a0, a1, a2⟩ := hA2.cells
            obtain ⟨b0, b1, _⟩ := hB2.cells
            obtain ⟨_, _, t2⟩ := HT2.out.cells
            obtain ⟨_, _, o2⟩ := HK2.out.cells
            obtain ⟨qa, hqa⟩ : ∃ q, q = r * n := ⟨_, rfl⟩
            obtain ⟨qt, hqt⟩ : ∃ q, q = c * n := ⟨_, rfl⟩
            obtain ⟨pa, hpa⟩ : ∃ p, p = i * n := ⟨_, rfl⟩
            obtain ⟨pa2, hpa2⟩ : ∃ p, p = (i + 1) * n := ⟨_, rfl⟩
            obtain ⟨pt, hpt⟩ : ∃ p, p = k * n := ⟨_, rfl⟩
            obtain ⟨pt2, hpt2⟩ : ∃ p, p = (k + 1) * n := ⟨_, rfl⟩
            obtain ⟨po, hpo⟩ : ∃ p, p = i * c := ⟨_, rfl⟩
            obtain ⟨ka, ra, ba1, ea1, ea2, ea3⟩ := mid_of wr ba sa r n capa xs hA2 i hlt qa pa pa2 hqa hpa hpa2
            obtain ⟨kt, rt, bt1, et1, et2, et3⟩ := mid_of wr bt st c n capt zs HT2.out k hlk qt pt pt2 hqt hpt hpt2
            have hbo := idx_lt hlt hlk
            obtain ⟨ox, of⟩ := HK2.out.elem _ hbo
            have hdr := dotTo_range (rowOf n xs i) (rowOf n zs k) ba1 n
            have hHN := fun m => (HK2.out.drewN m).store (i * c + k) (prodAt n xs zs i k) hdr.1 hdr.2
            have hHT := fun m => (HT2.out.drewN m).far (p := ⟨so, i * c + k, none⟩) hnbt.out hnst.out (.int .u8 (prodAt n xs zs i k))
            have hHV := fun m => (pw_below_drewN HW2.out m).setCell (p := ⟨so, i * c + k, none⟩) hso (.int .u8 (prodAt n xs zs i k))
            change ∀ m, MatIn _ bo so r c q (fillRow c (prodAt n xs zs) i (k + 1) (fillTo r c (prodAt n xs zs) i)) at hHN
            have hrc2 := HK2.out.rc
            have eo : IntKind.i64.wrap ((i : Int) * (c : Int)) = (po : Int) := by
              rw [hpo, ← Int.natCast_mul]; exact IntWalk.i64_in _ (by omega)
            rw [← hqa] at a2
            rw [← hqt] at t2
            rw [← HQ.out] at o2 hbo hrc2
            rw [← hpo] at ox of hbo hHN hHT hHV
            obtain ⟨y, hy⟩ : ∃ y, y = (fillRow c (prodAt n xs zs) i k (fillTo r c (prodAt n xs zs) i)).getD (po + k) 0 := ⟨_, rfl⟩
            rw [← hy] at ox
            have d0 : (0 : Int) ≤ (po : Int) + (k : Int) := by omega
            have d1 : (po : Int) + (k : Int) < (q : Int) := by omega
            have d2 : ((po : Int) + (k : Int)).toNat = po + k := by omega
            have d3 : IntKind.i64.wrap ((po : Int) + (k : Int)) = (po : Int) + (k : Int) := IntWalk.i64_in _ (by omega)
            have HN := Lib.hid hHN
            have HTn := Lib.hid hHT
            have HV := Lib.hid hHV
            have RA := Lib.hid ra
            have RT := Lib.hid rt
            have BA1 := Lib.hid ba1
            have BT1 := Lib.hid bt1
            clear hqa hqt hpa hpa2 hpt hpt2 hpo hy HK2 HT2 HW2 hA2 hB2 hdr hHN hHT hHV ra rt ba1 bt1 hwo
            go_wp2
            go_region_held3 (fun W => W.cell? ⟨ba, 1, none⟩ = some (.int .i64 n) ∧ W.cell? ⟨ba, 2, none⟩ = some (.slice (some ⟨sa, 0, none⟩) qa capa) ∧ W.cell? ⟨bb, 0, none⟩ = some (.int .i64 n) ∧ W.cell? ⟨bb, 1, none⟩ = some (.int .i64 c) ∧ W.cell? ⟨bt, 2, none⟩ = some (.slice (some ⟨st, 0, none⟩) qt capt) ∧ W.cell? ⟨bo, 2, none⟩ = some (.slice (some ⟨so, 0, none⟩) q q)) (first | go_keep | exact ⟨cell_far hna.out _ a1, cell_far hna.out _ a2, cell_far hnb.out _ b0, cell_far hnb.out _ b1, cell_far hnbt.out _ t2, cell_far hno.out _ o2⟩)
              ((go_at_call 25; (refine (dot_le _ _ _ _ n n _ _ _ (RA.out.drewN _) (RT.out.drewN _) BA1.out BT1.out (by omega) (Nat.le_refl _)).mono ?_); rintro e w' ⟨rfl, m, rfl⟩))
            all_goals
              go_wp2
              go_roundw
              case rel => exact ⟨k + 1, by omega, by go_num, Lib.hid (HN.out _), Lib.hid (HTn.out _), Lib.hid (HV.out _)⟩
              case measure => simp [intOf]; omega
          · obtain rfl : k = c := by omega
            go_wp2
            go_roundw
            case rel => exact ⟨i + 1, by omega, by go_num, HK2, HT2, HW2⟩
            case measure => simp [intOf]; omega
      · obtain rfl : i = r := by omega
        go_wp2
        go_ret2
        exact ⟨bo, so, q, rfl, HK.out, HW.out, hbo, hso⟩
end Go.Proofs.Ytdhhkkhimcpaoaa.Mat
