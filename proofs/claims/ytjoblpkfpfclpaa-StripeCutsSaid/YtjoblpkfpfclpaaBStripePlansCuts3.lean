/- StripeCuts: the program's Join. -/
import Derived.Test.YtjoblpkfpfclpaaProg
import Derived.Below
import Derived.Deep.Draws
import Derived.Deep.AppendLies
import Derived.Maps.AppendAt
import Derived.OwnWalk
import Derived.Laws.BytesArg
import Derived.Laws.MakeOwn
import Derived.Laws.OwnMore
import Derived.Deep.OwnRows
import Derived.Tactics
import Derived.Lib.ConvBytes
import Derived.Laws.Slices
import Derived.WalkKit
import Derived.KernelRfl
import Derived.RowKit3
import Derived.Deep.LoopGhost
import Derived.Deep.QuietTactic
import Derived.BigQuiet
import Derived.WideLaws
import Derived.Deep.DeepCutAuto
import Derived.Deep.CutBlock
import Derived.Deep.RegionHeld3
import Derived.Laws.Rows
import Derived.Lib.AppendStr
import Derived.ArgAppend
import Derived.Laws.IdiomCopy
import Derived.OrdersHeld
import Derived.Laws.BitsLemmas
import Derived.RowKit
import Derived.Lib.Hide
import Derived.WalkSpells
import Derived.StillTailTactics
import Derived.Outline
import Derived.Test.YtjoblpkfpfclpaaBStripePlansCuts2
namespace Go.Proofs.Ytjoblpkfpfclpaa.Str
open Go Go.RowKit Go.Proofs.Ytjoblpkfpfclpaa.Gf Go.Proofs.Ytjoblpkfpfclpaa.Bits Go.Proofs.Ytjoblpkfpfclpaa.Mem Go.Proofs.Ytjoblpkfpfclpaa.Rws Go.Proofs.YtjoblpkfpfclpaaW.PrintWords Go.Proofs.YtjoblpkfpfclpaaW.PrintLast
set_option linter.unusedVariables false

theorem cut_max (t e : TypeId) {i : TypeInfo} (ht : Try.prog.underlying t = some (.slice e)) (hi : Try.prog.info? e = some i) (A : Option Addr) (n c : Nat) (j : Nat) (hm : j ≤ n) (hc : n ≤ c) :
    ∀ W : World, (Instr.slice t (.slice A n c) none (some (.int .i64 (j : Int))) (some (.int .i64 (j : Int)))).run Try.prog W = .ok (.slice A j j) W := by
  intro W
  have hel : Try.prog.elem t = e := by simp [Program.elem, ht]
  have hu : Try.prog.underlying t = some (.slice (Try.prog.elem t)) := by rw [hel]; exact ht
  have ha : (A.map fun x => x.add 0) = A := by cases A <;> simp [Addr.add]
  rw [run_slice_hm W t A n c hu .i64 .i64 (j : Int) (j : Int) (by omega) (by omega) (by omega), hel]
  simp [sizeOf, typeInfo, hi, sliced, Result.andThen, ha]
set_option maxRecDepth 100000 in
theorem join_none (a b p : Int) (A : Option Addr) (m c : Nat) (w : World) :
    Calls Try.prog 19 #[.pointer none, planV a b p, .slice A m c] w fun e w' => e = .returned (.tuple #[.slice none 0 0, .int .i64 1]) ∧ Below w.heap.size w w' := by
  unfold planV
  have HB := Lib.hid ((Below.refl w.heap.size w).alloc (Nat.le_refl _) (.cells #[.int .i64 a, .int .i64 b, .int .i64 p] 29))
  go_enter Try.func19, Try.ntmps19
  go_wp2
  go_ret2
  exact ⟨rfl, HB.out⟩
theorem flat_le (l : List (List Int)) (hb : ∀ x ∈ l, x.length ≤ 20000) (i : Nat) (hi : i ≤ l.length) : (l.take i).flatten.length ≤ 20000 * i := by
  induction i with
  | zero => simp
  | succ i ih =>
    rw [List.take_succ_eq_append_getElem (by omega), List.flatten_append, List.length_append, List.flatten_singleton]
    have := hb l[i] (List.getElem_mem _)
    have := ih (by omega)
    omega
def JoinPost (S L c : Nat) (l : List (List Int)) (w : World) (e : Ending) (w' : World) : Prop :=
  ((okJ S L c l ∧ ∃ A' c', e = .returned (.tuple #[.slice A' L c', .int .i64 0]) ∧ L ≤ c' ∧ ReadsInt w' .u8 A' L (l.flatten.take L)) ∨ (¬ okJ S L c l ∧ e = .returned (.tuple #[.slice none 0 0, .int .i64 1]))) ∧ Below w.heap.size w w'
set_option maxRecDepth 100000 in
set_option maxHeartbeats 2000000 in
theorem join_any (n k s p S c L : Nat) (v : Value) (A0 : Option Addr) (c0 : Nat) (l : List (List Int)) (w : World) (hc : IsCode w v n k) (k1 : 1 ≤ k) (k2 : k ≤ 8) (hs : k * (k - 1) = s) (hS : s * p = S) (hp2 : p ≤ 20000)
    (hR : RowsC w A0 l) (hl : l.length ≤ 100) (hb : ∀ x ∈ l, x.length ≤ 20000) (hL : L ≤ 20000) :
    Calls Try.prog 19 #[v, planV L c p, .slice A0 l.length c0] w (JoinPost S L c l w) := by
  unfold planV
  obtain ⟨W1, hW1⟩ : ∃ W1, W1 = w.alloc (.cells #[.int .i64 L, .int .i64 c, .int .i64 p] 29) := ⟨_, rfl⟩
  have hb1 : Below w.heap.size w W1 := by rw [hW1]; exact (Below.refl _ _).alloc (Nat.le_refl _) _
  have hblk : Blk W1 w.heap.size 29 #[.int .i64 L, .int .i64 c, .int .i64 p] := by rw [hW1]; exact Blk.new _ _ _
  obtain ⟨P0, hP0⟩ : ∃ P0, P0 = w.heap.size := ⟨_, rfl⟩
  rw [← hP0] at hblk
  have y0 : W1.cell? ⟨P0, 0, none⟩ = some (.int .i64 L) := (hblk.cell 0).trans rfl
  have y1 : W1.cell? ⟨P0, 1, none⟩ = some (.int .i64 c) := (hblk.cell 1).trans rfl
  have y2 : W1.cell? ⟨P0, 2, none⟩ = some (.int .i64 p) := (hblk.cell 2).trans rfl
  have HW1 := Lib.hid hW1
  have HP0 := Lib.hid hP0
  have HB1 := Lib.hid hb1
  have HBK := Lib.hid hblk
  have MC := Lib.hid (fun W (hB : Below w.heap.size w W) => message_any (L : Int) (c : Int) p v n k s S W (hc.below hB) k1 k2 hs hp2 hS)
  obtain ⟨b0, A9, c09, rfl, _⟩ := hc
  have HR := Lib.hid hR
  obtain ⟨N, hN⟩ : ∃ N, N = l.length := ⟨_, rfl⟩
  have HN := Lib.hid hN
  have HL := Lib.hid hL
  have HLL := Lib.hid hl
  have HBB := Lib.hid hb
  rw [← hN]
  by_cases hcn : N = c
  · subst hcn
    have z1 : ((N : Int) != (N : Int)) = false := by simp
    clear hW1 hb1 hblk hP0 hR hl hb hL hS hs hp2 k1 k2 hN
    go_enter Try.func19, Try.ntmps19
    go_upto_region 1 with (fail)
    rw [← HW1.out, ← HP0.out]
    go_wp2
    go_loopw [8, 10, 22] (fun u _ i wr => ∃ (q : Nat), q ≤ N ∧ i = .int .i64 q ∧ Hid (∀ x ∈ l.take q, x.length = S) ∧ Hid (wr.ownsRow W1.heap.size 5 1 u (l.take q).flatten.length (nums .u8 (l.take q).flatten)) ∧ Hid (Below W1.heap.size W1 wr)) (fun _ _ i _ => N - (intOf i).toNat)
    case atStart => exact ⟨0, by omega, rfl, Lib.hid (by simp), Lib.hid (own_nil _ _ _ _), Lib.hid (Below.refl _ _)⟩
    case round =>
      obtain ⟨q, hq, rfl, HE, HO, HB⟩ := hrel
      have HBw := Lib.hid (HB1.out.trans (HB.out.mono HB1.out.size))
      have hq100 : N ≤ 100 := by rw [HN.out]; exact HLL.out
      obtain ⟨x0, x1, x2⟩ : wr.cell? ⟨P0, 0, none⟩ = some (.int .i64 L) ∧ wr.cell? ⟨P0, 1, none⟩ = some (.int .i64 N) ∧ wr.cell? ⟨P0, 2, none⟩ = some (.int .i64 p) := by
        have h := Blk.below HBK.out HB.out (Blk.lt HBK.out)
        exact ⟨(h.cell 0).trans rfl, (h.cell 1).trans rfl, (h.cell 2).trans rfl⟩
      clear y0 y1 y2
      obtain ⟨A1, c1, rfl⟩ := own_slice HO.out
      obtain ⟨m1, hm1⟩ : ∃ m1, m1 = (l.take q).flatten.length := ⟨_, rfl⟩
      have HM1 := Lib.hid hm1
      rw [← hm1] at HO ⊢
      clear hm1
      by_cases hlt : q < N
      · obtain ⟨ad, A2, c2, rfl, hcell, hc2, hC2⟩ := HR.out.get q (by rw [← HN.out]; exact hlt)
        replace hcell := pw_cell_below HBw.out hcell
        have hlq : q < l.length := by rw [← HN.out]; exact hlt
        have hgd : l.getD q [] = l[q] := by rw [List.getD_eq_getElem?_getD, List.getElem?_eq_getElem hlq]; rfl
        rw [hgd] at hcell hc2 hC2
        obtain ⟨ys, hys⟩ : ∃ ys, ys = l[q] := ⟨_, rfl⟩
        rw [← hys] at hcell hc2 hC2
        obtain ⟨m2, hm2⟩ : ∃ m2, m2 = ys.length := ⟨_, rfl⟩
        rw [← hm2] at hcell hc2 hC2
        have HM2 := Lib.hid hm2
        have HYS := Lib.hid hys
        have HC2 := Lib.hid hC2
        have hfl : (l.take (q + 1)).flatten = (l.take q).flatten ++ ys := by rw [List.take_succ_eq_append_getElem hlq, List.flatten_append, List.flatten_singleton, hys]
        have HFL := Lib.hid hfl
        have hm2b : m2 ≤ 20000 := by rw [hm2, hys]; exact HBB.out _ (List.getElem_mem _)
        have HM2B := Lib.hid hm2b
        have p0 : (0 : Int) ≤ (q : Int) := by omega
        have p1 : (q : Int) < (N : Int) := by omega
        clear hgd hys hm2 hC2 hfl hm2b
        by_cases hS : m2 = S
        · subst hS
          have z2 : ((m2 : Int) != (m2 : Int)) = false := by simp
          go_wp2_with (first
            | (go_at_call 13; (with_reducible refine (MC.out _ HBw.out).mono ?_); rintro e w2 ⟨rfl, hb2⟩; have HB2 := Lib.hid hb2; clear hb2)
            | (at_builtin; refine print_append_row (w0 := W1) (k := .u8) W1.heap.size rfl _ _ 38 5 1 rfl Try.underlying38 info_byte (by decide) _ (l.take q).flatten ys A2 m2 c2 rfl rfl (pw_own_below (by rw [← HM1.out]; exact HO.out) HB2.out) (Kd.reads_of_C (d := (0 : Int)) (Kd.C_below HC2.out (HBw.out.trans (HB2.out.mono HBw.out.size)))) (HB.out.trans (HB2.out.mono HB.out.size)) (Nat.le_trans HB.out.size HB2.out.size) (by have := flat_le l HBB.out q (by have := HN.out; omega); have := HLL.out; have := HN.out; have := HM2B.out; omega) ?_; intro v3 w3 h1 h2 h3 h4; have H1 := Lib.hid h1; have H2 := Lib.hid h2; clear h1 h2 h3 h4))
          go_roundw
          case rel =>
            refine ⟨q + 1, by omega, by go_num, Lib.hid (fun x hx => ?_), Lib.hid ?_, H2⟩
            · rw [List.take_succ_eq_append_getElem (by rw [← HN.out]; exact hlt), List.mem_append, List.mem_singleton] at hx
              rcases hx with hx | rfl
              · exact HE.out x hx
              · rw [← HYS.out, ← HM2.out]
            · rw [HFL.out]; exact H1.out
          case measure => simp [intOf]; omega
        · have z2 : ((m2 : Int) != (S : Int)) = true := by simp; omega
          have z3 : ¬ (m2 : Int) = (S : Int) := by omega
          have HNS := Lib.hid hS
          clear hS
          go_wp2_with (go_at_call 13; (with_reducible refine (MC.out _ HBw.out).mono ?_); rintro e w2 ⟨rfl, hb2⟩; have HB2 := Lib.hid (HBw.out.trans (hb2.mono HBw.out.size)); clear hb2)
          go_ret2
          refine ⟨.inr ⟨fun h => HNS.out ?_, rfl⟩, HB2.out⟩
          rw [HM2.out, HYS.out]
          exact h.2.1 _ (List.getElem_mem _)
      · obtain rfl : q = N := by omega
        have HFT := Lib.hid (show l.take q = l by rw [List.take_of_length_le (by rw [← HN.out]; omega)])
        by_cases hlong : L ≤ m1
        · obtain ⟨i0, hi, hz⟩ := Option.map_eq_some_iff.1 info_byte
          have hc1 := own_le HO.out
          have kx := cut_max 38 5 Try.underlying38 hi A1 m1 c1 L hlong hc1
          have z2 : decide ((L : Int) < 0) = false := by simp
          have z3 : ¬ (m1 : Int) < (L : Int) := by omega
          have z4 : decide ((m1 : Int) < (L : Int)) = false := by simp; omega
          have HLO := Lib.hid hlong
          clear hi hz hlong hc1
          go_wp2
          go_ret2
          have hq := HFT.out
          have ho := HO.out
          rw [HM1.out] at ho
          refine ⟨.inl ⟨⟨HN.out.symm, by rw [← hq]; exact HE.out, by have := HLO.out; have := HM1.out; rw [hq] at this; omega⟩, A1, L, rfl, Nat.le_refl _, ?_⟩, HBw.out⟩
          have hr := (own_reads' ho).take_ L (by have := HLO.out; have := HM1.out; omega)
          rw [hq] at hr
          exact hr
        · have z2 : decide ((L : Int) < 0) = false := by simp
          have z3 : (m1 : Int) < (L : Int) := by omega
          have z4 : decide ((m1 : Int) < (L : Int)) = true := by simp; omega
          have HLO := Lib.hid hlong
          clear hlong
          go_wp2
          go_ret2
          refine ⟨.inr ⟨fun h => HLO.out ?_, rfl⟩, HBw.out⟩
          have h3 := h.2.2
          have hq := HFT.out
          have := HM1.out
          rw [hq] at this
          omega
  · have z1 : ((N : Int) != (c : Int)) = true := by simp; omega
    have z2 : ¬ (N : Int) = (c : Int) := by omega
    have HNC := Lib.hid hcn
    clear hW1 hb1 hblk hP0 hR hl hb hL hS hs hp2 k1 k2 hN hcn
    go_enter Try.func19, Try.ntmps19
    go_upto_region 1 with (fail)
    rw [← HW1.out, ← HP0.out]
    go_wp2
    go_ret2
    exact ⟨.inr ⟨fun h => HNC.out (HN.out.trans h.1), rfl⟩, HB1.out⟩
end Go.Proofs.Ytjoblpkfpfclpaa.Str
