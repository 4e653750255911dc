/- Spread: what both say of a plan; rows of rows of the call's own. -/
import Derived.Test.YtjoblpkfpfclpaaProg
import Derived.Below
import Derived.Deep.Draws
import Derived.Deep.AppendLies
import Derived.Maps.AppendAt
import Derived.OwnWalk
import Derived.Laws.BytesArg
import Derived.Laws.MakeOwn
import Derived.Laws.OwnMore
import Derived.Deep.OwnRows
import Derived.Tactics
import Derived.Lib.ConvBytes
import Derived.Laws.Slices
import Derived.WalkKit
import Derived.KernelRfl
import Derived.RowKit3
import Derived.Deep.LoopGhost
import Derived.Deep.QuietTactic
import Derived.BigQuiet
import Derived.WideLaws
import Derived.Deep.DeepCutAuto
import Derived.Deep.CutBlock
import Derived.Deep.RegionHeld3
import Derived.Laws.Rows
import Derived.Lib.AppendStr
import Derived.ArgAppend
import Derived.Laws.IdiomCopy
import Derived.OrdersHeld
import Derived.Laws.BitsLemmas
import Derived.RowKit
import Derived.Lib.Hide
import Derived.WalkSpells
import Derived.StillTailTactics
import Derived.Outline
import Derived.Test.YtjoblpkfpfclpaaBStripeSpreadsCutB
import Derived.Test.YtjoblpkfpfclpaaBRowsMsrE
import Derived.OrdersHeld
import Derived.Deep.RegionHeld3
import Derived.Test.YtjoblpkfpfclpaaOpens
namespace Go.Proofs.Ytjoblpkfpfclpaa.Str
open Go Go.RowKit Go.Proofs.Ytjoblpkfpfclpaa.PStripeSpreads Go.Proofs.Ytjoblpkfpfclpaa.BStripeSpreads Go.Proofs.Ytjoblpkfpfclpaa.Gf Go.Proofs.Ytjoblpkfpfclpaa.Gi Go.Proofs.Ytjoblpkfpfclpaa.Bits Go.Proofs.Ytjoblpkfpfclpaa.Mem Go.Proofs.Ytjoblpkfpfclpaa.VPts Go.Proofs.Ytjoblpkfpfclpaa.Rws Go.Proofs.YtjoblpkfpfclpaaW.PrintWords Go.Proofs.YtjoblpkfpfclpaaW.PrintLast Go.Proofs.Ytjoblpkfpfclpaa.Opn
set_option linter.unusedVariables false

theorem of_both (n k s L : Nat) (p : Int) (k1 : 2 ≤ k) (k2 : k ≤ 4) (hs : k * (k - 1) = s) (hL : L ≤ 300) :
    (∃ e : Int, (e != 0) = true ∧ coldframeref08_Of.f 60000 k L p = some (0, 0, 0, e) ∧ ∀ v W, IsCode W v n k → Calls Try.prog 10 #[v, .int .i64 L, .int .i64 p] W fun e' w' => e' = planE 0 0 0 e ∧ Below W.heap.size W w') ∨
    (∃ C q : Nat, coldframeref08_Of.f 60000 k L p = some ((L : Int), (C : Int), (q : Int), 0) ∧ (∀ v W, IsCode W v n k → Calls Try.prog 10 #[v, .int .i64 L, .int .i64 p] W fun e' w' => e' = planE L C q 0 ∧ Below W.heap.size W w') ∧
      (1 ≤ q ∧ q ≤ 256) ∧ (L ≤ C * (s * q) ∧ (∀ i, i < C → i * (s * q) < L) ∧ C ≤ 32) ∧ (1 ≤ s * q ∧ s * q ≤ 20000) ∧ (1 ≤ C → s * q ≤ 1000)) := by
  by_cases ha : (L : Int) < 0 ∨ (¬ (L : Int) < 0 ∧ p < 1) ∨ (¬ (L : Int) < 0 ∧ ¬ p < 1 ∧ 256 < p)
  · refine .inl ⟨1, by decide, ref_arg k L p ha, fun v W hc => ?_⟩
    obtain ⟨b, A, c, rfl, _⟩ := hc
    exact of_arg b L p W ha
  have h2 : ¬ p < 1 := fun h => ha (.inr (.inl ⟨by omega, h⟩))
  have h3 : ¬ 256 < p := fun h => ha (.inr (.inr ⟨by omega, h2, h⟩))
  obtain ⟨p, rfl⟩ := Int.eq_ofNat_of_zero_le (show 0 ≤ p by omega)
  have p1 : 1 ≤ p := by omega
  have p2 : p ≤ 256 := by omega
  obtain ⟨full, hf⟩ : ∃ f, s * p = f := ⟨_, rfl⟩
  have HR := ref_of k s full L p k1 (by omega) hs hf p1 p2 (by omega)
  obtain ⟨_, s2, _, f2, _⟩ := ref_sk k s full L p k1 (by omega) hs hf p1 p2 (by omega)
  unfold planR at HR
  have hs12 : s ≤ 12 := by rw [← hs]; exact Nat.mul_le_mul k2 (show k - 1 ≤ 3 by omega)
  by_cases hm : 32 < upq L full
  · rw [if_pos hm] at HR
    have h32 := (upq_lt L full 32 (by omega)).1 hm
    refine .inl ⟨29, by decide, HR, fun v W hc => ?_⟩
    have hc' := hc
    obtain ⟨b, A, c, rfl, _⟩ := hc'
    exact of_many b n k s full L p W hc k1 (by omega) hs hf p1 p2 (by omega) hm (by omega) (by omega)
  · rw [if_neg hm] at HR
    obtain ⟨q, hq⟩ : ∃ q, q = if 0 < L ∧ L < full then upq L s else p := ⟨_, rfl⟩
    rw [← hq] at HR
    obtain ⟨g1, g2, g3⟩ := plan_count L s p full s2 hf p1 q hq
    have hqp : q ≤ p := by
      rw [hq]
      by_cases h : 0 < L ∧ L < full
      · rw [if_pos h]
        rcases Nat.lt_or_ge p (upq L s) with hh | hh
        · have := (upq_lt L s p (by omega)).1 hh
          rw [Nat.mul_comm, hf] at this
          omega
        · exact hh
      · rw [if_neg h]; omega
    have hq1 : 1 ≤ q := by
      rcases Nat.eq_zero_or_pos q with h | h
      · subst h; simp at g3
      · exact h
    have hS : s * q ≤ 12 * 256 := Nat.mul_le_mul hs12 (by omega)
    refine .inr ⟨upq L full, q, HR, fun v W hc => ?_, ⟨hq1, by omega⟩, ⟨g1, g2, by omega⟩, ⟨g3, by omega⟩, fun hC => ?_⟩
    · have hc' := hc
      obtain ⟨b, A, c, rfl, _⟩ := hc'
      by_cases h0 : 0 < L
      · by_cases hlt : L < full
        · rw [hq, if_pos ⟨h0, hlt⟩]
          have hu : upq L full = 1 := by
            have a1 := (upq_lt L full 0 (by omega)).2 (by omega)
            have a2 : ¬ 1 < upq L full := fun h => by have := (upq_lt L full 1 (by omega)).1 h; omega
            omega
          rw [hu]
          exact of_small b n k s full L p W hc k1 (by omega) hs hf p1 p2 (by omega) h0 hlt
        · rw [hq, if_neg (fun h => hlt h.2)]
          exact of_few b n k s full L p W hc k1 (by omega) hs hf p1 p2 (by omega) (by omega) h0 hlt
      · rw [hq, if_neg (fun h => h0 h.1)]
        have hu : upq L full = 0 := by
          have a2 : ¬ 0 < upq L full := fun h => by have := (upq_lt L full 0 (by omega)).1 h; omega
          omega
        rw [hu]
        exact of_zero b n k s full L p W hc k1 (by omega) hs hf p1 p2 (by omega) (by omega)
    · have h0 : 0 < L := by have := g2 0 hC; omega
      by_cases hlt : L < full
      · rw [if_pos ⟨h0, hlt⟩] at hq
        have h1 : (q - 1) * s < L := (upq_lt L s (q - 1) (by omega)).1 (by omega)
        have h2 : s * q = (q - 1) * s + s := by
          rw [Nat.mul_comm s q]
          have : q = (q - 1) + 1 := by omega
          calc q * s = ((q - 1) + 1) * s := by rw [← this]
            _ = (q - 1) * s + s := by rw [Nat.add_mul, Nat.one_mul]
        omega
      · rw [if_neg (fun h => hlt h.2)] at hq
        rw [hq, hf]; omega
/-- Rows of rows of the call's own. -/
abbrev kRows : Kd (List (List Int)) := Kd.slice 38 kRow
abbrev RowsRR (w : World) (base : Nat) (v : Value) (ls : List (List (List Int))) : Prop := Kd.R kRows 39 w base (fun _ => True) v ls
theorem info_rowss : (Try.prog.info? 39).map (fun i => (i.zero, i.size, i.bytes)) = some (some (.slice none 0 0), 1, 24) := by kernel_rfl
theorem rowss_append {P : Program} {ops : Array Oper} {rest : List Oper} {o : Oper} {a : Act} {Q : Exit → Act → World → Prop} {w0 W wr : World} (hP : P = Try.prog) (base : Nat) (hgd : o.guard = none) (s x : Operand)
    (ho : o.op = .call { callee := .builtin .append, args := #[s, x], argTypes := #[49, 49] }) (v u : Value) (ls : List (List (List Int))) (ys : List (List Int))
    (hs : a.eval s = v) (hx : a.eval x = .slice (some ⟨W.heap.size, 0, none⟩) 1 1) (HR : RowsRR wr base v ls) (HB : Below base w0 W) (hbase : base ≤ wr.heap.size) (hB : Below wr.heap.size wr W)
    (hu : RowsR W wr.heap.size u ys) (hl : ls.length ≤ 1000000)
    (h : ∀ v1 w1, RowsRR w1 base v1 (ls ++ [ys]) → Below base w0 w1 → wpList P ops Q rest (a.put o.dst v1) w1) :
    wpList P ops Q (o :: rest) a (W.alloc (.cells #[u] 39)) := by
  subst hP
  have hu' : Kd.R kRow 38 W wr.heap.size (fun k => wr.heap.size ≤ k) u ys := Kd.R_mono (Kd.R_bound hu) (fun k hk => hk.2.1)
  refine Kd.R_append kRows (w0 := w0) base hgd s x 49 39 (.slice none 0 0) 24 ho Try.underlying49 info_rowss rfl (by decide) (by decide) v ls ys [u] (fun _ => True)
    (fun k => wr.heap.size ≤ k) hs hx ⟨u, rfl, Kd.R_lower hu' hbase⟩ ?_ (fun _ _ => trivial) (Kd.R_below HR hB) HB (Nat.le_trans hbase hB.size) (by omega) (fun v1 w1 h1 h2 _ _ => h v1 w1 h1 h2)
  intro k hk
  refine ⟨trivial, fun e => ?_⟩
  have := Kd.R_lt HR k e.symm
  omega
/-- The shards of the first m stripes. -/
def spreadM (n k q S : Nat) (b : List Int) (m : Nat) : List (List (List Int)) := (List.range m).map (fun i => shardsM n k q (pad S (seg S b i)) n)
theorem spreadM_succ (n k q S : Nat) (b : List Int) (m : Nat) : spreadM n k q S b (m + 1) = spreadM n k q S b m ++ [shardsM n k q (pad S (seg S b m)) n] := by simp [spreadM, List.range_succ]
theorem spreadM_len (n k q S : Nat) (b : List Int) (m : Nat) : (spreadM n k q S b m).length = m := by simp [spreadM]
theorem cutL_get (S : Nat) (b : List Int) (c i : Nat) (hi : i < c) : (cutL S b c).getD i [] = pad S (seg S b i) := by simp [cutL, List.getD_eq_getElem?_getD, hi]
theorem stripe_len (S : Nat) (b : List Int) (i : Nat) : (pad S (seg S b i)).length = S := pad_len S _ (by rw [seg_len]; omega)
theorem stripe_byt (S : Nat) (b : List Int) (i : Nat) (h : ∀ x ∈ b, Byt x) : ∀ x ∈ pad S (seg S b i), Byt x := by
  intro x hx
  unfold pad seg at hx
  rcases List.mem_append.1 hx with hx | hx
  · exact h x (List.mem_of_mem_drop (List.mem_of_mem_take hx))
  · rw [(List.mem_replicate.1 hx).2]; exact byt0

theorem cells3 {w : World} {g : Nat} {t : TypeId} {a b c : Value} (h : Blk w g t #[a, b, c]) : w.cell? ⟨g, 0, none⟩ = some a ∧ w.cell? ⟨g, 1, none⟩ = some b ∧ w.cell? ⟨g, 2, none⟩ = some c := ⟨(h.cell 0).trans rfl, (h.cell 1).trans rfl, (h.cell 2).trans rfl⟩
set_option maxRecDepth 100000 in
set_option maxHeartbeats 4000000 in
theorem spread_good (n k s q S C L : Nat) (p : Int) (v : Value) (A : Option Addr) (cp : Nat) (b : List Int) (w : World) (hc : IsCodeP w v n k) (k1 : 2 ≤ k) (k2 : k ≤ 4) (n2 : n ≤ 24) (hs : k * (k - 1) = s) (hS : s * q = S)
    (hof : ∀ v W, IsCode W v n k → Calls Try.prog 10 #[v, .int .i64 L, .int .i64 p] W fun e' w' => e' = planE L C q 0 ∧ Below W.heap.size W w')
    (hq : 1 ≤ q ∧ q ≤ 256) (hC : L ≤ C * S ∧ (∀ i, i < C → i * S < L) ∧ C ≤ 32) (hS1 : 1 ≤ S ∧ S ≤ 20000) (hS2 : 1 ≤ C → S ≤ 1000) (hr : (Kd.int .u8).C w A L b) (hL : L = b.length) (hLc : L ≤ cp) (hL1 : L ≤ 300) (hbyt : ∀ x ∈ b, Byt x) :
    Calls Try.prog 21 #[v, .int .i64 p, .slice A L cp] w fun e w' => ∃ u, e = .returned (.tuple #[planV L C q, u, .int .i64 0]) ∧ RowsRR w' w.heap.size u (spreadM n k q S b C) ∧ Below w.heap.size w w' := by
  have OF := Lib.hid (fun W (hB : Below w.heap.size w W) => hof v W (hc.below hB).code)
  have CU := Lib.hid (fun W (hB : Below w.heap.size w W) => cut_yes n k s q S C C v A L cp b W (hc.below hB).code (by omega) (by omega) hs hS hS1.1 hS1.2 hq.1 (by omega) (Kd.C_below hr hB) hL hLc (by omega) hC.1 hC.2.1 (by omega))
  have EN := Lib.hid (fun i A1 c1 W (hi : i < C) (hB : Below w.heap.size w W) (h1 : (Kd.int .u8).C W A1 S (pad S (seg S b i))) (hcc : S ≤ c1) => encode_good v n k s q S A1 c1 (pad S (seg S b i)) W (hc.below hB) k1 (by omega) n2 hs h1 hcc hS.symm hq.1 (hS2 (by omega)) (stripe_byt S b i hbyt))
  have hC32 := hC.2.2
  have HB0 := Lib.hid ((Below.refl w.heap.size w).alloc (Nat.le_refl _) (.cells #[.int .i64 0, .int .i64 0, .int .i64 0] 29))
  clear hof k1 k2 n2 hs hS hq hC hS1 hS2 hr hL hLc hL1 hbyt hc
  go_enter Try.func21, Try.ntmps21
  have hz := zero_plan
  go_upto_region 1 with (fail)
  go_upto_region 2 with (go_at_call 10; (with_reducible refine (OF.out _ HB0.out).mono ?_); rintro e w3 ⟨rfl, hb⟩; have HB3 := Lib.hid (HB0.out.trans (hb.mono HB0.out.size)); have HG3 := Lib.hid (Blk.below (Blk.new w _ _) hb (by simp)); clear hb)
  obtain ⟨W5, hW5⟩ : ∃ W5, W5 = w3.alloc (.cells #[.int .i64 L, .int .i64 C, .int .i64 q] 29) := ⟨_, rfl⟩
  obtain ⟨P0, hP0⟩ : ∃ P0, P0 = w3.heap.size := ⟨_, rfl⟩
  have hb5 : Below w3.heap.size w3 W5 := by rw [hW5]; exact (Below.refl _ _).alloc (Nat.le_refl _) _
  have HP5 := Lib.hid (show Blk W5 P0 29 #[.int .i64 L, .int .i64 C, .int .i64 q] by rw [hW5, hP0]; exact Blk.new _ _ _)
  have HG5 := Lib.hid (Blk.below HG3.out hb5 (Blk.lt HG3.out))
  have HB5 := Lib.hid (HB3.out.trans (hb5.mono HB3.out.size))
  have hPG : w.heap.size < P0 := by rw [hP0]; exact Blk.lt HG3.out
  have HPG := Lib.hid hPG
  rw [← hW5, ← hP0]
  clear hW5 hP0 hb5 hPG HG3 HB3
  obtain ⟨q0, q1, q2⟩ := cells3 HP5.out
  go_upto_region 5 with (go_at_call 16; (with_reducible refine (CU.out _ HB5.out).mono ?_); rintro e w6 ⟨u6, rfl, hrr, hb⟩; obtain ⟨A6, c6, rfl, hl6, hC6⟩ := Kd.R_reads hrr; have HG6 := Lib.hid (Blk.below HG5.out hb (Blk.lt HG5.out)); have HP6 := Lib.hid (Blk.below HP5.out hb (Blk.lt HP5.out)); have HB6 := Lib.hid (HB5.out.trans (hb.mono HB5.out.size)); have HS6 := Lib.hid hb.size; rw [cutL_len] at hC6 hl6 ⊢; have HC6 := Lib.hid hC6; clear hb hrr hl6 hC6)
  clear q0 q1 q2
  go_wp2
  go_loopw [13, 15, 16, 17, 39] (fun u _ _ _ iv wr => ∃ (i : Nat) (u' : Value), u = u' ∧ i ≤ C ∧ iv = .int .i64 i ∧ Hid (RowsRR wr w6.heap.size u' (spreadM n k q S b i)) ∧ Hid (Below w6.heap.size w6 wr)) (fun _ _ _ _ iv _ => C - (intOf iv).toNat)
  case atStart => exact ⟨0, _, rfl, by omega, rfl, Lib.hid (by exact Kd.R_nil _ _ _ _ _), Lib.hid (Below.refl _ _)⟩
  case round =>
    obtain ⟨i, u, rfl, hi, rfl, HO, HB⟩ := hrel
    by_cases hlt : i < C
    · obtain ⟨ad, A8, c8, rfl, hcell, hc8, hC8⟩ := rowsN_get (Kd.C_below HC6.out HB.out) i hlt
      rw [cutL_get S b C i hlt, stripe_len] at hcell hc8 hC8
      have ENi := Lib.hid (EN.out i A8 c8 wr hlt (HB6.out.trans (HB.out.mono HB6.out.size)) hC8 hc8)
      have g1 : (i : Int) < (C : Int) := by omega
      have g2 : (0 : Int) ≤ (i : Int) := by omega
      clear hC8 hc8
      go_wp2_with (first
        | (go_at_call 27; (with_reducible refine ENi.out.mono ?_); rintro e w9 ⟨A9, c9, rfl, hr9, _, hb⟩; have HR9 := Lib.hid hr9; have HB9 := Lib.hid hb; clear hr9 hb)
        | (at_builtin; refine rowss_append (w0 := w6) (W := w9) (wr := wr) rfl w6.heap.size rfl _ _ rfl u13 _ (spreadM n k q S b i) (shardsM n k q (pad S (seg S b i)) n) rfl rfl HO.out (HB.out.trans (HB9.out.mono HB.out.size)) HB.out.size HB9.out HR9.out (by rw [spreadM_len]; omega) ?_; intro v9 w10 h9 hb9; have H9 := Lib.hid h9; have HB10 := Lib.hid hb9; clear h9 hb9))
      go_roundw
      case rel => exact ⟨i + 1, _, rfl, by omega, by go_num, Lib.hid (by rw [spreadM_succ]; exact H9.out), HB10⟩
      case measure => simp [intOf]; omega
    · obtain rfl : i = C := by omega
      have HPw := Lib.hid (Blk.below HP6.out HB.out (Blk.lt HP6.out))
      have HGw := Lib.hid (Blk.below HG6.out HB.out (Blk.lt HG6.out))
      obtain ⟨q0, q1, q2⟩ := cells3 HPw.out
      obtain ⟨z0, z1, z2⟩ := cells3 HGw.out
      have f0 := HGw.out.frozen 0
      have f1 := HGw.out.frozen 1
      have f2 := HGw.out.frozen 2
      go_wp2
      have HOb := Kd.R_lower HO.out (Nat.le_of_lt (Blk.lt HG6.out))
      have hgw := HGw.out
      have hbw := HB6.out.trans (HB.out.mono HB6.out.size)
      have x0 := (((hgw.set_ 0 (.int .i64 L))).cell 0).trans rfl
      have x1 := (((hgw.set_ 0 (.int .i64 L)).set_ 1 (.int .i64 i)).cell 1).trans rfl
      have x2 := ((((hgw.set_ 0 (.int .i64 L)).set_ 1 (.int .i64 i)).set_ 2 (.int .i64 q)).cell 2).trans rfl
      refine bodyPost_ret (v := .tuple #[planV L i q, u13, .int .i64 0]) (by simp [results, Try.results21, go_sem, planV, x0, x1, x2]) rfl ⟨_, rfl, ?_, ((hbw.setCell (Nat.le_refl _) _).setCell (Nat.le_refl _) _).setCell (Nat.le_refl _) _⟩
      exact Kd.R_set (Kd.R_set (Kd.R_set HOb hgw (by decide) 0 _) (hgw.set_ 0 _) (by decide) 1 _) ((hgw.set_ 0 _).set_ 1 _) (by decide) 2 _

theorem zero_planr (w : World) : (zeroValue 32).run Try.prog w = .ok (planV 0 0 0) w := by kernel_rfl
set_option maxRecDepth 100000 in
set_option maxHeartbeats 1000000 in
theorem spread_err (v : Value) (L cp : Nat) (p e0 : Int) (A : Option Addr) (w : World) (he : (e0 != 0) = true)
    (hof : Calls Try.prog 10 #[v, .int .i64 L, .int .i64 p] (w.alloc (.cells #[.int .i64 0, .int .i64 0, .int .i64 0] 29)) fun e' w' => e' = planE 0 0 0 e0 ∧ Below (w.alloc (.cells #[.int .i64 0, .int .i64 0, .int .i64 0] 29)).heap.size (w.alloc (.cells #[.int .i64 0, .int .i64 0, .int .i64 0] 29)) w') :
    Calls Try.prog 21 #[v, .int .i64 p, .slice A L cp] w fun e w' => e = .returned (.tuple #[planV 0 0 0, .slice none 0 0, .int .i64 e0]) ∧ Below w.heap.size w w' := by
  have OF := Lib.hid hof
  have HB0 := Lib.hid ((Below.refl w.heap.size w).alloc (Nat.le_refl _) (.cells #[.int .i64 0, .int .i64 0, .int .i64 0] 29))
  clear hof
  have hz := zero_plan
  go_enter Try.func21, Try.ntmps21
  go_upto_region 1 with (fail)
  go_upto_region 2 with (go_at_call 10; (with_reducible refine OF.out.mono ?_); rintro e w3 ⟨rfl, hb⟩; have HB3 := Lib.hid (HB0.out.trans (hb.mono HB0.out.size)); have HG3 := Lib.hid (Blk.below (Blk.new w _ _) hb (by simp)); clear hb)
  obtain ⟨W5, hW5⟩ : ∃ W5, W5 = w3.alloc (.cells #[.int .i64 0, .int .i64 0, .int .i64 0] 29) := ⟨_, rfl⟩
  have hb5 : Below w3.heap.size w3 W5 := by rw [hW5]; exact (Below.refl _ _).alloc (Nat.le_refl _) _
  have HG5 := Lib.hid (Blk.below HG3.out hb5 (Blk.lt HG3.out))
  have HB5 := Lib.hid (HB3.out.trans (hb5.mono HB3.out.size))
  rw [← hW5]
  clear hW5 hb5 HG3 HB3
  obtain ⟨z0, z1, z2⟩ := cells3 HG5.out
  have f0 := HG5.out.frozen 0
  have f1 := HG5.out.frozen 1
  have f2 := HG5.out.frozen 2
  go_wp2
  have hgw := HG5.out
  have x0 := (((hgw.set_ 0 (.int .i64 0))).cell 0).trans rfl
  have x1 := (((hgw.set_ 0 (.int .i64 0)).set_ 1 (.int .i64 0)).cell 1).trans rfl
  have x2 := ((((hgw.set_ 0 (.int .i64 0)).set_ 1 (.int .i64 0)).set_ 2 (.int .i64 0)).cell 2).trans rfl
  refine bodyPost_ret (v := .tuple #[planV 0 0 0, .slice none 0 0, .int .i64 e0]) (by simp [results, Try.results21, go_sem, planV, x0, x1, x2]) rfl ⟨rfl, ((HB5.out.setCell (Nat.le_refl _) _).setCell (Nat.le_refl _) _).setCell (Nat.le_refl _) _⟩
set_option maxRecDepth 100000 in
set_option maxHeartbeats 1000000 in
theorem refspread_err (n k : Int) (L cp : Nat) (p e0 : Int) (A : Option Addr) (w : World) (he : (e0 != 0) = true)
    (hof : coldframeref08_Of.f 60000 k L p = some (0, 0, 0, e0)) :
    Calls Try.prog 22 #[.int .i64 n, .int .i64 k, .int .i64 p, .slice A L cp] w fun e w' => e = .returned (.tuple #[planV 0 0 0, .slice none 0 0, .int .i64 e0]) ∧ Below w.heap.size w w' := by
  have OF := Lib.hid (fun W => refof_calls k L p 0 0 0 e0 W hof)
  have HB0 := Lib.hid ((Below.refl w.heap.size w).alloc (Nat.le_refl _) (.cells #[.int .i64 0, .int .i64 0, .int .i64 0] 32))
  clear hof
  have hz := zero_planr
  go_enter Try.func22, Try.ntmps22
  go_upto_region 1 with (fail)
  go_upto_region 2 with (go_at_call 11; (with_reducible refine (OF.out _).mono ?_); rintro e w3 ⟨rfl, hb⟩; have HB3 := Lib.hid (HB0.out.trans (hb.mono HB0.out.size)); have HG3 := Lib.hid (Blk.below (Blk.new w _ _) hb (by simp)); clear hb)
  obtain ⟨W5, hW5⟩ : ∃ W5, W5 = w3.alloc (.cells #[.int .i64 0, .int .i64 0, .int .i64 0] 32) := ⟨_, rfl⟩
  have hb5 : Below w3.heap.size w3 W5 := by rw [hW5]; exact (Below.refl _ _).alloc (Nat.le_refl _) _
  have HG5 := Lib.hid (Blk.below HG3.out hb5 (Blk.lt HG3.out))
  have HB5 := Lib.hid (HB3.out.trans (hb5.mono HB3.out.size))
  rw [← hW5]
  clear hW5 hb5 HG3 HB3
  obtain ⟨z0, z1, z2⟩ := cells3 HG5.out
  have f0 := HG5.out.frozen 0
  have f1 := HG5.out.frozen 1
  have f2 := HG5.out.frozen 2
  go_wp2
  have hgw := HG5.out
  have x0 := (((hgw.set_ 0 (.int .i64 0))).cell 0).trans rfl
  have x1 := (((hgw.set_ 0 (.int .i64 0)).set_ 1 (.int .i64 0)).cell 1).trans rfl
  have x2 := ((((hgw.set_ 0 (.int .i64 0)).set_ 1 (.int .i64 0)).set_ 2 (.int .i64 0)).cell 2).trans rfl
  refine bodyPost_ret (v := .tuple #[planV 0 0 0, .slice none 0 0, .int .i64 e0]) (by simp [results, Try.results22, go_sem, planV, x0, x1, x2]) rfl ⟨rfl, ((HB5.out.setCell (Nat.le_refl _) _).setCell (Nat.le_refl _) _).setCell (Nat.le_refl _) _⟩
set_option maxRecDepth 100000 in
set_option maxHeartbeats 4000000 in
theorem refspread_good (n k s q S C L : Nat) (p : Int) (A : Option Addr) (cp : Nat) (b : List Int) (w : World) (k1 : 2 ≤ k) (k2 : k ≤ 4) (n2 : n ≤ 24) (hs : k * (k - 1) = s) (hS : s * q = S)
    (hof : coldframeref08_Of.f 60000 k L p = some ((L : Int), (C : Int), (q : Int), 0))
    (hq : 1 ≤ q ∧ q ≤ 256) (hC : L ≤ C * S ∧ (∀ i, i < C → i * S < L) ∧ C ≤ 32) (hS1 : 1 ≤ S ∧ S ≤ 20000) (hS2 : 1 ≤ C → S ≤ 1000) (hr : (Kd.int .u8).C w A L b) (hL : L = b.length) (hLc : L ≤ cp) (hL1 : L ≤ 300) (hbyt : ∀ x ∈ b, Byt x) :
    Calls Try.prog 22 #[.int .i64 n, .int .i64 k, .int .i64 p, .slice A L cp] w fun e w' => ∃ u, e = .returned (.tuple #[planV L C q, u, .int .i64 0]) ∧ RowsRR w' w.heap.size u (spreadM n k q S b C) ∧ Below w.heap.size w w' := by
  have OF := Lib.hid (fun W => refof_calls k L p L C q 0 W hof)
  have CU := Lib.hid (fun W (hB : Below w.heap.size w W) => refcut_any k s q S C L L A cp b W (by omega) (by omega) hs hS hS1.1 hS1.2 (by omega) (Kd.C_below hr hB) hL hLc (by omega) hC.2.1 (by omega))
  have EN := Lib.hid (fun i A1 c1 W (hi : i < C) (h1 : (Kd.int .u8).C W A1 S (pad S (seg S b i))) => refenc_good n k s q S A1 c1 (pad S (seg S b i)) W k1 (by omega) n2 hs h1 hS.symm hq.1 (hS2 (by omega)) (stripe_byt S b i hbyt))
  have hC32 := hC.2.2
  have HB0 := Lib.hid ((Below.refl w.heap.size w).alloc (Nat.le_refl _) (.cells #[.int .i64 0, .int .i64 0, .int .i64 0] 32))
  clear hof k1 k2 n2 hs hS hq hC hS1 hS2 hr hL hLc hL1 hbyt
  go_enter Try.func22, Try.ntmps22
  have hz := zero_planr
  go_upto_region 1 with (fail)
  go_upto_region 2 with (go_at_call 11; (with_reducible refine (OF.out _).mono ?_); rintro e w3 ⟨rfl, hb⟩; have HB3 := Lib.hid (HB0.out.trans (hb.mono HB0.out.size)); have HG3 := Lib.hid (Blk.below (Blk.new w _ _) hb (by simp)); clear hb)
  obtain ⟨W5, hW5⟩ : ∃ W5, W5 = w3.alloc (.cells #[.int .i64 L, .int .i64 C, .int .i64 q] 32) := ⟨_, rfl⟩
  obtain ⟨P0, hP0⟩ : ∃ P0, P0 = w3.heap.size := ⟨_, rfl⟩
  have hb5 : Below w3.heap.size w3 W5 := by rw [hW5]; exact (Below.refl _ _).alloc (Nat.le_refl _) _
  have HP5 := Lib.hid (show Blk W5 P0 32 #[.int .i64 L, .int .i64 C, .int .i64 q] by rw [hW5, hP0]; exact Blk.new _ _ _)
  have HG5 := Lib.hid (Blk.below HG3.out hb5 (Blk.lt HG3.out))
  have HB5 := Lib.hid (HB3.out.trans (hb5.mono HB3.out.size))
  have hPG : w.heap.size < P0 := by rw [hP0]; exact Blk.lt HG3.out
  have HPG := Lib.hid hPG
  rw [← hW5, ← hP0]
  clear hW5 hP0 hb5 hPG HG3 HB3
  obtain ⟨q0, q1, q2⟩ := cells3 HP5.out
  go_upto_region 5 with (go_at_call 18; (with_reducible refine (CU.out _ HB5.out).mono ?_); rintro e w6 ⟨u6, rfl, hrr, hb⟩; obtain ⟨A6, c6, rfl, hl6, hC6⟩ := Kd.R_reads hrr; have HG6 := Lib.hid (Blk.below HG5.out hb (Blk.lt HG5.out)); have HP6 := Lib.hid (Blk.below HP5.out hb (Blk.lt HP5.out)); have HB6 := Lib.hid (HB5.out.trans (hb.mono HB5.out.size)); have HS6 := Lib.hid hb.size; rw [cutL_len] at hC6 hl6 ⊢; have HC6 := Lib.hid hC6; clear hb hrr hl6 hC6)
  clear q0 q1 q2
  go_wp2
  go_loopw [14, 15, 16, 17] (fun u iv _ _ wr => ∃ (i : Nat) (u' : Value), u = u' ∧ i ≤ C ∧ iv = .int .i64 i ∧ Hid (RowsRR wr w6.heap.size u' (spreadM n k q S b i)) ∧ Hid (Below w6.heap.size w6 wr)) (fun _ iv _ _ _ => C - (intOf iv).toNat)
  case atStart => exact ⟨0, _, rfl, by omega, rfl, Lib.hid (by exact Kd.R_nil _ _ _ _ _), Lib.hid (Below.refl _ _)⟩
  case round =>
    obtain ⟨i, u, rfl, hi, rfl, HO, HB⟩ := hrel
    by_cases hlt : i < C
    · obtain ⟨ad, A8, c8, rfl, hcell, hc8, hC8⟩ := rowsN_get (Kd.C_below HC6.out HB.out) i hlt
      rw [cutL_get S b C i hlt, stripe_len] at hcell hc8 hC8
      have ENi := Lib.hid (EN.out i A8 c8 wr hlt hC8)
      have g1 : (i : Int) < (C : Int) := by omega
      have g2 : (0 : Int) ≤ (i : Int) := by omega
      clear hC8 hc8
      go_wp2_with (first
        | (go_at_call 28; (with_reducible refine ENi.out.mono ?_); rintro e w9 ⟨A9, c9, rfl, hr9, _, hb⟩; have HR9 := Lib.hid hr9; have HB9 := Lib.hid hb; clear hr9 hb)
        | (at_builtin; refine rowss_append (w0 := w6) (W := w9) (wr := wr) rfl w6.heap.size rfl _ _ rfl u14 _ (spreadM n k q S b i) (shardsM n k q (pad S (seg S b i)) n) rfl rfl HO.out (HB.out.trans (HB9.out.mono HB.out.size)) HB.out.size HB9.out HR9.out (by rw [spreadM_len]; omega) ?_; intro v9 w10 h9 hb9; have H9 := Lib.hid h9; have HB10 := Lib.hid hb9; clear h9 hb9))
      go_roundw
      case rel => exact ⟨i + 1, _, rfl, by omega, by go_num, Lib.hid (by rw [spreadM_succ]; exact H9.out), HB10⟩
      case measure => simp [intOf]; omega
    · obtain rfl : i = C := by omega
      have HPw := Lib.hid (Blk.below HP6.out HB.out (Blk.lt HP6.out))
      have HGw := Lib.hid (Blk.below HG6.out HB.out (Blk.lt HG6.out))
      obtain ⟨q0, q1, q2⟩ := cells3 HPw.out
      obtain ⟨z0, z1, z2⟩ := cells3 HGw.out
      have f0 := HGw.out.frozen 0
      have f1 := HGw.out.frozen 1
      have f2 := HGw.out.frozen 2
      go_wp2
      have HOb := Kd.R_lower HO.out (Nat.le_of_lt (Blk.lt HG6.out))
      have hgw := HGw.out
      have hbw := HB6.out.trans (HB.out.mono HB6.out.size)
      have x0 := (((hgw.set_ 0 (.int .i64 L))).cell 0).trans rfl
      have x1 := (((hgw.set_ 0 (.int .i64 L)).set_ 1 (.int .i64 i)).cell 1).trans rfl
      have x2 := ((((hgw.set_ 0 (.int .i64 L)).set_ 1 (.int .i64 i)).set_ 2 (.int .i64 q)).cell 2).trans rfl
      refine bodyPost_ret (v := .tuple #[planV L i q, u14, .int .i64 0]) (by simp [results, Try.results22, go_sem, planV, x0, x1, x2]) rfl ⟨_, rfl, ?_, ((hbw.setCell (Nat.le_refl _) _).setCell (Nat.le_refl _) _).setCell (Nat.le_refl _) _⟩
      exact Kd.R_set (Kd.R_set (Kd.R_set HOb hgw (by decide) 0 _) (hgw.set_ 0 _) (by decide) 1 _) ((hgw.set_ 0 _).set_ 1 _) (by decide) 2 _

theorem rowss_get {w : World} {A : Option Addr} {n : Nat} {ls : List (List (List Int))} (h : Kd.C kRows w A n ls) (i : Nat) (hi : i < n) :
    ∃ ad A0 c0, A = some ad ∧ w.cell? (ad.add i) = some (.slice A0 (ls.getD i []).length c0) ∧ Kd.C kRow w A0 (ls.getD i []).length (ls.getD i []) := by
  obtain ⟨ad, c, e, _, hK, hc0⟩ := Kd.C_get h [] (i : Int) (by omega) (by omega)
  obtain ⟨A0, c0, rfl, l0, g0⟩ := hK
  refine ⟨ad, A0, c0, e, ?_, g0⟩
  have hq := hc0 0 _ rfl
  simpa [Kd.slice] using hq
theorem spreadM_get (n k q S : Nat) (b : List Int) (m i : Nat) (hi : i < m) : (spreadM n k q S b m).getD i [] = shardsM n k q (pad S (seg S b i)) n := by simp [spreadM, List.getD_eq_getElem?_getD, hi]
set_option maxRecDepth 100000 in
theorem ss_no (n k p : Int) (A : Option Addr) (L c : Nat) (w : World) (h : ¬ (2 ≤ k ∧ k ≤ 4 ∧ 2 * k - 1 ≤ n ∧ n ≤ 12)) :
    Calls Try.prog 5 #[.int .i64 n, .int .i64 k, .int .i64 p, .slice A L c] w fun e w' => e = .returned (.bool true) ∧ Below w.heap.size w w' := by
  have SM := Lib.hid (small_no n k w h)
  have AW := Lib.hid awake_calls
  clear h
  go_enter Try.func5, Try.ntmps5
  go_wp2_with (first | (go_at_call 15; (with_reducible refine SM.out.mono ?_); rintro e w1 ⟨rfl, hb⟩; have HB1 := Lib.hid hb; clear hb) | (go_at_call 8; (with_reducible refine (AW.out _).mono ?_); rintro e w9 ⟨rfl, hb⟩; have HB9 := Lib.hid (HB1.out.trans (hb.mono HB1.out.size)); clear hb))
  go_ret
  exact ⟨rfl, HB9.out⟩
set_option maxRecDepth 100000 in
theorem ss_long (n k : Nat) (p : Int) (A : Option Addr) (L c : Nat) (w : World) (k1 : 2 ≤ k) (k2 : k ≤ 4) (n1 : 2 * k - 1 ≤ n) (n2 : n ≤ 12) (hL : 300 < L) :
    Calls Try.prog 5 #[.int .i64 n, .int .i64 k, .int .i64 p, .slice A L c] w fun e w' => e = .returned (.bool true) ∧ Below w.heap.size w w' := by
  have SM := Lib.hid (small_yes n k w k1 k2 n1 n2)
  have AW := Lib.hid awake_calls
  have q1 : (300 : Int) < (L : Int) := by omega
  clear k1 k2 n1 n2 hL
  go_enter Try.func5, Try.ntmps5
  go_wp2_with (first | (go_at_call 15; (with_reducible refine SM.out.mono ?_); rintro e w1 ⟨rfl, hb⟩; have HB1 := Lib.hid hb; clear hb) | (go_at_call 8; (with_reducible refine (AW.out _).mono ?_); rintro e w9 ⟨rfl, hb⟩; have HB9 := Lib.hid (HB1.out.trans (hb.mono HB1.out.size)); clear hb))
  go_ret
  exact ⟨rfl, HB9.out⟩
set_option maxRecDepth 100000 in
set_option maxHeartbeats 4000000 in
theorem ss_any (n k L N : Nat) (p a1 b1 c1 e0 : Int) (A : Option Addr) (c : Nat) (ls : List (List (List Int))) (w : World) (k1 : 2 ≤ k) (k2 : k ≤ 4) (n1 : 2 * k - 1 ≤ n) (n2 : n ≤ 12) (hL : L ≤ 300) (hN : ls.length = N) (hN2 : N ≤ 1000) (hls : ∀ i, i < N → (ls.getD i []).length ≤ 100 ∧ AllBytes (ls.getD i []))
    (hS : ∀ v W, IsCodeP W v n k → Below w.heap.size w W → Calls Try.prog 21 #[v, .int .i64 p, .slice A L c] W fun e w' => ∃ A3 c3, e = .returned (.tuple #[planV a1 b1 c1, .slice A3 N c3, .int .i64 e0]) ∧ Kd.C kRows w' A3 N ls ∧ Below W.heap.size W w')
    (hR : ∀ W, Below w.heap.size w W → Calls Try.prog 22 #[.int .i64 n, .int .i64 k, .int .i64 p, .slice A L c] W fun e w' => ∃ A3 c3, e = .returned (.tuple #[planV a1 b1 c1, .slice A3 N c3, .int .i64 e0]) ∧ Kd.C kRows w' A3 N ls ∧ Below W.heap.size W w') :
    Calls Try.prog 5 #[.int .i64 n, .int .i64 k, .int .i64 p, .slice A L c] w fun e w' => e = .returned (.bool true) ∧ Below w.heap.size w w' := by
  have SM := Lib.hid (small_yes n k w k1 k2 n1 n2)
  have AW := Lib.hid awake_calls
  have NC := Lib.hid (fun W => new_codeP n k W k1 (by omega) n1 (by omega))
  have SP := Lib.hid hS
  have RP := Lib.hid hR
  have TC := Lib.hid to_calls
  have SA := Lib.hid (fun i A1 c1 A2 c2 W (hi : i < N) (h1 : Kd.C kRow W A1 (ls.getD i []).length (ls.getD i [])) (h2 : Kd.C kRow W A2 (ls.getD i []).length (ls.getD i [])) => same_true A1 A2 c1 c2 _ _ _ _ W h1 rfl h2 rfl (hls i hi).2 (Nat.le_trans (hls i hi).1 (by decide)) rfl)
  have q1 : ¬ (300 : Int) < (L : Int) := by omega
  have q2 : decide ((L : Int) > 300) = false := by simp; omega
  have nq := fun W => neq_plan W a1 b1 c1
  clear k1 k2 n1 n2 hL hS hR hls hN
  go_enter Try.func5, Try.ntmps5
  go_upto_region 4 with (first | (go_at_call 15; (with_reducible refine SM.out.mono ?_); rintro e w1 ⟨rfl, hb⟩; have HB1 := Lib.hid hb; clear hb) | (go_at_call 9; (with_reducible refine (NC.out _).mono ?_); rintro e w2 ⟨v, rfl, hcd, hb⟩; have HV := Lib.hid hcd; clear hcd; have HBn := Lib.hid (HB1.out.trans (hb.mono HB1.out.size)); clear HB1 hb; have HB1 := HBn; clear HBn))
  go_upto_region 5 with (go_at_call 21; (with_reducible refine (SP.out v _ HV.out HB1.out).mono ?_); rintro e w3 ⟨A3, c3, rfl, hC3, hb⟩; have HC3 := Lib.hid hC3; clear hC3; have HBn := Lib.hid (HB1.out.trans (hb.mono HB1.out.size)); clear HB1 hb; have HB1 := HBn; clear HBn)
  obtain ⟨W3, hW3⟩ : ∃ W3, W3 = w3.alloc (.cells #[.int .i64 a1, .int .i64 b1, .int .i64 c1] 29) := ⟨_, rfl⟩
  obtain ⟨P1, hP1⟩ : ∃ P1, P1 = w3.heap.size := ⟨_, rfl⟩
  have hb3 : Below w3.heap.size w3 W3 := by rw [hW3]; exact (Below.refl _ _).alloc (Nat.le_refl _) _
  have HP1 := Lib.hid (show Blk W3 P1 29 #[.int .i64 a1, .int .i64 b1, .int .i64 c1] by rw [hW3, hP1]; exact Blk.new _ _ _)
  have HC4 := Lib.hid (Kd.C_below HC3.out hb3)
  have HB4 := Lib.hid (HB1.out.trans (hb3.mono HB1.out.size))
  rw [← hW3, ← hP1]
  clear hW3 hP1 hb3 HC3 HB1
  go_upto_region 6 with (go_at_call 22; (with_reducible refine (RP.out _ HB4.out).mono ?_); rintro e w5 ⟨A5, c5, rfl, hC5, hb⟩; have HC5 := Lib.hid hC5; have HC5l := Lib.hid (Kd.C_below HC4.out hb); have HP5 := Lib.hid (Blk.below HP1.out hb (Blk.lt HP1.out)); have HB5 := Lib.hid (HB4.out.trans (hb.mono HB4.out.size)); clear hC5 hb)
  obtain ⟨W5, hW5⟩ : ∃ W5, W5 = w5.alloc (.cells #[.int .i64 a1, .int .i64 b1, .int .i64 c1] 32) := ⟨_, rfl⟩
  obtain ⟨P2, hP2⟩ : ∃ P2, P2 = w5.heap.size := ⟨_, rfl⟩
  have hb5 : Below w5.heap.size w5 W5 := by rw [hW5]; exact (Below.refl _ _).alloc (Nat.le_refl _) _
  have HQ6 := Lib.hid (show Blk W5 P2 32 #[.int .i64 a1, .int .i64 b1, .int .i64 c1] by rw [hW5, hP2]; exact Blk.new _ _ _)
  have HP6 := Lib.hid (Blk.below HP5.out hb5 (Blk.lt HP5.out))
  have HL6 := Lib.hid (Kd.C_below HC5l.out hb5)
  have HR6 := Lib.hid (Kd.C_below HC5.out hb5)
  have HB6 := Lib.hid (HB5.out.trans (hb5.mono HB5.out.size))
  rw [← hW5, ← hP2]
  clear hW5 hP2 hb5 HC5 HC5l HP5 HB5 HC4 HP1 HB4
  have KK := Lib.hid (fun W (hB : Below W5.heap.size W5 W) => show W.cell? ⟨P1, 0, none⟩ = some (.int .i64 a1) ∧ W.cell? ⟨P1, 1, none⟩ = some (.int .i64 b1) ∧ W.cell? ⟨P1, 2, none⟩ = some (.int .i64 c1) ∧ W.cell? ⟨P2, 0, none⟩ = some (.int .i64 a1) ∧ W.cell? ⟨P2, 1, none⟩ = some (.int .i64 b1) ∧ W.cell? ⟨P2, 2, none⟩ = some (.int .i64 c1) by
    obtain ⟨x0, x1, x2⟩ := cells3 (Blk.below HP6.out hB (Blk.lt HP6.out))
    obtain ⟨y0, y1, y2⟩ := cells3 (Blk.below HQ6.out hB (Blk.lt HQ6.out))
    exact ⟨x0, x1, x2, y0, y1, y2⟩)
  have HXd := Lib.hid (show Below W5.heap.size W5 W5.drew from (Below.refl _ _).drew)
  refine wp_region_noPanic ?_
  refine wp_region_held_drew (S := (fun W => W.cell? ⟨P1, 0, none⟩ = some (.int .i64 a1) ∧ W.cell? ⟨P1, 1, none⟩ = some (.int .i64 b1) ∧ W.cell? ⟨P1, 2, none⟩ = some (.int .i64 c1) ∧ W.cell? ⟨P2, 0, none⟩ = some (.int .i64 a1) ∧ W.cell? ⟨P2, 1, none⟩ = some (.int .i64 b1) ∧ W.cell? ⟨P2, 2, none⟩ = some (.int .i64 c1))) (by kernel_rfl) ?_ (fun hHeld => ?_)
  · ((try dsimp only); exact KK.out _ HXd.out)
  refine wpAnyH_take (i := 0) (oi := { dst := some 51, op := Go.Op.load 29 (Go.Operand.tmp 11), type := 29, pos := "law.go:81", after := #[], guard := none }) (v := ?_) rfl (by kernel_rfl) (by kernel_rfl) (by kernel_rfl) (fun _ _ _ h => h) (Or.inl ⟨by rfl, ?_⟩) (by assumption) ?_
  rotate_left 1
  · (intro w hSw; (try dsimp only at hSw); go_simp; try with_reducible rfl)
  try simp only [Act.put, List.setIfInBounds_toArray, List.set_cons_zero, List.set_cons_succ]
  refine wpAnyH_take (i := 1) (oi := { dst := some 52, op := Go.Op.load 32 (Go.Operand.tmp 14), type := 32, pos := "law.go:81", after := #[], guard := none }) (v := ?_) rfl (by kernel_rfl) (by kernel_rfl) (by kernel_rfl) (fun _ _ _ h => h) (Or.inl ⟨by rfl, ?_⟩) (by assumption) ?_
  rotate_left 1
  · (intro w hSw; (try dsimp only at hSw); go_simp; try with_reducible rfl)
  try simp only [Act.put, List.setIfInBounds_toArray, List.set_cons_zero, List.set_cons_succ]
  refine wpAnyH_ready (rs := [2]) (by kernel_rfl) (by simp) ?_
  refine AllReadyH.cons (o := { dst := some 53, op := Go.Op.call { callee := Go.Callee.value (Go.Operand.func 12), args := #[Go.Operand.tmp 52], argTypes := #[32] }, type := 29, pos := "law.go:81", after := #[{ on := 1, ground := Go.Ground.data }], guard := none }) rfl (fun K hK => ?_) AllReadyH.nil
  go_simp
  go_at_call 12
  (refine (TC.out a1 b1 c1 _).mono ?_); rintro e u1 ⟨rfl, hb⟩; have HXe := Lib.hid (HXd.out.trans (hb.mono HXd.out.size)); clear hb
  clear hHeld
  refine hK.out _ _ ?_ (fun hHeld => ?_)
  · ((try dsimp only); exact KK.out _ HXe.out)
  clear hK K
  refine wpAnyH_take (i := 3) (oi := { dst := some 54, op := Go.Op.binOp Go.BinOp.neq 29 (Go.Operand.tmp 51) (Go.Operand.tmp 53) 29, type := 4, pos := "law.go:81", after := #[{ on := 0, ground := Go.Ground.data }, { on := 2, ground := Go.Ground.data }], guard := none }) (v := ?_) rfl (by kernel_rfl) (by kernel_rfl) (by kernel_rfl) (fun _ _ _ h => h) (Or.inl ⟨by rfl, ?_⟩) (by assumption) ?_
  rotate_left 1
  · (intro w hSw; (try dsimp only at hSw); go_simp; try with_reducible rfl)
  try simp only [Act.put, List.setIfInBounds_toArray, List.set_cons_zero, List.set_cons_succ]
  refine wpAnyH_take (i := 4) (oi := { dst := some 55, op := Go.Op.move (Go.Operand.tmp 54), type := 4, pos := "law.go:81", after := #[{ on := 3, ground := Go.Ground.data }, { on := 2, ground := Go.Ground.chain }], guard := none }) (v := ?_) rfl (by kernel_rfl) (by kernel_rfl) (by kernel_rfl) (fun _ _ _ h => h) (Or.inl ⟨by rfl, ?_⟩) (by assumption) ?_
  rotate_left 1
  · (intro w hSw; (try dsimp only at hSw); go_simp; try with_reducible rfl)
  try simp only [Act.put, List.setIfInBounds_toArray, List.set_cons_zero, List.set_cons_succ]
  refine wpAnyH_take (i := 5) (oi := { dst := some 56, op := Go.Op.move (Go.Operand.tmp 13), type := 25, pos := "law.go:81", after := #[{ on := 4, ground := Go.Ground.guard }], guard := some (4, false) }) (v := ?_) rfl (by kernel_rfl) (by kernel_rfl) (by kernel_rfl) (fun _ _ _ h => h) (Or.inl ⟨by rfl, ?_⟩) (by assumption) ?_
  rotate_left 1
  · (intro w hSw; (try dsimp only at hSw); go_simp; try with_reducible rfl)
  try simp only [Act.put, List.setIfInBounds_toArray, List.set_cons_zero, List.set_cons_succ]
  refine wpAnyH_take (i := 6) (oi := { dst := some 57, op := Go.Op.move (Go.Operand.tmp 16), type := 3, pos := "law.go:81", after := #[{ on := 4, ground := Go.Ground.guard }], guard := some (4, false) }) (v := ?_) rfl (by kernel_rfl) (by kernel_rfl) (by kernel_rfl) (fun _ _ _ h => h) (Or.inl ⟨by rfl, ?_⟩) (by assumption) ?_
  rotate_left 1
  · (intro w hSw; (try dsimp only at hSw); go_simp; try with_reducible rfl)
  try simp only [Act.put, List.setIfInBounds_toArray, List.set_cons_zero, List.set_cons_succ]
  refine wpAnyH_take (i := 7) (oi := { dst := some 58, op := Go.Op.binOp Go.BinOp.neq 3 (Go.Operand.tmp 56) (Go.Operand.tmp 57) 3, type := 4, pos := "law.go:81", after := #[{ on := 5, ground := Go.Ground.data }, { on := 6, ground := Go.Ground.data }, { on := 4, ground := Go.Ground.guard }], guard := some (4, false) }) (v := ?_) rfl (by kernel_rfl) (by kernel_rfl) (by kernel_rfl) (fun _ _ _ h => h) (Or.inl ⟨by rfl, ?_⟩) (by assumption) ?_
  rotate_left 1
  · (intro w hSw; (try dsimp only at hSw); go_simp; try with_reducible rfl)
  try simp only [Act.put, List.setIfInBounds_toArray, List.set_cons_zero, List.set_cons_succ]
  refine wpAnyH_take (i := 8) (oi := { dst := some 59, op := Go.Op.pick (Go.Operand.tmp 55) (Go.Operand.const (Go.Value.bool true)) (Go.Operand.tmp 58), type := 4, pos := "law.go:81", after := #[{ on := 4, ground := Go.Ground.data }, { on := 7, ground := Go.Ground.data }], guard := none }) (v := ?_) rfl (by kernel_rfl) (by kernel_rfl) (by kernel_rfl) (fun _ _ _ h => h) (Or.inl ⟨by rfl, ?_⟩) (by assumption) ?_
  rotate_left 1
  · (intro w hSw; (try dsimp only at hSw); go_simp; try with_reducible rfl)
  try simp only [Act.put, List.setIfInBounds_toArray, List.set_cons_zero, List.set_cons_succ]
  refine wpAnyH_take (i := 9) (oi := { dst := some 60, op := Go.Op.move (Go.Operand.tmp 59), type := 4, pos := "law.go:81", after := #[{ on := 8, ground := Go.Ground.data }, { on := 4, ground := Go.Ground.chain }], guard := none }) (v := ?_) rfl (by kernel_rfl) (by kernel_rfl) (by kernel_rfl) (fun _ _ _ h => h) (Or.inl ⟨by rfl, ?_⟩) (by assumption) ?_
  rotate_left 1
  · (intro w hSw; (try dsimp only at hSw); go_simp; try with_reducible rfl)
  try simp only [Act.put, List.setIfInBounds_toArray, List.set_cons_zero, List.set_cons_succ]
  refine wpAnyH_take (i := 10) (oi := { dst := some 61, op := Go.Op.move (Go.Operand.tmp 12), type := 49, pos := "law.go:81", after := #[{ on := 9, ground := Go.Ground.guard }], guard := some (9, false) }) (v := ?_) rfl (by kernel_rfl) (by kernel_rfl) (by kernel_rfl) (fun _ _ _ h => h) (Or.inl ⟨by rfl, ?_⟩) (by assumption) ?_
  rotate_left 1
  · (intro w hSw; (try dsimp only at hSw); go_simp; try with_reducible rfl)
  try simp only [Act.put, List.setIfInBounds_toArray, List.set_cons_zero, List.set_cons_succ]
  refine wpAnyH_take (i := 11) (oi := { dst := some 62, op := Go.Op.call { callee := Go.Callee.builtin Go.Builtin.len, args := #[Go.Operand.tmp 61], argTypes := #[49] }, type := 3, pos := "law.go:81", after := #[{ on := 10, ground := Go.Ground.data }, { on := 9, ground := Go.Ground.guard }], guard := some (9, false) }) (v := ?_) rfl (by kernel_rfl) (by kernel_rfl) (by kernel_rfl) (fun _ _ _ h => h) (Or.inl ⟨by rfl, ?_⟩) (by assumption) ?_
  rotate_left 1
  · (intro w hSw; (try dsimp only at hSw); go_simp; try with_reducible rfl)
  try simp only [Act.put, List.setIfInBounds_toArray, List.set_cons_zero, List.set_cons_succ]
  refine wpAnyH_take (i := 12) (oi := { dst := some 63, op := Go.Op.move (Go.Operand.tmp 15), type := 49, pos := "law.go:81", after := #[{ on := 9, ground := Go.Ground.guard }], guard := some (9, false) }) (v := ?_) rfl (by kernel_rfl) (by kernel_rfl) (by kernel_rfl) (fun _ _ _ h => h) (Or.inl ⟨by rfl, ?_⟩) (by assumption) ?_
  rotate_left 1
  · (intro w hSw; (try dsimp only at hSw); go_simp; try with_reducible rfl)
  try simp only [Act.put, List.setIfInBounds_toArray, List.set_cons_zero, List.set_cons_succ]
  refine wpAnyH_take (i := 13) (oi := { dst := some 64, op := Go.Op.call { callee := Go.Callee.builtin Go.Builtin.len, args := #[Go.Operand.tmp 63], argTypes := #[49] }, type := 3, pos := "law.go:81", after := #[{ on := 12, ground := Go.Ground.data }, { on := 9, ground := Go.Ground.guard }], guard := some (9, false) }) (v := ?_) rfl (by kernel_rfl) (by kernel_rfl) (by kernel_rfl) (fun _ _ _ h => h) (Or.inl ⟨by rfl, ?_⟩) (by assumption) ?_
  rotate_left 1
  · (intro w hSw; (try dsimp only at hSw); go_simp; try with_reducible rfl)
  try simp only [Act.put, List.setIfInBounds_toArray, List.set_cons_zero, List.set_cons_succ]
  refine wpAnyH_take (i := 14) (oi := { dst := some 65, op := Go.Op.binOp Go.BinOp.neq 3 (Go.Operand.tmp 62) (Go.Operand.tmp 64) 3, type := 4, pos := "law.go:81", after := #[{ on := 11, ground := Go.Ground.data }, { on := 13, ground := Go.Ground.data }, { on := 9, ground := Go.Ground.guard }], guard := some (9, false) }) (v := ?_) rfl (by kernel_rfl) (by kernel_rfl) (by kernel_rfl) (fun _ _ _ h => h) (Or.inl ⟨by rfl, ?_⟩) (by assumption) ?_
  rotate_left 1
  · (intro w hSw; (try dsimp only at hSw); go_simp; try with_reducible rfl)
  try simp only [Act.put, List.setIfInBounds_toArray, List.set_cons_zero, List.set_cons_succ]
  refine wpAnyH_take (i := 15) (oi := { dst := some 66, op := Go.Op.pick (Go.Operand.tmp 60) (Go.Operand.const (Go.Value.bool true)) (Go.Operand.tmp 65), type := 4, pos := "law.go:81", after := #[{ on := 9, ground := Go.Ground.data }, { on := 14, ground := Go.Ground.data }], guard := none }) (v := ?_) rfl (by kernel_rfl) (by kernel_rfl) (by kernel_rfl) (fun _ _ _ h => h) (Or.inl ⟨by rfl, ?_⟩) (by assumption) ?_
  rotate_left 1
  · (intro w hSw; (try dsimp only at hSw); go_simp; try with_reducible rfl)
  try simp only [Act.put, List.setIfInBounds_toArray, List.set_cons_zero, List.set_cons_succ]
  refine wpAnyH_done (by kernel_rfl) ?_ _
  refine NoPanic.normal ?_
  clear KK nq HXd
  go_wp2
  go_loopw [17] (fun iv wr => ∃ (i : Nat), i ≤ N ∧ iv = .int .i64 i ∧ Hid (Below W5.heap.size W5 wr)) (fun iv _ => N - (intOf iv).toNat)
  case atStart => exact ⟨0, by omega, rfl, HXe⟩
  case round =>
    clear HXe
    obtain ⟨i, hi, rfl, HX⟩ := hrel
    by_cases hlt : i < N
    · obtain ⟨adl, A7, c7, rfl, hcl, hKl⟩ := rowss_get HL6.out i hlt
      obtain ⟨adr, A8, c8, rfl, hcr, hKr⟩ := rowss_get HR6.out i hlt
      have SAi := Lib.hid (fun W (hB : Below W5.heap.size W5 W) => SA.out i A7 c7 A8 c8 W hlt (Kd.C_below hKl hB) (Kd.C_below hKr hB))
      obtain ⟨m, hm⟩ : ∃ m, m = (ls.getD i []).length := ⟨_, rfl⟩
      rw [← hm] at hcl hcr SAi
      have KI := Lib.hid (fun W (hB : Below W5.heap.size W5 W) => And.intro (pw_cell_below hB hcl) (pw_cell_below hB hcr))
      have g1 : (i : Int) < (N : Int) := by omega
      have g2 : (0 : Int) ≤ (i : Int) := by omega
      have HXd := Lib.hid (show Below W5.heap.size W5 wr.drew from HX.out.drew)
      clear hKl hKr hm hcl hcr
      go_upto_region 11 with (fail)
      refine wp_region_noPanic ?_
      refine wp_region_held_drew (S := (fun W => W.cell? (adl.add i) = some (.slice A7 m c7) ∧ W.cell? (adr.add i) = some (.slice A8 m c8))) (by kernel_rfl) ?_ (fun hHeld => ?_)
      · ((try dsimp only); exact KI.out _ HXd.out)
      refine wpAnyH_take (i := 0) (oi := { dst := some 73, op := Go.Op.move (Go.Operand.tmp 12), type := 49, pos := "law.go:85", after := #[], guard := none }) (v := ?_) rfl (by kernel_rfl) (by kernel_rfl) (by kernel_rfl) (fun _ _ _ h => h) (Or.inl ⟨by rfl, ?_⟩) (by assumption) ?_
      rotate_left 1
      · (intro w hSw; (try dsimp only at hSw); go_simp; try with_reducible rfl)
      try simp only [Act.put, List.setIfInBounds_toArray, List.set_cons_zero, List.set_cons_succ]
      refine wpAnyH_take (i := 1) (oi := { dst := some 74, op := Go.Op.move (Go.Operand.tmp 17), type := 3, pos := "law.go:85", after := #[], guard := none }) (v := ?_) rfl (by kernel_rfl) (by kernel_rfl) (by kernel_rfl) (fun _ _ _ h => h) (Or.inl ⟨by rfl, ?_⟩) (by assumption) ?_
      rotate_left 1
      · (intro w hSw; (try dsimp only at hSw); go_simp; try with_reducible rfl)
      try simp only [Act.put, List.setIfInBounds_toArray, List.set_cons_zero, List.set_cons_succ]
      refine wpAnyH_take (i := 2) (oi := { dst := some 75, op := Go.Op.indexAddr 49 (Go.Operand.tmp 73) (Go.Operand.tmp 74), type := 0, pos := "law.go:85", after := #[{ on := 0, ground := Go.Ground.data }, { on := 1, ground := Go.Ground.data }], guard := none }) (v := ?_) rfl (by kernel_rfl) (by kernel_rfl) (by kernel_rfl) (fun _ _ _ h => h) (Or.inl ⟨by rfl, ?_⟩) (by assumption) ?_
      rotate_left 1
      · (intro w hSw; (try dsimp only at hSw); go_simp; try with_reducible rfl)
      try simp only [Act.put, List.setIfInBounds_toArray, List.set_cons_zero, List.set_cons_succ]
      refine wpAnyH_take (i := 3) (oi := { dst := some 76, op := Go.Op.load 39 (Go.Operand.tmp 75), type := 39, pos := "law.go:85", after := #[{ on := 2, ground := Go.Ground.data }], guard := none }) (v := ?_) rfl (by kernel_rfl) (by kernel_rfl) (by kernel_rfl) (fun _ _ _ h => h) (Or.inl ⟨by rfl, ?_⟩) (by assumption) ?_
      rotate_left 1
      · (intro w hSw; (try dsimp only at hSw); go_simp; try with_reducible rfl)
      try simp only [Act.put, List.setIfInBounds_toArray, List.set_cons_zero, List.set_cons_succ]
      refine wpAnyH_take (i := 4) (oi := { dst := some 77, op := Go.Op.move (Go.Operand.tmp 15), type := 49, pos := "law.go:85", after := #[], guard := none }) (v := ?_) rfl (by kernel_rfl) (by kernel_rfl) (by kernel_rfl) (fun _ _ _ h => h) (Or.inl ⟨by rfl, ?_⟩) (by assumption) ?_
      rotate_left 1
      · (intro w hSw; (try dsimp only at hSw); go_simp; try with_reducible rfl)
      try simp only [Act.put, List.setIfInBounds_toArray, List.set_cons_zero, List.set_cons_succ]
      refine wpAnyH_take (i := 5) (oi := { dst := some 78, op := Go.Op.move (Go.Operand.tmp 17), type := 3, pos := "law.go:85", after := #[], guard := none }) (v := ?_) rfl (by kernel_rfl) (by kernel_rfl) (by kernel_rfl) (fun _ _ _ h => h) (Or.inl ⟨by rfl, ?_⟩) (by assumption) ?_
      rotate_left 1
      · (intro w hSw; (try dsimp only at hSw); go_simp; try with_reducible rfl)
      try simp only [Act.put, List.setIfInBounds_toArray, List.set_cons_zero, List.set_cons_succ]
      refine wpAnyH_take (i := 6) (oi := { dst := some 79, op := Go.Op.indexAddr 49 (Go.Operand.tmp 77) (Go.Operand.tmp 78), type := 0, pos := "law.go:85", after := #[{ on := 4, ground := Go.Ground.data }, { on := 5, ground := Go.Ground.data }], guard := none }) (v := ?_) rfl (by kernel_rfl) (by kernel_rfl) (by kernel_rfl) (fun _ _ _ h => h) (Or.inl ⟨by rfl, ?_⟩) (by assumption) ?_
      rotate_left 1
      · (intro w hSw; (try dsimp only at hSw); go_simp; try with_reducible rfl)
      try simp only [Act.put, List.setIfInBounds_toArray, List.set_cons_zero, List.set_cons_succ]
      refine wpAnyH_take (i := 7) (oi := { dst := some 80, op := Go.Op.load 39 (Go.Operand.tmp 79), type := 39, pos := "law.go:85", after := #[{ on := 6, ground := Go.Ground.data }], guard := none }) (v := ?_) rfl (by kernel_rfl) (by kernel_rfl) (by kernel_rfl) (fun _ _ _ h => h) (Or.inl ⟨by rfl, ?_⟩) (by assumption) ?_
      rotate_left 1
      · (intro w hSw; (try dsimp only at hSw); go_simp; try with_reducible rfl)
      try simp only [Act.put, List.setIfInBounds_toArray, List.set_cons_zero, List.set_cons_succ]
      refine wpAnyH_ready (rs := [8]) (by kernel_rfl) (by simp) ?_
      refine AllReadyH.cons (o := { dst := some 81, op := Go.Op.call { callee := Go.Callee.value (Go.Operand.func 17), args := #[Go.Operand.tmp 76, Go.Operand.tmp 80], argTypes := #[39, 39] }, type := 4, pos := "law.go:85", after := #[{ on := 3, ground := Go.Ground.data }, { on := 7, ground := Go.Ground.data }], guard := none }) rfl (fun K hK => ?_) AllReadyH.nil
      go_simp
      go_at_call 17
      (refine (SAi.out _ HXd.out).mono ?_); rintro e u1 ⟨rfl, hb⟩; have HXe := Lib.hid (HXd.out.trans (hb.mono HXd.out.size)); clear hb
      clear hHeld
      refine hK.out _ _ ?_ (fun hHeld => ?_)
      · ((try dsimp only); exact KI.out _ HXe.out)
      clear hK K
      refine wpAnyH_take (i := 9) (oi := { dst := some 82, op := Go.Op.unOp Go.UnOp.not 4 (Go.Operand.tmp 81), type := 4, pos := "law.go:85", after := #[{ on := 8, ground := Go.Ground.data }], guard := none }) (v := ?_) rfl (by kernel_rfl) (by kernel_rfl) (by kernel_rfl) (fun _ _ _ h => h) (Or.inl ⟨by rfl, ?_⟩) (by assumption) ?_
      rotate_left 1
      · (intro w hSw; (try dsimp only at hSw); go_simp; try with_reducible rfl)
      try simp only [Act.put, List.setIfInBounds_toArray, List.set_cons_zero, List.set_cons_succ]
      refine wpAnyH_done (by kernel_rfl) ?_ _
      refine NoPanic.normal ?_
      go_wp2
      go_roundw
      case rel => exact ⟨i + 1, by omega, by go_num, HXe⟩
      case measure => simp [intOf]; omega
    · obtain rfl : i = N := by omega
      go_wp2_with (go_at_call 8; (with_reducible refine (AW.out _).mono ?_); rintro e w9 ⟨rfl, hb⟩; have HX9 := Lib.hid (HX.out.trans (hb.mono HX.out.size)); clear hb)
      go_ret
      exact ⟨rfl, HB6.out.trans (HX9.out.mono HB6.out.size)⟩

theorem r_u8 {a : Int} (h : (Lit.int .u8 a).wf = true) : 0 ≤ a ∧ a < 256 := by
  simp [Lit.wf, IntKind.min, IntKind.max, IntKind.signed, IntKind.bits] at h; omega
theorem opens_bytes : Opens (Kd.slice 5 (Kd.int .u8)) (fun l => l.length ≤ 9223372036854775807 ∧ ∀ a ∈ l, (Lit.int .u8 a).wf = true) 38 := opens_slice Try.underlying38 (by kernel_rfl) (opens_int Try.underlying5)
theorem ss_row (n : Int) (_ : (Lit.int .i64 n).wf = true) (k : Int) (_ : (Lit.int .i64 k).wf = true) (p : Int) (_ : (Lit.int .i64 p).wf = true)
    {w : World} (A : Option Addr) (c : Nat) (b : List Int) (hB1 : (Kd.int .u8).C w A b.length b) (hc1 : b.length ≤ c) (hok1 : b.length ≤ 9223372036854775807 ∧ ∀ a ∈ b, (Lit.int .u8 a).wf = true) (_ : World) :
    Calls Try.prog 5 #[.int .i64 n, .int .i64 k, .int .i64 p, .slice A b.length c] w fun e w' => e = .returned (.bool true) ∧ Below w.heap.size w w' := by
  by_cases hr : 2 ≤ k ∧ k ≤ 4 ∧ 2 * k - 1 ≤ n ∧ n ≤ 12
  · obtain ⟨r1, r2, r3, r4⟩ := hr
    obtain ⟨k, rfl⟩ := Int.eq_ofNat_of_zero_le (show 0 ≤ k by omega)
    obtain ⟨n, rfl⟩ := Int.eq_ofNat_of_zero_le (show 0 ≤ n by omega)
    have k1 : 2 ≤ k := by omega
    have k2 : k ≤ 4 := by omega
    have n1 : 2 * k - 1 ≤ n := by omega
    have n2 : n ≤ 12 := by omega
    by_cases hbig : 300 < b.length
    · exact ss_long n k p A _ c w k1 k2 n1 n2 hbig
    · have hL : b.length ≤ 300 := by omega
      obtain ⟨s, hs⟩ : ∃ s, k * (k - 1) = s := ⟨_, rfl⟩
      have hbyt : ∀ x ∈ b, Byt x := fun x hx => r_u8 (hok1.2 x hx)
      rcases of_both n k s b.length p k1 k2 hs hL with ⟨e, he, hrf, hof⟩ | ⟨C, q, hrf, hof, hq, hC, hS1, hS2⟩
      · refine ss_any n k b.length 0 p 0 0 0 e A c [] w k1 k2 n1 n2 hL rfl (by omega) (fun i hi => absurd hi (Nat.not_lt_zero i)) (fun v W hc hB => ?_) (fun W hB => ?_)
        · refine (spread_err v b.length c p e A W he (hof v _ (hc.below ((Below.refl _ _).alloc (Nat.le_refl _) _)).code)).mono ?_
          rintro e' w' ⟨rfl, hb⟩
          exact ⟨none, 0, rfl, Kd.C_nil _ _, hb⟩
        · refine (refspread_err n k b.length c p e A W he hrf).mono ?_
          rintro e' w' ⟨rfl, hb⟩
          exact ⟨none, 0, rfl, Kd.C_nil _ _, hb⟩
      · refine ss_any n k b.length C p b.length C q 0 A c (spreadM n k q (s * q) b C) w k1 k2 n1 n2 hL (spreadM_len _ _ _ _ _ _) (by omega) (fun i hi => ?_) (fun v W hc hB => ?_) (fun W hB => ?_)
        · rw [spreadM_get n k q (s * q) b C i hi, shardsM_len]
          exact ⟨by omega, shardsM_byt _ _ _ _ _⟩
        · refine (spread_good n k s q (s * q) C b.length p v A c b W hc k1 k2 (by omega) hs rfl hof hq hC hS1 hS2 (Kd.C_below hB1 hB) rfl hc1 hL hbyt).mono ?_
          rintro e' w' ⟨u, rfl, hR, hb⟩
          obtain ⟨A3, c3, rfl, _, hC3⟩ := Kd.R_reads hR
          rw [spreadM_len] at hC3 ⊢
          exact ⟨A3, c3, rfl, hC3, hb⟩
        · refine (refspread_good n k s q (s * q) C b.length p A c b W k1 k2 (by omega) hs rfl hrf hq hC hS1 hS2 (Kd.C_below hB1 hB) rfl hc1 hL hbyt).mono ?_
          rintro e' w' ⟨u, rfl, hR, hb⟩
          obtain ⟨A3, c3, rfl, _, hC3⟩ := Kd.R_reads hR
          rw [spreadM_len] at hC3 ⊢
          exact ⟨A3, c3, rfl, hC3, hb⟩
  · exact ss_no n k p A _ c w hr
end Go.Proofs.Ytjoblpkfpfclpaa.Str
