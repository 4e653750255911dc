/- The law StripeCuts: the walk. -/
import Derived.Test.YtjoblpkfpfclpaaProg
import Derived.Below
import Derived.Deep.Draws
import Derived.Deep.AppendLies
import Derived.Maps.AppendAt
import Derived.OwnWalk
import Derived.Laws.BytesArg
import Derived.Laws.MakeOwn
import Derived.Laws.OwnMore
import Derived.Deep.OwnRows
import Derived.Tactics
import Derived.Lib.ConvBytes
import Derived.Laws.Slices
import Derived.WalkKit
import Derived.KernelRfl
import Derived.RowKit3
import Derived.Deep.LoopGhost
import Derived.Deep.QuietTactic
import Derived.BigQuiet
import Derived.WideLaws
import Derived.Deep.DeepCutAuto
import Derived.Deep.CutBlock
import Derived.Deep.RegionHeld3
import Derived.Laws.Rows
import Derived.Lib.AppendStr
import Derived.ArgAppend
import Derived.Laws.IdiomCopy
import Derived.OrdersHeld
import Derived.Laws.BitsLemmas
import Derived.RowKit
import Derived.Lib.Hide
import Derived.WalkSpells
import Derived.StillTailTactics
import Derived.Outline
import Derived.OrdersHeld
import Derived.Deep.RegionHeld3
import Derived.Test.YtjoblpkfpfclpaaBStripePlansCuts6
namespace Go.Proofs.Ytjoblpkfpfclpaa.Str
open Go Go.RowKit Go.Proofs.Ytjoblpkfpfclpaa.PStripePlans Go.Proofs.Ytjoblpkfpfclpaa.Gf Go.Proofs.Ytjoblpkfpfclpaa.Bits Go.Proofs.Ytjoblpkfpfclpaa.Mem Go.Proofs.Ytjoblpkfpfclpaa.Rws Go.Proofs.YtjoblpkfpfclpaaW.PrintWords Go.Proofs.YtjoblpkfpfclpaaW.PrintLast
set_option linter.unusedVariables false

theorem cutL_bytes (S : Nat) (b : List Int) (c : Nat) (h : Bytes b) : AllBytes (cutL S b c) := by
  intro x hx
  obtain ⟨j, _, rfl⟩ := List.mem_map.1 hx
  intro y hy
  unfold pad seg at hy
  rcases List.mem_append.1 hy with hy | hy
  · exact h y (List.mem_of_mem_drop (List.mem_of_mem_take hy))
  · rw [(List.mem_replicate.1 hy).2]; exact ⟨by decide, by decide⟩
theorem cells3 {w : World} {g : Nat} {t : TypeId} {a b c : Value} (h : Blk w g t #[a, b, c]) : w.cell? ⟨g, 0, none⟩ = some a ∧ w.cell? ⟨g, 1, none⟩ = some b ∧ w.cell? ⟨g, 2, none⟩ = some c := ⟨(h.cell 0).trans rfl, (h.cell 1).trans rfl, (h.cell 2).trans rfl⟩
theorem str_reads {w : World} {A : Option Addr} {n c : Nat} {xs : List Int} (h : ReadsInt w .u8 A n xs) : (convert 38 9 (.slice A n c)).run Try.prog w = .ok (.string (strOfNums xs)) w :=
  string_of_reads Try.underlying38 Try.underlying5 Try.underlying9 h
theorem str_any {w : World} {A : Option Addr} {m c : Nat} {ys : List Int} (h : (Kd.int .u8).C w A m ys) (W : World) (hb : Below w.heap.size w W) : (convert 38 9 (.slice A m c)).run Try.prog W = .ok (.string (strOfNums ys)) W :=
  str_reads (Kd.reads_of_C (d := (0 : Int)) (Kd.C_below h hb))
/-- What both say of any rows, joined. -/
theorem joins_both (n k s p S c L N : Nat) (l : List (List Int)) (k1 : 1 ≤ k) (k2 : k ≤ 8) (hs : k * (k - 1) = s) (hS : s * p = S) (hp2 : p ≤ 20000) (hN : N = l.length) (hl : N ≤ 100) (hb : ∀ x ∈ l, x.length ≤ 20000) (hL : L ≤ 20000) :
    ∃ (okb : Bool) (ny : Nat) (ys : List Int) (ei : Int), (okb = true → ei = 0) ∧ (okb = false → ei = 1) ∧
      (∀ v A c0 W, IsCode W v n k → Kd.C kRow W A N l → Calls Try.prog 19 #[v, planV L c p, .slice A N c0] W fun e w' => ∃ A' c', e = .returned (.tuple #[.slice A' ny c', .int .i64 ei]) ∧ (Kd.int .u8).C w' A' ny ys ∧ Below W.heap.size W w') ∧
      (∀ A c0 W, Kd.C kRow W A N l → Calls Try.prog 20 #[.int .i64 k, planV L c p, .slice A N c0] W fun e w' => ∃ A' c', e = .returned (.tuple #[.slice A' ny c', .bool okb]) ∧ (Kd.int .u8).C w' A' ny ys ∧ Below W.heap.size W w') := by
  subst hN
  by_cases h : okJ S L c l
  · refine ⟨true, L, l.flatten.take L, 0, fun _ => rfl, (fun q => Bool.noConfusion q), fun v A c0 W hc hR => ?_, fun A c0 W hR => ?_⟩
    · refine (join_any n k s p S c L v A c0 l W hc k1 k2 hs hS hp2 hR hl hb hL).mono ?_
      rintro e w' ⟨⟨_, A', c', rfl, _, hr⟩ | ⟨hn, _⟩, hB⟩
      · exact ⟨A', c', rfl, Kd.C_of_reads (d := (0 : Int)) hr, hB⟩
      · exact absurd h hn
    · refine (refjoin_any k s p S c L A c0 l W k1 k2 hs hS hp2 hR hl hb hL).mono ?_
      rintro e w' ⟨⟨_, A', c', rfl, _, hr⟩ | ⟨hn, _⟩, hB⟩
      · exact ⟨A', c', rfl, Kd.C_of_reads (d := (0 : Int)) hr, hB⟩
      · exact absurd h hn
  · have hz : ∀ w' : World, (Kd.int .u8).C w' none 0 [] := fun w' => Kd.C_of_reads (d := (0 : Int)) (by exact ReadsInt.nil w' .u8)
    refine ⟨false, 0, [], 1, (fun q => Bool.noConfusion q), fun _ => rfl, fun v A c0 W hc hR => ?_, fun A c0 W hR => ?_⟩
    · refine (join_any n k s p S c L v A c0 l W hc k1 k2 hs hS hp2 hR hl hb hL).mono ?_
      rintro e w' ⟨⟨hy, _⟩ | ⟨hn, rfl⟩, hB⟩
      · exact absurd hy h
      · exact ⟨none, 0, rfl, hz w', hB⟩
    · refine (refjoin_any k s p S c L A c0 l W k1 k2 hs hS hp2 hR hl hb hL).mono ?_
      rintro e w' ⟨⟨hy, _⟩ | ⟨hn, rfl⟩, hB⟩
      · exact absurd hy h
      · exact ⟨none, 0, rfl, hz w', hB⟩
set_option maxRecDepth 100000 in
set_option maxHeartbeats 4000000 in
theorem cuts_good (n k p L1 C0 P0 C1 P1 s S0 S1 : Nat) (A1 : Option Addr) (m1 c1 : Nat) (b : List Int) (A2 : Option Addr) (N c2 : Nat) (l : List (List Int)) (w : World)
    (k1 : 2 ≤ k) (k2 : k ≤ 4) (n1 : 2 * k - 1 ≤ n) (n2 : n ≤ 12) (hs : k * (k - 1) = s) (hb : (Kd.int .u8).C w A1 m1 b) (hm1 : m1 = b.length) (hc1 : m1 ≤ c1) (hm2 : m1 ≤ 400) (hbb : Bytes b)
    (hl : Kd.C kRow w A2 N l) (hN : N = l.length) (hc2 : N ≤ c2) (hN2 : N ≤ 40) (hl2 : ∀ x ∈ l, x.length ≤ 400)
    (hq : coldframeref08_Of.f 60000 k m1 p = some ((m1 : Int), (C0 : Int), (P0 : Int), 0)) (hz : coldframeref08_Of.f 60000 k L1 p = some ((L1 : Int), (C1 : Int), (P1 : Int), 0))
    (hS0 : s * P0 = S0) (hS1 : s * P1 = S1) (hp0 : 1 ≤ P0 ∧ P0 ≤ 20000) (hp1 : 1 ≤ P1 ∧ P1 ≤ 20000) (hs0 : 1 ≤ S0 ∧ S0 ≤ 20000) (hs1 : 1 ≤ S1 ∧ S1 ≤ 20000) (hC0 : m1 ≤ C0 * S0 ∧ (∀ i, i < C0 → i * S0 < m1) ∧ C0 ≤ 100) (hC1 : L1 ≤ C1 * S1 ∧ (∀ i, i < C1 → i * S1 < L1) ∧ C1 ≤ 100) (hL1 : L1 ≤ 20000)
    (bj : Bool) (hbj : ((L1 : Int) == (m1 : Int)) = bj) :
    Calls Try.prog 4 #[.int .i64 n, .int .i64 k, .int .i64 p, .slice A1 m1 c1, .slice A2 N c2, .int .i64 L1] w fun e w' => e = .returned (.bool true) ∧ Below w.heap.size w w' := by
  have SM := Lib.hid (small_yes n k w k1 k2 n1 n2)
  have NC := Lib.hid (fun W => new_code n k W k1 (by omega) n1 (by omega))
  have RQ := Lib.hid (fun W => refof_calls k m1 p m1 C0 P0 0 W hq)
  have RZ := Lib.hid (fun W => refof_calls k L1 p L1 C1 P1 0 W hz)
  have HB := Lib.hid (fun W (hB : Below w.heap.size w W) => Kd.C_below hb hB)
  have HL := Lib.hid (fun W (hB : Below w.heap.size w W) => Kd.C_below hl hB)
  have HL2 := Lib.hid hl2
  have HN := Lib.hid hN
  have CUT := Lib.hid (fun (v : Value) W (hc : IsCode W v n k) (hB : Below w.heap.size w W) => cut_yes n k s P0 S0 C0 C0 v A1 m1 c1 b W hc (by omega) (by omega) hs hS0 hs0.1 hs0.2 hp0.1 hp0.2 (Kd.C_below hb hB) hm1 hc1 (by omega) hC0.1 hC0.2.1 (by omega))
  have RCUT := Lib.hid (fun W (hB : Below w.heap.size w W) => refcut_any k s P0 S0 C0 m1 m1 A1 c1 b W (by omega) (by omega) hs hS0 hs0.1 hs0.2 hp0.2 (Kd.C_below hb hB) hm1 hc1 (by omega) hC0.2.1 (by omega))
  have q1 : ¬ (400 : Int) < (m1 : Int) := by omega
  have q2 : decide ((m1 : Int) > 400) = false := by simp; omega
  have q3 : ¬ (40 : Int) < (N : Int) := by omega
  have q4 : decide ((N : Int) > 40) = false := by simp; omega
  have HM1 := Lib.hid hm1
  have HBB := Lib.hid hbb
  obtain ⟨ej, hej, hcut⟩ : ∃ ej : Int, ((bj = true → ej = 0) ∧ (bj = false → ej = 1)) ∧ ∀ (v : Value) W, IsCode W v n k → Below w.heap.size w W → Calls Try.prog 16 #[v, planV L1 C1 P1, .slice A1 m1 c1] W fun e w' => ∃ u, e = .returned (.tuple #[u, .int .i64 ej]) ∧ Below W.heap.size W w' := by
    by_cases e : L1 = m1
    · refine ⟨0, ⟨fun _ => rfl, fun q => by rw [← hbj] at q; simp [e] at q⟩, fun v W hc hB => (cut_yes n k s P1 S1 C1 C1 v A1 m1 c1 b W hc (by omega) (by omega) hs hS1 hs1.1 hs1.2 hp1.1 hp1.2 (Kd.C_below hb hB) hm1 hc1 (by omega) (by rw [← e]; exact hC1.1) (by rw [← e]; exact hC1.2.1) (by omega)).mono ?_ |> fun h => by rw [← e] at h ⊢; exact h⟩
      rintro e' w' ⟨u, rfl, _, h⟩
      exact ⟨u, rfl, h⟩
    · refine ⟨1, ⟨fun q => by rw [← hbj] at q; simp at q; omega, fun _ => rfl⟩, fun v W hc hB => (cut_bad n k v (L1 : Int) (C1 : Int) (P1 : Int) A1 m1 c1 W hc (.inl (by omega))).mono ?_⟩
      rintro e' w' ⟨rfl, h⟩
      exact ⟨_, rfl, h⟩
  obtain ⟨okb, ny, ys, ei, hi1, hi0, hjoin, hrjoin⟩ := joins_both n k s P1 S1 C1 L1 N l (by omega) (by omega) hs hS1 hp1.2 hN (by omega) (fun x hx => Nat.le_trans (hl2 x hx) (by decide)) hL1
  have CUTJ := Lib.hid hcut
  have EJ := Lib.hid hej
  have JZ := Lib.hid hjoin
  have RJZ := Lib.hid hrjoin
  have HI1 := Lib.hid hi1
  have HI0 := Lib.hid hi0
  have CUTE := Lib.hid (fun (v : Value) W (hc : IsCode W v n k) => cut_bad n k v 0 0 0 none 0 0 W hc (.inr (by decide)))
  have JN := Lib.hid (fun (v : Value) (A : Option Addr) (c : Nat) (x : List (List Int)) W (hc : IsCode W v n k) (hR : RowsC W A x) (hl : x.length ≤ 100) (hb : ∀ y ∈ x, y.length ≤ 20000) => join_any n k s P0 S0 C0 m1 v A c x W hc (by omega) (by omega) hs hS0 hp0.2 hR hl hb (by omega))
  have HCC := Lib.hid hC0.2.2
  have JC := Lib.hid (fun (v : Value) (A : Option Addr) (m c : Nat) W (hc : IsCode W v n k) (hm : m = (cutL S0 b C0).length) (hR : Kd.C kRow W A m (cutL S0 b C0)) => show Calls Try.prog 19 #[v, planV m1 C0 P0, .slice A m c] W (fun e w' => ∃ A' c', e = .returned (.tuple #[.slice A' m1 c', .int .i64 0]) ∧ m1 ≤ c' ∧ ReadsInt w' .u8 A' m1 b ∧ Below W.heap.size W w') by
    subst hm
    have hC : C0 ≤ 100 := hC0.2.2
    refine (JN.out v A c (cutL S0 b C0) W hc hR (by rw [cutL_len]; exact hC) (fun y hy => by rw [cutL_even S0 b C0 y hy]; exact hs0.2)).mono ?_
    rintro e w' ⟨h1, h2⟩
    rcases h1 with ⟨_, A', c', rfl, hc', hr⟩ | ⟨hn, _⟩
    · rw [hm1, cut_flat S0 b C0 (by rw [← hm1]; exact hC0.1) (by rw [← hm1]; exact hC0.2.1), ← hm1] at hr
      exact ⟨A', c', rfl, hc', hr, h2⟩
    · exact absurd ⟨cutL_len S0 b C0, cutL_even S0 b C0, by rw [cut_flat_len]; exact hC0.1⟩ hn)
  have TQ := Lib.hid (fun W => to_calls m1 C0 P0 W)
  have TZ := Lib.hid (fun W => to_calls L1 C1 P1 W)
  clear k1 k2 n1 n2 hb hc1 hl hN hc2 hl2 hq hz hm1 hm2 hbb hN2 hs hS0 hS1 hp0 hp1 hs0 hs1 hC0 hC1 hL1 hcut hej hjoin hrjoin hi1 hi0
  go_enter Try.func4, Try.ntmps4
  go_wp2_with (go_at_call 15; (with_reducible refine SM.out.mono ?_); rintro e w1 ⟨rfl, hb⟩; have HB1 := Lib.hid hb; clear hb)
  go_loopw [13] (fun iv wr => ∃ (i : Nat), i ≤ N ∧ iv = .int .i64 i ∧ Hid (Below w.heap.size w wr)) (fun iv _ => N - (intOf iv).toNat)
  case atStart => exact ⟨0, by omega, rfl, HB1⟩
  case round =>
    obtain ⟨i, hi, rfl, HBW⟩ := hrel
    by_cases hlt : i < N
    · have hC := HL.out _ HBW.out
      rw [HN.out] at hC
      obtain ⟨ad, A9, c9, rfl, hcell, _, _⟩ := RowsC.get hC i (by rw [← HN.out]; exact hlt)
      have hle : (l.getD i []).length ≤ 400 := HL2.out _ (getD_mem (by rw [← HN.out]; exact hlt))
      obtain ⟨m9, hm9⟩ : ∃ m9, m9 = (l.getD i []).length := ⟨_, rfl⟩
      rw [← hm9] at hcell hle
      have e1 : ¬ (400 : Int) < (m9 : Int) := by omega
      have e2 : (0 : Int) ≤ (i : Int) := by omega
      have e3 : (i : Int) < (N : Int) := by omega
      clear hC hm9
      go_wp2
      go_roundw
      case rel => exact ⟨i + 1, by omega, by go_num, HBW⟩
      case measure => simp [intOf]; omega
    · obtain rfl : i = N := by omega
      clear HB1
      go_upto_region 9 with (go_at_call 9; (with_reducible refine (NC.out _).mono ?_); rintro e w2 ⟨v, rfl, hcd, hb⟩; have HV := Lib.hid hcd; have HB2 := Lib.hid (HBW.out.trans (hb.mono HBW.out.size)); clear hcd hb)
      go_upto_region 10 with (go_at_call 11; (with_reducible refine (RQ.out _).mono ?_); rintro e w3 ⟨rfl, hb⟩; have HV3 := Lib.hid (IsCode.below HV.out hb); have HB3 := Lib.hid (HB2.out.trans (hb.mono HB2.out.size)); clear hb)
      obtain ⟨W3, hW3⟩ : ∃ W3, W3 = w3.alloc (.cells #[.int .i64 m1, .int .i64 C0, .int .i64 P0] 32) := ⟨_, rfl⟩
      obtain ⟨Q0, hQ0⟩ : ∃ Q0, Q0 = w3.heap.size := ⟨_, rfl⟩
      have hb3 : Below w3.heap.size w3 W3 := by rw [hW3]; exact (Below.refl _ _).alloc (Nat.le_refl _) _
      have HQ4 := Lib.hid (show Blk W3 Q0 32 #[.int .i64 m1, .int .i64 C0, .int .i64 P0] by rw [hW3, hQ0]; exact Blk.new _ _ _)
      have HV4 := Lib.hid (IsCode.below HV3.out hb3)
      have HB4 := Lib.hid (HB3.out.trans (hb3.mono HB3.out.size))
      rw [← hW3, ← hQ0]
      clear hW3 hQ0 hb3
      go_upto_region 11 with (go_at_call 11; (with_reducible refine (RZ.out _).mono ?_); rintro e w5 ⟨rfl, hb⟩; have HV5 := Lib.hid (IsCode.below HV4.out hb); have HB5 := Lib.hid (HB4.out.trans (hb.mono HB4.out.size)); have HQ5 := Lib.hid (Blk.below HQ4.out hb (Blk.lt HQ4.out)); clear hb)
      obtain ⟨W5, hW5⟩ : ∃ W5, W5 = w5.alloc (.cells #[.int .i64 L1, .int .i64 C1, .int .i64 P1] 32) := ⟨_, rfl⟩
      obtain ⟨Z0, hZ0⟩ : ∃ Z0, Z0 = w5.heap.size := ⟨_, rfl⟩
      have hb3 : Below w5.heap.size w5 W5 := by rw [hW5]; exact (Below.refl _ _).alloc (Nat.le_refl _) _
      have HZ6 := Lib.hid (show Blk W5 Z0 32 #[.int .i64 L1, .int .i64 C1, .int .i64 P1] by rw [hW5, hZ0]; exact Blk.new _ _ _)
      have HQ6 := Lib.hid (Blk.below HQ5.out hb3 (Blk.lt HQ5.out))
      have HV6 := Lib.hid (IsCode.below HV5.out hb3)
      have HB6 := Lib.hid (HB5.out.trans (hb3.mono HB5.out.size))
      rw [← hW5, ← hZ0]
      clear hW5 hZ0 hb3
      go_upto_region 13 with (fail)
      obtain ⟨q0, q1', q2'⟩ : W5.cell? ⟨Q0, 0, none⟩ = some (.int .i64 m1) ∧ W5.cell? ⟨Q0, 1, none⟩ = some (.int .i64 C0) ∧ W5.cell? ⟨Q0, 2, none⟩ = some (.int .i64 P0) := ⟨(Blk.cell HQ6.out 0).trans rfl, (Blk.cell HQ6.out 1).trans rfl, (Blk.cell HQ6.out 2).trans rfl⟩
      go_upto_region 14 with (first
        | (go_at_call 12; (with_reducible refine (TQ.out _).mono ?_); rintro e w6 ⟨rfl, hb⟩; have HT6 := Lib.hid hb; clear hb)
        | (go_at_call 16; (with_reducible refine (CUT.out v _ (IsCode.below HV6.out HT6.out) (HB6.out.trans (HT6.out.mono HB6.out.size))).mono ?_); rintro e w7 ⟨u7, rfl, hrr, hb⟩; obtain ⟨A7, c7, rfl, hl7, hC7⟩ := Kd.R_reads hrr; have HT7 := Lib.hid (HT6.out.trans (hb.mono HT6.out.size)); obtain ⟨m7, hm7⟩ : ∃ m7, m7 = (cutL S0 b C0).length := ⟨_, rfl⟩; rw [← hm7] at hC7 ⊢; have HC7 := Lib.hid hC7; have HM7 := Lib.hid hm7; clear hb hrr hl7 hC7 hm7))
      clear q0 q1' q2'
      obtain ⟨q0, q1', q2'⟩ : w7.cell? ⟨Q0, 0, none⟩ = some (.int .i64 m1) ∧ w7.cell? ⟨Q0, 1, none⟩ = some (.int .i64 C0) ∧ w7.cell? ⟨Q0, 2, none⟩ = some (.int .i64 P0) := by
        have h := Blk.below HQ6.out HT7.out (Blk.lt HQ6.out)
        exact ⟨(h.cell 0).trans rfl, (h.cell 1).trans rfl, (h.cell 2).trans rfl⟩
      go_upto_region 16 with (first
        | (go_at_call 18; (with_reducible refine (RCUT.out w7 (HB6.out.trans (HT7.out.mono HB6.out.size))).mono ?_); rintro e w8 ⟨u8, rfl, hrr, hb⟩; obtain ⟨A8, c8, rfl, hl8, hC8⟩ := Kd.R_reads hrr; have HD8 := Lib.hid (Kd.C_below HC7.out hb); have HT8 := Lib.hid (HT7.out.trans (hb.mono HT7.out.size)); obtain ⟨m8, hm8⟩ : ∃ m8, m8 = (cutL S0 b C0).length := ⟨_, rfl⟩; rw [← hm8] at hC8 ⊢; have HC8 := Lib.hid hC8; have HM8 := Lib.hid hm8; clear hb hrr hl8 hC8 hm8)
        | (go_at_call 17; (with_reducible refine (same_true A7 A8 c7 c8 m7 m8 (cutL S0 b C0) (cutL S0 b C0) w8 HD8.out HM7.out HC8.out HM8.out (cutL_bytes S0 b C0 HBB.out) (by rw [cutL_len]; have := HCC.out; omega) rfl).mono ?_); rintro e w9 ⟨rfl, hb⟩; have HT9 := Lib.hid (HT8.out.trans (hb.mono HT8.out.size)); have HC9 := Lib.hid (Kd.C_below HD8.out hb); clear hb))
      clear q0 q1' q2'
      obtain ⟨q0, q1', q2'⟩ : w9.cell? ⟨Q0, 0, none⟩ = some (.int .i64 m1) ∧ w9.cell? ⟨Q0, 1, none⟩ = some (.int .i64 C0) ∧ w9.cell? ⟨Q0, 2, none⟩ = some (.int .i64 P0) := by
        have h := Blk.below HQ6.out HT9.out (Blk.lt HQ6.out)
        exact ⟨(h.cell 0).trans rfl, (h.cell 1).trans rfl, (h.cell 2).trans rfl⟩
      go_upto_region 17 with (first
        | (go_at_call 12; (with_reducible refine (TQ.out _).mono ?_); rintro e w10 ⟨rfl, hb⟩; have HT10 := Lib.hid (HT9.out.trans (hb.mono HT9.out.size)); have HC10 := Lib.hid (Kd.C_below HC9.out hb); clear hb)
        | (go_at_call 19; (with_reducible refine (JC.out v A7 m7 c7 w10 (IsCode.below HV6.out HT10.out) HM7.out HC10.out).mono ?_); rintro e w11 ⟨A11, c11, rfl, hc11, hr11, hb⟩; have HR11 := Lib.hid hr11; have HT11 := Lib.hid (HT10.out.trans (hb.mono HT10.out.size)); clear hb hc11 hr11))
      clear q0 q1' q2'
      have k1 := str_reads (c := c11) HR11.out
      have k2 := str_any (c := c1) (HB.out _ (Below.refl _ _)) w11 (HB6.out.trans (HT11.out.mono HB6.out.size))
      obtain ⟨z0, z1, z2⟩ := cells3 (Blk.below HZ6.out HT11.out (Blk.lt HZ6.out))
      go_upto_region 19 with (fail)
      go_upto_region 20 with (first
        | (go_at_call 12; (with_reducible refine (TZ.out _).mono ?_); rintro e w12 ⟨rfl, hb⟩; have HT12 := Lib.hid (HT11.out.trans (hb.mono HT11.out.size)); clear hb)
        | (go_at_call 19; (with_reducible refine (JZ.out v A2 c2 w12 (IsCode.below HV6.out HT12.out) (HL.out _ (HB6.out.trans (HT12.out.mono HB6.out.size)))).mono ?_); rintro e w13 ⟨A13, c13, rfl, hr13, hb⟩; have HR13 := Lib.hid hr13; have HT13 := Lib.hid (HT12.out.trans (hb.mono HT12.out.size)); clear hb hr13))
      clear z0 z1 z2 k1 k2
      obtain ⟨z0, z1, z2⟩ := cells3 (Blk.below HZ6.out HT13.out (Blk.lt HZ6.out))
      go_upto_region 21 with (go_at_call 20; (with_reducible refine (RJZ.out A2 c2 w13 (HL.out _ (HB6.out.trans (HT13.out.mono HB6.out.size)))).mono ?_); rintro e w14 ⟨A14, c14, rfl, hr14, hb⟩; have HR14 := Lib.hid hr14; have HT14 := Lib.hid (HT13.out.trans (hb.mono HT13.out.size)); have HS14 := Lib.hid (Kd.C_below HR13.out hb); clear hb hr14)
      clear z0 z1 z2
      obtain ⟨z0, z1, z2⟩ := cells3 (Blk.below HZ6.out HT14.out (Blk.lt HZ6.out))
      have HX := Lib.hid (Below.refl w14.heap.size w14)
      go_upto_region 22 with (first
        | (go_at_call 12; (with_reducible refine (TZ.out _).mono ?_); rintro e w15 ⟨rfl, hb⟩; have HX15 := Lib.hid hb; clear hb)
        | (go_at_call 16; (with_reducible refine (CUTJ.out v w15 (IsCode.below HV6.out (HT14.out.trans (HX15.out.mono HT14.out.size))) (HB6.out.trans ((HT14.out.trans (HX15.out.mono HT14.out.size)).mono HB6.out.size))).mono ?_); rintro e w16 ⟨u16, rfl, hb⟩; have HX16 := Lib.hid (HX15.out.trans (hb.mono HX15.out.size)); clear hb))
      clear z0 z1 z2
      obtain ⟨q0, q1', q2'⟩ := cells3 (Blk.below HQ6.out (HT14.out.trans (HX16.out.mono HT14.out.size)) (Blk.lt HQ6.out))
      go_upto_region 23 with (first
        | (go_at_call 12; (with_reducible refine (TQ.out _).mono ?_); rintro e w17 ⟨rfl, hb⟩; have HX17 := Lib.hid (HX16.out.trans (hb.mono HX16.out.size)); clear hb)
        | (go_at_call 16; (with_reducible refine (cut_none _ _ _ _ _ _ _).mono ?_); rintro e w18 ⟨rfl, hb⟩; have HX18 := Lib.hid (HX17.out.trans (hb.mono HX17.out.size)); clear hb))
      clear q0 q1' q2'
      obtain ⟨q0, q1', q2'⟩ := cells3 (Blk.below HQ6.out (HT14.out.trans (HX18.out.mono HT14.out.size)) (Blk.lt HQ6.out))
      go_upto_region 24 with (first
        | (go_at_call 12; (with_reducible refine (TQ.out _).mono ?_); rintro e w19 ⟨rfl, hb⟩; have HX19 := Lib.hid (HX18.out.trans (hb.mono HX18.out.size)); clear hb)
        | (go_at_call 19; (with_reducible refine (join_none _ _ _ _ _ _ _).mono ?_); rintro e w20 ⟨rfl, hb⟩; have HX20 := Lib.hid (HX19.out.trans (hb.mono HX19.out.size)); clear hb))
      clear q0 q1' q2'
      go_upto_region 25 with (go_at_call 16; (with_reducible refine (CUTE.out v _ (IsCode.below HV6.out (HT14.out.trans (HX20.out.mono HT14.out.size)))).mono ?_); rintro e w21 ⟨rfl, hb⟩; have HX21 := Lib.hid (HX20.out.trans (hb.mono HX20.out.size)); clear hb)
      have K1 := Lib.hid (fun W (hB : Below w14.heap.size w14 W) => And.intro (str_any (c := c13) HS14.out W hB) (str_any (c := c14) HR14.out W hB))
      have AW := Lib.hid awake_calls
      obtain ⟨k1, k2⟩ := K1.out _ HX21.out
      cases okb
      case true =>
        obtain rfl := HI1.out rfl
        cases bj
        case true =>
          obtain rfl := EJ.out.1 rfl
          go_wp2_with (go_at_call 8; (with_reducible refine (AW.out _).mono ?_); rintro e u4 ⟨rfl, hb⟩; have HX22 := Lib.hid (HX21.out.trans (hb.mono HX21.out.size)); clear hb)
          go_ret
          exact ⟨rfl, HB6.out.trans ((HT14.out.trans (HX22.out.mono HT14.out.size)).mono HB6.out.size)⟩
        case false =>
          obtain rfl := EJ.out.2 rfl
          go_wp2_with (go_at_call 8; (with_reducible refine (AW.out _).mono ?_); rintro e u4 ⟨rfl, hb⟩; have HX22 := Lib.hid (HX21.out.trans (hb.mono HX21.out.size)); clear hb)
          go_ret
          exact ⟨rfl, HB6.out.trans ((HT14.out.trans (HX22.out.mono HT14.out.size)).mono HB6.out.size)⟩
      case false =>
        obtain rfl := HI0.out rfl
        cases bj
        case true =>
          obtain rfl := EJ.out.1 rfl
          go_wp2_with (go_at_call 8; (with_reducible refine (AW.out _).mono ?_); rintro e u4 ⟨rfl, hb⟩; have HX22 := Lib.hid (HX21.out.trans (hb.mono HX21.out.size)); clear hb)
          go_ret
          exact ⟨rfl, HB6.out.trans ((HT14.out.trans (HX22.out.mono HT14.out.size)).mono HB6.out.size)⟩
        case false =>
          obtain rfl := EJ.out.2 rfl
          go_wp2_with (go_at_call 8; (with_reducible refine (AW.out _).mono ?_); rintro e u4 ⟨rfl, hb⟩; have HX22 := Lib.hid (HX21.out.trans (hb.mono HX21.out.size)); clear hb)
          go_ret
          exact ⟨rfl, HB6.out.trans ((HT14.out.trans (HX22.out.mono HT14.out.size)).mono HB6.out.size)⟩
end Go.Proofs.Ytjoblpkfpfclpaa.Str
