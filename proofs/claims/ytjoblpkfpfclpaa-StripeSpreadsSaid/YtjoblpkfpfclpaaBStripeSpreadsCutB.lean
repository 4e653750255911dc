/- StripeCuts, the plain laws: what the reference cuts and joins. -/
import Derived.Test.YtjoblpkfpfclpaaProg
import Derived.Below
import Derived.Deep.Draws
import Derived.Deep.AppendLies
import Derived.Maps.AppendAt
import Derived.OwnWalk
import Derived.Laws.BytesArg
import Derived.Laws.MakeOwn
import Derived.Laws.OwnMore
import Derived.Deep.OwnRows
import Derived.Tactics
import Derived.Lib.ConvBytes
import Derived.Laws.Slices
import Derived.WalkKit
import Derived.KernelRfl
import Derived.RowKit3
import Derived.Deep.LoopGhost
import Derived.Deep.QuietTactic
import Derived.BigQuiet
import Derived.WideLaws
import Derived.Deep.DeepCutAuto
import Derived.Deep.CutBlock
import Derived.Deep.RegionHeld3
import Derived.Laws.Rows
import Derived.Lib.AppendStr
import Derived.ArgAppend
import Derived.Laws.IdiomCopy
import Derived.OrdersHeld
import Derived.Laws.BitsLemmas
import Derived.RowKit
import Derived.Lib.Hide
import Derived.Test.YtjoblpkfpfclpaaBStripeSpreadsStrB
import Derived.WalkSpells
import Derived.StillTailTactics
import Derived.Outline
import Derived.Test.YtjoblpkfpfclpaaRows1
import Derived.Test.YtjoblpkfpfclpaaSame8
namespace Go.Proofs.Ytjoblpkfpfclpaa.Str
open Go Go.RowKit Go.Proofs.Ytjoblpkfpfclpaa.Gf Go.Proofs.Ytjoblpkfpfclpaa.Bits Go.Proofs.Ytjoblpkfpfclpaa.Mem Go.Proofs.Ytjoblpkfpfclpaa.VPts Go.Proofs.YtjoblpkfpfclpaaW.PrintWords Go.Proofs.YtjoblpkfpfclpaaW.PrintLast Go.Proofs.Ytjoblpkfpfclpaa.Rws
set_option linter.unusedVariables false

def pad (S : Nat) (l : List Int) : List Int := l ++ List.replicate (S - l.length) 0
def seg (S : Nat) (b : List Int) (i : Nat) : List Int := (b.drop (i * S)).take S
/-- The first i stripes. -/
def cutL (S : Nat) (b : List Int) (i : Nat) : List (List Int) := (List.range i).map (fun j => pad S (seg S b j))
theorem cutL_succ (S : Nat) (b : List Int) (i : Nat) : cutL S b (i + 1) = cutL S b i ++ [pad S (seg S b i)] := by simp [cutL, List.range_succ]
theorem cutL_len (S : Nat) (b : List Int) (i : Nat) : (cutL S b i).length = i := by simp [cutL]
theorem seg_len (S : Nat) (b : List Int) (i : Nat) : (seg S b i).length = min S (b.length - i * S) := by simp [seg]
theorem pad_len (S : Nat) (l : List Int) (h : l.length ≤ S) : (pad S l).length = S := by simp [pad]; omega
theorem cutL_even (S : Nat) (b : List Int) (i : Nat) : ∀ l ∈ cutL S b i, l.length = S := by
  intro l hl
  obtain ⟨j, _, rfl⟩ := List.mem_map.1 hl
  exact pad_len S _ (by rw [seg_len]; omega)
theorem set_mid (l : List Int) (n : Nat) (v : Int) : (l ++ List.replicate (n + 1) 0).set l.length v = (l ++ [v]) ++ List.replicate n 0 := by
  rw [List.set_append_right _ _ (Nat.le_refl _), Nat.sub_self, List.replicate_succ, List.set_cons_zero]; simp
/-- What rows are, joined: if there are so many, all of one size, and together long enough. -/
def okJ (S L c : Nat) (l : List (List Int)) : Prop := l.length = c ∧ (∀ x ∈ l, x.length = S) ∧ L ≤ l.flatten.length
/-- What is cut is joined as it was. -/
theorem cut_flat (S : Nat) (b : List Int) (c : Nat) (hc : b.length ≤ c * S) (hi : ∀ i, i < c → i * S < b.length) : (cutL S b c).flatten.take b.length = b := by
  have h : ∀ i, i ≤ c → ((cutL S b i).flatten.length = i * S) ∧ (cutL S b i).flatten.take b.length = b.take (i * S) := by
    intro i
    induction i with
    | zero => intro _; simp [cutL]
    | succ i ih =>
      intro hic
      obtain ⟨h1, h2⟩ := ih (by omega)
      have h3 := hi i (by omega)
      have hsl := seg_len S b i
      have hp := pad_len S (seg S b i) (by rw [hsl]; omega)
      rw [cutL_succ, List.flatten_append, List.flatten_singleton]
      refine ⟨by rw [List.length_append, h1, hp, Nat.add_mul, Nat.one_mul], ?_⟩
      rw [List.take_append, h2, h1, Nat.add_mul, Nat.one_mul, List.take_add]
      congr 1
      unfold pad
      rw [List.take_append, hsl]
      have e0 : (List.replicate (S - min S (b.length - i * S)) (0 : Int)).take (b.length - i * S - min S (b.length - i * S)) = [] := by
        rw [List.take_replicate]
        have : min (b.length - i * S - min S (b.length - i * S)) (S - min S (b.length - i * S)) = 0 := by omega
        rw [this]; rfl
      rw [e0, List.append_nil]
      unfold seg
      rw [List.take_take]
      rcases Nat.le_total S (b.length - i * S) with hh | hh
      · rw [Nat.min_eq_right hh]
      · rw [Nat.min_eq_left hh, List.take_of_length_le (by simp), List.take_of_length_le (by simp; omega)]
  rw [(h c (Nat.le_refl _)).2, List.take_of_length_le hc]
theorem cut_flat_len (S : Nat) (b : List Int) (c : Nat) : (cutL S b c).flatten.length = c * S := by
  induction c with
  | zero => simp [cutL]
  | succ i ih =>
    rw [cutL_succ, List.flatten_append, List.flatten_singleton, List.length_append, ih, pad_len S _ (by rw [seg_len]; omega), Nat.add_mul, Nat.one_mul]

set_option maxRecDepth 100000 in
/-- Cut is refused: no code, or a length that is not the plan's, or no piece. -/
theorem cut_none (a b p : Int) (A : Option Addr) (m c : Nat) (w : World) :
    Calls Try.prog 16 #[.pointer none, planV a b p, .slice A m c] w fun e w' => e = .returned (.tuple #[.slice none 0 0, .int .i64 1]) ∧ Below w.heap.size w w' := by
  unfold planV
  have HB := Lib.hid ((Below.refl w.heap.size w).alloc (Nat.le_refl _) (.cells #[.int .i64 a, .int .i64 b, .int .i64 p] 29))
  go_enter Try.func16, Try.ntmps16
  go_wp2
  go_ret2
  exact ⟨rfl, HB.out⟩
theorem seg_pad (S : Nat) (b : List Int) (i m : Nat) (hm : m = b.length - i * S) : (b.drop (i * S)).take (min m S) ++ (List.replicate S (0 : Int)).drop (min m S) = pad S (seg S b i) := by
  have hsl := seg_len S b i
  unfold pad
  rw [hsl, List.drop_replicate]
  have e1 : min S (b.length - i * S) = min m S := by omega
  rw [e1]
  congr 1
  unfold seg
  rcases Nat.le_total m S with h | h
  · rw [Nat.min_eq_left h, List.take_of_length_le (by simp; omega), List.take_of_length_le (by simp; omega)]
  · rw [Nat.min_eq_right h]
def sliceLen : Value → Nat
  | .slice _ n _ => n
  | _ => 0
set_option maxRecDepth 100000 in
set_option maxHeartbeats 2000000 in
/-- Cut: the stripes. -/
theorem cut_yes (n k s p S c : Nat) (cnt : Int) (v : Value) (A : Option Addr) (L cp : Nat) (b : List Int) (w : World) (hc : IsCode w v n k) (k1 : 1 ≤ k) (k2 : k ≤ 8) (hs : k * (k - 1) = s) (hS : s * p = S) (hS1 : 1 ≤ S) (hS2 : S ≤ 20000) (hp : 1 ≤ p) (hp2 : p ≤ 20000)
    (hr : (Kd.int .u8).C w A L b) (hL : L = b.length) (hcp : L ≤ cp) (hL1 : L ≤ 100000) (hc0 : L ≤ c * S) (hc1 : ∀ i, i < c → i * S < L) (hc2 : c ≤ 1000) :
    Calls Try.prog 16 #[v, planV L cnt p, .slice A L cp] w fun e w' => ∃ u, e = .returned (.tuple #[u, .int .i64 0]) ∧ RowsR w' w.heap.size u (cutL S b c) ∧ Below w.heap.size w w' := by
  unfold planV
  obtain ⟨W1, hW1⟩ : ∃ W1, W1 = w.alloc (.cells #[.int .i64 L, .int .i64 cnt, .int .i64 p] 29) := ⟨_, rfl⟩
  have hb1 : Below w.heap.size w W1 := by rw [hW1]; exact (Below.refl _ _).alloc (Nat.le_refl _) _
  have hblk : Blk W1 w.heap.size 29 #[.int .i64 L, .int .i64 cnt, .int .i64 p] := by rw [hW1]; exact Blk.new _ _ _
  have y0 : W1.cell? ⟨w.heap.size, 0, none⟩ = some (.int .i64 L) := (hblk.cell 0).trans rfl
  have y1 : W1.cell? ⟨w.heap.size, 1, none⟩ = some (.int .i64 cnt) := (hblk.cell 1).trans rfl
  have y2 : W1.cell? ⟨w.heap.size, 2, none⟩ = some (.int .i64 p) := (hblk.cell 2).trans rfl
  have HW1 := Lib.hid hW1
  have HB1 := Lib.hid hb1
  have MC := Lib.hid (message_any (L : Int) cnt p v n k s S W1 (hc.below hb1) k1 k2 hs hp2 hS)
  obtain ⟨b0, A0, c00, rfl, _⟩ := hc
  have HRD := Lib.hid (Kd.reads_of_C (d := (0 : Int)) hr)
  have e1 : ¬ (p : Int) < 1 := by omega
  have e2 : decide ((p : Int) < 1) = false := by simp; omega
  have HC0 := Lib.hid hc0
  have HC1 := Lib.hid hc1
  have HC2 := Lib.hid hc2
  have HL := Lib.hid hL
  have HL1 := Lib.hid hL1
  have HS1 := Lib.hid hS1
  have HS2 := Lib.hid hS2
  have HCP := Lib.hid hcp
  clear hW1 hb1 hblk hr hL hcp hL1 hc0 hc1 hc2 hS1 hS2 hS hs hp hp2 k1 k2
  go_enter Try.func16, Try.ntmps16
  go_upto_region 1 with (fail)
  rw [← HW1.out]
  go_wp2_with (go_at_call 13; (with_reducible refine MC.out.mono ?_); rintro e w1 ⟨rfl, hb⟩; have HB2 := Lib.hid (HB1.out.trans (hb.mono HB1.out.size)); clear hb)
  go_loopw [2, 9, 10, 11] (fun bv u _ _ wr => ∃ (i m : Nat) (A' : Option Addr) (c' : Nat), bv = .slice A' m c' ∧ Hid (m = L - i * S) ∧ Hid (i ≤ c) ∧ Hid (m ≤ c') ∧ Hid (ReadsInt w .u8 A' m (b.drop (i * S))) ∧ Hid (RowsR wr w.heap.size u (cutL S b i)) ∧ Hid (Below w.heap.size w wr)) (fun bv _ _ _ _ => sliceLen bv)
  case atStart => exact ⟨0, L, A, cp, rfl, Lib.hid (by omega), Lib.hid (by omega), Lib.hid HCP.out, Lib.hid (by simp only [Nat.zero_mul, List.drop_zero]; exact HRD.out), Lib.hid (Kd.R_nil _ _ _ _ _), HB2⟩
  case round =>
    obtain ⟨i, m, A', c', rfl, HM, HI, HMC, HR, HRR, HBW⟩ := hrel
    by_cases h0 : 0 < m
    · have j0 : (0 : Int) < (m : Int) := by omega
      have j1 : decide ((m : Int) > 0) = true := by simp; omega
      obtain ⟨q, hq⟩ : ∃ q, q = min m S := ⟨_, rfl⟩
      have HQ := Lib.hid hq
      obtain ⟨i0, hi, hz⟩ := Option.map_eq_some_iff.1 Go.Proofs.Ytjoblpkfpfclpaa.Rws.info_byte
      simp only [Prod.mk.injEq] at hz
      have k2 := cut_from (P := Try.prog) 38 5 .i64 Try.underlying38 hi 1 hz.2.1 A' m c' (q : Int) (by omega) (by omega)
      simp only [Int.toNat_natCast, Nat.mul_one] at k2
      obtain ⟨A2, hA2⟩ : ∃ A2, A2 = if c' = q then A' else A'.map (·.add q) := ⟨_, rfl⟩
      rw [← hA2] at k2
      have HR2 := Lib.hid (show ReadsInt w .u8 A2 (m - q) ((b.drop (i * S)).drop q) by rw [hA2]; exact HR.out.drop_ q (by omega) HMC.out)
      clear hz hi hA2 hq
      go_wp2_with (first
        | (at_make; refine Kd.R_make (Kd.int .u8) wr.heap.size 5 rfl (N := 33) rfl 38 _ _ rfl (S : Int) rfl rfl Try.underlying38 (.int .u8 0) 1 Go.Proofs.Ytjoblpkfpfclpaa.Rws.info_byte rfl (by decide) (by decide) 0 (ok := fun _ => True) (okp := fun _ => True) rfl (fun _ hk => hk) trivial (by omega) (by have := HS2.out; omega) (Below.refl _ _) (Nat.le_refl _) ?_; intro v3 w3 h3 hb3 hg3 hf3; simp only [Int.toNat_natCast] at h3; obtain ⟨A3, c3, hv3⟩ := own_slice (Kd.own_of_R h3); rw [List.length_replicate] at hv3; subst hv3; have HX := Lib.hid h3; have HB3 := Lib.hid hb3; clear h3 hb3 hg3 hf3)
        | (refine gate_ (.call { callee := .builtin .copy, args := #[.tmp 34, .tmp 35], argTypes := #[38, 38] }) rfl ?_; refine Kd.R_copy (enc := Value.int .u8) (0 : Int) wr.heap.size rfl _ _ 38 38 5 rfl Try.underlying38 info_byte1 (.slice A3 S c3) (List.replicate S 0) (b.drop (i * S)) A' m c' (fun _ => True) rfl rfl HX.out (Kd.C_of_reads (d := (0 : Int)) (HR.out.below (HBW.out.trans (HB3.out.mono HBW.out.size)))) HB3.out HB3.out.size ?_; intro w4 h4 hb4 hg4; simp only [List.length_replicate] at h4 ⊢; rw [← HQ.out]; have HY := Lib.hid h4; have HB4 := Lib.hid hb4; clear h4 hb4 hg4)
        | (at_builtin; refine rows_append2 rfl w.heap.size rfl _ _ rfl _ _ _ _ rfl rfl HRR.out (HBW.out.trans (HB4.out.mono HBW.out.size)) HBW.out.size HB4.out HY.out (by rw [cutL_len]; have := HI.out; have := HC2.out; omega) ?_; intro v5 w5 h5 hb5; have H5 := Lib.hid h5; have HB5 := Lib.hid hb5; clear h5 hb5))
      go_roundw
      case rel => 
        refine ⟨i + 1, m - q, A2, c' - q, rfl, Lib.hid ?_, Lib.hid ?_, Lib.hid ?_, Lib.hid ?_, Lib.hid ?_, HB5⟩
        · have := HM.out; have := HQ.out; rw [Nat.add_mul, Nat.one_mul]; omega
        · have := HI.out; have := HM.out; have := HC0.out
          rcases Nat.lt_or_ge i c with h | h
          · omega
          · have : i = c := by omega
            subst this; omega
        · have := HMC.out; omega
        · have hh := HR2.out
          have e : (b.drop (i * S)).drop q = b.drop ((i + 1) * S) := by
            have := HM.out; have := HQ.out; have := HL.out
            rw [List.drop_drop, Nat.add_mul, Nat.one_mul]
            rcases Nat.le_total m S with h | h
            · rw [List.drop_of_length_le (by omega), List.drop_of_length_le (by omega)]
            · rw [show q = S by omega]
          rw [e] at hh; exact hh
        · have hh := H5.out
          rw [cutL_succ, ← seg_pad S b i m (by have := HM.out; have := HL.out; omega)]; simpa only [HQ.out] using hh
      case measure => simp [sliceLen]; have := HQ.out; have := HS1.out; omega
    · obtain rfl : m = 0 := by omega
      have e9 : i = c := by
        have := HM.out; have := HI.out
        rcases Nat.lt_or_ge i c with h | h
        · have := HC1.out i h; omega
        · omega
      subst e9
      go_wp2
      go_ret2
      exact ⟨_, rfl, HRR.out, HBW.out⟩

theorem cut_max (t e : TypeId) {i : TypeInfo} (ht : Try.prog.underlying t = some (.slice e)) (hi : Try.prog.info? e = some i) (A : Option Addr) (n c : Nat) (j : Nat) (hm : j ≤ n) (hc : n ≤ c) :
    ∀ W : World, (Instr.slice t (.slice A n c) none (some (.int .i64 (j : Int))) (some (.int .i64 (j : Int)))).run Try.prog W = .ok (.slice A j j) W := by
  intro W
  have hel : Try.prog.elem t = e := by simp [Program.elem, ht]
  have hu : Try.prog.underlying t = some (.slice (Try.prog.elem t)) := by rw [hel]; exact ht
  have ha : (A.map fun x => x.add 0) = A := by cases A <;> simp [Addr.add]
  rw [run_slice_hm W t A n c hu .i64 .i64 (j : Int) (j : Int) (by omega) (by omega) (by omega), hel]
  simp [sizeOf, typeInfo, hi, sliced, Result.andThen, ha]
set_option maxRecDepth 100000 in
theorem join_none (a b p : Int) (A : Option Addr) (m c : Nat) (w : World) :
    Calls Try.prog 19 #[.pointer none, planV a b p, .slice A m c] w fun e w' => e = .returned (.tuple #[.slice none 0 0, .int .i64 1]) ∧ Below w.heap.size w w' := by
  unfold planV
  have HB := Lib.hid ((Below.refl w.heap.size w).alloc (Nat.le_refl _) (.cells #[.int .i64 a, .int .i64 b, .int .i64 p] 29))
  go_enter Try.func19, Try.ntmps19
  go_wp2
  go_ret2
  exact ⟨rfl, HB.out⟩
theorem flat_le (l : List (List Int)) (hb : ∀ x ∈ l, x.length ≤ 20000) (i : Nat) (hi : i ≤ l.length) : (l.take i).flatten.length ≤ 20000 * i := by
  induction i with
  | zero => simp
  | succ i ih =>
    rw [List.take_succ_eq_append_getElem (by omega), List.flatten_append, List.length_append, List.flatten_singleton]
    have := hb l[i] (List.getElem_mem _)
    have := ih (by omega)
    omega
def JoinPost (S L c : Nat) (l : List (List Int)) (w : World) (e : Ending) (w' : World) : Prop :=
  ((okJ S L c l ∧ ∃ A' c', e = .returned (.tuple #[.slice A' L c', .int .i64 0]) ∧ L ≤ c' ∧ ReadsInt w' .u8 A' L (l.flatten.take L)) ∨ (¬ okJ S L c l ∧ e = .returned (.tuple #[.slice none 0 0, .int .i64 1]))) ∧ Below w.heap.size w w'
set_option maxRecDepth 100000 in
set_option maxHeartbeats 2000000 in
theorem join_any (n k s p S c L : Nat) (v : Value) (A0 : Option Addr) (c0 : Nat) (l : List (List Int)) (w : World) (hc : IsCode w v n k) (k1 : 1 ≤ k) (k2 : k ≤ 8) (hs : k * (k - 1) = s) (hS : s * p = S) (hp2 : p ≤ 20000)
    (hR : RowsC w A0 l) (hl : l.length ≤ 100) (hb : ∀ x ∈ l, x.length ≤ 20000) (hL : L ≤ 20000) :
    Calls Try.prog 19 #[v, planV L c p, .slice A0 l.length c0] w (JoinPost S L c l w) := by
  unfold planV
  obtain ⟨W1, hW1⟩ : ∃ W1, W1 = w.alloc (.cells #[.int .i64 L, .int .i64 c, .int .i64 p] 29) := ⟨_, rfl⟩
  have hb1 : Below w.heap.size w W1 := by rw [hW1]; exact (Below.refl _ _).alloc (Nat.le_refl _) _
  have hblk : Blk W1 w.heap.size 29 #[.int .i64 L, .int .i64 c, .int .i64 p] := by rw [hW1]; exact Blk.new _ _ _
  obtain ⟨P0, hP0⟩ : ∃ P0, P0 = w.heap.size := ⟨_, rfl⟩
  rw [← hP0] at hblk
  have y0 : W1.cell? ⟨P0, 0, none⟩ = some (.int .i64 L) := (hblk.cell 0).trans rfl
  have y1 : W1.cell? ⟨P0, 1, none⟩ = some (.int .i64 c) := (hblk.cell 1).trans rfl
  have y2 : W1.cell? ⟨P0, 2, none⟩ = some (.int .i64 p) := (hblk.cell 2).trans rfl
  have HW1 := Lib.hid hW1
  have HP0 := Lib.hid hP0
  have HB1 := Lib.hid hb1
  have HBK := Lib.hid hblk
  have MC := Lib.hid (fun W (hB : Below w.heap.size w W) => message_any (L : Int) (c : Int) p v n k s S W (hc.below hB) k1 k2 hs hp2 hS)
  obtain ⟨b0, A9, c09, rfl, _⟩ := hc
  have HR := Lib.hid hR
  obtain ⟨N, hN⟩ : ∃ N, N = l.length := ⟨_, rfl⟩
  have HN := Lib.hid hN
  have HL := Lib.hid hL
  have HLL := Lib.hid hl
  have HBB := Lib.hid hb
  rw [← hN]
  by_cases hcn : N = c
  · subst hcn
    have z1 : ((N : Int) != (N : Int)) = false := by simp
    clear hW1 hb1 hblk hP0 hR hl hb hL hS hs hp2 k1 k2 hN
    go_enter Try.func19, Try.ntmps19
    go_upto_region 1 with (fail)
    rw [← HW1.out, ← HP0.out]
    go_wp2
    go_loopw [8, 10, 22] (fun u _ i wr => ∃ (q : Nat), q ≤ N ∧ i = .int .i64 q ∧ Hid (∀ x ∈ l.take q, x.length = S) ∧ Hid (wr.ownsRow W1.heap.size 5 1 u (l.take q).flatten.length (nums .u8 (l.take q).flatten)) ∧ Hid (Below W1.heap.size W1 wr)) (fun _ _ i _ => N - (intOf i).toNat)
    case atStart => exact ⟨0, by omega, rfl, Lib.hid (by simp), Lib.hid (own_nil _ _ _ _), Lib.hid (Below.refl _ _)⟩
    case round =>
      obtain ⟨q, hq, rfl, HE, HO, HB⟩ := hrel
      have HBw := Lib.hid (HB1.out.trans (HB.out.mono HB1.out.size))
      have hq100 : N ≤ 100 := by rw [HN.out]; exact HLL.out
      obtain ⟨x0, x1, x2⟩ : wr.cell? ⟨P0, 0, none⟩ = some (.int .i64 L) ∧ wr.cell? ⟨P0, 1, none⟩ = some (.int .i64 N) ∧ wr.cell? ⟨P0, 2, none⟩ = some (.int .i64 p) := by
        have h := Blk.below HBK.out HB.out (Blk.lt HBK.out)
        exact ⟨(h.cell 0).trans rfl, (h.cell 1).trans rfl, (h.cell 2).trans rfl⟩
      clear y0 y1 y2
      obtain ⟨A1, c1, rfl⟩ := own_slice HO.out
      obtain ⟨m1, hm1⟩ : ∃ m1, m1 = (l.take q).flatten.length := ⟨_, rfl⟩
      have HM1 := Lib.hid hm1
      rw [← hm1] at HO ⊢
      clear hm1
      by_cases hlt : q < N
      · obtain ⟨ad, A2, c2, rfl, hcell, hc2, hC2⟩ := HR.out.get q (by rw [← HN.out]; exact hlt)
        replace hcell := pw_cell_below HBw.out hcell
        have hlq : q < l.length := by rw [← HN.out]; exact hlt
        have hgd : l.getD q [] = l[q] := by rw [List.getD_eq_getElem?_getD, List.getElem?_eq_getElem hlq]; rfl
        rw [hgd] at hcell hc2 hC2
        obtain ⟨ys, hys⟩ : ∃ ys, ys = l[q] := ⟨_, rfl⟩
        rw [← hys] at hcell hc2 hC2
        obtain ⟨m2, hm2⟩ : ∃ m2, m2 = ys.length := ⟨_, rfl⟩
        rw [← hm2] at hcell hc2 hC2
        have HM2 := Lib.hid hm2
        have HYS := Lib.hid hys
        have HC2 := Lib.hid hC2
        have hfl : (l.take (q + 1)).flatten = (l.take q).flatten ++ ys := by rw [List.take_succ_eq_append_getElem hlq, List.flatten_append, List.flatten_singleton, hys]
        have HFL := Lib.hid hfl
        have hm2b : m2 ≤ 20000 := by rw [hm2, hys]; exact HBB.out _ (List.getElem_mem _)
        have HM2B := Lib.hid hm2b
        have p0 : (0 : Int) ≤ (q : Int) := by omega
        have p1 : (q : Int) < (N : Int) := by omega
        clear hgd hys hm2 hC2 hfl hm2b
        by_cases hS : m2 = S
        · subst hS
          have z2 : ((m2 : Int) != (m2 : Int)) = false := by simp
          go_wp2_with (first
            | (go_at_call 13; (with_reducible refine (MC.out _ HBw.out).mono ?_); rintro e w2 ⟨rfl, hb2⟩; have HB2 := Lib.hid hb2; clear hb2)
            | (at_builtin; refine print_append_row (w0 := W1) (k := .u8) W1.heap.size rfl _ _ 38 5 1 rfl Try.underlying38 Go.Proofs.Ytjoblpkfpfclpaa.Rws.info_byte (by decide) _ (l.take q).flatten ys A2 m2 c2 rfl rfl (pw_own_below (by rw [← HM1.out]; exact HO.out) HB2.out) (Kd.reads_of_C (d := (0 : Int)) (Kd.C_below HC2.out (HBw.out.trans (HB2.out.mono HBw.out.size)))) (HB.out.trans (HB2.out.mono HB.out.size)) (Nat.le_trans HB.out.size HB2.out.size) (by have := flat_le l HBB.out q (by have := HN.out; omega); have := HLL.out; have := HN.out; have := HM2B.out; omega) ?_; intro v3 w3 h1 h2 h3 h4; have H1 := Lib.hid h1; have H2 := Lib.hid h2; clear h1 h2 h3 h4))
          go_roundw
          case rel =>
            refine ⟨q + 1, by omega, by go_num, Lib.hid (fun x hx => ?_), Lib.hid ?_, H2⟩
            · rw [List.take_succ_eq_append_getElem (by rw [← HN.out]; exact hlt), List.mem_append, List.mem_singleton] at hx
              rcases hx with hx | rfl
              · exact HE.out x hx
              · rw [← HYS.out, ← HM2.out]
            · rw [HFL.out]; exact H1.out
          case measure => simp [intOf]; omega
        · have z2 : ((m2 : Int) != (S : Int)) = true := by simp; omega
          have z3 : ¬ (m2 : Int) = (S : Int) := by omega
          have HNS := Lib.hid hS
          clear hS
          go_wp2_with (go_at_call 13; (with_reducible refine (MC.out _ HBw.out).mono ?_); rintro e w2 ⟨rfl, hb2⟩; have HB2 := Lib.hid (HBw.out.trans (hb2.mono HBw.out.size)); clear hb2)
          go_ret2
          refine ⟨.inr ⟨fun h => HNS.out ?_, rfl⟩, HB2.out⟩
          rw [HM2.out, HYS.out]
          exact h.2.1 _ (List.getElem_mem _)
      · obtain rfl : q = N := by omega
        have HFT := Lib.hid (show l.take q = l by rw [List.take_of_length_le (by rw [← HN.out]; omega)])
        by_cases hlong : L ≤ m1
        · obtain ⟨i0, hi, hz⟩ := Option.map_eq_some_iff.1 Go.Proofs.Ytjoblpkfpfclpaa.Rws.info_byte
          have hc1 := own_le HO.out
          have kx := cut_max 38 5 Try.underlying38 hi A1 m1 c1 L hlong hc1
          have z2 : decide ((L : Int) < 0) = false := by simp
          have z3 : ¬ (m1 : Int) < (L : Int) := by omega
          have z4 : decide ((m1 : Int) < (L : Int)) = false := by simp; omega
          have HLO := Lib.hid hlong
          clear hi hz hlong hc1
          go_wp2
          go_ret2
          have hq := HFT.out
          have ho := HO.out
          rw [HM1.out] at ho
          refine ⟨.inl ⟨⟨HN.out.symm, by rw [← hq]; exact HE.out, by have := HLO.out; have := HM1.out; rw [hq] at this; omega⟩, A1, L, rfl, Nat.le_refl _, ?_⟩, HBw.out⟩
          have hr := (own_reads' ho).take_ L (by have := HLO.out; have := HM1.out; omega)
          rw [hq] at hr
          exact hr
        · have z2 : decide ((L : Int) < 0) = false := by simp
          have z3 : (m1 : Int) < (L : Int) := by omega
          have z4 : decide ((m1 : Int) < (L : Int)) = true := by simp; omega
          have HLO := Lib.hid hlong
          clear hlong
          go_wp2
          go_ret2
          refine ⟨.inr ⟨fun h => HLO.out ?_, rfl⟩, HBw.out⟩
          have h3 := h.2.2
          have hq := HFT.out
          have := HM1.out
          rw [hq] at this
          omega
  · have z1 : ((N : Int) != (c : Int)) = true := by simp; omega
    have z2 : ¬ (N : Int) = (c : Int) := by omega
    have HNC := Lib.hid hcn
    clear hW1 hb1 hblk hP0 hR hl hb hL hS hs hp2 k1 k2 hN hcn
    go_enter Try.func19, Try.ntmps19
    go_upto_region 1 with (fail)
    rw [← HW1.out, ← HP0.out]
    go_wp2
    go_ret2
    exact ⟨.inr ⟨fun h => HNC.out (HN.out.trans h.1), rfl⟩, HB1.out⟩

def RefJoinPost (S L c : Nat) (l : List (List Int)) (w : World) (e : Ending) (w' : World) : Prop :=
  ((okJ S L c l ∧ ∃ A' c', e = .returned (.tuple #[.slice A' L c', .bool true]) ∧ L ≤ c' ∧ ReadsInt w' .u8 A' L (l.flatten.take L)) ∨ (¬ okJ S L c l ∧ e = .returned (.tuple #[.slice none 0 0, .bool false]))) ∧ Below w.heap.size w w'
set_option maxRecDepth 100000 in
set_option maxHeartbeats 2000000 in
theorem refjoin_any (k s p S c L : Nat) (A0 : Option Addr) (c0 : Nat) (l : List (List Int)) (w : World) (k1 : 1 ≤ k) (k2 : k ≤ 8) (hs : k * (k - 1) = s) (hS : s * p = S) (hp2 : p ≤ 20000)
    (hR : RowsC w A0 l) (hl : l.length ≤ 100) (hb : ∀ x ∈ l, x.length ≤ 20000) (hL : L ≤ 20000) :
    Calls Try.prog 20 #[.int .i64 k, planV L c p, .slice A0 l.length c0] w (RefJoinPost S L c l w) := by
  unfold planV
  obtain ⟨W1, hW1⟩ : ∃ W1, W1 = w.alloc (.cells #[.int .i64 L, .int .i64 c, .int .i64 p] 32) := ⟨_, rfl⟩
  have hb1 : Below w.heap.size w W1 := by rw [hW1]; exact (Below.refl _ _).alloc (Nat.le_refl _) _
  have hblk : Blk W1 w.heap.size 32 #[.int .i64 L, .int .i64 c, .int .i64 p] := by rw [hW1]; exact Blk.new _ _ _
  obtain ⟨P0, hP0⟩ : ∃ P0, P0 = w.heap.size := ⟨_, rfl⟩
  rw [← hP0] at hblk
  have y0 : W1.cell? ⟨P0, 0, none⟩ = some (.int .i64 L) := (hblk.cell 0).trans rfl
  have y1 : W1.cell? ⟨P0, 1, none⟩ = some (.int .i64 c) := (hblk.cell 1).trans rfl
  have y2 : W1.cell? ⟨P0, 2, none⟩ = some (.int .i64 p) := (hblk.cell 2).trans rfl
  have HW1 := Lib.hid hW1
  have HP0 := Lib.hid hP0
  have HB1 := Lib.hid hb1
  have HBK := Lib.hid hblk
  have hs56 : s ≤ 56 := by rw [← hs]; exact Nat.mul_le_mul k2 (show k - 1 ≤ 7 by omega)
  have hm : s * p ≤ 56 * 20000 := Nat.mul_le_mul hs56 hp2
  have wa : IntKind.i64.wrap ((k : Int) - 1) = ((k - 1 : Nat) : Int) := by rw [IntWalk.i64_in _ (by omega)]; omega
  obtain ⟨kk, hkk⟩ : ∃ kk, kk = k - 1 := ⟨_, rfl⟩
  rw [← hkk] at wa hs
  have wb : IntKind.i64.wrap ((k : Int) * (kk : Int)) = (s : Int) := by rw [← Int.natCast_mul, hs, IntWalk.i64_in _ (by omega)]
  have wc : IntKind.i64.wrap ((s : Int) * (p : Int)) = (S : Int) := by rw [← Int.natCast_mul, hS, IntWalk.i64_in _ (by omega)]
  clear hs56 hm hkk
  have HR := Lib.hid hR
  obtain ⟨N, hN⟩ : ∃ N, N = l.length := ⟨_, rfl⟩
  have HN := Lib.hid hN
  have HL := Lib.hid hL
  have HLL := Lib.hid hl
  have HBB := Lib.hid hb
  rw [← hN]
  by_cases hcn : N = c
  · subst hcn
    have z1 : ((N : Int) != (N : Int)) = false := by simp
    clear hW1 hb1 hblk hP0 hR hl hb hL hS hs hp2 k1 k2 hN
    go_enter Try.func20, Try.ntmps20
    go_upto_region 1 with (fail)
    rw [← HW1.out, ← HP0.out]
    go_wp2
    go_loopw [8, 9] (fun u i wr => ∃ (q : Nat), q ≤ N ∧ i = .int .i64 q ∧ Hid (∀ x ∈ l.take q, x.length = S) ∧ Hid (wr.ownsRow W1.heap.size 5 1 u (l.take q).flatten.length (nums .u8 (l.take q).flatten)) ∧ Hid (Below W1.heap.size W1 wr)) (fun _ i _ => N - (intOf i).toNat)
    case atStart => exact ⟨0, by omega, rfl, Lib.hid (by simp), Lib.hid (own_nil _ _ _ _), Lib.hid (Below.refl _ _)⟩
    case round =>
      obtain ⟨q, hq, rfl, HE, HO, HB⟩ := hrel
      have HBw := Lib.hid (HB1.out.trans (HB.out.mono HB1.out.size))
      have hq100 : N ≤ 100 := by rw [HN.out]; exact HLL.out
      obtain ⟨x0, x1, x2⟩ : wr.cell? ⟨P0, 0, none⟩ = some (.int .i64 L) ∧ wr.cell? ⟨P0, 1, none⟩ = some (.int .i64 N) ∧ wr.cell? ⟨P0, 2, none⟩ = some (.int .i64 p) := by
        have h := Blk.below HBK.out HB.out (Blk.lt HBK.out)
        exact ⟨(h.cell 0).trans rfl, (h.cell 1).trans rfl, (h.cell 2).trans rfl⟩
      clear y0 y1 y2
      obtain ⟨A1, c1, rfl⟩ := own_slice HO.out
      obtain ⟨m1, hm1⟩ : ∃ m1, m1 = (l.take q).flatten.length := ⟨_, rfl⟩
      have HM1 := Lib.hid hm1
      rw [← hm1] at HO ⊢
      clear hm1
      by_cases hlt : q < N
      · obtain ⟨ad, A2, c2, rfl, hcell, hc2, hC2⟩ := HR.out.get q (by rw [← HN.out]; exact hlt)
        replace hcell := pw_cell_below HBw.out hcell
        have hlq : q < l.length := by rw [← HN.out]; exact hlt
        have hgd : l.getD q [] = l[q] := by rw [List.getD_eq_getElem?_getD, List.getElem?_eq_getElem hlq]; rfl
        rw [hgd] at hcell hc2 hC2
        obtain ⟨ys, hys⟩ : ∃ ys, ys = l[q] := ⟨_, rfl⟩
        rw [← hys] at hcell hc2 hC2
        obtain ⟨m2, hm2⟩ : ∃ m2, m2 = ys.length := ⟨_, rfl⟩
        rw [← hm2] at hcell hc2 hC2
        have HM2 := Lib.hid hm2
        have HYS := Lib.hid hys
        have HC2 := Lib.hid hC2
        have hfl : (l.take (q + 1)).flatten = (l.take q).flatten ++ ys := by rw [List.take_succ_eq_append_getElem hlq, List.flatten_append, List.flatten_singleton, hys]
        have HFL := Lib.hid hfl
        have hm2b : m2 ≤ 20000 := by rw [hm2, hys]; exact HBB.out _ (List.getElem_mem _)
        have HM2B := Lib.hid hm2b
        have p0 : (0 : Int) ≤ (q : Int) := by omega
        have p1 : (q : Int) < (N : Int) := by omega
        clear hgd hys hm2 hC2 hfl hm2b
        by_cases hS : m2 = S
        · subst hS
          have z2 : ((m2 : Int) != (m2 : Int)) = false := by simp
          go_wp2
          go_quiet (fail)
          go_wp2_with (at_builtin; refine print_append_row (w0 := W1) (k := .u8) W1.heap.size rfl _ _ 38 5 1 rfl Try.underlying38 Go.Proofs.Ytjoblpkfpfclpaa.Rws.info_byte (by decide) _ (l.take q).flatten ys A2 m2 c2 rfl rfl (pw_own_below (by rw [← HM1.out]; exact HO.out) (by first | exact pw_below_drewN (Below.refl wr.heap.size wr) _ | exact (Below.refl wr.heap.size wr).drew)) (Kd.reads_of_C (d := (0 : Int)) (Kd.C_below HC2.out (HBw.out.trans (Below.mono (by first | exact pw_below_drewN (Below.refl wr.heap.size wr) _ | exact (Below.refl wr.heap.size wr).drew) HBw.out.size)))) (HB.out.trans (Below.mono (by first | exact pw_below_drewN (Below.refl wr.heap.size wr) _ | exact (Below.refl wr.heap.size wr).drew) HB.out.size)) (Nat.le_trans HB.out.size (Below.size (by first | exact pw_below_drewN (Below.refl wr.heap.size wr) _ | exact (Below.refl wr.heap.size wr).drew))) (by have := flat_le l HBB.out q (by have := HN.out; omega); have := HLL.out; have := HN.out; have := HM2B.out; omega) ?_; intro v3 w3 h1 h2 h3 h4; have H1 := Lib.hid h1; have H2 := Lib.hid h2; clear h1 h2 h3 h4)
          go_roundw
          case rel =>
            refine ⟨q + 1, by omega, by go_num, Lib.hid (fun x hx => ?_), Lib.hid ?_, H2⟩
            · rw [List.take_succ_eq_append_getElem (by rw [← HN.out]; exact hlt), List.mem_append, List.mem_singleton] at hx
              rcases hx with hx | rfl
              · exact HE.out x hx
              · rw [← HYS.out, ← HM2.out]
            · rw [HFL.out]; exact H1.out
          case measure => simp [intOf]; omega
        · have z2 : ((m2 : Int) != (S : Int)) = true := by simp; omega
          have z3 : ¬ (m2 : Int) = (S : Int) := by omega
          have HNS := Lib.hid hS
          clear hS
          go_wp2
          go_quiet (fail)
          go_wp2
          go_ret2
          refine ⟨.inr ⟨fun h => HNS.out ?_, rfl⟩, by first | exact pw_below_drewN HBw.out _ | exact HBw.out.drew⟩
          rw [HM2.out, HYS.out]
          exact h.2.1 _ (List.getElem_mem _)
      · obtain rfl : q = N := by omega
        have HFT := Lib.hid (show l.take q = l by rw [List.take_of_length_le (by rw [← HN.out]; omega)])
        by_cases hlong : L ≤ m1
        · obtain ⟨i0, hi, hz⟩ := Option.map_eq_some_iff.1 Go.Proofs.Ytjoblpkfpfclpaa.Rws.info_byte
          have hc1 := own_le HO.out
          have kx := cut_to (P := Try.prog) 38 5 .i64 Try.underlying38 hi A1 m1 c1 (L : Int) (by omega) (by omega) hc1
          simp only [Int.toNat_natCast] at kx
          have HC1 := Lib.hid (show L ≤ c1 by omega)
          have z2 : decide ((L : Int) < 0) = false := by simp
          have z3 : ¬ (m1 : Int) < (L : Int) := by omega
          have z4 : decide ((m1 : Int) < (L : Int)) = false := by simp; omega
          have HLO := Lib.hid hlong
          clear hi hz hlong hc1
          go_wp2
          go_ret2
          have hq := HFT.out
          have ho := HO.out
          rw [HM1.out] at ho
          refine ⟨.inl ⟨⟨HN.out.symm, by rw [← hq]; exact HE.out, by have := HLO.out; have := HM1.out; rw [hq] at this; omega⟩, A1, c1, rfl, HC1.out, ?_⟩, HBw.out⟩
          have hr := (own_reads' ho).take_ L (by have := HLO.out; have := HM1.out; omega)
          rw [hq] at hr
          exact hr
        · have z2 : decide ((L : Int) < 0) = false := by simp
          have z3 : (m1 : Int) < (L : Int) := by omega
          have z4 : decide ((m1 : Int) < (L : Int)) = true := by simp; omega
          have HLO := Lib.hid hlong
          clear hlong
          go_wp2
          go_ret2
          refine ⟨.inr ⟨fun h => HLO.out ?_, rfl⟩, HBw.out⟩
          have h3 := h.2.2
          have hq := HFT.out
          have := HM1.out
          rw [hq] at this
          omega
  · have z1 : ((N : Int) != (c : Int)) = true := by simp; omega
    have z2 : ¬ (N : Int) = (c : Int) := by omega
    have HNC := Lib.hid hcn
    clear hW1 hb1 hblk hP0 hR hl hb hL hS hs hp2 k1 k2 hN hcn
    go_enter Try.func20, Try.ntmps20
    go_upto_region 1 with (fail)
    rw [← HW1.out, ← HP0.out]
    go_wp2
    go_ret2
    exact ⟨.inr ⟨fun h => HNC.out (HN.out.trans h.1), rfl⟩, HB1.out⟩

set_option maxRecDepth 100000 in
set_option maxHeartbeats 2000000 in
theorem refcut_any (k s p S c L N : Nat) (A : Option Addr) (cp : Nat) (b : List Int) (w : World) (k1 : 1 ≤ k) (k2 : k ≤ 8) (hs : k * (k - 1) = s) (hS : s * p = S) (hS1 : 1 ≤ S) (hS2 : S ≤ 20000) (hp2 : p ≤ 20000)
    (hr : (Kd.int .u8).C w A N b) (hL : N = b.length) (hcp : N ≤ cp) (hL1 : N ≤ 100000) (hc1 : ∀ i, i < c → i * S < N) (hc2 : c ≤ 1000) :
    Calls Try.prog 18 #[.int .i64 k, planV L c p, .slice A N cp] w fun e w' => ∃ u, e = .returned u ∧ RowsR w' w.heap.size u (cutL S b c) ∧ Below w.heap.size w w' := by
  unfold planV
  obtain ⟨W1, hW1⟩ : ∃ W1, W1 = w.alloc (.cells #[.int .i64 L, .int .i64 c, .int .i64 p] 32) := ⟨_, rfl⟩
  have hb1 : Below w.heap.size w W1 := by rw [hW1]; exact (Below.refl _ _).alloc (Nat.le_refl _) _
  have hblk : Blk W1 w.heap.size 32 #[.int .i64 L, .int .i64 c, .int .i64 p] := by rw [hW1]; exact Blk.new _ _ _
  obtain ⟨P0, hP0⟩ : ∃ P0, P0 = w.heap.size := ⟨_, rfl⟩
  rw [← hP0] at hblk
  have y0 : W1.cell? ⟨P0, 0, none⟩ = some (.int .i64 L) := (hblk.cell 0).trans rfl
  have y1 : W1.cell? ⟨P0, 1, none⟩ = some (.int .i64 c) := (hblk.cell 1).trans rfl
  have y2 : W1.cell? ⟨P0, 2, none⟩ = some (.int .i64 p) := (hblk.cell 2).trans rfl
  have HW1 := Lib.hid hW1
  have HP0 := Lib.hid hP0
  have HB1 := Lib.hid hb1
  have HBK := Lib.hid hblk
  have hs56 : s ≤ 56 := by rw [← hs]; exact Nat.mul_le_mul k2 (show k - 1 ≤ 7 by omega)
  have hm : s * p ≤ 56 * 20000 := Nat.mul_le_mul hs56 hp2
  have wa : IntKind.i64.wrap ((k : Int) - 1) = ((k - 1 : Nat) : Int) := by rw [IntWalk.i64_in _ (by omega)]; omega
  obtain ⟨kk, hkk⟩ : ∃ kk, kk = k - 1 := ⟨_, rfl⟩
  rw [← hkk] at wa hs
  have wb : IntKind.i64.wrap ((k : Int) * (kk : Int)) = (s : Int) := by rw [← Int.natCast_mul, hs, IntWalk.i64_in _ (by omega)]
  have wc : IntKind.i64.wrap ((s : Int) * (p : Int)) = (S : Int) := by rw [← Int.natCast_mul, hS, IntWalk.i64_in _ (by omega)]
  have HC := Lib.hid hr
  have HN := Lib.hid hL
  have HC1 := Lib.hid hc1
  have HC2 := Lib.hid hc2
  have HL1 := Lib.hid hL1
  have HS1 := Lib.hid hS1
  have HS2 := Lib.hid hS2
  clear hs56 hm hkk hW1 hb1 hblk hP0 hr hL hcp hL1 hc1 hc2 hS1 hS2 hS hs hp2 k1 k2
  go_enter Try.func18, Try.ntmps18
  go_upto_region 1 with (fail)
  rw [← HW1.out, ← HP0.out]
  go_wp2
  go_loopw [8, 9, 10, 11] (fun u iv _ _ wr => ∃ (i : Nat), i ≤ c ∧ iv = .int .i64 i ∧ Hid (RowsR wr W1.heap.size u (cutL S b i)) ∧ Hid (Below W1.heap.size W1 wr)) (fun _ iv _ _ _ => c - (intOf iv).toNat)
  case atStart => exact ⟨0, by omega, rfl, Lib.hid (Kd.R_nil _ _ _ _ _), Lib.hid (Below.refl _ _)⟩
  case round =>
    obtain ⟨i, hic, rfl, HRR, HBW⟩ := hrel
    have HBw := Lib.hid (HB1.out.trans (HBW.out.mono HB1.out.size))
    obtain ⟨x0, x1, x2⟩ : wr.cell? ⟨P0, 0, none⟩ = some (.int .i64 L) ∧ wr.cell? ⟨P0, 1, none⟩ = some (.int .i64 c) ∧ wr.cell? ⟨P0, 2, none⟩ = some (.int .i64 p) := by
      have h := Blk.below HBK.out HBW.out (Blk.lt HBK.out)
      exact ⟨(h.cell 0).trans rfl, (h.cell 1).trans rfl, (h.cell 2).trans rfl⟩
    clear y0 y1 y2
    have hc1000 := HC2.out
    by_cases hlt : i < c
    · have hiS := HC1.out i hlt
      have hN1 := HL1.out
      have wd : IntKind.i64.wrap ((i : Int) * (S : Int)) = ((i * S : Nat) : Int) := by rw [← Int.natCast_mul, IntWalk.i64_in _ (by omega)]
      obtain ⟨o, ho⟩ : ∃ o, o = i * S := ⟨_, rfl⟩
      rw [← ho] at wd hiS
      have HO := Lib.hid ho
      have hsl := seg_len S b i
      rw [← ho, ← HN.out] at hsl
      have HSL := Lib.hid hsl
      have i0 : (i : Int) < (c : Int) := by omega
      clear ho hsl
      go_wp2_with (at_make; refine Kd.R_make (Kd.int .u8) wr.heap.size 5 rfl (N := 26) rfl 38 _ _ rfl (S : Int) rfl rfl Try.underlying38 (.int .u8 0) 1 Go.Proofs.Ytjoblpkfpfclpaa.Rws.info_byte rfl (by decide) (by decide) 0 (ok := fun _ => True) (okp := fun _ => True) rfl (fun _ hk => hk) trivial (by omega) (by have := HS2.out; omega) (Below.refl _ _) (Nat.le_refl _) ?_; intro v3 w3 h3 hb3 hg3 hf3; simp only [Int.toNat_natCast] at h3; obtain ⟨g, c3, hv3, hgb, _, _, _⟩ := Kd.R_form h3 (by rw [List.length_replicate]; exact HS1.out); rw [List.length_replicate] at hv3; subst hv3; have HX := Lib.hid h3; have HB3 := Lib.hid hb3; have HGB := Lib.hid hgb; clear h3 hb3 hg3 hf3 hgb)
      go_loopw [11] (fun jv wr' => ∃ (j : Nat), j ≤ (seg S b i).length ∧ jv = .int .i64 j ∧ Hid ((Kd.int .u8).R 5 wr' wr.heap.size (fun _ => True) (.slice (some ⟨g, 0, none⟩) S c3) ((seg S b i).take j ++ List.replicate (S - j) 0)) ∧ Hid (Below wr.heap.size wr wr')) (fun jv _ => S - (intOf jv).toNat)
      case atStart => exact ⟨0, by omega, rfl, Lib.hid (by simpa using HX.out), HB3⟩
      case round =>
        obtain ⟨j, hj, rfl, HX2, HB4⟩ := hrel
        have hs2 := HS2.out
        have hsl := HSL.out
        have HB5 := Lib.hid (HBw.out.trans (HB4.out.mono HBw.out.size))
        have we : IntKind.i64.wrap ((o : Int) + (j : Int)) = ((o + j : Nat) : Int) := by rw [IntWalk.i64_in _ (by omega)]; omega
        by_cases hjl : j < (seg S b i).length
        · have hjS : j < S := by omega
          have hoN : o + j < N := by omega
          obtain ⟨ad, rfl, hcell⟩ := Kd.at_int HC.out ((o + j : Nat) : Int) (by omega) (by omega)
          obtain ⟨t1, t2⟩ := Kd.R_celln (0 : Int) HX2.out (j : Int) (by omega) (by omega)
          replace hcell := pw_cell_below HB5.out hcell
          have hpn := Kd.R_putn HX2.out (j : Int) (rd b ((o + j : Nat) : Int))
          simp only [Int.toNat_natCast] at hcell t1 t2 hpn
          obtain ⟨x, hx⟩ : ∃ x, x = rd b ((o + j : Nat) : Int) := ⟨_, rfl⟩
          rw [← hx] at hcell hpn
          have hset : ((seg S b i).take j ++ List.replicate (S - j) 0).set j x = (seg S b i).take (j + 1) ++ List.replicate (S - (j + 1)) 0 := by
            have e1 : S - j = (S - (j + 1)) + 1 := by omega
            have e2 : ((seg S b i).take j).length = j := by simp; omega
            have e3 : x = (seg S b i)[j] := by
              have hb : o + j < b.length := by rw [← HN.out]; exact hoN
              have ho := HO.out
              subst ho
              rw [hx]; show b.getD (((i * S + j : Nat) : Int)).toNat 0 = _; rw [Int.toNat_natCast, List.getD_eq_getElem?_getD, List.getElem?_eq_getElem hb]; simp [seg]
            rw [e1]
            have := set_mid ((seg S b i).take j) (S - (j + 1)) x
            rw [e2] at this
            rw [this, List.take_succ_eq_append_getElem hjl, e3]
          rw [hset] at hpn
          have HPN := Lib.hid hpn
          have HBn := Lib.hid (HB4.out.setCell (p := ⟨g, j, none⟩) HGB.out (.int .u8 x))
          have q1 : (j : Int) < (S : Int) := by omega
          have q2 : ((o + j : Nat) : Int) < (N : Int) := by omega
          have q3 : (0 : Int) ≤ ((o + j : Nat) : Int) := by omega
          have q4 : (0 : Int) ≤ (j : Int) := by omega
          have q5 : decide (((o + j : Nat) : Int) < (N : Int)) = true := by simp; omega
          clear hpn hset hx
          obtain ⟨oj, hoj⟩ : ∃ oj, oj = o + j := ⟨_, rfl⟩
          rw [← hoj] at we q2 q3 q5 hcell
          clear hoj hoN
          go_wp2
          go_roundw
          case rel => exact ⟨j + 1, by omega, by go_num, HPN, HBn⟩
          case measure => simp [intOf]; omega
        · have hje : j = (seg S b i).length := by omega
          have hpad : (seg S b i).take j ++ List.replicate (S - j) 0 = pad S (seg S b i) := by rw [hje, List.take_length]; rfl
          rw [hpad] at HX2
          by_cases hjS : j < S
          · have q1 : (j : Int) < (S : Int) := by omega
            have q2 : ¬ ((o + j : Nat) : Int) < (N : Int) := by omega
            obtain ⟨oj, hoj⟩ : ∃ oj, oj = o + j := ⟨_, rfl⟩
            rw [← hoj] at we q2
            have q5 : decide ((oj : Int) < (N : Int)) = false := by simp; omega
            clear hoj hje hpad
            go_wp2_with (at_builtin; refine rows_append2 rfl W1.heap.size rfl _ _ rfl _ _ _ _ rfl rfl HRR.out (HBW.out.trans (HB4.out.mono HBW.out.size)) HBW.out.size HB4.out HX2.out (by rw [cutL_len]; omega) ?_; intro v5 w5 h5 hb5; have H5 := Lib.hid h5; have HB6 := Lib.hid hb5; clear h5 hb5)
            go_roundw
            case rel => exact ⟨i + 1, by omega, by go_num, Lib.hid (by rw [cutL_succ]; exact H5.out), HB6⟩
            case measure => simp [intOf]; omega
          · have q1 : ¬ (j : Int) < (S : Int) := by omega
            have q5 : decide ((j : Int) < (S : Int)) = false := by simp; omega
            clear hje hpad we
            go_wp2_with (at_builtin; refine rows_append2 rfl W1.heap.size rfl _ _ rfl _ _ _ _ rfl rfl HRR.out (HBW.out.trans (HB4.out.mono HBW.out.size)) HBW.out.size HB4.out HX2.out (by rw [cutL_len]; omega) ?_; intro v5 w5 h5 hb5; have H5 := Lib.hid h5; have HB6 := Lib.hid hb5; clear h5 hb5)
            go_roundw
            case rel => exact ⟨i + 1, by omega, by go_num, Lib.hid (by rw [cutL_succ]; exact H5.out), HB6⟩
            case measure => simp [intOf]; omega
    · obtain rfl : i = c := by omega
      have i0 : ¬ (i : Int) < (i : Int) := by omega
      go_wp2
      go_ret
      exact ⟨_, rfl, Kd.R_lower HRR.out HB1.out.size, HBw.out⟩

set_option maxRecDepth 100000 in
theorem cut_bad (n k : Nat) (v : Value) (a b p : Int) (A : Option Addr) (m c : Nat) (w : World) (hc : IsCode w v n k) (h : ¬ (m : Int) = a ∨ p < 1) :
    Calls Try.prog 16 #[v, planV a b p, .slice A m c] w fun e w' => e = .returned (.tuple #[.slice none 0 0, .int .i64 1]) ∧ Below w.heap.size w w' := by
  unfold planV
  obtain ⟨W1, hW1⟩ : ∃ W1, W1 = w.alloc (.cells #[.int .i64 a, .int .i64 b, .int .i64 p] 29) := ⟨_, rfl⟩
  have hb1 : Below w.heap.size w W1 := by rw [hW1]; exact (Below.refl _ _).alloc (Nat.le_refl _) _
  have hblk : Blk W1 w.heap.size 29 #[.int .i64 a, .int .i64 b, .int .i64 p] := by rw [hW1]; exact Blk.new _ _ _
  have y0 : W1.cell? ⟨w.heap.size, 0, none⟩ = some (.int .i64 a) := (hblk.cell 0).trans rfl
  have y2 : W1.cell? ⟨w.heap.size, 2, none⟩ = some (.int .i64 p) := (hblk.cell 2).trans rfl
  have HW1 := Lib.hid hW1
  have HB1 := Lib.hid hb1
  obtain ⟨b0, A0, c00, rfl, _⟩ := hc
  by_cases h1 : (m : Int) = a
  · have h2 : p < 1 := h.resolve_left (fun q => q h1)
    have e1 : ((m : Int) != a) = false := by simp [h1]
    have e2 : decide (p < 1) = true := by simp; omega
    subst h1
    clear hW1 hb1 hblk h
    go_enter Try.func16, Try.ntmps16
    go_upto_region 1 with (fail)
    rw [← HW1.out]
    go_wp2
    go_ret2
    exact ⟨rfl, HB1.out⟩
  · have e1 : ((m : Int) != a) = true := by simp [h1]
    clear hW1 hb1 hblk h
    go_enter Try.func16, Try.ntmps16
    go_upto_region 1 with (fail)
    rw [← HW1.out]
    go_wp2
    go_ret2
    exact ⟨rfl, HB1.out⟩
set_option maxRecDepth 100000 in
theorem small_yes (n k : Nat) (w : World) (h1 : 2 ≤ k) (h2 : k ≤ 4) (h3 : 2 * k - 1 ≤ n) (h4 : n ≤ 12) :
    Calls Try.prog 15 #[.int .i64 n, .int .i64 k] w fun e w' => e = .returned (.bool true) ∧ Below w.heap.size w w' := by
  have RC := Lib.hid (right_calls n k true w (by simp; omega))
  have e1 : (n : Int) ≤ 12 := by omega
  have e2 : (k : Int) ≤ 4 := by omega
  clear h1 h2 h3 h4
  go_enter Try.func15, Try.ntmps15
  go_wp2_with (go_at_call 7; (with_reducible refine RC.out.mono ?_); rintro e w1 ⟨rfl, hb⟩; have HB := Lib.hid hb; clear hb)
  go_ret
  exact ⟨by simp, HB.out⟩
set_option maxRecDepth 100000 in
theorem small_no (n k : Int) (w : World) (h : ¬ (2 ≤ k ∧ k ≤ 4 ∧ 2 * k - 1 ≤ n ∧ n ≤ 12)) :
    Calls Try.prog 15 #[.int .i64 n, .int .i64 k] w fun e w' => e = .returned (.bool false) ∧ Below w.heap.size w w' := by
  by_cases hr : 2 ≤ k ∧ k ≤ 8 ∧ 2 * k - 1 ≤ n ∧ n ≤ 24
  · have RC := Lib.hid (right_calls n k true w (by simp; omega))
    by_cases e1 : n ≤ 12
    · have e2 : ¬ k ≤ 4 := by omega
      have e3 : decide (k ≤ 4) = false := by simp; omega
      clear h hr
      go_enter Try.func15, Try.ntmps15
      go_wp2_with (go_at_call 7; (with_reducible refine RC.out.mono ?_); rintro e w1 ⟨rfl, hb⟩; have HB := Lib.hid hb; clear hb)
      go_ret
      exact ⟨by simp, HB.out⟩
    · have e3 : decide (n ≤ 12) = false := by simp; omega
      clear h hr
      go_enter Try.func15, Try.ntmps15
      go_wp2_with (go_at_call 7; (with_reducible refine RC.out.mono ?_); rintro e w1 ⟨rfl, hb⟩; have HB := Lib.hid hb; clear hb)
      go_ret
      exact ⟨by simp, HB.out⟩
  · have RC := Lib.hid (right_calls n k false w (by simp; omega))
    clear h hr
    go_enter Try.func15, Try.ntmps15
    go_wp2_with (go_at_call 7; (with_reducible refine RC.out.mono ?_); rintro e w1 ⟨rfl, hb⟩; have HB := Lib.hid hb; clear hb)
    go_ret
    exact ⟨by simp, HB.out⟩
/-- A plan's count is how many stripes there are. -/
theorem plan_count (L s p full : Nat) (hs : 2 ≤ s) (hfull : s * p = full) (hp : 1 ≤ p) (q : Nat) (hq : q = if 0 < L ∧ L < full then upq L s else p) :
    (L ≤ upq L full * (s * q)) ∧ (∀ i, i < upq L full → i * (s * q) < L) ∧ 1 ≤ s * q := by
  have hf : 1 ≤ full := by rw [← hfull]; exact Nat.mul_pos (by omega) (by omega)
  have hge : ∀ t, 1 ≤ t → L ≤ upq L t * t := by
    intro t ht
    rcases Nat.lt_or_ge (upq L t * t) L with h | h
    · exact absurd ((upq_lt L t (upq L t) ht).2 h) (Nat.lt_irrefl _)
    · exact h
  by_cases h : 0 < L ∧ L < full
  · rw [if_pos h] at hq
    have hu1 : upq L full = 1 := by
      have h1 : 0 < upq L full := (upq_lt L full 0 hf).2 (by omega)
      have h2 : ¬ 1 < upq L full := fun q => by have := (upq_lt L full 1 hf).1 q; omega
      omega
    have hq1 := hge s (by omega)
    have hq0 : 0 < upq L s := (upq_lt L s 0 (by omega)).2 (by omega)
    rw [hu1, hq, Nat.one_mul, Nat.mul_comm s]
    refine ⟨hq1, fun i hi => ?_, Nat.mul_pos hq0 (by omega)⟩
    have : i = 0 := by omega
    subst this
    omega
  · rw [if_neg h] at hq
    rw [hq, hfull]
    exact ⟨hge full hf, fun i hi => (upq_lt L full i hf).1 hi, hf⟩
end Go.Proofs.Ytjoblpkfpfclpaa.Str
