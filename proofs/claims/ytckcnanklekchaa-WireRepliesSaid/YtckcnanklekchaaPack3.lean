/- The reader of packed bytes. -/
import Derived.Test.YtckcnanklekchaaProg
import Derived.Below
import Derived.Deep.Draws
import Derived.Deep.AppendLies
import Derived.Maps.AppendAt
import Derived.OwnWalk
import Derived.Laws.BytesArg
import Derived.Laws.MakeOwn
import Derived.Laws.OwnMore
import Derived.Deep.OwnRows
import Derived.Tactics
import Derived.Lib.ConvBytes
import Derived.Laws.Slices
import Derived.WalkKit
import Derived.KernelRfl
import Derived.RowKit3
import Derived.Deep.LoopGhost
import Derived.Deep.QuietTactic
import Derived.BigQuiet
import Derived.WideLaws
import Derived.Deep.DeepCutAuto
import Derived.Deep.CutBlock
import Derived.Deep.RegionHeld3
import Derived.Laws.Rows
import Derived.Lib.AppendStr
import Derived.ArgAppend
import Derived.Laws.IdiomCopy
import Derived.OrdersHeld
import Derived.Laws.BitsLemmas
import Derived.RowKit
import Derived.Lib.Hide
import Derived.WalkSpells
import Derived.StillTailTactics
import Derived.Outline
import Derived.Laws.Bits64b
import Derived.Test.YtckcnanklekchaaPack1
namespace Go.Proofs.Ytckcnanklekchaa.Pack
open Go Go.RowKit Go.Proofs.Ytckcnanklekchaa.Mem Go.Proofs.Ytckcnanklekchaa.Bits Go.Proofs.YtckcnanklekchaaW.PrintWords
set_option linter.unusedVariables false

/-- A reader in block g: what is left, and whether it is torn. -/
structure RdAt (w : World) (base g d : Nat) (A : Option Addr) (c : Nat) (xs : List Int) (torn : Bool) : Prop where
  blk : Blk w g 74 #[.slice A xs.length c, .bool torn]
  ge : base ≤ g
  rd : ReadsInt w .u8 A xs.length xs
  cap : xs.length ≤ c
  dat : ∀ ad, A = some ad → 0 < xs.length → ad.block = d
  ne : d ≠ g
def Rd (w : World) (base g d : Nat) (xs : List Int) (torn : Bool) : Prop := ∃ A c, RdAt w base g d A c xs torn
/-- What a reading call leaves. -/
structure RdTo (w : World) (base g d : Nat) (w' : World) (xs : List Int) (torn : Bool) : Prop where
  rd : Rd w' base g d xs torn
  keep : KeepBut w w' g none
  bel : Below base w w'
section
variable {w w' w1 w2 : World} {base g d : Nat} {xs ys : List Int} {torn torn' : Bool}
theorem RdAt.below {A c} (h : RdAt w base g d A c xs torn) (hb : Below w.heap.size w w') : RdAt w' base g d A c xs torn := ⟨h.blk.below hb h.blk.lt, h.ge, h.rd.below hb, h.cap, h.dat, h.ne⟩
theorem Rd.below (h : Rd w base g d xs torn) (hb : Below w.heap.size w w') : Rd w' base g d xs torn := by
  obtain ⟨A, c, h⟩ := h
  exact ⟨A, c, h.below hb⟩
theorem Rd.lt (h : Rd w base g d xs torn) : g < w.heap.size := by obtain ⟨A, c, h⟩ := h; exact h.blk.lt
theorem Rd.size (h : Rd w base g d xs torn) : base ≤ w.heap.size := by
  have h1 := h.lt
  obtain ⟨A, c, h⟩ := h
  have := h.ge
  omega
theorem Rd.set_ (h : Rd w base g d xs torn) {p : Addr} (hg : g ≠ p.block) (hd : 0 < xs.length → d ≠ p.block) (u : Value) : Rd (w.setCell p u) base g d xs torn := by
  obtain ⟨A, c, h⟩ := h
  refine ⟨A, c, h.blk.far hg u, h.ge, ⟨h.rd.1, h.rd.2.1, fun hp => ?_⟩, h.cap, h.dat, h.ne⟩
  obtain ⟨ad, e, hc⟩ := h.rd.2.2 hp
  refine ⟨ad, e, fun i hi => ?_⟩
  have := h.dat ad e hp
  rw [World.cell?_setCell_other w p _ u (fun e' => hd hp (by rw [← this, e', add_block]))]
  exact hc i hi
theorem Rd.dlt (h : Rd w base g d xs torn) (hp : 0 < xs.length) : d < w.heap.size := by
  obtain ⟨A, c, h⟩ := h
  obtain ⟨ad, e, hc⟩ := h.rd.2.2 hp
  have h1 := World.block_lt_of_cell? w _ (hc 0 hp)
  rw [add_block] at h1
  rw [← h.dat ad e hp]; exact h1
theorem Rd.to (h : Rd w base g d xs torn) : RdTo w base g d w xs torn := ⟨h, KeepBut.refl _ _ _, Below.refl _ _⟩
theorem RdTo.trans (h : RdTo w base g d w1 xs torn) (k : RdTo w1 base g d w2 ys torn') : RdTo w base g d w2 ys torn' :=
  ⟨k.rd, h.keep.trans k.keep (.inl rfl), h.bel.trans k.bel⟩
theorem RdTo.next (h : RdTo w base g d w1 xs torn) (hb : Below w1.heap.size w1 w2) : RdTo w base g d w2 xs torn :=
  h.trans ⟨h.rd.below hb, KeepBut.of_below hb g none, hb.mono h.rd.size⟩
theorem RdTo.drew (h : RdTo w base g d w1 xs torn) : RdTo w base g d w1.drew xs torn := h.next (below_drew (Below.refl _ _))
end
/-- What is taken, and what is left. -/
def rawR (m : Int) (xs : List Int) (torn : Bool) : List Int × List Int × Bool := if 0 ≤ m ∧ m ≤ xs.length then (xs.take m.toNat, xs.drop m.toNat, torn) else ([], [], true)
theorem rawR_ok {m : Int} {xs : List Int} {torn : Bool} (h0 : 0 ≤ m) (h1 : m ≤ xs.length) : rawR m xs torn = (xs.take m.toNat, xs.drop m.toNat, torn) := if_pos ⟨h0, h1⟩
theorem rawR_bad {m : Int} {xs : List Int} {torn : Bool} (h : ¬ (0 ≤ m ∧ m ≤ xs.length)) : rawR m xs torn = ([], [], true) := if_neg h

/-- What Raw tells. -/
def RawPost (base g d : Nat) (r : List Int × List Int × Bool) (w : World) (e : Ending) (w' : World) : Prop :=
  ∃ A c, e = .returned (.slice A r.1.length c) ∧ w'.ownsRow w.heap.size 5 1 (.slice A r.1.length c) r.1.length (nums .u8 r.1) ∧ RdTo w base g d w' r.2.1 r.2.2
theorem torn_of {w : World} {base g d : Nat} {A : Option Addr} {c : Nat} {xs : List Int} {torn : Bool} (h : RdAt w base g d A c xs torn) : RdTo w base g d ((w.setCell ⟨g, 1, none⟩ (.bool true)).setCell ⟨g, 0, none⟩ (.slice none 0 0)) [] true := by
  refine ⟨⟨none, 0, ?_, h.ge, ReadsInt.nil _ _, by simp, (fun ad e => by cases e), h.ne⟩, ((KeepBut.refl _ _ _).set_ 1 _).set_ 0 _, ((Below.refl _ _).setCell h.ge _).setCell h.ge _⟩
  have := (h.blk.set_ 1 (.bool true)).set_ 0 (.slice none 0 0)
  simpa using this
set_option maxRecDepth 100000 in
set_option maxHeartbeats 1000000 in
theorem rawr_any (base g d : Nat) (xs : List Int) (torn : Bool) (m : Int) (w : World) (h : Rd w base g d xs torn) (hl : xs.length ≤ 1000000) :
    Calls Try.prog 35 #[.pointer (some ⟨g, 0, none⟩), .int .i64 m] w (RawPost base g d (rawR m xs torn) w) := by
  obtain ⟨A, c, h⟩ := h
  have c0 : w.cell? ⟨g, 0, none⟩ = some (.slice A xs.length c) := (h.blk.cell 0).trans rfl
  have c1 : w.cell? ⟨g, 1, none⟩ = some (.bool torn) := (h.blk.cell 1).trans rfl
  have f0 := h.blk.frozen 0
  have f1 := h.blk.frozen 1
  have HT := Lib.hid (torn_of h)
  by_cases hm0 : 0 ≤ m
  · by_cases hm1 : m ≤ xs.length
    · rw [rawR_ok hm0 hm1]
      obtain ⟨m, rfl⟩ := Int.eq_ofNat_of_zero_le hm0
      simp only [Int.toNat_natCast]
      have hd : decide ((m : Int) < 0) = false := by simp
      obtain ⟨i0, hi, hz⟩ := Option.map_eq_some_iff.1 info_u8
      simp only [Prod.mk.injEq] at hz
      have k1 := cut_to (P := Try.prog) 27 5 .i64 Try.underlying27 hi A xs.length c (m : Int) hm0 hm1 h.cap
      have k2 := cut_from (P := Try.prog) 27 5 .i64 Try.underlying27 hi 1 hz.2.1 A xs.length c (m : Int) hm0 hm1
      simp only [Int.toNat_natCast, Nat.mul_one] at k1 k2
      obtain ⟨A', hA'⟩ : ∃ A', A' = if c = m then A else A.map (·.add m) := ⟨_, rfl⟩
      rw [← hA'] at k2
      have hr2 : ReadsInt w .u8 A' (xs.length - m) (xs.drop m) := by rw [hA']; exact h.rd.drop_ m (by omega) h.cap
      have hfar : ∀ ad, A' = some ad → 0 < xs.length - m → ad.block = d := by
        intro ad e hp
        rw [hA'] at e
        by_cases hc : c = m
        · have := h.cap; omega
        · rw [if_neg hc] at e
          cases hA : A with
          | none => rw [hA] at e; cases e
          | some ad0 =>
            rw [hA] at e
            simp at e
            rw [← e, add_block]
            exact h.dat ad0 hA (by omega)
      have HO := Lib.hid (show (w.alloc (.cells #[] 5)).ownsRow w.heap.size 5 1 (.slice (some ⟨w.heap.size, 0, none⟩) 0 0) ([] : List Int).length (nums .u8 []) from own_lit w w.heap.size 5 .u8 [] (Nat.le_refl _) (by simp))
      have hA := (Below.refl w.heap.size w).alloc (Nat.le_refl _) (.cells #[] 5)
      have HA := Lib.hid hA
      have h' := h.below hA
      have c0' : (w.alloc (.cells #[] 5)).cell? ⟨g, 0, none⟩ = some (.slice A xs.length c) := (h'.blk.cell 0).trans rfl
      have HH := Lib.hid h
      have HR2 := Lib.hid hr2
      have HF := Lib.hid hfar
      obtain ⟨n, hn⟩ : ∃ n, n = xs.length := ⟨_, rfl⟩
      have HN := Lib.hid hn
      have hrd := h.rd.take_ m (by omega)
      have HRT := Lib.hid (show ReadsInt w .u8 A m (xs.take m) from hrd)
      rw [← hn] at k1 k2 c0 c0' hm1 hl
      have hd2 : decide ((m : Int) > (n : Int)) = false := by simp; omega
      have hd3 : ¬ (n : Int) < (m : Int) := by omega
      clear hz hi h h' hA' hr2 hfar hA hn hrd
      go_enter Try.func35, Try.ntmps35
      go_wp2_with (at_builtin; refine print_append_row (w0 := w) (k := .u8) w.heap.size rfl _ _ 27 5 1 rfl Try.underlying27 info_u8 (by decide) _ [] (xs.take m) A m c rfl rfl HO.out (HRT.out.below HA.out) HA.out (by simp) (by simp; omega) ?_; intro v1 w1 h1 h2 h3 h4; obtain ⟨A1, c1, rfl⟩ := own_slice h1; have hq := HH.out.below h2; have c0'' := (hq.blk.cell 0).trans rfl; have f0'' := hq.blk.frozen 0; rw [← HN.out] at c0''; have HQ := Lib.hid hq; have H1 := Lib.hid h1; have H2 := Lib.hid h2; clear h1 h2 h3 h4 hq)
      go_ret
      have hb1 := H2.out.size
      have hg := HH.out.blk.lt
      have ho := H1.out
      rw [List.nil_append] at ho
      refine ⟨A1, c1, by simp, own_setCell ho (fun e => ?_) _, ⟨⟨A', c - m, ?_, HH.out.ge, ?_, ?_, ?_, HH.out.ne⟩, (KeepBut.of_below H2.out g none).set_ 0 _, (H2.out.mono (by have := HH.out.ge; omega)).setCell HH.out.ge _⟩⟩
      · have := own_base ho g e.symm
        omega
      · have := HQ.out.blk.set_ 0 (.slice A' (n - m) (c - m))
        simpa [List.length_drop, ← HN.out] using this
      · simp only [List.length_drop]
        refine ReadsInt.keep HR2.out ((KeepBut.of_below H2.out g none).set_ 0 _) (fun ad e hp => by rw [HF.out ad e hp]; exact HH.out.ne)
      · simp only [List.length_drop]
        have := HH.out.cap; omega
      · simp only [List.length_drop]
        exact HF.out
    · rw [rawR_bad (fun hh => hm1 hh.2)]
      have hd : decide (m < 0) = false := by simp; omega
      obtain ⟨n, hn⟩ : ∃ n, n = xs.length := ⟨_, rfl⟩
      rw [← hn] at c0 hm1
      have hd2 : decide (m > (n : Int)) = true := by simp; omega
      have hd3 : (n : Int) < m := by omega
      clear h hn
      go_enter Try.func35, Try.ntmps35
      go_wp2
      go_ret
      exact ⟨none, 0, rfl, own_nil _ _ _ _, HT.out⟩
  · rw [rawR_bad (fun hh => hm0 hh.1)]
    have hd : decide (m < 0) = true := by simp; omega
    clear h
    go_enter Try.func35, Try.ntmps35
    go_wp2
    go_ret
    exact ⟨none, 0, rfl, own_nil _ _ _ _, HT.out⟩

/-- The number of bytes, the least first. -/
def leN : List Int → Nat
  | [] => 0
  | b :: r => b.toNat + 256 * leN r
def AllB (xs : List Int) : Prop := ∀ x ∈ xs, 0 ≤ x ∧ x < 256
theorem leN_snoc (xs : List Int) (b : Int) : leN (xs ++ [b]) = leN xs + b.toNat * 256 ^ xs.length := by
  induction xs with
  | nil => simp [leN]
  | cons x xs ih => 
    simp only [List.cons_append, leN, ih, List.length_cons, Nat.pow_succ]
    rw [Nat.mul_add, Nat.add_assoc]
    congr 2
    rw [← Nat.mul_assoc, Nat.mul_comm 256, Nat.mul_assoc, Nat.mul_comm 256]
theorem leN_lt (xs : List Int) (h : AllB xs) : leN xs < 256 ^ xs.length := by
  induction xs with
  | nil => simp [leN]
  | cons x xs ih =>
    have h1 := ih (fun y hy => h y (List.mem_cons_of_mem _ hy))
    have h2 := h x (List.mem_cons_self ..)
    simp only [leN, List.length_cons, Nat.pow_succ]
    omega
theorem leN_leB (n k : Nat) : leN (leB n k) = n % 256 ^ k := by
  induction k generalizing n with
  | zero => simp [leN, leB]; omega
  | succ k ih =>
    simp only [leB, leN, ih, Int.toNat_natCast, Nat.pow_succ]
    rw [Nat.mul_comm (256 ^ k) 256, Nat.mod_mul]
theorem pow256 (k : Nat) : 256 ^ k = 2 ^ (8 * k) := by rw [Nat.pow_mul]
/-- One byte more. -/
theorem or_step (a b k : Nat) (ha : a < 256 ^ k) (hb : b < 256) : a ||| (b * 2 ^ (8 * k)) = a + b * 256 ^ k := by
  rw [pow256] at *
  have := Nat.shiftLeft_add_eq_or_of_lt ha b
  rw [Nat.shiftLeft_eq] at this
  rw [Nat.or_comm, ← this, Nat.add_comm]
def numR (size : Int) (xs : List Int) (torn : Bool) : Nat × List Int × Bool := (leN (rawR (if 8 < size then -1 else size) xs torn).1, (rawR (if 8 < size then -1 else size) xs torn).2)
theorem rawR_len (m : Int) (xs : List Int) (torn : Bool) (hm : m ≤ 8) : (rawR m xs torn).1.length ≤ 8 := by
  unfold rawR
  split
  · simp only [List.length_take]; omega
  · simp
theorem rawR_b (m : Int) (xs : List Int) (torn : Bool) (h : AllB xs) : AllB (rawR m xs torn).1 ∧ AllB (rawR m xs torn).2.1 := by
  unfold rawR
  split
  · exact ⟨fun x hx => h x (List.mem_of_mem_take hx), fun x hx => h x (List.mem_of_mem_drop hx)⟩
  · constructor
    · intro x hx; simp at hx
    · intro x hx; simp at hx
theorem take_rd (r : List Int) (k : Nat) (hk : k < r.length) : r.take (k + 1) = r.take k ++ [rd r k] := by
  rw [List.take_succ_eq_append_getElem hk]
  simp [rd, List.getD_eq_getElem?_getD, hk]
theorem rd_mem (r : List Int) (k : Nat) (hk : k < r.length) : rd r k ∈ r := by
  simp [rd, List.getD_eq_getElem?_getD, hk]
theorem num_step (r : List Int) (k b : Nat) (hr : AllB r) (h8 : r.length ≤ 8) (hk : k < r.length) (hb : rd r k = (b : Int)) : bits .or .u64 ((leN (r.take k) : Nat) : Int) (IntKind.u64.wrap ((b : Int) * 2 ^ (8 * k))) = ((leN (r.take (k + 1)) : Nat) : Int) := by
  have h1 := leN_lt (r.take k) (fun x hx => hr x (List.mem_of_mem_take hx))
  have hlen : (r.take k).length = k := by rw [List.length_take]; omega
  rw [hlen] at h1
  have hb2 : b < 256 := by have := hr _ (rd_mem r k hk); omega
  have hp : 256 ^ k ≤ 256 ^ 7 := Nat.pow_le_pow_right (by decide) (by omega)
  have hm : b * 256 ^ k ≤ 255 * 256 ^ 7 := Nat.mul_le_mul (by omega) hp
  have e : (b : Int) * 2 ^ (8 * k) = ((b * 256 ^ k : Nat) : Int) := by rw [pow256]; simp
  rw [take_rd r k hk, leN_snoc, hlen, hb, Int.toNat_natCast, e, wraps_u64 _ (by omega) (by omega)]
  have h2 := or_step (leN (r.take k)) b k h1 hb2
  rw [pow256] at h2 ⊢
  rw [← h2]
  rw [pow256] at h1 hm hp
  exact u64_or_nat _ _ (by omega) (by omega)
set_option maxRecDepth 100000 in
set_option maxHeartbeats 1000000 in
theorem numr_walk (base g d : Nat) (xs : List Int) (torn : Bool) (size s : Int) (w : World) (h : Rd w base g d xs torn) (hl : xs.length ≤ 1000000) (hb : AllB xs) (hs : (8 < size ∧ s = -1) ∨ (¬ 8 < size ∧ s = size)) :
    Calls Try.prog 21 #[.pointer (some ⟨g, 0, none⟩), .int .i64 size] w fun e w' => e = .returned (.int .u64 (leN (rawR s xs torn).1)) ∧ RdTo w base g d w' (rawR s xs torn).2.1 (rawR s xs torn).2.2 := by
  have hr8 := rawR_len s xs torn (by omega)
  have hrb := (rawR_b s xs torn hb).1
  have RC := Lib.hid (fun W (hW : Rd W base g d xs torn) => rawr_any base g d xs torn s W hW hl)
  have HD := Lib.hid h
  obtain ⟨r, hr⟩ : ∃ r, r = rawR s xs torn := ⟨_, rfl⟩
  rw [← hr] at RC hr8 hrb ⊢
  obtain ⟨r, ys, tn⟩ := r
  have HRB := Lib.hid hrb
  have HR8 := Lib.hid hr8
  clear hr h hb hrb hr8
  rcases hs with ⟨s1, rfl⟩ | ⟨s1, rfl⟩
  all_goals
    go_enter Try.func21, Try.ntmps21
    go_upto_region 5 with (go_at_call 35; (with_reducible refine (RC.out _ HD.out).mono ?_); rintro e w1 ⟨A, c, rfl, ho, ht⟩; have HO := Lib.hid ho; have HT := Lib.hid ht; clear ho ht)
    obtain ⟨n, hn⟩ : ∃ n, n = r.length := ⟨_, rfl⟩
    rw [← hn]
    have HN := Lib.hid hn
    clear hn
    have hn8 : n ≤ 8 := by rw [HN.out]; exact HR8.out
    go_loop [5, 6, 7, 14] (fun v _ _ i => ∃ k : Nat, k ≤ n ∧ i = .int .i64 k ∧ v = .int .u64 (leN (r.take k))) (fun _ _ _ i => n - (intOf i).toNat)
    case atStart => exact ⟨0, by omega, rfl, rfl⟩
    case round =>
      obtain ⟨k, hk, rfl, rfl⟩ := hrel
      by_cases hlt : k < n
      · have hq : (k : Int) < (n : Int) := by omega
        obtain ⟨ad, rfl, hc⟩ := (own_reads' HO.out).at_ (k : Int) (by omega) (by have := HN.out; omega)
        simp only [Int.toNat_natCast] at hc
        have hbb := HRB.out (rd r k) (rd_mem r k (by rw [← HN.out]; exact hlt))
        obtain ⟨b, hb⟩ := Int.eq_ofNat_of_zero_le hbb.1
        have HST := Lib.hid (num_step r k b HRB.out HR8.out (by rw [← HN.out]; exact hlt) hb)
        rw [hb] at hc
        have hb255 : b < 256 := by omega
        clear hb hbb
        go_wp2
        go_round
        case rel => exact ⟨k + 1, by omega, by go_num, by rw [HST.out]⟩
        case measure => simp [intOf]; omega
      · obtain rfl : k = n := by omega
        go_wp2
        go_ret
        refine ⟨?_, HT.out⟩
        rw [List.take_of_length_le (by rw [← HN.out]; exact Nat.le_refl _)]
        rfl
theorem numr_any (base g d : Nat) (xs : List Int) (torn : Bool) (size : Int) (w : World) (h : Rd w base g d xs torn) (hl : xs.length ≤ 1000000) (hb : AllB xs) :
    Calls Try.prog 21 #[.pointer (some ⟨g, 0, none⟩), .int .i64 size] w fun e w' => e = .returned (.int .u64 ((numR size xs torn).1 : Nat)) ∧ RdTo w base g d w' (numR size xs torn).2.1 (numR size xs torn).2.2 := by
  unfold numR
  by_cases h8 : 8 < size
  · rw [if_pos h8]; exact numr_walk base g d xs torn size (-1) w h hl hb (.inl ⟨h8, rfl⟩)
  · rw [if_neg h8]; exact numr_walk base g d xs torn size size w h hl hb (.inr ⟨h8, rfl⟩)
end Go.Proofs.Ytckcnanklekchaa.Pack
