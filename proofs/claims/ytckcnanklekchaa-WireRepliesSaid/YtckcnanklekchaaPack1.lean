/- The writer of packed bytes: a block of one slice, and the row of bytes that it has. -/
import Derived.Test.YtckcnanklekchaaProg
import Derived.Below
import Derived.Deep.Draws
import Derived.Deep.AppendLies
import Derived.Maps.AppendAt
import Derived.OwnWalk
import Derived.Laws.BytesArg
import Derived.Laws.MakeOwn
import Derived.Laws.OwnMore
import Derived.Deep.OwnRows
import Derived.Tactics
import Derived.Lib.ConvBytes
import Derived.Laws.Slices
import Derived.WalkKit
import Derived.KernelRfl
import Derived.RowKit3
import Derived.Deep.LoopGhost
import Derived.Deep.QuietTactic
import Derived.BigQuiet
import Derived.WideLaws
import Derived.Deep.DeepCutAuto
import Derived.Deep.CutBlock
import Derived.Deep.RegionHeld3
import Derived.Laws.Rows
import Derived.Lib.AppendStr
import Derived.ArgAppend
import Derived.Laws.IdiomCopy
import Derived.OrdersHeld
import Derived.Laws.BitsLemmas
import Derived.RowKit
import Derived.Lib.Hide
import Derived.WalkSpells
import Derived.StillTailTactics
import Derived.Outline
import Derived.Test.YtckcnanklekchaaMem
import Derived.Test.YtckcnanklekchaaBits
import Derived.Test.YtckcnanklekchaaWWords
import Derived.Test.YtckcnanklekchaaWZeros
namespace Go.Proofs.Ytckcnanklekchaa.Pack
open Go Go.RowKit Go.Proofs.Ytckcnanklekchaa.Mem Go.Proofs.Ytckcnanklekchaa.Bits Go.Proofs.YtckcnanklekchaaW.PrintWords
set_option linter.unusedVariables false

/-- The bytes of a number, so many, the least first. -/
def leB : Nat → Nat → List Int
  | _, 0 => []
  | n, k + 1 => ((n % 256 : Nat) : Int) :: leB (n / 256) k
theorem leB_len (n k : Nat) : (leB n k).length = k := by
  induction k generalizing n with
  | zero => rfl
  | succ k ih => simp [leB, ih]
theorem info_u8 : (Try.prog.info? 5).map (fun i => (i.zero, i.size, i.bytes)) = some (some (.int .u8 0), 1, 1) := by kernel_rfl

/-- A writer in block g, whose row is v. -/
structure Wr (w : World) (base g : Nat) (v : Value) (xs : List Int) : Prop where
  blk : Blk w g 64 #[v]
  ge : base ≤ g
  row : w.ownsRow base 5 1 v xs.length (nums .u8 xs)
/-- What a writing call leaves. -/
structure WrTo (w : World) (base g : Nat) (v : Value) (w' : World) (v' : Value) (xs : List Int) : Prop where
  wr : Wr w' base g v' xs
  keep : KeepBut w w' g v.ownBlock
  at_ : v'.ownBlock = v.ownBlock ∨ ∃ b, v'.ownBlock = some b ∧ w.heap.size ≤ b
  bel : Below base w w'
theorem own_form {w : World} {base n : Nat} {e : TypeId} {size : Nat} {v : Value} {xs : List Value} (h : w.ownsRow base e size v n xs) : ∃ A m c, v = .slice A m c := by
  obtain ⟨A, c, e⟩ := own_slice h
  exact ⟨A, n, c, e⟩
section
variable {w w' w1 w2 : World} {base g : Nat} {v v' v1 v2 : Value} {xs ys zs : List Int}
theorem Wr.ne (h : Wr w base g v xs) : some g ≠ v.ownBlock := fun e => own_blk_ne h.row h.blk (by decide) e.symm
theorem Wr.size (h : Wr w base g v xs) : base ≤ w.heap.size := Nat.le_of_lt (Nat.lt_of_le_of_lt h.ge h.blk.lt)
theorem Wr.cell (h : Wr w base g v xs) : w.cell? ⟨g, 0, none⟩ = some v := (h.blk.cell 0).trans rfl
theorem Wr.frozen (h : Wr w base g v xs) : w.frozen? ⟨g, 0, none⟩ = false := h.blk.frozen 0
theorem Wr.below (h : Wr w base g v xs) (hb : Below w.heap.size w w') : Wr w' base g v xs := ⟨h.blk.below hb h.blk.lt, h.ge, pw_own_below h.row hb⟩
theorem Wr.drewN (h : Wr w base g v xs) (n : Nat) : Wr (w.drewN n) base g v xs := ⟨h.blk, h.ge, h.row⟩
theorem Wr.alloc (h : Wr w base g v xs) (o : Obj) : Wr (w.alloc o) base g v xs := h.below ((Below.refl _ _).alloc (Nat.le_refl _) o)
theorem Wr.to (h : Wr w base g v xs) : WrTo w base g v w v xs := ⟨h, KeepBut.refl _ _ _, .inl rfl, Below.refl _ _⟩
theorem WrTo.trans (h : WrTo w base g v w1 v1 xs) (k : WrTo w1 base g v1 w2 v2 ys) : WrTo w base g v w2 v2 ys := by
  refine ⟨k.wr, h.keep.trans k.keep h.at_, ?_, h.bel.trans k.bel⟩
  rcases k.at_ with e | ⟨b, e, hb⟩
  · rw [e]; exact h.at_
  · exact .inr ⟨b, e, Nat.le_trans h.keep.1 hb⟩
theorem WrTo.next (h : WrTo w base g v w1 v1 xs) (hb : Below w1.heap.size w1 w2) : WrTo w base g v w2 v1 xs :=
  h.trans ⟨h.wr.below hb, KeepBut.of_below hb g _, .inl rfl, hb.mono h.wr.size⟩
theorem WrTo.drewN (h : WrTo w base g v w1 v1 xs) (n : Nat) : WrTo w base g v (w1.drewN n) v1 xs := h.next (pw_below_drewN (Below.refl _ _) n)
/-- Behind an append, and the store of the row. -/
theorem Wr.put (h : Wr w base g v xs) (ho : w1.ownsRow base 5 1 v1 ys.length (nums .u8 ys)) (hB : Below base w w1) (hg : w.grownBy w1 v.ownBlock)
    (hat : v1.ownBlock = v.ownBlock ∨ ∃ b, v1.ownBlock = some b ∧ w.heap.size ≤ b) : WrTo w base g v (w1.setCell ⟨g, 0, none⟩ v1) v1 ys := by
  have hb1 : Blk w1 g 64 #[v] := h.blk.grown hg h.ne
  have hne : some g ≠ v1.ownBlock := fun e => own_blk_ne ho hb1 (by decide) e.symm
  refine ⟨⟨?_, h.ge, own_setCell ho hne v1⟩, (KeepBut.of_grown hg g).set_ 0 v1, hat, hB.setCell h.ge v1⟩
  have := hb1.set_ 0 v1
  simpa using this
end
/-- What a writing method tells. -/
def WrPost (base g : Nat) (v : Value) (ys : List Int) (w : World) (e : Ending) (w' : World) : Prop :=
  e = .returned (.pointer (some ⟨g, 0, none⟩)) ∧ ∃ v', WrTo w base g v w' v' ys

def cnt (size : Int) : Nat := (min (max size 0) 8).toNat
def U64 : Nat := 18446744073709551616

set_option maxRecDepth 100000 in
set_option maxHeartbeats 1000000 in
theorem num_walk (base g : Nat) (v : Value) (xs : List Int) (n : Nat) (size : Int) (c : Nat) (w : World) (h : Wr w base g v xs) (hn : n < U64) (hl : xs.length ≤ 1000000)
    (hs : (¬ 0 ≤ size ∧ c = 0) ∨ (0 ≤ size ∧ 8 < size ∧ c = 8) ∨ (0 ≤ size ∧ ¬ 8 < size ∧ size = (c : Int))) :
    Calls Try.prog 27 #[.pointer (some ⟨g, 0, none⟩), .int .u64 n, .int .i64 size] w (WrPost base g v (xs ++ leB n c) w) := by
  have HW := Lib.hid h.to
  have HN := Lib.hid hn
  have hc8 : c ≤ 8 := by omega
  obtain ⟨zs, hz⟩ : ∃ zs, zs = xs ++ leB n c := ⟨_, rfl⟩
  have HZ := Lib.hid (show xs ++ leB n (c - 0) = zs from hz.symm)
  have HL := Lib.hid (show zs.length ≤ 2000000 by rw [hz, List.length_append, leB_len]; omega)
  rw [← hz]
  clear h hn hz hl
  rcases hs with ⟨s1, s2⟩ | ⟨s1, s2, s3⟩ | ⟨s1, s2, rfl⟩
  all_goals
    go_enter Try.func27, Try.ntmps27
    go_upto_region 2 with (fail)
    go_loopw [1, 10] (fun m i wr => ∃ (k m0 : Nat) (v' : Value) (cur : List Int), k ≤ c ∧ i = .int .i64 k ∧ m = .int .u64 m0 ∧ m0 < U64 ∧ Hid (cur ++ leB m0 (c - k) = zs) ∧ Hid (WrTo w base g v wr v' cur)) (fun _ i _ => c - (intOf i).toNat)
    case atStart => exact ⟨0, n, v, xs, by omega, rfl, rfl, HN.out, HZ, HW⟩
    case round =>
      obtain ⟨k, m0, v', cur, hk, rfl, rfl, hm, HC, HV⟩ := hrel
      clear HW HZ HN
      by_cases hlt : k < c
      · first | (exfalso; omega) | skip
        all_goals
          first | have q0 : (k : Int) < 8 := by omega
                | have q0 : (k : Int) < (c : Int) := by omega
          have hcell := HV.out.wr.cell
          have hlen : cur.length ≤ 2000000 := by
            have := HL.out; have e := HC.out; rw [← e, List.length_append] at this; omega
          have HLN := Lib.hid hlen
          clear hlen
          go_wp2_with (at_builtin; refine print_append_num (w0 := wr) (k := .u8) base rfl _ _ 27 5 1 rfl Try.underlying27 info_u8 (by decide) v' cur _ rfl rfl HV.out.wr.row (Below.refl _ _) HV.out.wr.size (by have := HLN.out; omega) ?_; intro v1 w1 h1 h2 h3 h4; obtain ⟨A1, n1, c1, rfl⟩ := own_form h1; have HP := Lib.hid (HV.out.trans (HV.out.wr.put h1 h2 h3 h4)); have hc1 := ((HV.out.wr.blk.grown h3 HV.out.wr.ne).cell 0).trans rfl; have hf1 := (HV.out.wr.blk.grown h3 HV.out.wr.ne).frozen 0; clear h1 h2 h3 h4)
          go_roundw
          case rel => exact ⟨k + 1, m0 / 256, _, _, by omega, by go_num, by go_num, by unfold U64 at *; omega, Lib.hid (by rw [← HC.out, show c - k = (c - (k + 1)) + 1 by omega, leB, List.append_assoc, List.singleton_append]; rfl), HP⟩
          case measure => simp [intOf]; omega
      · have e : c - k = 0 := by omega
        first | have q0 : ¬ (k : Int) < 8 := by omega
              | have q0 : ¬ (k : Int) < (c : Int) := by omega
        have HE := Lib.hid e
        clear e
        go_wp2
        go_ret
        refine ⟨rfl, v', ?_⟩
        have e := HC.out
        rw [HE.out, leB, List.append_nil] at e
        rw [← e]
        exact HV.out
theorem cnt_of (size : Int) (c : Nat) (h : (¬ 0 ≤ size ∧ c = 0) ∨ (0 ≤ size ∧ 8 < size ∧ c = 8) ∨ (0 ≤ size ∧ ¬ 8 < size ∧ size = (c : Int))) : cnt size = c := by unfold cnt; omega
theorem num_any (base g : Nat) (v : Value) (xs : List Int) (n : Nat) (size : Int) (w : World) (h : Wr w base g v xs) (hn : n < U64) (hl : xs.length ≤ 1000000) :
    Calls Try.prog 27 #[.pointer (some ⟨g, 0, none⟩), .int .u64 n, .int .i64 size] w (WrPost base g v (xs ++ leB n (cnt size)) w) := by
  have hc : (¬ 0 ≤ size ∧ cnt size = 0) ∨ (0 ≤ size ∧ 8 < size ∧ cnt size = 8) ∨ (0 ≤ size ∧ ¬ 8 < size ∧ size = (cnt size : Int)) := by unfold cnt; omega
  exact num_walk base g v xs n size (cnt size) w h hn hl hc

set_option maxRecDepth 100000 in
theorem raw_any (base g : Nat) (v : Value) (xs ys : List Int) (A : Option Addr) (m c : Nat) (w : World) (h : Wr w base g v xs) (hr : ReadsInt w .u8 A m ys) (hl : xs.length ≤ 1000000) (hm : m ≤ 1000000) :
    Calls Try.prog 29 #[.pointer (some ⟨g, 0, none⟩), .slice A m c] w (WrPost base g v (xs ++ ys) w) := by
  have HV := Lib.hid h
  have HR := Lib.hid hr
  have hcell := h.cell
  clear h hr
  go_enter Try.func29, Try.ntmps29
  go_wp2_with (at_builtin; refine print_append_row (w0 := w) (k := .u8) base rfl _ _ 27 5 1 rfl Try.underlying27 info_u8 (by decide) v xs ys A m c rfl rfl HV.out.row HR.out (Below.refl _ _) HV.out.size (by omega) ?_; intro v1 w1 h1 h2 h3 h4; obtain ⟨A1, n1, c1, rfl⟩ := own_form h1; have HP := Lib.hid (HV.out.put h1 h2 h3 h4); have hc1 := ((HV.out.blk.grown h3 HV.out.ne).cell 0).trans rfl; have hf1 := (HV.out.blk.grown h3 HV.out.ne).frozen 0; clear h1 h2 h3 h4)
  go_ret
  exact ⟨rfl, _, HP.out⟩

set_option maxRecDepth 100000 in
theorem bytes_any (base g : Nat) (v : Value) (xs : List Int) (w : World) (h : Wr w base g v xs) (hl : xs.length ≤ 1000000) :
    Calls Try.prog 30 #[.pointer (some ⟨g, 0, none⟩)] w fun e w' => ∃ A c, e = .returned (.slice A xs.length c) ∧ w'.ownsRow w.heap.size 5 1 (.slice A xs.length c) xs.length (nums .u8 xs) ∧ Below w.heap.size w w' := by
  have HV := Lib.hid (h.alloc (.cells #[] 5))
  have hcell := (h.alloc (.cells #[] 5)).cell
  have HO := Lib.hid (show (w.alloc (.cells #[] 5)).ownsRow w.heap.size 5 1 (.slice (some ⟨w.heap.size, 0, none⟩) 0 0) ([] : List Int).length (nums .u8 []) from own_lit w w.heap.size 5 .u8 [] (Nat.le_refl _) (by simp))
  have HA := Lib.hid ((Below.refl w.heap.size w).alloc (Nat.le_refl _) (.cells #[] 5))
  clear h
  go_enter Try.func30, Try.ntmps30
  obtain ⟨A, c, rfl⟩ := own_slice HV.out.row
  go_wp2_with (at_builtin; refine print_append_row (w0 := w) (k := .u8) w.heap.size rfl _ _ 27 5 1 rfl Try.underlying27 info_u8 (by decide) _ [] xs A xs.length c rfl rfl HO.out (own_reads' HV.out.row) HA.out (by simp) (by simp; omega) ?_; intro v1 w1 h1 h2 h3 h4; obtain ⟨A1, c1, rfl⟩ := own_slice h1; have H1 := Lib.hid h1; have H2 := Lib.hid h2; clear h1 h2 h3 h4)
  go_ret
  exact ⟨A1, c1, by simp, by simpa using H1.out, H2.out⟩
theorem bel_of {base : Nat} {w w' : World} (h : Below base w w') (hb : base ≤ w.heap.size) : Below base w w' := h

def U16 : Nat := 65536
end Go.Proofs.Ytckcnanklekchaa.Pack
