/- What Of comes to: rows made a matrix, or that they are none. -/
import Derived.Test.YtelgefkfflgbeaaProg
import Derived.Below
import Derived.Deep.Draws
import Derived.Deep.AppendLies
import Derived.Maps.AppendAt
import Derived.OwnWalk
import Derived.Laws.BytesArg
import Derived.Laws.MakeOwn
import Derived.Laws.OwnMore
import Derived.Deep.OwnRows
import Derived.Tactics
import Derived.Lib.ConvBytes
import Derived.Laws.Slices
import Derived.WalkKit
import Derived.KernelRfl
import Derived.RowKit3
import Derived.Deep.LoopGhost
import Derived.Deep.QuietTactic
import Derived.BigQuiet
import Derived.WideLaws
import Derived.Deep.DeepCutAuto
import Derived.Deep.CutBlock
import Derived.Deep.RegionHeld3
import Derived.Laws.Rows
import Derived.Lib.AppendStr
import Derived.ArgAppend
import Derived.Laws.IdiomCopy
import Derived.OrdersHeld
import Derived.Laws.BitsLemmas
import Derived.RowKit
import Derived.Lib.Hide
import Derived.WalkSpells
import Derived.StillTailTactics
import Derived.Laws.CopyOwn
import Derived.Deep.RegionHeld3
import Derived.Outline
import Derived.Test.YtelgefkfflgbeaaMat4
namespace Go.Proofs.Ytelgefkfflgbeaa.Mat
open Go Go.RowKit Go.Proofs.Ytelgefkfflgbeaa.Mem Go.Proofs.Ytelgefkfflgbeaa.Bits Go.Proofs.YtelgefkfflgbeaaW.PrintWords
set_option linter.unusedVariables false

/-- Rows of bytes in memory. -/
abbrev RowsC (w : World) (A : Option Addr) (ls : List (List Int)) : Prop := Kd.C (Kd.slice 5 (Kd.int .u8)) w A ls.length ls
theorem RowsC.get {w : World} {A : Option Addr} {ls : List (List Int)} (h : RowsC w A ls) (i : Nat) (hi : i < ls.length) :
    ∃ ad A0 c0, A = some ad ∧ w.cell? (ad.add i) = some (.slice A0 (ls.getD i []).length c0) ∧ (ls.getD i []).length ≤ c0 ∧ (Kd.int .u8).C w A0 (ls.getD i []).length (ls.getD i []) := by
  obtain ⟨ad, c, e, _, hK, hc0⟩ := Kd.C_get h [] (i : Int) (by omega) (by omega)
  obtain ⟨A0, c0, rfl, l0, g0⟩ := hK
  refine ⟨ad, A0, c0, e, ?_, l0, g0⟩
  have hq := hc0 0 _ rfl
  simpa [Kd.slice] using hq
theorem RowsC.get0 {w : World} {A : Option Addr} {ls : List (List Int)} (h : RowsC w A ls) (hi : 0 < ls.length) :
    ∃ ad A0 c0, A = some ad ∧ w.cell? ad = some (.slice A0 (ls.getD 0 []).length c0) ∧ (ls.getD 0 []).length ≤ c0 ∧ (Kd.int .u8).C w A0 (ls.getD 0 []).length (ls.getD 0 []) := by
  obtain ⟨ad, A0, c0, e, hc, r⟩ := h.get 0 hi
  exact ⟨ad, A0, c0, e, by simpa [Addr.add] using hc, r⟩
/-- All rows, one behind the other. -/
def flat (ls : List (List Int)) : List Int := ls.flatten
def AllBytes (ls : List (List Int)) : Prop := ∀ l ∈ ls, Bytes l

theorem MatIn.copy {w : World} {b s r c cap : Nat} {xs ys : List Int} (h : MatIn w b s r c cap xs) (off : Nat) (hoff : off + ys.length ≤ r * c) (hy : Bytes ys) :
    ∃ cur : Array Value, w.heap[s]? = some (.cells cur 5 (0, 0)) ∧ off + (nums .u8 ys).length ≤ cur.size ∧
      MatIn (w.setRow s (cur.toList.take off ++ (nums .u8 ys ++ cur.toList.drop (off + (nums .u8 ys).length))).toArray) b s r c cap (xs.take off ++ ys ++ xs.drop (off + ys.length)) := by
  have hlen := h.len
  have ho := h.own
  obtain ⟨hl, ⟨e, _⟩ | ⟨g, c', cur, e, hg, hh, hnc, hcm, hcs, ht⟩⟩ := ho
  · cases e
  · cases e
    have hsz : r * c ≤ cur.toList.length := by simp; omega
    have hyl : (nums .u8 ys).length = ys.length := by simp [nums]
    refine ⟨cur, hh, by rw [hyl]; omega, ?_⟩
    refine ⟨(setRow_other w s b _ h.ne).trans h.blk, ⟨?_, .inr ⟨s, cap, _, rfl, Nat.zero_le _, setRow_heap w s cur _ _ _ hh, hnc, hcm, ?_, ?_⟩⟩, h.r0, h.r1, h.c0, h.c1, ((h.byt.take _).append hy).append (h.byt.drop _)⟩
    · simp [nums]; omega
    · simp [nums]; omega
    · have e1 : cur.toList.take off = nums .u8 (xs.take off) := by
        have : (cur.toList.take (r * c)).take off = cur.toList.take off := by rw [List.take_take]; congr 1; omega
        rw [← this]
        rw [Nat.mul_one] at ht
        rw [ht]; simp [nums, List.map_take]
      have e2 : (cur.toList.drop (off + ys.length)).take (r * c - (off + ys.length)) = nums .u8 (xs.drop (off + ys.length)) := by
        rw [← List.drop_take]
        rw [Nat.mul_one] at ht
        rw [ht]; simp [nums, List.map_drop]
      rw [Nat.mul_one, nums_append, nums_append, hyl, e1, ← e2]
      simp only
      rw [← List.append_assoc, List.take_append, List.take_of_length_le (by simp [nums]; omega)]
      congr 2
      simp [nums]; omega

theorem take_flat (c : Nat) (ls : List (List Int)) (h : ∀ l ∈ ls, l.length = c) : ∀ k, k ≤ ls.length → (flat (ls.take k)).length = k * c := by
  intro k hk
  induction k with
  | zero => simp [flat]
  | succ k ih =>
    rw [List.take_succ_eq_append_getElem (by omega), flat, List.flatten_append]
    simp only [List.flatten_singleton, List.length_append]
    have := ih (by omega)
    unfold flat at this
    rw [this, h _ (List.getElem_mem _), Nat.add_mul, Nat.one_mul]
/-- The elements behind k rows, the rest nought. -/
def ofTo (c : Nat) (ls : List (List Int)) (k : Nat) : List Int := flat (ls.take k) ++ List.replicate (ls.length * c - k * c) 0
theorem ofTo_zero (c : Nat) (ls : List (List Int)) : ofTo c ls 0 = List.replicate (ls.length * c) 0 := by simp [ofTo, flat]
theorem ofTo_full (c : Nat) (ls : List (List Int)) : ofTo c ls ls.length = flat ls := by simp [ofTo]
theorem ofTo_step (c : Nat) (ls : List (List Int)) (k : Nat) (h : ∀ l ∈ ls.take (k + 1), l.length = c) (hk : k < ls.length) :
    (ofTo c ls k).take (k * c) ++ ls.getD k [] ++ (ofTo c ls k).drop (k * c + (ls.getD k []).length) = ofTo c ls (k + 1) := by
  have e : ls.getD k [] = ls[k] := by rw [List.getD_eq_getElem?_getD, List.getElem?_eq_getElem hk]; rfl
  have hm : ls[k] ∈ ls.take (k + 1) := by
    rw [List.take_succ_eq_append_getElem hk]; exact List.mem_append_right _ (List.mem_singleton.2 rfl)
  have hlk : (ls.getD k []).length = c := by rw [e]; exact h _ hm
  have hl : (flat (ls.take k)).length = k * c := by
    have := take_flat c (ls.take (k + 1)) h k (by simp; omega)
    rwa [List.take_take, Nat.min_eq_left (by omega)] at this
  have hle : (k + 1) * c ≤ ls.length * c := Nat.mul_le_mul_right c hk
  unfold ofTo
  rw [hlk, List.take_append_of_le_length (by omega), List.take_of_length_le (by omega), List.drop_append, List.drop_of_length_le (by omega), List.nil_append, hl, List.take_succ_eq_append_getElem hk, e]
  have : flat (ls.take k ++ [ls[k]]) = flat (ls.take k) ++ ls[k] := by unfold flat; rw [List.flatten_append, List.flatten_singleton]
  rw [this]
  congr 1
  rw [List.drop_replicate]
  congr 1
  rw [Nat.add_mul] at *; omega

set_option maxRecDepth 100000 in
theorem of_none (A : Option Addr) (c0 : Nat) (w : World) :
    Calls Try.prog 33 #[.slice A 0 c0] w fun e w' => e = .returned (.tuple #[.pointer none, .int .i64 1]) ∧ w = w' := by
  go_enter Try.func33, Try.ntmps33
  go_wp2
  go_ret2
  exact ⟨rfl, rfl⟩

set_option maxRecDepth 100000 in
theorem of_wide (A : Option Addr) (c0 : Nat) (ls : List (List Int)) (w : World) (h : RowsC w A ls) (hl : ls.length ≤ c0) (h0 : 0 < ls.length) (hm : ls.length ≤ 9223372036854775807)
    (hb : ¬ (ls.length ≤ 64 ∧ 1 ≤ (ls.getD 0 []).length ∧ (ls.getD 0 []).length ≤ 64)) :
    Calls Try.prog 33 #[.slice A ls.length c0] w fun e w' => e = .returned (.tuple #[.pointer none, .int .i64 1]) ∧ Below w.heap.size w w' := by
  obtain ⟨ad, A0, k0, rfl, hc, hk, hC⟩ := h.get0 h0
  obtain ⟨n, hn⟩ : ∃ n, n = ls.length := ⟨_, rfl⟩
  obtain ⟨c, hcc⟩ := show ∃ c, c = (ls.getD 0 []).length from ⟨_, rfl⟩
  rw [← hn] at h0 hm hb hl ⊢
  rw [← hcc] at hc hk hb
  have H := Lib.hid (show ¬ (1 ≤ (n : Int) ∧ 1 ≤ (c : Int) ∧ (n : Int) ≤ 64 ∧ (c : Int) ≤ 64) by omega)
  have hz : ((n : Int) == 0) = false := by simp; omega
  have hp : (0 : Int) < (n : Int) := by omega
  clear h hC hn hcc hb
  go_enter Try.func33, Try.ntmps33
  go_wp2_with (go_at_call 39; refine (new_any _ _ _ H.out).mono ?_; rintro e w' ⟨rfl, rfl⟩)
  go_ret2
  exact ⟨rfl, Below.refl _ _⟩

/-- A cut of a row of bytes from some place on, not empty. -/
theorem low_cut (s cap q lo : Nat) (h1 : lo < q) (hc : q ≤ cap) :
    ∀ W : World, (Instr.slice 22 (.slice (some ⟨s, 0, none⟩) q cap) (some (.int .i64 (lo : Int))) none none).run Try.prog W = .ok (.slice (some ⟨s, lo, none⟩) (q - lo) (cap - lo)) W := by
  obtain ⟨i, hi', hsz⟩ := info_u8'
  intro W
  have hel : Try.prog.elem 22 = 5 := by simp [Program.elem, Try.underlying22]
  have hu : Try.prog.underlying 22 = some (.slice (Try.prog.elem 22)) := by rw [hel]; exact Try.underlying22
  rw [run_slice_l W 22 (some ⟨s, 0, none⟩) q cap hu .i64 lo (by omega) (by omega), hel]
  have e : (if cap = lo then (some ⟨s, 0, none⟩ : Option Addr) else (some (⟨s, 0, none⟩ : Addr)).map (·.add lo)) = some ⟨s, lo, none⟩ := by
    rw [if_neg (by omega)]
    by_cases h0 : lo = 0
    · subst h0; rfl
    · simp [Addr.add, h0]
  simp [sizeOf, typeInfo, hi', hsz, sliced, Result.andThen] at e ⊢
  exact e
theorem size_u8 : (Try.prog.info? 5).map (·.size) = some 1 := by kernel_rfl
theorem nums_one (xs : List Int) : ∀ v ∈ nums .u8 xs, v.oneCell' = true := by
  intro v hv
  obtain ⟨x, _, rfl⟩ := List.mem_map.1 hv
  rfl
/-- The first k rows are as long as the first one. -/
def EvenTo (c : Nat) (ls : List (List Int)) (k : Nat) : Prop := ∀ l ∈ ls.take k, l.length = c
theorem EvenTo.step {c : Nat} {ls : List (List Int)} {k : Nat} (h : EvenTo c ls k) (hk : k < ls.length) (hc : (ls.getD k []).length = c) : EvenTo c ls (k + 1) := by
  intro l hl
  rw [List.take_succ_eq_append_getElem hk] at hl
  rcases List.mem_append.1 hl with e | e
  · exact h l e
  · rw [List.mem_singleton.1 e]
    rw [List.getD_eq_getElem?_getD, List.getElem?_eq_getElem hk] at hc
    exact hc
theorem bytes_getD {ls : List (List Int)} (h : AllBytes ls) (k : Nat) : Bytes (ls.getD k []) := by
  rw [List.getD_eq_getElem?_getD]
  cases e : ls[k]? with
  | none => intro x hx; cases hx
  | some l => exact h l (List.mem_of_getElem? e)
/-- What Of tells of rows. -/
def OfPost (ls : List (List Int)) (c : Nat) (w : World) (e : Ending) (w' : World) : Prop :=
  (EvenTo c ls ls.length ∧ ∃ b s cap, e = .returned (.tuple #[.pointer (some ⟨b, 0, none⟩), .int .i64 0]) ∧ MatIn w' b s ls.length c cap (flat ls) ∧ Below w.heap.size w w' ∧ w.heap.size ≤ b ∧ w.heap.size ≤ s) ∨
  (¬ EvenTo c ls ls.length ∧ e = .returned (.tuple #[.pointer none, .int .i64 1]) ∧ Below w.heap.size w w')

set_option maxRecDepth 100000 in
set_option maxHeartbeats 1000000 in
theorem of_any (A : Option Addr) (c0 : Nat) (ls : List (List Int)) (w : World) (h : RowsC w A ls) (hby : AllBytes ls) (hl : ls.length ≤ c0) (h0 : 1 ≤ ls.length) (h1 : ls.length ≤ 64)
    (h2 : 1 ≤ (ls.getD 0 []).length) (h3 : (ls.getD 0 []).length ≤ 64) :
    Calls Try.prog 33 #[.slice A ls.length c0] w (OfPost ls (ls.getD 0 []).length w) := by
  obtain ⟨ad, A0, k0, rfl, hc, hk, hC⟩ := h.get0 (by omega)
  have HR := Lib.hid h
  obtain ⟨n, hn⟩ : ∃ n, n = ls.length := ⟨_, rfl⟩
  obtain ⟨c, hcc⟩ := show ∃ c, c = (ls.getD 0 []).length from ⟨_, rfl⟩
  have HN := Lib.hid hn
  have HCC := Lib.hid hcc
  rw [← hn] at h0 h1 hl ⊢
  rw [← hcc] at hc hk h2 h3 ⊢
  have hz : ((n : Int) == 0) = false := by simp; omega
  have hp : (0 : Int) < (n : Int) := by omega
  clear h hC hn hcc
  go_enter Try.func33, Try.ntmps33
  go_wp2_with (go_at_call 39; refine (new_good n c _ h0 h2 h1 h3).mono ?_; rintro e w0 ⟨b, s, cap, rfl, hm, hB, hb1, hs1⟩; have HM := Lib.hid hm; have HB := Lib.hid hB; clear hm hB)
  clear hc hk
  go_loopw [6, 7, 26] (fun _ _ i wr => ∃ (k : Nat), k ≤ n ∧ i = .int .i64 k ∧ Hid (EvenTo c ls k) ∧ Hid (MatIn wr b s n c cap (ofTo c ls k)) ∧ Hid (Below w.heap.size w wr)) (fun _ _ i _ => n - (intOf i).toNat)
  case atStart => exact ⟨0, by omega, rfl, Lib.hid (fun l hl => by simp at hl), Lib.hid (by rw [ofTo_zero, ← HN.out]; exact HM.out), HB⟩
  case round =>
    obtain ⟨k, hk, rfl, HE, HK, HW⟩ := hrel
    clear HM HB
    by_cases hlt : k < n
    · obtain ⟨ad', A1, c1, ea, hcr, hkc, hCr⟩ := HR.out.get k (by rw [← HN.out]; exact hlt)
      cases ea
      replace hcr := (HW.out.cell (World.block_lt_of_cell? w _ hcr)).trans hcr
      obtain ⟨m0, m1, m2⟩ := HK.out.cells
      obtain ⟨m, hm⟩ : ∃ m, m = (ls.getD k []).length := ⟨_, rfl⟩
      rw [← hm] at hcr hkc
      have p0 : (0 : Int) ≤ (k : Int) := by omega
      have p1 : (k : Int) < (n : Int) := by omega
      by_cases hmc : m = c
      · subst hmc
        have hnb : ((m : Int) != (m : Int)) = false := by simp
        obtain ⟨ys, hys⟩ : ∃ ys, ys = ls.getD k [] := ⟨_, rfl⟩
        rw [← hys] at hm hCr
        have hrc := HK.out.rc
        have hoff : k * m + ys.length ≤ n * m := by
          have : (k + 1) * m ≤ n * m := Nat.mul_le_mul_right m hlt
          rw [Nat.add_mul] at this; omega
        have hcapl := HK.out.capLe
        obtain ⟨cur, hcur, hfit, hnew⟩ := (HK.out.drewN 1).copy (k * m) hoff (by rw [hys]; exact bytes_getD hby k)
        have HEn : EvenTo m ls (k + 1) := HE.out.step (by rw [← HN.out]; exact hlt) (by rw [← hys]; exact hm.symm)
        rw [hys, ofTo_step m ls k HEn (by rw [← HN.out]; exact hlt), ← hys] at hnew
        have e1 : IntKind.i64.wrap ((k : Int) * (m : Int)) = ((k * m : Nat) : Int) := by
          rw [← Int.natCast_mul]; exact IntWalk.i64_in _ (by omega)
        have kl := low_cut s cap (n * m) (k * m) (by omega) hcapl
        have HW' := Lib.hid (below_setRow (pw_below_drewN HW.out 1) hs1 ((cur.toList.take (k * m) ++ (nums .u8 ys ++ cur.toList.drop (k * m + (nums .u8 ys).length))).toArray))
        have HNw := Lib.hid hnew
        have HEn := Lib.hid HEn
        have hA1 : ∃ a1, A1 = some a1 := by
          obtain ⟨a1, e, _⟩ := Kd.at_int hCr 0 (by omega) (by omega)
          exact ⟨a1, e⟩
        obtain ⟨a1, rfl⟩ := hA1
        have hsrc : ∀ j v, (nums .u8 ys)[j]? = some v → (wr.drewN 1).cell? (a1.add j) = some v := by
          intro j v hj
          have hjl : j < ys.length := by
            have := (List.getElem?_eq_some_iff.1 hj).1
            simpa [nums] using this
          obtain ⟨a2, e, hcell⟩ := Kd.at_int hCr (j : Int) (by omega) (by omega)
          cases e
          have hcell' := (HW.out.cell (World.block_lt_of_cell? w _ hcell)).trans hcell
          simp [nums, rd, hjl] at hj hcell'
          rw [← hj]
          exact hcell'
        have HS := Lib.hid hsrc
        have HCu := Lib.hid hcur
        have HF := Lib.hid hfit
        have hmin : (nums .u8 ys).length = Nat.min m (n * m - k * m) := by
          show _ = min _ _
          rw [Nat.min_eq_left (by omega)]
          simp [nums]; omega
        have HMin := Lib.hid hmin
        obtain ⟨q, hq⟩ : ∃ q, q = n * m := ⟨_, rfl⟩
        obtain ⟨p, hp⟩ : ∃ p, p = k * m := ⟨_, rfl⟩
        rw [← hq] at m2 kl HMin
        rw [← hp] at e1 kl HMin HW' HNw HF
        clear hq hp HE HK HW hsrc hcur hfit hmin hnew hys hm hCr hoff hrc hcapl hkc HCC
        go_wp2
        refine wp_region_still_tail 12 (by kernel_rfl) (by kernel_rfl) ?_
        change wpStill _ _ (wr.drewN 1) (fun a' => wpList _ _ _ _ a' (wr.drewN 1)) _ _
        simp only [List.take_succ_cons, List.take_zero, List.drop_succ_cons, List.drop_zero]
        repeat still_step
        refine wpStill_nil ?_
        refine wpList_copy_own rfl _ _ _ _ rfl 5 Try.underlying22 size_u8 s p (q - p) (cap - p) a1 m c1 rfl rfl cur _ HCu.out (nums .u8 ys) HMin.out HS.out HF.out (nums_one ys) ?_
        go_wp2
        go_roundw
        case rel => exact ⟨k + 1, by omega, by go_num, HEn, HNw, HW'⟩
        case measure => simp [intOf]; omega
      · have hnb : ((m : Int) != (c : Int)) = true := by simp; omega
        have HMM := Lib.hid hm
        have HMC := Lib.hid hmc
        clear hmc hm
        go_wp2
        go_ret2
        refine .inr ⟨fun hE => HMC.out ?_, rfl, HW.out⟩
        rw [HMM.out]
        have hkl : k < ls.length := by rw [← HN.out]; exact hlt
        rw [List.getD_eq_getElem?_getD, List.getElem?_eq_getElem hkl]
        exact hE _ (by rw [List.take_length]; exact List.getElem_mem _)
    · obtain rfl : k = n := by omega
      go_wp2
      go_ret2
      refine .inl ⟨by have := HE.out; rwa [HN.out] at this, b, s, cap, rfl, ?_, HW.out, hb1, hs1⟩
      have := HK.out
      rw [HN.out, ofTo_full] at this
      exact this
end Go.Proofs.Ytelgefkfflgbeaa.Mat
