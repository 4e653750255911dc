/- Codes with their points: New, Row, place. -/
import Derived.Test.YtjoblpkfpfclpaaProg
import Derived.Below
import Derived.Deep.Draws
import Derived.Deep.AppendLies
import Derived.Maps.AppendAt
import Derived.OwnWalk
import Derived.Laws.BytesArg
import Derived.Laws.MakeOwn
import Derived.Laws.OwnMore
import Derived.Deep.OwnRows
import Derived.Tactics
import Derived.Lib.ConvBytes
import Derived.Laws.Slices
import Derived.WalkKit
import Derived.KernelRfl
import Derived.RowKit3
import Derived.Deep.LoopGhost
import Derived.Deep.QuietTactic
import Derived.BigQuiet
import Derived.WideLaws
import Derived.Deep.DeepCutAuto
import Derived.Deep.CutBlock
import Derived.Deep.RegionHeld3
import Derived.Laws.Rows
import Derived.Lib.AppendStr
import Derived.ArgAppend
import Derived.Laws.IdiomCopy
import Derived.OrdersHeld
import Derived.Laws.BitsLemmas
import Derived.RowKit
import Derived.Lib.Hide
import Derived.WalkSpells
import Derived.StillTailTactics
import Derived.Outline
import Derived.Test.YtjoblpkfpfclpaaRows1
import Derived.Test.YtjoblpkfpfclpaaBStripeSpreadsStripe1
import Derived.Test.YtjoblpkfpfclpaaBStripeSpreadsPows
namespace Go.Proofs.Ytjoblpkfpfclpaa.Str
open Go Go.RowKit Go.Proofs.Ytjoblpkfpfclpaa.PStripeSpreads Go.Proofs.Ytjoblpkfpfclpaa.BStripeSpreads Go.Proofs.Ytjoblpkfpfclpaa.BStripeSpreads Go.Proofs.Ytjoblpkfpfclpaa.Gf Go.Proofs.Ytjoblpkfpfclpaa.Bits Go.Proofs.Ytjoblpkfpfclpaa.Mem Go.Proofs.Ytjoblpkfpfclpaa.VPts Go.Proofs.Ytjoblpkfpfclpaa.Rws Go.Proofs.YtjoblpkfpfclpaaW.PrintWords Go.Proofs.YtjoblpkfpfclpaaW.PrintLast
set_option linter.unusedVariables false

/-- The points of a code. -/
def ptsL (n e : Nat) : List Int := (firsts (fun x => gp x e) 40).take n
theorem ptsL_len (n e : Nat) (h1 : 1 ≤ e) (h7 : e ≤ 7) (hn : n ≤ 24) : (ptsL n e).length = n := by
  have := many e h1 h7
  unfold ptsL
  rw [List.length_take]; omega
theorem ptsL_bytes (n e : Nat) : ∀ x ∈ ptsL n e, 0 ≤ x ∧ x < 256 := fun x hx => firsts_bytes _ 40 (by decide) x (List.mem_of_mem_take hx)
theorem stop_pts (n e q : Nat) (h : Stop (fun x => gp x e) n q) (h1 : 1 ≤ e) (h7 : e ≤ 7) (hn : n ≤ 24) : firsts (fun x => gp x e) q = ptsL n e := by
  have h24 := many e h1 h7
  have hl := stop_len _ _ _ h h24 hn
  unfold ptsL
  rcases Nat.le_total q 40 with hq | hq
  · have hp := pre (fun x => gp x e) q (40 - q)
    rw [show q + (40 - q) = 40 by omega] at hp
    have := List.prefix_iff_eq_take.1 hp
    rw [hl] at this
    exact this
  · have hp := pre (fun x => gp x e) 40 (q - 40)
    rw [show 40 + (q - 40) = q by omega] at hp
    have hle := hp.length_le
    have he := List.IsPrefix.eq_of_length_le hp (by omega)
    rw [he, List.take_of_length_le (by omega)]
/-- A pointer to a code, with its points. -/
def IsCodeP (w : World) (v : Value) (n k : Nat) : Prop := ∃ b A c, v = .pointer (some ⟨b, 0, none⟩) ∧ Blk w b 58 #[.int .i64 n, .int .i64 k, .slice A n c] ∧ n ≤ c ∧ (Kd.int .u8).C w A n (ptsL n (k - 1))
theorem IsCodeP.below {w w' : World} {v : Value} {n k : Nat} (h : IsCodeP w v n k) (hb : Below w.heap.size w w') : IsCodeP w' v n k := by
  obtain ⟨b, A, c, e, h, hc, hp⟩ := h
  exact ⟨b, A, c, e, h.below hb h.lt, hc, Kd.C_below hp hb⟩
theorem IsCodeP.code {w : World} {v : Value} {n k : Nat} (h : IsCodeP w v n k) : IsCode w v n k := by
  obtain ⟨b, A, c, e, h, _⟩ := h
  exact ⟨b, A, c, e, h⟩
theorem points_pts (n e : Nat) (w : World) (h1 : 1 ≤ n) (h4 : n ≤ 24) (h2 : 1 ≤ e) (h3 : e ≤ 7) :
    Calls Try.prog 23 #[.int .i64 n, .int .i64 e] w fun e' w' => ∃ A c, e' = .returned (.tuple #[.slice A n c, .int .i64 0]) ∧ n ≤ c ∧ (Kd.int .u8).C w' A n (ptsL n e) ∧ Below w.heap.size w w' := by
  refine (points_good n e w h1 h2 (by omega)).mono ?_
  rintro e' w1 ⟨v, q1, hq1, rfl, hr, hb⟩
  have hl := stop_len _ _ _ hq1 (many e h2 h3) h4
  have hn : ¬ (firsts (fun x => gp x e) q1).length < n := by omega
  rw [if_neg hn] at hr
  obtain ⟨A, c, rfl, hc, hC⟩ := Kd.R_reads hr
  rw [if_neg hn]
  have e2 : Value.slice A (firsts (fun x => gp x e) q1).length c = Value.slice A n c := by rw [hl]
  rw [e2]
  rw [hl, stop_pts n e q1 hq1 h2 h3 h4] at hC
  exact ⟨A, c, rfl, by omega, hC, hb⟩
set_option maxRecDepth 100000 in
theorem new_codeP (n k : Nat) (w : World) (h1 : 2 ≤ k) (h2 : k ≤ 8) (h3 : 2 * k - 1 ≤ n) (h4 : n ≤ 24) :
    Calls Try.prog 9 #[.int .i64 n, .int .i64 k] w fun e w' => ∃ v, e = .returned (.tuple #[v, .int .i64 0]) ∧ IsCodeP w' v n k ∧ Below w.heap.size w w' := by
  have e1 : IntKind.i64.wrap (2 * (k : Int)) = 2 * (k : Int) := IntWalk.i64_in _ (by omega)
  have e2 : IntKind.i64.wrap (2 * (k : Int) - 1) = 2 * (k : Int) - 1 := IntWalk.i64_in _ (by omega)
  have e3 : IntKind.i64.wrap ((k : Int) - 1) = ((k - 1 : Nat) : Int) := by rw [IntWalk.i64_in _ (by omega)]; omega
  have PG := Lib.hid (fun W => points_pts n (k - 1) W (by omega) (by omega) (by omega) (by omega))
  have t1 : ¬ (k : Int) < 2 := by omega
  have t2 : ¬ (8 : Int) < (k : Int) := by omega
  have t3 : ¬ (n : Int) < 2 * (k : Int) - 1 := by omega
  have t4 : ¬ (24 : Int) < (n : Int) := by omega
  obtain ⟨q, hq⟩ : ∃ q, q = k - 1 := ⟨_, rfl⟩
  have HQ := Lib.hid hq
  rw [← hq] at e3 PG
  clear hq h1 h2 h3 h4
  go_enter Try.func9, Try.ntmps9
  go_wp2_with (go_at_call 23; (with_reducible refine (PG.out _).mono ?_); rintro e w1 ⟨A5, c5, rfl, hc5, hr, hb⟩; have HB := Lib.hid hb; have HR := Lib.hid hr; have HC := Lib.hid hc5; clear hr hb hc5)
  refine bodyPost_ret (v := .tuple #[.pointer (some ⟨w1.heap.size, 0, none⟩), .int .i64 0]) (by simp [results, Try.results9, go_sem]) rfl ⟨_, rfl, ⟨_, _, _, rfl, Blk.new _ _ _, HC.out, ?_⟩, HB.out.alloc HB.out.size _⟩
  rw [← HQ.out]
  exact Kd.C_below HR.out ((Below.refl _ _).alloc (Nat.le_refl _) _)
/-- The point of a slot. -/
def ptN (n k slot : Nat) : Nat := ((ptsL n (k - 1)).getD slot 0).toNat
theorem ptN_lt (n k slot : Nat) : ptN n k slot < 256 := by
  unfold ptN
  rcases Nat.lt_or_ge slot (ptsL n (k - 1)).length with h | h
  · have := ptsL_bytes n (k - 1) _ (List.getElem_mem h)
    rw [List.getD_eq_getElem?_getD, List.getElem?_eq_getElem h]
    simp only [Option.getD_some]
    omega
  · rw [List.getD_eq_getElem?_getD, List.getElem?_eq_none h]; decide
theorem ptN_eq (n k slot : Nat) : (ptsL n (k - 1)).getD slot 0 = (ptN n k slot : Int) := by
  unfold ptN
  rcases Nat.lt_or_ge slot (ptsL n (k - 1)).length with h | h
  · have := ptsL_bytes n (k - 1) _ (List.getElem_mem h)
    rw [List.getD_eq_getElem?_getD, List.getElem?_eq_getElem h]
    simp only [Option.getD_some]
    omega
  · rw [List.getD_eq_getElem?_getD, List.getElem?_eq_none h]; rfl
set_option maxRecDepth 100000 in
set_option maxHeartbeats 1000000 in
/-- The row of a slot. -/
theorem row_any (v : Value) (n k slot : Nat) (w : World) (hc : IsCodeP w v n k) (k1 : 2 ≤ k) (k2 : k ≤ 8) (n2 : n ≤ 24) (hs : slot < n) :
    Calls Try.prog 36 #[v, .int .i64 slot] w fun e w' => ∃ A c, e = .returned (.slice A (2 * k - 2) c) ∧ Kd.R (Kd.int .u8) 5 w' w.heap.size (fun _ => True) (.slice A (2 * k - 2) c) (pows (ptN n k slot) (2 * k - 2)) ∧ Below w.heap.size w w' := by
  obtain ⟨b, A, c, rfl, hb, hnc, hP⟩ := hc
  have y0 : w.cell? ⟨b, 0, none⟩ = some (.int .i64 n) := (hb.cell 0).trans rfl
  have y1 : w.cell? ⟨b, 1, none⟩ = some (.int .i64 k) := (hb.cell 1).trans rfl
  have y2 : w.cell? ⟨b, 2, none⟩ = some (.slice A n c) := (hb.cell 2).trans rfl
  obtain ⟨ad, cc, rfl, _, hK, hcell⟩ := Kd.C_get hP 0 (slot : Int) (by omega) (by omega)
  have y3 : w.cell? (ad.add slot) = some (.int .u8 (ptN n k slot)) := by
    have hK' : cc = [.int .u8 ((ptsL n (k - 1)).getD slot 0)] := hK
    subst hK'
    have := hcell 0 _ rfl
    rw [ptN_eq] at this
    simpa [Kd.int, Kd.scalar] using this
  obtain ⟨x, hx⟩ : ∃ x, x = ptN n k slot := ⟨_, rfl⟩
  have hx2 : x < 256 := by rw [hx]; exact ptN_lt n k slot
  rw [← hx] at y3 ⊢
  obtain ⟨m, hm⟩ : ∃ m, m = 2 * k - 2 := ⟨_, rfl⟩
  have RC := Lib.hid (fun W => row_calls x hx2 (m : Int) (by omega) W)
  have e1 : IntKind.i64.wrap (2 * (k : Int)) = 2 * (k : Int) := IntWalk.i64_in _ (by omega)
  have e2 : IntKind.i64.wrap (2 * (k : Int) - 2) = (m : Int) := by rw [IntWalk.i64_in _ (by omega)]; omega
  have e3 : ¬ (n : Int) ≤ (slot : Int) := by omega
  have e4 : decide ((slot : Int) < 0) = false := by simp
  have e5 : (slot : Int) < (n : Int) := by omega
  rw [← hm]
  clear hb hP hK hcell hx hx2 hm k1 k2 n2 hs hnc
  go_enter Try.func36, Try.ntmps36
  go_wp2
  refine wp_region_still_tail 13 (by kernel_rfl) (by kernel_rfl) ?_
  change wpStill _ _ _ (fun a' => wpList _ _ _ _ a' _) _ _
  simp only [List.take_succ_cons, List.take_zero, List.drop_succ_cons, List.drop_zero]
  repeat still_step
  refine wpStill_nil ?_
  go_wp2_with (go_at_call 43; (with_reducible refine (RC.out _).mono ?_); rintro e w1 ⟨A5, c5, rfl, hr, hb⟩; have HR := Lib.hid hr; have HB := Lib.hid hb; clear hr hb)
  go_ret
  exact ⟨_, _, rfl, by simpa using HR.out, (Below.refl w.heap.size w).drew.trans HB.out⟩
/-- Which part stands at a row and a column. -/
def placeN (a r c : Nat) : Nat := (if r < a then 0 else a * (a + 1) / 2) + min (if r < a then r else r - a) c * a - min (if r < a then r else r - a) c * (min (if r < a then r else r - a) c - 1) / 2 + max (if r < a then r else r - a) c - min (if r < a then r else r - a) c
theorem ret_int {k : IntKind} {a b : Int} (h : a = b) : Ending.returned (.int k a) = Ending.returned (.int k b) := by rw [h]
theorem tri_le (i : Nat) (h : i ≤ 7) : i * (i - 1) ≤ 42 := by
  have h2 := Nat.mul_le_mul h (show i - 1 ≤ 6 by omega)
  omega
theorem tri_int (i : Nat) : (i : Int) * ((i : Int) - 1) = ((i * (i - 1) : Nat) : Int) := by
  cases i with
  | zero => simp
  | succ i => rw [show ((i + 1 : Nat) : Int) - 1 = (i : Int) by omega]; simp
set_option maxRecDepth 100000 in
set_option maxHeartbeats 1000000 in
theorem place_any (v : Value) (n k r c : Nat) (w : World) (hc : IsCode w v n k) (k1 : 2 ≤ k) (k2 : k ≤ 8) (hr : r < 2 * (k - 1)) (hcl : c < k - 1) :
    Calls Try.prog 38 #[v, .int .i64 r, .int .i64 c] w fun e w' => e = .returned (.int .i64 (placeN (k - 1) r c)) ∧ w' = w := by
  obtain ⟨b, A, c0, rfl, hb⟩ := hc
  have y1 : w.cell? ⟨b, 1, none⟩ = some (.int .i64 k) := (hb.cell 1).trans rfl
  obtain ⟨a, ha⟩ : ∃ a, a = k - 1 := ⟨_, rfl⟩
  rw [← ha] at hr hcl ⊢
  have e0 : IntKind.i64.wrap ((k : Int) - 1) = (a : Int) := by rw [IntWalk.i64_in _ (by omega)]; omega
  have a7 : a ≤ 7 := by omega
  clear hb ha k1 k2
  by_cases h : r < a
  · obtain ⟨B, hB⟩ : ∃ B, B = 0 := ⟨_, rfl⟩
    have lB : B ≤ 28 := by omega
    have HBB := Lib.hid hB
    have h1 : ¬ (a : Int) ≤ (r : Int) := by omega
    rcases Nat.lt_trichotomy r c with hm | hm | hm
    · obtain ⟨i, hi⟩ : ∃ i, i = r := ⟨_, rfl⟩
      obtain ⟨j, hj⟩ : ∃ j, j = c := ⟨_, rfl⟩
      have G : placeN a r c = B + i * a - i * (i - 1) / 2 + j - i := by unfold placeN; rw [if_pos h, if_pos h, Nat.min_eq_left (by omega), Nat.max_eq_right (by omega), hi, hj, hB]
      have li : i ≤ 7 := by omega
      have lj : j ≤ 7 := by omega
      obtain ⟨q, hq⟩ : ∃ q, q = i * a := ⟨_, rfl⟩
      obtain ⟨t, ht⟩ : ∃ t, t = i * (i - 1) := ⟨_, rfl⟩
      have lq : q ≤ 49 := by rw [hq]; exact Nat.mul_le_mul li a7
      have lt : t ≤ 42 := by rw [ht]; exact tri_le i li
      have hq2 : t / 2 ≤ B + q := by
        have : i * (i - 1) ≤ i * a := Nat.mul_le_mul_left i (by omega)
        omega
      have e1 : IntKind.i64.wrap ((i : Int) * (a : Int)) = (q : Int) := by rw [← Int.natCast_mul, ← hq, IntWalk.i64_in _ (by omega)]
      have e2 : IntKind.i64.wrap ((i : Int) - 1) = (i : Int) - 1 := IntWalk.i64_in _ (by omega)
      have e3 : IntKind.i64.wrap ((i : Int) * ((i : Int) - 1)) = (t : Int) := by rw [tri_int, ← ht, IntWalk.i64_in _ (by omega)]
      have e7 : IntKind.i64.wrap ((t : Int).tdiv 2) = ((t / 2 : Nat) : Int) := by rw [Int.tdiv_eq_ediv_of_nonneg (by omega), IntWalk.i64_in _ (by omega)]; omega
      have e8 : IntKind.i64.wrap ((B : Int) + (q : Int)) = (B : Int) + (q : Int) := IntWalk.i64_in _ (by omega)
      rw [← hq, ← ht] at G
      have HG := Lib.hid G
      clear hq ht G
      subst hi hj hB
      have h2 : (i : Int) < (j : Int) := by omega
      go_enter Try.func38, Try.ntmps38
      go_wp2
      go_ret
      exact ⟨ret_int (by rw [HG.out]; have := HBB.out; omega), rfl⟩
    · obtain ⟨i, hi⟩ : ∃ i, i = r := ⟨_, rfl⟩
      obtain ⟨j, hj⟩ : ∃ j, j = c := ⟨_, rfl⟩
      have G : placeN a r c = B + i * a - i * (i - 1) / 2 + j - i := by unfold placeN; rw [if_pos h, if_pos h, Nat.min_eq_left (by omega), Nat.max_eq_right (by omega), hi, hj, hB]
      have li : i ≤ 7 := by omega
      have lj : j ≤ 7 := by omega
      obtain ⟨q, hq⟩ : ∃ q, q = i * a := ⟨_, rfl⟩
      obtain ⟨t, ht⟩ : ∃ t, t = i * (i - 1) := ⟨_, rfl⟩
      have lq : q ≤ 49 := by rw [hq]; exact Nat.mul_le_mul li a7
      have lt : t ≤ 42 := by rw [ht]; exact tri_le i li
      have hq2 : t / 2 ≤ B + q := by
        have : i * (i - 1) ≤ i * a := Nat.mul_le_mul_left i (by omega)
        omega
      have e1 : IntKind.i64.wrap ((i : Int) * (a : Int)) = (q : Int) := by rw [← Int.natCast_mul, ← hq, IntWalk.i64_in _ (by omega)]
      have e2 : IntKind.i64.wrap ((i : Int) - 1) = (i : Int) - 1 := IntWalk.i64_in _ (by omega)
      have e3 : IntKind.i64.wrap ((i : Int) * ((i : Int) - 1)) = (t : Int) := by rw [tri_int, ← ht, IntWalk.i64_in _ (by omega)]
      have e7 : IntKind.i64.wrap ((t : Int).tdiv 2) = ((t / 2 : Nat) : Int) := by rw [Int.tdiv_eq_ediv_of_nonneg (by omega), IntWalk.i64_in _ (by omega)]; omega
      have e8 : IntKind.i64.wrap ((B : Int) + (q : Int)) = (B : Int) + (q : Int) := IntWalk.i64_in _ (by omega)
      rw [← hq, ← ht] at G
      have HG := Lib.hid G
      clear hq ht G
      subst hi hj hB
      subst hm
      go_enter Try.func38, Try.ntmps38
      go_wp2
      go_ret
      exact ⟨ret_int (by rw [HG.out]; have := HBB.out; omega), rfl⟩
    · obtain ⟨i, hi⟩ : ∃ i, i = c := ⟨_, rfl⟩
      obtain ⟨j, hj⟩ : ∃ j, j = r := ⟨_, rfl⟩
      have G : placeN a r c = B + i * a - i * (i - 1) / 2 + j - i := by unfold placeN; rw [if_pos h, if_pos h, Nat.min_eq_right (by omega), Nat.max_eq_left (by omega), hi, hj, hB]
      have li : i ≤ 7 := by omega
      have lj : j ≤ 7 := by omega
      obtain ⟨q, hq⟩ : ∃ q, q = i * a := ⟨_, rfl⟩
      obtain ⟨t, ht⟩ : ∃ t, t = i * (i - 1) := ⟨_, rfl⟩
      have lq : q ≤ 49 := by rw [hq]; exact Nat.mul_le_mul li a7
      have lt : t ≤ 42 := by rw [ht]; exact tri_le i li
      have hq2 : t / 2 ≤ B + q := by
        have : i * (i - 1) ≤ i * a := Nat.mul_le_mul_left i (by omega)
        omega
      have e1 : IntKind.i64.wrap ((i : Int) * (a : Int)) = (q : Int) := by rw [← Int.natCast_mul, ← hq, IntWalk.i64_in _ (by omega)]
      have e2 : IntKind.i64.wrap ((i : Int) - 1) = (i : Int) - 1 := IntWalk.i64_in _ (by omega)
      have e3 : IntKind.i64.wrap ((i : Int) * ((i : Int) - 1)) = (t : Int) := by rw [tri_int, ← ht, IntWalk.i64_in _ (by omega)]
      have e7 : IntKind.i64.wrap ((t : Int).tdiv 2) = ((t / 2 : Nat) : Int) := by rw [Int.tdiv_eq_ediv_of_nonneg (by omega), IntWalk.i64_in _ (by omega)]; omega
      have e8 : IntKind.i64.wrap ((B : Int) + (q : Int)) = (B : Int) + (q : Int) := IntWalk.i64_in _ (by omega)
      rw [← hq, ← ht] at G
      have HG := Lib.hid G
      clear hq ht G
      subst hi hj hB
      have h2 : (i : Int) < (j : Int) := by omega
      go_enter Try.func38, Try.ntmps38
      go_wp2
      go_ret
      exact ⟨ret_int (by rw [HG.out]; have := HBB.out; omega), rfl⟩
  · have p1 : a * (a + 1) ≤ 56 := by have := Nat.mul_le_mul a7 (show a + 1 ≤ 8 by omega); omega
    obtain ⟨p, hp⟩ : ∃ p, p = a * (a + 1) := ⟨_, rfl⟩
    rw [← hp] at p1
    obtain ⟨B, hB⟩ : ∃ B, B = p / 2 := ⟨_, rfl⟩
    have lB : B ≤ 28 := by omega
    have HBB := Lib.hid hB
    have f4 : IntKind.i64.wrap ((a : Int) * ((a : Int) + 1)) = (p : Int) := by rw [show (a : Int) * ((a : Int) + 1) = ((a * (a + 1) : Nat) : Int) by rw [Int.natCast_mul, Int.natCast_add]; rfl, ← hp, IntWalk.i64_in _ (by omega)]
    have f5 : IntKind.i64.wrap ((a : Int) + 1) = (a : Int) + 1 := IntWalk.i64_in _ (by omega)
    have f6 : IntKind.i64.wrap ((p : Int).tdiv 2) = (B : Int) := by rw [Int.tdiv_eq_ediv_of_nonneg (by omega), IntWalk.i64_in _ (by omega)]; omega
    have h1 : (a : Int) ≤ (r : Int) := by omega
    obtain ⟨r', hr'⟩ : ∃ r', r' = r - a := ⟨_, rfl⟩
    have f7 : IntKind.i64.wrap ((r : Int) - (a : Int)) = (r' : Int) := by rw [IntWalk.i64_in _ (by omega)]; omega
    rcases Nat.lt_trichotomy r' c with hm | hm | hm
    · obtain ⟨i, hi⟩ : ∃ i, i = r' := ⟨_, rfl⟩
      obtain ⟨j, hj⟩ : ∃ j, j = c := ⟨_, rfl⟩
      have G : placeN a r c = B + i * a - i * (i - 1) / 2 + j - i := by unfold placeN; rw [if_neg h, if_neg h, ← hr', Nat.min_eq_left (by omega), Nat.max_eq_right (by omega), hi, hj, hB, hp]
      have li : i ≤ 7 := by omega
      have lj : j ≤ 7 := by omega
      obtain ⟨q, hq⟩ : ∃ q, q = i * a := ⟨_, rfl⟩
      obtain ⟨t, ht⟩ : ∃ t, t = i * (i - 1) := ⟨_, rfl⟩
      have lq : q ≤ 49 := by rw [hq]; exact Nat.mul_le_mul li a7
      have lt : t ≤ 42 := by rw [ht]; exact tri_le i li
      have hq2 : t / 2 ≤ B + q := by
        have : i * (i - 1) ≤ i * a := Nat.mul_le_mul_left i (by omega)
        omega
      have e1 : IntKind.i64.wrap ((i : Int) * (a : Int)) = (q : Int) := by rw [← Int.natCast_mul, ← hq, IntWalk.i64_in _ (by omega)]
      have e2 : IntKind.i64.wrap ((i : Int) - 1) = (i : Int) - 1 := IntWalk.i64_in _ (by omega)
      have e3 : IntKind.i64.wrap ((i : Int) * ((i : Int) - 1)) = (t : Int) := by rw [tri_int, ← ht, IntWalk.i64_in _ (by omega)]
      have e7 : IntKind.i64.wrap ((t : Int).tdiv 2) = ((t / 2 : Nat) : Int) := by rw [Int.tdiv_eq_ediv_of_nonneg (by omega), IntWalk.i64_in _ (by omega)]; omega
      have e8 : IntKind.i64.wrap ((B : Int) + (q : Int)) = (B : Int) + (q : Int) := IntWalk.i64_in _ (by omega)
      rw [← hq, ← ht] at G
      have HG := Lib.hid G
      clear hq ht G
      have lr : r' < a := by omega
      clear hr' hB hp
      subst hi hj
      have h2 : (i : Int) < (j : Int) := by omega
      go_enter Try.func38, Try.ntmps38
      go_wp2
      go_ret
      exact ⟨ret_int (by rw [HG.out]; have := HBB.out; omega), rfl⟩
    · obtain ⟨i, hi⟩ : ∃ i, i = r' := ⟨_, rfl⟩
      obtain ⟨j, hj⟩ : ∃ j, j = c := ⟨_, rfl⟩
      have G : placeN a r c = B + i * a - i * (i - 1) / 2 + j - i := by unfold placeN; rw [if_neg h, if_neg h, ← hr', Nat.min_eq_left (by omega), Nat.max_eq_right (by omega), hi, hj, hB, hp]
      have li : i ≤ 7 := by omega
      have lj : j ≤ 7 := by omega
      obtain ⟨q, hq⟩ : ∃ q, q = i * a := ⟨_, rfl⟩
      obtain ⟨t, ht⟩ : ∃ t, t = i * (i - 1) := ⟨_, rfl⟩
      have lq : q ≤ 49 := by rw [hq]; exact Nat.mul_le_mul li a7
      have lt : t ≤ 42 := by rw [ht]; exact tri_le i li
      have hq2 : t / 2 ≤ B + q := by
        have : i * (i - 1) ≤ i * a := Nat.mul_le_mul_left i (by omega)
        omega
      have e1 : IntKind.i64.wrap ((i : Int) * (a : Int)) = (q : Int) := by rw [← Int.natCast_mul, ← hq, IntWalk.i64_in _ (by omega)]
      have e2 : IntKind.i64.wrap ((i : Int) - 1) = (i : Int) - 1 := IntWalk.i64_in _ (by omega)
      have e3 : IntKind.i64.wrap ((i : Int) * ((i : Int) - 1)) = (t : Int) := by rw [tri_int, ← ht, IntWalk.i64_in _ (by omega)]
      have e7 : IntKind.i64.wrap ((t : Int).tdiv 2) = ((t / 2 : Nat) : Int) := by rw [Int.tdiv_eq_ediv_of_nonneg (by omega), IntWalk.i64_in _ (by omega)]; omega
      have e8 : IntKind.i64.wrap ((B : Int) + (q : Int)) = (B : Int) + (q : Int) := IntWalk.i64_in _ (by omega)
      rw [← hq, ← ht] at G
      have HG := Lib.hid G
      clear hq ht G
      have lr : r' < a := by omega
      clear hr' hB hp
      subst hi hj
      subst hm
      go_enter Try.func38, Try.ntmps38
      go_wp2
      go_ret
      exact ⟨ret_int (by rw [HG.out]; have := HBB.out; omega), rfl⟩
    · obtain ⟨i, hi⟩ : ∃ i, i = c := ⟨_, rfl⟩
      obtain ⟨j, hj⟩ : ∃ j, j = r' := ⟨_, rfl⟩
      have G : placeN a r c = B + i * a - i * (i - 1) / 2 + j - i := by unfold placeN; rw [if_neg h, if_neg h, ← hr', Nat.min_eq_right (by omega), Nat.max_eq_left (by omega), hi, hj, hB, hp]
      have li : i ≤ 7 := by omega
      have lj : j ≤ 7 := by omega
      obtain ⟨q, hq⟩ : ∃ q, q = i * a := ⟨_, rfl⟩
      obtain ⟨t, ht⟩ : ∃ t, t = i * (i - 1) := ⟨_, rfl⟩
      have lq : q ≤ 49 := by rw [hq]; exact Nat.mul_le_mul li a7
      have lt : t ≤ 42 := by rw [ht]; exact tri_le i li
      have hq2 : t / 2 ≤ B + q := by
        have : i * (i - 1) ≤ i * a := Nat.mul_le_mul_left i (by omega)
        omega
      have e1 : IntKind.i64.wrap ((i : Int) * (a : Int)) = (q : Int) := by rw [← Int.natCast_mul, ← hq, IntWalk.i64_in _ (by omega)]
      have e2 : IntKind.i64.wrap ((i : Int) - 1) = (i : Int) - 1 := IntWalk.i64_in _ (by omega)
      have e3 : IntKind.i64.wrap ((i : Int) * ((i : Int) - 1)) = (t : Int) := by rw [tri_int, ← ht, IntWalk.i64_in _ (by omega)]
      have e7 : IntKind.i64.wrap ((t : Int).tdiv 2) = ((t / 2 : Nat) : Int) := by rw [Int.tdiv_eq_ediv_of_nonneg (by omega), IntWalk.i64_in _ (by omega)]; omega
      have e8 : IntKind.i64.wrap ((B : Int) + (q : Int)) = (B : Int) + (q : Int) := IntWalk.i64_in _ (by omega)
      rw [← hq, ← ht] at G
      have HG := Lib.hid G
      clear hq ht G
      have lr : r' < a := by omega
      clear hr' hB hp
      subst hi hj
      have h2 : (i : Int) < (j : Int) := by omega
      go_enter Try.func38, Try.ntmps38
      go_wp2
      go_ret
      exact ⟨ret_int (by rw [HG.out]; have := HBB.out; omega), rfl⟩
end Go.Proofs.Ytjoblpkfpfclpaa.Str
