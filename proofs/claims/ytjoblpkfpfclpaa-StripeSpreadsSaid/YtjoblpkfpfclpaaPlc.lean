/- The document's Places: which part stands at each place. -/
import Derived.Test.YtjoblpkfpfclpaaProg
import Derived.Below
import Derived.Deep.Draws
import Derived.Deep.AppendLies
import Derived.Maps.AppendAt
import Derived.OwnWalk
import Derived.Laws.BytesArg
import Derived.Laws.MakeOwn
import Derived.Laws.OwnMore
import Derived.Deep.OwnRows
import Derived.Tactics
import Derived.Lib.ConvBytes
import Derived.Laws.Slices
import Derived.WalkKit
import Derived.KernelRfl
import Derived.RowKit3
import Derived.Deep.LoopGhost
import Derived.Deep.QuietTactic
import Derived.BigQuiet
import Derived.WideLaws
import Derived.Deep.DeepCutAuto
import Derived.Deep.CutBlock
import Derived.Deep.RegionHeld3
import Derived.Laws.Rows
import Derived.Lib.AppendStr
import Derived.ArgAppend
import Derived.Laws.IdiomCopy
import Derived.OrdersHeld
import Derived.Laws.BitsLemmas
import Derived.RowKit
import Derived.Lib.Hide
import Derived.WalkSpells
import Derived.StillTailTactics
import Derived.Outline
import Derived.Test.YtjoblpkfpfclpaaMem
import Derived.Test.YtjoblpkfpfclpaaBits
import Derived.Test.YtjoblpkfpfclpaaWApart
namespace Go.Proofs.Ytjoblpkfpfclpaa.Plc
open Go Go.RowKit Go.Proofs.Ytjoblpkfpfclpaa.Mem Go.Proofs.Ytjoblpkfpfclpaa.Bits Go.Proofs.YtjoblpkfpfclpaaW.PrintWords Go.Proofs.YtjoblpkfpfclpaaW.PrintLast
set_option linter.unusedVariables false

/-- Which part stands at a row and a column. -/
def placeN (a r c : Nat) : Nat := (if r < a then 0 else a * (a + 1) / 2) + min (if r < a then r else r - a) c * a - min (if r < a then r else r - a) c * (min (if r < a then r else r - a) c - 1) / 2 + max (if r < a then r else r - a) c - min (if r < a then r else r - a) c
def put (o : List (List Int)) (i j : Nat) (v : Int) : List (List Int) := o.set i ((o.getD i []).set j v)
/-- The steps that are left: of half h, row i, column j. -/
def run (a : Nat) : List (Nat × Nat × Nat) → List (List Int) → Nat → List (List Int)
  | [], o, _ => o
  | (h, i, j) :: r, o, n => run a r (put (put o (h * a + i) j n) (h * a + j) i n) (n + 1)
def restJ (a h i j : Nat) : List (Nat × Nat × Nat) := (List.range' j (a - j)).map (fun j => (h, i, j))
def restI (a h i : Nat) : List (Nat × Nat × Nat) := ((List.range' i (a - i)).map (fun i => restJ a h i i)).flatten
def restH (a h : Nat) : List (Nat × Nat × Nat) := ((List.range' h (2 - h)).map (fun h => restI a h 0)).flatten
theorem restJ_cons (a h i j : Nat) (hj : j < a) : restJ a h i j = (h, i, j) :: restJ a h i (j + 1) := by
  unfold restJ; rw [show a - j = (a - (j + 1)) + 1 by omega, List.range'_succ]; rfl
theorem restJ_nil (a h i j : Nat) (hj : a ≤ j) : restJ a h i j = [] := by unfold restJ; rw [show a - j = 0 by omega]; rfl
theorem restI_cons (a h i : Nat) (hi : i < a) : restI a h i = restJ a h i i ++ restI a h (i + 1) := by
  unfold restI; rw [show a - i = (a - (i + 1)) + 1 by omega, List.range'_succ]; rfl
theorem restI_nil (a h i : Nat) (hi : a ≤ i) : restI a h i = [] := by unfold restI; rw [show a - i = 0 by omega]; rfl
theorem restH_cons (a h : Nat) (hh : h < 2) : restH a h = restI a h 0 ++ restH a (h + 1) := by
  unfold restH; rw [show 2 - h = (2 - (h + 1)) + 1 by omega, List.range'_succ]; rfl
theorem restH_nil (a h : Nat) (hh : 2 ≤ h) : restH a h = [] := by unfold restH; rw [show 2 - h = 0 by omega]; rfl
/-- All rows are there, of one length. -/
def Shape (a : Nat) (o : List (List Int)) : Prop := o.length = 2 * a ∧ ∀ i, i < 2 * a → (o.getD i []).length = a
theorem shape_put {a : Nat} {o : List (List Int)} (h : Shape a o) (i j : Nat) (v : Int) : Shape a (put o i j v) := by
  refine ⟨by unfold put; rw [List.length_set]; exact h.1, fun k hk => ?_⟩
  unfold put
  rw [List.getD_eq_getElem?_getD, List.getElem?_set]
  by_cases e : i = k
  · subst e
    rw [if_pos rfl, if_pos (by rw [h.1]; exact hk)]
    simp only [Option.getD_some, List.length_set]
    exact h.2 i hk
  · rw [if_neg e, ← List.getD_eq_getElem?_getD]
    exact h.2 k hk
def zeros (a m : Nat) : List (List Int) := List.replicate m (List.replicate a 0)
theorem zeros_succ (a m : Nat) : zeros a (m + 1) = zeros a m ++ [List.replicate a 0] := List.replicate_succ'
theorem shape_zeros (a : Nat) : Shape a (zeros a (2 * a)) := by
  refine ⟨by simp [zeros], fun i hi => ?_⟩
  unfold zeros
  rw [List.getD_eq_getElem?_getD, List.getElem?_replicate, if_pos hi]
  simp
def placesL (a : Nat) : List (List Int) := run a (restH a 0) (zeros a (2 * a)) 0
def placesG (a : Nat) : List (List Int) := (List.range (2 * a)).map (fun r => (List.range a).map (fun c => (placeN a r c : Int)))
theorem places_eq (a : Nat) (h1 : 1 ≤ a) (h7 : a ≤ 7) : placesL a = placesG a := by
  rcases (show a = 1 ∨ a = 2 ∨ a = 3 ∨ a = 4 ∨ a = 5 ∨ a = 6 ∨ a = 7 by omega) with rfl | rfl | rfl | rfl | rfl | rfl | rfl <;> decide +kernel
abbrev kI : Kd (List Int) := Kd.slice 3 (Kd.int .i64)
abbrev RowsS (w : World) (base : Nat) (v : Value) (ls : List (List Int)) : Prop := Kd.S kI 78 w base (fun _ => True) v ls
theorem info_int : (Try.prog.info? 3).map (fun i => (i.zero, i.size, i.bytes)) = some (some (.int .i64 0), 1, 8) := by kernel_rfl
theorem info_ints : (Try.prog.info? 78).map (fun i => (i.zero, i.size, i.bytes)) = some (some (.slice none 0 0), 1, 24) := by kernel_rfl
theorem store_rows {W : World} {base n cc : Nat} {ad : Addr} {ls : List (List Int)} (h : RowsS W base (.slice (some ad) n cc) ls) (i k : Nat) (hi : i < ls.length) (hk : k < (ls.getD i []).length) :
    ∃ g c, W.cell? (ad.add i) = some (.slice (some ⟨g, 0, none⟩) (ls.getD i []).length c) ∧ W.cell? ⟨g, k, none⟩ = some (.int .i64 ((ls.getD i []).getD k 0)) ∧ W.frozen? ⟨g, k, none⟩ = false ∧ base ≤ g ∧
      ∀ x : Int, RowsS (W.setCell ⟨g, k, none⟩ (.int .i64 x)) base (.slice (some ad) n cc) (ls.set i ((ls.getD i []).set k x)) := by
  have hn := (Kd.R_reads' (Kd.S_R h)).1
  obtain ⟨oki, c, hcl, hM, hcc, hoki, hback⟩ := Kd.S_borrow h ([] : List Int) (i : Int) (by omega) (by omega)
  obtain ⟨v', rfl, hR⟩ := hM
  simp only [Int.toNat_natCast] at hR hcc hback
  obtain ⟨g, cap, rfl, hg1, hg2, _⟩ := Kd.R_form hR (by omega)
  have hown := Kd.own_of_R hR
  have hcell := hcc 0 _ rfl
  have hsz : kI.sz = 1 := rfl
  rw [hsz, Nat.mul_one, Nat.add_zero] at hcell
  obtain ⟨he, hf⟩ := own_at (xs := ls.getD i []) (k := .i64) hown (k : Int) (by omega) (by omega)
  refine ⟨g, cap, hcell, by simpa [rd] using he, by simpa using hf, hg1, fun x => ?_⟩
  have hst := own_store (k := .i64) (xs := ls.getD i []) hown (k : Int) x
  simp only [Int.toNat_natCast] at hst
  refine hback hst.2 (fun q hq => ?_) ⟨_, rfl, ?_⟩
  · cases hq
    exact hR.1 g rfl
  · refine Kd.R_of_own (enc := Value.int .i64) ?_ (fun q hq => ?_)
    · rw [List.length_set]
      exact hst.1
    · have : g = q := by simpa [Value.ownBlock] using hq
      subst this
      exact hR.1 g rfl
/-- One row more, its block new. -/
theorem rowsS_append {P : Program} {ops : Array Oper} {rest : List Oper} {o : Oper} {a : Act} {Q : Exit → Act → World → Prop} {w0 W wr : World} (hP : P = Try.prog) (base : Nat) (hgd : o.guard = none) (s x : Operand)
    (ho : o.op = .call { callee := .builtin .append, args := #[s, x], argTypes := #[76, 76] }) (v u : Value) (ls : List (List Int)) (ys : List Int)
    (hs : a.eval s = v) (hx : a.eval x = .slice (some ⟨W.heap.size, 0, none⟩) 1 1) (HR : RowsS wr base v ls) (HB : Below base w0 W) (hbase : base ≤ wr.heap.size) (hB : Below wr.heap.size wr W)
    (hu : (Kd.int .i64).R 3 W wr.heap.size (fun _ => True) u ys) (hl : ls.length ≤ 1000000)
    (h : ∀ v1 w1, RowsS w1 base v1 (ls ++ [ys]) → Below base w0 w1 → wpList P ops Q rest (a.put o.dst v1) w1) :
    wpList P ops Q (o :: rest) a (W.alloc (.cells #[u] 78)) := by
  subst hP
  have hown : W.ownsRow wr.heap.size 3 1 u ys.length (nums .i64 ys) := Kd.own_of_R hu
  have hub : ∀ k, u.ownBlock = some k → wr.heap.size ≤ k := fun k hk => own_base hown k hk
  have hS := Kd.S_elder' HR hub hB
  refine Kd.S_append kI (w0 := w0) base hgd s x 76 78 (.slice none 0 0) 24 ho Try.underlying76 info_ints rfl (by decide) (by decide) v ls ys [u] (fun _ => True)
    (fun k => some k = u.ownBlock) hs hx ⟨u, rfl, Kd.R_of_own (own_weaken hown hbase) (fun k hk => hk.symm)⟩ ?_ (fun _ _ => trivial) (Kd.S_mono hS (fun k hk => ⟨trivial, fun e => hk.2 e⟩)) HB (Nat.le_trans hbase hB.size) (by omega) (fun v1 w1 h1 h2 _ _ => h v1 w1 h1 h2)
  intro k hk
  refine ⟨trivial, fun e => ?_⟩
  have h1 := hub k hk.symm
  have := Kd.S_lt HR k e.symm
  omega
theorem restH_len (a : Nat) (h1 : 1 ≤ a) (h7 : a ≤ 7) : (restH a 0).length ≤ 56 := by
  rcases (show a = 1 ∨ a = 2 ∨ a = 3 ∨ a = 4 ∨ a = 5 ∨ a = 6 ∨ a = 7 by omega) with rfl | rfl | rfl | rfl | rfl | rfl | rfl <;> decide +kernel
/-- What is left leads to what is wanted. -/
def Left (a : Nat) (rem : List (Nat × Nat × Nat)) (o : List (List Int)) (n : Nat) : Prop := Shape a o ∧ n + rem.length ≤ 56 ∧ run a rem o n = placesL a
theorem left_step {a h i j : Nat} {r : List (Nat × Nat × Nat)} {o : List (List Int)} {n : Nat} (hl : Left a ((h, i, j) :: r) o n) : Left a r (put (put o (h * a + i) j n) (h * a + j) i n) (n + 1) := by
  obtain ⟨h1, h2, h3⟩ := hl
  refine ⟨shape_put (shape_put h1 _ _ _) _ _ _, ?_, h3⟩
  rw [List.length_cons] at h2; omega
set_option maxRecDepth 100000 in
set_option maxHeartbeats 4000000 in
theorem places_any (k : Nat) (w : World) (k1 : 2 ≤ k) (k2 : k ≤ 8) :
    Calls Try.prog 41 #[.int .i64 k] w fun e w' => ∃ A c, e = .returned (.slice A (2 * (k - 1)) c) ∧ 2 * (k - 1) ≤ c ∧ Kd.C kI w' A (2 * (k - 1)) (placesG (k - 1)) ∧ Below w.heap.size w w' := by
  obtain ⟨a, ha⟩ : ∃ a, a = k - 1 := ⟨_, rfl⟩
  rw [← ha]
  have a1 : 1 ≤ a := by omega
  have a7 : a ≤ 7 := by omega
  have d0 : IntKind.i64.wrap ((k : Int) - 1) = (a : Int) := by rw [IntWalk.i64_in _ (by omega)]; omega
  have d1 : IntKind.i64.wrap (2 * (a : Int)) = 2 * (a : Int) := IntWalk.i64_in _ (by omega)
  have PE := Lib.hid (places_eq a a1 a7)
  have HB0 := Lib.hid (Below.refl w.heap.size w)
  have HL0 := Lib.hid (show Left a (restH a 0) (zeros a (2 * a)) 0 from ⟨shape_zeros a, by have := restH_len a a1 a7; omega, rfl⟩)
  clear ha k1 k2
  go_enter Try.func41, Try.ntmps41
  go_wp2
  go_loopw [4, 5] (fun u iv wr => ∃ (i : Nat), i ≤ 2 * a ∧ iv = .int .i64 i ∧ Hid (RowsS wr w.heap.size u (zeros a i)) ∧ Hid (Below w.heap.size w wr)) (fun _ iv _ => 2 * a - (intOf iv).toNat)
  case atStart => exact ⟨0, by omega, rfl, Lib.hid (Kd.S_nil _ _ _ _ _), HB0⟩
  case round =>
    clear HB0
    obtain ⟨i, hi, rfl, HO, HB⟩ := hrel
    by_cases hlt : i < 2 * a
    · have g0 : (i : Int) < 2 * (a : Int) := by omega
      go_wp2_with (first
        | (at_make; refine Kd.R_make (Kd.int .i64) wr.heap.size 3 rfl (N := 20) rfl 78 _ _ rfl (a : Int) rfl rfl Try.underlying78 (.int .i64 0) 8 info_int rfl (by decide) (by decide) 0 (ok := fun _ => True) (okp := fun _ => True) rfl (fun _ hk => hk) trivial (by omega) (by omega) (Below.refl _ _) (Nat.le_refl _) ?_; intro v3 w3 h3 hb3 hg3 hf3; simp only [Int.toNat_natCast] at h3; obtain ⟨g, c3, hv3, _, _, _⟩ := Kd.R_form h3 (by rw [List.length_replicate]; exact a1); rw [List.length_replicate] at hv3; subst hv3; have HX := Lib.hid h3; have HB3 := Lib.hid hb3; clear h3 hb3 hg3 hf3)
        | (at_builtin; refine rowsS_append (w0 := w) rfl w.heap.size rfl _ _ rfl u4 (.slice (some ⟨g, 0, none⟩) a c3) (zeros a i) (List.replicate a 0) rfl rfl HO.out (HB.out.trans (HB3.out.mono HB.out.size)) HB.out.size HB3.out HX.out (by simp [zeros]; omega) ?_; intro v5 w5 h5 hb5; have H5 := Lib.hid h5; have HB5 := Lib.hid hb5; clear h5 hb5))
      go_roundw
      case rel => exact ⟨i + 1, by omega, by go_num, Lib.hid (by rw [zeros_succ]; exact H5.out), HB5⟩
      case measure => simp [intOf]; omega
    · obtain rfl : i = 2 * a := by omega
      obtain ⟨ad, c4, rfl⟩ : ∃ ad c4, u4 = .slice (some ad) (2 * a) c4 := by
        obtain ⟨g, cap, e, _⟩ := Kd.R_form (Kd.S_R HO.out) (by simp [zeros]; omega)
        exact ⟨⟨g, 0, none⟩, cap, by rw [e]; simp [zeros]⟩
      go_upto_region 9 with (fail)
      go_loopw [6, 7, 8, 9] (fun nx hv _ _ wr => ∃ (n h : Nat) (o : List (List Int)), h ≤ 2 ∧ nx = .int .i64 n ∧ hv = .int .i64 h ∧ Hid (Left a (restH a h) o n) ∧ Hid (RowsS wr w.heap.size (.slice (some ad) (2 * a) c4) o) ∧ Hid (Below w.heap.size w wr)) (fun _ hv _ _ _ => 2 - (intOf hv).toNat)
      case atStart => exact ⟨0, 0, _, by omega, rfl, rfl, HL0, HO, HB⟩
      case round =>
        clear HL0 HO HB
        obtain ⟨n, h, o, hh, rfl, rfl, HL, HO, HB⟩ := hrel
        by_cases hh2 : h < 2
        · have g1 : (h : Int) < 2 := by omega
          rw [restH_cons a h hh2] at HL
          have e1 : IntKind.i64.wrap ((h : Int) * (a : Int)) = ((h * a : Nat) : Int) := by
            have := Nat.mul_le_mul (show h ≤ 1 by omega) a7
            rw [← Int.natCast_mul]; exact IntWalk.i64_in _ (by omega)
          have hla : h * a + a ≤ 2 * a := by
            have := Nat.mul_le_mul_right a (show h ≤ 1 by omega)
            omega
          obtain ⟨q, hq⟩ : ∃ q, q = h * a := ⟨_, rfl⟩
          rw [← hq] at e1 hla
          have HQ := Lib.hid hq
          clear hq
          go_upto_region 12 with (fail)
          go_loopw [6, 8, 9] (fun nx iv _ wr => ∃ (n i : Nat) (o : List (List Int)), i ≤ a ∧ nx = .int .i64 n ∧ iv = .int .i64 i ∧ Hid (Left a (restI a h i ++ restH a (h + 1)) o n) ∧ Hid (RowsS wr w.heap.size (.slice (some ad) (2 * a) c4) o) ∧ Hid (Below w.heap.size w wr)) (fun _ iv _ _ => a - (intOf iv).toNat)
          case atStart => exact ⟨n, 0, o, by omega, rfl, rfl, HL, HO, HB⟩
          case round =>
            clear HL HO HB
            obtain ⟨n, i, o, hi, rfl, rfl, HL, HO, HB⟩ := hrel
            by_cases hia : i < a
            · have g2 : (i : Int) < (a : Int) := by omega
              rw [restI_cons a h i hia, List.append_assoc] at HL
              have e2 : IntKind.i64.wrap ((q : Int) + (i : Int)) = (q : Int) + (i : Int) := IntWalk.i64_in _ (by omega)
              have e3 : (0 : Int) ≤ (q : Int) + (i : Int) := by omega
              have e4 : (q : Int) + (i : Int) < ((2 * a : Nat) : Int) := by omega
              have e5 : ((q : Int) + (i : Int)).toNat = q + i := by omega
              go_upto_region 15 with (fail)
              go_loopw [6, 9] (fun nx jv wr => ∃ (n j : Nat) (o : List (List Int)), j ≤ a ∧ nx = .int .i64 n ∧ jv = .int .i64 j ∧ Hid (Left a (restJ a h i j ++ (restI a h (i + 1) ++ restH a (h + 1))) o n) ∧ Hid (RowsS wr w.heap.size (.slice (some ad) (2 * a) c4) o) ∧ Hid (Below w.heap.size w wr)) (fun _ jv _ => a - (intOf jv).toNat)
              case atStart => exact ⟨n, i, o, by omega, rfl, rfl, HL, HO, HB⟩
              case round =>
                clear HL HO HB
                obtain ⟨n, j, o, hj, rfl, rfl, HL, HO, HB⟩ := hrel
                by_cases hja : j < a
                · have g3 : (j : Int) < (a : Int) := by omega
                  rw [restJ_cons a h i j hja, List.cons_append] at HL
                  have hn56 : n + 1 ≤ 57 := by have := HL.out.2.1; omega
                  have hL2 := left_step HL.out
                  rw [← HQ.out] at hL2
                  obtain ⟨s1, s2⟩ := HL.out.1
                  obtain ⟨g, gc, o1, o2, o3, hgb, hst⟩ := store_rows HO.out (q + i) j (by rw [s1]; omega) (by rw [s2 _ (by omega)]; exact hja)
                  rw [s2 _ (by omega)] at o1
                  have hst1 := hst (n : Int)
                  obtain ⟨y, hy⟩ : ∃ y, y = (o.getD (q + i) []).getD j 0 := ⟨_, rfl⟩
                  rw [← hy] at o2
                  obtain ⟨W1, hW1⟩ : ∃ W1, W1 = wr.setCell ⟨g, j, none⟩ (.int .i64 n) := ⟨_, rfl⟩
                  have hB1 := HB.out.setCell (p := ⟨g, j, none⟩) hgb (.int .i64 n)
                  rw [← hW1] at hst1 hB1
                  have HO1 := Lib.hid (show RowsS W1 w.heap.size (.slice (some ad) (2 * a) c4) (put o (q + i) j n) from hst1)
                  have HB1 := Lib.hid hB1
                  have HW1 := Lib.hid hW1
                  have HL2 := Lib.hid hL2
                  have HS := Lib.hid HL.out.1
                  have g4 : (0 : Int) ≤ (i : Int) := by omega
                  have g5 : (0 : Int) ≤ (j : Int) := by omega
                  clear hst hst1 hy hW1 hB1 hL2 s1 s2 hgb
                  go_upto_region 18 with (fail)
                  rw [← HW1.out]
                  obtain ⟨s1, s2⟩ := shape_put (i := q + i) (j := j) (v := (n : Int)) HS.out
                  obtain ⟨g', gc', p1, p2, p3, hgb, hst⟩ := store_rows HO1.out (q + j) i (by rw [s1]; omega) (by rw [s2 _ (by omega)]; exact hia)
                  rw [s2 _ (by omega)] at p1
                  have hst1 := hst (n : Int)
                  have hB1 := HB1.out.setCell (p := ⟨g', i, none⟩) hgb (.int .i64 n)
                  obtain ⟨y', hy⟩ : ∃ y, y = ((put o (q + i) j n).getD (q + j) []).getD i 0 := ⟨_, rfl⟩
                  rw [← hy] at p2
                  have HO2 := Lib.hid (show RowsS (W1.setCell ⟨g', i, none⟩ (.int .i64 n)) w.heap.size (.slice (some ad) (2 * a) c4) (put (put o (q + i) j n) (q + j) i n) from hst1)
                  have HB2 := Lib.hid hB1
                  have e6 : IntKind.i64.wrap ((q : Int) + (j : Int)) = (q : Int) + (j : Int) := IntWalk.i64_in _ (by omega)
                  have e7 : (0 : Int) ≤ (q : Int) + (j : Int) := by omega
                  have e8 : (q : Int) + (j : Int) < ((2 * a : Nat) : Int) := by omega
                  have e9 : ((q : Int) + (j : Int)).toNat = q + j := by omega
                  clear hst hst1 hy hB1 s1 s2 hgb o1 o2 o3
                  go_wp2
                  go_roundw
                  case rel => exact ⟨n + 1, j + 1, _, by omega, by go_num, by go_num, HL2, HO2, HB2⟩
                  case measure => simp [intOf]; omega
                · obtain rfl : j = a := by omega
                  rw [restJ_nil _ _ _ _ (Nat.le_refl _), List.nil_append] at HL
                  go_wp2
                  go_roundw
                  case rel => exact ⟨n, i + 1, o, by omega, rfl, by go_num, HL, HO, HB⟩
                  case measure => simp [intOf]; omega
            · obtain rfl : i = a := by omega
              rw [restI_nil _ _ _ (Nat.le_refl _), List.nil_append] at HL
              go_wp2
              go_roundw
              case rel => exact ⟨n, h + 1, o, by omega, rfl, by go_num, HL, HO, HB⟩
              case measure => simp [intOf]; omega
        · obtain rfl : h = 2 := by omega
          rw [restH_nil a 2 (Nat.le_refl _)] at HL
          go_wp2
          go_ret
          have hfin := HL.out.2.2
          have h1 := Kd.S_reads' HO.out
          rw [show o = placesG a from hfin.trans PE.out] at h1
          rw [show (placesG a).length = 2 * a by simp [placesG]] at h1
          exact ⟨_, _, rfl, h1.2.1, h1.2.2, HB.out⟩
end Go.Proofs.Ytjoblpkfpfclpaa.Plc
