/- vand.Points, walked by hand. -/
import Derived.StillTailTactics
import Derived.Lib.Hide
import Derived.OrdersHeld
import Derived.Deep.RegionHeld3
import Derived.Test.YtelgefkfflgbeaaBVandThroughGfPowP
import Derived.Test.YtelgefkfflgbeaaVPts
import Derived.Test.YtelgefkfflgbeaaMem
namespace Go.Proofs.Ytelgefkfflgbeaa.VPts
open Go Go.RowKit Go.Proofs.Ytelgefkfflgbeaa.PVandThrough Go.Proofs.Ytelgefkfflgbeaa.BVandThrough Go.Proofs.Ytelgefkfflgbeaa.Gf Go.Proofs.Ytelgefkfflgbeaa.Bits Go.Proofs.Ytelgefkfflgbeaa.Mem Go.Proofs.YtelgefkfflgbeaaW.PrintWords Go.Proofs.YtelgefkfflgbeaaW.PrintLast
set_option linter.unusedVariables false

def Z256 : Array Value := Array.replicate 256 (.bool false)
theorem zero_256 (w : World) : (zeroValue 46).run Try.prog w = .ok (.agg Z256) w := by kernel_rfl
theorem info_byte : (Try.prog.info? 5).map (fun i => (i.zero, i.size, i.bytes)) = some (some (.int .u8 0), 1, 1) := by kernel_rfl
/-- The cells tell what was hit behind k rounds. -/
def Seen (f : Nat → Nat) (k : Nat) (cs : Array Value) : Prop := cs.size = 256 ∧ ∀ y, y < 256 → cs[y]? = some (.bool (hit f k y))
theorem seen0 (f : Nat → Nat) : Seen f 0 Z256 := by
  refine ⟨by simp [Z256], fun y hy => ?_⟩
  simp [Z256, hit, hy]
theorem seen_same (f : Nat → Nat) (k : Nat) (cs : Array Value) (h : Seen f k cs) (hh : hit f k (f k) = true) : Seen f (k + 1) cs := by
  refine ⟨h.1, fun y hy => ?_⟩
  rw [h.2 y hy, hit_succ]
  by_cases e : f k = y
  · subst e; simp [hh]
  · simp [e]
theorem seen_more (f : Nat → Nat) (k : Nat) (cs : Array Value) (h : Seen f k cs) (hf : f k < 256) : Seen f (k + 1) (cs.setIfInBounds (f k) (.bool true)) := by
  refine ⟨by simp [h.1], fun y hy => ?_⟩
  rw [hit_succ, Array.getElem?_setIfInBounds]
  by_cases e : f k = y
  · subst e; simp [h.1, hf]
  · rw [if_neg e, h.2 y hy]; simp [e]

theorem byte_append {P : Program} {ops : Array Oper} {rest : List Oper} {o : Oper} {a : Act} {Q : Exit → Act → World → Prop} {w0 W : World} (hP : P = Try.prog) (base : Nat) (hgd : o.guard = none) (s x : Operand)
    (ho : o.op = .call { callee := .builtin .append, args := #[s, x], argTypes := #[22, 22] }) (v : Value) (xs : List Int) (y : Int) (ok : Nat → Prop)
    (hs : a.eval s = v) (hx : a.eval x = .slice (some ⟨W.heap.size, 0, none⟩) 1 1) (HR : Kd.R (Kd.int .u8) 5 W base ok v xs) (hok : ∀ k, W.heap.size ≤ k → ok k) (HB : Below base w0 W) (hbase : base ≤ W.heap.size) (hl : xs.length ≤ 1000000)
    (h : ∀ v1 w1, Kd.R (Kd.int .u8) 5 w1 base ok v1 (xs ++ [y]) → Below base w0 w1 → W.grownBy w1 v.ownBlock → wpList P ops Q rest (a.put o.dst v1) w1) :
    wpList P ops Q (o :: rest) a (W.alloc (.cells #[.int .u8 y] 5)) := by
  subst hP
  exact Kd.R_append (Kd.int .u8) (w0 := w0) base hgd s x 22 5 (.int .u8 0) 1 ho Try.underlying22 info_byte rfl (by decide) (by decide) v xs y [.int .u8 y] ok (fun _ => False) hs hx rfl (fun _ hk => hk.elim) hok HR HB hbase (by omega) (fun v1 w1 h1 h2 h3 _ => h v1 w1 h1 h2 h3)

set_option maxRecDepth 100000 in
theorem points_bad (n e : Int) (w : World) (h : n < 1 ∨ e < 1) :
    Calls Try.prog 7 #[.int .i64 n, .int .i64 e] w fun e' w' => e' = .returned (.tuple #[.slice none 0 0, .int .i64 1]) ∧ Below w.heap.size w w' := by
  have hz := zero_256
  by_cases h1 : n < 1
  · have t1 : decide (n < 1) = true := by simp; omega
    clear h h1
    go_enter Try.func7, Try.ntmps7
    go_wp2
    repeat (go_quiet (fail); try go_wp2)
    go_ret2
    exact ⟨rfl, (by repeat (first | exact Below.refl _ _ | apply pw_below_drewN | refine Below.alloc ?_ (Nat.le_refl _) _))⟩
  · have t1 : decide (n < 1) = false := by simp; omega
    have t2 : decide (e < 1) = true := by simp; omega
    clear h h1
    go_enter Try.func7, Try.ntmps7
    go_wp2
    repeat (go_quiet (fail); try go_wp2)
    go_ret2
    exact ⟨rfl, (by repeat (first | exact Below.refl _ _ | apply pw_below_drewN | refine Below.alloc ?_ (Nat.le_refl _) _))⟩

set_option maxRecDepth 100000 in
theorem points_good (n e : Nat) (w : World) (h1 : 1 ≤ n) (h2 : 1 ≤ e) (he : e < 9223372036854775808) :
    Calls Try.prog 7 #[.int .i64 n, .int .i64 e] w fun e' w' => ∃ v q, Stop (fun x => gp x e) n q ∧
      e' = .returned (.tuple #[v, .int .i64 (if (firsts (fun x => gp x e) q).length < n then 1 else 0)]) ∧ Kd.R (Kd.int .u8) 5 w' w.heap.size (fun _ => True) v (if (firsts (fun x => gp x e) q).length < n then [] else firsts (fun x => gp x e) q) ∧ Below w.heap.size w w' := by
  have hz := zero_256
  have t1 : decide ((n : Int) < 1) = false := by simp; omega
  have t2 : decide ((e : Int) < 1) = false := by simp; omega
  obtain ⟨f, hf⟩ : ∃ f : Nat → Nat, f = fun x => gp x e := ⟨_, rfl⟩
  rw [← hf]
  have HF := Lib.hid hf
  clear hf
  go_enter Try.func7, Try.ntmps7
  go_upto_region 6 with (fail)
  repeat (go_quiet (fail); try go_upto_region 6 with (fail))
  clear hz t1 t2
  have HB0 := Lib.hid (show Below w.heap.size w (w.alloc (.cells Z256 46)) from (Below.refl _ _).alloc (Nat.le_refl _) _)
  have HG0 := Lib.hid (show ∃ cs, Blk (w.alloc (.cells Z256 46)) w.heap.size 46 cs ∧ Seen f 0 cs from ⟨Z256, Blk.new _ _ _, seen0 f⟩)
  have HR0 := Lib.hid (Kd.R_nil (Kd.int .u8) 5 (w.alloc (.cells Z256 46)) w.heap.size (fun b => b ≠ w.heap.size))
  go_loopw [7, 8] (fun v7 v8 wr => ∃ (k : Nat), k ≤ 256 ∧ (firsts f k).length ≤ n ∧ v8 = .int .i64 (k : Nat) ∧ Hid (Kd.R (Kd.int .u8) 5 wr w.heap.size (fun b => b ≠ w.heap.size) v7 (firsts f k)) ∧ Hid (∃ cs, Blk wr w.heap.size 46 cs ∧ Seen f k cs) ∧ Hid (Below w.heap.size w wr)) (fun _ v8 _ => 256 - (intOf v8).toNat)
  case atStart => exact ⟨0, by omega, by simp [firsts], rfl, HR0, HG0, HB0⟩
  case round =>
    obtain ⟨k, hk, hle, rfl, HR, HG, HB⟩ := hrel
    clear HB0 HG0 HR0
    obtain ⟨A7, c7, rfl⟩ := Kd.R_slice HR.out
    obtain ⟨ln, hln⟩ : ∃ ln, ln = (firsts f k).length := ⟨_, rfl⟩
    rw [← hln] at hle ⊢
    have HLN := Lib.hid hln
    by_cases hlt : k < 256 ∧ ln < n
    · obtain ⟨g1, g2⟩ := hlt
      have t1 : decide ((k : Int) < 256) = true := by simp; omega
      have t2 : decide ((ln : Int) < (n : Int)) = true := by simp; omega
      have e8 : (k : Int) % 256 = (k : Int) := by omega
      have e9 : IntKind.u8.wrap (k : Int) = (k : Int) := by rw [IntKind.wrap_u8]; omega
      have hp := gp_lt k g1 e
      have HP := Lib.hid (gf_pow 200 k e g1 he (by omega))
      rw [show gp k e = f k by rw [HF.out]] at hp HP
      obtain ⟨p, hpp⟩ : ∃ p, p = f k := ⟨_, rfl⟩
      rw [← hpp] at hp HP
      obtain ⟨cs, hb, hs⟩ := HG.out
      have hc := (hb.cell p).trans (hs.2 p hp)
      have HPP := Lib.hid hpp
      have HBL := Lib.hid hb
      have HSN := Lib.hid hs
      have p0 : (0 : Int) ≤ (p : Int) := by omega
      have p1 : (p : Int) < 256 := by omega
      have p2 : ((p : Int)).toNat = p := by omega
      clear hln hpp hb hs HG
      by_cases hh : hit f k p = true
      · rw [hh] at hc
        go_wp2_with ((go_at_call 24; (with_reducible refine (gf_Pow.calls 200 _ _ _ _ HP.out).mono ?_); rintro e w' ⟨rfl, ⟨nd, rfl⟩⟩))
        have ef : firsts f (k + 1) = firsts f k := by rw [firsts_succ, if_pos (by rw [← HPP.out]; exact hh)]
        go_roundw
        case rel => exact ⟨k + 1, by omega, by rw [ef, ← HLN.out]; exact hle, by go_num, by rw [ef, HLN.out]; exact Lib.hid (Kd.R_drewN HR.out _), Lib.hid ⟨cs, HBL.out.drewN _, seen_same f k cs HSN.out (by rw [← HPP.out]; exact hh)⟩, Lib.hid (pw_below_drewN HB.out _)⟩
        case measure => simp [intOf]; omega
      · rw [Bool.eq_false_iff.mpr hh] at hc
        have ef : firsts f (k + 1) = firsts f k ++ [(k : Int)] := by rw [firsts_succ, if_neg (by rw [← HPP.out]; exact hh)]
        have hfz := HBL.out.frozen p
        have HEF := Lib.hid ef
        clear ef
        have hrlt := Kd.R_away HR.out (g := w.heap.size) (fun b hb => hb)
        have HAW := Lib.hid hrlt
        have HRS := Lib.hid (fun m => Kd.R_far (Kd.R_drewN HR.out m) (p := ⟨w.heap.size, p, none⟩) (fun b hb => hb) (.bool true))
        have HBS := Lib.hid (fun m => (pw_below_drewN HB.out m).setCell (p := ⟨w.heap.size, p, none⟩) (Nat.le_refl _) (.bool true))
        have HGS := Lib.hid (fun m => (HBL.out.drewN m).set_ p (.bool true))
        have HSZ := Lib.hid HB.out.size
        have HOK := Lib.hid (show ∀ m b, ((wr.drewN m).setCell ⟨w.heap.size, p, none⟩ (.bool true)).heap.size ≤ b → b ≠ w.heap.size from fun m b hb => by
          have h3 : wr.heap.size ≤ b := by simpa using hb
          have := HBL.out.lt
          omega)
        clear hrlt
        go_wp2_with (first
          | (go_at_call 24; (with_reducible refine (gf_Pow.calls 200 _ _ _ _ HP.out).mono ?_); rintro e w' ⟨rfl, ⟨nd, rfl⟩⟩)
          | (at_builtin; refine byte_append (w0 := w) rfl w.heap.size rfl _ _ rfl _ (firsts f k) (k : Int) (fun b => b ≠ w.heap.size) rfl ?hx ?hR ?hok ?hB ?hba ?hl ?_; (case hx => first | rfl | (go_simp; done) | simp [go_sem]); (case hR => rw [HLN.out]; exact HRS.out _); (case hok => exact HOK.out _); (case hB => exact HBS.out _); (case hba => simpa using HSZ.out); (case hl => have := len_le f k; omega); intro v1 w1 h1 h2 h3; have HR1 := Lib.hid h1; have HB1 := Lib.hid h2; have HG1 := Lib.hid ((HGS.out _).grown h3 (by first | exact HAW.out | (rw [HLN.out]; exact HAW.out) | (rw [HLN.out] at *; exact HAW.out))); clear h1 h2 h3))
        go_roundw
        case rel => exact ⟨k + 1, by omega, by rw [HEF.out]; simp; rw [← HLN.out]; omega, by go_num, by rw [HEF.out]; exact HR1, Lib.hid ⟨_, HG1.out, by rw [HPP.out]; exact seen_more f k cs HSN.out (by rw [← HPP.out]; exact hp)⟩, HB1⟩
        case measure => simp [intOf]; omega
    · by_cases g1 : k < 256
      · have t1 : decide ((k : Int) < 256) = true := by simp; omega
        have t2 : decide ((ln : Int) < (n : Int)) = false := by simp; omega
        have hst : Stop f n k := ⟨hk, by rw [← HLN.out]; exact hle, .inr (by rw [← HLN.out]; omega)⟩
        have HST := Lib.hid hst
        have g3 : ¬ ln < n := by omega
        clear hst hlt
        go_wp2
        refine bodyPost_ret (v := .tuple #[.slice A7 ln c7, .int .i64 0]) (by simp [results, Try.results7, go_sem]) rfl ⟨.slice A7 ln c7, k, HST.out, ?_, ?_, ?_⟩
        · rw [← HLN.out, if_neg (by simpa using t2)]
        · rw [← HLN.out, if_neg (by simpa using t2), HLN.out]; exact Kd.R_mono HR.out (fun _ _ => trivial)
        · exact HB.out
      · have t1 : decide ((k : Int) < 256) = false := by simp; omega
        obtain rfl : k = 256 := by omega
        by_cases g2 : ln < n
        · have t2 : decide ((ln : Int) < (n : Int)) = true := by simp; omega
          have HST := Lib.hid (show Stop f n 256 from ⟨hk, by rw [← HLN.out]; exact hle, .inl rfl⟩)
          clear hlt g1
          go_wp2
          refine bodyPost_ret (v := .tuple #[.slice none 0 0, .int .i64 1]) (by simp [results, Try.results7, go_sem]) rfl ⟨.slice none 0 0, 256, HST.out, ?_, ?_, ?_⟩
          · rw [← HLN.out, if_pos g2]
          · rw [← HLN.out, if_pos g2]; exact Kd.R_nil _ _ _ _ _
          · exact HB.out
        · have t2 : decide ((ln : Int) < (n : Int)) = false := by simp; omega
          have HST := Lib.hid (show Stop f n 256 from ⟨hk, by rw [← HLN.out]; exact hle, .inl rfl⟩)
          have g3 : ¬ ln < n := by omega
          clear hlt g1
          go_wp2
          refine bodyPost_ret (v := .tuple #[.slice A7 ln c7, .int .i64 0]) (by simp [results, Try.results7, go_sem]) rfl ⟨.slice A7 ln c7, 256, HST.out, ?_, ?_, ?_⟩
          · rw [← HLN.out, if_neg g2]
          · rw [← HLN.out, if_neg g2, HLN.out]; exact Kd.R_mono HR.out (fun _ _ => trivial)
          · exact HB.out
end Go.Proofs.Ytelgefkfflgbeaa.VPts
