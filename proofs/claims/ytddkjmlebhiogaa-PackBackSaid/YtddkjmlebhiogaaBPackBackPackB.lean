/- What is packed is taken: the plain law; comparisons of shards. -/
import Derived.Test.YtddkjmlebhiogaaProg
import Derived.Below
import Derived.Deep.Draws
import Derived.Deep.AppendLies
import Derived.Maps.AppendAt
import Derived.OwnWalk
import Derived.Laws.BytesArg
import Derived.Laws.MakeOwn
import Derived.Laws.OwnMore
import Derived.Deep.OwnRows
import Derived.Tactics
import Derived.Lib.ConvBytes
import Derived.Laws.Slices
import Derived.WalkKit
import Derived.KernelRfl
import Derived.RowKit3
import Derived.Deep.LoopGhost
import Derived.Deep.QuietTactic
import Derived.BigQuiet
import Derived.WideLaws
import Derived.Deep.DeepCutAuto
import Derived.Deep.CutBlock
import Derived.Deep.RegionHeld3
import Derived.Laws.Rows
import Derived.Lib.AppendStr
import Derived.ArgAppend
import Derived.Laws.IdiomCopy
import Derived.OrdersHeld
import Derived.Laws.BitsLemmas
import Derived.RowKit
import Derived.Lib.Hide
import Derived.WalkSpells
import Derived.Outline
import Derived.Test.YtddkjmlebhiogaaPack2
import Derived.Test.YtddkjmlebhiogaaPack4
import Derived.Test.YtddkjmlebhiogaaBPackBackPackP
import Derived.Test.YtddkjmlebhiogaaWEqStruct
namespace Go.Proofs.Ytddkjmlebhiogaa.Pack
open Go Go.RowKit Go.Proofs.Ytddkjmlebhiogaa.PPackBack Go.Proofs.Ytddkjmlebhiogaa.Mem Go.Proofs.Ytddkjmlebhiogaa.Bits Go.Proofs.YtddkjmlebhiogaaW.PrintWords Go.Proofs.YtddkjmlebhiogaaW.PrintLast
set_option linter.unusedVariables false

theorem rawR_app (ys xs : List Int) (t : Bool) (m : Int) (hm : m = ys.length) : rawR m (ys ++ xs) t = (ys, xs, t) := by
  subst hm
  rw [rawR_ok (by omega) (by simp; omega)]
  simp
theorem numR_app (n k : Nat) (xs : List Int) (t : Bool) (hk : k ≤ 8) : numR k (leB n k ++ xs) t = (n % 256 ^ k, xs, t) := by
  unfold numR
  rw [if_neg (by omega), rawR_app (leB n k) xs t k (by rw [leB_len])]
  simp [leN_leB]
theorem textR_app (ys xs : List Int) (t : Bool) (h : ys.length < 65536) : textR (leB ys.length 2 ++ (ys ++ xs)) t = (ys, xs, t) := by
  unfold textR
  have h1 := numR_app ys.length 2 (ys ++ xs) t (by decide)
  have e2 : ((2 : Nat) : Int) = 2 := rfl
  rw [e2] at h1
  rw [h1]
  have : ys.length % 256 ^ 2 = ys.length := Nat.mod_eq_of_lt (by omega)
  simp only [this]
  exact rawR_app ys xs t _ rfl
theorem shard_app (o s t q : Nat) (xs : List Int) (b : Bool) (ho : o < 4294967296) (hs : s < 65536) (ht : t < 65536) (hq : q < 4294967296) :
    shardV (shardB o s t q ++ xs) b = .agg #[.int .u32 o, .int .u16 s, .int .u16 t, .int .u32 q] ∧ (s4R (shardB o s t q ++ xs) b).2 = (xs, b) := by
  have e2 : ((2 : Nat) : Int) = 2 := rfl
  have e4 : ((4 : Nat) : Int) = 4 := rfl
  have h1 : s1R (shardB o s t q ++ xs) b = (o, leB s 2 ++ (leB t 2 ++ (leB q 4 ++ xs)), b) := by
    have := numR_app o 4 (leB s 2 ++ (leB t 2 ++ (leB q 4 ++ xs))) b (by decide)
    rw [e4, Nat.mod_eq_of_lt (by omega)] at this
    unfold s1R shardB
    simp only [List.append_assoc] at *
    exact this
  have h2 : s2R (shardB o s t q ++ xs) b = (s, leB t 2 ++ (leB q 4 ++ xs), b) := by
    have := numR_app s 2 (leB t 2 ++ (leB q 4 ++ xs)) b (by decide)
    rw [e2, Nat.mod_eq_of_lt (by omega)] at this
    unfold s2R
    rw [h1]; exact this
  have h3 : s3R (shardB o s t q ++ xs) b = (t, leB q 4 ++ xs, b) := by
    have := numR_app t 2 (leB q 4 ++ xs) b (by decide)
    rw [e2, Nat.mod_eq_of_lt (by omega)] at this
    unfold s3R
    rw [h2]; exact this
  have h4 : s4R (shardB o s t q ++ xs) b = (q, xs, b) := by
    have := numR_app q 4 xs b (by decide)
    rw [e4, Nat.mod_eq_of_lt (by omega)] at this
    unfold s4R
    rw [h3]; exact this
  unfold shardV
  rw [h1, h2, h3, h4]
  exact ⟨rfl, rfl⟩
/-- The bytes of an act, and of many. -/
def actB (x : Act) : List Int := leB x.f1.toNat 8 ++ ((leB x.f3.length 2 ++ x.f3) ++ (shardB x.f4.f0.toNat x.f4.f1.toNat x.f4.f2.toNat x.f4.f3.toNat ++ x.f3))
def actsB (l : List Act) : List Int := (l.map actB).flatten
theorem actsB_snoc (l : List Act) (k : Nat) (hk : k < l.length) : actsB (l.take (k + 1)) = actsB (l.take k) ++ actB (rdA l k) := by
  have e : rdA l (k : Int) = l[k] := by unfold rdA rd_T35; simp [List.getD_eq_getElem?_getD, hk]
  rw [List.take_succ_eq_append_getElem hk, e]
  simp only [actsB, List.map_append, List.map_cons, List.map_nil, List.flatten_append, List.flatten_cons, List.flatten_nil, List.append_nil]
theorem actsB_cons (l : List Act) (k : Nat) (hk : k < l.length) : actsB (l.drop k) = actB (rdA l k) ++ actsB (l.drop (k + 1)) := by
  have e : rdA l (k : Int) = l[k] := by unfold rdA rd_T35; simp [List.getD_eq_getElem?_getD, hk]
  rw [List.drop_eq_getElem_cons hk, e]
  simp only [actsB, List.map_cons, List.flatten_cons]
theorem actB_len (x : Act) : (actB x).length = 22 + 2 * x.f3.length := by simp [actB, leB_len, shardB]; omega
theorem actsB_take_len (l : List Act) (h : Light l) (k : Nat) (hk : k ≤ l.length) : (actsB (l.take k)).length ≤ 10000 * k := by
  induction k with
  | zero => simp [actsB]
  | succ k ih =>
    rw [actsB_snoc l k hk, List.length_append, actB_len]
    have := ih (by omega)
    have := h.2 k hk
    omega
theorem leB_b (n k : Nat) : AllB (leB n k) := by
  induction k generalizing n with
  | zero => intro x hx; cases hx
  | succ k ih =>
    intro x hx
    rcases List.mem_cons.1 hx with e | e
    · subst e; omega
    · exact ih _ x e
theorem AllB.append {xs ys : List Int} (h : AllB xs) (h' : AllB ys) : AllB (xs ++ ys) := by
  intro x hx
  rcases List.mem_append.1 hx with e | e
  · exact h x e
  · exact h' x e
theorem actB_b (x : Act) (h : AllB x.f3) : AllB (actB x) :=
  (leB_b _ _).append (((leB_b _ _).append h).append (((((leB_b _ _).append (leB_b _ _)).append (leB_b _ _)).append (leB_b _ _)).append h))
theorem actsB_b (l : List Act) (h : ∀ x ∈ l, AllB x.f3) : AllB (actsB l) := by
  intro y hy
  obtain ⟨z, hz, hy⟩ := List.mem_flatten.1 hy
  obtain ⟨x, hx, rfl⟩ := List.mem_map.1 hz
  exact actB_b x (h x hx) y hy

/-- Numbers of their kinds, and bytes. -/
def WfA (x : Act) : Prop := (0 ≤ x.f1 ∧ x.f1 < 18446744073709551616) ∧ (0 ≤ x.f4.f0 ∧ x.f4.f0 < 4294967296) ∧ (0 ≤ x.f4.f1 ∧ x.f4.f1 < 65536) ∧ (0 ≤ x.f4.f2 ∧ x.f4.f2 < 65536) ∧ (0 ≤ x.f4.f3 ∧ x.f4.f3 < 4294967296) ∧ AllB x.f3
/-- An element's cells at a world. -/
structure Cells (W : World) (p : Addr) (x1 : Nat) (A3 : Option Addr) (m q3 : Nat) (s0 s1 s2 s3 : Nat) : Prop where
  c1 : W.cell? ⟨p.block, p.off + 1, none⟩ = some (.int .u64 x1)
  c3 : W.cell? ⟨p.block, p.off + 3, none⟩ = some (.slice A3 m q3)
  c4 : W.cell? ⟨p.block, p.off + 4, none⟩ = some (.int .u32 s0)
  c5 : W.cell? ⟨p.block, p.off + 5, none⟩ = some (.int .u16 s1)
  c6 : W.cell? ⟨p.block, p.off + 6, none⟩ = some (.int .u16 s2)
  c7 : W.cell? ⟨p.block, p.off + 7, none⟩ = some (.int .u32 s3)
theorem Cells.below {w W : World} {p : Addr} {x1 : Nat} {A3 : Option Addr} {m q3 s0 s1 s2 s3 : Nat} (h : Cells w p x1 A3 m q3 s0 s1 s2 s3) (hb : Below w.heap.size w W) : Cells W p x1 A3 m q3 s0 s1 s2 s3 :=
  ⟨pw_cell_below hb h.c1, pw_cell_below hb h.c3, pw_cell_below hb h.c4, pw_cell_below hb h.c5, pw_cell_below hb h.c6, pw_cell_below hb h.c7⟩
/-- An act of a list, in memory. -/
theorem act_at {w : World} {A : Option Addr} {l : List Act} (h : Kd.C kAct w A l.length l) (k : Nat) (hk : k < l.length) (hw : WfA (rdA l k)) :
    ∃ ad A3 q3 x1 m s0 s1 s2 s3 ys, A = some ad ∧ Cells w (ad.add (k * 8)) x1 A3 m q3 s0 s1 s2 s3 ∧ m = ys.length ∧ m ≤ q3 ∧ (Kd.int .u8).C w A3 m ys ∧ x1 < 18446744073709551616 ∧ s0 < 4294967296 ∧ s1 < 65536 ∧ s2 < 65536 ∧ s3 < 4294967296 ∧ AllB ys ∧
      actB (rdA l k) = leB x1 8 ++ ((leB m 2 ++ ys) ++ (shardB s0 s1 s2 s3 ++ ys)) ∧ m = (rdA l k).f3.length := by
  obtain ⟨ad, A3, q3, rfl, e0, e1, e2, e3, e4, e5, e6, e7, hc3, hr3⟩ := at_T35 h (k : Int) (by omega) (by omega)
  simp only [Int.toNat_natCast] at e1 e3 e4 e5 e6 e7
  obtain ⟨x, hx⟩ : ∃ x, x = rd_T35 l (k : Int) := ⟨_, rfl⟩
  change WfA (rd_T35 l (k : Int)) at hw
  change ∃ ad A3 q3 x1 m s0 s1 s2 s3 ys, _ ∧ _ ∧ _ ∧ _ ∧ _ ∧ _ ∧ _ ∧ _ ∧ _ ∧ _ ∧ _ ∧ actB (rd_T35 l (k : Int)) = _ ∧ _ = (rd_T35 l (k : Int)).f3.length
  rw [← hx] at e1 e3 e4 e5 e6 e7 hc3 hr3 hw ⊢
  obtain ⟨x0, x1, x2, ys, ⟨s0, s1, s2, s3⟩⟩ := x
  obtain ⟨⟨w10, w11⟩, ⟨w20, w21⟩, ⟨w30, w31⟩, ⟨w40, w41⟩, ⟨w50, w51⟩, wb⟩ := hw
  simp only at *
  obtain ⟨x1, rfl⟩ := Int.eq_ofNat_of_zero_le w10
  obtain ⟨s0, rfl⟩ := Int.eq_ofNat_of_zero_le w20
  obtain ⟨s1, rfl⟩ := Int.eq_ofNat_of_zero_le w30
  obtain ⟨s2, rfl⟩ := Int.eq_ofNat_of_zero_le w40
  obtain ⟨s3, rfl⟩ := Int.eq_ofNat_of_zero_le w50
  exact ⟨ad, A3, q3, x1, _, s0, s1, s2, s3, ys, rfl, ⟨e1, e3, e4, e5, e6, e7⟩, rfl, hc3, hr3, by omega, by omega, by omega, by omega, by omega, wb, by simp [actB], rfl⟩
theorem rtext_k {w W : World} {base g d : Nat} {xs : List Int} {torn : Bool} (h : RdS w base g d W xs torn) (r : List Int × List Int × Bool) (hr : textR xs torn = r) :
    Calls Try.prog 17 #[.pointer (some ⟨g, 0, none⟩)] W fun e w' => ∃ A n c, e = .returned (.slice A n c) ∧ (convert 26 9 (.slice A n c)).run Try.prog w' = .ok (.string (strOfNums r.1)) w' ∧ RdS w base g d w' r.2.1 r.2.2 := by
  subst hr
  refine (rtext_s h).mono ?_
  rintro e w' ⟨A, n, c, hn, rfl, ho, hs⟩
  exact ⟨A, n, c, rfl, str_own ho, hs⟩
theorem raw_k {w W : World} {base g d : Nat} {xs : List Int} {torn : Bool} (h : RdS w base g d W xs torn) (m : Nat) (r : List Int × List Int × Bool) (hr : rawR m xs torn = r) :
    Calls Try.prog 19 #[.pointer (some ⟨g, 0, none⟩), .int .i64 m] W fun e w' => ∃ A n c, e = .returned (.slice A n c) ∧ (convert 26 9 (.slice A n c)).run Try.prog w' = .ok (.string (strOfNums r.1)) w' ∧ RdS w base g d w' r.2.1 r.2.2 := by
  subst hr
  refine (raw_s h m).mono ?_
  rintro e w' ⟨A, n, c, hn, rfl, ho, hs, _⟩
  exact ⟨A, n, c, rfl, str_own ho, hs⟩
theorem rshard_k {w W : World} {base g d : Nat} {xs : List Int} {torn : Bool} (h : RdS w base g d W xs torn) (v : Value) (r : List Int × Bool) (hv : shardV xs torn = v) (hr : (s4R xs torn).2 = r) :
    Calls Try.prog 18 #[.pointer (some ⟨g, 0, none⟩)] W fun e w' => e = .returned v ∧ RdS w base g d w' r.1 r.2 := by
  subst hv hr
  exact rshard_s h
theorem RdS.drew {w W : World} {base g d : Nat} {xs : List Int} {torn : Bool} (h : RdS w base g d W xs torn) : RdS w base g d W.drew xs torn := h.next (below_drew (Below.refl _ _))
theorem str_any {w : World} {A : Option Addr} {m c : Nat} {ys : List Int} (h : (Kd.int .u8).C w A m ys) (W : World) (hb : Below w.heap.size w W) : (convert 26 9 (.slice A m c)).run Try.prog W = .ok (.string (strOfNums ys)) W :=
  string_of_reads Try.underlying26 Try.underlying5 Try.underlying9 (Kd.reads_of_C (d := (0 : Int)) (Kd.C_below h hb))
/-- A stream that begins with an act. -/
theorem stream (x1 m s0 s1 s2 s3 : Nat) (ys R : List Int) (hm : m = ys.length) (hm4 : m ≤ 4000) (h1 : x1 < 18446744073709551616) (h2 : s0 < 4294967296) (h3 : s1 < 65536) (h4 : s2 < 65536) (h5 : s3 < 4294967296) :
    ∃ T1 T2 T3, numR 8 ((leB x1 8 ++ ((leB m 2 ++ ys) ++ (shardB s0 s1 s2 s3 ++ ys))) ++ R) false = (x1, T1, false) ∧ textR T1 false = (ys, T2, false) ∧ shardV T2 false = .agg #[.int .u32 s0, .int .u16 s1, .int .u16 s2, .int .u32 s3] ∧ (s4R T2 false).2 = (T3, false) ∧ rawR m T3 false = (ys, R, false) := by
  subst hm
  refine ⟨leB ys.length 2 ++ (ys ++ (shardB s0 s1 s2 s3 ++ (ys ++ R))), shardB s0 s1 s2 s3 ++ (ys ++ R), ys ++ R, ?_, textR_app ys _ false (by omega), (shard_app s0 s1 s2 s3 (ys ++ R) false h2 h3 h4 h5).1, (shard_app s0 s1 s2 s3 (ys ++ R) false h2 h3 h4 h5).2, rawR_app ys R false _ rfl⟩
  have := numR_app x1 8 (leB ys.length 2 ++ (ys ++ (shardB s0 s1 s2 s3 ++ (ys ++ R)))) false (by decide)
  rw [Nat.mod_eq_of_lt (by omega)] at this
  simp only [List.append_assoc] at *
  exact this
def shV (a b c d : Int) : Value := .agg #[.int .u32 a, .int .u16 b, .int .u16 c, .int .u32 d]
theorem eq_shard (d : Nat) (w : World) (x0 y0 x1 y1 x2 y2 x3 y3 : Int) : (Op.equalIn (d + 2) 33 (shV x0 x1 x2 x3) (shV y0 y1 y2 y3)).run Try.prog w = .ok (x0 == y0 && (x1 == y1 && (x2 == y2 && x3 == y3))) w := by
  refine eqA_of Try.underlying33 (by kernel_rfl) ?_
  refine eqf_cons (by rfl) (by go_simp; rfl) (by go_simp; rfl) (by go_simp) ?_
  refine eqf_cons (by rfl) (by go_simp; rfl) (by go_simp; rfl) (by go_simp) ?_
  refine eqf_cons (by rfl) (by go_simp; rfl) (by go_simp; rfl) (by go_simp) ?_
  exact eqf_last (by rfl) (by go_simp; rfl) (by go_simp; rfl) (by go_simp)
theorem neq_shard (w : World) (a b c d : Int) : (binOp .neq 33 (.agg #[.int .u32 a, .int .u16 b, .int .u16 c, .int .u32 d]) (.agg #[.int .u32 a, .int .u16 b, .int .u16 c, .int .u32 d])).run Try.prog w = .ok (.bool false) w := by
  rw [run_neq_struct]
  have := eq_shard 9998 w a a b b c c d d
  unfold shV at this
  rw [this]
  simp [Result.andThen]
theorem Wr.kept {w W : World} {base g g' : Nat} {v : Value} {xs : List Int} (h : Wr w base g v xs) (k : KeepBut w W g' none) (hg : g ≠ g') (hv : v.ownBlock ≠ some g') : Wr W base g v xs :=
  ⟨k.blk h.blk hg (by simp), h.ge, k.own h.row hv (by cases hb : v.ownBlock with | none => exact .inl rfl | some b => exact .inr (by simp))⟩
end Go.Proofs.Ytddkjmlebhiogaa.Pack
