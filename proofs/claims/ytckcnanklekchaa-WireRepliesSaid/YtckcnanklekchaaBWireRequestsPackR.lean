/- The reference's Num, Text and Shard, and what a writer and a row beside it are. -/
import Derived.Test.YtckcnanklekchaaProg
import Derived.Below
import Derived.Deep.Draws
import Derived.Deep.AppendLies
import Derived.Maps.AppendAt
import Derived.OwnWalk
import Derived.Laws.BytesArg
import Derived.Laws.MakeOwn
import Derived.Laws.OwnMore
import Derived.Deep.OwnRows
import Derived.Tactics
import Derived.Lib.ConvBytes
import Derived.Laws.Slices
import Derived.WalkKit
import Derived.KernelRfl
import Derived.RowKit3
import Derived.Deep.LoopGhost
import Derived.Deep.QuietTactic
import Derived.BigQuiet
import Derived.WideLaws
import Derived.Deep.DeepCutAuto
import Derived.Deep.CutBlock
import Derived.Deep.RegionHeld3
import Derived.Laws.Rows
import Derived.Lib.AppendStr
import Derived.ArgAppend
import Derived.Laws.IdiomCopy
import Derived.OrdersHeld
import Derived.Laws.BitsLemmas
import Derived.RowKit
import Derived.Lib.Hide
import Derived.WalkSpells
import Derived.Outline
import Derived.Test.YtckcnanklekchaaPack2
import Derived.Test.YtckcnanklekchaaPWireRequestsx4
namespace Go.Proofs.Ytckcnanklekchaa.Pack
open Go Go.RowKit Go.Proofs.Ytckcnanklekchaa.PWireRequests Go.Proofs.Ytckcnanklekchaa.Mem Go.Proofs.Ytckcnanklekchaa.Bits Go.Proofs.YtckcnanklekchaaW.PrintWords Go.Proofs.YtckcnanklekchaaW.PrintLast
set_option linter.unusedVariables false

theorem tdiv_nat (n : Nat) : Int.tdiv (n : Int) 256 = ((n / 256 : Nat) : Int) := by rw [Int.tdiv_eq_ediv_of_nonneg (by omega)]; omega
theorem tmod_nat (n : Nat) : Int.tmod (n : Int) 256 % 256 = ((n % 256 : Nat) : Int) := by rw [Int.tmod_eq_emod_of_nonneg (by omega)]; omega
theorem num_loop (size : Int) (c : Nat) (hc : (size ≤ 8 ∧ size = c) ∨ (8 < size ∧ c = 8) ∨ (size < 0 ∧ c = 0)) (d : Nat) : ∀ (i n : Nat) (out : List Int), i + d = c → n < U64 → out.length ≤ 100 + i → ∀ k, d < k →
    coldframeref01_Num.l0 k n size out i = some (out ++ leB n d) := by
  induction d with
  | zero =>
    intro i n out hi hn ho k hk
    obtain ⟨k, rfl⟩ : ∃ m, k = m + 1 := ⟨k - 1, by omega⟩
    simp only [coldframeref01_Num.l0]
    by_cases h : (i : Int) < size
    · rw [if_pos h, if_neg (by omega)]; simp [leB]
    · rw [if_neg h]; simp [leB]
  | succ d ih =>
    intro i n out hi hn ho k hk
    obtain ⟨k, rfl⟩ : ∃ m, k = m + 1 := ⟨k - 1, by omega⟩
    simp only [coldframeref01_Num.l0]
    have hw : IntKind.u64.wrap (Int.tdiv (n : Int) 256) = ((n / 256 : Nat) : Int) := by
      rw [tdiv_nat]; exact wraps_u64 _ (by omega) (by unfold U64 at hn; omega)
    rw [if_pos (by omega), if_pos (by omega), if_pos (by omega), hw, tmod_nat, wrap64_in _ (by omega) (by omega), show ((i : Int) + 1) = ((i + 1 : Nat) : Int) by omega,
      ih (i + 1) (n / 256) _ (by omega) (by unfold U64 at *; omega) (by simp; omega) k (by omega), leB, List.append_assoc, List.singleton_append]
theorem refnum_f (n : Nat) (size : Int) (k : Nat) (hk : 8 < k) (hn : n < U64) : coldframeref01_Num.f k n size = some (leB n (cnt size)) := by
  have h := num_loop size (cnt size) (by unfold cnt; omega) (cnt size) 0 n [] (by omega) hn (by simp) k (by unfold cnt; omega)
  simpa [coldframeref01_Num.f] using h
theorem R_form_reads {w : World} {base : Nat} {ok : Nat → Prop} {v : Value} {xs : List Int} (h : Kd.R (Kd.int .u8) 5 w base ok v xs) (m : Nat) (hm : xs.length = m) : ∃ A c, v = .slice A m c ∧ m ≤ c ∧ ReadsInt w .u8 A m xs := by
  obtain ⟨A, c, rfl, hl, hc⟩ := Kd.R_reads h
  subst hm
  exact ⟨A, c, rfl, hl, Kd.reads_of_C (d := (0 : Int)) hc⟩
theorem refnum_calls (n : Nat) (size : Int) (W : World) (hn : n < U64) : Calls Try.prog 32 #[.int .u64 n, .int .i64 size] W fun e w' => ∃ A c, e = .returned (.slice A (cnt size) c) ∧ ReadsInt w' .u8 A (cnt size) (leB n (cnt size)) ∧ Below W.heap.size W w' := by
  refine (coldframeref01_Num.calls 9 n size _ W (refnum_f n size 9 (by omega) hn)).mono ?_
  rintro e w' ⟨v, rfl, hr, hb⟩
  obtain ⟨A, c, rfl, _, hr⟩ := R_form_reads hr (cnt size) (leB_len _ _)
  exact ⟨A, c, rfl, hr, hb⟩
theorem join_loop (l : List (List Int)) (hl : l.length ≤ 10) (hb : ∀ x ∈ l, x.length ≤ 10000) (d : Nat) : ∀ (i : Nat) (out : List Int), i + d = l.length → out.length ≤ 100000 * i → ∀ k, d < k →
    coldframeref01_Join.l0 k l out i = some (out ++ (l.drop i).flatten) := by
  induction d with
  | zero =>
    intro i out hi ho k hk
    obtain ⟨k, rfl⟩ : ∃ m, k = m + 1 := ⟨k - 1, by omega⟩
    simp only [coldframeref01_Join.l0]
    rw [if_neg (by omega), List.drop_of_length_le (by omega)]; simp
  | succ d ih =>
    intro i out hi ho k hk
    obtain ⟨k, rfl⟩ : ∃ m, k = m + 1 := ⟨k - 1, by omega⟩
    simp only [coldframeref01_Join.l0]
    have hil : i < l.length := by omega
    have he : rd_L2 l (i : Int) = l[i] := by unfold rd_L2; simp [List.getD_eq_getElem?_getD, hil]
    have hbl := hb l[i] (List.getElem_mem _)
    rw [if_pos (by omega), if_pos (by omega), he, if_pos (by omega), wrap64_in _ (by omega) (by omega), show ((i : Int) + 1) = ((i + 1 : Nat) : Int) by omega,
      ih (i + 1) _ (by omega) (by simp; omega) k (by omega), List.append_assoc]
    congr 2
    rw [List.drop_eq_getElem_cons hil, List.flatten_cons]
theorem join_f (l : List (List Int)) (hl : l.length ≤ 10) (hb : ∀ x ∈ l, x.length ≤ 10000) (k : Nat) (hk : 10 < k) : coldframeref01_Join.f k l = some l.flatten := by
  have h := join_loop l hl hb l.length 0 [] (by omega) (by simp) k (by omega)
  simpa [coldframeref01_Join.f] using h
theorem u64_nat (n : Nat) (h : n < U64) : IntKind.u64.wrap (n : Int) = (n : Int) := wraps_u64 _ (by omega) (by unfold U64 at h; omega)
theorem F_of_C {w W : World} {A : Option Addr} {m : Nat} {ys : List Int} (hB : Below w.heap.size w W) (h : (Kd.int .u8).C w A m ys) : Kd.F (Kd.int .u8) W (fun k => k < w.heap.size) A m ys := by
  intro W' hW
  have h0 := Kd.reads_of_C (d := (0 : Int)) h
  refine Kd.C_of_reads (d := (0 : Int)) ⟨h0.1, h0.2.1, fun hp => ?_⟩
  obtain ⟨ad, e, hc⟩ := h0.2.2 hp
  refine ⟨ad, e, fun i hi => ?_⟩
  have hci := hc i hi
  have hlt := World.block_lt_of_cell? w _ hci
  rw [World.cell?_of_block (hW _ hlt (Nat.lt_of_lt_of_le hlt hB.size)), hB.cell hlt]
  exact hci
/-- The shard (function 33). -/
theorem refshard_f (o s t q : Nat) (ho : o < 4294967296) (hs : s < 65536) (ht : t < 65536) (hq : q < 4294967296) : coldframeref01_Shard.f 20 o s t q = some (shardB o s t q) := by
  unfold coldframeref01_Shard.f
  rw [u64_nat _ (by unfold U64; omega), u64_nat _ (by unfold U64; omega), u64_nat _ (by unfold U64; omega), u64_nat _ (by unfold U64; omega), refnum_f _ _ 20 (by omega) (by unfold U64; omega), bnd, refnum_f _ _ 20 (by omega) (by unfold U64; omega), bnd, refnum_f _ _ 20 (by omega) (by unfold U64; omega), bnd, refnum_f _ _ 20 (by omega) (by unfold U64; omega), bnd, join_f _ (by simp) _ 20 (by omega), bnd]
  · simp [shardB, show cnt 2 = 2 from rfl, show cnt 4 = 4 from rfl]
  · intro x hx
    simp at hx
    rcases hx with rfl | rfl | rfl | rfl <;> rw [leB_len] <;> decide
theorem shardB_len (o s t q : Nat) : (shardB o s t q).length = 12 := by simp [shardB, leB_len]
theorem refshard_calls (o s t q : Nat) (W : World) (ho : o < 4294967296) (hs : s < 65536) (ht : t < 65536) (hq : q < 4294967296) :
    Calls Try.prog 33 #[.agg #[.int .u32 o, .int .u16 s, .int .u16 t, .int .u32 q]] W fun e w' => ∃ A1 c1, e = .returned (.slice A1 12 c1) ∧ ReadsInt w' .u8 A1 12 (shardB o s t q) ∧ Below W.heap.size W w' := by
  refine (coldframeref01_Shard.calls 20 o s t q _ W (refshard_f o s t q ho hs ht hq)).mono ?_
  rintro e w' ⟨v, rfl, hr, hb⟩
  obtain ⟨A1, c1, rfl, _, hr⟩ := R_form_reads hr 12 (shardB_len _ _ _ _)
  exact ⟨A1, c1, rfl, hr, hb⟩

/-- A writer, and a row of bytes beside it. -/
structure St (w W : World) (g : Nat) (v : Value) (xs : List Int) (r : Value) (zs : List Int) : Prop where
  wr : Wr W w.heap.size g v xs
  own : W.ownsRow w.heap.size 5 1 r zs.length (nums .u8 zs)
  ne : NeRow r v
  bel : Below w.heap.size w W
section
variable {w W W' : World} {g : Nat} {v v' r r' : Value} {xs ys zs : List Int}
theorem St.next (h : St w W g v xs r zs) (hb : Below W.heap.size W W') : St w W' g v xs r zs := ⟨h.wr.below hb, pw_own_below h.own hb, h.ne, h.bel.trans (hb.mono h.bel.size)⟩
theorem St.alloc (h : St w W g v xs r zs) (o : Obj) : St w (W.alloc o) g v xs r zs := h.next ((Below.refl _ _).alloc (Nat.le_refl _) o)
theorem St.write (h : St w W g v xs r zs) (k : WrTo W w.heap.size g v W' v' ys) : St w W' g v' ys r zs := by
  refine ⟨k.wr, k.keep.own h.own (fun e => own_blk_ne h.own h.wr.blk (by decide) e) ?_, ?_, h.bel.trans k.bel⟩
  · cases hb : r.ownBlock with
    | none => exact .inl rfl
    | some b => exact .inr (fun e => h.ne b hb e.symm)
  · intro b hb he
    rcases k.at_ with e | ⟨b', e, hl⟩
    · exact h.ne b hb (by rw [← e]; exact he)
    · rw [e] at he
      cases he
      have := own_lt h.own b hb
      omega
theorem St.append (h : St w W g v xs r zs) (ho : W'.ownsRow w.heap.size 5 1 r' ys.length (nums .u8 ys)) (hB : Below w.heap.size w W') (hg : W.grownBy W' r.ownBlock) (hat : r'.ownBlock = r.ownBlock ∨ ∃ b, r'.ownBlock = some b ∧ W.heap.size ≤ b) : St w W' g v xs r' ys := by
  have hne : some g ≠ r.ownBlock := fun e => own_blk_ne h.own h.wr.blk (by decide) e.symm
  refine ⟨⟨h.wr.blk.grown hg hne, h.wr.ge, own_other h.wr.row hg (ne_other h.ne)⟩, ho, ne_append h.ne hat h.wr.row, hB⟩
theorem St.str (h : St w W g v xs r zs) : ∃ A n c, r = .slice A n c ∧ ∀ W', Below W.heap.size W W' → (convert 27 9 (.slice A n c)).run Try.prog W' = .ok (.string (strOfNums zs)) W' := by
  obtain ⟨A, c, rfl⟩ := own_slice h.own
  exact ⟨A, zs.length, c, rfl, fun W' hb => string_of_reads Try.underlying27 Try.underlying5 Try.underlying9 (own_reads' (pw_own_below h.own hb))⟩
theorem St.blk {b : Nat} {t : TypeId} {cs : Array Value} (h : St w W g v xs r zs) (k : WrTo W w.heap.size g v W' v' ys) (hb : Blk W b t cs) (h1 : t ≠ 64) (h2 : t ≠ 5) : Blk W' b t cs :=
  k.keep.blk hb (Blk.ne_ hb h.wr.blk h1) (fun e => own_blk_ne h.wr.row hb (fun e' => h2 e'.symm) e.symm)
end
end Go.Proofs.Ytckcnanklekchaa.Pack
