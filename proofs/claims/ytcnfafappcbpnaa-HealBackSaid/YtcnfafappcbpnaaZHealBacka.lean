/- The statement HealBack: what its proof rests on, part 1 of 4. -/
import Derived.Test.YtcnfafappcbpnaaProg
import Derived.Below
import Derived.Deep.Draws
import Derived.Deep.AppendLies
import Derived.Maps.AppendAt
import Derived.OwnWalk
import Derived.Laws.BytesArg
import Derived.Laws.MakeOwn
import Derived.Laws.OwnMore
import Derived.Deep.OwnRows
import Derived.Tactics
import Derived.Lib.ConvBytes
import Derived.Laws.Slices
import Derived.WalkKit
import Derived.KernelRfl
import Derived.RowKit3
import Derived.Deep.LoopGhost
import Derived.Deep.QuietTactic
import Derived.BigQuiet
import Derived.WideLaws
import Derived.Deep.DeepCutAuto
import Derived.Deep.CutBlock
import Derived.Deep.RegionHeld3
import Derived.Laws.Rows
import Derived.Lib.AppendStr
import Derived.ArgAppend
import Derived.Laws.IdiomCopy
import Derived.OrdersHeld
import Derived.Laws.BitsLemmas
import Derived.RowKit
import Derived.Lib.Hide
import Derived.ProofKit
import Derived.OpenShut
import Derived.ChangeOld
import Derived.Deep.Slices
import Derived.Test.YtcnfafappcbpnaaWWords
import Derived.WalkSpells
import Derived.StillTailTactics
import Derived.Outline
import Derived.Lib.Strings
import Derived.Test.YtcnfafappcbpnaaWApart
import Derived.Laws.CopyOwn
namespace Go.Proofs.Ytcnfafappcbpnaa.Opn
open Go Go.RowKit Go.ChangeShapes Go.WideShapes Go.ChangeAt Go.Deep Go.Proofs.YtcnfafappcbpnaaW.PrintWords
set_option linter.unusedVariables false
structure Opens {α : Type} (d : Kd α) (ok : α → Prop) (t : TypeId) : Prop where
  out : ∀ {H : Type} {enc : TypeId × Value → H} {W : World} {fuel : Nat} {cs : List Value} {x : DataW H × List MemPlace}, DataW.trod enc Try.prog W 0 (fun _ => true) true fuel t cs = some x → ∃ a, d.K W a cs ∧ ok a
theorem opens_int {k : IntKind} {t : TypeId} (ht : Try.prog.underlying t = some (.int k)) : Opens (Kd.int k) (fun a => (Lit.int k a).wf = true) t := by
  refine ⟨fun h => ?_⟩
  obtain ⟨n, rfl, _, hw⟩ := DataW.trod_int ht h
  exact ⟨n, rfl, hw⟩
theorem opens_slice {α : Type} {d : Kd α} {ok : α → Prop} {t e : TypeId} (ht : Try.prog.underlying t = some (.slice e)) (hz : Try.prog.cellsOf e = d.sz) (h : Opens d ok e) :
    Opens (Kd.slice e d) (fun l => l.length ≤ 9223372036854775807 ∧ ∀ a ∈ l, ok a) t := by
  refine ⟨fun {H enc W fuel cs x} hx => ?_⟩
  rcases open_slice ht hx with ⟨rfl, _⟩ | ⟨a, len, cap, m, n, D, Pl, rfl, _, hl, hm, hmm, _, hi⟩
  · exact ⟨[], ⟨none, 0, rfl, Nat.le_refl _, Kd.C_nil d W⟩, by simp, fun a ha => by cases ha⟩
  · have hmc : m = cap := by simpa using hmm
    subst hmc
    have hm' : m ≤ 9223372036854775807 := by simpa [maxLen] using hm
    have hall : ∀ i, i < len → ∃ (v : α) (c : List Value), d.K W v c ∧ ok v ∧ c.length = d.sz ∧ ∀ j u, c[j]? = some u → W.cell? (a.add (i * d.sz + j)) = some u := by
      intro i hil
      obtain ⟨cs', hc, htr⟩ := hi i (by omega)
      obtain ⟨v, hK, hok⟩ := h.out htr
      obtain ⟨_, hlen, hcell⟩ := World.cells?_some hc
      rw [hz] at hlen hcell
      refine ⟨v, cs', hK, hok, hlen, fun j u hu => ?_⟩
      have hj : j < d.sz := by
        have := (List.getElem?_eq_some_iff.1 hu).1; omega
      rw [← hu, ← hcell j hj, Go.Deep.add_add]
    have hlist : ∃ l : List α, l.length = len ∧ ∀ j p, l[j]? = some p → ok p ∧ ∃ c, c.length = d.sz ∧ d.K W p c ∧ ∀ i u, c[i]? = some u → W.cell? (a.add (j * d.sz + i)) = some u := by
      clear hx hi hmm
      have : ∀ k, k ≤ len → ∃ l : List α, l.length = k ∧ ∀ j p, l[j]? = some p → ok p ∧ ∃ c, c.length = d.sz ∧ d.K W p c ∧ ∀ i u, c[i]? = some u → W.cell? (a.add (j * d.sz + i)) = some u := by
        intro k
        induction k with
        | zero => exact fun _ => ⟨[], rfl, fun j p hp => by simp at hp⟩
        | succ k ih =>
          intro hk
          obtain ⟨l, hl1, hl2⟩ := ih (by omega)
          obtain ⟨v, c, hK, hok, hlen, hc⟩ := hall k (by omega)
          refine ⟨l ++ [v], by simp [hl1], fun j p hp => ?_⟩
          rcases Nat.lt_or_ge j l.length with hj | hj
          · rw [List.getElem?_append_left hj] at hp
            exact hl2 j p hp
          · have hj' : j = k := by
              have := (List.getElem?_eq_some_iff.1 hp).1
              simp at this; omega
            subst hj'
            have hq : v = p := by
              rw [← hl1] at hp; simpa using hp
            subst hq
            exact ⟨hok, c, hlen, hK, hc⟩
      exact this len (Nat.le_refl _)
    obtain ⟨l, rfl, hl2⟩ := hlist
    refine ⟨l, ⟨some a, m, rfl, hl, rfl, by omega, fun _ => ⟨a, rfl, fun j p hp => ?_⟩⟩, by omega, fun v hv => ?_⟩
    · obtain ⟨_, c, h1, h2, h3⟩ := hl2 j p hp
      exact ⟨c, h1, h2, h3⟩
    · obtain ⟨j, hj⟩ := List.getElem?_of_mem hv
      exact (hl2 j v hj).1
theorem slice_in {α : Type} {d : Kd α} {ok : List α → Prop} {t e : TypeId} {H : Type} {enc : TypeId × Value → H} {W : World} {a : Option Addr} {len cap : Nat} {x : DataW H} {p : List MemPlace}
    (h : Opens (Kd.slice e d) ok t) (hx : DataW.Trod enc Try.prog W 0 (fun _ => true) true t (.slice a len cap) x p) : ∃ l : List α, len = l.length ∧ d.C W a l.length l ∧ l.length ≤ cap ∧ ok l := by
  obtain ⟨fuel, hf⟩ := hx
  obtain ⟨l, ⟨A, c, hcs, hl, hC⟩, hok⟩ := h.out hf
  simp [Value.cells] at hcs
  obtain ⟨rfl, rfl, rfl⟩ := hcs
  exact ⟨l, rfl, hC, hl, hok⟩
end Go.Proofs.Ytcnfafappcbpnaa.Opn
namespace Go.Proofs.Ytcnfafappcbpnaa.Mem
open Go Go.RowKit
theorem block_of_add (a : Addr) (n : Nat) : (a.add n).block = a.block := by unfold Addr.add; split <;> rfl
def Reads (w : World) (B size : Nat) (A : Option Addr) (n : Nat) (xs : List Value) : Prop :=
  xs.length = n * size ∧ (0 < n → ∃ ad, A = some ad ∧ ad.block < B ∧ ∀ j u, xs[j]? = some u → w.cell? (ad.add j) = some u)
section
variable {w w' : World} {B B' size n : Nat} {A : Option Addr} {xs : List Value}
theorem Reads.at_ {k : Nat} (h : Reads w B 1 A n xs) (hk : k < n) : ∃ ad u, A = some ad ∧ ad.block < B ∧ xs[k]? = some u ∧ w.cell? (ad.add k) = some u := by
  obtain ⟨ad, e, hb, hc⟩ := h.2 (by omega)
  have hl : k < xs.length := by have := h.1; omega
  exact ⟨ad, xs[k], e, hb, List.getElem?_eq_getElem hl, hc k _ (List.getElem?_eq_getElem hl)⟩
theorem Reads.keep (h : Reads w B size A n xs) (hk : ∀ p : Addr, p.block < B → w'.cell? p = w.cell? p) : Reads w' B size A n xs :=
  ⟨h.1, fun hn => by
    obtain ⟨ad, e, hb, hc⟩ := h.2 hn
    exact ⟨ad, e, hb, fun j u hu => (hk _ (by rw [block_of_add]; exact hb)).trans (hc j u hu)⟩⟩
theorem Reads.more (h : Reads w B size A n xs) (hB : B ≤ B') : Reads w B' size A n xs :=
  ⟨h.1, fun hn => by
    obtain ⟨ad, e, hb, hc⟩ := h.2 hn
    exact ⟨ad, e, by omega, hc⟩⟩
theorem Reads.below (h : Reads w B size A n xs) (hb : Below B w w') : Reads w' B size A n xs := h.keep fun _ hp => hb.cell hp
theorem Reads.drew (h : Reads w B size A n xs) : Reads w.drew B size A n xs := h
theorem Reads.drewN (h : Reads w B size A n xs) (k : Nat) : Reads (w.drewN k) B size A n xs := h
theorem Reads.alloc (h : Reads w B size A n xs) (hB : B ≤ w.heap.size) (o : Obj) : Reads (w.alloc o) B size A n xs := h.keep fun p hp => World.cell?_alloc_lt w o p (by omega)
theorem Reads.setCell (h : Reads w B size A n xs) {p : Addr} (hB : B ≤ p.block) (u : Value) : Reads (w.setCell p u) B size A n xs :=
  h.keep fun q hq => World.cell?_setCell_other w p q u (fun e => by subst e; omega)
theorem Reads.grown (h : Reads w B size A n xs) {row : Option Nat} (hg : w.grownBy w' row) (hB : B ≤ w.heap.size) (hr : ∀ g, row = some g → B ≤ g) : Reads w' B size A n xs :=
  h.keep fun p hp => World.cell?_of_block (hg.block p.block (by omega) (fun e => by have := hr _ e.symm; omega))
end
def Blk (w : World) (g : Nat) (t : TypeId) (cs : Array Value) : Prop := w.heap[g]? = some (.cells cs t (0, 0))
section
variable {w w' : World} {g : Nat} {t : TypeId} {cs : Array Value}
theorem Blk.lt (h : Blk w g t cs) : g < w.heap.size := by
  rcases Nat.lt_or_ge g w.heap.size with hlt | hge
  · exact hlt
  · unfold Blk at h; rw [Array.getElem?_eq_none hge] at h; cases h
theorem Blk.cell (h : Blk w g t cs) (i : Nat) : w.cell? ⟨g, i, none⟩ = cs[i]? := cell_of_row w g i cs t (0, 0) h
theorem Blk.frozen (h : Blk w g t cs) (i : Nat) : w.frozen? ⟨g, i, none⟩ = false := by
  unfold Blk at h
  simp [World.frozen?, h]
theorem Blk.new (w : World) (t : TypeId) (cs : Array Value) : Blk (w.alloc (.cells cs t)) w.heap.size t cs := heap_alloc_new w _
theorem Blk.drew (h : Blk w g t cs) : Blk w.drew g t cs := h
theorem Blk.drewN (h : Blk w g t cs) (n : Nat) : Blk (w.drewN n) g t cs := h
theorem Blk.alloc (h : Blk w g t cs) (o : Obj) : Blk (w.alloc o) g t cs := (Below.heap_alloc w o g h.lt).trans h
theorem Blk.set_ (h : Blk w g t cs) (i : Nat) (u : Value) : Blk (w.setCell ⟨g, i, none⟩ u) g t (cs.setIfInBounds i u) := by
  unfold Blk at h ⊢
  simp [World.setCell, Array.getElem?_modify, h]
theorem Blk.far (h : Blk w g t cs) {p : Addr} (hp : g ≠ p.block) (u : Value) : Blk (w.setCell p u) g t cs := (Below.heap_setCell w p u g hp).trans h
theorem Blk.below {B : Nat} (h : Blk w g t cs) (hb : Below B w w') (hg : g < B) : Blk w' g t cs := (hb.block g hg).trans h
theorem Blk.grown {row : Option Nat} (h : Blk w g t cs) (hb : w.grownBy w' row) (hg : some g ≠ row) : Blk w' g t cs := (hb.block g h.lt hg).trans h
theorem Blk.ne_ {g' : Nat} {t' : TypeId} {cs' : Array Value} (h : Blk w g t cs) (h' : Blk w g' t' cs') (hne : t ≠ t') : g ≠ g' := by
  rintro rfl
  unfold Blk at h h'
  rw [h] at h'
  injection h' with h'
  injection h' with _ ht
  exact hne ht
theorem own_blk_ne {base : Nat} {e : TypeId} {size n : Nat} {v : Value} {xs : List Value} (h : w.ownsRow base e size v n xs) (hg : Blk w g t cs) (hne : e ≠ t) : v.ownBlock ≠ some g := by
  rcases h.2 with ⟨rfl, _⟩ | ⟨g', cap, cur, rfl, _, hh, _⟩
  · simp [Value.ownBlock]
  · intro he
    have : g' = g := by simpa [Value.ownBlock] using he
    subst this
    exact Blk.ne_ (t := e) hh hg hne rfl
end
end Go.Proofs.Ytcnfafappcbpnaa.Mem
namespace Go.Proofs.Ytcnfafappcbpnaa.Bits
open Go Go.RowKit
theorem bnd {α β : Type} (a : α) (f : α → Option β) : (some a).bind f = f a := by
  have h : ∀ o : Option α, o = some a → o.bind f = f a := fun o ho => by rw [ho]; rfl
  exact h _ rfl
theorem bits_xor (k : IntKind) (j : Nat) (hj : j ≤ k.bits) (hk : ∀ n : Int, 0 ≤ n → n < 2 ^ j → k.wrap n = n) (a b : Nat) (ha : a < 2 ^ j) (hb : b < 2 ^ j) :
    bits .xor k a b = ((a ^^^ b : Nat) : Int) := by
  have hp : 2 ^ j ≤ 2 ^ k.bits := Nat.pow_le_pow_right (by decide) hj
  have ha' : a % 2 ^ k.bits = a := Nat.mod_eq_of_lt (Nat.lt_of_lt_of_le ha hp)
  have hb' : b % 2 ^ k.bits = b := Nat.mod_eq_of_lt (Nat.lt_of_lt_of_le hb hp)
  simp only [bits, BitVec.ofInt_natCast, BitVec.toNat_xor, BitVec.toNat_ofNat, ha', hb']
  exact hk _ (Int.natCast_nonneg _) (by exact_mod_cast Nat.xor_lt_two_pow ha hb)
theorem wraps_i64 (n : Int) (h₀ : 0 ≤ n) (h₁ : n < 2 ^ 63) : IntKind.i64.wrap n = n := by rw [IntKind.wrap_i64]; omega
theorem xor_i64 (a b : Nat) (ha : a < 9223372036854775808) (hb : b < 9223372036854775808) : bits .xor .i64 (a : Int) (b : Int) = ((a ^^^ b : Nat) : Int) :=
  bits_xor .i64 63 (by decide) wraps_i64 a b ha hb
theorem xor_u8 (a b : Nat) (ha : a < 256) (hb : b < 256) : bits .xor .u8 (a : Int) (b : Int) = ((a ^^^ b : Nat) : Int) :=
  bits_xor .u8 8 (by decide) wraps_u8 a b ha hb
theorem and1_u8 (a : Nat) (ha : a < 256) : bits .and .u8 (a : Int) 1 = ((a % 2 : Nat) : Int) := by
  have := bits_mask .u8 8 (by decide) wraps_u8 1 (by decide) (a : Int) (by omega) (by omega)
  simpa using this
theorem and1_i64 (a : Nat) (ha : a < 9223372036854775808) : bits .and .i64 (a : Int) 1 = ((a % 2 : Nat) : Int) := by
  have := bits_mask .i64 63 (by decide) wraps_i64 1 (by decide) (a : Int) (by omega) (by omega)
  simpa using this
theorem wrap64_nat (n : Nat) (h : n < 9223372036854775808) : wrap64 (n : Int) = n := by unfold wrap64; omega
theorem wrap64_in (n : Int) (h0 : -9223372036854775808 ≤ n) (h : n < 9223372036854775808) : wrap64 n = n := by unfold wrap64; omega
end Go.Proofs.Ytcnfafappcbpnaa.Bits
namespace Go.Proofs.Ytcnfafappcbpnaa.Rws
open Go Go.RowKit Go.Proofs.Ytcnfafappcbpnaa.Mem Go.Proofs.Ytcnfafappcbpnaa.Bits Go.Proofs.YtcnfafappcbpnaaW.PrintWords
set_option linter.unusedVariables false
def Bytes (xs : List Int) : Prop := ∀ x ∈ xs, 0 ≤ x ∧ x < 256
def AllBytes (ls : List (List Int)) : Prop := ∀ l ∈ ls, Bytes l
abbrev kRow : Kd (List Int) := Kd.slice 5 (Kd.int .u8)
abbrev RowsC (w : World) (A : Option Addr) (ls : List (List Int)) : Prop := Kd.C kRow w A ls.length ls
abbrev RowsR (w : World) (base : Nat) (v : Value) (ls : List (List Int)) : Prop := Kd.R kRow 22 w base (fun _ => True) v ls
theorem RowsC.get {w : World} {A : Option Addr} {ls : List (List Int)} (h : RowsC w A ls) (i : Nat) (hi : i < ls.length) :
    ∃ ad A0 c0, A = some ad ∧ w.cell? (ad.add i) = some (.slice A0 (ls.getD i []).length c0) ∧ (ls.getD i []).length ≤ c0 ∧ (Kd.int .u8).C w A0 (ls.getD i []).length (ls.getD i []) := by
  obtain ⟨ad, c, e, _, hK, hc0⟩ := Kd.C_get h [] (i : Int) (by omega) (by omega)
  obtain ⟨A0, c0, rfl, l0, g0⟩ := hK
  refine ⟨ad, A0, c0, e, ?_, l0, g0⟩
  have hq := hc0 0 _ rfl
  simpa [Kd.slice] using hq
theorem info_rows : (Try.prog.info? 22).map (fun i => (i.zero, i.size, i.bytes)) = some (some (.slice none 0 0), 1, 24) := by kernel_rfl
theorem row_M {w : World} {base b0 : Nat} {u : Value} {n : Nat} {ys : List Int} (h : w.ownsRow b0 5 1 u n (nums .u8 ys)) (hb : base ≤ b0) (hn : ys.length = n) : kRow.M w base (fun k => some k = u.ownBlock) ys [u] := by
  refine ⟨u, rfl, Kd.R_of_own ?_ (fun k hk => hk.symm)⟩
  have := own_weaken h hb
  rw [← hn] at this; exact this
theorem rows_append2 {P : Program} {ops : Array Oper} {rest : List Oper} {o : Oper} {a : Act} {Q : Exit → Act → World → Prop} {w0 W wr : World} (hP : P = Try.prog) (base : Nat) (hgd : o.guard = none) (s x : Operand)
    (ho : o.op = .call { callee := .builtin .append, args := #[s, x], argTypes := #[39, 39] }) (v u : Value) (ls : List (List Int)) (ys : List Int)
    (hs : a.eval s = v) (hx : a.eval x = .slice (some ⟨W.heap.size, 0, none⟩) 1 1) (HR : RowsR wr base v ls) (HB : Below base w0 W) (hbase : base ≤ wr.heap.size) (hB : Below wr.heap.size wr W)
    (hu : (Kd.int .u8).R 5 W wr.heap.size (fun _ => True) u ys) (hl : ls.length ≤ 1000000)
    (h : ∀ v1 w1, RowsR w1 base v1 (ls ++ [ys]) → Below base w0 w1 → wpList P ops Q rest (a.put o.dst v1) w1) :
    wpList P ops Q (o :: rest) a (W.alloc (.cells #[u] 22)) := by
  subst hP
  have hown : W.ownsRow wr.heap.size 5 1 u ys.length (nums .u8 ys) := Kd.own_of_R hu
  refine Kd.R_append kRow (w0 := w0) base hgd s x 39 22 (.slice none 0 0) 24 ho Try.underlying39 info_rows rfl (by decide) (by decide) v ls ys [u] (fun _ => True)
    (fun k => some k = u.ownBlock) hs hx (row_M hown hbase rfl) ?_ (fun _ _ => trivial) (Kd.R_below HR hB) HB (Nat.le_trans hbase hB.size) (by omega) (fun v1 w1 h1 h2 _ _ => h v1 w1 h1 h2)
  intro k hk
  refine ⟨trivial, fun e => ?_⟩
  have h1 := own_base hown k hk.symm
  have := Kd.R_lt HR k e.symm
  omega
theorem info_byte : (Try.prog.info? 5).map (fun i => (i.zero, i.size, i.bytes)) = some (some (.int .u8 0), 1, 1) := by kernel_rfl
end Go.Proofs.Ytcnfafappcbpnaa.Rws
namespace Go.Proofs.Ytcnfafappcbpnaa.Rws
open Go Go.RowKit Go.Proofs.Ytcnfafappcbpnaa.Mem Go.Proofs.YtcnfafappcbpnaaW.PrintWords
set_option linter.unusedVariables false
end Go.Proofs.Ytcnfafappcbpnaa.Rws
namespace Go.Proofs.Ytcnfafappcbpnaa.Gf
theorem xor_half (a b : Nat) : (a ^^^ b) / 2 = a / 2 ^^^ b / 2 := by
  have := @Nat.xor_div_two_pow a b 1
  simpa using this
theorem xor_bit (a b : Nat) : (a ^^^ b) % 2 = a % 2 ^^^ b % 2 := by
  have := @Nat.xor_mod_two_pow a b 1
  simpa using this
theorem dbl_xor (a b : Nat) : (a ^^^ b) * 2 = a * 2 ^^^ b * 2 := by
  have := @Nat.shiftLeft_xor_distrib 1 a b
  simpa [Nat.shiftLeft_eq] using this
theorem x4 (a b c d : Nat) : (a ^^^ b) ^^^ (c ^^^ d) = (a ^^^ c) ^^^ (b ^^^ d) := by
  rw [Nat.xor_assoc, Nat.xor_assoc, ← Nat.xor_assoc b c d, Nat.xor_comm b c, Nat.xor_assoc c b d]
def xt (x : Nat) : Nat := x % 128 * 2 ^^^ x / 128 % 2 * 29
theorem bit01 (n : Nat) : n % 2 = 0 ∨ n % 2 = 1 := by omega
theorem bitmul (a b c : Nat) : ((a ^^^ b) % 2) * c = (a % 2 * c) ^^^ (b % 2 * c) := by
  rw [xor_bit]
  rcases bit01 a with h | h <;> rcases bit01 b with h' | h' <;> simp [h, h']
theorem xt_xor (x y : Nat) : xt (x ^^^ y) = xt x ^^^ xt y := by
  unfold xt
  have h1 := @Nat.xor_mod_two_pow x y 7
  have h2 := @Nat.xor_div_two_pow x y 7
  simp only [Nat.reducePow] at h1 h2
  rw [h1, h2, dbl_xor, bitmul, x4]
theorem xt_lt (x : Nat) : xt x < 256 := by
  unfold xt
  have h : x % 128 * 2 < 2 ^ 8 := by omega
  have h' : x / 128 % 2 * 29 < 2 ^ 8 := by omega
  simpa using Nat.xor_lt_two_pow h h'
def gmA : Nat → Nat → Nat → Nat → Nat
  | 0, _, p, _ => p
  | n + 1, b, p, x => gmA n (b / 2) (p ^^^ b % 2 * x) (xt x)
theorem gmA_acc (n : Nat) : ∀ b p x, gmA n b p x = p ^^^ gmA n b 0 x := by
  induction n with
  | zero => intro b p x; simp [gmA]
  | succ n ih =>
    intro b p x
    simp only [gmA]
    rw [ih _ (p ^^^ _), ih _ (0 ^^^ _), Nat.zero_xor, Nat.xor_assoc]
theorem gmA_xor_left (n : Nat) : ∀ b c x, gmA n (b ^^^ c) 0 x = gmA n b 0 x ^^^ gmA n c 0 x := by
  induction n with
  | zero => intro b c x; simp [gmA]
  | succ n ih =>
    intro b c x
    simp only [gmA, Nat.zero_xor]
    rw [gmA_acc, gmA_acc n (b / 2), gmA_acc n (c / 2), xor_half, bitmul, ih, x4]
theorem bitdist (b x y : Nat) : b % 2 * (x ^^^ y) = b % 2 * x ^^^ b % 2 * y := by
  rcases bit01 b with h | h <;> simp [h]
theorem gmA_xor_right (n : Nat) : ∀ b x y, gmA n b 0 (x ^^^ y) = gmA n b 0 x ^^^ gmA n b 0 y := by
  induction n with
  | zero => intro b x y; simp [gmA]
  | succ n ih =>
    intro b x y
    simp only [gmA, Nat.zero_xor]
    rw [gmA_acc, gmA_acc n (b / 2) (b % 2 * x), gmA_acc n (b / 2) (b % 2 * y), xt_xor, bitdist, ih, x4]
theorem gmA_zero (n : Nat) : ∀ p x, gmA n 0 p x = p := by
  induction n with
  | zero => intro p x; rfl
  | succ n ih => intro p x; simp [gmA, ih]
theorem gmA_lt (n : Nat) : ∀ b p x, p < 256 → x < 256 → gmA n b p x < 256 := by
  induction n with
  | zero => intro b p x hp hx; exact hp
  | succ n ih =>
    intro b p x hp hx
    refine ih _ _ _ ?_ (xt_lt x)
    have h : b % 2 * x < 2 ^ 8 := by rcases bit01 b with h | h <;> simp [h]; omega
    have hp' : p < 2 ^ 8 := by omega
    simpa using Nat.xor_lt_two_pow hp' h
def gm (a b : Nat) : Nat := gmA 8 b 0 a
theorem gm_xor_left (a b c : Nat) : gm (a ^^^ b) c = gm a c ^^^ gm b c := gmA_xor_right 8 c a b
theorem gm_xor_right (a b c : Nat) : gm a (b ^^^ c) = gm a b ^^^ gm a c := gmA_xor_left 8 b c a
theorem gm_lt (a b : Nat) (h : a < 256) : gm a b < 256 := gmA_lt 8 b 0 a (by decide) h
theorem span {P : Nat → Prop} (h0 : P 0) (hx : ∀ a b, P a → P b → P (a ^^^ b)) (h2 : ∀ i, i < 8 → P (2 ^ i)) (a : Nat) (ha : a < 256) : P a := by
  have e : ∀ a, a < 256 → a = (a % 2 ^^^ a / 2 % 2 * 2) ^^^ (a / 4 % 2 * 4 ^^^ a / 8 % 2 * 8) ^^^ (a / 16 % 2 * 16 ^^^ a / 32 % 2 * 32) ^^^ (a / 64 % 2 * 64 ^^^ a / 128 % 2 * 128) := by
    decide +kernel
  have hb : ∀ (n i c : Nat), c = 2 ^ i → i < 8 → P (n % 2 * c) := by
    rintro n i _ rfl hi
    rcases bit01 n with h | h <;> rw [h]
    · simpa using h0
    · simpa using h2 i hi
  rw [e a ha]
  refine hx _ _ (hx _ _ (hx _ _ (hx _ _ ?_ ?_) (hx _ _ ?_ ?_)) (hx _ _ ?_ ?_)) (hx _ _ ?_ ?_)
  · simpa using hb a 0 1 rfl (by decide)
  · exact hb _ 1 _ rfl (by decide)
  · exact hb _ 2 _ rfl (by decide)
  · exact hb _ 3 _ rfl (by decide)
  · exact hb _ 4 _ rfl (by decide)
  · exact hb _ 5 _ rfl (by decide)
  · exact hb _ 6 _ rfl (by decide)
  · exact hb _ 7 _ rfl (by decide)
theorem gm_zero_left (b : Nat) : gm 0 b = 0 := by
  have := gm_xor_left 0 0 b
  simpa using this
theorem gm_zero_right (a : Nat) : gm a 0 = 0 := gmA_zero 8 0 a
theorem gm_comm (a b : Nat) (ha : a < 256) (hb : b < 256) : gm a b = gm b a := by
  refine span (P := fun a => gm a b = gm b a) ?_ ?_ ?_ a ha
  · rw [gm_zero_left, gm_zero_right]
  · intro a a' h h'; rw [gm_xor_left, gm_xor_right, h, h']
  · intro i hi
    refine span (P := fun b => gm (2 ^ i) b = gm b (2 ^ i)) ?_ ?_ ?_ b hb
    · rw [gm_zero_left, gm_zero_right]
    · intro a a' h h'; rw [gm_xor_left, gm_xor_right, h, h']
    · revert i; decide +kernel
theorem gm_assoc (a b c : Nat) (ha : a < 256) (hb : b < 256) (hc : c < 256) : gm (gm a b) c = gm a (gm b c) := by
  refine span (P := fun a => gm (gm a b) c = gm a (gm b c)) ?_ ?_ ?_ a ha
  · simp only [gm_zero_left]
  · intro a a' h h'; simp only [gm_xor_left, h, h']
  · intro i hi
    refine span (P := fun b => gm (gm (2 ^ i) b) c = gm (2 ^ i) (gm b c)) ?_ ?_ ?_ b hb
    · simp only [gm_zero_left, gm_zero_right]
    · intro a a' h h'; simp only [gm_xor_left, gm_xor_right, h, h']
    · intro j hj
      refine span (P := fun c => gm (gm (2 ^ i) (2 ^ j)) c = gm (2 ^ i) (gm (2 ^ j) c)) ?_ ?_ ?_ c hc
      · simp only [gm_zero_right]
      · intro a a' h h'; simp only [gm_xor_right, h, h']
      · revert i j; decide +kernel
theorem gm_one (a : Nat) : gm a 1 = a := by simp [gm, gmA]
def ginv (a : Nat) : Nat := gm (gm (gm (gm (gm (gm (gm a a) a |> fun x => gm x x) a |> fun x => gm x x) a |> fun x => gm x x) a |> fun x => gm x x) a |> fun x => gm x x) a |> fun x => gm x x
theorem ginv_lt (a : Nat) (h : a < 256) : ginv a < 256 := by
  have e : ∀ a, a < 256 → ginv a < 256 := by decide +kernel
  exact e a h
theorem gm_inv (a : Nat) (h : a < 256) (h0 : a ≠ 0) : gm a (ginv a) = 1 := by
  have e : ∀ a, a < 256 → a ≠ 0 → gm a (ginv a) = 1 := by decide +kernel
  exact e a h h0
end Go.Proofs.Ytcnfafappcbpnaa.Gf
namespace Go.Proofs.Ytcnfafappcbpnaa.Gi
open Go Go.RowKit Go.Proofs.Ytcnfafappcbpnaa.Gf Go.Proofs.Ytcnfafappcbpnaa.Bits
set_option linter.unusedVariables false
abbrev Byt (a : Int) : Prop := 0 ≤ a ∧ a < 256
def gmI (a b : Int) : Int := (gm a.toNat b.toNat : Nat)
def xorI (a b : Int) : Int := (a.toNat ^^^ b.toNat : Nat)
theorem gmI_byt {a b : Int} (ha : Byt a) : Byt (gmI a b) := by
  have := gm_lt a.toNat b.toNat (by have := ha.1; have := ha.2; omega)
  unfold gmI Byt; omega
theorem xorI_byt {a b : Int} (ha : Byt a) (hb : Byt b) : Byt (xorI a b) := by
  have : a.toNat ^^^ b.toNat < 2 ^ 8 := Nat.xor_lt_two_pow (by have := ha.1; have := ha.2; omega) (by have := hb.1; have := hb.2; omega)
  unfold xorI Byt; omega
theorem gmI_comm {a b : Int} (ha : Byt a) (hb : Byt b) : gmI a b = gmI b a := by
  unfold gmI; rw [gm_comm _ _ (by have := ha.1; have := ha.2; omega) (by have := hb.1; have := hb.2; omega)]
theorem byt_nat {a : Int} (ha : Byt a) : ∃ n : Nat, n < 256 ∧ a = n := ⟨a.toNat, by have := ha.1; have := ha.2; omega, by have := ha.1; omega⟩
theorem byt0 : Byt 0 := ⟨by decide, by decide⟩
theorem getD_byt {l : List Int} (h : ∀ x ∈ l, Byt x) (i : Nat) : Byt (l.getD i 0) := by
  rw [List.getD_eq_getElem?_getD]
  rcases Nat.lt_or_ge i l.length with hi | hi
  · rw [List.getElem?_eq_getElem hi]; exact h _ (List.getElem_mem hi)
  · rw [List.getElem?_eq_none hi]; exact byt0
theorem xor_bits {a b : Int} (ha : Byt a) (hb : Byt b) : bits .xor .u8 a b = xorI a b := by
  obtain ⟨x, hx, rfl⟩ := byt_nat ha
  obtain ⟨y, hy, rfl⟩ := byt_nat hb
  rw [xor_u8 x y hx hy]
  simp [xorI]
def dotN (f g : Nat → Int) : Nat → Int
  | 0 => 0
  | j + 1 => xorI (dotN f g j) (gmI (f j) (g j))
theorem dotN_byt {f g : Nat → Int} (hf : ∀ i, Byt (f i)) : ∀ j, Byt (dotN f g j)
  | 0 => byt0
  | j + 1 => xorI_byt (dotN_byt hf j) (gmI_byt (hf j))
theorem dotN_congr {f g f' g' : Nat → Int} : ∀ j, (∀ i, i < j → f i = f' i ∧ g i = g' i) → dotN f g j = dotN f' g' j
  | 0, _ => rfl
  | j + 1, h => by
    have := h j (by omega)
    simp only [dotN]
    rw [dotN_congr j (fun i hi => h i (by omega)), this.1, this.2]
def line (c : Nat) (f : Nat → Int) : List Int := (List.range c).map f
theorem line_len (c : Nat) (f : Nat → Int) : (line c f).length = c := by simp [line]
theorem line_get (c : Nat) (f : Nat → Int) (k : Nat) (hk : k < c) : (line c f).getD k 0 = f k := by simp [line, List.getD_eq_getElem?_getD, hk]
theorem line_congr (c : Nat) (f g : Nat → Int) (h : ∀ k, k < c → f k = g k) : line c f = line c g := List.map_congr_left (fun k hk => h k (by simpa using hk))
theorem line_set (c : Nat) (f : Nat → Int) (k : Nat) (hk : k < c) (y : Int) : (line c f).set k y = line c (fun k' => if k' = k then y else f k') := by
  refine List.ext_getElem (by simp [line]) (fun j h1 h2 => ?_)
  rw [List.getElem_set]
  simp only [line, List.getElem_map, List.getElem_range]
  by_cases e : k = j
  · subst e; simp
  · rw [if_neg e, if_neg (fun h => e h.symm)]
theorem line_succ (c : Nat) (f : Nat → Int) : line (c + 1) f = line c f ++ [f c] := by simp [line, List.range_succ]
theorem line_zero (c : Nat) : line c (fun _ => 0) = List.replicate c 0 := by
  refine List.ext_getElem (by simp [line]) (fun k h3 h4 => ?_)
  simp [line]
theorem line_byt (c : Nat) (f : Nat → Int) (h : ∀ i, Byt (f i)) : ∀ x ∈ line c f, Byt x := by
  intro x hx
  obtain ⟨i, _, rfl⟩ := List.mem_map.1 hx
  exact h i
end Go.Proofs.Ytcnfafappcbpnaa.Gi
namespace Go.Proofs.Ytcnfafappcbpnaa.Par
open Go Go.RowKit Go.Proofs.Ytcnfafappcbpnaa.Bits Go.Proofs.Ytcnfafappcbpnaa.Mem Go.Proofs.Ytcnfafappcbpnaa.Gi Go.Proofs.Ytcnfafappcbpnaa.Rws Go.Proofs.Ytcnfafappcbpnaa.Opn Go.Proofs.YtcnfafappcbpnaaW.PrintWords
set_option linter.unusedVariables false
abbrev Hd : Type := Option Addr × Nat × Nat
def hv (h : Hd) : Value := .slice h.1 h.2.1 h.2.2
def PA (w : World) (A : Option Addr) (N : Nat) (s : Nat → Int) (h : Nat → Hd) (x : Nat → List Int) : Prop :=
  ∀ i, i < N → ∃ ad, A = some ad ∧ w.cell? (ad.add (i * 2)) = some (.int .i64 (s i)) ∧ w.cell? ⟨(ad.add (i * 2)).block, (ad.add (i * 2)).off + 1, none⟩ = some (hv (h i)) ∧ (x i).length = (h i).2.1 ∧ (h i).2.1 ≤ (h i).2.2 ∧ (Kd.int .u8).C w (h i).1 (h i).2.1 (x i)
theorem PA.below {w w' : World} {A : Option Addr} {N : Nat} {s : Nat → Int} {h : Nat → Hd} {x : Nat → List Int} (p : PA w A N s h x) (hb : Below w.heap.size w w') : PA w' A N s h x := by
  intro i hi
  obtain ⟨ad, e, h1, h2, h3, h4, h5⟩ := p i hi
  exact ⟨ad, e, pw_cell_below hb h1, pw_cell_below hb h2, h3, h4, Kd.C_below h5 hb⟩
theorem PA.fewer {w : World} {A : Option Addr} {N N' : Nat} {s : Nat → Int} {h : Nat → Hd} {x : Nat → List Int} (p : PA w A N s h x) (hN : N' ≤ N) : PA w A N' s h x := fun i hi => p i (by omega)
abbrev kPart : Kd (Int × List Int) := Kd.pair (Kd.int .i64) (Kd.slice 5 (Kd.int .u8))
theorem PA.of {w : World} {A : Option Addr} {N : Nat} {l : List (Int × List Int)} (hC : Kd.C kPart w A N l) : ∃ h : Nat → Hd, PA w A N (fun i => (l.getD i (0, [])).1) h (fun i => (l.getD i (0, [])).2) := by
  have hx : ∀ i, i < N → ∃ q : Hd, ∃ ad, A = some ad ∧ w.cell? (ad.add (i * 2)) = some (.int .i64 (l.getD i (0, [])).1) ∧ w.cell? ⟨(ad.add (i * 2)).block, (ad.add (i * 2)).off + 1, none⟩ = some (hv q) ∧ (l.getD i (0, [])).2.length = q.2.1 ∧ q.2.1 ≤ q.2.2 ∧ (Kd.int .u8).C w q.1 q.2.1 (l.getD i (0, [])).2 := by
    intro i hi
    obtain ⟨ad, c, e, _, hK, hc0⟩ := Kd.C_get hC (0, []) (i : Int) (by omega) (by omega)
    rw [Int.toNat_natCast] at hK
    obtain ⟨c1, c2, hcc, hK1, hK2⟩ := hK
    obtain ⟨A1, c3, hs, l1, g1⟩ := hK2
    have e1 : c1 = [.int .i64 (l.getD i (0, [])).1] := hK1
    subst e1
    subst hs
    subst hcc
    have h0 := hc0 0 _ rfl
    have h1 := hc0 1 _ rfl
    rw [Int.toNat_natCast] at h0 h1
    exact ⟨(A1, (l.getD i (0, [])).2.length, c3), ad, e, by simpa [Kd.pair, Kd.slice, Kd.int, Kd.scalar] using h0, by rw [← add_field ad (i * 2) 1 (by decide)]; simpa [Kd.pair, Kd.slice, Kd.int, Kd.scalar, hv] using h1, rfl, l1, g1⟩
  refine ⟨fun i => if hi : i < N then Classical.choose (hx i hi) else (none, 0, 0), fun i hi => ?_⟩
  have := Classical.choose_spec (hx i hi)
  simp only [dif_pos hi]
  exact this
def okAt (n : Nat) (s : Nat → Int) (m : Nat → Nat) (i : Nat) : Prop := 0 ≤ s i ∧ s i < n ∧ 0 < m i ∧ m i = m 0 ∧ ∀ j, j < i → s j ≠ s i
def okTo (n : Nat) (s : Nat → Int) (m : Nat → Nat) (N : Nat) : Prop := ∀ i, i < N → okAt n s m i
theorem okTo_succ {n : Nat} {s : Nat → Int} {m : Nat → Nat} {N : Nat} : okTo n s m (N + 1) ↔ okTo n s m N ∧ okAt n s m N := by
  constructor
  · exact fun h => ⟨fun i hi => h i (by omega), h N (by omega)⟩
  · rintro ⟨h1, h2⟩ i hi
    rcases Nat.lt_or_ge i N with h | h
    · exact h1 i h
    · obtain rfl : i = N := by omega
      exact h2
def kH : Kd Hd := Kd.scalar (fun p => .slice p.1 p.2.1 p.2.2) (fun _ => rfl)
def heads (h : Nat → Hd) (N : Nat) : List Hd := (List.range N).map h
theorem heads_succ (h : Nat → Hd) (N : Nat) : heads h (N + 1) = heads h N ++ [h N] := by simp [heads, List.range_succ]
theorem heads_len (h : Nat → Hd) (N : Nat) : (heads h N).length = N := by simp [heads]
def rowsX (x : Nat → List Int) (N : Nat) : List (List Int) := (List.range N).map x
theorem rowsX_len (x : Nat → List Int) (N : Nat) : (rowsX x N).length = N := by simp [rowsX]
theorem rowsX_get (x : Nat → List Int) (N i : Nat) (hi : i < N) : (rowsX x N).getD i [] = x i := by simp [rowsX, List.getD_eq_getElem?_getD, hi]
theorem heads_C {w : World} {A' : Option Addr} {N : Nat} {h : Nat → Hd} {x : Nat → List Int} (hx : ∀ i, i < N → (x i).length = (h i).2.1 ∧ (h i).2.1 ≤ (h i).2.2 ∧ (Kd.int .u8).C w (h i).1 (h i).2.1 (x i)) (hP : Kd.C kH w A' N (heads h N)) : Kd.C kRow w A' N (rowsX x N) := by
  refine ⟨rowsX_len _ _, hP.2.1, fun hn => ?_⟩
  obtain ⟨ad, e, hcell⟩ := hP.2.2 hn
  refine ⟨ad, e, fun j p hj => ?_⟩
  have hjm : j < N := by have := (List.getElem?_eq_some_iff.1 hj).1; rwa [rowsX_len] at this
  have hp : p = x j := by simp [rowsX, hjm] at hj; exact hj.symm
  subst hp
  obtain ⟨cs, h1, h2, h3⟩ := hcell j (h j) (by simp [heads, hjm])
  have h2' : cs = [.slice (h j).1 (h j).2.1 (h j).2.2] := h2
  subst h2'
  obtain ⟨g1, g2, g3⟩ := hx j hjm
  refine ⟨_, rfl, ⟨(h j).1, (h j).2.2, by rw [g1], by omega, by rw [g1]; exact g3⟩, h3⟩
theorem info_int : (Try.prog.info? 3).map (fun i => (i.zero, i.size, i.bytes)) = some (some (.int .i64 0), 1, 8) := by kernel_rfl
end Go.Proofs.Ytcnfafappcbpnaa.Par
namespace Go.Proofs.Ytcnfafappcbpnaa.Rws
open Go Go.RowKit Go.Proofs.Ytcnfafappcbpnaa.Mem Go.Proofs.YtcnfafappcbpnaaW.PrintWords
set_option linter.unusedVariables false
abbrev RowsSB (w : World) (base : Nat) (v : Value) (ls : List (List Int)) : Prop := Kd.S kRow 22 w base (fun _ => True) v ls
theorem setCells_one (w : World) (b o : Nat) (v : Value) : w.setCells b o [v] = w.setCell ⟨b, o, none⟩ v := rfl
theorem rows_app {W : World} {base bx n cap : Nat} {ls : List (List Int)} (h : RowsSB W base (.slice (some ⟨bx, 0, none⟩) n cap) ls) (j : Nat) (hj : j < n) :
    ∃ u, W.cell? ⟨bx, j, none⟩ = some u ∧ (∃ oku, (Kd.int .u8).R 5 W base oku u (ls.getD j [])) ∧ (∀ W2, Below W.heap.size W W2 → W2.cell? ⟨bx, j, none⟩ = some u) ∧
      ∀ (W2 w1 : World) (v1 : Value) (x' : List Int), Below W.heap.size W W2 → (Kd.int .u8).R 5 w1 base (fun _ => True) v1 x' → W2.grownBy w1 u.ownBlock → (v1.ownBlock = u.ownBlock ∨ ∃ b, v1.ownBlock = some b ∧ W2.heap.size ≤ b) →
        w1.cell? ⟨bx, j, none⟩ = some u ∧ w1.frozen? ⟨bx, j, none⟩ = false ∧ RowsSB (w1.setCell ⟨bx, j, none⟩ v1) base (.slice (some ⟨bx, 0, none⟩) n cap) (ls.set j x') := by
  have hn := (Kd.S_reads' h).1
  obtain ⟨oki0, c0, _, hM0, hcc0, _, _, _⟩ := Kd.S_elem h [] (j : Int) (by omega) (by omega)
  obtain ⟨u, rfl, hR0⟩ := hM0
  have hcell : W.cell? ⟨bx, j, none⟩ = some u := by simpa [Kd.slice] using hcc0 0 u rfl
  rw [Int.toNat_natCast] at hR0
  refine ⟨u, hcell, ⟨oki0, hR0⟩, fun W2 hb => pw_cell_below hb hcell, fun W2 w1 v1 x' hb hR1 hg hat => ?_⟩
  obtain ⟨oki, c, _, hM, hcc, hfz, hoki, hH⟩ := Kd.S_elem (Kd.S_below h hb) [] (j : Int) (by omega) (by omega)
  obtain ⟨u', rfl, hRu⟩ := hM
  have hcell2 : W2.cell? ⟨bx, j, none⟩ = some u' := by simpa [Kd.slice] using hcc 0 u' rfl
  have hfz2 : W2.frozen? ⟨bx, j, none⟩ = false := by simpa [Kd.slice] using hfz 0
  have e : u = u' := by
    have := (pw_cell_below hb hcell).symm.trans hcell2
    injection this
  subst e
  have hne : some bx ≠ u.ownBlock := fun e => (hoki bx (hRu.1 bx e.symm)).2 rfl
  have hlt : bx < W2.heap.size := World.block_lt_of_cell? _ _ hcell2
  have hblk := hg.block bx hlt hne
  have hc1 : w1.cell? ⟨bx, j, none⟩ = some u := (World.cell?_of_block hblk).trans hcell2
  have hf1 : w1.frozen? ⟨bx, j, none⟩ = false := by
    rw [← hfz2]
    unfold World.frozen?
    rw [hblk]
  refine ⟨hc1, hf1, ?_⟩
  have hH1 := Kd.H_grown (Kd.H_widen hH) hg (fun k hk => Or.inl (hRu.1 k hk))
  obtain ⟨hH2, hg2⟩ := Kd.H_seg (seg := [v1]) (j := 0) hH1 (by omega) (by omega) (by simp [Kd.slice]) (fun q hq => by
    simp at hq
    subst hq
    exact (Kd.R_val hR1).2)
  have e1 : ((j : Int).toNat * kRow.sz + 0) = j := by simp [Kd.slice]
  rw [e1] at hH2 hg2
  rw [setCells_one] at hH2 hg2
  have e2 : ([u].take 0 ++ [v1] ++ [u].drop (0 + [v1].length)) = [v1] := by simp
  rw [e2] at hH2
  have hbv : ∀ k, v1.ownBlock = some k → k ≠ bx := by
    intro k hk e
    rcases hat with h1 | ⟨b, h1, h2⟩
    · rw [hk] at h1
      exact hne (by rw [← h1, e])
    · rw [hk] at h1
      injection h1 with h1
      omega
  have hS := Kd.H_back (x' := x') (okp := fun k => some k = v1.ownBlock) hH2 ⟨v1, rfl, Kd.R_step (Kd.R_tight rfl hR1) (fun k hk hlt => Below.heap_setCell w1 ⟨bx, j, none⟩ v1 k (hbv k hk.symm))⟩ (fun k hk => by
    rcases hat with h1 | ⟨b, h1, h2⟩
    · exact Or.inl (hRu.1 k (by rw [← h1, ← hk]))
    · refine Or.inr ⟨trivial, ?_⟩
      rw [h1] at hk
      injection hk with hk
      omega)
  rw [Int.toNat_natCast] at hS
  exact hS
end Go.Proofs.Ytcnfafappcbpnaa.Rws
namespace Go.Proofs.Ytcnfafappcbpnaa.Alg
class Fd (F : Type) extends Add F, Mul F, Zero F, One F where
  add_assoc : ∀ a b c : F, a + b + c = a + (b + c)
  add_comm : ∀ a b : F, a + b = b + a
  add_zero : ∀ a : F, a + 0 = a
  add_self : ∀ a : F, a + a = 0
  mul_assoc : ∀ a b c : F, a * b * c = a * (b * c)
  mul_comm : ∀ a b : F, a * b = b * a
  mul_one : ∀ a : F, a * 1 = a
  mul_add : ∀ a b c : F, a * (b + c) = a * b + a * c
  inv : F → F
  mul_inv : ∀ a : F, a ≠ 0 → a * inv a = 1
  zero_ne_one : (0 : F) ≠ 1
section
variable {F : Type} [Fd F]
open _root_.Go.Proofs.Ytcnfafappcbpnaa.Alg.Fd
theorem zero_add (a : F) : 0 + a = a := by rw [add_comm, add_zero]
theorem add_left_comm (a b c : F) : a + (b + c) = b + (a + c) := by rw [← add_assoc, add_comm a b, add_assoc]
theorem mul_left_comm (a b c : F) : a * (b * c) = b * (a * c) := by rw [← mul_assoc, mul_comm a b, mul_assoc]
theorem add_mul (a b c : F) : (a + b) * c = a * c + b * c := by rw [mul_comm, mul_add, mul_comm c a, mul_comm c b]
theorem one_mul (a : F) : 1 * a = a := by rw [mul_comm, mul_one]
theorem add_cancel (a b : F) : a + (a + b) = b := by rw [← add_assoc, add_self, zero_add]
theorem add_left_cancel {a b c : F} (h : a + b = a + c) : b = c := by rw [← add_cancel a b, h, add_cancel]
theorem add_right_cancel {a b c : F} (h : a + c = b + c) : a = b := add_left_cancel (a := c) (by rw [add_comm c a, add_comm c b, h])
theorem mul_zero (a : F) : a * 0 = 0 := by
  have h : a * (0 + 0) = a * 0 + a * 0 := mul_add a 0 0
  rw [add_zero] at h
  have h2 : a * 0 + 0 = a * 0 + a * 0 := by rw [add_zero]; exact h
  exact (add_left_cancel h2).symm
theorem zero_mul (a : F) : 0 * a = 0 := by rw [mul_comm, mul_zero]
theorem eq_of_add_zero {a b : F} (h : a + b = 0) : a = b := add_right_cancel (c := b) (by rw [h, add_self])
theorem inv_mul (a : F) (h : a ≠ 0) : inv a * a = 1 := by rw [mul_comm, mul_inv a h]
theorem mul_ne_zero {a b : F} (ha : a ≠ 0) (hb : b ≠ 0) : a * b ≠ 0 := by
  intro h
  apply hb
  have : inv a * (a * b) = b := by rw [← mul_assoc, inv_mul a ha, one_mul]
  rw [← this, h, mul_zero]
theorem mul_eq_zero {a b : F} (h : a * b = 0) : a = 0 ∨ b = 0 := by
  by_cases ha : a = 0
  · exact .inl ha
  · by_cases hb : b = 0
    · exact .inr hb
    · exact absurd h (mul_ne_zero ha hb)
theorem mul_left_cancel {a b c : F} (ha : a ≠ 0) (h : a * b = a * c) : b = c := by
  have hb : inv a * (a * b) = b := by rw [← mul_assoc, inv_mul a ha, one_mul]
  have hc : inv a * (a * c) = c := by rw [← mul_assoc, inv_mul a ha, one_mul]
  rw [← hb, h, hc]
theorem inv_ne_zero {a : F} (ha : a ≠ 0) : inv a ≠ 0 := by
  intro h
  have := mul_inv a ha
  rw [h, mul_zero] at this
  exact zero_ne_one this
theorem inv_unique {a b : F} (h : a * b = 1) : b = inv a := by
  have ha : a ≠ 0 := by intro e; rw [e, zero_mul] at h; exact zero_ne_one h
  exact mul_left_cancel ha (by rw [h, mul_inv a ha])
def sum : Nat → (Nat → F) → F
  | 0, _ => 0
  | n + 1, f => sum n f + f n
theorem sum_congr {n : Nat} {f g : Nat → F} (h : ∀ i, i < n → f i = g i) : sum n f = sum n g := by
  induction n with
  | zero => rfl
  | succ n ih => rw [sum, sum, ih (fun i hi => h i (by omega)), h n (by omega)]
theorem sum_zero (n : Nat) : sum n (fun _ => (0 : F)) = 0 := by
  induction n with
  | zero => rfl
  | succ n ih => rw [sum, ih, add_zero]
theorem sum_zero' {n : Nat} {f : Nat → F} (h : ∀ i, i < n → f i = 0) : sum n f = 0 := by rw [sum_congr h, sum_zero]
theorem sum_add (n : Nat) (f g : Nat → F) : sum n (fun i => f i + g i) = sum n f + sum n g := by
  induction n with
  | zero => simp only [sum]; rw [add_zero]
  | succ n ih =>
    simp only [sum]
    rw [ih, add_assoc, add_assoc, add_left_comm (sum n g)]
theorem sum_comm (m n : Nat) (f : Nat → Nat → F) : sum m (fun i => sum n (fun j => f i j)) = sum n (fun j => sum m (fun i => f i j)) := by
  induction m with
  | zero => simp only [sum]; rw [sum_zero]
  | succ m ih => simp only [sum]; rw [ih, sum_add]
theorem sum_split (m n : Nat) (f : Nat → F) : sum (m + n) f = sum m f + sum n (fun i => f (m + i)) := by
  induction n with
  | zero => simp only [sum]; rw [add_zero]; rfl
  | succ n ih => rw [← Nat.add_assoc, sum, ih, sum, add_assoc]
end
end Go.Proofs.Ytcnfafappcbpnaa.Alg
namespace Go.Proofs.Ytcnfafappcbpnaa.Alg
set_option linter.unusedVariables false
section
variable {F : Type} [Fd F]
open _root_.Go.Proofs.Ytcnfafappcbpnaa.Alg.Fd
def hor : List F → F → F
  | [], _ => 0
  | c :: l, x => c + x * hor l x
def quo (x0 : F) : List F → List F
  | [] => []
  | a :: l => hor (a :: l) x0 :: quo x0 l
theorem quo_len (x0 : F) : ∀ l : List F, (quo x0 l).length = l.length
  | [] => rfl
  | a :: l => by simp [quo, quo_len x0 l]
theorem quo_id (x x0 : F) : ∀ (l : List F) (c : F), hor (c :: l) x + hor (c :: l) x0 = (x + x0) * hor (quo x0 l) x
  | [], c => by simp only [hor, quo, mul_zero, add_zero, add_self]
  | a :: l, c => by
    have ih := quo_id x x0 l a
    have e : hor (c :: a :: l) x + hor (c :: a :: l) x0 = x * hor (a :: l) x + x0 * hor (a :: l) x0 := by
      show (c + x * hor (a :: l) x) + (c + x0 * hor (a :: l) x0) = _
      rw [add_assoc, add_left_comm (x * hor (a :: l) x), add_cancel]
    rw [e]
    show _ = (x + x0) * (hor (a :: l) x0 + x * hor (quo x0 l) x)
    have h2 : hor (a :: l) x = hor (a :: l) x0 + (x + x0) * hor (quo x0 l) x := by rw [← ih, add_comm (hor (a :: l) x), add_cancel]
    rw [h2]
    generalize hor (a :: l) x0 = P
    generalize hor (quo x0 l) x = Q
    rw [mul_add x P, mul_add (x + x0) P, add_mul x x0 P, mul_left_comm (x + x0) x Q, add_assoc, add_assoc, add_comm (x * ((x + x0) * Q))]
theorem hor_zero {l : List F} (h : ∀ a ∈ l, a = 0) (x : F) : hor l x = 0 := by
  induction l with
  | nil => rfl
  | cons a l ih => rw [hor, h a (by simp), ih (fun b hb => h b (by simp [hb])), mul_zero, add_zero]
theorem quo_zero {x0 : F} : ∀ {l : List F}, (∀ a ∈ quo x0 l, a = 0) → ∀ a ∈ l, a = 0
  | [], _, _, ha => by cases ha
  | b :: l, h, a, ha => by
    have hl := quo_zero (x0 := x0) (l := l) (fun c hc => h c (by simp [quo, hc]))
    have hb := h (hor (b :: l) x0) (by simp [quo])
    rw [hor, hor_zero hl, mul_zero, add_zero] at hb
    rcases List.mem_cons.1 ha with rfl | ha
    · exact hb
    · exact hl a ha
theorem noughts : ∀ (l pts : List F), pts.Nodup → l.length ≤ pts.length → (∀ p ∈ pts, hor l p = 0) → ∀ a ∈ l, a = 0
  | [], _, _, _, _, a, ha => by cases ha
  | c :: l, [], _, hl, _, _, _ => by simp at hl
  | c :: l, x0 :: pts, hn, hl, hz, a, ha => by
    have hn' := List.nodup_cons.1 hn
    have hq := noughts (quo x0 l) pts hn'.2 (by rw [quo_len]; simpa using hl) (fun p hp => by
      have h := quo_id p x0 l c
      rw [hz p (by simp [hp]), hz x0 (by simp), add_zero] at h
      rcases mul_eq_zero h.symm with h | h
      · exact absurd (eq_of_add_zero h ▸ hp) hn'.1
      · exact h)
    have h0 := quo_zero hq
    have hc := hz x0 (by simp)
    rw [hor, hor_zero h0, mul_zero, add_zero] at hc
    rcases List.mem_cons.1 ha with rfl | ha
    · exact hc
    · exact h0 a ha
termination_by l => l.length
decreasing_by simp [quo_len]
def stepF (M : Nat → Nat → F) (t k col : Nat) : Nat → Nat → F := fun i j =>
  if i = t then M k j * inv (M k col)
  else (if i = k then M t j else M i j) + (M k j * inv (M k col)) * (if i = k then M t col else M i col)
def dotF (m : Nat) (r c : Nat → F) : F := sum m (fun j => r j * c j)
theorem sum_scale (n : Nat) (a : F) (f : Nat → F) : sum n (fun i => f i * a) = sum n f * a := by
  induction n with
  | zero => simp only [sum]; rw [zero_mul]
  | succ n ih => simp only [sum]; rw [ih, add_mul]
theorem dotF_scale (m : Nat) (r c : Nat → F) (a : F) : dotF m (fun j => r j * a) c = dotF m r c * a := by
  unfold dotF
  rw [← sum_scale]
  exact sum_congr (fun i _ => by rw [mul_assoc, mul_comm a, ← mul_assoc])
theorem dotF_add (m : Nat) (r s c : Nat → F) : dotF m (fun j => r j + s j) c = dotF m r c + dotF m s c := by
  unfold dotF
  rw [← sum_add]
  exact sum_congr (fun i _ => by rw [add_mul])
theorem stepF_ker (M : Nat → Nat → F) (t k col n m : Nat) (c : Nat → F) (hk : k < n) (ht : t < n) (hp : M k col ≠ 0) :
    (∀ i, i < n → dotF m (stepF M t k col i) c = 0) ↔ (∀ i, i < n → dotF m (M i) c = 0) := by
  have e0 : dotF m (stepF M t k col t) c = dotF m (M k) c * inv (M k col) := by
    rw [← dotF_scale]; unfold dotF; exact sum_congr (fun j _ => by simp [stepF])
  have e1 : ∀ i, i ≠ t → dotF m (stepF M t k col i) c = dotF m (fun j => if i = k then M t j else M i j) c + dotF m (M k) c * inv (M k col) * (if i = k then M t col else M i col) := by
    intro i hi
    rw [← dotF_scale, ← dotF_scale, ← dotF_add]
    unfold dotF; exact sum_congr (fun j _ => by simp [stepF, hi])
  constructor
  · intro h
    have hK : dotF m (M k) c = 0 := by
      have := h t ht
      rw [e0] at this
      rcases mul_eq_zero this with h | h
      · exact h
      · exact absurd h (inv_ne_zero hp)
    intro i hi
    by_cases hik : i = k
    · rw [hik]; exact hK
    · by_cases hit : i = t
      · have hkt : k ≠ t := fun e => hik (by rw [hit, e])
        have := h k hk
        rw [e1 k hkt, hK, zero_mul, zero_mul, add_zero] at this
        rw [hit]
        rw [← this]
        unfold dotF; exact sum_congr (fun j _ => by simp)
      · have := h i hi
        rw [e1 i hit, hK, zero_mul, zero_mul, add_zero] at this
        rw [← this]
        unfold dotF; exact sum_congr (fun j _ => by simp [hik])
  · intro h i hi
    by_cases hit : i = t
    · rw [hit, e0, h k hk, zero_mul]
    · rw [e1 i hit, h k hk, zero_mul, zero_mul, add_zero]
      by_cases hik : i = k
      · rw [← h t ht]; unfold dotF; exact sum_congr (fun j _ => by simp [hik])
      · rw [← h i hi]; unfold dotF; exact sum_congr (fun j _ => by simp [hik])
def OneTo (M : Nat → Nat → F) (n col : Nat) : Prop := ∀ i j, i < n → j < col → M i j = if i = j then 1 else 0
theorem stepF_one (M : Nat → Nat → F) (n k col : Nat) (h : OneTo M n col) (hk : k < n) (hc : col ≤ k) (hp : M k col ≠ 0) : OneTo (stepF M col k col) n (col + 1) := by
  intro i j hi hj
  unfold stepF
  by_cases hjc : j = col
  · subst hjc
    by_cases hij : i = j
    · rw [if_pos hij, if_pos hij, mul_inv _ hp]
    · rw [if_neg hij, if_neg hij, mul_inv _ hp, one_mul, add_self]
  · have hj' : j < col := by omega
    have hkj : M k j = 0 := by rw [h k j hk hj', if_neg (by omega)]
    by_cases hit : i = col
    · rw [if_pos hit, hkj, zero_mul, if_neg (by omega)]
    · rw [if_neg hit, hkj, zero_mul, zero_mul, add_zero]
      by_cases hik : i = k
      · rw [if_pos hik, h col j (by omega) hj', if_neg (by omega), if_neg (by omega)]
      · rw [if_neg hik, h i j hi hj']
theorem sum_at {n : Nat} {f : Nat → F} {a : Nat} (ha : a < n) (h : ∀ i, i < n → i ≠ a → f i = 0) : sum n f = f a := by
  induction n with
  | zero => omega
  | succ n ih =>
    simp only [sum]
    by_cases e : a = n
    · subst e
      rw [sum_zero' (fun i hi => h i (by omega) (by omega)), zero_add]
    · rw [ih (by omega) (fun i hi hne => h i (by omega) hne), h n (by omega) (fun e' => e e'.symm), add_zero]
theorem sum_at2 {n : Nat} {f : Nat → F} {a b : Nat} (ha : a < n) (hb : b < n) (hab : a ≠ b) (h : ∀ i, i < n → i ≠ a → i ≠ b → f i = 0) : sum n f = f a + f b := by
  have e : sum n f = sum n (fun i => (if i = a then f i else 0) + (if i = a then 0 else f i)) := sum_congr (fun i _ => by by_cases h : i = a <;> simp [h, add_zero, zero_add])
  rw [e, sum_add, sum_at (a := a) ha (fun i _ hne => by simp [hne]), sum_at (a := b) hb (fun i hi hne => by by_cases hia : i = a; (· simp [hia]); (· simp [hia]; exact h i hi hia hne))]
  simp [hab.symm]
theorem no_pivot (M : Nat → Nat → F) (n m col : Nat) (h : OneTo M n col) (hcm : col < m) (hcn : col ≤ n) (hz : ∀ i, i < n → col ≤ i → M i col = 0) :
    ∀ i, i < n → dotF m (M i) (fun j => if j < col then M j col else if j = col then 1 else 0) = 0 := by
  intro i hi
  unfold dotF
  by_cases hic : i < col
  · rw [sum_at2 (a := i) (b := col) (by omega) hcm (by omega) (fun j _ h1 h2 => ?_)]
    · simp only [if_pos hic, Nat.lt_irrefl, if_false, if_true, mul_one]
      rw [h i i hi hic, if_pos rfl, one_mul, add_self]
    · by_cases hj : j < col
      · rw [h i j hi hj, if_neg (fun e => h1 e.symm), zero_mul]
      · simp only [if_neg hj, if_neg h2, mul_zero]
  · rw [sum_at (a := col) hcm (fun j _ h1 => ?_)]
    · simp only [Nat.lt_irrefl, if_false, if_true, mul_one]
      exact hz i hi (by omega)
    · by_cases hj : j < col
      · rw [h i j hi hj, if_neg (by omega), zero_mul]
      · simp only [if_neg hj, if_neg h1, mul_zero]
end
end Go.Proofs.Ytcnfafappcbpnaa.Alg
namespace Go.Proofs.Ytcnfafappcbpnaa.Gf
def gp (a : Nat) : Nat → Nat
  | 0 => 1
  | n + 1 => gm (gp a n) a
theorem gp_lt (a : Nat) (ha : a < 256) : ∀ n, gp a n < 256
  | 0 => by simp [gp]
  | n + 1 => gm_lt _ _ (gp_lt a ha n)
theorem gm_one_left (a : Nat) (ha : a < 256) : gm 1 a = a := by rw [gm_comm 1 a (by decide) ha, gm_one]
theorem gp_add (a : Nat) (ha : a < 256) (m : Nat) : ∀ n, gp a (m + n) = gm (gp a m) (gp a n)
  | 0 => by simp [gp, gm_one]
  | n + 1 => by rw [← Nat.add_assoc, gp, gp, gp_add a ha m n, gm_assoc _ _ _ (gp_lt a ha m) (gp_lt a ha n) ha]
theorem gp_dbl (a : Nat) (ha : a < 256) (n : Nat) : gm (gp a n) (gp a n) = gp a (2 * n) := by rw [Nat.two_mul, gp_add a ha]
theorem gp_succ (a n : Nat) : gm (gp a n) a = gp a (n + 1) := rfl
theorem gp_sq (a : Nat) (ha : a < 256) : ∀ n, gp (gm a a) n = gp a (2 * n)
  | 0 => rfl
  | n + 1 => by
    have h2 : gm a a = gp a 2 := by simp [gp, gm_one_left a ha]
    rw [gp, gp_sq a ha n, h2, ← gp_add a ha]; rfl
theorem ginv_gp (a : Nat) (ha : a < 256) : ginv a = gp a 254 := by
  have h2 : gm a a = gp a 2 := by simp [gp, gm_one_left a ha]
  unfold ginv
  simp only [h2, gp_succ, gp_dbl a ha]
theorem gm_cancel (a b c : Nat) (ha : a < 256) (h0 : a ≠ 0) (hb : b < 256) (hc : c < 256) (h : gm a b = gm a c) : b = c := by
  have hi := ginv_lt a ha
  have e := gm_inv a ha h0
  have hb' : gm (ginv a) (gm a b) = b := by rw [← gm_assoc _ _ _ hi ha hb, gm_comm _ _ hi ha, e, gm_one_left b hb]
  have hc' : gm (ginv a) (gm a c) = c := by rw [← gm_assoc _ _ _ hi ha hc, gm_comm _ _ hi ha, e, gm_one_left c hc]
  rw [← hb', h, hc']
theorem inv_unique (a b : Nat) (ha : a < 256) (hb : b < 256) (h : gm a b = 1) : b = ginv a := by
  have h0 : a ≠ 0 := by intro e; rw [e, gm_zero_left] at h; exact absurd h (by decide)
  exact gm_cancel a b (ginv a) ha h0 hb (ginv_lt a ha) (by rw [h, gm_inv a ha h0])
end Go.Proofs.Ytcnfafappcbpnaa.Gf
namespace Go.Proofs.Ytcnfafappcbpnaa.Alg
open Gf
structure G where
  val : Nat
  lt : val < 256
theorem G.ext' {a b : G} (h : a.val = b.val) : a = b := by
  cases a; cases b; cases h; rfl
instance : DecidableEq G := fun a b => if h : a.val = b.val then isTrue (G.ext' h) else isFalse (fun e => h (by rw [e]))
theorem xor_lt' {a b : Nat} (ha : a < 256) (hb : b < 256) : a ^^^ b < 256 := by
  have : a ^^^ b < 2 ^ 8 := Nat.xor_lt_two_pow ha hb
  simpa using this
instance : Fd G where
  add a b := ⟨a.val ^^^ b.val, xor_lt' a.lt b.lt⟩
  mul a b := ⟨gm a.val b.val, gm_lt _ _ a.lt⟩
  zero := ⟨0, by decide⟩
  one := ⟨1, by decide⟩
  inv a := ⟨ginv a.val, ginv_lt _ a.lt⟩
  add_assoc a b c := G.ext' (Nat.xor_assoc _ _ _)
  add_comm a b := G.ext' (Nat.xor_comm _ _)
  add_zero a := G.ext' (Nat.xor_zero _)
  add_self a := G.ext' (Nat.xor_self _)
  mul_assoc a b c := G.ext' (gm_assoc _ _ _ a.lt b.lt c.lt)
  mul_comm a b := G.ext' (gm_comm _ _ a.lt b.lt)
  mul_one a := G.ext' (gm_one _)
  mul_add a b c := G.ext' (gm_xor_right _ _ _)
  mul_inv a h := G.ext' (gm_inv _ a.lt (fun e => h (G.ext' e)))
  zero_ne_one h := absurd (congrArg G.val h) (by decide)
def G.of (x : Int) : G := ⟨x.toNat % 256, Nat.mod_lt _ (by decide)⟩
def G.int (g : G) : Int := (g.val : Int)
theorem G.of_int (g : G) : G.of g.int = g := G.ext' (by have := g.lt; simp [G.of, G.int]; omega)
theorem G.int_of (x : Int) (h : 0 ≤ x ∧ x < 256) : (G.of x).int = x := by simp [G.of, G.int]; omega
theorem G.int_range (g : G) : 0 ≤ g.int ∧ g.int < 256 := by have := g.lt; unfold G.int; omega
theorem G.of_inj {x y : Int} (hx : 0 ≤ x ∧ x < 256) (hy : 0 ≤ y ∧ y < 256) (h : G.of x = G.of y) : x = y := by rw [← G.int_of x hx, h, G.int_of y hy]
theorem G.of_zero : G.of 0 = 0 := rfl
theorem G.of_one : G.of 1 = 1 := rfl
end Go.Proofs.Ytcnfafappcbpnaa.Alg
namespace Go.Proofs.Ytcnfafappcbpnaa.Sol
open Go.Proofs.Ytcnfafappcbpnaa.Gf Go.Proofs.Ytcnfafappcbpnaa.Gi Go.Proofs.Ytcnfafappcbpnaa.Alg
set_option linter.unusedVariables false
theorem of_gm {a b : Int} (ha : Byt a) (hb : Byt b) : G.of (gmI a b) = G.of a * G.of b := by
  obtain ⟨x, hx, rfl⟩ := byt_nat ha
  obtain ⟨y, hy, rfl⟩ := byt_nat hb
  refine G.ext' ?_
  show (gmI (x : Int) (y : Int)).toNat % 256 = gm (((x : Int)).toNat % 256) (((y : Int)).toNat % 256)
  have := gm_lt x y hx
  simp only [gmI, Int.toNat_natCast, Nat.mod_eq_of_lt hx, Nat.mod_eq_of_lt hy, Nat.mod_eq_of_lt this]
theorem of_xor {a b : Int} (ha : Byt a) (hb : Byt b) : G.of (xorI a b) = G.of a + G.of b := by
  obtain ⟨x, hx, rfl⟩ := byt_nat ha
  obtain ⟨y, hy, rfl⟩ := byt_nat hb
  refine G.ext' ?_
  show (xorI (x : Int) (y : Int)).toNat % 256 = (((x : Int)).toNat % 256) ^^^ (((y : Int)).toNat % 256)
  have := xor_lt' hx hy
  simp only [xorI, Int.toNat_natCast, Nat.mod_eq_of_lt hx, Nat.mod_eq_of_lt hy, Nat.mod_eq_of_lt this]
theorem of_ne {a : Int} (ha : Byt a) (h : a ≠ 0) : G.of a ≠ 0 := fun e => h (G.of_inj ha ⟨by decide, by decide⟩ (e.trans G.of_zero.symm))
abbrev Mtx := Nat → Nat → Int
def BytM (M : Mtx) : Prop := ∀ i j, Byt (M i j)
def swapI (M : Mtx) (t k : Nat) : Mtx := fun i => if i = k then M t else M i
def stepI (M : Mtx) (t k col : Nat) (r : Int) : Mtx := fun i j =>
  if i = t then gmI (M k j) r else xorI (swapI M t k i j) (gmI (gmI (M k j) r) (swapI M t k i col))
theorem stepI_byt {M : Mtx} (h : BytM M) {t k col : Nat} {r : Int} (hr : Byt r) : BytM (stepI M t k col r) := by
  have hs : BytM (swapI M t k) := by intro i j; unfold swapI; split <;> exact h _ _
  intro i j
  unfold stepI
  split
  · exact gmI_byt (h _ _)
  · exact xorI_byt (hs _ _) (gmI_byt (gmI_byt (h _ _)))
def el (M : Mtx) : Nat → Nat → G := fun i j => G.of (M i j)
theorem stepI_el {M : Mtx} (h : BytM M) {t k col : Nat} {r : Int} (hr : Byt r) (h1 : gmI (M k col) r = 1) : el (stepI M t k col r) = stepF (el M) t k col := by
  have hs : BytM (swapI M t k) := by intro i j; unfold swapI; split <;> exact h _ _
  have hi : Fd.inv (el M k col) = G.of r := by
    refine (Alg.inv_unique ?_).symm
    show G.of (M k col) * G.of r = 1
    rw [← of_gm (h _ _) hr, h1, G.of_one]
  have e : ∀ i j, el (swapI M t k) i j = if i = k then el M t j else el M i j := by intro i j; unfold el swapI; split <;> rfl
  funext i j
  unfold stepF
  rw [hi, ← e i j, ← e i col]
  show G.of (stepI M t k col r i j) = _
  unfold stepI
  split
  · rw [of_gm (h _ _) hr]; rfl
  · rw [of_xor (hs _ _) (gmI_byt (gmI_byt (h _ _))), of_gm (gmI_byt (h _ _)) (hs _ _), of_gm (h _ _) hr]; rfl
inductive StepsTo (n : Nat) (M0 : Mtx) : Nat → Nat → Mtx → Prop
  | start : StepsTo n M0 0 0 M0
  | skip {col t : Nat} {M : Mtx} : StepsTo n M0 col t M → (∀ j, t ≤ j → j < n → M j col = 0) → StepsTo n M0 (col + 1) t M
  | step {col t k : Nat} {r : Int} {M : Mtx} : StepsTo n M0 col t M → t ≤ k → k < n → (∀ j, t ≤ j → j < k → M j col = 0) → M k col ≠ 0 → Byt r → gmI (M k col) r = 1 → StepsTo n M0 (col + 1) (t + 1) (stepI M t k col r)
theorem StepsTo.byt {n : Nat} {M0 : Mtx} (h0 : BytM M0) {col t : Nat} {M : Mtx} (h : StepsTo n M0 col t M) : BytM M := by
  induction h with
  | start => exact h0
  | skip _ _ ih => exact ih
  | step _ _ _ _ _ hr _ ih => exact stepI_byt ih hr
theorem StepsTo.le {n : Nat} {M0 : Mtx} {col t : Nat} {M : Mtx} (h : StepsTo n M0 col t M) : t ≤ col ∧ t ≤ n := by
  induction h with
  | start => exact ⟨Nat.le_refl _, Nat.zero_le _⟩
  | skip _ _ ih => exact ⟨by omega, ih.2⟩
  | step _ _ _ _ _ _ _ ih => exact ⟨by omega, by omega⟩
theorem StepsTo.ker {n m : Nat} {M0 : Mtx} (h0 : BytM M0) {col t : Nat} {M : Mtx} (h : StepsTo n M0 col t M) (c : Nat → G) :
    (∀ i, i < n → dotF m (el M i) c = 0) ↔ (∀ i, i < n → dotF m (el M0 i) c = 0) := by
  induction h with
  | start => exact Iff.rfl
  | skip _ _ ih => exact ih
  | @step col t k r M hs htk hk hz hp hr h1 ih =>
    rw [stepI_el (hs.byt h0) hr h1, stepF_ker (el M) t k col n m c hk (by omega) (of_ne (hs.byt h0 k col) hp)]
    exact ih
theorem StepsTo.one {n : Nat} {M0 : Mtx} (h0 : BytM M0) (hinj : ∀ c : Nat → G, (∀ i, i < n → dotF n (el M0 i) c = 0) → ∀ j, j < n → c j = 0) {col t : Nat} {M : Mtx} (h : StepsTo n M0 col t M) :
    t = min col n ∧ OneTo (el M) n (min col n) := by
  induction h with
  | start => exact ⟨by simp, fun i j _ hj => absurd hj (by simp)⟩
  | @skip col t M hs hz ih =>
    obtain ⟨ht, ho⟩ := ih
    by_cases hc : col < n
    · rw [Nat.min_eq_left (by omega)] at ht ho
      subst ht
      have hk := no_pivot (el M) n n t ho hc (by omega) (fun i hi hti => by show G.of (M i t) = 0; rw [hz i hti hi]; rfl)
      have := hinj _ ((hs.ker h0 _).1 hk) t hc
      simp at this
      exact absurd this.symm Fd.zero_ne_one
    · have e : min (col + 1) n = min col n := by omega
      rw [e]
      exact ⟨ht, ho⟩
  | @step col t k r M hs htk hk hz hp hr h1 ih =>
    obtain ⟨ht, ho⟩ := ih
    by_cases hc : col < n
    · rw [Nat.min_eq_left (by omega)] at ht ho
      subst ht
      rw [Nat.min_eq_left (by omega), stepI_el (hs.byt h0) hr h1]
      exact ⟨rfl, stepF_one (el M) n k t ho hk htk (of_ne (hs.byt h0 k t) hp)⟩
    · omega
end Go.Proofs.Ytcnfafappcbpnaa.Sol
namespace Go.Proofs.Ytcnfafappcbpnaa.Sol
open Go Go.RowKit Go.Proofs.Ytcnfafappcbpnaa.Gf Go.Proofs.Ytcnfafappcbpnaa.Gi Go.Proofs.Ytcnfafappcbpnaa.Bits Go.Proofs.Ytcnfafappcbpnaa.Mem Go.Proofs.Ytcnfafappcbpnaa.Rws Go.Proofs.YtcnfafappcbpnaaW.PrintWords
set_option linter.unusedVariables false
def mat (n m : Nat) (M : Mtx) : List (List Int) := (List.range n).map (fun i => line m (M i))
theorem mat_len (n m : Nat) (M : Mtx) : (mat n m M).length = n := by simp [mat]
theorem mat_get (n m : Nat) (M : Mtx) (i : Nat) (hi : i < n) : (mat n m M).getD i [] = line m (M i) := by simp [mat, List.getD_eq_getElem?_getD, hi]
theorem mat_succ (n m : Nat) (M : Mtx) : mat (n + 1) m M = mat n m M ++ [line m (M n)] := by simp [mat, List.range_succ]
theorem mat_congr (n m : Nat) (M M' : Mtx) (h : ∀ i, i < n → ∀ j, j < m → M i j = M' i j) : mat n m M = mat n m M' := List.map_congr_left (fun i hi => line_congr m _ _ (h i (by simpa using hi)))
theorem at_row {w : World} {A : Option Addr} {n : Nat} {xs : List Int} (h : (Kd.int .u8).C w A n xs) (i : Nat) (hi : i < n) : ∃ ad, A = some ad ∧ w.cell? (ad.add i) = some (.int .u8 (xs.getD i 0)) := by
  obtain ⟨ad, c, e, _, hK, hc0⟩ := Kd.C_get h (0 : Int) (i : Int) (by omega) (by omega)
  refine ⟨ad, e, ?_⟩
  have hK' : c = [.int .u8 (xs.getD i 0)] := by simpa [Kd.int, Kd.scalar] using hK
  have hq := hc0 0 (.int .u8 (xs.getD i 0)) (by rw [hK']; rfl)
  simpa [Kd.int, Kd.scalar] using hq
theorem mrow {w : World} {A : Option Addr} {n m : Nat} {M : Mtx} (h : Kd.C kRow w A n (mat n m M)) (i : Nat) (hi : i < n) :
    ∃ ad A0 c0, A = some ad ∧ w.cell? (ad.add i) = some (.slice A0 m c0) ∧ m ≤ c0 ∧ (Kd.int .u8).C w A0 m (line m (M i)) := by
  obtain ⟨ad, c, e, _, hK, hc0⟩ := Kd.C_get h [] (i : Int) (by omega) (by omega)
  obtain ⟨A0, c0, rfl, l0, g0⟩ := hK
  have e1 : ((mat n m M).getD i []) = line m (M i) := mat_get n m M i hi
  have hq : w.cell? (ad.add i) = some (.slice A0 ((mat n m M).getD i []).length c0) := by simpa [Kd.slice] using hc0 0 _ rfl
  rw [e1, line_len] at hq
  rw [Int.toNat_natCast, e1, line_len] at l0 g0
  exact ⟨ad, A0, c0, e, hq, l0, g0⟩
end Go.Proofs.Ytcnfafappcbpnaa.Sol
namespace Go.Proofs.Ytcnfafappcbpnaa.Mdc
open Go Go.RowKit Go.Proofs.Ytcnfafappcbpnaa.Gf Go.Proofs.Ytcnfafappcbpnaa.Gi Go.Proofs.Ytcnfafappcbpnaa.Bits Go.Proofs.Ytcnfafappcbpnaa.Mem Go.Proofs.Ytcnfafappcbpnaa.Sol Go.Proofs.Ytcnfafappcbpnaa.Rws Go.Proofs.YtcnfafappcbpnaaW.PrintWords
set_option linter.unusedVariables false
def rowA (k : Nat) (f : Nat → Int) : Array Value := ((List.range k).map (fun j => Value.int .u8 (f j))).toArray
def rowV (k b : Nat) : Value := .slice (some ⟨b, 0, none⟩) k k
def spA (k i : Nat) (g : Nat → Nat) : Array Value := ((List.range k).map (fun r => if r < i then rowV k (g r) else Value.slice none 0 0)).toArray
theorem rowA_get (k : Nat) (f : Nat → Int) (j : Nat) (hj : j < k) : (rowA k f)[j]? = some (.int .u8 (f j)) := by simp [rowA, hj]
theorem spA_get (k i : Nat) (g : Nat → Nat) (r : Nat) (hr : r < i) (hi : i ≤ k) : (spA k i g)[r]? = some (rowV k (g r)) := by
  have h : r < k := by omega
  simp [spA, h, hr]
theorem rowA_at (k : Nat) (f : Nat → Int) (j : Nat) : (rowA k f)[j]? = if j < k then some (.int .u8 (f j)) else none := by
  by_cases h : j < k <;> simp [rowA, h]
theorem spA_at (k i : Nat) (g : Nat → Nat) (j : Nat) : (spA k i g)[j]? = if j < k then some (if j < i then rowV k (g j) else Value.slice none 0 0) else none := by
  by_cases h : j < k <;> simp [spA, h]
theorem rowA_size (k : Nat) (f : Nat → Int) : (rowA k f).size = k := by simp [rowA]
theorem spA_size (k i : Nat) (g : Nat → Nat) : (spA k i g).size = k := by simp [spA]
theorem rowA_set (k : Nat) (f : Nat → Int) (c : Nat) (y : Int) : (rowA k f).setIfInBounds c (.int .u8 y) = rowA k (fun j => if j = c then y else f j) := by
  apply Array.ext_getElem?
  intro j
  rw [Array.getElem?_setIfInBounds, rowA_at, rowA_at, rowA_size]
  by_cases e : c = j
  · subst e; simp
  · rw [if_neg e, if_neg (fun h : j = c => e h.symm)]
theorem spA_set (k i : Nat) (g : Nat → Nat) (b : Nat) : (spA k i g).setIfInBounds i (rowV k b) = spA k (i + 1) (fun r => if r = i then b else g r) := by
  apply Array.ext_getElem?
  intro j
  rw [Array.getElem?_setIfInBounds, spA_at, spA_at, spA_size]
  by_cases e : i = j
  · subst e; simp
  · have e' : ¬ j = i := fun h => e h.symm
    have e2 : j < i + 1 ↔ j < i := by omega
    simp only [if_neg e, if_neg e', e2]
theorem rowA_zero (k : Nat) : Array.replicate k (Value.int .u8 0) = rowA k (fun _ => 0) := by
  apply Array.ext <;> simp [rowA]
theorem spA_zero (k : Nat) (g : Nat → Nat) : Array.replicate k (Value.slice none 0 0) = spA k 0 g := by
  apply Array.ext <;> simp [spA]
theorem rowA_congr {k : Nat} {f f' : Nat → Int} (h : ∀ j, j < k → f j = f' j) : rowA k f = rowA k f' := by
  unfold rowA
  congr 1
  exact List.map_congr_left (fun j hj => by rw [h j (by simpa using hj)])
structure Sq (W : World) (base k i b : Nat) (g : Nat → Nat) (M : Mtx) : Prop where
  sp : Blk W b 22 (spA k i g)
  rows : ∀ r, r < i → Blk W (g r) 5 (rowA k (M r))
  lo : base ≤ b
  los : ∀ r, r < i → base ≤ g r
  inj : ∀ r q, r < i → q < i → g r = g q → r = q
section
variable {W W' : World} {base k i b : Nat} {g : Nat → Nat} {M : Mtx}
theorem Sq.below (h : Sq W base k i b g M) (hb : Below W.heap.size W W') : Sq W' base k i b g M := ⟨h.sp.below hb h.sp.lt, fun r hr => (h.rows r hr).below hb (h.rows r hr).lt, h.lo, h.los, h.inj⟩
theorem Sq.ne (h : Sq W base k i b g M) (r : Nat) (hr : r < i) : b ≠ g r := h.sp.ne_ (h.rows r hr) (by decide)
theorem Sq.far (h : Sq W base k i b g M) {p : Addr} (h1 : p.block ≠ b) (h2 : ∀ r, r < i → p.block ≠ g r) (u : Value) : Sq (W.setCell p u) base k i b g M :=
  ⟨h.sp.far (fun e => h1 e.symm) u, fun r hr => (h.rows r hr).far (fun e => h2 r hr e.symm) u, h.lo, h.los, h.inj⟩
theorem Sq.put (h : Sq W base k i b g M) (r c : Nat) (hr : r < i) (y : Int) : Sq (W.setCell ⟨g r, c, none⟩ (.int .u8 y)) base k i b g (fun p q => if p = r ∧ q = c then y else M p q) := by
  refine ⟨h.sp.far (h.ne r hr) _, fun q hq => ?_, h.lo, h.los, h.inj⟩
  by_cases e : q = r
  · subst e
    have h1 := (h.rows q hq).set_ c (.int .u8 y)
    rw [rowA_set] at h1
    rw [rowA_congr (f' := fun j => if j = c then y else M q j) (fun j _ => by simp)]
    exact h1
  · rw [rowA_congr (f' := M q) (fun j _ => by simp [e])]
    exact (h.rows q hq).far (fun e2 => e (h.inj q r hq hr e2)) _
theorem Sq.more (h : Sq W base k i b g M) (hi : i < k) {b' : Nat} (hb : Blk W b' 5 (rowA k (M i))) (hl : base ≤ b') (hn : ∀ r, r < i → b' ≠ g r) : Sq (W.setCell ⟨b, i, none⟩ (rowV k b')) base k (i + 1) b (fun r => if r = i then b' else g r) M := by
  have hbb : b ≠ b' := h.sp.ne_ hb (by decide)
  refine ⟨?_, fun r hr => ?_, h.lo, fun r hr => ?_, fun r q hr hq e => ?_⟩
  · have h1 := h.sp.set_ i (rowV k b')
    rw [spA_set] at h1
    exact h1
  · by_cases e : r = i
    · subst e
      simp only [if_pos]
      exact hb.far (fun e => hbb e.symm) _
    · simp only [if_neg e]
      exact (h.rows r (by omega)).far (fun e => h.ne r (by omega) e.symm) _
  · by_cases e : r = i
    · subst e; simpa using hl
    · simp only [if_neg e]; exact h.los r (by omega)
  · by_cases e1 : r = i <;> by_cases e2 : q = i
    · omega
    · simp only [e1, if_pos, if_neg e2] at e; exact absurd e (hn q (by omega))
    · simp only [e2, if_pos, if_neg e1] at e; exact absurd e.symm (hn r (by omega))
    · simp only [if_neg e1, if_neg e2] at e; exact h.inj r q (by omega) (by omega) e
structure Sq2 (W : World) (base k i bp bq : Nat) (gp gq : Nat → Nat) (M N : Mtx) : Prop where
  p : Sq W base k i bp gp M
  q : Sq W base k i bq gq N
  ne : bp ≠ bq
  nes : ∀ r s, r < i → s < i → gp r ≠ gq s
section
variable {bp bq : Nat} {gp gq : Nat → Nat} {N : Mtx}
theorem Sq2.below (h : Sq2 W base k i bp bq gp gq M N) (hb : Below W.heap.size W W') : Sq2 W' base k i bp bq gp gq M N := ⟨h.p.below hb, h.q.below hb, h.ne, h.nes⟩
theorem Sq2.putp (h : Sq2 W base k i bp bq gp gq M N) (r c : Nat) (hr : r < i) (y : Int) : Sq2 (W.setCell ⟨gp r, c, none⟩ (.int .u8 y)) base k i bp bq gp gq (fun p q => if p = r ∧ q = c then y else M p q) N :=
  ⟨h.p.put r c hr y, h.q.far (p := ⟨gp r, c, none⟩) (fun e => (h.q.sp.ne_ (h.p.rows r hr) (by decide)) e.symm) (fun s hs e => h.nes r s hr hs e) _, h.ne, h.nes⟩
theorem Sq2.putq (h : Sq2 W base k i bp bq gp gq M N) (r c : Nat) (hr : r < i) (y : Int) : Sq2 (W.setCell ⟨gq r, c, none⟩ (.int .u8 y)) base k i bp bq gp gq M (fun p q => if p = r ∧ q = c then y else N p q) :=
  ⟨h.p.far (p := ⟨gq r, c, none⟩) (fun e => (h.p.sp.ne_ (h.q.rows r hr) (by decide)) e.symm) (fun s hs e => h.nes s r hs hr e.symm) _, h.q.put r c hr y, h.ne, h.nes⟩
end
theorem add0 (b c : Nat) : (⟨b, 0, none⟩ : Addr).add c = ⟨b, c, none⟩ := by
  rcases Nat.eq_zero_or_pos c with h | h
  · subst h; rfl
  · simp [Addr.add]; omega
theorem Sq.reads (h : Sq W base k k b g M) (hk : k ≤ 1000) : Kd.C kRow W (some ⟨b, 0, none⟩) k (mat k k M) := by
  refine ⟨mat_len _ _ _, by omega, fun _ => ⟨_, rfl, fun j p hj => ?_⟩⟩
  have hjk : j < k := by have := (List.getElem?_eq_some_iff.1 hj).1; rwa [mat_len] at this
  have hp : p = line k (M j) := by
    have := mat_get k k M j hjk
    rw [List.getD_eq_getElem?_getD, hj] at this
    exact this
  subst hp
  refine ⟨[rowV k (g j)], rfl, ⟨some ⟨g j, 0, none⟩, k, by rw [line_len]; rfl, by rw [line_len]; exact Nat.le_refl _, ?_⟩, fun i u hu => ?_⟩
  · rw [line_len]
    refine Kd.C_of_reads (d := (0 : Int)) ⟨line_len _ _, by omega, fun _ => ⟨_, rfl, fun c hc => ?_⟩⟩
    rw [line_get _ _ _ hc]
    have := ((h.rows j hjk).cell c).trans (rowA_get k (M j) c hc)
    rw [add0]
    exact this
  · have hi : i = 0 := by
      have := (List.getElem?_eq_some_iff.1 hu).1
      simp at this; exact this
    subst hi
    simp at hu
    subst hu
    have := (h.sp.cell j).trans (spA_get k k g j hjk (Nat.le_refl _))
    rw [add0]
    simpa [Kd.slice] using this
end
end Go.Proofs.Ytcnfafappcbpnaa.Mdc
namespace Go.Proofs.Ytcnfafappcbpnaa.Mat
open Go Go.RowKit Go.Proofs.Ytcnfafappcbpnaa.Mem Go.Proofs.Ytcnfafappcbpnaa.Bits Go.Proofs.YtcnfafappcbpnaaW.PrintWords
set_option linter.unusedVariables false
theorem info_u8 : (Try.prog.info? 5).map (fun i => (i.zero, i.size, i.bytes)) = some (some (.int .u8 0), 1, 1) := by kernel_rfl
set_option maxRecDepth 100000 in
theorem slice_nil (a : Option Addr) (n c : Nat) (W : World) : (binOp .eql 22 (.slice a n c) (.slice none 0 0)).run Try.prog W = .ok (.bool a.isNone) W :=
  Lib.run_eql_slice_nil W 22 5 a n c 0 0 Try.underlying22
set_option maxRecDepth 100000 in
theorem clone_any (ad : Addr) (c : Nat) (xs : List Int) (w : World) (HR : ReadsInt w .u8 (some ad) xs.length xs) (hl : xs.length ≤ 140737488355328) :
    Calls Try.prog 69 #[.slice (some ad) xs.length c] w fun e w' => ∃ v, e = .returned v ∧ w'.ownsRow w.heap.size 5 1 v xs.length (nums .u8 xs) ∧ Below w.heap.size w w' := by
  have H := Lib.hid HR
  clear HR
  have kn := slice_nil
  go_enter Try.func69, Try.ntmps69
  go_wp2_with (at_builtin; refine print_append_row (w0 := w) w.heap.size rfl _ _ 22 5 .u8 1 rfl Try.underlying22 info_u8 (by decide) _ [] xs _ _ _ rfl rfl (own_lit w w.heap.size 5 .u8 [] (Nat.le_refl _) (by simp)) (ReadsInt.allocS H.out _) ((Below.refl _ _).alloc (Nat.le_refl _) _) (by simp) (by simp; omega) ?_; intro v1 w1 ho hb _ _; have HO := Lib.hid ho; have HB := Lib.hid hb; clear ho hb)
  go_ret
  exact ⟨_, rfl, by have := HO.out; simpa using this, HB.out⟩
def Bytes (xs : List Int) : Prop := ∀ x ∈ xs, 0 ≤ x ∧ x < 256
theorem Bytes.getD {xs : List Int} (h : Bytes xs) (i : Nat) : 0 ≤ xs.getD i 0 ∧ xs.getD i 0 < 256 := by
  rw [List.getD_eq_getElem?_getD]
  cases e : xs[i]? with
  | none => simp
  | some x => exact h x (List.mem_of_getElem? e)
theorem Bytes.set {xs : List Int} (h : Bytes xs) (i : Nat) (x : Int) (h0 : 0 ≤ x) (h1 : x < 256) : Bytes (xs.set i x) := by
  intro y hy
  rcases List.mem_or_eq_of_mem_set hy with h' | h'
  · exact h y h'
  · subst h'; exact ⟨h0, h1⟩
theorem Bytes.append {xs ys : List Int} (h : Bytes xs) (h' : Bytes ys) : Bytes (xs ++ ys) := by
  intro y hy
  rcases List.mem_append.1 hy with e | e
  · exact h y e
  · exact h' y e
theorem Bytes.take {xs : List Int} (h : Bytes xs) (n : Nat) : Bytes (xs.take n) := fun y hy => h y (List.mem_of_mem_take hy)
theorem Bytes.drop {xs : List Int} (h : Bytes xs) (n : Nat) : Bytes (xs.drop n) := fun y hy => h y (List.mem_of_mem_drop hy)
theorem Bytes.zeros (n : Nat) : Bytes (List.replicate n 0) := fun y hy => by have := List.eq_of_mem_replicate hy; omega
structure MatIn (w : World) (b s r c cap : Nat) (xs : List Int) : Prop where
  blk : Blk w b 82 #[.int .i64 r, .int .i64 c, .slice (some ⟨s, 0, none⟩) (r * c) cap]
  own : w.ownsRow 0 5 1 (.slice (some ⟨s, 0, none⟩) (r * c) cap) (r * c) (nums .u8 xs)
  r0 : 1 ≤ r
  r1 : r ≤ 64
  c0 : 1 ≤ c
  c1 : c ≤ 64
  byt : Bytes xs
section
variable {w w' : World} {b s r c cap : Nat} {xs : List Int}
theorem MatIn.len (h : MatIn w b s r c cap xs) : xs.length = r * c := by
  have := h.own.1
  simpa [nums] using this
theorem MatIn.rc (h : MatIn w b s r c cap xs) : r * c ≤ 4096 := Nat.le_trans (Nat.mul_le_mul h.r1 h.c1) (by decide)
theorem MatIn.pos (h : MatIn w b s r c cap xs) : 0 < r * c := Nat.mul_pos h.r0 h.c0
theorem MatIn.cells (h : MatIn w b s r c cap xs) : w.cell? ⟨b, 0, none⟩ = some (.int .i64 r) ∧ w.cell? ⟨b, 1, none⟩ = some (.int .i64 c) ∧ w.cell? ⟨b, 2, none⟩ = some (.slice (some ⟨s, 0, none⟩) (r * c : Nat) cap) :=
  ⟨(h.blk.cell 0).trans rfl, (h.blk.cell 1).trans rfl, (h.blk.cell 2).trans rfl⟩
theorem MatIn.elem (h : MatIn w b s r c cap xs) (n : Nat) (hn : n < r * c) : w.cell? ⟨s, n, none⟩ = some (.int .u8 (xs.getD n 0)) ∧ w.frozen? ⟨s, n, none⟩ = false := by
  have := own_at h.own (n : Int) (by omega) (by omega)
  simpa [rd] using this
theorem MatIn.reads (h : MatIn w b s r c cap xs) : ReadsInt w .u8 (some ⟨s, 0, none⟩) xs.length xs := by
  have := own_reads' h.own
  rw [h.len]; exact this
theorem MatIn.capLe (h : MatIn w b s r c cap xs) : r * c ≤ cap := by
  rcases h.own.2 with ⟨e, _⟩ | ⟨g, c', cur, e, _, _, hc, _⟩
  · cases e
  · cases e; exact hc
theorem MatIn.slt (h : MatIn w b s r c cap xs) : s < w.heap.size := own_lt h.own s rfl
theorem MatIn.ne (h : MatIn w b s r c cap xs) : b ≠ s := by
  intro e
  exact own_blk_ne h.own h.blk (by decide) (by simp [Value.ownBlock, e])
theorem MatIn.keep (h : MatIn w b s r c cap xs) (hb : w'.heap[b]? = w.heap[b]?) (hs : w'.heap[s]? = w.heap[s]?) : MatIn w' b s r c cap xs :=
  ⟨hb.trans h.blk, own_move h.own (fun k hk => by
    have e : s = k := by simpa [Value.ownBlock] using hk
    subst e; exact hs), h.r0, h.r1, h.c0, h.c1, h.byt⟩
theorem MatIn.below (h : MatIn w b s r c cap xs) (hb : Below w.heap.size w w') : MatIn w' b s r c cap xs :=
  h.keep (hb.block b h.blk.lt) (hb.block s h.slt)
theorem MatIn.drewN (h : MatIn w b s r c cap xs) (n : Nat) : MatIn (w.drewN n) b s r c cap xs := h.keep rfl rfl
theorem MatIn.alloc (h : MatIn w b s r c cap xs) (o : Obj) : MatIn (w.alloc o) b s r c cap xs := h.below ((Below.refl _ _).alloc (Nat.le_refl _) o)
theorem MatIn.far (h : MatIn w b s r c cap xs) {p : Addr} (hb : b ≠ p.block) (hs : s ≠ p.block) (u : Value) : MatIn (w.setCell p u) b s r c cap xs :=
  h.keep (Below.heap_setCell w p u b hb) (Below.heap_setCell w p u s hs)
theorem MatIn.store (h : MatIn w b s r c cap xs) (n : Nat) (x : Int) (h0 : 0 ≤ x) (h1 : x < 256) : MatIn (w.setCell ⟨s, n, none⟩ (.int .u8 x)) b s r c cap (xs.set n x) := by
  refine ⟨h.blk.far (p := ⟨s, n, none⟩) h.ne _, ?_, h.r0, h.r1, h.c0, h.c1, h.byt.set n x h0 h1⟩
  have := (own_store h.own (n : Int) x).1
  simpa using this
end
def IsMat (w : World) (v : Value) (r c : Nat) (xs : List Int) : Prop := ∃ b s cap, v = .pointer (some ⟨b, 0, none⟩) ∧ MatIn w b s r c cap xs
theorem IsMat.below {w w' : World} {v : Value} {r c : Nat} {xs : List Int} (h : IsMat w v r c xs) (hb : Below w.heap.size w w') : IsMat w' v r c xs := by
  obtain ⟨b, s, cap, e, h⟩ := h
  exact ⟨b, s, cap, e, h.below hb⟩
theorem IsMat.drewN {w : World} {v : Value} {r c : Nat} {xs : List Int} (h : IsMat w v r c xs) (n : Nat) : IsMat (w.drewN n) v r c xs := by
  obtain ⟨b, s, cap, e, h⟩ := h
  exact ⟨b, s, cap, e, h.drewN n⟩
set_option maxRecDepth 100000 in
theorem size_any (v : Value) (r c : Nat) (xs : List Int) (w : World) (h : IsMat w v r c xs) :
    Calls Try.prog 50 #[v] w fun e w' => e = .returned (.tuple #[.int .i64 r, .int .i64 c]) ∧ ∃ n, w' = w.drewN n := by
  obtain ⟨b, s, cap, rfl, h⟩ := h
  obtain ⟨h0, h1, _⟩ := h.cells
  clear h
  go_enter Try.func50, Try.ntmps50
  go_wp2
  go_quiet (fail)
  go_wp2
  go_ret2
  exact ⟨rfl, _, rfl⟩
def Within (r c : Nat) (i k : Int) : Prop := 0 ≤ i ∧ 0 ≤ k ∧ i < r ∧ k < c
set_option maxRecDepth 100000 in
theorem is_in (v : Value) (r c : Nat) (xs : List Int) (i k : Int) (w : World) (h : IsMat w v r c xs) (hi : Within r c i k) :
    Calls Try.prog 68 #[v, .int .i64 i, .int .i64 k] w fun e w' => e = .returned (.bool true) ∧ ∃ n, w' = w.drewN n := by
  obtain ⟨b, s, cap, rfl, h⟩ := h
  obtain ⟨h0, h1, _⟩ := h.cells
  obtain ⟨i1, i2, i3, i4⟩ := hi
  clear h
  go_enter Try.func68, Try.ntmps68
  go_wp2
  go_ret
  exact ⟨rfl, 0, rfl⟩
theorem idx_lt {r c i k : Nat} (hi : i < r) (hk : k < c) : i * c + k < r * c := by
  have : (i + 1) * c ≤ r * c := Nat.mul_le_mul_right c hi
  rw [Nat.add_mul] at this; omega
theorem mat_new {w : World} (r c : Nat) (i1 : 1 ≤ r) (i2 : 1 ≤ c) (i3 : r ≤ 64) (i4 : c ≤ 64) (b s : Nat) (xs : List Int) (hb : Blk w b 82 #[.int .i64 r, .int .i64 c, .slice (some ⟨s, 0, none⟩) (r * c) (r * c)])
    (ho : w.ownsRow 0 5 1 (.slice (some ⟨s, 0, none⟩) (r * c) (r * c)) (r * c) (nums .u8 xs)) (hy : Bytes xs) : MatIn w b s r c (r * c) xs := ⟨hb, ho, i1, i3, i2, i4, hy⟩
set_option maxRecDepth 100000 in
theorem new_good (r c : Nat) (w : World) (i1 : 1 ≤ r) (i2 : 1 ≤ c) (i3 : r ≤ 64) (i4 : c ≤ 64) :
    Calls Try.prog 49 #[.int .i64 r, .int .i64 c] w fun e w' => ∃ b s cap, e = .returned (.tuple #[.pointer (some ⟨b, 0, none⟩), .int .i64 0]) ∧ MatIn w' b s r c cap (List.replicate (r * c) 0) ∧ Below w.heap.size w w' ∧ w.heap.size ≤ b ∧ w.heap.size ≤ s := by
  have hrc : r * c ≤ 64 * 64 := Nat.mul_le_mul i3 i4
  have e1 : IntKind.i64.wrap ((r : Int) * (c : Int)) = ((r * c : Nat) : Int) := by
    rw [← Int.natCast_mul]; exact IntWalk.i64_in _ (by omega)
  have hM := fun w b s => @mat_new w r c i1 i2 i3 i4 b s (List.replicate (r * c) 0)
  obtain ⟨q, hq⟩ : ∃ q, q = r * c := ⟨_, rfl⟩
  rw [← hq] at hrc e1 hM ⊢
  have km := print_make (P := Try.prog) 22 5 .u8 1 Try.underlying22 info_u8 (by decide) q (by omega)
  have HO := Lib.hid (own_made w 0 5 .u8 q (by omega) (by omega))
  have HM := Lib.hid hM
  clear hq hM
  go_enter Try.func49, Try.ntmps49
  go_wp2
  clear km e1
  refine bodyPost_ret (v := .tuple #[.pointer (some ⟨w.heap.size + 1, 0, none⟩), .int .i64 0]) (by simp [results, Try.results49, go_sem]) rfl ⟨_, w.heap.size, q, rfl, HM.out _ _ _ ?_ ?_ (Bytes.zeros _), ?_, ?_, ?_⟩
  · have := Blk.new (w.alloc (.cells (madeCells #[.int .u8 0] q) 5)) 82 #[.int .i64 r, .int .i64 c, .slice (some ⟨w.heap.size, 0, none⟩) q q]
    simpa using this
  · have h := HO.out
    have hb : Below (w.alloc (.cells (madeCells #[.int .u8 0] q) 5)).heap.size (w.alloc (.cells (madeCells #[.int .u8 0] q) 5)) ((w.alloc (.cells (madeCells #[.int .u8 0] q) 5)).alloc (.cells #[.int .i64 r, .int .i64 c, .slice (some ⟨w.heap.size, 0, none⟩) q q] 82)) := (Below.refl _ _).alloc (Nat.le_refl _) _
    exact own_move h (fun k hk => hb.block k (own_lt h k hk))
  · exact ((Below.refl _ _).alloc (Nat.le_refl _) _).alloc (by simp) _
  · omega
  · omega
theorem below_of_drewN {w w' : World} {n : Nat} (h : Below (w.drewN n).heap.size (w.drewN n) w') : Below w.heap.size w w' := ⟨h.os, h.tape, h.output, h.size, h.block⟩
def rowOf (c : Nat) (xs : List Int) (i : Nat) : List Int := (xs.take ((i + 1) * c)).drop (i * c)
theorem rowOf_len {r c : Nat} {xs : List Int} (hl : xs.length = r * c) (i : Nat) (hi : i < r) : (rowOf c xs i).length = c := by
  have h : (i + 1) * c ≤ r * c := Nat.mul_le_mul_right c hi
  unfold rowOf
  rw [List.length_drop, List.length_take, hl, Nat.min_eq_left h, Nat.add_mul]
  omega
theorem info_u8' : ∃ i, Try.prog.info? 5 = some i ∧ i.size = 1 := by
  obtain ⟨i0, hi, hz⟩ := Option.map_eq_some_iff.1 info_u8
  simp only [Prod.mk.injEq] at hz
  exact ⟨i0, hi, hz.2.1⟩
theorem mid_cut (s cap q : Nat) (xs : List Int) (lo hi : Nat) (hl : xs.length = q) (h1 : lo < hi) (h2 : hi ≤ q) (hc : q ≤ cap) :
    (∀ W : World, (Instr.slice 22 (.slice (some ⟨s, 0, none⟩) q cap) (some (.int .i64 (lo : Int))) (some (.int .i64 (hi : Int))) none).run Try.prog W = .ok (.slice (some ⟨s, lo, none⟩) (hi - lo) (cap - lo)) W) ∧
    ∀ w : World, ReadsInt w .u8 (some ⟨s, 0, none⟩) q xs → ReadsInt w .u8 (some ⟨s, lo, none⟩) ((xs.take hi).drop lo).length ((xs.take hi).drop lo) := by
  obtain ⟨i, hi', hsz⟩ := info_u8'
  subst hl
  have hlen : ((xs.take hi).drop lo).length = hi - lo := by rw [List.length_drop, List.length_take]; omega
  have ha : ∀ A : Option Addr, A = some ⟨s, 0, none⟩ → (if cap = lo then A else A.map (·.add lo)) = some ⟨s, lo, none⟩ := by
    rintro _ rfl
    rw [if_neg (by omega)]
    by_cases h0 : lo = 0
    · subst h0; rfl
    · simp [Addr.add, h0]
  constructor
  · intro W
    have hel : Try.prog.elem 22 = 5 := by simp [Program.elem, Try.underlying22]
    have hu : Try.prog.underlying 22 = some (.slice (Try.prog.elem 22)) := by rw [hel]; exact Try.underlying22
    rw [run_slice_lh W 22 (some ⟨s, 0, none⟩) xs.length cap hu .i64 .i64 lo hi (by omega) (by omega) (by omega), hel]
    have e : (if cap = lo then (some ⟨s, 0, none⟩ : Option Addr) else (some (⟨s, 0, none⟩ : Addr)).map (·.add lo)) = some ⟨s, lo, none⟩ := ha _ rfl
    simp [sizeOf, typeInfo, hi', hsz, sliced, Result.andThen] at e ⊢
    exact e
  · intro w h
    have h2' := (h.take_ hi (by omega)).drop_ (c := cap) lo (by omega) (by omega)
    rw [ha _ rfl] at h2'
    rw [hlen]
    exact h2'
set_option maxRecDepth 100000 in
theorem row_in (v : Value) (r c : Nat) (xs : List Int) (i : Nat) (w : World) (h : IsMat w v r c xs) (hi : i < r) :
    Calls Try.prog 54 #[v, .int .i64 i] w fun e w' => ∃ u, e = .returned u ∧ w'.ownsRow w.heap.size 5 1 u c (nums .u8 (rowOf c xs i)) ∧ Below w.heap.size w w' := by
  obtain ⟨b, s, cap, rfl, h⟩ := h
  have hM : IsMat w (.pointer (some ⟨b, 0, none⟩)) r c xs := ⟨b, s, cap, rfl, h⟩
  have ho : Within r c i 0 := ⟨by omega, by omega, by omega, by have := h.c0; omega⟩
  obtain ⟨h0, h1, h2⟩ := h.cells
  have hrc := h.rc
  have hlen := rowOf_len h.len i hi
  have hle : (i + 1) * c ≤ r * c := Nat.mul_le_mul_right c hi
  have hlt : i * c < (i + 1) * c := by rw [Nat.add_mul]; have := h.c0; omega
  obtain ⟨kc, hr⟩ := mid_cut s cap (r * c) xs (i * c) ((i + 1) * c) h.len hlt hle h.capLe
  have hR := hr w (by have := h.reads; rwa [h.len] at this)
  have e1 : IntKind.i64.wrap ((i : Int) * (c : Int)) = ((i * c : Nat) : Int) := by
    rw [← Int.natCast_mul]; exact IntWalk.i64_in _ (by omega)
  have e3 : IntKind.i64.wrap ((i : Int) + 1) = (i : Int) + 1 := IntWalk.i64_in _ (by have := h.r1; omega)
  have e2 : IntKind.i64.wrap (((i : Int) + 1) * (c : Int)) = (((i + 1) * c : Nat) : Int) := by
    rw [show ((i : Int) + 1) = ((i + 1 : Nat) : Int) by omega, ← Int.natCast_mul]; exact IntWalk.i64_in _ (by omega)
  have hd : (i + 1) * c - i * c = c := by rw [Nat.add_mul]; omega
  obtain ⟨q, hq⟩ : ∃ q, q = r * c := ⟨_, rfl⟩
  obtain ⟨p, hp⟩ : ∃ p, p = i * c := ⟨_, rfl⟩
  obtain ⟨p2, hp2⟩ : ∃ p, p = (i + 1) * c := ⟨_, rfl⟩
  change ReadsInt w .u8 _ (rowOf c xs i).length (rowOf c xs i) at hR
  obtain ⟨ys, hys⟩ : ∃ ys, ys = rowOf c xs i := ⟨_, rfl⟩
  rw [← hys] at hR hlen ⊢
  rw [← hq] at h2 hle hrc kc
  rw [← hp] at e1 hlt kc hd hR
  rw [← hp2] at e2 hlt hle kc hd
  rw [hd, ← hlen] at kc
  have HR := Lib.hid hR
  have HM := Lib.hid hM
  have HC := Lib.hid h.c1
  have HL := Lib.hid hlen
  clear hq hp hp2 h hM hr hd hys hR hlen
  go_enter Try.func54, Try.ntmps54
  go_wp2_with (go_at_call 68; refine (is_in _ _ _ _ _ _ _ HM.out ho).mono ?_; rintro e w' ⟨rfl, n, rfl⟩)
  clear ho HM
  refine wp_region_still_tail 18 (by kernel_rfl) (by kernel_rfl) ?_
  change wpStill _ _ (w.drewN (n + 1)) (fun a' => wpList _ _ _ _ a' (w.drewN (n + 1))) _ _
  simp only [List.take_succ_cons, List.take_zero, List.drop_succ_cons, List.drop_zero]
  repeat still_step
  refine wpStill_nil ?_
  go_wp2_with (go_at_call 69; refine (clone_any _ _ ys _ (ReadsInt.drewN HR.out _) (by rw [HL.out]; have := HC.out; omega)).mono ?_; rintro e w' ⟨u, rfl, hu, hB⟩; have HU := Lib.hid hu; have HB := Lib.hid hB; clear hu hB)
  go_ret
  exact ⟨_, rfl, by have := HU.out; rwa [HL.out] at this, below_of_drewN HB.out⟩
def oneTo (n : Nat) : Nat → List Int
  | 0 => List.replicate (n * n) 0
  | k + 1 => (oneTo n k).set (k * n + k) 1
set_option maxRecDepth 100000 in
theorem one_good (n : Nat) (w : World) (i1 : 1 ≤ n) (i3 : n ≤ 64) :
    Calls Try.prog 51 #[.int .i64 n] w fun e w' => ∃ b s cap, e = .returned (.tuple #[.pointer (some ⟨b, 0, none⟩), .int .i64 0]) ∧ MatIn w' b s n n cap (oneTo n n) ∧ Below w.heap.size w w' ∧ w.heap.size ≤ b ∧ w.heap.size ≤ s := by
  go_enter Try.func51, Try.ntmps51
  go_wp2_with (go_at_call 49; refine (new_good n n _ i1 i1 i3 i3).mono ?_; rintro e w0 ⟨b, s, cap, rfl, hm, hB, hb1, hs1⟩; have HM := Lib.hid hm; have HB := Lib.hid hB; clear hm hB)
  go_loopw [6, 17] (fun _ i wr => ∃ (k : Nat), k ≤ n ∧ i = .int .i64 k ∧ Hid (MatIn wr b s n n cap (oneTo n k)) ∧ Hid (Below w.heap.size w wr)) (fun _ i _ => n - (intOf i).toNat)
  case atStart => exact ⟨0, by omega, rfl, HM, HB⟩
  case round =>
    obtain ⟨k, hk, rfl, HK, HW⟩ := hrel
    clear HM HB
    by_cases hlt : k < n
    · obtain ⟨c0, c1, c2⟩ := HK.out.cells
      have hb := idx_lt hlt hlt
      obtain ⟨hx, hf⟩ := HK.out.elem _ hb
      have hrc := HK.out.rc
      have e1 : IntKind.i64.wrap ((k : Int) * (n : Int)) = ((k * n : Nat) : Int) := by
        rw [← Int.natCast_mul]; exact IntWalk.i64_in _ (by omega)
      have HN := Lib.hid (HK.out.store (k * n + k) 1 (by omega) (by omega))
      have HV := Lib.hid (HW.out.setCell (p := ⟨s, k * n + k, none⟩) hs1 (.int .u8 1))
      change Hid (MatIn _ b s n n cap (oneTo n (k + 1))) at HN
      obtain ⟨q, hq⟩ : ∃ q, q = n * n := ⟨_, rfl⟩
      obtain ⟨p, hp⟩ : ∃ p, p = k * n := ⟨_, rfl⟩
      obtain ⟨y, hy⟩ : ∃ y, y = (oneTo n k).getD (k * n + k) 0 := ⟨_, rfl⟩
      rw [← hy] at hx
      rw [← hq] at c2 hb hrc
      rw [← hp] at hx hf e1 hb HN HV
      have a0 : (0 : Int) ≤ (p : Int) + (k : Int) := by omega
      have a1 : (p : Int) + (k : Int) < (q : Int) := by omega
      have a2 : ((p : Int) + (k : Int)).toNat = p + k := by omega
      have a3 : IntKind.i64.wrap ((p : Int) + (k : Int)) = (p : Int) + (k : Int) := IntWalk.i64_in _ (by omega)
      clear hq hp hy HK HW
      go_wp2
      go_roundw
      case rel => exact ⟨k + 1, by omega, by go_num, HN, HV⟩
      case measure => simp [intOf]; omega
    · obtain rfl : k = n := by omega
      go_wp2
      go_ret2
      exact ⟨b, s, cap, rfl, HK.out, HW.out, hb1, hs1⟩
abbrev RowsC (w : World) (A : Option Addr) (ls : List (List Int)) : Prop := Kd.C (Kd.slice 5 (Kd.int .u8)) w A ls.length ls
theorem RowsC.get {w : World} {A : Option Addr} {ls : List (List Int)} (h : RowsC w A ls) (i : Nat) (hi : i < ls.length) :
    ∃ ad A0 c0, A = some ad ∧ w.cell? (ad.add i) = some (.slice A0 (ls.getD i []).length c0) ∧ (ls.getD i []).length ≤ c0 ∧ (Kd.int .u8).C w A0 (ls.getD i []).length (ls.getD i []) := by
  obtain ⟨ad, c, e, _, hK, hc0⟩ := Kd.C_get h [] (i : Int) (by omega) (by omega)
  obtain ⟨A0, c0, rfl, l0, g0⟩ := hK
  refine ⟨ad, A0, c0, e, ?_, l0, g0⟩
  have hq := hc0 0 _ rfl
  simpa [Kd.slice] using hq
theorem RowsC.get0 {w : World} {A : Option Addr} {ls : List (List Int)} (h : RowsC w A ls) (hi : 0 < ls.length) :
    ∃ ad A0 c0, A = some ad ∧ w.cell? ad = some (.slice A0 (ls.getD 0 []).length c0) ∧ (ls.getD 0 []).length ≤ c0 ∧ (Kd.int .u8).C w A0 (ls.getD 0 []).length (ls.getD 0 []) := by
  obtain ⟨ad, A0, c0, e, hc, r⟩ := h.get 0 hi
  exact ⟨ad, A0, c0, e, by simpa [Addr.add] using hc, r⟩
def flat (ls : List (List Int)) : List Int := ls.flatten
def AllBytes (ls : List (List Int)) : Prop := ∀ l ∈ ls, Bytes l
theorem MatIn.copy {w : World} {b s r c cap : Nat} {xs ys : List Int} (h : MatIn w b s r c cap xs) (off : Nat) (hoff : off + ys.length ≤ r * c) (hy : Bytes ys) :
    ∃ cur : Array Value, w.heap[s]? = some (.cells cur 5 (0, 0)) ∧ off + (nums .u8 ys).length ≤ cur.size ∧
      MatIn (w.setRow s (cur.toList.take off ++ (nums .u8 ys ++ cur.toList.drop (off + (nums .u8 ys).length))).toArray) b s r c cap (xs.take off ++ ys ++ xs.drop (off + ys.length)) := by
  have hlen := h.len
  have ho := h.own
  obtain ⟨hl, ⟨e, _⟩ | ⟨g, c', cur, e, hg, hh, hnc, hcm, hcs, ht⟩⟩ := ho
  · cases e
  · cases e
    have hsz : r * c ≤ cur.toList.length := by simp; omega
    have hyl : (nums .u8 ys).length = ys.length := by simp [nums]
    refine ⟨cur, hh, by rw [hyl]; omega, ?_⟩
    refine ⟨(setRow_other w s b _ h.ne).trans h.blk, ⟨?_, .inr ⟨s, cap, _, rfl, Nat.zero_le _, setRow_heap w s cur _ _ _ hh, hnc, hcm, ?_, ?_⟩⟩, h.r0, h.r1, h.c0, h.c1, ((h.byt.take _).append hy).append (h.byt.drop _)⟩
    · simp [nums]; omega
    · simp [nums]; omega
    · have e1 : cur.toList.take off = nums .u8 (xs.take off) := by
        have : (cur.toList.take (r * c)).take off = cur.toList.take off := by rw [List.take_take]; congr 1; omega
        rw [← this]
        rw [Nat.mul_one] at ht
        rw [ht]; simp [nums, List.map_take]
      have e2 : (cur.toList.drop (off + ys.length)).take (r * c - (off + ys.length)) = nums .u8 (xs.drop (off + ys.length)) := by
        rw [← List.drop_take]
        rw [Nat.mul_one] at ht
        rw [ht]; simp [nums, List.map_drop]
      rw [Nat.mul_one, nums_append, nums_append, hyl, e1, ← e2]
      simp only
      rw [← List.append_assoc, List.take_append, List.take_of_length_le (by simp [nums]; omega)]
      congr 2
      simp [nums]; omega
theorem take_flat (c : Nat) (ls : List (List Int)) (h : ∀ l ∈ ls, l.length = c) : ∀ k, k ≤ ls.length → (flat (ls.take k)).length = k * c := by
  intro k hk
  induction k with
  | zero => simp [flat]
  | succ k ih =>
    rw [List.take_succ_eq_append_getElem (by omega), flat, List.flatten_append]
    simp only [List.flatten_singleton, List.length_append]
    have := ih (by omega)
    unfold flat at this
    rw [this, h _ (List.getElem_mem _), Nat.add_mul, Nat.one_mul]
def ofTo (c : Nat) (ls : List (List Int)) (k : Nat) : List Int := flat (ls.take k) ++ List.replicate (ls.length * c - k * c) 0
theorem ofTo_zero (c : Nat) (ls : List (List Int)) : ofTo c ls 0 = List.replicate (ls.length * c) 0 := by simp [ofTo, flat]
theorem ofTo_full (c : Nat) (ls : List (List Int)) : ofTo c ls ls.length = flat ls := by simp [ofTo]
theorem ofTo_step (c : Nat) (ls : List (List Int)) (k : Nat) (h : ∀ l ∈ ls.take (k + 1), l.length = c) (hk : k < ls.length) :
    (ofTo c ls k).take (k * c) ++ ls.getD k [] ++ (ofTo c ls k).drop (k * c + (ls.getD k []).length) = ofTo c ls (k + 1) := by
  have e : ls.getD k [] = ls[k] := by rw [List.getD_eq_getElem?_getD, List.getElem?_eq_getElem hk]; rfl
  have hm : ls[k] ∈ ls.take (k + 1) := by
    rw [List.take_succ_eq_append_getElem hk]; exact List.mem_append_right _ (List.mem_singleton.2 rfl)
  have hlk : (ls.getD k []).length = c := by rw [e]; exact h _ hm
  have hl : (flat (ls.take k)).length = k * c := by
    have := take_flat c (ls.take (k + 1)) h k (by simp; omega)
    rwa [List.take_take, Nat.min_eq_left (by omega)] at this
  have hle : (k + 1) * c ≤ ls.length * c := Nat.mul_le_mul_right c hk
  unfold ofTo
  rw [hlk, List.take_append_of_le_length (by omega), List.take_of_length_le (by omega), List.drop_append, List.drop_of_length_le (by omega), List.nil_append, hl, List.take_succ_eq_append_getElem hk, e]
  have : flat (ls.take k ++ [ls[k]]) = flat (ls.take k) ++ ls[k] := by unfold flat; rw [List.flatten_append, List.flatten_singleton]
  rw [this]
  congr 1
  rw [List.drop_replicate]
  congr 1
  rw [Nat.add_mul] at *; omega
theorem low_cut (s cap q lo : Nat) (h1 : lo < q) (hc : q ≤ cap) :
    ∀ W : World, (Instr.slice 22 (.slice (some ⟨s, 0, none⟩) q cap) (some (.int .i64 (lo : Int))) none none).run Try.prog W = .ok (.slice (some ⟨s, lo, none⟩) (q - lo) (cap - lo)) W := by
  obtain ⟨i, hi', hsz⟩ := info_u8'
  intro W
  have hel : Try.prog.elem 22 = 5 := by simp [Program.elem, Try.underlying22]
  have hu : Try.prog.underlying 22 = some (.slice (Try.prog.elem 22)) := by rw [hel]; exact Try.underlying22
  rw [run_slice_l W 22 (some ⟨s, 0, none⟩) q cap hu .i64 lo (by omega) (by omega), hel]
  have e : (if cap = lo then (some ⟨s, 0, none⟩ : Option Addr) else (some (⟨s, 0, none⟩ : Addr)).map (·.add lo)) = some ⟨s, lo, none⟩ := by
    rw [if_neg (by omega)]
    by_cases h0 : lo = 0
    · subst h0; rfl
    · simp [Addr.add, h0]
  simp [sizeOf, typeInfo, hi', hsz, sliced, Result.andThen] at e ⊢
  exact e
theorem size_u8 : (Try.prog.info? 5).map (·.size) = some 1 := by kernel_rfl
theorem nums_one (xs : List Int) : ∀ v ∈ nums .u8 xs, v.oneCell' = true := by
  intro v hv
  obtain ⟨x, _, rfl⟩ := List.mem_map.1 hv
  rfl
def EvenTo (c : Nat) (ls : List (List Int)) (k : Nat) : Prop := ∀ l ∈ ls.take k, l.length = c
theorem EvenTo.step {c : Nat} {ls : List (List Int)} {k : Nat} (h : EvenTo c ls k) (hk : k < ls.length) (hc : (ls.getD k []).length = c) : EvenTo c ls (k + 1) := by
  intro l hl
  rw [List.take_succ_eq_append_getElem hk] at hl
  rcases List.mem_append.1 hl with e | e
  · exact h l e
  · rw [List.mem_singleton.1 e]
    rw [List.getD_eq_getElem?_getD, List.getElem?_eq_getElem hk] at hc
    exact hc
theorem bytes_getD {ls : List (List Int)} (h : AllBytes ls) (k : Nat) : Bytes (ls.getD k []) := by
  rw [List.getD_eq_getElem?_getD]
  cases e : ls[k]? with
  | none => intro x hx; cases hx
  | some l => exact h l (List.mem_of_getElem? e)
def OfPost (ls : List (List Int)) (c : Nat) (w : World) (e : Ending) (w' : World) : Prop :=
  (EvenTo c ls ls.length ∧ ∃ b s cap, e = .returned (.tuple #[.pointer (some ⟨b, 0, none⟩), .int .i64 0]) ∧ MatIn w' b s ls.length c cap (flat ls) ∧ Below w.heap.size w w' ∧ w.heap.size ≤ b ∧ w.heap.size ≤ s) ∨
  (¬ EvenTo c ls ls.length ∧ e = .returned (.tuple #[.pointer none, .int .i64 1]) ∧ Below w.heap.size w w')
set_option maxRecDepth 100000 in
set_option maxHeartbeats 1000000 in
theorem of_any (A : Option Addr) (c0 : Nat) (ls : List (List Int)) (w : World) (h : RowsC w A ls) (hby : AllBytes ls) (hl : ls.length ≤ c0) (h0 : 1 ≤ ls.length) (h1 : ls.length ≤ 64)
    (h2 : 1 ≤ (ls.getD 0 []).length) (h3 : (ls.getD 0 []).length ≤ 64) :
    Calls Try.prog 33 #[.slice A ls.length c0] w (OfPost ls (ls.getD 0 []).length w) := by
  obtain ⟨ad, A0, k0, rfl, hc, hk, hC⟩ := h.get0 (by omega)
  have HR := Lib.hid h
  obtain ⟨n, hn⟩ : ∃ n, n = ls.length := ⟨_, rfl⟩
  obtain ⟨c, hcc⟩ := show ∃ c, c = (ls.getD 0 []).length from ⟨_, rfl⟩
  have HN := Lib.hid hn
  have HCC := Lib.hid hcc
  rw [← hn] at h0 h1 hl ⊢
  rw [← hcc] at hc hk h2 h3 ⊢
  have hz : ((n : Int) == 0) = false := by simp; omega
  have hp : (0 : Int) < (n : Int) := by omega
  clear h hC hn hcc
  go_enter Try.func33, Try.ntmps33
  go_wp2_with (go_at_call 49; refine (new_good n c _ h0 h2 h1 h3).mono ?_; rintro e w0 ⟨b, s, cap, rfl, hm, hB, hb1, hs1⟩; have HM := Lib.hid hm; have HB := Lib.hid hB; clear hm hB)
  clear hc hk
  go_loopw [6, 7, 26] (fun _ _ i wr => ∃ (k : Nat), k ≤ n ∧ i = .int .i64 k ∧ Hid (EvenTo c ls k) ∧ Hid (MatIn wr b s n c cap (ofTo c ls k)) ∧ Hid (Below w.heap.size w wr)) (fun _ _ i _ => n - (intOf i).toNat)
  case atStart => exact ⟨0, by omega, rfl, Lib.hid (fun l hl => by simp at hl), Lib.hid (by rw [ofTo_zero, ← HN.out]; exact HM.out), HB⟩
  case round =>
    obtain ⟨k, hk, rfl, HE, HK, HW⟩ := hrel
    clear HM HB
    by_cases hlt : k < n
    · obtain ⟨ad', A1, c1, ea, hcr, hkc, hCr⟩ := HR.out.get k (by rw [← HN.out]; exact hlt)
      cases ea
      replace hcr := (HW.out.cell (World.block_lt_of_cell? w _ hcr)).trans hcr
      obtain ⟨m0, m1, m2⟩ := HK.out.cells
      obtain ⟨m, hm⟩ : ∃ m, m = (ls.getD k []).length := ⟨_, rfl⟩
      rw [← hm] at hcr hkc
      have p0 : (0 : Int) ≤ (k : Int) := by omega
      have p1 : (k : Int) < (n : Int) := by omega
      by_cases hmc : m = c
      · subst hmc
        have hnb : ((m : Int) != (m : Int)) = false := by simp
        obtain ⟨ys, hys⟩ : ∃ ys, ys = ls.getD k [] := ⟨_, rfl⟩
        rw [← hys] at hm hCr
        have hrc := HK.out.rc
        have hoff : k * m + ys.length ≤ n * m := by
          have : (k + 1) * m ≤ n * m := Nat.mul_le_mul_right m hlt
          rw [Nat.add_mul] at this; omega
        have hcapl := HK.out.capLe
        obtain ⟨cur, hcur, hfit, hnew⟩ := (HK.out.drewN 1).copy (k * m) hoff (by rw [hys]; exact bytes_getD hby k)
        have HEn : EvenTo m ls (k + 1) := HE.out.step (by rw [← HN.out]; exact hlt) (by rw [← hys]; exact hm.symm)
        rw [hys, ofTo_step m ls k HEn (by rw [← HN.out]; exact hlt), ← hys] at hnew
        have e1 : IntKind.i64.wrap ((k : Int) * (m : Int)) = ((k * m : Nat) : Int) := by
          rw [← Int.natCast_mul]; exact IntWalk.i64_in _ (by omega)
        have kl := low_cut s cap (n * m) (k * m) (by omega) hcapl
        have HW' := Lib.hid (below_setRow (pw_below_drewN HW.out 1) hs1 ((cur.toList.take (k * m) ++ (nums .u8 ys ++ cur.toList.drop (k * m + (nums .u8 ys).length))).toArray))
        have HNw := Lib.hid hnew
        have HEn := Lib.hid HEn
        have hA1 : ∃ a1, A1 = some a1 := by
          obtain ⟨a1, e, _⟩ := Kd.at_int hCr 0 (by omega) (by omega)
          exact ⟨a1, e⟩
        obtain ⟨a1, rfl⟩ := hA1
        have hsrc : ∀ j v, (nums .u8 ys)[j]? = some v → (wr.drewN 1).cell? (a1.add j) = some v := by
          intro j v hj
          have hjl : j < ys.length := by
            have := (List.getElem?_eq_some_iff.1 hj).1
            simpa [nums] using this
          obtain ⟨a2, e, hcell⟩ := Kd.at_int hCr (j : Int) (by omega) (by omega)
          cases e
          have hcell' := (HW.out.cell (World.block_lt_of_cell? w _ hcell)).trans hcell
          simp [nums, rd, hjl] at hj hcell'
          rw [← hj]
          exact hcell'
        have HS := Lib.hid hsrc
        have HCu := Lib.hid hcur
        have HF := Lib.hid hfit
        have hmin : (nums .u8 ys).length = Nat.min m (n * m - k * m) := by
          show _ = min _ _
          rw [Nat.min_eq_left (by omega)]
          simp [nums]; omega
        have HMin := Lib.hid hmin
        obtain ⟨q, hq⟩ : ∃ q, q = n * m := ⟨_, rfl⟩
        obtain ⟨p, hp⟩ : ∃ p, p = k * m := ⟨_, rfl⟩
        rw [← hq] at m2 kl HMin
        rw [← hp] at e1 kl HMin HW' HNw HF
        clear hq hp HE HK HW hsrc hcur hfit hmin hnew hys hm hCr hoff hrc hcapl hkc HCC
        go_wp2
        refine wp_region_still_tail 12 (by kernel_rfl) (by kernel_rfl) ?_
        change wpStill _ _ (wr.drewN 1) (fun a' => wpList _ _ _ _ a' (wr.drewN 1)) _ _
        simp only [List.take_succ_cons, List.take_zero, List.drop_succ_cons, List.drop_zero]
        repeat still_step
        refine wpStill_nil ?_
        refine wpList_copy_own rfl _ _ _ _ rfl 5 Try.underlying22 size_u8 s p (q - p) (cap - p) a1 m c1 rfl rfl cur _ HCu.out (nums .u8 ys) HMin.out HS.out HF.out (nums_one ys) ?_
        go_wp2
        go_roundw
        case rel => exact ⟨k + 1, by omega, by go_num, HEn, HNw, HW'⟩
        case measure => simp [intOf]; omega
      · have hnb : ((m : Int) != (c : Int)) = true := by simp; omega
        have HMM := Lib.hid hm
        have HMC := Lib.hid hmc
        clear hmc hm
        go_wp2
        go_ret2
        refine .inr ⟨fun hE => HMC.out ?_, rfl, HW.out⟩
        rw [HMM.out]
        have hkl : k < ls.length := by rw [← HN.out]; exact hlt
        rw [List.getD_eq_getElem?_getD, List.getElem?_eq_getElem hkl]
        exact hE _ (by rw [List.take_length]; exact List.getElem_mem _)
    · obtain rfl : k = n := by omega
      go_wp2
      go_ret2
      refine .inl ⟨by have := HE.out; rwa [HN.out] at this, b, s, cap, rfl, ?_, HW.out, hb1, hs1⟩
      have := HK.out
      rw [HN.out, ofTo_full] at this
      exact this
end Go.Proofs.Ytcnfafappcbpnaa.Mat
namespace Go.Proofs.Ytcnfafappcbpnaa.Mat
open Go Go.RowKit Go.Proofs.Ytcnfafappcbpnaa.Bits Go.Proofs.Ytcnfafappcbpnaa.Gf Go.Proofs.YtcnfafappcbpnaaW.PrintWords
set_option linter.unusedVariables false
theorem xt_is (x : Nat) (h : x < 256) : (if 255 < x * 2 then x * 2 ^^^ 285 else x * 2) = xt x := by
  have e : ∀ x, x < 256 → (if 255 < x * 2 then x * 2 ^^^ 285 else x * 2) = xt x := by decide +kernel
  exact e x h
theorem xor_lt {a b : Nat} (ha : a < 256) (hb : b < 256) : a ^^^ b < 256 := by
  have : a ^^^ b < 2 ^ 8 := Nat.xor_lt_two_pow ha hb
  simpa using this
def MulInv (r : Nat) (n b p x : Nat) : Prop := n ≤ 8 ∧ b < 2 ^ n ∧ p < 256 ∧ x < 256 ∧ gmA n b p x = r
theorem mulInv_bounds {r n b p x : Nat} (h : MulInv r n b p x) : b < 256 ∧ p < 256 ∧ x < 256 := by
  refine ⟨Nat.lt_of_lt_of_le h.2.1 ?_, h.2.2.1, h.2.2.2.1⟩
  have := Nat.pow_le_pow_right (n := 2) (by decide) h.1
  simpa using this
theorem mulInv_step {r n b p x : Nat} (h : MulInv r n b p x) (hb : 0 < b) : ∃ m, MulInv r m (b / 2) (p ^^^ b % 2 * x) (xt x) := by
  obtain ⟨h1, h2, h3, h4, h5⟩ := h
  cases n with
  | zero => simp at h2; omega
  | succ m =>
    refine ⟨m, by omega, by rw [Nat.pow_succ] at h2; omega, ?_, xt_lt x, h5⟩
    refine xor_lt h3 ?_
    rcases bit01 b with e | e <;> rw [e] <;> omega
theorem mulInv_end {r n p x : Nat} (h : MulInv r n 0 p x) : p = r := by
  have := h.2.2.2.2
  rwa [gmA_zero] at this
set_option maxRecDepth 100000 in
theorem mul_walk (a b0 : Nat) (w : World) (ha : a < 256) (hb0 : b0 < 256) :
    Calls Try.prog 26 #[.int .u8 a, .int .u8 b0] w fun e w' => e = .returned (.int .u8 (gm a b0 : Nat)) ∧ ∃ n, w' = w.drewN n := by
  have hI := Lib.hid (show MulInv (gm a b0) 8 b0 0 a from ⟨Nat.le_refl _, by simpa using hb0, by decide, ha, rfl⟩)
  have hr := gm_lt a b0 ha
  have ea : IntKind.i64.wrap (a : Int) = (a : Int) := IntWalk.i64_in _ (by omega)
  obtain ⟨r, hrr⟩ : ∃ r, r = gm a b0 := ⟨_, rfl⟩
  rw [← hrr] at hI hr ⊢
  clear hrr
  go_enter Try.func26, Try.ntmps26
  go_wp2
  go_loopw [1, 5, 6] (fun vb vp vx wr => ∃ (n b p x : Nat), vb = .int .u8 b ∧ vp = .int .i64 p ∧ vx = .int .i64 x ∧ Hid (MulInv r n b p x) ∧ Hid (∃ m, wr = w.drewN m)) (fun vb _ _ _ => (intOf vb).toNat)
  case atStart => exact ⟨8, b0, 0, a, rfl, rfl, rfl, hI, Lib.hid ⟨0, rfl⟩⟩
  case round =>
    obtain ⟨n, b, p, x, rfl, rfl, rfl, hJ, hW⟩ := hrel
    obtain ⟨m, hm⟩ := hW.out
    subst hm
    clear hI
    obtain ⟨hb, hp, hx⟩ := mulInv_bounds hJ.out
    by_cases h0 : 0 < b
    · obtain ⟨n', hN⟩ := mulInv_step hJ.out h0
      have hxt := xt_is x hx
      have c3 : decide ((0 : Int) < (b : Int)) = true := by simp; omega
      have eb : bits .and .u8 (b : Int) 1 = ((b % 2 : Nat) : Int) := and1_u8 b hb
      have ex : bits .xor .i64 (p : Int) (x : Int) = ((p ^^^ x : Nat) : Int) := xor_i64 p x (by omega) (by omega)
      have e2 : bits .xor .i64 ((x : Int) * 2) 285 = ((x * 2 ^^^ 285 : Nat) : Int) := by
        have := xor_i64 (x * 2) 285 (by omega) (by omega)
        rwa [show ((x * 2 : Nat) : Int) = (x : Int) * 2 by omega] at this
      have ed : (b : Int) / 2 = ((b / 2 : Nat) : Int) := by omega
      have HD := Lib.hid ed
      have HN := Lib.hid hN
      have hlt : b / 2 < b := by omega
      have HB2 := Lib.hid (show b / 2 < b by omega)
      have HX := Lib.hid hxt
      have HE2 := Lib.hid e2
      have HEX := Lib.hid ex
      clear hN ed hlt hxt e2 ex
      rcases bit01 b with hbit | hbit
      · have q1 : (bits .and .u8 (b : Int) 1 == 1) = false := by rw [eb, hbit]; rfl
        have Hbit := Lib.hid hbit
        clear eb hbit
        by_cases h5 : 255 < x * 2
        · have q2 : decide ((255 : Int) < (x : Int) * 2) = true := by simp; omega
          go_wp2
          go_roundw
          case rel => exact ⟨n', b / 2, p, xt x, by rw [← HD.out], rfl, by have := HX.out; rw [if_pos h5] at this; rw [HE2.out, this], by have := HN.out; rw [Hbit.out, Nat.zero_mul, Nat.xor_zero] at this; exact Lib.hid this, Lib.hid ⟨_, rfl⟩⟩
          case measure => have := HB2.out; simp [intOf]; omega
        · have q2 : decide ((255 : Int) < (x : Int) * 2) = false := by simp; omega
          go_wp2
          go_roundw
          case rel => exact ⟨n', b / 2, p, xt x, by rw [← HD.out], rfl, by have := HX.out; rw [if_neg h5] at this; rw [← this]; congr 1, by have := HN.out; rw [Hbit.out, Nat.zero_mul, Nat.xor_zero] at this; exact Lib.hid this, Lib.hid ⟨_, rfl⟩⟩
          case measure => have := HB2.out; simp [intOf]; omega
      · have q1 : (bits .and .u8 (b : Int) 1 == 1) = true := by rw [eb, hbit]; rfl
        have Hbit := Lib.hid hbit
        clear eb hbit
        by_cases h5 : 255 < x * 2
        · have q2 : decide ((255 : Int) < (x : Int) * 2) = true := by simp; omega
          go_wp2
          go_roundw
          case rel => exact ⟨n', b / 2, p ^^^ x, xt x, by rw [← HD.out], by rw [HEX.out], by have := HX.out; rw [if_pos h5] at this; rw [HE2.out, this], by have := HN.out; rw [Hbit.out, Nat.one_mul] at this; exact Lib.hid this, Lib.hid ⟨_, rfl⟩⟩
          case measure => have := HB2.out; simp [intOf]; omega
        · have q2 : decide ((255 : Int) < (x : Int) * 2) = false := by simp; omega
          go_wp2
          go_roundw
          case rel => exact ⟨n', b / 2, p ^^^ x, xt x, by rw [← HD.out], by rw [HEX.out], by have := HX.out; rw [if_neg h5] at this; rw [← this]; congr 1, by have := HN.out; rw [Hbit.out, Nat.one_mul] at this; exact Lib.hid this, Lib.hid ⟨_, rfl⟩⟩
          case measure => have := HB2.out; simp [intOf]; omega
    · obtain rfl : b = 0 := by omega
      obtain rfl := mulInv_end hJ.out
      have c3 : decide ((0 : Int) < ((0 : Nat) : Int)) = false := by decide
      go_wp2
      go_ret
      exact ⟨by congr 2, m, rfl⟩
end Go.Proofs.Ytcnfafappcbpnaa.Mat
namespace Go.Proofs.Ytcnfafappcbpnaa.Mat
open Go Go.RowKit Go.Proofs.Ytcnfafappcbpnaa.Mem Go.Proofs.Ytcnfafappcbpnaa.Bits Go.Proofs.Ytcnfafappcbpnaa.Gf Go.Proofs.YtcnfafappcbpnaaW.PrintWords
set_option linter.unusedVariables false
def gmI (a b : Int) : Int := (gm a.toNat b.toNat : Nat)
def xorI (a b : Int) : Int := (a.toNat ^^^ b.toNat : Nat)
theorem gmI_range (a b : Int) (ha : a < 256) : 0 ≤ gmI a b ∧ gmI a b < 256 := by
  have := gm_lt a.toNat b.toNat (by omega)
  unfold gmI; omega
theorem xorI_range (a b : Int) (ha : a < 256) (hb : b < 256) : 0 ≤ xorI a b ∧ xorI a b < 256 := by
  have : a.toNat ^^^ b.toNat < 2 ^ 8 := Nat.xor_lt_two_pow (by omega) (by omega)
  unfold xorI; omega
theorem mul_calls (a b : Int) (w : World) (ha : 0 ≤ a ∧ a < 256) (hb : 0 ≤ b ∧ b < 256) :
    Calls Try.prog 26 #[.int .u8 a, .int .u8 b] w fun e w' => e = .returned (.int .u8 (gmI a b)) ∧ ∃ n, w' = w.drewN n := by
  obtain ⟨a, rfl⟩ := Int.eq_ofNat_of_zero_le ha.1
  obtain ⟨b, rfl⟩ := Int.eq_ofNat_of_zero_le hb.1
  refine (mul_walk a b w (by omega) (by omega)).mono ?_
  rintro e w' ⟨rfl, n, rfl⟩
  exact ⟨by simp [gmI], n, rfl⟩
set_option maxRecDepth 100000 in
theorem add_calls (a b : Int) (w : World) (ha : 0 ≤ a ∧ a < 256) (hb : 0 ≤ b ∧ b < 256) :
    Calls Try.prog 25 #[.int .u8 a, .int .u8 b] w fun e w' => e = .returned (.int .u8 (xorI a b)) ∧ ∃ n, w' = w.drewN n := by
  obtain ⟨a, rfl⟩ := Int.eq_ofNat_of_zero_le ha.1
  obtain ⟨b, rfl⟩ := Int.eq_ofNat_of_zero_le hb.1
  have hx := xor_u8 a b (by omega) (by omega)
  go_enter Try.func25, Try.ntmps25
  go_wp2
  go_ret
  exact ⟨by simp [xorI], 0, rfl⟩
def dotTo (xs ys : List Int) : Nat → Int
  | 0 => 0
  | n + 1 => xorI (dotTo xs ys n) (gmI (xs.getD n 0) (ys.getD n 0))
theorem dotTo_range (xs ys : List Int) (hx : Bytes xs) (n : Nat) : 0 ≤ dotTo xs ys n ∧ dotTo xs ys n < 256 := by
  induction n with
  | zero => simp [dotTo]
  | succ n ih => exact xorI_range _ _ ih.2 (gmI_range _ _ (hx.getD n).2).2
theorem reads_at {w : World} {a : Addr} {n : Nat} {xs : List Int} (h : ReadsInt w .u8 (some a) n xs) (i : Nat) (hi : i < n) : w.cell? (a.add i) = some (.int .u8 (xs.getD i 0)) := by
  obtain ⟨ad, e, hc⟩ := h.at_ (i : Int) (by omega) (by omega)
  cases e
  simpa [rd] using hc
set_option maxRecDepth 100000 in
theorem dot_le (a1 a2 : Addr) (c1 c2 n m0 : Nat) (xs ys : List Int) (w : World) (h1 : ReadsInt w .u8 (some a1) n xs) (h2 : ReadsInt w .u8 (some a2) m0 ys) (hx : Bytes xs) (hy : Bytes ys) (hn : n ≤ 4096) (hm : n ≤ m0) :
    Calls Try.prog 70 #[.slice (some a1) n c1, .slice (some a2) m0 c2] w fun e w' => e = .returned (.int .u8 (dotTo xs ys n)) ∧ ∃ n, w' = w.drewN n := by
  have H1 := Lib.hid h1
  have H2 := Lib.hid h2
  clear h1 h2
  have HX := Lib.hid hx
  have HY := Lib.hid hy
  clear hx hy
  go_enter Try.func70, Try.ntmps70
  go_wp2
  repeat (go_quiet (fail); try go_wp2)
  go_loopw [5, 6, 12] (fun x _ i wr => ∃ (k : Nat), k ≤ n ∧ i = .int .i64 k ∧ x = .int .u8 (dotTo xs ys k) ∧ Hid (∃ m, wr = w.drewN m)) (fun _ _ i _ => n - (intOf i).toNat)
  case atStart => exact ⟨0, by omega, rfl, rfl, Lib.hid ⟨0, rfl⟩⟩
  case round =>
    obtain ⟨k, hk, rfl, rfl, HW⟩ := hrel
    obtain ⟨m, hwm⟩ := HW.out
    subst hwm
    by_cases hlt : k < n
    · have c1 := reads_at H1.out k (by omega)
      have c2 := reads_at H2.out k (by omega)
      have HD := Lib.hid (show dotTo xs ys (k + 1) = xorI (dotTo xs ys k) (gmI (xs.getD k 0) (ys.getD k 0)) from rfl)
      have hr := Lib.hid (dotTo_range xs ys HX.out k)
      have b1 := Lib.hid (HX.out.getD k)
      have b2 := Lib.hid (HY.out.getD k)
      obtain ⟨z, hz⟩ : ∃ z, z = dotTo xs ys (k + 1) := ⟨_, rfl⟩
      rw [← hz] at HD
      obtain ⟨s, hs⟩ : ∃ s, s = dotTo xs ys k := ⟨_, rfl⟩
      rw [← hs] at HD hr ⊢
      obtain ⟨x, hxx⟩ : ∃ x, x = xs.getD k 0 := ⟨_, rfl⟩
      obtain ⟨y, hyy⟩ : ∃ y, y = ys.getD k 0 := ⟨_, rfl⟩
      rw [← hxx] at c1 HD b1
      rw [← hyy] at c2 HD b2
      have HZ := Lib.hid hz
      clear hz hs hxx hyy
      have p0 : (0 : Int) ≤ (k : Int) := by omega
      have p1 : (k : Int) < (n : Int) := by omega
      have p2 : (k : Int) < (m0 : Int) := by omega
      have b3 := Lib.hid (gmI_range x y b1.out.2)
      go_wp2
      go_quiet (first
        | (go_at_call 26; (with_reducible refine (mul_calls _ _ _ b1.out b2.out).mono ?_); rintro e w' ⟨rfl, ⟨nd, rfl⟩⟩; (first | exact ⟨rfl, _, World.drewN_drewN _ _ _⟩ | exact ⟨rfl, _, Eq.trans (World.drewN_drewN _ _ _) (congrArg (World.drewN _) (Nat.add_assoc _ _ _))⟩ | exact ⟨rfl, _, rfl⟩))
        | (go_at_call 25; (with_reducible refine (add_calls _ _ _ hr.out b3.out).mono ?_); rintro e w' ⟨rfl, ⟨nd, rfl⟩⟩; (first | exact ⟨rfl, _, World.drewN_drewN _ _ _⟩ | exact ⟨rfl, _, Eq.trans (World.drewN_drewN _ _ _) (congrArg (World.drewN _) (Nat.add_assoc _ _ _))⟩ | exact ⟨rfl, _, rfl⟩)))
      go_wp2
      go_roundw
      case rel => exact ⟨k + 1, by omega, by go_num, by rw [← HZ.out, HD.out], Lib.hid ⟨_, rfl⟩⟩
      case measure => simp [intOf]; omega
    · obtain rfl : k = n := by omega
      go_wp2
      go_ret
      exact ⟨rfl, m, rfl⟩
end Go.Proofs.Ytcnfafappcbpnaa.Mat
namespace Go.Proofs.Ytcnfafappcbpnaa.Gi
open Go Go.RowKit Go.Proofs.Ytcnfafappcbpnaa.Bits Go.Proofs.Ytcnfafappcbpnaa.Gf Go.Proofs.YtcnfafappcbpnaaW.PrintWords
set_option linter.unusedVariables false
theorem xt_is (x : Nat) (h : x < 256) : (if 255 < x * 2 then x * 2 ^^^ 285 else x * 2) = xt x := by
  have e : ∀ x, x < 256 → (if 255 < x * 2 then x * 2 ^^^ 285 else x * 2) = xt x := by decide +kernel
  exact e x h
theorem xor_lt {a b : Nat} (ha : a < 256) (hb : b < 256) : a ^^^ b < 256 := by
  have : a ^^^ b < 2 ^ 8 := Nat.xor_lt_two_pow ha hb
  simpa using this
def MulInv (r : Nat) (n b p x : Nat) : Prop := n ≤ 8 ∧ b < 2 ^ n ∧ p < 256 ∧ x < 256 ∧ gmA n b p x = r
theorem mulInv_bounds {r n b p x : Nat} (h : MulInv r n b p x) : b < 256 ∧ p < 256 ∧ x < 256 := by
  refine ⟨Nat.lt_of_lt_of_le h.2.1 ?_, h.2.2.1, h.2.2.2.1⟩
  have := Nat.pow_le_pow_right (n := 2) (by decide) h.1
  simpa using this
theorem mulInv_step {r n b p x : Nat} (h : MulInv r n b p x) (hb : 0 < b) : ∃ m, MulInv r m (b / 2) (p ^^^ b % 2 * x) (xt x) := by
  obtain ⟨h1, h2, h3, h4, h5⟩ := h
  cases n with
  | zero => simp at h2; omega
  | succ m =>
    refine ⟨m, by omega, by rw [Nat.pow_succ] at h2; omega, ?_, xt_lt x, h5⟩
    refine xor_lt h3 ?_
    rcases bit01 b with e | e <;> rw [e] <;> omega
theorem mulInv_end {r n p x : Nat} (h : MulInv r n 0 p x) : p = r := by
  have := h.2.2.2.2
  rwa [gmA_zero] at this
set_option maxRecDepth 100000 in
theorem mul_still0 (a b0 : Nat) (w : World) (ha : a < 256) (hb0 : b0 < 256) :
    Calls Try.prog 26 #[.int .u8 a, .int .u8 b0] w fun e w' => e = .returned (.int .u8 (gm a b0 : Nat)) ∧ w' = w := by
  have hI := Lib.hid (show MulInv (gm a b0) 8 b0 0 a from ⟨Nat.le_refl _, by simpa using hb0, by decide, ha, rfl⟩)
  have hr := gm_lt a b0 ha
  have ea : IntKind.i64.wrap (a : Int) = (a : Int) := IntWalk.i64_in _ (by omega)
  obtain ⟨r, hrr⟩ : ∃ r, r = gm a b0 := ⟨_, rfl⟩
  rw [← hrr] at hI hr ⊢
  clear hrr
  go_enter Try.func26, Try.ntmps26
  go_wp2
  go_loopw [1, 5, 6] (fun vb vp vx wr => ∃ (n b p x : Nat), vb = .int .u8 b ∧ vp = .int .i64 p ∧ vx = .int .i64 x ∧ Hid (MulInv r n b p x) ∧ Hid (wr = w)) (fun vb _ _ _ => (intOf vb).toNat)
  case atStart => exact ⟨8, b0, 0, a, rfl, rfl, rfl, hI, Lib.hid rfl⟩
  case round =>
    obtain ⟨n, b, p, x, rfl, rfl, rfl, hJ, hW⟩ := hrel
    have hm := hW.out
    subst hm
    clear hI
    obtain ⟨hb, hp, hx⟩ := mulInv_bounds hJ.out
    by_cases h0 : 0 < b
    · obtain ⟨n', hN⟩ := mulInv_step hJ.out h0
      have hxt := xt_is x hx
      have c3 : decide ((0 : Int) < (b : Int)) = true := by simp; omega
      have eb : bits .and .u8 (b : Int) 1 = ((b % 2 : Nat) : Int) := and1_u8 b hb
      have ex : bits .xor .i64 (p : Int) (x : Int) = ((p ^^^ x : Nat) : Int) := xor_i64 p x (by omega) (by omega)
      have e2 : bits .xor .i64 ((x : Int) * 2) 285 = ((x * 2 ^^^ 285 : Nat) : Int) := by
        have := xor_i64 (x * 2) 285 (by omega) (by omega)
        rwa [show ((x * 2 : Nat) : Int) = (x : Int) * 2 by omega] at this
      have ed : (b : Int) / 2 = ((b / 2 : Nat) : Int) := by omega
      have HD := Lib.hid ed
      have HN := Lib.hid hN
      have hlt : b / 2 < b := by omega
      have HB2 := Lib.hid (show b / 2 < b by omega)
      have HX := Lib.hid hxt
      have HE2 := Lib.hid e2
      have HEX := Lib.hid ex
      clear hN ed hlt hxt e2 ex
      rcases bit01 b with hbit | hbit
      · have q1 : (bits .and .u8 (b : Int) 1 == 1) = false := by rw [eb, hbit]; rfl
        have Hbit := Lib.hid hbit
        clear eb hbit
        by_cases h5 : 255 < x * 2
        · have q2 : decide ((255 : Int) < (x : Int) * 2) = true := by simp; omega
          go_wp2
          go_roundw
          case rel => exact ⟨n', b / 2, p, xt x, by rw [← HD.out], rfl, by have := HX.out; rw [if_pos h5] at this; rw [HE2.out, this], by have := HN.out; rw [Hbit.out, Nat.zero_mul, Nat.xor_zero] at this; exact Lib.hid this, by first | exact Lib.hid rfl | exact Lib.hid trivial⟩
          case measure => have := HB2.out; simp [intOf]; omega
        · have q2 : decide ((255 : Int) < (x : Int) * 2) = false := by simp; omega
          go_wp2
          go_roundw
          case rel => exact ⟨n', b / 2, p, xt x, by rw [← HD.out], rfl, by have := HX.out; rw [if_neg h5] at this; rw [← this]; congr 1, by have := HN.out; rw [Hbit.out, Nat.zero_mul, Nat.xor_zero] at this; exact Lib.hid this, by first | exact Lib.hid rfl | exact Lib.hid trivial⟩
          case measure => have := HB2.out; simp [intOf]; omega
      · have q1 : (bits .and .u8 (b : Int) 1 == 1) = true := by rw [eb, hbit]; rfl
        have Hbit := Lib.hid hbit
        clear eb hbit
        by_cases h5 : 255 < x * 2
        · have q2 : decide ((255 : Int) < (x : Int) * 2) = true := by simp; omega
          go_wp2
          go_roundw
          case rel => exact ⟨n', b / 2, p ^^^ x, xt x, by rw [← HD.out], by rw [HEX.out], by have := HX.out; rw [if_pos h5] at this; rw [HE2.out, this], by have := HN.out; rw [Hbit.out, Nat.one_mul] at this; exact Lib.hid this, by first | exact Lib.hid rfl | exact Lib.hid trivial⟩
          case measure => have := HB2.out; simp [intOf]; omega
        · have q2 : decide ((255 : Int) < (x : Int) * 2) = false := by simp; omega
          go_wp2
          go_roundw
          case rel => exact ⟨n', b / 2, p ^^^ x, xt x, by rw [← HD.out], by rw [HEX.out], by have := HX.out; rw [if_neg h5] at this; rw [← this]; congr 1, by have := HN.out; rw [Hbit.out, Nat.one_mul] at this; exact Lib.hid this, by first | exact Lib.hid rfl | exact Lib.hid trivial⟩
          case measure => have := HB2.out; simp [intOf]; omega
    · obtain rfl : b = 0 := by omega
      obtain rfl := mulInv_end hJ.out
      have c3 : decide ((0 : Int) < ((0 : Nat) : Int)) = false := by decide
      go_wp2
      go_ret
      exact ⟨by congr 2, rfl⟩
theorem mul_still (a b : Int) (w : World) (ha : Byt a) (hb : Byt b) :
    Calls Try.prog 26 #[.int .u8 a, .int .u8 b] w fun e w' => e = .returned (.int .u8 (gmI a b)) ∧ w' = w := by
  obtain ⟨x, hx, rfl⟩ := byt_nat ha
  obtain ⟨y, hy, rfl⟩ := byt_nat hb
  refine (mul_still0 x y w hx hy).mono ?_
  rintro e w' ⟨rfl, h⟩
  exact ⟨by simp [gmI], h⟩
theorem add_still (a b : Int) (w : World) (ha : Byt a) (hb : Byt b) :
    Calls Try.prog 25 #[.int .u8 a, .int .u8 b] w fun e w' => e = .returned (.int .u8 (xorI a b)) ∧ w' = w := by
  have hx := xor_bits ha hb
  go_enter Try.func25, Try.ntmps25
  go_wp2
  go_ret
  exact ⟨by first | rfl | rw [hx], rfl⟩
def PowInv (r n a p : Nat) : Prop := n < 9223372036854775808 ∧ a < 256 ∧ p < 256 ∧ gm p (gp a n) = r
theorem powInv_even {r n a p : Nat} (h : PowInv r n a p) (he : n % 2 = 0) : PowInv r (n / 2) (gm a a) p := by
  obtain ⟨h1, h2, h3, h4⟩ := h
  refine ⟨by omega, gm_lt a a h2, h3, ?_⟩
  rw [gp_sq a h2, show 2 * (n / 2) = n by omega]; exact h4
theorem powInv_odd {r n a p : Nat} (h : PowInv r n a p) (he : n % 2 = 1) : PowInv r (n / 2) (gm a a) (gm p a) := by
  obtain ⟨h1, h2, h3, h4⟩ := h
  refine ⟨by omega, gm_lt a a h2, gm_lt p a h3, ?_⟩
  rw [gp_sq a h2, gm_assoc _ _ _ h3 h2 (gp_lt a h2 _), gm_comm a _ h2 (gp_lt a h2 _), gp_succ, show 2 * (n / 2) + 1 = n by omega]; exact h4
theorem gmI_nat (a b : Nat) : gmI (a : Int) (b : Int) = ((gm a b : Nat) : Int) := by simp [gmI]
set_option maxRecDepth 100000 in
set_option maxHeartbeats 2000000 in
theorem pow_still (a n : Nat) (w : World) (ha : a < 256) (hn : n < 9223372036854775808) :
    Calls Try.prog 43 #[.int .u8 a, .int .i64 n] w fun e w' => e = .returned (.int .u8 (gp a n : Nat)) ∧ w' = w := by
  have hI := Lib.hid (show PowInv (gp a n) n a 1 from ⟨hn, ha, by decide, by rw [gm_one_left _ (gp_lt a ha n)]⟩)
  obtain ⟨r, hr⟩ : ∃ r, r = gp a n := ⟨_, rfl⟩
  rw [← hr] at hI ⊢
  clear hr
  go_enter Try.func43, Try.ntmps43
  go_wp2
  go_loopw [0, 1, 5] (fun va vn vp wr => ∃ (n a p : Nat), vn = .int .i64 n ∧ va = .int .u8 a ∧ vp = .int .u8 p ∧ Hid (PowInv r n a p) ∧ Hid (wr = w)) (fun _ vn _ _ => (intOf vn).toNat)
  case atStart => exact ⟨n, a, 1, rfl, rfl, rfl, hI, Lib.hid rfl⟩
  case round =>
    clear hI ha hn
    obtain ⟨n, a, p, rfl, rfl, rfl, hJ, hW⟩ := hrel
    have hm := hW.out
    subst hm
    obtain ⟨hn, ha, hp, hg⟩ := hJ.out
    have HG := Lib.hid hg
    clear hg
    by_cases h0 : 0 < n
    · have c3 : decide ((0 : Int) < (n : Int)) = true := by simp; omega
      have eb : bits .and .i64 (n : Int) 1 = ((n % 2 : Nat) : Int) := and1_i64 n hn
      have HD := Lib.hid (show (n : Int) / 2 = ((n / 2 : Nat) : Int) by omega)
      have HL := Lib.hid (show n / 2 < n by omega)
      have M1 := Lib.hid (fun W => mul_still (p : Int) (a : Int) W ⟨by omega, by omega⟩ ⟨by omega, by omega⟩)
      have M2 := Lib.hid (fun W => mul_still (a : Int) (a : Int) W ⟨by omega, by omega⟩ ⟨by omega, by omega⟩)
      rw [gmI_nat] at M1 M2
      rcases bit01 n with hbit | hbit
      · have q1 : (bits .and .i64 (n : Int) 1 == 1) = false := by rw [eb, hbit]; rfl
        have HJ := Lib.hid (powInv_even hJ.out hbit)
        clear eb hbit
        go_wp2_with (go_at_call 26; (with_reducible refine (M2.out _).mono ?_); rintro e w' ⟨rfl, rfl⟩)
        go_roundw
        case rel => exact ⟨n / 2, _, p, by rw [← HD.out], rfl, rfl, HJ, by first | exact Lib.hid rfl | exact Lib.hid trivial⟩
        case measure => have := HL.out; simp [intOf]; omega
      · have q1 : (bits .and .i64 (n : Int) 1 == 1) = true := by rw [eb, hbit]; rfl
        have HJ := Lib.hid (powInv_odd hJ.out hbit)
        clear eb hbit
        go_wp2_with (go_at_call 26; (first | (with_reducible refine (M2.out _).mono ?_) | (with_reducible refine (M1.out _).mono ?_)); rintro e w' ⟨rfl, rfl⟩)
        go_roundw
        case rel => exact ⟨n / 2, _, _, by rw [← HD.out], rfl, rfl, HJ, by first | exact Lib.hid rfl | exact Lib.hid trivial⟩
        case measure => have := HL.out; simp [intOf]; omega
    · obtain rfl : n = 0 := by omega
      have c3 : decide ((0 : Int) < ((0 : Nat) : Int)) = false := by decide
      have hr : p = r := by
        have := HG.out
        rw [show gp a 0 = 1 from rfl, gm_one] at this
        exact this
      subst hr
      go_wp2
      go_ret
      exact ⟨rfl, rfl⟩
theorem inv_still (a : Int) (w : World) (ha : Byt a) (h0 : a ≠ 0) : ∃ r, Byt r ∧ gmI a r = 1 ∧ ∀ w, Calls Try.prog 79 #[.int .u8 a] w fun e w' => e = .returned (.tuple #[.int .u8 r, .int .i64 0]) ∧ w' = w := by
  obtain ⟨x, hx, rfl⟩ := byt_nat ha
  have hp := gp_lt x hx 254
  have hi := gm_inv x hx (by omega)
  rw [ginv_gp x hx] at hi
  refine ⟨((gp x 254 : Nat) : Int), ⟨by omega, by omega⟩, by rw [gmI_nat, hi]; rfl, fun w => ?_⟩
  have PW := Lib.hid (fun W => pow_still x 254 W hx (by decide))
  have t1 : ((x : Int) == 0) = false := by simp; omega
  clear hi
  go_enter Try.func79, Try.ntmps79
  go_wp2_with (go_at_call 43; (refine (PW.out _).mono ?_); rintro e w' ⟨rfl, rfl⟩)
  go_ret2
  exact ⟨rfl, rfl⟩
end Go.Proofs.Ytcnfafappcbpnaa.Gi
namespace Go.Proofs.Ytcnfafappcbpnaa.Mat
open Go Go.RowKit Go.Proofs.Ytcnfafappcbpnaa.Mem Go.Proofs.Ytcnfafappcbpnaa.Bits Go.Proofs.YtcnfafappcbpnaaW.PrintWords
set_option linter.unusedVariables false
theorem info_rows : (Try.prog.info? 22).map (fun i => (i.zero, i.size, i.bytes)) = some (some (.slice none 0 0), 1, 24) := by kernel_rfl
abbrev kRow : Kd (List Int) := Kd.slice 5 (Kd.int .u8)
abbrev RowsR (w : World) (base : Nat) (v : Value) (ls : List (List Int)) : Prop := Kd.R kRow 22 w base (fun _ => True) v ls
theorem row_M {w : World} {base b0 : Nat} {u : Value} {n : Nat} {ys : List Int} (h : w.ownsRow b0 5 1 u n (nums .u8 ys)) (hb : base ≤ b0) (hn : ys.length = n) : kRow.M w base (fun k => some k = u.ownBlock) ys [u] := by
  refine ⟨u, rfl, Kd.R_of_own ?_ (fun k hk => hk.symm)⟩
  have := own_weaken h hb
  rw [← hn] at this; exact this
theorem rowOf_get {c : Nat} {xs : List Int} (i j : Nat) (hj : j < c) : (rowOf c xs i).getD j 0 = xs.getD (i * c + j) 0 := by
  unfold rowOf
  rw [List.getD_eq_getElem?_getD, List.getD_eq_getElem?_getD, List.getElem?_drop, List.getElem?_take_of_lt (by rw [Nat.add_mul]; omega)]
structure RightP (ls : List (List Int)) : Prop where
  r0 : 1 ≤ ls.length
  r1 : ls.length ≤ 64
  c0 : 1 ≤ (ls.getD 0 []).length
  c1 : (ls.getD 0 []).length ≤ 64
  even : ∀ l ∈ ls, l.length = (ls.getD 0 []).length
instance (ls : List (List Int)) : Decidable (RightP ls) :=
  if h : 1 ≤ ls.length ∧ ls.length ≤ 64 ∧ 1 ≤ (ls.getD 0 []).length ∧ (ls.getD 0 []).length ≤ 64 ∧ ∀ l ∈ ls, l.length = (ls.getD 0 []).length then isTrue ⟨h.1, h.2.1, h.2.2.1, h.2.2.2.1, h.2.2.2.2⟩
  else isFalse (fun g => h ⟨g.r0, g.r1, g.c0, g.c1, g.even⟩)
theorem flat_split (ls : List (List Int)) (i : Nat) (hi : i < ls.length) : flat ls = flat (ls.take i) ++ (ls.getD i [] ++ flat (ls.drop (i + 1))) := by
  unfold flat
  rw [List.getD_eq_getElem?_getD, List.getElem?_eq_getElem hi, Option.getD_some, ← List.flatten_cons, List.getElem_cons_drop, ← List.flatten_append, List.take_append_drop]
theorem getD_mem {ls : List (List Int)} {i : Nat} (hi : i < ls.length) : ls.getD i [] ∈ ls := by
  rw [List.getD_eq_getElem?_getD, List.getElem?_eq_getElem hi, Option.getD_some]
  exact List.getElem_mem _
theorem rowOf_flat (c : Nat) (ls : List (List Int)) (h : ∀ l ∈ ls, l.length = c) (i : Nat) (hi : i < ls.length) : rowOf c (flat ls) i = ls.getD i [] := by
  have h1 := take_flat c ls h i (by omega)
  have h2 := h _ (getD_mem hi)
  unfold rowOf
  have hh : flat (ls.take i) ++ (ls.getD i [] ++ flat (ls.drop (i + 1))) = (flat (ls.take i) ++ ls.getD i []) ++ flat (ls.drop (i + 1)) := by simp
  rw [flat_split ls i hi, hh, List.take_left' (by rw [List.length_append, h1, h2, Nat.add_mul, Nat.one_mul]), List.drop_left' h1]
theorem flat_getD (c : Nat) (ls : List (List Int)) (h : ∀ l ∈ ls, l.length = c) (i k : Nat) (hi : i < ls.length) (hk : k < c) : (flat ls).getD (i * c + k) 0 = (ls.getD i []).getD k 0 := by
  rw [← rowOf_flat c ls h i hi, rowOf_get i k hk]
theorem flat_cols {ls : List (List Int)} (h : RightP ls) : EvenTo (ls.getD 0 []).length ls ls.length := fun l hl => h.even l (by rwa [List.take_length] at hl)
theorem of_right (A : Option Addr) (c0 : Nat) (ls : List (List Int)) (w W : World) (hB : Below w.heap.size w W) (h : RowsC w A ls) (hR : RightP ls) (hby : AllBytes ls) (hl : ls.length ≤ c0) :
    Calls Try.prog 33 #[.slice A ls.length c0] W fun e w' => ∃ b s cap, e = .returned (.tuple #[.pointer (some ⟨b, 0, none⟩), .int .i64 0]) ∧ MatIn w' b s ls.length (ls.getD 0 []).length cap (flat ls) ∧ Below W.heap.size W w' ∧ W.heap.size ≤ b ∧ W.heap.size ≤ s := by
  refine (of_any A c0 ls W (Kd.C_below h hB) hby hl hR.r0 hR.r1 hR.c0 hR.c1).mono ?_
  rintro e w' (⟨_, b, s, cap, rfl, hm, hb, h1, h2⟩ | ⟨hn, _⟩)
  · exact ⟨b, s, cap, rfl, hm, hb, h1, h2⟩
  · exact absurd (flat_cols hR) hn
end Go.Proofs.Ytcnfafappcbpnaa.Mat
namespace Go.Proofs.Ytcnfafappcbpnaa.Sol
open Go.Proofs.Ytcnfafappcbpnaa.Gf Go.Proofs.Ytcnfafappcbpnaa.Gi Go.Proofs.Ytcnfafappcbpnaa.Alg
set_option linter.unusedVariables false
theorem inv_same {a r r' : Int} (ha : Byt a) (hr : Byt r) (hr' : Byt r') (h : gmI a r = 1) (h' : gmI a r' = 1) : r = r' := by
  refine G.of_inj hr hr' ?_
  have e1 : G.of a * G.of r = 1 := by rw [← of_gm ha hr, h, G.of_one]
  have e2 : G.of a * G.of r' = 1 := by rw [← of_gm ha hr', h', G.of_one]
  rw [inv_unique e1, inv_unique e2]
theorem StepsTo.same {n m : Nat} {M0 M0' : Mtx} (h0 : BytM M0) (h0' : BytM M0') (he : ∀ i, i < n → ∀ j, j < m → M0 i j = M0' i j) {col t : Nat} {M : Mtx} (h : StepsTo n M0 col t M) :
    ∀ {t' : Nat} {M' : Mtx}, StepsTo n M0' col t' M' → col ≤ m → t = t' ∧ ∀ i, i < n → ∀ j, j < m → M i j = M' i j := by
  induction h with
  | start => intro t' M' h' _; cases h'; exact ⟨rfl, he⟩
  | @skip col t M hs hz ih =>
    intro t' M' h' hc
    cases h' with
    | skip hs' hz' => exact ih hs' (by omega)
    | @step _ t2 k r M2 hs' htk hk hz' hp hr h1 =>
      obtain ⟨rfl, e⟩ := ih hs' (by omega)
      exact absurd ((e k hk col (by omega)).symm.trans (hz k htk hk)) hp
  | @step col t k r M hs htk hk hz hp hr h1 ih =>
    intro t' M' h' hc
    cases h' with
    | @skip _ t2 M2 hs' hz' =>
      obtain ⟨rfl, e⟩ := ih hs' (by omega)
      exact absurd ((e k hk col (by omega)).trans (hz' k htk hk)) hp
    | @step _ t2 k2 r2 M2 hs' htk' hk' hz' hp' hr' h1' =>
      obtain ⟨rfl, e⟩ := ih hs' (by omega)
      have ek : k = k2 := by
        rcases Nat.lt_trichotomy k k2 with h | h | h
        · exact absurd ((e k hk col (by omega)).trans (hz' k htk h)) hp
        · exact h
        · exact absurd ((e k2 hk' col (by omega)).symm.trans (hz k2 htk' h)) hp'
      subst ek
      have er : r = r2 := by
        rw [← e k hk col (by omega)] at h1'
        exact inv_same (hs.byt h0 k col) hr hr' h1 h1'
      subst er
      refine ⟨rfl, fun i hi j hj => ?_⟩
      unfold stepI swapI
      by_cases e1 : i = t
      · rw [if_pos e1, if_pos e1, e k hk j hj]
      · rw [if_neg e1, if_neg e1, e k hk j hj]
        by_cases e2 : i = k
        · rw [if_pos e2, if_pos e2, e t (by omega) j hj, e t (by omega) col (by omega)]
        · rw [if_neg e2, if_neg e2, e i hi j hj, e i hi col (by omega)]
end Go.Proofs.Ytcnfafappcbpnaa.Sol
namespace Go.Proofs.Ytcnfafappcbpnaa.Sol
open Go Go.RowKit Go.Proofs.Ytcnfafappcbpnaa.Gi Go.Proofs.Ytcnfafappcbpnaa.Mem Go.Proofs.YtcnfafappcbpnaaW.PrintWords
set_option linter.unusedVariables false
def heads (n : Nat) (R : Nat → Value) : List Value := (List.range n).map R
theorem heads_len (n : Nat) (R : Nat → Value) : (heads n R).length = n := by simp [heads]
theorem heads_get (n : Nat) (R : Nat → Value) (i : Nat) (hi : i < n) : (heads n R)[i]? = some (R i) := by simp [heads, hi]
theorem heads_succ (n : Nat) (R : Nat → Value) : heads (n + 1) R = heads n R ++ [R n] := by simp [heads, List.range_succ]
theorem heads_congr (n : Nat) (R R' : Nat → Value) (h : ∀ i, i < n → R i = R' i) : heads n R = heads n R' := List.map_congr_left (fun i hi => h i (by simpa using hi))
theorem heads_set (n : Nat) (R : Nat → Value) (k : Nat) (hk : k < n) (u : Value) : (heads n R).set k u = heads n (fun i => if i = k then u else R i) := by
  refine List.ext_getElem (by simp [heads]) (fun j h1 h2 => ?_)
  rw [List.getElem_set]
  simp only [heads, List.getElem_map, List.getElem_range]
  by_cases e : k = j
  · subst e; simp
  · rw [if_neg e, if_neg (fun h => e h.symm)]
structure Grid (w : World) (lo hi : Nat) (v : Value) (n m : Nat) (R : Nat → Value) (M : Mtx) : Prop where
  hd : w.ownsRow lo 22 1 v n (heads n R)
  row : ∀ i, i < n → w.ownsRow lo 5 1 (R i) m (nums .u8 (line m (M i)))
  apart : ∀ i j, i < n → j < n → i ≠ j → ∀ k, (R i).ownBlock = some k → (R j).ownBlock ≠ some k
  hhi : ∀ k, v.ownBlock = some k → k < hi
  rhi : ∀ i, i < n → ∀ k, (R i).ownBlock = some k → k < hi
section
variable {w w' : World} {lo hi n m : Nat} {v : Value} {R : Nat → Value} {M : Mtx}
theorem Grid.move (h : Grid w lo hi v n m R M) (hm : ∀ k, lo ≤ k → k < hi → w'.heap[k]? = w.heap[k]?) : Grid w' lo hi v n m R M :=
  ⟨own_move h.hd (fun k hk => hm k (own_base h.hd k hk) (h.hhi k hk)), fun i hi => own_move (h.row i hi) (fun k hk => hm k (own_base (h.row i hi) k hk) (h.rhi i hi k hk)), h.apart, h.hhi, h.rhi⟩
theorem Grid.below (h : Grid w lo hi v n m R M) (hb : Below w.heap.size w w') : Grid w' lo hi v n m R M :=
  ⟨pw_own_below h.hd hb, fun i hi => pw_own_below (h.row i hi) hb, h.apart, h.hhi, h.rhi⟩
theorem Grid.drewN (h : Grid w lo hi v n m R M) (q : Nat) : Grid (w.drewN q) lo hi v n m R M := ⟨h.hd, h.row, h.apart, h.hhi, h.rhi⟩
theorem Grid.grown (h : Grid w lo hi v n m R M) {b : Nat} (hg : w.grownBy w' (some b)) (hb : b < lo ∨ hi ≤ b) : Grid w' lo hi v n m R M :=
  ⟨h.hd.kept hg (by
    rcases hv : v.ownBlock with _ | k
    · exact .inl rfl
    · have h1 := own_base h.hd k hv; have h2 := h.hhi k hv
      exact .inr (fun e => by injection e with e; omega)),
   fun i hi' => (h.row i hi').kept hg (by
    rcases hv : (R i).ownBlock with _ | k
    · exact .inl rfl
    · have h1 := own_base (h.row i hi') k hv; have h2 := h.rhi i hi' k hv
      exact .inr (fun e => by injection e with e; omega)), h.apart, h.hhi, h.rhi⟩
theorem Grid.mono (h : Grid w lo hi v n m R M) {hi' : Nat} (hh : hi ≤ hi') : Grid w lo hi' v n m R M :=
  ⟨h.hd, h.row, h.apart, fun k hk => Nat.lt_of_lt_of_le (h.hhi k hk) hh, fun i hi k hk => Nat.lt_of_lt_of_le (h.rhi i hi k hk) hh⟩
theorem Grid.congr (h : Grid w lo hi v n m R M) {M' : Mtx} (hm : ∀ i, i < n → ∀ j, j < m → M i j = M' i j) : Grid w lo hi v n m R M' :=
  ⟨h.hd, fun i hi => by rw [← line_congr m (M i) (M' i) (hm i hi)]; exact h.row i hi, h.apart, h.hhi, h.rhi⟩
theorem Grid.form (h : Grid w lo hi v n m R M) (hn : 0 < n) : ∃ g c, v = .slice (some ⟨g, 0, none⟩) n c ∧ n ≤ c ∧ lo ≤ g ∧ g < hi ∧ g < w.heap.size := by
  obtain ⟨g, c, rfl, h1, h2⟩ := h.hd.form hn
  exact ⟨g, c, rfl, own_cap h.hd, h1, h.hhi g rfl, h2⟩
theorem Grid.rform (h : Grid w lo hi v n m R M) (hm : 0 < m) (i : Nat) (hi' : i < n) : ∃ b c, R i = .slice (some ⟨b, 0, none⟩) m c ∧ m ≤ c ∧ lo ≤ b ∧ b < hi ∧ b < w.heap.size := by
  obtain ⟨b, c, e, h1, h2⟩ := (h.row i hi').form hm
  refine ⟨b, c, e, ?_, h1, h.rhi i hi' b (by rw [e]; rfl), h2⟩
  have := h.row i hi'
  rw [e] at this
  exact own_cap this
theorem Grid.head {g c : Nat} (h : Grid w lo hi (.slice (some ⟨g, 0, none⟩) n c) n m R M) (i : Nat) (hi' : i < n) : w.cell? ⟨g, i, none⟩ = some (R i) ∧ w.frozen? ⟨g, i, none⟩ = false :=
  ⟨by rw [h.hd.cellAt i (by omega), heads_get n R i hi'], h.hd.frozenAt i⟩
theorem Grid.elem {b c : Nat} (h : Grid w lo hi v n m R M) (i : Nat) (hi' : i < n) (e : R i = .slice (some ⟨b, 0, none⟩) m c) (j : Nat) (hj : j < m) : w.cell? ⟨b, j, none⟩ = some (.int .u8 (M i j)) ∧ w.frozen? ⟨b, j, none⟩ = false := by
  have hr := h.row i hi'
  rw [e] at hr
  refine ⟨?_, hr.frozenAt j⟩
  rw [hr.cellAt j (by omega)]
  simp [nums, line, hj]
theorem Grid.put {b c : Nat} (h : Grid w lo hi v n m R M) (i : Nat) (hi' : i < n) (e : R i = .slice (some ⟨b, 0, none⟩) m c) {w1 : World} (hg : w.grownBy w1 (some b)) (f : Nat → Int) (hr : w1.ownsRow lo 5 1 (R i) m (nums .u8 (line m f))) :
    Grid w1 lo hi v n m R (fun q => if q = i then f else M q) := by
  have eb : (R i).ownBlock = some b := by rw [e]; rfl
  refine ⟨h.hd.kept hg ?_, fun q hq => ?_, h.apart, h.hhi, h.rhi⟩
  · have := own_type_ne h.hd (h.row i hi') (by decide)
    rwa [eb] at this
  · by_cases hqi : q = i
    · subst hqi; simpa using hr
    · rw [if_neg hqi]
      refine (h.row q hq).kept hg ?_
      rcases hv : (R q).ownBlock with _ | k
      · exact .inl rfl
      · refine .inr (fun e' => ?_)
        injection e' with e'
        subst e'
        exact h.apart q i hq hi' hqi k hv eb
theorem Grid.swap {g c : Nat} (h : Grid w lo hi (.slice (some ⟨g, 0, none⟩) n c) n m R M) (i k : Nat) (hi' : i < n) (hk : k < n) :
    Grid ((w.setCell ⟨g, i, none⟩ (R k)).setCell ⟨g, k, none⟩ (R i)) lo hi (.slice (some ⟨g, 0, none⟩) n c) n m (fun q => if q = k then R i else if q = i then R k else R q) (fun q => if q = k then M i else if q = i then M k else M q) := by
  have h1 := h.hd.stored i (R k)
  have h2 := h1.1.stored k (R i)
  rw [heads_set n R i hi', heads_set n _ k hk] at h2
  have hrow : ∀ q, q < n → ∀ f : Nat → Int, w.ownsRow lo 5 1 (R q) m (nums .u8 (line m f)) → ((w.setCell ⟨g, i, none⟩ (R k)).setCell ⟨g, k, none⟩ (R i)).ownsRow lo 5 1 (R q) m (nums .u8 (line m f)) := fun q hq f hr => by
    have hne := own_type_ne hr h.hd (by decide)
    exact (hr.kept h1.2 hne).kept h2.2 hne
  refine ⟨h2.1, fun q hq => ?_, fun p q hp hq hne b hb => ?_, h.hhi, fun q hq b hb => ?_⟩
  · by_cases e1 : q = k
    · rw [if_pos e1, if_pos e1]; exact hrow i hi' _ (h.row i hi')
    · rw [if_neg e1, if_neg e1]
      by_cases e2 : q = i
      · rw [if_pos e2, if_pos e2]; exact hrow k hk _ (h.row k hk)
      · rw [if_neg e2, if_neg e2]; exact hrow q hq _ (h.row q hq)
  · let s : Nat → Nat := fun q => if q = k then i else if q = i then k else q
    have hs : ∀ q, (if q = k then R i else if q = i then R k else R q) = R (s q) := fun q => by
      show _ = R (if q = k then i else if q = i then k else q)
      split
      · rfl
      · split <;> rfl
    have hsn : ∀ q, q < n → s q < n := fun q hq => by
      show (if q = k then i else if q = i then k else q) < n
      split
      · exact hi'
      · split
        · exact hk
        · exact hq
    have hinj : s p ≠ s q := by
      show (if p = k then i else if p = i then k else p) ≠ (if q = k then i else if q = i then k else q)
      split <;> split <;> (try split) <;> (try split) <;> omega
    simp only [hs] at hb ⊢
    exact h.apart (s p) (s q) (hsn p hp) (hsn q hq) hinj b hb
  · by_cases e1 : q = k
    · simp only [if_pos e1] at hb; exact h.rhi i hi' b hb
    · simp only [if_neg e1] at hb
      by_cases e2 : q = i
      · simp only [if_pos e2] at hb; exact h.rhi k hk b hb
      · simp only [if_neg e2] at hb; exact h.rhi q hq b hb
end
end Go.Proofs.Ytcnfafappcbpnaa.Sol
namespace Go.Proofs.Ytcnfafappcbpnaa.Sol
open Go Go.RowKit Go.Proofs.Ytcnfafappcbpnaa.Gi Go.Proofs.Ytcnfafappcbpnaa.Mem Go.Proofs.Ytcnfafappcbpnaa.Bits Go.Proofs.YtcnfafappcbpnaaW.PrintWords
set_option linter.unusedVariables false
def mx (c : Nat) (xs : List Int) : Mtx := fun i j => xs.getD (i * c + j) 0
theorem rowOf_line {r c : Nat} {xs : List Int} (hl : xs.length = r * c) (i : Nat) (hi : i < r) : Mat.rowOf c xs i = line c (mx c xs i) := by
  refine List.ext_getElem (by rw [Mat.rowOf_len hl i hi, line_len]) (fun j h1 h2 => ?_)
  rw [Mat.rowOf_len hl i hi] at h1
  have e1 := Mat.rowOf_get (xs := xs) i j h1
  have e2 := line_get c (mx c xs i) j h1
  rw [List.getD_eq_getElem?_getD, List.getElem?_eq_getElem (by rw [Mat.rowOf_len hl i hi]; exact h1)] at e1
  rw [List.getD_eq_getElem?_getD, List.getElem?_eq_getElem h2] at e2
  simp only [Option.getD_some] at e1 e2
  rw [e1, e2]; rfl
theorem mx_byt {c : Nat} {xs : List Int} (h : Mat.Bytes xs) : BytM (mx c xs) := fun i j => h.getD _
theorem Grid.snoc {wr W w1 : World} {lo n m : Nat} {v v1 u : Value} {R : Nat → Value} {M : Mtx} (h : Grid wr lo wr.heap.size v n m R M) (hlo : lo ≤ wr.heap.size) (hb : Below wr.heap.size wr W) (hu : W.ownsRow wr.heap.size 5 1 u m (nums .u8 (line m (M n))))
    (ho : w1.ownsRow lo 22 1 v1 (n + 1) (heads n R ++ [u])) (hg : W.grownBy w1 v.ownBlock) : Grid w1 lo w1.heap.size v1 (n + 1) m (fun q => if q = n then u else R q) M := by
  have hW := h.below hb
  have hrow : ∀ q, q < n + 1 → w1.ownsRow lo 5 1 (if q = n then u else R q) m (nums .u8 (line m (M q))) := fun q hq => by
    by_cases e : q = n
    · subst e
      rw [if_pos rfl]
      exact (own_weaken hu hlo).kept hg (own_type_ne hu hW.hd (by decide))
    · rw [if_neg e]
      exact (hW.row q (by omega)).kept hg (own_type_ne (hW.row q (by omega)) hW.hd (by decide))
  refine ⟨?_, hrow, fun i j hi hj hne k hk => ?_, fun k hk => own_lt ho k hk, fun i hi k hk => own_lt (hrow i hi) k hk⟩
  · rw [heads_succ, heads_congr n (fun q => if q = n then u else R q) R (fun i hi => if_neg (by omega))]
    simpa using ho
  · by_cases e1 : i = n
    · subst e1
      simp only [if_true] at hk
      rw [if_neg (by omega)]
      intro e2
      have h1 := own_base hu k hk
      have h2 := h.rhi j (by omega) k e2
      omega
    · simp only [if_neg e1] at hk
      by_cases e2 : j = n
      · subst e2
        rw [if_pos rfl]
        intro e3
        have h1 := own_base hu k e3
        have h2 := h.rhi i (by omega) k hk
        omega
      · rw [if_neg e2]
        exact h.apart i j (by omega) (by omega) hne k hk
theorem info_rows2 : (Try.prog.info? 22).map (fun i => (i.zero, i.size, i.bytes)) = some (some (.slice none 0 0), 1, 24) := by kernel_rfl
theorem row_cell {W : World} {base e size n : Nat} {u : Value} {xs : List Value} (h : W.ownsRow base e size u n xs) : ∀ x ∈ [u], x.oneCell' = true := by
  obtain ⟨A, c, rfl⟩ := own_slice h
  intro x hx
  rw [List.mem_singleton.1 hx]
  rfl
theorem head_append {P : Program} {ops : Array Oper} {rest : List Oper} {o : Oper} {a : Act} {Q : Exit → Act → World → Prop} {w0 W : World} (hP : P = Try.prog) (base : Nat) (hgd : o.guard = none) (s x : Operand)
    (ho : o.op = .call { callee := .builtin .append, args := #[s, x], argTypes := #[39, 39] }) (v u : Value) (n : Nat) (xs : List Value)
    (hs : a.eval s = v) (hx : a.eval x = .slice (some ⟨W.heap.size, 0, none⟩) 1 1) (hu : ∀ y ∈ [u], y.oneCell' = true) (HO : W.ownsRow base 22 1 v n xs) (HB : Below base w0 W) (hbase : base ≤ W.heap.size) (hn : n ≤ 1000000)
    (h : ∀ v1 w1, w1.ownsRow base 22 1 v1 (n + 1) (xs ++ [u]) → Below base w0 w1 → W.grownBy w1 v.ownBlock → wpList P ops Q rest (a.put o.dst v1) w1) :
    wpList P ops Q (o :: rest) a (W.alloc (.cells #[u] 22)) := by
  subst hP
  exact print_append_cells (w0 := w0) base hgd s x 39 22 (.slice none 0 0) 1 24 ho Try.underlying39 info_rows2 rfl (by decide) (by decide) v n xs [u] hs hx rfl hu HO HB hbase (by omega) (fun v1 w1 h1 h2 h3 _ => h v1 w1 h1 h2 h3)
set_option maxRecDepth 100000 in
set_option maxHeartbeats 2000000 in
theorem srows_any (v : Value) (r c : Nat) (xs : List Int) (w : World) (h : Mat.IsMat w v r c xs) :
    Calls Try.prog 75 #[v] w fun e w' => ∃ u R, e = .returned u ∧ Grid w' w.heap.size w'.heap.size u r c R (mx c xs) ∧ Below w.heap.size w w' := by
  have hr64 : r ≤ 64 := by obtain ⟨b, s, cap, rfl, hm⟩ := h; exact hm.r1
  have hlen : xs.length = r * c := by obtain ⟨b, s, cap, rfl, hm⟩ := h; exact hm.len
  have SZ := Lib.hid (Mat.size_any v r c xs w h)
  have RW := Lib.hid (fun W (hB : Below w.heap.size w W) i (hi : i < r) => Mat.row_in v r c xs i W (h.below hB) hi)
  have RL := Lib.hid (fun i (hi : i < r) => rowOf_line hlen i hi)
  clear h hlen
  go_enter Try.func75, Try.ntmps75
  go_upto_region 4 with (go_at_call 50; (with_reducible refine SZ.out.mono ?_); rintro e w0 ⟨rfl, nd, hw0⟩; have HB0 := Lib.hid (show Below w.heap.size w w0 by rw [hw0]; exact pw_below_drewN (Below.refl _ _) nd); have HG0 := Lib.hid (show Grid w0 w.heap.size w0.heap.size (.slice none 0 0) 0 c (fun _ => .slice none 0 0) (mx c xs) from ⟨own_nil _ _ _ _, fun i hi => absurd hi (Nat.not_lt_zero i), fun i j hi => absurd hi (Nat.not_lt_zero i), fun k hk => (by cases hk), fun i hi => absurd hi (Nat.not_lt_zero i)⟩); clear hw0)
  go_loopw [3, 6, 13] (fun u0 _ iv wr => ∃ (i : Nat) (u : Value) (R : Nat → Value), u0 = u ∧ i ≤ r ∧ iv = .int .i64 i ∧ Hid (Grid wr w.heap.size wr.heap.size u i c R (mx c xs)) ∧ Hid (Below w.heap.size w wr)) (fun _ _ iv _ => r - (intOf iv).toNat)
  case atStart => exact ⟨0, _, _, rfl, by omega, rfl, HG0, HB0⟩
  case round =>
    clear HG0 HB0
    obtain ⟨i, u, R, rfl, hi, rfl, HG, HB⟩ := hrel
    by_cases hlt : i < r
    · have RW1 := Lib.hid (RW.out wr HB.out i hlt)
      rw [RL.out i hlt] at RW1
      go_wp2_with (first
        | (go_at_call 54; (with_reducible refine RW1.out.mono ?_); rintro e w1 ⟨u1, rfl, h1, hb1⟩; obtain ⟨A1, c1, rfl⟩ := own_slice h1; have H1 := Lib.hid h1; have HB1 := Lib.hid hb1; clear h1 hb1)
        | (at_builtin; refine head_append (w0 := w) rfl w.heap.size rfl _ _ rfl u3 _ i (heads i R) rfl rfl (row_cell H1.out) (pw_own_below HG.out.hd HB1.out) (HB.out.trans (HB1.out.mono HB.out.size)) (Nat.le_trans HB.out.size HB1.out.size) (by omega) ?_; intro v2 w2 ho hb hg; have HG2 := Lib.hid (Grid.snoc HG.out HB.out.size HB1.out H1.out ho hg); have HB2 := Lib.hid hb; clear ho hb hg))
      go_roundw
      case rel => exact ⟨i + 1, _, _, rfl, by omega, by go_num, HG2, HB2⟩
      case measure => simp [intOf]; omega
    · obtain rfl : i = r := by omega
      go_wp2
      go_ret
      exact ⟨_, _, rfl, HG.out, HB.out⟩
def scl (f : Nat → Int) (x : Int) (k : Nat) : Nat → Int := fun j => if j < k then gmI (f j) x else f j
theorem scl_set (m : Nat) (f : Nat → Int) (x : Int) (k : Nat) (hk : k < m) : (line m (scl f x k)).set k (gmI (f k) x) = line m (scl f x (k + 1)) := by
  rw [line_set m _ k hk]
  refine line_congr m _ _ (fun j hj => ?_)
  unfold scl
  by_cases e : j = k
  · subst e; rw [if_pos rfl, if_pos (by omega)]
  · rw [if_neg e]
    by_cases h : j < k
    · rw [if_pos h, if_pos (by omega)]
    · rw [if_neg h, if_neg (by omega)]
theorem own_elem {w : World} {lo b c m : Nat} {f : Nat → Int} (h : w.ownsRow lo 5 1 (.slice (some ⟨b, 0, none⟩) m c) m (nums .u8 (line m f))) (j : Nat) (hj : j < m) : w.cell? ⟨b, j, none⟩ = some (.int .u8 (f j)) ∧ w.frozen? ⟨b, j, none⟩ = false := by
  refine ⟨?_, h.frozenAt j⟩
  rw [h.cellAt j (by omega)]
  simp [nums, line, hj]
theorem nums_line_set (m : Nat) (f g : Nat → Int) (k : Nat) (y : Int) (h : (line m f).set k y = line m g) : (nums .u8 (line m f)).set k (.int .u8 y) = nums .u8 (line m g) := by
  rw [← h]; simp [nums, List.map_set]
set_option maxRecDepth 100000 in
set_option maxHeartbeats 2000000 in
theorem scale_any (lo b c m : Nat) (f : Nat → Int) (x : Int) (w : World) (hr : w.ownsRow lo 5 1 (.slice (some ⟨b, 0, none⟩) m c) m (nums .u8 (line m f))) (hf : ∀ j, Byt (f j)) (hx : Byt x) (hm : m ≤ 1000000) :
    Calls Try.prog 82 #[.slice (some ⟨b, 0, none⟩) m c, .int .u8 x] w fun e w' => e = .returned (.tuple #[]) ∧ w'.ownsRow lo 5 1 (.slice (some ⟨b, 0, none⟩) m c) m (nums .u8 (line m (fun j => gmI (f j) x))) ∧ w.grownBy w' (some b) := by
  have HF := Lib.hid hf
  have HX := Lib.hid hx
  have HR0 := Lib.hid (show w.ownsRow lo 5 1 (.slice (some ⟨b, 0, none⟩) m c) m (nums .u8 (line m (scl f x 0))) by
    rw [line_congr m (scl f x 0) f (fun j _ => by unfold scl; rw [if_neg (Nat.not_lt_zero j)])]; exact hr)
  have HG0 := Lib.hid (World.grownBy.refl w (some b))
  clear hf hx hr
  go_enter Try.func82, Try.ntmps82
  go_upto_region 1 with (fail)
  go_loopw [4, 7] (fun _ iv wr => ∃ (i : Nat), i ≤ m ∧ iv = .int .i64 i ∧ Hid (wr.ownsRow lo 5 1 (.slice (some ⟨b, 0, none⟩) m c) m (nums .u8 (line m (scl f x i)))) ∧ Hid (w.grownBy wr (some b))) (fun _ iv _ => m - (intOf iv).toNat)
  case atStart => exact ⟨0, by omega, rfl, HR0, HG0⟩
  case round =>
    clear HR0 HG0
    obtain ⟨i, hi, rfl, HR, HG⟩ := hrel
    by_cases hlt : i < m
    · obtain ⟨t1, t2⟩ := own_elem HR.out i hlt
      rw [show scl f x i i = f i by unfold scl; rw [if_neg (Nat.lt_irrefl i)]] at t1
      have hst := HR.out.stored i (.int .u8 (gmI (f i) x))
      rw [nums_line_set m _ _ i _ (scl_set m f x i hlt)] at hst
      have hyb := HF.out i
      obtain ⟨y, hy⟩ : ∃ y, y = f i := ⟨_, rfl⟩
      rw [← hy] at t1 hst hyb
      have HY := Lib.hid hyb
      have HR1 := Lib.hid hst.1
      have HG1 := Lib.hid (World.grownBy.trans HG.out hst.2)
      have g0 : (0 : Int) ≤ (i : Int) := by omega
      have g1 : (i : Int) < (m : Int) := by omega
      clear hy hst hyb
      go_wp2_with (go_at_call 26; (with_reducible refine (mul_still y x _ HY.out HX.out).mono ?_); rintro e w' ⟨rfl, rfl⟩)
      go_roundw
      case rel => exact ⟨i + 1, by omega, by go_num, HR1, HG1⟩
      case measure => simp [intOf]; omega
    · obtain rfl : i = m := by omega
      go_wp2
      first | go_end0 | ((try simp only [Exit.inBlock, Exit.then]); refine bodyPost_ret (results_none rfl _ _ _) rfl ?_)
      refine ⟨rfl, ?_, HG.out⟩
      rw [line_congr i (fun j => gmI (f j) x) (scl f x i) (fun j hj => by unfold scl; rw [if_pos hj])]
      exact HR.out
def adl (f g : Nat → Int) (x : Int) (k : Nat) : Nat → Int := fun j => if j < k then xorI (f j) (gmI (g j) x) else f j
theorem adl_set (m : Nat) (f g : Nat → Int) (x : Int) (k : Nat) (hk : k < m) : (line m (adl f g x k)).set k (xorI (f k) (gmI (g k) x)) = line m (adl f g x (k + 1)) := by
  rw [line_set m _ k hk]
  refine line_congr m _ _ (fun j hj => ?_)
  unfold adl
  by_cases e : j = k
  · subst e; rw [if_pos rfl, if_pos (by omega)]
  · rw [if_neg e]
    by_cases h : j < k
    · rw [if_pos h, if_pos (by omega)]
    · rw [if_neg h, if_neg (by omega)]
set_option maxRecDepth 100000 in
set_option maxHeartbeats 2000000 in
theorem sadd_any (lo b c b2 c2 m : Nat) (f g : Nat → Int) (x : Int) (w : World) (hr : w.ownsRow lo 5 1 (.slice (some ⟨b, 0, none⟩) m c) m (nums .u8 (line m f))) (hr2 : w.ownsRow lo 5 1 (.slice (some ⟨b2, 0, none⟩) m c2) m (nums .u8 (line m g)))
    (hne : b2 ≠ b) (hf : ∀ j, Byt (f j)) (hg : ∀ j, Byt (g j)) (hx : Byt x) (hm : m ≤ 1000000) :
    Calls Try.prog 83 #[.slice (some ⟨b, 0, none⟩) m c, .slice (some ⟨b2, 0, none⟩) m c2, .int .u8 x] w fun e w' => e = .returned (.tuple #[]) ∧ w'.ownsRow lo 5 1 (.slice (some ⟨b, 0, none⟩) m c) m (nums .u8 (line m (fun j => xorI (f j) (gmI (g j) x)))) ∧ w.grownBy w' (some b) := by
  have HF := Lib.hid hf
  have HGB := Lib.hid hg
  have HX := Lib.hid hx
  have HNE := Lib.hid hne
  have HR0 := Lib.hid (show w.ownsRow lo 5 1 (.slice (some ⟨b, 0, none⟩) m c) m (nums .u8 (line m (adl f g x 0))) by
    rw [line_congr m (adl f g x 0) f (fun j _ => by unfold adl; rw [if_neg (Nat.not_lt_zero j)])]; exact hr)
  have HS0 := Lib.hid hr2
  have HG0 := Lib.hid (World.grownBy.refl w (some b))
  clear hf hg hx hr hr2 hne
  go_enter Try.func83, Try.ntmps83
  go_upto_region 1 with (fail)
  go_loopw [6, 9] (fun _ iv wr => ∃ (i : Nat), i ≤ m ∧ iv = .int .i64 i ∧ Hid (wr.ownsRow lo 5 1 (.slice (some ⟨b, 0, none⟩) m c) m (nums .u8 (line m (adl f g x i)))) ∧ Hid (wr.ownsRow lo 5 1 (.slice (some ⟨b2, 0, none⟩) m c2) m (nums .u8 (line m g))) ∧ Hid (w.grownBy wr (some b))) (fun _ iv _ => m - (intOf iv).toNat)
  case atStart => exact ⟨0, by omega, rfl, HR0, HS0, HG0⟩
  case round =>
    clear HR0 HS0 HG0
    obtain ⟨i, hi, rfl, HR, HS, HG⟩ := hrel
    by_cases hlt : i < m
    · obtain ⟨t1, t2⟩ := own_elem HR.out i hlt
      obtain ⟨t3, _⟩ := own_elem HS.out i hlt
      rw [show adl f g x i i = f i by unfold adl; rw [if_neg (Nat.lt_irrefl i)]] at t1
      have hst := fun q => World.ownsRow.stored (w := wr.drewN q) HR.out i (.int .u8 (xorI (f i) (gmI (g i) x)))
      simp only [nums_line_set m _ _ i _ (adl_set m f g x i hlt)] at hst
      have hyb := HF.out i
      have hzb := HGB.out i
      obtain ⟨y, hy⟩ : ∃ y, y = f i := ⟨_, rfl⟩
      obtain ⟨z, hz⟩ : ∃ z, z = g i := ⟨_, rfl⟩
      rw [← hy] at t1 hst hyb
      rw [← hz] at t3 hst hzb
      have HY := Lib.hid hyb
      have HZ := Lib.hid hzb
      have HR1 := Lib.hid (hst 1).1
      have HS1 := Lib.hid (World.ownsRow.kept (w := wr.drewN 1) HS.out (hst 1).2 (.inr (fun e => HNE.out (by injection e))))
      have HG1 := Lib.hid (World.grownBy.trans HG.out (World.grownBy.trans (show wr.grownBy (wr.drewN 1) (some b) from ⟨rfl, rfl, rfl, Nat.le_refl _, fun _ _ _ => rfl⟩) (hst 1).2))
      have g0 : (0 : Int) ≤ (i : Int) := by omega
      have g1 : (i : Int) < (m : Int) := by omega
      clear hy hz hst hyb hzb
      go_wp2
      refine wp_region_still_tail 14 (by kernel_rfl) (by kernel_rfl) ?_
      change wpStill _ _ (wr.drewN 1) (fun a' => wpList _ _ _ _ a' (wr.drewN 1)) _ _
      simp only [List.take_succ_cons, List.take_zero, List.drop_succ_cons, List.drop_zero]
      iterate 11 still_step
      still_call (mul_still z x (wr.drewN 1) HZ.out HX.out)
      still_call (add_still y (gmI z x) (wr.drewN 1) HY.out (gmI_byt HZ.out))
      still_step
      refine wpStill_nil ?_
      go_wp2
      go_roundw
      case rel => exact ⟨i + 1, by omega, by go_num, HR1, HS1, HG1⟩
      case measure => simp [intOf]; omega
    · obtain rfl : i = m := by omega
      go_wp2
      first | go_end0 | ((try simp only [Exit.inBlock, Exit.then]); refine bodyPost_ret (results_none rfl _ _ _) rfl ?_)
      refine ⟨rfl, ?_, HG.out⟩
      rw [line_congr i (fun j => xorI (f j) (gmI (g j) x)) (adl f g x i) (fun j hj => by unfold adl; rw [if_pos hj])]
      exact HR.out
end Go.Proofs.Ytcnfafappcbpnaa.Sol
namespace Go.Proofs.Ytcnfafappcbpnaa.Sol
open Go Go.RowKit Go.Proofs.Ytcnfafappcbpnaa.Gi Go.Proofs.Ytcnfafappcbpnaa.Mem Go.Proofs.Ytcnfafappcbpnaa.Bits Go.Proofs.Ytcnfafappcbpnaa.Rws Go.Proofs.YtcnfafappcbpnaaW.PrintWords
set_option linter.unusedVariables false
theorem Grid.rows {w : World} {lo hi n m : Nat} {v : Value} {R : Nat → Value} {M : Mtx} (h : Grid w lo hi v n m R M) : RowsR w lo v (mat n m M) := by
  refine ⟨fun _ _ => trivial, heads n R, by rw [mat_len]; exact h.hd, by rw [heads_len, mat_len]; exact (Nat.mul_one n).symm, fun j p hj => ?_⟩
  have hjn : j < n := by
    have := (List.getElem?_eq_some_iff.1 hj).1
    rwa [mat_len] at this
  have hp : p = line m (M j) := by
    rw [show (mat n m M)[j]? = some (line m (M j)) by simp [mat, hjn]] at hj
    injection hj with hj
    exact hj.symm
  subst hp
  refine ⟨R j, ?_, Kd.R_of_own (by rw [line_len]; exact h.row j hjn) (fun k hk => ⟨trivial, fun e => ?_⟩)⟩
  · show ((heads n R).drop (j * 1)).take 1 = [R j]
    rw [Nat.mul_one, List.drop_eq_getElem_cons (by rw [heads_len]; exact hjn)]
    simp [heads]
  · rcases own_type_ne (h.row j hjn) h.hd (by decide) with e1 | e1
    · rw [e1] at hk; cases hk
    · exact e1 (by rw [hk]; exact e)
structure Insd (lo top : Nat) (w w' : World) : Prop where
  os : w'.os = w.os
  tape : w'.tape = w.tape
  output : w'.output = w.output
  size : w.heap.size ≤ w'.heap.size
  block : ∀ k, k < w.heap.size → (k < lo ∨ top ≤ k) → w'.heap[k]? = w.heap[k]?
theorem Insd.refl (lo top : Nat) (w : World) : Insd lo top w w := ⟨rfl, rfl, rfl, Nat.le_refl _, fun _ _ _ => rfl⟩
theorem Insd.trans {lo top : Nat} {w w1 w2 : World} (h : Insd lo top w w1) (h' : Insd lo top w1 w2) : Insd lo top w w2 :=
  ⟨h'.os.trans h.os, h'.tape.trans h.tape, h'.output.trans h.output, Nat.le_trans h.size h'.size, fun k hk ho => (h'.block k (Nat.lt_of_lt_of_le hk h.size) ho).trans (h.block k hk ho)⟩
theorem Insd.grown {lo top b : Nat} {w w' : World} (hg : w.grownBy w' (some b)) (h1 : lo ≤ b) (h2 : b < top) : Insd lo top w w' :=
  ⟨hg.os, hg.tape, hg.output, hg.size, fun k hk ho => hg.block k hk (fun e => by injection e with e; omega)⟩
theorem Insd.drewN {lo top : Nat} (w : World) (q : Nat) : Insd lo top w (w.drewN q) := ⟨rfl, rfl, rfl, Nat.le_refl _, fun _ _ _ => rfl⟩
theorem Insd.below {lo top : Nat} {w w' : World} (h : Insd lo top w w') (hl : lo ≤ w.heap.size) : Below lo w w' := ⟨h.os, h.tape, h.output, h.size, fun k hk => h.block k (Nat.lt_of_lt_of_le hk hl) (.inl hk)⟩
theorem Insd.own {lo top base n size : Nat} {e : TypeId} {w w' : World} {v : Value} {xs : List Value} (h : Insd lo top w w') (ho : w.ownsRow base e size v n xs) (hb : top ≤ base) : w'.ownsRow base e size v n xs :=
  own_move ho (fun k hk => h.block k (own_lt ho k hk) (.inr (Nat.le_trans hb (own_base ho k hk))))
theorem Insd.blk {lo top p t : Nat} {w w' : World} {cs : Array Value} (h : Insd lo top w w') (hb : Blk w p t cs) (hp : top ≤ p) : Blk w' p t cs := (h.block p hb.lt (.inr hp)).trans hb
structure Work (w : World) (lo mid top p : Nat) (va vb : Value) (n m q : Nat) (Ra Rb : Nat → Value) (C : Mtx) : Prop where
  blk : Blk w p 100 #[va, vb]
  ga : Grid w lo mid va n m Ra C
  gb : Grid w mid top vb n q Rb (fun i j => C i (m + j))
  l1 : lo ≤ mid
  l2 : mid ≤ top
  l3 : top ≤ p
section
variable {w w' : World} {lo mid top p n m q : Nat} {va vb : Value} {Ra Rb : Nat → Value} {C : Mtx}
theorem Work.below (h : Work w lo mid top p va vb n m q Ra Rb C) (hb : Below w.heap.size w w') : Work w' lo mid top p va vb n m q Ra Rb C :=
  ⟨h.blk.below hb h.blk.lt, h.ga.below hb, h.gb.below hb, h.l1, h.l2, h.l3⟩
theorem Work.cells (h : Work w lo mid top p va vb n m q Ra Rb C) : w.cell? ⟨p, 0, none⟩ = some va ∧ w.cell? ⟨p, 1, none⟩ = some vb := ⟨(h.blk.cell 0).trans rfl, (h.blk.cell 1).trans rfl⟩
theorem Work.grown (h : Work w lo mid top p va vb n m q Ra Rb C) {b : Nat} (hg : w.grownBy w' (some b)) (hb : p < b) : Work w' lo mid top p va vb n m q Ra Rb C :=
  ⟨h.blk.grown hg (fun e => by injection e with e; omega), h.ga.grown hg (.inr (by have := h.l2; have := h.l3; omega)), h.gb.grown hg (.inr (by have := h.l3; omega)), h.l1, h.l2, h.l3⟩
theorem Work.congr (h : Work w lo mid top p va vb n m q Ra Rb C) {C' : Mtx} (hc : ∀ i, i < n → ∀ j, j < m + q → C i j = C' i j) : Work w lo mid top p va vb n m q Ra Rb C' :=
  ⟨h.blk, h.ga.congr (fun i hi j hj => hc i hi j (by omega)), h.gb.congr (fun i hi j hj => hc i hi (m + j) (by omega)), h.l1, h.l2, h.l3⟩
theorem Work.putA (h : Work w lo mid top p va vb n m q Ra Rb C) (i : Nat) (hi : i < n) {b c : Nat} (e : Ra i = .slice (some ⟨b, 0, none⟩) m c) (hl : lo ≤ b) (hh : b < mid) (hg : w.grownBy w' (some b)) (f : Nat → Int) (hr : w'.ownsRow lo 5 1 (Ra i) m (nums .u8 (line m f))) :
    Work w' lo mid top p va vb n m q Ra Rb (fun p j => if p = i then (if j < m then f j else C i j) else C p j) := by
  refine ⟨h.blk.grown hg (fun e => by injection e with e; have := h.l2; have := h.l3; omega), (h.ga.put i hi e hg f hr).congr (fun p _ j hj => ?_), (h.gb.grown hg (.inl hh)).congr (fun p _ j hj => ?_), h.l1, h.l2, h.l3⟩
  · by_cases hp : p = i
    · subst hp; rw [if_pos rfl, if_pos rfl, if_pos hj]
    · rw [if_neg hp, if_neg hp]
  · by_cases hp : p = i
    · subst hp; rw [if_pos rfl, if_neg (by omega)]
    · rw [if_neg hp]
theorem Work.putB (h : Work w lo mid top p va vb n m q Ra Rb C) (i : Nat) (hi : i < n) {b c : Nat} (e : Rb i = .slice (some ⟨b, 0, none⟩) q c) (hl : mid ≤ b) (hh : b < top) (hg : w.grownBy w' (some b)) (f : Nat → Int) (hr : w'.ownsRow mid 5 1 (Rb i) q (nums .u8 (line q f))) :
    Work w' lo mid top p va vb n m q Ra Rb (fun p j => if p = i then (if j < m then C i j else f (j - m)) else C p j) := by
  refine ⟨h.blk.grown hg (fun e => by injection e with e; have := h.l3; omega), (h.ga.grown hg (.inr hl)).congr (fun p _ j hj => ?_), (h.gb.put i hi e hg f hr).congr (fun p _ j hj => ?_), h.l1, h.l2, h.l3⟩
  · by_cases hp : p = i
    · subst hp; rw [if_pos rfl, if_pos hj]
    · rw [if_neg hp]
  · by_cases hp : p = i
    · subst hp; rw [if_pos rfl, if_pos rfl, if_neg (by omega), Nat.add_sub_cancel_left]
    · rw [if_neg hp, if_neg hp]
end
set_option maxRecDepth 100000 in
theorem swith_any (v u : Value) (n m q : Nat) (xs ys : List Int) (w : World) (h : Mat.IsMat w v n m xs) (h' : Mat.IsMat w u n q ys) :
    Calls Try.prog 66 #[v, u] w fun e w' => ∃ mid top p va vb Ra Rb, e = .returned (.pointer (some ⟨p, 0, none⟩)) ∧ Work w' w.heap.size mid top p va vb n m q Ra Rb (fun i j => if j < m then mx m xs i j else mx q ys i (j - m)) ∧ Below w.heap.size w w' := by
  have R1 := Lib.hid (fun W (hB : Below w.heap.size w W) => srows_any v n m xs W (h.below hB))
  have R2 := Lib.hid (fun W (hB : Below w.heap.size w W) => srows_any u n q ys W (h'.below hB))
  have HB := Lib.hid (Below.refl w.heap.size w)
  clear h h'
  go_enter Try.func66, Try.ntmps66
  go_wp2_with (go_at_call 75; (first
    | ((with_reducible refine (R1.out _ HB.out).mono ?_); rintro e w1 ⟨va, Ra, rfl, hg1, hb1⟩; obtain ⟨A1, c1, rfl⟩ := own_slice hg1.hd; have HG1 := Lib.hid hg1; have HB1 := Lib.hid (HB.out.trans (hb1.mono HB.out.size)); clear hg1 hb1)
    | ((with_reducible refine (R2.out _ HB1.out).mono ?_); rintro e w2 ⟨vb, Rb, rfl, hg2, hb2⟩; obtain ⟨A2, c2, rfl⟩ := own_slice hg2.hd; have HG2 := Lib.hid hg2; have HG1' := Lib.hid (HG1.out.below hb2); have HS := Lib.hid hb2.size; have HB2 := Lib.hid (HB1.out.trans (hb2.mono HB1.out.size)); clear hg2 hb2)))
  go_ret
  refine ⟨w1.heap.size, w2.heap.size, w2.heap.size, .slice A1 n c1, .slice A2 n c2, Ra, Rb, rfl, ⟨Blk.new w2 _ _, ?_, ?_, HB1.out.size, HS.out, Nat.le_refl _⟩, HB2.out.alloc HB2.out.size _⟩
  · exact (HG1'.out.below ((Below.refl _ _).alloc (Nat.le_refl _) _)).congr (fun i _ j hj => by rw [if_pos hj])
  · exact (HG2.out.below ((Below.refl _ _).alloc (Nat.le_refl _) _)).congr (fun i _ j hj => by rw [if_neg (by omega), Nat.add_sub_cancel_left])
def PivPost (n fr col : Nat) (C : Mtx) (r : Int) : Prop := (r = -1 ∧ ∀ j, fr ≤ j → j < n → C j col = 0) ∨ ∃ k : Nat, r = k ∧ fr ≤ k ∧ k < n ∧ (∀ j, fr ≤ j → j < k → C j col = 0) ∧ C k col ≠ 0
set_option maxRecDepth 100000 in
theorem pivot_any (lo mid top p n m q fr col : Nat) (va vb : Value) (Ra Rb : Nat → Value) (C : Mtx) (w : World) (h : Work w lo mid top p va vb n m q Ra Rb C) (hn1 : 1 ≤ n) (hn : n ≤ 1000000) (hf : fr ≤ n) (hc : col < m) :
    Calls Try.prog 76 #[.pointer (some ⟨p, 0, none⟩), .int .i64 fr, .int .i64 col] w fun e w' => ∃ r, e = .returned (.int .i64 r) ∧ PivPost n fr col C r ∧ w' = w := by
  obtain ⟨g, cg, rfl, _⟩ := h.ga.form (by omega)
  have hva := h.cells.1
  have HE := Lib.hid (fun i (hi : i < n) => show ∃ b c, w.cell? ⟨g, i, none⟩ = some (.slice (some ⟨b, 0, none⟩) m c) ∧ w.cell? ⟨b, col, none⟩ = some (.int .u8 (C i col)) by
    obtain ⟨b, c, e, _⟩ := h.ga.rform (by omega) i hi
    have h1 := (h.ga.head i hi).1
    rw [e] at h1
    exact ⟨b, c, h1, (h.ga.elem i hi e col hc).1⟩)
  have g2 : (0 : Int) ≤ (col : Int) := by omega
  have g3 : (col : Int) < (m : Int) := by omega
  clear h
  go_enter Try.func76, Try.ntmps76
  go_upto_region 2 with (fail)
  go_loopw [7] (fun iv wr => ∃ (i : Nat), fr ≤ i ∧ i ≤ n ∧ iv = .int .i64 i ∧ wr = w ∧ Hid (∀ j, fr ≤ j → j < i → C j col = 0)) (fun iv _ => n - (intOf iv).toNat)
  case atStart => exact ⟨fr, Nat.le_refl _, hf, rfl, rfl, Lib.hid (fun j h1 h2 => absurd h1 (by omega))⟩
  case round =>
    obtain ⟨i, hfi, hi, rfl, rfl, HZ⟩ := hrel
    by_cases hlt : i < n
    · obtain ⟨b, c, h1, h2⟩ := HE.out i hlt
      have g0 : (0 : Int) ≤ (i : Int) := by omega
      have g1 : (i : Int) < (n : Int) := by omega
      by_cases hz : C i col = 0
      · rw [hz] at h2
        go_wp2
        go_roundw
        case rel =>
          refine ⟨i + 1, by omega, by omega, by go_num, (by first | trivial | rfl), Lib.hid (fun j h1 h2 => ?_)⟩
          rcases Nat.lt_or_ge j i with h | h
          · exact HZ.out j h1 h
          · obtain rfl : j = i := by omega
            exact hz
        case measure => simp [intOf]; omega
      · have t1 : (C i col != 0) = true := by simp [hz]
        have HN := Lib.hid hz
        clear hz
        go_wp2
        go_ret
        exact ⟨_, rfl, .inr ⟨i, rfl, hfi, hlt, HZ.out, HN.out⟩, rfl⟩
    · obtain rfl : i = n := by omega
      go_wp2
      go_ret
      exact ⟨_, rfl, .inl ⟨rfl, HZ.out⟩, rfl⟩
theorem joinW {G : Prop} (Inv : World → Prop) {C : World → Prop} (h1 : (∀ w, Inv w → C w) → G) (h2 : ∀ w, Inv w → C w) : G := h1 h2
def swpR {α : Type} (R : Nat → α) (i k : Nat) : Nat → α := fun q => if q = k then R i else if q = i then R k else R q
theorem Grid.head2 {w : World} {lo hi n m g c : Nat} {R : Nat → Value} {M : Mtx} (h : Grid w lo hi (.slice (some ⟨g, 0, none⟩) n c) n m R M) (i k : Nat) (hi' : i < n) (hk : k < n) :
    (w.setCell ⟨g, i, none⟩ (R k)).cell? ⟨g, k, none⟩ = some (R k) ∧ (w.setCell ⟨g, i, none⟩ (R k)).frozen? ⟨g, k, none⟩ = false := by
  have h1 := (h.hd.stored i (R k)).1
  refine ⟨?_, h1.frozenAt k⟩
  rw [h1.cellAt k (by omega), heads_set n R i hi', heads_get n _ k hk]
  split <;> rfl
theorem Grid.insd {w : World} {lo hi n m g c : Nat} {R : Nat → Value} {M : Mtx} (h : Grid w lo hi (.slice (some ⟨g, 0, none⟩) n c) n m R M) (i k : Nat) (u u' : Value) : w.grownBy ((w.setCell ⟨g, i, none⟩ u).setCell ⟨g, k, none⟩ u') (some g) :=
  World.grownBy.trans (h.hd.stored i u).2 ((h.hd.stored i u).1.stored k u').2
theorem swap_end {w W W9 : World} {lo mid top p n m q i k g cg g' cg' b1 c1 b2 c2 b3 c3 b4 c4 : Nat} {va vb : Value} {Ra Rb : Nat → Value} {C : Mtx}
    (HE : Ra i = .slice (some ⟨b1, 0, none⟩) m c1 ∧ Ra k = .slice (some ⟨b2, 0, none⟩) m c2 ∧ Rb i = .slice (some ⟨b3, 0, none⟩) q c3 ∧ Rb k = .slice (some ⟨b4, 0, none⟩) q c4)
    (H : Work w lo mid top p va vb n m q Ra Rb C) (HBK : Blk W p 100 #[.slice (some ⟨g, 0, none⟩) n cg, .slice (some ⟨g', 0, none⟩) n cg']) (HG : w.grownBy W (some g))
    (HW1 : Grid W lo mid (.slice (some ⟨g, 0, none⟩) n cg) n m (fun r => if r = k then .slice (some ⟨b1, 0, none⟩) m c1 else if r = i then .slice (some ⟨b2, 0, none⟩) m c2 else Ra r) (fun r => if r = k then C i else if r = i then C k else C r))
    (HW2 : Grid W9 mid top (.slice (some ⟨g', 0, none⟩) n cg') n q (fun r => if r = k then .slice (some ⟨b3, 0, none⟩) q c3 else if r = i then .slice (some ⟨b4, 0, none⟩) q c4 else Rb r) (fun r => if r = k then (fun j => C i (m + j)) else if r = i then (fun j => C k (m + j)) else fun j => C r (m + j)) ∧ W.grownBy W9 (some g'))
    (hgl : lo ≤ g) (hgh : g < mid) (hgl' : mid ≤ g') (hgh' : g' < top) :
    Ending.returned (.tuple #[]) = Ending.returned (.tuple #[]) ∧ Work W9 lo mid top p (.slice (some ⟨g, 0, none⟩) n cg) (.slice (some ⟨g', 0, none⟩) n cg') n m q (swpR Ra i k) (swpR Rb i k) (swpR C i k) ∧ Insd lo top w W9 := by
  have HG2 : W.grownBy W9 (some g') := HW2.2
  have X := (Insd.grown HG hgl (show g < top by have := H.l2; omega)).trans (Insd.grown HG2 (show lo ≤ g' by have := H.l1; omega) hgh')
  have hbk2 := HBK.grown HG2 (fun e => by injection e with e; have := H.l3; omega)
  have h1 := HW1
  rw [← HE.1, ← HE.2.1] at h1
  have h1' := h1.grown HG2 (.inr hgl')
  have h2 := HW2.1
  rw [← HE.2.2.1, ← HE.2.2.2] at h2
  have h2' : Grid W9 mid top (.slice (some ⟨g', 0, none⟩) n cg') n q (swpR Rb i k) (fun r j => swpR C i k r (m + j)) := h2.congr (fun q' _ j _ => by
    unfold swpR
    by_cases e1 : q' = k
    · rw [if_pos e1, if_pos e1]
    · rw [if_neg e1, if_neg e1]
      by_cases e2 : q' = i
      · rw [if_pos e2, if_pos e2]
      · rw [if_neg e2, if_neg e2])
  exact ⟨rfl, ⟨hbk2, h1', h2', H.l1, H.l2, H.l3⟩, X⟩
set_option maxRecDepth 100000 in
set_option maxHeartbeats 2000000 in
theorem swap_any (lo mid top p n m q i k : Nat) (va vb : Value) (Ra Rb : Nat → Value) (C : Mtx) (w : World) (h : Work w lo mid top p va vb n m q Ra Rb C) (hn : n ≤ 1000000) (hi : i < n) (hk : k < n) (hm : 1 ≤ m) (hq : 1 ≤ q) :
    Calls Try.prog 77 #[.pointer (some ⟨p, 0, none⟩), .int .i64 i, .int .i64 k] w fun e w' => e = .returned (.tuple #[]) ∧ Work w' lo mid top p va vb n m q (swpR Ra i k) (swpR Rb i k) (swpR C i k) ∧ Insd lo top w w' := by
  obtain ⟨g, cg, rfl, _, hgl, hgh, _⟩ := h.ga.form (by omega)
  obtain ⟨g', cg', rfl, _, hgl', hgh', _⟩ := h.gb.form (by omega)
  obtain ⟨hva, hvb⟩ := h.cells
  obtain ⟨b1, c1, e1, _⟩ := h.ga.rform (by omega) i hi
  obtain ⟨b2, c2, e2, _⟩ := h.ga.rform (by omega) k hk
  obtain ⟨b3, c3, e3, _⟩ := h.gb.rform (by omega) i hi
  obtain ⟨b4, c4, e4, _⟩ := h.gb.rform (by omega) k hk
  have z1 := (h.ga.head i hi).1
  have z2 := (h.ga.head k hk).1
  have f1 := (h.ga.head i hi).2
  have f2 := (h.ga.head k hk).2
  rw [e1] at z1
  rw [e2] at z2
  have g0 : (0 : Int) ≤ (i : Int) := by omega
  have g1 : (i : Int) < (n : Int) := by omega
  have g2 : (0 : Int) ≤ (k : Int) := by omega
  have g3 : (k : Int) < (n : Int) := by omega
  have H := Lib.hid h
  have HE := Lib.hid (And.intro e1 (And.intro e2 (And.intro e3 e4)))
  obtain ⟨y1, y2⟩ := h.ga.head2 i k hi hk
  have HW1 := Lib.hid (And.intro (h.ga.swap i k hi hk) (h.ga.insd i k (Ra k) (Ra i)))
  have hpg : p ≠ g := by have := h.l2; have := h.l3; omega
  have sv1 := (World.cell?_setCell_other w ⟨g, i, none⟩ ⟨p, 0, none⟩ (.slice (some ⟨b2, 0, none⟩) m c2) (fun e => hpg (by injection e with e1; exact e1.symm))).trans hva
  have sv2 := (World.cell?_setCell_other (w.setCell ⟨g, i, none⟩ (.slice (some ⟨b2, 0, none⟩) m c2)) ⟨g, k, none⟩ ⟨p, 0, none⟩ (.slice (some ⟨b1, 0, none⟩) m c1) (fun e => hpg (by injection e with e1; exact e1.symm))).trans sv1
  rw [e2] at y1 y2
  rw [e1, e2] at HW1
  clear h e1 e2 e3 e4
  go_enter Try.func77, Try.ntmps77
  go_wp2
  go_upto_region 0 with (fail)
  apply joinW (fun W => W = ((w.setCell ⟨g, i, none⟩ (.slice (some ⟨b2, 0, none⟩) m c2)).setCell ⟨g, k, none⟩ (.slice (some ⟨b1, 0, none⟩) m c1)).drew)
  · intro REST
    refine wp_region_noPanic ?_
    refine wp_region_held_drew (S := (fun W => W.cell? ⟨p, 0, none⟩ = some (.slice (some ⟨g, 0, none⟩) n cg))) (by kernel_rfl) ?_ (fun hHeld => ?_)
    · ((try dsimp only); first | exact hva | exact sv1 | exact sv2)
    refine wpAnyH_take (i := 0) (oi := { dst := some 6, op := .move (.tmp 0), type := 96, pos := _, after := _, guard := none }) (v := ?_) rfl (by kernel_rfl) (by kernel_rfl) (by kernel_rfl) (fun _ _ _ h => h) (Or.inl ⟨by rfl, ?_⟩) (by assumption) ?_
    rotate_left 1
    · (intro w hSw; (try dsimp only at hSw); go_simp; try with_reducible rfl)
    try simp only [Act.put, List.setIfInBounds_toArray, List.set_cons_zero, List.set_cons_succ]
    refine wpAnyH_take (i := 1) (oi := { dst := some 7, op := .nilCheck (.tmp 6), type := 0, pos := _, after := _, guard := none }) (v := ?_) rfl (by kernel_rfl) (by kernel_rfl) (by kernel_rfl) (fun _ _ _ h => h) (Or.inl ⟨by rfl, ?_⟩) (by assumption) ?_
    rotate_left 1
    · (intro w hSw; (try dsimp only at hSw); go_simp; try with_reducible rfl)
    try simp only [Act.put, List.setIfInBounds_toArray, List.set_cons_zero, List.set_cons_succ]
    refine wpAnyH_take (i := 2) (oi := { dst := some 8, op := .fieldAddr 100 (.tmp 7) 0, type := 0, pos := _, after := _, guard := none }) (v := ?_) rfl (by kernel_rfl) (by kernel_rfl) (by kernel_rfl) (fun _ _ _ h => h) (Or.inl ⟨by rfl, ?_⟩) (by assumption) ?_
    rotate_left 1
    · (intro w hSw; (try dsimp only at hSw); go_simp; try with_reducible rfl)
    try simp only [Act.put, List.setIfInBounds_toArray, List.set_cons_zero, List.set_cons_succ]
    refine wpAnyH_take (i := 3) (oi := { dst := some 9, op := .load 39 (.tmp 8), type := 39, pos := _, after := _, guard := none }) (v := ?_) rfl (by kernel_rfl) (by kernel_rfl) (by kernel_rfl) (fun _ _ _ h => h) (Or.inl ⟨by rfl, ?_⟩) (by assumption) ?_
    rotate_left 1
    · (intro w hSw; (try dsimp only at hSw); go_simp; try with_reducible rfl)
    try simp only [Act.put, List.setIfInBounds_toArray, List.set_cons_zero, List.set_cons_succ]
    refine wpAnyH_take (i := 4) (oi := { dst := some 10, op := .move (.tmp 1), type := 3, pos := _, after := _, guard := none }) (v := ?_) rfl (by kernel_rfl) (by kernel_rfl) (by kernel_rfl) (fun _ _ _ h => h) (Or.inl ⟨by rfl, ?_⟩) (by assumption) ?_
    rotate_left 1
    · (intro w hSw; (try dsimp only at hSw); go_simp; try with_reducible rfl)
    try simp only [Act.put, List.setIfInBounds_toArray, List.set_cons_zero, List.set_cons_succ]
    refine wpAnyH_take (i := 5) (oi := { dst := some 11, op := .move (.tmp 0), type := 96, pos := _, after := _, guard := none }) (v := ?_) rfl (by kernel_rfl) (by kernel_rfl) (by kernel_rfl) (fun _ _ _ h => h) (Or.inl ⟨by rfl, ?_⟩) (by assumption) ?_
    rotate_left 1
    · (intro w hSw; (try dsimp only at hSw); go_simp; try with_reducible rfl)
    try simp only [Act.put, List.setIfInBounds_toArray, List.set_cons_zero, List.set_cons_succ]
    refine wpAnyH_take (i := 6) (oi := { dst := some 12, op := .nilCheck (.tmp 11), type := 0, pos := _, after := _, guard := none }) (v := ?_) rfl (by kernel_rfl) (by kernel_rfl) (by kernel_rfl) (fun _ _ _ h => h) (Or.inl ⟨by rfl, ?_⟩) (by assumption) ?_
    rotate_left 1
    · (intro w hSw; (try dsimp only at hSw); go_simp; try with_reducible rfl)
    try simp only [Act.put, List.setIfInBounds_toArray, List.set_cons_zero, List.set_cons_succ]
    refine wpAnyH_take (i := 7) (oi := { dst := some 13, op := .fieldAddr 100 (.tmp 12) 0, type := 0, pos := _, after := _, guard := none }) (v := ?_) rfl (by kernel_rfl) (by kernel_rfl) (by kernel_rfl) (fun _ _ _ h => h) (Or.inl ⟨by rfl, ?_⟩) (by assumption) ?_
    rotate_left 1
    · (intro w hSw; (try dsimp only at hSw); go_simp; try with_reducible rfl)
    try simp only [Act.put, List.setIfInBounds_toArray, List.set_cons_zero, List.set_cons_succ]
    refine wpAnyH_take (i := 8) (oi := { dst := some 14, op := .load 39 (.tmp 13), type := 39, pos := _, after := _, guard := none }) (v := ?_) rfl (by kernel_rfl) (by kernel_rfl) (by kernel_rfl) (fun _ _ _ h => h) (Or.inl ⟨by rfl, ?_⟩) (by assumption) ?_
    rotate_left 1
    · (intro w hSw; (try dsimp only at hSw); go_simp; try with_reducible rfl)
    try simp only [Act.put, List.setIfInBounds_toArray, List.set_cons_zero, List.set_cons_succ]
    refine wpAnyH_take (i := 9) (oi := { dst := some 15, op := .move (.tmp 2), type := 3, pos := _, after := _, guard := none }) (v := ?_) rfl (by kernel_rfl) (by kernel_rfl) (by kernel_rfl) (fun _ _ _ h => h) (Or.inl ⟨by rfl, ?_⟩) (by assumption) ?_
    rotate_left 1
    · (intro w hSw; (try dsimp only at hSw); go_simp; try with_reducible rfl)
    try simp only [Act.put, List.setIfInBounds_toArray, List.set_cons_zero, List.set_cons_succ]
    refine wpAnyH_take (i := 10) (oi := { dst := some 16, op := .move (.tmp 0), type := 96, pos := _, after := _, guard := none }) (v := ?_) rfl (by kernel_rfl) (by kernel_rfl) (by kernel_rfl) (fun _ _ _ h => h) (Or.inl ⟨by rfl, ?_⟩) (by assumption) ?_
    rotate_left 1
    · (intro w hSw; (try dsimp only at hSw); go_simp; try with_reducible rfl)
    try simp only [Act.put, List.setIfInBounds_toArray, List.set_cons_zero, List.set_cons_succ]
    refine wpAnyH_take (i := 11) (oi := { dst := some 17, op := .nilCheck (.tmp 16), type := 0, pos := _, after := _, guard := none }) (v := ?_) rfl (by kernel_rfl) (by kernel_rfl) (by kernel_rfl) (fun _ _ _ h => h) (Or.inl ⟨by rfl, ?_⟩) (by assumption) ?_
    rotate_left 1
    · (intro w hSw; (try dsimp only at hSw); go_simp; try with_reducible rfl)
    try simp only [Act.put, List.setIfInBounds_toArray, List.set_cons_zero, List.set_cons_succ]
    refine wpAnyH_take (i := 12) (oi := { dst := some 18, op := .fieldAddr 100 (.tmp 17) 0, type := 0, pos := _, after := _, guard := none }) (v := ?_) rfl (by kernel_rfl) (by kernel_rfl) (by kernel_rfl) (fun _ _ _ h => h) (Or.inl ⟨by rfl, ?_⟩) (by assumption) ?_
    rotate_left 1
    · (intro w hSw; (try dsimp only at hSw); go_simp; try with_reducible rfl)
    try simp only [Act.put, List.setIfInBounds_toArray, List.set_cons_zero, List.set_cons_succ]
    refine wpAnyH_take (i := 13) (oi := { dst := some 19, op := .load 39 (.tmp 18), type := 39, pos := _, after := _, guard := none }) (v := ?_) rfl (by kernel_rfl) (by kernel_rfl) (by kernel_rfl) (fun _ _ _ h => h) (Or.inl ⟨by rfl, ?_⟩) (by assumption) ?_
    rotate_left 1
    · (intro w hSw; (try dsimp only at hSw); go_simp; try with_reducible rfl)
    try simp only [Act.put, List.setIfInBounds_toArray, List.set_cons_zero, List.set_cons_succ]
    refine wpAnyH_take (i := 14) (oi := { dst := some 20, op := .move (.tmp 2), type := 3, pos := _, after := _, guard := none }) (v := ?_) rfl (by kernel_rfl) (by kernel_rfl) (by kernel_rfl) (fun _ _ _ h => h) (Or.inl ⟨by rfl, ?_⟩) (by assumption) ?_
    rotate_left 1
    · (intro w hSw; (try dsimp only at hSw); go_simp; try with_reducible rfl)
    try simp only [Act.put, List.setIfInBounds_toArray, List.set_cons_zero, List.set_cons_succ]
    refine wpAnyH_take (i := 15) (oi := { dst := some 21, op := .indexAddr 39 (.tmp 19) (.tmp 20), type := 0, pos := _, after := _, guard := none }) (v := ?_) rfl (by kernel_rfl) (by kernel_rfl) (by kernel_rfl) (fun _ _ _ h => h) (Or.inl ⟨by rfl, ?_⟩) (by assumption) ?_
    rotate_left 1
    · (intro w hSw; (try dsimp only at hSw); go_simp; try with_reducible rfl)
    try simp only [Act.put, List.setIfInBounds_toArray, List.set_cons_zero, List.set_cons_succ]
    refine wpAnyH_take (i := 17) (oi := { dst := some 23, op := .move (.tmp 0), type := 96, pos := _, after := _, guard := none }) (v := ?_) rfl (by kernel_rfl) (by kernel_rfl) (by kernel_rfl) (fun _ _ _ h => h) (Or.inl ⟨by rfl, ?_⟩) (by assumption) ?_
    rotate_left 1
    · (intro w hSw; (try dsimp only at hSw); go_simp; try with_reducible rfl)
    try simp only [Act.put, List.setIfInBounds_toArray, List.set_cons_zero, List.set_cons_succ]
    refine wpAnyH_take (i := 18) (oi := { dst := some 24, op := .nilCheck (.tmp 23), type := 0, pos := _, after := _, guard := none }) (v := ?_) rfl (by kernel_rfl) (by kernel_rfl) (by kernel_rfl) (fun _ _ _ h => h) (Or.inl ⟨by rfl, ?_⟩) (by assumption) ?_
    rotate_left 1
    · (intro w hSw; (try dsimp only at hSw); go_simp; try with_reducible rfl)
    try simp only [Act.put, List.setIfInBounds_toArray, List.set_cons_zero, List.set_cons_succ]
    refine wpAnyH_take (i := 19) (oi := { dst := some 25, op := .fieldAddr 100 (.tmp 24) 0, type := 0, pos := _, after := _, guard := none }) (v := ?_) rfl (by kernel_rfl) (by kernel_rfl) (by kernel_rfl) (fun _ _ _ h => h) (Or.inl ⟨by rfl, ?_⟩) (by assumption) ?_
    rotate_left 1
    · (intro w hSw; (try dsimp only at hSw); go_simp; try with_reducible rfl)
    try simp only [Act.put, List.setIfInBounds_toArray, List.set_cons_zero, List.set_cons_succ]
    refine wpAnyH_take (i := 20) (oi := { dst := some 26, op := .load 39 (.tmp 25), type := 39, pos := _, after := _, guard := none }) (v := ?_) rfl (by kernel_rfl) (by kernel_rfl) (by kernel_rfl) (fun _ _ _ h => h) (Or.inl ⟨by rfl, ?_⟩) (by assumption) ?_
    rotate_left 1
    · (intro w hSw; (try dsimp only at hSw); go_simp; try with_reducible rfl)
    try simp only [Act.put, List.setIfInBounds_toArray, List.set_cons_zero, List.set_cons_succ]
    refine wpAnyH_take (i := 21) (oi := { dst := some 27, op := .move (.tmp 1), type := 3, pos := _, after := _, guard := none }) (v := ?_) rfl (by kernel_rfl) (by kernel_rfl) (by kernel_rfl) (fun _ _ _ h => h) (Or.inl ⟨by rfl, ?_⟩) (by assumption) ?_
    rotate_left 1
    · (intro w hSw; (try dsimp only at hSw); go_simp; try with_reducible rfl)
    try simp only [Act.put, List.setIfInBounds_toArray, List.set_cons_zero, List.set_cons_succ]
    refine wpAnyH_take (i := 22) (oi := { dst := some 28, op := .indexAddr 39 (.tmp 26) (.tmp 27), type := 0, pos := _, after := _, guard := none }) (v := ?_) rfl (by kernel_rfl) (by kernel_rfl) (by kernel_rfl) (fun _ _ _ h => h) (Or.inl ⟨by rfl, ?_⟩) (by assumption) ?_
    rotate_left 1
    · (intro w hSw; (try dsimp only at hSw); go_simp; try with_reducible rfl)
    try simp only [Act.put, List.setIfInBounds_toArray, List.set_cons_zero, List.set_cons_succ]
    refine wpAnyH_ready (rs := [16, 23]) (by kernel_rfl) (by simp) ?_
    refine AllReadyH.cons (o := { dst := some 22, op := .load 22 (.tmp 21), type := 22, pos := _, after := _, guard := none }) rfl (fun K hK => ?_) ?_
    · go_simp
      clear hHeld
      refine hK.out _ _ ?_ (fun hHeld => ?_)
      · ((try dsimp only); first | exact hva | exact sv1 | exact sv2)
      clear hK K
      refine wpAnyH_ready (rs := [23]) (by kernel_rfl) (by simp) ?_
      refine AllReadyH.cons (o := { dst := some 29, op := .load 22 (.tmp 28), type := 22, pos := _, after := _, guard := none }) rfl (fun K hK => ?_) AllReadyH.nil
      go_simp
      clear hHeld
      refine hK.out _ _ ?_ (fun hHeld => ?_)
      · ((try dsimp only); first | exact hva | exact sv1 | exact sv2)
      clear hK K
      refine wpAnyH_take (i := 24) (oi := { dst := some 30, op := .indexAddr 39 (.tmp 9) (.tmp 10), type := 0, pos := _, after := _, guard := none }) (v := ?_) rfl (by kernel_rfl) (by kernel_rfl) (by kernel_rfl) (fun _ _ _ h => h) (Or.inl ⟨by rfl, ?_⟩) (by assumption) ?_
      rotate_left 1
      · (intro w hSw; (try dsimp only at hSw); go_simp; try with_reducible rfl)
      try simp only [Act.put, List.setIfInBounds_toArray, List.set_cons_zero, List.set_cons_succ]
      refine wpAnyH_ready (rs := [25]) (by kernel_rfl) (by simp) ?_
      refine AllReadyH.cons (o := { dst := none, op := .store 22 (.tmp 30) (.tmp 22), type := 0, pos := _, after := _, guard := none }) rfl (fun K hK => ?_) AllReadyH.nil
      go_simp
      clear hHeld
      refine hK.out _ _ ?_ (fun hHeld => ?_)
      · ((try dsimp only); first | exact hva | exact sv1 | exact sv2)
      clear hK K
      refine wpAnyH_take (i := 26) (oi := { dst := some 31, op := .indexAddr 39 (.tmp 14) (.tmp 15), type := 0, pos := _, after := _, guard := none }) (v := ?_) rfl (by kernel_rfl) (by kernel_rfl) (by kernel_rfl) (fun _ _ _ h => h) (Or.inl ⟨by rfl, ?_⟩) (by assumption) ?_
      rotate_left 1
      · (intro w hSw; (try dsimp only at hSw); go_simp; try with_reducible rfl)
      try simp only [Act.put, List.setIfInBounds_toArray, List.set_cons_zero, List.set_cons_succ]
      refine wpAnyH_ready (rs := [27]) (by kernel_rfl) (by simp) ?_
      refine AllReadyH.cons (o := { dst := none, op := .store 22 (.tmp 31) (.tmp 29), type := 0, pos := _, after := _, guard := none }) rfl (fun K hK => ?_) AllReadyH.nil
      go_simp
      clear hHeld
      refine hK.out _ _ ?_ (fun hHeld => ?_)
      · ((try dsimp only); first | exact hva | exact sv1 | exact sv2)
      clear hK K
      refine wpAnyH_done (by kernel_rfl) ?_ _
      refine NoPanic.normal ?_
      exact REST _ rfl
    refine AllReadyH.cons (o := { dst := some 29, op := .load 22 (.tmp 28), type := 22, pos := _, after := _, guard := none }) rfl (fun K hK => ?_) AllReadyH.nil
    go_simp
    clear hHeld
    refine hK.out _ _ ?_ (fun hHeld => ?_)
    · ((try dsimp only); first | exact hva | exact sv1 | exact sv2)
    clear hK K
    refine wpAnyH_ready (rs := [16]) (by kernel_rfl) (by simp) ?_
    refine AllReadyH.cons (o := { dst := some 22, op := .load 22 (.tmp 21), type := 22, pos := _, after := _, guard := none }) rfl (fun K hK => ?_) AllReadyH.nil
    go_simp
    clear hHeld
    refine hK.out _ _ ?_ (fun hHeld => ?_)
    · ((try dsimp only); first | exact hva | exact sv1 | exact sv2)
    clear hK K
    refine wpAnyH_take (i := 24) (oi := { dst := some 30, op := .indexAddr 39 (.tmp 9) (.tmp 10), type := 0, pos := _, after := _, guard := none }) (v := ?_) rfl (by kernel_rfl) (by kernel_rfl) (by kernel_rfl) (fun _ _ _ h => h) (Or.inl ⟨by rfl, ?_⟩) (by assumption) ?_
    rotate_left 1
    · (intro w hSw; (try dsimp only at hSw); go_simp; try with_reducible rfl)
    try simp only [Act.put, List.setIfInBounds_toArray, List.set_cons_zero, List.set_cons_succ]
    refine wpAnyH_ready (rs := [25]) (by kernel_rfl) (by simp) ?_
    refine AllReadyH.cons (o := { dst := none, op := .store 22 (.tmp 30) (.tmp 22), type := 0, pos := _, after := _, guard := none }) rfl (fun K hK => ?_) AllReadyH.nil
    go_simp
    clear hHeld
    refine hK.out _ _ ?_ (fun hHeld => ?_)
    · ((try dsimp only); first | exact hva | exact sv1 | exact sv2)
    clear hK K
    refine wpAnyH_take (i := 26) (oi := { dst := some 31, op := .indexAddr 39 (.tmp 14) (.tmp 15), type := 0, pos := _, after := _, guard := none }) (v := ?_) rfl (by kernel_rfl) (by kernel_rfl) (by kernel_rfl) (fun _ _ _ h => h) (Or.inl ⟨by rfl, ?_⟩) (by assumption) ?_
    rotate_left 1
    · (intro w hSw; (try dsimp only at hSw); go_simp; try with_reducible rfl)
    try simp only [Act.put, List.setIfInBounds_toArray, List.set_cons_zero, List.set_cons_succ]
    refine wpAnyH_ready (rs := [27]) (by kernel_rfl) (by simp) ?_
    refine AllReadyH.cons (o := { dst := none, op := .store 22 (.tmp 31) (.tmp 29), type := 0, pos := _, after := _, guard := none }) rfl (fun K hK => ?_) AllReadyH.nil
    go_simp
    clear hHeld
    refine hK.out _ _ ?_ (fun hHeld => ?_)
    · ((try dsimp only); first | exact hva | exact sv1 | exact sv2)
    clear hK K
    refine wpAnyH_done (by kernel_rfl) ?_ _
    refine NoPanic.normal ?_
    exact REST _ rfl
  rintro W hW
  have HG := Lib.hid (show w.grownBy W (some g) by rw [hW]; exact World.grownBy.trans HW1.out.2 ⟨rfl, rfl, rfl, Nat.le_refl _, fun _ _ _ => rfl⟩)
  have HW1' := Lib.hid (HW1.out.1.drewN 1)
  change Hid (Grid (World.drew _) _ _ _ _ _ _ _) at HW1'
  rw [← hW] at HW1'
  clear sv1 sv2
  have hgb := H.out.gb.grown HG.out (.inl (by omega))
  have hbk := H.out.blk.grown HG.out (fun e => by injection e with e; have := H.out.l2; have := H.out.l3; omega)
  obtain ⟨e3, e4⟩ := HE.out.2.2
  have hvb2 : W.cell? ⟨p, 1, none⟩ = some (.slice (some ⟨g', 0, none⟩) n cg') := (hbk.cell 1).trans rfl
  have z3 := (hgb.head i hi).1
  have z4 := (hgb.head k hk).1
  have f3 := (hgb.head i hi).2
  have f4 := (hgb.head k hk).2
  rw [e3] at z3
  rw [e4] at z4
  obtain ⟨y3, y4⟩ := hgb.head2 i k hi hk
  have HW2 := Lib.hid (And.intro (hgb.swap i k hi hk) (hgb.insd i k (Rb k) (Rb i)))
  have hpg2 : p ≠ g' := by have := H.out.l3; omega
  have sv1 := (World.cell?_setCell_other W ⟨g', i, none⟩ ⟨p, 1, none⟩ (.slice (some ⟨b4, 0, none⟩) q c4) (fun e => hpg2 (by injection e with e1; exact e1.symm))).trans hvb2
  have sv2 := (World.cell?_setCell_other (W.setCell ⟨g', i, none⟩ (.slice (some ⟨b4, 0, none⟩) q c4)) ⟨g', k, none⟩ ⟨p, 1, none⟩ (.slice (some ⟨b3, 0, none⟩) q c3) (fun e => hpg2 (by injection e with e1; exact e1.symm))).trans sv1
  rw [e4] at y3 y4
  rw [e3, e4] at HW2
  have HBK := Lib.hid hbk
  clear hgb hbk e3 e4 hW y1 y2 z1 z2 f1 f2 hva hvb
  go_upto_region 1 with (fail)
  apply joinW (fun V => V = ((W.setCell ⟨g', i, none⟩ (.slice (some ⟨b4, 0, none⟩) q c4)).setCell ⟨g', k, none⟩ (.slice (some ⟨b3, 0, none⟩) q c3)).drew)
  · intro REST
    refine wp_region_noPanic ?_
    refine wp_region_held_drew (S := (fun W => W.cell? ⟨p, 1, none⟩ = some (.slice (some ⟨g', 0, none⟩) n cg'))) (by kernel_rfl) ?_ (fun hHeld => ?_)
    · ((try dsimp only); first | exact hvb2 | exact sv1 | exact sv2)
    refine wpAnyH_take (i := 0) (oi := { dst := some 32, op := .move (.tmp 0), type := 96, pos := _, after := _, guard := none }) (v := ?_) rfl (by kernel_rfl) (by kernel_rfl) (by kernel_rfl) (fun _ _ _ h => h) (Or.inl ⟨by rfl, ?_⟩) (by assumption) ?_
    rotate_left 1
    · (intro w hSw; (try dsimp only at hSw); go_simp; try with_reducible rfl)
    try simp only [Act.put, List.setIfInBounds_toArray, List.set_cons_zero, List.set_cons_succ]
    refine wpAnyH_take (i := 1) (oi := { dst := some 33, op := .nilCheck (.tmp 32), type := 0, pos := _, after := _, guard := none }) (v := ?_) rfl (by kernel_rfl) (by kernel_rfl) (by kernel_rfl) (fun _ _ _ h => h) (Or.inl ⟨by rfl, ?_⟩) (by assumption) ?_
    rotate_left 1
    · (intro w hSw; (try dsimp only at hSw); go_simp; try with_reducible rfl)
    try simp only [Act.put, List.setIfInBounds_toArray, List.set_cons_zero, List.set_cons_succ]
    refine wpAnyH_take (i := 2) (oi := { dst := some 34, op := .fieldAddr 100 (.tmp 33) 1, type := 0, pos := _, after := _, guard := none }) (v := ?_) rfl (by kernel_rfl) (by kernel_rfl) (by kernel_rfl) (fun _ _ _ h => h) (Or.inl ⟨by rfl, ?_⟩) (by assumption) ?_
    rotate_left 1
    · (intro w hSw; (try dsimp only at hSw); go_simp; try with_reducible rfl)
    try simp only [Act.put, List.setIfInBounds_toArray, List.set_cons_zero, List.set_cons_succ]
    refine wpAnyH_take (i := 3) (oi := { dst := some 35, op := .load 39 (.tmp 34), type := 39, pos := _, after := _, guard := none }) (v := ?_) rfl (by kernel_rfl) (by kernel_rfl) (by kernel_rfl) (fun _ _ _ h => h) (Or.inl ⟨by rfl, ?_⟩) (by assumption) ?_
    rotate_left 1
    · (intro w hSw; (try dsimp only at hSw); go_simp; try with_reducible rfl)
    try simp only [Act.put, List.setIfInBounds_toArray, List.set_cons_zero, List.set_cons_succ]
    refine wpAnyH_take (i := 4) (oi := { dst := some 36, op := .move (.tmp 1), type := 3, pos := _, after := _, guard := none }) (v := ?_) rfl (by kernel_rfl) (by kernel_rfl) (by kernel_rfl) (fun _ _ _ h => h) (Or.inl ⟨by rfl, ?_⟩) (by assumption) ?_
    rotate_left 1
    · (intro w hSw; (try dsimp only at hSw); go_simp; try with_reducible rfl)
    try simp only [Act.put, List.setIfInBounds_toArray, List.set_cons_zero, List.set_cons_succ]
    refine wpAnyH_take (i := 5) (oi := { dst := some 37, op := .move (.tmp 0), type := 96, pos := _, after := _, guard := none }) (v := ?_) rfl (by kernel_rfl) (by kernel_rfl) (by kernel_rfl) (fun _ _ _ h => h) (Or.inl ⟨by rfl, ?_⟩) (by assumption) ?_
    rotate_left 1
    · (intro w hSw; (try dsimp only at hSw); go_simp; try with_reducible rfl)
    try simp only [Act.put, List.setIfInBounds_toArray, List.set_cons_zero, List.set_cons_succ]
    refine wpAnyH_take (i := 6) (oi := { dst := some 38, op := .nilCheck (.tmp 37), type := 0, pos := _, after := _, guard := none }) (v := ?_) rfl (by kernel_rfl) (by kernel_rfl) (by kernel_rfl) (fun _ _ _ h => h) (Or.inl ⟨by rfl, ?_⟩) (by assumption) ?_
    rotate_left 1
    · (intro w hSw; (try dsimp only at hSw); go_simp; try with_reducible rfl)
    try simp only [Act.put, List.setIfInBounds_toArray, List.set_cons_zero, List.set_cons_succ]
    refine wpAnyH_take (i := 7) (oi := { dst := some 39, op := .fieldAddr 100 (.tmp 38) 1, type := 0, pos := _, after := _, guard := none }) (v := ?_) rfl (by kernel_rfl) (by kernel_rfl) (by kernel_rfl) (fun _ _ _ h => h) (Or.inl ⟨by rfl, ?_⟩) (by assumption) ?_
    rotate_left 1
    · (intro w hSw; (try dsimp only at hSw); go_simp; try with_reducible rfl)
    try simp only [Act.put, List.setIfInBounds_toArray, List.set_cons_zero, List.set_cons_succ]
    refine wpAnyH_take (i := 8) (oi := { dst := some 40, op := .load 39 (.tmp 39), type := 39, pos := _, after := _, guard := none }) (v := ?_) rfl (by kernel_rfl) (by kernel_rfl) (by kernel_rfl) (fun _ _ _ h => h) (Or.inl ⟨by rfl, ?_⟩) (by assumption) ?_
    rotate_left 1
    · (intro w hSw; (try dsimp only at hSw); go_simp; try with_reducible rfl)
    try simp only [Act.put, List.setIfInBounds_toArray, List.set_cons_zero, List.set_cons_succ]
    refine wpAnyH_take (i := 9) (oi := { dst := some 41, op := .move (.tmp 2), type := 3, pos := _, after := _, guard := none }) (v := ?_) rfl (by kernel_rfl) (by kernel_rfl) (by kernel_rfl) (fun _ _ _ h => h) (Or.inl ⟨by rfl, ?_⟩) (by assumption) ?_
    rotate_left 1
    · (intro w hSw; (try dsimp only at hSw); go_simp; try with_reducible rfl)
    try simp only [Act.put, List.setIfInBounds_toArray, List.set_cons_zero, List.set_cons_succ]
    refine wpAnyH_take (i := 10) (oi := { dst := some 42, op := .move (.tmp 0), type := 96, pos := _, after := _, guard := none }) (v := ?_) rfl (by kernel_rfl) (by kernel_rfl) (by kernel_rfl) (fun _ _ _ h => h) (Or.inl ⟨by rfl, ?_⟩) (by assumption) ?_
    rotate_left 1
    · (intro w hSw; (try dsimp only at hSw); go_simp; try with_reducible rfl)
    try simp only [Act.put, List.setIfInBounds_toArray, List.set_cons_zero, List.set_cons_succ]
    refine wpAnyH_take (i := 11) (oi := { dst := some 43, op := .nilCheck (.tmp 42), type := 0, pos := _, after := _, guard := none }) (v := ?_) rfl (by kernel_rfl) (by kernel_rfl) (by kernel_rfl) (fun _ _ _ h => h) (Or.inl ⟨by rfl, ?_⟩) (by assumption) ?_
    rotate_left 1
    · (intro w hSw; (try dsimp only at hSw); go_simp; try with_reducible rfl)
    try simp only [Act.put, List.setIfInBounds_toArray, List.set_cons_zero, List.set_cons_succ]
    refine wpAnyH_take (i := 12) (oi := { dst := some 44, op := .fieldAddr 100 (.tmp 43) 1, type := 0, pos := _, after := _, guard := none }) (v := ?_) rfl (by kernel_rfl) (by kernel_rfl) (by kernel_rfl) (fun _ _ _ h => h) (Or.inl ⟨by rfl, ?_⟩) (by assumption) ?_
    rotate_left 1
    · (intro w hSw; (try dsimp only at hSw); go_simp; try with_reducible rfl)
    try simp only [Act.put, List.setIfInBounds_toArray, List.set_cons_zero, List.set_cons_succ]
    refine wpAnyH_take (i := 13) (oi := { dst := some 45, op := .load 39 (.tmp 44), type := 39, pos := _, after := _, guard := none }) (v := ?_) rfl (by kernel_rfl) (by kernel_rfl) (by kernel_rfl) (fun _ _ _ h => h) (Or.inl ⟨by rfl, ?_⟩) (by assumption) ?_
    rotate_left 1
    · (intro w hSw; (try dsimp only at hSw); go_simp; try with_reducible rfl)
    try simp only [Act.put, List.setIfInBounds_toArray, List.set_cons_zero, List.set_cons_succ]
    refine wpAnyH_take (i := 14) (oi := { dst := some 46, op := .move (.tmp 2), type := 3, pos := _, after := _, guard := none }) (v := ?_) rfl (by kernel_rfl) (by kernel_rfl) (by kernel_rfl) (fun _ _ _ h => h) (Or.inl ⟨by rfl, ?_⟩) (by assumption) ?_
    rotate_left 1
    · (intro w hSw; (try dsimp only at hSw); go_simp; try with_reducible rfl)
    try simp only [Act.put, List.setIfInBounds_toArray, List.set_cons_zero, List.set_cons_succ]
    refine wpAnyH_take (i := 15) (oi := { dst := some 47, op := .indexAddr 39 (.tmp 45) (.tmp 46), type := 0, pos := _, after := _, guard := none }) (v := ?_) rfl (by kernel_rfl) (by kernel_rfl) (by kernel_rfl) (fun _ _ _ h => h) (Or.inl ⟨by rfl, ?_⟩) (by assumption) ?_
    rotate_left 1
    · (intro w hSw; (try dsimp only at hSw); go_simp; try with_reducible rfl)
    try simp only [Act.put, List.setIfInBounds_toArray, List.set_cons_zero, List.set_cons_succ]
    refine wpAnyH_take (i := 17) (oi := { dst := some 49, op := .move (.tmp 0), type := 96, pos := _, after := _, guard := none }) (v := ?_) rfl (by kernel_rfl) (by kernel_rfl) (by kernel_rfl) (fun _ _ _ h => h) (Or.inl ⟨by rfl, ?_⟩) (by assumption) ?_
    rotate_left 1
    · (intro w hSw; (try dsimp only at hSw); go_simp; try with_reducible rfl)
    try simp only [Act.put, List.setIfInBounds_toArray, List.set_cons_zero, List.set_cons_succ]
    refine wpAnyH_take (i := 18) (oi := { dst := some 50, op := .nilCheck (.tmp 49), type := 0, pos := _, after := _, guard := none }) (v := ?_) rfl (by kernel_rfl) (by kernel_rfl) (by kernel_rfl) (fun _ _ _ h => h) (Or.inl ⟨by rfl, ?_⟩) (by assumption) ?_
    rotate_left 1
    · (intro w hSw; (try dsimp only at hSw); go_simp; try with_reducible rfl)
    try simp only [Act.put, List.setIfInBounds_toArray, List.set_cons_zero, List.set_cons_succ]
    refine wpAnyH_take (i := 19) (oi := { dst := some 51, op := .fieldAddr 100 (.tmp 50) 1, type := 0, pos := _, after := _, guard := none }) (v := ?_) rfl (by kernel_rfl) (by kernel_rfl) (by kernel_rfl) (fun _ _ _ h => h) (Or.inl ⟨by rfl, ?_⟩) (by assumption) ?_
    rotate_left 1
    · (intro w hSw; (try dsimp only at hSw); go_simp; try with_reducible rfl)
    try simp only [Act.put, List.setIfInBounds_toArray, List.set_cons_zero, List.set_cons_succ]
    refine wpAnyH_take (i := 20) (oi := { dst := some 52, op := .load 39 (.tmp 51), type := 39, pos := _, after := _, guard := none }) (v := ?_) rfl (by kernel_rfl) (by kernel_rfl) (by kernel_rfl) (fun _ _ _ h => h) (Or.inl ⟨by rfl, ?_⟩) (by assumption) ?_
    rotate_left 1
    · (intro w hSw; (try dsimp only at hSw); go_simp; try with_reducible rfl)
    try simp only [Act.put, List.setIfInBounds_toArray, List.set_cons_zero, List.set_cons_succ]
    refine wpAnyH_take (i := 21) (oi := { dst := some 53, op := .move (.tmp 1), type := 3, pos := _, after := _, guard := none }) (v := ?_) rfl (by kernel_rfl) (by kernel_rfl) (by kernel_rfl) (fun _ _ _ h => h) (Or.inl ⟨by rfl, ?_⟩) (by assumption) ?_
    rotate_left 1
    · (intro w hSw; (try dsimp only at hSw); go_simp; try with_reducible rfl)
    try simp only [Act.put, List.setIfInBounds_toArray, List.set_cons_zero, List.set_cons_succ]
    refine wpAnyH_take (i := 22) (oi := { dst := some 54, op := .indexAddr 39 (.tmp 52) (.tmp 53), type := 0, pos := _, after := _, guard := none }) (v := ?_) rfl (by kernel_rfl) (by kernel_rfl) (by kernel_rfl) (fun _ _ _ h => h) (Or.inl ⟨by rfl, ?_⟩) (by assumption) ?_
    rotate_left 1
    · (intro w hSw; (try dsimp only at hSw); go_simp; try with_reducible rfl)
    try simp only [Act.put, List.setIfInBounds_toArray, List.set_cons_zero, List.set_cons_succ]
    refine wpAnyH_ready (rs := [16, 23]) (by kernel_rfl) (by simp) ?_
    refine AllReadyH.cons (o := { dst := some 48, op := .load 22 (.tmp 47), type := 22, pos := _, after := _, guard := none }) rfl (fun K hK => ?_) ?_
    · go_simp
      clear hHeld
      refine hK.out _ _ ?_ (fun hHeld => ?_)
      · ((try dsimp only); first | exact hvb2 | exact sv1 | exact sv2)
      clear hK K
      refine wpAnyH_ready (rs := [23]) (by kernel_rfl) (by simp) ?_
      refine AllReadyH.cons (o := { dst := some 55, op := .load 22 (.tmp 54), type := 22, pos := _, after := _, guard := none }) rfl (fun K hK => ?_) AllReadyH.nil
      go_simp
      clear hHeld
      refine hK.out _ _ ?_ (fun hHeld => ?_)
      · ((try dsimp only); first | exact hvb2 | exact sv1 | exact sv2)
      clear hK K
      refine wpAnyH_take (i := 24) (oi := { dst := some 56, op := .indexAddr 39 (.tmp 35) (.tmp 36), type := 0, pos := _, after := _, guard := none }) (v := ?_) rfl (by kernel_rfl) (by kernel_rfl) (by kernel_rfl) (fun _ _ _ h => h) (Or.inl ⟨by rfl, ?_⟩) (by assumption) ?_
      rotate_left 1
      · (intro w hSw; (try dsimp only at hSw); go_simp; try with_reducible rfl)
      try simp only [Act.put, List.setIfInBounds_toArray, List.set_cons_zero, List.set_cons_succ]
      refine wpAnyH_ready (rs := [25]) (by kernel_rfl) (by simp) ?_
      refine AllReadyH.cons (o := { dst := none, op := .store 22 (.tmp 56) (.tmp 48), type := 0, pos := _, after := _, guard := none }) rfl (fun K hK => ?_) AllReadyH.nil
      go_simp
      clear hHeld
      refine hK.out _ _ ?_ (fun hHeld => ?_)
      · ((try dsimp only); first | exact hvb2 | exact sv1 | exact sv2)
      clear hK K
      refine wpAnyH_take (i := 26) (oi := { dst := some 57, op := .indexAddr 39 (.tmp 40) (.tmp 41), type := 0, pos := _, after := _, guard := none }) (v := ?_) rfl (by kernel_rfl) (by kernel_rfl) (by kernel_rfl) (fun _ _ _ h => h) (Or.inl ⟨by rfl, ?_⟩) (by assumption) ?_
      rotate_left 1
      · (intro w hSw; (try dsimp only at hSw); go_simp; try with_reducible rfl)
      try simp only [Act.put, List.setIfInBounds_toArray, List.set_cons_zero, List.set_cons_succ]
      refine wpAnyH_ready (rs := [27]) (by kernel_rfl) (by simp) ?_
      refine AllReadyH.cons (o := { dst := none, op := .store 22 (.tmp 57) (.tmp 55), type := 0, pos := _, after := _, guard := none }) rfl (fun K hK => ?_) AllReadyH.nil
      go_simp
      clear hHeld
      refine hK.out _ _ ?_ (fun hHeld => ?_)
      · ((try dsimp only); first | exact hvb2 | exact sv1 | exact sv2)
      clear hK K
      refine wpAnyH_done (by kernel_rfl) ?_ _
      refine NoPanic.normal ?_
      exact REST _ rfl
    refine AllReadyH.cons (o := { dst := some 55, op := .load 22 (.tmp 54), type := 22, pos := _, after := _, guard := none }) rfl (fun K hK => ?_) AllReadyH.nil
    go_simp
    clear hHeld
    refine hK.out _ _ ?_ (fun hHeld => ?_)
    · ((try dsimp only); first | exact hvb2 | exact sv1 | exact sv2)
    clear hK K
    refine wpAnyH_ready (rs := [16]) (by kernel_rfl) (by simp) ?_
    refine AllReadyH.cons (o := { dst := some 48, op := .load 22 (.tmp 47), type := 22, pos := _, after := _, guard := none }) rfl (fun K hK => ?_) AllReadyH.nil
    go_simp
    clear hHeld
    refine hK.out _ _ ?_ (fun hHeld => ?_)
    · ((try dsimp only); first | exact hvb2 | exact sv1 | exact sv2)
    clear hK K
    refine wpAnyH_take (i := 24) (oi := { dst := some 56, op := .indexAddr 39 (.tmp 35) (.tmp 36), type := 0, pos := _, after := _, guard := none }) (v := ?_) rfl (by kernel_rfl) (by kernel_rfl) (by kernel_rfl) (fun _ _ _ h => h) (Or.inl ⟨by rfl, ?_⟩) (by assumption) ?_
    rotate_left 1
    · (intro w hSw; (try dsimp only at hSw); go_simp; try with_reducible rfl)
    try simp only [Act.put, List.setIfInBounds_toArray, List.set_cons_zero, List.set_cons_succ]
    refine wpAnyH_ready (rs := [25]) (by kernel_rfl) (by simp) ?_
    refine AllReadyH.cons (o := { dst := none, op := .store 22 (.tmp 56) (.tmp 48), type := 0, pos := _, after := _, guard := none }) rfl (fun K hK => ?_) AllReadyH.nil
    go_simp
    clear hHeld
    refine hK.out _ _ ?_ (fun hHeld => ?_)
    · ((try dsimp only); first | exact hvb2 | exact sv1 | exact sv2)
    clear hK K
    refine wpAnyH_take (i := 26) (oi := { dst := some 57, op := .indexAddr 39 (.tmp 40) (.tmp 41), type := 0, pos := _, after := _, guard := none }) (v := ?_) rfl (by kernel_rfl) (by kernel_rfl) (by kernel_rfl) (fun _ _ _ h => h) (Or.inl ⟨by rfl, ?_⟩) (by assumption) ?_
    rotate_left 1
    · (intro w hSw; (try dsimp only at hSw); go_simp; try with_reducible rfl)
    try simp only [Act.put, List.setIfInBounds_toArray, List.set_cons_zero, List.set_cons_succ]
    refine wpAnyH_ready (rs := [27]) (by kernel_rfl) (by simp) ?_
    refine AllReadyH.cons (o := { dst := none, op := .store 22 (.tmp 57) (.tmp 55), type := 0, pos := _, after := _, guard := none }) rfl (fun K hK => ?_) AllReadyH.nil
    go_simp
    clear hHeld
    refine hK.out _ _ ?_ (fun hHeld => ?_)
    · ((try dsimp only); first | exact hvb2 | exact sv1 | exact sv2)
    clear hK K
    refine wpAnyH_done (by kernel_rfl) ?_ _
    refine NoPanic.normal ?_
    exact REST _ rfl
  rintro W9 hW9
  go_wp2
  first | go_end0 | ((try simp only [Exit.inBlock, Exit.then]); refine bodyPost_ret (results_none rfl _ _ _) rfl ?_)
  have HW2' := Lib.hid (HW2.out.1.drewN 1)
  change Hid (Grid (World.drew _) _ _ _ _ _ _ _) at HW2'
  rw [← hW9] at HW2'
  have HG9 := Lib.hid (show W.grownBy W9 (some g') by rw [hW9]; exact World.grownBy.trans HW2.out.2 ⟨rfl, rfl, rfl, Nat.le_refl _, fun _ _ _ => rfl⟩)
  refine swap_end HE.out H.out HBK.out HG.out HW1'.out ⟨HW2'.out, HG9.out⟩ hgl hgh hgl' hgh'
end Go.Proofs.Ytcnfafappcbpnaa.Sol
