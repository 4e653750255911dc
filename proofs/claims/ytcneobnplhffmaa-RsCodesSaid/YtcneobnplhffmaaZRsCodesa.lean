/- The statement RsCodes: what its proof rests on, part 1 of 2. -/
import Derived.Test.YtcneobnplhffmaaProg
import Derived.Below
import Derived.Deep.Draws
import Derived.Deep.AppendLies
import Derived.Maps.AppendAt
import Derived.OwnWalk
import Derived.Laws.BytesArg
import Derived.Laws.MakeOwn
import Derived.Laws.OwnMore
import Derived.Deep.OwnRows
import Derived.Tactics
import Derived.Lib.ConvBytes
import Derived.Laws.Slices
import Derived.WalkKit
import Derived.KernelRfl
import Derived.RowKit3
import Derived.Deep.LoopGhost
import Derived.Deep.QuietTactic
import Derived.BigQuiet
import Derived.WideLaws
import Derived.Deep.DeepCutAuto
import Derived.Deep.CutBlock
import Derived.Deep.RegionHeld3
import Derived.Laws.Rows
import Derived.Lib.AppendStr
import Derived.ArgAppend
import Derived.Laws.IdiomCopy
import Derived.OrdersHeld
import Derived.Laws.BitsLemmas
import Derived.RowKit
import Derived.Lib.Hide
import Derived.ProofKit
import Derived.OpenShut
import Derived.ChangeOld
import Derived.Deep.Slices
import Derived.Test.YtcneobnplhffmaaWWords
import Derived.WalkSpells
import Derived.StillTailTactics
import Derived.Outline
import Derived.Lib.Strings
import Derived.Lib.AppendZeros
import Derived.Test.YtcneobnplhffmaaPRsEncodesx3
/- Arguments of any kind, opened: what is read at a type is told by a kind of the print's words. -/
namespace Go.Proofs.Ytcneobnplhffmaa.Opn
open Go Go.RowKit Go.ChangeShapes Go.WideShapes Go.ChangeAt Go.Deep Go.Proofs.YtcneobnplhffmaaW.PrintWords
set_option linter.unusedVariables false

structure Opens {α : Type} (d : Kd α) (ok : α → Prop) (t : TypeId) : Prop where
  out : ∀ {H : Type} {enc : TypeId × Value → H} {W : World} {fuel : Nat} {cs : List Value} {x : DataW H × List MemPlace}, DataW.trod enc Try.prog W 0 (fun _ => true) true fuel t cs = some x → ∃ a, d.K W a cs ∧ ok a
theorem Opens.imp {α : Type} {d : Kd α} {ok ok' : α → Prop} {t : TypeId} (h : Opens d ok t) (hi : ∀ a, ok a → ok' a) : Opens d ok' t := by
  refine ⟨fun hx => ?_⟩
  obtain ⟨a, h1, h2⟩ := h.out hx
  exact ⟨a, h1, hi a h2⟩
theorem opens_int {k : IntKind} {t : TypeId} (ht : Try.prog.underlying t = some (.int k)) : Opens (Kd.int k) (fun a => (Lit.int k a).wf = true) t := by
  refine ⟨fun h => ?_⟩
  obtain ⟨n, rfl, _, hw⟩ := DataW.trod_int ht h
  exact ⟨n, rfl, hw⟩
theorem opens_bool {t : TypeId} (ht : Try.prog.underlying t = some .bool) : Opens Kd.bool (fun _ => True) t := by
  refine ⟨fun h => ?_⟩
  obtain ⟨n, rfl, _⟩ := DataW.trod_bool ht h
  exact ⟨n, rfl, trivial⟩
theorem opens_string {t : TypeId} (ht : Try.prog.underlying t = some .string) : Opens Kd.string (fun s => s.size ≤ maxLen) t := by
  refine ⟨fun h => ?_⟩
  obtain ⟨n, rfl, _, hs⟩ := DataW.trod_string ht h
  exact ⟨n, rfl, hs⟩
theorem opens_slice {α : Type} {d : Kd α} {ok : α → Prop} {t e : TypeId} (ht : Try.prog.underlying t = some (.slice e)) (hz : Try.prog.cellsOf e = d.sz) (h : Opens d ok e) :
    Opens (Kd.slice e d) (fun l => l.length ≤ 9223372036854775807 ∧ ∀ a ∈ l, ok a) t := by
  refine ⟨fun {H enc W fuel cs x} hx => ?_⟩
  rcases open_slice ht hx with ⟨rfl, _⟩ | ⟨a, len, cap, m, n, D, Pl, rfl, _, hl, hm, hmm, _, hi⟩
  · exact ⟨[], ⟨none, 0, rfl, Nat.le_refl _, Kd.C_nil d W⟩, by simp, fun a ha => by cases ha⟩
  · have hmc : m = cap := by simpa using hmm
    subst hmc
    have hm' : m ≤ 9223372036854775807 := by simpa [maxLen] using hm
    have hall : ∀ i, i < len → ∃ (v : α) (c : List Value), d.K W v c ∧ ok v ∧ c.length = d.sz ∧ ∀ j u, c[j]? = some u → W.cell? (a.add (i * d.sz + j)) = some u := by
      intro i hil
      obtain ⟨cs', hc, htr⟩ := hi i (by omega)
      obtain ⟨v, hK, hok⟩ := h.out htr
      obtain ⟨_, hlen, hcell⟩ := World.cells?_some hc
      rw [hz] at hlen hcell
      refine ⟨v, cs', hK, hok, hlen, fun j u hu => ?_⟩
      have hj : j < d.sz := by
        have := (List.getElem?_eq_some_iff.1 hu).1; omega
      rw [← hu, ← hcell j hj, Go.Deep.add_add]
    have hlist : ∃ l : List α, l.length = len ∧ ∀ j p, l[j]? = some p → ok p ∧ ∃ c, c.length = d.sz ∧ d.K W p c ∧ ∀ i u, c[i]? = some u → W.cell? (a.add (j * d.sz + i)) = some u := by
      clear hx hi hmm
      have : ∀ k, k ≤ len → ∃ l : List α, l.length = k ∧ ∀ j p, l[j]? = some p → ok p ∧ ∃ c, c.length = d.sz ∧ d.K W p c ∧ ∀ i u, c[i]? = some u → W.cell? (a.add (j * d.sz + i)) = some u := by
        intro k
        induction k with
        | zero => exact fun _ => ⟨[], rfl, fun j p hp => by simp at hp⟩
        | succ k ih =>
          intro hk
          obtain ⟨l, hl1, hl2⟩ := ih (by omega)
          obtain ⟨v, c, hK, hok, hlen, hc⟩ := hall k (by omega)
          refine ⟨l ++ [v], by simp [hl1], fun j p hp => ?_⟩
          rcases Nat.lt_or_ge j l.length with hj | hj
          · rw [List.getElem?_append_left hj] at hp
            exact hl2 j p hp
          · have hj' : j = k := by
              have := (List.getElem?_eq_some_iff.1 hp).1
              simp at this; omega
            subst hj'
            have hq : v = p := by
              rw [← hl1] at hp; simpa using hp
            subst hq
            exact ⟨hok, c, hlen, hK, hc⟩
      exact this len (Nat.le_refl _)
    obtain ⟨l, rfl, hl2⟩ := hlist
    refine ⟨l, ⟨some a, m, rfl, hl, rfl, by omega, fun _ => ⟨a, rfl, fun j p hp => ?_⟩⟩, by omega, fun v hv => ?_⟩
    · obtain ⟨_, c, h1, h2, h3⟩ := hl2 j p hp
      exact ⟨c, h1, h2, h3⟩
    · obtain ⟨j, hj⟩ := List.getElem?_of_mem hv
      exact (hl2 j v hj).1
/-- Fields in line: each one's type and how many cells it has. -/
def Segs {H : Type} (enc : TypeId × Value → H) (W : World) (n : Nat) : List (TypeId × Nat) → List Value → Prop
  | [], cs => cs = []
  | (t, s) :: r, cs => (∃ y, DataW.trod enc Try.prog W 0 (fun _ => true) true n t (cs.take s) = some y) ∧ s ≤ cs.length ∧ Segs enc W n r (cs.drop s)
structure OpensF {α : Type} (d : Kd α) (ok : α → Prop) (l : List (TypeId × Nat)) : Prop where
  out : ∀ {H : Type} {enc : TypeId × Value → H} {W : World} {n : Nat} {cs : List Value}, Segs enc W n l cs → ∃ a, d.K W a cs ∧ ok a
theorem opens_last {α : Type} {d : Kd α} {ok : α → Prop} {t : TypeId} {s : Nat} (h : Opens d ok t) : OpensF d ok [(t, s)] := by
  refine ⟨fun {H enc W n cs} hs => ?_⟩
  obtain ⟨⟨y, hy⟩, hl, he⟩ := hs
  have he' : cs.drop s = [] := he
  have hle : cs.length ≤ s := by simpa using he'
  rw [List.take_of_length_le hle] at hy
  exact h.out hy
theorem opens_pair {α β : Type} {d : Kd α} {d' : Kd β} {ok : α → Prop} {ok' : β → Prop} {t : TypeId} {s : Nat} {l : List (TypeId × Nat)} (h : Opens d ok t) (h' : OpensF d' ok' l) : OpensF (Kd.pair d d') (fun x => ok x.1 ∧ ok' x.2) ((t, s) :: l) := by
  refine ⟨fun {H enc W n cs} hs => ?_⟩
  obtain ⟨⟨y, hy⟩, hl, hr⟩ := hs
  obtain ⟨a, h1, h2⟩ := h.out hy
  obtain ⟨b, h3, h4⟩ := h'.out hr
  exact ⟨(a, b), ⟨cs.take s, cs.drop s, (List.take_append_drop s cs).symm, h1, h3⟩, h2, h4⟩
def offs (P : Program) : List Field → Nat → Bool
  | [], _ => true
  | f :: r, o => f.offset == o && offs P r (o + P.cellsOf f.type)
def total : List (TypeId × Nat) → Nat
  | [] => 0
  | (_, s) :: r => s + total r
theorem segs_of {H : Type} {enc : TypeId × Value → H} {W : World} {n : Nat} {cs : List Value} : ∀ (fs : List Field) (o : Nat), (∀ f ∈ fs, ∃ y, DataW.trod enc Try.prog W 0 (fun _ => true) true n f.type ((cs.drop f.offset).take (Try.prog.cellsOf f.type)) = some y) →
    offs Try.prog fs o = true → cs.length = o + total (fs.map fun f => (f.type, Try.prog.cellsOf f.type)) → Segs enc W n (fs.map fun f => (f.type, Try.prog.cellsOf f.type)) (cs.drop o)
  | [], o, _, _, hl => by
    simp only [List.map_nil, Segs, total] at *
    exact List.drop_of_length_le (by omega)
  | f :: r, o, h, ho, hl => by
    simp only [offs, Bool.and_eq_true, beq_iff_eq] at ho
    simp only [List.map_cons, Segs, total] at *
    refine ⟨?_, by rw [List.length_drop]; omega, ?_⟩
    · have := h f (List.mem_cons_self ..)
      rw [ho.1] at this
      exact this
    · rw [List.drop_drop]
      exact segs_of r (o + Try.prog.cellsOf f.type) (fun g hg => h g (List.mem_cons_of_mem _ hg)) ho.2 (by omega)
theorem opens_struct {α : Type} {d : Kd α} {ok : α → Prop} {t : TypeId} {fs : Array Field} {l : List (TypeId × Nat)} (ht : Try.prog.underlying t = some (.struct fs)) (ho : offs Try.prog fs.toList 0 = true)
    (hl : fs.toList.map (fun f => (f.type, Try.prog.cellsOf f.type)) = l) (hc : Try.prog.cellsOf t = total l) (h : OpensF d ok l) : Opens d ok t := by
  refine ⟨fun {H enc W fuel cs x} hx => ?_⟩
  obtain ⟨xs, n, _, _, hlen, hxs, hf⟩ := DataW.trod_struct ht hx
  have := segs_of (enc := enc) (W := W) (n := n) (cs := cs) fs.toList 0 (fun f hm => ?_) ho (by rw [hl, ← hc, hlen]; omega)
  · rw [hl] at this
    exact h.out this
  · obtain ⟨i, hi⟩ := List.getElem?_of_mem hm
    rw [Array.getElem?_toList] at hi
    have h1 := hf i f hi
    have hil : i < xs.length := by rw [hxs]; exact (Array.getElem?_eq_some_iff.1 hi).1
    exact ⟨xs[i], by rw [h1, List.getElem?_eq_getElem hil]⟩
theorem opens_iso {α β : Type} {d : Kd α} {ok : α → Prop} {t : TypeId} (f : β → α) (g : α → β) (hg : ∀ a, f (g a) = a) (h : Opens d ok t) : Opens (Kd.iso d f) (fun x => ok (f x)) t := by
  refine ⟨fun hx => ?_⟩
  obtain ⟨a, h1, h2⟩ := h.out hx
  exact ⟨g a, show d.K _ (f (g a)) _ by rw [hg]; exact h1, show ok (f (g a)) by rw [hg]; exact h2⟩
/-- A slice that comes in. -/
theorem slice_in {α : Type} {d : Kd α} {ok : List α → Prop} {t e : TypeId} {H : Type} {enc : TypeId × Value → H} {W : World} {a : Option Addr} {len cap : Nat} {x : DataW H} {p : List MemPlace}
    (h : Opens (Kd.slice e d) ok t) (hx : DataW.Trod enc Try.prog W 0 (fun _ => true) true t (.slice a len cap) x p) : ∃ l : List α, len = l.length ∧ d.C W a l.length l ∧ l.length ≤ cap ∧ ok l := by
  obtain ⟨fuel, hf⟩ := hx
  obtain ⟨l, ⟨A, c, hcs, hl, hC⟩, hok⟩ := h.out hf
  simp [Value.cells] at hcs
  obtain ⟨rfl, rfl, rfl⟩ := hcs
  exact ⟨l, rfl, hC, hl, hok⟩
/-- A struct that comes in. -/
theorem struct_in {α : Type} {d : Kd α} {ok : α → Prop} {t : TypeId} {H : Type} {enc : TypeId × Value → H} {W : World} {cs : Array Value} {x : DataW H} {p : List MemPlace}
    (h : Opens d ok t) (hx : DataW.Trod enc Try.prog W 0 (fun _ => true) true t (.agg cs) x p) : ∃ a : α, d.K W a cs.toList ∧ ok a := by
  obtain ⟨fuel, hf⟩ := hx
  exact h.out hf
end Go.Proofs.Ytcneobnplhffmaa.Opn
/- Words for memory: a slice that reads as a list; a block that is known whole. -/
namespace Go.Proofs.Ytcneobnplhffmaa.Mem
open Go Go.RowKit
theorem block_of_add (a : Addr) (n : Nat) : (a.add n).block = a.block := by unfold Addr.add; split <;> rfl
theorem add_of_add (a : Addr) (i j : Nat) : (a.add i).add j = a.add (i + j) := by
  unfold Addr.add
  by_cases hi : i = 0 <;> by_cases hj : j = 0 <;> simp [hi, hj, Nat.add_assoc]

def Reads (w : World) (B size : Nat) (A : Option Addr) (n : Nat) (xs : List Value) : Prop :=
  xs.length = n * size ∧ (0 < n → ∃ ad, A = some ad ∧ ad.block < B ∧ ∀ j u, xs[j]? = some u → w.cell? (ad.add j) = some u)

section
variable {w w' : World} {B B' size n : Nat} {A : Option Addr} {xs : List Value}
theorem Reads.none_ : Reads w B size A 0 [] := ⟨by simp, fun h => absurd h (by omega)⟩
theorem Reads.at_ {k : Nat} (h : Reads w B 1 A n xs) (hk : k < n) : ∃ ad u, A = some ad ∧ ad.block < B ∧ xs[k]? = some u ∧ w.cell? (ad.add k) = some u := by
  obtain ⟨ad, e, hb, hc⟩ := h.2 (by omega)
  have hl : k < xs.length := by have := h.1; omega
  exact ⟨ad, xs[k], e, hb, List.getElem?_eq_getElem hl, hc k _ (List.getElem?_eq_getElem hl)⟩
theorem Reads.keep (h : Reads w B size A n xs) (hk : ∀ p : Addr, p.block < B → w'.cell? p = w.cell? p) : Reads w' B size A n xs :=
  ⟨h.1, fun hn => by
    obtain ⟨ad, e, hb, hc⟩ := h.2 hn
    exact ⟨ad, e, hb, fun j u hu => (hk _ (by rw [block_of_add]; exact hb)).trans (hc j u hu)⟩⟩
theorem Reads.more (h : Reads w B size A n xs) (hB : B ≤ B') : Reads w B' size A n xs :=
  ⟨h.1, fun hn => by
    obtain ⟨ad, e, hb, hc⟩ := h.2 hn
    exact ⟨ad, e, by omega, hc⟩⟩
theorem Reads.below (h : Reads w B size A n xs) (hb : Below B w w') : Reads w' B size A n xs := h.keep fun _ hp => hb.cell hp
theorem Reads.drew (h : Reads w B size A n xs) : Reads w.drew B size A n xs := h
theorem Reads.drewN (h : Reads w B size A n xs) (k : Nat) : Reads (w.drewN k) B size A n xs := h
theorem Reads.alloc (h : Reads w B size A n xs) (hB : B ≤ w.heap.size) (o : Obj) : Reads (w.alloc o) B size A n xs := h.keep fun p hp => World.cell?_alloc_lt w o p (by omega)
theorem Reads.setCell (h : Reads w B size A n xs) {p : Addr} (hB : B ≤ p.block) (u : Value) : Reads (w.setCell p u) B size A n xs :=
  h.keep fun q hq => World.cell?_setCell_other w p q u (fun e => by subst e; omega)
theorem Reads.grown (h : Reads w B size A n xs) {row : Option Nat} (hg : w.grownBy w' row) (hB : B ≤ w.heap.size) (hr : ∀ g, row = some g → B ≤ g) : Reads w' B size A n xs :=
  h.keep fun p hp => World.cell?_of_block (hg.block p.block (by omega) (fun e => by have := hr _ e.symm; omega))
theorem Reads.cut (h : Reads w B size A n xs) {k cap : Nat} (hk : k ≤ n) (hc : n ≤ cap) :
    Reads w B size (if cap = k then A else A.map (·.add (k * size))) (n - k) (xs.drop (k * size)) := by
  refine ⟨by rw [List.length_drop, h.1, Nat.sub_mul], fun hn => ?_⟩
  obtain ⟨ad, rfl, hb, hcell⟩ := h.2 (by omega)
  rw [if_neg (by omega)]
  refine ⟨ad.add (k * size), rfl, by rw [block_of_add]; exact hb, fun j u hu => ?_⟩
  rw [add_of_add]
  exact hcell _ u (by rw [← hu, List.getElem?_drop])
theorem Reads.of_own {base : Nat} {e : TypeId} {c : Nat} (h : w.ownsRow base e size (.slice A n c) n xs) : Reads w w.heap.size size A n xs := by
  refine ⟨h.1, fun hn => ?_⟩
  obtain ⟨g, cap, hv, _, hlt⟩ := h.form hn
  have hA : A = some ⟨g, 0, none⟩ := by injection hv
  subst hA
  exact ⟨_, rfl, hlt, h.cells (g := g) rfl⟩
end
def Blk (w : World) (g : Nat) (t : TypeId) (cs : Array Value) : Prop := w.heap[g]? = some (.cells cs t (0, 0))

section
variable {w w' : World} {g : Nat} {t : TypeId} {cs : Array Value}
theorem Blk.lt (h : Blk w g t cs) : g < w.heap.size := by
  rcases Nat.lt_or_ge g w.heap.size with hlt | hge
  · exact hlt
  · unfold Blk at h; rw [Array.getElem?_eq_none hge] at h; cases h
theorem Blk.cell (h : Blk w g t cs) (i : Nat) : w.cell? ⟨g, i, none⟩ = cs[i]? := cell_of_row w g i cs t (0, 0) h
theorem Blk.frozen (h : Blk w g t cs) (i : Nat) : w.frozen? ⟨g, i, none⟩ = false := by
  unfold Blk at h
  simp [World.frozen?, h]
theorem Blk.new (w : World) (t : TypeId) (cs : Array Value) : Blk (w.alloc (.cells cs t)) w.heap.size t cs := heap_alloc_new w _
theorem Blk.drew (h : Blk w g t cs) : Blk w.drew g t cs := h
theorem Blk.drewN (h : Blk w g t cs) (n : Nat) : Blk (w.drewN n) g t cs := h
theorem Blk.alloc (h : Blk w g t cs) (o : Obj) : Blk (w.alloc o) g t cs := (Below.heap_alloc w o g h.lt).trans h
theorem Blk.set_ (h : Blk w g t cs) (i : Nat) (u : Value) : Blk (w.setCell ⟨g, i, none⟩ u) g t (cs.setIfInBounds i u) := by
  unfold Blk at h ⊢
  simp [World.setCell, Array.getElem?_modify, h]
theorem Blk.far (h : Blk w g t cs) {p : Addr} (hp : g ≠ p.block) (u : Value) : Blk (w.setCell p u) g t cs := (Below.heap_setCell w p u g hp).trans h
theorem Blk.below {B : Nat} (h : Blk w g t cs) (hb : Below B w w') (hg : g < B) : Blk w' g t cs := (hb.block g hg).trans h
theorem Blk.grown {row : Option Nat} (h : Blk w g t cs) (hb : w.grownBy w' row) (hg : some g ≠ row) : Blk w' g t cs := (hb.block g h.lt hg).trans h
theorem Blk.ne_ {g' : Nat} {t' : TypeId} {cs' : Array Value} (h : Blk w g t cs) (h' : Blk w g' t' cs') (hne : t ≠ t') : g ≠ g' := by
  rintro rfl
  unfold Blk at h h'
  rw [h] at h'
  injection h' with h'
  injection h' with _ ht
  exact hne ht
theorem own_blk_ne {base : Nat} {e : TypeId} {size n : Nat} {v : Value} {xs : List Value} (h : w.ownsRow base e size v n xs) (hg : Blk w g t cs) (hne : e ≠ t) : v.ownBlock ≠ some g := by
  rcases h.2 with ⟨rfl, _⟩ | ⟨g', cap, cur, rfl, _, hh, _⟩
  · simp [Value.ownBlock]
  · intro he
    have : g' = g := by simpa [Value.ownBlock] using he
    subst this
    exact Blk.ne_ (t := e) hh hg hne rfl
end
end Go.Proofs.Ytcneobnplhffmaa.Mem
/- Bits of whole numbers as the printed functions spell them, on natural numbers. -/
namespace Go.Proofs.Ytcneobnplhffmaa.Bits
open Go Go.RowKit

/-- 'bind' behind a 'some', by an equation that is none of definition: the kernel then never looks into what stands behind. -/
theorem bnd {α β : Type} (a : α) (f : α → Option β) : (some a).bind f = f a := by
  have h : ∀ o : Option α, o = some a → o.bind f = f a := fun o ho => by rw [ho]; rfl
  exact h _ rfl

theorem bits_xor (k : IntKind) (j : Nat) (hj : j ≤ k.bits) (hk : ∀ n : Int, 0 ≤ n → n < 2 ^ j → k.wrap n = n) (a b : Nat) (ha : a < 2 ^ j) (hb : b < 2 ^ j) :
    bits .xor k a b = ((a ^^^ b : Nat) : Int) := by
  have hp : 2 ^ j ≤ 2 ^ k.bits := Nat.pow_le_pow_right (by decide) hj
  have ha' : a % 2 ^ k.bits = a := Nat.mod_eq_of_lt (Nat.lt_of_lt_of_le ha hp)
  have hb' : b % 2 ^ k.bits = b := Nat.mod_eq_of_lt (Nat.lt_of_lt_of_le hb hp)
  simp only [bits, BitVec.ofInt_natCast, BitVec.toNat_xor, BitVec.toNat_ofNat, ha', hb']
  exact hk _ (Int.natCast_nonneg _) (by exact_mod_cast Nat.xor_lt_two_pow ha hb)

theorem wraps_i64 (n : Int) (h₀ : 0 ≤ n) (h₁ : n < 2 ^ 63) : IntKind.i64.wrap n = n := by rw [IntKind.wrap_i64]; omega
theorem wraps_u64 (n : Int) (h₀ : 0 ≤ n) (h₁ : n < 2 ^ 64) : IntKind.u64.wrap n = n := by
  simp [IntKind.wrap, IntKind.bits, IntKind.signed]; omega

theorem xor_i64 (a b : Nat) (ha : a < 9223372036854775808) (hb : b < 9223372036854775808) : bits .xor .i64 (a : Int) (b : Int) = ((a ^^^ b : Nat) : Int) :=
  bits_xor .i64 63 (by decide) wraps_i64 a b ha hb
theorem xor_u8 (a b : Nat) (ha : a < 256) (hb : b < 256) : bits .xor .u8 (a : Int) (b : Int) = ((a ^^^ b : Nat) : Int) :=
  bits_xor .u8 8 (by decide) wraps_u8 a b ha hb
theorem xor_u64 (a b : Nat) (ha : a < 18446744073709551616) (hb : b < 18446744073709551616) : bits .xor .u64 (a : Int) (b : Int) = ((a ^^^ b : Nat) : Int) :=
  bits_xor .u64 64 (by decide) wraps_u64 a b ha hb
theorem and1_u8 (a : Nat) (ha : a < 256) : bits .and .u8 (a : Int) 1 = ((a % 2 : Nat) : Int) := by
  have := bits_mask .u8 8 (by decide) wraps_u8 1 (by decide) (a : Int) (by omega) (by omega)
  simpa using this
theorem and1_i64 (a : Nat) (ha : a < 9223372036854775808) : bits .and .i64 (a : Int) 1 = ((a % 2 : Nat) : Int) := by
  have := bits_mask .i64 63 (by decide) wraps_i64 1 (by decide) (a : Int) (by omega) (by omega)
  simpa using this
theorem wrap64_nat (n : Nat) (h : n < 9223372036854775808) : wrap64 (n : Int) = n := by unfold wrap64; omega
theorem wrap64_in (n : Int) (h0 : -9223372036854775808 ≤ n) (h : n < 9223372036854775808) : wrap64 n = n := by unfold wrap64; omega
theorem wf_u8 {a : Int} (h : (Lit.int .u8 a).wf = true) : ∃ n : Nat, n < 256 ∧ a = n := by
  simp [Lit.wf, IntKind.min, IntKind.max, IntKind.signed, IntKind.bits] at h
  exact ⟨a.toNat, by omega, by omega⟩
end Go.Proofs.Ytcneobnplhffmaa.Bits
/- Rows of bytes of the call's own: one more, appended; a row read; rows alike (for seats without a matrix). -/
namespace Go.Proofs.Ytcneobnplhffmaa.Rws
open Go Go.RowKit Go.Proofs.Ytcneobnplhffmaa.Mem Go.Proofs.Ytcneobnplhffmaa.Bits Go.Proofs.YtcneobnplhffmaaW.PrintWords
set_option linter.unusedVariables false

def Bytes (xs : List Int) : Prop := ∀ x ∈ xs, 0 ≤ x ∧ x < 256
def AllBytes (ls : List (List Int)) : Prop := ∀ l ∈ ls, Bytes l
abbrev kRow : Kd (List Int) := Kd.slice 5 (Kd.int .u8)
abbrev RowsC (w : World) (A : Option Addr) (ls : List (List Int)) : Prop := Kd.C kRow w A ls.length ls
abbrev RowsR (w : World) (base : Nat) (v : Value) (ls : List (List Int)) : Prop := Kd.R kRow 22 w base (fun _ => True) v ls
theorem RowsC.get {w : World} {A : Option Addr} {ls : List (List Int)} (h : RowsC w A ls) (i : Nat) (hi : i < ls.length) :
    ∃ ad A0 c0, A = some ad ∧ w.cell? (ad.add i) = some (.slice A0 (ls.getD i []).length c0) ∧ (ls.getD i []).length ≤ c0 ∧ (Kd.int .u8).C w A0 (ls.getD i []).length (ls.getD i []) := by
  obtain ⟨ad, c, e, _, hK, hc0⟩ := Kd.C_get h [] (i : Int) (by omega) (by omega)
  obtain ⟨A0, c0, rfl, l0, g0⟩ := hK
  refine ⟨ad, A0, c0, e, ?_, l0, g0⟩
  have hq := hc0 0 _ rfl
  simpa [Kd.slice] using hq
theorem info_rows : (Try.prog.info? 22).map (fun i => (i.zero, i.size, i.bytes)) = some (some (.slice none 0 0), 1, 24) := by kernel_rfl
theorem row_M {w : World} {base b0 : Nat} {u : Value} {n : Nat} {ys : List Int} (h : w.ownsRow b0 5 1 u n (nums .u8 ys)) (hb : base ≤ b0) (hn : ys.length = n) : kRow.M w base (fun k => some k = u.ownBlock) ys [u] := by
  refine ⟨u, rfl, Kd.R_of_own ?_ (fun k hk => hk.symm)⟩
  have := own_weaken h hb
  rw [← hn] at this; exact this
/-- One row more, appended: its bytes in a block that is new since wr. -/
theorem rows_append {P : Program} {ops : Array Oper} {rest : List Oper} {o : Oper} {a : Act} {Q : Exit → Act → World → Prop} {w0 W wr : World} (hP : P = Try.prog) (base : Nat) (hgd : o.guard = none) (s x : Operand)
    (ho : o.op = .call { callee := .builtin .append, args := #[s, x], argTypes := #[67, 67] }) (v : Value) (ls : List (List Int)) (ys : List Int) (g cap n : Nat)
    (hs : a.eval s = v) (hx : a.eval x = .slice (some ⟨W.heap.size, 0, none⟩) 1 1) (HR : RowsR wr base v ls) (HB : Below base w0 wr) (hbase : base ≤ wr.heap.size) (hB : Below wr.heap.size wr W)
    (hu : W.ownsRow wr.heap.size 5 1 (.slice (some ⟨g, 0, none⟩) n cap) n (nums .u8 ys)) (hn : ys.length = n) (hg : wr.heap.size ≤ g) (hl : ls.length ≤ 1000000)
    (h : ∀ v1 w1, RowsR w1 base v1 (ls ++ [ys]) → Below base w0 w1 → wpList P ops Q rest (a.put o.dst v1) w1) :
    wpList P ops Q (o :: rest) a (W.alloc (.cells #[.slice (some ⟨g, 0, none⟩) n cap] 22)) := by
  subst hP
  refine Kd.R_append kRow (w0 := w0) base hgd s x 67 22 (.slice none 0 0) 24 ho Try.underlying67 info_rows rfl (by decide) (by decide) v ls ys [.slice (some ⟨g, 0, none⟩) n cap] (fun _ => True)
    (fun k => some k = (Value.slice (some ⟨g, 0, none⟩) n cap).ownBlock) hs hx (row_M hu hbase hn) ?_ (fun _ _ => trivial) (Kd.R_below HR hB) ?_ (Nat.le_trans hbase hB.size) (by omega) (fun v1 w1 h1 h2 _ _ => h v1 w1 h1 h2)
  · intro k hk
    refine ⟨trivial, fun e => ?_⟩
    have e1 : g = k := by simpa [Value.ownBlock] using hk.symm
    have := Kd.R_lt HR k e.symm
    omega
  · exact HB.trans (hB.mono hbase)
/-- The same, the row known by its kind: its block is new since wr. -/
theorem rows_append2 {P : Program} {ops : Array Oper} {rest : List Oper} {o : Oper} {a : Act} {Q : Exit → Act → World → Prop} {w0 W wr : World} (hP : P = Try.prog) (base : Nat) (hgd : o.guard = none) (s x : Operand)
    (ho : o.op = .call { callee := .builtin .append, args := #[s, x], argTypes := #[67, 67] }) (v u : Value) (ls : List (List Int)) (ys : List Int)
    (hs : a.eval s = v) (hx : a.eval x = .slice (some ⟨W.heap.size, 0, none⟩) 1 1) (HR : RowsR wr base v ls) (HB : Below base w0 W) (hbase : base ≤ wr.heap.size) (hB : Below wr.heap.size wr W)
    (hu : (Kd.int .u8).R 5 W wr.heap.size (fun _ => True) u ys) (hl : ls.length ≤ 1000000)
    (h : ∀ v1 w1, RowsR w1 base v1 (ls ++ [ys]) → Below base w0 w1 → wpList P ops Q rest (a.put o.dst v1) w1) :
    wpList P ops Q (o :: rest) a (W.alloc (.cells #[u] 22)) := by
  subst hP
  have hown : W.ownsRow wr.heap.size 5 1 u ys.length (nums .u8 ys) := Kd.own_of_R hu
  refine Kd.R_append kRow (w0 := w0) base hgd s x 67 22 (.slice none 0 0) 24 ho Try.underlying67 info_rows rfl (by decide) (by decide) v ls ys [u] (fun _ => True)
    (fun k => some k = u.ownBlock) hs hx (row_M hown hbase rfl) ?_ (fun _ _ => trivial) (Kd.R_below HR hB) HB (Nat.le_trans hbase hB.size) (by omega) (fun v1 w1 h1 h2 _ _ => h v1 w1 h1 h2)
  intro k hk
  refine ⟨trivial, fun e => ?_⟩
  have h1 := own_base hown k hk.symm
  have := Kd.R_lt HR k e.symm
  omega
theorem info_byte : (Try.prog.info? 5).map (fun i => (i.zero, i.size, i.bytes)) = some (some (.int .u8 0), 1, 1) := by kernel_rfl
theorem info_byte1 : (Try.prog.info? 5).map (·.size) = some 1 := by kernel_rfl
end Go.Proofs.Ytcneobnplhffmaa.Rws
/- A row put into rows of the call's own. -/
namespace Go.Proofs.Ytcneobnplhffmaa.Rws
open Go Go.RowKit Go.Proofs.Ytcneobnplhffmaa.Mem Go.Proofs.YtcneobnplhffmaaW.PrintWords
set_option linter.unusedVariables false

theorem relem {W : World} {base g n cap : Nat} {ls : List (List Int)} (h : RowsR W base (.slice (some ⟨g, 0, none⟩) n cap) ls) (i : Nat) (hi : i < n) :
    ∃ A0 c0, W.cell? ⟨g, i, none⟩ = some (.slice A0 (ls.getD i []).length c0) ∧ W.frozen? ⟨g, i, none⟩ = false ∧ (ls.getD i []).length ≤ c0 ∧ (Kd.int .u8).C W A0 (ls.getD i []).length (ls.getD i []) ∧ kRow.M W base (fun k => k ≠ g) (ls.getD i []) [.slice A0 (ls.getD i []).length c0] := by
  have hn := (Kd.R_reads' h).1
  obtain ⟨c, hc, hM, hcc, hf⟩ := Kd.R_elem h [] (i : Int) (by omega) (by omega)
  obtain ⟨ad, c', e, _, hK, hc0⟩ := Kd.C_get (Kd.R_reads' h).2.2 [] (i : Int) (by omega) (by omega)
  rw [Int.toNat_natCast] at hM hK hcc hf
  obtain ⟨u, rfl, hu⟩ := hM
  obtain ⟨A0, c0, rfl, l0, g0⟩ := hK
  have h1 := hcc 0 u rfl
  injection e with e
  subst e
  have h2 := hc0 0 _ rfl
  have e3 : W.cell? ⟨g, i, none⟩ = some u := by simpa [Kd.slice] using h1
  have e4 : W.cell? ⟨g, i, none⟩ = some (.slice A0 (ls.getD i []).length c0) := by
    have : (⟨g, 0, none⟩ : Addr).add i = ⟨g, i, none⟩ := by by_cases h : i = 0 <;> simp [Addr.add, h]
    rw [← this]; simpa [Kd.slice] using h2
  rw [e3] at e4
  injection e4 with e4
  subst e4
  refine ⟨A0, c0, e3, by simpa [Kd.slice] using hf 0, l0, g0, ⟨_, rfl, Kd.R_mono hu (fun k hk => hk.2)⟩⟩
theorem rput {W : World} {base g n cap : Nat} {ls : List (List Int)} (h : RowsR W base (.slice (some ⟨g, 0, none⟩) n cap) ls) (i : Nat) (hi : i < n) (u : Value) (x' : List Int) (okp : Nat → Prop) (hM : kRow.M W base okp x' [u]) (hokp : ∀ k, okp k → k ≠ g) :
    RowsR (W.setCell ⟨g, i, none⟩ u) base (.slice (some ⟨g, 0, none⟩) n cap) (ls.set i x') := by
  obtain ⟨A0, c0, hc, _⟩ := relem h i hi
  have := (Kd.R_seg (seg := [u]) (c := [.slice A0 (ls.getD i []).length c0]) (j := 0) h (i : Int) (by omega) (by omega) rfl (fun j v hj => by
    cases j with
    | zero => injection hj with hj; subst hj; simpa [Kd.slice] using hc
    | succ j => cases hj) (by simp [Kd.slice]) hM (fun k hk => ⟨trivial, hokp k hk⟩)).1
  have e1 : ((i : Int).toNat * kRow.sz + 0) = i := by simp [Kd.slice]
  rw [e1, Int.toNat_natCast] at this
  exact this
theorem rblk {W : World} {base g n cap : Nat} {ls : List (List Int)} (h : RowsR W base (.slice (some ⟨g, 0, none⟩) n cap) ls) : base ≤ g ∧ ∃ cur, W.heap[g]? = some (.cells cur 22 (0, 0)) := by
  refine ⟨Kd.R_base h g (by simp [Value.ownBlock]), ?_⟩
  obtain ⟨_, inner, hown, hr⟩ := h
  rcases hown.2 with ⟨hv, _⟩ | ⟨g', cap', cur, hv, hb, hh, _⟩
  · cases hv
  · injection hv with ha _ _
    injection ha with ha
    injection ha with hg
    subst hg
    exact ⟨cur, hh⟩
end Go.Proofs.Ytcneobnplhffmaa.Rws
/- slices.Grow of nothing, slices.Concat of rows of bytes. -/
namespace Go.Proofs.Ytcneobnplhffmaa.Cat
open Go Go.RowKit Go.Proofs.Ytcneobnplhffmaa.Bits Go.Proofs.Ytcneobnplhffmaa.Mem Go.Proofs.Ytcneobnplhffmaa.Rws Go.Proofs.YtcneobnplhffmaaW.PrintWords
set_option linter.unusedVariables false

set_option maxRecDepth 100000 in
theorem grow_nil (n : Nat) (w : World) (h1 : 1 ≤ n) (h2 : n ≤ 1000000) :
    Calls Try.prog 40 #[.slice none 0 0, .int .i64 n] w fun e w' => ∃ c, e = .returned (.slice (some ⟨w.heap.size, 0, none⟩) 0 c) ∧ (Kd.int .u8).R 5 w' w.heap.size (fun _ => True) (.slice (some ⟨w.heap.size, 0, none⟩) 0 c) [] ∧ Below w.heap.size w w' := by
  obtain ⟨i0, hi0, hz⟩ := Option.map_eq_some_iff.1 info_byte
  simp only [Prod.mk.injEq] at hz
  obtain ⟨z0, z1, z2⟩ := hz
  have hrz := fun ty W => Lib.run_append_nil_zeros (P := Try.prog) W 22 3 ty 5 i0 (.int .u8 0) .i64 .i64 Try.underlying22 Try.underlying3 hi0 z0 n h1 (by rw [z1]; decide) (by omega) (by rw [z2]; omega)
  have HRZ := Lib.hid hrz
  have e1 : decide ((n : Int) < 0) = false := by simp
  have e2 : (0 : Int) < (n : Int) := by omega
  have hg := grownCap_ge w n 0 5
  have hg2 := grownCap_le_maxLen w n 0 5 (by unfold maxLen; omega)
  obtain ⟨c, hc⟩ : ∃ c, c = grownCap w n 0 5 := ⟨_, rfl⟩
  have HC := Lib.hid hc
  rw [← hc] at hg hg2
  have HG := Lib.hid (And.intro hg hg2)
  clear hrz z0 z1 z2 hi0 hg hg2 hc
  go_enter Try.func40, Try.ntmps40
  go_wp2_with (at_builtin; refine Lib.wpList_append_run _ rfl _ _ _ _ rfl _ _ rfl rfl _ _ (HRZ.out _ _) ?_; rw [← HC.out])
  go_ret
  refine ⟨c, rfl, ?_, ?_⟩
  · refine Kd.R_of_own ⟨by simp [encs], .inr ⟨_, c, _, rfl, Nat.le_refl _, heap_alloc_new _ _, Nat.zero_le _, HG.out.2, ?_, by simp [encs]⟩⟩ (fun _ _ => trivial)
    have := HG.out.1
    simp [size_zeroCells]; omega
  · exact ((Below.refl _ _).drew).alloc (Nat.le_refl _) _
/-- The first k rows, joined. -/
def catTo (ls : List (List Int)) (k : Nat) : List Int := (ls.take k).flatten
theorem catTo_succ (ls : List (List Int)) (k : Nat) (h : k < ls.length) : catTo ls (k + 1) = catTo ls k ++ ls.getD k [] := by
  unfold catTo
  rw [List.take_succ_eq_append_getElem h, List.flatten_append, List.getD_eq_getElem?_getD, List.getElem?_eq_getElem h]
  simp
theorem catTo_all (ls : List (List Int)) : catTo ls ls.length = ls.flatten := by unfold catTo; rw [List.take_length]
theorem catTo_le (ls : List (List Int)) (k : Nat) : (catTo ls k).length ≤ ls.flatten.length := by
  unfold catTo
  rw [← List.take_append_drop k ls, List.flatten_append, List.length_append]
  simp
set_option maxRecDepth 100000 in
set_option maxHeartbeats 1000000 in
theorem concat_any (k c0 : Nat) (A : Option Addr) (ls : List (List Int)) (w : World) (hC : Kd.C kRow w A k ls) (hT0 : 1 ≤ ls.flatten.length) (hT : ls.flatten.length ≤ 1000000) :
    Calls Try.prog 28 #[.slice A k c0] w fun e w' => ∃ A' c', e = .returned (.slice A' ls.flatten.length c') ∧ (Kd.int .u8).R 5 w' w.heap.size (fun _ => True) (.slice A' ls.flatten.length c') ls.flatten ∧ Below w.heap.size w w' := by
  obtain rfl : ls.length = k := hC.1
  have HC := Lib.hid (fun W (hB : Below w.heap.size w W) => Kd.C_below hC hB)
  have HLe := Lib.hid (catTo_le ls)
  have HAll := Lib.hid (catTo_all ls)
  obtain ⟨T, hTT⟩ : ∃ T, T = ls.flatten.length := ⟨_, rfl⟩
  rw [← hTT] at hT0 hT HLe ⊢
  have HT := Lib.hid hTT
  have hm := hC.2.1
  clear hC hTT
  go_enter Try.func28, Try.ntmps28
  go_wp2
  go_loopw [3, 5, 11] (fun sv _ iv wr => ∃ (i : Nat), i ≤ ls.length ∧ iv = .int .i64 i ∧ sv = .int .i64 ((catTo ls i).length : Nat) ∧ Hid (wr = w)) (fun _ _ iv _ => ls.length - (intOf iv).toNat)
  case atStart => exact ⟨0, by omega, rfl, rfl, Lib.hid rfl⟩
  case round =>
    obtain ⟨i, hi, rfl, rfl, hW⟩ := hrel
    have hW' := hW.out.symm
    subst hW'
    clear hW
    by_cases hlt : i < ls.length
    · obtain ⟨ad, A0, cc, rfl, hcell, _, _⟩ := RowsC.get (HC.out _ (Below.refl _ _)) i hlt
      have hs := congrArg List.length (catTo_succ ls i hlt)
      rw [List.length_append] at hs
      have hle := HLe.out (i + 1)
      rw [hs] at hle
      have HS := Lib.hid hs
      obtain ⟨p, hp⟩ : ∃ p, p = (catTo ls i).length := ⟨_, rfl⟩
      obtain ⟨q, hq⟩ : ∃ q, q = (ls.getD i []).length := ⟨_, rfl⟩
      rw [← hp, ← hq] at hle
      rw [← hp, ← hq] at HS
      rw [← hp]
      rw [← hq] at hcell
      have g1 : (i : Int) < (ls.length : Int) := by omega
      have g2 : (0 : Int) ≤ (i : Int) := by omega
      have e1 : IntKind.i64.wrap ((p : Int) + (q : Int)) = ((p + q : Nat) : Int) := by rw [IntWalk.i64_in _ (by omega)]; omega
      have e2 : decide (((p + q : Nat) : Int) < 0) = false := by simp; omega
      clear hs hp hq
      go_wp2
      go_roundw
      case rel => exact ⟨i + 1, by omega, by go_num, by rw [HS.out]; go_num, by first | exact Lib.hid rfl | exact Lib.hid trivial⟩
      case measure => simp [intOf]; omega
    · obtain rfl : i = ls.length := by omega
      have hTi : (catTo ls ls.length).length = T := by rw [HAll.out, ← HT.out]
      rw [hTi]
      clear hTi
      have GR := Lib.hid (fun W => grow_nil T W hT0 hT)
      go_upto_region 10 with (go_at_call 40; (with_reducible refine (GR.out _).mono ?_); rintro e w1 ⟨c1, rfl, hr, hb⟩; have HR := Lib.hid hr; have HB := Lib.hid hb; clear hr hb)
      have HR0 := Lib.hid (show (Kd.int .u8).R 5 w1 w.heap.size (fun _ => True) (.slice (some ⟨w.heap.size, 0, none⟩) 0 c1) (catTo ls 0) from HR.out)
      clear HR
      go_wp2
      go_loopw [6, 8, 27] (fun uv _ iv w2 => ∃ (i : Nat) (u : Value), uv = u ∧ i ≤ ls.length ∧ iv = .int .i64 i ∧ Hid ((Kd.int .u8).R 5 w2 w.heap.size (fun _ => True) u (catTo ls i)) ∧ Hid (Below w.heap.size w w2)) (fun _ _ iv _ => ls.length - (intOf iv).toNat)
      case atStart => exact ⟨0, _, rfl, by omega, rfl, HR0, HB⟩
      case round =>
        clear HR0 HB
        obtain ⟨i, u, rfl, hi, rfl, HR, HB⟩ := hrel
        by_cases hlt : i < ls.length
        · obtain ⟨ad, A0, cc, rfl, hcell, _, hC0⟩ := RowsC.get (HC.out _ HB.out) i hlt
          have HC0 := Lib.hid hC0
          have HS := Lib.hid (catTo_succ ls i hlt)
          have hle := HLe.out i
          have hle2 := HLe.out (i + 1)
          rw [catTo_succ ls i hlt, List.length_append] at hle2
          obtain ⟨q, hq⟩ : ∃ q, q = (ls.getD i []).length := ⟨_, rfl⟩
          have HQ := Lib.hid hq
          rw [← hq] at hcell hle2
          rw [← hq] at HC0
          have g1 : (i : Int) < (ls.length : Int) := by omega
          have g2 : (0 : Int) ≤ (i : Int) := by omega
          clear hC0 hq
          go_wp2_with (at_builtin; refine Kd.R_append_rows (Kd.int .u8) (w0 := w) w.heap.size rfl _ _ 22 5 (.int .u8 0) 1 rfl Try.underlying22 info_byte rfl (by decide) (by decide) _ (catTo ls i) (ls.getD i []) A0 q cc (fun _ => True) (fun _ => False) rfl rfl HR.out HC0.out (fun _ _ h => h) (fun _ h => h.elim) (fun _ _ => trivial) HB.out HB.out.size (by omega) ?_; intro v1 w3 hr2 hb2 hg2 _; have HR2 := Lib.hid hr2; have HB2 := Lib.hid hb2; clear hr2 hb2 hg2)
          go_roundw
          case rel => exact ⟨i + 1, _, rfl, by omega, by go_num, by rw [HS.out]; exact HR2, HB2⟩
          case measure => simp [intOf]; omega
        · obtain rfl : i = ls.length := by omega
          have hr := HR.out
          rw [HAll.out] at hr
          obtain ⟨A9, c9, rfl⟩ := Kd.R_slice hr
          rw [← HT.out] at hr ⊢
          have HR9 := Lib.hid hr
          clear hr HR
          go_wp2
          go_ret
          exact ⟨A9, c9, rfl, HR9.out, HB.out⟩
end Go.Proofs.Ytcneobnplhffmaa.Cat
/- Slices of bytes cloned: what slices.Clone comes to. -/
namespace Go.Proofs.Ytcneobnplhffmaa.Mat
open Go Go.RowKit Go.Proofs.Ytcneobnplhffmaa.Mem Go.Proofs.Ytcneobnplhffmaa.Bits Go.Proofs.YtcneobnplhffmaaW.PrintWords
set_option linter.unusedVariables false

theorem info_u8 : (Try.prog.info? 5).map (fun i => (i.zero, i.size, i.bytes)) = some (some (.int .u8 0), 1, 1) := by kernel_rfl

set_option maxRecDepth 100000 in
theorem slice_nil (a : Option Addr) (n c : Nat) (W : World) : (binOp .eql 22 (.slice a n c) (.slice none 0 0)).run Try.prog W = .ok (.bool a.isNone) W :=
  Lib.run_eql_slice_nil W 22 5 a n c 0 0 Try.underlying22
set_option maxRecDepth 100000 in
theorem clone_nil (w : World) :
    Calls Try.prog 22 #[.slice none 0 0] w fun e w' => e = .returned (.slice none 0 0) ∧ w = w' := by
  have kn := slice_nil
  go_enter Try.func22, Try.ntmps22
  go_wp2
  go_ret
  exact ⟨rfl, rfl⟩

set_option maxRecDepth 100000 in
theorem clone_any (ad : Addr) (c : Nat) (xs : List Int) (w : World) (HR : ReadsInt w .u8 (some ad) xs.length xs) (hl : xs.length ≤ 140737488355328) :
    Calls Try.prog 22 #[.slice (some ad) xs.length c] w fun e w' => ∃ v, e = .returned v ∧ w'.ownsRow w.heap.size 5 1 v xs.length (nums .u8 xs) ∧ Below w.heap.size w w' := by
  have H := Lib.hid HR
  clear HR
  have kn := slice_nil
  go_enter Try.func22, Try.ntmps22
  go_wp2_with (at_builtin; refine print_append_row (w0 := w) w.heap.size rfl _ _ 22 5 .u8 1 rfl Try.underlying22 info_u8 (by decide) _ [] xs _ _ _ rfl rfl (own_lit w w.heap.size 5 .u8 [] (Nat.le_refl _) (by simp)) (ReadsInt.allocS H.out _) ((Below.refl _ _).alloc (Nat.le_refl _) _) (by simp) (by simp; omega) ?_; intro v1 w1 ho hb _ _; have HO := Lib.hid ho; have HB := Lib.hid hb; clear ho hb)
  go_ret
  exact ⟨_, rfl, by have := HO.out; simpa using this, HB.out⟩
end Go.Proofs.Ytcneobnplhffmaa.Mat
/- Fields in which twice a thing is nought; finite sums. -/
namespace Go.Proofs.Ytcneobnplhffmaa.Alg

/-- A field in which twice a thing is nought. -/
class Fd (F : Type) extends Add F, Mul F, Zero F, One F where
  add_assoc : ∀ a b c : F, a + b + c = a + (b + c)
  add_comm : ∀ a b : F, a + b = b + a
  add_zero : ∀ a : F, a + 0 = a
  add_self : ∀ a : F, a + a = 0
  mul_assoc : ∀ a b c : F, a * b * c = a * (b * c)
  mul_comm : ∀ a b : F, a * b = b * a
  mul_one : ∀ a : F, a * 1 = a
  mul_add : ∀ a b c : F, a * (b + c) = a * b + a * c
  inv : F → F
  mul_inv : ∀ a : F, a ≠ 0 → a * inv a = 1
  zero_ne_one : (0 : F) ≠ 1

section
variable {F : Type} [Fd F]
open _root_.Go.Proofs.Ytcneobnplhffmaa.Alg.Fd
theorem zero_add (a : F) : 0 + a = a := by rw [add_comm, add_zero]
theorem add_left_comm (a b c : F) : a + (b + c) = b + (a + c) := by rw [← add_assoc, add_comm a b, add_assoc]
theorem mul_left_comm (a b c : F) : a * (b * c) = b * (a * c) := by rw [← mul_assoc, mul_comm a b, mul_assoc]
theorem add_mul (a b c : F) : (a + b) * c = a * c + b * c := by rw [mul_comm, mul_add, mul_comm c a, mul_comm c b]
theorem one_mul (a : F) : 1 * a = a := by rw [mul_comm, mul_one]
theorem add_cancel (a b : F) : a + (a + b) = b := by rw [← add_assoc, add_self, zero_add]
theorem add_left_cancel {a b c : F} (h : a + b = a + c) : b = c := by rw [← add_cancel a b, h, add_cancel]
theorem add_right_cancel {a b c : F} (h : a + c = b + c) : a = b := add_left_cancel (a := c) (by rw [add_comm c a, add_comm c b, h])
theorem mul_zero (a : F) : a * 0 = 0 := by
  have h : a * (0 + 0) = a * 0 + a * 0 := mul_add a 0 0
  rw [add_zero] at h
  have h2 : a * 0 + 0 = a * 0 + a * 0 := by rw [add_zero]; exact h
  exact (add_left_cancel h2).symm
theorem zero_mul (a : F) : 0 * a = 0 := by rw [mul_comm, mul_zero]
theorem eq_of_add_zero {a b : F} (h : a + b = 0) : a = b := add_right_cancel (c := b) (by rw [h, add_self])
theorem add_eq_zero {a b : F} : a + b = 0 ↔ a = b := ⟨eq_of_add_zero, fun h => by rw [h, add_self]⟩
theorem inv_mul (a : F) (h : a ≠ 0) : inv a * a = 1 := by rw [mul_comm, mul_inv a h]
theorem mul_ne_zero {a b : F} (ha : a ≠ 0) (hb : b ≠ 0) : a * b ≠ 0 := by
  intro h
  apply hb
  have : inv a * (a * b) = b := by rw [← mul_assoc, inv_mul a ha, one_mul]
  rw [← this, h, mul_zero]
theorem mul_eq_zero {a b : F} (h : a * b = 0) : a = 0 ∨ b = 0 := by
  by_cases ha : a = 0
  · exact .inl ha
  · by_cases hb : b = 0
    · exact .inr hb
    · exact absurd h (mul_ne_zero ha hb)
theorem mul_left_cancel {a b c : F} (ha : a ≠ 0) (h : a * b = a * c) : b = c := by
  have hb : inv a * (a * b) = b := by rw [← mul_assoc, inv_mul a ha, one_mul]
  have hc : inv a * (a * c) = c := by rw [← mul_assoc, inv_mul a ha, one_mul]
  rw [← hb, h, hc]
theorem inv_ne_zero {a : F} (ha : a ≠ 0) : inv a ≠ 0 := by
  intro h
  have := mul_inv a ha
  rw [h, mul_zero] at this
  exact zero_ne_one this
theorem inv_unique {a b : F} (h : a * b = 1) : b = inv a := by
  have ha : a ≠ 0 := by intro e; rw [e, zero_mul] at h; exact zero_ne_one h
  exact mul_left_cancel ha (by rw [h, mul_inv a ha])

/-- The sum of the first n. -/
def sum : Nat → (Nat → F) → F
  | 0, _ => 0
  | n + 1, f => sum n f + f n
theorem sum_congr {n : Nat} {f g : Nat → F} (h : ∀ i, i < n → f i = g i) : sum n f = sum n g := by
  induction n with
  | zero => rfl
  | succ n ih => rw [sum, sum, ih (fun i hi => h i (by omega)), h n (by omega)]
theorem sum_zero (n : Nat) : sum n (fun _ => (0 : F)) = 0 := by
  induction n with
  | zero => rfl
  | succ n ih => rw [sum, ih, add_zero]
theorem sum_zero' {n : Nat} {f : Nat → F} (h : ∀ i, i < n → f i = 0) : sum n f = 0 := by rw [sum_congr h, sum_zero]
theorem sum_add (n : Nat) (f g : Nat → F) : sum n (fun i => f i + g i) = sum n f + sum n g := by
  induction n with
  | zero => simp only [sum]; rw [add_zero]
  | succ n ih =>
    simp only [sum]
    rw [ih, add_assoc, add_assoc, add_left_comm (sum n g)]
theorem mul_sum (n : Nat) (a : F) (f : Nat → F) : a * sum n f = sum n (fun i => a * f i) := by
  induction n with
  | zero => simp only [sum]; rw [mul_zero]
  | succ n ih => simp only [sum]; rw [mul_add, ih]
theorem sum_mul (n : Nat) (a : F) (f : Nat → F) : sum n f * a = sum n (fun i => f i * a) := by
  rw [mul_comm, mul_sum]
  exact sum_congr (fun i _ => mul_comm _ _)
theorem sum_comm (m n : Nat) (f : Nat → Nat → F) : sum m (fun i => sum n (fun j => f i j)) = sum n (fun j => sum m (fun i => f i j)) := by
  induction m with
  | zero => simp only [sum]; rw [sum_zero]
  | succ m ih => simp only [sum]; rw [ih, sum_add]
theorem sum_single {n : Nat} {f : Nat → F} (k : Nat) (hk : k < n) (h : ∀ i, i < n → i ≠ k → f i = 0) : sum n f = f k := by
  induction n with
  | zero => omega
  | succ n ih =>
    rw [sum]
    by_cases e : k = n
    · subst e
      rw [sum_zero' (fun i hi => h i (by omega) (by omega)), zero_add]
    · rw [ih (by omega) (fun i hi hne => h i (by omega) hne), h n (by omega) (by omega), add_zero]
theorem sum_front (n : Nat) (f : Nat → F) : sum (n + 1) f = f 0 + sum n (fun i => f (i + 1)) := by
  induction n with
  | zero => simp only [sum]; rw [zero_add, add_zero]
  | succ n ih => rw [sum, ih, sum, add_assoc]
theorem sum_split (m n : Nat) (f : Nat → F) : sum (m + n) f = sum m f + sum n (fun i => f (m + i)) := by
  induction n with
  | zero => simp only [sum]; rw [add_zero]; rfl
  | succ n ih => rw [← Nat.add_assoc, sum, ih, sum, add_assoc]

/-- Products may be taken together in any way. -/
theorem prod_assoc (n m : Nat) (x : Nat → F) (y : Nat → Nat → F) (z : Nat → F) :
    sum m (fun l => sum n (fun j => x j * y j l) * z l) = sum n (fun j => x j * sum m (fun l => y j l * z l)) := by
  have h1 : ∀ l, sum n (fun j => x j * y j l) * z l = sum n (fun j => x j * (y j l * z l)) := by
    intro l
    rw [sum_mul]
    exact sum_congr (fun j _ => mul_assoc _ _ _)
  rw [sum_congr (fun l _ => h1 l), sum_comm]
  exact sum_congr (fun j _ => (mul_sum _ _ _).symm)
end
end Go.Proofs.Ytcneobnplhffmaa.Alg
/- Steps of a matrix over a field in which twice a thing is nought; polynomials and their noughts. -/
namespace Go.Proofs.Ytcneobnplhffmaa.Alg
set_option linter.unusedVariables false
section
variable {F : Type} [Fd F]
open _root_.Go.Proofs.Ytcneobnplhffmaa.Alg.Fd
/-- A polynomial's value, by Horner. -/
def hor : List F → F → F
  | [], _ => 0
  | c :: l, x => c + x * hor l x
def quo (x0 : F) : List F → List F
  | [] => []
  | a :: l => hor (a :: l) x0 :: quo x0 l
theorem quo_len (x0 : F) : ∀ l : List F, (quo x0 l).length = l.length
  | [] => rfl
  | a :: l => by simp [quo, quo_len x0 l]
theorem quo_id (x x0 : F) : ∀ (l : List F) (c : F), hor (c :: l) x + hor (c :: l) x0 = (x + x0) * hor (quo x0 l) x
  | [], c => by simp only [hor, quo, mul_zero, add_zero, add_self]
  | a :: l, c => by
    have ih := quo_id x x0 l a
    have e : hor (c :: a :: l) x + hor (c :: a :: l) x0 = x * hor (a :: l) x + x0 * hor (a :: l) x0 := by
      show (c + x * hor (a :: l) x) + (c + x0 * hor (a :: l) x0) = _
      rw [add_assoc, add_left_comm (x * hor (a :: l) x), add_cancel]
    rw [e]
    show _ = (x + x0) * (hor (a :: l) x0 + x * hor (quo x0 l) x)
    have h2 : hor (a :: l) x = hor (a :: l) x0 + (x + x0) * hor (quo x0 l) x := by rw [← ih, add_comm (hor (a :: l) x), add_cancel]
    rw [h2]
    generalize hor (a :: l) x0 = P
    generalize hor (quo x0 l) x = Q
    rw [mul_add x P, mul_add (x + x0) P, add_mul x x0 P, mul_left_comm (x + x0) x Q, add_assoc, add_assoc, add_comm (x * ((x + x0) * Q))]
theorem hor_zero {l : List F} (h : ∀ a ∈ l, a = 0) (x : F) : hor l x = 0 := by
  induction l with
  | nil => rfl
  | cons a l ih => rw [hor, h a (by simp), ih (fun b hb => h b (by simp [hb])), mul_zero, add_zero]
theorem quo_zero {x0 : F} : ∀ {l : List F}, (∀ a ∈ quo x0 l, a = 0) → ∀ a ∈ l, a = 0
  | [], _, _, ha => by cases ha
  | b :: l, h, a, ha => by
    have hl := quo_zero (x0 := x0) (l := l) (fun c hc => h c (by simp [quo, hc]))
    have hb := h (hor (b :: l) x0) (by simp [quo])
    rw [hor, hor_zero hl, mul_zero, add_zero] at hb
    rcases List.mem_cons.1 ha with rfl | ha
    · exact hb
    · exact hl a ha
/-- A polynomial with more noughts than its degree is nought. -/
theorem noughts : ∀ (l pts : List F), pts.Nodup → l.length ≤ pts.length → (∀ p ∈ pts, hor l p = 0) → ∀ a ∈ l, a = 0
  | [], _, _, _, _, a, ha => by cases ha
  | c :: l, [], _, hl, _, _, _ => by simp at hl
  | c :: l, x0 :: pts, hn, hl, hz, a, ha => by
    have hn' := List.nodup_cons.1 hn
    have hq := noughts (quo x0 l) pts hn'.2 (by rw [quo_len]; simpa using hl) (fun p hp => by
      have h := quo_id p x0 l c
      rw [hz p (by simp [hp]), hz x0 (by simp), add_zero] at h
      rcases mul_eq_zero h.symm with h | h
      · exact absurd (eq_of_add_zero h ▸ hp) hn'.1
      · exact h)
    have h0 := quo_zero hq
    have hc := hz x0 (by simp)
    rw [hor, hor_zero h0, mul_zero, add_zero] at hc
    rcases List.mem_cons.1 ha with rfl | ha
    · exact hc
    · exact h0 a ha
termination_by l => l.length
decreasing_by simp [quo_len]
/-- One step: row k, made one at the column, goes to row t; the others are cleared there. -/
def stepF (M : Nat → Nat → F) (t k col : Nat) : Nat → Nat → F := fun i j =>
  if i = t then M k j * inv (M k col)
  else (if i = k then M t j else M i j) + (M k j * inv (M k col)) * (if i = k then M t col else M i col)
def dotF (m : Nat) (r c : Nat → F) : F := sum m (fun j => r j * c j)
theorem sum_scale (n : Nat) (a : F) (f : Nat → F) : sum n (fun i => f i * a) = sum n f * a := by
  induction n with
  | zero => simp only [sum]; rw [zero_mul]
  | succ n ih => simp only [sum]; rw [ih, add_mul]
theorem dotF_scale (m : Nat) (r c : Nat → F) (a : F) : dotF m (fun j => r j * a) c = dotF m r c * a := by
  unfold dotF
  rw [← sum_scale]
  exact sum_congr (fun i _ => by rw [mul_assoc, mul_comm a, ← mul_assoc])
theorem dotF_add (m : Nat) (r s c : Nat → F) : dotF m (fun j => r j + s j) c = dotF m r c + dotF m s c := by
  unfold dotF
  rw [← sum_add]
  exact sum_congr (fun i _ => by rw [add_mul])
/-- A step keeps what comes to nought. -/
theorem stepF_ker (M : Nat → Nat → F) (t k col n m : Nat) (c : Nat → F) (hk : k < n) (ht : t < n) (hp : M k col ≠ 0) :
    (∀ i, i < n → dotF m (stepF M t k col i) c = 0) ↔ (∀ i, i < n → dotF m (M i) c = 0) := by
  have e0 : dotF m (stepF M t k col t) c = dotF m (M k) c * inv (M k col) := by
    rw [← dotF_scale]; unfold dotF; exact sum_congr (fun j _ => by simp [stepF])
  have e1 : ∀ i, i ≠ t → dotF m (stepF M t k col i) c = dotF m (fun j => if i = k then M t j else M i j) c + dotF m (M k) c * inv (M k col) * (if i = k then M t col else M i col) := by
    intro i hi
    rw [← dotF_scale, ← dotF_scale, ← dotF_add]
    unfold dotF; exact sum_congr (fun j _ => by simp [stepF, hi])
  constructor
  · intro h
    have hK : dotF m (M k) c = 0 := by
      have := h t ht
      rw [e0] at this
      rcases mul_eq_zero this with h | h
      · exact h
      · exact absurd h (inv_ne_zero hp)
    intro i hi
    by_cases hik : i = k
    · rw [hik]; exact hK
    · by_cases hit : i = t
      · have hkt : k ≠ t := fun e => hik (by rw [hit, e])
        have := h k hk
        rw [e1 k hkt, hK, zero_mul, zero_mul, add_zero] at this
        rw [hit]
        rw [← this]
        unfold dotF; exact sum_congr (fun j _ => by simp)
      · have := h i hi
        rw [e1 i hit, hK, zero_mul, zero_mul, add_zero] at this
        rw [← this]
        unfold dotF; exact sum_congr (fun j _ => by simp [hik])
  · intro h i hi
    by_cases hit : i = t
    · rw [hit, e0, h k hk, zero_mul]
    · rw [e1 i hit, h k hk, zero_mul, zero_mul, add_zero]
      by_cases hik : i = k
      · rw [← h t ht]; unfold dotF; exact sum_congr (fun j _ => by simp [hik])
      · rw [← h i hi]; unfold dotF; exact sum_congr (fun j _ => by simp [hik])
/-- The first columns are the one's. -/
def OneTo (M : Nat → Nat → F) (n col : Nat) : Prop := ∀ i j, i < n → j < col → M i j = if i = j then 1 else 0
theorem stepF_one (M : Nat → Nat → F) (n k col : Nat) (h : OneTo M n col) (hk : k < n) (hc : col ≤ k) (hp : M k col ≠ 0) : OneTo (stepF M col k col) n (col + 1) := by
  intro i j hi hj
  unfold stepF
  by_cases hjc : j = col
  · subst hjc
    by_cases hij : i = j
    · rw [if_pos hij, if_pos hij, mul_inv _ hp]
    · rw [if_neg hij, if_neg hij, mul_inv _ hp, one_mul, add_self]
  · have hj' : j < col := by omega
    have hkj : M k j = 0 := by rw [h k j hk hj', if_neg (by omega)]
    by_cases hit : i = col
    · rw [if_pos hit, hkj, zero_mul, if_neg (by omega)]
    · rw [if_neg hit, hkj, zero_mul, zero_mul, add_zero]
      by_cases hik : i = k
      · rw [if_pos hik, h col j (by omega) hj', if_neg (by omega), if_neg (by omega)]
      · rw [if_neg hik, h i j hi hj']
theorem sum_at {n : Nat} {f : Nat → F} {a : Nat} (ha : a < n) (h : ∀ i, i < n → i ≠ a → f i = 0) : sum n f = f a := by
  induction n with
  | zero => omega
  | succ n ih =>
    simp only [sum]
    by_cases e : a = n
    · subst e
      rw [sum_zero' (fun i hi => h i (by omega) (by omega)), zero_add]
    · rw [ih (by omega) (fun i hi hne => h i (by omega) hne), h n (by omega) (fun e' => e e'.symm), add_zero]
theorem sum_at2 {n : Nat} {f : Nat → F} {a b : Nat} (ha : a < n) (hb : b < n) (hab : a ≠ b) (h : ∀ i, i < n → i ≠ a → i ≠ b → f i = 0) : sum n f = f a + f b := by
  have e : sum n f = sum n (fun i => (if i = a then f i else 0) + (if i = a then 0 else f i)) := sum_congr (fun i _ => by by_cases h : i = a <;> simp [h, add_zero, zero_add])
  rw [e, sum_add, sum_at (a := a) ha (fun i _ hne => by simp [hne]), sum_at (a := b) hb (fun i hi hne => by by_cases hia : i = a; (· simp [hia]); (· simp [hia]; exact h i hi hia hne))]
  simp [hab.symm]
/-- Without a pivot something else than nought comes to nought. -/
theorem no_pivot (M : Nat → Nat → F) (n m col : Nat) (h : OneTo M n col) (hcm : col < m) (hcn : col ≤ n) (hz : ∀ i, i < n → col ≤ i → M i col = 0) :
    ∀ i, i < n → dotF m (M i) (fun j => if j < col then M j col else if j = col then 1 else 0) = 0 := by
  intro i hi
  unfold dotF
  by_cases hic : i < col
  · rw [sum_at2 (a := i) (b := col) (by omega) hcm (by omega) (fun j _ h1 h2 => ?_)]
    · simp only [if_pos hic, Nat.lt_irrefl, if_false, if_true, mul_one]
      rw [h i i hi hic, if_pos rfl, one_mul, add_self]
    · by_cases hj : j < col
      · rw [h i j hi hj, if_neg (fun e => h1 e.symm), zero_mul]
      · simp only [if_neg hj, if_neg h2, mul_zero]
  · rw [sum_at (a := col) hcm (fun j _ h1 => ?_)]
    · simp only [Nat.lt_irrefl, if_false, if_true, mul_one]
      exact hz i hi (by omega)
    · by_cases hj : j < col
      · rw [h i j hi hj, if_neg (by omega), zero_mul]
      · simp only [if_neg hj, if_neg h1, mul_zero]
end
end Go.Proofs.Ytcneobnplhffmaa.Alg
/- Plain arithmetic of the field of 256 elements: bytes as polynomials. -/
namespace Go.Proofs.Ytcneobnplhffmaa.Gf

theorem xor_half (a b : Nat) : (a ^^^ b) / 2 = a / 2 ^^^ b / 2 := by
  have := @Nat.xor_div_two_pow a b 1
  simpa using this
theorem xor_bit (a b : Nat) : (a ^^^ b) % 2 = a % 2 ^^^ b % 2 := by
  have := @Nat.xor_mod_two_pow a b 1
  simpa using this
theorem dbl_xor (a b : Nat) : (a ^^^ b) * 2 = a * 2 ^^^ b * 2 := by
  have := @Nat.shiftLeft_xor_distrib 1 a b
  simpa [Nat.shiftLeft_eq] using this
theorem x4 (a b c d : Nat) : (a ^^^ b) ^^^ (c ^^^ d) = (a ^^^ c) ^^^ (b ^^^ d) := by
  rw [Nat.xor_assoc, Nat.xor_assoc, ← Nat.xor_assoc b c d, Nat.xor_comm b c, Nat.xor_assoc c b d]

/-- Twice an element. -/
def xt (x : Nat) : Nat := x % 128 * 2 ^^^ x / 128 % 2 * 29

theorem bit01 (n : Nat) : n % 2 = 0 ∨ n % 2 = 1 := by omega
theorem bitmul (a b c : Nat) : ((a ^^^ b) % 2) * c = (a % 2 * c) ^^^ (b % 2 * c) := by
  rw [xor_bit]
  rcases bit01 a with h | h <;> rcases bit01 b with h' | h' <;> simp [h, h']

theorem xt_xor (x y : Nat) : xt (x ^^^ y) = xt x ^^^ xt y := by
  unfold xt
  have h1 := @Nat.xor_mod_two_pow x y 7
  have h2 := @Nat.xor_div_two_pow x y 7
  simp only [Nat.reducePow] at h1 h2
  rw [h1, h2, dbl_xor, bitmul, x4]
theorem xt_zero : xt 0 = 0 := rfl
theorem xt_lt (x : Nat) : xt x < 256 := by
  unfold xt
  have h : x % 128 * 2 < 2 ^ 8 := by omega
  have h' : x / 128 % 2 * 29 < 2 ^ 8 := by omega
  simpa using Nat.xor_lt_two_pow h h'

/-- The product, from the low bit of 'b' on. -/
def gmA : Nat → Nat → Nat → Nat → Nat
  | 0, _, p, _ => p
  | n + 1, b, p, x => gmA n (b / 2) (p ^^^ b % 2 * x) (xt x)

theorem gmA_acc (n : Nat) : ∀ b p x, gmA n b p x = p ^^^ gmA n b 0 x := by
  induction n with
  | zero => intro b p x; simp [gmA]
  | succ n ih =>
    intro b p x
    simp only [gmA]
    rw [ih _ (p ^^^ _), ih _ (0 ^^^ _), Nat.zero_xor, Nat.xor_assoc]

theorem gmA_xor_left (n : Nat) : ∀ b c x, gmA n (b ^^^ c) 0 x = gmA n b 0 x ^^^ gmA n c 0 x := by
  induction n with
  | zero => intro b c x; simp [gmA]
  | succ n ih =>
    intro b c x
    simp only [gmA, Nat.zero_xor]
    rw [gmA_acc, gmA_acc n (b / 2), gmA_acc n (c / 2), xor_half, bitmul, ih, x4]

theorem bitdist (b x y : Nat) : b % 2 * (x ^^^ y) = b % 2 * x ^^^ b % 2 * y := by
  rcases bit01 b with h | h <;> simp [h]

theorem gmA_xor_right (n : Nat) : ∀ b x y, gmA n b 0 (x ^^^ y) = gmA n b 0 x ^^^ gmA n b 0 y := by
  induction n with
  | zero => intro b x y; simp [gmA]
  | succ n ih =>
    intro b x y
    simp only [gmA, Nat.zero_xor]
    rw [gmA_acc, gmA_acc n (b / 2) (b % 2 * x), gmA_acc n (b / 2) (b % 2 * y), xt_xor, bitdist, ih, x4]

theorem gmA_zero (n : Nat) : ∀ p x, gmA n 0 p x = p := by
  induction n with
  | zero => intro p x; rfl
  | succ n ih => intro p x; simp [gmA, ih]

theorem gmA_lt (n : Nat) : ∀ b p x, p < 256 → x < 256 → gmA n b p x < 256 := by
  induction n with
  | zero => intro b p x hp hx; exact hp
  | succ n ih =>
    intro b p x hp hx
    refine ih _ _ _ ?_ (xt_lt x)
    have h : b % 2 * x < 2 ^ 8 := by rcases bit01 b with h | h <;> simp [h]; omega
    have hp' : p < 2 ^ 8 := by omega
    simpa using Nat.xor_lt_two_pow hp' h

/-- The product of two elements. -/
def gm (a b : Nat) : Nat := gmA 8 b 0 a

theorem gm_xor_left (a b c : Nat) : gm (a ^^^ b) c = gm a c ^^^ gm b c := gmA_xor_right 8 c a b
theorem gm_xor_right (a b c : Nat) : gm a (b ^^^ c) = gm a b ^^^ gm a c := gmA_xor_left 8 b c a
theorem gm_lt (a b : Nat) (h : a < 256) : gm a b < 256 := gmA_lt 8 b 0 a (by decide) h

/-- What holds of nought and of the powers of 2, and goes on through sums, holds of all elements. -/
theorem span {P : Nat → Prop} (h0 : P 0) (hx : ∀ a b, P a → P b → P (a ^^^ b)) (h2 : ∀ i, i < 8 → P (2 ^ i)) (a : Nat) (ha : a < 256) : P a := by
  have e : ∀ a, a < 256 → a = (a % 2 ^^^ a / 2 % 2 * 2) ^^^ (a / 4 % 2 * 4 ^^^ a / 8 % 2 * 8) ^^^ (a / 16 % 2 * 16 ^^^ a / 32 % 2 * 32) ^^^ (a / 64 % 2 * 64 ^^^ a / 128 % 2 * 128) := by
    decide +kernel
  have hb : ∀ (n i c : Nat), c = 2 ^ i → i < 8 → P (n % 2 * c) := by
    rintro n i _ rfl hi
    rcases bit01 n with h | h <;> rw [h]
    · simpa using h0
    · simpa using h2 i hi
  rw [e a ha]
  refine hx _ _ (hx _ _ (hx _ _ (hx _ _ ?_ ?_) (hx _ _ ?_ ?_)) (hx _ _ ?_ ?_)) (hx _ _ ?_ ?_)
  · simpa using hb a 0 1 rfl (by decide)
  · exact hb _ 1 _ rfl (by decide)
  · exact hb _ 2 _ rfl (by decide)
  · exact hb _ 3 _ rfl (by decide)
  · exact hb _ 4 _ rfl (by decide)
  · exact hb _ 5 _ rfl (by decide)
  · exact hb _ 6 _ rfl (by decide)
  · exact hb _ 7 _ rfl (by decide)

theorem gm_zero_left (b : Nat) : gm 0 b = 0 := by
  have := gm_xor_left 0 0 b
  simpa using this
theorem gm_zero_right (a : Nat) : gm a 0 = 0 := gmA_zero 8 0 a

theorem gm_comm (a b : Nat) (ha : a < 256) (hb : b < 256) : gm a b = gm b a := by
  refine span (P := fun a => gm a b = gm b a) ?_ ?_ ?_ a ha
  · rw [gm_zero_left, gm_zero_right]
  · intro a a' h h'; rw [gm_xor_left, gm_xor_right, h, h']
  · intro i hi
    refine span (P := fun b => gm (2 ^ i) b = gm b (2 ^ i)) ?_ ?_ ?_ b hb
    · rw [gm_zero_left, gm_zero_right]
    · intro a a' h h'; rw [gm_xor_left, gm_xor_right, h, h']
    · revert i; decide +kernel

theorem gm_assoc (a b c : Nat) (ha : a < 256) (hb : b < 256) (hc : c < 256) : gm (gm a b) c = gm a (gm b c) := by
  refine span (P := fun a => gm (gm a b) c = gm a (gm b c)) ?_ ?_ ?_ a ha
  · simp only [gm_zero_left]
  · intro a a' h h'; simp only [gm_xor_left, h, h']
  · intro i hi
    refine span (P := fun b => gm (gm (2 ^ i) b) c = gm (2 ^ i) (gm b c)) ?_ ?_ ?_ b hb
    · simp only [gm_zero_left, gm_zero_right]
    · intro a a' h h'; simp only [gm_xor_left, gm_xor_right, h, h']
    · intro j hj
      refine span (P := fun c => gm (gm (2 ^ i) (2 ^ j)) c = gm (2 ^ i) (gm (2 ^ j) c)) ?_ ?_ ?_ c hc
      · simp only [gm_zero_right]
      · intro a a' h h'; simp only [gm_xor_right, h, h']
      · revert i j; decide +kernel

theorem gm_one (a : Nat) : gm a 1 = a := by simp [gm, gmA]

/-- Which element comes to 1 with one. -/
def ginv (a : Nat) : Nat := gm (gm (gm (gm (gm (gm (gm a a) a |> fun x => gm x x) a |> fun x => gm x x) a |> fun x => gm x x) a |> fun x => gm x x) a |> fun x => gm x x) a |> fun x => gm x x

theorem ginv_lt (a : Nat) (h : a < 256) : ginv a < 256 := by
  have e : ∀ a, a < 256 → ginv a < 256 := by decide +kernel
  exact e a h
theorem gm_inv (a : Nat) (h : a < 256) (h0 : a ≠ 0) : gm a (ginv a) = 1 := by
  have e : ∀ a, a < 256 → a ≠ 0 → gm a (ginv a) = 1 := by decide +kernel
  exact e a h h0

/-- The document's product: the polynomials' one, from the low bit of 'b' on .. -/
def clA : Nat → Nat → Nat → Nat → Nat
  | 0, _, p, _ => p
  | n + 1, b, p, x => clA n (b / 2) (p ^^^ b % 2 * x) (x * 2)

/-- .. brought down, from the bit 'i + 8 - 1' on. -/
def redA : Nat → Nat → Nat
  | 0, p => p
  | n + 1, p => redA n (p ^^^ p / 2 ^ (n + 8) % 2 * (285 * 2 ^ n))

theorem clA_acc (n : Nat) : ∀ b p x, clA n b p x = p ^^^ clA n b 0 x := by
  induction n with
  | zero => intro b p x; simp [clA]
  | succ n ih =>
    intro b p x
    simp only [clA]
    rw [ih _ (p ^^^ _), ih _ (0 ^^^ _), Nat.zero_xor, Nat.xor_assoc]

theorem clA_xor_left (n : Nat) : ∀ b c x, clA n (b ^^^ c) 0 x = clA n b 0 x ^^^ clA n c 0 x := by
  induction n with
  | zero => intro b c x; simp [clA]
  | succ n ih =>
    intro b c x
    simp only [clA, Nat.zero_xor]
    rw [clA_acc, clA_acc n (b / 2), clA_acc n (c / 2), xor_half, bitmul, ih, x4]

theorem clA_xor_right (n : Nat) : ∀ b x y, clA n b 0 (x ^^^ y) = clA n b 0 x ^^^ clA n b 0 y := by
  induction n with
  | zero => intro b x y; simp [clA]
  | succ n ih =>
    intro b x y
    simp only [clA, Nat.zero_xor]
    rw [clA_acc, clA_acc n (b / 2) (b % 2 * x), clA_acc n (b / 2) (b % 2 * y), dbl_xor, bitdist, ih, x4]

theorem redA_xor (n : Nat) : ∀ p q, redA n (p ^^^ q) = redA n p ^^^ redA n q := by
  induction n with
  | zero => intro p q; rfl
  | succ n ih =>
    intro p q
    simp only [redA]
    rw [← ih]
    congr 1
    rw [Nat.xor_div_two_pow, bitmul, x4]

theorem ref_eq (a b : Nat) (ha : a < 256) (hb : b < 256) : redA 7 (clA 8 b 0 a) = gm a b := by
  refine span (P := fun a => redA 7 (clA 8 b 0 a) = gm a b) ?_ ?_ ?_ a ha
  · have h := clA_xor_right 8 b 0 0
    have h' := redA_xor 7 0 0
    simp only [Nat.xor_self] at h h'
    simp only [h, h', gm_zero_left]
  · intro a a' h h'; simp only [clA_xor_right, redA_xor, gm_xor_left, h, h']
  · intro i hi
    refine span (P := fun b => redA 7 (clA 8 b 0 (2 ^ i)) = gm (2 ^ i) b) ?_ ?_ ?_ b hb
    · have h := clA_xor_left 8 0 0 (2 ^ i)
      have h' := redA_xor 7 0 0
      simp only [Nat.xor_self] at h h'
      simp only [h, h', gm_zero_right]
    · intro a a' h h'; simp only [clA_xor_left, redA_xor, gm_xor_right, h, h']
    · revert i; decide +kernel

end Go.Proofs.Ytcneobnplhffmaa.Gf
/- Powers in the field of 256 elements. -/
namespace Go.Proofs.Ytcneobnplhffmaa.Gf

/-- The power of an element. -/
def gp (a : Nat) : Nat → Nat
  | 0 => 1
  | n + 1 => gm (gp a n) a

theorem gp_lt (a : Nat) (ha : a < 256) : ∀ n, gp a n < 256
  | 0 => by simp [gp]
  | n + 1 => gm_lt _ _ (gp_lt a ha n)
theorem gm_one_left (a : Nat) (ha : a < 256) : gm 1 a = a := by rw [gm_comm 1 a (by decide) ha, gm_one]
theorem gp_one (a : Nat) (ha : a < 256) : gp a 1 = a := by simp [gp, gm_one_left a ha]
theorem gp_add (a : Nat) (ha : a < 256) (m : Nat) : ∀ n, gp a (m + n) = gm (gp a m) (gp a n)
  | 0 => by simp [gp, gm_one]
  | n + 1 => by rw [← Nat.add_assoc, gp, gp, gp_add a ha m n, gm_assoc _ _ _ (gp_lt a ha m) (gp_lt a ha n) ha]
theorem gp_dbl (a : Nat) (ha : a < 256) (n : Nat) : gm (gp a n) (gp a n) = gp a (2 * n) := by rw [Nat.two_mul, gp_add a ha]
theorem gp_succ (a n : Nat) : gm (gp a n) a = gp a (n + 1) := rfl
theorem gp_sq (a : Nat) (ha : a < 256) : ∀ n, gp (gm a a) n = gp a (2 * n)
  | 0 => rfl
  | n + 1 => by
    have h2 : gm a a = gp a 2 := by simp [gp, gm_one_left a ha]
    rw [gp, gp_sq a ha n, h2, ← gp_add a ha]; rfl

theorem ginv_gp (a : Nat) (ha : a < 256) : ginv a = gp a 254 := by
  have h2 : gm a a = gp a 2 := by simp [gp, gm_one_left a ha]
  unfold ginv
  simp only [h2, gp_succ, gp_dbl a ha]
theorem gp_255 (a : Nat) (ha : a < 256) (h0 : a ≠ 0) : gp a 255 = 1 := by
  have := gm_inv a ha h0
  rw [ginv_gp a ha, gm_comm _ _ ha (gp_lt a ha _)] at this
  exact this
theorem gp_256 (a : Nat) (ha : a < 256) : gp a 256 = a := by
  by_cases h0 : a = 0
  · subst h0
    rw [show 256 = 255 + 1 from rfl, gp, gm_zero_right]
  · rw [show 256 = 255 + 1 from rfl, gp, gp_255 a ha h0, gm_one_left a ha]
theorem gp_more (a : Nat) (ha : a < 256) (r : Nat) : ∀ q, gp a (255 * q + r + 1) = gp a (r + 1)
  | 0 => by rw [Nat.mul_zero, Nat.zero_add]
  | q + 1 => by
    rw [show 255 * (q + 1) + r + 1 = (255 * q + r) + 256 by omega, gp_add a ha, gp_256 a ha, gp_succ]
    exact gp_more a ha r q
theorem gp_mod (a : Nat) (ha : a < 256) (n : Nat) (h : 0 < n) : gp a n = gp a ((n - 1) % 255 + 1) := by
  have := gp_more a ha ((n - 1) % 255) ((n - 1) / 255)
  rw [← this]
  congr 1
  omega
theorem gm_cancel (a b c : Nat) (ha : a < 256) (h0 : a ≠ 0) (hb : b < 256) (hc : c < 256) (h : gm a b = gm a c) : b = c := by
  have hi := ginv_lt a ha
  have e := gm_inv a ha h0
  have hb' : gm (ginv a) (gm a b) = b := by rw [← gm_assoc _ _ _ hi ha hb, gm_comm _ _ hi ha, e, gm_one_left b hb]
  have hc' : gm (ginv a) (gm a c) = c := by rw [← gm_assoc _ _ _ hi ha hc, gm_comm _ _ hi ha, e, gm_one_left c hc]
  rw [← hb', h, hc']
theorem inv_unique (a b : Nat) (ha : a < 256) (hb : b < 256) (h : gm a b = 1) : b = ginv a := by
  have h0 : a ≠ 0 := by intro e; rw [e, gm_zero_left] at h; exact absurd h (by decide)
  exact gm_cancel a b (ginv a) ha h0 hb (ginv_lt a ha) (by rw [h, gm_inv a ha h0])
end Go.Proofs.Ytcneobnplhffmaa.Gf
/- The field of 256 elements as a field; bytes told as its elements. -/
namespace Go.Proofs.Ytcneobnplhffmaa.Alg
open Gf

/-- An element. -/
structure G where
  val : Nat
  lt : val < 256
theorem G.ext' {a b : G} (h : a.val = b.val) : a = b := by
  cases a; cases b; cases h; rfl
instance : DecidableEq G := fun a b => if h : a.val = b.val then isTrue (G.ext' h) else isFalse (fun e => h (by rw [e]))
theorem xor_lt' {a b : Nat} (ha : a < 256) (hb : b < 256) : a ^^^ b < 256 := by
  have : a ^^^ b < 2 ^ 8 := Nat.xor_lt_two_pow ha hb
  simpa using this
instance : Fd G where
  add a b := ⟨a.val ^^^ b.val, xor_lt' a.lt b.lt⟩
  mul a b := ⟨gm a.val b.val, gm_lt _ _ a.lt⟩
  zero := ⟨0, by decide⟩
  one := ⟨1, by decide⟩
  inv a := ⟨ginv a.val, ginv_lt _ a.lt⟩
  add_assoc a b c := G.ext' (Nat.xor_assoc _ _ _)
  add_comm a b := G.ext' (Nat.xor_comm _ _)
  add_zero a := G.ext' (Nat.xor_zero _)
  add_self a := G.ext' (Nat.xor_self _)
  mul_assoc a b c := G.ext' (gm_assoc _ _ _ a.lt b.lt c.lt)
  mul_comm a b := G.ext' (gm_comm _ _ a.lt b.lt)
  mul_one a := G.ext' (gm_one _)
  mul_add a b c := G.ext' (gm_xor_right _ _ _)
  mul_inv a h := G.ext' (gm_inv _ a.lt (fun e => h (G.ext' e)))
  zero_ne_one h := absurd (congrArg G.val h) (by decide)
/-- A byte's element; an element's byte. -/
def G.of (x : Int) : G := ⟨x.toNat % 256, Nat.mod_lt _ (by decide)⟩
def G.int (g : G) : Int := (g.val : Int)
theorem G.of_int (g : G) : G.of g.int = g := G.ext' (by have := g.lt; simp [G.of, G.int]; omega)
theorem G.int_of (x : Int) (h : 0 ≤ x ∧ x < 256) : (G.of x).int = x := by simp [G.of, G.int]; omega
theorem G.int_range (g : G) : 0 ≤ g.int ∧ g.int < 256 := by have := g.lt; unfold G.int; omega
theorem G.int_inj {a b : G} (h : a.int = b.int) : a = b := by rw [← G.of_int a, h, G.of_int]
theorem G.of_inj {x y : Int} (hx : 0 ≤ x ∧ x < 256) (hy : 0 ≤ y ∧ y < 256) (h : G.of x = G.of y) : x = y := by rw [← G.int_of x hx, h, G.int_of y hy]
theorem G.of_zero : G.of 0 = 0 := rfl
theorem G.of_one : G.of 1 = 1 := rfl
theorem G.int_zero : (0 : G).int = 0 := rfl
theorem G.int_one : (1 : G).int = 1 := rfl
end Go.Proofs.Ytcneobnplhffmaa.Alg
/- Elements as whole numbers: products, sums, and what a fragment is. -/
namespace Go.Proofs.Ytcneobnplhffmaa.Gi
open Go Go.RowKit Go.Proofs.Ytcneobnplhffmaa.Gf Go.Proofs.Ytcneobnplhffmaa.Bits
set_option linter.unusedVariables false
abbrev Byt (a : Int) : Prop := 0 ≤ a ∧ a < 256
def gmI (a b : Int) : Int := (gm a.toNat b.toNat : Nat)
def xorI (a b : Int) : Int := (a.toNat ^^^ b.toNat : Nat)
theorem gmI_byt {a b : Int} (ha : Byt a) : Byt (gmI a b) := by
  have := gm_lt a.toNat b.toNat (by have := ha.1; have := ha.2; omega)
  unfold gmI Byt; omega
theorem xorI_byt {a b : Int} (ha : Byt a) (hb : Byt b) : Byt (xorI a b) := by
  have : a.toNat ^^^ b.toNat < 2 ^ 8 := Nat.xor_lt_two_pow (by have := ha.1; have := ha.2; omega) (by have := hb.1; have := hb.2; omega)
  unfold xorI Byt; omega
theorem gmI_comm {a b : Int} (ha : Byt a) (hb : Byt b) : gmI a b = gmI b a := by
  unfold gmI; rw [gm_comm _ _ (by have := ha.1; have := ha.2; omega) (by have := hb.1; have := hb.2; omega)]
theorem byt_nat {a : Int} (ha : Byt a) : ∃ n : Nat, n < 256 ∧ a = n := ⟨a.toNat, by have := ha.1; have := ha.2; omega, by have := ha.1; omega⟩
theorem byt0 : Byt 0 := ⟨by decide, by decide⟩
theorem getD_byt {l : List Int} (h : ∀ x ∈ l, Byt x) (i : Nat) : Byt (l.getD i 0) := by
  rw [List.getD_eq_getElem?_getD]
  rcases Nat.lt_or_ge i l.length with hi | hi
  · rw [List.getElem?_eq_getElem hi]; exact h _ (List.getElem_mem hi)
  · rw [List.getElem?_eq_none hi]; exact byt0
theorem xor_bits {a b : Int} (ha : Byt a) (hb : Byt b) : bits .xor .u8 a b = xorI a b := by
  obtain ⟨x, hx, rfl⟩ := byt_nat ha
  obtain ⟨y, hy, rfl⟩ := byt_nat hb
  rw [xor_u8 x y hx hy]
  simp [xorI]
/-- The sum of the first j terms. -/
def dotN (f g : Nat → Int) : Nat → Int
  | 0 => 0
  | j + 1 => xorI (dotN f g j) (gmI (f j) (g j))
theorem dotN_byt {f g : Nat → Int} (hf : ∀ i, Byt (f i)) : ∀ j, Byt (dotN f g j)
  | 0 => byt0
  | j + 1 => xorI_byt (dotN_byt hf j) (gmI_byt (hf j))
theorem dotN_congr {f g f' g' : Nat → Int} : ∀ j, (∀ i, i < j → f i = f' i ∧ g i = g' i) → dotN f g j = dotN f' g' j
  | 0, _ => rfl
  | j + 1, h => by
    have := h j (by omega)
    simp only [dotN]
    rw [dotN_congr j (fun i hi => h i (by omega)), this.1, this.2]
/-- A line told by a function of places. -/
def line (c : Nat) (f : Nat → Int) : List Int := (List.range c).map f
theorem line_len (c : Nat) (f : Nat → Int) : (line c f).length = c := by simp [line]
theorem line_get (c : Nat) (f : Nat → Int) (k : Nat) (hk : k < c) : (line c f).getD k 0 = f k := by simp [line, List.getD_eq_getElem?_getD, hk]
theorem line_congr (c : Nat) (f g : Nat → Int) (h : ∀ k, k < c → f k = g k) : line c f = line c g := List.map_congr_left (fun k hk => h k (by simpa using hk))
theorem line_set (c : Nat) (f : Nat → Int) (k : Nat) (hk : k < c) (y : Int) : (line c f).set k y = line c (fun k' => if k' = k then y else f k') := by
  refine List.ext_getElem (by simp [line]) (fun j h1 h2 => ?_)
  rw [List.getElem_set]
  simp only [line, List.getElem_map, List.getElem_range]
  by_cases e : k = j
  · subst e; simp
  · rw [if_neg e, if_neg (fun h => e h.symm)]
theorem line_succ (c : Nat) (f : Nat → Int) : line (c + 1) f = line c f ++ [f c] := by simp [line, List.range_succ]
theorem line_zero (c : Nat) : line c (fun _ => 0) = List.replicate c 0 := by
  refine List.ext_getElem (by simp [line]) (fun k h3 h4 => ?_)
  simp [line]
theorem line_byt (c : Nat) (f : Nat → Int) (h : ∀ i, Byt (f i)) : ∀ x ∈ line c f, Byt x := by
  intro x hx
  obtain ⟨i, _, rfl⟩ := List.mem_map.1 hx
  exact h i
end Go.Proofs.Ytcneobnplhffmaa.Gi
/- Steps, of bytes: what comes to be, and what solves equations. No program. -/
namespace Go.Proofs.Ytcneobnplhffmaa.Sol
open Go.Proofs.Ytcneobnplhffmaa.Gf Go.Proofs.Ytcneobnplhffmaa.Gi Go.Proofs.Ytcneobnplhffmaa.Alg
set_option linter.unusedVariables false

theorem of_gm {a b : Int} (ha : Byt a) (hb : Byt b) : G.of (gmI a b) = G.of a * G.of b := by
  obtain ⟨x, hx, rfl⟩ := byt_nat ha
  obtain ⟨y, hy, rfl⟩ := byt_nat hb
  refine G.ext' ?_
  show (gmI (x : Int) (y : Int)).toNat % 256 = gm (((x : Int)).toNat % 256) (((y : Int)).toNat % 256)
  have := gm_lt x y hx
  simp only [gmI, Int.toNat_natCast, Nat.mod_eq_of_lt hx, Nat.mod_eq_of_lt hy, Nat.mod_eq_of_lt this]
theorem of_xor {a b : Int} (ha : Byt a) (hb : Byt b) : G.of (xorI a b) = G.of a + G.of b := by
  obtain ⟨x, hx, rfl⟩ := byt_nat ha
  obtain ⟨y, hy, rfl⟩ := byt_nat hb
  refine G.ext' ?_
  show (xorI (x : Int) (y : Int)).toNat % 256 = (((x : Int)).toNat % 256) ^^^ (((y : Int)).toNat % 256)
  have := xor_lt' hx hy
  simp only [xorI, Int.toNat_natCast, Nat.mod_eq_of_lt hx, Nat.mod_eq_of_lt hy, Nat.mod_eq_of_lt this]
theorem of_ne {a : Int} (ha : Byt a) (h : a ≠ 0) : G.of a ≠ 0 := fun e => h (G.of_inj ha ⟨by decide, by decide⟩ (e.trans G.of_zero.symm))
/-- A matrix of bytes. -/
abbrev Mtx := Nat → Nat → Int
def BytM (M : Mtx) : Prop := ∀ i j, Byt (M i j)
/-- The rows k and t put in each other's place. -/
def swapI (M : Mtx) (t k : Nat) : Mtx := fun i => if i = k then M t else M i
/-- One step; r is the pivot's inverse. -/
def stepI (M : Mtx) (t k col : Nat) (r : Int) : Mtx := fun i j =>
  if i = t then gmI (M k j) r else xorI (swapI M t k i j) (gmI (gmI (M k j) r) (swapI M t k i col))
theorem stepI_byt {M : Mtx} (h : BytM M) {t k col : Nat} {r : Int} (hr : Byt r) : BytM (stepI M t k col r) := by
  have hs : BytM (swapI M t k) := by intro i j; unfold swapI; split <;> exact h _ _
  intro i j
  unfold stepI
  split
  · exact gmI_byt (h _ _)
  · exact xorI_byt (hs _ _) (gmI_byt (gmI_byt (h _ _)))
/-- The matrix's elements, of the field. -/
def el (M : Mtx) : Nat → Nat → G := fun i j => G.of (M i j)
theorem stepI_el {M : Mtx} (h : BytM M) {t k col : Nat} {r : Int} (hr : Byt r) (h1 : gmI (M k col) r = 1) : el (stepI M t k col r) = stepF (el M) t k col := by
  have hs : BytM (swapI M t k) := by intro i j; unfold swapI; split <;> exact h _ _
  have hi : Fd.inv (el M k col) = G.of r := by
    refine (Alg.inv_unique ?_).symm
    show G.of (M k col) * G.of r = 1
    rw [← of_gm (h _ _) hr, h1, G.of_one]
  have e : ∀ i j, el (swapI M t k) i j = if i = k then el M t j else el M i j := by intro i j; unfold el swapI; split <;> rfl
  funext i j
  unfold stepF
  rw [hi, ← e i j, ← e i col]
  show G.of (stepI M t k col r i j) = _
  unfold stepI
  split
  · rw [of_gm (h _ _) hr]; rfl
  · rw [of_xor (hs _ _) (gmI_byt (gmI_byt (h _ _))), of_gm (gmI_byt (h _ _)) (hs _ _), of_gm (h _ _) hr]; rfl
/-- What the document's Steps comes to, column by column. -/
inductive StepsTo (n : Nat) (M0 : Mtx) : Nat → Nat → Mtx → Prop
  | start : StepsTo n M0 0 0 M0
  | skip {col t : Nat} {M : Mtx} : StepsTo n M0 col t M → (∀ j, t ≤ j → j < n → M j col = 0) → StepsTo n M0 (col + 1) t M
  | step {col t k : Nat} {r : Int} {M : Mtx} : StepsTo n M0 col t M → t ≤ k → k < n → (∀ j, t ≤ j → j < k → M j col = 0) → M k col ≠ 0 → Byt r → gmI (M k col) r = 1 → StepsTo n M0 (col + 1) (t + 1) (stepI M t k col r)
theorem StepsTo.byt {n : Nat} {M0 : Mtx} (h0 : BytM M0) {col t : Nat} {M : Mtx} (h : StepsTo n M0 col t M) : BytM M := by
  induction h with
  | start => exact h0
  | skip _ _ ih => exact ih
  | step _ _ _ _ _ hr _ ih => exact stepI_byt ih hr
theorem StepsTo.le {n : Nat} {M0 : Mtx} {col t : Nat} {M : Mtx} (h : StepsTo n M0 col t M) : t ≤ col ∧ t ≤ n := by
  induction h with
  | start => exact ⟨Nat.le_refl _, Nat.zero_le _⟩
  | skip _ _ ih => exact ⟨by omega, ih.2⟩
  | step _ _ _ _ _ _ _ ih => exact ⟨by omega, by omega⟩
/-- What comes to nought is kept. -/
theorem StepsTo.ker {n m : Nat} {M0 : Mtx} (h0 : BytM M0) {col t : Nat} {M : Mtx} (h : StepsTo n M0 col t M) (c : Nat → G) :
    (∀ i, i < n → dotF m (el M i) c = 0) ↔ (∀ i, i < n → dotF m (el M0 i) c = 0) := by
  induction h with
  | start => exact Iff.rfl
  | skip _ _ ih => exact ih
  | @step col t k r M hs htk hk hz hp hr h1 ih =>
    rw [stepI_el (hs.byt h0) hr h1, stepF_ker (el M) t k col n m c hk (by omega) (of_ne (hs.byt h0 k col) hp)]
    exact ih
theorem dotF_more (n : Nat) (r c : Nat → G) : dotF (n + 1) r c = dotF n r c + r n * c n := rfl
theorem dotF_congr {m : Nat} {r c c' : Nat → G} (h : ∀ j, j < m → c j = c' j) : dotF m r c = dotF m r c' := by unfold dotF; exact sum_congr (fun j hj => by rw [h j hj])
/-- Where nothing but nought comes to nought, the first columns become the one's. -/
theorem StepsTo.one {n : Nat} {M0 : Mtx} (h0 : BytM M0) (hinj : ∀ c : Nat → G, (∀ i, i < n → dotF n (el M0 i) c = 0) → ∀ j, j < n → c j = 0) {col t : Nat} {M : Mtx} (h : StepsTo n M0 col t M) :
    t = min col n ∧ OneTo (el M) n (min col n) := by
  induction h with
  | start => exact ⟨by simp, fun i j _ hj => absurd hj (by simp)⟩
  | @skip col t M hs hz ih =>
    obtain ⟨ht, ho⟩ := ih
    by_cases hc : col < n
    · rw [Nat.min_eq_left (by omega)] at ht ho
      subst ht
      have hk := no_pivot (el M) n n t ho hc (by omega) (fun i hi hti => by show G.of (M i t) = 0; rw [hz i hti hi]; rfl)
      have := hinj _ ((hs.ker h0 _).1 hk) t hc
      simp at this
      exact absurd this.symm Fd.zero_ne_one
    · have e : min (col + 1) n = min col n := by omega
      rw [e]
      exact ⟨ht, ho⟩
  | @step col t k r M hs htk hk hz hp hr h1 ih =>
    obtain ⟨ht, ho⟩ := ih
    by_cases hc : col < n
    · rw [Nat.min_eq_left (by omega)] at ht ho
      subst ht
      rw [Nat.min_eq_left (by omega), stepI_el (hs.byt h0) hr h1]
      exact ⟨rfl, stepF_one (el M) n k t ho hk htk (of_ne (hs.byt h0 k t) hp)⟩
    · omega
/-- What solves the equations stands in the last column. -/
theorem StepsTo.solves {n : Nat} {M0 : Mtx} (h0 : BytM M0) (hinj : ∀ c : Nat → G, (∀ i, i < n → dotF n (el M0 i) c = 0) → ∀ j, j < n → c j = 0) {t : Nat} {M : Mtx} (h : StepsTo n M0 (n + 1) t M)
    (p : Nat → G) (hp : ∀ i, i < n → dotF n (el M0 i) p = el M0 i n) : ∀ i, i < n → el M i n = p i := by
  have ho := (h.one h0 hinj).2
  rw [Nat.min_eq_right (by omega)] at ho
  have hk := (h.ker (m := n + 1) h0 (fun j => if j < n then p j else 1)).2 (fun i hi => by
    rw [dotF_more, dotF_congr (c' := p) (fun j hj => by rw [if_pos hj]), hp i hi, if_neg (Nat.lt_irrefl n), Fd.mul_one, Fd.add_self])
  intro i hi
  have h1 := hk i hi
  rw [dotF_more, dotF_congr (c' := p) (fun j hj => by rw [if_pos hj]), if_neg (Nat.lt_irrefl n), Fd.mul_one] at h1
  have h2 : dotF n (el M i) p = p i := by
    unfold dotF
    rw [sum_at (a := i) hi (fun j hj hne => by rw [ho i j hi hj, if_neg (fun e => hne e.symm), zero_mul]), ho i i hi hi, if_pos rfl, one_mul]
  rw [h2] at h1
  exact (eq_of_add_zero h1).symm
end Go.Proofs.Ytcneobnplhffmaa.Sol
/- Matrices of bytes as rows of bytes. -/
namespace Go.Proofs.Ytcneobnplhffmaa.Sol
open Go Go.RowKit Go.Proofs.Ytcneobnplhffmaa.Gf Go.Proofs.Ytcneobnplhffmaa.Gi Go.Proofs.Ytcneobnplhffmaa.Bits Go.Proofs.Ytcneobnplhffmaa.Mem Go.Proofs.Ytcneobnplhffmaa.Rws Go.Proofs.YtcneobnplhffmaaW.PrintWords
set_option linter.unusedVariables false

def mat (n m : Nat) (M : Mtx) : List (List Int) := (List.range n).map (fun i => line m (M i))
theorem mat_len (n m : Nat) (M : Mtx) : (mat n m M).length = n := by simp [mat]
theorem mat_get (n m : Nat) (M : Mtx) (i : Nat) (hi : i < n) : (mat n m M).getD i [] = line m (M i) := by simp [mat, List.getD_eq_getElem?_getD, hi]
theorem mat_succ (n m : Nat) (M : Mtx) : mat (n + 1) m M = mat n m M ++ [line m (M n)] := by simp [mat, List.range_succ]
theorem mat_congr (n m : Nat) (M M' : Mtx) (h : ∀ i, i < n → ∀ j, j < m → M i j = M' i j) : mat n m M = mat n m M' := List.map_congr_left (fun i hi => line_congr m _ _ (h i (by simpa using hi)))
theorem mat_set (n m : Nat) (M : Mtx) (i : Nat) (hi : i < n) (r : Nat → Int) : (mat n m M).set i (line m r) = mat n m (fun i' => if i' = i then r else M i') := by
  refine List.ext_getElem (by simp [mat]) (fun q h1 h2 => ?_)
  simp [mat, List.getElem_set]
  by_cases e : i = q
  · subst e; simp
  · rw [if_neg e, if_neg (fun e' => e e'.symm)]
theorem at_row {w : World} {A : Option Addr} {n : Nat} {xs : List Int} (h : (Kd.int .u8).C w A n xs) (i : Nat) (hi : i < n) : ∃ ad, A = some ad ∧ w.cell? (ad.add i) = some (.int .u8 (xs.getD i 0)) := by
  obtain ⟨ad, c, e, _, hK, hc0⟩ := Kd.C_get h (0 : Int) (i : Int) (by omega) (by omega)
  refine ⟨ad, e, ?_⟩
  have hK' : c = [.int .u8 (xs.getD i 0)] := by simpa [Kd.int, Kd.scalar] using hK
  have hq := hc0 0 (.int .u8 (xs.getD i 0)) (by rw [hK']; rfl)
  simpa [Kd.int, Kd.scalar] using hq
theorem mrow {w : World} {A : Option Addr} {n m : Nat} {M : Mtx} (h : Kd.C kRow w A n (mat n m M)) (i : Nat) (hi : i < n) :
    ∃ ad A0 c0, A = some ad ∧ w.cell? (ad.add i) = some (.slice A0 m c0) ∧ m ≤ c0 ∧ (Kd.int .u8).C w A0 m (line m (M i)) := by
  obtain ⟨ad, c, e, _, hK, hc0⟩ := Kd.C_get h [] (i : Int) (by omega) (by omega)
  obtain ⟨A0, c0, rfl, l0, g0⟩ := hK
  have e1 : ((mat n m M).getD i []) = line m (M i) := mat_get n m M i hi
  have hq : w.cell? (ad.add i) = some (.slice A0 ((mat n m M).getD i []).length c0) := by simpa [Kd.slice] using hc0 0 _ rfl
  rw [e1, line_len] at hq
  rw [Int.toNat_natCast, e1, line_len] at l0 g0
  exact ⟨ad, A0, c0, e, hq, l0, g0⟩
theorem addk (g k : Nat) : (⟨g, 0, none⟩ : Addr).add k = ⟨g, k, none⟩ := by by_cases h : k = 0 <;> simp [Addr.add, h]
theorem clone_R {W : World} {base c9 m : Nat} {A9 : Option Addr} {xs : List Int} (h : W.ownsRow base 5 1 (.slice A9 ([] ++ xs).length c9) ([] ++ xs).length (nums .u8 ([] ++ xs))) (hl : xs.length = m) : (Kd.int .u8).R 5 W base (fun _ => True) (.slice A9 m c9) xs := by
  subst hl
  rw [List.nil_append] at h
  exact Kd.R_of_own h (fun _ _ => trivial)
end Go.Proofs.Ytcneobnplhffmaa.Sol
/- gf.Mul, walked by hand: the world stays. -/
namespace Go.Proofs.Ytcneobnplhffmaa.Gi
open Go Go.RowKit Go.Proofs.Ytcneobnplhffmaa.Bits Go.Proofs.Ytcneobnplhffmaa.Gf Go.Proofs.YtcneobnplhffmaaW.PrintWords
set_option linter.unusedVariables false

theorem xt_is (x : Nat) (h : x < 256) : (if 255 < x * 2 then x * 2 ^^^ 285 else x * 2) = xt x := by
  have e : ∀ x, x < 256 → (if 255 < x * 2 then x * 2 ^^^ 285 else x * 2) = xt x := by decide +kernel
  exact e x h
theorem xor_lt {a b : Nat} (ha : a < 256) (hb : b < 256) : a ^^^ b < 256 := by
  have : a ^^^ b < 2 ^ 8 := Nat.xor_lt_two_pow ha hb
  simpa using this

/-- What the loop holds. -/
def MulInv (r : Nat) (n b p x : Nat) : Prop := n ≤ 8 ∧ b < 2 ^ n ∧ p < 256 ∧ x < 256 ∧ gmA n b p x = r
theorem mulInv_bounds {r n b p x : Nat} (h : MulInv r n b p x) : b < 256 ∧ p < 256 ∧ x < 256 := by
  refine ⟨Nat.lt_of_lt_of_le h.2.1 ?_, h.2.2.1, h.2.2.2.1⟩
  have := Nat.pow_le_pow_right (n := 2) (by decide) h.1
  simpa using this
theorem mulInv_step {r n b p x : Nat} (h : MulInv r n b p x) (hb : 0 < b) : ∃ m, MulInv r m (b / 2) (p ^^^ b % 2 * x) (xt x) := by
  obtain ⟨h1, h2, h3, h4, h5⟩ := h
  cases n with
  | zero => simp at h2; omega
  | succ m =>
    refine ⟨m, by omega, by rw [Nat.pow_succ] at h2; omega, ?_, xt_lt x, h5⟩
    refine xor_lt h3 ?_
    rcases bit01 b with e | e <;> rw [e] <;> omega
theorem mulInv_end {r n p x : Nat} (h : MulInv r n 0 p x) : p = r := by
  have := h.2.2.2.2
  rwa [gmA_zero] at this

set_option maxRecDepth 100000 in
theorem mul_still0 (a b0 : Nat) (w : World) (ha : a < 256) (hb0 : b0 < 256) :
    Calls Try.prog 27 #[.int .u8 a, .int .u8 b0] w fun e w' => e = .returned (.int .u8 (gm a b0 : Nat)) ∧ w' = w := by
  have hI := Lib.hid (show MulInv (gm a b0) 8 b0 0 a from ⟨Nat.le_refl _, by simpa using hb0, by decide, ha, rfl⟩)
  have hr := gm_lt a b0 ha
  have ea : IntKind.i64.wrap (a : Int) = (a : Int) := IntWalk.i64_in _ (by omega)
  obtain ⟨r, hrr⟩ : ∃ r, r = gm a b0 := ⟨_, rfl⟩
  rw [← hrr] at hI hr ⊢
  clear hrr
  go_enter Try.func27, Try.ntmps27
  go_wp2
  go_loopw [1, 5, 6] (fun vb vp vx wr => ∃ (n b p x : Nat), vb = .int .u8 b ∧ vp = .int .i64 p ∧ vx = .int .i64 x ∧ Hid (MulInv r n b p x) ∧ Hid (wr = w)) (fun vb _ _ _ => (intOf vb).toNat)
  case atStart => exact ⟨8, b0, 0, a, rfl, rfl, rfl, hI, Lib.hid rfl⟩
  case round =>
    obtain ⟨n, b, p, x, rfl, rfl, rfl, hJ, hW⟩ := hrel
    have hm := hW.out
    subst hm
    clear hI
    obtain ⟨hb, hp, hx⟩ := mulInv_bounds hJ.out
    by_cases h0 : 0 < b
    · obtain ⟨n', hN⟩ := mulInv_step hJ.out h0
      have hxt := xt_is x hx
      have c3 : decide ((0 : Int) < (b : Int)) = true := by simp; omega
      have eb : bits .and .u8 (b : Int) 1 = ((b % 2 : Nat) : Int) := and1_u8 b hb
      have ex : bits .xor .i64 (p : Int) (x : Int) = ((p ^^^ x : Nat) : Int) := xor_i64 p x (by omega) (by omega)
      have e2 : bits .xor .i64 ((x : Int) * 2) 285 = ((x * 2 ^^^ 285 : Nat) : Int) := by
        have := xor_i64 (x * 2) 285 (by omega) (by omega)
        rwa [show ((x * 2 : Nat) : Int) = (x : Int) * 2 by omega] at this
      have ed : (b : Int) / 2 = ((b / 2 : Nat) : Int) := by omega
      have HD := Lib.hid ed
      have HN := Lib.hid hN
      have hlt : b / 2 < b := by omega
      have HB2 := Lib.hid (show b / 2 < b by omega)
      have HX := Lib.hid hxt
      have HE2 := Lib.hid e2
      have HEX := Lib.hid ex
      clear hN ed hlt hxt e2 ex
      rcases bit01 b with hbit | hbit
      · have q1 : (bits .and .u8 (b : Int) 1 == 1) = false := by rw [eb, hbit]; rfl
        have Hbit := Lib.hid hbit
        clear eb hbit
        by_cases h5 : 255 < x * 2
        · have q2 : decide ((255 : Int) < (x : Int) * 2) = true := by simp; omega
          go_wp2
          go_roundw
          case rel => exact ⟨n', b / 2, p, xt x, by rw [← HD.out], rfl, by have := HX.out; rw [if_pos h5] at this; rw [HE2.out, this], by have := HN.out; rw [Hbit.out, Nat.zero_mul, Nat.xor_zero] at this; exact Lib.hid this, by first | exact Lib.hid rfl | exact Lib.hid trivial⟩
          case measure => have := HB2.out; simp [intOf]; omega
        · have q2 : decide ((255 : Int) < (x : Int) * 2) = false := by simp; omega
          go_wp2
          go_roundw
          case rel => exact ⟨n', b / 2, p, xt x, by rw [← HD.out], rfl, by have := HX.out; rw [if_neg h5] at this; rw [← this]; congr 1, by have := HN.out; rw [Hbit.out, Nat.zero_mul, Nat.xor_zero] at this; exact Lib.hid this, by first | exact Lib.hid rfl | exact Lib.hid trivial⟩
          case measure => have := HB2.out; simp [intOf]; omega
      · have q1 : (bits .and .u8 (b : Int) 1 == 1) = true := by rw [eb, hbit]; rfl
        have Hbit := Lib.hid hbit
        clear eb hbit
        by_cases h5 : 255 < x * 2
        · have q2 : decide ((255 : Int) < (x : Int) * 2) = true := by simp; omega
          go_wp2
          go_roundw
          case rel => exact ⟨n', b / 2, p ^^^ x, xt x, by rw [← HD.out], by rw [HEX.out], by have := HX.out; rw [if_pos h5] at this; rw [HE2.out, this], by have := HN.out; rw [Hbit.out, Nat.one_mul] at this; exact Lib.hid this, by first | exact Lib.hid rfl | exact Lib.hid trivial⟩
          case measure => have := HB2.out; simp [intOf]; omega
        · have q2 : decide ((255 : Int) < (x : Int) * 2) = false := by simp; omega
          go_wp2
          go_roundw
          case rel => exact ⟨n', b / 2, p ^^^ x, xt x, by rw [← HD.out], by rw [HEX.out], by have := HX.out; rw [if_neg h5] at this; rw [← this]; congr 1, by have := HN.out; rw [Hbit.out, Nat.one_mul] at this; exact Lib.hid this, by first | exact Lib.hid rfl | exact Lib.hid trivial⟩
          case measure => have := HB2.out; simp [intOf]; omega
    · obtain rfl : b = 0 := by omega
      obtain rfl := mulInv_end hJ.out
      have c3 : decide ((0 : Int) < ((0 : Nat) : Int)) = false := by decide
      go_wp2
      go_ret
      exact ⟨by congr 2, rfl⟩
theorem mul_still (a b : Int) (w : World) (ha : Byt a) (hb : Byt b) :
    Calls Try.prog 27 #[.int .u8 a, .int .u8 b] w fun e w' => e = .returned (.int .u8 (gmI a b)) ∧ w' = w := by
  obtain ⟨x, hx, rfl⟩ := byt_nat ha
  obtain ⟨y, hy, rfl⟩ := byt_nat hb
  refine (mul_still0 x y w hx hy).mono ?_
  rintro e w' ⟨rfl, h⟩
  exact ⟨by simp [gmI], h⟩
theorem add_still (a b : Int) (w : World) (ha : Byt a) (hb : Byt b) :
    Calls Try.prog 26 #[.int .u8 a, .int .u8 b] w fun e w' => e = .returned (.int .u8 (xorI a b)) ∧ w' = w := by
  have hx := xor_bits ha hb
  go_enter Try.func26, Try.ntmps26
  go_wp2
  go_ret
  exact ⟨by first | rfl | rw [hx], rfl⟩
end Go.Proofs.Ytcneobnplhffmaa.Gi
/- The first elements whose powers are unlike. -/
namespace Go.Proofs.Ytcneobnplhffmaa.VPts
open Go Go.Proofs.Ytcneobnplhffmaa.Gf

/-- Was y one of the first k? -/
def hit (f : Nat → Nat) : Nat → Nat → Bool
  | 0, _ => false
  | k + 1, y => hit f k y || f k == y
def firsts (f : Nat → Nat) : Nat → List Int
  | 0 => []
  | k + 1 => if hit f k (f k) then firsts f k else firsts f k ++ [(k : Int)]
def pws (f : Nat → Nat) : Nat → List Int
  | 0 => []
  | k + 1 => if hit f k (f k) then pws f k else pws f k ++ [(f k : Int)]
theorem pws_succ (f : Nat → Nat) (k : Nat) : pws f (k + 1) = if hit f k (f k) then pws f k else pws f k ++ [(f k : Int)] := rfl
theorem firsts_succ (f : Nat → Nat) (k : Nat) : firsts f (k + 1) = if hit f k (f k) then firsts f k else firsts f k ++ [(k : Int)] := rfl
theorem hit_succ (f : Nat → Nat) (k y : Nat) : hit f (k + 1) y = (hit f k y || f k == y) := rfl
theorem mem_pws (f : Nat → Nat) (k y : Nat) : ((y : Int) ∈ pws f k) ↔ hit f k y = true := by
  induction k with
  | zero => simp [pws, hit]
  | succ k ih =>
    rw [pws_succ, hit_succ]
    by_cases h : hit f k (f k) = true
    · rw [if_pos h, ih]
      constructor
      · intro h2; simp [h2]
      · intro h2
        rcases (Bool.or_eq_true _ _).mp h2 with h3 | h3
        · exact h3
        · rw [beq_iff_eq] at h3; rw [← h3]; exact h
    · rw [if_neg h, List.mem_append, ih]
      simp
      constructor
      · rintro (h2 | h2)
        · exact .inl h2
        · exact .inr (by omega)
      · rintro (h2 | h2)
        · exact .inl h2
        · exact .inr (by omega)
theorem len_same (f : Nat → Nat) (k : Nat) : (pws f k).length = (firsts f k).length := by
  induction k with
  | zero => rfl
  | succ k ih => rw [pws_succ, firsts_succ]; by_cases h : hit f k (f k) = true <;> simp [h, ih]
theorem len_le (f : Nat → Nat) (k : Nat) : (firsts f k).length ≤ k := by
  induction k with
  | zero => simp [firsts]
  | succ k ih => rw [firsts_succ]; by_cases h : hit f k (f k) = true <;> simp [h] <;> omega
theorem pws_nodup (f : Nat → Nat) (k : Nat) : (pws f k).Nodup := by
  induction k with
  | zero => simp [pws]
  | succ k ih =>
    rw [pws_succ]
    by_cases h : hit f k (f k) = true
    · rw [if_pos h]; exact ih
    · rw [if_neg h, List.nodup_append]
      refine ⟨ih, by simp, ?_⟩
      intro a ha b hb
      simp at hb
      subst hb
      intro e
      subst e
      exact h ((mem_pws f k _).mp ha)
theorem pre (f : Nat → Nat) (k d : Nat) : firsts f k <+: firsts f (k + d) := by
  induction d with
  | zero => exact List.prefix_refl _
  | succ d ih =>
    rw [← Nat.add_assoc]
    rw [firsts_succ]
    by_cases h : hit f (k + d) (f (k + d)) = true
    · rw [if_pos h]; exact ih
    · rw [if_neg h]; exact ih.trans (List.prefix_append _ _)
/-- Where it stops: at 256, or as soon as there are n. -/
def Stop (f : Nat → Nat) (n k : Nat) : Prop := k ≤ 256 ∧ (firsts f k).length ≤ n ∧ (k = 256 ∨ (firsts f k).length = n)
theorem stop_one (f : Nat → Nat) (n k k' : Nat) (h : Stop f n k) (h' : Stop f n k') : firsts f k = firsts f k' := by
  have key : ∀ a b, Stop f n a → Stop f n b → a ≤ b → firsts f a = firsts f b := by
    intro a b ha hb hab
    obtain ⟨d, rfl⟩ : ∃ d, b = a + d := ⟨b - a, by omega⟩
    rcases ha.2.2 with h1 | h1
    · have : d = 0 := by have := hb.1; omega
      subst this; rfl
    · have hp := pre f a d
      exact hp.eq_of_length_le (by rw [h1]; exact hb.2.1)
  rcases Nat.le_total k k' with h1 | h1
  · exact key _ _ h h' h1
  · exact (key _ _ h' h h1).symm
theorem firsts_bytes (f : Nat → Nat) (k : Nat) (hk : k ≤ 256) : ∀ x ∈ firsts f k, 0 ≤ x ∧ x < 256 := by
  induction k with
  | zero => intro x hx; cases hx
  | succ k ih =>
    intro x hx
    rw [firsts_succ] at hx
    by_cases h : hit f k (f k) = true
    · rw [if_pos h] at hx; exact ih (by omega) x hx
    · rw [if_neg h, List.mem_append] at hx
      rcases hx with hx | hx
      · exact ih (by omega) x hx
      · simp at hx; omega
theorem gp_zero (n : Nat) (h : 0 < n) : gp 0 n = 0 := by
  obtain ⟨m, rfl⟩ : ∃ m, n = m + 1 := ⟨n - 1, by omega⟩
  show gm (gp 0 m) 0 = 0
  exact gm_zero_right _
theorem gp_255n (a n : Nat) (ha : a < 256) (h0 : a ≠ 0) (hn : 0 < n) : gp a (n % 255) = gp a n := by
  rw [gp_mod a ha n hn]
  rcases Nat.eq_zero_or_pos (n % 255) with h | h
  · rw [h, show (n - 1) % 255 + 1 = 255 by omega, gp_255 a ha h0]; rfl
  · congr 1; omega
end Go.Proofs.Ytcneobnplhffmaa.VPts
/- Equations whose rows are the powers of unlike elements. No program. -/
namespace Go.Proofs.Ytcneobnplhffmaa.Sol
open Go.Proofs.Ytcneobnplhffmaa.Gf Go.Proofs.Ytcneobnplhffmaa.Gi Go.Proofs.Ytcneobnplhffmaa.Alg
set_option linter.unusedVariables false

def pw (x : G) : Nat → G
  | 0 => 1
  | n + 1 => pw x n * x
theorem pw_succ' (x : G) : ∀ n, pw x (n + 1) = x * pw x n
  | 0 => by show 1 * x = x * 1; rw [Alg.one_mul, Fd.mul_one]
  | n + 1 => by
    show pw x (n + 1) * x = x * (pw x n * x)
    rw [pw_succ' x n, Fd.mul_assoc]
theorem of_gp (x n : Nat) (hx : x < 256) : G.of ((gp x n : Nat) : Int) = pw (G.of (x : Int)) n := by
  induction n with
  | zero => exact G.of_one
  | succ n ih =>
    have h := of_gm (a := ((gp x n : Nat) : Int)) (b := (x : Int)) (by have := gp_lt x hx n; exact ⟨by omega, by omega⟩) ⟨by omega, by omega⟩
    show G.of _ = pw _ n * _
    rw [← ih, ← h]
    congr 1
theorem sum_shift (n : Nat) (f : Nat → G) : sum (n + 1) f = f 0 + sum n (fun i => f (i + 1)) := by
  induction n with
  | zero => show 0 + f 0 = f 0 + 0; rw [Alg.zero_add, Fd.add_zero]
  | succ n ih =>
    show sum (n + 1) f + f (n + 1) = f 0 + (sum n (fun i => f (i + 1)) + f (n + 1))
    rw [ih, Fd.add_assoc]
theorem sum_left (n : Nat) (a : G) (f : Nat → G) : sum n (fun i => a * f i) = a * sum n f := by
  rw [Fd.mul_comm a, ← sum_scale]; exact sum_congr (fun i _ => Fd.mul_comm _ _)
/-- A polynomial's value is the sum of its terms. -/
theorem hor_sum (x : G) : ∀ (n : Nat) (c : Nat → G), hor ((List.range n).map c) x = sum n (fun j => pw x j * c j)
  | 0, _ => rfl
  | n + 1, c => by
    rw [List.range_succ_eq_map, List.map_cons, List.map_map, sum_shift]
    show c 0 + x * hor ((List.range n).map (c ∘ Nat.succ)) x = 1 * c 0 + _
    rw [hor_sum x n (c ∘ Nat.succ), Alg.one_mul, ← sum_left]
    congr 1
    refine sum_congr (fun j _ => ?_)
    show x * (pw x j * c (j + 1)) = pw x (j + 1) * c (j + 1)
    rw [pw_succ', Fd.mul_assoc]
/-- Of powers of unlike elements nothing but nought comes to nought. -/
theorem powers_inj (n : Nat) (x : Nat → G) (hx : ∀ i j, i < n → j < n → x i = x j → i = j) (M : Nat → Nat → G) (hM : ∀ i j, i < n → j < n → M i j = pw (x i) j)
    (c : Nat → G) (h : ∀ i, i < n → dotF n (M i) c = 0) : ∀ j, j < n → c j = 0 := by
  intro j hj
  refine noughts ((List.range n).map c) ((List.range n).map x) ?_ (by simp) (fun p hp => ?_) (c j) (List.mem_map.2 ⟨j, List.mem_range.2 hj, rfl⟩)
  · rw [List.nodup_iff_pairwise_ne, List.pairwise_map]
    exact List.Pairwise.imp_of_mem (fun {a b} ha hb hne e => hne (hx a b (List.mem_range.1 ha) (List.mem_range.1 hb) e)) (List.nodup_range)
  · obtain ⟨i, hi, rfl⟩ := List.mem_map.1 hp
    have hi' := List.mem_range.1 hi
    rw [hor_sum, ← h i hi']
    unfold dotF
    exact sum_congr (fun k hk => by rw [hM i k hi' hk])
/-- The document's way: what Steps makes of the points' powers and values, its last column, is the one polynomial through them. -/
theorem StepsTo.through {n : Nat} {M0 : Mtx} (h0 : BytM M0) (x : Nat → G) (hx : ∀ i j, i < n → j < n → x i = x j → i = j) (hM : ∀ i j, i < n → j < n → el M0 i j = pw (x i) j)
    {t : Nat} {M : Mtx} (h : StepsTo n M0 (n + 1) t M) (p : Nat → G) (hp : ∀ i, i < n → hor ((List.range n).map p) (x i) = el M0 i n) : ∀ i, i < n → el M i n = p i := by
  refine h.solves h0 (powers_inj n x hx (el M0) hM) p (fun i hi => ?_)
  rw [← hp i hi, hor_sum]
  unfold dotF
  exact sum_congr (fun k hk => by rw [hM i k hi hk])
end Go.Proofs.Ytcneobnplhffmaa.Sol
/- Polynomials' values: Lagrange. No program. -/
namespace Go.Proofs.Ytcneobnplhffmaa.Sol
open Go.Proofs.Ytcneobnplhffmaa.Gf Go.Proofs.Ytcneobnplhffmaa.Gi Go.Proofs.Ytcneobnplhffmaa.Alg
set_option linter.unusedVariables false

/-- What the polynomial of the coefficients f comes to. -/
def ev (n : Nat) (f : Nat → Int) (z : Int) : G := sum n (fun j => pw (G.of z) j * G.of (f j))
theorem ev_hor (n : Nat) (f : Nat → Int) (z : Int) : hor ((line n f).map G.of) (G.of z) = ev n f z := by
  have := hor_sum (G.of z) n (fun j => G.of (f j))
  unfold ev
  rw [← this]
  unfold line
  rw [List.map_map]
  rfl
theorem ev_congr {n : Nat} {f g : Nat → Int} (h : ∀ j, j < n → f j = g j) (z : Int) : ev n f z = ev n g z := by
  unfold ev
  exact sum_congr (fun j hj => by rw [h j hj])
theorem ev_zero (n : Nat) (z : Int) : ev n (fun _ => 0) z = 0 := by
  unfold ev
  exact sum_zero' (fun i _ => by rw [G.of_zero, mul_zero])
theorem ev_one (z : Int) (f : Nat → Int) (h : f 0 = 1) : ev 1 f z = 1 := by
  unfold ev
  show (0 : G) + pw (G.of z) 0 * G.of (f 0) = 1
  rw [h, G.of_one, Fd.mul_one, zero_add]
  rfl
theorem ev_add (n : Nat) {o b : Nat → Int} {s : Int} (ho : ∀ j, Byt (o j)) (hb : ∀ j, Byt (b j)) (hs : Byt s) (z : Int) :
    ev n (fun j => xorI (o j) (gmI (b j) s)) z = ev n o z + ev n b z * G.of s := by
  unfold ev
  rw [← sum_scale, ← sum_add]
  exact sum_congr (fun j _ => by rw [of_xor (ho j) (gmI_byt (hb j)), of_gm (hb j) hs, Fd.mul_add, Fd.mul_assoc])
theorem ev_times (m : Nat) {f t : Nat → Int} {x : Int} (hf : ∀ j, Byt (f j)) (hx : Byt x) (ht : ∀ j, t j = xorI (if 0 < j ∧ j ≤ m then f (j - 1) else 0) (if j < m then gmI (f j) x else 0)) (z : Int) :
    ev (m + 1) t z = ev m f z * (G.of z + G.of x) := by
  have h1 : ev (m + 1) t z = sum (m + 1) (fun j => pw (G.of z) j * G.of (if 0 < j ∧ j ≤ m then f (j - 1) else 0)) + sum (m + 1) (fun j => pw (G.of z) j * G.of (if j < m then gmI (f j) x else 0)) := by
    unfold ev
    rw [← sum_add]
    refine sum_congr (fun j _ => ?_)
    rw [ht j, of_xor, Fd.mul_add]
    · split
      · exact hf _
      · exact byt0
    · split
      · exact gmI_byt (hf _)
      · exact byt0
  have h2 : sum (m + 1) (fun j => pw (G.of z) j * G.of (if j < m then gmI (f j) x else 0)) = ev m f z * G.of x := by
    show sum m (fun j => pw (G.of z) j * G.of (if j < m then gmI (f j) x else 0)) + pw (G.of z) m * G.of (if m < m then gmI (f m) x else 0) = _
    rw [if_neg (Nat.lt_irrefl m), G.of_zero, mul_zero, Fd.add_zero]
    unfold ev
    rw [← sum_scale]
    exact sum_congr (fun j hj => by rw [if_pos hj, of_gm (hf j) hx, Fd.mul_assoc])
  have h3 : sum (m + 1) (fun j => pw (G.of z) j * G.of (if 0 < j ∧ j ≤ m then f (j - 1) else 0)) = ev m f z * G.of z := by
    rw [sum_shift, if_neg (by omega), G.of_zero, mul_zero, zero_add]
    unfold ev
    rw [← sum_scale]
    refine sum_congr (fun j hj => ?_)
    rw [if_pos (by omega), Nat.add_sub_cancel]
    show pw (G.of z) j * G.of z * G.of (f j) = _
    rw [Fd.mul_assoc, Fd.mul_comm (G.of z), ← Fd.mul_assoc]
  rw [h1, h2, h3, ← Fd.mul_add]
/-- What the round over i holds of the sum so far. -/
def LagO (n : Nat) (x v : Nat → Int) (i : Nat) (o : Nat → Int) : Prop := (∀ j, Byt (o j)) ∧ ∀ j, j < n → ev n o (x j) = if j < i then G.of (v j) else 0
/-- What the round over k holds of the product so far. -/
def LagB (n : Nat) (x v : Nat → Int) (i k len : Nat) (b : Nat → Int) (s : Int) : Prop :=
  (∀ j, Byt (b j)) ∧ Byt s ∧ len = (if k ≤ i then k + 1 else k) ∧ (∀ j, j < k → j ≠ i → ev len b (x j) = 0) ∧ ev len b (x i) * G.of s = G.of (v i)
theorem lagO_start (n : Nat) (x v : Nat → Int) : LagO n x v 0 (fun _ => 0) := ⟨fun _ => byt0, fun j _ => by rw [ev_zero, if_neg (Nat.not_lt_zero j)]⟩
theorem lagB_start (n : Nat) (x v : Nat → Int) (i : Nat) (hv : Byt (v i)) : LagB n x v i 0 1 (fun _ => 1) (v i) :=
  ⟨fun _ => show Byt 1 from ⟨by decide, by decide⟩, hv, by rw [if_pos (Nat.zero_le i)], fun j hj => absurd hj (Nat.not_lt_zero j), by rw [ev_one _ _ rfl, Alg.one_mul]⟩
theorem lagB_skip {n : Nat} {x v : Nat → Int} {i len : Nat} {b : Nat → Int} {s : Int} (h : LagB n x v i i len b s) : LagB n x v i (i + 1) len b s := by
  obtain ⟨h1, h2, h3, h4, h5⟩ := h
  refine ⟨h1, h2, ?_, fun j hj hne => h4 j (by omega) hne, h5⟩
  rw [if_pos (Nat.le_refl i)] at h3
  rw [if_neg (by omega)]; exact h3
theorem lagB_step {n : Nat} {x v : Nat → Int} {i k len : Nat} {b t : Nat → Int} {s r : Int} (h : LagB n x v i k len b s) (hki : k ≠ i) (hx : ∀ j, Byt (x j)) (hr : Byt r) (h1 : gmI (xorI (x i) (x k)) r = 1)
    (htb : ∀ j, Byt (t j)) (ht : ∀ j, t j = xorI (if 0 < j ∧ j ≤ len then b (j - 1) else 0) (if j < len then gmI (b j) (x k) else 0)) : LagB n x v i (k + 1) (len + 1) t (gmI s r) := by
  obtain ⟨hb, hs, hl, h4, h5⟩ := h
  refine ⟨htb, gmI_byt hs, ?_, fun j hj hne => ?_, ?_⟩
  · by_cases e : k ≤ i
    · rw [if_pos e] at hl; rw [if_pos (by omega)]; omega
    · rw [if_neg e] at hl; rw [if_neg (by omega)]; omega
  · rw [ev_times len hb (hx k) ht]
    by_cases e : j = k
    · subst e; rw [Fd.add_self, mul_zero]
    · rw [h4 j (by omega) hne, zero_mul]
  · rw [ev_times len hb (hx k) ht, of_gm hs hr]
    have e1 : (G.of (x i) + G.of (x k)) * G.of r = 1 := by rw [← of_xor (hx i) (hx k), ← of_gm (xorI_byt (hx i) (hx k)) hr, h1, G.of_one]
    rw [← h5, Fd.mul_assoc, Alg.mul_left_comm (G.of (x i) + G.of (x k)), e1, Fd.mul_one]
theorem lagO_step {n : Nat} {x v : Nat → Int} {i : Nat} {o b : Nat → Int} {s : Int} (ho : LagO n x v i o) (hb : LagB n x v i n n b s) (hi : i < n) : LagO n x v (i + 1) (fun j => xorI (o j) (gmI (b j) s)) := by
  obtain ⟨h1, h2⟩ := ho
  obtain ⟨g1, g2, g3, g4, g5⟩ := hb
  refine ⟨fun j => xorI_byt (h1 j) (gmI_byt (g1 j)), fun j hj => ?_⟩
  rw [ev_add n h1 g1 g2, h2 j hj]
  by_cases e : j = i
  · subst e; rw [g5, if_neg (Nat.lt_irrefl j), if_pos (by omega), zero_add]
  · rw [g4 j hj e, zero_mul, Fd.add_zero]
    by_cases e2 : j < i
    · rw [if_pos e2, if_pos (by omega)]
    · rw [if_neg e2, if_neg (by omega)]
theorem xor_ne {a b : Int} (ha : Byt a) (hb : Byt b) (h : a ≠ b) : xorI a b ≠ 0 := by
  intro e
  have := of_xor ha hb
  rw [e, G.of_zero] at this
  exact h (G.of_inj ha hb (eq_of_add_zero this.symm))
theorem xor_same (a : Int) : xorI a a = 0 := by simp [xorI]
end Go.Proofs.Ytcneobnplhffmaa.Sol
/- Powers of 2 and of which power each element is. -/
namespace Go.Proofs.Ytcneobnplhffmaa.Gf

/-- The powers of 2, from one on. -/
def pl : Nat → Nat → List Nat
  | 0, _ => []
  | n + 1, x => x :: pl n (gm x 2)
theorem pl_get (n : Nat) : ∀ (j i : Nat), i < n → (pl n (gp 2 j))[i]? = some (gp 2 (j + i)) := by
  induction n with
  | zero => intro j i h; omega
  | succ n ih =>
    intro j i h
    cases i with
    | zero => simp [pl]
    | succ i =>
      simp only [pl, List.getElem?_cons_succ, gp_succ]
      rw [ih (j + 1) i (by omega)]
      congr 2; omega
theorem pl_len (n : Nat) : ∀ x, (pl n x).length = n := by
  induction n with
  | zero => intro x; rfl
  | succ n ih => intro x; simp [pl, ih]
theorem has_log (a : Nat) (ha : a < 256) (h0 : a ≠ 0) : ∃ i, i < 255 ∧ gp 2 i = a := by
  have e : ∀ a, a < 256 → a ≠ 0 → a ∈ pl 255 1 := by decide +kernel
  obtain ⟨i, hi⟩ := List.mem_iff_getElem?.1 (e a ha h0)
  have hl : i < 255 := by
    have := (List.getElem?_eq_some_iff.1 hi).1
    rwa [pl_len] at this
  have := pl_get 255 0 i hl
  rw [show gp 2 0 = 1 from rfl, hi, Nat.zero_add] at this
  exact ⟨i, hl, (Option.some.inj this).symm⟩
theorem two_ne (i : Nat) : gp 2 i ≠ 0 := by
  induction i with
  | zero => decide
  | succ i ih =>
    intro h
    have := gm_cancel 2 (gp 2 i) 0 (by decide) (by decide) (gp_lt 2 (by decide) i) (by decide) (by rw [gm_comm 2 _ (by decide) (gp_lt 2 (by decide) i), gm_zero_right]; exact h)
    exact ih this
theorem two_order (d : Nat) (h0 : 0 < d) (hd : d < 255) : gp 2 d ≠ 1 := by
  have e : ∀ i, i < 254 → (pl 254 2)[i]? ≠ some 1 := by decide +kernel
  have := pl_get 254 1 (d - 1) (by omega)
  rw [show gp 2 1 = 2 by decide, show 1 + (d - 1) = d by omega] at this
  intro h
  exact e (d - 1) (by omega) (by rw [this, h])
theorem two_inj (i j : Nat) (hi : i < 255) (hj : j < 255) (h : gp 2 i = gp 2 j) : i = j := by
  have key : ∀ i j, i < j → j < 255 → gp 2 i ≠ gp 2 j := by
    intro i j hij hj h
    refine two_order (j - i) (by omega) (by omega) ?_
    have e : gm (gp 2 i) (gp 2 (j - i)) = gm (gp 2 i) 1 := by
      rw [← gp_add 2 (by decide), show i + (j - i) = j by omega, gm_one, h]
    exact gm_cancel _ _ _ (gp_lt 2 (by decide) i) (two_ne i) (gp_lt 2 (by decide) _) (by decide) e
  rcases Nat.lt_trichotomy i j with h' | h' | h'
  · exact absurd h (key i j h' hj)
  · exact h'
  · exact absurd h.symm (key j i h' hi)
theorem gp_mod255 (n : Nat) : gp 2 (n % 255) = gp 2 n := by
  have h : ∀ q r, gp 2 (255 * q + r) = gp 2 r := by
    intro q
    induction q with
    | zero => intro r; simp
    | succ q ih =>
      intro r
      rw [show 255 * (q + 1) + r = 255 + (255 * q + r) by omega, gp_add 2 (by decide), gp_255 2 (by decide) (by decide), gm_one_left _ (gp_lt 2 (by decide) _), ih]
  have := h (n / 255) (n % 255)
  rw [show 255 * (n / 255) + n % 255 = n by omega] at this
  exact this.symm
/-- Of which power of 2 an element is. -/
def lg (a : Nat) : Nat := (pl 255 1).idxOf a
theorem lg_lt (a : Nat) (ha : a < 256) (h0 : a ≠ 0) : lg a < 255 := by
  have e : ∀ a, a < 256 → a ≠ 0 → a ∈ pl 255 1 := by decide +kernel
  have := List.idxOf_lt_length_of_mem (e a ha h0)
  rwa [pl_len] at this
theorem gp_lg (a : Nat) (ha : a < 256) (h0 : a ≠ 0) : gp 2 (lg a) = a := by
  have h := lg_lt a ha h0
  have := pl_get 255 0 (lg a) h
  rw [show gp 2 0 = 1 from rfl, Nat.zero_add] at this
  have h2 : (pl 255 1)[lg a]? = some a := by
    rw [List.getElem?_eq_getElem (by rw [pl_len]; exact h)]
    exact congrArg some (List.getElem_idxOf (by rw [pl_len]; exact h))
  rw [h2] at this
  exact (Option.some.inj this).symm
theorem lg_gp (i : Nat) (hi : i < 255) : lg (gp 2 i) = i :=
  two_inj _ _ (lg_lt _ (gp_lt 2 (by decide) i) (two_ne i)) hi (gp_lg _ (gp_lt 2 (by decide) i) (two_ne i))
end Go.Proofs.Ytcneobnplhffmaa.Gf
/- Reed and Solomon's words: the generator, the division by it, what rows come to, and equations of places. No program. -/
namespace Go.Proofs.Ytcneobnplhffmaa.Sol
open Go.Proofs.Ytcneobnplhffmaa.Gf Go.Proofs.Ytcneobnplhffmaa.Gi Go.Proofs.Ytcneobnplhffmaa.Alg
set_option linter.unusedVariables false

/-- 2 to a power. -/
def al (i : Nat) : Int := ((gp 2 i : Nat) : Int)
theorem al_byt (i : Nat) : Byt (al i) := by have := gp_lt 2 (by decide) i; unfold al; exact ⟨by omega, by omega⟩
theorem of_al (i : Nat) : G.of (al i) = pw (G.of 2) i := of_gp 2 i (by decide)
theorem al_zero : al 0 = 1 := rfl
theorem al_mod (i : Nat) : al (i % 255) = al i := by unfold al; rw [gp_mod255]
theorem al_inj {i j : Nat} (hi : i < 255) (hj : j < 255) (h : al i = al j) : i = j := two_inj i j hi hj (by unfold al at h; omega)
theorem pw_add (x : G) (m : Nat) : ∀ n, pw x (m + n) = pw x m * pw x n
  | 0 => by show pw x m = pw x m * 1; rw [Fd.mul_one]
  | n + 1 => by show pw x (m + n) * x = pw x m * (pw x n * x); rw [pw_add x m n, Fd.mul_assoc]
theorem pw_mul (x : G) (m : Nat) : ∀ n, pw x (m * n) = pw (pw x m) n
  | 0 => rfl
  | n + 1 => by show pw x (m * n + m) = pw (pw x m) n * pw x m; rw [pw_add, pw_mul x m n]
theorem al_pw (i e : Nat) : pw (G.of (al i)) e = G.of (al (i * e)) := by rw [of_al, of_al, pw_mul]
theorem xor_zero' {a : Int} (ha : Byt a) : xorI 0 a = a := by
  obtain ⟨x, hx, rfl⟩ := byt_nat ha
  simp [xorI]
theorem gm0 (a : Int) : gmI 0 a = 0 := by simp [gmI, gm_zero_left]
theorem gm1 {a : Int} (ha : Byt a) : gmI a 1 = a := by
  obtain ⟨x, hx, rfl⟩ := byt_nat ha
  have : gm x 1 = x := gm_one x
  simp [gmI, this]

/-- The generator's coefficients, the least first. -/
def gen : Nat → Nat → Int
  | 0, j => if j = 0 then 1 else 0
  | r + 1, j => xorI (if 0 < j then gen r (j - 1) else 0) (gmI (gen r j) (al r))
theorem gen_byt : ∀ r j, Byt (gen r j)
  | 0, j => by unfold gen; split; exact ⟨by decide, by decide⟩; exact byt0
  | r + 1, j => by
    unfold gen
    refine xorI_byt ?_ (gmI_byt (gen_byt r j))
    split
    · exact gen_byt r _
    · exact byt0
theorem gen_out : ∀ r j, r < j → gen r j = 0
  | 0, j, h => by unfold gen; rw [if_neg (by omega)]
  | r + 1, j, h => by
    unfold gen
    rw [if_pos (by omega), gen_out r (j - 1) (by omega), gen_out r j (by omega), gm0]; rfl
theorem gen_lead : ∀ r, gen r r = 1
  | 0 => rfl
  | r + 1 => by
    unfold gen
    rw [if_pos (by omega), Nat.add_sub_cancel, gen_lead r, gen_out r (r + 1) (by omega), gm0]; rfl
theorem gen_ev (r : Nat) (z : Int) : ev (r + 2) (gen (r + 1)) z = ev (r + 1) (gen r) z * (G.of z + G.of (al r)) := by
  refine ev_times (r + 1) (gen_byt r) (al_byt r) (fun j => ?_) z
  rw [gen]
  congr 1
  · by_cases h : 0 < j
    · by_cases h2 : j ≤ r + 1
      · rw [if_pos h, if_pos ⟨h, h2⟩]
      · rw [if_pos h, if_neg (fun e => h2 e.2), gen_out r _ (by omega)]
    · rw [if_neg h, if_neg (fun e => h e.1)]
  · by_cases h : j < r + 1
    · rw [if_pos h]
    · rw [if_neg h, gen_out r j (by omega), gm0]
theorem gen_root : ∀ r i, i < r → ev (r + 1) (gen r) (al i) = 0
  | 0, i, h => by omega
  | r + 1, i, h => by
    rw [gen_ev]
    by_cases e : i = r
    · subst e; rw [Fd.add_self, mul_zero]
    · rw [gen_root r i (by omega), zero_mul]

/-- One byte more of a message. -/
def encF (g : Nat → Int) (r : Nat) (b : Int) (t : Nat → Int) : Nat → Int := fun i =>
  if i = 0 then gmI (xorI b (t (r - 1))) (g 0) else xorI (t (i - 1)) (gmI (xorI b (t (r - 1))) (g i))
theorem encF_byt {g : Nat → Int} {r : Nat} {b : Int} {t : Nat → Int} (hb : Byt b) (ht : ∀ i, Byt (t i)) : ∀ i, Byt (encF g r b t i) := by
  intro i
  unfold encF
  have hf := xorI_byt hb (ht (r - 1))
  split
  · exact gmI_byt hf
  · exact xorI_byt (ht _) (gmI_byt hf)
theorem encF_ev {g : Nat → Int} {q : Nat} {b : Int} {t : Nat → Int} (hg : ∀ i, Byt (g i)) (hb : Byt b) (ht : ∀ i, Byt (t i)) (hl : g (q + 1) = 1) (z : Int) (hz : ev (q + 2) g z = 0) :
    ev (q + 1) (encF g (q + 1) b t) z = ev (q + 1) t z * G.of z + G.of b * pw (G.of z) (q + 1) := by
  have hf := xorI_byt hb (ht q)
  have h0 : ev (q + 1) g z = pw (G.of z) (q + 1) := by
    have : ev (q + 1) g z + pw (G.of z) (q + 1) * G.of (g (q + 1)) = 0 := hz
    rw [hl, G.of_one, Fd.mul_one] at this
    exact eq_of_add_zero this
  have h1 : ev (q + 1) (encF g (q + 1) b t) z = sum (q + 1) (fun i => pw (G.of z) i * G.of (if i = 0 then 0 else t (i - 1))) + ev (q + 1) g z * G.of (xorI b (t q)) := by
    unfold ev
    rw [← sum_scale, ← sum_add]
    refine sum_congr (fun i hi => ?_)
    unfold encF
    rw [Nat.add_sub_cancel]
    by_cases e : i = 0
    · rw [if_pos e, if_pos e, e, G.of_zero, mul_zero, zero_add, of_gm hf (hg 0), Fd.mul_assoc, Fd.mul_comm (G.of (g 0))]
    · rw [if_neg e, if_neg e, of_xor (ht _) (gmI_byt hf), of_gm hf (hg i), Fd.mul_add, Fd.mul_assoc, Fd.mul_comm (G.of (g i))]
  have h2 : sum (q + 1) (fun i => pw (G.of z) i * G.of (if i = 0 then 0 else t (i - 1))) = ev q t z * G.of z := by
    rw [sum_shift, if_pos rfl, G.of_zero, mul_zero, zero_add]
    unfold ev
    rw [← sum_scale]
    refine sum_congr (fun i hi => ?_)
    rw [if_neg (by omega), Nat.add_sub_cancel]
    show pw (G.of z) i * G.of z * G.of (t i) = _
    rw [Fd.mul_assoc, Fd.mul_comm (G.of z), ← Fd.mul_assoc]
  have h3 : ev (q + 1) t z = ev q t z + pw (G.of z) q * G.of (t q) := rfl
  rw [h1, h2, h0, h3, of_xor hb (ht q)]
  show _ + pw (G.of z) q * G.of z * _ = _ + _ * (pw (G.of z) q * G.of z)
  generalize pw (G.of z) q = P
  generalize ev q t z = E
  generalize G.of z = Z
  generalize G.of b = B
  generalize G.of (t q) = T
  rw [Fd.mul_add, add_mul, Fd.mul_comm B, Fd.add_assoc]
  congr 1
  rw [Fd.add_comm]
  congr 1
  rw [Fd.mul_assoc, Fd.mul_comm Z T, Fd.mul_assoc]
/-- The rest behind the first k bytes. -/
def encT (g : Nat → Int) (r : Nat) (m : Nat → Int) : Nat → Nat → Int
  | 0 => fun _ => 0
  | k + 1 => encF g r (m k) (encT g r m k)
theorem encT_byt {g : Nat → Int} {r : Nat} {m : Nat → Int} (hm : ∀ i, Byt (m i)) : ∀ k i, Byt (encT g r m k i)
  | 0, i => byt0
  | k + 1, i => encF_byt (hm k) (encT_byt hm k) i
/-- What a row comes to, the greatest power first. -/
def hI (w : Nat → Int) (x : Int) : Nat → Int
  | 0 => 0
  | t + 1 => xorI (gmI (hI w x t) x) (w t)
theorem hI_byt {w : Nat → Int} (hw : ∀ i, Byt (w i)) (x : Int) : ∀ t, Byt (hI w x t)
  | 0 => byt0
  | t + 1 => xorI_byt (gmI_byt (hI_byt hw x t)) (hw t)
theorem hI_succ {w : Nat → Int} (hw : ∀ i, Byt (w i)) {x : Int} (hx : Byt x) (t : Nat) : G.of (hI w x (t + 1)) = G.of (hI w x t) * G.of x + G.of (w t) := by
  show G.of (xorI (gmI (hI w x t) x) (w t)) = _
  rw [of_xor (gmI_byt (hI_byt hw x t)) (hw t), of_gm (hI_byt hw x t) hx]
theorem hI_congr {w v : Nat → Int} (x : Int) : ∀ t, (∀ i, i < t → w i = v i) → hI w x t = hI v x t
  | 0, _ => rfl
  | t + 1, h => by
    show xorI (gmI (hI w x t) x) (w t) = xorI (gmI (hI v x t) x) (v t)
    rw [hI_congr x t (fun i hi => h i (by omega)), h t (by omega)]
theorem sum_rev : ∀ (n : Nat) (f : Nat → G), sum n (fun i => f (n - 1 - i)) = sum n f
  | 0, f => rfl
  | n + 1, f => by
    rw [sum_shift]
    show f (n + 1 - 1 - 0) + _ = sum n f + f n
    rw [Fd.add_comm, show n + 1 - 1 - 0 = n by omega, ← sum_rev n f]
    congr 1
    exact sum_congr (fun i hi => by congr 1; omega)
theorem hI_sum {w : Nat → Int} (hw : ∀ i, Byt (w i)) {x : Int} (hx : Byt x) : ∀ n, G.of (hI w x n) = sum n (fun a => G.of (w a) * pw (G.of x) (n - 1 - a))
  | 0 => rfl
  | n + 1 => by
    rw [hI_succ hw hx, hI_sum hw hx n]
    show _ = sum n (fun a => G.of (w a) * pw (G.of x) (n + 1 - 1 - a)) + G.of (w n) * pw (G.of x) (n + 1 - 1 - n)
    rw [show n + 1 - 1 - n = 0 by omega]
    show _ = _ + G.of (w n) * 1
    rw [Fd.mul_one, ← sum_scale]
    congr 1
    refine sum_congr (fun a ha => ?_)
    rw [show n + 1 - 1 - a = (n - 1 - a) + 1 by omega]
    show _ = G.of (w a) * (pw (G.of x) (n - 1 - a) * G.of x)
    rw [Fd.mul_assoc]
/-- What the document's Value tells is Horner's. -/
theorem doc_value {w : Nat → Int} (hw : ∀ i, Byt (w i)) (i n : Nat) : dotN w (fun a => al ((i * (n - 1 - a)) % 255)) n = hI w (al i) n := by
  refine G.of_inj (dotN_byt hw n) (hI_byt hw _ n) ?_
  rw [hI_sum hw (al_byt i)]
  have h : ∀ q, G.of (dotN w (fun a => al ((i * (n - 1 - a)) % 255)) q) = sum q (fun a => G.of (w a) * pw (G.of (al i)) (n - 1 - a)) := by
    intro q
    induction q with
    | zero => rfl
    | succ q ih =>
      show G.of (xorI (dotN w _ q) (gmI (w q) _)) = sum q _ + G.of (w q) * pw (G.of (al i)) (n - 1 - q)
      rw [of_xor (dotN_byt hw q) (gmI_byt (hw q)), of_gm (hw q) (al_byt _), ih, al_mod, al_pw]
  exact h n
theorem encT_ev {g : Nat → Int} {q : Nat} {m : Nat → Int} (hg : ∀ i, Byt (g i)) (hm : ∀ i, Byt (m i)) (hl : g (q + 1) = 1) {z : Int} (hbz : Byt z) (hz : ev (q + 2) g z = 0) : ∀ k,
    ev (q + 1) (encT g (q + 1) m k) z = G.of (hI m z k) * pw (G.of z) (q + 1)
  | 0 => by show ev (q + 1) (fun _ => 0) z = (0 : G) * _; rw [ev_zero, zero_mul]
  | k + 1 => by
    show ev (q + 1) (encF g (q + 1) (m k) (encT g (q + 1) m k)) z = _
    rw [encF_ev hg (hm k) (encT_byt hm k) hl z hz, encT_ev hg hm hl hbz hz k, hI_succ hm hbz, add_mul]
    congr 1
    rw [Fd.mul_assoc, Fd.mul_comm (pw _ _), ← Fd.mul_assoc]
/-- A message, and a rest behind it, the greatest power first. -/
def wordF (k r : Nat) (m t : Nat → Int) : Nat → Int := fun j => if j < k then m j else if j < k + r then t (k + r - 1 - j) else 0
theorem wordF_byt {k r : Nat} {m t : Nat → Int} (hm : ∀ i, Byt (m i)) (ht : ∀ i, Byt (t i)) (j : Nat) : Byt (wordF k r m t j) := by
  unfold wordF
  split
  · exact hm j
  · split
    · exact ht _
    · exact byt0
theorem word_hI {k r : Nat} {m t : Nat → Int} (hm : ∀ i, Byt (m i)) (ht : ∀ i, Byt (t i)) {x : Int} (hx : Byt x) : G.of (hI (wordF k r m t) x (k + r)) = G.of (hI m x k) * pw (G.of x) r + ev r t x := by
  rw [hI_sum (wordF_byt hm ht) hx, sum_split]
  congr 1
  · rw [hI_sum hm hx, ← sum_scale]
    refine sum_congr (fun a ha => ?_)
    unfold wordF
    rw [if_pos ha, show k + r - 1 - a = (k - 1 - a) + r by omega, pw_add, Fd.mul_assoc]
  · unfold ev
    rw [← sum_rev r (fun j => pw (G.of x) j * G.of (t j))]
    refine sum_congr (fun a ha => ?_)
    unfold wordF
    rw [if_neg (by omega), if_pos (by omega), show k + r - 1 - (k + a) = r - 1 - a by omega, Fd.mul_comm]
/-- What the division leaves behind a message makes a word. -/
theorem word_is {q : Nat} {m : Nat → Int} (hm : ∀ i, Byt (m i)) (k i : Nat) (hi : i < q + 1) : hI (wordF k (q + 1) m (encT (gen (q + 1)) (q + 1) m k)) (al i) (k + (q + 1)) = 0 := by
  refine G.of_inj (hI_byt (wordF_byt hm (encT_byt hm k)) _ _) ⟨by decide, by decide⟩ ?_
  rw [word_hI hm (encT_byt hm k) (al_byt i), encT_ev (gen_byt _) hm (gen_lead _) (al_byt i) (gen_root _ i hi), Fd.add_self, G.of_zero]

/-- A polynomial whose noughts are given. -/
theorem root_poly (x : Nat → G) : ∀ q, ∃ p : Nat → G, (∀ z, sum (q + 1) (fun i => pw z i * p i) = 0 ↔ ∃ k, k < q ∧ z = x k)
  | 0 => ⟨fun _ => 1, fun z => by
    show (0 : G) + 1 * 1 = 0 ↔ _
    rw [Fd.mul_one, zero_add]
    exact ⟨fun h => absurd h.symm Fd.zero_ne_one, fun ⟨k, hk, _⟩ => by omega⟩⟩
  | q + 1 => by
    obtain ⟨p, hp⟩ := root_poly x q
    refine ⟨fun i => (if 0 < i then p (i - 1) else 0) + (if i < q + 1 then p i * x q else 0), fun z => ?_⟩
    have h1 : sum (q + 2) (fun i => pw z i * ((if 0 < i then p (i - 1) else 0) + (if i < q + 1 then p i * x q else 0))) = sum (q + 1) (fun i => pw z i * p i) * (z + x q) := by
      have e1 : sum (q + 2) (fun i => pw z i * (if 0 < i then p (i - 1) else 0)) = sum (q + 1) (fun i => pw z i * p i) * z := by
        rw [sum_shift, if_neg (by omega), mul_zero, zero_add, ← sum_scale]
        refine sum_congr (fun j hj => ?_)
        rw [if_pos (by omega), Nat.add_sub_cancel]
        show pw z j * z * p j = _
        rw [Fd.mul_assoc, Fd.mul_comm z, ← Fd.mul_assoc]
      have e2 : sum (q + 2) (fun i => pw z i * (if i < q + 1 then p i * x q else 0)) = sum (q + 1) (fun i => pw z i * p i) * x q := by
        show sum (q + 1) _ + pw z (q + 1) * (if q + 1 < q + 1 then p (q + 1) * x q else 0) = _
        rw [if_neg (Nat.lt_irrefl _), mul_zero, Fd.add_zero, ← sum_scale]
        exact sum_congr (fun j hj => by rw [if_pos hj, Fd.mul_assoc])
      rw [sum_congr (g := fun i => pw z i * (if 0 < i then p (i - 1) else 0) + pw z i * (if i < q + 1 then p i * x q else 0)) (fun i _ => Fd.mul_add _ _ _), sum_add, e1, e2, Fd.mul_add]
    rw [h1]
    constructor
    · intro h
      rcases mul_eq_zero h with h | h
      · obtain ⟨k, hk, e⟩ := (hp z).1 h
        exact ⟨k, by omega, e⟩
      · exact ⟨q, by omega, eq_of_add_zero h⟩
    · rintro ⟨k, hk, e⟩
      by_cases hkq : k = q
      · subst hkq; rw [e, Fd.add_self, mul_zero]
      · rw [(hp z).2 ⟨k, by omega, e⟩, zero_mul]
/-- Columns of powers of unlike elements: of at least so many rows nothing but nought comes to nought. -/
theorem cols_inj (q r : Nat) (hqr : q ≤ r) (y : Nat → G) (hy : ∀ i j, i < q → j < q → y i = y j → i = j) (c : Nat → G) (h : ∀ i, i < r → sum q (fun k => pw (y k) i * c k) = 0) : ∀ k, k < q → c k = 0 := by
  intro j hj
  obtain ⟨p, hp⟩ := root_poly (fun k => if k < j then y k else y (k + 1)) (q - 1)
  have e1 : sum q (fun k => sum q (fun i => pw (y k) i * p i) * c k) = 0 := by
    have : sum q (fun k => sum q (fun i => pw (y k) i * p i) * c k) = sum q (fun i => sum q (fun k => pw (y k) i * c k) * p i) := by
      rw [sum_congr (g := fun k => sum q (fun i => pw (y k) i * p i * c k)) (fun k _ => (sum_scale q (c k) _).symm), sum_comm]
      refine sum_congr (fun i _ => ?_)
      rw [← sum_scale]
      exact sum_congr (fun k _ => by rw [Fd.mul_assoc, Fd.mul_comm (p i), ← Fd.mul_assoc])
    rw [this]
    exact sum_zero' (fun i hi => by rw [h i (by omega), zero_mul])
  have hq : q = q - 1 + 1 := by omega
  have hv : ∀ z, sum q (fun i => pw z i * p i) = 0 ↔ ∃ k, k < q - 1 ∧ z = (if k < j then y k else y (k + 1)) := by
    intro z
    have := hp z
    rwa [← hq] at this
  rw [sum_at hj (fun k hk hne => ?_)] at e1
  · rcases mul_eq_zero e1 with h0 | h0
    · obtain ⟨k, hk, e⟩ := (hv _).1 h0
      by_cases hkj : k < j
      · rw [if_pos hkj] at e
        have := hy j k hj (by omega) e
        omega
      · rw [if_neg hkj] at e
        have := hy j (k + 1) hj (by omega) e
        omega
    · exact h0
  · have : sum q (fun i => pw (y k) i * p i) = 0 := by
      refine (hv _).2 ?_
      by_cases hkj : k < j
      · exact ⟨k, by omega, by rw [if_pos hkj]⟩
      · exact ⟨k - 1, by omega, by rw [if_neg (by omega), Nat.sub_add_cancel (by omega)]⟩
    rw [this, zero_mul]
/-- The document's equations: what bytes at places add to what a row comes to. -/
def fillM (n q : Nat) (a : Nat → Nat) (s : Nat → Int) : Mtx := fun i k => if k < q then al ((i * (n - 1 - a k)) % 255) else s i
theorem fillM_byt {n q : Nat} {a : Nat → Nat} {s : Nat → Int} (hs : ∀ i, Byt (s i)) : BytM (fillM n q a s) := by
  intro i j
  unfold fillM
  split
  · exact al_byt _
  · exact hs i
theorem fillM_el {n q : Nat} {a : Nat → Nat} {s : Nat → Int} (i k : Nat) (hk : k < q) : el (fillM n q a s) i k = pw (G.of (al (n - 1 - a k))) i := by
  unfold el fillM
  rw [if_pos hk, al_mod, al_pw, Nat.mul_comm]
theorem fillM_inj {n q r : Nat} {a : Nat → Nat} {s : Nat → Int} (hn : n ≤ 255) (hqr : q ≤ r) (ha : ∀ k, k < q → a k < n) (hd : ∀ i j, i < q → j < q → a i = a j → i = j) (c : Nat → G)
    (h : ∀ i, i < r → dotF q (el (fillM n q a s) i) c = 0) : ∀ j, j < q → c j = 0 := by
  refine cols_inj q r hqr (fun k => G.of (al (n - 1 - a k))) (fun i j hi hj e => hd i j hi hj ?_) c (fun i hi => ?_)
  · have := al_inj (by have := ha i hi; omega) (by have := ha j hj; omega) (G.of_inj (al_byt _) (al_byt _) e)
    have := ha i hi
    have := ha j hj
    omega
  · rw [← h i hi]
    unfold dotF
    exact sum_congr (fun k hk => by rw [fillM_el i k hk])
end Go.Proofs.Ytcneobnplhffmaa.Sol
/- The printed product of two elements is the plain one. -/
namespace Go.Proofs.Ytcneobnplhffmaa.BRsEncodes
open Go Go.RowKit Go.Proofs.Ytcneobnplhffmaa.PRsEncodes Go.Proofs.Ytcneobnplhffmaa.Gf Go.Proofs.Ytcneobnplhffmaa.Bits Go.Proofs.YtcneobnplhffmaaW.PrintWords Go.Proofs.YtcneobnplhffmaaW.PrintLast

theorem xt_is (x : Nat) (h : x < 256) : (if 255 < x * 2 then x * 2 ^^^ 285 else x * 2) = xt x := by
  have e : ∀ x, x < 256 → (if 255 < x * 2 then x * 2 ^^^ 285 else x * 2) = xt x := by decide +kernel
  exact e x h

theorem gf_mul_loop (n : Nat) : ∀ (k b p x : Nat), b < 2 ^ n → p < 256 → x < 256 → n < k → n ≤ 8 → gf_Mul.l0 k b p x = some ((gmA n b p x : Nat) : Int) := by
  induction n with
  | zero =>
    intro k b p x hb hp hx hk hn
    obtain ⟨k, rfl⟩ : ∃ m, k = m + 1 := ⟨k - 1, by omega⟩
    simp only [gf_Mul.l0, gmA]
    rw [if_neg (by simp at hb; omega)]
    congr 1; omega
  | succ n ih =>
    intro k b p x hb hp hx hk hn
    obtain ⟨k, rfl⟩ : ∃ m, k = m + 1 := ⟨k - 1, by omega⟩
    have hb8 : b < 256 := Nat.lt_of_lt_of_le hb (Nat.pow_le_pow_right (by decide) hn)
    by_cases h0 : b = 0
    · subst h0
      simp only [gf_Mul.l0]
      rw [if_neg (by omega), gmA_zero]
      congr 1; omega
    have hx2 : wrap64 ((x : Int) * 2) = ((x * 2 : Nat) : Int) := by rw [wrap64_in _ (by omega) (by omega)]; omega
    have hb2 : (b : Int) / 2 = ((b / 2 : Nat) : Int) := by omega
    have hlt : b / 2 < 2 ^ n := by rw [Nat.pow_succ] at hb; omega
    have e1 : bits .xor .i64 (p : Int) (x : Int) = ((p ^^^ x : Nat) : Int) := xor_i64 p x (by omega) (by omega)
    have e2 : bits .xor .i64 ((x * 2 : Nat) : Int) 285 = ((x * 2 ^^^ 285 : Nat) : Int) := xor_i64 (x * 2) 285 (by omega) (by omega)
    have hpx : p ^^^ x < 256 := by
      have : p ^^^ x < 2 ^ 8 := Nat.xor_lt_two_pow (by omega) (by omega)
      simpa using this
    simp only [gf_Mul.l0, gmA]
    rw [if_pos (by omega), and1_u8 b hb8, hx2, hb2, e1, e2]
    have hxt := xt_is x hx
    have hxl := xt_lt x
    rcases bit01 b with h | h
    · rw [if_neg (by omega), h, Nat.zero_mul, Nat.xor_zero]
      by_cases hc : 255 < x * 2
      · rw [if_pos (by omega)]
        rw [if_pos hc] at hxt
        rw [hxt, ih k _ _ _ hlt hp hxl (by omega) (by omega)]
      · rw [if_neg (by omega)]
        rw [if_neg hc] at hxt
        rw [hxt, ih k _ _ _ hlt hp hxl (by omega) (by omega)]
    · rw [if_pos (by omega), h, Nat.one_mul]
      by_cases hc : 255 < x * 2
      · rw [if_pos (by omega)]
        rw [if_pos hc] at hxt
        rw [hxt, ih k _ _ _ hlt hpx hxl (by omega) (by omega)]
      · rw [if_neg (by omega)]
        rw [if_neg hc] at hxt
        rw [hxt, ih k _ _ _ hlt hpx hxl (by omega) (by omega)]

theorem gf_mul (k a b : Nat) (ha : a < 256) (hb : b < 256) (hk : 9 ≤ k) : gf_Mul.f k a b = some ((gm a b : Nat) : Int) := by
  unfold gf_Mul.f gm
  rw [wrap64_nat a (by omega)]
  exact gf_mul_loop 8 k b 0 a (by omega) (by omega) ha (by omega) (by omega)
end Go.Proofs.Ytcneobnplhffmaa.BRsEncodes
/- The printed powers are the plain ones. -/
namespace Go.Proofs.Ytcneobnplhffmaa.BRsEncodes
open Go Go.RowKit Go.Proofs.Ytcneobnplhffmaa.PRsEncodes Go.Proofs.Ytcneobnplhffmaa.Gf Go.Proofs.Ytcneobnplhffmaa.Bits Go.Proofs.YtcneobnplhffmaaW.PrintWords Go.Proofs.YtcneobnplhffmaaW.PrintLast

theorem gf_pow_loop (m : Nat) : ∀ (k a n p : Nat), a < 256 → p < 256 → n < 2 ^ m → n < 9223372036854775808 → 10 + m ≤ k →
    gf_Pow.l0 k a n p = some ((gm p (gp a n) : Nat) : Int) := by
  induction m with
  | zero =>
    intro k a n p ha hp hn hn2 hk
    obtain ⟨k, rfl⟩ : ∃ m, k = m + 1 := ⟨k - 1, by omega⟩
    have h0 : n = 0 := by simp at hn; exact hn
    subst h0
    simp only [gf_Pow.l0, gp]
    rw [if_neg (by omega), gm_one]
  | succ m ih =>
    intro k a n p ha hp hn hn2 hk
    obtain ⟨k, rfl⟩ : ∃ m, k = m + 1 := ⟨k - 1, by omega⟩
    simp only [gf_Pow.l0]
    by_cases h0 : n = 0
    · subst h0
      rw [if_neg (by omega), gp, gm_one]
    have hh : n / 2 < 2 ^ m := by rw [Nat.pow_succ] at hn; omega
    have hsq := gm_lt a a ha
    rw [if_pos (by omega), and1_i64 n hn2, show (n : Int) / 2 = ((n / 2 : Nat) : Int) by omega]
    rcases bit01 n with h | h
    · rw [if_neg (by omega), gf_mul k a a ha ha (by omega)]
      simp only [bnd]
      rw [ih k _ _ p hsq hp hh (by omega) (by omega), gp_sq a ha, show 2 * (n / 2) = n by omega]
    · rw [if_pos (by omega), gf_mul k p a hp ha (by omega)]
      simp only [bnd]
      rw [gf_mul k a a ha ha (by omega)]
      simp only [bnd]
      rw [ih k _ _ _ hsq (gm_lt p a hp) hh (by omega) (by omega), gp_sq a ha, gm_assoc _ _ _ hp ha (gp_lt a ha _), gm_comm a _ ha (gp_lt a ha _), gp_succ,
        show 2 * (n / 2) + 1 = n by omega]

theorem gf_pow (k a n : Nat) (ha : a < 256) (hn : n < 9223372036854775808) (hk : 80 ≤ k) : gf_Pow.f k a n = some ((gp a n : Nat) : Int) := by
  have h := gf_pow_loop 63 k a n 1 ha (by decide) hn hn (by omega)
  rw [gm_one_left _ (gp_lt a ha n)] at h
  exact h
theorem gf_pow_neg (k a : Nat) (n : Int) (hn : n ≤ 0) (hk : 1 ≤ k) : gf_Pow.f k a n = some 1 := by
  obtain ⟨k, rfl⟩ : ∃ m, k = m + 1 := ⟨k - 1, by omega⟩
  simp only [gf_Pow.f, gf_Pow.l0]
  rw [if_neg (by omega)]
end Go.Proofs.Ytcneobnplhffmaa.BRsEncodes
/- The printed product of the document's answer is the plain one. -/
namespace Go.Proofs.Ytcneobnplhffmaa.BRsEncodes
open Go Go.RowKit Go.Proofs.Ytcneobnplhffmaa.PRsEncodes Go.Proofs.Ytcneobnplhffmaa.Gf Go.Proofs.Ytcneobnplhffmaa.Bits Go.Proofs.YtcneobnplhffmaaW.PrintWords Go.Proofs.YtcneobnplhffmaaW.PrintLast

theorem ref_bit (i : Nat) : ∀ (k n : Nat), n < 9223372036854775808 → i < 64 → i < k → coldframeref02_bit.f k n i = some ((n / 2 ^ i % 2 : Nat) : Int) := by
  induction i with
  | zero =>
    intro k n hn hi hk
    obtain ⟨k, rfl⟩ : ∃ m, k = m + 1 := ⟨k - 1, by omega⟩
    simp only [coldframeref02_bit.f, coldframeref02_bit.l0]
    rw [if_neg (by omega), Int.tmod_eq_emod_of_nonneg (by omega)]
    congr 1; simp
  | succ i ih =>
    intro k n hn hi hk
    obtain ⟨k, rfl⟩ : ∃ m, k = m + 1 := ⟨k - 1, by omega⟩
    simp only [coldframeref02_bit.f, coldframeref02_bit.l0]
    have e1 : wrap64 (Int.tdiv (n : Int) 2) = ((n / 2 : Nat) : Int) := by
      rw [Int.tdiv_eq_ediv_of_nonneg (by omega), wrap64_in _ (by omega) (by omega)]; omega
    have e2 : wrap64 (((i + 1 : Nat) : Int) - 1) = (i : Int) := by rw [wrap64_in _ (by omega) (by omega)]; omega
    rw [if_pos (by omega), e1, e2]
    have := ih k (n / 2) (by omega) (by omega) (by omega)
    simp only [coldframeref02_bit.f] at this
    rw [this, Nat.div_div_eq_div_mul, Nat.pow_succ, Nat.mul_comm 2]

theorem ref_power (i : Nat) : ∀ (k p : Nat), p * 2 ^ i < 9223372036854775808 → i < 64 → i < k → coldframeref02_power.l0 k i p = some ((p * 2 ^ i : Nat) : Int) := by
  induction i with
  | zero =>
    intro k p hp hi hk
    obtain ⟨k, rfl⟩ : ∃ m, k = m + 1 := ⟨k - 1, by omega⟩
    simp only [coldframeref02_power.l0]
    rw [if_neg (by omega)]
    congr 1; simp
  | succ i ih =>
    intro k p hp hi hk
    obtain ⟨k, rfl⟩ : ∃ m, k = m + 1 := ⟨k - 1, by omega⟩
    simp only [coldframeref02_power.l0]
    have hpos : 0 < 2 ^ i := Nat.two_pow_pos i
    have hle : p * 2 ≤ p * 2 ^ (i + 1) := by
      rw [Nat.pow_succ]; exact Nat.mul_le_mul_left p (by omega)
    have e1 : wrap64 ((p : Int) * 2) = ((p * 2 : Nat) : Int) := by
      rw [wrap64_in _ (by omega) (by omega)]; omega
    have e2 : wrap64 (((i + 1 : Nat) : Int) - 1) = (i : Int) := by rw [wrap64_in _ (by omega) (by omega)]; omega
    have e3 : p * 2 * 2 ^ i = p * 2 ^ (i + 1) := by rw [Nat.pow_succ, Nat.mul_assoc, Nat.mul_comm 2]
    rw [if_pos (by omega), e1, e2, ih k (p * 2) (by omega) (by omega) (by omega), e3]

theorem ref_pow2 (i k : Nat) (hi : i < 62) (hk : i < k) : coldframeref02_power.f k i = some ((2 ^ i : Nat) : Int) := by
  unfold coldframeref02_power.f
  have hp : 2 ^ i ≤ 2 ^ 61 := Nat.pow_le_pow_right (by decide) (by omega)
  have := ref_power i k 1 (by omega) (by omega) hk
  simpa using this

theorem ref_down (n : Nat) : ∀ (k p : Nat), n ≤ 7 → p < 2 ^ 15 → 40 ≤ k → coldframeref02_Mul.l1 (k + n) p ((n : Int) + 7) = some ((redA n p % 256 : Nat) : Int) := by
  induction n with
  | zero =>
    intro k p hn hp hk
    obtain ⟨k, rfl⟩ : ∃ m, k = m + 1 := ⟨k - 1, by omega⟩
    simp only [coldframeref02_Mul.l1, redA]
    rw [if_neg (by omega)]
    congr 1
  | succ n ih =>
    intro k p hn hp hk
    rw [show k + (n + 1) = (k + n) + 1 from rfl]
    simp only [coldframeref02_Mul.l1, redA]
    have e0 : ((n + 1 : Nat) : Int) + 7 = ((n + 8 : Nat) : Int) := by omega
    have e1 : wrap64 (((n + 8 : Nat) : Int) - 8) = (n : Int) := by rw [wrap64_in _ (by omega) (by omega)]; omega
    have e2 : wrap64 (((n + 8 : Nat) : Int) - 1) = (n : Int) + 7 := by rw [wrap64_in _ (by omega) (by omega)]; omega
    rw [e0, if_pos (by omega), ref_bit (n + 8) _ p (by omega) (by omega) (by omega)]
    simp only [bnd]
    rw [e1, e2]
    rcases bit01 (p / 2 ^ (n + 8)) with h | h
    · rw [if_neg (by omega), h, Nat.zero_mul, Nat.xor_zero, ih k p (by omega) hp hk]
    · have hq : 2 ^ n ≤ 2 ^ 6 := Nat.pow_le_pow_right (by decide) (by omega)
      have hm : 285 * 2 ^ n ≤ 285 * 2 ^ 6 := Nat.mul_le_mul_left 285 hq
      have hm' : 285 * 2 ^ n < 2 ^ 15 := Nat.lt_of_le_of_lt hm (by decide)
      have e3 : wrap64 (285 * ((2 ^ n : Nat) : Int)) = ((285 * 2 ^ n : Nat) : Int) := by
        show wrap64 (((285 : Nat) : Int) * ((2 ^ n : Nat) : Int)) = _
        rw [← Int.natCast_mul]; exact wrap64_nat _ (Nat.lt_of_lt_of_le hm' (by decide))
      rw [if_pos (by omega), ref_pow2 n _ (by omega) (by omega)]
      simp only [bnd]
      have hx : p ^^^ 285 * 2 ^ n < 2 ^ 15 := Nat.xor_lt_two_pow hp hm'
      rw [e3, xor_i64 p (285 * 2 ^ n) (Nat.lt_of_lt_of_le hp (by decide)) (Nat.lt_of_lt_of_le hm' (by decide)), h, Nat.one_mul, ih k _ (by omega) hx hk]

theorem ref_up (n : Nat) : ∀ (k a b p i : Nat), n + i = 8 → a < 256 → b < 256 → p < 2 ^ 15 → 60 ≤ k →
    coldframeref02_Mul.l0 (k + n) a b p i = some ((redA 7 (clA n (b / 2 ^ i) p (a * 2 ^ i)) % 256 : Nat) : Int) := by
  induction n with
  | zero =>
    intro k a b p i hi ha hb hp hk
    obtain ⟨k, rfl⟩ : ∃ m, k = m + 7 + 1 := ⟨k - 8, by omega⟩
    simp only [coldframeref02_Mul.l0, clA]
    rw [if_neg (by omega)]
    exact ref_down 7 k p (by omega) hp (by omega)
  | succ n ih =>
    intro k a b p i hi ha hb hp hk
    rw [show k + (n + 1) = (k + n) + 1 from rfl]
    simp only [coldframeref02_Mul.l0, clA]
    have e2 : wrap64 ((i : Int) + 1) = ((i + 1 : Nat) : Int) := by rw [wrap64_in _ (by omega) (by omega)]; omega
    have e4 : b / 2 ^ i / 2 = b / 2 ^ (i + 1) := by rw [Nat.div_div_eq_div_mul, Nat.pow_succ]
    have e5 : a * 2 ^ i * 2 = a * 2 ^ (i + 1) := by rw [Nat.pow_succ, Nat.mul_assoc]
    rw [if_pos (by omega), wrap64_nat b (by omega), wrap64_nat a (by omega), ref_bit i _ b (by omega) (by omega) (by omega)]
    simp only [bnd]
    rw [e2, e4, e5]
    rcases bit01 (b / 2 ^ i) with h | h
    · rw [if_neg (by omega), h, Nat.zero_mul, Nat.xor_zero, ih k a b p (i + 1) (by omega) ha hb hp hk]
    · have hq : 2 ^ i ≤ 2 ^ 7 := Nat.pow_le_pow_right (by decide) (by omega)
      have hm : a * 2 ^ i ≤ 255 * 2 ^ 7 := Nat.mul_le_mul (by omega) hq
      have hm' : a * 2 ^ i < 2 ^ 15 := Nat.lt_of_le_of_lt hm (by decide)
      have e3 : wrap64 ((a : Int) * ((2 ^ i : Nat) : Int)) = ((a * 2 ^ i : Nat) : Int) := by
        rw [← Int.natCast_mul]; exact wrap64_nat _ (Nat.lt_of_lt_of_le hm' (by decide))
      rw [if_pos (by omega), ref_pow2 i _ (by omega) (by omega)]
      simp only [bnd]
      have hx : p ^^^ a * 2 ^ i < 2 ^ 15 := Nat.xor_lt_two_pow hp hm'
      rw [e3, xor_i64 p (a * 2 ^ i) (Nat.lt_of_lt_of_le hp (by decide)) (Nat.lt_of_lt_of_le hm' (by decide)), h, Nat.one_mul, ih k a b _ (i + 1) (by omega) ha hb hx hk]

theorem ref_mul (k a b : Nat) (ha : a < 256) (hb : b < 256) (hk : 68 ≤ k) : coldframeref02_Mul.f k a b = some ((gm a b : Nat) : Int) := by
  unfold coldframeref02_Mul.f
  obtain ⟨k, rfl⟩ : ∃ m, k = m + 8 := ⟨k - 8, by omega⟩
  have h := ref_up 8 k a b 0 0 (by omega) ha hb (by omega) (by omega)
  have h1 := ref_eq a b ha hb
  have h2 := gm_lt a b ha
  simp only [Nat.pow_zero, Nat.div_one, Nat.mul_one, h1, Nat.mod_eq_of_lt h2] at h
  exact h
end Go.Proofs.Ytcneobnplhffmaa.BRsEncodes
/- The printed powers of the document's answer are the plain ones. -/
namespace Go.Proofs.Ytcneobnplhffmaa.BRsEncodes
open Go Go.RowKit Go.Proofs.Ytcneobnplhffmaa.PRsEncodes Go.Proofs.Ytcneobnplhffmaa.Gf Go.Proofs.Ytcneobnplhffmaa.Bits Go.Proofs.YtcneobnplhffmaaW.PrintWords Go.Proofs.YtcneobnplhffmaaW.PrintLast

theorem ref_pow_loop (d : Nat) : ∀ (k a n i : Nat), a < 256 → n < 1000 → i + d = n → 70 + d ≤ k →
    coldframeref02_Pow.l0 k a n (gp a i : Nat) i = some ((gp a n : Nat) : Int) := by
  induction d with
  | zero =>
    intro k a n i ha hn hi hk
    obtain ⟨k, rfl⟩ : ∃ m, k = m + 1 := ⟨k - 1, by omega⟩
    simp only [coldframeref02_Pow.l0]
    rw [if_neg (by omega), show i = n by omega]
  | succ d ih =>
    intro k a n i ha hn hi hk
    obtain ⟨k, rfl⟩ : ∃ m, k = m + 1 := ⟨k - 1, by omega⟩
    simp only [coldframeref02_Pow.l0]
    rw [if_pos (by omega), ref_mul k _ a (gp_lt a ha i) ha (by omega)]
    simp only [bnd]
    rw [show wrap64 ((i : Int) + 1) = ((i + 1 : Nat) : Int) by rw [wrap64_in _ (by omega) (by omega)]; omega]
    exact ih k a n (i + 1) ha hn (by omega) (by omega)

theorem ref_pow (k a n : Nat) (ha : a < 256) (hn : n < 1000) (hk : 70 + n ≤ k) : coldframeref02_Pow.f k a n = some ((gp a n : Nat) : Int) :=
  ref_pow_loop n k a n 0 ha hn (by omega) hk

end Go.Proofs.Ytcneobnplhffmaa.BRsEncodes
/- Steps: the document's times, plus and Inv, as printed. -/
namespace Go.Proofs.Ytcneobnplhffmaa.Sol
open Go Go.RowKit Go.Proofs.Ytcneobnplhffmaa.PRsEncodes Go.Proofs.Ytcneobnplhffmaa.BRsEncodes Go.Proofs.Ytcneobnplhffmaa.Gf Go.Proofs.Ytcneobnplhffmaa.Gi Go.Proofs.Ytcneobnplhffmaa.Bits Go.Proofs.Ytcneobnplhffmaa.Rws Go.Proofs.YtcneobnplhffmaaW.PrintWords Go.Proofs.YtcneobnplhffmaaW.PrintLast
set_option linter.unusedVariables false

/-- The first i by f, the others nought. -/
def upto (m : Nat) (f : Nat → Int) (i : Nat) : List Int := line m (fun j => if j < i then f j else 0)
theorem upto_zero (m : Nat) (f : Nat → Int) : upto m f 0 = List.replicate m 0 := by
  rw [← line_zero]; exact line_congr m _ _ (fun j _ => by rw [if_neg (Nat.not_lt_zero j)])
theorem upto_full (m : Nat) (f : Nat → Int) : upto m f m = line m f := line_congr m _ _ (fun j hj => by rw [if_pos hj])
theorem upto_len (m : Nat) (f : Nat → Int) (i : Nat) : (upto m f i).length = m := line_len _ _
theorem upto_set (m : Nat) (f : Nat → Int) (i : Nat) (hi : i < m) : (upto m f i).set i (f i) = upto m f (i + 1) := by
  unfold upto
  rw [line_set m _ i hi]
  refine line_congr m _ _ (fun k hk => ?_)
  by_cases e : k = i
  · subst e; rw [if_pos rfl, if_pos (by omega)]
  · rw [if_neg e]
    by_cases h : k < i
    · rw [if_pos h, if_pos (by omega)]
    · rw [if_neg h, if_neg (by omega)]
theorem rd_line (m : Nat) (f : Nat → Int) (i : Nat) (hi : i < m) : rd (line m f) (i : Int) = f i := by
  have h := line_get m f i hi
  simpa [rd, List.getD_eq_getElem?_getD] using h
theorem inc (i : Nat) (h : i < 1000000) : wrap64 ((i : Int) + 1) = ((i + 1 : Nat) : Int) := by rw [wrap64_in _ (by omega) (by omega)]; omega
theorem mulI (k : Nat) (a b : Int) (ha : Byt a) (hb : Byt b) (hk : 68 ≤ k) : coldframeref02_Mul.f k a b = some (gmI a b) := by
  obtain ⟨x, hx, rfl⟩ := byt_nat ha
  obtain ⟨y, hy, rfl⟩ := byt_nat hb
  rw [ref_mul k x y hx hy hk]; simp [gmI]
theorem times_loop (m : Nat) (hm : m ≤ 1000) (f : Nat → Int) (x : Int) (hf : ∀ i, Byt (f i)) (hx : Byt x) (d : Nat) : ∀ (k i : Nat), i + d = m → 100 + d ≤ k → coldframeref04_times.l0 k (line m f) x (upto m (fun i => gmI (f i) x) i) (i : Int) = some (line m (fun i => gmI (f i) x)) := by
  induction d with
  | zero =>
    intro k i hi hk
    obtain ⟨k, rfl⟩ : ∃ q, k = q + 1 := ⟨k - 1, by omega⟩
    obtain rfl : i = m := by omega
    simp only [coldframeref04_times.l0]
    rw [line_len, if_neg (by omega), upto_full]
  | succ d ih =>
    intro k i hi hk
    obtain ⟨k, rfl⟩ : ∃ q, k = q + 1 := ⟨k - 1, by omega⟩
    simp only [coldframeref04_times.l0]
    rw [line_len, if_pos (by omega), if_pos (by omega), rd_line m f i (by omega), mulI k _ _ (hf i) hx (by omega), Option.bind_some, upto_len, if_pos (by omega), Int.toNat_natCast, upto_set m (fun i => gmI (f i) x) i (by omega), inc i (by omega)]
    exact ih k (i + 1) (by omega) (by omega)
theorem times_f (m : Nat) (hm : m ≤ 1000) (f : Nat → Int) (x : Int) (hf : ∀ i, Byt (f i)) (hx : Byt x) : coldframeref04_times.f 2000 (line m f) x = some (line m (fun i => gmI (f i) x)) := by
  unfold coldframeref04_times.f
  rw [line_len, if_pos (by omega), if_pos (by omega), Int.toNat_natCast, ← upto_zero m (fun i => gmI (f i) x)]
  exact times_loop m hm f x hf hx m 2000 0 (by omega) (by omega)
theorem plus_loop (m : Nat) (hm : m ≤ 1000) (f g : Nat → Int) (hf : ∀ i, Byt (f i)) (hg : ∀ i, Byt (g i)) (d : Nat) : ∀ (k i : Nat), i + d = m → 100 + d ≤ k → coldframeref04_plus.l0 k (line m f) (line m g) (upto m (fun i => xorI (f i) (g i)) i) (i : Int) = some (line m (fun i => xorI (f i) (g i))) := by
  induction d with
  | zero =>
    intro k i hi hk
    obtain ⟨k, rfl⟩ : ∃ q, k = q + 1 := ⟨k - 1, by omega⟩
    obtain rfl : i = m := by omega
    simp only [coldframeref04_plus.l0]
    rw [line_len, if_neg (by omega), upto_full]
  | succ d ih =>
    intro k i hi hk
    obtain ⟨k, rfl⟩ : ∃ q, k = q + 1 := ⟨k - 1, by omega⟩
    simp only [coldframeref04_plus.l0]
    rw [line_len, if_pos (by omega), if_pos (by omega), line_len, if_pos (by omega), upto_len, if_pos (by omega), rd_line m f i (by omega), rd_line m g i (by omega), xor_bits (hf i) (hg i), Int.toNat_natCast, upto_set m (fun i => xorI (f i) (g i)) i (by omega), inc i (by omega)]
    exact ih k (i + 1) (by omega) (by omega)
theorem plus_f (m : Nat) (hm : m ≤ 1000) (f g : Nat → Int) (hf : ∀ i, Byt (f i)) (hg : ∀ i, Byt (g i)) : coldframeref04_plus.f 2000 (line m f) (line m g) = some (line m (fun i => xorI (f i) (g i))) := by
  unfold coldframeref04_plus.f
  rw [line_len, if_pos (by omega), if_pos (by omega), Int.toNat_natCast, ← upto_zero m (fun i => xorI (f i) (g i))]
  exact plus_loop m hm f g hf hg m 2000 0 (by omega) (by omega)
theorem inv_loop (a : Int) (ha : Byt a) (d : Nat) : ∀ (k b : Nat), b + d = 256 → (∃ j : Nat, b ≤ j ∧ j < 256 ∧ gmI a j = 1) → 100 + d ≤ k → ∃ r, Byt r ∧ gmI a r = 1 ∧ coldframeref02_Inv.l0 k a (b : Int) = some r := by
  induction d with
  | zero => intro k b hb ⟨j, h1, h2, _⟩; omega
  | succ d ih =>
    intro k b hb hj hk
    obtain ⟨k, rfl⟩ : ∃ q, k = q + 1 := ⟨k - 1, by omega⟩
    simp only [coldframeref02_Inv.l0]
    have e : ((b : Int) % 256) = (b : Int) := by omega
    rw [if_pos (by omega), e, mulI k a b ha ⟨by omega, by omega⟩ (by omega), Option.bind_some]
    by_cases h1 : gmI a b = 1
    · rw [if_pos h1]; exact ⟨_, ⟨by omega, by omega⟩, h1, rfl⟩
    · rw [if_neg h1, inc b (by omega)]
      obtain ⟨j, j1, j2, j3⟩ := hj
      have hne : j ≠ b := fun e => h1 (by rw [← e]; exact j3)
      exact ih k (b + 1) (by omega) ⟨j, by omega, j2, j3⟩ (by omega)
theorem inv_f (a : Int) (ha : Byt a) (h0 : a ≠ 0) : ∃ r, Byt r ∧ gmI a r = 1 ∧ coldframeref02_Inv.f 2000 a = some r := by
  obtain ⟨x, hx, rfl⟩ := byt_nat ha
  refine inv_loop x ha 255 2000 1 rfl ⟨ginv x, ?_, ginv_lt x hx, ?_⟩ (by omega)
  · rcases Nat.eq_zero_or_pos (ginv x) with h | h
    · have := gm_inv x hx (by omega)
      rw [h, gm_zero_right] at this
      cases this
    · exact h
  · simp only [gmI, Int.toNat_natCast, gm_inv x hx (by omega)]; rfl
theorem times_any (m c0 : Nat) (A : Option Addr) (f : Nat → Int) (x : Int) (w : World) (hC : (Kd.int .u8).C w A m (line m f)) (hf : ∀ i, Byt (f i)) (hx : Byt x) (hc : m ≤ c0) (hm : m ≤ 1000) :
    Calls Try.prog 52 #[.slice A m c0, .int .u8 x] w fun e w' => ∃ A' c', e = .returned (.slice A' m c') ∧ Kd.R (Kd.int .u8) 5 w' w.heap.size (fun _ => True) (.slice A' m c') (line m (fun i => gmI (f i) x)) ∧ Below w.heap.size w w' := by
  have h := coldframeref04_times.calls 2000 A c0 (line m f) x _ w (by rw [line_len]; exact hC) (by rw [line_len]; exact hc) (times_f m hm f x hf hx)
  rw [line_len] at h
  refine h.mono ?_
  rintro e w' ⟨v, rfl, hR, hB⟩
  obtain ⟨A', c', rfl⟩ := Kd.R_slice hR
  rw [line_len] at hR ⊢
  exact ⟨A', c', rfl, hR, hB⟩
theorem plus_any (m c0 c1 : Nat) (A A1 : Option Addr) (f g : Nat → Int) (w : World) (hC : (Kd.int .u8).C w A m (line m f)) (hC1 : (Kd.int .u8).C w A1 m (line m g)) (hf : ∀ i, Byt (f i)) (hg : ∀ i, Byt (g i)) (hc : m ≤ c0) (hc1 : m ≤ c1) (hm : m ≤ 1000) :
    Calls Try.prog 54 #[.slice A m c0, .slice A1 m c1] w fun e w' => ∃ A' c', e = .returned (.slice A' m c') ∧ Kd.R (Kd.int .u8) 5 w' w.heap.size (fun _ => True) (.slice A' m c') (line m (fun i => xorI (f i) (g i))) ∧ Below w.heap.size w w' := by
  have h := coldframeref04_plus.calls 2000 A c0 (line m f) A1 c1 (line m g) _ w (by rw [line_len]; exact hC) (by rw [line_len]; exact hc) (by rw [line_len]; exact hC1) (by rw [line_len]; exact hc1) (plus_f m hm f g hf hg)
  rw [line_len, line_len] at h
  refine h.mono ?_
  rintro e w' ⟨v, rfl, hR, hB⟩
  obtain ⟨A', c', rfl⟩ := Kd.R_slice hR
  rw [line_len] at hR ⊢
  exact ⟨A', c', rfl, hR, hB⟩
theorem inv_any (a : Int) (ha : Byt a) (h0 : a ≠ 0) : ∃ r, Byt r ∧ gmI a r = 1 ∧ ∀ w, Calls Try.prog 53 #[.int .u8 a] w fun e w' => e = .returned (.int .u8 r) ∧ Below w.heap.size w w' := by
  obtain ⟨r, h1, h2, h3⟩ := inv_f a ha h0
  refine ⟨r, h1, h2, fun w => (coldframeref02_Inv.calls 2000 a r w h3).mono ?_⟩
  rintro e w' ⟨rfl, hD⟩
  obtain ⟨n, rfl⟩ := hD.out
  exact ⟨rfl, pw_below_drewN (Below.refl _ _) n⟩
end Go.Proofs.Ytcneobnplhffmaa.Sol
/- Reed and Solomon's codes: the printed functions' laws. -/
namespace Go.Proofs.Ytcneobnplhffmaa.Rsc
open Go Go.RowKit Go.Proofs.Ytcneobnplhffmaa.PRsEncodes Go.Proofs.Ytcneobnplhffmaa.BRsEncodes Go.Proofs.Ytcneobnplhffmaa.Gf Go.Proofs.Ytcneobnplhffmaa.Gi Go.Proofs.Ytcneobnplhffmaa.Bits Go.Proofs.Ytcneobnplhffmaa.Alg Go.Proofs.Ytcneobnplhffmaa.Sol Go.Proofs.Ytcneobnplhffmaa.Rws Go.Proofs.YtcneobnplhffmaaW.PrintWords Go.Proofs.YtcneobnplhffmaaW.PrintLast
set_option linter.unusedVariables false

theorem gmulI (k : Nat) (a b : Int) (ha : Byt a) (hb : Byt b) (hk : 9 ≤ k) : gf_Mul.f k a b = some (gmI a b) := by
  obtain ⟨x, hx, rfl⟩ := byt_nat ha
  obtain ⟨y, hy, rfl⟩ := byt_nat hb
  rw [gf_mul k x y hx hy hk]; simp [gmI]
theorem gaddI (a b : Int) (ha : Byt a) (hb : Byt b) : gf_Add.f a b = some (xorI a b) := by unfold gf_Add.f; rw [xor_bits ha hb]
theorem root_f (k i : Nat) (hi : i < 9223372036854775808) (hk : 80 ≤ k) : rs_root.f k i = some (al i) := by
  unfold rs_root.f
  have := gf_pow k 2 i (by decide) hi hk
  rw [show ((2 : Nat) : Int) = 2 from rfl] at this
  rw [this]
  exact bnd _ _

/-- The product's coefficients, of the first q rows. -/
def cv (a b : Nat → Int) (lb : Nat) : Nat → Nat → Int
  | 0, _ => 0
  | q + 1, k => xorI (cv a b lb q k) (if q ≤ k ∧ k < q + lb then gmI (a q) (b (k - q)) else 0)
theorem cv_byt {a b : Nat → Int} (ha : ∀ i, Byt (a i)) (lb : Nat) : ∀ q k, Byt (cv a b lb q k)
  | 0, _ => byt0
  | q + 1, k => by
    unfold cv
    refine xorI_byt (cv_byt ha lb q k) ?_
    split
    · exact gmI_byt (ha q)
    · exact byt0
/-- Within row q, behind j columns. -/
def cvj (a b : Nat → Int) (lb q j : Nat) : Nat → Int := fun k => if q ≤ k ∧ k < q + j then xorI (cv a b lb q k) (gmI (a q) (b (k - q))) else cv a b lb q k
theorem xorI_zero {a : Int} (ha : Byt a) : xorI a 0 = a := by
  obtain ⟨x, hx, rfl⟩ := byt_nat ha
  simp [xorI]
theorem cvj_zero (a b : Nat → Int) (lb q k : Nat) : cvj a b lb q 0 k = cv a b lb q k := by unfold cvj; rw [if_neg (by omega)]
theorem cvj_full {a b : Nat → Int} (ha : ∀ i, Byt (a i)) (lb q k : Nat) : cvj a b lb q lb k = cv a b lb (q + 1) k := by
  unfold cvj
  rw [cv]
  by_cases h : q ≤ k ∧ k < q + lb
  · rw [if_pos h, if_pos h]
  · rw [if_neg h, if_neg h, xorI_zero (cv_byt ha lb q k)]
theorem cvj_set (n : Nat) (a b : Nat → Int) (lb q j : Nat) (h : q + j < n) : (line n (cvj a b lb q j)).set (q + j) (xorI (cvj a b lb q j (q + j)) (gmI (a q) (b j))) = line n (cvj a b lb q (j + 1)) := by
  rw [line_set n _ _ h]
  refine line_congr n _ _ (fun k hk => ?_)
  by_cases e : k = q + j
  · subst e
    rw [if_pos rfl]
    unfold cvj
    rw [if_neg (by omega), if_pos (by omega), Nat.add_sub_cancel_left]
  · rw [if_neg e]
    unfold cvj
    by_cases h1 : q ≤ k ∧ k < q + j
    · rw [if_pos h1, if_pos (by omega)]
    · rw [if_neg h1, if_neg (by omega)]
theorem times_in {la lb : Nat} (hla : 1 ≤ la) (hlb : 1 ≤ lb) (h1 : la ≤ 1000) (h2 : lb ≤ 1000) (a b : Nat → Int) (ha : ∀ i, Byt (a i)) (hb : ∀ i, Byt (b i)) (q : Nat) (hq : q < la) (d : Nat) : ∀ (k j : Nat), j + d = lb → 100 ≤ k →
    rs_times.l1 (k + d + 1) (line lb b) (line (la + lb - 1) (cvj a b lb q j)) (q : Int) (a q) (line la a) (la : Int) (q : Int) (line lb b) (lb : Int) (j : Int) = rs_times.l0 k (line lb b) (line (la + lb - 1) (cv a b lb (q + 1))) (line la a) (la : Int) ((q + 1 : Nat) : Int) := by
  induction d with
  | zero =>
    intro k j hj hk
    obtain rfl : j = lb := by omega
    simp only [rs_times.l1]
    rw [if_neg (by omega), inc q (by omega), line_congr (la + j - 1) (cvj a b j q j) (cv a b j (q + 1)) (fun i _ => cvj_full ha j q i)]
  | succ d ih =>
    intro k j hj hk
    have e : wrap64 ((q : Int) + (j : Int)) = ((q + j : Nat) : Int) := by rw [wrap64_in _ (by omega) (by omega)]; omega
    rw [show k + (d + 1) + 1 = (k + d + 1) + 1 by omega]
    simp only [rs_times.l1]
    have hby : Byt (cvj a b lb q j (q + j)) := by unfold cvj; rw [if_neg (by omega)]; exact cv_byt ha lb q _
    rw [if_pos (by omega), if_pos (by omega), if_pos (by rw [line_len]; omega), e, if_pos (by omega), if_pos (by rw [line_len]; omega), rd_line lb b j (by omega), gmulI _ _ _ (ha q) (hb j) (by omega)]
    simp only [bnd]
    rw [rd_line _ _ (q + j) (by omega), gaddI _ _ hby (gmI_byt (ha q))]
    simp only [bnd]
    rw [Int.toNat_natCast, cvj_set _ a b lb q j (by omega), inc j (by omega)]
    exact ih k (j + 1) (by omega) hk
theorem times_rows {la lb : Nat} (hla : 1 ≤ la) (hlb : 1 ≤ lb) (h1 : la ≤ 1000) (h2 : lb ≤ 1000) (a b : Nat → Int) (ha : ∀ i, Byt (a i)) (hb : ∀ i, Byt (b i)) (d : Nat) : ∀ (k q : Nat), q + d = la → 200 + d * (lb + 2) ≤ k →
    rs_times.l0 k (line lb b) (line (la + lb - 1) (cv a b lb q)) (line la a) (la : Int) (q : Int) = some (line (la + lb - 1) (cv a b lb la)) := by
  induction d with
  | zero =>
    intro k q hq hk
    obtain ⟨k, rfl⟩ : ∃ m, k = m + 1 := ⟨k - 1, by omega⟩
    obtain rfl : q = la := by omega
    simp only [rs_times.l0]
    rw [if_neg (by omega)]
  | succ d ih =>
    intro k q hq hk
    rw [Nat.add_mul] at hk
    obtain ⟨k, rfl⟩ : ∃ m, k = m + lb + 1 + 1 := ⟨k - lb - 2, by omega⟩
    simp only [rs_times.l0]
    rw [if_pos (by omega), if_pos (by omega), if_pos (by rw [line_len]; omega), rd_line la a q (by omega), line_len]
    have := times_in hla hlb h1 h2 a b ha hb q (by omega) lb k 0 (by omega) (by omega)
    rw [line_congr (la + lb - 1) (cvj a b lb q 0) (cv a b lb q) (fun i _ => cvj_zero a b lb q i)] at this
    rw [show ((0 : Nat) : Int) = 0 from rfl] at this
    rw [this]
    exact ih k (q + 1) (by omega) (by omega)
theorem times_f {la lb : Nat} (hla : 1 ≤ la) (hlb : 1 ≤ lb) (h1 : la ≤ 1000) (h2 : lb ≤ 1000) (a b : Nat → Int) (ha : ∀ i, Byt (a i)) (hb : ∀ i, Byt (b i)) (k : Nat) (hk : 300 + la * (lb + 2) ≤ k) :
    rs_times.f k (line la a) (line lb b) = some (line (la + lb - 1) (cv a b lb la)) := by
  obtain ⟨k, rfl⟩ : ∃ m, k = m + 1 := ⟨k - 1, by omega⟩
  unfold rs_times.f
  have e : wrap64 (wrap64 ((la : Int) + (lb : Int)) - 1) = ((la + lb - 1 : Nat) : Int) := by rw [wrap64_in ((la : Int) + (lb : Int)) (by omega) (by omega), wrap64_in _ (by omega) (by omega)]; omega
  have t : ((lb : Int) == 0) = false := by simp; omega
  rw [line_len, line_len, if_neg (by omega), t]
  simp only [rs_times.j0]
  rw [if_neg (by simp), line_len, line_len, e, if_pos (by omega), Int.toNat_natCast, if_pos (by omega)]
  have := times_rows hla hlb h1 h2 a b ha hb la k 0 (by omega) (by omega)
  rw [line_congr (la + lb - 1) (cv a b lb 0) (fun _ => 0) (fun _ _ => rfl), line_zero, show ((0 : Nat) : Int) = 0 from rfl] at this
  exact this
/-- By a root and one, the generator becomes the next one. -/
def pair (x : Int) : Nat → Int := fun j => if j = 0 then x else 1
theorem pair_byt {x : Int} (hx : Byt x) (j : Nat) : Byt (pair x j) := by unfold pair; split; exact hx; exact ⟨by decide, by decide⟩
theorem line_pair (x : Int) : line 2 (pair x) = [x, 1] := rfl
theorem cv_pair {g : Nat → Int} (hg : ∀ i, Byt (g i)) {x : Int} (hx : Byt x) (k : Nat) : ∀ q, cv g (pair x) 2 q k = xorI (if 0 < k ∧ k - 1 < q then g (k - 1) else 0) (if k < q then gmI (g k) x else 0)
  | 0 => by rw [cv, if_neg (by omega), if_neg (by omega)]; rfl
  | q + 1 => by
    rw [cv, cv_pair hg hx k q]
    rcases Nat.lt_trichotomy k q with h | h | h
    · rw [if_neg (show ¬ (q ≤ k ∧ k < q + 2) by omega), if_pos (show k < q by omega), if_pos (show k < q + 1 by omega)]
      by_cases h0 : 0 < k
      · rw [if_pos (show 0 < k ∧ k - 1 < q by omega), if_pos (show 0 < k ∧ k - 1 < q + 1 by omega), xorI_zero (xorI_byt (hg _) (gmI_byt (hg _)))]
      · rw [if_neg (show ¬ (0 < k ∧ k - 1 < q) by omega), if_neg (show ¬ (0 < k ∧ k - 1 < q + 1) by omega), xorI_zero (xorI_byt byt0 (gmI_byt (hg _)))]
    · subst h
      rw [if_pos (show k ≤ k ∧ k < k + 2 by omega), if_neg (show ¬ k < k by omega), if_pos (show k < k + 1 by omega), Nat.sub_self]
      show xorI (xorI _ 0) (gmI (g k) x) = _
      by_cases h0 : 0 < k
      · rw [if_pos (show 0 < k ∧ k - 1 < k by omega), if_pos (show 0 < k ∧ k - 1 < k + 1 by omega), xorI_zero (hg _)]
      · rw [if_neg (show ¬ (0 < k ∧ k - 1 < k) by omega), if_neg (show ¬ (0 < k ∧ k - 1 < k + 1) by omega), xorI_zero byt0]
    · by_cases h2 : k = q + 1
      · subst h2
        rw [if_pos (show q ≤ q + 1 ∧ q + 1 < q + 2 by omega), if_neg (show ¬ q + 1 < q by omega), if_neg (show ¬ q + 1 < q + 1 by omega), if_neg (show ¬ (0 < q + 1 ∧ q + 1 - 1 < q) by omega), if_pos (show 0 < q + 1 ∧ q + 1 - 1 < q + 1 by omega), show q + 1 - q = 1 by omega, Nat.add_sub_cancel]
        show xorI (xorI 0 0) (gmI (g q) 1) = xorI (g q) 0
        rw [gm1 (hg q), xorI_zero (hg q), xorI_zero byt0, xor_zero' (hg q)]
      · rw [if_neg (show ¬ (q ≤ k ∧ k < q + 2) by omega), if_neg (show ¬ k < q by omega), if_neg (show ¬ k < q + 1 by omega), if_neg (show ¬ (0 < k ∧ k - 1 < q) by omega), if_neg (show ¬ (0 < k ∧ k - 1 < q + 1) by omega)]
        exact xorI_zero (xorI_byt byt0 byt0)
theorem cv_gen (r k : Nat) (hk : k < r + 2) : cv (gen r) (pair (al r)) 2 (r + 1) k = gen (r + 1) k := by
  rw [cv_pair (gen_byt r) (al_byt r) k (r + 1), gen]
  congr 1
  · by_cases h : 0 < k
    · rw [if_pos ⟨h, by omega⟩, if_pos h]
    · rw [if_neg (by omega), if_neg h]
  · by_cases h : k < r + 1
    · rw [if_pos h]
    · rw [if_neg h, gen_out r k (by omega), gm0]
theorem next_gen (r : Nat) (hr : r ≤ 300) (k : Nat) (hk : 2000 ≤ k) : rs_times.f k (line (r + 1) (gen r)) [al r, 1] = some (line (r + 2) (gen (r + 1))) := by
  have h := times_f (la := r + 1) (lb := 2) (by omega) (by omega) (by omega) (by omega) (gen r) (pair (al r)) (gen_byt r) (pair_byt (al_byt r)) k (by omega)
  rw [line_pair] at h
  rw [h]
  congr 1
  exact line_congr _ _ _ (fun i hi => cv_gen r i (by omega))

/-- Reversed, t at each end. -/
def revF (n t : Nat) (f : Nat → Int) : Nat → Int := fun i => if i < t ∨ n ≤ i + t then f (n - 1 - i) else f i
theorem revF_step (n t : Nat) (f : Nat → Int) (h : 2 * t + 1 < n) : ((line n (revF n t f)).set t (revF n t f (n - 1 - t))).set (n - 1 - t) (revF n t f t) = line n (revF n (t + 1) f) := by
  rw [line_set n _ t (by omega), line_set n _ (n - 1 - t) (by omega)]
  refine line_congr n _ _ (fun k hk => ?_)
  by_cases e : k = n - 1 - t
  · subst e
    rw [if_pos rfl]
    unfold revF
    rw [if_neg (by omega), if_pos (by omega), show n - 1 - (n - 1 - t) = t by omega]
  · rw [if_neg e]
    by_cases e2 : k = t
    · subst e2
      rw [if_pos rfl]
      unfold revF
      rw [if_neg (by omega), if_pos (by omega)]
    · rw [if_neg e2]
      unfold revF
      by_cases h1 : k < t ∨ n ≤ k + t
      · rw [if_pos h1, if_pos (by omega)]
      · rw [if_neg h1, if_neg (by omega)]
theorem revF_all (n t : Nat) (f : Nat → Int) (h : n ≤ 2 * t + 1) (i : Nat) (hi : i < n) : revF n t f i = f (n - 1 - i) := by
  unfold revF
  by_cases h1 : i < t ∨ n ≤ i + t
  · rw [if_pos h1]
  · rw [if_neg h1]
    congr 1
    omega
theorem reverse_loop (n : Nat) (hn : n ≤ 1000) (f : Nat → Int) (d : Nat) : ∀ (k t : Nat), t + d = n → 2 * t ≤ n + 1 → 100 + d ≤ k → slices_Reverse_byte_byte.l0 k (line n (revF n t f)) (t : Int) ((n : Int) - 1 - t) = some (line n (fun i => f (n - 1 - i))) := by
  induction d with
  | zero =>
    intro k t ht h2 hk
    obtain ⟨k, rfl⟩ : ∃ m, k = m + 1 := ⟨k - 1, by omega⟩
    simp only [slices_Reverse_byte_byte.l0]
    rw [if_neg (by omega), line_congr n _ _ (fun i hi => revF_all n t f (by omega) i hi)]
  | succ d ih =>
    intro k t ht h2 hk
    obtain ⟨k, rfl⟩ : ∃ m, k = m + 1 := ⟨k - 1, by omega⟩
    simp only [slices_Reverse_byte_byte.l0]
    by_cases h : 2 * t + 1 < n
    · have e : (n : Int) - 1 - t = ((n - 1 - t : Nat) : Int) := by omega
      rw [if_pos (by omega), e, if_pos (by omega), if_pos (by rw [line_len]; omega), if_pos (by omega), if_pos (by rw [line_len]; omega), rd_line n _ _ (by omega), rd_line n _ _ (by omega), Int.toNat_natCast, Int.toNat_natCast, revF_step n t f h, inc t (by omega),
        show wrap64 (((n - 1 - t : Nat) : Int) - 1) = (n : Int) - 1 - ((t + 1 : Nat) : Int) by rw [wrap64_in _ (by omega) (by omega)]; omega]
      exact ih k (t + 1) (by omega) (by omega) (by omega)
    · rw [if_neg (by omega), line_congr n _ _ (fun i hi => revF_all n t f (by omega) i hi)]
theorem reverse_f (n : Nat) (hn : n ≤ 1000) (f : Nat → Int) (k : Nat) (hk : 2000 ≤ k) : slices_Reverse_byte_byte.f k (line n f) = some (line n (fun i => f (n - 1 - i))) := by
  unfold slices_Reverse_byte_byte.f
  have h := reverse_loop n hn f n k 0 (by omega) (by omega) (by omega)
  have e0 : line n (revF n 0 f) = line n f := line_congr n _ _ (fun i hi => by unfold revF; rw [if_neg (by omega)])
  rw [e0, show ((0 : Nat) : Int) = 0 from rfl, Int.sub_zero] at h
  rw [line_len, wrap64_in _ (by omega) (by omega)]
  exact h
theorem value_loop (n : Nat) (hn : n ≤ 1000) (p : Nat → Int) (hp : ∀ i, Byt (p i)) (x : Int) (hx : Byt x) (d : Nat) : ∀ (k t : Nat), t + d = n → 100 + d ≤ k → rs_value.l0 k (line n p) x (hI (fun a => p (n - 1 - a)) x t) ((n : Int) - 1 - t) = some (hI (fun a => p (n - 1 - a)) x n) := by
  induction d with
  | zero =>
    intro k t ht hk
    obtain ⟨k, rfl⟩ : ∃ m, k = m + 1 := ⟨k - 1, by omega⟩
    obtain rfl : t = n := by omega
    simp only [rs_value.l0]
    rw [if_neg (by omega)]
  | succ d ih =>
    intro k t ht hk
    obtain ⟨k, rfl⟩ : ∃ m, k = m + 1 := ⟨k - 1, by omega⟩
    have hb := hI_byt (w := fun a => p (n - 1 - a)) (fun i => hp _) x t
    have e : (n : Int) - 1 - t = ((n - 1 - t : Nat) : Int) := by omega
    simp only [rs_value.l0]
    rw [if_pos (by omega), gmulI k _ _ hb hx (by omega)]
    simp only [bnd]
    rw [e, if_pos (by omega), if_pos (by rw [line_len]; omega), rd_line n p _ (by omega), gaddI _ _ (gmI_byt hb) (hp _)]
    simp only [bnd]
    rw [show wrap64 (((n - 1 - t : Nat) : Int) - 1) = (n : Int) - 1 - ((t + 1 : Nat) : Int) by rw [wrap64_in _ (by omega) (by omega)]; omega]
    exact ih k (t + 1) (by omega) (by omega)
theorem value_f (n : Nat) (hn : n ≤ 1000) (p : Nat → Int) (hp : ∀ i, Byt (p i)) (x : Int) (hx : Byt x) (k : Nat) (hk : 2000 ≤ k) : rs_value.f k (line n p) x = some (hI (fun a => p (n - 1 - a)) x n) := by
  unfold rs_value.f
  have h := value_loop n hn p hp x hx n k 0 (by omega) (by omega)
  rw [show ((0 : Nat) : Int) = 0 from rfl, Int.sub_zero] at h
  rw [line_len, wrap64_in _ (by omega) (by omega)]
  exact h
theorem power_f (k i : Nat) (hk : 400 ≤ k) : coldframeref30_power.f k i = some (al (i % 255)) := by
  unfold coldframeref30_power.f
  have e : Int.tmod (i : Int) 255 = ((i % 255 : Nat) : Int) := by rw [Int.tmod_eq_emod_of_nonneg (by omega)]; omega
  have := ref_pow k 2 (i % 255) (by decide) (by omega) (by omega)
  rw [show ((2 : Nat) : Int) = 2 from rfl] at this
  rw [e, this]
  exact bnd _ _
theorem rval_loop (n : Nat) (hn : n ≤ 1000) (w : Nat → Int) (hw : ∀ i, Byt (w i)) (i : Nat) (hi : i ≤ 1000) (d : Nat) : ∀ (k t : Nat), t + d = n → 1000 + d ≤ k → coldframeref30_Value.l0 k (line n w) i (dotN w (fun a => al ((i * (n - 1 - a)) % 255)) t) (t : Int) = some (dotN w (fun a => al ((i * (n - 1 - a)) % 255)) n) := by
  induction d with
  | zero =>
    intro k t ht hk
    obtain ⟨k, rfl⟩ : ∃ m, k = m + 1 := ⟨k - 1, by omega⟩
    obtain rfl : t = n := by omega
    simp only [coldframeref30_Value.l0]
    rw [if_neg (by rw [line_len]; omega)]
  | succ d ih =>
    intro k t ht hk
    obtain ⟨k, rfl⟩ : ∃ m, k = m + 1 := ⟨k - 1, by omega⟩
    have hm : i * (n - 1 - t) ≤ 1000000 := Nat.le_trans (Nat.mul_le_mul hi (show n - 1 - t ≤ 1000 by omega)) (by decide)
    simp only [coldframeref30_Value.l0]
    have e1 : wrap64 ((n : Int) - 1) = (n : Int) - 1 := wrap64_in _ (by omega) (by omega)
    have e2 : wrap64 ((n : Int) - 1 - (t : Int)) = ((n - 1 - t : Nat) : Int) := by rw [wrap64_in _ (by omega) (by omega)]; omega
    have e3 : wrap64 ((i : Int) * ((n - 1 - t : Nat) : Int)) = ((i * (n - 1 - t) : Nat) : Int) := by rw [← Int.natCast_mul, wrap64_in _ (by omega) (by omega)]
    rw [line_len, if_pos (by omega), if_pos (by omega), e1, e2, e3, power_f k _ (by omega)]
    simp only [bnd]
    rw [rd_line n w t (by omega), mulI k _ _ (hw t) (al_byt _) (by omega)]
    simp only [bnd]
    rw [xor_bits (dotN_byt hw t) (gmI_byt (hw t)), inc t (by omega)]
    exact ih k (t + 1) (by omega) (by omega)
theorem rval_f (n : Nat) (hn : n ≤ 1000) (w : Nat → Int) (hw : ∀ i, Byt (w i)) (i : Nat) (hi : i ≤ 1000) (k : Nat) (hk : 2500 ≤ k) : coldframeref30_Value.f k (line n w) i = some (hI w (al i) n) := by
  unfold coldframeref30_Value.f
  rw [← doc_value hw i n]
  exact rval_loop n hn w hw i hi n k 0 (by omega) (by omega)
/-- The syndromes. -/
def synF (n : Nat) (w : Nat → Int) : Nat → Int := fun i => hI w (al i) n
theorem synF_byt {n : Nat} {w : Nat → Int} (hw : ∀ i, Byt (w i)) (i : Nat) : Byt (synF n w i) := hI_byt hw _ n
theorem rsyn_loop (n r : Nat) (hn : n ≤ 1000) (hr : r ≤ 1000) (w : Nat → Int) (hw : ∀ i, Byt (w i)) (d : Nat) : ∀ (k i : Nat), i + d = r → 3000 + d ≤ k → coldframeref30_Syndromes.l0 k r (line n w) (line i (synF n w)) (i : Int) = some (line r (synF n w)) := by
  induction d with
  | zero =>
    intro k i hi hk
    obtain ⟨k, rfl⟩ : ∃ m, k = m + 1 := ⟨k - 1, by omega⟩
    obtain rfl : i = r := by omega
    simp only [coldframeref30_Syndromes.l0]
    rw [if_neg (by omega)]
  | succ d ih =>
    intro k i hi hk
    obtain ⟨k, rfl⟩ : ∃ m, k = m + 1 := ⟨k - 1, by omega⟩
    simp only [coldframeref30_Syndromes.l0]
    rw [if_pos (by omega), rval_f n hn w hw i (by omega) k (by omega)]
    simp only [bnd]
    rw [if_pos (by rw [line_len]; omega), inc i (by omega), show line i (synF n w) ++ [hI w (al i) n] = line (i + 1) (synF n w) from (line_succ i _).symm]
    exact ih k (i + 1) (by omega) (by omega)
theorem rsyn_f (n r : Nat) (hn : n ≤ 1000) (hr : r ≤ 1000) (w : Nat → Int) (hw : ∀ i, Byt (w i)) : coldframeref30_Syndromes.f 5000 r (line n w) = some (line r (synF n w)) := by
  unfold coldframeref30_Syndromes.f
  exact rsyn_loop n r hn hr w hw r 5000 0 (by omega) (by omega)
end Go.Proofs.Ytcneobnplhffmaa.Rsc
/- Reed and Solomon's codes: New, Syndromes, Encode, walked. -/
namespace Go.Proofs.Ytcneobnplhffmaa.Rsc
open Go Go.RowKit Go.Proofs.Ytcneobnplhffmaa.PRsEncodes Go.Proofs.Ytcneobnplhffmaa.BRsEncodes Go.Proofs.Ytcneobnplhffmaa.Gf Go.Proofs.Ytcneobnplhffmaa.Gi Go.Proofs.Ytcneobnplhffmaa.Bits Go.Proofs.Ytcneobnplhffmaa.Mem Go.Proofs.Ytcneobnplhffmaa.Alg Go.Proofs.Ytcneobnplhffmaa.Sol Go.Proofs.Ytcneobnplhffmaa.Rws Go.Proofs.Ytcneobnplhffmaa.Cat Go.Proofs.YtcneobnplhffmaaW.PrintWords Go.Proofs.YtcneobnplhffmaaW.PrintLast
set_option linter.unusedVariables false

/-- A pointer to a code. -/
def IsRs (w : World) (v : Value) (n k r : Nat) : Prop := ∃ b A c, v = .pointer (some ⟨b, 0, none⟩) ∧ Blk w b 50 #[.int .i64 n, .int .i64 k, .slice A (r + 1) c] ∧ r + 1 ≤ c ∧ (Kd.int .u8).C w A (r + 1) (line (r + 1) (gen r))
theorem IsRs.below {w w' : World} {v : Value} {n k r : Nat} (h : IsRs w v n k r) (hb : Below w.heap.size w w') : IsRs w' v n k r := by
  obtain ⟨b, A, c, e, h, hc, hp⟩ := h
  exact ⟨b, A, c, e, h.below hb h.lt, hc, Kd.C_below hp hb⟩
theorem litR (w : World) (base : Nat) (hb : base ≤ w.heap.size) (xs : List Int) (hx : xs.length ≤ 1000) : (Kd.int .u8).R 5 (w.alloc (.cells (nums .u8 xs).toArray 5)) base (fun _ => True) (.slice (some ⟨w.heap.size, 0, none⟩) xs.length xs.length) xs := by
  have ho := own_lit w base 5 .u8 xs hb (by omega)
  exact Kd.R_of_own (enc := Value.int .u8) (h1 := fun _ => rfl) ho (fun _ _ => trivial)
theorem R_C {W : World} {base : Nat} {ok : Nat → Prop} {A : Option Addr} {n c : Nat} {xs : List Int} (h : Kd.R (Kd.int .u8) 5 W base ok (.slice A n c) xs) : (Kd.int .u8).C W A n xs ∧ n ≤ c := by
  obtain ⟨h1, h2, h3⟩ := Kd.R_reads' h
  rw [← h1] at h3
  exact ⟨h3, h2⟩
theorem next_calls (i : Nat) (hi : i ≤ 300) (A A1 : Option Addr) (c c1 : Nat) (W : World) (hC : (Kd.int .u8).C W A (i + 1) (line (i + 1) (gen i))) (hc : i + 1 ≤ c) (hC1 : (Kd.int .u8).C W A1 2 [al i, 1]) (hc1 : 2 ≤ c1) :
    Calls Try.prog 20 #[.slice A (i + 1) c, .slice A1 2 c1] W fun e w' => ∃ A' c', e = .returned (.slice A' (i + 1 + 1) c') ∧ (Kd.int .u8).R 5 w' W.heap.size (fun _ => True) (.slice A' (i + 1 + 1) c') (line (i + 1 + 1) (gen (i + 1))) ∧ Below W.heap.size W w' := by
  have h := rs_times.calls 2000 A c (line (i + 1) (gen i)) A1 c1 [al i, 1] _ W (by rw [line_len]; exact hC) (by rw [line_len]; exact hc) hC1 hc1 (next_gen i hi 2000 (Nat.le_refl _))
  rw [line_len] at h
  refine h.mono ?_
  rintro e w' ⟨v, rfl, hR, hB⟩
  obtain ⟨A', c', rfl⟩ := Kd.R_slice hR
  rw [line_len] at hR ⊢
  exact ⟨A', c', rfl, hR, hB⟩
theorem root_calls (i : Nat) (hi : i ≤ 100000) (W : World) : Calls Try.prog 21 #[.int .i64 i] W fun e w' => ∃ q, e = .returned (.int .u8 (al i)) ∧ w' = W.drewN q := by
  refine (rs_root.calls 100 i _ W (root_f 100 i (by omega) (by decide))).mono ?_
  rintro e w' ⟨rfl, hd⟩
  obtain ⟨q, hq⟩ := hd.out
  exact ⟨q, rfl, hq⟩
set_option maxRecDepth 100000 in
set_option maxHeartbeats 1000000 in
theorem new_good (n k r : Nat) (w : World) (hn : n = k + r) (h1 : 1 ≤ k) (h2 : 1 ≤ r) (h3 : n ≤ 255) :
    Calls Try.prog 9 #[.int .i64 n, .int .i64 k] w fun e w' => ∃ v, e = .returned (.tuple #[v, .int .i64 0]) ∧ IsRs w' v n k r ∧ Below w.heap.size w w' := by
  have t1 : decide ((k : Int) < 1) = false := by simp; omega
  have t2 : decide ((n : Int) ≤ (k : Int)) = false := by simp; omega
  have t3 : decide ((255 : Int) < (n : Int)) = false := by simp; omega
  have e1 : IntKind.i64.wrap ((n : Int) - (k : Int)) = (r : Int) := by rw [IntWalk.i64_in _ (by omega)]; omega
  have g1 : ¬ (n : Int) ≤ (k : Int) := by omega
  have g2 : ¬ (k : Int) < 1 := by omega
  have g3 : ¬ (255 : Int) < (n : Int) := by omega
  have hr : r ≤ 255 := by omega
  have HR0 := Lib.hid (litR w w.heap.size (Nat.le_refl _) [1] (by simp))
  have HB0 := Lib.hid ((Below.refl w.heap.size w).alloc (Nat.le_refl _) (.cells (nums .u8 [1]).toArray 5))
  clear hn h1 h2 h3
  go_enter Try.func9, Try.ntmps9
  go_wp2
  go_loopw [6, 7, 23] (fun uv _ iv wr => ∃ (i : Nat) (u : Value), uv = u ∧ i ≤ r ∧ iv = .int .i64 i ∧ Hid ((Kd.int .u8).R 5 wr w.heap.size (fun _ => True) u (line (i + 1) (gen i))) ∧ Hid (Below w.heap.size w wr)) (fun _ _ iv _ => r - (intOf iv).toNat)
  case atStart => exact ⟨0, _, rfl, by omega, rfl, HR0, HB0⟩
  case round =>
    clear HR0 HB0
    obtain ⟨i, u, rfl, hi, rfl, HR, HB⟩ := hrel
    obtain ⟨A6, c6, e6⟩ := Kd.R_slice HR.out
    rw [line_len] at e6
    subst e6
    by_cases hlt : i < r
    · have RT := Lib.hid (fun W => root_calls i (by omega) W)
      have g4 : (i : Int) < (r : Int) := by omega
      have g5 : (0 : Int) ≤ (i : Int) := by omega
      have hCC := R_C HR.out
      have NX := Lib.hid (fun W (hB : Below wr.heap.size wr W) => next_calls i (by omega) A6 (some ⟨W.heap.size, 0, none⟩) c6 2 (W.alloc (.cells #[.int .u8 (al i), .int .u8 1] 5)) (Kd.C_below hCC.1 (hB.alloc hB.size _)) hCC.2 (R_C (litR W W.heap.size (Nat.le_refl _) [al i, 1] (by simp))).1 (Nat.le_refl _))
      obtain ⟨a, ha⟩ : ∃ a, a = al i := ⟨_, rfl⟩
      rw [← ha] at RT NX
      clear hCC ha
      go_wp2_with (first
        | (go_at_call 21; (with_reducible refine (RT.out _).mono ?_); rintro e w1 ⟨q, rfl, hw⟩; have HQ := Lib.hid (show Below wr.heap.size wr w1 by rw [hw]; exact pw_below_drewN (Below.refl _ _) q); clear hw)
        | (go_at_call 20; (refine (NX.out _ HQ.out).mono ?_); rintro e w2 ⟨A7, c7, rfl, hr7, hb7⟩; have HR7 := Lib.hid (show (Kd.int .u8).R 5 w2 w.heap.size (fun _ => True) (.slice A7 (i + 1 + 1) c7) (line (i + 1 + 1) (gen (i + 1))) from Kd.R_lower hr7 (by have := HB.out.size; have := HQ.out.size; simp; omega)); have HB7 := Lib.hid (HB.out.trans ((HQ.out.alloc HQ.out.size _).trans (hb7.mono (by have := HQ.out.size; simp; omega)) |>.mono HB.out.size)); clear hr7 hb7))
      go_roundw
      case rel => exact ⟨i + 1, _, rfl, by omega, by go_num, HR7, HB7⟩
      case measure => simp [intOf]; omega
    · obtain rfl : i = r := by omega
      go_wp2
      refine bodyPost_ret (v := .tuple #[.pointer (some ⟨wr.heap.size, 0, none⟩), .int .i64 0]) (by simp [results, Try.results9, go_sem]) rfl ⟨_, rfl, ⟨_, _, _, rfl, Blk.new _ _ _, (R_C HR.out).2, Kd.C_below (R_C HR.out).1 ((Below.refl _ _).alloc (Nat.le_refl _) _)⟩, HB.out.alloc HB.out.size _⟩
set_option maxRecDepth 100000 in
theorem new_bad (n k : Int) (w : World) (h : ¬ (1 ≤ k ∧ k < n ∧ n ≤ 255)) : Calls Try.prog 9 #[.int .i64 n, .int .i64 k] w fun e w' => e = .returned (.tuple #[.pointer none, .int .i64 1]) ∧ w' = w := by
  by_cases h1 : k < 1
  · clear h
    go_enter Try.func9, Try.ntmps9
    go_wp2
    go_ret2
    exact ⟨rfl, rfl⟩
  have t1 : decide (k < 1) = false := by simp; omega
  by_cases h2 : n ≤ k
  · clear h
    go_enter Try.func9, Try.ntmps9
    go_wp2
    go_ret2
    exact ⟨rfl, rfl⟩
  have t2 : decide (n ≤ k) = false := by simp; omega
  have h3 : 255 < n := by omega
  have t3 : decide (n > 255) = true := by simp; omega
  clear h
  go_enter Try.func9, Try.ntmps9
  go_wp2
  go_ret2
  exact ⟨rfl, rfl⟩
end Go.Proofs.Ytcneobnplhffmaa.Rsc
/- Reed and Solomon's codes: Syndromes, walked. -/
namespace Go.Proofs.Ytcneobnplhffmaa.Rsc
open Go Go.RowKit Go.Proofs.Ytcneobnplhffmaa.PRsEncodes Go.Proofs.Ytcneobnplhffmaa.BRsEncodes Go.Proofs.Ytcneobnplhffmaa.Gf Go.Proofs.Ytcneobnplhffmaa.Gi Go.Proofs.Ytcneobnplhffmaa.Bits Go.Proofs.Ytcneobnplhffmaa.Mem Go.Proofs.Ytcneobnplhffmaa.Alg Go.Proofs.Ytcneobnplhffmaa.Sol Go.Proofs.Ytcneobnplhffmaa.Rws Go.Proofs.Ytcneobnplhffmaa.Cat Go.Proofs.YtcneobnplhffmaaW.PrintWords Go.Proofs.YtcneobnplhffmaaW.PrintLast
set_option linter.unusedVariables false

/-- One byte more, appended. -/
theorem byte_append {P : Program} {ops : Array Oper} {rest : List Oper} {o : Oper} {a : Act} {Q : Exit → Act → World → Prop} {w0 W : World} (hP : P = Try.prog) (base : Nat) (hgd : o.guard = none) (s x : Operand)
    (ho : o.op = .call { callee := .builtin .append, args := #[s, x], argTypes := #[22, 22] }) (v : Value) (xs : List Int) (y : Int) (ok : Nat → Prop)
    (hs : a.eval s = v) (hx : a.eval x = .slice (some ⟨W.heap.size, 0, none⟩) 1 1) (HR : Kd.R (Kd.int .u8) 5 W base ok v xs) (hok : ∀ k, W.heap.size ≤ k → ok k) (HB : Below base w0 W) (hbase : base ≤ W.heap.size) (hl : xs.length ≤ 1000000)
    (h : ∀ v1 w1, Kd.R (Kd.int .u8) 5 w1 base ok v1 (xs ++ [y]) → Below base w0 w1 → W.grownBy w1 v.ownBlock → wpList P ops Q rest (a.put o.dst v1) w1) :
    wpList P ops Q (o :: rest) a (W.alloc (.cells #[.int .u8 y] 5)) := by
  subst hP
  exact Kd.R_append (Kd.int .u8) (w0 := w0) base hgd s x 22 5 (.int .u8 0) 1 ho Try.underlying22 info_byte rfl (by decide) (by decide) v xs y [.int .u8 y] ok (fun _ => False) hs hx rfl (fun _ hk => hk.elim) hok HR HB hbase (by omega) (fun v1 w1 h1 h2 h3 _ => h v1 w1 h1 h2 h3)
theorem clone_row (n c : Nat) (A : Option Addr) (xs : List Int) (w : World) (hC : (Kd.int .u8).C w A n xs) (h1 : 1 ≤ n) (hn : n ≤ 1000000) :
    Calls Try.prog 22 #[.slice A n c] w fun e w' => ∃ A' c', e = .returned (.slice A' n c') ∧ (Kd.int .u8).R 5 w' w.heap.size (fun _ => True) (.slice A' n c') xs ∧ Below w.heap.size w w' := by
  obtain ⟨ad, rfl, _⟩ := at_row hC 0 h1
  obtain rfl : xs.length = n := hC.1
  refine (Mat.clone_any ad c xs w (Kd.reads_of_C (d := (0 : Int)) hC) (by omega)).mono ?_
  rintro e w' ⟨v, rfl, ho, hb⟩
  obtain ⟨A', c', rfl⟩ := own_slice ho
  have hR : (Kd.int .u8).R 5 w' w.heap.size (fun _ => True) (.slice A' xs.length c') xs := by
    have hv : (Value.slice A' xs.length c') = (Value.slice A' xs.length c') := rfl
    exact Kd.R_of_own (enc := Value.int .u8) (h1 := fun _ => rfl) (by
      obtain ⟨g1, g2⟩ := ho
      exact ⟨g1, g2⟩) (fun _ _ => trivial)
  exact ⟨A', c', rfl, hR, hb⟩
theorem reverse_row (n : Nat) (f : Nat → Int) (u : Value) (w0 w : World) (hB : Below w0.heap.size w0 w) (hR : (Kd.int .u8).R 5 w w0.heap.size (fun _ => True) u (line n f)) (hn : n ≤ 1000) :
    Calls Try.prog 23 #[u] w fun e w' => e = .returned (.tuple #[]) ∧ (Kd.int .u8).R 5 w' w0.heap.size (fun _ => True) u (line n (fun i => f (n - 1 - i))) ∧ Below w0.heap.size w0 w' := by
  refine (slices_Reverse_byte_byte.calls 2000 (fun _ => True) u (line n f) _ w0 w hB hR (reverse_f n hn f 2000 (Nat.le_refl _))).mono ?_
  rintro e w' ⟨rfl, hr, hb, _⟩
  exact ⟨rfl, Kd.R_mono hr (fun _ _ => trivial), hb⟩
theorem value_calls (n c : Nat) (A : Option Addr) (p : Nat → Int) (x : Int) (W : World) (hC : (Kd.int .u8).C W A n (line n p)) (hc : n ≤ c) (hp : ∀ i, Byt (p i)) (hx : Byt x) (hn : n ≤ 1000) :
    Calls Try.prog 24 #[.slice A n c, .int .u8 x] W fun e w' => ∃ q, e = .returned (.int .u8 (hI (fun a => p (n - 1 - a)) x n)) ∧ w' = W.drewN q := by
  have h := rs_value.calls 2000 A c (line n p) x _ W (by rw [line_len]; exact hC) (by rw [line_len]; exact hc) (value_f n hn p hp x hx 2000 (Nat.le_refl _))
  rw [line_len] at h
  refine h.mono ?_
  rintro e w' ⟨rfl, hd⟩
  obtain ⟨q, hq⟩ := hd.out
  exact ⟨q, rfl, hq⟩
set_option maxRecDepth 100000 in
theorem syn_bad (v : Value) (n k r L c : Nat) (A : Option Addr) (w : World) (hv : IsRs w v n k r) (h : L ≠ n) :
    Calls Try.prog 10 #[v, .slice A L c] w fun e w' => e = .returned (.tuple #[.slice none 0 0, .int .i64 1]) ∧ w' = w := by
  obtain ⟨b, A1, c1, rfl, hb, _, _⟩ := hv
  have y0 : w.cell? ⟨b, 0, none⟩ = some (.int .i64 n) := (hb.cell 0).trans rfl
  have t1 : ((L : Int) != (n : Int)) = true := by simp; omega
  have t2 : ¬ (L : Int) = (n : Int) := by omega
  clear hb h
  go_enter Try.func10, Try.ntmps10
  go_wp2
  go_ret2
  exact ⟨rfl, rfl⟩
set_option maxRecDepth 100000 in
theorem syn_nil (L c : Nat) (A : Option Addr) (w : World) :
    Calls Try.prog 10 #[.pointer none, .slice A L c] w fun e w' => e = .returned (.tuple #[.slice none 0 0, .int .i64 1]) ∧ w' = w := by
  go_enter Try.func10, Try.ntmps10
  go_wp2
  go_ret2
  exact ⟨rfl, rfl⟩
theorem synF_rev (n : Nat) (w : Nat → Int) (x : Int) : hI (fun a => (fun i => w (n - 1 - i)) (n - 1 - a)) x n = hI w x n :=
  hI_congr x n (fun i hi => by show w (n - 1 - (n - 1 - i)) = w i; congr 1; omega)
set_option maxRecDepth 100000 in
set_option maxHeartbeats 2000000 in
theorem syn_good (v : Value) (n k r c : Nat) (A : Option Addr) (m : Nat → Int) (w : World) (hv : IsRs w v n k r) (hn : n = k + r) (h1 : 1 ≤ k) (h2 : 1 ≤ r) (h3 : n ≤ 255) (hC : (Kd.int .u8).C w A n (line n m)) (hm : ∀ i, Byt (m i)) :
    Calls Try.prog 10 #[v, .slice A n c] w fun e w' => ∃ A' c', e = .returned (.tuple #[.slice A' r c', .int .i64 0]) ∧ (Kd.int .u8).R 5 w' w.heap.size (fun _ => True) (.slice A' r c') (line r (synF n m)) ∧ Below w.heap.size w w' := by
  obtain ⟨b, A1, c1, rfl, hb, _, _⟩ := hv
  have y0 : w.cell? ⟨b, 0, none⟩ = some (.int .i64 n) := (hb.cell 0).trans rfl
  have HBK := Lib.hid hb
  have CL := Lib.hid (clone_row n c A (line n m) w hC (by omega) (by omega))
  have HM := Lib.hid hm
  have HNK := Lib.hid hn
  have t1 : ((n : Int) != (n : Int)) = false := by simp
  have hr : r ≤ 255 := by omega
  have hn1 : n ≤ 1000 := by omega
  clear hb hC hm hn
  go_enter Try.func10, Try.ntmps10
  go_upto_region 6 with (first
    | (go_at_call 22; (with_reducible refine CL.out.mono ?_); rintro e w1 ⟨A6, c6, rfl, hr1, hb1⟩; have HR1 := Lib.hid hr1; have HB1 := Lib.hid hb1; clear hr1 hb1)
    | (go_at_call 23; (refine (reverse_row n m _ w _ HB1.out HR1.out hn1).mono ?_); rintro e w2 ⟨rfl, hr2, hb2⟩; have HR2 := Lib.hid hr2; have HB2 := Lib.hid hb2; clear hr2 hb2))
  have z0 : w2.cell? ⟨b, 0, none⟩ = some (.int .i64 n) := (HBK.out.below HB2.out HBK.out.lt).cell 0 |>.trans rfl
  have z1 : w2.cell? ⟨b, 1, none⟩ = some (.int .i64 k) := (HBK.out.below HB2.out HBK.out.lt).cell 1 |>.trans rfl
  have e1 : IntKind.i64.wrap ((n : Int) - (k : Int)) = (r : Int) := by have := HNK.out; rw [IntWalk.i64_in _ (by omega)]; omega
  go_quiet (fail)
  clear z0 z1 e1 y0
  have HR3 := Lib.hid (fun q => show (Kd.int .u8).R 5 (w2.drewN q) w.heap.size (fun _ => True) (.slice A6 n c6) (line n (fun i => m (n - 1 - i))) from Kd.R_drewN HR2.out q)
  have HB3 := Lib.hid (fun q => pw_below_drewN HB2.out q)
  clear HR2 HB2 HR1 HB1
  generalize hx : w2.drewN _ = x0
  have HX := Lib.hid (show (Kd.int .u8).C x0 A6 n (line n (fun i => m (n - 1 - i))) ∧ n ≤ c6 by rw [← hx]; exact R_C (HR3.out _))
  have HB0 := Lib.hid (show Below w.heap.size w x0 by rw [← hx]; exact HB3.out _)
  clear HR3 HB3 hx
  go_wp2
  go_loopw [7, 8, 33] (fun uv _ iv wr => ∃ (i : Nat) (u : Value), uv = u ∧ i ≤ r ∧ iv = .int .i64 i ∧ Hid ((Kd.int .u8).R 5 wr x0.heap.size (fun _ => True) u (line i (synF n m))) ∧ Hid (Below x0.heap.size x0 wr)) (fun _ _ iv _ => r - (intOf iv).toNat)
  case atStart => exact ⟨0, _, rfl, by omega, rfl, Lib.hid (Kd.R_nil _ _ _ _ _), Lib.hid (Below.refl _ _)⟩
  case round =>
    obtain ⟨i, u, rfl, hi, rfl, HR, HB⟩ := hrel
    by_cases hlt : i < r
    · have RT := Lib.hid (fun W => root_calls i (by omega) W)
      have VC := Lib.hid (fun W hC => value_calls n c6 A6 (fun i => m (n - 1 - i)) (al i) W hC HX.out.2 (fun j => HM.out _) (al_byt i) hn1)
      have HSY := Lib.hid (show hI (fun a => (fun i => m (n - 1 - i)) (n - 1 - a)) (al i) n = synF n m i from synF_rev n m (al i))
      rw [HSY.out] at VC
      obtain ⟨a, ha⟩ : ∃ a, a = al i := ⟨_, rfl⟩
      obtain ⟨s, hs⟩ : ∃ s, s = synF n m i := ⟨_, rfl⟩
      rw [← ha] at RT VC
      rw [← hs] at VC
      have HS := Lib.hid hs
      have g4 : (i : Int) < (r : Int) := by omega
      have g5 : (0 : Int) ≤ (i : Int) := by omega
      clear ha hs HSY
      go_wp2_with (first
        | (go_at_call 21; (with_reducible refine (RT.out _).mono ?_); rintro e w3 ⟨q, rfl, hw⟩; have HQ := Lib.hid (show Below wr.heap.size wr w3 by rw [hw]; exact pw_below_drewN (Below.refl _ _) q); clear hw)
        | (go_at_call 24; (refine (VC.out _ (Kd.C_below HX.out.1 (HB.out.trans (HQ.out.mono HB.out.size)))).mono ?_); rintro e w4 ⟨q, rfl, hw⟩; have HQ2 := Lib.hid (show Below wr.heap.size wr w4 by rw [hw]; exact pw_below_drewN HQ.out q); clear hw)
        | (at_builtin; refine byte_append (w0 := x0) rfl x0.heap.size rfl _ _ rfl u7 (line i (synF n m)) s (fun _ => True) rfl rfl (Kd.R_below HR.out HQ2.out) (fun _ _ => trivial) (HB.out.trans (HQ2.out.mono HB.out.size)) (Nat.le_trans HB.out.size HQ2.out.size) (by rw [line_len]; omega) ?_; intro v5 w5 h5 hb5 hg5; have H5 := Lib.hid h5; have HB5 := Lib.hid hb5; clear h5 hb5 hg5))
      go_roundw
      case rel => exact ⟨i + 1, _, rfl, by omega, by go_num, by rw [line_succ, ← HS.out]; exact H5, HB5⟩
      case measure => simp [intOf]; omega
    · obtain rfl : i = r := by omega
      obtain ⟨A9, c9, rfl⟩ := Kd.R_slice HR.out
      rw [line_len]
      have hr9 := HR.out
      rw [line_len] at hr9
      have HR9 := Lib.hid hr9
      clear hr9
      go_wp2
      go_ret2
      exact ⟨A9, c9, rfl, Kd.R_lower HR9.out HB0.out.size, HB0.out.trans (HB.out.mono HB0.out.size)⟩
end Go.Proofs.Ytcneobnplhffmaa.Rsc
