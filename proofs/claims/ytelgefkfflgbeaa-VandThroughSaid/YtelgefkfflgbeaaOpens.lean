/- Arguments of any kind, opened: what is read at a type is told by a kind of the print's words. -/
import Derived.Test.YtelgefkfflgbeaaProg
import Derived.Below
import Derived.Deep.Draws
import Derived.Deep.AppendLies
import Derived.Maps.AppendAt
import Derived.OwnWalk
import Derived.Laws.BytesArg
import Derived.Laws.MakeOwn
import Derived.Laws.OwnMore
import Derived.Deep.OwnRows
import Derived.Tactics
import Derived.Lib.ConvBytes
import Derived.Laws.Slices
import Derived.WalkKit
import Derived.KernelRfl
import Derived.RowKit3
import Derived.Deep.LoopGhost
import Derived.Deep.QuietTactic
import Derived.BigQuiet
import Derived.WideLaws
import Derived.Deep.DeepCutAuto
import Derived.Deep.CutBlock
import Derived.Deep.RegionHeld3
import Derived.Laws.Rows
import Derived.Lib.AppendStr
import Derived.ArgAppend
import Derived.Laws.IdiomCopy
import Derived.OrdersHeld
import Derived.Laws.BitsLemmas
import Derived.RowKit
import Derived.Lib.Hide
import Derived.ProofKit
import Derived.OpenShut
import Derived.ChangeOld
import Derived.Deep.Slices
import Derived.Test.YtelgefkfflgbeaaWWords
namespace Go.Proofs.Ytelgefkfflgbeaa.Opn
open Go Go.RowKit Go.ChangeShapes Go.WideShapes Go.ChangeAt Go.Deep Go.Proofs.YtelgefkfflgbeaaW.PrintWords
set_option linter.unusedVariables false

structure Opens {α : Type} (d : Kd α) (ok : α → Prop) (t : TypeId) : Prop where
  out : ∀ {H : Type} {enc : TypeId × Value → H} {W : World} {fuel : Nat} {cs : List Value} {x : DataW H × List MemPlace}, DataW.trod enc Try.prog W 0 (fun _ => true) true fuel t cs = some x → ∃ a, d.K W a cs ∧ ok a
theorem Opens.imp {α : Type} {d : Kd α} {ok ok' : α → Prop} {t : TypeId} (h : Opens d ok t) (hi : ∀ a, ok a → ok' a) : Opens d ok' t := by
  refine ⟨fun hx => ?_⟩
  obtain ⟨a, h1, h2⟩ := h.out hx
  exact ⟨a, h1, hi a h2⟩
theorem opens_int {k : IntKind} {t : TypeId} (ht : Try.prog.underlying t = some (.int k)) : Opens (Kd.int k) (fun a => (Lit.int k a).wf = true) t := by
  refine ⟨fun h => ?_⟩
  obtain ⟨n, rfl, _, hw⟩ := DataW.trod_int ht h
  exact ⟨n, rfl, hw⟩
theorem opens_bool {t : TypeId} (ht : Try.prog.underlying t = some .bool) : Opens Kd.bool (fun _ => True) t := by
  refine ⟨fun h => ?_⟩
  obtain ⟨n, rfl, _⟩ := DataW.trod_bool ht h
  exact ⟨n, rfl, trivial⟩
theorem opens_string {t : TypeId} (ht : Try.prog.underlying t = some .string) : Opens Kd.string (fun s => s.size ≤ maxLen) t := by
  refine ⟨fun h => ?_⟩
  obtain ⟨n, rfl, _, hs⟩ := DataW.trod_string ht h
  exact ⟨n, rfl, hs⟩
theorem opens_slice {α : Type} {d : Kd α} {ok : α → Prop} {t e : TypeId} (ht : Try.prog.underlying t = some (.slice e)) (hz : Try.prog.cellsOf e = d.sz) (h : Opens d ok e) :
    Opens (Kd.slice e d) (fun l => l.length ≤ 9223372036854775807 ∧ ∀ a ∈ l, ok a) t := by
  refine ⟨fun {H enc W fuel cs x} hx => ?_⟩
  rcases open_slice ht hx with ⟨rfl, _⟩ | ⟨a, len, cap, m, n, D, Pl, rfl, _, hl, hm, hmm, _, hi⟩
  · exact ⟨[], ⟨none, 0, rfl, Nat.le_refl _, Kd.C_nil d W⟩, by simp, fun a ha => by cases ha⟩
  · have hmc : m = cap := by simpa using hmm
    subst hmc
    have hm' : m ≤ 9223372036854775807 := by simpa [maxLen] using hm
    have hall : ∀ i, i < len → ∃ (v : α) (c : List Value), d.K W v c ∧ ok v ∧ c.length = d.sz ∧ ∀ j u, c[j]? = some u → W.cell? (a.add (i * d.sz + j)) = some u := by
      intro i hil
      obtain ⟨cs', hc, htr⟩ := hi i (by omega)
      obtain ⟨v, hK, hok⟩ := h.out htr
      obtain ⟨_, hlen, hcell⟩ := World.cells?_some hc
      rw [hz] at hlen hcell
      refine ⟨v, cs', hK, hok, hlen, fun j u hu => ?_⟩
      have hj : j < d.sz := by
        have := (List.getElem?_eq_some_iff.1 hu).1; omega
      rw [← hu, ← hcell j hj, Go.Deep.add_add]
    have hlist : ∃ l : List α, l.length = len ∧ ∀ j p, l[j]? = some p → ok p ∧ ∃ c, c.length = d.sz ∧ d.K W p c ∧ ∀ i u, c[i]? = some u → W.cell? (a.add (j * d.sz + i)) = some u := by
      clear hx hi hmm
      have : ∀ k, k ≤ len → ∃ l : List α, l.length = k ∧ ∀ j p, l[j]? = some p → ok p ∧ ∃ c, c.length = d.sz ∧ d.K W p c ∧ ∀ i u, c[i]? = some u → W.cell? (a.add (j * d.sz + i)) = some u := by
        intro k
        induction k with
        | zero => exact fun _ => ⟨[], rfl, fun j p hp => by simp at hp⟩
        | succ k ih =>
          intro hk
          obtain ⟨l, hl1, hl2⟩ := ih (by omega)
          obtain ⟨v, c, hK, hok, hlen, hc⟩ := hall k (by omega)
          refine ⟨l ++ [v], by simp [hl1], fun j p hp => ?_⟩
          rcases Nat.lt_or_ge j l.length with hj | hj
          · rw [List.getElem?_append_left hj] at hp
            exact hl2 j p hp
          · have hj' : j = k := by
              have := (List.getElem?_eq_some_iff.1 hp).1
              simp at this; omega
            subst hj'
            have hq : v = p := by
              rw [← hl1] at hp; simpa using hp
            subst hq
            exact ⟨hok, c, hlen, hK, hc⟩
      exact this len (Nat.le_refl _)
    obtain ⟨l, rfl, hl2⟩ := hlist
    refine ⟨l, ⟨some a, m, rfl, hl, rfl, by omega, fun _ => ⟨a, rfl, fun j p hp => ?_⟩⟩, by omega, fun v hv => ?_⟩
    · obtain ⟨_, c, h1, h2, h3⟩ := hl2 j p hp
      exact ⟨c, h1, h2, h3⟩
    · obtain ⟨j, hj⟩ := List.getElem?_of_mem hv
      exact (hl2 j v hj).1
/-- Fields in line: each one's type and how many cells it has. -/
def Segs {H : Type} (enc : TypeId × Value → H) (W : World) (n : Nat) : List (TypeId × Nat) → List Value → Prop
  | [], cs => cs = []
  | (t, s) :: r, cs => (∃ y, DataW.trod enc Try.prog W 0 (fun _ => true) true n t (cs.take s) = some y) ∧ s ≤ cs.length ∧ Segs enc W n r (cs.drop s)
structure OpensF {α : Type} (d : Kd α) (ok : α → Prop) (l : List (TypeId × Nat)) : Prop where
  out : ∀ {H : Type} {enc : TypeId × Value → H} {W : World} {n : Nat} {cs : List Value}, Segs enc W n l cs → ∃ a, d.K W a cs ∧ ok a
theorem opens_last {α : Type} {d : Kd α} {ok : α → Prop} {t : TypeId} {s : Nat} (h : Opens d ok t) : OpensF d ok [(t, s)] := by
  refine ⟨fun {H enc W n cs} hs => ?_⟩
  obtain ⟨⟨y, hy⟩, hl, he⟩ := hs
  have he' : cs.drop s = [] := he
  have hle : cs.length ≤ s := by simpa using he'
  rw [List.take_of_length_le hle] at hy
  exact h.out hy
theorem opens_pair {α β : Type} {d : Kd α} {d' : Kd β} {ok : α → Prop} {ok' : β → Prop} {t : TypeId} {s : Nat} {l : List (TypeId × Nat)} (h : Opens d ok t) (h' : OpensF d' ok' l) : OpensF (Kd.pair d d') (fun x => ok x.1 ∧ ok' x.2) ((t, s) :: l) := by
  refine ⟨fun {H enc W n cs} hs => ?_⟩
  obtain ⟨⟨y, hy⟩, hl, hr⟩ := hs
  obtain ⟨a, h1, h2⟩ := h.out hy
  obtain ⟨b, h3, h4⟩ := h'.out hr
  exact ⟨(a, b), ⟨cs.take s, cs.drop s, (List.take_append_drop s cs).symm, h1, h3⟩, h2, h4⟩
def offs (P : Program) : List Field → Nat → Bool
  | [], _ => true
  | f :: r, o => f.offset == o && offs P r (o + P.cellsOf f.type)
def total : List (TypeId × Nat) → Nat
  | [] => 0
  | (_, s) :: r => s + total r
theorem segs_of {H : Type} {enc : TypeId × Value → H} {W : World} {n : Nat} {cs : List Value} : ∀ (fs : List Field) (o : Nat), (∀ f ∈ fs, ∃ y, DataW.trod enc Try.prog W 0 (fun _ => true) true n f.type ((cs.drop f.offset).take (Try.prog.cellsOf f.type)) = some y) →
    offs Try.prog fs o = true → cs.length = o + total (fs.map fun f => (f.type, Try.prog.cellsOf f.type)) → Segs enc W n (fs.map fun f => (f.type, Try.prog.cellsOf f.type)) (cs.drop o)
  | [], o, _, _, hl => by
    simp only [List.map_nil, Segs, total] at *
    exact List.drop_of_length_le (by omega)
  | f :: r, o, h, ho, hl => by
    simp only [offs, Bool.and_eq_true, beq_iff_eq] at ho
    simp only [List.map_cons, Segs, total] at *
    refine ⟨?_, by rw [List.length_drop]; omega, ?_⟩
    · have := h f (List.mem_cons_self ..)
      rw [ho.1] at this
      exact this
    · rw [List.drop_drop]
      exact segs_of r (o + Try.prog.cellsOf f.type) (fun g hg => h g (List.mem_cons_of_mem _ hg)) ho.2 (by omega)
theorem opens_struct {α : Type} {d : Kd α} {ok : α → Prop} {t : TypeId} {fs : Array Field} {l : List (TypeId × Nat)} (ht : Try.prog.underlying t = some (.struct fs)) (ho : offs Try.prog fs.toList 0 = true)
    (hl : fs.toList.map (fun f => (f.type, Try.prog.cellsOf f.type)) = l) (hc : Try.prog.cellsOf t = total l) (h : OpensF d ok l) : Opens d ok t := by
  refine ⟨fun {H enc W fuel cs x} hx => ?_⟩
  obtain ⟨xs, n, _, _, hlen, hxs, hf⟩ := DataW.trod_struct ht hx
  have := segs_of (enc := enc) (W := W) (n := n) (cs := cs) fs.toList 0 (fun f hm => ?_) ho (by rw [hl, ← hc, hlen]; omega)
  · rw [hl] at this
    exact h.out this
  · obtain ⟨i, hi⟩ := List.getElem?_of_mem hm
    rw [Array.getElem?_toList] at hi
    have h1 := hf i f hi
    have hil : i < xs.length := by rw [hxs]; exact (Array.getElem?_eq_some_iff.1 hi).1
    exact ⟨xs[i], by rw [h1, List.getElem?_eq_getElem hil]⟩
theorem opens_iso {α β : Type} {d : Kd α} {ok : α → Prop} {t : TypeId} (f : β → α) (g : α → β) (hg : ∀ a, f (g a) = a) (h : Opens d ok t) : Opens (Kd.iso d f) (fun x => ok (f x)) t := by
  refine ⟨fun hx => ?_⟩
  obtain ⟨a, h1, h2⟩ := h.out hx
  exact ⟨g a, show d.K _ (f (g a)) _ by rw [hg]; exact h1, show ok (f (g a)) by rw [hg]; exact h2⟩
/-- A slice that comes in. -/
theorem slice_in {α : Type} {d : Kd α} {ok : List α → Prop} {t e : TypeId} {H : Type} {enc : TypeId × Value → H} {W : World} {a : Option Addr} {len cap : Nat} {x : DataW H} {p : List MemPlace}
    (h : Opens (Kd.slice e d) ok t) (hx : DataW.Trod enc Try.prog W 0 (fun _ => true) true t (.slice a len cap) x p) : ∃ l : List α, len = l.length ∧ d.C W a l.length l ∧ l.length ≤ cap ∧ ok l := by
  obtain ⟨fuel, hf⟩ := hx
  obtain ⟨l, ⟨A, c, hcs, hl, hC⟩, hok⟩ := h.out hf
  simp [Value.cells] at hcs
  obtain ⟨rfl, rfl, rfl⟩ := hcs
  exact ⟨l, rfl, hC, hl, hok⟩
/-- A struct that comes in. -/
theorem struct_in {α : Type} {d : Kd α} {ok : α → Prop} {t : TypeId} {H : Type} {enc : TypeId × Value → H} {W : World} {cs : Array Value} {x : DataW H} {p : List MemPlace}
    (h : Opens d ok t) (hx : DataW.Trod enc Try.prog W 0 (fun _ => true) true t (.agg cs) x p) : ∃ a : α, d.K W a cs.toList ∧ ok a := by
  obtain ⟨fuel, hf⟩ := hx
  exact h.out hf
end Go.Proofs.Ytelgefkfflgbeaa.Opn
