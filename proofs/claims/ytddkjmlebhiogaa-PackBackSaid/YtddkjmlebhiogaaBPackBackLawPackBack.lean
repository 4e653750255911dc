/- The statement PackBack over what comes in. -/
import Derived.Test.YtddkjmlebhiogaaProg
import Derived.Below
import Derived.Deep.Draws
import Derived.Deep.AppendLies
import Derived.Maps.AppendAt
import Derived.OwnWalk
import Derived.Laws.BytesArg
import Derived.Laws.MakeOwn
import Derived.Laws.OwnMore
import Derived.Deep.OwnRows
import Derived.Tactics
import Derived.Lib.ConvBytes
import Derived.Laws.Slices
import Derived.WalkKit
import Derived.KernelRfl
import Derived.RowKit3
import Derived.Deep.LoopGhost
import Derived.Deep.QuietTactic
import Derived.BigQuiet
import Derived.WideLaws
import Derived.Deep.DeepCutAuto
import Derived.Deep.CutBlock
import Derived.Deep.RegionHeld3
import Derived.Laws.Rows
import Derived.Lib.AppendStr
import Derived.ArgAppend
import Derived.Laws.IdiomCopy
import Derived.OrdersHeld
import Derived.Laws.BitsLemmas
import Derived.RowKit
import Derived.Lib.Hide
import Derived.Test.YtddkjmlebhiogaaOpens
import Derived.Test.YtddkjmlebhiogaaBPackBackLPackBack
namespace Go.Proofs.Ytddkjmlebhiogaa.Pack
open Go Go.RowKit Go.Proofs.Ytddkjmlebhiogaa.PPackBack Go.Proofs.Ytddkjmlebhiogaa.Opn Go.Proofs.Ytddkjmlebhiogaa.Mem Go.Proofs.Ytddkjmlebhiogaa.Bits Go.Proofs.YtddkjmlebhiogaaW.PrintWords Go.Proofs.YtddkjmlebhiogaaW.PrintLast
set_option linter.unusedVariables false

theorem wf_range {k : IntKind} {a : Int} (h : (Lit.int k a).wf = true) : k.min ≤ a ∧ a ≤ k.max := by
  simpa [Lit.wf] using h
theorem r_u8 {a : Int} (h : (Lit.int .u8 a).wf = true) : 0 ≤ a ∧ a < 256 := by
  have := wf_range h; simp [IntKind.min, IntKind.max, IntKind.signed, IntKind.bits] at this; omega
def OkShard (x : S33) : Prop := (0 ≤ x.f0 ∧ x.f0 < 4294967296) ∧ (0 ≤ x.f1 ∧ x.f1 < 65536) ∧ (0 ≤ x.f2 ∧ x.f2 < 65536) ∧ (0 ≤ x.f3 ∧ x.f3 < 4294967296)
theorem r_u64 {a : Int} (h : (Lit.int .u64 a).wf = true) : 0 ≤ a ∧ a < 18446744073709551616 := by
  have := wf_range h; simp [IntKind.min, IntKind.max, IntKind.signed, IntKind.bits] at this; omega
theorem r_u32 {a : Int} (h : (Lit.int .u32 a).wf = true) : 0 ≤ a ∧ a < 4294967296 := by
  have := wf_range h; simp [IntKind.min, IntKind.max, IntKind.signed, IntKind.bits] at this; omega
theorem r_u16 {a : Int} (h : (Lit.int .u16 a).wf = true) : 0 ≤ a ∧ a < 65536 := by
  have := wf_range h; simp [IntKind.min, IntKind.max, IntKind.signed, IntKind.bits] at this; omega
theorem opens_shard : Opens k33 OkShard 33 := by
  have h : Opens (Kd.pair (Kd.int .u32) (Kd.pair (Kd.int .u16) (Kd.pair (Kd.int .u16) (Kd.int .u32)))) _ 33 :=
    opens_struct Try.underlying33 (by kernel_rfl) (l := [(30, 1), (31, 1), (31, 1), (30, 1)]) (by kernel_rfl) (by kernel_rfl)
      (opens_pair (opens_int Try.underlying30) (opens_pair (opens_int Try.underlying31) (opens_pair (opens_int Try.underlying31) (opens_last (opens_int Try.underlying30)))))
  exact Opens.imp (opens_iso (fun x : S33 => (x.f0, x.f1, x.f2, x.f3)) (fun p => ⟨p.1, p.2.1, p.2.2.1, p.2.2.2⟩) (fun _ => rfl) h) (fun x hx => ⟨r_u32 hx.1, r_u16 hx.2.1, r_u16 hx.2.2.1, r_u32 hx.2.2.2⟩)
theorem opens_act : Opens kAct WfA 35 := by
  have hb : Opens (Kd.slice 5 (Kd.int .u8)) _ 26 := opens_slice Try.underlying26 (by kernel_rfl) (opens_int Try.underlying5)
  have h : Opens (Kd.pair (Kd.int .i64) (Kd.pair (Kd.int .u64) (Kd.pair (Kd.int .i64) (Kd.pair (Kd.slice 5 (Kd.int .u8)) k33)))) _ 35 :=
    opens_struct Try.underlying35 (by kernel_rfl) (l := [(3, 1), (29, 1), (3, 1), (26, 1), (33, 4)]) (by kernel_rfl) (by kernel_rfl)
      (opens_pair (opens_int Try.underlying3) (opens_pair (opens_int Try.underlying29) (opens_pair (opens_int Try.underlying3) (opens_pair hb (opens_last opens_shard)))))
  exact Opens.imp (opens_iso (fun x : Act => (x.f0, x.f1, x.f2, x.f3, x.f4)) (fun p => ⟨p.1, p.2.1, p.2.2.1, p.2.2.2.1, p.2.2.2.2⟩) (fun _ => rfl) h) (fun x hx => ⟨r_u64 hx.2.1, hx.2.2.2.2.1, hx.2.2.2.2.2.1, hx.2.2.2.2.2.2.1, hx.2.2.2.2.2.2.2, fun y hy => r_u8 (hx.2.2.2.1.2 y hy)⟩)
theorem opens_acts : Opens (Kd.slice 35 kAct) (fun l => l.length ≤ 9223372036854775807 ∧ ∀ a ∈ l, WfA a) 22 :=
  opens_slice Try.underlying22 (by kernel_rfl) opens_act
theorem rdA_mem {l : List Act} {j : Nat} (h : j < l.length) : rdA l j ∈ l := by
  unfold rdA rd_T35
  simp [List.getD_eq_getElem?_getD, h]
theorem back_law {W : World} (A : Option Addr) (c : Nat) (l : List Act) (hC : kAct.C W A l.length l) (hl : l.length ≤ c) (hok : l.length ≤ 9223372036854775807 ∧ ∀ a ∈ l, WfA a) (_ : World) :
    Calls Try.prog 4 #[.slice A l.length c] W fun e w' => e = .returned (.bool true) ∧ Below W.heap.size W w' := by
  obtain ⟨r, hr, hL⟩ := light_any A c l W W (Below.refl _ _) hC hl
  cases r with
  | false => exact back_heavy A c l W hL
  | true => exact back_good A c l W hC (hr rfl) (fun j hj => hok.2 _ (rdA_mem hj)) hL
end Go.Proofs.Ytddkjmlebhiogaa.Pack
