/- How many of any numbers fall to each place, and which ones move, with other places: for all lists of keys and all numbers of places. -/
import Derived.Test.YtgadbdhmdeiclaaMendJumpSpreads
import Derived.Test.YtgadbdhmdeiclaaBJumpSpreadsJumpB
import Derived.Test.YtgadbdhmdeiclaaBJumpSpreadsJumpRef
import Derived.Test.YtgadbdhmdeiclaaSized
namespace Go.Proofs.Ytgadbdhmdeiclaa.Pure
open Go.RowKit Go.Proofs.Ytgadbdhmdeiclaa.PJumpSpreads Go.Proofs.Ytgadbdhmdeiclaa.BJumpSpreads Go.Proofs.Ytgadbdhmdeiclaa.Jump Go.Proofs.Ytgadbdhmdeiclaa.Bits Go.Proofs.YtgadbdhmdeiclaaW.PrintWords Go.Proofs.YtgadbdhmdeiclaaW.PrintLast

/-- Where a key falls. -/
def fw (n : Nat) (key : Int) : Nat := fall n key.toNat 0 n
def add1 (n : Nat) (acc : List Int) (key : Int) : List Int := acc.set (fw n key) (wrap64 (rd acc (fw n key : Nat) + 1))
def moved (was now : Nat) (key : Int) : Bool := decide (fw was key ≠ fw now key)
/-- Keys that may be. -/
def Keys (l : List Int) : Prop := ∀ x ∈ l, (Lit.int .u64 x).wf = true

theorem fw_lt (n : Nat) (key : Int) (h : 1 ≤ n) : fw n key < n := fall_lt n _ 0 n h
theorem key_of {l : List Int} (hl : Keys l) (i : Nat) (h : i < l.length) : rd l (i : Int) = l[i] ∧ ∃ m : Nat, m < 18446744073709551616 ∧ l[i] = (m : Int) := by
  refine ⟨?_, wf_u64 (hl _ (List.getElem_mem h))⟩
  unfold rd
  simp [h]
theorem drop_one {l : List Int} (i : Nat) (h : i < l.length) : l.drop i = l[i] :: l.drop (i + 1) := List.drop_eq_getElem_cons h
theorem of_fw (k n : Nat) (key : Int) (m : Nat) (hm : m < 18446744073709551616) (e : key = (m : Int)) (h1 : 1 ≤ n) (hn : n ≤ 65536) (hf : n + 2 < k) :
    jump_Of.f k key n = some (((fw n key : Nat) : Int), 0) := by
  subst e
  rw [of_right k m n hm h1 hn hf]; rfl
theorem ref_fw (k n : Nat) (key : Int) (m : Nat) (hm : m < 18446744073709551616) (e : key = (m : Int)) (h1 : 1 ≤ n) (hn : n ≤ 65536) (hf : n + 2 < k) :
    coldframeref40_Of.f k key n = some ((fw n key : Nat) : Int) := by
  subst e
  rw [ref_of k m n hm h1 hn (by omega)]; rfl
theorem add1_len (n : Nat) (acc : List Int) (key : Int) : (add1 n acc key).length = acc.length := by unfold add1; simp
theorem inc_is (i : Nat) (h : i < 1000) : wrap64 ((i : Int) + 1) = ((i + 1 : Nat) : Int) := by rw [wrap64_in _ (by omega) (by omega)]; omega

theorem inc64 (i : Nat) (h : i < 1000000) : wrap64 ((i : Int) + 1) = ((i + 1 : Nat) : Int) := by rw [wrap64_in _ (by omega) (by omega)]; omega

theorem spread_loop (d : Nat) : ∀ (k n i : Nat) (acc keys : List Int), Keys keys → keys.length ≤ 60 → i + d = keys.length → 1 ≤ n → n ≤ 65536 → acc.length = n → n + 10 + d < k →
    jump_Spread.l0 k n acc keys keys.length i = some ((keys.drop i).foldl (add1 n) acc, 0) := by
  induction d with
  | zero =>
    intro k n i acc keys hk hl hd h1 hn ha hf
    obtain ⟨k, rfl⟩ : ∃ m, k = m + 1 := ⟨k - 1, by omega⟩
    simp only [jump_Spread.l0]
    rw [if_neg (by omega), List.drop_eq_nil_of_le (by omega)]; rfl
  | succ d ih =>
    intro k n i acc keys hk hl hd h1 hn ha hf
    obtain ⟨k, rfl⟩ : ∃ m, k = m + 1 := ⟨k - 1, by omega⟩
    have hi : i < keys.length := by omega
    obtain ⟨e, m, hm, em⟩ := key_of hk i hi
    have hlt := fw_lt n keys[i] h1
    simp only [jump_Spread.l0]
    rw [if_pos (by omega), if_pos (by omega), if_pos (by omega), e, of_fw k n _ m hm em h1 hn (by omega)]
    simp only [bnd]
    rw [if_pos (by omega), if_pos (by omega), inc_is i (by omega), drop_one i hi, List.foldl_cons]
    exact ih k n (i + 1) (add1 n acc keys[i]) keys hk hl (by omega) h1 hn (by rw [add1_len, ha]) (by omega)

theorem moves_loop (d : Nat) : ∀ (k was now i : Nat) (out keys : List Int), Keys keys → keys.length ≤ 60 → i + d = keys.length → 1 ≤ was → was ≤ 65536 → 1 ≤ now → now ≤ 65536 → out.length ≤ i →
    was + now + 10 + 2 * d < k → jump_Moves.l0 k was now out keys keys.length i = some (out ++ (keys.drop i).filter (moved was now), 0) := by
  induction d with
  | zero =>
    intro k was now i out keys hk hl hd h1 hn h2 hm ho hf
    obtain ⟨k, rfl⟩ : ∃ m, k = m + 1 := ⟨k - 1, by omega⟩
    simp only [jump_Moves.l0]
    rw [if_neg (by omega), List.drop_eq_nil_of_le (by omega)]; simp
  | succ d ih =>
    intro k was now i out keys hk hl hd h1 hn h2 hm ho hf
    obtain ⟨k, rfl⟩ : ∃ m, k = m + 1 + 1 := ⟨k - 2, by omega⟩
    have hi : i < keys.length := by omega
    obtain ⟨e, m, hm', em⟩ := key_of hk i hi
    simp only [jump_Moves.l0]
    rw [if_pos (by omega), if_pos (by omega), if_pos (by omega), e, of_fw _ was _ m hm' em h1 hn (by omega), of_fw _ now _ m hm' em h2 hm (by omega)]
    simp only [bnd]
    rw [if_pos trivial]
    simp only [bne_self_eq_false, jump_Moves.j1]
    rw [if_neg (by decide), inc_is i (by omega), drop_one i hi]
    by_cases hc : fw was keys[i] = fw now keys[i]
    · rw [if_pos (by rw [hc]), List.filter_cons_of_neg (by simp [moved, hc])]
      exact ih k was now (i + 1) out keys hk hl (by omega) h1 hn h2 hm (by omega) (by omega)
    · rw [if_neg (by omega), if_pos (by omega), List.filter_cons_of_pos (by simp [moved, hc]), ih k was now (i + 1) _ keys hk hl (by omega) h1 hn h2 hm (by simp; omega) (by omega)]
      simp

theorem same_loop (d : Nat) : ∀ (k n i : Nat) (l mv : List Int) (m : Int), i + d = n → n < 70000 → l.length = n → m = (mv.length : Int) → 10 + d < k →
    coldframelaw40_JumpSpreads.l1 k n l mv 0 l m i = some true := by
  induction d with
  | zero =>
    intro k n i l mv m hd hn hl hm hf
    obtain ⟨k, rfl⟩ : ∃ m, k = m + 1 := ⟨k - 1, by omega⟩
    simp only [coldframelaw40_JumpSpreads.l1]
    rw [if_neg (by omega), if_pos trivial, if_pos hm, if_pos (by omega), awake_is k (by omega)]; rfl
  | succ d ih =>
    intro k n i l mv m hd hn hl hm hf
    obtain ⟨k, rfl⟩ : ∃ m, k = m + 1 := ⟨k - 1, by omega⟩
    simp only [coldframelaw40_JumpSpreads.l1]
    rw [if_pos (by omega), if_neg (by omega), if_pos (by omega), if_pos (by omega), if_pos (by omega), if_pos trivial, inc64 i (by omega)]
    exact ih k n (i + 1) l mv m (by omega) hn hl hm (by omega)

theorem law_loop (d : Nat) : ∀ (k was now i : Nat) (acc keys front : List Int), Keys keys → keys.length ≤ 60 → i + d = keys.length → 1 ≤ was → was ≤ 65536 → 1 ≤ now → now ≤ 65536 →
    front.length ≤ i → acc.length = was → was + now + 20 + d < k →
    coldframelaw40_JumpSpreads.l0 k keys was now ((keys.drop i).foldl (add1 was) acc) (front ++ (keys.drop i).filter (moved was now)) 0 acc front.length i = some true := by
  induction d with
  | zero =>
    intro k was now i acc keys front hk hl hd h1 hn h2 hm ho ha hf
    obtain ⟨k, rfl⟩ : ∃ m, k = m + 1 := ⟨k - 1, by omega⟩
    simp only [coldframelaw40_JumpSpreads.l0]
    rw [if_neg (by omega), List.drop_eq_nil_of_le (by omega)]
    simp only [List.foldl_nil, List.filter_nil, List.append_nil]
    exact same_loop was k was 0 acc front _ (by omega) (by omega) ha rfl (by omega)
  | succ d ih =>
    intro k was now i acc keys front hk hl hd h1 hn h2 hm ho ha hf
    obtain ⟨k, rfl⟩ : ∃ m, k = m + 1 := ⟨k - 1, by omega⟩
    have hi : i < keys.length := by omega
    obtain ⟨e, m, hm', em⟩ := key_of hk i hi
    have hlt := fw_lt was keys[i] h1
    simp only [coldframelaw40_JumpSpreads.l0]
    rw [if_pos (by omega), if_pos (by omega), e, ref_fw _ was _ m hm' em h1 hn (by omega)]
    simp only [bnd]
    rw [if_pos (by omega), if_pos (by omega), ref_fw _ now _ m hm' em h2 hm (by omega)]
    simp only [bnd]
    rw [inc_is i (by omega), drop_one i hi, List.foldl_cons]
    by_cases hc : fw was keys[i] = fw now keys[i]
    · rw [if_pos (by rw [hc]), List.filter_cons_of_neg (by simp [moved, hc])]
      exact ih k was now (i + 1) (add1 was acc keys[i]) keys front hk hl (by omega) h1 hn h2 hm (by omega) (by rw [add1_len, ha]) (by omega)
    · rw [if_neg (by omega), List.filter_cons_of_pos (by simp [moved, hc]), if_neg (by simp; omega), if_pos (by omega), if_pos (by simp; omega), if_pos (by simp [rd]), inc_is _ (by omega)]
      rw [List.append_cons, show front.length + 1 = (front ++ [keys[i]]).length by simp]
      exact ih k was now (i + 1) (add1 was acc keys[i]) keys (front ++ [keys[i]]) hk hl (by omega) h1 hn h2 hm (by simp; omega) (by rw [add1_len, ha]) (by omega)

theorem right_is (n : Int) : coldframelaw40_right.f n = some (decide (1 ≤ n ∧ n ≤ 65536)) := by
  unfold coldframelaw40_right.f
  by_cases h : n ≥ 1
  · rw [if_pos h]; congr 1; simp; omega
  · rw [if_neg h]; congr 1; simp; omega

theorem quiet (k : Nat) (l : List Int) (a b : Int) (h : 10 < k) : coldframelaw40_JumpSpreads.j0 k l a b true = some true := by
  obtain ⟨k, rfl⟩ : ∃ m, k = m + 1 := ⟨k - 1, by omega⟩
  simp only [coldframelaw40_JumpSpreads.j0]
  rw [if_pos trivial, awake_is k (by omega)]; rfl

theorem moves_bad (k : Nat) (keys : List Int) (was now : Int) (hk : Keys keys) (hl : keys.length ≤ 60) (hb : ¬ (1 ≤ was ∧ was ≤ 65536) ∨ ¬ (1 ≤ now ∧ now ≤ 65536)) (hf : 70000 < k) :
    jump_Moves.f k keys was now = some (([] : List Int), if keys.length = 0 then 0 else 1) := by
  obtain ⟨k, rfl⟩ : ∃ m, k = m + 1 + 1 := ⟨k - 2, by omega⟩
  unfold jump_Moves.f
  simp only [jump_Moves.l0]
  by_cases h0 : keys.length = 0
  · rw [if_neg (by omega), if_pos h0]
  · rw [if_pos (by omega), if_pos (by omega), if_pos (by omega), if_neg h0]
    obtain ⟨e, m, hm, em⟩ := key_of hk 0 (by omega)
    rw [show rd keys (0 : Int) = keys[0] from e]
    by_cases hw : 1 ≤ was ∧ was ≤ 65536
    · obtain ⟨w, rfl⟩ : ∃ w : Nat, was = w := ⟨was.toNat, by omega⟩
      have hn : ¬ (1 ≤ now ∧ now ≤ 65536) := hb.elim (fun h => absurd hw h) id
      rw [of_fw _ w _ m hm em (by omega) (by omega) (by omega), of_wrong _ _ now hn (by omega)]
      simp only [bnd]
      rw [if_pos trivial]
      simp only [jump_Moves.j1]
      rw [if_pos (by decide)]
    · rw [of_wrong _ _ was hw (by omega)]
      simp only [bnd]
      obtain ⟨r, hr⟩ : ∃ r, jump_Of.f (k + 1) keys[0] now = some r := by
        by_cases hn : 1 ≤ now ∧ now ≤ 65536
        · obtain ⟨w, rfl⟩ : ∃ w : Nat, now = w := ⟨now.toNat, by omega⟩
          exact ⟨_, of_fw _ w _ m hm em (by omega) (by omega) (by omega)⟩
        · exact ⟨_, of_wrong _ _ now hn (by omega)⟩
      rw [hr]
      simp only [bnd]
      rw [if_neg (by decide)]
      simp only [jump_Moves.j1]
      rw [if_pos trivial]

theorem go_on (k : Nat) (keys : List Int) (was now : Int) (hk : Keys keys) (hl : keys.length ≤ 60) (hw : was ≤ 2000 ∨ 65536 < was) (hn : now ≤ 2000 ∨ 65536 < now) (hf : 80000 < k) :
    coldframelaw40_JumpSpreads.j0 k keys was now false = some true := by
  obtain ⟨k, rfl⟩ : ∃ m, k = m + 1 + 1 + 1 + 1 := ⟨k - 4, by omega⟩
  have hwk : ∀ k, 10 < k → coldframelaw40_awake.f k = some true := fun k h => awake_is k (by omega)
  simp only [coldframelaw40_JumpSpreads.j0]
  rw [if_neg (by decide), right_is]
  by_cases h1 : 1 ≤ was ∧ was ≤ 65536
  · obtain ⟨w, rfl⟩ : ∃ w : Nat, was = w := ⟨was.toNat, by omega⟩
    have hs : jump_Spread.f (k + 1 + 1 + 1) keys w = some (keys.foldl (add1 w) (List.replicate w 0), 0) := by
      unfold jump_Spread.f
      rw [if_neg (by omega), show decide ((w : Int) > 65536) = false by simp; omega]
      simp only [jump_Spread.j0]
      rw [if_neg (by decide), if_pos (by omega), if_pos (by omega), show ((w : Int)).toNat = w by omega]
      exact spread_loop keys.length _ w 0 _ keys hk hl (by omega) (by omega) (by omega) (by simp) (by omega)
    rw [hs]
    simp only [bnd]
    rw [if_neg (by simp; omega), if_pos (by simp; omega)]
    simp only [coldframelaw40_JumpSpreads.j1]
    rw [if_neg (by decide), right_is, right_is]
    by_cases h2 : 1 ≤ now ∧ now ≤ 65536
    · obtain ⟨n, rfl⟩ : ∃ n : Nat, now = n := ⟨now.toNat, by omega⟩
      have hm : jump_Moves.f (k + 1 + 1) keys w n = some (keys.filter (moved w n), 0) := by
        have := moves_loop keys.length (k + 1 + 1) w n 0 [] keys hk hl (by omega) (by omega) (by omega) (by omega) (by omega) (by simp) (by omega)
        simpa [jump_Moves.f] using this
      rw [hm]
      simp only [bnd]
      rw [if_pos (by simp; omega), show (!decide (1 ≤ (n : Int) ∧ (n : Int) ≤ 65536)) = false by simp; omega]
      simp only [coldframelaw40_JumpSpreads.j2]
      rw [if_neg (by decide), if_pos (by omega), if_pos (by omega), show ((w : Int)).toNat = w by omega]
      have := law_loop keys.length (k + 1) w n 0 (List.replicate w 0) keys [] hk hl (by omega) (by omega) (by omega) (by omega) (by omega) (by simp) (by simp) (by omega)
      simpa using this
    · rw [moves_bad _ keys w now hk hl (.inr h2) (by omega)]
      simp only [bnd]
      rw [if_pos (by simp; omega), show (!decide (1 ≤ now ∧ now ≤ 65536)) = true by simp; omega]
      simp only [coldframelaw40_JumpSpreads.j2]
      rw [if_pos trivial, if_pos (by simp), hwk _ (by omega)]
      by_cases h0 : keys.length = 0
      · rw [if_pos h0, if_neg (by decide), if_pos (by omega), if_pos rfl]; rfl
      · rw [if_neg h0, if_pos rfl]; rfl
  · have hs : jump_Spread.f (k + 1 + 1 + 1) keys was = some (([] : List Int), 1) := by
      unfold jump_Spread.f
      by_cases h : was < 1
      · rw [if_pos h]; simp only [jump_Spread.j0]; rfl
      · rw [if_neg h, show decide (was > 65536) = true by simp; omega]; simp only [jump_Spread.j0]; rfl
    rw [hs]
    simp only [bnd]
    rw [if_neg (by simp; omega), if_neg (by simp; omega), if_pos (by simp)]
    simp only [coldframelaw40_JumpSpreads.j1]
    rw [if_neg (by decide), right_is, moves_bad _ keys was now hk hl (.inl h1) (by omega)]
    simp only [bnd]
    rw [if_neg (by simp; omega)]
    simp only [coldframelaw40_JumpSpreads.j2]
    rw [if_pos trivial, if_pos (by simp), hwk _ (by omega)]
    by_cases h0 : keys.length = 0
    · rw [if_pos h0, if_neg (by decide), if_pos (by omega), if_pos rfl]; rfl
    · rw [if_neg h0, if_pos rfl]; rfl

theorem JumpSpreads : coldframelaw40_JumpSpreads.Pure := by
  intro keys was now _ _ hk _ _
  refine ⟨90000, ?_⟩
  unfold coldframelaw40_JumpSpreads.f
  by_cases h : (keys.length : Int) > 60
  · rw [if_pos h]; exact quiet _ _ _ _ (by omega)
  have hl : keys.length ≤ 60 := by omega
  rw [if_neg h]
  have g : ∀ b : Bool, (b = false → now ≤ 2000 ∨ 65536 < now) → (was ≤ 2000 ∨ 65536 < was) → coldframelaw40_JumpSpreads.j0 90000 keys was now b = some true := by
    intro b hb hw
    cases b with
    | true => exact quiet _ _ _ _ (by omega)
    | false => exact go_on _ keys was now hk hl hw (hb rfl) (by omega)
  by_cases h1 : was > 2000
  · rw [if_pos h1]
    by_cases h2 : was ≤ 65536
    · rw [if_pos h2]; exact quiet _ _ _ _ (by omega)
    · rw [if_neg h2]
      by_cases h3 : now > 2000
      · rw [if_pos h3]; exact g _ (by simp; omega) (by omega)
      · rw [if_neg h3]; exact g _ (by omega) (by omega)
  · rw [if_neg h1]
    by_cases h3 : now > 2000
    · rw [if_pos h3]; exact g _ (by simp; omega) (by omega)
    · rw [if_neg h3]; exact g _ (by omega) (by omega)
end Go.Proofs.Ytgadbdhmdeiclaa.Pure
