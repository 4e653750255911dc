/- Where keys fall, and which ones move, of the printed Spread and Moves. -/
import Derived.Test.YtgadbdhmdeiclaaBJumpSpreadsJumpB
import Derived.Test.YtgadbdhmdeiclaaBJumpSpreadsJumpRef
import Derived.Test.YtgadbdhmdeiclaaSized
namespace Go.Proofs.Ytgadbdhmdeiclaa.JS
open Go.RowKit Go.Proofs.Ytgadbdhmdeiclaa.PJumpSpreads Go.Proofs.Ytgadbdhmdeiclaa.BJumpSpreads Go.Proofs.Ytgadbdhmdeiclaa.Jump Go.Proofs.Ytgadbdhmdeiclaa.Bits Go.Proofs.YtgadbdhmdeiclaaW.PrintWords Go.Proofs.YtgadbdhmdeiclaaW.PrintLast

/-- Where a key falls. -/
def fw (n : Nat) (key : Int) : Nat := fall n key.toNat 0 n
def add1 (n : Nat) (acc : List Int) (key : Int) : List Int := acc.set (fw n key) (wrap64 (rd acc (fw n key : Nat) + 1))
def moved (was now : Nat) (key : Int) : Bool := decide (fw was key ≠ fw now key)
/-- Keys that may be. -/
def Keys (l : List Int) : Prop := ∀ x ∈ l, (Lit.int .u64 x).wf = true

theorem fw_lt (n : Nat) (key : Int) (h : 1 ≤ n) : fw n key < n := fall_lt n _ 0 n h
theorem key_of {l : List Int} (hl : Keys l) (i : Nat) (h : i < l.length) : rd l (i : Int) = l[i] ∧ ∃ m : Nat, m < 18446744073709551616 ∧ l[i] = (m : Int) := by
  refine ⟨?_, wf_u64 (hl _ (List.getElem_mem h))⟩
  unfold rd
  simp [h]
theorem drop_one {l : List Int} (i : Nat) (h : i < l.length) : l.drop i = l[i] :: l.drop (i + 1) := List.drop_eq_getElem_cons h
theorem of_fw (k n : Nat) (key : Int) (m : Nat) (hm : m < 18446744073709551616) (e : key = (m : Int)) (h1 : 1 ≤ n) (hn : n ≤ 65536) (hf : n + 2 < k) :
    jump_Of.f k key n = some (((fw n key : Nat) : Int), 0) := by
  subst e
  rw [of_right k m n hm h1 hn hf]; rfl
theorem ref_fw (k n : Nat) (key : Int) (m : Nat) (hm : m < 18446744073709551616) (e : key = (m : Int)) (h1 : 1 ≤ n) (hn : n ≤ 65536) (hf : n + 2 < k) :
    coldframeref40_Of.f k key n = some ((fw n key : Nat) : Int) := by
  subst e
  rw [ref_of k m n hm h1 hn (by omega)]; rfl
theorem add1_len (n : Nat) (acc : List Int) (key : Int) : (add1 n acc key).length = acc.length := by unfold add1; simp
theorem inc_is (i : Nat) (h : i < 1000) : wrap64 ((i : Int) + 1) = ((i + 1 : Nat) : Int) := by rw [wrap64_in _ (by omega) (by omega)]; omega

theorem inc64 (i : Nat) (h : i < 1000000) : wrap64 ((i : Int) + 1) = ((i + 1 : Nat) : Int) := by rw [wrap64_in _ (by omega) (by omega)]; omega

theorem spread_loop (d : Nat) : ∀ (k n i : Nat) (acc keys : List Int), Keys keys → keys.length ≤ 60 → i + d = keys.length → 1 ≤ n → n ≤ 65536 → acc.length = n → n + 10 + d < k →
    jump_Spread.l0 k n acc keys keys.length i = some ((keys.drop i).foldl (add1 n) acc, 0) := by
  induction d with
  | zero =>
    intro k n i acc keys hk hl hd h1 hn ha hf
    obtain ⟨k, rfl⟩ : ∃ m, k = m + 1 := ⟨k - 1, by omega⟩
    simp only [jump_Spread.l0]
    rw [if_neg (by omega), List.drop_eq_nil_of_le (by omega)]; rfl
  | succ d ih =>
    intro k n i acc keys hk hl hd h1 hn ha hf
    obtain ⟨k, rfl⟩ : ∃ m, k = m + 1 := ⟨k - 1, by omega⟩
    have hi : i < keys.length := by omega
    obtain ⟨e, m, hm, em⟩ := key_of hk i hi
    have hlt := fw_lt n keys[i] h1
    simp only [jump_Spread.l0]
    rw [if_pos (by omega), if_pos (by omega), if_pos (by omega), e, of_fw k n _ m hm em h1 hn (by omega)]
    simp only [bnd]
    rw [if_pos (by omega), if_pos (by omega), inc_is i (by omega), drop_one i hi, List.foldl_cons]
    exact ih k n (i + 1) (add1 n acc keys[i]) keys hk hl (by omega) h1 hn (by rw [add1_len, ha]) (by omega)

theorem moves_loop (d : Nat) : ∀ (k was now i : Nat) (out keys : List Int), Keys keys → keys.length ≤ 60 → i + d = keys.length → 1 ≤ was → was ≤ 65536 → 1 ≤ now → now ≤ 65536 → out.length ≤ i →
    was + now + 10 + 2 * d < k → jump_Moves.l0 k was now out keys keys.length i = some (out ++ (keys.drop i).filter (moved was now), 0) := by
  induction d with
  | zero =>
    intro k was now i out keys hk hl hd h1 hn h2 hm ho hf
    obtain ⟨k, rfl⟩ : ∃ m, k = m + 1 := ⟨k - 1, by omega⟩
    simp only [jump_Moves.l0]
    rw [if_neg (by omega), List.drop_eq_nil_of_le (by omega)]; simp
  | succ d ih =>
    intro k was now i out keys hk hl hd h1 hn h2 hm ho hf
    obtain ⟨k, rfl⟩ : ∃ m, k = m + 1 + 1 := ⟨k - 2, by omega⟩
    have hi : i < keys.length := by omega
    obtain ⟨e, m, hm', em⟩ := key_of hk i hi
    simp only [jump_Moves.l0]
    rw [if_pos (by omega), if_pos (by omega), if_pos (by omega), e, of_fw _ was _ m hm' em h1 hn (by omega), of_fw _ now _ m hm' em h2 hm (by omega)]
    simp only [bnd]
    rw [if_pos trivial]
    simp only [bne_self_eq_false, jump_Moves.j1]
    rw [if_neg (by decide), inc_is i (by omega), drop_one i hi]
    by_cases hc : fw was keys[i] = fw now keys[i]
    · rw [if_pos (by rw [hc]), List.filter_cons_of_neg (by simp [moved, hc])]
      exact ih k was now (i + 1) out keys hk hl (by omega) h1 hn h2 hm (by omega) (by omega)
    · rw [if_neg (by omega), if_pos (by omega), List.filter_cons_of_pos (by simp [moved, hc]), ih k was now (i + 1) _ keys hk hl (by omega) h1 hn h2 hm (by simp; omega) (by omega)]
      simp

theorem right_is (n : Int) : coldframelaw40_right.f n = some (decide (1 ≤ n ∧ n ≤ 65536)) := by
  unfold coldframelaw40_right.f
  by_cases h : n ≥ 1
  · rw [if_pos h]; congr 1; simp; omega
  · rw [if_neg h]; congr 1; simp; omega

theorem moves_bad (k : Nat) (keys : List Int) (was now : Int) (hk : Keys keys) (hl : keys.length ≤ 60) (hb : ¬ (1 ≤ was ∧ was ≤ 65536) ∨ ¬ (1 ≤ now ∧ now ≤ 65536)) (hf : 70000 < k) :
    jump_Moves.f k keys was now = some (([] : List Int), if keys.length = 0 then 0 else 1) := by
  obtain ⟨k, rfl⟩ : ∃ m, k = m + 1 + 1 := ⟨k - 2, by omega⟩
  unfold jump_Moves.f
  simp only [jump_Moves.l0]
  by_cases h0 : keys.length = 0
  · rw [if_neg (by omega), if_pos h0]
  · rw [if_pos (by omega), if_pos (by omega), if_pos (by omega), if_neg h0]
    obtain ⟨e, m, hm, em⟩ := key_of hk 0 (by omega)
    rw [show rd keys (0 : Int) = keys[0] from e]
    by_cases hw : 1 ≤ was ∧ was ≤ 65536
    · obtain ⟨w, rfl⟩ : ∃ w : Nat, was = w := ⟨was.toNat, by omega⟩
      have hn : ¬ (1 ≤ now ∧ now ≤ 65536) := hb.elim (fun h => absurd hw h) id
      rw [of_fw _ w _ m hm em (by omega) (by omega) (by omega), of_wrong _ _ now hn (by omega)]
      simp only [bnd]
      rw [if_pos trivial]
      simp only [jump_Moves.j1]
      rw [if_pos (by decide)]
    · rw [of_wrong _ _ was hw (by omega)]
      simp only [bnd]
      obtain ⟨r, hr⟩ : ∃ r, jump_Of.f (k + 1) keys[0] now = some r := by
        by_cases hn : 1 ≤ now ∧ now ≤ 65536
        · obtain ⟨w, rfl⟩ : ∃ w : Nat, now = w := ⟨now.toNat, by omega⟩
          exact ⟨_, of_fw _ w _ m hm em (by omega) (by omega) (by omega)⟩
        · exact ⟨_, of_wrong _ _ now hn (by omega)⟩
      rw [hr]
      simp only [bnd]
      rw [if_neg (by decide)]
      simp only [jump_Moves.j1]
      rw [if_pos trivial]


/-- The counts behind i keys, the moved ones, and how many of them lie among the first i. -/
def acc (w : Nat) (keys : List Int) (i : Nat) : List Int := (keys.take i).foldl (add1 w) (List.replicate w 0)
def mvs (w n : Nat) (keys : List Int) : List Int := keys.filter (moved w n)
def cnt (w n : Nat) (keys : List Int) (i : Nat) : Nat := ((keys.take i).filter (moved w n)).length
theorem acc_len (w : Nat) (keys : List Int) (i : Nat) : (acc w keys i).length = w := by
  unfold acc
  have : ∀ (l : List Int) (a : List Int), (l.foldl (add1 w) a).length = a.length := by
    intro l; induction l with
    | nil => intro a; rfl
    | cons x l ih => intro a; rw [List.foldl_cons, ih, add1_len]
  rw [this]; simp
theorem take_one {l : List Int} (i : Nat) (h : i < l.length) : l.take (i + 1) = l.take i ++ [l[i]] := by rw [List.take_add_one, List.getElem?_eq_getElem h]; rfl
theorem acc_step (w : Nat) (keys : List Int) (i : Nat) (h : i < keys.length) : acc w keys (i + 1) = (acc w keys i).set (fw w keys[i]) (wrap64 (rd (acc w keys i) (fw w keys[i] : Nat) + 1)) := by
  unfold acc; rw [take_one i h, List.foldl_append]; rfl
theorem cnt_same (w n : Nat) (keys : List Int) (i : Nat) (h : i < keys.length) (hc : fw w keys[i] = fw n keys[i]) : cnt w n keys (i + 1) = cnt w n keys i := by
  unfold cnt; rw [take_one i h, List.filter_append]; simp [moved, hc]
theorem cnt_more (w n : Nat) (keys : List Int) (i : Nat) (h : i < keys.length) (hc : fw w keys[i] ≠ fw n keys[i]) : cnt w n keys (i + 1) = cnt w n keys i + 1 := by
  unfold cnt; rw [take_one i h, List.filter_append]; simp [moved, hc]
theorem cnt_all (w n : Nat) (keys : List Int) : cnt w n keys keys.length = (mvs w n keys).length := by unfold cnt mvs; rw [List.take_length]
theorem acc_all (w : Nat) (keys : List Int) : acc w keys keys.length = keys.foldl (add1 w) (List.replicate w 0) := by unfold acc; rw [List.take_length]
theorem cnt_le (w n : Nat) (keys : List Int) (i : Nat) : cnt w n keys i ≤ i := by
  unfold cnt
  exact Nat.le_trans (List.length_filter_le _ _) (by rw [List.length_take]; omega)
theorem mvs_at (w n : Nat) (keys : List Int) (i : Nat) (h : i < keys.length) (hc : fw w keys[i] ≠ fw n keys[i]) :
    ∃ hk : cnt w n keys i < (mvs w n keys).length, (mvs w n keys)[cnt w n keys i] = keys[i] := by
  have e : mvs w n keys = (keys.take i).filter (moved w n) ++ keys[i] :: (keys.drop (i + 1)).filter (moved w n) := by
    unfold mvs
    conv => lhs; rw [← List.take_append_drop i keys]
    rw [List.filter_append, drop_one i h, List.filter_cons_of_pos (by simp [moved, hc])]
  refine ⟨by rw [e]; simp [cnt], ?_⟩
  simp only [e]
  rw [List.getElem_append_right (by simp [cnt])]
  simp [cnt]
theorem spread_good (w : Nat) (keys : List Int) (hk : Keys keys) (hl : keys.length ≤ 60) (h1 : 1 ≤ w) (hn : w ≤ 65536) : jump_Spread.f 90000 keys w = some (acc w keys keys.length, 0) := by
  rw [acc_all]
  obtain ⟨k, hkk⟩ : ∃ k, k + 1 = 90000 := ⟨89999, rfl⟩
  rw [← hkk]
  unfold jump_Spread.f
  rw [if_neg (by omega), show decide ((w : Int) > 65536) = false by simp; omega]
  simp only [jump_Spread.j0]
  rw [if_neg (by decide), if_pos (by omega), if_pos (by omega), show ((w : Int)).toNat = w by omega]
  exact spread_loop keys.length _ w 0 _ keys hk hl (by omega) (by omega) (by omega) (by simp) (by omega)
theorem spread_bad (was : Int) (keys : List Int) (h1 : ¬ (1 ≤ was ∧ was ≤ 65536)) : jump_Spread.f 90000 keys was = some ([], 1) := by
  obtain ⟨k, hkk⟩ : ∃ k, k + 1 = 90000 := ⟨89999, rfl⟩
  rw [← hkk]
  unfold jump_Spread.f
  by_cases h : was < 1
  · rw [if_pos h]; simp only [jump_Spread.j0]; rfl
  · rw [if_neg h, show decide (was > 65536) = true by simp; omega]; simp only [jump_Spread.j0]; rfl
theorem moves_good (w n : Nat) (keys : List Int) (hk : Keys keys) (hl : keys.length ≤ 60) (h1 : 1 ≤ w) (hw : w ≤ 2000) (h2 : 1 ≤ n) (hn : n ≤ 2000) : jump_Moves.f 90000 keys w n = some (mvs w n keys, 0) := by
  have := moves_loop keys.length 90000 w n 0 [] keys hk hl (by omega) (by omega) (by omega) (by omega) (by omega) (by simp) (by omega)
  simpa [jump_Moves.f, mvs] using this
theorem right_yes (n : Int) (h : 1 ≤ n ∧ n ≤ 65536) : coldframelaw40_right.f n = some true := by rw [right_is]; simp [h]
theorem right_no (n : Int) (h : ¬ (1 ≤ n ∧ n ≤ 65536)) : coldframelaw40_right.f n = some false := by rw [right_is]; simp [h]
end Go.Proofs.Ytgadbdhmdeiclaa.JS
