/- ReadAct: what the spec's and the program's functions answer. -/

import Derived.Test.YtcnbnmboaddocaaDoorFn
namespace Go.Proofs.YtcnbnmboaddocaaDoor
open Go Go.Ab
set_option maxRecDepth 100000
set_option linter.all false

/-! The spec's split. -/

def splitA (c : UInt8) (cur : List UInt8) : List UInt8 → List (List UInt8)
  | [] => [cur]
  | x :: r => if x == c then cur :: splitA c [] r else splitA c (cur ++ [x]) r

theorem splitA_eq (c : UInt8) : ∀ (l cur : List UInt8), splitA c cur l = match splitL c l with | [] => [] | h :: t => (cur ++ h) :: t
  | [], cur => by simp [splitA, splitL]
  | x :: r, cur => by
    rw [splitA, splitL]
    split
    · rw [splitA_eq c r []]
      cases h : splitL c r with
      | nil => exact absurd h (splitL_ne c r)
      | cons y ys => simp
    · rw [splitA_eq c r]
      cases h : splitL c r with
      | nil => exact absurd h (splitL_ne c r)
      | cons y ys => simp

theorem splitA_nil (c : UInt8) (l : List UInt8) : splitA c [] l = splitL c l := by
  rw [splitA_eq]
  cases h : splitL c l with
  | nil => exact absurd h (splitL_ne c l)
  | cons y ys => rfl

theorem drop_cons {s : List UInt8} {i : Nat} (h : i < s.length) : s.drop i = s.getD i 0 :: s.drop (i + 1) := by
  rw [List.drop_eq_getElem_cons h, List.getD_eq_getElem?_getD, List.getElem?_eq_getElem h]; rfl

theorem split_loop (c : UInt8) (s : List UInt8) (hs : s.length ≤ 1048576) : ∀ (n i : Nat) (acc : List (List UInt8)) (fr m : Nat), i + n = s.length → n < m → fr ≤ i → acc.length ≤ i →
    ∃ (acc' : List (List UInt8)) (fr' : Nat), spec_l01Split.l0 m (((), (acc, ())), ((), (s, ((c.toNat : Nat) : Int), (fr : Int), (i : Int), ()))) = some (((), (acc', ())), ((), (s, (fr' : Int), ()))) ∧
      fr' ≤ s.length ∧ acc'.length ≤ s.length ∧ acc' ++ [s.drop fr'] = acc ++ splitA c ((s.drop fr).take (i - fr)) (s.drop i) := by
  intro n
  induction n with
  | zero =>
    intro i acc fr m hi hm hfr hac
    obtain ⟨m, rfl⟩ : ∃ k, m = k + 1 := ⟨m - 1, by omega⟩
    obtain rfl : i = s.length := by omega
    refine ⟨acc, fr, ?_, hfr, hac, ?_⟩
    · simp [spec_l01Split.l0, spec_l01Split.l0.st]
    · rw [List.drop_length, splitA, List.take_of_length_le (by simp)]
  | succ n ih =>
    intro i acc fr m hi hm hfr hac
    obtain ⟨m, rfl⟩ : ∃ k, m = k + 1 := ⟨m - 1, by omega⟩
    have hw : IntKind.i64.wrap ((i : Int) + 1) = ((i + 1 : Nat) : Int) := by rw [wrap64 (by omega) (by omega)]; rfl
    have hlt : (i : Int) < (s.length : Int) := by omega
    have hlt' : i < s.length := by omega
    have hle : (i : Int) ≤ (s.length : Int) := by omega
    have h0 : (0 : Int) ≤ (i : Int) := by omega
    have hfr0 : (0 : Int) ≤ (fr : Int) := by omega
    have hfr2 : (fr : Int) ≤ (i : Int) := by omega
    have hmr : acc.length + 1 ≤ maxRow := by have : maxRow = 68719476736 := by decide
                                             omega
    have hd := drop_cons hlt'
    rw [hd, splitA]
    by_cases hx : s.getD i 0 = c
    · obtain ⟨acc', fr', h1, h2, h3, h4⟩ := ih (i + 1) (acc ++ [(s.drop fr).take (i - fr)]) (i + 1) m (by omega) (by omega) (Nat.le_refl _) (by simp; omega)
      refine ⟨acc', fr', ?_, h2, h3, ?_⟩
      · rw [spec_l01Split.l0, spec_l01Split.l0.st]
        simp only [hlt, hx, hw, hfr2, hfr0, h0, hle, decide_true, Bool.and_self, cond_true, beq_self_eq_true, Int.toNat_natCast, List.drop_zero, List.take_one, List.head?_cons, Option.toList_some, List.length_singleton, hmr, List.take_length, List.length_append, Bool.and_true, h1]
        rfl
      · rw [h4, if_pos (by simpa using hx)]
        simp
    · obtain ⟨acc', fr', h1, h2, h3, h4⟩ := ih (i + 1) acc fr m (by omega) (by omega) (by omega) (by omega)
      refine ⟨acc', fr', ?_, h2, h3, ?_⟩
      · rw [spec_l01Split.l0, spec_l01Split.l0.st]
        have hne : (((s.getD i 0).toNat : Int) == ((c.toNat : Nat) : Int)) = false := by
          rw [beq_eq_false_iff_ne]; intro e; exact hx (UInt8.toNat_inj.1 (by omega))
        simp only [hlt, hw, h0, hne, decide_true, Bool.and_self, cond_true, cond_false, Int.toNat_natCast, h1]
        rfl
      · rw [h4, if_neg (by simpa using hx)]
        congr 2
        rw [show i + 1 - fr = (i - fr) + 1 by omega, List.take_add_one, List.getElem?_drop, show fr + (i - fr) = i by omega, List.getElem?_eq_getElem hlt', List.getD_eq_getElem?_getD, List.getElem?_eq_getElem hlt']
        rfl

theorem spec_split (c : UInt8) (s : List UInt8) (h : s.length ≤ 1048576) : spec_l01Split () (s, ((c.toNat : Nat) : Int), ()) = some ((), splitL c s, ()) := by
  obtain ⟨acc, fr, h1, h2, h3, h4⟩ := split_loop c s h s.length 0 [] 0 fuel (by omega) (by unfold fuel; omega) (Nat.le_refl _) (Nat.le_refl _)
  have e0 : ((0 : Nat) : Int) = 0 := rfl
  simp only [List.drop_zero, List.nil_append, Nat.sub_self, List.take_zero, splitA_nil] at h4
  rw [e0] at h1
  unfold spec_l01Split
  have hfr0 : (0 : Int) ≤ (fr : Int) := by omega
  have hfr1 : (fr : Int) ≤ (s.length : Int) := by omega
  have hmr : acc.length + 1 ≤ maxRow := by have : maxRow = 68719476736 := by decide
                                           omega
  have htk : (List.drop fr s).take (s.length - fr) = s.drop fr := List.take_of_length_le (by simp)
  have hlen : acc.length + 1 = (splitL c s).length := by
    have := congrArg List.length h4
    simpa using this
  rw [hlen] at hmr
  simp only [List.length_nil, decide_true, Bool.and_self, cond_true, h1, Option.bind_some, hfr0, hfr1, Int.le_refl, Int.toNat_natCast, htk, List.drop_zero, List.take_one, List.head?_cons, Option.toList_some, List.length_singleton, hmr, List.take_length, h4, hlen]

/-! Numerals. -/

theorem num_loop (w : List UInt8) (hw : w.length ≤ 9) : ∀ (n i a m : Nat), i + n = w.length → n < m → a < 10 ^ i →
    spec_l01Number.l0 m (((), ()), ((), (w, (a : Int), (i : Int), ()))) = some (if (w.drop i).all isDig then .inr (((), ()), ((), (((dval a (w.drop i) : Nat) : Int), ()))) else .inl (((), ()), ((), ((0 : Int), false, ())))) := by
  intro n
  induction n with
  | zero =>
    intro i a m hi hm ha
    obtain ⟨m, rfl⟩ : ∃ k, m = k + 1 := ⟨m - 1, by omega⟩
    obtain rfl : i = w.length := by omega
    simp [spec_l01Number.l0, spec_l01Number.l0.st, dval]
  | succ n ih =>
    intro i a m hi hm ha
    obtain ⟨m, rfl⟩ : ∃ k, m = k + 1 := ⟨m - 1, by omega⟩
    have hp : 10 ^ i ≤ 10 ^ 9 := Nat.pow_le_pow_right (by decide) (by omega)
    have hp1 : 10 ^ (i + 1) = 10 ^ i * 10 := Nat.pow_succ ..
    have h9 : (10 : Nat) ^ 9 = 1000000000 := by decide
    have hwi : IntKind.i64.wrap ((i : Int) + 1) = ((i + 1 : Nat) : Int) := by rw [wrap64 (by omega) (by omega)]; rfl
    have hlt : (i : Int) < (w.length : Int) := by omega
    have hlt' : i < w.length := by omega
    have h0 : (0 : Int) ≤ (i : Int) := by omega
    rw [drop_cons hlt', List.all_cons, spec_l01Number.l0, spec_l01Number.l0.st]
    by_cases hd : isDig (w.getD i 0) = true
    · have hd' := hd
      simp only [isDig, Bool.and_eq_true, decide_eq_true_eq] at hd'
      have g1 : ¬ (((w.getD i 0).toNat : Int) < 48) := by omega
      have g2 : ¬ (((w.getD i 0).toNat : Int) > 57) := by omega
      have g3 : IntKind.u8.wrap (((w.getD i 0).toNat : Int) - 48) = (((w.getD i 0).toNat - 48 : Nat) : Int) := by rw [wrapU8 (by omega) (by omega)]; omega
      have g4 : IntKind.i64.wrap (IntKind.i64.wrap ((a : Int) * 10) + IntKind.i64.wrap (((w.getD i 0).toNat - 48 : Nat) : Int)) = ((a * 10 + ((w.getD i 0).toNat - 48) : Nat) : Int) := by
        rw [wrap64 (v := (a : Int) * 10) (by omega) (by omega), wrap64 (v := (((w.getD i 0).toNat - 48 : Nat) : Int)) (by omega) (by omega), wrap64 (by omega) (by omega)]; omega
      have := ih (i + 1) (a * 10 + ((w.getD i 0).toNat - 48)) m (by omega) (by omega) (by omega)
      simp only [hlt, h0, g1, g2, g3, g4, hwi, decide_true, decide_false, Bool.and_self, cond_true, cond_false, Int.toNat_natCast, this, hd, Bool.true_and]
      rw [dval_cons]; rfl
    · have hd' : isDig (w.getD i 0) = false := by simpa using hd
      simp only [hd', Bool.false_and, Bool.false_eq_true, if_false]
      simp only [isDig, Bool.and_eq_false_iff, decide_eq_false_iff_not] at hd'
      by_cases g1 : ((w.getD i 0).toNat : Int) < 48
      · simp only [hlt, h0, g1, decide_true, Bool.and_self, cond_true, Int.toNat_natCast]
      · have g2 : ((w.getD i 0).toNat : Int) > 57 := by omega
        simp only [hlt, h0, g1, g2, decide_true, decide_false, Bool.and_self, cond_true, cond_false, Int.toNat_natCast]

/-- The spec's number. -/
def numOf (w : List UInt8) : Nat × Bool := if isNum w && decide (w.length ≤ 9) then (dval 0 w, true) else (0, false)

theorem spec_number (w : List UInt8) : spec_l01Number () (w, ()) = some ((), ((numOf w).1 : Int), (numOf w).2, ()) := by
  unfold spec_l01Number numOf isNum
  by_cases h1 : w.length < 1
  · have : w = [] := List.length_eq_zero_iff.1 (by omega)
    subst this; simp
  · by_cases h9 : w.length > 9
    · have e1 : ¬ ((w.length : Int) < 1) := by omega
      have e2 : (w.length : Int) > 9 := by omega
      have e3 : ¬ w.length ≤ 9 := by omega
      simp [e1, e2, e3]
    · cases w with
      | nil => simp at h1
      | cons c r =>
        have e1 : ¬ (((c :: r).length : Int) < 1) := by omega
        have e2 : ¬ (((c :: r).length : Int) > 9) := by omega
        have e3 : (c :: r).length ≤ 9 := by omega
        have e4 : (0 : Int) < ((c :: r).length : Int) := by omega
        have hl := num_loop (c :: r) (by omega) (c :: r).length 0 0 fuel (by omega) (by unfold fuel; omega) (by decide)
        have e0 : ((0 : Nat) : Int) = 0 := rfl
        rw [e0, List.drop_zero] at hl
        have hg : (c :: r).getD 0 0 = c := rfl
        simp only [e1, e2, e3, e4, hl, hg, decide_true, decide_false, cond_true, cond_false, Option.bind_some, List.isEmpty_cons, Bool.not_false, Bool.true_and, Bool.and_true, List.head?_cons]
        by_cases hc : c = 48
        · subst hc
          by_cases hr : r = []
          · subst hr
            have : ((List.all [(48 : UInt8)] isDig)) = true := by decide
            rw [if_pos this]
            simp [this]
          · have : ((48 : UInt8) :: r).length ≠ 1 := by simp [hr]
            have g : (((48 : UInt8) :: r).length : Int) > 1 := by simp only [List.length_cons]; have := List.length_pos_iff.2 hr; omega
            have g48 : (((48 : UInt8).toNat : Int) == 48) = true := by decide
            have g1 : (((48 : UInt8) :: r).length == 1) = false := by simpa using hr
            simp only [g48, cond_true, g, decide_true, g1, bne_self_eq_false, Bool.or_self, Bool.and_false, Bool.false_eq_true, if_false]
            rfl
        · have g48 : (((c.toNat : Nat) : Int) == 48) = false := by
            rw [beq_eq_false_iff_ne]; intro e; exact hc (UInt8.toNat_inj.1 (Int.ofNat.inj e))
          have hne : (some c != some (48 : UInt8)) = true := by simpa using hc
          simp only [g48, cond_false, hne, Bool.or_true, Bool.and_true]
          split <;> rfl

/-! The index of a word. -/

def idxL : List (List UInt8) → List UInt8 → Nat → Int
  | [], _, _ => -1
  | x :: r, w, i => if w = x then (i : Int) else idxL r w (i + 1)

theorem index_loop (l : List (List UInt8)) (w : List UInt8) (hl : l.length ≤ 1048576) : ∀ (n i m : Nat), i + n = l.length → n < m →
    slices_Index_s_string_string.l0 m (((), ()), ((), (l, w, (l.length : Int), (i : Int), ()))) = some (if idxL (l.drop i) w i = -1 then .inr (((), ()), ((), ())) else .inl (((), ()), ((), (idxL (l.drop i) w i, ())))) := by
  intro n
  induction n with
  | zero =>
    intro i m hi hm
    obtain ⟨m, rfl⟩ : ∃ k, m = k + 1 := ⟨m - 1, by omega⟩
    obtain rfl : i = l.length := by omega
    simp [slices_Index_s_string_string.l0, slices_Index_s_string_string.l0.st, idxL]
  | succ n ih =>
    intro i m hi hm
    obtain ⟨m, rfl⟩ : ∃ k, m = k + 1 := ⟨m - 1, by omega⟩
    have hwi : IntKind.i64.wrap ((i : Int) + 1) = ((i + 1 : Nat) : Int) := by rw [wrap64 (by omega) (by omega)]; rfl
    have hlt : (i : Int) < (l.length : Int) := by omega
    have hlt' : i < l.length := by omega
    have h0 : (0 : Int) ≤ (i : Int) := by omega
    have hd : l.drop i = l.getD i [] :: l.drop (i + 1) := by
      rw [List.drop_eq_getElem_cons hlt', List.getD_eq_getElem?_getD, List.getElem?_eq_getElem hlt']; rfl
    rw [hd, idxL, slices_Index_s_string_string.l0, slices_Index_s_string_string.l0.st]
    by_cases hx : w = l.getD i []
    · have hb : (w == l.getD i []) = true := by rw [beq_iff_eq]; exact hx
      have hn : ¬ ((i : Int) = -1) := by omega
      rw [if_pos hx, if_neg hn]
      simp only [hlt, h0, hb, decide_true, Bool.and_self, cond_true, Int.toNat_natCast]
    · have hb : (w == l.getD i []) = false := by rw [beq_eq_false_iff_ne]; exact hx
      rw [if_neg hx]
      have := ih (i + 1) m (by omega) (by omega)
      simp only [hlt, h0, hb, hwi, decide_true, Bool.and_self, cond_true, cond_false, Int.toNat_natCast, this]
      rfl

theorem idx_eq (l : List (List UInt8)) (w : List UInt8) (hl : l.length ≤ 1048576) : slices_Index_s_string_string () (l, w, ()) = some ((), idxL l w 0, ()) := by
  have h := index_loop l w hl l.length 0 fuel (by omega) (by unfold fuel; omega)
  have e0 : ((0 : Nat) : Int) = 0 := rfl
  rw [e0, List.drop_zero] at h
  unfold slices_Index_s_string_string
  simp only [h, Option.bind_some]
  split
  · rename_i h1; rw [h1]; rfl
  · rfl

theorem idxL_get : ∀ (l : List (List UInt8)) (w : List UInt8) (i k : Nat), idxL l w i = (k : Int) → i ≤ k ∧ l[k - i]? = some w
  | [], w, i, k, h => by simp only [idxL] at h; omega
  | x :: r, w, i, k, h => by
    rw [idxL] at h
    split at h
    · rename_i he
      have : i = k := by omega
      subst this
      exact ⟨Nat.le_refl _, by simp [he]⟩
    · have := idxL_get r w (i + 1) k h
      refine ⟨by omega, ?_⟩
      rw [show k - i = (k - (i + 1)) + 1 by omega, List.getElem?_cons_succ]
      exact this.2

end Go.Proofs.YtcnbnmboaddocaaDoor
