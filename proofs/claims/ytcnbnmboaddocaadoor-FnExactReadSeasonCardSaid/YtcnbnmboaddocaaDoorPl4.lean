/- ReadAct: the law answers true at every text. -/
import Derived.Test.YtcnbnmboaddocaaDoorPl3
namespace Go.Proofs.YtcnbnmboaddocaaDoor
open Go Go.Ab
set_option maxRecDepth 100000
set_option linter.all false

abbrev ActD := Int × Int × Int × Unit
def act0 : ActD := (0, 0, 0, ())

/-- What the spec's round answers at the kind that fits. -/
def actAt (k : Int) (ws : List (List UInt8)) : ActD × Bool :=
  if two k then if ws.length = 3 then ((k, ((numOf (ws.getD 1 [])).1 : Int), ((numOf (ws.getD 2 [])).1 : Int), ()),
      (numOf (ws.getD 1 [])).2 && ((numOf (ws.getD 2 [])).2 && actOK k (numOf (ws.getD 1 [])).1 (numOf (ws.getD 2 [])).1)) else (act0, false)
  else if ws.length = 2 then ((k, ((numOf (ws.getD 1 [])).1 : Int), 0, ()), (numOf (ws.getD 1 [])).2 && actOK k (numOf (ws.getD 1 [])).1 0) else (act0, false)

theorem act_loop (ws : List (List UInt8)) (hne : 0 < ws.length) : ∀ (n k m : Nat), k + n = 10 → n < m →
    spec_l06ReadAct.l0 m (((), ()), ((act0, ()), (ws, words, (k : Int), ()))) =
      some (if idxL (words.drop k) (ws.getD 0 []) k = -1 then .inr (((), ()), ((act0, ()), ())) else .inl (((), ()), (((actAt (idxL (words.drop k) (ws.getD 0 []) k) ws).1, ()), ((actAt (idxL (words.drop k) (ws.getD 0 []) k) ws).2, ())))) := by
  intro n
  induction n with
  | zero =>
    intro k m hk hm
    obtain ⟨m, rfl⟩ : ∃ k, m = k + 1 := ⟨m - 1, by omega⟩
    obtain rfl : k = 10 := by omega
    rfl
  | succ n ih =>
    intro k m hk hm
    obtain ⟨m, rfl⟩ : ∃ k, m = k + 1 := ⟨m - 1, by omega⟩
    have hwi : IntKind.i64.wrap ((k : Int) + 1) = ((k + 1 : Nat) : Int) := by rw [wrap64 (by omega) (by omega)]; rfl
    have hwl : words.length = 10 := rfl
    have h9 : (k : Int) ≤ 9 := by omega
    have hw0 : (0 : Int) < (ws.length : Int) := by omega
    have hlt : (k : Int) < ((words.length : Nat) : Int) := by omega
    have h0 : (0 : Int) ≤ (k : Int) := by omega
    have hd : words.drop k = words.getD k [] :: words.drop (k + 1) := by
      have h : k < words.length := by omega
      rw [List.drop_eq_getElem_cons h, List.getD_eq_getElem?_getD, List.getElem?_eq_getElem h]; rfl
    rw [hd, idxL, spec_l06ReadAct.l0, spec_l06ReadAct.l0.st]
    by_cases hx : ws.getD 0 [] = words.getD k []
    · have hb : (ws.getD 0 [] != words.getD k []) = false := by rw [hx]; simp
      have hn : ¬ ((k : Int) = -1) := by omega
      rw [if_pos hx, if_neg hn]
      simp only [h9, hw0, hlt, h0, hb, decide_true, Bool.and_self, cond_true, cond_false, Int.toNat_natCast, spec_two, Option.bind_some]
      unfold actAt
      cases ht : two k with
      | true =>
        simp only [cond_true, if_true]
        by_cases h3 : ws.length = 3
        · have g3 : ((ws.length : Int) != 3) = false := by rw [h3]; rfl
          have g1 : (1 : Int) < (ws.length : Int) := by omega
          have g2 : (2 : Int) < (ws.length : Int) := by omega
          simp only [g3, g1, g2, cond_false, cond_true, decide_true, spec_number, Option.bind_some, spec_act, h3, if_true]
          cases (numOf (ws.getD 1 [])).2 <;> cases (numOf (ws.getD 2 [])).2 <;> rfl
        · have g3 : ((ws.length : Int) != 3) = true := by rw [bne_iff_ne]; omega
          simp only [g3, cond_true, h3, if_false]
          rfl
      | false =>
        simp only [cond_false, Bool.false_eq_true, if_false]
        by_cases h2 : ws.length = 2
        · have g3 : ((ws.length : Int) != 2) = false := by rw [h2]; rfl
          have g1 : (1 : Int) < (ws.length : Int) := by omega
          simp only [g3, g1, cond_false, cond_true, decide_true, spec_number, Option.bind_some, spec_act, h2, if_true]
          cases (numOf (ws.getD 1 [])).2 <;> rfl
        · have g3 : ((ws.length : Int) != 2) = true := by rw [bne_iff_ne]; omega
          simp only [g3, cond_true, h2, if_false]
          rfl
    · have hb : (ws.getD 0 [] != words.getD k []) = true := by rw [bne_iff_ne]; exact hx
      rw [if_neg hx]
      have := ih (k + 1) m (by omega) (by omega)
      simp only [h9, hw0, hlt, h0, hb, hwi, decide_true, Bool.and_self, cond_true, Int.toNat_natCast, this]
      rfl

/-- What the spec answers. -/
def specAct (ws : List (List UInt8)) : ActD × Int :=
  if idxL (words.drop 1) (ws.getD 0 []) 1 = -1 then (act0, 5)
  else if (actAt (idxL (words.drop 1) (ws.getD 0 []) 1) ws).2 then ((actAt (idxL (words.drop 1) (ws.getD 0 []) 1) ws).1, 0) else (act0, 5)

theorem spec_eq {s : List UInt8} (h : s.length ≤ 1048576) : spec_ReadAct () (s, ()) = some ((), (specAct (splitL 32 s)).1, (specAct (splitL 32 s)).2, ()) := by
  have hne : 0 < (splitL 32 s).length := List.length_pos_iff.2 (splitL_ne 32 s)
  have hl := act_loop (splitL 32 s) hne 9 1 fuel (by omega) (by unfold fuel; omega)
  have e1 : ((1 : Nat) : Int) = 1 := rfl
  rw [e1] at hl
  have hsp := spec_split 32 s h
  have e32 : (((32 : UInt8).toNat : Nat) : Int) = 32 := rfl
  rw [e32] at hsp
  unfold spec_ReadAct spec_l06ReadAct specAct
  unfold act0 at hl ⊢
  simp only [hsp, spec_words, Option.bind_some, hl]
  split
  · rfl
  · simp only [Sum.elim_inl, Option.bind_some]
    cases (actAt (idxL (words.drop 1) ((splitL 32 s).getD 0 []) 1) (splitL 32 s)).2 <;> rfl

theorem numOf_itoa {a : Int} (h0 : 0 ≤ a) (h1 : a ≤ 999) : numOf (Lib.itoa a) = (a.toNat, true) := by
  rw [itoa_dec h0]
  unfold numOf
  have hl : (Lib.decDigits a.toNat).length ≤ 9 := by
    rw [Lib.decDigits_length]
    have h3 : a.toNat < 1000 := by omega
    rw [Lib.nDigits]
    split
    · decide
    · rw [Lib.nDigits]
      split
      · decide
      · rw [Lib.nDigits]
        split
        · decide
        · rename_i h; omega
  rw [if_pos (by rw [isNum_decDigits]; simpa using hl), dval_decDigits]

theorem numOf_true {w : List UInt8} (h : (numOf w).2 = true) : w = Lib.itoa ((numOf w).1 : Int) := by
  unfold numOf at h ⊢
  split at h
  · rename_i hc
    rw [if_pos hc]
    simp only [Bool.and_eq_true] at hc
    rw [itoa_nat, decDigits_dval _ w rfl hc.1]
  · cases h

/-- The spec answers an act where the text is a valid act's, and at no other text. -/
theorem spec_good {s : List UInt8} {k a b : Int} (h : Good s k a b) : specAct (splitL 32 s) = ((k, a, b, ()), 0) := by
  obtain ⟨h1, h2, h3, h4, h5, h6, h7⟩ := actOK_bounds h.1
  rw [good_words h]
  unfold specAct
  have hg : (words.getD k.toNat [] :: actNums k a b).getD 0 [] = words.getD k.toNat [] := rfl
  rw [hg, (idx_word h1 h2).2, if_neg (by omega)]
  have hk := h.1
  unfold actAt actNums
  cases ht : two k with
  | true =>
    simp only [if_true, List.length_cons, List.length_nil]
    simp only [List.getD_cons_succ, List.getD_cons_zero, numOf_itoa h3 h4, numOf_itoa h5 h6, Int.toNat_of_nonneg h3, Int.toNat_of_nonneg h5, hk, Bool.true_and, if_true]
  | false =>
    obtain rfl : b = 0 := by rcases h7 with h7 | h7
                             · exact h7
                             · rw [ht] at h7; cases h7
    simp only [Bool.false_eq_true, if_false, List.length_cons, List.length_nil]
    simp only [List.getD_cons_succ, List.getD_cons_zero, numOf_itoa h3 h4, Int.toNat_of_nonneg h3, hk, Bool.true_and, if_true]

theorem spec_bad {s : List UInt8} (h : ∀ k a b, ¬ Good s k a b) : specAct (splitL 32 s) = (act0, 5) := by
  unfold specAct
  split
  · rfl
  · rename_i hn
    split
    · rename_i hok
      exfalso
      obtain ⟨k, hk⟩ : ∃ k : Nat, idxL (words.drop 1) ((splitL 32 s).getD 0 []) 1 = (k : Int) := by
        have : ∀ (l : List (List UInt8)) (w : List UInt8) (i : Nat), idxL l w i = -1 ∨ ∃ k : Nat, idxL l w i = k := by
          intro l
          induction l with
          | nil => intro w i; exact .inl rfl
          | cons x r ih => intro w i; rw [idxL]; split
                           · exact .inr ⟨i, rfl⟩
                           · exact ih w (i + 1)
        rcases this (words.drop 1) ((splitL 32 s).getD 0 []) 1 with h | h
        · exact absurd h hn
        · exact h
      rw [hk] at hok
      obtain ⟨hk1, hkw⟩ := idxL_get _ _ _ _ hk
      rw [List.getElem?_drop, show 1 + (k - 1) = k by omega] at hkw
      have hw0 : words.getD k [] = (splitL 32 s).getD 0 [] := by rw [List.getD_eq_getElem?_getD, hkw]; rfl
      have hj := joinL_splitL 32 s
      unfold actAt at hok
      cases hs : splitL 32 s with
      | nil => exact splitL_ne 32 s hs
      | cons w0 r =>
        rw [hs] at hok hw0 hj
        simp only [List.getD_cons_zero] at hw0
        subst hw0
        split at hok
        · rename_i ht
          split at hok
          · rename_i hl
            match r, hl with
            | [w1, w2], _ =>
              simp only [List.getD_cons_succ, List.getD_cons_zero, Bool.and_eq_true] at hok
              obtain ⟨o1, o2, o3⟩ := hok
              refine h k _ _ ⟨o3, ?_⟩
              unfold actText actNums
              rw [if_pos ht, ← numOf_true o1, ← numOf_true o2, Int.toNat_natCast, ← hj]
              simp [joinL]
          · cases hok
        · rename_i ht
          split at hok
          · rename_i hl
            match r, hl with
            | [w1], _ =>
              simp only [List.getD_cons_succ, List.getD_cons_zero, Bool.and_eq_true] at hok
              obtain ⟨o1, o3⟩ := hok
              refine h k _ _ ⟨o3, ?_⟩
              unfold actText actNums
              rw [if_neg ht, ← numOf_true o1, Int.toNat_natCast, ← hj]
              simp [joinL]
          · cases hok
    · rfl

instance (s : List UInt8) (k a b : Int) : Decidable (Good s k a b) := inferInstanceAs (Decidable (_ ∧ _))

theorem impl_tail {s : List UInt8} (k a b : Int) {r : List (List UInt8)} {bd : Bool}
    {F : Option (Unit × (ActD × Int × Unit))}
    (hF : F = (impl_words_done (r, bd, ()) ()).bind fun r8 => bif (!r8.2.1) then some ((), (act0, 5, ())) else
      (impl_ValidAct () ((k, a, b, ()), ())).bind fun r9 => bif (!r9.2.1) then some ((), (act0, 5, ())) else
        (impl_ActText () ((k, a, b, ()), ())).bind fun r10 => bif (r10.2.1 != s) then some ((), (act0, 5, ())) else some ((), ((k, a, b, ()), 0, ()))) :
    F = if (!bd && r.isEmpty) = true ∧ Good s k a b then some ((), ((k, a, b, ()), 0, ())) else some ((), (act0, 5, ())) := by
  rw [hF, impl_done]
  simp only [Option.bind_some]
  cases hb : (!bd && r.isEmpty) with
  | false => rfl
  | true =>
    simp only [Bool.not_true, cond_false, impl_act, Option.bind_some, true_and]
    cases ha : actOK k a b with
    | false => rw [if_neg (fun h => by rw [h.1] at ha; cases ha)]; rfl
    | true =>
      simp only [Bool.not_true, cond_false, impl_text ha, Option.bind_some]
      by_cases he : s = actText k a b
      · rw [if_pos ⟨ha, he⟩, he]; simp
      · rw [if_neg (fun h => he h.2)]
        have : (actText k a b != s) = true := by rw [bne_iff_ne]; exact fun e => he e.symm
        rw [this]; rfl

theorem impl_eq {s : List UInt8} (h : s.length ≤ 1048576) : ∃ k a b r bd, impl_ReadAct () (s, ()) = (if (!bd && List.isEmpty r) = true ∧ Good s k a b then some ((), ((k, a, b, ()), 0, ())) else some ((), (act0, 5, ()))) ∧
    ∀ k' a' b', Good s k' a' b' → k' = k ∧ a' = a ∧ b' = b ∧ (!bd && List.isEmpty (α := List UInt8) r) = true := by
  have hlen : ∀ w ∈ splitL 32 s, w.length ≤ 140737488355328 := fun w hw => by have := splitL_len hw; omega
  have hgw := fun k' a' b' (hg : Good s k' a' b') => good_words hg
  cases hs : splitL 32 s with
  | nil => exact absurd hs (splitL_ne 32 s)
  | cons w0 ws =>
    rw [hs] at hlen hgw
    have hidx := idx_eq words w0 (by decide)
    have hpar : ∀ k' a' b', Good s k' a' b' → idxL words w0 0 = k' := fun k' a' b' hg => by
      have h1 := hgw k' a' b' hg
      have hb := actOK_bounds hg.1
      rw [(List.cons.inj h1).1]
      exact (idx_word hb.1 hb.2.1).1
    have hint : ∀ (l : List (List UInt8)) (b : Bool), (∀ w ∈ l, w.length ≤ 140737488355328) → ∃ l' b' v, impl_words_integer (l, b, ()) () = some ((l', b', ()), v, ()) ∧ (∀ w r, l = w :: r → l' = r ∧ b' = (b || (parseI w).2) ∧ v = (parseI w).1) ∧ ∀ w ∈ l', w.length ≤ 140737488355328 := by
      intro l b hl
      cases l with
      | nil => exact ⟨_, _, _, impl_int_nil b, (fun w r e => by cases e), (fun w hw => by cases hw)⟩
      | cons w r => exact ⟨_, _, _, impl_int_cons r b (hl w (by simp)), (fun w' r' e => by cases e; exact ⟨rfl, rfl, rfl⟩), (fun x hx => hl x (by simp [hx]))⟩
    obtain ⟨l1, b1, v1, i1, j1, k1⟩ := hint ws false (fun w hw => hlen w (by simp [hw]))
    unfold impl_ReadAct
    simp only [impl_split_eq h, hs, impl_words, Option.bind_some, impl_next_cons, hidx, i1, impl_two]
    cases ht : two (idxL words w0 0) with
    | true =>
      obtain ⟨l2, b2, v2, i2, j2, k2⟩ := hint l1 b1 k1
      simp only [cond_true, i2, Option.bind_some]
      refine ⟨idxL words w0 0, v1, v2, l2, b2, impl_tail (s := s) _ _ _ rfl, fun k' a' b' hg => ?_⟩
      have hk := hpar k' a' b' hg
      have hb := actOK_bounds hg.1
      have h1 := (List.cons.inj (hgw k' a' b' hg)).2
      rw [hk] at ht
      unfold actNums at h1
      rw [if_pos ht] at h1
      obtain ⟨rfl, rfl, rfl⟩ := j1 _ _ h1
      obtain ⟨rfl, rfl, rfl⟩ := j2 _ _ rfl
      rw [parse_itoa hb.2.2.1 hb.2.2.2.1, parse_itoa hb.2.2.2.2.1 hb.2.2.2.2.2.1]
      exact ⟨hk.symm, rfl, rfl, rfl⟩
    | false =>
      simp only [cond_false]
      refine ⟨idxL words w0 0, v1, 0, l1, b1, impl_tail (s := s) _ _ _ rfl, fun k' a' b' hg => ?_⟩
      have hk := hpar k' a' b' hg
      have hb := actOK_bounds hg.1
      have h1 := (List.cons.inj (hgw k' a' b' hg)).2
      rw [hk] at ht
      unfold actNums at h1
      rw [ht] at h1
      simp only [Bool.false_eq_true, if_false] at h1
      obtain ⟨rfl, rfl, rfl⟩ := j1 _ _ h1
      rw [parse_itoa hb.2.2.1 hb.2.2.2.1]
      refine ⟨hk.symm, rfl, ?_, rfl⟩
      rcases hb.2.2.2.2.2.2 with h0 | h0
      · exact h0
      · rw [ht] at h0; cases h0

theorem law_ReadAct (s : List UInt8) : laws_FnExactReadAct () (s, ()) = some ((), true, ()) := by
  unfold laws_FnExactReadAct
  by_cases hl : (s.length : Int) > 1048576
  · simp only [hl, decide_true, cond_true]
  · have h : s.length ≤ 1048576 := by omega
    simp only [hl, decide_false, cond_false, spec_eq h, Option.bind_some]
    obtain ⟨k, a, b, r, bd, e, hu⟩ := impl_eq h
    by_cases hg : ∃ k a b, Good s k a b
    · obtain ⟨k', a', b', hg⟩ := hg
      obtain ⟨rfl, rfl, rfl, hd⟩ := hu _ _ _ hg
      rw [if_pos ⟨hd, hg⟩] at e
      rw [e, spec_good hg]
      simp [laws_eqAct]
    · have hn : ∀ k a b, ¬ Good s k a b := fun k a b h => hg ⟨k, a, b, h⟩
      rw [if_neg (fun hh => hn _ _ _ hh.2)] at e
      rw [e, spec_bad hn]
      simp [laws_eqAct, act0]

end Go.Proofs.YtcnbnmboaddocaaDoor
