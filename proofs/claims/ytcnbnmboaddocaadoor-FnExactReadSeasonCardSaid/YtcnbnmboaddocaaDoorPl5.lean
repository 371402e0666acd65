/- ReadSeason: the parts. -/
import Derived.Test.YtcnbnmboaddocaaDoorPl4
namespace Go.Proofs.YtcnbnmboaddocaaDoor
open Go Go.Ab
set_option maxRecDepth 100000
set_option linter.all false

abbrev SeaD := List Int × List Int × Int × Int × Int × Int × Int × Unit
def sea0 : SeaD := ([], [], 0, 0, 0, 0, 0, ())
def inB (v a b : Int) : Bool := decide (a ≤ v) && decide (v ≤ b)
def bnd (l : List Int) (m : Int) : Bool := l.all fun v => inB v 0 m
def seaOK (x : SeaD) : Bool := inB (x.1.length : Int) 1 24 && (((x.2.1.length : Int) == (x.1.length : Int)) && (bnd x.1 200 && (bnd x.2.1 1000 &&
  (inB x.2.2.1 0 20 && (inB x.2.2.2.1 1 40 && (inB x.2.2.2.2.1 0 60 && (inB x.2.2.2.2.2.1 0 x.2.2.2.2.1 && inB x.2.2.2.2.2.2.1 0 100)))))))

theorem getD_drop {α : Type} {l : List α} {i : Nat} (d : α) (h : i < l.length) : l.drop i = l.getD i d :: l.drop (i + 1) := by
  rw [List.drop_eq_getElem_cons h, List.getD_eq_getElem?_getD, List.getElem?_eq_getElem h]; rfl

theorem spec_bounded_loop (l : List Int) (mx : Int) (hl : l.length ≤ 1048577) : ∀ (n i m : Nat), i + n = l.length → n < m →
    spec_l07Bounded.l0 m (((), ()), ((), (l, mx, (i : Int), ()))) = some (if bnd (l.drop i) mx then .inr (((), ()), ((), ())) else .inl (((), ()), ((), (false, ())))) := by
  intro n
  induction n with
  | zero =>
    intro i m hi hm
    obtain ⟨m, rfl⟩ : ∃ k, m = k + 1 := ⟨m - 1, by omega⟩
    obtain rfl : i = l.length := by omega
    simp [spec_l07Bounded.l0, spec_l07Bounded.l0.st, bnd]
  | succ n ih =>
    intro i m hi hm
    obtain ⟨m, rfl⟩ : ∃ k, m = k + 1 := ⟨m - 1, by omega⟩
    have hwi : IntKind.i64.wrap ((i : Int) + 1) = ((i + 1 : Nat) : Int) := by rw [wrap64 (by omega) (by omega)]; rfl
    have hlt : (i : Int) < (l.length : Int) := by omega
    have hlt' : i < l.length := by omega
    have h0 : (0 : Int) ≤ (i : Int) := by omega
    have := ih (i + 1) m (by omega) (by omega)
    rw [getD_drop 0 hlt', bnd, List.all_cons, spec_l07Bounded.l0, spec_l07Bounded.l0.st]
    simp only [hlt, h0, hwi, decide_true, Bool.and_self, cond_true, Int.toNat_natCast, spec_in, Option.bind_some, this]
    unfold inB
    cases (decide (0 ≤ l.getD i 0) && decide (l.getD i 0 ≤ mx)) <;> rfl

theorem spec_bounded (l : List Int) (mx : Int) (hl : l.length ≤ 1048577) : spec_l07Bounded () (l, mx, ()) = some ((), bnd l mx, ()) := by
  have h := spec_bounded_loop l mx hl l.length 0 fuel (by omega) (by unfold fuel; omega)
  have e0 : ((0 : Nat) : Int) = 0 := rfl
  rw [e0, List.drop_zero] at h
  unfold spec_l07Bounded
  simp only [h, Option.bind_some]
  cases bnd l mx <;> rfl

theorem spec_ok (x : SeaD) (h1 : x.1.length ≤ 1048577) (h2 : x.2.1.length ≤ 1048577) : spec_l07Ok () (x, ()) = some ((), seaOK x, ()) := by
  unfold spec_l07Ok seaOK
  simp only [spec_in, Option.bind_some, spec_bounded _ _ h1, spec_bounded _ _ h2]
  unfold inB
  cases (decide (1 ≤ (x.1.length : Int)) && decide ((x.1.length : Int) ≤ 24)) <;> cases ((x.2.1.length : Int) == (x.1.length : Int)) <;> cases bnd x.1 200 <;> cases bnd x.2.1 1000 <;>
    cases (decide (0 ≤ x.2.2.1) && decide (x.2.2.1 ≤ 20)) <;> cases (decide (1 ≤ x.2.2.2.1) && decide (x.2.2.2.1 ≤ 40)) <;> cases (decide (0 ≤ x.2.2.2.2.1) && decide (x.2.2.2.2.1 ≤ 60)) <;>
    cases (decide (0 ≤ x.2.2.2.2.2.1) && decide (x.2.2.2.2.2.1 ≤ x.2.2.2.2.1)) <;> rfl

theorem impl_valid_loop (x : SeaD) (hl : x.1.length ≤ 1048577) (he : x.2.1.length = x.1.length) : ∀ (n i m : Nat), i + n = x.1.length → n < m →
    impl_ValidSeason.l0 m (((), ()), ((x, ()), ((x.1.length : Int), (i : Int), ()))) = some (if bnd (x.1.drop i) 200 && bnd (x.2.1.drop i) 1000 then .inr (((), ()), ((x, ()), ())) else .inl (((), ()), ((), (false, ())))) := by
  intro n
  induction n with
  | zero =>
    intro i m hi hm
    obtain ⟨m, rfl⟩ : ∃ k, m = k + 1 := ⟨m - 1, by omega⟩
    obtain rfl : i = x.1.length := by omega
    rw [← he, List.drop_length, he, List.drop_length]
    simp [impl_ValidSeason.l0, impl_ValidSeason.l0.st, bnd]
  | succ n ih =>
    intro i m hi hm
    obtain ⟨m, rfl⟩ : ∃ k, m = k + 1 := ⟨m - 1, by omega⟩
    have hwi : IntKind.i64.wrap ((i : Int) + 1) = ((i + 1 : Nat) : Int) := by rw [wrap64 (by omega) (by omega)]; rfl
    have hlt : (i : Int) < (x.1.length : Int) := by omega
    have hlt2 : (i : Int) < (x.2.1.length : Int) := by omega
    have h0 : (0 : Int) ≤ (i : Int) := by omega
    have := ih (i + 1) m (by omega) (by omega)
    rw [getD_drop 0 (show i < x.1.length by omega), getD_drop 0 (show i < x.2.1.length by omega), bnd, bnd, List.all_cons, List.all_cons, impl_ValidSeason.l0, impl_ValidSeason.l0.st]
    simp only [hlt, hlt2, h0, hwi, decide_true, Bool.and_self, cond_true, Int.toNat_natCast, this]
    unfold inB
    by_cases a1 : x.1.getD i 0 < 0
    · have b1 : ¬ (0 ≤ x.1.getD i 0) := by omega
      simp only [a1, b1, decide_true, decide_false, cond_true, Bool.false_and, Bool.false_eq_true, if_false]
    · have b1 : 0 ≤ x.1.getD i 0 := by omega
      by_cases a2 : x.1.getD i 0 > 200
      · have b2 : ¬ (x.1.getD i 0 ≤ 200) := by omega
        simp only [a1, b1, a2, b2, decide_true, decide_false, cond_true, cond_false, Bool.false_and, Bool.and_false, Bool.false_eq_true, if_false]
      · have b2 : x.1.getD i 0 ≤ 200 := by omega
        by_cases a3 : x.2.1.getD i 0 < 0
        · have b3 : ¬ (0 ≤ x.2.1.getD i 0) := by omega
          simp only [a1, b1, a2, b2, a3, b3, decide_true, decide_false, cond_true, cond_false, Bool.false_and, Bool.and_false, Bool.false_eq_true, if_false]
        · have b3 : 0 ≤ x.2.1.getD i 0 := by omega
          by_cases a4 : x.2.1.getD i 0 > 1000
          · have b4 : ¬ (x.2.1.getD i 0 ≤ 1000) := by omega
            simp only [a1, b1, a2, b2, a3, b3, a4, b4, decide_true, decide_false, cond_true, cond_false, Bool.false_and, Bool.and_false, Bool.false_eq_true, if_false]
          · have b4 : x.2.1.getD i 0 ≤ 1000 := by omega
            simp only [a1, b1, a2, b2, a3, b3, a4, b4, decide_true, decide_false, cond_true, cond_false, Bool.true_and, Bool.and_self]
            rfl

theorem impl_valid (x : SeaD) (hl : x.1.length ≤ 1048577) : impl_ValidSeason () (x, ()) = some ((), seaOK x, ()) := by
  unfold impl_ValidSeason seaOK
  by_cases a1 : (x.1.length : Int) < 1
  · have b1 : inB (x.1.length : Int) 1 24 = false := by unfold inB; simp; omega
    simp only [a1, b1, decide_true, cond_true, Bool.false_and]
  · by_cases a2 : (x.1.length : Int) > 24
    · have b2 : inB (x.1.length : Int) 1 24 = false := by unfold inB; simp; omega
      simp only [a1, a2, b2, decide_true, decide_false, cond_true, cond_false, Bool.false_and]
    · have b2 : inB (x.1.length : Int) 1 24 = true := by unfold inB; simp; omega
      by_cases a3 : x.2.1.length = x.1.length
      · have b3 : ((x.2.1.length : Int) != (x.1.length : Int)) = false := by rw [a3]; simp
        have b4 : ((x.2.1.length : Int) == (x.1.length : Int)) = true := by rw [a3]; simp
        have h := impl_valid_loop x hl a3 x.1.length 0 fuel (by omega) (by unfold fuel; omega)
        have e0 : ((0 : Nat) : Int) = 0 := rfl
        rw [e0, List.drop_zero, List.drop_zero] at h
        simp only [a1, a2, b2, b3, b4, decide_false, cond_false, h, Option.bind_some, Bool.true_and, ge_iff_le]
        unfold inB
        cases bnd x.1 200
        · rfl
        · cases bnd x.2.1 1000
          · rfl
          · simp only [Bool.and_self, if_true, Sum.elim_inr, Bool.true_and]
            cases decide (0 ≤ x.2.2.1) <;> cases decide (x.2.2.1 ≤ 20) <;> cases decide (1 ≤ x.2.2.2.1) <;> cases decide (x.2.2.2.1 ≤ 40) <;> cases decide (0 ≤ x.2.2.2.2.1) <;> cases decide (x.2.2.2.2.1 ≤ 60) <;>
              cases decide (0 ≤ x.2.2.2.2.2.1) <;> cases decide (x.2.2.2.2.2.1 ≤ x.2.2.2.2.1) <;> cases decide (0 ≤ x.2.2.2.2.2.2.1) <;> rfl
      · have b3 : ((x.2.1.length : Int) != (x.1.length : Int)) = true := by rw [bne_iff_ne]; omega
        have b4 : ((x.2.1.length : Int) == (x.1.length : Int)) = false := by rw [beq_eq_false_iff_ne]; omega
        simp only [a1, a2, b2, b3, b4, decide_false, cond_false, cond_true, Bool.true_and, Bool.false_and]

/-! Numbers of words. -/

theorem numbers_loop (ws : List (List UInt8)) (hl : ws.length ≤ 1048577) : ∀ (n i m : Nat) (acc : List Int), i + n = ws.length → n < m → acc.length ≤ i →
    ∃ acc' : List Int, spec_l07Numbers.l0 m (((), (acc, ())), ((), (ws, (i : Int), ()))) = some (if (ws.drop i).all (fun w => (numOf w).2) then .inr (((), (acc', ())), ((), ())) else .inl (((), (acc', ())), ((), (false, ())))) ∧
      ((ws.drop i).all (fun w => (numOf w).2) = true → acc' = acc ++ (ws.drop i).map fun w => ((numOf w).1 : Int)) := by
  intro n
  induction n with
  | zero =>
    intro i m acc hi hm ha
    obtain ⟨m, rfl⟩ : ∃ k, m = k + 1 := ⟨m - 1, by omega⟩
    obtain rfl : i = ws.length := by omega
    refine ⟨acc, ?_, fun _ => by simp⟩
    simp [spec_l07Numbers.l0, spec_l07Numbers.l0.st]
  | succ n ih =>
    intro i m acc hi hm ha
    obtain ⟨m, rfl⟩ : ∃ k, m = k + 1 := ⟨m - 1, by omega⟩
    have hwi : IntKind.i64.wrap ((i : Int) + 1) = ((i + 1 : Nat) : Int) := by rw [wrap64 (by omega) (by omega)]; rfl
    have hlt : (i : Int) < (ws.length : Int) := by omega
    have hlt' : i < ws.length := by omega
    have h0 : (0 : Int) ≤ (i : Int) := by omega
    have hmr : acc.length + 1 ≤ maxRow := by have h : maxRow = 68719476736 := by decide
                                             omega
    rw [getD_drop [] hlt', List.all_cons, List.map_cons, spec_l07Numbers.l0, spec_l07Numbers.l0.st]
    cases hd : (numOf (ws.getD i [])).2 with
    | false =>
      refine ⟨acc, ?_, fun h => by simp at h⟩
      simp only [hlt, h0, hd, decide_true, Bool.and_self, cond_true, Int.toNat_natCast, spec_number, Option.bind_some, Bool.not_false, Bool.false_and, Bool.false_eq_true, if_false]
    | true =>
      obtain ⟨acc', h1, h2⟩ := ih (i + 1) m (acc ++ [((numOf (ws.getD i [])).1 : Int)]) (by omega) (by omega) (by simp; omega)
      refine ⟨acc', ?_, fun h => ?_⟩
      · simp only [hlt, h0, hd, hwi, decide_true, Bool.and_self, cond_true, cond_false, Int.toNat_natCast, spec_number, Option.bind_some, Bool.not_true, Bool.true_and, List.drop_zero, List.take_one, List.head?_cons, Option.toList_some, List.length_singleton, hmr, List.take_length, List.length_append, Bool.and_true, h1]
      · rw [h2 (by simpa using h)]; simp

theorem spec_numbers (ws : List (List UInt8)) (hl : ws.length ≤ 1048577) : ∃ acc : List Int, spec_l07Numbers () (ws, ()) = some ((), acc, ws.all (fun w => (numOf w).2), ()) ∧ (ws.all (fun w => (numOf w).2) = true → acc = ws.map fun w => ((numOf w).1 : Int)) := by
  obtain ⟨acc, h1, h2⟩ := numbers_loop ws hl ws.length 0 fuel [] (by omega) (by unfold fuel; omega) (by simp)
  have e0 : ((0 : Nat) : Int) = 0 := rfl
  rw [e0, List.drop_zero] at h1
  rw [List.drop_zero, List.nil_append] at h2
  refine ⟨acc, ?_, h2⟩
  unfold spec_l07Numbers
  simp only [List.length_nil, decide_true, Bool.and_self, cond_true, h1, Option.bind_some]
  cases ws.all (fun w => (numOf w).2) <;> simp

end Go.Proofs.YtcnbnmboaddocaaDoor
