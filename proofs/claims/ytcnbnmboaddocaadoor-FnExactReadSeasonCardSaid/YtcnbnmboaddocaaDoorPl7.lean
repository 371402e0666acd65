/- ReadSeason: what the spec answers. -/
import Derived.Test.YtcnbnmboaddocaaDoorPl6
namespace Go.Proofs.YtcnbnmboaddocaaDoor
open Go Go.Ab
set_option maxRecDepth 100000
set_option linter.all false

theorem nDigits_le : ∀ (k u : Nat), 1 ≤ k → u < 10 ^ k → Lib.nDigits u ≤ k := by
  intro k
  induction k with
  | zero => intro u h; omega
  | succ k ih =>
    intro u _ hu
    by_cases h : u < 10
    · rw [Lib.nDigits_small h]; omega
    · rw [Lib.nDigits_big h]
      have hp : 10 ^ (k + 1) = 10 ^ k * 10 := Nat.pow_succ ..
      have hk : 1 ≤ k := by
        rcases Nat.eq_zero_or_pos k with rfl | hk
        · simp at hu; omega
        · exact hk
      have := ih (u / 10) hk (by omega)
      omega

theorem numOf_itoaG {a : Int} (h0 : 0 ≤ a) (h1 : a ≤ 999999999) : numOf (Lib.itoa a) = (a.toNat, true) := by
  rw [itoa_dec h0]
  unfold numOf
  have hl : (Lib.decDigits a.toNat).length ≤ 9 := by
    rw [Lib.decDigits_length]
    have e : (10 : Nat) ^ 9 = 1000000000 := by decide
    exact nDigits_le 9 _ (by decide) (by omega)
  rw [if_pos (by rw [isNum_decDigits]; simpa using hl), dval_decDigits]

theorem rowOf_line {a b : Int} (ha : 0 ≤ a ∧ a ≤ 1000) (hb : 0 ≤ b ∧ b ≤ 1000) : rowOf (lineOf [a, b]) = some (a, b) := by
  unfold rowOf
  rw [split_line (by simp) (fun v hv => by
    simp only [List.mem_cons, List.not_mem_nil, or_false] at hv
    rcases hv with rfl | rfl <;> omega)]
  simp only [List.map, numOf_itoaG ha.1 (by omega), numOf_itoaG hb.1 (by omega), Bool.and_self, if_true, Int.toNat_of_nonneg ha.1, Int.toNat_of_nonneg hb.1]

theorem rowOf_some {w : List UInt8} {a b : Int} (h : rowOf w = some (a, b)) : w = lineOf [a, b] := by
  unfold rowOf at h
  split at h
  · rename_i u v huv
    split at h
    · rename_i hok
      simp only [Bool.and_eq_true] at hok
      simp only [Option.some.injEq, Prod.mk.injEq] at h
      obtain ⟨rfl, rfl⟩ := h
      have hj := joinL_splitL 32 w
      rw [huv] at hj
      unfold lineOf
      simp only [List.map, ← numOf_true hok.1, ← numOf_true hok.2]
      exact hj.symm
    · cases h
  · cases h

theorem specRows_rows : ∀ (ns ps n p : List Int), ns.length = ps.length → (∀ v ∈ ns, 0 ≤ v ∧ v ≤ 1000) → (∀ v ∈ ps, 0 ≤ v ∧ v ≤ 1000) → specRows (rowsT ns ps ++ [[]]) n p = some (n ++ ns, p ++ ps)
  | [], [], n, p, _, _, _ => by simp [rowsT, specRows]
  | a :: ns, b :: ps, n, p, hl, h1, h2 => by
    have ih := specRows_rows ns ps (n ++ [a]) (p ++ [b]) (by simpa using hl) (fun v hv => h1 v (by simp [hv])) (fun v hv => h2 v (by simp [hv]))
    have hr := rowOf_line (h1 a (by simp)) (h2 b (by simp))
    rw [rowsT]
    cases hs : rowsT ns ps ++ [[]] with
    | nil => simp at hs
    | cons v r =>
      rw [hs] at ih
      show specRows (lineOf [a, b] :: (rowsT ns ps ++ [[]])) n p = _
      rw [hs, specRows, hr]
      show specRows (v :: r) (n ++ [a]) (p ++ [b]) = _
      rw [ih]
      simp
  | [], _ :: _, _, _, hl, _, _ => by simp at hl
  | _ :: _, [], _, _, hl, _, _ => by simp at hl

theorem specRows_inv : ∀ (l : List (List UInt8)) (n p : List Int) (np : List Int × List Int), specRows l n p = some np → l ≠ [] →
    ∃ ns ps last, l = rowsT ns ps ++ [last] ∧ np = (n ++ ns, p ++ ps) ∧ ns.length = ps.length ∧ ns.length < l.length
  | [], _, _, _, _, h => absurd rfl h
  | [w], n, p, np, h, _ => by
    simp only [specRows, Option.some.injEq] at h
    exact ⟨[], [], w, rfl, by simp [← h], rfl, by simp⟩
  | w :: v :: r, n, p, np, h, _ => by
    rw [specRows] at h
    split at h
    · rename_i ab hr
      obtain ⟨ns, ps, last, e1, e2, e3, e4⟩ := specRows_inv (v :: r) _ _ np h (by simp)
      refine ⟨ab.1 :: ns, ab.2 :: ps, last, ?_, by rw [e2]; simp, by simp [e3], by simp only [List.length_cons] at e4 ⊢; omega⟩
      rw [rowsT, e1]
      have := rowOf_some (a := ab.1) (b := ab.2) hr
      rw [← this]; rfl
    · cases h

def specSea (ls : List (List UInt8)) : SeaD × Int :=
  match splitL 32 (ls.getD 0 []) with
  | [w0, w1, w2, w3, w4, w5] =>
    if w0 = seasonW ∧ ls.getD (ls.length - 1) [] = [] ∧ [w1, w2, w3, w4, w5].all (fun w => (numOf w).2) = true then
      match specRows (ls.drop 1) [] [] with
      | some np => if seaOK (np.1, np.2, ((numOf w1).1 : Int), ((numOf w2).1 : Int), ((numOf w3).1 : Int), ((numOf w4).1 : Int), ((numOf w5).1 : Int), ()) then
          ((np.1, np.2, ((numOf w1).1 : Int), ((numOf w2).1 : Int), ((numOf w3).1 : Int), ((numOf w4).1 : Int), ((numOf w5).1 : Int), ()), 0) else (sea0, 5)
      | none => (sea0, 5)
    else (sea0, 5)
  | _ => (sea0, 5)

theorem spec_sea {s : List UInt8} (h : s.length ≤ 1048576) : spec_ReadSeason () (s, ()) = some ((), (specSea (splitL 10 s)).1, (specSea (splitL 10 s)).2, ()) := by
  have hsp := spec_split 10 s h
  have e10 : (((10 : UInt8).toNat : Nat) : Int) = 10 := rfl
  rw [e10] at hsp
  generalize hls : splitL 10 s = ls at *
  have hpos : 0 < ls.length := by rw [← hls]; exact List.length_pos_iff.2 (splitL_ne 10 s)
  have hlen : ls.length ≤ 1048577 := by rw [← hls]; have := splitL_length 10 s; omega
  have hw : ∀ w ∈ ls, w.length ≤ 1048576 := fun w hw => by rw [← hls] at hw; have := splitL_len hw; omega
  have hp : (0 : Int) < (ls.length : Int) := by omega
  have hsp0 := spec_split 32 (ls.getD 0 []) (hw _ (mem_getD hpos))
  have e32 : (((32 : UInt8).toNat : Nat) : Int) = 32 := rfl
  rw [e32] at hsp0
  have hwl : IntKind.i64.wrap ((ls.length : Int) - 1) = ((ls.length - 1 : Nat) : Int) := by rw [wrap64 (by omega) (by omega)]; omega
  have hl0 : (0 : Int) ≤ ((ls.length - 1 : Nat) : Int) := by omega
  have hl1 : ((ls.length - 1 : Nat) : Int) < (ls.length : Int) := by omega
  unfold spec_ReadSeason specSea
  simp only [hsp, Option.bind_some, hp, decide_true, cond_true, hsp0]
  split
  · rename_i w0 w1 w2 w3 w4 w5 hws
    have e6 : (([w0, w1, w2, w3, w4, w5].length : Int) != 6) = false := rfl
    have e0 : (0 : Int) < ([w0, w1, w2, w3, w4, w5].length : Int) := by simp
    have e1 : (1 : Int) ≤ ([w0, w1, w2, w3, w4, w5].length : Int) := by simp
    have g0 : [w0, w1, w2, w3, w4, w5].getD 0 [] = w0 := rfl
    have gd : ([w0, w1, w2, w3, w4, w5].drop 1).take ([w0, w1, w2, w3, w4, w5].length - 1) = [w1, w2, w3, w4, w5] := rfl
    rw [hws]
    simp only [e6, e0, e1, g0, gd, cond_false, cond_true, decide_true, hwl, hl0, hl1, Int.le_refl, Bool.and_self, Int.toNat_natCast]
    by_cases hw0 : w0 = seasonW
    · have hb : (w0 != ([115, 101, 97, 115, 111, 110] : List UInt8)) = false := by rw [hw0]; rfl
      by_cases hla : ls.getD (ls.length - 1) [] = []
      · have hb2 : (ls.getD (ls.length - 1) [] != ([] : List UInt8)) = false := by rw [hla]; rfl
        obtain ⟨acc, q1, q2⟩ := spec_numbers [w1, w2, w3, w4, w5] (by simp)
        simp only [hb, hb2, cond_false, q1, Option.bind_some]
        simp only [hw0, hla, true_and]
        cases hok : [w1, w2, w3, w4, w5].all (fun w => (numOf w).2) with
        | false => rfl
        | true =>
          have hacc := q2 hok
          subst hacc
          have hl := sea_loop ls hlen hw ((numOf w1).1 : Int) ((numOf w2).1 : Int) ((numOf w3).1 : Int) ((numOf w4).1 : Int) ((numOf w5).1 : Int) (ls.length - 1) 1 fuel [] [] (by omega) (Nat.le_refl _) (by unfold fuel; omega) (by simp) (by simp)
          have ei : ((1 : Nat) : Int) = 1 := rfl
          rw [ei] at hl
          have k0 : (0 : Int) < ((List.map (fun w => ((numOf w).1 : Int)) [w1, w2, w3, w4, w5]).length : Int) := by simp
          have k1 : (1 : Int) < ((List.map (fun w => ((numOf w).1 : Int)) [w1, w2, w3, w4, w5]).length : Int) := by simp
          have k2 : (2 : Int) < ((List.map (fun w => ((numOf w).1 : Int)) [w1, w2, w3, w4, w5]).length : Int) := by simp
          have k3 : (3 : Int) < ((List.map (fun w => ((numOf w).1 : Int)) [w1, w2, w3, w4, w5]).length : Int) := by simp
          have k4 : (4 : Int) < ((List.map (fun w => ((numOf w).1 : Int)) [w1, w2, w3, w4, w5]).length : Int) := by simp
          have j0 : (List.map (fun w => ((numOf w).1 : Int)) [w1, w2, w3, w4, w5]).getD 0 0 = ((numOf w1).1 : Int) := rfl
          have j1 : (List.map (fun w => ((numOf w).1 : Int)) [w1, w2, w3, w4, w5]).getD 1 0 = ((numOf w2).1 : Int) := rfl
          have j2 : (List.map (fun w => ((numOf w).1 : Int)) [w1, w2, w3, w4, w5]).getD 2 0 = ((numOf w3).1 : Int) := rfl
          have j3 : (List.map (fun w => ((numOf w).1 : Int)) [w1, w2, w3, w4, w5]).getD 3 0 = ((numOf w4).1 : Int) := rfl
          have j4 : (List.map (fun w => ((numOf w).1 : Int)) [w1, w2, w3, w4, w5]).getD 4 0 = ((numOf w5).1 : Int) := rfl
          unfold sea0 at hl
          simp only [Bool.not_true, cond_false, cond_true, k0, k1, k2, k3, k4, j0, j1, j2, j3, j4, decide_true, List.length_nil, Bool.and_self, hl, Option.bind_some, if_true]
          cases hr : specRows (ls.drop 1) [] [] with
          | none => rfl
          | some np =>
            have hnp : np.1.length ≤ 1048577 ∧ np.2.length ≤ 1048577 := by
              by_cases hd : ls.drop 1 = []
              · rw [hd] at hr; simp only [specRows, Option.some.injEq] at hr; subst hr; simp
              · obtain ⟨ns, ps, last, _, e2, e3, e4⟩ := specRows_inv _ _ _ _ hr hd
                rw [List.length_drop] at e4
                rw [e2]; simp only [List.nil_append]; omega
            simp only [Sum.elim_inr, List.drop_zero, List.take_length]
            have hk := spec_ok (np.1, np.2, ((numOf w1).1 : Int), ((numOf w2).1 : Int), ((numOf w3).1 : Int), ((numOf w4).1 : Int), ((numOf w5).1 : Int), ()) hnp.1 hnp.2
            rw [hk]
            simp only [Option.bind_some]
            cases seaOK (np.1, np.2, ((numOf w1).1 : Int), ((numOf w2).1 : Int), ((numOf w3).1 : Int), ((numOf w4).1 : Int), ((numOf w5).1 : Int), ()) <;> rfl
      · have hb2 : (ls.getD (ls.length - 1) [] != ([] : List UInt8)) = true := by rw [bne_iff_ne]; exact hla
        simp only [hb, hb2, cond_false, cond_true]
        simp only [hla, false_and, and_false, if_false]
        rfl
    · have hb : (w0 != ([115, 101, 97, 115, 111, 110] : List UInt8)) = true := by rw [bne_iff_ne]; exact hw0
      simp only [hb, cond_true]
      simp only [hw0, false_and, if_false]
      rfl
  · rename_i hno
    have e6 : (((splitL 32 (ls.getD 0 [])).length : Int) != 6) = true := by
      rw [bne_iff_ne]
      intro e
      have e' : (splitL 32 (ls.getD 0 [])).length = 6 := by omega
      match hq : splitL 32 (ls.getD 0 []), e' with
      | [w0, w1, w2, w3, w4, w5], _ => exact hno _ _ _ _ _ _ hq
    simp only [e6, cond_true]
    rfl

/-- The text of a valid season. -/
def GoodS (s : List UInt8) (x : SeaD) : Prop := seaOK x = true ∧ s = seaText x
instance (s : List UInt8) (x : SeaD) : Decidable (GoodS s x) := inferInstanceAs (Decidable (_ ∧ _))

theorem good_lines {s : List UInt8} {x : SeaD} (h : GoodS s x) : splitL 10 s = seaLines x ++ [[]] := by rw [h.2]; exact split_sea (seaOK_b h.1)

theorem specSea_good {s : List UInt8} {x : SeaD} (h : GoodS s x) : specSea (splitL 10 s) = (x, 0) := by
  have hb := seaOK_b h.1
  have hh := hb.head
  rw [good_lines h]
  obtain ⟨n, p, a, b, c, d, e, u⟩ := x
  have e0 : (seaLines (n, p, a, b, c, d, e, u) ++ [[]]).getD 0 [] = joinL 32 (headW (n, p, a, b, c, d, e, u)) := rfl
  have e1 : (seaLines (n, p, a, b, c, d, e, u) ++ [[]]).drop 1 = rowsT n p ++ [[]] := rfl
  have e2 : (seaLines (n, p, a, b, c, d, e, u) ++ [[]]).getD ((seaLines (n, p, a, b, c, d, e, u) ++ [[]]).length - 1) [] = [] := by
    simp [List.getD_eq_getElem?_getD]
  unfold specSea
  rw [e0, e1, e2, split_head hb]
  have hr := specRows_rows n p [] [] (by have := hb.eq; exact this.symm) (fun v hv => by have := hb.need v hv; omega) (fun v hv => hb.price v hv)
  unfold headNums at hh
  simp only [List.mem_cons, List.not_mem_nil, or_false, forall_eq_or_imp, forall_eq] at hh
  obtain ⟨ha, hbb, hc, hd, he⟩ := hh
  unfold headW headNums
  simp only [List.map, numOf_itoaG ha.1 (by omega), numOf_itoaG hbb.1 (by omega), numOf_itoaG hc.1 (by omega), numOf_itoaG hd.1 (by omega), numOf_itoaG he.1 (by omega), List.all_cons, List.all_nil, Bool.and_self, true_and, if_true, hr, List.nil_append,
    Int.toNat_of_nonneg ha.1, Int.toNat_of_nonneg hbb.1, Int.toNat_of_nonneg hc.1, Int.toNat_of_nonneg hd.1, Int.toNat_of_nonneg he.1]
  have := h.1
  rw [if_pos this]

theorem specSea_bad {s : List UInt8} (h : ∀ x, ¬ GoodS s x) : specSea (splitL 10 s) = (sea0, 5) := by
  unfold specSea
  split
  · rename_i w0 w1 w2 w3 w4 w5 hws
    split
    · rename_i hc
      obtain ⟨hw0, hla, hok⟩ := hc
      split
      · rename_i np hr
        split
        · rename_i hk
          exfalso
          simp only [List.all_cons, List.all_nil, Bool.and_true, Bool.and_eq_true] at hok
          obtain ⟨o1, o2, o3, o4, o5⟩ := hok
          refine h _ ⟨hk, ?_⟩
          have hb := seaOK_b hk
          cases hs : splitL 10 s with
          | nil => exact absurd hs (splitL_ne 10 s)
          | cons l0 lr =>
            rw [hs] at hws hla hr
            have hws : splitL 32 l0 = [w0, w1, w2, w3, w4, w5] := hws
            have hr : specRows lr [] [] = some np := hr
            have hne : lr ≠ [] := by
              rintro rfl
              have hl0 := hb.len.1
              simp only [specRows, Option.some.injEq] at hr
              rw [← hr] at hl0
              simp at hl0
            obtain ⟨ns, ps, last, e1, e2, e3, _⟩ := specRows_inv lr [] [] np hr hne
            have hlast : last = [] := by
              rw [e1] at hla
              have : (l0 :: (rowsT ns ps ++ [last])).getD ((l0 :: (rowsT ns ps ++ [last])).length - 1) [] = last := by
                simp [List.getD_eq_getElem?_getD]
              rw [this] at hla; exact hla
            subst hlast
            have hj0 := joinL_splitL 32 l0
            rw [hws, hw0] at hj0
            have hj := joinL_splitL 10 s
            rw [hs, e1] at hj
            have : joinL 10 ((l0 :: rowsT ns ps) ++ [[]]) = s := hj
            rw [joinL_snoc] at this
            rw [← this]
            unfold seaText seaLines headW headNums
            simp only [e2, List.nil_append, List.map, ← numOf_true o1, ← numOf_true o2, ← numOf_true o3, ← numOf_true o4, ← numOf_true o5]
            rw [hj0]
        · rfl
      · rfl
    · rfl
  · rfl

end Go.Proofs.YtcnbnmboaddocaaDoor
