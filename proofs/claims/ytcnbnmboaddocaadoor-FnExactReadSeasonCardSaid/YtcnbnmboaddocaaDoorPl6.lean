/- ReadSeason: the text of a season; the spec's answer. -/
import Derived.Test.YtcnbnmboaddocaaDoorPl5
namespace Go.Proofs.YtcnbnmboaddocaaDoor
open Go Go.Ab
set_option maxRecDepth 100000
set_option linter.all false

def seasonW : List UInt8 := [115, 101, 97, 115, 111, 110]
def lineOf (l : List Int) : List UInt8 := joinL 32 (l.map Lib.itoa)
def rowsT : List Int → List Int → List (List UInt8)
  | n :: ns, p :: ps => lineOf [n, p] :: rowsT ns ps
  | _, _ => []
def headNums (x : SeaD) : List Int := [x.2.2.1, x.2.2.2.1, x.2.2.2.2.1, x.2.2.2.2.2.1, x.2.2.2.2.2.2.1]
def headW (x : SeaD) : List (List UInt8) := seasonW :: (headNums x).map Lib.itoa
def seaLines (x : SeaD) : List (List UInt8) := joinL 32 (headW x) :: rowsT x.1 x.2.1
def tl : List (List UInt8) → List UInt8
  | [] => []
  | w :: r => w ++ 10 :: tl r
def seaText (x : SeaD) : List UInt8 := tl (seaLines x)

theorem split_tl : ∀ {ls : List (List UInt8)}, (∀ w ∈ ls, (10 : UInt8) ∉ w) → splitL 10 (tl ls) = ls ++ [[]]
  | [], _ => rfl
  | w :: r, h => by
    rw [tl, splitL_cons (h w (by simp)), split_tl fun x hx => h x (by simp [hx])]; rfl

theorem joinL_snoc : ∀ ls : List (List UInt8), joinL 10 (ls ++ [[]]) = tl ls
  | [] => rfl
  | w :: r => by
    show joinL 10 (w :: (r ++ [[]])) = _
    rw [joinL_cons (by simp), joinL_snoc r, tl]

theorem split_joinL {c : UInt8} : ∀ {ws : List (List UInt8)}, ws ≠ [] → (∀ w ∈ ws, c ∉ w) → splitL c (joinL c ws) = ws
  | [], h, _ => absurd rfl h
  | [w], _, h => splitL_none (h w (by simp))
  | w :: v :: r, _, h => by
    rw [joinL_cons (by simp), splitL_cons (h w (by simp)), split_joinL (by simp) fun x hx => h x (by simp only [List.mem_cons] at hx ⊢; exact .inr hx)]

theorem not_mem_joinL {c k : UInt8} (hk : k ≠ c) : ∀ {ws : List (List UInt8)}, (∀ w ∈ ws, k ∉ w) → k ∉ joinL c ws
  | [], _ => by simp [joinL]
  | [w], h => h w (by simp)
  | w :: v :: r, h => by
    rw [joinL_cons (by simp)]
    have := not_mem_joinL (c := c) hk (ws := v :: r) fun x hx => h x (by simp only [List.mem_cons] at hx ⊢; exact .inr hx)
    have h1 := h w (by simp)
    simp only [List.mem_append, List.mem_cons, not_or]
    exact ⟨h1, hk, this⟩

theorem itoa_no {v : Int} {k : UInt8} (h : 0 ≤ v) (hk : isDig k = false) : k ∉ Lib.itoa v := by rw [itoa_dec h]; exact not_mem_dec hk

theorem split_line {l : List Int} (hne : l ≠ []) (h : ∀ v ∈ l, 0 ≤ v) : splitL 32 (lineOf l) = l.map Lib.itoa :=
  split_joinL (by simpa using hne) fun w hw => by
    obtain ⟨v, hv, rfl⟩ := List.mem_map.1 hw
    exact itoa_no (h v hv) (by decide)

theorem line_no10 {l : List Int} (h : ∀ v ∈ l, 0 ≤ v) : (10 : UInt8) ∉ lineOf l :=
  not_mem_joinL (by decide) fun w hw => by
    obtain ⟨v, hv, rfl⟩ := List.mem_map.1 hw
    exact itoa_no (h v hv) (by decide)

theorem bnd_iff {l : List Int} {m : Int} : bnd l m = true ↔ ∀ v ∈ l, 0 ≤ v ∧ v ≤ m := by
  unfold bnd inB
  simp only [List.all_eq_true, Bool.and_eq_true, decide_eq_true_eq]

theorem inB_iff {v a b : Int} : inB v a b = true ↔ a ≤ v ∧ v ≤ b := by unfold inB; simp only [Bool.and_eq_true, decide_eq_true_eq]

structure SeaB (x : SeaD) : Prop where
  len : 1 ≤ x.1.length ∧ x.1.length ≤ 24
  eq : x.2.1.length = x.1.length
  need : ∀ v ∈ x.1, 0 ≤ v ∧ v ≤ 200
  price : ∀ v ∈ x.2.1, 0 ≤ v ∧ v ≤ 1000
  head : ∀ v ∈ headNums x, 0 ≤ v ∧ v ≤ 100

theorem seaOK_b {x : SeaD} (h : seaOK x = true) : SeaB x := by
  unfold seaOK at h
  simp only [Bool.and_eq_true, inB_iff, bnd_iff, beq_iff_eq] at h
  obtain ⟨h1, h2, h3, h4, h5, h6, h7, h8, h9⟩ := h
  refine ⟨by omega, by omega, h3, h4, fun v hv => ?_⟩
  unfold headNums at hv
  simp only [List.mem_cons, List.not_mem_nil, or_false] at hv
  rcases hv with rfl | rfl | rfl | rfl | rfl <;> omega

theorem rows_no10 : ∀ {ns ps : List Int}, (∀ v ∈ ns, 0 ≤ v) → (∀ v ∈ ps, 0 ≤ v) → ∀ w ∈ rowsT ns ps, (10 : UInt8) ∉ w
  | [], _, _, _, w, h => by simp [rowsT] at h
  | _ :: _, [], _, _, w, h => by simp [rowsT] at h
  | n :: ns, p :: ps, h1, h2, w, h => by
    simp only [rowsT, List.mem_cons] at h
    rcases h with rfl | h
    · exact line_no10 fun v hv => by
        simp only [List.mem_cons, List.not_mem_nil, or_false] at hv
        rcases hv with rfl | rfl
        · exact h1 _ (by simp)
        · exact h2 _ (by simp)
    · exact rows_no10 (fun v hv => h1 v (by simp [hv])) (fun v hv => h2 v (by simp [hv])) w h

theorem seasonW_no (k : UInt8) (h : k = 10 ∨ k = 32) : k ∉ seasonW := by rcases h with rfl | rfl <;> decide

theorem split_sea {x : SeaD} (h : SeaB x) : splitL 10 (seaText x) = seaLines x ++ [[]] :=
  split_tl fun w hw => by
    simp only [seaLines, List.mem_cons] at hw
    rcases hw with rfl | hw
    · refine not_mem_joinL (by decide) fun w hw => ?_
      simp only [headW, List.mem_cons] at hw
      rcases hw with rfl | hw
      · exact seasonW_no _ (.inl rfl)
      · obtain ⟨v, hv, rfl⟩ := List.mem_map.1 hw
        exact itoa_no (h.head v hv).1 (by decide)
    · exact rows_no10 (fun v hv => (h.need v hv).1) (fun v hv => (h.price v hv).1) w hw

theorem split_head {x : SeaD} (h : SeaB x) : splitL 32 (joinL 32 (headW x)) = headW x :=
  split_joinL (by simp [headW]) fun w hw => by
    simp only [headW, List.mem_cons] at hw
    rcases hw with rfl | hw
    · exact seasonW_no _ (.inr rfl)
    · obtain ⟨v, hv, rfl⟩ := List.mem_map.1 hw
      exact itoa_no (h.head v hv).1 (by decide)

/-- One line of two numbers, as the spec reads it. -/
def rowOf (w : List UInt8) : Option (Int × Int) := match splitL 32 w with
  | [u, v] => if (numOf u).2 && (numOf v).2 then some ((numOf u).1, (numOf v).1) else none
  | _ => none

def specRows : List (List UInt8) → List Int → List Int → Option (List Int × List Int)
  | w :: v :: r, n, p => match rowOf w with
    | some ab => specRows (v :: r) (n ++ [ab.1]) (p ++ [ab.2])
    | none => none
  | _, n, p => some (n, p)

theorem splitL_length (c : UInt8) : ∀ l : List UInt8, (splitL c l).length ≤ l.length + 1
  | [] => by simp [splitL]
  | x :: r => by
    have ih := splitL_length c r
    rw [splitL]
    split
    · simp only [List.length_cons]; omega
    · split
      · simp
      · rename_i y ys h; rw [h] at ih; simp only [List.length_cons] at ih ⊢; omega

theorem mem_getD {l : List (List UInt8)} {i : Nat} (h : i < l.length) : l.getD i [] ∈ l := by
  rw [List.getD_eq_getElem?_getD, List.getElem?_eq_getElem h]; exact List.getElem_mem h

abbrev Five := Unit × Unit × Int × Int × Int × Int × Int × Unit

theorem sea_loop (ls : List (List UInt8)) (hls : ls.length ≤ 1048577) (hw : ∀ w ∈ ls, w.length ≤ 1048576) (a b c d e : Int) : ∀ (k i m : Nat) (n p : List Int), i + k = ls.length → 1 ≤ i → k < m → n.length ≤ i → p.length ≤ i →
    spec_ReadSeason.l0 m (((), (n, p, ())), ((sea0, ((), (), a, b, c, d, e, ()), ()), (ls, (i : Int), ()))) =
      some (match specRows (ls.drop i) n p with
        | some np => .inr (((), (np.1, np.2, ())), ((sea0, ((), (), a, b, c, d, e, ()), ()), ()))
        | none => .inl (((), ()), ((sea0, ()), ((5 : Int), ())))) := by
  intro k
  induction k with
  | zero =>
    intro i m n p hi h1 hm hn hp
    obtain ⟨m, rfl⟩ : ∃ k, m = k + 1 := ⟨m - 1, by omega⟩
    obtain rfl : i = ls.length := by omega
    have hwi : IntKind.i64.wrap ((ls.length : Int) + 1) = ((ls.length + 1 : Nat) : Int) := by rw [wrap64 (by omega) (by omega)]; rfl
    have hlt : ¬ (((ls.length + 1 : Nat) : Int) < (ls.length : Int)) := by omega
    rw [List.drop_length]
    unfold specRows
    rw [spec_ReadSeason.l0, spec_ReadSeason.l0.st]
    simp only [hwi, hlt, decide_false, decide_true, cond_false, Bool.and_self, cond_true]
  | succ k ih =>
    intro i m n p hi h1 hm hn hp
    obtain ⟨m, rfl⟩ : ∃ k, m = k + 1 := ⟨m - 1, by omega⟩
    have hwi : IntKind.i64.wrap ((i : Int) + 1) = ((i + 1 : Nat) : Int) := by rw [wrap64 (by omega) (by omega)]; rfl
    have hlt' : i < ls.length := by omega
    rw [getD_drop [] hlt', spec_ReadSeason.l0, spec_ReadSeason.l0.st]
    by_cases hlast : i + 1 < ls.length
    · have hlt : ((i + 1 : Nat) : Int) < (ls.length : Int) := by omega
      have hlt2 : (i : Int) < (ls.length : Int) := by omega
      have h0 : (0 : Int) ≤ (i : Int) := by omega
      have hwl := hw _ (mem_getD hlt')
      have hsp := spec_split 32 (ls.getD i []) hwl
      have e32 : (((32 : UInt8).toNat : Nat) : Int) = 32 := rfl
      rw [e32] at hsp
      have hsl := splitL_length 32 (ls.getD i [])
      obtain ⟨acc, q1, q2⟩ := spec_numbers (splitL 32 (ls.getD i [])) (by omega)
      have hmr1 : n.length + 1 ≤ maxRow := by have h : maxRow = 68719476736 := by decide
                                              omega
      have hmr2 : p.length + 1 ≤ maxRow := by have h : maxRow = 68719476736 := by decide
                                              omega
      simp only [hwi, hlt, hlt2, h0, decide_true, cond_true, Bool.and_self, Int.toNat_natCast, hsp, q1, Option.bind_some]
      rw [getD_drop [] hlast, specRows, ← getD_drop [] hlast]
      cases hok : (splitL 32 (ls.getD i [])).all (fun w => (numOf w).2) with
      | false =>
        have hr : rowOf (ls.getD i []) = none := by
          unfold rowOf
          split
          · rename_i u v huv
            rw [huv] at hok
            simp only [List.all_cons, List.all_nil, Bool.and_true] at hok
            rw [if_neg (by rw [hok]; simp)]
          · rfl
        rw [hr]
        rfl
      | true =>
        have hacc := q2 hok
        by_cases h2 : (splitL 32 (ls.getD i [])).length = 2
        · obtain ⟨u, v, huv⟩ : ∃ u v, splitL 32 (ls.getD i []) = [u, v] := by
            match hs : splitL 32 (ls.getD i []), h2 with
            | [u, v], _ => exact ⟨u, v, rfl⟩
          rw [huv] at hacc hok
          simp only [List.all_cons, List.all_nil, Bool.and_true] at hok
          have hr : rowOf (ls.getD i []) = some (((numOf u).1 : Int), ((numOf v).1 : Int)) := by
            unfold rowOf
            rw [huv]
            simp only [hok, if_true]
          rw [hr]
          subst hacc
          have := ih (i + 1) m (n ++ [((numOf u).1 : Int)]) (p ++ [((numOf v).1 : Int)]) (by omega) (by omega) (by omega) (by simp; omega) (by simp; omega)
          have e2 : ((([u, v].map fun w => ((numOf w).1 : Int)).length : Int) != 2) = false := rfl
          have e0 : (0 : Int) < (([u, v].map fun w => ((numOf w).1 : Int)).length : Int) := by simp
          have e1 : (1 : Int) < (([u, v].map fun w => ((numOf w).1 : Int)).length : Int) := by simp
          have g0 : ([u, v].map fun w => ((numOf w).1 : Int)).getD 0 0 = ((numOf u).1 : Int) := rfl
          have g1 : ([u, v].map fun w => ((numOf w).1 : Int)).getD 1 0 = ((numOf v).1 : Int) := rfl
          simp only [Bool.not_true, cond_false, e2, e0, e1, g0, g1, decide_true, cond_true, List.drop_zero, List.take_one, List.head?_cons, Option.toList_some, List.length_singleton, hmr1, hmr2, List.take_length, List.length_append, Bool.and_true, Bool.and_self, this]
          rfl
        · have hr : rowOf (ls.getD i []) = none := by
            unfold rowOf
            split
            · rename_i u v huv; rw [huv] at h2; exact absurd rfl h2
            · rfl
          rw [hr]
          have e2 : ((acc.length : Int) != 2) = true := by rw [bne_iff_ne, hacc, List.length_map]; omega
          simp only [Bool.not_true, cond_false, e2, cond_true]
          rfl
    · have hlt : ¬ (((i + 1 : Nat) : Int) < (ls.length : Int)) := by omega
      have hd : ls.drop (i + 1) = [] := List.drop_eq_nil_of_le (by omega)
      rw [hd]
      unfold specRows
      simp only [hwi, hlt, decide_false, decide_true, cond_false, Bool.and_self, cond_true]

end Go.Proofs.YtcnbnmboaddocaaDoor
