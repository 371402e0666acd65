/- ReadSeason: the law answers true at every text. -/
import Derived.Test.YtcnbnmboaddocaaDoorPl8
namespace Go.Proofs.YtcnbnmboaddocaaDoor
open Go Go.Ab
set_option maxRecDepth 100000
set_option linter.all false

theorem sea_tail {s : List UInt8} (x : SeaD) (f : Bool) (hl : x.1.length ≤ 1000) {F : Option (Unit × (SeaD × Int × Unit))}
    (hF : F = bif (!f) then some ((), (sea0, 5, ())) else
      (impl_ValidSeason () (x, ())).bind fun r18 => bif (!r18.2.1) then some ((), (sea0, 5, ())) else
        (impl_seasonText () (x, ())).bind fun r19 => bif (r19.2.1 != s) then some ((), (sea0, 5, ())) else some ((), (x, 0, ()))) :
    F = if f = true ∧ GoodS s x then some ((), (x, 0, ())) else some ((), (sea0, 5, ())) := by
  rw [hF]
  cases f with
  | false => rfl
  | true =>
    simp only [Bool.not_true, cond_false, impl_valid x (by omega), Option.bind_some, true_and]
    cases ha : seaOK x with
    | false => rw [if_neg (fun h => by rw [h.1] at ha; cases ha)]; rfl
    | true =>
      simp only [Bool.not_true, cond_false, impl_sea_text ha, Option.bind_some]
      by_cases he : s = seaText x
      · rw [if_pos ⟨ha, he⟩, he]; simp
      · rw [if_neg (fun h => he h.2)]
        have : (seaText x != s) = true := by rw [bne_iff_ne]; exact fun e => he e.symm
        rw [this]; rfl

theorem rowsT_len : ∀ (ns ps : List Int), ns.length = ps.length → (rowsT ns ps).length = ns.length
  | [], [], _ => rfl
  | _ :: ns, _ :: ps, h => by simp only [rowsT, List.length_cons]; rw [rowsT_len ns ps (by simpa using h)]
  | [], _ :: _, h => by simp at h
  | _ :: _, [], h => by simp at h

theorem impl_sea {s : List UInt8} (h : s.length ≤ 1048576) : ∃ x f, x.1.length ≤ 1000 ∧ impl_ReadSeason () (s, ()) = (if f = true ∧ GoodS s x then some ((), (x, 0, ())) else some ((), (sea0, 5, ()))) ∧ ∀ x', GoodS s x' → x' = x ∧ f = true := by
  have hgl := fun x' (hg : GoodS s x') => good_lines hg
  have hgb := fun x' (hg : GoodS s x') => seaOK_b hg.1
  have hil := impl_lines h
  have hw0 : ∀ w ∈ (splitL 10 s).take ((splitL 10 s).length - 1), w.length ≤ 1048576 := fun w hw => by have := splitL_len (List.mem_of_mem_take hw); omega
  generalize hls : (splitL 10 s).take ((splitL 10 s).length - 1) = ls at *
  generalize hok : ((splitL 10 s).getD ((splitL 10 s).length - 1) [] == ([] : List UInt8)) = ok at *
  have hlines : ∀ x', GoodS s x' → ls = seaLines x' ∧ ok = true := fun x' hg => by
    have h1 := hgl x' hg
    rw [h1] at hls hok
    refine ⟨by rw [← hls]; simp, ?_⟩
    rw [← hok, beq_iff_eq]
    simp [List.getD_eq_getElem?_getD]
  have hlen : ∀ x', GoodS s x' → 2 ≤ ls.length ∧ ls.length ≤ 25 := fun x' hg => by
    have hb := hgb x' hg
    have h1 := hb.len
    have h2 := rowsT_len x'.1 x'.2.1 hb.eq.symm
    rw [(hlines x' hg).1]
    simp only [seaLines, List.length_cons]; omega
  unfold impl_ReadSeason
  simp only [hil, Option.bind_some]
  have bad : (∀ x', ¬ GoodS s x') → ∃ x f, x.1.length ≤ 1000 ∧ some ((), ((([] : List Int), ([] : List Int), (0 : Int), (0 : Int), (0 : Int), (0 : Int), (0 : Int), ()), (5 : Int), ())) = (if f = true ∧ GoodS s x then some ((), (x, 0, ())) else some ((), (sea0, 5, ()))) ∧ ∀ x', GoodS s x' → x' = x ∧ f = true :=
    fun hn => ⟨sea0, false, by simp [sea0], by simp [sea0], fun x' hg => absurd hg (hn x')⟩
  cases ok with
  | false =>
    simp only [Bool.not_false, cond_true]
    exact bad fun x' hg => by have := (hlines x' hg).2; cases this
  | true =>
    simp only [Bool.not_true, cond_false]
    by_cases g1 : (ls.length : Int) < 1
    · simp only [g1, decide_true, cond_true]
      exact bad fun x' hg => by have := hlen x' hg; omega
    · by_cases g2 : (ls.length : Int) > 25
      · simp only [g1, g2, decide_true, decide_false, cond_true, cond_false]
        exact bad fun x' hg => by have := hlen x' hg; omega
      · have g3 : (0 : Int) < (ls.length : Int) := by omega
        have g4 : (1 : Int) ≤ (ls.length : Int) := by omega
        have hl0 : (ls.getD 0 []).length ≤ 1048576 := hw0 _ (mem_getD (by omega))
        obtain ⟨l1, b1, i1, j1, k1⟩ := impl_is (splitL 32 (ls.getD 0 [])) false seasonW
        obtain ⟨l2, b2, v2, i2, j2, k2⟩ := impl_int l1 b1 (fun w hw => by have := splitL_len (k1 w hw); omega)
        obtain ⟨l3, b3, v3, i3, j3, k3⟩ := impl_int l2 b2 k2
        obtain ⟨l4, b4, v4, i4, j4, k4⟩ := impl_int l3 b3 k3
        obtain ⟨l5, b5, v5, i5, j5, k5⟩ := impl_int l4 b4 k4
        obtain ⟨l6, b6, v6, i6, j6, k6⟩ := impl_int l5 b5 k5
        have hL : (ls.drop 1).take (ls.length - 1) = ls.drop 1 := List.take_of_length_le (by simp)
        have hLl : (ls.drop 1).length ≤ 1000 := by rw [List.length_drop]; omega
        obtain ⟨n', p', f', q1, q2, q3⟩ := sea_impl_loop s (ls.drop 1) hLl (fun w hw => hw0 w (List.mem_of_mem_drop hw)) v2 v3 v4 v5 v6 (ls.drop 1).length 0 fuel [] [] (!b6 && l6.isEmpty) (by omega) (by unfold fuel; omega) (by simp) (by simp)
        have e0 : ((0 : Nat) : Int) = 0 := rfl
        rw [e0] at q1
        rw [List.drop_zero] at q3
        unfold sea0 at q1
        unfold seasonW at i1
        simp only [g1, g2, g3, g4, decide_true, decide_false, cond_true, cond_false, Bool.and_self, Int.le_refl, impl_split_eq hl0, Option.bind_some, i1, i2, i3, i4, i5, i6, impl_done, Int.toNat_natCast, hL, List.length_nil, q1, List.drop_zero, List.take_length]
        refine ⟨(n', p', v2, v3, v4, v5, v6, ()), f', by show n'.length ≤ 1000; omega, sea_tail (s := s) _ _ (by show n'.length ≤ 1000; omega) rfl, fun x' hg => ?_⟩
        have hb := hgb x' hg
        have hl := (hlines x' hg).1
        obtain ⟨n, p, a, b, c, d, e, u⟩ := x'
        have hh := hb.head
        unfold headNums at hh
        simp only [List.mem_cons, List.not_mem_nil, or_false, forall_eq_or_imp, forall_eq] at hh
        obtain ⟨ha, hbb, hc, hd, he⟩ := hh
        have hs0 : splitL 32 (ls.getD 0 []) = headW (n, p, a, b, c, d, e, u) := by
          rw [hl]; exact split_head hb
        rw [hs0] at j1
        obtain ⟨rfl, rfl⟩ := j1 _ rfl
        obtain ⟨rfl, rfl, rfl⟩ := j2 a _ rfl (by omega)
        obtain ⟨rfl, rfl, rfl⟩ := j3 b _ rfl (by omega)
        obtain ⟨rfl, rfl, rfl⟩ := j4 c _ rfl (by omega)
        obtain ⟨rfl, rfl, rfl⟩ := j5 d _ rfl (by omega)
        obtain ⟨rfl, rfl, rfl⟩ := j6 e _ rfl (by omega)
        obtain ⟨r1, r2, r3⟩ := q3 n p (by rw [hl]; rfl) hb.eq.symm (fun v hv => by have := hb.need v hv; omega) (fun v hv => hb.price v hv)
        rw [r1, r2, r3]
        exact ⟨rfl, rfl⟩

/-! The law's own functions. -/

theorem eq_loop (l : List Int) (hl : l.length ≤ 1000) : ∀ (n i m : Nat), i + n = l.length → n < m → laws_eqInt64S.l0 m (((), ()), ((), (l, l, (i : Int), ()))) = some (.inr (((), ()), ((), ()))) := by
  intro n
  induction n with
  | zero =>
    intro i m hi hm
    obtain ⟨m, rfl⟩ : ∃ k, m = k + 1 := ⟨m - 1, by omega⟩
    obtain rfl : i = l.length := by omega
    simp [laws_eqInt64S.l0, laws_eqInt64S.l0.st]
  | succ n ih =>
    intro i m hi hm
    obtain ⟨m, rfl⟩ : ∃ k, m = k + 1 := ⟨m - 1, by omega⟩
    have hwi : IntKind.i64.wrap ((i : Int) + 1) = ((i + 1 : Nat) : Int) := by rw [wrap64 (by omega) (by omega)]; rfl
    have hlt : (i : Int) < (l.length : Int) := by omega
    have h0 : (0 : Int) ≤ (i : Int) := by omega
    have := ih (i + 1) m (by omega) (by omega)
    rw [laws_eqInt64S.l0, laws_eqInt64S.l0.st]
    simp only [hlt, h0, hwi, decide_true, Bool.and_self, cond_true, Int.toNat_natCast, bne_self_eq_false, cond_false, this]
    rfl

theorem eq_self (l : List Int) (hl : l.length ≤ 1000) : laws_eqInt64S () (l, l, ()) = some ((), true, ()) := by
  have h := eq_loop l hl l.length 0 fuel (by omega) (by unfold fuel; omega)
  have e0 : ((0 : Nat) : Int) = 0 := rfl
  rw [e0] at h
  unfold laws_eqInt64S
  simp only [bne_self_eq_false, cond_false, h, Option.bind_some]
  rfl

theorem eq_sea (x : SeaD) (h1 : x.1.length ≤ 1000) (h2 : x.2.1.length ≤ 1000) : laws_eqSeason () (x, x, ()) = some ((), true, ()) := by
  unfold laws_eqSeason
  simp only [eq_self _ h1, eq_self _ h2, Option.bind_some, Bool.not_true, cond_false, bne_self_eq_false]

theorem held_loop (l : List Int) (k0 : Nat) (hl : l.length + k0 ≤ 10000) (hv : ∀ j, j < l.length → l.getD j 0 = ((k0 + j : Nat) : Int)) : ∀ (n i m : Nat), i + n = l.length → n < m →
    laws_heldInt64S.l0 m (((), ()), ((), (l, ((k0 + i : Nat) : Int), (i : Int), ()))) = some (.inr (((), ()), ((), (((k0 + l.length : Nat) : Int), ())))) := by
  intro n
  induction n with
  | zero =>
    intro i m hi hm
    obtain ⟨m, rfl⟩ : ∃ k, m = k + 1 := ⟨m - 1, by omega⟩
    obtain rfl : i = l.length := by omega
    simp [laws_heldInt64S.l0, laws_heldInt64S.l0.st]
  | succ n ih =>
    intro i m hi hm
    obtain ⟨m, rfl⟩ : ∃ k, m = k + 1 := ⟨m - 1, by omega⟩
    have hwi : IntKind.i64.wrap ((i : Int) + 1) = ((i + 1 : Nat) : Int) := by rw [wrap64 (by omega) (by omega)]; rfl
    have hwk : IntKind.i64.wrap (((k0 + i : Nat) : Int) + 1) = ((k0 + (i + 1) : Nat) : Int) := by rw [wrap64 (by omega) (by omega)]; omega
    have hlt : (i : Int) < (l.length : Int) := by omega
    have h0 : (0 : Int) ≤ (i : Int) := by omega
    have hb : (l.getD i 0 != ((k0 + i : Nat) : Int)) = false := by rw [hv i (by omega)]; simp
    have := ih (i + 1) m (by omega) (by omega)
    rw [laws_heldInt64S.l0, laws_heldInt64S.l0.st]
    simp only [hlt, h0, hwi, hwk, hb, decide_true, Bool.and_self, cond_true, Int.toNat_natCast, cond_false, this]
    rfl

theorem held_eq (l : List Int) (k0 : Nat) (hl : l.length + k0 ≤ 10000) (hv : ∀ j, j < l.length → l.getD j 0 = ((k0 + j : Nat) : Int)) : laws_heldInt64S () (l, (k0 : Int), ()) = some ((), ((k0 + l.length : Nat) : Int), ()) := by
  have h := held_loop l k0 hl hv l.length 0 fuel (by omega) (by unfold fuel; omega)
  have e0 : ((0 : Nat) : Int) = 0 := rfl
  rw [e0, Nat.add_zero] at h
  unfold laws_heldInt64S
  simp only [h, Option.bind_some]
  rfl

theorem getD_set (l : List Int) (i j : Nat) (v : Int) (hi : i < l.length) : (l.set i v).getD j 0 = if i = j then v else l.getD j 0 := by
  simp only [List.getD_eq_getElem?_getD, List.getElem?_set]
  split
  · rename_i h; subst h; simp [hi]
  · rfl

theorem mark0_loop (price : List Int) (w0 : SeaD) (fv gv : Five) (k0 : Nat) : ∀ (n i m : Nat) (need : List Int), i + n = need.length → need.length + k0 ≤ 10000 → n < m → (∀ j, j < i → need.getD j 0 = ((k0 + j : Nat) : Int)) →
    ∃ need', laws_FnExactReadSeason.laws_markInt64S.l0s0 m (((need, price, ()), ()), ((w0, fv, gv, ()), (((k0 + i : Nat) : Int), (i : Int), ()))) =
      some (((need', price, ()), ()), ((w0, fv, gv, ()), (((k0 + need.length : Nat) : Int), ()))) ∧ need'.length = need.length ∧ ∀ j, j < need.length → need'.getD j 0 = ((k0 + j : Nat) : Int) := by
  intro n
  induction n with
  | zero =>
    intro i m need hi hl hm hv
    obtain ⟨m, rfl⟩ : ∃ k, m = k + 1 := ⟨m - 1, by omega⟩
    obtain rfl : i = need.length := by omega
    refine ⟨need, ?_, rfl, hv⟩
    have hlt : ¬ ((need.length : Int) < (need.length : Int)) := by omega
    rw [laws_FnExactReadSeason.laws_markInt64S.l0s0, laws_FnExactReadSeason.laws_markInt64S.l0s0.st]
    simp only [hlt, decide_false, decide_true, cond_false, cond_true, Bool.and_self]
  | succ n ih =>
    intro i m need hi hl hm hv
    obtain ⟨m, rfl⟩ : ∃ k, m = k + 1 := ⟨m - 1, by omega⟩
    have hwi : IntKind.i64.wrap ((i : Int) + 1) = ((i + 1 : Nat) : Int) := by rw [wrap64 (by omega) (by omega)]; rfl
    have hwk : IntKind.i64.wrap (((k0 + i : Nat) : Int) + 1) = ((k0 + (i + 1) : Nat) : Int) := by rw [wrap64 (by omega) (by omega)]; omega
    have hlt : (i : Int) < (need.length : Int) := by omega
    have h0 : (0 : Int) ≤ (i : Int) := by omega
    obtain ⟨need', q1, q2, q3⟩ := ih (i + 1) m (need.set i ((k0 + i : Nat) : Int)) (by simp; omega) (by simpa using hl) (by omega) (fun j hj => by
      rw [getD_set _ _ _ _ (by omega)]
      split
      · rename_i e; subst e; rfl
      · exact hv j (by omega))
    rw [List.length_set] at q1 q2 q3
    refine ⟨need', ?_, q2, q3⟩
    rw [laws_FnExactReadSeason.laws_markInt64S.l0s0, laws_FnExactReadSeason.laws_markInt64S.l0s0.st]
    simp only [hlt, h0, hwi, hwk, decide_true, Bool.and_self, cond_true, Int.toNat_natCast, List.length_set, Nat.zero_add, q1]
    rfl

theorem mark1_loop (need : List Int) (w0 : SeaD) (fv gv : Five) (k0 : Nat) : ∀ (n i m : Nat) (price : List Int), i + n = price.length → price.length + k0 ≤ 10000 → n < m → (∀ j, j < i → price.getD j 0 = ((k0 + j : Nat) : Int)) →
    ∃ price', laws_FnExactReadSeason.laws_markInt64S.l0s1 m (((need, price, ()), ()), ((w0, fv, gv, ()), (((k0 + i : Nat) : Int), (i : Int), ()))) =
      some (((need, price', ()), ()), ((w0, fv, gv, ()), (((k0 + price.length : Nat) : Int), ()))) ∧ price'.length = price.length ∧ ∀ j, j < price.length → price'.getD j 0 = ((k0 + j : Nat) : Int) := by
  intro n
  induction n with
  | zero =>
    intro i m price hi hl hm hv
    obtain ⟨m, rfl⟩ : ∃ k, m = k + 1 := ⟨m - 1, by omega⟩
    obtain rfl : i = price.length := by omega
    refine ⟨price, ?_, rfl, hv⟩
    have hlt : ¬ ((price.length : Int) < (price.length : Int)) := by omega
    rw [laws_FnExactReadSeason.laws_markInt64S.l0s1, laws_FnExactReadSeason.laws_markInt64S.l0s1.st]
    simp only [hlt, decide_false, decide_true, cond_false, cond_true, Bool.and_self]
  | succ n ih =>
    intro i m price hi hl hm hv
    obtain ⟨m, rfl⟩ : ∃ k, m = k + 1 := ⟨m - 1, by omega⟩
    have hwi : IntKind.i64.wrap ((i : Int) + 1) = ((i + 1 : Nat) : Int) := by rw [wrap64 (by omega) (by omega)]; rfl
    have hwk : IntKind.i64.wrap (((k0 + i : Nat) : Int) + 1) = ((k0 + (i + 1) : Nat) : Int) := by rw [wrap64 (by omega) (by omega)]; omega
    have hlt : (i : Int) < (price.length : Int) := by omega
    have h0 : (0 : Int) ≤ (i : Int) := by omega
    obtain ⟨price', q1, q2, q3⟩ := ih (i + 1) m (price.set i ((k0 + i : Nat) : Int)) (by simp; omega) (by simpa using hl) (by omega) (fun j hj => by
      rw [getD_set _ _ _ _ (by omega)]
      split
      · rename_i e; subst e; rfl
      · exact hv j (by omega))
    rw [List.length_set] at q1 q2 q3
    refine ⟨price', ?_, q2, q3⟩
    rw [laws_FnExactReadSeason.laws_markInt64S.l0s1, laws_FnExactReadSeason.laws_markInt64S.l0s1.st]
    simp only [hlt, h0, hwi, hwk, decide_true, Bool.and_self, cond_true, Int.toNat_natCast, List.length_set, Nat.zero_add, q1]
    rfl

theorem law_sea_of {s : List UInt8} (hl : s.length ≤ 1048576) (x : SeaD) (v : Int) (h1 : x.1.length ≤ 1000) (h2 : x.2.1.length ≤ 1000) (hs : spec_ReadSeason () (s, ()) = some ((), x, v, ())) (hi : impl_ReadSeason () (s, ()) = some ((), x, v, ())) :
    laws_FnExactReadSeason () (s, ()) = some ((), true, ()) := by
  obtain ⟨n, p, a, b, c, d, e, u⟩ := x
  have h1 : n.length ≤ 1000 := h1
  have h2 : p.length ≤ 1000 := h2
  have hb : ¬ ((s.length : Int) > 1048576) := by omega
  obtain ⟨n', q1, q2, q3⟩ := mark0_loop p (n, p, a, b, c, d, e, u) ((), (), a, b, c, d, e, ()) ((), (), a, b, c, d, e, ()) 1 n.length 0 fuel n (by omega) (by omega) (by unfold fuel; omega) (fun j hj => by omega)
  obtain ⟨p', q4, q5, q6⟩ := mark1_loop n' (n, p, a, b, c, d, e, u) ((), (), a, b, c, d, e, ()) ((), (), a, b, c, d, e, ()) (1 + n.length) p.length 0 fuel p (by omega) (by omega) (by unfold fuel; omega) (fun j hj => by omega)
  have e1 : ((1 + 0 : Nat) : Int) = 1 := rfl
  have e0 : ((0 : Nat) : Int) = 0 := rfl
  rw [e1, e0] at q1
  rw [Nat.add_zero, e0] at q4
  have hn := held_eq n' 1 (by omega) (fun j hj => q3 j (by omega))
  have hp := held_eq p' (1 + n'.length) (by omega) (fun j hj => by rw [q2]; exact q6 j (by omega))
  have e1' : ((1 : Nat) : Int) = 1 := rfl
  rw [e1'] at hn
  have hheld : laws_heldSeason () ((n', p', a, b, c, d, e, ()), 1, ()) = some ((), ((1 + n.length + p.length : Nat) : Int), ()) := by
    unfold laws_heldSeason
    have g1 : ¬ (((1 + n'.length : Nat) : Int) < 0) := by omega
    have g2 : ¬ (((1 + n'.length + p'.length : Nat) : Int) < 0) := by omega
    simp only [hn, Option.bind_some, g1, decide_false, cond_false, hp, g2]
    rw [q2, q5]
  have g3 : ¬ (((1 + n.length + p.length : Nat) : Int) < 0) := by omega
  have heq := eq_sea (n, p, a, b, c, d, e, u) h1 h2
  unfold laws_FnExactReadSeason
  simp only [hb, decide_false, decide_true, cond_false, cond_true, hs, hi, Option.bind_some, List.drop_zero, List.take_length, heq, Bool.not_true, bne_self_eq_false, Bool.and_self, Bool.and_true, q1, q4, hheld, g3]

theorem law_ReadSeason (s : List UInt8) : laws_FnExactReadSeason () (s, ()) = some ((), true, ()) := by
  by_cases hl : (s.length : Int) > 1048576
  · unfold laws_FnExactReadSeason
    simp only [hl, decide_true, cond_true]
  · have h : s.length ≤ 1048576 := by omega
    obtain ⟨x, f, hx, e, hu⟩ := impl_sea h
    by_cases hg : ∃ x, GoodS s x
    · obtain ⟨x', hg⟩ := hg
      obtain ⟨rfl, rfl⟩ := hu _ hg
      rw [if_pos ⟨rfl, hg⟩] at e
      have hb := seaOK_b hg.1
      have hlen := hb.len
      exact law_sea_of h x' 0 (by omega) (by rw [hb.eq]; omega) (by rw [spec_sea h, specSea_good hg]) e
    · have hn : ∀ x, ¬ GoodS s x := fun x h => hg ⟨x, h⟩
      rw [if_neg (fun hh => hn _ hh.2)] at e
      exact law_sea_of h sea0 5 (by simp [sea0]) (by simp [sea0]) (by rw [spec_sea h, specSea_bad hn]) e

end Go.Proofs.YtcnbnmboaddocaaDoor
