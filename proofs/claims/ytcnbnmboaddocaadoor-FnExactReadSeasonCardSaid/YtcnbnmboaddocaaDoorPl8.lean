/- ReadSeason: what the program answers. -/
import Derived.Test.YtcnbnmboaddocaaDoorPl7
namespace Go.Proofs.YtcnbnmboaddocaaDoor
open Go Go.Ab
set_option maxRecDepth 100000
set_option linter.all false

theorem impl_lines {s : List UInt8} (h : s.length ≤ 1048576) : impl_linesOf () (s, ()) = some ((), (splitL 10 s).take ((splitL 10 s).length - 1), ((splitL 10 s).getD ((splitL 10 s).length - 1) [] == ([] : List UInt8)), ()) := by
  unfold impl_linesOf
  by_cases hs : s = []
  · subst hs; rfl
  · have hb : (s == ([] : List UInt8)) = false := by rw [beq_eq_false_iff_ne]; exact hs
    have hsp : lib_Split () (s, [10], ()) = some ((), splitL 10 s, ()) := by
      unfold lib_Split
      simp only
      rw [if_pos (by omega)]
    have hpos : 0 < (splitL 10 s).length := List.length_pos_iff.2 (splitL_ne 10 s)
    have hlen : (splitL 10 s).length ≤ 1048577 := by have := splitL_length 10 s; omega
    have hwl : IntKind.i64.wrap (((splitL 10 s).length : Int) - 1) = (((splitL 10 s).length - 1 : Nat) : Int) := by rw [wrap64 (by omega) (by omega)]; omega
    have h0 : (0 : Int) ≤ (((splitL 10 s).length - 1 : Nat) : Int) := by omega
    have h1 : (((splitL 10 s).length - 1 : Nat) : Int) ≤ ((splitL 10 s).length : Int) := by omega
    have h2 : (((splitL 10 s).length - 1 : Nat) : Int) < ((splitL 10 s).length : Int) := by omega
    simp only [hb, cond_false, hsp, Option.bind_some, hwl, h0, h1, h2, decide_true, Bool.and_self, cond_true, Int.toNat_natCast, List.drop_zero, Nat.sub_zero]

theorem line_len {a b : Int} (ha : 0 ≤ a ∧ a ≤ 1000) (hb : 0 ≤ b ∧ b ≤ 1000) : (lineOf [a, b]).length ≤ 50 := by
  have h1 := Lib.itoa_length_le a (by omega) (by omega)
  have h2 := Lib.itoa_length_le b (by omega) (by omega)
  simp only [lineOf, List.map, joinL, List.length_append, List.length_cons]; omega

theorem text_loop (x : SeaD) (hb : SeaB x) : ∀ (n i m : Nat) (out : List UInt8), i + n = x.1.length → n < m → out.length + 100 * n ≤ 1000000 →
    impl_seasonText.l0 m (((), ()), ((x, ()), (out, x.1, (x.1.length : Int), (i : Int), ()))) = some (((), ()), ((), (out ++ tl (rowsT (x.1.drop i) (x.2.1.drop i)), ()))) := by
  intro n
  induction n with
  | zero =>
    intro i m out hi hm ho
    obtain ⟨m, rfl⟩ : ∃ k, m = k + 1 := ⟨m - 1, by omega⟩
    obtain rfl : i = x.1.length := by omega
    rw [List.drop_length]
    simp [impl_seasonText.l0, impl_seasonText.l0.st, rowsT, tl]
  | succ n ih =>
    intro i m out hi hm ho
    obtain ⟨m, rfl⟩ : ∃ k, m = k + 1 := ⟨m - 1, by omega⟩
    have hl := hb.len
    have he := hb.eq
    have hwi : IntKind.i64.wrap ((i : Int) + 1) = ((i + 1 : Nat) : Int) := by rw [wrap64 (by omega) (by omega)]; rfl
    have hlt : (i : Int) < (x.1.length : Int) := by omega
    have hlt2 : (i : Int) < (x.2.1.length : Int) := by omega
    have h0 : (0 : Int) ≤ (i : Int) := by omega
    have hi1 : i < x.1.length := by omega
    have hi2 : i < x.2.1.length := by omega
    have m1 : x.1.getD i 0 ∈ x.1 := by rw [List.getD_eq_getElem?_getD, List.getElem?_eq_getElem hi1]; exact List.getElem_mem hi1
    have m2 : x.2.1.getD i 0 ∈ x.2.1 := by rw [List.getD_eq_getElem?_getD, List.getElem?_eq_getElem hi2]; exact List.getElem_mem hi2
    have b1 := hb.need _ m1
    have b2 := hb.price _ m2
    have hll := line_len (a := x.1.getD i 0) (b := x.2.1.getD i 0) (by omega) b2
    have hd : impl_decimals () ([x.1.getD i 0, x.2.1.getD i 0], ()) = some ((), lineOf [x.1.getD i 0, x.2.1.getD i 0], ()) := decimals_eq _ (by simp) (by show (lineOf [x.1.getD i 0, x.2.1.getD i 0]).length ≤ _; omega)
    have hms : maxStr = 281474976710656 := by decide
    have c1 : (lineOf [x.1.getD i 0, x.2.1.getD i 0]).length + ([10] : List UInt8).length ≤ maxStr := by simp only [List.length_singleton]; omega
    have c2 : out.length + (lineOf [x.1.getD i 0, x.2.1.getD i 0] ++ ([10] : List UInt8)).length ≤ maxStr := by simp only [List.length_append, List.length_singleton]; omega
    have := ih (i + 1) m (out ++ (lineOf [x.1.getD i 0, x.2.1.getD i 0] ++ [10])) (by omega) (by omega) (by simp only [List.length_append, List.length_singleton]; omega)
    rw [getD_drop 0 hi1, getD_drop 0 hi2, rowsT, tl, impl_seasonText.l0, impl_seasonText.l0.st]
    simp only [hlt, hlt2, h0, hwi, decide_true, Bool.and_self, cond_true, Int.toNat_natCast, List.drop_zero, List.take, hd, Option.bind_some, c1, c2, this]
    simp

theorem impl_sea_text {x : SeaD} (h : seaOK x = true) : impl_seasonText () (x, ()) = some ((), seaText x, ()) := by
  have hb := seaOK_b h
  have hh := hb.head
  have hl := hb.len
  have hlen : (lineOf (headNums x)).length ≤ 200 := by
    unfold headNums at hh ⊢
    simp only [List.mem_cons, List.not_mem_nil, or_false, forall_eq_or_imp, forall_eq] at hh
    obtain ⟨ha, hbb, hc, hd, he⟩ := hh
    have k1 := Lib.itoa_length_le x.2.2.1 (by omega) (by omega)
    have k2 := Lib.itoa_length_le x.2.2.2.1 (by omega) (by omega)
    have k3 := Lib.itoa_length_le x.2.2.2.2.1 (by omega) (by omega)
    have k4 := Lib.itoa_length_le x.2.2.2.2.2.1 (by omega) (by omega)
    have k5 := Lib.itoa_length_le x.2.2.2.2.2.2.1 (by omega) (by omega)
    simp only [lineOf, List.map, joinL, List.length_append, List.length_cons]; omega
  have hd : impl_decimals () (headNums x, ()) = some ((), lineOf (headNums x), ()) := decimals_eq _ (by simp [headNums]) (by show (lineOf (headNums x)).length ≤ _; omega)
  have hms : maxStr = 281474976710656 := by decide
  have c1 : ([115, 101, 97, 115, 111, 110, 32] : List UInt8).length + (lineOf (headNums x)).length ≤ maxStr := by simp only [List.length_cons, List.length_nil]; omega
  have c2 : (([115, 101, 97, 115, 111, 110, 32] : List UInt8) ++ lineOf (headNums x)).length + ([10] : List UInt8).length ≤ maxStr := by simp only [List.length_append, List.length_cons, List.length_nil]; omega
  have hL := text_loop x hb x.1.length 0 fuel (([115, 101, 97, 115, 111, 110, 32] ++ lineOf (headNums x)) ++ [10]) (by omega) (by unfold fuel; omega) (by simp only [List.length_append, List.length_cons, List.length_nil]; omega)
  have e0 : ((0 : Nat) : Int) = 0 := rfl
  rw [e0, List.drop_zero, List.drop_zero] at hL
  have ht : (([x.2.2.1, x.2.2.2.1, x.2.2.2.2.1, x.2.2.2.2.2.1, x.2.2.2.2.2.2.1] : List Int).drop 0).take 5 = headNums x := rfl
  unfold impl_seasonText
  rw [ht]
  simp only [hd, Option.bind_some, c1, c2, decide_true, cond_true, hL]
  unfold seaText seaLines headW
  rw [tl, joinL_cons (by simp [headNums])]
  show some ((), _, ()) = some ((), (seasonW ++ 32 :: lineOf (headNums x)) ++ 10 :: tl (rowsT x.1 x.2.1), ())
  simp [seasonW]

theorem impl_is (l : List (List UInt8)) (b : Bool) (w : List UInt8) : ∃ l' b', impl_words_is (l, b, ()) (w, ()) = some ((l', b', ()), ()) ∧ (∀ r, l = w :: r → l' = r ∧ b' = b) ∧ ∀ x ∈ l', x ∈ l := by
  unfold impl_words_is
  cases l with
  | nil =>
    rw [impl_next_nil]
    simp only [Option.bind_some]
    cases (([] : List UInt8) != w)
    · exact ⟨_, _, rfl, (fun r e => by cases e), (fun x hx => by cases hx)⟩
    · exact ⟨_, _, rfl, (fun r e => by cases e), (fun x hx => by cases hx)⟩
  | cons u r =>
    rw [impl_next_cons]
    simp only [Option.bind_some]
    by_cases he : u = w
    · have hb : (u != w) = false := by rw [he]; simp
      rw [hb]
      exact ⟨r, b, rfl, (fun r' e => by cases e; exact ⟨rfl, rfl⟩), (fun x hx => by simp [hx])⟩
    · have hb : (u != w) = true := by rw [bne_iff_ne]; exact he
      rw [hb]
      exact ⟨r, true, rfl, (fun r' e => by cases e; exact absurd rfl he), (fun x hx => by simp [hx])⟩

theorem impl_int (l : List (List UInt8)) (b : Bool) (hl : ∀ w ∈ l, w.length ≤ 1048576) : ∃ l' b' v, impl_words_integer (l, b, ()) () = some ((l', b', ()), v, ()) ∧
    (∀ a r, l = Lib.itoa a :: r → 0 ≤ a ∧ a ≤ 1000 → l' = r ∧ b' = b ∧ v = a) ∧ ∀ w ∈ l', w.length ≤ 1048576 := by
  cases l with
  | nil => exact ⟨_, _, _, impl_int_nil b, (fun w r e => by cases e), (fun w hw => by cases hw)⟩
  | cons w r =>
    refine ⟨_, _, _, impl_int_cons r b (Nat.le_trans (hl w (by simp)) (by decide)), (fun a r' e ha => ?_), (fun x hx => hl x (by simp [hx]))⟩
    cases e
    have hp : parseI (Lib.itoa a) = (a, false) := by
      have := parseI_itoa (n := a.toNat) (by omega)
      rwa [Int.toNat_of_nonneg ha.1] at this
    rw [hp]; simp

theorem sea_impl_loop (s : List UInt8) (L : List (List UInt8)) (hL : L.length ≤ 1000) (hw : ∀ w ∈ L, w.length ≤ 1048576) (a b c d e : Int) : ∀ (k i m : Nat) (n p : List Int) (f : Bool), i + k = L.length → k < m → n.length ≤ i → p.length ≤ i →
    ∃ n' p' f', impl_ReadSeason.l0 m (((), (n, p, ())), ((sea0, ((), (), a, b, c, d, e, ()), ()), (s, f, L, (L.length : Int), (i : Int), ()))) =
        some (((), (n', p', ())), ((sea0, ((), (), a, b, c, d, e, ()), ()), (s, f', ()))) ∧ n'.length ≤ L.length ∧
      ∀ ns ps : List Int, L.drop i = rowsT ns ps → ns.length = ps.length → (∀ v ∈ ns, 0 ≤ v ∧ v ≤ 1000) → (∀ v ∈ ps, 0 ≤ v ∧ v ≤ 1000) → n' = n ++ ns ∧ p' = p ++ ps ∧ f' = f := by
  intro k
  induction k with
  | zero =>
    intro i m n p f hi hm hn hp
    obtain ⟨m, rfl⟩ : ∃ k, m = k + 1 := ⟨m - 1, by omega⟩
    obtain rfl : i = L.length := by omega
    refine ⟨n, p, f, ?_, hn, fun ns ps h1 h2 _ _ => ?_⟩
    · have hlt : ¬ ((L.length : Int) < (L.length : Int)) := by omega
      rw [impl_ReadSeason.l0, impl_ReadSeason.l0.st]
      simp only [hlt, decide_false, decide_true, cond_false, cond_true, Bool.and_self]
    · rw [List.drop_length] at h1
      cases ns with
      | nil => cases ps with
        | nil => simp
        | cons _ _ => simp at h2
      | cons _ _ => cases ps with
        | nil => simp at h2
        | cons _ _ => simp [rowsT] at h1
  | succ k ih =>
    intro i m n p f hi hm hn hp
    obtain ⟨m, rfl⟩ : ∃ k, m = k + 1 := ⟨m - 1, by omega⟩
    have hwi : IntKind.i64.wrap ((i : Int) + 1) = ((i + 1 : Nat) : Int) := by rw [wrap64 (by omega) (by omega)]; rfl
    have hlt : (i : Int) < (L.length : Int) := by omega
    have hlt' : i < L.length := by omega
    have h0 : (0 : Int) ≤ (i : Int) := by omega
    have hmr1 : n.length + 1 ≤ maxRow := by have h : maxRow = 68719476736 := by decide
                                            omega
    have hmr2 : p.length + 1 ≤ maxRow := by have h : maxRow = 68719476736 := by decide
                                            omega
    have hwl := hw _ (mem_getD hlt')
    obtain ⟨l1, b1, v1, i1, j1, k1⟩ := impl_int (splitL 32 (L.getD i [])) false (fun w hw => by have := splitL_len hw; omega)
    obtain ⟨l2, b2, v2, i2, j2, k2⟩ := impl_int l1 b1 k1
    have main : ∀ f1, (∀ ns ps : List Int, L.drop i = rowsT ns ps → ns.length = ps.length → (∀ v ∈ ns, 0 ≤ v ∧ v ≤ 1000) → (∀ v ∈ ps, 0 ≤ v ∧ v ≤ 1000) → f1 = f) →
        ∃ n' p' f', impl_ReadSeason.l0 m (((), (n ++ [v1], p ++ [v2], ())), ((sea0, ((), (), a, b, c, d, e, ()), ()), (s, f1, L, (L.length : Int), ((i + 1 : Nat) : Int), ()))) =
        some (((), (n', p', ())), ((sea0, ((), (), a, b, c, d, e, ()), ()), (s, f', ()))) ∧ n'.length ≤ L.length ∧
      ∀ ns ps : List Int, L.drop i = rowsT ns ps → ns.length = ps.length → (∀ v ∈ ns, 0 ≤ v ∧ v ≤ 1000) → (∀ v ∈ ps, 0 ≤ v ∧ v ≤ 1000) → n' = n ++ ns ∧ p' = p ++ ps ∧ f' = f := by
      intro f1 hf1
      obtain ⟨n', p', f', q1, q2, q3⟩ := ih (i + 1) m (n ++ [v1]) (p ++ [v2]) f1 (by omega) (by omega) (by simp; omega) (by simp; omega)
      refine ⟨n', p', f', q1, q2, fun ns ps h1 h2 h3 h4 => ?_⟩
      have hff := hf1 ns ps h1 h2 h3 h4
      rw [getD_drop [] hlt'] at h1
      cases ns with
      | nil => simp [rowsT] at h1
      | cons x ns => cases ps with
        | nil => simp at h2
        | cons y ps =>
          rw [rowsT] at h1
          obtain ⟨e1, e2⟩ := List.cons.inj h1
          have hx := h3 x (by simp)
          have hy := h4 y (by simp)
          have hsl : splitL 32 (L.getD i []) = [Lib.itoa x, Lib.itoa y] := by
            rw [e1, split_line (by simp) (fun v hv => by
              simp only [List.mem_cons, List.not_mem_nil, or_false] at hv
              rcases hv with rfl | rfl <;> omega)]
            rfl
          obtain ⟨rfl, rfl, rfl⟩ := j1 x _ hsl hx
          obtain ⟨rfl, rfl, rfl⟩ := j2 y _ rfl hy
          obtain ⟨r1, r2, r3⟩ := q3 ns ps e2 (by simpa using h2) (fun v hv => h3 v (by simp [hv])) (fun v hv => h4 v (by simp [hv]))
          exact ⟨by rw [r1]; simp, by rw [r2]; simp, by rw [r3, hff]⟩
    have hdone : ∀ ns ps : List Int, L.drop i = rowsT ns ps → ns.length = ps.length → (∀ v ∈ ns, 0 ≤ v ∧ v ≤ 1000) → (∀ v ∈ ps, 0 ≤ v ∧ v ≤ 1000) → (!b2 && l2.isEmpty) = true := by
      intro ns ps h1 h2 h3 h4
      rw [getD_drop [] hlt'] at h1
      cases ns with
      | nil => simp [rowsT] at h1
      | cons x ns => cases ps with
        | nil => simp at h2
        | cons y ps =>
          rw [rowsT] at h1
          obtain ⟨e1, e2⟩ := List.cons.inj h1
          have hx := h3 x (by simp)
          have hy := h4 y (by simp)
          have hsl : splitL 32 (L.getD i []) = [Lib.itoa x, Lib.itoa y] := by
            rw [e1, split_line (by simp) (fun v hv => by
              simp only [List.mem_cons, List.not_mem_nil, or_false] at hv
              rcases hv with rfl | rfl <;> omega)]
            rfl
          obtain ⟨rfl, rfl, rfl⟩ := j1 x _ hsl hx
          obtain ⟨rfl, rfl, rfl⟩ := j2 y _ rfl hy
          rfl
    rw [impl_ReadSeason.l0, impl_ReadSeason.l0.st]
    cases f with
    | false =>
      obtain ⟨n', p', f', q1, q2, q3⟩ := main false (fun _ _ _ _ _ _ => rfl)
      refine ⟨n', p', f', ?_, q2, q3⟩
      simp only [hlt, h0, hwi, decide_true, Bool.and_self, cond_true, cond_false, Int.toNat_natCast, impl_split_eq hwl, Option.bind_some, i1, i2, List.drop_zero, List.take_one, List.head?_cons, Option.toList_some, List.length_singleton, hmr1, hmr2, List.take_length, List.length_append, Bool.and_true, q1]
    | true =>
      obtain ⟨n', p', f', q1, q2, q3⟩ := main (!b2 && l2.isEmpty) hdone
      refine ⟨n', p', f', ?_, q2, q3⟩
      simp only [hlt, h0, hwi, decide_true, Bool.and_self, cond_true, cond_false, Int.toNat_natCast, impl_split_eq hwl, Option.bind_some, i1, i2, impl_done, List.drop_zero, List.take_one, List.head?_cons, Option.toList_some, List.length_singleton, hmr1, hmr2, List.take_length, List.length_append, Bool.and_true, q1]

end Go.Proofs.YtcnbnmboaddocaaDoor
