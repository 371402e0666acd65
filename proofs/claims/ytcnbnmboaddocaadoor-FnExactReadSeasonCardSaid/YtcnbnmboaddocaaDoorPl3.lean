/- ReadAct: the spec's and the program's functions answer alike. -/
import Derived.Test.YtcnbnmboaddocaaDoorPl2
namespace Go.Proofs.YtcnbnmboaddocaaDoor
open Go Go.Ab
set_option maxRecDepth 100000
set_option linter.all false

def words : List (List UInt8) := [[], [108, 111, 97, 100], [107, 105, 110, 100, 108, 101], [114, 97, 107, 101], [99, 108, 101, 97, 110], [112, 97, 110, 101], [98, 114, 97, 105, 110], [109, 117, 116, 101], [100, 97, 109, 112, 101, 114], [119, 97, 105, 116]]
def two (k : Int) : Bool := k == 1 || (k == 5 || (k == 6 || k == 8))
def actOK (k a b : Int) : Bool := (decide (1 ≤ k) && decide (k ≤ 9)) && (((decide (0 ≤ a) && decide (a ≤ 999)) && (decide (0 ≤ b) && decide (b ≤ 999))) && (b == 0 || two k))
def actNums (k a b : Int) : List (List UInt8) := if two k then [Lib.itoa a, Lib.itoa b] else [Lib.itoa a]
def actText (k a b : Int) : List UInt8 := (words.getD k.toNat [] ++ [32]) ++ joinL 32 (actNums k a b)

theorem spec_words : spec_l06Words () () = some ((), words, ()) := rfl
theorem impl_words : impl_actWords () () = some ((), words, ()) := rfl
theorem spec_two (k : Int) : spec_l06Two () (k, ()) = some ((), two k, ()) := by
  unfold spec_l06Two two
  cases (k == 1) <;> cases (k == 5) <;> cases (k == 6) <;> cases (k == 8) <;> rfl
theorem impl_two (k : Int) : impl_hasB () (k, ()) = some ((), two k, ()) := by
  unfold impl_hasB two
  cases (k == 1) <;> cases (k == 5) <;> cases (k == 6) <;> cases (k == 8) <;> rfl

theorem spec_in (v a b : Int) : spec_l00In () (v, a, b, ()) = some ((), (decide (a ≤ v) && decide (v ≤ b)), ()) := by
  unfold spec_l00In
  have : decide (v ≥ a) = decide (a ≤ v) := rfl
  simp only [this]
  cases decide (a ≤ v) <;> rfl

theorem spec_act (k a b : Int) : spec_l06Act () ((k, a, b, ()), ()) = some ((), actOK k a b, ()) := by
  unfold spec_l06Act actOK
  simp only [spec_in, spec_two, Option.bind_some]
  cases (decide (1 ≤ k) && decide (k ≤ 9)) <;> cases (decide (0 ≤ a) && decide (a ≤ 999)) <;> cases (decide (0 ≤ b) && decide (b ≤ 999)) <;> cases (b == 0) <;> cases (two k) <;> rfl

theorem impl_act (k a b : Int) : impl_ValidAct () ((k, a, b, ()), ()) = some ((), actOK k a b, ()) := by
  unfold impl_ValidAct actOK
  simp only [impl_two, Option.bind_some, ge_iff_le]
  cases decide (1 ≤ k) <;> cases decide (k ≤ 9) <;> cases decide (0 ≤ a) <;> cases decide (a ≤ 999) <;> cases decide (0 ≤ b) <;> cases decide (b ≤ 999) <;> cases (b == 0) <;> cases (two k) <;> rfl

theorem format10 (n : Int) : lib_FormatInt () (n, 10, ()) = some ((), Lib.itoa n, ()) := rfl

theorem decimals_loop (l : List Int) (hl : l.length ≤ 1048576) : ∀ (n i m : Nat) (acc : List (List UInt8)), i + n = l.length → n < m → acc.length ≤ i →
    impl_decimals.l0 m (((), (acc, ())), ((), (l, (l.length : Int), (i : Int), ()))) = some (((), (acc ++ (l.drop i).map Lib.itoa, ())), ((), ())) := by
  intro n
  induction n with
  | zero =>
    intro i m acc hi hm ha
    obtain ⟨m, rfl⟩ : ∃ k, m = k + 1 := ⟨m - 1, by omega⟩
    obtain rfl : i = l.length := by omega
    simp [impl_decimals.l0, impl_decimals.l0.st]
  | succ n ih =>
    intro i m acc hi hm ha
    obtain ⟨m, rfl⟩ : ∃ k, m = k + 1 := ⟨m - 1, by omega⟩
    have hwi : IntKind.i64.wrap ((i : Int) + 1) = ((i + 1 : Nat) : Int) := by rw [wrap64 (by omega) (by omega)]; rfl
    have hlt : (i : Int) < (l.length : Int) := by omega
    have hlt' : i < l.length := by omega
    have h0 : (0 : Int) ≤ (i : Int) := by omega
    have hd : l.drop i = l.getD i 0 :: l.drop (i + 1) := by
      rw [List.drop_eq_getElem_cons hlt', List.getD_eq_getElem?_getD, List.getElem?_eq_getElem hlt']; rfl
    have hmr : acc.length + 1 ≤ maxRow := by have h : maxRow = 68719476736 := by decide
                                             omega
    rw [hd, List.map_cons, impl_decimals.l0, impl_decimals.l0.st]
    have := ih (i + 1) m (acc ++ [Lib.itoa (l.getD i 0)]) (by omega) (by omega) (by simp; omega)
    simp only [hlt, h0, hwi, decide_true, Bool.and_self, cond_true, Int.toNat_natCast, format10, Option.bind_some, List.drop_zero, List.take_one, List.head?_cons, Option.toList_some, List.length_singleton, hmr, List.take_length, List.length_append, this]
    simp

theorem decimals_eq (l : List Int) (hl : l.length ≤ 1048576) (hj : (joinL 32 (l.map Lib.itoa)).length ≤ 140737488355328) : impl_decimals () (l, ()) = some ((), joinL 32 (l.map Lib.itoa), ()) := by
  have h := decimals_loop l hl l.length 0 fuel [] (by omega) (by unfold fuel; omega) (by simp)
  have e0 : ((0 : Nat) : Int) = 0 := rfl
  rw [e0, List.drop_zero, List.nil_append] at h
  unfold impl_decimals
  simp only [List.length_nil, decide_true, Bool.and_self, cond_true, h, Option.bind_some, List.drop_zero, List.take_length]
  unfold lib_Join
  simp only [join_joinL, List.length_map]
  rw [if_pos ⟨by omega, hj⟩]
  rfl

theorem actOK_bounds {k a b : Int} (h : actOK k a b = true) : 1 ≤ k ∧ k ≤ 9 ∧ 0 ≤ a ∧ a ≤ 999 ∧ 0 ≤ b ∧ b ≤ 999 ∧ (b = 0 ∨ two k = true) := by
  unfold actOK at h
  simp only [Bool.and_eq_true, Bool.or_eq_true, decide_eq_true_eq, beq_iff_eq] at h
  obtain ⟨⟨h1, h2⟩, ⟨⟨h3, h4⟩, h5, h6⟩, h7⟩ := h
  exact ⟨h1, h2, h3, h4, h5, h6, h7⟩

theorem itoa_len {n : Int} (h0 : 0 ≤ n) (h1 : n ≤ 999) : (Lib.itoa n).length ≤ 21 := Lib.itoa_length_le n (by omega) (by omega)

theorem words_len : ∀ k : Nat, (words.getD k []).length ≤ 6 := by
  intro k
  rcases Nat.lt_or_ge k 10 with h | h
  · have : ∀ k : Fin 10, (words.getD k.val []).length ≤ 6 := by decide
    exact this ⟨k, h⟩
  · have : words[k]? = none := List.getElem?_eq_none h
    rw [List.getD_eq_getElem?_getD, this]; simp

theorem impl_text {k a b : Int} (h : actOK k a b = true) : impl_ActText () ((k, a, b, ()), ()) = some ((), actText k a b, ()) := by
  obtain ⟨h1, h2, h3, h4, h5, h6, h7⟩ := actOK_bounds h
  have la := itoa_len h3 h4
  have lb := itoa_len h5 h6
  have lw := words_len k.toNat
  have hk0 : (0 : Int) ≤ k := by omega
  have hk1 : k < ((words.length : Nat) : Int) := by have : words.length = 10 := rfl
                                                    omega
  have hms : maxStr = 281474976710656 := by decide
  have hw1 : (words.getD k.toNat []).length + ([32] : List UInt8).length ≤ maxStr := by simp only [List.length_singleton]; omega
  unfold impl_ActText actText actNums
  simp only [impl_act, h, impl_two, impl_words, Option.bind_some, Bool.not_true, cond_false, hk0, hk1, hw1, decide_true, Bool.and_self, cond_true]
  cases ht : two k with
  | true =>
    have hd := decimals_eq [a, b] (by simp) (by simp [joinL]; omega)
    have hl : (words.getD k.toNat [] ++ [32]).length + (joinL 32 (List.map Lib.itoa [a, b])).length ≤ maxStr := by simp only [joinL, List.map, List.length_append, List.length_cons, List.length_nil]; omega
    simp only [cond_true, List.drop_zero, List.take, hd, Option.bind_some, hl, decide_true, if_true]
    rfl
  | false =>
    have hd := decimals_eq [a] (by simp) (by simp [joinL]; omega)
    have hl : (words.getD k.toNat [] ++ [32]).length + (joinL 32 (List.map Lib.itoa [a])).length ≤ maxStr := by simp only [joinL, List.map, List.length_append, List.length_cons, List.length_nil]; omega
    simp only [cond_false, List.drop_zero, List.take, hd, Option.bind_some, hl, decide_true, cond_true, Bool.false_eq_true, if_false]
    rfl

theorem impl_next_nil (b : Bool) : impl_words_next ([], b, ()) () = some (([], true, ()), [], ()) := rfl
theorem impl_next_cons (w : List UInt8) (r : List (List UInt8)) (b : Bool) : impl_words_next (w :: r, b, ()) () = some ((r, b, ()), w, ()) := by
  unfold impl_words_next
  have e1 : (((w :: r).length : Int) == 0) = false := by rw [beq_eq_false_iff_ne]; simp only [List.length_cons]; omega
  have e2 : (0 : Int) < ((w :: r).length : Int) := by simp only [List.length_cons]; omega
  have e3 : (1 : Int) ≤ ((w :: r).length : Int) := by simp only [List.length_cons]; omega
  simp only [e1, e2, e3, cond_false, cond_true, decide_true, Int.le_refl, Bool.and_self, Int.toNat_natCast, List.drop_succ_cons, List.drop_zero]
  rw [List.length_cons, Nat.add_sub_cancel, List.take_length]
  rfl

theorem parse10 {w : List UInt8} (h : w.length ≤ 140737488355328) : lib_ParseInt () (w, 10, 64, ()) = some ((), (parseI w).1, (parseI w).2, ()) := by
  unfold lib_ParseInt
  rw [if_pos ⟨rfl, rfl, h⟩]

theorem impl_int_nil (b : Bool) : impl_words_integer ([], b, ()) () = some (([], true, ()), 0, ()) := by
  unfold impl_words_integer
  rw [impl_next_nil]
  simp only [Option.bind_some, parse10 (w := []) (by simp)]
  rfl
theorem impl_int_cons {w : List UInt8} (r : List (List UInt8)) (b : Bool) (h : w.length ≤ 140737488355328) : impl_words_integer (w :: r, b, ()) () = some ((r, b || (parseI w).2, ()), (parseI w).1, ()) := by
  unfold impl_words_integer
  rw [impl_next_cons]
  simp only [Option.bind_some, parse10 h]
  cases b <;> rfl
theorem impl_done (ws : List (List UInt8)) (b : Bool) : impl_words_done (ws, b, ()) () = some ((ws, b, ()), (!b && ws.isEmpty), ()) := by
  unfold impl_words_done
  cases b
  · cases ws with
    | nil => rfl
    | cons x r =>
      have e1 : (((x :: r).length : Int) == 0) = false := by rw [beq_eq_false_iff_ne]; simp only [List.length_cons]; omega
      simp only [Bool.not_false, cond_true, e1, List.isEmpty_cons, Bool.and_false]
  · rfl

theorem splitL_len {c : UInt8} : ∀ {l w : List UInt8}, w ∈ splitL c l → w.length ≤ l.length
  | [], w, h => by simp only [splitL, List.mem_singleton] at h; subst h; simp
  | x :: r, w, h => by
    rw [splitL] at h
    split at h
    · simp only [List.mem_cons] at h
      rcases h with rfl | h
      · simp
      · have := splitL_len h; simp only [List.length_cons]; omega
    · split at h
      · rename_i h'; exact absurd h' (splitL_ne c r)
      · rename_i y ys h'
        simp only [List.mem_cons] at h
        rcases h with rfl | h
        · have := splitL_len (c := c) (l := r) (w := y) (by rw [h']; simp)
          simp only [List.length_cons]; omega
        · have := splitL_len (c := c) (l := r) (w := w) (by rw [h']; simp [h])
          simp only [List.length_cons]; omega

theorem impl_split_eq {s : List UInt8} (h : s.length ≤ 1048576) : impl_split () (s, ()) = some ((), splitL 32 s, false, ()) := by
  unfold impl_split lib_Split
  simp only
  rw [if_pos (by omega)]
  rfl

/-- The text of a valid act, and what it spells. -/
def Good (s : List UInt8) (k a b : Int) : Prop := actOK k a b = true ∧ s = actText k a b

theorem itoa_dec {a : Int} (h : 0 ≤ a) : Lib.itoa a = Lib.decDigits a.toNat := by
  have := itoa_nat a.toNat
  rwa [Int.toNat_of_nonneg h] at this

theorem words_no32 : ∀ k : Nat, (32 : UInt8) ∉ words.getD k [] := by
  intro k
  rcases Nat.lt_or_ge k 10 with h | h
  · have : ∀ k : Fin 10, (32 : UInt8) ∉ words.getD k.val [] := by decide
    exact this ⟨k, h⟩
  · have : words[k]? = none := List.getElem?_eq_none h
    rw [List.getD_eq_getElem?_getD, this]; simp

theorem split_text {k a b : Int} (h : actOK k a b = true) : splitL 32 (actText k a b) = words.getD k.toNat [] :: actNums k a b := by
  obtain ⟨h1, h2, h3, h4, h5, h6, h7⟩ := actOK_bounds h
  have na : (32 : UInt8) ∉ Lib.itoa a := by rw [itoa_dec h3]; exact not_mem_dec (by decide)
  have nb : (32 : UInt8) ∉ Lib.itoa b := by rw [itoa_dec h5]; exact not_mem_dec (by decide)
  have nw := words_no32 k.toNat
  unfold actText actNums
  rw [List.append_assoc]
  show splitL 32 (words.getD k.toNat [] ++ 32 :: joinL 32 _) = _
  rw [splitL_cons nw]
  split
  · show _ :: splitL 32 (Lib.itoa a ++ 32 :: Lib.itoa b) = _
    rw [splitL_cons na, splitL_none nb]
  · show _ :: splitL 32 (Lib.itoa a) = _
    rw [splitL_none na]

theorem idx_word {k : Int} (h1 : 1 ≤ k) (h2 : k ≤ 9) : idxL words (words.getD k.toNat []) 0 = k ∧ idxL (words.drop 1) (words.getD k.toNat []) 1 = k := by
  have : ∀ k : Fin 10, 1 ≤ k.val → idxL words (words.getD k.val []) 0 = (k.val : Int) ∧ idxL (words.drop 1) (words.getD k.val []) 1 = (k.val : Int) := by decide
  have h := this ⟨k.toNat, by omega⟩ (by show 1 ≤ k.toNat; omega)
  simp only [Int.toNat_of_nonneg (show (0 : Int) ≤ k by omega)] at h
  exact h

theorem good_words {s : List UInt8} {k a b : Int} (h : Good s k a b) : splitL 32 s = words.getD k.toNat [] :: actNums k a b := by rw [h.2]; exact split_text h.1

theorem parse_itoa {a : Int} (h0 : 0 ≤ a) (h1 : a ≤ 999) : parseI (Lib.itoa a) = (a, false) := by
  have := parseI_itoa (n := a.toNat) (by omega)
  rwa [Int.toNat_of_nonneg h0] at this

end Go.Proofs.YtcnbnmboaddocaaDoor
