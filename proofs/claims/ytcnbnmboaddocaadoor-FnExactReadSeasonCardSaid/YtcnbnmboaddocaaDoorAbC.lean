/- The evaluator, proved sound; part 3 of 3. It holds for any program; the seat's own texts build on it. -/
import Derived.Test.YtcnbnmboaddocaaDoorAbB
import Derived.Shelf.Abstract
import Derived.Below
import Derived.Lib.ConvBytes
import Derived.Lib.LaidTab
import Derived.Lib.Split
import Derived.Lib.SplitLaws
import Derived.Lib.CountLaws
import Derived.Lib.ParseIntB
import Derived.Lib.Join
import Derived.Lib.ItoaNum
import Derived.Lib.IndexBytes
import Derived.Lib.ItoaLen
import Derived.Sort.Grow
import Derived.Deep.Draws
import Derived.ChangeSame
set_option linter.all false

/- ==== Ab47 ==== -/
/- Patterns of states: a state goes on as its pattern says. -/
namespace Go.Ab
open Go
variable [GlobI]

theorem instT_chk (ln : Nat → Nat) : ∀ (p : TP) (d : p.D), (instT ln p d).noTup = true := by
  intro p d
  cases p with
  | dat fr t => exact mk_noTup fr t d
  | own b t => rfl
  | st ps => rfl

theorem matchT_own (H : Heap) (src : Nat → Option Nat) (ln : Nat → Nat) (b : Nat) (t : Ty) (v : AV) : matchT H src ln (.own b t) v = (match v with
    | .own s [] 0 len t' => if t'.beq t then match src b with
      | some s' => if s' = s then some (decide (len = ln b), ()) else none
      | none => none
      else none
    | .nils => some (decide (0 = ln b), ())
    | _ => none) := rfl
theorem matchT_st (H : Heap) (src : Nat → Option Nat) (ln : Nat → Nat) (ps : TPL) (v : AV) : matchT H src ln (.st ps) v = (match v with
    | .agg vs => matchTL H src ln ps vs
    | _ => none) := rfl
theorem matchTL_nil (H : Heap) (src : Nat → Option Nat) (ln : Nat → Nat) (v : List AV) : matchTL H src ln .nil v = (match v with
    | [] => some (true, ())
    | _ => none) := rfl
theorem matchTL_cons (H : Heap) (src : Nat → Option Nat) (ln : Nat → Nat) (p : TP) (r : TPL) (v : List AV) : matchTL H src ln (.cons p r) v = (match v with
    | v :: vs => match matchT H src ln p v, matchTL H src ln r vs with
      | some a, some b => some (a.1 && b.1, (a.2, b.2))
      | _, _ => none
    | [] => none) := rfl

section
variable {S F S' F' : Nat → Prop} {m m' : Map} {w : World} {H : Heap} {n : Nat} {src : Nat → Option Nat} {ln : Nat → Nat}

mutual
theorem matchT_ok (hFS : ∀ c, F c → S c) (hS : ∀ c, S c → S' c) (hF : ∀ c, F c → F' c) (hFS' : ∀ c, F' c → S' c) (hown : ∀ b s, src b = some s → ∀ len t v, len = ln b → SlR m s [] 0 len t v → SlR m' b [] 0 (ln b) t v) :
    ∀ (p : TP) (v : AV) (cs : List Value) (c : Bool) (d : p.D), TR S F m w p.ty v cs → matchT H src ln p v = some (c, d) → c = true → TR S' F' m' w p.ty (instT ln p d) cs
  | .dat fr t, v, cs, c, d, h, hm, _ => by
    have hm : (if chk t v && noOwn t v && (!fr || isFr t v) then (un H t v).map fun d => (true, d) else none) = some (c, d) := hm
    split at hm
    · rename_i hc
      simp only [Bool.and_eq_true, Bool.or_eq_true, Bool.not_eq_true'] at hc
      obtain ⟨d', hd, e⟩ := Option.map_eq_some_iff.1 hm
      cases e
      have h1 := TR_un hFS H t v cs d h hc.1.2 hd
      show TR S' F' m' w t (mk fr t d) cs
      refine TR_mk hFS' fr t d cs ?_
      cases fr with
      | false => exact CR_mono hS (fun _ _ => rfl) _ _ _ h1.1
      | true =>
        have : isFr t v = true := by simpa using hc.2
        exact CR_mono hF (fun _ _ => rfl) _ _ _ (h1.2 this)
    · cases hm
  | .own b t, v, cs, c, d, h, hm, hc => by
    subst hc
    rw [matchT_own] at hm
    cases v with
    | own s q off len t' =>
      cases q with
      | cons i q => exact absurd hm (by simp)
      | nil =>
        cases off with
        | succ off => exact absurd hm (by simp)
        | zero =>
          have hm2 : (if t'.beq t then match src b with
            | some s' => if s' = s then some (decide (len = ln b), ()) else none
            | none => none
            else none) = some (true, d) := hm
          clear hm
          split at hm2
          · rename_i ht
            have ht := Ty.eq_of_beq ht; subst ht
            split at hm2
            · rename_i s' hs'
              split at hm2
              · rename_i he
                subst he
                have hlen : len = ln b := of_decide_eq_true (congrArg Prod.fst (Option.some.inj hm2))
                have h : TR S F m w (.sl t') (.own s' [] 0 len t') cs := h
                simp only [TR] at h
                obtain ⟨_, _, v, rfl, hsl⟩ := h
                show TR S' F' m' w (.sl t') (.own b [] 0 (ln b) t') [v]
                simp only [TR]
                exact ⟨trivial, trivial, v, rfl, hown b s' hs' len t' v hlen hsl⟩
              · cases hm2
            · cases hm2
          · cases hm2
    | nils =>
      have hm : some (decide (0 = ln b), ()) = some (true, d) := hm
      have hlen : 0 = ln b := of_decide_eq_true (congrArg Prod.fst (Option.some.inj hm))
      have h : TR S F m w (.sl t) .nils cs := h
      simp only [TR] at h
      obtain ⟨a, rfl⟩ := h
      show TR S' F' m' w (.sl t) (.own b [] 0 (ln b) t) _
      simp only [TR]
      exact ⟨trivial, trivial, _, rfl, .inl ⟨hlen.symm, a, rfl⟩⟩
    | _ => exact absurd hm (by simp)
  | .st ps, v, cs, c, d, h, hm, hc => by
    rw [matchT_st] at hm
    cases v with
    | agg vs =>
      have hm : matchTL H src ln ps vs = some (c, d) := hm
      have h : TR S F m w (.st ps.tys) (.agg vs) cs := h
      simp only [TR] at h
      show TR S' F' m' w (.st ps.tys) (.agg (instTL ln ps d)) cs
      simp only [TR]
      exact matchTL_ok hFS hS hF hFS' hown ps vs cs c d h hm hc
    | _ => exact absurd hm (by simp)
theorem matchTL_ok (hFS : ∀ c, F c → S c) (hS : ∀ c, S c → S' c) (hF : ∀ c, F c → F' c) (hFS' : ∀ c, F' c → S' c) (hown : ∀ b s, src b = some s → ∀ len t v, len = ln b → SlR m s [] 0 len t v → SlR m' b [] 0 (ln b) t v) :
    ∀ (p : TPL) (v : List AV) (cs : List Value) (c : Bool) (d : p.D), TRL S F m w p.tys v cs → matchTL H src ln p v = some (c, d) → c = true → TRL S' F' m' w p.tys (instTL ln p d) cs
  | .nil, v, cs, c, d, h, hm, _ => by
    rw [matchTL_nil] at hm
    cases v with
    | nil =>
      have h : TRL S F m w .nil [] cs := h
      simp only [TRL] at h
      show TRL S' F' m' w .nil [] cs
      simp only [TRL]
      exact h
    | cons x v => exact absurd hm (by simp)
  | .cons p r, v, cs, c, d, h, hm, hc => by
    rw [matchTL_cons] at hm
    cases v with
    | nil => exact absurd hm (by simp)
    | cons x v =>
      have hm : (match matchT H src ln p x, matchTL H src ln r v with
        | some a, some b => some (a.1 && b.1, (a.2, b.2))
        | _, _ => none) = some (c, d) := hm
      cases ha : matchT H src ln p x with
      | none => rw [ha] at hm; cases hm
      | some a =>
      cases hb : matchTL H src ln r v with
      | none => rw [ha, hb] at hm; cases hm
      | some b =>
        rw [ha, hb] at hm
        cases hm
        have hc : a.1 = true ∧ b.1 = true := by simpa using hc
        have h : TRL S F m w (.cons p.ty r.tys) (x :: v) cs := h
        simp only [TRL] at h
        obtain ⟨c1, c2, h0, h1, h2⟩ := h
        show TRL S' F' m' w (.cons p.ty r.tys) (instT ln p a.2 :: instTL ln r b.2) cs
        simp only [TRL]
        exact ⟨c1, c2, h0, matchT_ok hFS hS hF hFS' hown p x c1 a.1 a.2 h1 ha hc.1, matchTL_ok hFS hS hF hFS' hown r v c2 b.1 b.2 h2 hb hc.2⟩
end

theorem matchU_ok (hFS : ∀ c, F c → S c) (hS : ∀ c, S c → S' c) (hF : ∀ c, F c → F' c) (hFS' : ∀ c, F' c → S' c) (hown : ∀ b s, src b = some s → ∀ len t v, len = ln b → SlR m s [] 0 len t v → SlR m' b [] 0 (ln b) t v)
    (href : ∀ b, b < n → src b = some b → ∀ x, m b = some x → m' b = some x) {p : UPat} {x : AV} {v : Value} (h : UR S F m w x v) (hm : matchU H n src ln p x = some true) : UR S' F' m' w (instU ln p) v := by
  cases p with
  | junk => trivial
  | own b t =>
    have hm : (if chk (.sl t) x then (matchT H src ln (.own b t) x).map Prod.fst else none) = some true := hm
    split at hm
    · rename_i hk
      obtain ⟨⟨c, d⟩, h1, h2⟩ := Option.map_eq_some_iff.1 hm
      have h2 : c = true := h2
      obtain ⟨cs, h3, rfl⟩ := UR_chk h hk
      exact UR_cells (matchT_ok hFS hS hF hFS' hown (.own b t) x cs c d h3 h1 h2)
    · cases hm
  | ref b q t =>
    cases x with
    | ref b' q' t' =>
      have hm : (if b' = b ∧ q' = q ∧ t'.beq t = true ∧ b < n ∧ src b = some b then some true else none) = some true := hm
      split at hm
      · rename_i hk
        obtain ⟨rfl, rfl, ht, hn, hs⟩ := hk
        have ht := Ty.eq_of_beq ht; subst ht
        obtain ⟨c1, pt, o, h1, h2⟩ := h
        exact ⟨c1, pt, o, href b' hn hs _ h1, h2⟩
      · cases hm
    | _ => exact absurd hm (by simp [matchU])
  | fn f =>
    cases x with
    | fn f' =>
      have hm : (if f' = f then some true else none) = some true := hm
      split at hm
      · rename_i hk
        subst hk
        exact h
      · cases hm
    | _ => exact absurd hm (by simp [matchU])

theorem matchV_ok (hFS : ∀ c, F c → S c) (hS : ∀ c, S c → S' c) (hF : ∀ c, F c → F' c) (hFS' : ∀ c, F' c → S' c) (hown : ∀ b s, src b = some s → ∀ len t v, len = ln b → SlR m s [] 0 len t v → SlR m' b [] 0 (ln b) t v)
    {p : TP} {x : AV} {v : Value} {d : p.D} (h : UR S F m w x v) (hm : matchV H src ln p x = some (true, d)) : UR S' F' m' w (instT ln p d) v := by
  unfold matchV at hm
  split at hm
  · rename_i hk
    obtain ⟨cs, h1, rfl⟩ := UR_chk h hk
    exact UR_cells (matchT_ok hFS hS hF hFS' hown p x cs true d h1 hm rfl)
  · cases hm

theorem matchI_ok (hFS : ∀ c, F c → S c) (hS : ∀ c, S c → S' c) (hFS' : ∀ c, F' c → S' c) {t : Ty} {x : AV} {v : Value} {d : t.D} (h : UR S F m w x v) (hm : matchI H t x = some d) : UR S' F' m' w (.iref t (mk false t d)) v := by
  unfold matchI at hm
  split at hm
  · rename_i t' y
    split at hm
    · rename_i hk
      simp only [Bool.and_eq_true] at hk
      have ht := Ty.eq_of_beq hk.1; subst ht
      obtain ⟨c1, o, cs, xs, zs, h1, h2, h3, h4, h5⟩ := h
      exact ⟨c1, o, cs, xs, zs, h1, hS c1 h2, h3, h4, TR_mk hFS' false t' d cs (CR_mono hS (fun _ _ => rfl) _ _ _ (TR_un hFS H t' y cs d h5 hk.2 hm).1)⟩
    · cases hm
  · cases hm

theorem matchPs_ok (hFS : ∀ c, F c → S c) (hS : ∀ c, S c → S' c) (hF : ∀ c, F c → F' c) (hFS' : ∀ c, F' c → S' c) (hown : ∀ b s, src b = some s → ∀ len t v, len = ln b → SlR m s [] 0 len t v → SlR m' b [] 0 (ln b) t v)
    (href : ∀ b, b < n → src b = some b → ∀ x, m b = some x → m' b = some x) : ∀ (ps : List Pat) (xs : List AV) (d : PatsD ps), matchPs H n src ln ps xs = some (true, d) → (instPs ln ps d).length = xs.length ∧
    ∀ (i : Nat) (v : Value), UR S F m w (xs.getD i .junk) v → UR S' F' m' w ((instPs ln ps d).getD i .junk) v
  | [], xs, d, hm => by
    cases xs with
    | nil => exact ⟨rfl, fun i v _ => by simp [instPs]; trivial⟩
    | cons x xs => exact absurd hm (by simp [matchPs])
  | .u p :: ps, xs, d, hm => by
    cases xs with
    | nil => exact absurd hm (by simp [matchPs])
    | cons x xs =>
      have hm : (match matchU H n src ln p x, matchPs H n src ln ps xs with
        | some a, some b => some (a && b.1, b.2)
        | _, _ => none) = some (true, d) := hm
      cases ha : matchU H n src ln p x with
      | none => rw [ha] at hm; cases hm
      | some a =>
      cases hb : matchPs H n src ln ps xs with
      | none => rw [ha, hb] at hm; cases hm
      | some b =>
        obtain ⟨b1, b2⟩ := b
        rw [ha, hb] at hm
        have hm := Option.some.inj hm
        have hc : a = true ∧ b1 = true := by have := congrArg Prod.fst hm; simpa using this
        obtain ⟨rfl, rfl⟩ := hc
        have hd : b2 = d := congrArg Prod.snd hm
        subst hd
        have ih := matchPs_ok hFS hS hF hFS' hown href ps xs b2 hb
        refine ⟨congrArg (· + 1) ih.1, fun i v hv => ?_⟩
        cases i with
        | zero => exact matchU_ok hFS hS hF hFS' hown href hv ha
        | succ i => exact ih.2 i v hv
  | .val p :: ps, xs, d, hm => by
    cases xs with
    | nil => exact absurd hm (by simp [matchPs])
    | cons x xs =>
      have hm : (match matchV H src ln p x, matchPs H n src ln ps xs with
        | some a, some b => some (a.1 && b.1, (a.2, b.2))
        | _, _ => none) = some (true, d) := hm
      cases ha : matchV H src ln p x with
      | none => rw [ha] at hm; cases hm
      | some a =>
      cases hb : matchPs H n src ln ps xs with
      | none => rw [ha, hb] at hm; cases hm
      | some b =>
        obtain ⟨a1, a2⟩ := a
        obtain ⟨b1, b2⟩ := b
        rw [ha, hb] at hm
        have hm := Option.some.inj hm
        have hc : a1 = true ∧ b1 = true := by have := congrArg Prod.fst hm; simpa using this
        obtain ⟨rfl, rfl⟩ := hc
        have hd : (a2, b2) = d := congrArg Prod.snd hm
        subst hd
        have ih := matchPs_ok hFS hS hF hFS' hown href ps xs b2 hb
        refine ⟨congrArg (· + 1) ih.1, fun i v hv => ?_⟩
        cases i with
        | zero => exact matchV_ok hFS hS hF hFS' hown hv ha
        | succ i => exact ih.2 i v hv
  | .iref t :: ps, xs, d, hm => by
    cases xs with
    | nil => exact absurd hm (by simp [matchPs])
    | cons x xs =>
      have hm : (match matchI H t x, matchPs H n src ln ps xs with
        | some a, some b => some (b.1, (a, b.2))
        | _, _ => none) = some (true, d) := hm
      cases ha : matchI H t x with
      | none => rw [ha] at hm; cases hm
      | some a =>
      cases hb : matchPs H n src ln ps xs with
      | none => rw [ha, hb] at hm; cases hm
      | some b =>
        obtain ⟨b1, b2⟩ := b
        rw [ha, hb] at hm
        have hm := Option.some.inj hm
        have hc : b1 = true := congrArg Prod.fst hm
        subst hc
        have hd : (a, b2) = d := congrArg Prod.snd hm
        subst hd
        have ih := matchPs_ok hFS hS hF hFS' hown href ps xs b2 hb
        refine ⟨congrArg (· + 1) ih.1, fun i v hv => ?_⟩
        cases i with
        | zero => exact matchI_ok hFS hS hFS' hv ha
        | succ i => exact ih.2 i v hv
end
end Go.Ab

/- ==== Ab48 ==== -/
/- Patterns of states: the heap. -/
namespace Go.Ab
open Go
variable [GlobI]

omit [GlobI] in
theorem rowD_ok {fr : Bool} {t : Ty} {k : Option Blk} {l : List t.D} (h : rowD fr t k = some l) : ∃ fr', k = some (.row true fr' t l) ∧ (fr = true → fr' = true) := by
  unfold rowD at h
  split at h
  · rename_i fr' t' l'
    split at h
    · rename_i hc
      obtain ⟨e, rfl⟩ := castL_eq h
      subst e
      exact ⟨fr', rfl, fun hf => by subst hf; simpa using hc⟩
    · cases h
  · cases h

omit [GlobI] in
theorem instB_length (ln : Nat → Nat) : ∀ (bs : List BP) (rd : RowsD bs) (bd : BoxD bs), (instB ln bs rd bd).length = bs.length
  | [], _, _ => rfl
  | .dead :: r, rd, bd => congrArg (· + 1) (instB_length ln r rd bd)
  | .row _ _ :: r, rd, bd => congrArg (· + 1) (instB_length ln r rd.2 bd)
  | .box _ :: r, rd, bd => congrArg (· + 1) (instB_length ln r rd bd.2)

omit [GlobI] in
theorem lnR_length : ∀ (bs : List BP) (rd : RowsD bs), (lnR bs rd).length = bs.length
  | [], _ => rfl
  | .dead :: r, rd => congrArg (· + 1) (lnR_length r rd)
  | .row fr t :: r, rd => congrArg (· + 1) (lnR_length r rd.2)
  | .box _ :: r, rd => congrArg (· + 1) (lnR_length r rd)

omit [GlobI] in
theorem instX_length : ∀ (xs : List XRow) (xd : XRowsD xs), (instX xs xd).length = xs.length
  | [], _ => rfl
  | x :: r, xd => congrArg (· + 1) (instX_length r xd.2)

omit [GlobI] in
theorem instB_dead (ln : Nat → Nat) : ∀ (bs : List BP) (rd : RowsD bs) (bd : BoxD bs) (b : Nat), bs[b]? = some .dead → (instB ln bs rd bd)[b]? = some .dead
  | [], _, _, b, h => by simp at h
  | .dead :: r, rd, bd, 0, h => rfl
  | .row fr t :: r, rd, bd, 0, h => by simp at h
  | .box p :: r, rd, bd, 0, h => by simp at h
  | .dead :: r, rd, bd, b + 1, h => instB_dead ln r rd bd b h
  | .row _ _ :: r, rd, bd, b + 1, h => instB_dead ln r rd.2 bd b h
  | .box _ :: r, rd, bd, b + 1, h => instB_dead ln r rd bd.2 b h

omit [GlobI] in
theorem matchR_ok (ln : Nat → Nat) : ∀ (bs : List BP) (K : List Blk) (rd : RowsD bs), matchR bs K = some rd → ∀ (b : Nat) (fr : Bool) (t : Ty), bs[b]? = some (.row fr t) →
    ∃ fr' l, K[b]? = some (.row true fr' t l) ∧ (fr = true → fr' = true) ∧ (∀ bd, (instB ln bs rd bd)[b]? = some (.row true fr t l)) ∧ (lnR bs rd)[b]? = some l.length
  | [], _, _, _, b, _, _, h => by simp at h
  | .row fr0 t0 :: r, K, rd, hm, b, fr, t, h => by
    cases K with
    | nil => exact absurd hm (by simp [matchR])
    | cons k K =>
      have hm : (match rowD fr0 t0 (some k), matchR r K with
        | some l, some d => some (l, d)
        | _, _ => none) = some rd := hm
      cases ha : rowD fr0 t0 (some k) with
      | none => rw [ha] at hm; cases hm
      | some l =>
      cases hb : matchR r K with
      | none => rw [ha, hb] at hm; cases hm
      | some d =>
        rw [ha, hb] at hm
        cases hm
        cases b with
        | zero =>
          simp only [List.getElem?_cons_zero, Option.some.injEq, BP.row.injEq] at h
          obtain ⟨rfl, rfl⟩ := h
          obtain ⟨fr', e, h2⟩ := rowD_ok ha
          exact ⟨fr', l, by simpa using e, h2, fun bd => rfl, rfl⟩
        | succ b =>
          obtain ⟨fr', l', h1, h2, h3, h4⟩ := matchR_ok ln r K d hb b fr t h
          exact ⟨fr', l', h1, h2, fun bd => h3 bd, h4⟩
  | .dead :: r, K, rd, hm, b, fr, t, h => by
    cases K with
    | nil => exact absurd hm (by simp [matchR])
    | cons k K =>
      have hm : matchR r K = some rd := hm
      cases b with
      | zero => simp at h
      | succ b =>
        obtain ⟨fr', l', h1, h2, h3, h4⟩ := matchR_ok ln r K rd hm b fr t h
        exact ⟨fr', l', h1, h2, fun bd => h3 bd, h4⟩
  | .box p :: r, K, rd, hm, b, fr, t, h => by
    cases K with
    | nil => exact absurd hm (by simp [matchR])
    | cons k K =>
      have hm : matchR r K = some rd := hm
      cases b with
      | zero => simp at h
      | succ b =>
        obtain ⟨fr', l', h1, h2, h3, h4⟩ := matchR_ok ln r K rd hm b fr t h
        exact ⟨fr', l', h1, h2, fun bd => h3 bd.2, h4⟩

omit [GlobI] in
theorem matchB_ok (H : Heap) (src : Nat → Option Nat) (ln : Nat → Nat) : ∀ (bs : List BP) (K : List Blk) (c : Bool) (bd : BoxD bs), matchB H src ln bs K = some (c, bd) → c = true → ∀ (b : Nat) (p : TP), bs[b]? = some (.box p) →
    ∃ v d, K[b]? = some (.box p.ty v) ∧ matchT H src ln p v = some (true, d) ∧ ∀ rd, (instB ln bs rd bd)[b]? = some (.box p.ty (instT ln p d))
  | [], _, _, _, _, _, b, _, h => by simp at h
  | .box p0 :: r, K, c, bd, hm, hc, b, p, h => by
    cases K with
    | nil => exact absurd hm (by simp [matchB])
    | cons k K =>
      cases k with
      | box T v =>
        have hm : (match matchT H src ln p0 v, matchB H src ln r K with
          | some a, some b => if T.beq p0.ty then some (a.1 && b.1, (a.2, b.2)) else none
          | _, _ => none) = some (c, bd) := hm
        cases ha : matchT H src ln p0 v with
        | none => rw [ha] at hm; cases hm
        | some a =>
        cases hb : matchB H src ln r K with
        | none => rw [ha, hb] at hm; cases hm
        | some d =>
          rw [ha, hb] at hm
          simp only at hm
          split at hm
          · rename_i hk
            cases hm
            have hc : a.1 = true ∧ d.1 = true := by simpa using hc
            obtain ⟨a1, a2⟩ := a
            obtain ⟨d1, d2⟩ := d
            obtain ⟨rfl, rfl⟩ := hc
            cases b with
            | zero =>
              simp only [List.getElem?_cons_zero, Option.some.injEq, BP.box.injEq] at h
              subst h
              have hk := Ty.eq_of_beq hk
              subst hk
              exact ⟨v, a2, rfl, ha, fun rd => rfl⟩
            | succ b =>
              obtain ⟨v', e, h1, h2, h4⟩ := matchB_ok H src ln r K true d2 hb rfl b p h
              exact ⟨v', e, h1, h2, fun rd => h4 rd⟩
          · cases hm
      | dead => exact absurd hm (by simp [matchB])
      | row mu fr t l => exact absurd hm (by simp [matchB])
  | .dead :: r, K, c, bd, hm, hc, b, p, h => by
    cases K with
    | nil => exact absurd hm (by simp [matchB])
    | cons k K =>
      have hm : matchB H src ln r K = some (c, bd) := hm
      cases b with
      | zero => simp at h
      | succ b =>
        obtain ⟨v', e, h1, h2, h4⟩ := matchB_ok H src ln r K c bd hm hc b p h
        exact ⟨v', e, h1, h2, fun rd => h4 rd⟩
  | .row fr t :: r, K, c, bd, hm, hc, b, p, h => by
    cases K with
    | nil => exact absurd hm (by simp [matchB])
    | cons k K =>
      have hm : matchB H src ln r K = some (c, bd) := hm
      cases b with
      | zero => simp at h
      | succ b =>
        obtain ⟨v', e, h1, h2, h4⟩ := matchB_ok H src ln r K c bd hm hc b p h
        exact ⟨v', e, h1, h2, fun rd => h4 rd.2⟩

omit [GlobI] in
theorem matchX_ok (st : St) : ∀ (xs : List XRow) (xd : XRowsD xs) (ss : List (Option Nat)), matchX st xs = some (xd, ss) → ss.length = xs.length ∧ ∀ (j : Nat) (x : XRow), xs[j]? = some x →
    ∃ l : List x.t.D, (instX xs xd)[j]? = some (.row true x.fr x.t l) ∧ (lnX xs xd)[j]? = some l.length ∧
      ((ss[j]? = some none ∧ l = []) ∨ ∃ s fr' l0 k, ss[j]? = some (some s) ∧ st.heap[s]? = some (.row true fr' x.t l0) ∧ (x.fr = true → fr' = true) ∧ l = l0.take k)
  | [], xd, ss, hm => by cases hm; exact ⟨rfl, fun j x h => by simp at h⟩
  | x0 :: r, xd, ss, hm => by
    simp only [matchX] at hm
    split at hm
    · cases hm
    · rename_i d hd
      have ih := matchX_ok st r d.1 d.2 hd
      split at hm
      · rename_i s len t' hloc
        split at hm
        · rename_i l0 hl
          cases hm
          obtain ⟨fr', e, h2⟩ := rowD_ok hl
          refine ⟨by simp [ih.1], fun j x h => ?_⟩
          cases j with
          | zero =>
            simp only [List.getElem?_cons_zero, Option.some.injEq] at h
            subst h
            refine ⟨_, rfl, rfl, .inr ⟨s, fr', l0, if x0.cut then len else l0.length, rfl, e, h2, ?_⟩⟩
            split
            · rfl
            · simp
          | succ j => exact ih.2 j x h
        · cases hm
      · cases hm
        refine ⟨by simp [ih.1], fun j x h => ?_⟩
        cases j with
        | zero =>
          simp only [List.getElem?_cons_zero, Option.some.injEq] at h
          subst h
          exact ⟨[], rfl, rfl, .inl ⟨rfl, rfl⟩⟩
        | succ j => exact ih.2 j x h
      · cases hm

omit [GlobI] in
theorem srcsOk_ok (bs : List BP) : ∀ (ss : List (Option Nat)), srcsOk bs ss = true → (∀ (i j s : Nat), ss[i]? = some (some s) → ss[j]? = some (some s) → i = j) ∧ ∀ (i s : Nat), ss[i]? = some (some s) → ∀ k, bs[s]? = some k → k = .dead
  | [], _ => ⟨fun i j s h => by simp at h, fun i s h => by simp at h⟩
  | none :: r, h => by
    have ih := srcsOk_ok bs r h
    refine ⟨fun i j s h1 h2 => ?_, fun i s h1 => ?_⟩
    · cases i with
      | zero => simp at h1
      | succ i =>
        cases j with
        | zero => simp at h2
        | succ j => exact congrArg (· + 1) (ih.1 i j s h1 h2)
    · cases i with
      | zero => simp at h1
      | succ i => exact ih.2 i s h1
  | some s0 :: r, h => by
    simp only [srcsOk, Bool.and_eq_true, Bool.not_eq_true', List.contains_eq_mem, decide_eq_false_iff_not] at h
    obtain ⟨⟨h1, h2⟩, h3⟩ := h
    have ih := srcsOk_ok bs r h3
    refine ⟨fun i j s g1 g2 => ?_, fun i s g1 => ?_⟩
    · cases i with
      | zero =>
        cases j with
        | zero => rfl
        | succ j =>
          simp only [List.getElem?_cons_zero, Option.some.injEq, List.getElem?_cons_succ] at g1 g2
          subst g1
          exact absurd (List.mem_of_getElem? g2) h1
      | succ i =>
        cases j with
        | zero =>
          simp only [List.getElem?_cons_zero, Option.some.injEq, List.getElem?_cons_succ] at g1 g2
          subst g2
          exact absurd (List.mem_of_getElem? g1) h1
        | succ j => exact congrArg (· + 1) (ih.1 i j s g1 g2)
    · cases i with
      | zero =>
        simp only [List.getElem?_cons_zero, Option.some.injEq] at g1
        subst g1
        intro k hk
        rw [hk] at h2
        cases k <;> simp_all [BP.live]
      | succ i => exact ih.2 i s g1
end Go.Ab

/- ==== Ab49 ==== -/
/- Patterns of states: the state. -/
namespace Go.Ab
open Go
variable [GlobI]

def PT.trunc (n : Nat) : PT → PT
  | .rows T _ cap => .rows T n cap
  | pt => pt

/-- The names as a pattern gives them anew. -/
def mapS (L : Nat) (ss : List (Option Nat)) (ln : Nat → Nat) (m : Map) : Map := fun b =>
  if b < L then m b else match (ss[b - L]?).join with
    | some s => (m s).map fun x => (x.1, x.2.trunc (ln b))
    | none => none

section
variable {p : SPat} {st : St} {rd : RowsD p.heap} {xd : XRowsD p.rows} {bd : BoxD p.heap} {td : PatsD p.tmps} {ss : List (Option Nat)}

/-- A block goes on from another one. -/
def SrcB (bs : List BP) (ss : List (Option Nat)) (b s : Nat) : Prop :=
  (b < bs.length ∧ s = b ∧ ∃ k, bs[b]? = some k ∧ k ≠ .dead) ∨ (bs.length ≤ b ∧ ss[b - bs.length]? = some (some s))

omit [GlobI] in
theorem SrcB.inj {bs : List BP} {ss : List (Option Nat)} (hs : srcsOk bs ss = true) {b b' s : Nat} (h : SrcB bs ss b s) (h' : SrcB bs ss b' s) : b = b' := by
  have hk := srcsOk_ok bs ss hs
  rcases h with ⟨h1, rfl, k, h2, h3⟩ | ⟨h1, h2⟩
  · rcases h' with ⟨g1, rfl, _⟩ | ⟨g1, g2⟩
    · rfl
    · exact absurd (hk.2 _ _ g2 k h2) h3
  · rcases h' with ⟨g1, rfl, k, g2, g3⟩ | ⟨g1, g2⟩
    · exact absurd (hk.2 _ _ h2 k g2) g3
    · have := hk.1 _ _ _ h2 g2; omega

theorem heapS_lt (ln : Nat → Nat) {b : Nat} (hb : b < p.heap.length) : (instB ln p.heap rd bd ++ instX p.rows xd)[b]? = (instB ln p.heap rd bd)[b]? :=
  List.getElem?_append_left (by rw [instB_length]; exact hb)

theorem heapS_ge (ln : Nat → Nat) {b : Nat} (hb : p.heap.length ≤ b) : (instB ln p.heap rd bd ++ instX p.rows xd)[b]? = (instX p.rows xd)[b - p.heap.length]? := by
  rw [List.getElem?_append_right (by rw [instB_length]; exact hb), instB_length]

/-- What a live block of the new state comes from. -/
theorem heapS_src {ln : Nat → Nat} {src : Nat → Option Nat} (hR : matchR p.heap st.heap = some rd) (hX : matchX st p.rows = some (xd, ss)) (hB : matchB st.heap src ln p.heap st.heap = some (true, bd)) {m : Map} {b c : Nat} {pt : PT}
    (hm : mapS p.heap.length ss ln m b = some (c, pt)) (hd : deadB (instB ln p.heap rd bd ++ instX p.rows xd)[b]? = false) :
    ∃ s pt0, SrcB p.heap ss b s ∧ m s = some (c, pt0) ∧ mutB st.heap[s]? = true := by
  by_cases hb : b < p.heap.length
  · simp only [mapS, if_pos hb] at hm
    rw [heapS_lt ln hb] at hd
    have hk : p.heap[b]? = some p.heap[b] := List.getElem?_eq_getElem hb
    cases hbp : p.heap[b] with
    | dead =>
      rw [hbp] at hk
      rw [instB_dead ln p.heap rd bd b hk] at hd
      simp [deadB] at hd
    | row fr t =>
      rw [hbp] at hk
      obtain ⟨fr', l, h1, _⟩ := matchR_ok ln p.heap st.heap rd hR b fr t hk
      exact ⟨b, pt, .inl ⟨hb, rfl, _, hk, by simp⟩, hm, by rw [h1]; rfl⟩
    | box q =>
      rw [hbp] at hk
      obtain ⟨v, e, h1, _⟩ := matchB_ok st.heap src ln p.heap st.heap true bd hB rfl b q hk
      exact ⟨b, pt, .inl ⟨hb, rfl, _, hk, by simp⟩, hm, by rw [h1]; rfl⟩
  · simp only [mapS, if_neg hb] at hm
    split at hm
    · rename_i s hs
      obtain ⟨⟨c0, pt0⟩, h1, h2⟩ := Option.map_eq_some_iff.1 hm
      cases h2
      have hss : ss[b - p.heap.length]? = some (some s) := by
        cases hx : ss[b - p.heap.length]? with
        | none => rw [hx] at hs; cases hs
        | some x => rw [hx] at hs; simp at hs; rw [hs]
      have hlen := (matchX_ok st p.rows xd ss hX).1
      have hj : b - p.heap.length < p.rows.length := by
        rcases Nat.lt_or_ge (b - p.heap.length) ss.length with h | h
        · omega
        · rw [List.getElem?_eq_none h] at hss; cases hss
      obtain ⟨l, _, _, h3⟩ := (matchX_ok st p.rows xd ss hX).2 _ _ (List.getElem?_eq_getElem hj)
      rcases h3 with ⟨h3, _⟩ | ⟨s', fr', l0, k, h3, h4, _⟩
      · rw [hss] at h3; cases h3
      · rw [hss] at h3; cases h3
        exact ⟨s, pt0, .inr ⟨by omega, hss⟩, h1, by rw [h4]; rfl⟩
    · cases hm

theorem lens_row {b : Nat} {n : Nat} (h : (lnR p.heap rd)[b]? = some n) : lens p (rd, xd) b = n := by
  have : b < (lnR p.heap rd).length := by
    rcases Nat.lt_or_ge b (lnR p.heap rd).length with h1 | h1
    · exact h1
    · rw [List.getElem?_eq_none h1] at h; cases h
  unfold lens
  rw [List.getD_eq_getElem?_getD, List.getElem?_append_left this, h]; rfl

theorem lens_x {b : Nat} {n : Nat} (hb : p.heap.length ≤ b) (h : (lnX p.rows xd)[b - p.heap.length]? = some n) : lens p (rd, xd) b = n := by
  unfold lens
  rw [List.getD_eq_getElem?_getD, List.getElem?_append_right (by rw [lnR_length]; exact hb), lnR_length, h]; rfl

theorem canon_main (hR : matchR p.heap st.heap = some rd) (hX : matchX st p.rows = some (xd, ss)) (hok : srcsOk p.heap ss = true)
    (hB : matchB st.heap (srcOf p.heap ss) (lens p (rd, xd)) p.heap st.heap = some (true, bd)) (hP : matchPs st.heap p.heap.length (srcOf p.heap ss) (lens p (rd, xd)) p.tmps st.tmps = some (true, td))
    {X : Ctx} {E : Start} {m : Map} {a : Act} {w : World} (hs : SR X E st m a w) (hE : E.n ≤ p.heap.length) : ∃ m', SR X E (instS p ((rd, xd), (bd, td))) m' a w := by
  have hr := hs.hr
  let ln := lens p (rd, xd)
  let m' := mapS p.heap.length ss ln m
  let H' := instB ln p.heap rd bd ++ instX p.rows xd
  have hsrc : ∀ b c pt, m' b = some (c, pt) → deadB H'[b]? = false → ∃ s pt0, SrcB p.heap ss b s ∧ m s = some (c, pt0) ∧ mutB st.heap[s]? = true := fun b c pt hm hd => heapS_src hR hX hB hm hd
  have live_of : ∀ {k : Option Blk}, mutB k = true → deadB k = false := by
    intro k hk; cases k with
    | none => cases hk
    | some k => cases k <;> simp_all [mutB, deadB]
  have hSS : ∀ c, SS X (fun b => st.heap[b]?) m w c → SS X (fun b => H'[b]?) m' w c := fun c hc => ⟨hc.1, hc.2.1, fun b pt hm => by
    cases hmu : mutB H'[b]? with
    | false => rfl
    | true =>
      obtain ⟨s, pt0, _, h1, h2⟩ := hsrc b c pt hm (live_of hmu)
      have := hc.2.2 s pt0 h1
      rw [h2] at this; cases this⟩
  have hFF : ∀ c, FF X (fun b => st.heap[b]?) m w c → FF X (fun b => H'[b]?) m' w c := fun c hc => ⟨hc.1, hSS c hc.2⟩
  -- the rows that go on
  have hrow : ∀ b s, p.heap.length ≤ b → ss[b - p.heap.length]? = some (some s) → ∃ (x : XRow) (l : List x.t.D) (fr' : Bool) (l0 : List x.t.D) (k : Nat), H'[b]? = some (.row true x.fr x.t l) ∧ ln b = l.length ∧ st.heap[s]? = some (.row true fr' x.t l0) ∧ (x.fr = true → fr' = true) ∧ l = l0.take k := by
    intro b s hb hss
    have hlen := (matchX_ok st p.rows xd ss hX).1
    have hj : b - p.heap.length < p.rows.length := by
      rcases Nat.lt_or_ge (b - p.heap.length) ss.length with h | h
      · omega
      · rw [List.getElem?_eq_none h] at hss; cases hss
    obtain ⟨l, h1, h2, h3⟩ := (matchX_ok st p.rows xd ss hX).2 _ _ (List.getElem?_eq_getElem hj)
    rcases h3 with ⟨h3, _⟩ | ⟨s', fr', l0, k, h3, h4, h5, h6⟩
    · rw [hss] at h3; cases h3
    · rw [hss] at h3; cases h3
      exact ⟨_, l, fr', l0, k, by show (instB ln p.heap rd bd ++ instX p.rows xd)[b]? = _; rw [heapS_ge ln hb]; exact h1, lens_x hb h2, h4, h5, h6⟩
  have hown : ∀ b s, srcOf p.heap ss b = some s → ∀ len t v, len = ln b → SlR m s [] 0 len t v → SlR m' b [] 0 (ln b) t v := by
    intro b s hb len t v hlen hsl
    by_cases hlt : b < p.heap.length
    · have : s = b := by
        simp only [srcOf, if_pos hlt] at hb
        split at hb
        · cases hb; rfl
        · cases hb
      subst this
      rw [← hlen]
      rcases hsl with h | ⟨c, pt, o, n, cap, a, h1, h2⟩
      · exact .inl h
      · exact .inr ⟨c, pt, o, n, cap, a, by show mapS _ _ _ _ _ = _; unfold mapS; rw [if_pos hlt]; exact h1, h2⟩
    · simp only [srcOf, if_neg hlt] at hb
      have hss : ss[b - p.heap.length]? = some (some s) := by
        cases hx : ss[b - p.heap.length]? with
        | none => rw [hx] at hb; cases hb
        | some x => rw [hx] at hb; simp at hb; rw [hb]
      rcases hsl with ⟨h, h2⟩ | ⟨c, pt, o, n, cap, a, h1, h2, h3, h4, h5, h6⟩
      · exact .inl ⟨by rw [← hlen]; exact h, h2⟩
      · obtain ⟨x, l, fr', l0, k, e1, e2, e3, e4, e5⟩ := hrow b s (by omega) hss
        obtain ⟨cap0, arr, el, cs, rest, rfl, g1, g2, g3, g4, g5⟩ := hr.blk s c pt _ h1 e3
        simp only [offS, Option.some.injEq, Prod.mk.injEq] at h2
        obtain ⟨rfl, rfl, rfl, rfl⟩ := h2
        have hle : l.length ≤ l0.length := by rw [e5]; simp; omega
        refine .inr ⟨c, .rows x.t (ln b) cap0, 0, ln b, cap0, a, ?_, by simp [offS], by omega, ⟨by rw [e2]; omega, by rw [← hlen]; exact h4.2⟩, by rw [h5, hlen], by simpa using h6⟩
        show mapS _ _ _ _ _ = _
        unfold mapS
        rw [if_neg hlt, hss]
        simp only [Option.join_some, h1, Option.map_some]
        rfl
  have href : ∀ b, b < p.heap.length → srcOf p.heap ss b = some b → ∀ x, m b = some x → m' b = some x := fun b hb _ x hx => by
    show mapS _ _ _ _ _ = _
    unfold mapS
    rw [if_pos hb]; exact hx
  refine ⟨m', ⟨hr.size, hr.kept, hr.frame, ?_, ?_, ?_, ?_⟩, ?_, ?_, hs.defers, ?_⟩
  · intro b c pt hm
    have hm : mapS p.heap.length ss ln m b = some (c, pt) := hm
    unfold mapS at hm
    split at hm
    · exact hr.dom b c pt hm
    · split at hm
      · rename_i s _
        obtain ⟨⟨c0, pt0⟩, h1, h2⟩ := Option.map_eq_some_iff.1 hm
        cases h2
        exact hr.dom s c0 pt0 h1
      · cases hm
  · intro b c pt k hm hk
    have hk : (instB ln p.heap rd bd ++ instX p.rows xd)[b]? = some k := hk
    have hm0 : mapS p.heap.length ss ln m b = some (c, pt) := hm
    by_cases hlt : b < p.heap.length
    · unfold mapS at hm0
      rw [if_pos hlt] at hm0
      rw [heapS_lt ln hlt] at hk
      have hp : p.heap[b]? = some p.heap[b] := List.getElem?_eq_getElem hlt
      cases hbp : p.heap[b] with
      | dead =>
        rw [hbp] at hp
        rw [instB_dead ln p.heap rd bd b hp] at hk
        cases hk; trivial
      | row fr t =>
        rw [hbp] at hp
        obtain ⟨fr', l, h1, h2, h3, _⟩ := matchR_ok ln p.heap st.heap rd hR b fr t hp
        rw [h3 bd] at hk
        cases hk
        obtain ⟨cap, arr, el, cs, rest, g0, g1, g2, g3, g4, g5⟩ := hr.blk b c pt _ hm0 h1
        refine ⟨cap, arr, el, cs, rest, g0, g1, g2, CRs_mono (fun cs d hd => CR_mono (fun c hc => ?_) (fun _ _ => rfl) _ _ _ hd) _ _ g3, g4, g5⟩
        cases fr with
        | false => cases fr' with
          | false => exact hSS c hc
          | true => exact hSS c hc.2
        | true =>
          rw [h2 rfl] at hc
          exact hFF c hc
      | box q =>
        rw [hbp] at hp
        obtain ⟨v, e, h1, h2, h4⟩ := matchB_ok st.heap _ ln p.heap st.heap true bd hB rfl b q hp
        rw [h4 rd] at hk
        cases hk
        obtain ⟨arr, el, g0, g1, g2⟩ := hr.blk b c pt _ hm0 h1
        exact ⟨arr, el, g0, g1, matchT_ok FF_SS hSS hFF FF_SS hown q v _ true e g2 h2 rfl⟩
    · unfold mapS at hm0
      rw [if_neg hlt] at hm0
      split at hm0
      · rename_i s hs'
        obtain ⟨⟨c0, pt0⟩, h1, h2⟩ := Option.map_eq_some_iff.1 hm0
        have hss : ss[b - p.heap.length]? = some (some s) := by
          cases hx : ss[b - p.heap.length]? with
          | none => rw [hx] at hs'; cases hs'
          | some x => rw [hx] at hs'; simp at hs'; rw [hs']
        obtain ⟨x, l, fr', l0, k0, e1, e2, e3, e4, e5⟩ := hrow b s (by omega) hss
        have hk : H'[b]? = some k := hk
        rw [e1] at hk
        cases hk
        cases h2
        obtain ⟨cap, arr, el, cs, rest, rfl, g1, g2, g3, g4, g5⟩ := hr.blk s c0 pt0 _ h1 e3
        obtain ⟨ys', zs', q1, q2⟩ := CRs_part (xs := arr.toList) (oo := 0) (zs := rest) (fun cs d => CR_len x.t cs d) 0 k0 (by omega) (by simpa using g2) g3
        have hle : l.length ≤ l0.length := by rw [e5]; simp; omega
        refine ⟨cap, arr, el, ys', zs', by show PT.trunc (ln b) _ = _; rw [e2]; rfl, g1, by simpa using q1, ?_, by omega, g5⟩
        rw [e5]
        refine CRs_mono (fun cs d hd => CR_mono (fun c hc => ?_) (fun _ _ => rfl) _ _ _ hd) _ _ (by simpa using q2)
        cases hxf : x.fr with
        | false => cases fr' with
          | false => simp only [hxf, Bool.false_eq_true, if_false] at *; exact hSS c hc
          | true => exact hSS c hc.2
        | true =>
          rw [e4 hxf] at hc
          exact hFF c hc
      · cases hm0
  · intro b c pt hm hd
    obtain ⟨s, pt0, _, h1, h2⟩ := hsrc b c pt hm hd
    exact hr.live s c pt0 h1 (live_of h2)
  · intro b b' c pt pt' hm hm' hmu hne
    cases hd : deadB H'[b']? with
    | true => exact hd
    | false =>
      obtain ⟨s, pt0, k1, h1, h2⟩ := hsrc b c pt hm (live_of hmu)
      obtain ⟨s', pt0', k1', h1', h2'⟩ := hsrc b' c pt' hm' hd
      by_cases he : s = s'
      · subst he
        exact absurd (SrcB.inj hok k1 k1') hne
      · have := hr.inj s s' c pt0 pt0' h1 h1' h2 he
        rw [live_of h2'] at this; cases this
  · intro b hb
    show b < (instB ln p.heap rd bd ++ instX p.rows xd).length
    have hb : mapS p.heap.length ss ln m b ≠ none := hb
    rw [List.length_append, instB_length, instX_length]
    unfold mapS at hb
    split at hb
    · omega
    · split at hb
      · rename_i s hs'
        have hss : b - p.heap.length < ss.length := by
          rcases Nat.lt_or_ge (b - p.heap.length) ss.length with h | h
          · exact h
          · rw [List.getElem?_eq_none h] at hs'; cases hs'
        have := (matchX_ok st p.rows xd ss hX).1
        omega
      · exact absurd rfl hb
  · have key := matchPs_ok (w := w) FF_SS hSS hFF FF_SS hown href p.tmps st.tmps td hP
    exact ⟨by show a.tmps.size = (instPs ln p.tmps td).length; rw [key.1]; exact hs.ar.1, fun i => key.2 i _ (hs.ar.2 i)⟩
  · refine ⟨⟨fun c hc => hSS c (hs.ev.evo.hS c hc), fun c hc => hFF c (hs.ev.evo.hF c hc), hs.ev.evo.hFS, fun b x hb => ?_, hs.ev.evo.hw⟩, fun b hb he => ?_, ?_⟩
    · have hlt : b < E.n := by
        rcases Nat.lt_or_ge b E.n with h | h
        · exact h
        · rw [E.dom b h] at hb; cases hb
      show mapS _ _ _ _ _ = _
      unfold mapS
      rw [if_pos (by omega)]
      exact hs.ev.evo.hm b x hb
    · show mapS _ _ _ _ _ = _
      unfold mapS
      rw [if_pos (by omega)]
      exact hs.ev.keep b hb he
    · show E.n ≤ (instB ln p.heap rd bd ++ instX p.rows xd).length
      rw [List.length_append, instB_length]; omega

theorem canon_ok {d : p.D} (h : matchS p st = some (true, d)) {X : Ctx} {E : Start} {m : Map} {a : Act} {w : World} (hs : SR X E st m a w) (hE : E.n ≤ p.heap.length) : ∃ m', SR X E (instS p d) m' a w := by
  unfold matchS at h
  split at h
  · rename_i rd x hR hX
    obtain ⟨xd, ss⟩ := x
    split at h
    · rename_i hok
      split at h
      · rename_i b t hB hP
        obtain ⟨b1, bd⟩ := b
        obtain ⟨t1, td⟩ := t
        have h := Option.some.inj h
        have hc : b1 = true ∧ t1 = true := by have := congrArg Prod.fst h; simpa using this
        obtain ⟨rfl, rfl⟩ := hc
        have hd : d = ((rd, xd), (bd, td)) := (congrArg Prod.snd h).symm
        subst hd
        exact canon_main hR hX hok hB hP hs hE
      · cases h
    · cases h
  · cases h
end
end Go.Ab

/- ==== Ab50 ==== -/
/- Loops by a function over the data of a pattern. -/
namespace Go.Ab
open Go

abbrev Exits := List (Ex × SPat)

def ExD : Exits → Type
  | [] => Empty
  | [x] => x.2.D
  | x :: y :: r => x.2.D ⊕ ExD (y :: r)

def Ex.eqb : Ex → Ex → Bool
  | .norm, .norm => true
  | .exit a, .exit b => decide (a = b)
  | .ret, .ret => true
  | _, _ => false

/-- The state with which a loop is left, by its pattern. -/
def exitE {β : Type} : (xs : Exits) → Ex → St → (ExD xs → Tree β) → Tree β
  | [], _, _, _ => .fail
  | [x], e, st, k => if x.1.eqb e then optT (matchS x.2 st) fun d => .need d.1 (k d.2) else .fail
  | x :: y :: r, e, st, k => if x.1.eqb e then optT (matchS x.2 st) fun d => .need d.1 (k (.inl d.2)) else exitE (y :: r) e st fun z => k (.inr z)

def resumeE {β : Type} : (xs : Exits) → ExD xs → (Ex → St → Tree β) → Tree β
  | [], _, _ => .fail
  | [x], d, k => k x.1 (instS x.2 d)
  | x :: y :: r, s, k => .sum s (fun d => k x.1 (instS x.2 d)) fun z => resumeE (y :: r) z k

/-- A round, what comes after it being told by 'g'. -/
def roundE (hd : SPat) (xs : Exits) (body : St → (Ex → St → Tree (ExD xs)) → Tree (ExD xs)) (g : hd.D → Option (ExD xs)) (d : hd.D) : Tree (ExD xs) :=
  body (instS hd d) fun e st => match e with
    | .norm => optT (matchS hd st) fun r => .need r.1 (.opt (g r.2) .ret)
    | .exit id => exitE xs (.exit id) st .ret
    | .ret => exitE xs .ret st .ret

/-- A loop that is told by 'L'. -/
def lpE {β : Type} (hd : SPat) (xs : Exits) (L : hd.D → Option (ExD xs)) (st : St) (k : Ex → St → Tree β) : Tree β :=
  if st.heap.length = hd.heap.length then optT (matchS hd st) fun r => .need r.1 (.opt (L r.2) fun y => resumeE xs y k) else .fail

def yst : (xs : Exits) → ExD xs → Ex × St
  | [x], d => (x.1, instS x.2 d)
  | x :: y :: _, .inl d => (x.1, instS x.2 d)
  | _ :: y :: r, .inr z => yst (y :: r) z

theorem resumeE_run {β : Type} : ∀ (xs : Exits) (y : ExD xs) (k : Ex → St → Tree β), (resumeE xs y k).run = (k (yst xs y).1 (yst xs y).2).run
  | [], y, k => nomatch y
  | [x], d, k => rfl
  | x :: y :: r, .inl d, k => rfl
  | x :: y :: r, .inr z, k => resumeE_run (y :: r) z k

theorem Ex.eqb_eq {a b : Ex} (h : a.eqb b = true) : a = b := by
  cases a <;> cases b <;> simp_all [Ex.eqb]

variable [GlobI]

theorem exitE_ok {β : Type} : ∀ (xs : Exits) (e : Ex) (st : St) (k : ExD xs → Tree β) (r : β), (exitE xs e st k).run = some r →
    ∃ y, (k y).run = some r ∧ (yst xs y).1 = e ∧ ∃ p d, (e, p) ∈ xs ∧ (yst xs y).2 = instS p d ∧ matchS p st = some (true, d)
  | [], e, st, k, r, h => by simp [exitE, Tree.run] at h
  | [x], e, st, k, r, h => by
    simp only [exitE] at h
    split at h
    · rename_i he
      have he := Ex.eqb_eq he
      obtain ⟨⟨c, d⟩, h1, h⟩ := optT_some h
      obtain ⟨hc, h⟩ := Got.need h
      simp only at hc
      subst hc
      exact ⟨d, h, he, x.2, d, by rw [← he]; simp, rfl, h1⟩
    · simp [Tree.run] at h
  | x :: z :: xs, e, st, k, r, h => by
    simp only [exitE] at h
    split at h
    · rename_i he
      have he := Ex.eqb_eq he
      obtain ⟨⟨c, d⟩, h1, h⟩ := optT_some h
      obtain ⟨hc, h⟩ := Got.need h
      simp only at hc
      subst hc
      exact ⟨.inl d, h, he, x.2, d, by rw [← he]; simp, rfl, h1⟩
    · obtain ⟨y, h1, h2, p, d, h3, h4, h5⟩ := exitE_ok (z :: xs) e st _ r h
      exact ⟨.inr y, h1, h2, p, d, List.mem_cons_of_mem _ h3, h4, h5⟩

theorem loop_ok {P : Program} {c : Code} {hd : SPat} {xs : Exits} {body : St → (Ex → St → Tree (ExD xs)) → Tree (ExD xs)} (hb : Sound P c body) (hx : ∀ x ∈ xs, hd.heap.length ≤ x.2.heap.length)
    (L : Nat → hd.D → Option (ExD xs)) (h0 : ∀ d, L 0 d = none) (hs : ∀ n d, L (n + 1) d = (roundE hd xs body (L n) d).run) (N : Nat) {β : Type} : Sound P (.loop c) (lpE (β := β) hd xs (L N)) := by
  have key : ∀ n d y, L n d = some y → ∀ (X : Ctx) (E : Start) (m : Map) (a : Act) (w : World), E.n ≤ hd.heap.length → SR X E (instS hd d) m a w →
      ∀ Q : Exit → Act → World → Prop, (∀ a' w' m', SR X E (yst xs y).2 m' a' w' → Q (yst xs y).1.out a' w') → Rounds P c Q n a w := by
    intro n
    induction n with
    | zero => intro d y h; rw [h0] at h; cases h
    | succ n ih =>
      intro d y h X E m a w hE hsr Q hQ
      rw [hs] at h
      obtain ⟨e, st', h1, h2⟩ := hb _ _ _ h
      refine h2 X E m a w hsr _ fun a' w' m' hs' => ?_
      have exits : ∀ e, (exitE xs e st' Tree.ret).run = some y → Q e.out a' w' := by
        intro e h
        obtain ⟨y', g1, g2, p, d', g3, g4, g5⟩ := exitE_ok xs e st' _ y h
        have : y' = y := by simpa [Tree.run] using g1
        subst this
        obtain ⟨m'', hs''⟩ := canon_ok g5 hs' (Nat.le_trans hE (hx _ g3))
        have := hQ a' w' m'' (by rw [g4]; exact hs'')
        rw [g2] at this; exact this
      cases e with
      | norm =>
        obtain ⟨⟨c1, d'⟩, g1, g2⟩ := optT_some h1
        obtain ⟨hc, g2⟩ := Got.need g2
        simp only at hc
        subst hc
        obtain ⟨y', g3, g4⟩ := run_opt g2
        have : y' = y := by simpa [Tree.run] using g4
        subst this
        obtain ⟨m'', hs''⟩ := canon_ok g1 hs' hE
        exact ih d' y' g3 X E m'' a' w' hE hs'' Q hQ
      | exit id => exact exits _ h1
      | ret => exact exits _ h1
  intro st k r h
  unfold lpE at h
  split at h
  · rename_i hlen
    obtain ⟨⟨c1, d⟩, g1, g2⟩ := optT_some h
    obtain ⟨hc, g2⟩ := Got.need g2
    simp only at hc
    subst hc
    obtain ⟨y, g3, g4⟩ := run_opt g2
    rw [resumeE_run] at g4
    refine ⟨_, _, g4, fun X E m a w hsr Q hQ => ?_⟩
    have hE : E.n ≤ hd.heap.length := by have := hsr.ev.le; omega
    obtain ⟨m', hs'⟩ := canon_ok g1 hsr hE
    exact wp_rounds (key N d y g3 X E m' a w hE hs' Q hQ)
  · simp [Tree.run] at h
end Go.Ab

/- ==== Ab51 ==== -/
/- Tables: types that are good, calls by entries, loops by their numbers. -/
namespace Go.Ab
open Go

def zEq : Value → Value → Bool
  | .bool a, .bool b => a == b
  | .int k a, .int k' b => decide (k = k') && decide (a = b)
  | .float k a, .float k' b => decide (k = k') && decide (a = b)
  | .string a, .string b => a.data.toList.isEmpty && b.data.toList.isEmpty
  | .nilIface, .nilIface => true
  | .slice none 0 0, .slice none 0 0 => true
  | _, _ => false

def zEqs : List Value → List Value → Bool
  | [], [] => true
  | a :: as1, b :: bs => zEq a b && zEqs as1 bs
  | _, _ => false

theorem zEq_ok {a b : Value} (h : zEq a b = true) : a = b := by
  unfold zEq at h
  split at h
  · rw [beq_iff_eq] at h; rw [h]
  · simp only [Bool.and_eq_true, decide_eq_true_eq] at h; rw [h.1, h.2]
  · simp only [Bool.and_eq_true, decide_eq_true_eq] at h; rw [h.1, h.2]
  · rename_i a b
    simp only [Bool.and_eq_true, List.isEmpty_iff] at h
    have : a.data = b.data := by rw [← Array.toList_inj, h.1, h.2]
    cases a; cases b; simp_all
  · rfl
  · rfl
  · cases h

theorem zEqs_ok : ∀ {a b : List Value}, zEqs a b = true → a = b
  | [], [], _ => rfl
  | a :: as1, b :: bs, h => by
    simp only [zEqs, Bool.and_eq_true] at h
    rw [zEq_ok h.1, zEqs_ok h.2]
  | [], _ :: _, h => by cases h
  | _ :: _, [], h => by cases h

def elemB (P : Program) (t : TypeId) (T : Ty) : Bool :=
  match P.info? t, P.underlying t with
  | some i, some d => match i.zero with
    | some z => decide (i.size = T.size) && zEqs z.cells.toList (zC T) && decide (i.bytes ≤ 1024) && (d.isRow == T.isAgg)
    | none => false
  | _, _ => false

theorem elemB_ok {P : Program} {t : TypeId} {T : Ty} (h : elemB P t T = true) : Elem P t T := by
  unfold elemB at h
  split at h
  · rename_i i d hi hd
    split at h
    · rename_i z hz
      simp only [Bool.and_eq_true, decide_eq_true_eq, beq_iff_eq] at h
      obtain ⟨⟨⟨h1, h2⟩, h3⟩, h4⟩ := h
      exact ⟨i, z, d, hi, h1, hz, zEqs_ok h2, h3, hd, h4⟩
    · cases h
  · cases h

def fieldsB (P : Program) : TyL → List Field → Nat → Bool
  | .nil, [], _ => true
  | .cons t r, f :: l, o => decide (f.offset = o) && elemB P f.type t && fieldsB P r l (o + t.size)
  | _, _, _ => false

theorem fieldsB_ok {P : Program} : ∀ (fs : TyL) (l : List Field) (o : Nat), fieldsB P fs l o = true → FieldsOK P fs l o
  | .nil, [], _, _ => trivial
  | .cons t r, f :: l, o, h => by
    simp only [fieldsB, Bool.and_eq_true, decide_eq_true_eq] at h
    exact ⟨h.1.1, elemB_ok h.1.2, fieldsB_ok r l _ h.2⟩
  | .nil, _ :: _, _, h => by cases h
  | .cons _ _, [], _, h => by cases h

def undB (P : Program) (t : TypeId) (T : Ty) : Bool :=
  match T, P.underlying t with
  | .bool, some .bool => true
  | .int k, some (.int k') => decide (k' = k)
  | .flt k, some (.float k') => decide (k' = k)
  | .str, some .string => true
  | .err, some (.interface _) => true
  | .st fs, some (.struct fields) => fieldsB P fs fields.toList 0
  | .arr n e, some (.array n' te) => decide (n' = n) && elemB P te e
  | .sl e, some (.slice te) => elemB P te e && match e with
    | .int k => match P.underlying te with
      | some (.int k') => decide (k' = k)
      | _ => false
    | _ => true
  | _, _ => false

def goodB (P : Program) (t : TypeId) (T : Ty) : Bool := elemB P t T && undB P t T

theorem goodB_ok {P : Program} {t : TypeId} {T : Ty} (h : goodB P t T = true) : TyGood P t T := by
  simp only [goodB, Bool.and_eq_true] at h
  obtain ⟨h1, h2⟩ := h
  unfold undB at h2
  split at h2
  · rename_i hu; exact ⟨elemB_ok h1, hu, fun k hk => by cases hk⟩
  · rename_i k k' hu
    have := of_decide_eq_true h2
    subst this
    exact ⟨elemB_ok h1, hu, fun k hk => by cases hk⟩
  · rename_i k k' hu
    have := of_decide_eq_true h2
    subst this
    exact ⟨elemB_ok h1, hu, fun k hk => by cases hk⟩
  · rename_i hu; exact ⟨elemB_ok h1, hu, fun k hk => by cases hk⟩
  · rename_i ms hu; exact ⟨elemB_ok h1, ⟨ms, hu⟩, fun k hk => by cases hk⟩
  · rename_i fs fields hu; exact ⟨elemB_ok h1, ⟨fields, hu, fieldsB_ok _ _ _ h2⟩, fun k hk => by cases hk⟩
  · rename_i n e n' te hu
    simp only [Bool.and_eq_true, decide_eq_true_eq] at h2
    obtain ⟨rfl, h2⟩ := h2
    exact ⟨elemB_ok h1, ⟨te, hu, elemB_ok h2⟩, fun k hk => by cases hk⟩
  · rename_i e te hu
    simp only [Bool.and_eq_true] at h2
    refine ⟨elemB_ok h1, ⟨te, hu, elemB_ok h2.1⟩, fun k hk => ?_⟩
    cases hk
    have h3 := h2.2
    simp only at h3
    split at h3
    · rename_i k' hte
      have := of_decide_eq_true h3
      subst this
      exact ⟨te, hu, hte⟩
    · cases h3
  · cases h2

/-- The table of types, by their numbers. -/
def tyTab (tab : List (Option Ty)) (t : TypeId) : Option Ty := (tab[t]?).join

def tabB (P : Program) : Nat → List (Option Ty) → Bool
  | _, [] => true
  | i, none :: r => tabB P (i + 1) r
  | i, some T :: r => goodB P i T && tabB P (i + 1) r

theorem tabB_ok {P : Program} : ∀ (tab : List (Option Ty)) (i : Nat), tabB P i tab = true → ∀ (j : Nat) (T : Ty), tab[j]? = some (some T) → TyGood P (i + j) T
  | [], _, _, j, T, h => by simp at h
  | none :: r, i, hb, j, T, h => by
    cases j with
    | zero => simp at h
    | succ j =>
      have := tabB_ok r (i + 1) hb j T h
      rw [show i + (j + 1) = i + 1 + j by omega]; exact this
  | some T0 :: r, i, hb, j, T, h => by
    simp only [tabB, Bool.and_eq_true] at hb
    cases j with
    | zero => simp at h; subst h; exact goodB_ok hb.1
    | succ j =>
      have := tabB_ok r (i + 1) hb.2 j T h
      rw [show i + (j + 1) = i + 1 + j by omega]; exact this

theorem tyTab_ok {P : Program} {tab : List (Option Ty)} (h : tabB P 0 tab = true) : TyOK P (tyTab tab) := by
  intro t T ht
  unfold tyTab at ht
  cases hx : tab[t]? with
  | none => rw [hx] at ht; cases ht
  | some x =>
    rw [hx] at ht
    simp at ht
    subst ht
    have := tabB_ok tab 0 h t T hx
    rwa [Nat.zero_add] at this

/-- The loop's body with a number. -/
def loopAt : Code → Nat → Code
  | .seq a b, i => if i < loops a then loopAt a i else loopAt b (i - loops a)
  | .cond _ a b, i => if i < loops a then loopAt a i else loopAt b (i - loops a)
  | .block _ a, i => loopAt a i
  | .loop a, 0 => a
  | .loop a, i + 1 => loopAt a i
  | _, _ => .skip

/-- The loops that stand in no loop. -/
def tops : Code → Nat → List Nat
  | .seq a b, i => tops a i ++ tops b (i + loops a)
  | .cond _ a b, i => tops a i ++ tops b (i + loops a)
  | .block _ a, i => tops a i
  | .loop _, i => [i]
  | _, _ => []

theorem tops_lt : ∀ (c : Code) (i j : Nat), j ∈ tops c i → i ≤ j ∧ j < i + loops c := by
  intro c
  induction c with
  | seq a b iha ihb =>
    intro i j h
    simp only [tops, List.mem_append] at h
    simp only [loops]
    rcases h with h | h
    · have := iha i j h; omega
    · have := ihb _ j h; omega
  | cond c a b iha ihb =>
    intro i j h
    simp only [tops, List.mem_append] at h
    simp only [loops]
    rcases h with h | h
    · have := iha i j h; omega
    · have := ihb _ j h; omega
  | block id a ih => intro i j h; exact ih i j h
  | loop a ih =>
    intro i j h
    simp only [tops, List.mem_singleton] at h
    simp only [loops]; omega
  | _ => intro i j h; simp [tops] at h

variable [GlobI]

theorem LoopsOK_of {P : Program} {β : Type} {lp : Nat → St → (Ex → St → Tree β) → Tree β} : ∀ (c : Code) (i : Nat), (∀ j, j ∈ tops c i → Sound P (.loop (loopAt c (j - i))) (lp j)) → LoopsOK P lp c i := by
  intro c
  induction c with
  | seq a b iha ihb =>
    intro i h
    refine ⟨iha i fun j hj => ?_, ihb _ fun j hj => ?_⟩
    · have h1 := tops_lt a i j hj
      have := h j (by simp [tops, hj])
      simp only [loopAt] at this
      rw [if_pos (by omega)] at this
      exact this
    · have h1 := tops_lt b _ j hj
      have := h j (by simp [tops, hj])
      simp only [loopAt] at this
      rw [if_neg (by omega), show j - i - loops a = j - (i + loops a) by omega] at this
      exact this
  | cond c a b iha ihb =>
    intro i h
    refine ⟨iha i fun j hj => ?_, ihb _ fun j hj => ?_⟩
    · have h1 := tops_lt a i j hj
      have := h j (by simp [tops, hj])
      simp only [loopAt] at this
      rw [if_pos (by omega)] at this
      exact this
    · have h1 := tops_lt b _ j hj
      have := h j (by simp [tops, hj])
      simp only [loopAt] at this
      rw [if_neg (by omega), show j - i - loops a = j - (i + loops a) by omega] at this
      exact this
  | block id a ih => intro i h; exact ih i h
  | loop a ih =>
    intro i h
    have := h i (by simp [tops])
    rw [Nat.sub_self] at this
    exact this
  | _ => intro i h; trivial

/-- A loop that is told. -/
structure LoopT where
  i : Nat
  hd : SPat
  xs : Exits
  L : hd.D → Option (ExD xs)

/-- The first that takes the state. -/
def lpT {β : Type} : List LoopT → Nat → St → (Ex → St → Tree β) → Tree β
  | [], _, _, _ => .fail
  | t :: ts, j, st, k => if j = t.i then if st.heap.length = t.hd.heap.length then match matchS t.hd st with
      | some r => .need r.1 (.opt (t.L r.2) fun y => resumeE t.xs y k)
      | none => lpT ts j st k
    else lpT ts j st k
    else lpT ts j st k

def AllT (P : Program) (β : Type) (c : Code) (i : Nat) : List LoopT → Prop
  | [] => True
  | t :: ts => Sound P (.loop (loopAt c (t.i - i))) (lpE (β := β) t.hd t.xs t.L) ∧ AllT P β c i ts

theorem AllT_get {P : Program} {β : Type} {c : Code} {i : Nat} : ∀ (ts : List LoopT), AllT P β c i ts → ∀ j, Sound P (.loop (loopAt c (j - i))) (lpT (β := β) ts j)
  | [], _, j => fun st k r h => by simp [lpT, Tree.run] at h
  | t :: ts, h, j => by
    intro st k r hr
    have ih := AllT_get ts h.2 j st k r
    simp only [lpT] at hr
    split at hr
    · rename_i he
      subst he
      split at hr
      · rename_i hl
        split at hr
        · rename_i x hx
          refine h.1 st k r ?_
          unfold lpE
          rw [if_pos hl, hx]
          exact hr
        · exact ih hr
      · exact ih hr
    · exact ih hr

theorem LoopsOK_T {P : Program} {β : Type} {c : Code} {i : Nat} {ts : List LoopT} (hs : AllT P β c i ts) : LoopsOK P (lpT (β := β) ts) c i :=
  LoopsOK_of c i fun j _ => AllT_get ts hs j

def jk (n : Nat) : List Pat := List.replicate n (.u .junk)

/-- More rounds than any loop makes. -/
def fuel : Nat := 18446744073709551616

/-- A call of one function that is known. -/
structure Ent (P : Program) where
  id : FuncId
  run : {β : Type} → List AV → Heap → K β → Tree β
  ok : ∀ {β : Type} (args : List AV) (H : Heap) (k : K β) (r : β), (run args H k).run = some r → ∃ x H' ft, (k x H' ft).run = some r ∧ Grows H H' ft ∧ (∀ b, b ∈ ft.reads → b < H.length) ∧ SCall P id args H x H' ft

def callL {P : Program} {β : Type} : List (Ent P) → Call β
  | [], _, _, _, _ => .fail
  | e :: es, f, args, H, k => if e.id = f then e.run args H k else callL es f args H k

theorem callL_ok {P : Program} {β : Type} : ∀ (es : List (Ent P)), CallOK P (callL (β := β) es)
  | [] => fun f args H k r h => by simp [callL, Tree.run] at h
  | e :: es => fun f args H k r h => by
    simp only [callL] at h
    split at h
    · rename_i he
      subst he
      exact e.ok args H k r h
    · exact callL_ok es f args H k r h

def Ent.con {P : Program} (f : FuncId) (recv : Option Ty) (ks : List Bool) (ins : TyL) (out : Out) (fresh : Bool) (F : RecvD recv → ins.D → Option (RecvD recv × out.D)) (h : FSound P f recv ks ins out fresh F) : Ent P :=
  ⟨f, callC recv ks ins out fresh F, fun _ _ _ _ hr => callC_ok h hr⟩

/-- What a program is known to be. -/
structure Base (P : Program) (ty : TypeId → Option Ty) : Prop where
  mixed : P.follows .mixedOrders = true
  ty : TyOK P ty

/-- A function of the program. -/
structure Fun (P : Program) (f : FuncId) (fn : Func) (c : Code) : Prop where
  func : P.funcs[f]? = some fn
  name : (fn.name == "runtime.NumGoroutine") = false
  body : fn.body = some c

def Ent.inl {P : Program} {ty : TypeId → Option Ty} (B : Base P ty) {f : FuncId} {fn : Func} {c : Code} (hf : Fun P f fn c) (es : List (Ent P)) (ts : List LoopT)
    (hl : ∀ {β : Type}, LoopsOK P (lpT (β := β) ts) c 0) : Ent P :=
  ⟨f, inlineE ty (callL es) (lpT ts) fn, fun _ _ _ _ hr => inline_ok B.mixed B.ty (callL_ok es) hf.func hf.name hf.body hl hr⟩

/-- What a body evaluates to. -/
def EqB {P : Program} (ty : TypeId → Option Ty) (es : List (Ent P)) (ts : List LoopT) (fn : Func) (recv : Option Ty) (ks : List Bool) (ins : TyL) (out : Out) (fresh : Bool) (F : RecvD recv → ins.D → Option (RecvD recv × out.D)) : Prop :=
  ∀ rd d, (bodyE ty (callL es) (lpT ts) fn (recvA recv ++ argA ks ins d) (recvH recv rd) (finE recv out fresh)).run = F rd d

/-- What a round evaluates to. -/
def StepB {P : Program} (ty : TypeId → Option Ty) (es : List (Ent P)) (ts : List LoopT) (c : Code) (i : Nat) (hd : SPat) (xs : Exits) (L : Nat → hd.D → Option (ExD xs)) : Prop :=
  ∀ n d, (roundE hd xs (ev ty (callL es) (lpT ts) c i) (L n) d).run = L (n + 1) d

def Zero {X Y : Type} (L : Nat → X → Option Y) : Prop := ∀ d, L 0 d = none

theorem FSound.mk {P : Program} {ty : TypeId → Option Ty} (B : Base P ty) {f : FuncId} {fn : Func} {c : Code} (hf : Fun P f fn c) {es : List (Ent P)} {ts : List LoopT} {recv : Option Ty} {ks : List Bool} {ins : TyL} {out : Out} {fresh : Bool}
    (hl : ∀ {β : Type}, LoopsOK P (lpT (β := β) ts) c 0) {F : RecvD recv → ins.D → Option (RecvD recv × out.D)} (hF : EqB ty es ts fn recv ks ins out fresh F) : FSound P f recv ks ins out fresh F :=
  FSound.of_body B.mixed B.ty (callL_ok es) hf.func hf.name hf.body hl fun rd d r h => by rw [hF]; exact h

/-- A loop by what its rounds evaluate to. -/
theorem Sound.lp {P : Program} {ty : TypeId → Option Ty} (B : Base P ty) {es : List (Ent P)} {ts : List LoopT} {c : Code} {i : Nat} {hd : SPat} {xs : Exits} (hl : ∀ {β : Type}, LoopsOK P (lpT (β := β) ts) c i)
    (hx : xs.all (fun x => decide (hd.heap.length ≤ x.2.heap.length)) = true) {L : Nat → hd.D → Option (ExD xs)} (h0 : Zero L) (hs : StepB ty es ts c i hd xs L) (N : Nat) {β : Type} : Sound P (.loop c) (lpE (β := β) hd xs (L N)) :=
  loop_ok (ev_ok B.mixed B.ty (callL_ok es) c i hl) (fun x hm => by rw [List.all_eq_true] at hx; simpa using hx x hm) L h0 (fun n d => (hs n d).symm) N
end Go.Ab

/- ==== Ab52 ==== -/
/- Contracts of the library: from a call's own law to a contract by value. -/
namespace Go.Ab
open Go

/-- What some variables' blocks hold. -/
def globOf (tab : List (Nat × (Option Obj → Prop))) (S : Nat → Prop) (w : World) : Prop := ∀ p ∈ tab, S p.1 ∧ p.2 w.heap[p.1]?

theorem globOf_up (tab : List (Nat × (Option Obj → Prop))) {S S' : Nat → Prop} {w w' : World} (h : globOf tab S w) (h1 : ∀ c, S c → S' c) (h2 : ∀ c, S c → w'.heap[c]? = w.heap[c]?) : globOf tab S' w' :=
  fun p hp => ⟨h1 _ (h p hp).1, by rw [h2 _ (h p hp).1]; exact (h p hp).2⟩

@[reducible] def GlobI.ofTab (tab : List (Nat × (Option Obj → Prop))) : GlobI := ⟨globOf tab, fun h h1 h2 => globOf_up tab h h1 h2⟩

variable [GlobI]
section
variable {P : Program} {f : FuncId} {ks : List Bool} {ins ts : TyL} {F : Unit → ins.D → Option (Unit × ts.D)}

theorem FSound.of_calls (he : Go.Proofs.Enters P f)
    (h : ∀ (w : World) (S : Nat → Prop) (vs : List Value) (d : ins.D) (o : ts.D), GlobI.g S w → (∀ b, S b → b < w.heap.size) → AA S w ks ins vs d → F () d = some ((), o) →
      Calls P f vs.toArray w fun e w' => ∃ v, e = .returned v ∧ w.heap.size ≤ w'.heap.size ∧ kio w' = kio w ∧ (∀ b, b < w.heap.size → w'.heap[b]? = w.heap[b]?) ∧
        OR (fun b => w.heap.size ≤ b ∧ b < w'.heap.size) w' w.heap.size (.vals ts) v o) :
    FSound P f none ks ins (.vals ts) true F := by
  intro w S vs d c rd rd' o hg hS ha hr hF R hR
  have hc : c = none := hr
  subst hc
  cases rd; cases rd'
  unfold Doing
  have e0 : (ptrV none ++ vs).toArray = vs.toArray := rfl
  rw [e0, he _ w]
  refine (h w S vs d o hg hS ha hF).mono ?_
  rintro e w' ⟨v, rfl, h1, hk, h2, h3⟩
  refine hR v w' (fun b => w.heap.size ≤ b ∧ b < w'.heap.size) h1 hk (fun b hb => ⟨.inr hb.1, hb.2⟩) (fun b hb _ => h2 b hb) rfl ?_
  have e : (fun b => (w.heap.size ≤ b ∧ b < w'.heap.size) ∧ (true = true → w.heap.size ≤ b)) = fun b => w.heap.size ≤ b ∧ b < w'.heap.size := by
    funext b; exact propext ⟨fun h => h.1, fun h => ⟨h, fun _ => h.1⟩⟩
  rw [e]; exact h3
end

theorem mk_toList (s : ByteArray) : (⟨s.data.toList.toArray⟩ : ByteArray) = s := by cases s; simp

theorem A1_str {S : Nat → Prop} {w : World} {v : Value} {d : List UInt8} (h : A1 S w false .str v d) : ∃ s : ByteArray, v = .string s ∧ s.data.toList = d ∧ d.length ≤ maxStr := by
  unfold A1 at h
  rw [if_neg (by simp)] at h
  obtain ⟨cs, rfl, s, rfl, h1, h2⟩ := h
  exact ⟨s, rfl, h1, h2⟩

theorem A1_int {S : Nat → Prop} {w : World} {k : IntKind} {v : Value} {d : Int} (h : A1 S w false (.int k) v d) : v = .int k d ∧ k.wrap d = d := by
  unfold A1 at h
  rw [if_neg (by simp)] at h
  obtain ⟨cs, rfl, rfl, h1⟩ := h
  exact ⟨rfl, h1⟩

theorem AA_nil {S : Nat → Prop} {w : World} {ks : List Bool} {vs : List Value} {d : TyL.nil.D} (h : AA S w ks .nil vs d) : vs = [] := by
  cases ks <;> exact h


theorem CR_str_mk {S : Nat → Prop} {w : World} (l : List UInt8) (h : l.length ≤ maxStr) : CR S w .str [.string ⟨l.toArray⟩] l := ⟨_, rfl, by simp, h⟩

/-! Split at one byte. -/

def splitL (c : UInt8) : List UInt8 → List (List UInt8)
  | [] => [[]]
  | x :: r => if x == c then [] :: splitL c r else match splitL c r with
    | [] => [[x]]
    | y :: ys => (x :: y) :: ys

def lib_Split (_ : Unit) (d : List UInt8 × List UInt8 × Unit) : Option (Unit × (List (List UInt8) × Unit)) :=
  match d.2.1 with
  | [c] => if List.length d.1 < 4294967281 then some ((), splitL c d.1, ()) else none
  | _ => none

/-! ParseInt to base 10, 64 bits. -/

def parseI (s : List UInt8) : Int × Bool :=
  match Lib.parseIntB 64 s with
  | .ok v => (v, false)
  | .range => (Lib.intSat 64 s, true)
  | _ => (0, true)

def lib_ParseInt (_ : Unit) (d : List UInt8 × Int × Int × Unit) : Option (Unit × (Int × Bool × Unit)) :=
  if d.2.1 = 10 ∧ d.2.2.1 = 64 ∧ List.length d.1 ≤ 140737488355328 then some ((), (parseI d.1).1, (parseI d.1).2, ()) else none

def lib_FormatInt (_ : Unit) (d : Int × Int × Unit) : Option (Unit × (List UInt8 × Unit)) :=
  if d.2.1 = 10 then some ((), Lib.itoa d.1, ()) else none

def lib_Join (_ : Unit) (d : List (List UInt8) × List UInt8 × Unit) : Option (Unit × (List UInt8 × Unit)) :=
  if List.length d.1 ≤ 140737488355328 ∧ List.length (Lib.join d.1 d.2.1) ≤ 140737488355328 then some ((), Lib.join d.1 d.2.1, ()) else none

end Go.Ab

/- ==== Ab53 ==== -/
/- The library's contracts by value: Split, ParseInt, FormatInt, Join. -/
namespace Go.Ab
open Go

theorem splitL_ne (c : UInt8) (l : List UInt8) : splitL c l ≠ [] := by
  cases l with
  | nil => simp [splitL]
  | cons x r =>
    unfold splitL
    split
    · simp
    · split <;> simp

theorem splitL_miss {c : UInt8} : ∀ {l : List UInt8}, Lib.indexByte l c = -1 → splitL c l = [l]
  | [], _ => rfl
  | x :: r, h => by
    unfold Lib.indexByte at h
    split at h
    · cases h
    · rename_i hx
      split at h
      · rename_i hr
        have ih := splitL_miss (l := r) (beq_iff_eq.1 hr)
        unfold splitL
        rw [if_neg hx, ih]
      · rename_i hr
        have := Lib.indexByte_ge r c
        have : Lib.indexByte r c ≠ -1 := fun e => hr (beq_iff_eq.2 e)
        omega

theorem splitL_hit {c : UInt8} : ∀ {l : List UInt8} {i : Nat}, Lib.indexByte l c = i → splitL c l = l.take i :: splitL c (l.drop (i + 1))
  | [], i, h => by simp only [Lib.indexByte] at h; omega
  | x :: r, i, h => by
    unfold Lib.indexByte at h
    split at h
    · rename_i hx
      have : i = 0 := by omega
      subst this
      rw [splitL, if_pos hx]; simp
    · rename_i hx
      split at h
      · omega
      · rename_i hr
        have h1 := Lib.indexByte_ge r c
        have h2 : Lib.indexByte r c ≠ -1 := fun e => hr (beq_iff_eq.2 e)
        obtain ⟨j, hj⟩ : ∃ j : Nat, Lib.indexByte r c = j := ⟨(Lib.indexByte r c).toNat, by omega⟩
        have : i = j + 1 := by omega
        subst this
        have ih := splitL_hit (l := r) hj
        rw [splitL, if_neg hx, ih]
        simp

theorem ext_take (s : ByteArray) (i : Nat) : (s.extract 0 i).data.toList = s.data.toList.take i := by
  simp [ByteArray.data_extract, Array.toList_extract, List.extract]

theorem splitB_splitL (c : UInt8) : ∀ (k : Nat) (s : ByteArray), Lib.countB s ⟨#[c]⟩ = k → (Lib.splitB ⟨#[c]⟩ 0 k s).map (·.data.toList) = splitL c s.data.toList := by
  intro k
  induction k with
  | zero =>
    intro s hk
    have hm : Lib.indexB s ⟨#[c]⟩ = -1 := by
      have h1 := Lib.index_ge s.data.toList [c]
      rcases Classical.em (Lib.indexB s ⟨#[c]⟩ = -1) with h | h
      · exact h
      · obtain ⟨j, hj⟩ : ∃ j : Nat, Lib.indexB s ⟨#[c]⟩ = j := ⟨(Lib.indexB s ⟨#[c]⟩).toNat, by
          have : Lib.indexB s ⟨#[c]⟩ = Lib.index s.data.toList [c] := rfl
          omega⟩
        have := Lib.countB_hit s ⟨#[c]⟩ j (Nat.le_refl 1) hj
        omega
    have : Lib.indexByte s.data.toList c = -1 := by rw [← Lib.index_one]; exact hm
    rw [splitL_miss this]
    rfl
  | succ k ih =>
    intro s hk
    have hm : Lib.indexB s ⟨#[c]⟩ ≠ -1 := fun e => by rw [Lib.countB_miss s _ e] at hk; omega
    have h1 := Lib.index_ge s.data.toList [c]
    obtain ⟨j, hj⟩ : ∃ j : Nat, Lib.indexB s ⟨#[c]⟩ = j := ⟨(Lib.indexB s ⟨#[c]⟩).toNat, by
      have : Lib.indexB s ⟨#[c]⟩ = Lib.index s.data.toList [c] := rfl
      omega⟩
    have hc := Lib.countB_hit s ⟨#[c]⟩ j (Nat.le_refl 1) hj
    rw [Lib.splitB_hit _ _ _ _ j hj]
    have hb : Lib.indexByte s.data.toList c = j := by rw [← Lib.index_one]; exact hj
    rw [splitL_hit hb, List.map_cons, ih _ (by omega), Nat.add_zero, ext_take, Lib.extract_to_end]
    rfl

theorem splitB_lens (c : UInt8) : ∀ (k : Nat) (s x : ByteArray), x ∈ Lib.splitB ⟨#[c]⟩ 0 k s → x.size ≤ s.size := by
  intro k
  induction k with
  | zero => intro s x hx; simp only [Lib.splitB, List.mem_singleton] at hx; rw [hx]; exact Nat.le_refl _
  | succ k ih =>
    intro s x hx
    unfold Lib.splitB at hx
    split at hx
    · simp only [List.mem_singleton] at hx; rw [hx]; exact Nat.le_refl _
    · simp only [List.mem_cons] at hx
      rcases hx with rfl | hx
      · rw [ByteArray.size_extract]; omega
      · have := ih _ _ hx; rw [ByteArray.size_extract] at this; omega

theorem CRs_strs {S : Nat → Prop} {w : World} : ∀ (l : List ByteArray), (∀ x ∈ l, x.size ≤ maxStr) → CRs (CR S w .str) (l.map Value.string) (l.map (·.data.toList))
  | [], _ => rfl
  | x :: l, h => ⟨[.string x], l.map Value.string, rfl, ⟨x, rfl, rfl, by have := h x (by simp); simpa using this⟩, CRs_strs l fun y hy => h y (by simp [hy])⟩

theorem CRs_strs_inv {S : Nat → Prop} {w : World} : ∀ (d : List (List UInt8)) (cs : List Value), CRs (CR S w .str) cs d → ∃ xs : List ByteArray, xs.map (·.data.toList) = d ∧ cs = xs.map Value.string
  | [], cs, h => ⟨[], rfl, by simpa [CRs] using h⟩
  | d :: ds, cs, h => by
    obtain ⟨c1, c2, rfl, ⟨s, rfl, h1, _⟩, h2⟩ := h
    obtain ⟨xs, rfl, rfl⟩ := CRs_strs_inv ds c2 h2
    exact ⟨s :: xs, by simp [h1], rfl⟩

theorem parseUintM_le (M : Nat) : ∀ (l : List UInt8) (acc u : Nat), acc ≤ M → Lib.parseUintM M acc l = .ok u → u ≤ M
  | [], acc, u, h, e => by simp only [Lib.parseUintM, Lib.NumEnd.ok.injEq] at e; omega
  | c :: r, acc, u, h, e => by
    unfold Lib.parseUintM at e
    split at e
    · split at e
      · cases e
      · split at e
        · cases e
        · exact parseUintM_le M r _ u (by omega) e
    · cases e

theorem parseI_wrap (s : List UInt8) : IntKind.i64.wrap (parseI s).1 = (parseI s).1 := by
  have key : ∀ v : Int, -9223372036854775808 ≤ v → v ≤ 9223372036854775807 → IntKind.i64.wrap v = v := fun v h1 h2 => by
    unfold IntKind.wrap; simp [IntKind.signed, IntKind.bits]; omega
  have e63 : (2 : Nat) ^ (64 - 1) = 9223372036854775808 := by decide
  unfold parseI
  split
  · rename_i v hv
    refine key v ?_ ?_
    all_goals
      unfold Lib.parseIntB at hv
      split at hv
      · cases hv
      · dsimp only at hv
        split at hv
        · cases hv
        · cases hv
        · split at hv
          · cases hv
          · split at hv
            · cases hv
            · rename_i h1 h2
              simp only [Lib.NumEnd.ok.injEq] at hv
              split at hv
              · rename_i hn
                simp only [hn, true_and, Nat.not_lt, e63] at h2
                omega
              · rename_i hn
                simp only [hn, not_false_eq_true, true_and, Nat.not_le, e63] at h1
                omega
  · unfold Lib.intSat
    split
    · exact key _ (by decide) (by decide)
    · exact key _ (by decide) (by decide)
  · exact key 0 (by decide) (by decide)

variable [GlobI]
section
variable {P : Program} {f : FuncId}

theorem sound_Split (he : Go.Proofs.Enters P f) {g : Nat} {T : TypeId} (hg : ∀ S w, GlobI.g S w → ∃ m, w.cell? ⟨g, 0, none⟩ = some (.int .i64 m))
    (h : ∀ (s sep : ByteArray) (m : Int) (w : World), s.size < 4294967281 → w.cell? ⟨g, 0, none⟩ = some (.int .i64 m) → 1 ≤ sep.size →
      Calls P f #[.string s, .string sep] w fun e w' =>
        e = .returned (.slice (some ⟨w.heap.size, 0, none⟩) (Lib.countB s sep + 1) (Lib.countB s sep + 1)) ∧ w' = w.alloc (.cells ((Lib.splitB sep 0 (Lib.countB s sep) s).map Value.string).toArray T)) :
    FSound P f none [false, false] (.cons .str (.cons .str .nil)) (.vals (.cons (.sl .str) .nil)) true lib_Split := by
  refine FSound.of_calls he fun w S vs d o hgw _ ha hF => ?_
  obtain ⟨d1, d2, du⟩ := d
  obtain ⟨v1, us1, rfl, a1, v2, us2, rfl, a2, rfl⟩ := ha
  obtain ⟨s, rfl, e1, l1⟩ := A1_str a1
  obtain ⟨sep, rfl, e2, l2⟩ := A1_str a2
  dsimp only at e1 e2 l1 l2
  unfold lib_Split at hF
  split at hF
  · rename_i c hc
    dsimp only at hc hF
    split at hF
    · rename_i hl
      obtain ⟨m, hm⟩ := hg S w hgw
      have hsep : sep = ⟨#[c]⟩ := by
        have : sep.data.toList = [c] := e2.trans hc
        cases sep; rename_i a; exact congrArg ByteArray.mk (Array.toList_inj.1 (by simpa using this))
      subst hsep
      have hsz : s.size = List.length d1 := by rw [← e1]; simp
      refine (h s ⟨#[c]⟩ m w (by omega) hm (Nat.le_refl 1)).mono ?_
      rintro e w' ⟨rfl, rfl⟩
      have ho : splitL c d1 = o.1 := by rw [← (Prod.mk.inj (Option.some.inj hF)).2]
      have hsp := splitB_splitL c _ s rfl
      rw [e1, ho] at hsp
      have hlen : (Lib.splitB ⟨#[c]⟩ 0 (Lib.countB s ⟨#[c]⟩) s).length = Lib.countB s ⟨#[c]⟩ + 1 := Lib.splitB_all ⟨#[c]⟩ (Nat.le_refl 1) 0 _ s rfl
      have hlo : List.length o.1 = Lib.countB s ⟨#[c]⟩ + 1 := by rw [← hsp]; exact (List.length_map ..).trans hlen
      have hmx : maxStr = 281474976710656 := by decide
      have hcle := Lib.countB_le ⟨#[c]⟩ (Nat.le_refl 1) s.size s (Nat.le_refl _)
      refine ⟨_, rfl, by simp, rfl, fun b hb => Go.RowKit.Below.heap_alloc _ _ _ hb, ?_⟩
      refine ⟨[_], rfl, [.slice (some ⟨w.heap.size, 0, none⟩) (Lib.countB s ⟨#[c]⟩ + 1) (Lib.countB s ⟨#[c]⟩ + 1)], [], rfl, ?_, rfl⟩
      rw [← hlo]
      refine ⟨_, _, rfl, ⟨Nat.le_refl _, by omega⟩, .inr ⟨w.heap.size, 0, (Lib.splitB ⟨#[c]⟩ 0 (Lib.countB s ⟨#[c]⟩) s).map Value.string, (Lib.splitB ⟨#[c]⟩ 0 (Lib.countB s ⟨#[c]⟩) s).map Value.string, [], rfl, ⟨Nat.le_refl _, by simp⟩, ?_, ?_, ?_⟩⟩
      · show (match (w.alloc _).heap[w.heap.size]? with | some (.cells a _ _) => some a.toList | _ => none) = _
        have : (w.alloc (.cells ((Lib.splitB ⟨#[c]⟩ 0 (Lib.countB s ⟨#[c]⟩) s).map Value.string).toArray T)).heap[w.heap.size]? = some (.cells ((Lib.splitB ⟨#[c]⟩ 0 (Lib.countB s ⟨#[c]⟩) s).map Value.string).toArray T) := by
          show (w.heap.push _)[w.heap.size]? = _
          simp
        rw [this]
      · simp
      · rw [← hsp]
        exact CRs_strs _ fun x hx => by have := splitB_lens c _ s x hx; omega
    · cases hF
  · cases hF

theorem CR_errT {S : Nat → Prop} {w : World} (t : TypeId) (x : Value) : CR S w .err [.iface t x] true := ⟨_, rfl, .inr ⟨rfl, t, x, rfl⟩⟩
theorem CR_errF {S : Nat → Prop} {w : World} : CR S w .err [.nilIface] false := ⟨_, rfl, .inl ⟨rfl, rfl⟩⟩

theorem bytesWorld_kept (w : World) (T : TypeId) (t : ByteArray) : w.heap.size ≤ (Lib.bytesWorld w T t).heap.size ∧ kio (Lib.bytesWorld w T t) = kio w ∧ ∀ b, b < w.heap.size → (Lib.bytesWorld w T t).heap[b]? = w.heap[b]? := by
  unfold Lib.bytesWorld World.freeze
  split
  · exact ⟨by show _ ≤ (w.heap.push _).size; rw [Array.size_push]; omega, rfl, fun b hb => Go.RowKit.Below.heap_alloc w.drew _ b hb⟩
  · refine ⟨by show _ ≤ (Array.modify (w.heap.push _) _ _).size; rw [Array.size_modify, Array.size_push]; omega, rfl, fun b hb => ?_⟩
    simp only [Array.getElem?_modify]
    rw [if_neg (by omega)]
    exact Go.RowKit.Below.heap_alloc w.drew _ b hb

theorem below_kept {w w' : World} (h : Go.RowKit.Below w.heap.size w w') : w.heap.size ≤ w'.heap.size ∧ kio w' = kio w ∧ ∀ b, b < w.heap.size → w'.heap[b]? = w.heap[b]? :=
  ⟨h.size, by unfold kio; rw [h.os, h.output], h.block⟩

theorem sound_ParseInt (he : Go.Proofs.Enters P f) {g0 g1 : Nat} {T te : TypeId}
    (hg : ∀ S w, GlobI.g S w → (∃ t p, w.cell? ⟨g0, 0, none⟩ = some (.iface t p)) ∧ ∃ t p, w.cell? ⟨g1, 0, none⟩ = some (.iface t p))
    (hok : ∀ (s : ByteArray), s.size ≤ 9223372036854775806 → ∀ v : Int, Lib.parseIntB 64 s.data.toList = .ok v → ∀ w : World,
      Calls P f #[.string s, .int .i64 10, .int .i64 64] w fun e w' => e = .returned (.tuple #[.int .i64 v, .nilIface]) ∧ (w' = w ∨ ∃ t, w' = Lib.bytesWorld w T t))
    (hsy : ∀ (s : ByteArray), s.size ≤ 281474976710656 → (∀ v, Lib.parseIntB 64 s.data.toList ≠ .ok v) → Lib.parseIntB 64 s.data.toList ≠ .range → ∀ (ev : Value) (w : World), w.cell? ⟨g0, 0, none⟩ = some ev → (ev = .nilIface ∨ ∃ te pe, ev = .iface te pe) →
      Calls P f #[.string s, .int .i64 10, .int .i64 64] w fun e w' => ∃ N, e = .returned (.tuple #[.int .i64 (0), .iface te (.pointer (some ⟨N, 0, none⟩))])  ∧ Go.RowKit.Below w.heap.size w w')
    (hra : ∀ (s : ByteArray), s.size ≤ 281474976710656 → Lib.parseIntB 64 s.data.toList = .range → ∀ (ev : Value) (w : World), w.cell? ⟨g1, 0, none⟩ = some ev → (ev = .nilIface ∨ ∃ te pe, ev = .iface te pe) →
      Calls P f #[.string s, .int .i64 10, .int .i64 64] w fun e w' => ∃ N, e = .returned (.tuple #[.int .i64 (Lib.intSat 64 s.data.toList), .iface te (.pointer (some ⟨N, 0, none⟩))])  ∧ Go.RowKit.Below w.heap.size w w') :
    FSound P f none [false, false, false] (.cons .str (.cons (.int .i64) (.cons (.int .i64) .nil))) (.vals (.cons (.int .i64) (.cons .err .nil))) true lib_ParseInt := by
  refine FSound.of_calls he fun w S vs d o hgw _ ha hF => ?_
  obtain ⟨d1, d2, d3, du⟩ := d
  obtain ⟨v1, us1, rfl, a1, v2, us2, rfl, a2, v3, us3, rfl, a3, rfl⟩ := ha
  obtain ⟨s, rfl, e1, l1⟩ := A1_str a1
  obtain ⟨rfl, w2⟩ := A1_int a2
  obtain ⟨rfl, w3⟩ := A1_int a3
  dsimp only at e1 l1
  subst e1
  unfold lib_ParseInt at hF
  dsimp only at hF
  split at hF
  · rename_i hc
    obtain ⟨rfl, rfl, hl⟩ := hc
    have hsz : s.size = List.length s.data.toList := by simp
    obtain rfl := (Prod.mk.inj (Option.some.inj hF)).2
    have hw := parseI_wrap s.data.toList
    obtain ⟨⟨t0, p0, h0⟩, t1, p1, h1⟩ := hg S w hgw
    cases hp : Lib.parseIntB 64 s.data.toList with
    | ok v =>
      have e : parseI s.data.toList = (v, false) := by unfold parseI; rw [hp]
      rw [e] at hw ⊢
      refine (hok s (by omega) v hp w).mono ?_
      rintro e w' ⟨rfl, hw'⟩
      have hk : w.heap.size ≤ w'.heap.size ∧ kio w' = kio w ∧ ∀ b, b < w.heap.size → w'.heap[b]? = w.heap[b]? := by
        rcases hw' with rfl | ⟨t, rfl⟩
        · exact ⟨Nat.le_refl _, rfl, fun _ _ => rfl⟩
        · exact bytesWorld_kept w T t
      exact ⟨_, rfl, hk.1, hk.2.1, hk.2.2, [_, _], rfl, [.int .i64 v], [.nilIface], rfl, ⟨rfl, hw⟩, [.nilIface], [], rfl, CR_errF, rfl⟩
    | range =>
      have e : parseI s.data.toList = (Lib.intSat 64 s.data.toList, true) := by unfold parseI; rw [hp]
      rw [e] at hw ⊢
      refine (hra s (by omega) hp _ w h1 (.inr ⟨_, _, rfl⟩)).mono ?_
      rintro e w' ⟨N, rfl, hb⟩
      have hk := below_kept hb
      exact ⟨_, rfl, hk.1, hk.2.1, hk.2.2, [_, _], rfl, [.int .i64 (Lib.intSat 64 s.data.toList)], [.iface te (.pointer (some ⟨N, 0, none⟩))], rfl, ⟨rfl, hw⟩, [.iface te (.pointer (some ⟨N, 0, none⟩))], [], rfl, CR_errT _ _, rfl⟩
    | _ =>
      have e : parseI s.data.toList = (0, true) := by unfold parseI; rw [hp]
      rw [e] at hw ⊢
      refine (hsy s (by omega) (fun v e => by rw [hp] at e; cases e) (fun e => by rw [hp] at e; cases e) _ w h0 (.inr ⟨_, _, rfl⟩)).mono ?_
      rintro e w' ⟨N, rfl, hb⟩
      have hk := below_kept hb
      exact ⟨_, rfl, hk.1, hk.2.1, hk.2.2, [_, _], rfl, [.int .i64 0], [.iface te (.pointer (some ⟨N, 0, none⟩))], rfl, ⟨rfl, hw⟩, [.iface te (.pointer (some ⟨N, 0, none⟩))], [], rfl, CR_errT _ _, rfl⟩
  · cases hF

theorem wrap64_range {v : Int} (h : IntKind.i64.wrap v = v) : -9223372036854775808 ≤ v ∧ v ≤ 9223372036854775807 := by
  unfold IntKind.wrap at h; simp [IntKind.signed, IntKind.bits] at h; omega

theorem sound_FormatInt (he : Go.Proofs.Enters P f) (htab : ∀ S w, GlobI.g S w → Lib.TabIs P w "internal/strconv.uint64pow10" .u64 Lib.pow10Tab)
    (h : ∀ (n : Int), -9223372036854775808 ≤ n → n ≤ 9223372036854775807 → ∀ w : World, Lib.TabIs P w "internal/strconv.uint64pow10" .u64 Lib.pow10Tab →
      Calls P f #[.int .i64 n, .int .i64 10] w fun e w' => e = .returned (.string ⟨(Lib.itoa n).toArray⟩) ∧ ∃ k os, w' = Go.Sort.grow (w.drewN k) os) :
    FSound P f none [false, false] (.cons (.int .i64) (.cons (.int .i64) .nil)) (.vals (.cons .str .nil)) true lib_FormatInt := by
  refine FSound.of_calls he fun w S vs d o hgw _ ha hF => ?_
  obtain ⟨d1, d2, du⟩ := d
  obtain ⟨v1, us1, rfl, a1, v2, us2, rfl, a2, rfl⟩ := ha
  obtain ⟨rfl, w1⟩ := A1_int a1
  obtain ⟨rfl, w2⟩ := A1_int a2
  unfold lib_FormatInt at hF
  dsimp only at hF w1
  split at hF
  · rename_i hc
    subst hc
    obtain rfl := (Prod.mk.inj (Option.some.inj hF)).2
    have hr := wrap64_range w1
    refine (h d1 hr.1 hr.2 w (htab S w hgw)).mono ?_
    rintro e w' ⟨rfl, k, os, rfl⟩
    have hmx : maxStr = 281474976710656 := by decide
    have hl := Lib.itoa_length_le d1 hr.1 hr.2
    refine ⟨_, rfl, by simp [Go.Sort.grow, World.drewN], rfl, fun b hb => ?_, [_], rfl, [.string ⟨(Lib.itoa d1).toArray⟩], [], rfl, CR_str_mk _ (by omega), rfl⟩
    show (w.heap ++ os)[b]? = _
    rw [Array.getElem?_append_left hb]
  · cases hF

theorem sound_Join (he : Go.Proofs.Enters P f)
    (h0 : ∀ (a : Option Addr) (c : Nat) (sep : ByteArray) (w : World), Calls P f #[.slice a 0 c, .string sep] w fun e w' => e = .returned (.string ⟨#[]⟩) ∧ w' = w)
    (h : ∀ (bk o c : Nat) (xs : List ByteArray) (sep : ByteArray) (w : World), (∀ (j : Nat) x, xs[j]? = some x → w.cell? ⟨bk, o + j, none⟩ = some (.string x)) → bk < w.heap.size → xs.length ≤ 140737488355328 → xs.length ≤ c →
      (Lib.join (xs.map (·.data.toList)) sep.data.toList).length ≤ 140737488355328 →
      Calls P f #[.slice (some ⟨bk, o, none⟩) xs.length c, .string sep] w fun e w' => e = .returned (.string ⟨(Lib.join (xs.map (·.data.toList)) sep.data.toList).toArray⟩) ∧ Go.RowKit.Below w.heap.size w w') :
    FSound P f none [false, false] (.cons (.sl .str) (.cons .str .nil)) (.vals (.cons .str .nil)) true lib_Join := by
  refine FSound.of_calls he fun w S vs d o hgw hS ha hF => ?_
  obtain ⟨d1, d2, du⟩ := d
  obtain ⟨v1, us1, rfl, a1, v2, us2, rfl, a2, rfl⟩ := ha
  obtain ⟨sep, rfl, e2, l2⟩ := A1_str a2
  dsimp only at e2
  subst e2
  unfold lib_Join at hF
  dsimp only at hF
  split at hF
  · rename_i hc
    obtain ⟨hc1, hc2⟩ := hc
    obtain rfl := (Prod.mk.inj (Option.some.inj hF)).2
    have hmx : maxStr = 281474976710656 := by decide
    unfold A1 at a1
    rw [if_neg (by simp)] at a1
    obtain ⟨cs, rfl, a, cap, rfl, ⟨hcap, _⟩, hrow⟩ := a1
    dsimp only at hcap hrow
    rcases hrow with rfl | ⟨c, of, xs, ys, zs, rfl, hSc, hrd, hdr, hcr⟩
    · refine (h0 a cap sep w).mono ?_
      rintro e w' ⟨rfl, rfl⟩
      exact ⟨_, rfl, Nat.le_refl _, rfl, fun _ _ => rfl, [_], rfl, [.string ⟨#[]⟩], [], rfl, CR_str_mk [] (by simp), rfl⟩
    · obtain ⟨bs, rfl, rfl⟩ := CRs_strs_inv d1 ys hcr
      replace hcap : bs.length ≤ cap := Nat.le_trans (Nat.le_of_eq (List.length_map ..).symm) hcap
      replace hc1 : bs.length ≤ 140737488355328 := Nat.le_trans (Nat.le_of_eq (List.length_map ..).symm) hc1
      have key := h c of cap bs sep w (fun j x hj => by
        unfold rd at hrd
        split at hrd
        · rename_i arr el fz hw
          simp only [Option.some.injEq] at hrd
          unfold World.cell?
          simp only [hw]
          have h1 : arr.toList[of + j]? = some (.string x) := by
            rw [hrd, ← List.getElem?_drop, hdr, List.getElem?_append_left (by
              rcases Nat.lt_or_ge j bs.length with h | h
              · simpa using h
              · rw [List.getElem?_eq_none h] at hj; cases hj), List.getElem?_map, hj]; rfl
          simpa using h1
        · cases hrd) (hS c hSc) hc1 hcap hc2
      have el : List.length (α := List UInt8) (bs.map (·.data.toList)) = bs.length := List.length_map ..
      show Calls P f #[.slice (some ⟨c, of, none⟩) (List.length (α := List UInt8) (bs.map (·.data.toList))) cap, .string sep] w _
      rw [el]
      refine key.mono ?_
      rintro e w' ⟨rfl, hb⟩
      have hk := below_kept hb
      exact ⟨_, rfl, hk.1, hk.2.1, hk.2.2, [_], rfl, [_], [], rfl, CR_str_mk _ (by omega), rfl⟩
  · cases hF
end
end Go.Ab

/- ==== Ab54 ==== -/
/- What the blocks of the library's variables hold. -/
namespace Go.Ab
open Go

def isIface (o : Option Obj) : Prop := ∃ arr el fr t p, o = some (.cells arr el fr) ∧ arr[0]? = some (.iface t p)
def isInt (o : Option Obj) : Prop := ∃ arr el fr m, o = some (.cells arr el fr) ∧ arr[0]? = some (.int .i64 m)
def isTab (l : List Int) (o : Option Obj) : Prop := ∃ el fr, o = some (.cells (l.map fun z => Value.int .u64 z).toArray el fr)

theorem isIface_cell {w : World} {k : Nat} (h : isIface w.heap[k]?) : ∃ t p, w.cell? ⟨k, 0, none⟩ = some (.iface t p) := by
  obtain ⟨arr, el, fr, t, p, h1, h2⟩ := h
  exact ⟨t, p, by unfold World.cell?; simp only [h1]; exact h2⟩

theorem isInt_cell {w : World} {k : Nat} (h : isInt w.heap[k]?) : ∃ m, w.cell? ⟨k, 0, none⟩ = some (.int .i64 m) := by
  obtain ⟨arr, el, fr, m, h1, h2⟩ := h
  exact ⟨m, by unfold World.cell?; simp only [h1]; exact h2⟩

theorem isTab_tab {P : Program} {w : World} {k : Nat} {name : String} {l : List Int} (hn : P.globalNamed name = some k) (h : isTab l w.heap[k]?) : Lib.TabIs P w name .u64 l := by
  obtain ⟨el, fr, h1⟩ := h
  unfold Lib.TabIs World.var?
  rw [hn]
  simp only [Option.bind_some, h1]

theorem isIface_var {P : Program} {w : World} {k : Nat} {name : String} {cs : Array Value} {t : TypeId} {p : Value} (hn : P.globalNamed name = some k) (h : w.var? P name = some cs) (h0 : cs[0]? = some (.iface t p)) : isIface w.heap[k]? := by
  unfold World.var? at h
  rw [hn] at h
  simp only [Option.bind_some] at h
  split at h
  · rename_i arr el fr he
    simp only [Option.some.injEq] at h
    subst h
    exact ⟨_, _, _, t, p, he, h0⟩
  · cases h

theorem isTab_var {P : Program} {w : World} {k : Nat} {name : String} {l : List Int} (hn : P.globalNamed name = some k) (h : Lib.TabIs P w name .u64 l) : isTab l w.heap[k]? := by
  unfold Lib.TabIs World.var? at h
  rw [hn] at h
  simp only [Option.bind_some] at h
  split at h
  · rename_i arr el fr he
    simp only [Option.some.injEq] at h
    subst h
    exact ⟨_, _, he⟩
  · cases h

theorem isInt_shaped {w : World} {k : Nat} {m : Int} (h : w.cell? ⟨k, 0, none⟩ = some (.int .i64 m)) : isInt w.heap[k]? := by
  unfold World.cell? at h
  split at h
  · rename_i arr el fr he
    simp only [Option.isSome_none, Bool.false_eq_true, if_false] at h
    exact ⟨_, _, _, m, he, h⟩
  · cases h
end Go.Ab

/- ==== Pl1 ==== -/
/- Plain facts: words, numerals. No program in sight. -/
namespace Go.Ab
open Go

/-! Words. -/

theorem splitL_none {c : UInt8} : ∀ {w : List UInt8}, c ∉ w → splitL c w = [w]
  | [], _ => rfl
  | x :: r, h => by
    simp only [List.mem_cons, not_or] at h
    rw [splitL, if_neg (by simpa using fun e => h.1 e.symm), splitL_none h.2]

theorem splitL_cons {c : UInt8} : ∀ {w r : List UInt8}, c ∉ w → splitL c (w ++ c :: r) = w :: splitL c r
  | [], r, _ => by show splitL c (c :: r) = _; rw [splitL, if_pos (by simp)]
  | x :: w, r, h => by
    simp only [List.mem_cons, not_or] at h
    show splitL c (x :: (w ++ c :: r)) = _
    rw [splitL, if_neg (by simpa using fun e => h.1 e.symm), splitL_cons h.2]

/-- The words put together again. -/
def joinL (c : UInt8) : List (List UInt8) → List UInt8
  | [] => []
  | [w] => w
  | w :: v :: r => w ++ c :: joinL c (v :: r)

theorem joinL_cons {c : UInt8} {w : List UInt8} {l : List (List UInt8)} (h : l ≠ []) : joinL c (w :: l) = w ++ c :: joinL c l := by
  cases l with
  | nil => exact absurd rfl h
  | cons v r => rfl

theorem joinL_splitL (c : UInt8) : ∀ l : List UInt8, joinL c (splitL c l) = l
  | [] => rfl
  | x :: r => by
    have ih := joinL_splitL c r
    rw [splitL]
    split
    · rename_i h
      rw [joinL_cons (splitL_ne c r), ih, List.nil_append]
      rw [beq_iff_eq.1 h]
    · split
      · rename_i h; exact absurd h (splitL_ne c r)
      · rename_i y ys h
        rw [h] at ih
        cases ys with
        | nil => simp only [joinL] at ih ⊢; rw [ih]
        | cons z zs => simp only [joinL] at ih ⊢; rw [← ih]; rfl

theorem splitL_mem {c : UInt8} : ∀ {l w : List UInt8}, w ∈ splitL c l → c ∉ w
  | [], w, h => by simp only [splitL, List.mem_singleton] at h; subst h; simp
  | x :: r, w, h => by
    rw [splitL] at h
    split at h
    · simp only [List.mem_cons] at h
      rcases h with rfl | h
      · simp
      · exact splitL_mem h
    · rename_i hx
      split at h
      · rename_i h'; exact absurd h' (splitL_ne c r)
      · rename_i y ys h'
        simp only [List.mem_cons] at h
        rcases h with rfl | h
        · have := splitL_mem (c := c) (l := r) (w := y) (by rw [h']; simp)
          simp only [List.mem_cons, not_or]
          exact ⟨fun e => hx (by simp [e]), this⟩
        · exact splitL_mem (l := r) (by rw [h']; simp [h])

theorem join_joinL (c : UInt8) : ∀ l : List (List UInt8), Lib.join l [c] = joinL c l
  | [] => rfl
  | [w] => by rw [Lib.join_one]; rfl
  | w :: v :: r => by
    have ih := join_joinL c (v :: r)
    rw [Lib.join_cons] at ih ⊢
    rw [joinL, ← ih]
    simp [Lib.joinTail]

/-! Numerals. -/

def isDig (c : UInt8) : Bool := 48 ≤ c.toNat && c.toNat ≤ 57
/-- What digits spell. -/
def dval (acc : Nat) (l : List UInt8) : Nat := l.foldl (fun a c => a * 10 + (c.toNat - 48)) acc

theorem dval_snoc (acc : Nat) (l : List UInt8) (c : UInt8) : dval acc (l ++ [c]) = dval acc l * 10 + (c.toNat - 48) := by simp [dval]
theorem dval_cons (acc : Nat) (c : UInt8) (l : List UInt8) : dval acc (c :: l) = dval (acc * 10 + (c.toNat - 48)) l := by unfold dval; rw [List.foldl_cons]

theorem dval_ge : ∀ (l : List UInt8) (acc : Nat), acc ≤ dval acc l
  | [], acc => Nat.le_refl _
  | c :: r, acc => by rw [dval_cons]; have := dval_ge r (acc * 10 + (c.toNat - 48)); omega

theorem dval_lt (l : List UInt8) : ∀ (acc k : Nat), (∀ c ∈ l, isDig c = true) → acc < 10 ^ k → dval acc l < 10 ^ (k + l.length) := by
  induction l with
  | nil => intro acc k _ h; exact h
  | cons c r ih =>
    intro acc k hd h
    have hc := hd c (by simp)
    simp only [isDig, Bool.and_eq_true, decide_eq_true_eq] at hc
    have h10 : 10 ^ (k + 1) = 10 ^ k * 10 := Nat.pow_succ ..
    have := ih (acc * 10 + (c.toNat - 48)) (k + 1) (fun x hx => hd x (by simp [hx])) (by rw [h10]; omega)
    rw [dval_cons, List.length_cons, show k + (r.length + 1) = k + 1 + r.length by omega]
    exact this

theorem decDigits_dig (u : Nat) : ∀ c ∈ Lib.decDigits u, isDig c = true := by
  rw [Lib.decDigits]
  split
  · intro c hc
    simp only [List.mem_singleton] at hc
    subst hc
    have : (UInt8.ofNat (48 + u)).toNat = 48 + u := by simp; omega
    simp only [isDig, this, Bool.and_eq_true, decide_eq_true_eq]; omega
  · intro c hc
    simp only [List.mem_append, List.mem_singleton] at hc
    rcases hc with hc | hc
    · exact decDigits_dig (u / 10) c hc
    · subst hc
      have : (UInt8.ofNat (48 + u % 10)).toNat = 48 + u % 10 := by simp; omega
      simp only [isDig, this, Bool.and_eq_true, decide_eq_true_eq]; omega
termination_by u
decreasing_by omega

theorem dval_decDigits (u : Nat) : dval 0 (Lib.decDigits u) = u := by
  rw [Lib.decDigits]
  split
  · have : (UInt8.ofNat (48 + u)).toNat = 48 + u := by simp; omega
    simp only [dval, List.foldl_cons, List.foldl_nil, this]; omega
  · rw [dval_snoc, dval_decDigits (u / 10)]
    have : (UInt8.ofNat (48 + u % 10)).toNat = 48 + u % 10 := by simp; omega
    rw [this]; omega
termination_by u
decreasing_by omega

theorem decDigits_ne (u : Nat) : Lib.decDigits u ≠ [] := by
  rw [Lib.decDigits]; split <;> simp

/-- A numeral with no needless nought. -/
def isNum (l : List UInt8) : Bool := !l.isEmpty && l.all isDig && (l.length == 1 || l.head? != some 48)

theorem decDigits_head (u : Nat) : (Lib.decDigits u).length = 1 ∨ (Lib.decDigits u).head? ≠ some 48 := by
  rw [Lib.decDigits]
  split
  · left; rfl
  · rename_i h
    right
    have ih := decDigits_head (u / 10)
    have hne := decDigits_ne (u / 10)
    rw [List.head?_append]
    rcases ih with ih | ih
    · rw [Lib.decDigits]
      split
      · rename_i h2
        have : (UInt8.ofNat (48 + u / 10)).toNat = 48 + u / 10 := by simp; omega
        simp only [List.head?_cons, Option.some_or, ne_eq, Option.some.injEq]
        intro e
        rw [e] at this
        have : (48 : UInt8).toNat = 48 := rfl
        omega
      · rename_i h2
        rw [Lib.decDigits, dif_neg h2] at ih
        simp only [List.length_append, List.length_singleton] at ih
        have := decDigits_ne (u / 10 / 10)
        have : (Lib.decDigits (u / 10 / 10)).length = 0 := by omega
        exact absurd (List.length_eq_zero_iff.1 this) (decDigits_ne _)
    · cases hh : (Lib.decDigits (u / 10)).head? with
      | none => exact absurd (List.head?_eq_none_iff.1 hh) hne
      | some x => rw [hh] at ih; simpa using ih
termination_by u
decreasing_by omega

theorem isNum_decDigits (u : Nat) : isNum (Lib.decDigits u) = true := by
  unfold isNum
  simp only [Bool.and_eq_true, Bool.not_eq_true', List.isEmpty_eq_false_iff, List.all_eq_true, Bool.or_eq_true, beq_iff_eq, bne_iff_ne]
  exact ⟨⟨decDigits_ne u, decDigits_dig u⟩, decDigits_head u⟩

theorem dig_ofNat {c : UInt8} (h : isDig c = true) : UInt8.ofNat (48 + (c.toNat - 48)) = c := by
  simp only [isDig, Bool.and_eq_true, decide_eq_true_eq] at h
  rw [show 48 + (c.toNat - 48) = c.toNat by omega]
  simp

theorem decDigits_dval : ∀ (n : Nat) (l : List UInt8), l.length = n → isNum l = true → Lib.decDigits (dval 0 l) = l := by
  intro n
  induction n with
  | zero => intro l hl h; have : l = [] := List.length_eq_zero_iff.1 hl; subst this; simp [isNum] at h
  | succ n ih =>
    intro l hl h
    rcases List.eq_nil_or_concat l with rfl | ⟨r, c, rfl⟩
    · simp at hl
    · rw [List.concat_eq_append] at *
      simp only [List.length_append, List.length_singleton] at hl
      unfold isNum at h
      simp only [Bool.and_eq_true, Bool.not_eq_true', List.isEmpty_eq_false_iff, List.all_eq_true, Bool.or_eq_true, beq_iff_eq, bne_iff_ne, List.mem_append, List.mem_singleton, List.length_append, List.length_singleton] at h
      obtain ⟨⟨_, hd⟩, hz⟩ := h
      have hc : isDig c = true := hd c (.inr rfl)
      have hc' := hc
      simp only [isDig, Bool.and_eq_true, decide_eq_true_eq] at hc'
      rw [dval_snoc]
      cases r with
      | nil =>
        simp only [dval, List.foldl_nil, List.nil_append]
        rw [Lib.decDigits, dif_pos (by omega), Nat.zero_mul, Nat.zero_add, dig_ofNat hc]
      | cons x r =>
        have hx := hd x (.inl (by simp))
        simp only [isDig, Bool.and_eq_true, decide_eq_true_eq] at hx
        have hx0 : x ≠ 48 := by
          rcases hz with hz | hz
          · simp at hz
          · simpa using hz
        have hx1 : x.toNat ≠ 48 := fun e => hx0 (UInt8.toNat_inj.1 (by rw [e]; rfl))
        have hnum : isNum (x :: r) = true := by
          unfold isNum
          simp only [Bool.and_eq_true, Bool.not_eq_true', List.isEmpty_eq_false_iff, List.all_eq_true, Bool.or_eq_true, beq_iff_eq, bne_iff_ne]
          exact ⟨⟨by simp, fun y hy => hd y (.inl hy)⟩, .inr (by simpa using hx0)⟩
        have ih' := ih (x :: r) (by omega) hnum
        have hpos : 1 ≤ dval 0 (x :: r) := by
          rw [dval_cons]
          have := dval_ge r (0 * 10 + (x.toNat - 48))
          omega
        rw [Lib.decDigits, dif_neg (by omega)]
        rw [show (dval 0 (x :: r) * 10 + (c.toNat - 48)) / 10 = dval 0 (x :: r) by omega, ih',
          show (dval 0 (x :: r) * 10 + (c.toNat - 48)) % 10 = c.toNat - 48 by omega, dig_ofNat hc]

theorem parseUintM_dig (M : Nat) (hM : M ≤ 18446744073709551615) : ∀ (l : List UInt8) (acc : Nat), (∀ c ∈ l, isDig c = true) → dval acc l ≤ M → Lib.parseUintM M acc l = .ok (dval acc l)
  | [], acc, _, _ => rfl
  | c :: r, acc, hd, h => by
    have hc := hd c (by simp)
    simp only [isDig, Bool.and_eq_true, decide_eq_true_eq] at hc
    have hg := dval_ge r (acc * 10 + (c.toNat - 48))
    rw [dval_cons] at h ⊢
    rw [Lib.parseUintM, if_pos hc, if_neg (by omega), if_neg (by omega)]
    exact parseUintM_dig M hM r _ (fun x hx => hd x (by simp [hx])) h

theorem parseI_num {l : List UInt8} (h : isNum l = true) (hv : dval 0 l < 9223372036854775808) : parseI l = ((dval 0 l : Int), false) := by
  unfold isNum at h
  simp only [Bool.and_eq_true, Bool.not_eq_true', List.isEmpty_eq_false_iff, List.all_eq_true, Bool.or_eq_true, beq_iff_eq, bne_iff_ne] at h
  obtain ⟨⟨hne, hd⟩, _⟩ := h
  cases l with
  | nil => exact absurd rfl hne
  | cons c r =>
    have hc := hd c (by simp)
    simp only [isDig, Bool.and_eq_true, decide_eq_true_eq] at hc
    have e64 : (2 : Nat) ^ 64 - 1 = 18446744073709551615 := by decide
    have e63 : (2 : Nat) ^ (64 - 1) = 9223372036854775808 := by decide
    have hp : Lib.parseUintB 64 (c :: r) = .ok (dval 0 (c :: r)) := by
      unfold Lib.parseUintB
      rw [if_neg (by simp), e64]
      exact parseUintM_dig _ (Nat.le_refl _) _ _ hd (by omega)
    have hb : Lib.parseIntB 64 (c :: r) = .ok (dval 0 (c :: r) : Int) := by
      unfold Lib.parseIntB
      dsimp only
      rw [if_neg (by omega), hp]
      dsimp only
      rw [e63, if_neg (by omega), if_neg (by omega), if_neg (by omega)]
    unfold parseI
    rw [hb]

theorem parseI_itoa {n : Nat} (h : n < 9223372036854775808) : parseI (Lib.itoa (n : Int)) = ((n : Int), false) := by
  have e : Lib.itoa (n : Int) = Lib.decDigits n := by unfold Lib.itoa; rw [if_neg (by omega)]; simp
  rw [e, parseI_num (isNum_decDigits n) (by rw [dval_decDigits]; exact h), dval_decDigits]

theorem itoa_nat (n : Nat) : Lib.itoa (n : Int) = Lib.decDigits n := by unfold Lib.itoa; rw [if_neg (by omega)]; simp

theorem dig_ne {c : UInt8} {k : UInt8} (h : isDig c = true) (hk : isDig k = false) : c ≠ k := fun e => by rw [e, hk] at h; cases h

theorem not_mem_dec {n : Nat} {k : UInt8} (hk : isDig k = false) : k ∉ Lib.decDigits n := fun hm => dig_ne (decDigits_dig n k hm) hk rfl

theorem wrap64 {v : Int} (h1 : -9223372036854775808 ≤ v) (h2 : v ≤ 9223372036854775807) : IntKind.i64.wrap v = v := by
  unfold IntKind.wrap; simp [IntKind.signed, IntKind.bits]; omega
theorem wrapU8 {v : Int} (h1 : 0 ≤ v) (h2 : v ≤ 255) : IntKind.u8.wrap v = v := by
  unfold IntKind.wrap; simp [IntKind.signed, IntKind.bits]; omega

end Go.Ab

/- ==== Ab55 ==== -/
/- From a contract to a row: what stays, the call, the globals. -/
namespace Go.Ab
open Go

theorem kept_of {W W' : World} (hk : kio W' = kio W) (h : ∀ b, b < W.heap.size → W'.heap[b]? = W.heap[b]?) (may : MemPlace → Prop) : W.keptBut W' may := by
  refine ⟨congrArg (·.1) hk, congrArg (·.2) hk, fun i hi => ?_⟩
  rw [h i hi]
  cases W.heap[i]? with
  | none => rfl
  | some o =>
    cases o with
    | cells c t fr => exact ⟨rfl, rfl, rfl, fun _ _ => rfl⟩
    | map es clock => exact .inr ⟨rfl, rfl⟩
    | _ => rfl

theorem post_plain {H : Type} {enc : TypeId × Value → H} {P : Program} {f : Func} {s : ChangeSpec} {apart fresh handsOn : Bool} {W W' : World} {args : Array Value} {v : Value} {ds gs : List (DataW H)} {before pa pv : List MemPlace}
    (hW : DataW.Whole enc P f.params.toList s.vars apart W args.toList ds gs before)
    (hres : ∀ (b : Nat) (sp : Nat → Bool) (hd : Bool), DataW.TrodAll enc P W' b sp hd f.resultTypes.toList (v.resultList f.resultTypes.size) (s.fn H (ds ++ gs)).results [])
    (hargs : ∀ sp : Nat → Bool, (∀ p ∈ before, sp p.block = true) → DataW.TrodAll enc P W' 0 sp true f.params.toList args.toList (s.fn H (ds ++ gs)).args pa)
    (hvars : ∀ sp : Nat → Bool, (∀ p ∈ before, sp p.block = true) → DataW.TrodVars enc P W' sp s.vars (s.fn H (ds ++ gs)).vars pv)
    (hk : ∀ may, W.keptBut W' may) : s.post enc P f apart fresh handsOn false W args v W' :=
  have hold : ∀ p ∈ before, (fun b => decide (b < W.heap.size)) p.block = true := fun p hp => by simpa using hW.lt p hp
  ⟨ds, gs, before, [], pa, pv, hW, hres _ _ _, hargs _ hold, hvars _ hold, hk _, fun h => by cases h⟩

variable [GlobI]
theorem law_calls {P : Program} {f : FuncId} {ks : List Bool} {ins : TyL} {fr : Bool} {F : Unit → ins.D → Option (Unit × (Bool × Unit))} (he : Go.Proofs.Enters P f)
    (hs : FSound P f none ks ins (.vals (.cons .bool .nil)) fr F) {W : World} {S : Nat → Prop} {vs : List Value} {d : ins.D} (hg : GlobI.g S W) (hS : ∀ b, S b → b < W.heap.size) (ha : AA S W ks ins vs d)
    (hF : F () d = some ((), true, ())) :
    Calls P f vs.toArray W fun e W' => e = .returned (.bool true) ∧ (∀ may, W.keptBut W' may) ∧ ∀ b, b < W.heap.size → W'.heap[b]? = W.heap[b]? := by
  have h := hs W S vs d none () () (true, ()) hg hS ha rfl hF (fun e W' => e = .returned (.bool true) ∧ (∀ may, W.keptBut W' may) ∧ ∀ b, b < W.heap.size → W'.heap[b]? = W.heap[b]?) ?_
  · unfold Doing at h
    have e0 : (ptrV none ++ vs).toArray = vs.toArray := rfl
    rw [e0, he _ W] at h
    exact h
  · intro v W' S' h1 hk _ h3 _ ho
    obtain ⟨us, rfl, cs, us', rfl, hc, rfl⟩ := ho
    obtain rfl : cs = [.bool true] := hc
    have h4 : ∀ b, b < W.heap.size → W'.heap[b]? = W.heap[b]? := fun b hb => h3 b hb (by simp)
    exact ⟨rfl, kept_of hk h4, h4⟩

omit [GlobI] in
theorem lt_of_iface {w : World} {k : Nat} (h : isIface w.heap[k]?) : k < w.heap.size := by
  obtain ⟨_, _, _, _, _, h, _⟩ := h
  rcases Nat.lt_or_ge k w.heap.size with h' | h'
  · exact h'
  · rw [Array.getElem?_eq_none h'] at h; cases h
omit [GlobI] in
theorem lt_of_int {w : World} {k : Nat} (h : isInt w.heap[k]?) : k < w.heap.size := by
  obtain ⟨_, _, _, _, h, _⟩ := h
  rcases Nat.lt_or_ge k w.heap.size with h' | h'
  · exact h'
  · rw [Array.getElem?_eq_none h'] at h; cases h
omit [GlobI] in
theorem lt_of_tab {w : World} {k : Nat} {l : List Int} (h : isTab l w.heap[k]?) : k < w.heap.size := by
  obtain ⟨_, _, h⟩ := h
  rcases Nat.lt_or_ge k w.heap.size with h' | h'
  · exact h'
  · rw [Array.getElem?_eq_none h'] at h; cases h
end Go.Ab
