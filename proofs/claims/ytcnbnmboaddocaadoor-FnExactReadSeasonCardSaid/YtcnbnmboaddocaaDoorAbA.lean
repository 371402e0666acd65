/- The evaluator, proved sound; part 1 of 3. It holds for any program; the seat's own texts build on it. -/
import Derived.Orders
import Derived.KernelRfl
import Ieee.Arith
import Derived.Deep.MidRow
import Derived.Laws.CopyRow
import Derived.Laws.Strings
import Derived.Laws.BytesString
import Derived.Laws.BytesArg
import Derived.Laws.MakeOwn
import Derived.Great.BuildSlice
set_option linter.all false

/- ==== Ab1 ==== -/
/- Abstract values and a decision-tree evaluator for the model's code: definitions only (generic over any program). -/
namespace Go.Ab
open Go

mutual
inductive Ty where
  | bool
  | int (k : IntKind)
  | flt (k : FloatKind)
  | str
  | err
  | st (fs : TyL)
  | arr (n : Nat) (t : Ty)
  | sl (t : Ty)
inductive TyL where
  | nil
  | cons (t : Ty) (r : TyL)
end

mutual
def Ty.beq : Ty → Ty → Bool
  | .bool, .bool => true
  | .int k, .int k' => k == k'
  | .flt k, .flt k' => k == k'
  | .str, .str => true
  | .err, .err => true
  | .st fs, .st fs' => fs.beq fs'
  | .arr n t, .arr n' t' => n == n' && t.beq t'
  | .sl t, .sl t' => t.beq t'
  | _, _ => false
def TyL.beq : TyL → TyL → Bool
  | .nil, .nil => true
  | .cons t r, .cons t' r' => t.beq t' && r.beq r'
  | _, _ => false
end

mutual
theorem Ty.eq_of_beq : ∀ {a b : Ty}, a.beq b = true → a = b
  | .bool, b, h => by cases b <;> simp_all [Ty.beq]
  | .int k, b, h => by cases b <;> simp_all [Ty.beq]
  | .flt k, b, h => by cases b <;> simp_all [Ty.beq]
  | .str, b, h => by cases b <;> simp_all [Ty.beq]
  | .err, b, h => by cases b <;> simp_all [Ty.beq]
  | .st fs, b, h => by
    cases b with
    | st fs' => simp only [Ty.beq] at h; rw [TyL.eq_of_beq h]
    | _ => simp [Ty.beq] at h
  | .arr n t, b, h => by
    cases b with
    | arr n' t' => simp only [Ty.beq, Bool.and_eq_true, beq_iff_eq] at h; rw [h.1, Ty.eq_of_beq h.2]
    | _ => simp [Ty.beq] at h
  | .sl t, b, h => by
    cases b with
    | sl t' => simp only [Ty.beq] at h; rw [Ty.eq_of_beq h]
    | _ => simp [Ty.beq] at h
theorem TyL.eq_of_beq : ∀ {a b : TyL}, a.beq b = true → a = b
  | .nil, b, h => by cases b <;> simp_all [TyL.beq]
  | .cons t r, b, h => by
    cases b with
    | cons t' r' => simp only [TyL.beq, Bool.and_eq_true] at h; rw [Ty.eq_of_beq h.1, TyL.eq_of_beq h.2]
    | _ => simp [TyL.beq] at h
end

mutual
def Ty.D : Ty → Type
  | .bool => Bool
  | .int _ => Int
  | .flt _ => Nat
  | .str => List UInt8
  | .err => Bool
  | .st fs => fs.D
  | .arr _ t => List t.D
  | .sl t => List t.D
def TyL.D : TyL → Type
  | .nil => Unit
  | .cons t r => t.D × r.D
end

mutual
def Ty.size : Ty → Nat
  | .st fs => fs.size
  | .arr n t => n * t.size
  | _ => 1
def TyL.size : TyL → Nat
  | .nil => 0
  | .cons t r => t.size + r.size
end

def Ty.isAgg : Ty → Bool
  | .st _ => true
  | .arr _ _ => true
  | _ => false

mutual
/-- No slice within. -/
def Ty.flat : Ty → Bool
  | .st fs => fs.flat
  | .arr _ t => t.flat
  | .sl _ => false
  | _ => true
def TyL.flat : TyL → Bool
  | .nil => true
  | .cons t r => t.flat && r.flat
end

mutual
def Ty.zero : (t : Ty) → t.D
  | .bool => false
  | .int _ => (0 : Int)
  | .flt _ => (0 : Nat)
  | .str => ([] : List UInt8)
  | .err => false
  | .st fs => fs.zero
  | .arr n t => List.replicate n t.zero
  | .sl t => ([] : List t.D)
def TyL.zero : (t : TyL) → t.D
  | .nil => ()
  | .cons t r => (t.zero, r.zero)
end

/-- The field's type and how many cells lie before it. -/
def TyL.at : TyL → Nat → Option (Nat × Ty)
  | .nil, _ => none
  | .cons t _, 0 => some (0, t)
  | .cons t r, i + 1 => (r.at i).map fun x => (t.size + x.1, x.2)

inductive AV where
  | junk
  | und
  | bool (b : Bool)
  | int (k : IntKind) (n : Int)
  | flt (k : FloatKind) (x : Nat)
  | str (s : List UInt8)
  | err (e : Bool)
  | agg (vs : List AV)
  | arr (n : Nat) (t : Ty) (l : List t.D)
  | nils
  | lst (fr : Bool) (t : Ty) (l : List t.D)
  | own (b : Nat) (p : List Nat) (off len : Nat) (t : Ty)
  | ref (b : Nat) (p : List Nat) (t : Ty)
  | iref (t : Ty) (v : AV)
  | fn (f : FuncId)
  | tup (vs : List AV)

mutual
def mk (fr : Bool) : (t : Ty) → t.D → AV
  | .bool, d => .bool d
  | .int k, d => .int k d
  | .flt k, d => .flt k d
  | .str, d => .str d
  | .err, d => .err d
  | .st fs, d => .agg (mkL fr fs d)
  | .arr n t, d => .arr n t d
  | .sl t, d => .lst fr t d
def mkL (fr : Bool) : (t : TyL) → t.D → List AV
  | .nil, _ => []
  | .cons t r, d => mk fr t d.1 :: mkL fr r d.2
end

mutual
/-- The zero value; its slices are nil. -/
def zAV : Ty → AV
  | .bool => .bool false
  | .int k => .int k 0
  | .flt k => .flt k 0
  | .str => .str []
  | .err => .err false
  | .st fs => .agg (zAVL fs)
  | .arr n t => .arr n t (List.replicate n t.zero)
  | .sl _ => .nils
def zAVL : TyL → List AV
  | .nil => []
  | .cons t r => zAV t :: zAVL r
end

/-- Data of one type as data of an equal one. -/
def castL (t' t : Ty) (l : List t'.D) : Option (List t.D) := if h : t'.beq t = true then some (Ty.eq_of_beq h ▸ l) else none

inductive Blk where
  | dead
  | box (T : Ty) (v : AV)
  | row (mu fr : Bool) (t : Ty) (l : List t.D)

abbrev Heap := List Blk

structure St where
  tmps : List AV
  heap : Heap

inductive Tree (β : Type) : Type 1 where
  | ret (b : β)
  | fail
  | br (c : Bool) (t e : Tree β)
  | opt {γ : Type} (o : Option γ) (k : γ → Tree β)
  | sum {γ δ : Type} (s : γ ⊕ δ) (f : γ → Tree β) (g : δ → Tree β)

def Tree.run {β : Type} : Tree β → Option β
  | .ret b => some b
  | .fail => none
  | .br c t e => bif c then t.run else e.run
  | .opt o k => o.bind fun x => (k x).run
  | .sum s f g => Sum.elim (fun x => (f x).run) (fun x => (g x).run) s

/-- The part of a value at a path. -/
def getV : AV → List Nat → Option AV
  | v, [] => some v
  | .agg vs, i :: p => match vs[i]? with
    | some v => getV v p
    | none => none
  | .arr _ t l, i :: p => getV (mk false t (l.getD i t.zero)) p
  | _, _ => none

def getB (b : Blk) (p : List Nat) : Option AV :=
  match b, p with
  | .box _ v, p => getV v p
  | .row _ fr t l, i :: p => getV (mk fr t (l.getD i t.zero)) p
  | _, _ => none

/-- What a slice holds. -/
def rowAt (t : Ty) : Option Blk → List Nat → Option (List t.D)
  | some (.row _ _ t' l), [] => castL t' t l
  | some (.box _ v), p => match getV v p with
    | some (.arr _ t' l) => castL t' t l
    | _ => none
  | some (.row _ fr t' l), i :: p => match getV (mk fr t' (l.getD i t'.zero)) p with
    | some (.arr _ t' l) => castL t' t l
    | _ => none
  | _, _ => none

mutual
/-- A value as data: what it holds now. -/
def un (H : Heap) : (t : Ty) → AV → Option t.D
  | .bool, v => match v with
    | .bool b => some b
    | _ => none
  | .int k, v => match v with
    | .int k' n => if k' = k then some n else none
    | _ => none
  | .flt k, v => match v with
    | .flt k' n => if k' = k then some n else none
    | _ => none
  | .str, v => match v with
    | .str s => some s
    | _ => none
  | .err, v => match v with
    | .err e => some e
    | _ => none
  | .st fs, v => match v with
    | .agg vs => unL H fs vs
    | _ => none
  | .arr n t, v => match v with
    | .arr n' t' l => if n' == n then castL t' t l else none
    | _ => none
  | .sl t, v => match v with
    | .nils => some ([] : List t.D)
    | .lst _ t' l => castL t' t l
    | .own b p off len t' => if t'.beq t then (rowAt t H[b]? p).map fun l => (l.drop off).take len else none
    | _ => none
def unL (H : Heap) : (t : TyL) → List AV → Option t.D
  | .nil, v => match v with
    | [] => some ()
    | _ => none
  | .cons t r, v => match v with
    | v :: vs => match un H t v, unL H r vs with
      | some a, some b => some (a, b)
      | _, _ => none
    | _ => none
end

mutual
/-- Does a value fit a type, as the cells of a variable? -/
def chk : Ty → AV → Bool
  | .bool, v => match v with
    | .bool _ => true
    | _ => false
  | .int k, v => match v with
    | .int k' _ => k' == k
    | _ => false
  | .flt k, v => match v with
    | .flt k' _ => k' == k
    | _ => false
  | .str, v => match v with
    | .str _ => true
    | _ => false
  | .err, v => match v with
    | .err _ => true
    | _ => false
  | .st fs, v => match v with
    | .agg vs => chkL fs vs
    | _ => false
  | .arr n t, v => match v with
    | .arr n' t' _ => n' == n && t'.beq t
    | _ => false
  | .sl t, v => match v with
    | .nils => true
    | .lst _ t' _ => t'.beq t
    | .own _ p _ _ t' => p.isEmpty && t'.beq t
    | _ => false
def chkL : TyL → List AV → Bool
  | .nil, v => v.isEmpty
  | .cons t r, v => match v with
    | v :: vs => chk t v && chkL r vs
    | [] => false
end

mutual
/-- All slices within are this call's own or nil. -/
def isFr : Ty → AV → Bool
  | .st fs, v => match v with
    | .agg vs => isFrL fs vs
    | _ => false
  | .arr _ t, _ => t.flat
  | .sl _, v => match v with
    | .nils => true
    | .lst fr _ _ => fr
    | _ => false
  | .bool, _ => true
  | .int _, _ => true
  | .flt _, _ => true
  | .str, _ => true
  | .err, _ => true
def isFrL : TyL → List AV → Bool
  | .nil, _ => true
  | .cons t r, v => match v with
    | v :: vs => isFr t v && isFrL r vs
    | [] => false
end

mutual
/-- No slice of an own block within. -/
def noOwn : Ty → AV → Bool
  | .st fs, v => match v with
    | .agg vs => noOwnL fs vs
    | _ => false
  | .sl _, v => match v with
    | .nils => true
    | .lst _ _ _ => true
    | _ => false
  | .bool, _ => true
  | .int _, _ => true
  | .flt _, _ => true
  | .str, _ => true
  | .err, _ => true
  | .arr _ _, _ => true
def noOwnL : TyL → List AV → Bool
  | .nil, _ => true
  | .cons t r, v => match v with
    | v :: vs => noOwn t v && noOwnL r vs
    | [] => false
end

/-- Store at a path. -/
def setV (H : Heap) (x : AV) : AV → List Nat → Option AV
  | _, [] => some x
  | .agg vs, i :: p => match vs[i]? with
    | some v => (setV H x v p).map fun v' => .agg (vs.set i v')
    | none => none
  | .arr n t l, i :: p => match setV H x (mk false t (l.getD i t.zero)) p with
    | some v' => if noOwn t v' then (un H t v').map fun d => .arr n t (l.set i d) else none
    | none => none
  | _, _ => none

def setB (H : Heap) (x : AV) (b : Blk) (p : List Nat) : Option Blk :=
  match b, p with
  | .box T v, p => (setV H x v p).map (.box T)
  | .row true fr t l, i :: p => match setV H x (mk fr t (l.getD i t.zero)) p with
    | some v' => if noOwn t v' then (un H t v').map fun d => .row true (fr && isFr t v') t (l.set i d) else none
    | none => none
  | _, _ => none
end Go.Ab

/- ==== Ab2 ==== -/
/- The decision-tree evaluator: definitions only (generic over any program). -/
namespace Go.Ab
open Go

/-- No string is longer than this where two are joined. -/
def maxStr : Nat := 2 ^ 48
def nanW : FloatKind → Nat
  | .f32 => 0x7fc00000
  | .f64 => 0x7ff8000000000000

def canon (k : FloatKind) (b : Nat) : Nat := if (k.format.read b).isNaN then nanW k else b

def fadd (k : FloatKind) (x y : Nat) : Nat := (k.format.add x y).getD (nanW k)
def fsub (k : FloatKind) (x y : Nat) : Nat := (k.format.sub x y).getD (nanW k)
def fmul (k : FloatKind) (x y : Nat) : Nat := (k.format.mul x y).getD (nanW k)
def fdiv (k : FloatKind) (x y : Nat) : Nat := (k.format.div x y).getD (nanW k)
def fneg (k : FloatKind) (x : Nat) : Nat := canon k (x ^^^ 2 ^ (k.format.exponentBits + k.format.fractionBits))
def feq (k : FloatKind) (x y : Nat) : Bool := k.format.order x y == some .eq
def flt (k : FloatKind) (x y : Nat) : Bool := k.format.order x y == some .lt
def fgt (k : FloatKind) (x y : Nat) : Bool := k.format.order x y == some .gt
def fle (k : FloatKind) (x y : Nat) : Bool := k.format.order x y == some .lt || k.format.order x y == some .eq
def fge (k : FloatKind) (x y : Nat) : Bool := k.format.order x y == some .gt || k.format.order x y == some .eq

def ffits (s d : FloatKind) (x : Nat) : Bool := s == d || match s.format.read x with
  | .number n m e => !(d.format.read (d.format.write (.number n m e))).isInfinity
  | _ => true
def fconv (s d : FloatKind) (x : Nat) : Nat := if s = d then x else match s.format.read x with
  | .nan _ _ => nanW d
  | y => d.format.write y
def ftoi (k : FloatKind) (x : Nat) : Int := ((k.format.read x).toInt .zero).getD 0
def ftoiOk (k : FloatKind) (x : Nat) (d : IntKind) : Bool := match (k.format.read x).toInt .zero with
  | some n => decide (d.min ≤ n ∧ n ≤ d.max)
  | none => false

def ibits (k : IntKind) (f : BitVec k.bits → BitVec k.bits → BitVec k.bits) (a b : Int) : Int := k.wrap (f (BitVec.ofInt k.bits a) (BitVec.ofInt k.bits b)).toNat

/-- A side condition and a value. -/
def intBin (op : BinOp) (k : IntKind) (a : Int) (k' : IntKind) (b : Int) : Option (Bool × AV) :=
  match op with
  | .shl => some (decide (0 ≤ b), .int k (k.wrap (a * 2 ^ (min b.toNat k.bits))))
  | .shr => some (decide (0 ≤ b), .int k (a.fdiv (2 ^ (min b.toNat k.bits))))
  | op => if k = k' then match op with
    | .add => some (true, .int k (k.wrap (a + b)))
    | .sub => some (true, .int k (k.wrap (a - b)))
    | .mul => some (true, .int k (k.wrap (a * b)))
    | .quo => some (!(b == 0), .int k (k.wrap (a.tdiv b)))
    | .rem => some (!(b == 0), .int k (a.tmod b))
    | .and => some (true, .int k (ibits k (· &&& ·) a b))
    | .or => some (true, .int k (ibits k (· ||| ·) a b))
    | .eql => some (true, .bool (a == b))
    | .neq => some (true, .bool (a != b))
    | .lss => some (true, .bool (decide (a < b)))
    | .leq => some (true, .bool (decide (a ≤ b)))
    | .gtr => some (true, .bool (decide (a > b)))
    | .geq => some (true, .bool (decide (a ≥ b)))
    | _ => none
    else none

def fltBin (op : BinOp) (k : FloatKind) (a b : Nat) : Option AV :=
  match op with
  | .add => some (.flt k (fadd k a b))
  | .sub => some (.flt k (fsub k a b))
  | .mul => some (.flt k (fmul k a b))
  | .quo => some (.flt k (fdiv k a b))
  | .eql => some (.bool (feq k a b))
  | .neq => some (.bool (!feq k a b))
  | .lss => some (.bool (flt k a b))
  | .leq => some (.bool (fle k a b))
  | .gtr => some (.bool (fgt k a b))
  | .geq => some (.bool (fge k a b))
  | _ => none

/-- No slice that an append or a make gives has more elements than this. -/
def maxRow : Nat := 2 ^ 36

def strBin (op : BinOp) (a b : List UInt8) : Option (Bool × AV) :=
  match op with
  | .add => some (decide (a.length + b.length ≤ maxStr), .str (a ++ b))
  | .eql => some (true, .bool (a == b))
  | .neq => some (true, .bool (a != b))
  | .lss => some (true, .bool (Op.bytesLess a b))
  | _ => none

mutual
/-- '==' on values of which no part is an interface or a slice. -/
def eqAV : AV → AV → Option Bool
  | .bool a, .bool b => some (a == b)
  | .int k a, .int k' b => if k = k' then some (a == b) else none
  | .flt k a, .flt k' b => if k = k' then some (feq k a b) else none
  | .str a, .str b => some (a == b)
  | .agg vs, .agg us => eqAVs vs us
  | _, _ => none
def eqAVs : List AV → List AV → Option Bool
  | [], [] => some true
  | v :: vs, u :: us => match eqAV v u, eqAVs vs us with
    | some a, some b => some (a && b)
    | _, _ => none
  | _, _ => none
end

def binAV (op : BinOp) (x y : AV) : Option (Bool × AV) :=
  match x, y with
  | .int k a, .int k' b => intBin op k a k' b
  | .flt k a, .flt k' b => if k = k' then (fltBin op k a b).map (true, ·) else none
  | .str a, .str b => strBin op a b
  | _, _ => none

def cAV : Value → AV
  | .bool b => .bool b
  | .int k n => if k.wrap n = n then .int k n else .junk
  | .float k b => if b < 2 ^ k.format.width then .flt k (canon k b) else .junk
  | .string s => if s.data.toList.length ≤ maxStr then .str s.data.toList else .junk
  | .nilIface => .err false
  | .slice none 0 0 => .nils
  | _ => .junk

/-- What a step touches (reads or turns), what it turns; 'all': not known. -/
structure Foot where
  all : Bool := false
  reads : List Nat := []
  turns : List Nat := []
  lo : Nat := 0
  hi : Nat := 0

abbrev K (β : Type) := AV → Heap → Foot → Tree β
abbrev Call (β : Type) := FuncId → List AV → Heap → K β → Tree β

def vT (tm : List AV) : Operand → AV
  | .tmp t => tm.getD t .junk
  | .const v => cAV v
  | .func f => .fn f
  | .global _ => .junk

abbrev St.v (st : St) : Operand → AV := vT st.tmps

def Tree.need {β : Type} (c : Bool) (t : Tree β) : Tree β := .br c t .fail

def optT {α β : Type} (o : Option α) (k : α → Tree β) : Tree β :=
  match o with
  | some a => k a
  | none => .fail

section
variable {β : Type}

/-- The blocks that a value names. -/
def AV.ids : AV → List Nat
  | .own b _ _ _ _ => [b]
  | .ref b _ _ => [b]
  | _ => []

def loadE (ty : TypeId → Option Ty) (H : Heap) (t : TypeId) (a : AV) (k : K β) : Tree β :=
  optT (ty t) fun T =>
  match a with
  | .ref b p t' => if t'.beq T then optT H[b]? fun blk => optT (getB blk p) fun v => k v H { reads := [b] } else .fail
  | .iref t' v => if t'.beq T then k v H {} else .fail
  | _ => .fail

def storeE (ty : TypeId → Option Ty) (H : Heap) (t : TypeId) (a x : AV) (k : K β) : Tree β :=
  optT (ty t) fun T =>
  match a with
  | .ref b p t' => if t'.beq T && chk T x then optT H[b]? fun blk => optT (setB H x blk p) fun blk' => k .junk (H.set b blk') { reads := [b], turns := [b] } else .fail
  | _ => .fail

def fieldAddrE (ty : TypeId → Option Ty) (s : TypeId) (a : AV) (f : Nat) : Option AV :=
  match ty s with
  | some (.st fs) => match fs.at f with
    | some (_, t) => if t.size = 0 then none else match a with
      | .ref b p t' => if t'.beq (.st fs) then some (.ref b (p ++ [f]) t) else none
      | .iref t' (.agg vs) => if t'.beq (.st fs) then vs[f]?.map (.iref t) else none
      | _ => none
    | none => none
  | _ => none

def indexAddrE (ty : TypeId → Option Ty) (t : TypeId) (x : AV) (i : Int) (k : AV → Tree β) : Tree β :=
  match ty t, x with
  | some (.arr n e), .ref b p t' => if t'.beq (.arr n e) then .need (decide (0 ≤ i) && decide (i < n)) (k (.ref b (p ++ [i.toNat]) e)) else .fail
  | some (.arr n e), .iref t' (.arr _ u l) => if t'.beq (.arr n e) && u.beq e then .need (decide (0 ≤ i) && decide (i < n)) (k (.iref u (mk false u (l.getD i.toNat u.zero)))) else .fail
  | some (.sl e), .own b p off len t' => if t'.beq e then .need (decide (0 ≤ i) && decide (i < len)) (k (.ref b (p ++ [off + i.toNat]) e)) else .fail
  | some (.sl e), .lst fr u l => if u.beq e then .need (decide (0 ≤ i) && decide (i < l.length)) (k (.iref u (mk fr u (l.getD i.toNat u.zero)))) else .fail
  | _, _ => .fail

def bound (x : Option AV) (d : Int) : Option Int :=
  match x with
  | none => some d
  | some (.int _ n) => some n
  | _ => none

def sliceE (ty : TypeId → Option Ty) (t : TypeId) (x : AV) (lo hi : Option AV) (k : AV → Tree β) : Tree β :=
  match ty t, x with
  | some .str, .str s => optT (bound lo 0) fun l => optT (bound hi s.length) fun h =>
      .need (decide (0 ≤ l) && decide (l ≤ h) && decide (h ≤ s.length)) (k (.str ((s.drop l.toNat).take (h.toNat - l.toNat))))
  | some (.sl e), .lst fr u s => if u.beq e then optT (bound lo 0) fun l => optT (bound hi s.length) fun h =>
      .need (decide (0 ≤ l) && decide (l ≤ h) && decide (h ≤ s.length)) (k (.lst fr u ((s.drop l.toNat).take (h.toNat - l.toNat)))) else .fail
  | some (.sl e), .own b p off len u => if u.beq e then optT (bound lo 0) fun l => optT (bound hi len) fun h =>
      .need (decide (0 ≤ l) && decide (l ≤ h) && decide (h ≤ len)) (k (.own b p (off + l.toNat) (h.toNat - l.toNat) u)) else .fail
  | some (.sl _), .nils => optT (bound lo 0) fun l => optT (bound hi 0) fun h =>
      .need (decide (l = 0) && decide (h = 0)) (k .nils)
  | some (.arr n e), .ref b p t' => if t'.beq (.arr n e) && decide (n ≤ maxStr) then optT (bound lo 0) fun l => optT (bound hi n) fun h =>
      .need (decide (0 ≤ l) && decide (l ≤ h) && decide (h ≤ n)) (k (.own b p l.toNat (h.toNat - l.toNat) e)) else .fail
  | some (.arr n e), .iref t' (.arr _ u s) => if t'.beq (.arr n e) && u.beq e && decide (n ≤ maxStr) then optT (bound lo 0) fun l => optT (bound hi n) fun h =>
      .need (decide (0 ≤ l) && decide (l ≤ h) && decide (h ≤ n)) (k (.lst false u ((s.drop l.toNat).take (h.toNat - l.toNat)))) else .fail
  | _, _ => .fail

/-- The fields of a literal, one after the other. -/
def buildSt (fs : TyL) : List (Nat × AV) → List AV → Option (List AV)
  | [], vs => some vs
  | p :: ps, vs => match fs.at p.1 with
    | some q => if chk q.2 p.2 then buildSt fs ps (vs.set p.1 p.2) else none
    | none => none

def buildArr (H : Heap) (t : Ty) (n : Nat) : List (Nat × AV) → List t.D → Option (List t.D)
  | [], l => some l
  | p :: ps, l => if decide (p.1 < n) && noOwn t p.2 then match un H t p.2 with
      | some d => buildArr H t n ps (l.set p.1 d)
      | none => none
    else none

def buildE (ty : TypeId → Option Ty) (H : Heap) (t : TypeId) (ps : List (Nat × AV)) : Option AV :=
  match ty t with
  | some (.st fs) => (buildSt fs ps (zAVL fs)).map .agg
  | some (.arr n t') => (buildArr H t' n ps (List.replicate n t'.zero)).map fun l => .arr n t' l
  | _ => none

def buildSliceE (ty : TypeId → Option Ty) (H : Heap) (t : TypeId) (len : Nat) (ps : List (Nat × AV)) (k : K β) : Tree β :=
  match ty t with
  | some (.sl t') => if len = 0 then if ps.isEmpty then k .nils H {} else .fail
      else if decide (len * t'.size ≤ 16777216) && decide (t'.size ≠ 0) then
        optT (buildArr H t' len ps (List.replicate len t'.zero)) fun l =>
          k (.own H.length [] 0 len t') (H ++ [.row true (ps.all fun p => isFr t' p.2) t' l]) {}
      else .fail
  | _ => .fail

def makeSliceE (ty : TypeId → Option Ty) (H : Heap) (t : TypeId) (n c : AV) (k : K β) : Tree β :=
  match ty t, n, c with
  | some (.sl t'), .int .i64 n, .int .i64 c => .need (decide (0 ≤ n) && decide (n ≤ c) && decide (c ≤ maxRow))
      (k (.own H.length [] 0 n.toNat t') (H ++ [.row true true t' (List.replicate n.toNat t'.zero)]) {})
  | _, _, _ => .fail

/-- What a slice that is appended holds, and whether what lies within is fresh. -/
def srcE (H : Heap) (t : Ty) (x : AV) : Option (Bool × List t.D) :=
  match x with
  | .str s => match t with
    | .int .u8 => some (true, s.map fun b => (b.toNat : Int))
    | _ => none
  | .own b [] _ _ _ => match H[b]? with
    | some (.row _ fr _ _) => (un H (.sl t) x).map (fr, ·)
    | _ => none
  | .own _ _ _ _ _ => if t.flat then (un H (.sl t) x).map (true, ·) else none
  | .lst fr _ _ => (un H (.sl t) x).map (fr, ·)
  | .nils => some (true, [])
  | _ => none

def appendE (ty : TypeId → Option Ty) (H : Heap) (t : TypeId) (s x : AV) (k : K β) : Tree β :=
  match ty t with
  | some (.sl t') => optT (srcE H t' x) fun src =>
    match s with
    | .nils => .need (decide (src.2.length ≤ maxRow)) (k (.own H.length [] 0 src.2.length t') (H ++ [.row true src.1 t' src.2]) { reads := x.ids })
    | .own b [] 0 len u => if u.beq t' then match H[b]? with
      | some (.row true fr t'' l) => optT (castL t'' t' l) fun l =>
          .need (decide (len + src.2.length ≤ maxRow)) (k (.own H.length [] 0 (len + src.2.length) t') (H.set b .dead ++ [.row true (fr && src.1) t' (l.take len ++ src.2)])
            { reads := b :: x.ids, turns := [b] })
      | _ => .fail
      else .fail
    | _ => .fail
  | _ => .fail

def convE (ty : TypeId → Option Ty) (H : Heap) (s d : TypeId) (x : AV) (k : K β) : Tree β :=
  match ty s, ty d, x with
  | some (.int _), some (.int k'), .int _ n => k (.int k' (k'.wrap n)) H {}
  | some (.int _), some (.flt k'), .int _ n => k (.flt k' (k'.nearest n)) H {}
  | some (.flt _), some (.flt k'), .flt k0 n => .need (ffits k0 k' n) (k (.flt k' (fconv k0 k' n)) H {})
  | some (.flt _), some (.int k'), .flt k0 n => .need (ftoiOk k0 n k') (k (.int k' (ftoi k0 n)) H {})
  | some .str, some .str, .str a => k (.str a) H {}
  | some (.sl (.int .u8)), some .str, x => optT (un H (.sl (.int .u8)) x) fun l => k (.str (l.map fun n => UInt8.ofNat n.toNat)) H { reads := x.ids }
    | _, _, _ => .fail

def isNilC : Operand → Bool
  | .const .nilIface => true
  | _ => false

def opE (ty : TypeId → Option Ty) (call : Call β) (st : St) (o : Oper) (k : K β) : Tree β :=
  let H := st.heap
  match o.op with
  | .move x => k (st.v x) H {}
  | .assign x => k (st.v x) H {}
  | .pick c a b => match st.v c with
    | .bool g => .br g (k (st.v a) H {}) (k (st.v b) H {})
    | _ => .fail
  | .alloc t => optT (ty t) fun T => k (.ref H.length [] T) (H ++ [.box T (zAV T)]) {}
  | .box t x => optT (ty t) fun T => if chk T (st.v x) then k (.ref H.length [] T) (H ++ [.box T (st.v x)]) {} else .fail
  | .build t ps => optT (buildE ty H t (ps.toList.map fun p => (p.1, st.v p.2))) fun v => k v H {}
  | .buildSlice t len ps => buildSliceE ty H t len (ps.toList.map fun p => (p.1, st.v p.2)) k
  | .load t a => loadE ty H t (st.v a) k
  | .store t a x => storeE ty H t (st.v a) (st.v x) k
  | .nilCheck x => match st.v x with
    | .ref b p t => k (.ref b p t) H {}
    | .iref t v => k (.iref t v) H {}
    | .fn f => k (.fn f) H {}
    | _ => .fail
  | .binOp op t x y _ => match st.v x, st.v y with
    | .err a, .err b => match ty t, isNilC y, op with
      | some .err, true, .eql => .need (!b) (k (.bool (!a)) H {})
      | some .err, true, .neq => .need (!b) (k (.bool a) H {})
      | _, _, _ => .fail
    | .bool a, .bool b => match ty t, op with
      | some .bool, .eql => k (.bool (a == b)) H {}
      | some .bool, .neq => k (.bool (a != b)) H {}
      | _, _ => .fail
    | a, b => optT (binAV op a b) fun r => .need r.1 (k r.2 H {})
  | .unOp op _ x => match op, st.v x with
    | .not, .bool b => k (.bool (!b)) H {}
    | .neg, .int kd n => k (.int kd (kd.wrap (0 - n))) H {}
    | .neg, .flt kd n => k (.flt kd (fneg kd n)) H {}
    | _, _ => .fail
  | .convert s d x => convE ty H s d (st.v x) k
  | .makeSlice t n c => makeSliceE ty H t (st.v n) (st.v c) k
  | .slice t x lo hi mx => match mx with
    | none => sliceE ty t (st.v x) (lo.map st.v) (hi.map st.v) fun v => k v H {}
    | some _ => .fail
  | .fieldAddr s x f => optT (fieldAddrE ty s (st.v x) f) fun v => k v H {}
  | .indexAddr t x i => match st.v i with
    | .int _ n => indexAddrE ty t (st.v x) n fun v => k v H {}
    | _ => .fail
  | .field s x f => match ty s, st.v x with
    | some (.st fs), .agg vs => if chkL fs vs then optT vs[f]? fun v => k v H {} else .fail
    | _, _ => .fail
  | .index t x i => match ty t, st.v x, st.v i with
    | some .str, .str s, .int _ n => .need (decide (0 ≤ n) && decide (n < s.length)) (k (.int .u8 ((s.getD n.toNat 0).toNat : Int)) H {})
    | some (.arr n e), .arr n' t' l, .int _ i => if n' != n || !t'.beq e then .fail else .need (decide (0 ≤ i) && decide (i < n)) (k (mk false t' (l.getD i.toNat t'.zero)) H {})
    | _, _, _ => .fail
  | .extract x i => match st.v x with
    | .tup vs => optT vs[i]? fun v => k v H {}
    | _ => .fail
  | .call c => match c.callee with
    | .value f => match st.v f with
      | .fn f => call f (c.args.toList.map st.v) H k
      | _ => .fail
    | .builtin .len => match c.args.toList with
      | [x] => match c.argTypes.toList with
        | [t] => match ty t with
          | some (.arr n _) => if n ≤ maxStr then k (.int .i64 n) H {} else .fail
          | some .str => (match st.v x with
            | .str s => k (.int .i64 s.length) H {}
            | _ => .fail)
          | some (.sl _) => (match st.v x with
            | .lst _ _ l => k (.int .i64 l.length) H {}
            | .own _ _ _ len _ => k (.int .i64 len) H {}
            | .nils => k (.int .i64 0) H {}
            | _ => .fail)
          | _ => .fail
        | _ => .fail
      | _ => .fail
    | .builtin .append => match c.args.toList, c.argTypes.toList with
      | [s, x], [t, u] => match ty u with
        | some (.sl _) => appendE ty H t (st.v s) (st.v x) k
        | some .str => appendE ty H t (st.v s) (st.v x) k
        | _ => .fail
      | _, _ => .fail
    | .builtin .max => match c.args.toList with
      | [x, y] => match st.v x, st.v y with
        | .int kd a, .int kd' b => if kd = kd' then k (.int kd (if true then (if b > a then b else a) else (if b < a then b else a))) H {} else .fail
        | _, _ => .fail
      | _ => .fail
    | .builtin .min => match c.args.toList with
      | [x, y] => match st.v x, st.v y with
        | .int kd a, .int kd' b => if kd = kd' then k (.int kd (if false then (if b > a then b else a) else (if b < a then b else a))) H {} else .fail
        | _, _ => .fail
      | _ => .fail
    | _ => .fail
  | _ => .fail

def putT (tmps : List AV) (d : Option Tmp) (v : AV) : List AV :=
  match d with
  | some d => tmps.set d v
  | none => tmps

/-- The operations of a region in the order of the text; what each of them touches is gathered (the last one first). -/
def opsE (ty : TypeId → Option Ty) (call : Call β) (ops : Array Oper) : List Oper → St → List Foot → (St → List Foot → Tree β) → Tree β
  | [], st, fs, k => k st fs
  | o :: rest, st, fs, k =>
    let go (st : St) : Tree β := opE ty call st o fun v H f => opsE ty call ops rest { tmps := putT st.tmps o.dst v, heap := H } ({ f with lo := st.heap.length, hi := H.length } :: fs) k
    let no (st : St) : Tree β := opsE ty call ops rest { tmps := putT st.tmps o.dst .und, heap := st.heap } ({ lo := st.heap.length, hi := st.heap.length } :: fs) k
    match o.guard with
    | none => go st
    | some (j, want) => match (ops[j]?).bind (·.dst) with
      | some t => match st.tmps.getD t .junk with
        | .bool g => .br g
            (if want then go { st with tmps := st.tmps.set t (.bool true) } else no { st with tmps := st.tmps.set t (.bool true) })
            (if want then no { st with tmps := st.tmps.set t (.bool false) } else go { st with tmps := st.tmps.set t (.bool false) })
        | .und => no st
        | _ => .fail
      | none => .fail

def bitsOf (acc : List Nat) (o : Oper) : Nat := (o.after.toList.filter fun e => Region.binds .any e).foldl (fun s e => s ||| 2 ^ e.on ||| acc.getD e.on 0) 0

/-- For each operation the operations that come before it in every order, by their bits. -/
def befores (acc : List Nat) : List Oper → List Nat
  | [] => acc
  | o :: os => befores (acc ++ [bitsOf acc o]) os

def disj (a b : List Nat) : Bool := a.all fun x => !b.contains x

/-- 'f' stands before 'g' in the text. -/
def Foot.apart (f g : Foot) : Bool :=
  !f.all && !g.all && disj f.turns (g.reads ++ g.turns) && disj g.turns f.reads && (g.reads ++ g.turns).all (fun b => !(decide (f.lo ≤ b) && decide (b < f.hi)))

/-- Two steps that no edge orders touch nothing in common that one of them turns. -/
def footsOk (bs : List Nat) (fs : List Foot) : Bool :=
  (List.range fs.length).all fun j => (List.range j).all fun i => (bs.getD j 0).testBit i || (fs.getD i {}).apart (fs.getD j {})

/-- The form of a region that the evaluator takes in any order. -/
def regOk (ops : Array Oper) : Bool :=
  let bs := befores [] ops.toList
  (List.range ops.size).all fun j => match ops[j]? with
    | none => true
    | some o => o.after.all (fun e => decide (e.on < j) || !Region.binds .any e) &&
      (List.range j).all fun i => (bs.getD j 0).testBit i || match ops[i]? with
        | none => true
        | some u => u.apart ops o

inductive Ex where
  | norm
  | exit (id : Nat)
  | ret

def Ex.leave (id : Nat) : Ex → Ex
  | .exit i => if i = id then .norm else .exit i
  | e => e

def loops : Code → Nat
  | .seq a b => loops a + loops b
  | .cond _ a b => loops a + loops b
  | .block _ a => loops a
  | .loop a => 1 + loops a
  | _ => 0

/-- The evaluator: the loops are numbered in the order of the text; what a loop does is told by 'lp'. -/
def ev (ty : TypeId → Option Ty) (call : Call β) (lp : Nat → St → (Ex → St → Tree β) → Tree β) : Code → Nat → St → (Ex → St → Tree β) → Tree β
  | .skip, _, st, k => k .norm st
  | .region _ ops draw, _, st, k =>
    if draw then
      if regOk ops then opsE ty call ops ops.toList st [] fun st' fs => if footsOk (befores [] ops.toList) fs.reverse then k .norm st' else .fail
      else .fail
    else opsE ty call ops ops.toList st [] fun st' _ => k .norm st'
  | .seq a b, i, st, k => ev ty call lp a i st fun e st' => match e with
    | .norm => ev ty call lp b (i + loops a) st' k
    | .exit id => k (.exit id) st'
    | .ret => k .ret st'
  | .cond c a b, i, st, k => match st.v c with
    | .bool g => .br g (ev ty call lp a i st k) (ev ty call lp b (i + loops a) st k)
    | _ => .fail
  | .block id c, i, st, k => ev ty call lp c i st fun e st' => k (e.leave id) st'
  | .loop _, i, st, k => lp i st k
  | .exit id, _, st, k => k (.exit id) st
  | .ret, _, st, k => k .ret st
  | _, _, _, _ => .fail

/-- The value that a function gives back. -/
def resE (ty : TypeId → Option Ty) (st : St) : List ResultVar → Option (List AV)
  | [] => some []
  | .tmp t :: rs => (resE ty st rs).map fun vs => st.tmps.getD t .junk :: vs
  | .cell a t :: rs => match ty t, st.tmps.getD a .junk with
    | some T, .ref b p t' => if t'.beq T then match st.heap[b]? with
      | some blk => match getB blk p with
        | some v => (resE ty st rs).map fun vs => v :: vs
        | none => none
      | none => none
      else none
    | _, _ => none

/-- What a function gives back, as one value. -/
def outV : List AV → AV
  | [v] => v
  | vs => .tup vs

def AV.noTup : AV → Bool
  | .tup _ => false
  | _ => true

def bodyE (ty : TypeId → Option Ty) (call : Call β) (lp : Nat → St → (Ex → St → Tree β) → Tree β) (fn : Func) (args : List AV) (H : Heap) (k : AV → Heap → Tree β) : Tree β :=
  match fn.body with
  | none => .fail
  | some c =>
    if fn.ntmps < args.length then .fail else
    ev ty call lp c 0 { tmps := args ++ List.replicate (fn.ntmps - args.length) .junk, heap := H } fun e st =>
      let fin := match resE ty st fn.results.toList with
        | some vs => if vs.all AV.noTup then k (outV vs) st.heap else .fail
        | none => .fail
      match e with
      | .norm => fin
      | .ret => fin
      | .exit _ => .fail
end
end Go.Ab

/- ==== Ab3 ==== -/
/- How abstract values stand to the model's memory; the first lemmas. -/
namespace Go.Ab
open Go

def rd (w : World) (c : Nat) : Option (List Value) :=
  match w.heap[c]? with
  | some (.cells a _ _) => some a.toList
  | _ => none

def CRs {α : Type} (R : List Value → α → Prop) : List Value → List α → Prop
  | cs, [] => cs = []
  | cs, d :: ds => ∃ c1 c2, cs = c1 ++ c2 ∧ R c1 d ∧ CRs R c2 ds

def ErrR (v : Value) (e : Bool) : Prop := (e = false ∧ v = .nilIface) ∨ (e = true ∧ ∃ t x, v = .iface t x)

mutual
/-- Cells that hold data by value; its slices lie in blocks of 'S'. -/
def CR (S : Nat → Prop) (w : World) : (t : Ty) → List Value → t.D → Prop
  | .bool, cs, d => cs = [.bool d]
  | .int k, cs, d => cs = [.int k d] ∧ k.wrap d = d
  | .flt k, cs, d => ∃ b, cs = [.float k b] ∧ canon k b = d ∧ b < 2 ^ k.format.width
  | .str, cs, d => ∃ s : ByteArray, cs = [.string s] ∧ s.data.toList = d ∧ List.length d ≤ maxStr
  | .err, cs, d => ∃ v, cs = [v] ∧ ErrR v d
  | .st fs, cs, d => CRL S w fs cs d
  | .arr n t, cs, d => List.length d = n ∧ CRs (CR S w t) cs d
  | .sl t, cs, d => ∃ a cap, cs = [.slice a (List.length d) cap] ∧ (List.length d ≤ cap ∧ List.length d ≤ maxStr) ∧
      (d = [] ∨ ∃ c o xs ys zs, a = some ⟨c, o, none⟩ ∧ S c ∧ rd w c = some xs ∧ xs.drop o = ys ++ zs ∧ CRs (CR S w t) ys d)
def CRL (S : Nat → Prop) (w : World) : (t : TyL) → List Value → t.D → Prop
  | .nil, cs, _ => cs = []
  | .cons t r, cs, d => ∃ c1 c2, cs = c1 ++ c2 ∧ CR S w t c1 d.1 ∧ CRL S w r c2 d.2
end

theorem CRs_len {α : Type} {R : List Value → α → Prop} {n : Nat} (h : ∀ cs d, R cs d → cs.length = n) :
    ∀ (ds : List α) (cs : List Value), CRs R cs ds → cs.length = ds.length * n := by
  intro ds
  induction ds with
  | nil => intro cs h'; simp only [CRs] at h'; simp [h']
  | cons d ds ih =>
    intro cs h'
    obtain ⟨c1, c2, rfl, h1, h2⟩ := h'
    have a := h _ _ h1
    have b := ih _ h2
    simp only [List.length_append, List.length_cons, a, b, Nat.add_mul]; omega

theorem CRs_mono {α : Type} {R R' : List Value → α → Prop} (h : ∀ cs d, R cs d → R' cs d) :
    ∀ (ds : List α) (cs : List Value), CRs R cs ds → CRs R' cs ds := by
  intro ds
  induction ds with
  | nil => intro cs h'; exact h'
  | cons d ds ih =>
    intro cs h'
    obtain ⟨c1, c2, rfl, h1, h2⟩ := h'
    exact ⟨c1, c2, rfl, h _ _ h1, ih _ h2⟩

mutual
theorem CR_len {S : Nat → Prop} {w : World} : ∀ (t : Ty) (cs : List Value) (d : t.D), CR S w t cs d → cs.length = t.size
  | .bool, cs, d, h => by simp only [CR] at h; simp [h, Ty.size]
  | .int k, cs, d, h => by simp only [CR] at h; simp [h.1, Ty.size]
  | .flt k, cs, d, h => by simp only [CR] at h; obtain ⟨b, rfl, _⟩ := h; simp [Ty.size]
  | .str, cs, d, h => by simp only [CR] at h; obtain ⟨b, rfl, _⟩ := h; simp [Ty.size]
  | .err, cs, d, h => by simp only [CR] at h; obtain ⟨b, rfl, _⟩ := h; simp [Ty.size]
  | .st fs, cs, d, h => by simp only [CR] at h; simp only [Ty.size]; exact CRL_len fs cs d h
  | .arr n t, cs, d, h => by simp only [CR] at h; simp only [Ty.size]; rw [← h.1]; exact CRs_len (fun cs d => CR_len t cs d) _ _ h.2
  | .sl t, cs, d, h => by simp only [CR] at h; obtain ⟨a, cap, rfl, _⟩ := h; simp [Ty.size]
theorem CRL_len {S : Nat → Prop} {w : World} : ∀ (t : TyL) (cs : List Value) (d : t.D), CRL S w t cs d → cs.length = t.size
  | .nil, cs, d, h => by simp only [CRL] at h; simp [h, TyL.size]
  | .cons t r, cs, d, h => by
    simp only [CRL] at h
    obtain ⟨c1, c2, rfl, h1, h2⟩ := h
    simp only [List.length_append, TyL.size, CR_len t _ _ h1, CRL_len r _ _ h2]
end

mutual
theorem CR_mono {S S' : Nat → Prop} {w w' : World} (hS : ∀ c, S c → S' c) (hw : ∀ c, S c → w'.heap[c]? = w.heap[c]?) :
    ∀ (t : Ty) (cs : List Value) (d : t.D), CR S w t cs d → CR S' w' t cs d
  | .bool, cs, d, h => by simp only [CR] at h ⊢; exact h
  | .int k, cs, d, h => by simp only [CR] at h ⊢; exact h
  | .flt k, cs, d, h => by simp only [CR] at h ⊢; exact h
  | .str, cs, d, h => by simp only [CR] at h ⊢; exact h
  | .err, cs, d, h => by simp only [CR] at h ⊢; exact h
  | .st fs, cs, d, h => by simp only [CR] at h ⊢; exact CRL_mono hS hw fs cs d h
  | .arr n t, cs, d, h => by
    simp only [CR] at h ⊢
    exact ⟨h.1, CRs_mono (fun cs d => CR_mono hS hw t cs d) _ _ h.2⟩
  | .sl t, cs, d, h => by
    simp only [CR] at h ⊢
    obtain ⟨a, cap, hc, hl, h⟩ := h
    refine ⟨a, cap, hc, hl, ?_⟩
    rcases h with h | ⟨c, o, xs, ys, zs, ha, hs, hr, hx, hy⟩
    · exact .inl h
    · exact .inr ⟨c, o, xs, ys, zs, ha, hS c hs, by unfold rd at *; rw [hw c hs]; exact hr, hx, CRs_mono (fun cs d => CR_mono hS hw t cs d) _ _ hy⟩
theorem CRL_mono {S S' : Nat → Prop} {w w' : World} (hS : ∀ c, S c → S' c) (hw : ∀ c, S c → w'.heap[c]? = w.heap[c]?) :
    ∀ (t : TyL) (cs : List Value) (d : t.D), CRL S w t cs d → CRL S' w' t cs d
  | .nil, cs, d, h => by simp only [CRL] at h ⊢; exact h
  | .cons t r, cs, d, h => by
    simp only [CRL] at h ⊢
    obtain ⟨c1, c2, rfl, h1, h2⟩ := h
    exact ⟨c1, c2, rfl, CR_mono hS hw t _ _ h1, CRL_mono hS hw r _ _ h2⟩
end

/-- A block's form: one variable; or a row of so many elements with room for so many. -/
inductive PT where
  | var (T : Ty)
  | rows (T : Ty) (n cap : Nat)

abbrev Map := Nat → Option (Nat × PT)

/-- How many cells lie before a part, and its type. -/
def offT : Ty → List Nat → Option (Nat × Ty)
  | t, [] => some (0, t)
  | .st fs, i :: p => match fs.at i with
    | some (o, t) => (offT t p).map fun x => (o + x.1, x.2)
    | none => none
  | .arr n t, i :: p => if i < n then (offT t p).map fun x => (i * t.size + x.1, x.2) else none
  | _, _ => none

def offP : PT → List Nat → Option (Nat × Ty)
  | .var T, p => offT T p
  | .rows T n _, i :: p => if i < n then (offT T p).map fun x => (i * T.size + x.1, x.2) else none
  | .rows _ _ _, [] => none

/-- A slice's place: where it begins, what its elements are, how many there are, for how many there is room. -/
def offS : PT → List Nat → Option (Nat × Ty × Nat × Nat)
  | .rows T n cap, [] => some (0, T, n, cap)
  | pt, p => match offP pt p with
    | some (o, .arr n t) => some (o, t, n, n)
    | _ => none

/-- The slice of an own block. -/
def SlR (m : Map) (b : Nat) (p : List Nat) (off len : Nat) (t : Ty) (v : Value) : Prop :=
  (len = 0 ∧ ∃ a, v = .slice a 0 0) ∨
  ∃ c pt o n cap a, m b = some (c, pt) ∧ offS pt p = some (o, t, n, cap) ∧ off + len ≤ n ∧ (n ≤ cap ∧ len ≤ maxStr) ∧ v = .slice (some ⟨c, a, none⟩) len (cap - off) ∧ (off < cap → a = o + off * t.size)

mutual
def TR (S F : Nat → Prop) (m : Map) (w : World) : Ty → AV → List Value → Prop
  | .bool, .bool b, cs => cs = [.bool b]
  | .int k, .int k' n, cs => k' = k ∧ cs = [.int k n] ∧ k.wrap n = n
  | .flt k, .flt k' x, cs => k' = k ∧ ∃ b, cs = [.float k b] ∧ canon k b = x ∧ b < 2 ^ k.format.width
  | .str, .str l, cs => ∃ s : ByteArray, cs = [.string s] ∧ s.data.toList = l ∧ l.length ≤ maxStr
  | .err, .err e, cs => ∃ v, cs = [v] ∧ ErrR v e
  | .st fs, .agg vs, cs => TRL S F m w fs vs cs
  | .arr n t, .arr n' t' l, cs => n' = n ∧ t' = t ∧ CR S w (.arr n t') cs l
  | .sl _, .nils, cs => ∃ a, cs = [.slice a 0 0]
  | .sl t, .lst fr t' l, cs => t' = t ∧ CR (if fr then F else S) w (.sl t') cs l
  | .sl t, .own b p off len t', cs => t' = t ∧ p = [] ∧ ∃ v, cs = [v] ∧ SlR m b [] off len t v
  | _, _, _ => False
def TRL (S F : Nat → Prop) (m : Map) (w : World) : TyL → List AV → List Value → Prop
  | .nil, [], cs => cs = []
  | .cons t r, v :: vs, cs => ∃ c1 c2, cs = c1 ++ c2 ∧ TR S F m w t v c1 ∧ TRL S F m w r vs c2
  | _, _, _ => False
end

def ofCells (t : Ty) (cs : List Value) : Value := if t.isAgg then .agg cs.toArray else cs.headD undef

/-- A value of a temporary. -/
def UR0 (S F : Nat → Prop) (m : Map) (w : World) (x : AV) (v : Value) : Prop :=
  match x with
  | .junk => True
  | .und => v = undef
  | .ref b p t => ∃ c pt o, m b = some (c, pt) ∧ offP pt p = some (o, t) ∧ v = .pointer (some ⟨c, o, none⟩)
  | .iref t x => ∃ c o cs xs zs, v = .pointer (some ⟨c, o, none⟩) ∧ S c ∧ rd w c = some xs ∧ xs.drop o = cs ++ zs ∧ TR S F m w t x cs
  | .fn f => v = .func (.func f) #[] #[]
  | .tup _ => False
  | .own b p off len t => SlR m b p off len t v
  | x => ∃ t cs, TR S F m w t x cs ∧ v = ofCells t cs

def UR (S F : Nat → Prop) (m : Map) (w : World) (x : AV) (v : Value) : Prop :=
  match x with
  | .tup vs => ∃ xs : Array Value, v = .tuple xs ∧ xs.size = vs.length ∧ ∀ (i : Nat) (a : AV), vs[i]? = some a → ∃ y, xs[i]? = some y ∧ UR0 S F m w a y
  | x => UR0 S F m w x v

mutual
theorem TR_len {S F : Nat → Prop} {m : Map} {w : World} : ∀ (t : Ty) (v : AV) (cs : List Value), TR S F m w t v cs → cs.length = t.size
  | .bool, v, cs, h => by cases v <;> simp only [TR] at h; simp [h, Ty.size]
  | .int k, v, cs, h => by cases v <;> simp only [TR] at h; simp [h.2.1, Ty.size]
  | .flt k, v, cs, h => by cases v <;> simp only [TR] at h; obtain ⟨_, b, rfl, _⟩ := h; simp [Ty.size]
  | .str, v, cs, h => by cases v <;> simp only [TR] at h; obtain ⟨b, rfl, _⟩ := h; simp [Ty.size]
  | .err, v, cs, h => by cases v <;> simp only [TR] at h; obtain ⟨b, rfl, _⟩ := h; simp [Ty.size]
  | .st fs, v, cs, h => by cases v <;> simp only [TR] at h; simp only [Ty.size]; exact TRL_len fs _ _ h
  | .arr n t, v, cs, h => by
    cases v <;> simp only [TR] at h
    obtain ⟨_, rfl, h⟩ := h
    exact CR_len (.arr n _) _ _ h
  | .sl t, v, cs, h => by
    cases v <;> simp only [TR] at h
    · obtain ⟨a, rfl⟩ := h; simp [Ty.size]
    · obtain ⟨rfl, h⟩ := h; exact CR_len (.sl _) _ _ h
    · obtain ⟨_, _, v, rfl, _⟩ := h; simp [Ty.size]
theorem TRL_len {S F : Nat → Prop} {m : Map} {w : World} : ∀ (t : TyL) (v : List AV) (cs : List Value), TRL S F m w t v cs → cs.length = t.size
  | .nil, v, cs, h => by cases v <;> simp only [TRL] at h; simp [h, TyL.size]
  | .cons t r, v, cs, h => by
    cases v <;> simp only [TRL] at h
    obtain ⟨c1, c2, rfl, h1, h2⟩ := h
    simp only [List.length_append, TyL.size, TR_len t _ _ h1, TRL_len r _ _ h2]
end

theorem SlR_mono {m m' : Map} (hm : ∀ b x, m b = some x → m' b = some x) {b : Nat} {p : List Nat} {off len : Nat} {t : Ty} {v : Value} (h : SlR m b p off len t v) : SlR m' b p off len t v := by
  rcases h with h | ⟨c, pt, o, n, cap, a, h1, h2⟩
  · exact .inl h
  · exact .inr ⟨c, pt, o, n, cap, a, hm _ _ h1, h2⟩

section mono
variable {S F S' F' : Nat → Prop} {m m' : Map} {w w' : World}

/-- What stays as execution goes on. -/
structure Evo (S F : Nat → Prop) (m : Map) (w : World) (S' F' : Nat → Prop) (m' : Map) (w' : World) : Prop where
  hS : ∀ c, S c → S' c
  hF : ∀ c, F c → F' c
  hFS : ∀ c, F c → S c
  hm : ∀ b x, m b = some x → m' b = some x
  hw : ∀ c, S c → w'.heap[c]? = w.heap[c]?

mutual
theorem TR_mono (h : Evo S F m w S' F' m' w') : ∀ (t : Ty) (v : AV) (cs : List Value), TR S F m w t v cs → TR S' F' m' w' t v cs
  | .bool, v, cs, hh => by cases v <;> simp only [TR] at hh ⊢ <;> exact hh
  | .int k, v, cs, hh => by cases v <;> simp only [TR] at hh ⊢ <;> exact hh
  | .flt k, v, cs, hh => by cases v <;> simp only [TR] at hh ⊢ <;> exact hh
  | .str, v, cs, hh => by cases v <;> simp only [TR] at hh ⊢ <;> exact hh
  | .err, v, cs, hh => by cases v <;> simp only [TR] at hh ⊢ <;> exact hh
  | .st fs, v, cs, hh => by cases v <;> simp only [TR] at hh ⊢; exact TRL_mono h fs _ _ hh
  | .arr n t, v, cs, hh => by
    cases v <;> simp only [TR] at hh ⊢
    exact ⟨hh.1, hh.2.1, CR_mono h.hS h.hw _ _ _ hh.2.2⟩
  | .sl t, v, cs, hh => by
    cases v <;> simp only [TR] at hh ⊢
    · exact hh
    · rename_i fr t' l
      refine ⟨hh.1, ?_⟩
      cases fr
      · exact CR_mono h.hS h.hw _ _ _ hh.2
      · exact CR_mono h.hF (fun c hc => h.hw c (h.hFS c hc)) _ _ _ hh.2
    · obtain ⟨h1, h2, v, h3, h4⟩ := hh
      exact ⟨h1, h2, v, h3, SlR_mono h.hm h4⟩
theorem TRL_mono (h : Evo S F m w S' F' m' w') : ∀ (t : TyL) (v : List AV) (cs : List Value), TRL S F m w t v cs → TRL S' F' m' w' t v cs
  | .nil, v, cs, hh => by cases v <;> simp only [TRL] at hh ⊢; exact hh
  | .cons t r, v, cs, hh => by
    cases v <;> simp only [TRL] at hh ⊢
    obtain ⟨c1, c2, h0, h1, h2⟩ := hh
    exact ⟨c1, c2, h0, TR_mono h t _ _ h1, TRL_mono h r _ _ h2⟩
end

theorem UR0_mono (h : Evo S F m w S' F' m' w') (x : AV) (v : Value) (hh : UR0 S F m w x v) : UR0 S' F' m' w' x v := by
  cases x with
  | junk => trivial
  | und => exact hh
  | ref b p t => obtain ⟨c, pt, o, h1, h2⟩ := hh; exact ⟨c, pt, o, h.hm _ _ h1, h2⟩
  | iref t x =>
    obtain ⟨c, o, cs, xs, zs, h1, h2, h3, h4, h5⟩ := hh
    exact ⟨c, o, cs, xs, zs, h1, h.hS _ h2, by unfold rd at *; rw [h.hw c h2]; exact h3, h4, TR_mono h _ _ _ h5⟩
  | fn f => exact hh
  | tup vs => exact hh
  | own b p off len t => exact SlR_mono h.hm hh
  | bool b => obtain ⟨t, cs, h1, h2⟩ := hh; exact ⟨t, cs, TR_mono h _ _ _ h1, h2⟩
  | int k n => obtain ⟨t, cs, h1, h2⟩ := hh; exact ⟨t, cs, TR_mono h _ _ _ h1, h2⟩
  | flt k n => obtain ⟨t, cs, h1, h2⟩ := hh; exact ⟨t, cs, TR_mono h _ _ _ h1, h2⟩
  | str l => obtain ⟨t, cs, h1, h2⟩ := hh; exact ⟨t, cs, TR_mono h _ _ _ h1, h2⟩
  | err e => obtain ⟨t, cs, h1, h2⟩ := hh; exact ⟨t, cs, TR_mono h _ _ _ h1, h2⟩
  | agg vs => obtain ⟨t, cs, h1, h2⟩ := hh; exact ⟨t, cs, TR_mono h _ _ _ h1, h2⟩
  | arr n t l => obtain ⟨t, cs, h1, h2⟩ := hh; exact ⟨t, cs, TR_mono h _ _ _ h1, h2⟩
  | nils => obtain ⟨t, cs, h1, h2⟩ := hh; exact ⟨t, cs, TR_mono h _ _ _ h1, h2⟩
  | lst fr t l => obtain ⟨t, cs, h1, h2⟩ := hh; exact ⟨t, cs, TR_mono h _ _ _ h1, h2⟩

theorem UR_mono (h : Evo S F m w S' F' m' w') (x : AV) (v : Value) (hh : UR S F m w x v) : UR S' F' m' w' x v := by
  cases x with
  | tup vs =>
    obtain ⟨xs, h1, h2, h3⟩ := hh
    refine ⟨xs, h1, h2, fun i a ha => ?_⟩
    obtain ⟨y, h4, h5⟩ := h3 i a ha
    exact ⟨y, h4, UR0_mono h _ _ h5⟩
  | junk => trivial
  | und => exact UR0_mono h .und v hh
  | ref b p t => exact UR0_mono h (.ref b p t) v hh
  | iref t x => exact UR0_mono h (.iref t x) v hh
  | fn f => exact UR0_mono h (.fn f) v hh
  | own b p off len t => exact UR0_mono h (.own b p off len t) v hh
  | bool b => exact UR0_mono h (.bool b) v hh
  | int k n => exact UR0_mono h (.int k n) v hh
  | flt k n => exact UR0_mono h (.flt k n) v hh
  | str l => exact UR0_mono h (.str l) v hh
  | err e => exact UR0_mono h (.err e) v hh
  | agg vs => exact UR0_mono h (.agg vs) v hh
  | arr n t l => exact UR0_mono h (.arr n t l) v hh
  | lst fr t l => exact UR0_mono h (.lst fr t l) v hh
  | nils => exact UR0_mono h .nils v hh
end mono
end Go.Ab

/- ==== Ab4 ==== -/
/- Parts, stores, conversions of abstract values: how they stand to cells. -/
namespace Go.Ab
open Go


theorem un_bool (H : Heap) (v : AV) : un H .bool v = (match v with | .bool b => some b | _ => none) := rfl
theorem un_int (H : Heap) (k : IntKind) (v : AV) : un H (.int k) v = (match v with | .int k' n => if k' = k then some n else none | _ => none) := rfl
theorem un_flt (H : Heap) (k : FloatKind) (v : AV) : un H (.flt k) v = (match v with | .flt k' n => if k' = k then some n else none | _ => none) := rfl
theorem un_str (H : Heap) (v : AV) : un H .str v = (match v with | .str b => some b | _ => none) := rfl
theorem un_err (H : Heap) (v : AV) : un H .err v = (match v with | .err b => some b | _ => none) := rfl
theorem un_st (H : Heap) (fs : TyL) (v : AV) : un H (.st fs) v = (match v with | .agg vs => unL H fs vs | _ => none) := rfl
theorem un_arr (H : Heap) (n : Nat) (t : Ty) (v : AV) : un H (.arr n t) v = (match v with | .arr n' t' l => if n' == n then castL t' t l else none | _ => none) := rfl
theorem un_sl (H : Heap) (t : Ty) (v : AV) : un H (.sl t) v = (match v with
    | .nils => some ([] : List t.D)
    | .lst _ t' l => castL t' t l
    | .own b p off len t' => if t'.beq t then (rowAt t H[b]? p).map fun l => (l.drop off).take len else none
    | _ => none) := rfl
theorem unL_nil (H : Heap) (v : List AV) : unL H .nil v = (match v with | [] => some () | _ => none) := rfl
theorem unL_cons (H : Heap) (t : Ty) (r : TyL) (v : List AV) : unL H (.cons t r) v = (match v with
    | v :: vs => match un H t v, unL H r vs with
      | some a, some b => some (a, b)
      | _, _ => none
    | _ => none) := rfl

section
variable {S F : Nat → Prop} {m : Map} {w : World}

mutual
theorem TR_mk (hFS : ∀ c, F c → S c) (fr : Bool) : ∀ (t : Ty) (d : t.D) (cs : List Value), CR (if fr then F else S) w t cs d → TR S F m w t (mk fr t d) cs
  | .bool, d, cs, h => by simp only [CR, mk, TR] at h ⊢; exact h
  | .int k, d, cs, h => by simp only [CR, mk, TR] at h ⊢; exact ⟨trivial, h⟩
  | .flt k, d, cs, h => by simp only [CR, mk, TR] at h ⊢; exact ⟨trivial, h⟩
  | .str, d, cs, h => by simp only [CR, mk, TR] at h ⊢; exact h
  | .err, d, cs, h => by simp only [CR, mk, TR] at h ⊢; exact h
  | .st fs, d, cs, h => by simp only [CR, mk, TR] at h ⊢; exact TRL_mk hFS fr fs d cs h
  | .arr n t, d, cs, h => by
    simp only [mk, TR]
    refine ⟨trivial, trivial, CR_mono (S := if fr then F else S) (w := w) ?_ (fun _ _ => rfl) _ _ _ h⟩
    intro c hc; cases fr <;> simp at hc
    · exact hc
    · exact hFS c hc
  | .sl t, d, cs, h => by simp only [mk, TR]; exact ⟨trivial, h⟩
theorem TRL_mk (hFS : ∀ c, F c → S c) (fr : Bool) : ∀ (t : TyL) (d : t.D) (cs : List Value), CRL (if fr then F else S) w t cs d → TRL S F m w t (mkL fr t d) cs
  | .nil, d, cs, h => by simp only [CRL, mkL, TRL] at h ⊢; exact h
  | .cons t r, d, cs, h => by
    simp only [CRL, mkL, TRL] at h ⊢
    obtain ⟨c1, c2, h0, h1, h2⟩ := h
    exact ⟨c1, c2, h0, TR_mk hFS fr t _ _ h1, TRL_mk hFS fr r _ _ h2⟩
end

mutual
theorem CR_flat {S' : Nat → Prop} {w' : World} : ∀ (t : Ty) (cs : List Value) (d : t.D), t.flat = true → CR S w t cs d → CR S' w' t cs d
  | .bool, cs, d, _, h => by simp only [CR] at h ⊢; exact h
  | .int k, cs, d, _, h => by simp only [CR] at h ⊢; exact h
  | .flt k, cs, d, _, h => by simp only [CR] at h ⊢; exact h
  | .str, cs, d, _, h => by simp only [CR] at h ⊢; exact h
  | .err, cs, d, _, h => by simp only [CR] at h ⊢; exact h
  | .st fs, cs, d, hf, h => by simp only [CR, Ty.flat] at h hf ⊢; exact CRL_flat fs cs d hf h
  | .arr n t, cs, d, hf, h => by
    simp only [CR, Ty.flat] at h hf ⊢
    exact ⟨h.1, CRs_mono (fun cs d => CR_flat t cs d hf) _ _ h.2⟩
  | .sl t, cs, d, hf, h => by simp [Ty.flat] at hf
theorem CRL_flat {S' : Nat → Prop} {w' : World} : ∀ (t : TyL) (cs : List Value) (d : t.D), t.flat = true → CRL S w t cs d → CRL S' w' t cs d
  | .nil, cs, d, _, h => by simp only [CRL] at h ⊢; exact h
  | .cons t r, cs, d, hf, h => by
    simp only [CRL, TyL.flat, Bool.and_eq_true] at h hf ⊢
    obtain ⟨c1, c2, h0, h1, h2⟩ := h
    exact ⟨c1, c2, h0, CR_flat t _ _ hf.1 h1, CRL_flat r _ _ hf.2 h2⟩
end

theorem castL_eq {t' t : Ty} {l : List t'.D} {l' : List t.D} (h : castL t' t l = some l') : ∃ e : t' = t, l' = e ▸ l := by
  unfold castL at h
  split at h
  · rename_i hb
    exact ⟨Ty.eq_of_beq hb, by cases h; rfl⟩
  · cases h

mutual
theorem TR_un (hFS : ∀ c, F c → S c) (H : Heap) : ∀ (t : Ty) (v : AV) (cs : List Value) (d : t.D), TR S F m w t v cs → noOwn t v = true → un H t v = some d →
    CR S w t cs d ∧ (isFr t v = true → CR F w t cs d)
  | .bool, v, cs, d, h, hn, hu => by
    rw [un_bool] at hu
    split at hu
    · cases hu; simp only [TR, CR] at h ⊢; exact ⟨h, fun _ => h⟩
    · cases hu
  | .int k, v, cs, d, h, hn, hu => by
    rw [un_int] at hu
    split at hu
    · split at hu
      · cases hu; simp only [TR, CR] at h ⊢; exact ⟨h.2, fun _ => h.2⟩
      · cases hu
    · cases hu
  | .flt k, v, cs, d, h, hn, hu => by
    rw [un_flt] at hu
    split at hu
    · split at hu
      · cases hu; simp only [TR, CR] at h ⊢; exact ⟨h.2, fun _ => h.2⟩
      · cases hu
    · cases hu
  | .str, v, cs, d, h, hn, hu => by
    rw [un_str] at hu
    split at hu
    · cases hu; simp only [TR, CR] at h ⊢; exact ⟨h, fun _ => h⟩
    · cases hu
  | .err, v, cs, d, h, hn, hu => by
    rw [un_err] at hu
    split at hu
    · cases hu; simp only [TR, CR] at h ⊢; exact ⟨h, fun _ => h⟩
    · cases hu
  | .st fs, v, cs, d, h, hn, hu => by
    rw [un_st] at hu
    cases v with
    | agg vs =>
      simp only [TR, CR, noOwn, isFr] at h hn ⊢
      exact TRL_un hFS H fs _ cs d h hn hu
    | _ => exact absurd hu (by simp)
  | .arr n t, v, cs, d, h, hn, hu => by
    rw [un_arr] at hu
    cases v with
    | arr n' t' l =>
      simp only [TR] at h
      obtain ⟨e1, e2, h⟩ := h
      subst e1; subst e2
      simp only [beq_self_eq_true] at hu
      obtain ⟨e, rfl⟩ := castL_eq hu
      refine ⟨h, fun hf => ?_⟩
      simp only [isFr] at hf
      exact CR_flat (.arr n' t') cs _ (by simpa [Ty.flat] using hf) h
    | _ => exact absurd hu (by simp)
  | .sl t, v, cs, d, h, hn, hu => by
    rw [un_sl] at hu
    cases v with
    | nils =>
      simp only [TR] at h
      obtain ⟨a, rfl⟩ := h
      have hu : some ([] : List t.D) = some d := hu
      cases hu
      exact ⟨⟨a, 0, rfl, ⟨Nat.le_refl _, Nat.zero_le _⟩, .inl rfl⟩, fun _ => ⟨a, 0, rfl, ⟨Nat.le_refl _, Nat.zero_le _⟩, .inl rfl⟩⟩
    | lst fr t' l =>
      simp only [TR] at h
      obtain ⟨e1, h⟩ := h
      subst e1
      obtain ⟨e, rfl⟩ := castL_eq hu
      refine ⟨CR_mono (S := if fr then F else S) (w := w) ?_ (fun _ _ => rfl) _ _ _ h, fun hf => ?_⟩
      · intro c hc; cases fr <;> simp at hc
        · exact hc
        · exact hFS c hc
      · simp only [isFr] at hf; subst hf; exact h
    | own b p off len t' => simp [noOwn] at hn
    | _ => exact absurd hu (by simp)
theorem TRL_un (hFS : ∀ c, F c → S c) (H : Heap) : ∀ (t : TyL) (v : List AV) (cs : List Value) (d : t.D), TRL S F m w t v cs → noOwnL t v = true → unL H t v = some d →
    CRL S w t cs d ∧ (isFrL t v = true → CRL F w t cs d)
  | .nil, v, cs, d, h, hn, hu => by
    rw [unL_nil] at hu
    split at hu
    · simp only [TRL, CRL] at h ⊢; exact ⟨h, fun _ => h⟩
    · cases hu
  | .cons t r, v, cs, d, h, hn, hu => by
    rw [unL_cons] at hu
    split at hu
    · split at hu
      · rename_i a b ha hb
        cases hu
        simp only [TRL, CRL, noOwnL, isFrL, Bool.and_eq_true] at h hn ⊢
        obtain ⟨c1, c2, h0, h1, h2⟩ := h
        have g1 := TR_un hFS H t _ _ _ h1 hn.1 ha
        have g2 := TRL_un hFS H r _ _ _ h2 hn.2 hb
        exact ⟨⟨c1, c2, h0, g1.1, g2.1⟩, fun hf => ⟨c1, c2, h0, g1.2 hf.1, g2.2 hf.2⟩⟩
      · cases hu
    · cases hu
end

mutual
theorem TR_chk : ∀ (T t : Ty) (v : AV) (cs : List Value), TR S F m w t v cs → chk T v = true → TR S F m w T v cs
  | .bool, t, v, cs, h, hc => by cases v <;> simp [chk] at hc; cases t <;> simp only [TR] at h ⊢; exact h
  | .int k, t, v, cs, h, hc => by cases v <;> simp [chk] at hc; cases t <;> simp only [TR] at h ⊢; subst hc; obtain ⟨rfl, h⟩ := h; exact ⟨rfl, h⟩
  | .flt k, t, v, cs, h, hc => by cases v <;> simp [chk] at hc; cases t <;> simp only [TR] at h ⊢; subst hc; obtain ⟨rfl, h⟩ := h; exact ⟨rfl, h⟩
  | .str, t, v, cs, h, hc => by cases v <;> simp [chk] at hc; cases t <;> simp only [TR] at h ⊢; exact h
  | .err, t, v, cs, h, hc => by cases v <;> simp [chk] at hc; cases t <;> simp only [TR] at h ⊢; exact h
  | .st fs, t, v, cs, h, hc => by
    cases v <;> simp only [chk, Bool.false_eq_true] at hc
    cases t <;> simp only [TR] at h ⊢
    exact TRL_chk fs _ _ cs h hc
  | .arr n t, t0, v, cs, h, hc => by
    cases v <;> simp [chk] at hc
    cases t0 <;> simp only [TR] at h ⊢
    obtain ⟨rfl, rfl, h⟩ := h
    obtain ⟨rfl, hc⟩ := hc
    exact ⟨rfl, Ty.eq_of_beq hc, h⟩
  | .sl t, t0, v, cs, h, hc => by
    cases v <;> simp only [chk, Bool.false_eq_true] at hc
    · cases t0 <;> simp only [TR] at h ⊢; exact h
    · cases t0 <;> simp only [TR] at h ⊢
      exact ⟨Ty.eq_of_beq hc, h.2⟩
    · cases t0 <;> simp only [TR] at h ⊢
      obtain ⟨e, hp, v, h1, h2⟩ := h
      simp only [Bool.and_eq_true] at hc
      have e2 := Ty.eq_of_beq hc.2
      exact ⟨e2, hp, v, h1, (e.symm.trans e2) ▸ h2⟩
theorem TRL_chk : ∀ (T t : TyL) (v : List AV) (cs : List Value), TRL S F m w t v cs → chkL T v = true → TRL S F m w T v cs
  | .nil, t, v, cs, h, hc => by cases v <;> simp [chkL] at hc; cases t <;> simp only [TRL] at h ⊢; exact h
  | .cons T R, t, v, cs, h, hc => by
    cases v <;> simp only [chkL, Bool.false_eq_true, Bool.and_eq_true] at hc
    cases t <;> simp only [TRL] at h ⊢
    obtain ⟨c1, c2, h0, h1, h2⟩ := h
    exact ⟨c1, c2, h0, TR_chk T _ _ _ h1 hc.1, TRL_chk R _ _ _ h2 hc.2⟩
end

theorem UR0_chk {x : AV} {v : Value} {T : Ty} (h : UR0 S F m w x v) (hc : chk T x = true) : ∃ cs, TR S F m w T x cs ∧ v = ofCells T cs := by
  have agg : ∀ {t : Ty} {cs : List Value}, TR S F m w t x cs → TR S F m w T x cs → t.isAgg = T.isAgg := by
    intro t cs h1 h2
    cases t <;> cases T <;> cases x <;> simp only [TR] at h1 h2 <;> rfl
  have main : (∃ t cs, TR S F m w t x cs ∧ v = ofCells t cs) → ∃ cs, TR S F m w T x cs ∧ v = ofCells T cs := by
    rintro ⟨t, cs, h1, rfl⟩
    have h2 := TR_chk T t x cs h1 hc
    exact ⟨cs, h2, by unfold ofCells; rw [agg h1 h2]⟩
  cases x with
  | junk => cases T <;> simp [chk] at hc
  | und => cases T <;> simp [chk] at hc
  | ref b p t => cases T <;> simp [chk] at hc
  | iref t x => cases T <;> simp [chk] at hc
  | fn f => cases T <;> simp [chk] at hc
  | tup vs => cases T <;> simp [chk] at hc
  | own b p off len t =>
    cases T <;> simp only [chk, Bool.false_eq_true] at hc
    cases p with
    | nil =>
      simp only [Bool.and_eq_true] at hc
      have := Ty.eq_of_beq hc.2; subst this
      exact ⟨[v], by simp only [TR]; exact ⟨trivial, trivial, v, rfl, h⟩, rfl⟩
    | cons => simp at hc
  | bool b => exact main h
  | int k n => exact main h
  | flt k n => exact main h
  | str l => exact main h
  | err e => exact main h
  | agg vs => exact main h
  | arr n t l => exact main h
  | nils => exact main h
  | lst fr t l => exact main h
end
end Go.Ab

/- ==== Ab5 ==== -/
/- Parts of values and stores into them: how they stand to cells. -/
namespace Go.Ab
open Go

section
variable {S F : Nat → Prop} {m : Map} {w : World}

theorem CRs_get {α : Type} {R : List Value → α → Prop} {n : Nat} (hl : ∀ cs d, R cs d → cs.length = n) :
    ∀ (ds : List α) (cs : List Value) (i : Nat) (hi : i < ds.length), CRs R cs ds → ∃ pre c post, cs = pre ++ c ++ post ∧ pre.length = i * n ∧ R c (ds[i]) := by
  intro ds
  induction ds with
  | nil => intro cs i hi; simp at hi
  | cons d ds ih =>
    intro cs i hi h
    obtain ⟨c1, c2, rfl, h1, h2⟩ := h
    cases i with
    | zero => exact ⟨[], c1, c2, by simp, by simp, h1⟩
    | succ i =>
      obtain ⟨pre, c, post, rfl, hp, hr⟩ := ih c2 i (by simpa using hi) h2
      exact ⟨c1 ++ pre, c, post, by simp, by simp [hp, hl _ _ h1, Nat.add_mul]; omega, hr⟩

theorem CRs_set {α : Type} {R : List Value → α → Prop} {n : Nat} (hl : ∀ cs d, R cs d → cs.length = n) :
    ∀ (ds : List α) (pre c post : List Value) (i : Nat), i < ds.length → CRs R (pre ++ c ++ post) ds → pre.length = i * n → c.length = n →
    ∀ (c' : List Value) (d' : α), R c' d' → CRs R (pre ++ c' ++ post) (ds.set i d') := by
  intro ds
  induction ds with
  | nil => intro pre c post i hi; simp at hi
  | cons d ds ih =>
    intro pre c post i hi h hp hc c' d' hr
    obtain ⟨c1, c2, he, h1, h2⟩ := h
    cases i with
    | zero =>
      have hp0 : pre = [] := by simpa using hp
      subst hp0
      simp only [List.nil_append] at he
      have hlen : c1.length = c.length := by rw [hl _ _ h1, hc]
      obtain ⟨rfl, rfl⟩ := List.append_inj he.symm hlen
      exact ⟨c', c2, by simp, hr, h2⟩
    | succ i =>
      have hc1 : c1.length ≤ pre.length := by rw [hp, hl _ _ h1, Nat.add_mul]; omega
      have hpre : pre = c1 ++ pre.drop c1.length := by
        have := congrArg (List.take c1.length) he
        simp only [List.append_assoc] at this
        rw [List.take_append_of_le_length hc1, List.take_left'] at this
        · exact (List.take_append_drop c1.length pre).symm.trans (by rw [this])
        · rfl
      have hc2 : c2 = pre.drop c1.length ++ c ++ post := by
        rw [hpre] at he
        simp only [List.append_assoc] at he
        have := List.append_cancel_left he
        rw [← this]; simp
      have := ih (pre.drop c1.length) c post i (by simpa using hi) (hc2 ▸ h2) (by simp [hp, hl _ _ h1, Nat.add_mul]) hc c' d' hr
      refine ⟨c1, pre.drop c1.length ++ c' ++ post, ?_, h1, this⟩
      rw [← List.append_assoc, ← List.append_assoc, ← hpre]

theorem CRs_append {α : Type} {R : List Value → α → Prop} : ∀ (ds es : List α) (cs bs : List Value), CRs R cs ds → CRs R bs es → CRs R (cs ++ bs) (ds ++ es) := by
  intro ds
  induction ds with
  | nil => intro es cs bs h1 h2; simp only [CRs] at h1; subst h1; simpa using h2
  | cons d ds ih =>
    intro es cs bs h1 h2
    obtain ⟨c1, c2, rfl, h3, h4⟩ := h1
    exact ⟨c1, c2 ++ bs, by simp, h3, ih es c2 bs h4 h2⟩

theorem CRs_drop {α : Type} {R : List Value → α → Prop} {n : Nat} (hl : ∀ cs d, R cs d → cs.length = n) :
    ∀ (k : Nat) (ds : List α) (cs : List Value), CRs R cs ds → CRs R (cs.drop (k * n)) (ds.drop k) := by
  intro k
  induction k with
  | zero => intro ds cs h; simpa using h
  | succ k ih =>
    intro ds cs h
    cases ds with
    | nil => simp only [CRs] at h; subst h; simp [CRs]
    | cons d ds =>
      obtain ⟨c1, c2, rfl, h1, h2⟩ := h
      have := ih ds c2 h2
      rw [List.drop_succ_cons]
      have e : (k + 1) * n = c1.length + k * n := by rw [hl _ _ h1, Nat.add_mul]; omega
      rw [e, List.drop_append, List.drop_eq_nil_of_le (by omega)]
      simpa using this

theorem CRs_take {α : Type} {R : List Value → α → Prop} {n : Nat} (hl : ∀ cs d, R cs d → cs.length = n) :
    ∀ (k : Nat) (ds : List α) (cs : List Value), CRs R cs ds → CRs R (cs.take (k * n)) (ds.take k) := by
  intro k
  induction k with
  | zero => intro ds cs h; simp [CRs]
  | succ k ih =>
    intro ds cs h
    cases ds with
    | nil => simp only [CRs] at h; subst h; simp [CRs]
    | cons d ds =>
      obtain ⟨c1, c2, rfl, h1, h2⟩ := h
      have := ih ds c2 h2
      rw [List.take_succ_cons]
      have e : (k + 1) * n = c1.length + k * n := by rw [hl _ _ h1, Nat.add_mul]; omega
      rw [e, List.take_append, List.take_of_length_le (by omega)]
      exact ⟨c1, c2.take (k * n), by simp, h1, this⟩

/-- 't' lies behind 'o' cells of the value. -/
theorem TRL_at : ∀ (fs : TyL) (vs : List AV) (cs : List Value) (i o : Nat) (t : Ty), TRL S F m w fs vs cs → fs.at i = some (o, t) →
    ∃ v pre c post, vs[i]? = some v ∧ cs = pre ++ c ++ post ∧ pre.length = o ∧ TR S F m w t v c ∧
      ∀ v' c', TR S F m w t v' c' → TRL S F m w fs (vs.set i v') (pre ++ c' ++ post)
  | .nil, vs, cs, i, o, t, h, ha => by simp [TyL.at] at ha
  | .cons t0 r, vs, cs, i, o, t, h, ha => by
    cases vs <;> simp only [TRL] at h
    rename_i v vs
    obtain ⟨c1, c2, rfl, h1, h2⟩ := h
    cases i with
    | zero =>
      simp only [TyL.at, Option.some.injEq, Prod.mk.injEq] at ha
      obtain ⟨rfl, rfl⟩ := ha
      exact ⟨v, [], c1, c2, rfl, by simp, rfl, h1, fun v' c' h' => by simp only [TRL, List.set_cons_zero]; exact ⟨c', c2, by simp, h', h2⟩⟩
    | succ i =>
      simp only [TyL.at, Option.map_eq_some_iff] at ha
      obtain ⟨⟨o', t'⟩, ha, he⟩ := ha
      simp only [Prod.mk.injEq] at he
      obtain ⟨rfl, rfl⟩ := he
      obtain ⟨v1, pre, c, post, g1, rfl, g2, g3, g4⟩ := TRL_at r vs c2 i o' t' h2 ha
      refine ⟨v1, c1 ++ pre, c, post, by simpa using g1, by simp, by simp [g2, TR_len _ _ _ h1], g3, fun v' c' h' => ?_⟩
      simp only [TRL, List.set_cons_succ]
      exact ⟨c1, pre ++ c' ++ post, by simp, h1, g4 v' c' h'⟩

theorem getD_eq {α : Type} {l : List α} {i : Nat} (h : i < l.length) (d : α) : l.getD i d = l[i] := by
  simp [List.getD, List.getElem?_eq_getElem h]

theorem TR_getV (hFS : ∀ c, F c → S c) : ∀ (p : List Nat) (t : Ty) (v : AV) (cs : List Value) (o : Nat) (t' : Ty) (v' : AV), TR S F m w t v cs → offT t p = some (o, t') → getV v p = some v' →
    ∃ pre c post, cs = pre ++ c ++ post ∧ pre.length = o ∧ TR S F m w t' v' c := by
  intro p
  induction p with
  | nil =>
    intro t v cs o t' v' h ho hg
    cases t <;> simp only [offT, Option.some.injEq, Prod.mk.injEq] at ho <;> obtain ⟨rfl, rfl⟩ := ho <;>
      (have hg : some v = some v' := by cases v <;> exact hg) <;> cases hg <;> exact ⟨[], cs, [], by simp, rfl, h⟩
  | cons i p ih =>
    intro t v cs o t' v' h ho hg
    cases t with
    | st fs =>
      simp only [offT] at ho
      split at ho
      · rename_i o1 t1 ha
        simp only [Option.map_eq_some_iff] at ho
        obtain ⟨⟨o2, t2⟩, ho, he⟩ := ho
        simp only [Prod.mk.injEq] at he
        obtain ⟨rfl, rfl⟩ := he
        cases v <;> simp only [TR] at h
        rename_i vs
        obtain ⟨v1, pre, c, post, g1, rfl, g2, g3, _⟩ := TRL_at fs vs cs i o1 t1 h ha
        simp only [getV, g1] at hg
        obtain ⟨pre2, c2, post2, rfl, e2, h2⟩ := ih t1 v1 c o2 t2 v' g3 ho hg
        exact ⟨pre ++ pre2, c2, post2 ++ post, by simp, by simp [g2, e2], h2⟩
      · cases ho
    | arr n t1 =>
      simp only [offT] at ho
      split at ho
      · rename_i hi
        simp only [Option.map_eq_some_iff] at ho
        obtain ⟨⟨o2, t2⟩, ho, he⟩ := ho
        simp only [Prod.mk.injEq] at he
        obtain ⟨rfl, rfl⟩ := he
        cases v <;> simp only [TR] at h
        rename_i n' t0 l
        obtain ⟨rfl, rfl, h⟩ := h
        simp only [CR] at h
        obtain ⟨hl, h⟩ := h
        obtain ⟨pre, c, post, rfl, e1, g⟩ := CRs_get (fun cs d => CR_len t0 cs d) l cs i (by omega) h
        have hg : getV (mk false t0 (l.getD i t0.zero)) p = some v' := hg
        rw [getD_eq (by omega)] at hg
        obtain ⟨pre2, c2, post2, rfl, e2, h2⟩ := ih t0 _ c o2 t2 v' (TR_mk hFS false t0 _ c g) ho hg
        exact ⟨pre ++ pre2, c2, post2 ++ post, by simp, by simp [e1, e2], h2⟩
      · cases ho
    | _ => simp [offT] at ho

theorem TR_setV (hFS : ∀ c, F c → S c) (H : Heap) (x : AV) (cx : List Value) : ∀ (p : List Nat) (t : Ty) (v : AV) (cs : List Value) (o : Nat) (t' : Ty) (v' : AV), TR S F m w t v cs → offT t p = some (o, t') →
    TR S F m w t' x cx → setV H x v p = some v' →
    ∃ pre c post, cs = pre ++ c ++ post ∧ pre.length = o ∧ c.length = t'.size ∧ TR S F m w t v' (pre ++ cx ++ post) := by
  intro p
  induction p with
  | nil =>
    intro t v cs o t' v' h ho hx hg
    cases t <;> simp only [offT, Option.some.injEq, Prod.mk.injEq] at ho <;> obtain ⟨rfl, rfl⟩ := ho <;>
      (have hg : some x = some v' := by cases v <;> exact hg) <;> cases hg <;> exact ⟨[], cs, [], by simp, rfl, TR_len _ _ _ h, by simpa using hx⟩
  | cons i p ih =>
    intro t v cs o t' v' h ho hx hg
    cases t with
    | st fs =>
      simp only [offT] at ho
      split at ho
      · rename_i o1 t1 ha
        simp only [Option.map_eq_some_iff] at ho
        obtain ⟨⟨o2, t2⟩, ho, he⟩ := ho
        simp only [Prod.mk.injEq] at he
        obtain ⟨rfl, rfl⟩ := he
        cases v <;> simp only [TR] at h
        rename_i vs
        obtain ⟨v1, pre, c, post, g1, rfl, g2, g3, g4⟩ := TRL_at fs vs cs i o1 t1 h ha
        simp only [setV, g1, Option.map_eq_some_iff] at hg
        obtain ⟨v2, hg, rfl⟩ := hg
        obtain ⟨pre2, c2, post2, rfl, e2, h2, h3⟩ := ih t1 v1 c o2 t2 v2 g3 ho hx hg
        refine ⟨pre ++ pre2, c2, post2 ++ post, by simp, by simp [g2, e2], h2, ?_⟩
        simp only [TR]
        have := g4 v2 _ h3
        simpa using this
      · cases ho
    | arr n t1 =>
      simp only [offT] at ho
      split at ho
      · rename_i hi
        simp only [Option.map_eq_some_iff] at ho
        obtain ⟨⟨o2, t2⟩, ho, he⟩ := ho
        simp only [Prod.mk.injEq] at he
        obtain ⟨rfl, rfl⟩ := he
        cases v <;> simp only [TR] at h
        rename_i n' t0 l
        obtain ⟨rfl, rfl, h⟩ := h
        simp only [CR] at h
        obtain ⟨hl, h⟩ := h
        obtain ⟨pre, c, post, rfl, e1, g⟩ := CRs_get (fun cs d => CR_len t0 cs d) l cs i (by omega) h
        simp only [setV] at hg
        rw [getD_eq (by omega)] at hg
        split at hg
        · rename_i v2 hv2
          split at hg
          · rename_i hno
            simp only [Option.map_eq_some_iff] at hg
            obtain ⟨d, hd, rfl⟩ := hg
            obtain ⟨pre2, c2, post2, rfl, e2, h2, h3⟩ := ih t0 _ c o2 t2 v2 (TR_mk hFS false t0 _ c g) ho hx hv2
            refine ⟨pre ++ pre2, c2, post2 ++ post, by simp, by simp [e1, e2], h2, ?_⟩
            have hcr := (TR_un hFS H t0 v2 _ d h3 hno hd).1
            have := CRs_set (fun cs d => CR_len t0 cs d) l pre (pre2 ++ c2 ++ post2) post i (by omega) h e1 (CR_len _ _ _ g) _ d hcr
            simp only [TR, CR]
            refine ⟨trivial, trivial, by simp [hl], ?_⟩
            simpa using this
          · cases hg
        · cases hg
      · cases ho
    | _ => simp [offT] at ho

mutual
/-- The cells of the zero value. -/
def zC : Ty → List Value
  | .bool => [.bool false]
  | .int k => [.int k 0]
  | .flt k => [.float k 0]
  | .str => [.string .empty]
  | .err => [.nilIface]
  | .st fs => zCL fs
  | .arr n t => (List.replicate n (zC t)).flatten
  | .sl _ => [.slice none 0 0]
def zCL : TyL → List Value
  | .nil => []
  | .cons t r => zC t ++ zCL r
end

theorem canon_zero (k : FloatKind) : canon k 0 = 0 := by cases k <;> decide
theorem wrap_zero (k : IntKind) : k.wrap 0 = 0 := by cases k <;> decide
theorem zero_lt (k : FloatKind) : 0 < 2 ^ k.format.width := Nat.pos_of_ne_zero (by simp)

theorem CRs_replicate {α : Type} {R : List Value → α → Prop} {c : List Value} {d : α} (h : R c d) : ∀ n : Nat, CRs R (List.replicate n c).flatten (List.replicate n d) := by
  intro n
  induction n with
  | zero => simp [CRs]
  | succ n ih => exact ⟨c, (List.replicate n c).flatten, by simp [List.replicate_succ], h, ih⟩

mutual
theorem CR_zero : ∀ t : Ty, CR S w t (zC t) t.zero
  | .bool => by simp only [CR, zC, Ty.zero]
  | .int k => by simp only [CR, zC, Ty.zero]; exact ⟨trivial, wrap_zero k⟩
  | .flt k => by simp only [CR, zC, Ty.zero]; exact ⟨0, rfl, canon_zero k, zero_lt k⟩
  | .str => by simp only [CR, zC, Ty.zero]; exact ⟨_, rfl, rfl, Nat.zero_le _⟩
  | .err => by simp only [CR, zC, Ty.zero]; exact ⟨_, rfl, .inl ⟨rfl, rfl⟩⟩
  | .st fs => by simp only [CR, zC, Ty.zero]; exact CRL_zero fs
  | .arr n t => by simp only [CR, zC, Ty.zero]; exact ⟨List.length_replicate, CRs_replicate (CR_zero t) n⟩
  | .sl t => by simp only [CR, zC, Ty.zero]; exact ⟨none, 0, rfl, ⟨Nat.le_refl _, Nat.zero_le _⟩, .inl rfl⟩
theorem CRL_zero : ∀ t : TyL, CRL S w t (zCL t) t.zero
  | .nil => by simp only [CRL, zCL]
  | .cons t r => by simp only [CRL, zCL, TyL.zero]; exact ⟨_, _, rfl, CR_zero t, CRL_zero r⟩
end

mutual
theorem TR_zero : ∀ t : Ty, TR S F m w t (zAV t) (zC t)
  | .bool => by simp only [TR, zC, zAV]
  | .int k => by simp only [TR, zC, zAV]; exact ⟨trivial, trivial, wrap_zero k⟩
  | .flt k => by simp only [TR, zC, zAV]; exact ⟨trivial, 0, rfl, canon_zero k, zero_lt k⟩
  | .str => by simp only [TR, zC, zAV]; exact ⟨_, rfl, rfl, Nat.zero_le _⟩
  | .err => by simp only [TR, zC, zAV]; exact ⟨_, rfl, .inl ⟨rfl, rfl⟩⟩
  | .st fs => by simp only [TR, zC, zAV]; exact TRL_zero fs
  | .arr n t => by simp only [TR, zC, zAV]; exact ⟨trivial, trivial, CR_zero (.arr n t)⟩
  | .sl t => by simp only [TR, zC, zAV]; exact ⟨none, rfl⟩
theorem TRL_zero : ∀ t : TyL, TRL S F m w t (zAVL t) (zCL t)
  | .nil => by simp only [TRL, zCL, zAVL]
  | .cons t r => by simp only [TRL, zCL, zAVL]; exact ⟨_, _, rfl, TR_zero t, TRL_zero r⟩
end
end
end Go.Ab

/- ==== Ab6 ==== -/
/- The types' rows, the heap's relation, loads and stores. -/
namespace Go.Ab
open Go

def Elem (P : Program) (t : TypeId) (T : Ty) : Prop :=
  ∃ i z d, P.info? t = some i ∧ i.size = T.size ∧ i.zero = some z ∧ z.cells.toList = zC T ∧ i.bytes ≤ 1024 ∧ P.underlying t = some d ∧ d.isRow = T.isAgg

def FieldsOK (P : Program) : TyL → List Field → Nat → Prop
  | .nil, [], _ => True
  | .cons t r, f :: l, o => f.offset = o ∧ Elem P f.type t ∧ FieldsOK P r l (o + t.size)
  | _, _, _ => False

def UndOK (P : Program) (t : TypeId) : Ty → Prop
  | .bool => P.underlying t = some .bool
  | .int k => P.underlying t = some (.int k)
  | .flt k => P.underlying t = some (.float k)
  | .str => P.underlying t = some .string
  | .err => ∃ ms, P.underlying t = some (.interface ms)
  | .st fs => ∃ fields, P.underlying t = some (.struct fields) ∧ FieldsOK P fs fields.toList 0
  | .arr n e => ∃ te, P.underlying t = some (.array n te) ∧ Elem P te e
  | .sl e => ∃ te, P.underlying t = some (.slice te) ∧ Elem P te e

structure TyGood (P : Program) (t : TypeId) (T : Ty) : Prop where
  elem : Elem P t T
  und : UndOK P t T
  ints : ∀ k, T = .sl (.int k) → ∃ te, P.underlying t = some (.slice te) ∧ P.underlying te = some (.int k)

def TyOK (P : Program) (ty : TypeId → Option Ty) : Prop := ∀ t T, ty t = some T → TyGood P t T

theorem CRs_all {α : Type} {R : List Value → α → Prop} {p : Value → Prop} (h : ∀ cs d, R cs d → ∀ v ∈ cs, p v) : ∀ (ds : List α) (cs : List Value), CRs R cs ds → ∀ v ∈ cs, p v := by
  intro ds
  induction ds with
  | nil => intro cs h1 v hv; simp only [CRs] at h1; subst h1; simp at hv
  | cons d ds ih =>
    intro cs h1 v hv
    obtain ⟨c1, c2, rfl, h2, h3⟩ := h1
    rcases List.mem_append.1 hv with hv | hv
    · exact h _ _ h2 v hv
    · exact ih _ h3 v hv

section
variable {S F : Nat → Prop} {m : Map} {w : World}

mutual
theorem CR_one : ∀ (t : Ty) (cs : List Value) (d : t.D), CR S w t cs d → ∀ v ∈ cs, v.oneCell' = true
  | .bool, cs, d, h => by simp only [CR] at h; subst h; simp [Value.oneCell']
  | .int k, cs, d, h => by simp only [CR] at h; obtain ⟨rfl, _⟩ := h; simp [Value.oneCell']
  | .flt k, cs, d, h => by simp only [CR] at h; obtain ⟨b, rfl, _⟩ := h; simp [Value.oneCell']
  | .str, cs, d, h => by simp only [CR] at h; obtain ⟨b, rfl, _⟩ := h; simp [Value.oneCell']
  | .err, cs, d, h => by
    simp only [CR] at h
    obtain ⟨b, rfl, h⟩ := h
    rcases h with ⟨_, rfl⟩ | ⟨_, t, x, rfl⟩ <;> simp [Value.oneCell']
  | .st fs, cs, d, h => by simp only [CR] at h; exact CRL_one fs cs d h
  | .arr n t, cs, d, h => by simp only [CR] at h; exact CRs_all (fun cs d => CR_one t cs d) _ _ h.2
  | .sl t, cs, d, h => by simp only [CR] at h; obtain ⟨a, cap, rfl, _⟩ := h; simp [Value.oneCell']
theorem CRL_one : ∀ (t : TyL) (cs : List Value) (d : t.D), CRL S w t cs d → ∀ v ∈ cs, v.oneCell' = true
  | .nil, cs, d, h => by simp only [CRL] at h; subst h; simp
  | .cons t r, cs, d, h => by
    simp only [CRL] at h
    obtain ⟨c1, c2, rfl, h1, h2⟩ := h
    intro v hv
    rcases List.mem_append.1 hv with hv | hv
    · exact CR_one t _ _ h1 v hv
    · exact CRL_one r _ _ h2 v hv
end

theorem SlR_one {b : Nat} {p : List Nat} {off len : Nat} {t : Ty} {v : Value} (h : SlR m b p off len t v) : v.oneCell' = true := by
  rcases h with ⟨_, a, rfl⟩ | ⟨c, pt, o, n, cap, a, _, _, _, _, rfl, _⟩ <;> rfl

mutual
theorem TR_one : ∀ (t : Ty) (x : AV) (cs : List Value), TR S F m w t x cs → ∀ v ∈ cs, v.oneCell' = true
  | .bool, x, cs, h => by cases x <;> simp only [TR] at h; subst h; simp [Value.oneCell']
  | .int k, x, cs, h => by cases x <;> simp only [TR] at h; obtain ⟨_, rfl, _⟩ := h; simp [Value.oneCell']
  | .flt k, x, cs, h => by cases x <;> simp only [TR] at h; obtain ⟨_, b, rfl, _⟩ := h; simp [Value.oneCell']
  | .str, x, cs, h => by cases x <;> simp only [TR] at h; obtain ⟨b, rfl, _⟩ := h; simp [Value.oneCell']
  | .err, x, cs, h => by
    cases x <;> simp only [TR] at h
    obtain ⟨b, rfl, h⟩ := h
    rcases h with ⟨_, rfl⟩ | ⟨_, t, x, rfl⟩ <;> simp [Value.oneCell']
  | .st fs, x, cs, h => by cases x <;> simp only [TR] at h; exact TRL_one fs _ cs h
  | .arr n t, x, cs, h => by cases x <;> simp only [TR] at h; obtain ⟨_, rfl, h⟩ := h; exact CR_one (.arr n _) _ _ h
  | .sl t, x, cs, h => by
    cases x <;> simp only [TR] at h
    · obtain ⟨a, rfl⟩ := h; simp [Value.oneCell']
    · obtain ⟨rfl, h⟩ := h; exact CR_one (.sl _) _ _ h
    · obtain ⟨_, _, v, rfl, h⟩ := h; simpa using SlR_one h
theorem TRL_one : ∀ (t : TyL) (x : List AV) (cs : List Value), TRL S F m w t x cs → ∀ v ∈ cs, v.oneCell' = true
  | .nil, x, cs, h => by cases x <;> simp only [TRL] at h; subst h; simp
  | .cons t r, x, cs, h => by
    cases x <;> simp only [TRL] at h
    obtain ⟨c1, c2, rfl, h1, h2⟩ := h
    intro v hv
    rcases List.mem_append.1 hv with hv | hv
    · exact TR_one t _ _ h1 v hv
    · exact TRL_one r _ _ h2 v hv
end
end

theorem size_one {T : Ty} {S F : Nat → Prop} {m : Map} {w : World} {x : AV} {cs : List Value} (h : TR S F m w T x cs) (ha : T.isAgg = false) : ∃ v, cs = [v] := by
  have hl := TR_len _ _ _ h
  cases T <;> simp [Ty.isAgg] at ha <;> simp only [Ty.size] at hl <;>
    (match cs, hl with | [v], _ => exact ⟨v, rfl⟩)

section runs
variable {P : Program} {t : TypeId} {T : Ty}

theorem run_load_at {w : World} {c o : Nat} {arr : Array Value} {el : TypeId} {fr : Nat × Nat} {pre cs post : List Value} (hT : Elem P t T)
    (hh : w.heap[c]? = some (.cells arr el fr)) (ha : arr.toList = pre ++ cs ++ post) (ho : pre.length = o) (hl : cs.length = T.size) (h1 : T.isAgg = false → ∃ v, cs = [v]) :
    (Instr.loadAt t (.pointer (some ⟨c, o, none⟩))).run P w = .ok (ofCells T cs) w := by
  obtain ⟨i, z, d, hi, hs, hz, hzc, hb, hd, hr⟩ := hT
  have hrange : w.rangeAt c o cs := by
    intro j v hv
    have hj : j < cs.length := by
      rcases Nat.lt_or_ge j cs.length with h | h
      · exact h
      · rw [List.getElem?_eq_none h] at hv; cases hv
    have : arr[o + j]? = some v := by
      rw [← Array.getElem?_toList, ha, ← ho]
      rw [List.append_assoc, List.getElem?_append_right (by omega), List.getElem?_append_left (by omega)]
      simpa using hv
    simp [World.cell?, hh, this]
  cases hagg : T.isAgg with
  | true =>
    rw [run_loadAt_mid w c o t cs d hrange hd (by rw [hr, hagg]) (by simp [hi, hs, hl])]
    simp [ofCells, hagg]
  | false =>
    obtain ⟨v, rfl⟩ := h1 hagg
    have hc := hrange 0 v rfl
    have hag : (isAgg t).run P w = .ok false w := by
      unfold isAgg
      rw [Sem.run_bind, run_underlying hd w]
      rw [hagg] at hr
      cases d <;> simp_all [TypeDesc.isRow]
    simp only [Nat.add_zero] at hc
    simp [Instr.loadAt, Instr.sureAddr, loadVar, hag, hc, ofCells, hagg]

theorem run_store_at {w : World} {c o : Nat} {arr : Array Value} {el : TypeId} {pre old cs post : List Value} (hT : Elem P t T)
    (hh : w.heap[c]? = some (.cells arr el (0, 0))) (ha : arr.toList = pre ++ old ++ post) (ho : pre.length = o) (hol : old.length = T.size) (hl : cs.length = T.size)
    (h1 : T.isAgg = false → ∃ v, cs = [v]) (hone : ∀ v ∈ cs, v.oneCell' = true) :
    (Instr.storeAt t (.pointer (some ⟨c, o, none⟩)) (ofCells T cs)).run P w = .ok () (w.setRow c (pre ++ cs ++ post).toArray) := by
  obtain ⟨i, z, d, hi, hs, hz, hzc, hb, hd, hr⟩ := hT
  have hcells : (ofCells T cs).cells = cs.toArray := by
    unfold ofCells
    cases hagg : T.isAgg with
    | true => simp [Value.cells]
    | false =>
      obtain ⟨v, rfl⟩ := h1 hagg
      have := hone v (by simp)
      cases v <;> simp_all [Value.cells, Value.oneCell']
  have hsz : arr.size = pre.length + old.length + post.length := by
    have := congrArg List.length ha
    simpa [Nat.add_assoc] using this
  have := run_storeCells_at (P := P) c o el cs 0 arr w hh (by omega) hone
  have e1 : List.take (o + 0) arr.toList = pre := by rw [ha, ← ho]; simp
  have e2 : List.drop (o + 0 + cs.length) arr.toList = post := by
    rw [ha, ← ho]; simp [hl, ← hol]
  rw [e1, e2] at this
  simp [Instr.storeAt, Instr.sureAddr, storeVar, sizeOf, typeInfo, hi, hcells, hs, hl, this]
end runs
end Go.Ab

/- ==== Ab7 ==== -/
/- The heap's relation: what is own, what stays; how it goes on over new blocks, stores and moves. -/
namespace Go.Ab
open Go

/-- What the library's own variables hold. -/
class GlobI where
  g : (Nat → Prop) → World → Prop
  up : ∀ {S S' : Nat → Prop} {w w' : World}, g S w → (∀ c, S c → S' c) → (∀ c, S c → w'.heap[c]? = w.heap[c]?) → g S' w'

variable [GlobI]

/-- The outer call: the world in which it began, the blocks of its data, the blocks that it may turn. -/
structure Ctx where
  base : World
  sin : Nat → Prop
  io : Nat → Prop
  sinOk : ∀ c, sin c → c < base.heap.size ∧ ¬ io c
  ioOk : ∀ c, io c → c < base.heap.size
  glob : GlobI.g sin base

def mutB : Option Blk → Bool
  | some (.box _ _) => true
  | some (.row mu _ _ _) => mu
  | _ => false

def deadB : Option Blk → Bool
  | some .dead => true
  | none => true
  | _ => false

abbrev Cont := Nat → Option Blk

/-- The blocks that nobody turns. -/
def SS (X : Ctx) (ct : Cont) (m : Map) (w : World) (c : Nat) : Prop :=
  (X.sin c ∨ X.base.heap.size ≤ c) ∧ c < w.heap.size ∧ ∀ b pt, m b = some (c, pt) → mutB (ct b) = false

/-- Those of them that are new. -/
def FF (X : Ctx) (ct : Cont) (m : Map) (w : World) (c : Nat) : Prop := X.base.heap.size ≤ c ∧ SS X ct m w c

theorem FF_SS {X : Ctx} {ct : Cont} {m : Map} {w : World} (c : Nat) (h : FF X ct m w c) : SS X ct m w c := h.2

def BR (S F : Nat → Prop) (m : Map) (w : World) (c : Nat) (pt : PT) : Blk → Prop
  | .dead => True
  | .box T v => ∃ arr el, pt = .var T ∧ w.heap[c]? = some (.cells arr el (0, 0)) ∧ TR S F m w T v arr.toList
  | .row _ fr t l => ∃ cap arr el cs rest, pt = .rows t l.length cap ∧ w.heap[c]? = some (.cells arr el (0, 0)) ∧ arr.toList = cs ++ rest ∧
      CRs (CR (if fr then F else S) w t) cs l ∧ l.length ≤ cap ∧ arr.size = cap * t.size

/-- What stays of the world beside its heap. -/
def kio (w : World) := (w.os, w.output)
/-- A world's heap, and what stays. -/
def wk (w : World) := (w.heap, kio w)

structure HR (X : Ctx) (ct : Cont) (m : Map) (w : World) : Prop where
  size : X.base.heap.size ≤ w.heap.size
  kept : kio w = kio X.base
  frame : ∀ c, c < X.base.heap.size → ¬ X.io c → w.heap[c]? = X.base.heap[c]?
  dom : ∀ b c pt, m b = some (c, pt) → c < w.heap.size
  blk : ∀ b c pt k, m b = some (c, pt) → ct b = some k → BR (SS X ct m w) (FF X ct m w) m w c pt k
  live : ∀ b c pt, m b = some (c, pt) → deadB (ct b) = false → X.base.heap.size ≤ c ∨ X.io c
  inj : ∀ b b' c pt pt', m b = some (c, pt) → m b' = some (c, pt') → mutB (ct b) = true → b ≠ b' → deadB (ct b') = true

abbrev Evolves (X : Ctx) (ct : Cont) (m : Map) (w : World) (ct' : Cont) (m' : Map) (w' : World) : Prop :=
  Evo (SS X ct m w) (FF X ct m w) m w (SS X ct' m' w') (FF X ct' m' w') m' w'

theorem Evo.refl {S F : Nat → Prop} {m : Map} {w : World} (h : ∀ c, F c → S c) : Evo S F m w S F m w :=
  ⟨fun _ h => h, fun _ h => h, h, fun _ _ h => h, fun _ _ => rfl⟩

theorem Evo.trans {S F S' F' S'' F'' : Nat → Prop} {m m' m'' : Map} {w w' w'' : World} (h : Evo S F m w S' F' m' w') (h' : Evo S' F' m' w' S'' F'' m'' w'') : Evo S F m w S'' F'' m'' w'' :=
  ⟨fun c hc => h'.hS c (h.hS c hc), fun c hc => h'.hF c (h.hF c hc), h.hFS, fun b x hx => h'.hm b x (h.hm b x hx), fun c hc => by rw [h'.hw c (h.hS c hc), h.hw c hc]⟩

theorem BR_mono {S F S' F' : Nat → Prop} {m m' : Map} {w w' : World} (h : Evo S F m w S' F' m' w') {c : Nat} {pt : PT} {k : Blk} (hc : w'.heap[c]? = w.heap[c]?)
    (hb : BR S F m w c pt k) : BR S' F' m' w' c pt k := by
  cases k with
  | dead => trivial
  | box T v =>
    obtain ⟨arr, el, h1, h2, h3⟩ := hb
    exact ⟨arr, el, h1, by rw [hc]; exact h2, TR_mono h _ _ _ h3⟩
  | row mu fr t l =>
    obtain ⟨cap, arr, el, cs, rest, h1, h2, h3, h4, h5, h6⟩ := hb
    refine ⟨cap, arr, el, cs, rest, h1, by rw [hc]; exact h2, h3, CRs_mono (fun cs d hd => ?_) _ _ h4, h5, h6⟩
    cases fr
    · exact CR_mono h.hS h.hw _ _ _ hd
    · exact CR_mono h.hF (fun c hc => h.hw c (h.hFS c hc)) _ _ _ hd

section
variable {X : Ctx} {ct : Cont} {m : Map} {w : World}

/-- Only the heap counts. -/
theorem HR.same (h : HR X ct m w) {w' : World} (he : w'.heap = w.heap) (hio : kio w' = kio w := by rfl) : HR X ct m w' ∧ Evolves X ct m w ct m w' := by
  have hss : ∀ c, SS X ct m w c ↔ SS X ct m w' c := by intro c; unfold SS; rw [he]
  have ev : Evolves X ct m w ct m w' := ⟨fun c hc => (hss c).1 hc, fun c hc => ⟨hc.1, (hss c).1 hc.2⟩, FF_SS, fun _ _ h => h, fun _ _ => by rw [he]⟩
  exact ⟨⟨by rw [he]; exact h.size, hio.trans h.kept, by rw [he]; exact h.frame, by rw [he]; exact h.dom, fun b c pt k h1 h2 => BR_mono ev (by rw [he]) (h.blk b c pt k h1 h2), h.live, h.inj⟩, ev⟩

def updM (m : Map) (b : Nat) (x : Nat × PT) : Map := fun b' => if b' = b then some x else m b'
theorem updM_old {m : Map} {b b' : Nat} {x y : Nat × PT} (hb : m b = none) (hx : m b' = some x) : updM m b y b' = some x := by
  unfold updM
  split
  · rename_i he; subst he; rw [hb] at hx; cases hx
  · exact hx
def updC (ct : Cont) (b : Nat) (k : Blk) : Cont := fun b' => if b' = b then some k else ct b'

/-- A new block. -/
theorem HR.alloc (h : HR X ct m w) {b : Nat} (hb : m b = none) (o : Obj) (k : Blk) (pt : PT) {w' : World} (hw : w'.heap = w.heap.push o)
    (hk : ∀ S F : Nat → Prop, Evo (SS X ct m w) (FF X ct m w) m w S F (updM m b (w.heap.size, pt)) w' → w'.heap[w.heap.size]? = some o → BR S F (updM m b (w.heap.size, pt)) w' w.heap.size pt k) (hio : kio w' = kio w := by rfl) :
    HR X (updC ct b k) (updM m b (w.heap.size, pt)) w' ∧ Evolves X ct m w (updC ct b k) (updM m b (w.heap.size, pt)) w' := by
  have hold : ∀ c, c < w.heap.size → w'.heap[c]? = w.heap[c]? := fun c hc => by rw [hw, Array.getElem?_push_lt hc, Array.getElem?_eq_getElem hc]
  have hnew : w'.heap[w.heap.size]? = some o := by rw [hw]; simp
  have hS : ∀ c, SS X ct m w c → SS X (updC ct b k) (updM m b (w.heap.size, pt)) w' c := by
    rintro c ⟨h1, h2, h3⟩
    refine ⟨h1, by rw [hw]; simp; omega, fun b' pt' hm => ?_⟩
    unfold updM at hm
    unfold updC
    split at hm
    · simp only [Option.some.injEq, Prod.mk.injEq] at hm; omega
    · rename_i hne; rw [if_neg hne]; exact h3 b' pt' hm
  have ev : Evolves X ct m w (updC ct b k) (updM m b (w.heap.size, pt)) w' :=
    ⟨hS, fun c hc => ⟨hc.1, hS c hc.2⟩, FF_SS, fun _ _ hx => updM_old hb hx, fun c hc => hold c hc.2.1⟩
  refine ⟨⟨?_, hio.trans h.kept, ?_, ?_, ?_, ?_, ?_⟩, ev⟩
  · rw [hw]; simp; have := h.size; omega
  · intro c hc hio; rw [hold c (by have := h.size; omega)]; exact h.frame c hc hio
  · intro b' c pt' hm
    rw [hw]; simp only [Array.size_push]
    unfold updM at hm
    split at hm
    · simp only [Option.some.injEq, Prod.mk.injEq] at hm; omega
    · have := h.dom b' c pt' hm; omega
  · intro b' c pt' k' hm hc
    unfold updM at hm
    unfold updC at hc
    split at hm
    · rename_i he
      simp only [Option.some.injEq, Prod.mk.injEq] at hm
      obtain ⟨rfl, rfl⟩ := hm
      rw [if_pos he] at hc
      cases hc
      exact hk _ _ ev hnew
    · rename_i hne
      rw [if_neg hne] at hc
      exact BR_mono ev (hold c (h.dom b' c pt' hm)) (h.blk b' c pt' k' hm hc)
  · intro b' c pt' hm hd
    unfold updM at hm
    unfold updC at hd
    split at hm
    · simp only [Option.some.injEq, Prod.mk.injEq] at hm
      left; have := h.size; omega
    · rename_i hne
      rw [if_neg hne] at hd
      exact h.live b' c pt' hm hd
  · intro b1 b2 c pt1 pt2 h1 h2 hmu hne
    unfold updM at h1 h2
    unfold updC at hmu ⊢
    split at h1
    · rename_i he1
      simp only [Option.some.injEq, Prod.mk.injEq] at h1
      split at h2
      · omega
      · rename_i he2
        have := h.dom b2 c pt2 h2
        omega
    · rename_i he1
      split at h2
      · simp only [Option.some.injEq, Prod.mk.injEq] at h2
        have := h.dom b1 c pt1 h1
        omega
      · rename_i he2
        rw [if_neg he1] at hmu
        rw [if_neg he2]
        exact h.inj b1 b2 c pt1 pt2 h1 h2 hmu hne

/-- A block of the call's own is written. -/
theorem HR.write (h : HR X ct m w) {b c : Nat} {pt : PT} {k k' : Blk} (hb : m b = some (c, pt)) (hk : ct b = some k) (hm : mutB (some k) = true)
    {w' : World} (hsz : w'.heap.size = w.heap.size) (hoth : ∀ c', c' ≠ c → w'.heap[c']? = w.heap[c']?)
    (hbr : ∀ S F : Nat → Prop, Evo (SS X ct m w) (FF X ct m w) m w S F m w' → BR S F m w' c pt k') (hio : kio w' = kio w := by rfl) :
    HR X (updC ct b k') m w' ∧ Evolves X ct m w (updC ct b k') m w' := by
  have hS : ∀ c', SS X ct m w c' → SS X (updC ct b k') m w' c' := by
    rintro c' ⟨h1, h2, h3⟩
    refine ⟨h1, by omega, fun b' pt' hmb => ?_⟩
    unfold updC
    split
    · rename_i he; subst he
      rw [hb] at hmb
      simp only [Option.some.injEq, Prod.mk.injEq] at hmb
      obtain ⟨rfl, rfl⟩ := hmb
      have := h3 b' pt hb
      rw [hk, hm] at this; cases this
    · exact h3 b' pt' hmb
  have hne : ∀ c', SS X ct m w c' → c' ≠ c := by
    rintro c' ⟨_, _, h3⟩ rfl
    have := h3 b pt hb
    rw [hk, hm] at this; cases this
  have ev : Evolves X ct m w (updC ct b k') m w' := ⟨hS, fun c hc => ⟨hc.1, hS c hc.2⟩, FF_SS, fun _ _ h => h, fun c' hc' => hoth c' (hne c' hc')⟩
  refine ⟨⟨by rw [hsz]; exact h.size, hio.trans h.kept, ?_, by rw [hsz]; exact h.dom, ?_, ?_, ?_⟩, ev⟩
  · intro c' hc' hio
    rw [hoth c' ?_]
    · exact h.frame c' hc' hio
    · rintro rfl
      rcases h.live b c' pt hb (by rw [hk]; cases k <;> simp_all [deadB, mutB]) with h1 | h1
      · omega
      · exact hio h1
  · intro b' c' pt' k1 hmb hcb
    unfold updC at hcb
    split at hcb
    · rename_i he; subst he
      cases hcb
      rw [hb] at hmb
      simp only [Option.some.injEq, Prod.mk.injEq] at hmb
      obtain ⟨rfl, rfl⟩ := hmb
      exact hbr _ _ ev
    · rename_i he
      by_cases hcc : c' = c
      · subst hcc
        have := h.inj b b' c' pt pt' hb hmb (by rw [hk]; exact hm) (fun e => he e.symm)
        rw [hcb] at this
        cases k1 <;> simp [deadB] at this
        trivial
      · exact BR_mono ev (hoth c' hcc) (h.blk b' c' pt' k1 hmb hcb)
  · intro b' c' pt' hmb hd
    unfold updC at hd
    split at hd
    · rename_i he; subst he
      rw [hb] at hmb
      simp only [Option.some.injEq, Prod.mk.injEq] at hmb
      obtain ⟨rfl, rfl⟩ := hmb
      exact h.live b' c pt hb (by rw [hk]; cases k <;> simp_all [deadB, mutB])
    · exact h.live b' c' pt' hmb hd
  · intro b1 b2 c' pt1 pt2 h1 h2 hmu hn
    unfold updC at hmu ⊢
    by_cases e1 : b1 = b
    · subst e1
      rw [if_neg (Ne.symm hn)]
      exact h.inj b1 b2 c' pt1 pt2 h1 h2 (by rw [hk]; exact hm) hn
    · rw [if_neg e1] at hmu
      by_cases e2 : b2 = b
      · subst e2
        have := h.inj b1 b2 c' pt1 pt2 h1 h2 hmu hn
        rw [hk] at this
        cases k <;> simp_all [deadB, mutB]
      · rw [if_neg e2]
        exact h.inj b1 b2 c' pt1 pt2 h1 h2 hmu hn

/-- A block is given up. -/
theorem HR.kill (h : HR X ct m w) (b : Nat) : HR X (updC ct b .dead) m w ∧ Evolves X ct m w (updC ct b .dead) m w := by
  have hS : ∀ c', SS X ct m w c' → SS X (updC ct b .dead) m w c' := by
    rintro c' ⟨h1, h2, h3⟩
    refine ⟨h1, h2, fun b' pt' hmb => ?_⟩
    unfold updC
    split
    · rfl
    · exact h3 b' pt' hmb
  have ev : Evolves X ct m w (updC ct b .dead) m w := ⟨hS, fun c hc => ⟨hc.1, hS c hc.2⟩, FF_SS, fun _ _ h => h, fun _ _ => rfl⟩
  refine ⟨⟨h.size, h.kept, h.frame, h.dom, ?_, ?_, ?_⟩, ev⟩
  · intro b' c' pt' k1 hmb hcb
    unfold updC at hcb
    split at hcb
    · cases hcb; trivial
    · exact BR_mono ev rfl (h.blk b' c' pt' k1 hmb hcb)
  · intro b' c' pt' hmb hd
    unfold updC at hd
    split at hd
    · simp [deadB] at hd
    · exact h.live b' c' pt' hmb hd
  · intro b1 b2 c' pt1 pt2 h1 h2 hmu hn
    unfold updC at hmu ⊢
    split at hmu
    · simp [mutB] at hmu
    · split
      · rfl
      · exact h.inj b1 b2 c' pt1 pt2 h1 h2 hmu hn

/-- A block goes on under another name, with other contents. -/
theorem HR.move (h : HR X ct m w) {b b' c : Nat} {pt pt' : PT} {k k' : Blk} (hb : m b = some (c, pt)) (hk : ct b = some k) (hm : mutB (some k) = true) (hn : m b' = none)
    {w' : World} (hsz : w'.heap.size = w.heap.size) (hoth : ∀ c', c' ≠ c → w'.heap[c']? = w.heap[c']?)
    (hbr : ∀ S F : Nat → Prop, Evo (SS X ct m w) (FF X ct m w) m w S F (updM m b' (c, pt')) w' → BR S F (updM m b' (c, pt')) w' c pt' k') (hio : kio w' = kio w := by rfl) :
    HR X (updC (updC ct b .dead) b' k') (updM m b' (c, pt')) w' ∧ Evolves X ct m w (updC (updC ct b .dead) b' k') (updM m b' (c, pt')) w' := by
  have hbb' : b' ≠ b := by rintro rfl; rw [hb] at hn; cases hn
  have hlive := h.live b c pt hb (by rw [hk]; cases k <;> simp_all [deadB, mutB])
  have hbb : ∀ b1 pt1, m b1 = some (c, pt1) → b1 ≠ b → deadB (ct b1) = true := fun b1 pt1 h1 hne => h.inj b b1 c pt pt1 hb h1 (by rw [hk]; exact hm) (Ne.symm hne)
  have hns : ∀ c', SS X ct m w c' → c' ≠ c := by
    rintro c' ⟨_, _, h3⟩ rfl
    have := h3 b pt hb
    rw [hk, hm] at this; cases this
  have hS : ∀ c', SS X ct m w c' → SS X (updC (updC ct b .dead) b' k') (updM m b' (c, pt')) w' c' := by
    rintro c' hs
    obtain ⟨h1, h2, h3⟩ := hs
    refine ⟨h1, by omega, fun b1 pt1 hmb => ?_⟩
    unfold updM at hmb
    unfold updC
    split at hmb
    · simp only [Option.some.injEq, Prod.mk.injEq] at hmb
      exact absurd hmb.1.symm (hns c' ⟨h1, h2, h3⟩)
    · rename_i he
      rw [if_neg he]
      split
      · rfl
      · exact h3 b1 pt1 hmb
  have ev : Evolves X ct m w (updC (updC ct b .dead) b' k') (updM m b' (c, pt')) w' :=
    ⟨hS, fun c hc => ⟨hc.1, hS c hc.2⟩, FF_SS, fun _ _ hx => updM_old hn hx, fun c' hc' => hoth c' (hns c' hc')⟩
  refine ⟨⟨by rw [hsz]; exact h.size, hio.trans h.kept, ?_, ?_, ?_, ?_, ?_⟩, ev⟩
  · intro c' hc' hio
    rw [hoth c' ?_]
    · exact h.frame c' hc' hio
    · rintro rfl
      rcases hlive with h1 | h1
      · omega
      · exact hio h1
  · intro b1 c1 pt1 hmb
    rw [hsz]
    unfold updM at hmb
    split at hmb
    · simp only [Option.some.injEq, Prod.mk.injEq] at hmb
      rw [← hmb.1]; exact h.dom b c pt hb
    · exact h.dom b1 c1 pt1 hmb
  · intro b1 c1 pt1 k1 hmb hcb
    unfold updM at hmb
    unfold updC at hcb
    split at hmb
    · rename_i he
      rw [if_pos he] at hcb
      cases hcb
      simp only [Option.some.injEq, Prod.mk.injEq] at hmb
      obtain ⟨rfl, rfl⟩ := hmb
      exact hbr _ _ ev
    · rename_i he
      rw [if_neg he] at hcb
      split at hcb
      · cases hcb; trivial
      · rename_i he2
        by_cases hcc : c1 = c
        · subst hcc
          have := hbb b1 pt1 hmb he2
          rw [hcb] at this
          cases k1 <;> simp [deadB] at this
          trivial
        · exact BR_mono ev (hoth c1 hcc) (h.blk b1 c1 pt1 k1 hmb hcb)
  · intro b1 c1 pt1 hmb hd
    unfold updM at hmb
    unfold updC at hd
    split at hmb
    · simp only [Option.some.injEq, Prod.mk.injEq] at hmb
      rw [← hmb.1]; exact hlive
    · rename_i he
      rw [if_neg he] at hd
      split at hd
      · simp [deadB] at hd
      · exact h.live b1 c1 pt1 hmb hd
  · intro b1 b2 c1 pt1 pt2 h1 h2 hmu hne
    unfold updM at h1 h2
    unfold updC at hmu ⊢
    split at h1
    · rename_i e1
      simp only [Option.some.injEq, Prod.mk.injEq] at h1
      split at h2
      · rename_i e2; exact absurd (e1.trans e2.symm) hne
      · rename_i e2
        rw [if_neg e2]
        split
        · rfl
        · rename_i e3
          rw [← h1.1] at h2
          exact hbb b2 pt2 h2 e3
    · rename_i e1
      rw [if_neg e1] at hmu
      split at hmu
      · simp [mutB] at hmu
      · rename_i e3
        split at h2
        · simp only [Option.some.injEq, Prod.mk.injEq] at h2
          rw [← h2.1] at h1
          have := hbb b1 pt1 h1 e3
          cases hc : ct b1 with
          | none => rw [hc] at hmu; simp [mutB] at hmu
          | some k1 => rw [hc] at hmu this; cases k1 <;> simp_all [deadB, mutB]
        · rename_i e2
          rw [if_neg e2]
          split
          · rfl
          · exact h.inj b1 b2 c1 pt1 pt2 h1 h2 hmu hne
end

/-- What came in is never turned. -/
theorem HR.sin {X : Ctx} {ct : Cont} {m : Map} {w : World} (h : HR X ct m w) (c : Nat) (hc : X.sin c) : SS X ct m w c :=
  ⟨.inl hc, Nat.lt_of_lt_of_le (X.sinOk c hc).1 h.size, fun b pt hb => by
    cases hk : ct b with
    | none => rfl
    | some k =>
      cases hm : mutB (some k) with
      | false => rfl
      | true =>
        rcases h.live b c pt hb (by rw [hk]; cases k <;> simp_all [mutB, deadB]) with h1 | h1
        · have := (X.sinOk c hc).1; omega
        · exact absurd h1 (X.sinOk c hc).2⟩

theorem HR.glob {X : Ctx} {ct : Cont} {m : Map} {w : World} (h : HR X ct m w) : GlobI.g (SS X ct m w) w :=
  GlobI.up X.glob h.sin fun c hc => h.frame c (X.sinOk c hc).1 (X.sinOk c hc).2
end Go.Ab

/- ==== Ab8 ==== -/
/- What it means that a step is met by its abstract step; the steps that only reckon. -/
namespace Go.Ab
open Go
variable [GlobI]

def Agree (f : Foot) (H : Heap) (ct : Cont) : Prop := ∀ b, f.all = true ∨ b ∈ f.reads ∨ b ∈ f.turns → ct b = H[b]?

def after (f : Foot) (H H' : Heap) (ct : Cont) : Cont := fun b =>
  if (f.all && decide (b < H.length)) || f.turns.contains b || (decide (H.length ≤ b) && decide (b < H'.length)) then H'[b]? else ct b

def Grows (H H' : Heap) (f : Foot) : Prop := H.length ≤ H'.length ∧ (∀ b, b ∈ f.turns → b < H.length) ∧ ∀ b, b < H.length → f.all = false → b ∉ f.turns → H'[b]? = H[b]?

def Grow (m m' : Map) (H H' : Heap) : Prop := ∀ b, m b = none → m' b ≠ none → H.length ≤ b ∧ b < H'.length

def OpOK (P : Program) (o : Oper) (tm : List AV) (H : Heap) (x : AV) (H' : Heap) (f : Foot) : Prop :=
  ∀ (X : Ctx) (ct : Cont) (m : Map) (w : World) (a : Act), Agree f H ct → (∀ b, H.length ≤ b → (f.all = true ∨ b < H'.length) → m b = none) → HR X ct m w →
    (∀ y ∈ o.op.operands, UR (SS X ct m w) (FF X ct m w) m w (vT tm y) (a.eval y)) →
    ∀ (K : Act → World → Prop) (Q : Exit → Act → World → Prop),
      (∀ v w' m', HR X (after f H H' ct) m' w' → Evolves X ct m w (after f H H' ct) m' w' → Grow m m' H H' →
        UR (SS X (after f H H' ct) m' w') (FF X (after f H H' ct) m' w') m' w' x v → K (a.put o.dst v) w') → o.wp P a w K Q

/-- A call is made: a function with a body is entered, one without is answered at once or by its row. -/
def Doing (P : Program) (fn : FuncId) (args : Array Value) (w : World) (R : Ending → World → Prop) : Prop :=
  match (callFunc fn args).run P w with
  | .ok (.value v) w' => R (.returned v) w'
  | .ok (.enter f as) w' => Calls P f as w' R
  | .ok (.row row as) w' => Rows P row as w' fun v w'' => R (.returned v) w''
  | _ => False

def SCall (P : Program) (fn : FuncId) (args : List AV) (H : Heap) (x : AV) (H' : Heap) (f : Foot) : Prop :=
  ∀ (X : Ctx) (ct : Cont) (m : Map) (w : World) (cargs : Array Value), Agree f H ct → (∀ b, H.length ≤ b → (f.all = true ∨ b < H'.length) → m b = none) → HR X ct m w →
    cargs.size = args.length → (∀ (i : Nat) (y : AV), args[i]? = some y → ∃ v, cargs[i]? = some v ∧ UR (SS X ct m w) (FF X ct m w) m w y v) →
    ∀ R : Ending → World → Prop, (∀ v w' m', HR X (after f H H' ct) m' w' → Evolves X ct m w (after f H H' ct) m' w' → Grow m m' H H' →
        UR (SS X (after f H H' ct) m' w') (FF X (after f H H' ct) m' w') m' w' x v → R (.returned v) w') → Doing P fn cargs w R

def CallOK (P : Program) {β : Type} (call : Call β) : Prop :=
  ∀ (f : FuncId) (args : List AV) (H : Heap) (k : K β) (r : β), (call f args H k).run = some r →
    ∃ x H' ft, (k x H' ft).run = some r ∧ Grows H H' ft ∧ (∀ b, b ∈ ft.reads → b < H.length) ∧ SCall P f args H x H' ft

theorem after_pure {f : Foot} (ht : f.turns = []) (ha : f.all = false) (H : Heap) (ct : Cont) : after f H H ct = ct := by
  funext b
  unfold after
  rw [if_neg]
  simp only [ht, ha, Bool.or_eq_true, Bool.and_eq_true, decide_eq_true_eq]
  rintro ((⟨h, _⟩ | h) | ⟨h1, h2⟩)
  · cases h
  · simp at h
  · omega

theorem Grows.same (H : Heap) {f : Foot} (ht : f.turns = []) : Grows H H f := ⟨Nat.le_refl _, by simp [ht], fun _ _ _ _ => rfl⟩

section
variable {P : Program} {o : Oper} {tm : List AV} {H : Heap} {x : AV}

/-- A step that leaves the heap alone. -/
theorem OpOK.pure {f : Foot} (ht : f.turns = []) (ha : f.all = false)
    (h : ∀ (X : Ctx) (ct : Cont) (m : Map) (w : World) (a : Act), Agree f H ct → HR X ct m w → (∀ y ∈ o.op.operands, UR (SS X ct m w) (FF X ct m w) m w (vT tm y) (a.eval y)) →
      ∃ v w', (execOp a.eval o).run P w = .ok (.value v) w' ∧ wk w' = wk w ∧ UR (SS X ct m w) (FF X ct m w) m w x v) : OpOK P o tm H x H f := by
  intro X ct m w a hag hfr hr hop K Q hK
  obtain ⟨v, w', h1, h2, h3⟩ := h X ct m w a hag hr hop
  have := hr.same (congrArg (·.1) h2) (congrArg (·.2) h2)
  rw [after_pure ht ha] at hK
  unfold Oper.wp
  rw [h1]
  exact hK v w' m this.1 this.2 (fun b h1 h2 => absurd h1 h2) (UR_mono this.2 _ _ h3)
end

section inv
variable {S F : Nat → Prop} {m : Map} {w : World} {v : Value}

theorem UR_bool {b : Bool} : UR S F m w (.bool b) v ↔ v = .bool b := by
  constructor
  · rintro ⟨t, cs, h, rfl⟩
    cases t <;> simp only [TR] at h
    subst h; rfl
  · rintro rfl
    exact ⟨.bool, [.bool b], by simp only [TR], rfl⟩

theorem UR_int {k : IntKind} {n : Int} : UR S F m w (.int k n) v ↔ v = .int k n ∧ k.wrap n = n := by
  constructor
  · rintro ⟨t, cs, h, rfl⟩
    cases t <;> simp only [TR] at h
    obtain ⟨rfl, rfl, h⟩ := h; exact ⟨rfl, h⟩
  · rintro ⟨rfl, h⟩
    exact ⟨.int k, [.int k n], by simp only [TR]; exact ⟨trivial, trivial, h⟩, rfl⟩

theorem UR_flt {k : FloatKind} {x : Nat} : UR S F m w (.flt k x) v ↔ ∃ b, v = .float k b ∧ canon k b = x ∧ b < 2 ^ k.format.width := by
  constructor
  · rintro ⟨t, cs, h, rfl⟩
    cases t <;> simp only [TR] at h
    obtain ⟨rfl, b, rfl, h⟩ := h; exact ⟨b, rfl, h⟩
  · rintro ⟨b, rfl, h⟩
    exact ⟨.flt k, [.float k b], by simp only [TR]; exact ⟨trivial, b, rfl, h⟩, rfl⟩

theorem UR_str {l : List UInt8} : UR S F m w (.str l) v ↔ ∃ s : ByteArray, v = .string s ∧ s.data.toList = l ∧ l.length ≤ maxStr := by
  constructor
  · rintro ⟨t, cs, h, rfl⟩
    cases t <;> simp only [TR] at h
    obtain ⟨s, rfl, h⟩ := h; exact ⟨s, rfl, h⟩
  · rintro ⟨s, rfl, h⟩
    exact ⟨.str, [.string s], by simp only [TR]; exact ⟨s, rfl, h⟩, rfl⟩

theorem UR_err {e : Bool} : UR S F m w (.err e) v ↔ ErrR v e := by
  constructor
  · rintro ⟨t, cs, h, rfl⟩
    cases t <;> simp only [TR] at h
    obtain ⟨s, rfl, h⟩ := h; exact h
  · intro h
    exact ⟨.err, [v], by simp only [TR]; exact ⟨v, rfl, h⟩, rfl⟩

theorem UR_fn {f : FuncId} : UR S F m w (.fn f) v ↔ v = .func (.func f) #[] #[] := Iff.rfl

theorem UR_nils : UR S F m w .nils v ↔ ∃ a, v = .slice a 0 0 := by
  constructor
  · rintro ⟨t, cs, h, rfl⟩
    cases t <;> simp only [TR] at h
    obtain ⟨a, rfl⟩ := h; exact ⟨a, rfl⟩
  · rintro ⟨a, rfl⟩
    exact ⟨.sl .bool, [.slice a 0 0], by simp only [TR]; exact ⟨a, rfl⟩, rfl⟩

theorem UR_lst {fr : Bool} {t : Ty} {l : List t.D} : UR S F m w (.lst fr t l) v ↔ CR (if fr then F else S) w (.sl t) [v] l := by
  constructor
  · rintro ⟨t, cs, h, rfl⟩
    cases t <;> simp only [TR] at h
    obtain ⟨rfl, h⟩ := h
    have hl := CR_len _ _ _ h
    simp only [Ty.size] at hl
    match cs, hl with
    | [v], _ => exact h
  · intro h
    exact ⟨.sl t, [v], by simp only [TR]; exact ⟨trivial, h⟩, rfl⟩

theorem UR_cells {T : Ty} {x : AV} {cs : List Value} (h : TR S F m w T x cs) : UR S F m w x (ofCells T cs) := by
  cases x with
  | junk => trivial
  | und => cases T <;> simp only [TR] at h
  | ref b p t => cases T <;> simp only [TR] at h
  | iref t y => cases T <;> simp only [TR] at h
  | fn f => cases T <;> simp only [TR] at h
  | tup vs => cases T <;> simp only [TR] at h
  | own b p off len t =>
    cases T <;> simp only [TR] at h
    obtain ⟨rfl, rfl, v, rfl, h⟩ := h
    exact h
  | bool b => exact ⟨T, cs, h, rfl⟩
  | int k n => exact ⟨T, cs, h, rfl⟩
  | flt k n => exact ⟨T, cs, h, rfl⟩
  | str l => exact ⟨T, cs, h, rfl⟩
  | err e => exact ⟨T, cs, h, rfl⟩
  | agg vs => exact ⟨T, cs, h, rfl⟩
  | arr n t l => exact ⟨T, cs, h, rfl⟩
  | nils => exact ⟨T, cs, h, rfl⟩
  | lst fr t l => exact ⟨T, cs, h, rfl⟩

theorem UR_chk {x : AV} {T : Ty} (h : UR S F m w x v) (hc : chk T x = true) : ∃ cs, TR S F m w T x cs ∧ v = ofCells T cs := by
  refine UR0_chk (x := x) ?_ hc
  cases x with
  | tup vs => cases T <;> simp [chk] at hc
  | junk => cases T <;> simp [chk] at hc
  | und => exact h
  | ref b p t => exact h
  | iref t y => exact h
  | fn f => exact h
  | own b p off len t => exact h
  | bool b => exact h
  | int k n => exact h
  | flt k n => exact h
  | str l => exact h
  | err e => exact h
  | agg vs => exact h
  | arr n t l => exact h
  | nils => exact h
  | lst fr t l => exact h
end inv

theorem cAV_ok {S F : Nat → Prop} {m : Map} {w : World} (v : Value) : UR S F m w (cAV v) v := by
  unfold cAV
  split
  · exact UR_bool.2 rfl
  · split
    · rename_i h; exact UR_int.2 ⟨rfl, h⟩
    · trivial
  · rename_i k b
    split
    · rename_i h; exact UR_flt.2 ⟨b, rfl, rfl, h⟩
    · trivial
  · split
    · rename_i h; exact UR_str.2 ⟨_, rfl, rfl, h⟩
    · trivial
  · exact UR_err.2 (.inl ⟨rfl, rfl⟩)
  · exact UR_nils.2 ⟨none, rfl⟩
  · trivial
end Go.Ab

/- ==== Ab9 ==== -/
/- Narrow and wide numbers up to the bits of NaN. -/
namespace Go.Ab
open Go Ieee
variable [GlobI]

/-- A word is a NaN if its rung lies above infinity's. -/
theorem read_nan (k : FloatKind) (x : Nat) : (k.format.read x).isNaN = decide (k.format.infRung < x % k.format.signWeight) := by
  have hb : k.format.binade ≤ k.format.infRung := by cases k <;> decide
  unfold Format.read
  simp only
  split
  · rw [decide_eq_false (by omega)]; rfl
  · split
    · rw [decide_eq_false (by omega)]; rfl
    · split
      · rw [decide_eq_false (by omega)]; rfl
      · rw [decide_eq_true (by omega)]; rfl

theorem word_ok (k : FloatKind) (neg : Bool) (r : Nat) (h : r ≤ k.format.infRung) : k.format.word neg r < 2 ^ k.format.width ∧ (k.format.read (k.format.word neg r)).isNaN = false := by
  rw [read_nan]
  have h1 : k.format.infRung < k.format.signWeight := by cases k <;> decide
  have h2 : 2 ^ k.format.width = k.format.signWeight + k.format.signWeight := by cases k <;> decide
  unfold Format.word
  cases neg
  · simp only [Bool.false_eq_true, if_false]
    exact ⟨by omega, by rw [Nat.mod_eq_of_lt (by omega)]; exact decide_eq_false (by omega)⟩
  · simp only [if_true]
    exact ⟨by omega, by rw [Nat.add_mod_left, Nat.mod_eq_of_lt (by omega)]; exact decide_eq_false (by omega)⟩

theorem nearest_ok (k : FloatKind) (neg : Bool) (m : Nat) (e : Int) : ∃ r, r ≤ k.format.infRung ∧ k.format.nearest neg m e = k.format.word neg r := by
  unfold Format.nearest
  split
  · exact ⟨0, Nat.zero_le _, rfl⟩
  · exact ⟨_, Nat.min_le_right _ _, rfl⟩

theorem write_ok (k : FloatKind) (d : Datum) (h : d.isNaN = false) : k.format.write d < 2 ^ k.format.width ∧ (k.format.read (k.format.write d)).isNaN = false := by
  cases d with
  | number n m e =>
    obtain ⟨r, h1, h2⟩ := nearest_ok k n m e
    show k.format.nearest n m e < _ ∧ (k.format.read (k.format.nearest n m e)).isNaN = false
    rw [h2]; exact word_ok k n r h1
  | infinity n => exact word_ok k n _ (Nat.le_refl _)
  | nan n t => simp [Datum.isNaN] at h

theorem canon_of {k : FloatKind} {b : Nat} (h : (k.format.read b).isNaN = false) : canon k b = b := by unfold canon; rw [h]; rfl

theorem nanW_nan (k : FloatKind) : (k.format.read (nanW k)).isNaN = true := by cases k <;> decide
theorem nanW_lt (k : FloatKind) : nanW k < 2 ^ k.format.width := by cases k <;> decide
theorem canon_nanW (k : FloatKind) : canon k (nanW k) = nanW k := by unfold canon; rw [nanW_nan]; rfl
theorem canon_nan {k : FloatKind} {b : Nat} (h : (k.format.read b).isNaN = true) : canon k b = nanW k := by unfold canon; rw [h]; rfl

/-- Data that only NaN's fraction tells apart. -/
def Like (d e : Datum) : Prop := d = e ∨ (d.isNaN = true ∧ e.isNaN = true)

theorem like_canon (k : FloatKind) (b : Nat) : Like (k.format.read b) (k.format.read (canon k b)) := by
  cases h : (k.format.read b).isNaN with
  | true => exact .inr ⟨h, by rw [canon_nan h]; exact nanW_nan k⟩
  | false => exact .inl (by rw [canon_of h])

theorem isNaN_iff {d : Datum} : d.isNaN = true ↔ ∃ n t, d = .nan n t := by cases d <;> simp [Datum.isNaN]

theorem sum_like {a b c d : Datum} (h : Like a c) (h' : Like b d) : a.sum b = c.sum d := by
  rcases h with rfl | ⟨h1, h2⟩
  · rcases h' with rfl | ⟨h3, h4⟩
    · rfl
    · obtain ⟨_, _, rfl⟩ := isNaN_iff.1 h3; obtain ⟨_, _, rfl⟩ := isNaN_iff.1 h4
      cases a <;> rfl
  · obtain ⟨_, _, rfl⟩ := isNaN_iff.1 h1; obtain ⟨_, _, rfl⟩ := isNaN_iff.1 h2
    rfl

theorem product_like {a b c d : Datum} (h : Like a c) (h' : Like b d) : a.product b = c.product d := by
  rcases h with rfl | ⟨h1, h2⟩
  · rcases h' with rfl | ⟨h3, h4⟩
    · rfl
    · obtain ⟨_, _, rfl⟩ := isNaN_iff.1 h3; obtain ⟨_, _, rfl⟩ := isNaN_iff.1 h4
      cases a <;> rfl
  · obtain ⟨_, _, rfl⟩ := isNaN_iff.1 h1; obtain ⟨_, _, rfl⟩ := isNaN_iff.1 h2
    rfl

theorem quotient_like (n : Nat) {a b c d : Datum} (h : Like a c) (h' : Like b d) : a.quotient n b = c.quotient n d := by
  rcases h with rfl | ⟨h1, h2⟩
  · rcases h' with rfl | ⟨h3, h4⟩
    · rfl
    · obtain ⟨_, _, rfl⟩ := isNaN_iff.1 h3; obtain ⟨_, _, rfl⟩ := isNaN_iff.1 h4
      cases a <;> rfl
  · obtain ⟨_, _, rfl⟩ := isNaN_iff.1 h1; obtain ⟨_, _, rfl⟩ := isNaN_iff.1 h2
    rfl

theorem order_like {a b c d : Datum} (h : Like a c) (h' : Like b d) : a.order b = c.order d := by
  rcases h with rfl | ⟨h1, h2⟩
  · rcases h' with rfl | ⟨h3, h4⟩
    · rfl
    · obtain ⟨_, _, rfl⟩ := isNaN_iff.1 h3; obtain ⟨_, _, rfl⟩ := isNaN_iff.1 h4
      cases a <;> rfl
  · obtain ⟨_, _, rfl⟩ := isNaN_iff.1 h1; obtain ⟨_, _, rfl⟩ := isNaN_iff.1 h2
    rfl

theorem opposite_like {a c : Datum} (h : Like a c) : Like a.opposite c.opposite := by
  rcases h with rfl | ⟨h1, h2⟩
  · exact .inl rfl
  · obtain ⟨_, _, rfl⟩ := isNaN_iff.1 h1; obtain ⟨_, _, rfl⟩ := isNaN_iff.1 h2
    exact .inr ⟨rfl, rfl⟩

theorem sum_ok {a b d : Datum} (h : a.sum b = some d) : d.isNaN = false := by
  cases a <;> cases b <;> simp only [Datum.sum] at h <;> first | (cases h; rfl) | (split at h <;> cases h; rfl) | cases h
theorem product_ok {a b d : Datum} (h : a.product b = some d) : d.isNaN = false := by
  cases a <;> cases b <;> simp only [Datum.product] at h <;> first | (cases h; rfl) | (split at h <;> cases h; rfl) | cases h
theorem quotient_ok {n : Nat} {a b d : Datum} (h : a.quotient n b = some d) : d.isNaN = false := by
  cases a <;> cases b <;> simp only [Datum.quotient] at h <;> first | (cases h; rfl) | (repeat' split at h) <;> first | (cases h; rfl) | cases h

theorem add_canon (k : FloatKind) (a b : Nat) : k.format.add (canon k a) (canon k b) = k.format.add a b := by
  unfold Format.add; rw [sum_like (like_canon k a) (like_canon k b)]
theorem sub_canon (k : FloatKind) (a b : Nat) : k.format.sub (canon k a) (canon k b) = k.format.sub a b := by
  unfold Format.sub; rw [sum_like (like_canon k a) (opposite_like (like_canon k b))]
theorem mul_canon (k : FloatKind) (a b : Nat) : k.format.mul (canon k a) (canon k b) = k.format.mul a b := by
  unfold Format.mul; rw [product_like (like_canon k a) (like_canon k b)]
theorem div_canon (k : FloatKind) (a b : Nat) : k.format.div (canon k a) (canon k b) = k.format.div a b := by
  unfold Format.div; rw [quotient_like _ (like_canon k a) (like_canon k b)]
theorem order_canon (k : FloatKind) (a b : Nat) : k.format.order (canon k a) (canon k b) = k.format.order a b := by
  unfold Format.order; rw [order_like (like_canon k a) (like_canon k b)]

theorem map_write_ok {k : FloatKind} {o : Option Datum} {r : Nat} (ho : ∀ d, o = some d → d.isNaN = false) (h : o.map k.format.write = some r) : canon k r = r ∧ r < 2 ^ k.format.width := by
  simp only [Option.map_eq_some_iff] at h
  obtain ⟨d, hd, rfl⟩ := h
  have := write_ok k d (ho d hd)
  exact ⟨canon_of this.2, this.1⟩

theorem cut_nan (k : FloatKind) (x y t : Nat) : canon k (Question.cut (.nanBits k x y) t) = nanW k ∧ Question.cut (.nanBits k x y) t < 2 ^ k.format.width := by
  have key : ∀ (s r : Nat), s ≤ 1 → k.format.infRung < r → r < k.format.signWeight → canon k (s * k.format.signWeight + r) = nanW k ∧ s * k.format.signWeight + r < 2 ^ k.format.width := by
    intro s r hs h1 h2
    have h3 : 2 ^ k.format.width = k.format.signWeight + k.format.signWeight := by cases k <;> decide
    refine ⟨canon_nan ?_, ?_⟩
    · rw [read_nan]
      apply decide_eq_true
      rw [Nat.mul_comm, Nat.mul_add_mod, Nat.mod_eq_of_lt h2]; exact h1
    · rcases Nat.le_one_iff_eq_zero_or_eq_one.1 hs with rfl | rfl <;> omega
  cases k
  · have := key (t % 2) (0x7f800000 + 1 + (t / 2) % (2 ^ 23 - 1)) (by omega) (by show 2139095040 < _; omega) (by show _ < 2147483648; omega)
    rw [show FloatKind.f32.format.signWeight = 2 ^ 31 from by decide] at this
    simpa [Question.cut, Nat.add_assoc] using this
  · have := key (t % 2) (0x7ff0000000000000 + 1 + (t / 2) % (2 ^ 52 - 1)) (by omega) (by show 9218868437227405312 < _; omega) (by show _ < 9223372036854775808; omega)
    rw [show FloatKind.f64.format.signWeight = 2 ^ 63 from by decide] at this
    simpa [Question.cut, Nat.add_assoc] using this

theorem cut_conv (k : FloatKind) (x t : Nat) : canon k (Question.cut (.nanConv k x) t) = nanW k ∧ Question.cut (.nanConv k x) t < 2 ^ k.format.width := by
  have h : Question.cut (.nanConv k x) t = Question.cut (.nanBits k x x) t := by cases k <;> rfl
  rw [h]; exact cut_nan k x x t

/-- A result, or a NaN of any bits. -/
def finS (k : FloatKind) (a b : Nat) (q : Option Nat) : Sem Value :=
  match q with
  | some r => pure (.float k r)
  | none => do pure (.float k (← choose (.nanBits k a b)))

theorem run_finS {P : Program} {w : World} {k : FloatKind} {a b : Nat} (q : Option Nat) (hq : ∀ r, q = some r → canon k r = r ∧ r < 2 ^ k.format.width) :
    ∃ c w', (finS k a b q).run P w = .ok (.float k c) w' ∧ wk w' = wk w ∧ canon k c = q.getD (nanW k) ∧ c < 2 ^ k.format.width := by
  cases q with
  | some r => exact ⟨r, w, rfl, rfl, (hq r rfl).1, (hq r rfl).2⟩
  | none =>
    have := cut_nan k a b (w.tape w.drawn (.nanBits k a b))
    exact ⟨_, { w with drawn := w.drawn + 1 }, rfl, rfl, this.1, this.2⟩

/-- '+', '-', '*', '/' on two numbers: the result up to NaN's bits. -/
theorem run_floatArith {P : Program} {w : World} {op : BinOp} {k : FloatKind} {a b x y r : Nat} (t : TypeId) (ha : canon k a = x) (hb : canon k b = y) (h : fltBin op k x y = some (.flt k r)) :
    ∃ c w', (binOp op t (.float k a) (.float k b)).run P w = .ok (.float k c) w' ∧ wk w' = wk w ∧ canon k c = r ∧ c < 2 ^ k.format.width := by
  cases op <;> simp only [fltBin, Option.some.injEq, AV.flt.injEq, true_and, reduceCtorEq] at h <;> subst h
  · have := run_finS (P := P) (w := w) (a := a) (b := b) (k.format.add a b) (fun r hr => map_write_ok (fun d hd => sum_ok hd) hr)
    unfold fadd; rw [← ha, ← hb, add_canon]
    have e : binOp .add t (.float k a) (.float k b) = finS k a b (k.format.add a b) := by
      simp only [binOp, Op.floatArith, finS, ne_eq, not_true, if_false]; rfl
    rw [e]; exact this
  · have := run_finS (P := P) (w := w) (a := a) (b := b) (k.format.sub a b) (fun r hr => map_write_ok (fun d hd => sum_ok hd) hr)
    unfold fsub; rw [← ha, ← hb, sub_canon]
    have e : binOp .sub t (.float k a) (.float k b) = finS k a b (k.format.sub a b) := by
      simp only [binOp, Op.floatArith, finS, ne_eq, not_true, if_false]; rfl
    rw [e]; exact this
  · have := run_finS (P := P) (w := w) (a := a) (b := b) (k.format.mul a b) (fun r hr => map_write_ok (fun d hd => product_ok hd) hr)
    unfold fmul; rw [← ha, ← hb, mul_canon]
    have e : binOp .mul t (.float k a) (.float k b) = finS k a b (k.format.mul a b) := by
      simp only [binOp, Op.floatArith, finS, ne_eq, not_true, if_false]; rfl
    rw [e]; exact this
  · have := run_finS (P := P) (w := w) (a := a) (b := b) (k.format.div a b) (fun r hr => map_write_ok (fun d hd => quotient_ok hd) hr)
    unfold fdiv; rw [← ha, ← hb, div_canon]
    have e : binOp .quo t (.float k a) (.float k b) = finS k a b (k.format.div a b) := by
      simp only [binOp, Op.floatArith, finS, ne_eq, not_true, if_false]; rfl
    rw [e]; exact this

theorem run_floatCmp {P : Program} {w : World} {op : BinOp} {k : FloatKind} {a b x y : Nat} {r : Bool} (t : TypeId) (ha : canon k a = x) (hb : canon k b = y) (h : fltBin op k x y = some (.bool r)) :
    (binOp op t (.float k a) (.float k b)).run P w = .ok (.bool r) w := by
  cases op <;> simp only [fltBin, Option.some.injEq, AV.bool.injEq, reduceCtorEq] at h <;> subst h <;>
    simp [binOp, Op.floatCmp, feq, flt, fgt, fle, fge, ← ha, ← hb, order_canon] <;> rfl
end Go.Ab

/- ==== Ab10 ==== -/
/- The steps that only reckon, one by one. -/
namespace Go.Ab
open Go
variable [GlobI]

/-- An abstract step is met. -/
def Got (P : Program) (o : Oper) (st : St) {β : Type} (k : K β) (r : β) : Prop :=
  ∃ x H' f, (k x H' f).run = some r ∧ Grows st.heap H' f ∧ (∀ b, b ∈ f.reads → b < st.heap.length) ∧ OpOK P o st.tmps st.heap x H' f

section
variable {P : Program} {o : Oper} {st : St} {β : Type} {k : K β} {r : β}

theorem Got.pure {x : AV} (hk : (k x st.heap {}).run = some r)
    (h : ∀ (X : Ctx) (ct : Cont) (m : Map) (w : World) (a : Act), HR X ct m w → (∀ y ∈ o.op.operands, UR (SS X ct m w) (FF X ct m w) m w (vT st.tmps y) (a.eval y)) →
      ∃ v w', (execOp a.eval o).run P w = .ok (.value v) w' ∧ wk w' = wk w ∧ UR (SS X ct m w) (FF X ct m w) m w x v) : Got P o st k r :=
  ⟨x, st.heap, {}, hk, Grows.same _ rfl, by simp, OpOK.pure rfl rfl fun X ct m w a _ hr hop => h X ct m w a hr hop⟩

theorem Got.move {y : Operand} (ho : o.op = .move y) (hk : (k (st.v y) st.heap {}).run = some r) : Got P o st k r :=
  Got.pure hk fun X ct m w a _ hop => ⟨a.eval y, w, by simp only [execOp, ho]; rfl, rfl, hop y (by simp [ho, Op.operands])⟩

theorem Got.assign {y : Operand} (ho : o.op = .assign y) (hk : (k (st.v y) st.heap {}).run = some r) : Got P o st k r :=
  Got.pure hk fun X ct m w a _ hop => ⟨a.eval y, w, by simp only [execOp, ho]; rfl, rfl, hop y (by simp [ho, Op.operands])⟩

theorem Got.pick {c a b : Operand} {g : Bool} (ho : o.op = .pick c a b) (hc : st.v c = .bool g) (hk : (k (if g then st.v a else st.v b) st.heap {}).run = some r) : Got P o st k r :=
  Got.pure hk fun X ct m w act _ hop => by
    have h1 := hop c (by simp [ho, Op.operands])
    have hc : vT st.tmps c = .bool g := hc
    rw [hc] at h1
    have h1 := UR_bool.1 h1
    refine ⟨if g then act.eval a else act.eval b, w, ?_, rfl, ?_⟩
    · simp only [execOp, ho, h1, asBool]; cases g <;> rfl
    · cases g
      · exact hop b (by simp [ho, Op.operands])
      · exact hop a (by simp [ho, Op.operands])

theorem run_eqGuard {w : World} (op : BinOp) (t : TypeId) (x y : Operand) (a b : Value) (h : ¬ (∃ u v, a = .agg u ∧ b = .agg v)) (h2 : ¬ (a = .nilIface ∧ b = .nilIface)) : (eqGuard op t x y a b).run P w = .ok () w := by
  unfold eqGuard
  cases op <;> try rfl
  all_goals
    simp only [Bool.not_true, Bool.false_eq_true, if_false]
    split
    · exact absurd (by first | exact ⟨rfl, rfl⟩ | exact ⟨by assumption, by assumption⟩) h2
    · exact absurd ⟨_, _, rfl, rfl⟩ h
    · rfl

theorem Got.binOp {op : BinOp} {t u : TypeId} {x y : Operand} {v : AV} (ho : o.op = .binOp op t x y u) (hk : (k v st.heap {}).run = some r)
    (h : ∀ (S F : Nat → Prop) (m : Map) (w : World) (a b : Value), UR S F m w (st.v x) a → UR S F m w (st.v y) b →
      ¬ (∃ u v, a = .agg u ∧ b = .agg v) ∧ ¬ (a = .nilIface ∧ b = .nilIface) ∧ ∃ c w', (Go.binOp op t a b).run P w = .ok c w' ∧ wk w' = wk w ∧ UR S F m w v c) : Got P o st k r :=
  Got.pure hk fun X ct m w act _ hop => by
    obtain ⟨h1, h2, c, w', h3, h4, h5⟩ := h _ _ _ _ _ _ (hop x (by simp [ho, Op.operands])) (hop y (by simp [ho, Op.operands]))
    refine ⟨c, w', ?_, h4, h5⟩
    simp only [execOp, ho, Sem.run_bind, run_eqGuard op t x y _ _ h1 h2, Result.andThen_ok, h3]
    rfl

theorem wrap_iff (k : IntKind) (n : Int) : k.wrap n = n ↔ k.min ≤ n ∧ n ≤ k.max := by
  cases k <;> simp [IntKind.wrap, IntKind.signed, IntKind.bits, IntKind.min, IntKind.max] <;>
    (try split) <;> omega

theorem wrap_wrap (k : IntKind) (n : Int) : k.wrap (k.wrap n) = k.wrap n := by
  rw [wrap_iff]
  cases k <;> simp [IntKind.wrap, IntKind.signed, IntKind.bits, IntKind.min, IntKind.max] <;>
    (try split) <;> omega

theorem wrap_tmod (k : IntKind) (a b : Int) (ha : k.wrap a = a) : k.wrap (a.tmod b) = a.tmod b := by
  rw [wrap_iff] at *
  have h1 : (a.tmod b).natAbs ≤ a.natAbs := by rw [Int.natAbs_tmod]; exact Nat.mod_le _ _
  rcases Int.le_total 0 a with h | h
  · have h2 := Int.tmod_nonneg b h
    have : k.min ≤ 0 := by cases k <;> decide
    omega
  · have h2 : a.tmod b ≤ 0 := by
      have := Int.tmod_nonneg b (show 0 ≤ -a by omega)
      rw [Int.neg_tmod] at this; omega
    have : 0 ≤ k.max := by cases k <;> decide
    omega

theorem wrap_fdiv (k : IntKind) (a : Int) (n : Nat) (ha : k.wrap a = a) : k.wrap (a.fdiv (2 ^ n)) = a.fdiv (2 ^ n) := by
  rw [wrap_iff] at *
  have hp : (1 : Int) ≤ 2 ^ n := by have := Nat.one_le_two_pow (n := n); exact_mod_cast this
  rw [Int.fdiv_eq_ediv_of_nonneg _ (by omega)]
  have h0 : k.min ≤ 0 := by cases k <;> decide
  have h0' : 0 ≤ k.max := by cases k <;> decide
  rcases Int.le_total 0 a with h | h
  · have h1 := Int.ediv_nonneg h (show (0 : Int) ≤ 2 ^ n by omega)
    have h2 := Int.ediv_le_self (2 ^ n) h
    omega
  · have h1 : a / 2 ^ n ≤ 0 := by
      have := Int.ediv_le_ediv (show (0 : Int) < 2 ^ n by omega) h
      simpa using this
    have h2 : a ≤ a / 2 ^ n := by
      apply Int.le_ediv_of_mul_le (by omega)
      have := Int.mul_le_mul_of_nonpos_left h hp
      omega
    omega

theorem Got.need {c : Bool} {t : Tree β} (h : (Tree.need c t).run = some r) : c = true ∧ t.run = some r := by
  unfold Tree.need Tree.run at h
  cases c
  · simp [Tree.run] at h
  · exact ⟨rfl, h⟩

theorem run_intBin {w : World} {op : BinOp} {kd kd' : IntKind} {a b : Int} {v : AV} {S F : Nat → Prop} {m : Map} (t : TypeId) (ha : kd.wrap a = a) (h : intBin op kd a kd' b = some (true, v)) :
    ∃ c, (Go.binOp op t (.int kd a) (.int kd' b)).run P w = .ok c w ∧ UR S F m w v c := by
  unfold intBin at h
  split at h
  · simp only [Option.some.injEq, Prod.mk.injEq, decide_eq_true_eq] at h
    obtain ⟨h1, rfl⟩ := h
    refine ⟨_, ?_, UR_int.2 ⟨rfl, wrap_wrap _ _⟩⟩
    simp only [Go.binOp, Op.shift]
    rw [if_neg (by omega)]; rfl
  · simp only [Option.some.injEq, Prod.mk.injEq, decide_eq_true_eq] at h
    obtain ⟨h1, rfl⟩ := h
    refine ⟨_, ?_, UR_int.2 ⟨rfl, wrap_fdiv _ _ _ ha⟩⟩
    simp only [Go.binOp, Op.shift]
    rw [if_neg (by omega)]; rfl
  · split at h
    · rename_i hk; subst hk
      split at h <;> simp only [Option.some.injEq, Prod.mk.injEq, true_and, reduceCtorEq, Bool.not_eq_true', beq_eq_false_iff_ne] at h
      · subst h; exact ⟨_, by simp [Go.binOp, Op.intArith], UR_int.2 ⟨rfl, wrap_wrap _ _⟩⟩
      · subst h; exact ⟨_, by simp [Go.binOp, Op.intArith], UR_int.2 ⟨rfl, wrap_wrap _ _⟩⟩
      · subst h; exact ⟨_, by simp [Go.binOp, Op.intArith], UR_int.2 ⟨rfl, wrap_wrap _ _⟩⟩
      · obtain ⟨h1, rfl⟩ := h; exact ⟨_, by simp [Go.binOp, Op.intDiv, h1], UR_int.2 ⟨rfl, wrap_wrap _ _⟩⟩
      · obtain ⟨h1, rfl⟩ := h; exact ⟨_, by simp [Go.binOp, Op.intDiv, h1], UR_int.2 ⟨rfl, wrap_tmod _ _ _ ha⟩⟩
      · subst h; exact ⟨_, by simp [Go.binOp, Op.intBits]; rfl, UR_int.2 ⟨rfl, wrap_wrap _ _⟩⟩
      · subst h; exact ⟨_, by simp [Go.binOp, Op.intBits]; rfl, UR_int.2 ⟨rfl, wrap_wrap _ _⟩⟩
      · subst h; exact ⟨_, by simp [Go.binOp, Op.intCmp], UR_bool.2 rfl⟩
      · subst h; exact ⟨_, by simp [Go.binOp, Op.intCmp], UR_bool.2 rfl⟩
      · subst h; exact ⟨_, by simp [Go.binOp, Op.intCmp], UR_bool.2 rfl⟩
      · subst h; exact ⟨_, by simp [Go.binOp, Op.intCmp], UR_bool.2 rfl⟩
      · subst h; exact ⟨_, by simp [Go.binOp, Op.intCmp], UR_bool.2 rfl⟩
      · subst h; exact ⟨_, by simp [Go.binOp, Op.intCmp], UR_bool.2 rfl⟩
    · cases h
end
end Go.Ab

/- ==== Ab11 ==== -/
/- The steps that only reckon: operators, conversions, parts of values. -/
namespace Go.Ab
open Go
variable [GlobI]

section
variable {P : Program} {o : Oper} {st : St} {β : Type} {k : K β} {r : β} {ty : TypeId → Option Ty}

theorem optT_some {α : Type} {q : Option α} {k : α → Tree β} (h : (optT q k).run = some r) : ∃ a, q = some a ∧ (k a).run = some r := by
  cases q with
  | none => simp [optT, Tree.run] at h
  | some a => exact ⟨a, rfl, h⟩

theorem run_binAV {w : World} {op : BinOp} {x y v : AV} {a b : Value} {S F : Nat → Prop} {m : Map} (t : TypeId) (h : binAV op x y = some (true, v)) (ha : UR S F m w x a) (hb : UR S F m w y b) :
    ¬ (∃ u v, a = .agg u ∧ b = .agg v) ∧ ¬ (a = .nilIface ∧ b = .nilIface) ∧ ∃ c w', (Go.binOp op t a b).run P w = .ok c w' ∧ wk w' = wk w ∧ UR S F m w v c := by
  unfold binAV at h
  split at h
  · rename_i kd a' kd' b'
    obtain ⟨rfl, h1⟩ := UR_int.1 ha
    obtain ⟨rfl, h2⟩ := UR_int.1 hb
    obtain ⟨c, h3, h4⟩ := run_intBin (P := P) (w := w) (S := S) (F := F) (m := m) t h1 h
    exact ⟨by simp, by simp, c, w, h3, rfl, h4⟩
  · rename_i kd a' kd' b'
    obtain ⟨a1, rfl, h1, h2⟩ := UR_flt.1 ha
    obtain ⟨b1, rfl, h3, h4⟩ := UR_flt.1 hb
    split at h
    · rename_i hk; subst hk
      simp only [Option.map_eq_some_iff, Prod.mk.injEq, true_and, exists_eq_right] at h
      refine ⟨by simp, by simp, ?_⟩
      cases v with
      | flt k' q =>
        have : k' = kd := by cases op <;> simp [fltBin] at h <;> exact h.1.symm
        subst this
        obtain ⟨c, w', g1, g2, g3, g4⟩ := run_floatArith (P := P) (w := w) t h1 h3 h
        exact ⟨_, w', g1, g2, UR_flt.2 ⟨c, rfl, g3, g4⟩⟩
      | bool q => exact ⟨_, w, run_floatCmp (P := P) (w := w) t h1 h3 h, rfl, UR_bool.2 rfl⟩
      | _ => cases op <;> simp [fltBin] at h
    · cases h
  · rename_i a' b'
    obtain ⟨a1, rfl, rfl, hla⟩ := UR_str.1 ha
    obtain ⟨b1, rfl, rfl, hlb⟩ := UR_str.1 hb
    refine ⟨by simp, by simp, ?_⟩
    unfold strBin at h
    split at h <;> simp only [Option.some.injEq, Prod.mk.injEq, true_and, decide_eq_true_eq, reduceCtorEq] at h
    · obtain ⟨h1, rfl⟩ := h
      refine ⟨.string (a1 ++ b1), w, ?_, rfl, UR_str.2 ⟨_, rfl, by simp, by rw [List.length_append]; exact h1⟩⟩
      simp only [Go.binOp, Op.stringOp]
      rw [if_neg]
      · rfl
      · have e1 : a1.size = a1.data.toList.length := by simp
        have e2 : b1.size = b1.data.toList.length := by simp
        have : (maxStr : Int) ≤ IntKind.i64.max := by decide
        rw [e1, e2]; omega
    · subst h
      exact ⟨_, w, by simp only [Go.binOp, Op.stringOp, ByteArray.toList_eq]; rfl, rfl, UR_bool.2 rfl⟩
    · subst h
      exact ⟨_, w, by simp only [Go.binOp, Op.stringOp, ByteArray.toList_eq]; rfl, rfl, UR_bool.2 rfl⟩
    · subst h
      exact ⟨_, w, by simp only [Go.binOp, Op.stringOp, ByteArray.toList_eq]; rfl, rfl, UR_bool.2 rfl⟩
  · cases h

theorem run_equal_bool {w : World} {t : TypeId} (h : P.underlying t = some .bool) (a b : Bool) : (Op.equal t (.bool a) (.bool b)).run P w = .ok (a == b) w := by
  show (Op.equalIn (9999 + 1) t (.bool a) (.bool b)).run P w = _
  unfold Op.equalIn
  simp [run_underlying h]

theorem run_equal_err {w : World} {t : TypeId} {ms : Array (String × TypeId)} (h : P.underlying t = some (.interface ms)) {v : Value} {e : Bool} (hv : ErrR v e) :
    (Op.equal t v .nilIface).run P w = .ok (!e) w := by
  show (Op.equalIn (9999 + 1) t v .nilIface).run P w = _
  unfold Op.equalIn
  rcases hv with ⟨rfl, rfl⟩ | ⟨rfl, t', x, rfl⟩ <;> simp [run_underlying h]

theorem Got.bin (hT : TyOK P ty) {op : BinOp} {t u : TypeId} {x y : Operand} (ho : o.op = .binOp op t x y u)
    (hk : (match (generalizing := false) st.v x, st.v y with
      | .err a, .err b => match (generalizing := false) ty t, isNilC y, op with
        | some .err, true, .eql => Tree.need (!b) (k (.bool (!a)) st.heap {})
        | some .err, true, .neq => Tree.need (!b) (k (.bool a) st.heap {})
        | _, _, _ => .fail
      | .bool a, .bool b => match (generalizing := false) ty t, op with
        | some .bool, .eql => k (.bool (a == b)) st.heap {}
        | some .bool, .neq => k (.bool (a != b)) st.heap {}
        | _, _ => .fail
      | a, b => optT (binAV op a b) fun r => Tree.need r.1 (k r.2 st.heap {}) : Tree β).run = some r) : Got P o st k r := by
  split at hk
  · rename_i a b hx hy
    split at hk
    · rename_i hty hn
      obtain ⟨hb, hk⟩ := Got.need hk
      have hyn : y = .const .nilIface := by unfold isNilC at hn; split at hn <;> first | rfl | cases hn
      refine Got.pure hk fun X ct m w act _ hop => ?_
      have h1 := hop x (by simp [ho, Op.operands])
      have hx : vT st.tmps x = _ := hx
      rw [hx] at h1
      obtain ⟨ms, hms⟩ := (hT t _ hty).und
      refine ⟨.bool (!a), w, ?_, rfl, UR_bool.2 rfl⟩
      have he := run_equal_err (w := w) hms (UR_err.1 h1)
      have hg : (eqGuard .eql t x y (act.eval x) (act.eval y)).run P w = .ok () w := by
        subst hyn
        unfold eqGuard
        rcases UR_err.1 h1 with ⟨_, e⟩ | ⟨_, t', x', e⟩ <;> rw [e] <;> simp [Act.eval]
      subst hyn
      have hb : ∀ e, ErrR (act.eval x) e → (Go.binOp .eql t (act.eval x) .nilIface) = ((do Pure.pure (Value.bool (← Op.equal t (act.eval x) .nilIface))) : Sem Value) := by
        rintro e (⟨_, e⟩ | ⟨_, t', x', e⟩) <;> rw [e] <;> rfl
      simp only [execOp, ho, Sem.run_bind, hg, Result.andThen_ok]
      rw [show act.eval (.const .nilIface) = .nilIface from rfl, hb _ (UR_err.1 h1)]
      simp [he]
    · rename_i hty hn
      obtain ⟨hb, hk⟩ := Got.need hk
      have hyn : y = .const .nilIface := by unfold isNilC at hn; split at hn <;> first | rfl | cases hn
      refine Got.pure hk fun X ct m w act _ hop => ?_
      have h1 := hop x (by simp [ho, Op.operands])
      have hx : vT st.tmps x = _ := hx
      rw [hx] at h1
      obtain ⟨ms, hms⟩ := (hT t _ hty).und
      refine ⟨.bool a, w, ?_, rfl, UR_bool.2 rfl⟩
      have he := run_equal_err (w := w) hms (UR_err.1 h1)
      have hg : (eqGuard .neq t x y (act.eval x) (act.eval y)).run P w = .ok () w := by
        subst hyn
        unfold eqGuard
        rcases UR_err.1 h1 with ⟨_, e⟩ | ⟨_, t', x', e⟩ <;> rw [e] <;> simp [Act.eval]
      subst hyn
      have hb : ∀ e, ErrR (act.eval x) e → (Go.binOp .neq t (act.eval x) .nilIface) = ((do Pure.pure (Value.bool (!(← Op.equal t (act.eval x) .nilIface)))) : Sem Value) := by
        rintro e (⟨_, e⟩ | ⟨_, t', x', e⟩) <;> rw [e] <;> rfl
      simp only [execOp, ho, Sem.run_bind, hg, Result.andThen_ok]
      rw [show act.eval (.const .nilIface) = .nilIface from rfl, hb _ (UR_err.1 h1)]
      simp [he]
    · simp [Tree.run] at hk
  · rename_i a b hx hy
    split at hk
    · rename_i hty
      refine Got.binOp ho hk fun S F m w va vb ha hb => ?_
      have hx : vT st.tmps x = _ := hx
      have hy : vT st.tmps y = _ := hy
      simp only [St.v, hx, hy] at ha hb
      rw [UR_bool.1 ha, UR_bool.1 hb]
      refine ⟨by simp, by simp, _, w, ?_, rfl, UR_bool.2 rfl⟩
      simp [Go.binOp, run_equal_bool (hT t _ hty).und]
    · rename_i hty
      refine Got.binOp ho hk fun S F m w va vb ha hb => ?_
      have hx : vT st.tmps x = _ := hx
      have hy : vT st.tmps y = _ := hy
      simp only [St.v, hx, hy] at ha hb
      rw [UR_bool.1 ha, UR_bool.1 hb]
      refine ⟨by simp, by simp, _, w, ?_, rfl, UR_bool.2 rfl⟩
      simp only [Go.binOp, Sem.run_bind, run_equal_bool (hT t _ hty).und, Result.andThen_ok, Sem.run_pure]
      cases a <;> cases b <;> rfl
    · simp [Tree.run] at hk
  · obtain ⟨q, hq, hk⟩ := optT_some hk
    obtain ⟨h1, hk⟩ := Got.need hk
    obtain ⟨q1, q2⟩ := q
    simp only at h1; subst h1
    exact Got.binOp ho hk fun S F m w va vb ha hb => run_binAV t hq ha hb

theorem canon_neg (kd : FloatKind) (b : Nat) (hb : b < 2 ^ kd.format.width) : canon kd (Op.negFloat kd b) = fneg kd (canon kd b) ∧ Op.negFloat kd b < 2 ^ kd.format.width := by
  have hx : ∀ c : Nat, (k : FloatKind) → Op.negFloat k c = c ^^^ k.format.signWeight := fun c k => rfl
  have hsw : kd.format.signWeight < 2 ^ kd.format.width := by cases kd <;> decide
  have hlt : ∀ c, c < 2 ^ kd.format.width → Op.negFloat kd c < 2 ^ kd.format.width := fun c hc => by rw [hx]; exact Nat.xor_lt_two_pow hc hsw
  have hmod : ∀ c, (c ^^^ kd.format.signWeight) % kd.format.signWeight = c % kd.format.signWeight := by
    intro c
    have e : kd.format.signWeight = 2 ^ (kd.format.exponentBits + kd.format.fractionBits) := rfl
    rw [e, Nat.xor_mod_two_pow]; simp
  have hnan : ∀ c, (kd.format.read (Op.negFloat kd c)).isNaN = (kd.format.read c).isNaN := by
    intro c; rw [read_nan, read_nan, hx, hmod]
  refine ⟨?_, hlt b hb⟩
  unfold fneg
  cases h : (kd.format.read b).isNaN with
  | true =>
    rw [canon_nan (by rw [hnan]; exact h), canon_nan h]
    exact (canon_nan (b := Op.negFloat kd (nanW kd)) (by rw [hnan]; exact nanW_nan kd)).symm
  | false => rw [canon_of h]; rfl

theorem Got.un {op : UnOp} {t : TypeId} {x : Operand} (ho : o.op = .unOp op t x)
    (hk : (match (generalizing := false) op, st.v x with
      | .not, .bool b => k (.bool (!b)) st.heap {}
      | .neg, .int kd n => k (.int kd (kd.wrap (0 - n))) st.heap {}
      | .neg, .flt kd n => k (.flt kd (fneg kd n)) st.heap {}
      | _, _ => .fail : Tree β).run = some r) : Got P o st k r := by
  split at hk
  · rename_i b hx
    refine Got.pure hk fun X ct m w act _ hop => ?_
    have h1 := hop x (by simp [ho, Op.operands])
    have hx : vT st.tmps x = _ := hx
    rw [hx] at h1
    refine ⟨.bool (!b), w, ?_, rfl, UR_bool.2 rfl⟩
    simp only [execOp, ho, UR_bool.1 h1, Op.unary]; rfl
  · rename_i kd n hx
    refine Got.pure hk fun X ct m w act _ hop => ?_
    have h1 := hop x (by simp [ho, Op.operands])
    have hx : vT st.tmps x = _ := hx
    rw [hx] at h1
    refine ⟨.int kd (kd.wrap (0 - n)), w, ?_, rfl, UR_int.2 ⟨rfl, wrap_wrap _ _⟩⟩
    simp only [execOp, ho, (UR_int.1 h1).1, Op.unary, Op.intArith]; rfl
  · rename_i kd n hx
    refine Got.pure hk fun X ct m w act _ hop => ?_
    have h1 := hop x (by simp [ho, Op.operands])
    have hx : vT st.tmps x = _ := hx
    rw [hx] at h1
    obtain ⟨b, hb, h2, h3⟩ := UR_flt.1 h1
    have := canon_neg kd b h3
    refine ⟨.float kd (Op.negFloat kd b), w, ?_, rfl, UR_flt.2 ⟨_, rfl, by rw [this.1, h2], this.2⟩⟩
    simp only [execOp, ho, hb, Op.unary]; rfl
  · simp [Tree.run] at hk

theorem Got.nilCheck {x : Operand} (ho : o.op = .nilCheck x)
    (hk : (match st.v x with
      | .ref b p t => k (.ref b p t) st.heap {}
      | .iref t v => k (.iref t v) st.heap {}
      | .fn f => k (.fn f) st.heap {}
      | _ => .fail : Tree β).run = some r) : Got P o st k r := by
  split at hk
  · rename_i b p t hx
    refine Got.pure hk fun X ct m w act _ hop => ?_
    have h1 := hop x (by simp [ho, Op.operands])
    have hx : vT st.tmps x = _ := hx
    rw [hx] at h1
    obtain ⟨c, pt, oo, g1, g2, g3⟩ := h1
    refine ⟨_, w, ?_, rfl, ⟨c, pt, oo, g1, g2, rfl⟩⟩
    simp only [execOp, ho, g3]; rfl
  · rename_i t v hx
    refine Got.pure hk fun X ct m w act _ hop => ?_
    have h1 := hop x (by simp [ho, Op.operands])
    have hx : vT st.tmps x = _ := hx
    rw [hx] at h1
    obtain ⟨c, oo, cs, xs, zs, g1, g2⟩ := h1
    refine ⟨_, w, ?_, rfl, ⟨c, oo, cs, xs, zs, rfl, g2⟩⟩
    simp only [execOp, ho, g1]; rfl
  · rename_i f hx
    refine Got.pure hk fun X ct m w act _ hop => ?_
    have h1 := hop x (by simp [ho, Op.operands])
    have hx : vT st.tmps x = _ := hx
    rw [hx] at h1
    have h1 : act.eval x = .func (.func f) #[] #[] := h1
    refine ⟨_, w, ?_, rfl, rfl⟩
    simp only [execOp, ho, h1]; rfl
  · simp [Tree.run] at hk

theorem Got.extract {x : Operand} {i : Nat} (ho : o.op = .extract x i)
    (hk : (match st.v x with
      | .tup vs => optT vs[i]? fun v => k v st.heap {}
      | _ => .fail : Tree β).run = some r) : Got P o st k r := by
  split at hk
  · rename_i vs hx
    obtain ⟨v, hv, hk⟩ := optT_some hk
    refine Got.pure hk fun X ct m w act _ hop => ?_
    have h1 := hop x (by simp [ho, Op.operands])
    have hx : vT st.tmps x = _ := hx
    rw [hx] at h1
    obtain ⟨xs, g1, g2, g3⟩ := h1
    obtain ⟨y, g4, g5⟩ := g3 i v hv
    refine ⟨y, w, ?_, rfl, ?_⟩
    · simp [execOp, ho, g1, Instr.extract, g4]
    · cases v with
      | tup => exact g5.elim
      | _ => exact g5
  · simp [Tree.run] at hk
end
end Go.Ab

/- ==== Ab12 ==== -/
/- Addresses of parts, parts of values, lengths. -/
namespace Go.Ab
open Go
variable [GlobI]

theorem offT_append : ∀ (p q : List Nat) (T t : Ty) (o : Nat), offT T p = some (o, t) → offT T (p ++ q) = (offT t q).map fun x => (o + x.1, x.2) := by
  intro p
  induction p with
  | nil =>
    intro q T t o h
    cases T <;> simp only [offT, Option.some.injEq, Prod.mk.injEq] at h <;> obtain ⟨rfl, rfl⟩ := h <;> simp
  | cons i p ih =>
    intro q T t o h
    cases T with
    | st fs =>
      simp only [List.cons_append, offT] at h ⊢
      split at h
      · rename_i o1 t1 ha
        simp only [Option.map_eq_some_iff, Prod.mk.injEq, Prod.exists] at h
        obtain ⟨o2, t2, h, rfl, rfl⟩ := h
        rw [ih q t1 t2 o2 h]
        cases offT t2 q <;> simp [Nat.add_assoc]
      · cases h
    | arr n t1 =>
      simp only [List.cons_append, offT] at h ⊢
      split at h
      · rename_i hi
        simp only [Option.map_eq_some_iff, Prod.mk.injEq, Prod.exists] at h
        obtain ⟨o2, t2, h, rfl, rfl⟩ := h
        rw [if_pos hi, ih q t1 t2 o2 h]
        cases offT t2 q <;> simp [Nat.add_assoc]
      · cases h
    | _ => simp [offT] at h

theorem offP_append {pt : PT} {p q : List Nat} {t : Ty} {o : Nat} (h : offP pt p = some (o, t)) : offP pt (p ++ q) = (offT t q).map fun x => (o + x.1, x.2) := by
  cases pt with
  | var T => exact offT_append p q T t o h
  | rows T n cap =>
    cases p with
    | nil => simp [offP] at h
    | cons i p =>
      simp only [offP, List.cons_append] at h ⊢
      split at h
      · rename_i hi
        simp only [Option.map_eq_some_iff, Prod.mk.injEq, Prod.exists] at h
        obtain ⟨o2, t2, h, rfl, rfl⟩ := h
        rw [if_pos hi, offT_append p q T t2 o2 h]
        cases offT t2 q <;> simp [Nat.add_assoc]
      · cases h

theorem offS_index {pt : PT} {p : List Nat} {t : Ty} {o n cap j : Nat} (h : offS pt p = some (o, t, n, cap)) (hj : j < n) : offP pt (p ++ [j]) = some (o + j * t.size, t) := by
  have key : offP pt p = some (o, .arr n t) → offP pt (p ++ [j]) = some (o + j * t.size, t) := fun h => by
    rw [offP_append h]
    simp [offT, hj]
  cases pt with
  | var T =>
    simp only [offS] at h
    split at h
    · rename_i o1 n1 t1 h1
      simp only [Option.some.injEq, Prod.mk.injEq] at h
      obtain ⟨rfl, rfl, rfl, _⟩ := h
      exact key h1
    · cases h
  | rows T n1 cap1 =>
    cases p with
    | nil =>
      simp only [offS, Option.some.injEq, Prod.mk.injEq] at h
      obtain ⟨rfl, rfl, rfl, rfl⟩ := h
      simp [offP, offT, hj]
    | cons i p =>
      simp only [offS] at h
      split at h
      · rename_i o1 n1 t1 h1
        simp only [Option.some.injEq, Prod.mk.injEq] at h
        obtain ⟨rfl, rfl, rfl, _⟩ := h
        exact key h1
      · cases h

theorem FieldsOK_at {P : Program} : ∀ (fs : TyL) (l : List Field) (o i fo : Nat) (t : Ty), FieldsOK P fs l o → fs.at i = some (fo, t) → ∃ f, l[i]? = some f ∧ f.offset = o + fo ∧ Elem P f.type t
  | .nil, l, o, i, fo, t, h, ha => by simp [TyL.at] at ha
  | .cons t0 r, l, o, i, fo, t, h, ha => by
    cases l with
    | nil => simp [FieldsOK] at h
    | cons f l =>
      simp only [FieldsOK] at h
      obtain ⟨h1, h2, h3⟩ := h
      cases i with
      | zero =>
        simp only [TyL.at, Option.some.injEq, Prod.mk.injEq] at ha
        obtain ⟨rfl, rfl⟩ := ha
        exact ⟨f, rfl, h1, h2⟩
      | succ i =>
        simp only [TyL.at, Option.map_eq_some_iff, Prod.mk.injEq, Prod.exists] at ha
        obtain ⟨o1, t1, ha, rfl, rfl⟩ := ha
        obtain ⟨f', g1, g2, g3⟩ := FieldsOK_at r l (o + t0.size) i o1 t1 h3 ha
        exact ⟨f', by simpa using g1, by omega, g3⟩

section
variable {P : Program} {o : Oper} {st : St} {β : Type} {k : K β} {r : β} {ty : TypeId → Option Ty}

theorem run_sizeOf' {t : TypeId} {T : Ty} (h : Elem P t T) (w : World) : (sizeOf t).run P w = .ok T.size w := by
  obtain ⟨i, z, d, hi, hs, _⟩ := h
  simp [sizeOf, typeInfo, hi, hs]

theorem run_fieldAt {w : World} {s : TypeId} {fs : TyL} {f fo : Nat} {t : Ty} (hT : TyGood P s (.st fs)) (hf : fs.at f = some (fo, t)) (hz : t.size ≠ 0) (c oo : Nat) :
    (Instr.fieldAt s (.pointer (some ⟨c, oo, none⟩)) f).run P w = .ok (.pointer (some ⟨c, oo + fo, none⟩)) w := by
  obtain ⟨fields, hu, hF⟩ := hT.und
  obtain ⟨fl, g1, g2, g3⟩ := FieldsOK_at fs fields.toList 0 f fo t hF hf
  have g1 : fields[f]? = some fl := by rw [← Array.getElem?_toList]; exact g1
  simp only [Instr.fieldAt, Sem.run_bind, run_underlying hu, Result.andThen_ok, g1, Instr.sureAddr, Sem.run_pure, fieldPlace, run_sizeOf' g3, Sem.run_ite, if_neg hz]
  rw [g2, Addr.add_mid, Nat.zero_add]

theorem Got.fieldAddr (hT : TyOK P ty) {s : TypeId} {x : Operand} {f : Nat} (ho : o.op = .fieldAddr s x f)
    (hk : (optT (fieldAddrE ty s (st.v x) f) fun v => k v st.heap {} : Tree β).run = some r) : Got P o st k r := by
  obtain ⟨v, hv, hk⟩ := optT_some hk
  refine Got.pure hk fun X ct m w act hr hop => ?_
  have h1 := hop x (by simp [ho, Op.operands])
  unfold fieldAddrE at hv
  split at hv
  · rename_i fs hs
    split at hv
    · rename_i fo t hat
      split at hv
      · cases hv
      · rename_i hz
        split at hv
        · rename_i b p t' hx
          have hx : vT st.tmps x = _ := hx
          split at hv
          · rename_i hb
            cases hv
            rw [hx] at h1
            obtain ⟨c, pt, oo, g1, g2, g3⟩ := h1
            have := Ty.eq_of_beq hb; subst this
            refine ⟨_, w, ?_, rfl, ⟨c, pt, oo + fo, g1, ?_, rfl⟩⟩
            · simp only [execOp, ho, g3, Sem.run_bind, run_fieldAt (hT s _ hs) hat hz, Result.andThen_ok]; rfl
            · rw [offP_append g2]; simp [offT, hat]
          · cases hv
        · rename_i t' vs hx
          have hx : vT st.tmps x = _ := hx
          split at hv
          · rename_i hb
            simp only [Option.map_eq_some_iff] at hv
            obtain ⟨v1, hv1, rfl⟩ := hv
            rw [hx] at h1
            obtain ⟨c, oo, cs, xs, zs, g1, g2, g3, g4, g5⟩ := h1
            have := Ty.eq_of_beq hb; subst this
            simp only [TR] at g5
            obtain ⟨v2, pre, c2, post, e1, rfl, e2, e3, _⟩ := TRL_at fs vs cs f fo t g5 hat
            rw [hv1] at e1; cases e1
            refine ⟨_, w, ?_, rfl, ⟨c, oo + fo, c2, xs, post ++ zs, rfl, g2, g3, ?_, e3⟩⟩
            · simp only [execOp, ho, g1, Sem.run_bind, run_fieldAt (hT s _ hs) hat hz, Result.andThen_ok]; rfl
            · rw [← List.drop_drop, g4, ← e2]; simp
          · cases hv
        · cases hv
    · cases hv
  · cases hv

theorem run_indexAt_slice {w : World} {t te : TypeId} {T : Ty} (hu : P.underlying t = some (.slice te)) (he : Elem P te T) (kd : IntKind) (i : Int) (len cap c oo : Nat) (h0 : 0 ≤ i) (h1 : i < len) :
    (Instr.indexAt t (.slice (some ⟨c, oo, none⟩) len cap) (.int kd i)).run P w = .ok (.pointer (some ⟨c, oo + i.toNat * T.size, none⟩)) w := by
  simp [Instr.indexAt, asIntOf, run_underlying hu, run_sizeOf' he, h0, h1, Addr.add_mid]

theorem run_indexAt_array {w : World} {t te : TypeId} {n : Nat} {T : Ty} (hu : P.underlying t = some (.array n te)) (he : Elem P te T) (kd : IntKind) (i : Int) (c oo : Nat) (h0 : 0 ≤ i) (h1 : i < n) :
    (Instr.indexAt t (.pointer (some ⟨c, oo, none⟩)) (.int kd i)).run P w = .ok (.pointer (some ⟨c, oo + i.toNat * T.size, none⟩)) w := by
  simp [Instr.indexAt, asIntOf, run_underlying hu, run_sizeOf' he, h0, h1, Addr.add_mid, Instr.sureAddr]

theorem Got.indexAddr (hT : TyOK P ty) {t : TypeId} {x i : Operand} (ho : o.op = .indexAddr t x i)
    (hk : (match st.v i with
      | .int _ n => indexAddrE ty t (st.v x) n fun v => k v st.heap {}
      | _ => .fail : Tree β).run = some r) : Got P o st k r := by
  split at hk
  · rename_i kd n hi
    have hi : vT st.tmps i = _ := hi
    unfold indexAddrE at hk
    split at hk
    · rename_i nn e b p t' hty hx
      have hx : vT st.tmps x = _ := hx
      split at hk
      · rename_i hb
        obtain ⟨hc, hk⟩ := Got.need hk
        simp only [Bool.and_eq_true, decide_eq_true_eq] at hc
        have hb := Ty.eq_of_beq hb; subst hb
        refine Got.pure hk fun X ct m w act hr hop => ?_
        have h1 := hop x (by simp [ho, Op.operands])
        have h2 := hop i (by simp [ho, Op.operands])
        rw [hx] at h1
        rw [hi] at h2
        obtain ⟨c, pt, oo, g1, g2, g3⟩ := h1
        obtain ⟨te, hu, he⟩ := (hT t _ hty).und
        refine ⟨_, w, ?_, rfl, ⟨c, pt, oo + n.toNat * e.size, g1, ?_, rfl⟩⟩
        · simp only [execOp, ho, g3, (UR_int.1 h2).1, Sem.run_bind, run_indexAt_array hu he kd n c oo hc.1 hc.2, Result.andThen_ok]; rfl
        · rw [offP_append g2]
          have : n.toNat < nn := by omega
          simp [offT, this]
      · simp [Tree.run] at hk
    · rename_i nn e t' n' u l hty hx
      have hx : vT st.tmps x = _ := hx
      split at hk
      · rename_i hb
        obtain ⟨hc, hk⟩ := Got.need hk
        simp only [Bool.and_eq_true, decide_eq_true_eq] at hc hb
        have hb1 := Ty.eq_of_beq hb.1; subst hb1
        have hb2 := Ty.eq_of_beq hb.2; subst hb2
        refine Got.pure hk fun X ct m w act hr hop => ?_
        have h1 := hop x (by simp [ho, Op.operands])
        have h2 := hop i (by simp [ho, Op.operands])
        rw [hx] at h1
        rw [hi] at h2
        obtain ⟨c, oo, cs, xs, zs, g1, g2, g3, g4, g5⟩ := h1
        obtain ⟨te, hu, he⟩ := (hT t _ hty).und
        simp only [TR] at g5
        obtain ⟨rfl, _, g5⟩ := g5
        simp only [CR] at g5
        obtain ⟨hl, g5⟩ := g5
        have hlt : n.toNat < l.length := by omega
        obtain ⟨pre, c2, post, rfl, e1, e2⟩ := CRs_get (fun cs d => CR_len u cs d) l cs n.toNat hlt g5
        refine ⟨_, w, ?_, rfl, ⟨c, oo + n.toNat * u.size, c2, xs, post ++ zs, rfl, g2, g3, ?_, ?_⟩⟩
        · simp only [execOp, ho, g1, (UR_int.1 h2).1, Sem.run_bind, run_indexAt_array hu he kd n c oo hc.1 hc.2, Result.andThen_ok]; rfl
        · rw [← List.drop_drop, g4, ← e1]; simp
        · rw [getD_eq hlt]; exact TR_mk FF_SS false u _ _ e2
      · simp [Tree.run] at hk
    · rename_i e b p off len t' hty hx
      have hx : vT st.tmps x = _ := hx
      split at hk
      · rename_i hb
        obtain ⟨hc, hk⟩ := Got.need hk
        simp only [Bool.and_eq_true, decide_eq_true_eq] at hc
        have hb := Ty.eq_of_beq hb; subst hb
        refine Got.pure hk fun X ct m w act hr hop => ?_
        have h1 := hop x (by simp [ho, Op.operands])
        have h2 := hop i (by simp [ho, Op.operands])
        rw [hx] at h1
        rw [hi] at h2
        obtain ⟨te, hu, he⟩ := (hT t _ hty).und
        rcases h1 with ⟨h0, _⟩ | ⟨c, pt, oo, nn, cap, a, g1, g2, g3, g4, g5, g6⟩
        · omega
        · have g6 := g6 (by omega); subst g6
          refine ⟨_, w, ?_, rfl, ⟨c, pt, oo + (off + n.toNat) * t'.size, g1, offS_index g2 (by omega), rfl⟩⟩
          simp only [execOp, ho, g5, (UR_int.1 h2).1, Sem.run_bind, run_indexAt_slice hu he kd n len _ c _ hc.1 hc.2, Result.andThen_ok]
          rw [Nat.add_mul, ← Nat.add_assoc]; rfl
      · simp [Tree.run] at hk
    · rename_i e fr u l hty hx
      have hx : vT st.tmps x = _ := hx
      split at hk
      · rename_i hb
        obtain ⟨hc, hk⟩ := Got.need hk
        simp only [Bool.and_eq_true, decide_eq_true_eq] at hc
        have hb := Ty.eq_of_beq hb; subst hb
        refine Got.pure hk fun X ct m w act hr hop => ?_
        have h1 := hop x (by simp [ho, Op.operands])
        have h2 := hop i (by simp [ho, Op.operands])
        rw [hx] at h1
        rw [hi] at h2
        obtain ⟨te, hu, he⟩ := (hT t _ hty).und
        have h1 := UR_lst.1 h1
        simp only [CR] at h1
        obtain ⟨a, cap, g1, g2, g3⟩ := h1
        have hlt : n.toNat < l.length := by omega
        rcases g3 with g3 | ⟨c, oo, xs, ys, zs, rfl, g4, g5, g6, g7⟩
        · subst g3; simp at hlt
        · simp only [List.cons.injEq, and_true] at g1
          obtain ⟨pre, c2, post, rfl, e1, e2⟩ := CRs_get (fun cs d => CR_len u cs d) l ys n.toNat hlt g7
          refine ⟨_, w, ?_, rfl, ⟨c, oo + n.toNat * u.size, c2, xs, post ++ zs, rfl, ?_, g5, ?_, ?_⟩⟩
          · simp only [execOp, ho, g1, (UR_int.1 h2).1, Sem.run_bind, run_indexAt_slice hu he kd n l.length cap c oo hc.1 hc.2, Result.andThen_ok]; rfl
          · cases fr
            · exact g4
            · exact FF_SS _ g4
          · rw [← List.drop_drop, g6, ← e1]; simp
          · rw [getD_eq hlt]; exact TR_mk FF_SS fr u _ _ e2
      · simp [Tree.run] at hk
    · simp [Tree.run] at hk
  · simp [Tree.run] at hk
end
end Go.Ab

/- ==== Ab13 ==== -/
/- Elements by value, lengths, conversions. -/
namespace Go.Ab
open Go Ieee
variable [GlobI]

section
variable {P : Program} {o : Oper} {st : St} {β : Type} {k : K β} {r : β} {ty : TypeId → Option Ty}

theorem one_of {T : Ty} {cs : List Value} (hl : cs.length = T.size) (ha : T.isAgg = false) : ∃ v, cs = [v] := by
  cases T <;> simp [Ty.isAgg] at ha <;> simp only [Ty.size] at hl <;>
    (match cs, hl with | [v], _ => exact ⟨v, rfl⟩)

theorem run_part {w : World} {t : TypeId} {T : Ty} {pre cs post : List Value} (h : Elem P t T) (hl : cs.length = T.size) (h1 : T.isAgg = false → ∃ v, cs = [v]) :
    (part t (pre ++ cs ++ post).toArray pre.length).run P w = .ok (ofCells T cs) w := by
  have hs := run_sizeOf' h
  obtain ⟨i, z, d, hi, hsz, hz, hzc, hb, hd, hr⟩ := h
  cases hagg : T.isAgg with
  | true =>
    have hag : (isAgg t).run P w = .ok true w := by
      unfold isAgg
      rw [Sem.run_bind, run_underlying hd w]
      rw [hagg] at hr
      cases d <;> simp_all [TypeDesc.isRow]
    unfold part
    simp only [Sem.run_bind, hag, Result.andThen_ok, if_true, hs, Sem.run_pure, ofCells, hagg]
    congr 2
    apply Array.ext'
    simp [← hl]
  | false =>
    obtain ⟨v, rfl⟩ := h1 hagg
    have hag : (isAgg t).run P w = .ok false w := by
      unfold isAgg
      rw [Sem.run_bind, run_underlying hd w]
      rw [hagg] at hr
      cases d <;> simp_all [TypeDesc.isRow]
    unfold part
    have hg : ((pre ++ [v] ++ post).toArray)[pre.length]? = some v := by simp
    simp only [Sem.run_bind, hag, Result.andThen_ok, Bool.false_eq_true, if_false, hg, Sem.run_pure, ofCells, hagg]
    rfl

theorem Got.index (hT : TyOK P ty) {t : TypeId} {x i : Operand} (ho : o.op = .index t x i)
    (hk : (match ty t, st.v x, st.v i with
      | some .str, .str s, .int _ n => .need (decide (0 ≤ n) && decide (n < s.length)) (k (.int .u8 ((s.getD n.toNat 0).toNat : Int)) st.heap {})
      | some (.arr n e), .arr n' t' l, .int _ i => if n' != n || !t'.beq e then .fail else .need (decide (0 ≤ i) && decide (i < n)) (k (mk false t' (l.getD i.toNat t'.zero)) st.heap {})
      | _, _, _ => .fail : Tree β).run = some r) : Got P o st k r := by
  split at hk
  · rename_i s kd n hty hx hi
    have hx : vT st.tmps x = _ := hx
    have hi : vT st.tmps i = _ := hi
    obtain ⟨hc, hk⟩ := Got.need hk
    simp only [Bool.and_eq_true, decide_eq_true_eq] at hc
    refine Got.pure hk fun X ct m w act hr hop => ?_
    have h1 := hop x (by simp [ho, Op.operands])
    have h2 := hop i (by simp [ho, Op.operands])
    rw [hx] at h1
    rw [hi] at h2
    obtain ⟨s', g1, rfl, _⟩ := UR_str.1 h1
    have hlt : n.toNat < s'.data.toList.length := by omega
    have hlt' : n.toNat < s'.size := by simpa using hlt
    refine ⟨.int .u8 ((s'.data.toList.getD n.toNat 0).toNat : Int), w, ?_, rfl, UR_int.2 ⟨rfl, ?_⟩⟩
    · have e : s'[n.toNat]? = some (s'.data.toList.getD n.toNat 0) := by
        rw [getD_eq hlt, getElem?_pos s' n.toNat hlt']
        rfl
      simp only [execOp, ho, g1, (UR_int.1 h2).1, Instr.index, asIntOf, Sem.run_bind, Sem.run_pure, Result.andThen_ok, run_underlying (hT t _ hty).und, if_pos hc.1, e]
    · rw [wrap_iff]
      have := (s'.data.toList.getD n.toNat 0).toNat_lt
      simp only [IntKind.min, IntKind.max, IntKind.signed, IntKind.bits, Bool.false_eq_true, if_false]
      omega
  · rename_i nn e n' u l kd n hty hx hi
    have hx : vT st.tmps x = _ := hx
    have hi : vT st.tmps i = _ := hi
    split at hk
    · simp [Tree.run] at hk
    · rename_i hn
      simp only [Bool.or_eq_true, bne_iff_ne, ne_eq, Bool.not_eq_true', not_or, Decidable.not_not, Bool.not_eq_false] at hn
      obtain ⟨hn, hb⟩ := hn
      subst hn
      have hb := Ty.eq_of_beq hb; subst hb
      obtain ⟨hc, hk⟩ := Got.need hk
      simp only [Bool.and_eq_true, decide_eq_true_eq] at hc
      refine Got.pure hk fun X ct m w act hr hop => ?_
      have h1 := hop x (by simp [ho, Op.operands])
      have h2 := hop i (by simp [ho, Op.operands])
      rw [hx] at h1
      rw [hi] at h2
      obtain ⟨te, hu, he⟩ := (hT t _ hty).und
      obtain ⟨t0, cs, g1, g2⟩ := h1
      cases t0 <;> simp only [TR] at g1
      obtain ⟨rfl, rfl, g1⟩ := g1
      simp only [CR] at g1
      obtain ⟨hl, g1⟩ := g1
      have hlt : n.toNat < l.length := by omega
      obtain ⟨pre, c2, post, rfl, e1, e2⟩ := CRs_get (fun cs d => CR_len u cs d) l cs n.toNat hlt g1
      refine ⟨ofCells u c2, w, ?_, rfl, UR_cells (TR_mk FF_SS false u _ c2 (by rw [getD_eq hlt]; exact e2))⟩
      have hp := run_part (w := w) (pre := pre) (post := post) he (CR_len _ _ _ e2) (one_of (CR_len _ _ _ e2))
      rw [e1] at hp
      simp only [execOp, ho, g2, (UR_int.1 h2).1, ofCells, Ty.isAgg, if_true, Instr.index, asIntOf, Sem.run_bind, Sem.run_pure, Result.andThen_ok, run_underlying hu, if_pos hc, run_sizeOf' he, Sem.run_ite, hp]
  · simp [Tree.run] at hk
end
end Go.Ab

/- ==== Ab14 ==== -/
/- Fields by value, lengths, the greater and the lesser one, conversions, cuts. -/
namespace Go.Ab
open Go Ieee
variable [GlobI]

section
variable {P : Program} {o : Oper} {st : St} {β : Type} {k : K β} {r : β} {ty : TypeId → Option Ty}

theorem TRL_none {S F : Nat → Prop} {m : Map} {w : World} : ∀ (fs : TyL) (vs : List AV) (f : Nat) (v : AV) (cs : List Value), TRL S F m w fs vs cs → fs.at f = none → vs[f]? = some v → False
  | .nil, vs, f, v, cs, h, _, hv => by cases vs <;> simp only [TRL] at h; simp at hv
  | .cons t r, vs, f, v, cs, h, ha, hv => by
    cases vs <;> simp only [TRL] at h
    obtain ⟨c1, c2, _, _, h2⟩ := h
    cases f with
    | zero => simp [TyL.at] at ha
    | succ f => exact TRL_none r _ f v c2 h2 (by simpa [TyL.at] using ha) (by simpa using hv)

theorem Got.field (hT : TyOK P ty) {s : TypeId} {x : Operand} {f : Nat} (ho : o.op = .field s x f)
    (hk : (match ty s, st.v x with
      | some (.st fs), .agg vs => if chkL fs vs then optT vs[f]? fun v => k v st.heap {} else .fail
      | _, _ => .fail : Tree β).run = some r) : Got P o st k r := by
  split at hk
  · rename_i fs vs hs hx
    have hx : vT st.tmps x = _ := hx
    split at hk
    · rename_i hc
      obtain ⟨v, hv, hk⟩ := optT_some hk
      refine Got.pure hk fun X ct m w act hr hop => ?_
      have h1 := hop x (by simp [ho, Op.operands])
      rw [hx] at h1
      obtain ⟨cs, g1, g2⟩ := UR_chk (T := .st fs) h1 (by simpa [chk] using hc)
      simp only [TR] at g1
      obtain ⟨fields, hu, hF⟩ := (hT s _ hs).und
      cases hat : fs.at f with
      | none =>
        exfalso
        exact TRL_none fs vs f v cs g1 hat hv
      | some q =>
        obtain ⟨fo, t⟩ := q
        obtain ⟨v2, pre, c2, post, e1, rfl, e2, e3, _⟩ := TRL_at fs vs cs f fo t g1 hat
        rw [hv] at e1; cases e1
        obtain ⟨fl, q1, q2, q3⟩ := FieldsOK_at fs fields.toList 0 f fo t hF hat
        have q1 : fields[f]? = some fl := by rw [← Array.getElem?_toList]; exact q1
        have hp := run_part (w := w) (pre := pre) (post := post) q3 (TR_len _ _ _ e3) (fun ha => size_one e3 ha)
        rw [e2] at hp
        refine ⟨ofCells t c2, w, ?_, rfl, UR_cells e3⟩
        simp only [execOp, ho, g2, ofCells, Ty.isAgg, if_true, Instr.field, Sem.run_bind, Sem.run_pure, Result.andThen_ok, run_underlying hu, q1, asAgg, q2, Nat.zero_add, hp]
    · simp [Tree.run] at hk
  · simp [Tree.run] at hk

theorem wrap_len (n : Nat) (h : n ≤ maxStr) : IntKind.i64.wrap (n : Int) = n := by
  rw [wrap_iff]
  have : maxStr = 281474976710656 := by decide
  have h1 : IntKind.i64.min = -9223372036854775808 := by decide
  have h2 : IntKind.i64.max = 9223372036854775807 := by decide
  omega

theorem Got.len (hT : TyOK P ty) {c : Go.Call} {x : Operand} {t : TypeId} (ho : o.op = .call c) (hc : c.callee = .builtin .len) (ha : c.args.toList = [x]) (hat : c.argTypes.toList = [t])
    (hk : (match ty t with
      | some (.arr n _) => if n ≤ maxStr then k (.int .i64 n) st.heap {} else .fail
      | some .str => (match st.v x with
        | .str s => k (.int .i64 s.length) st.heap {}
        | _ => .fail)
      | some (.sl _) => (match st.v x with
        | .lst _ _ l => k (.int .i64 l.length) st.heap {}
        | .own _ _ _ len _ => k (.int .i64 len) st.heap {}
        | .nils => k (.int .i64 0) st.heap {}
        | _ => .fail)
      | _ => .fail : Tree β).run = some r) : Got P o st k r := by
  have ha' : c.args = #[x] := Array.toList_inj.1 ha
  have hat' : c.argTypes = #[t] := Array.toList_inj.1 hat
  have run : ∀ (w : World) (act : Act) (v : Value), (Builtin.len_ #[t] o.type #[act.eval x]).run P w = .ok v w → (execOp act.eval o).run P w = .ok (.value v) w := by
    intro w act v h
    simp only [execOp, ho, resolve, hc, ha', hat', Sem.run_bind, Sem.run_pure, Result.andThen_ok, invoke, builtin]
    simp [h]
  have hop' : ∀ {X : Ctx} {ct : Cont} {m : Map} {w : World} {act : Act}, (∀ y ∈ o.op.operands, UR (SS X ct m w) (FF X ct m w) m w (vT st.tmps y) (act.eval y)) → UR (SS X ct m w) (FF X ct m w) m w (vT st.tmps x) (act.eval x) :=
    fun hop => hop x (by simp [ho, Op.operands, Go.Call.operands, hc, ha'])
  split at hk
  · rename_i n e hty
    split at hk
    · rename_i hn
      refine Got.pure hk fun X ct m w act hr hop => ?_
      obtain ⟨te, hu, he⟩ := (hT t _ hty).und
      exact ⟨_, w, run w act _ (by simp [Builtin.len_, run_underlying hu, goInt]), rfl, UR_int.2 ⟨rfl, wrap_len n hn⟩⟩
    · simp [Tree.run] at hk
  · rename_i hty
    split at hk
    · rename_i s hx
      have hx : vT st.tmps x = _ := hx
      refine Got.pure hk fun X ct m w act hr hop => ?_
      have h1 := hop' hop
      rw [hx] at h1
      obtain ⟨s', g1, rfl, g2⟩ := UR_str.1 h1
      refine ⟨_, w, run w act _ (by rw [g1]; simp [Builtin.len_, run_underlying (hT t _ hty).und, goInt]; rfl), rfl, UR_int.2 ⟨by simp, wrap_len _ g2⟩⟩
    · simp [Tree.run] at hk
  · rename_i e hty
    obtain ⟨te, hu, he⟩ := (hT t _ hty).und
    split at hk
    · rename_i fr u l hx
      have hx : vT st.tmps x = _ := hx
      refine Got.pure hk fun X ct m w act hr hop => ?_
      have h1 := hop' hop
      rw [hx] at h1
      have h1 := UR_lst.1 h1
      simp only [CR] at h1
      obtain ⟨a, cap, g1, g2, _⟩ := h1
      simp only [List.cons.injEq, and_true] at g1
      exact ⟨_, w, run w act _ (by rw [g1]; simp [Builtin.len_, run_underlying hu, goInt]), rfl, UR_int.2 ⟨rfl, wrap_len _ g2.2⟩⟩
    · rename_i b p off len u hx
      have hx : vT st.tmps x = _ := hx
      refine Got.pure hk fun X ct m w act hr hop => ?_
      have h1 := hop' hop
      rw [hx] at h1
      rcases h1 with ⟨rfl, a, g1⟩ | ⟨c', pt, oo, nn, cap, a, _, _, _, g2, g1, _⟩
      · exact ⟨_, w, run w act _ (by rw [g1]; simp [Builtin.len_, run_underlying hu, goInt]), rfl, UR_int.2 ⟨rfl, wrap_len _ (Nat.zero_le _)⟩⟩
      · exact ⟨_, w, run w act _ (by rw [g1]; simp [Builtin.len_, run_underlying hu, goInt]), rfl, UR_int.2 ⟨rfl, wrap_len _ g2.2⟩⟩
    · rename_i hx
      have hx : vT st.tmps x = _ := hx
      refine Got.pure hk fun X ct m w act hr hop => ?_
      have h1 := hop' hop
      rw [hx] at h1
      obtain ⟨a, g1⟩ := UR_nils.1 h1
      exact ⟨_, w, run w act _ (by rw [g1]; simp [Builtin.len_, run_underlying hu, goInt]), rfl, UR_int.2 ⟨rfl, wrap_len 0 (Nat.zero_le _)⟩⟩
    · simp [Tree.run] at hk
  · simp [Tree.run] at hk

theorem Got.maxmin {c : Go.Call} {x y : Operand} {mx : Bool} (ho : o.op = .call c) (hc : c.callee = .builtin (if mx then .max else .min)) (ha : c.args.toList = [x, y])
    (hk : (match st.v x, st.v y with
        | .int kd a, .int kd' b => if kd = kd' then k (.int kd (if mx then (if b > a then b else a) else (if b < a then b else a))) st.heap {} else .fail
        | _, _ => .fail : Tree β).run = some r) : Got P o st k r := by
  have ha' : c.args = #[x, y] := Array.toList_inj.1 ha
  split at hk
  · rename_i kd a kd' b hx hy
    have hx : vT st.tmps x = _ := hx
    have hy : vT st.tmps y = _ := hy
    split at hk
    · rename_i hkd; subst hkd
      refine Got.pure hk fun X ct m w act hr hop => ?_
      have h1 := hop x (by simp [ho, Op.operands, Go.Call.operands, ha'])
      have h2 := hop y (by simp [ho, Op.operands, Go.Call.operands, ha'])
      rw [hx] at h1
      rw [hy] at h2
      obtain ⟨g1, g2⟩ := UR_int.1 h1
      obtain ⟨g3, g4⟩ := UR_int.1 h2
      refine ⟨_, w, ?_, rfl, UR_int.2 ⟨rfl, ?_⟩⟩
      · cases mx
        · simp only [execOp, ho, resolve, hc, ha', Sem.run_bind, Sem.run_pure, Result.andThen_ok, invoke, builtin, Bool.false_eq_true, if_false]
          simp [Builtin.min_, Builtin.min2, g1, g3]
        · simp only [execOp, ho, resolve, hc, ha', Sem.run_bind, Sem.run_pure, Result.andThen_ok, invoke, builtin, if_true]
          simp [Builtin.max_, Builtin.max2, g1, g3]
      · cases mx <;> simp only [Bool.false_eq_true, if_false, if_true] <;> split <;> assumption
    · simp [Tree.run] at hk
  · simp [Tree.run] at hk
end
end Go.Ab

/- ==== Ab15 ==== -/
/- Conversions and cuts. -/
namespace Go.Ab
open Go Ieee
variable [GlobI]

section
variable {P : Program} {o : Oper} {st : St} {β : Type} {k : K β} {r : β} {ty : TypeId → Option Ty}

theorem fconv_ok {s d : FloatKind} {a x : Nat} (ha : canon s a = x) (hl : a < 2 ^ s.format.width) (hf : ffits s d x = true) {w : World} :
    ∃ c w', (Conv.floatToFloat s a d).run P w = .ok (.float d c) w' ∧ wk w' = wk w ∧ canon d c = fconv s d x ∧ c < 2 ^ d.format.width := by
  unfold Conv.floatToFloat fconv
  split
  · rename_i he; subst he
    exact ⟨a, w, rfl, rfl, ha, hl⟩
  · rename_i hne
    unfold ffits at hf
    rw [Bool.or_eq_true] at hf
    have hf := hf.resolve_left (by simpa using hne)
    cases hn : (s.format.read a).isNaN with
    | true =>
      have hx : (s.format.read x).isNaN = true := by rw [← ha, canon_nan hn]; exact nanW_nan s
      obtain ⟨n1, t1, e1⟩ := isNaN_iff.1 hn
      obtain ⟨n2, t2, e2⟩ := isNaN_iff.1 hx
      have := cut_conv d a (w.tape w.drawn (.nanConv d a))
      refine ⟨_, { w with drawn := w.drawn + 1 }, ?_, rfl, ?_, this.2⟩
      · simp only [FloatKind.decode, e1]; rfl
      · rw [e2]; exact this.1
    | false =>
      have hxa : x = a := by rw [← ha]; exact canon_of hn
      subst hxa
      cases hr : s.format.read x with
      | nan n t => rw [hr] at hn; cases hn
      | infinity n =>
        have := write_ok d (.infinity n) rfl
        refine ⟨_, w, ?_, rfl, canon_of this.2, this.1⟩
        simp only [FloatKind.decode, hr]; rfl
      | number n m e =>
        have := write_ok d (.number n m e) rfl
        rw [hr] at hf
        refine ⟨_, w, ?_, rfl, canon_of this.2, this.1⟩
        have hf' : (d.decode (d.encode (.number n m e))).isInfinity = false := by
          simp only [Bool.not_eq_true'] at hf; exact hf
        have hr' : s.decode x = .number n m e := hr
        simp only [hr', hf', Bool.false_eq_true, if_false]; rfl

theorem bytes_list {S : Nat → Prop} {w2 : World} : ∀ (l : List Int) (ys : List Value), CRs (CR S w2 (.int .u8)) ys l → ys = l.map (Value.int .u8) ∧ (∀ n ∈ l, 0 ≤ n ∧ n < 256) := by
  intro l
  induction l with
  | nil => intro ys h; simp only [CRs] at h; subst h; simp
  | cons n l ih =>
    intro ys h
    obtain ⟨c1, c2, rfl, h1, h2⟩ := h
    obtain ⟨he, h3⟩ : c1 = [.int .u8 n] ∧ IntKind.u8.wrap n = n := h1
    subst he
    obtain ⟨rfl, h4⟩ := ih c2 h2
    have h3 := (wrap_iff _ _).1 h3
    have e1 : IntKind.u8.min = 0 := by decide
    have e2 : IntKind.u8.max = 255 := by decide
    refine ⟨rfl, fun m hm => ?_⟩
    rcases List.mem_cons.1 hm with rfl | hm
    · omega
    · exact h4 m hm

theorem run_loadList {w : World} {c oo : Nat} {xs ys zs : List Value} (hr : rd w c = some xs) (hx : xs.drop oo = ys ++ zs) :
    (loadCells ⟨c, oo, none⟩ ys.length).run P w = .ok ys.toArray w :=
  run_loadCells_list (P := P) w ⟨c, oo, none⟩ ys (fun j v hv => by
    rw [Addr.add_mid]
    unfold rd at hr
    split at hr
    · rename_i arr el fr hh
      cases hr
      have hj : j < ys.length := by
        rcases Nat.lt_or_ge j ys.length with h | h
        · exact h
        · rw [List.getElem?_eq_none h] at hv; cases hv
      have e : arr.toList[oo + j]? = some v := by
        rw [← List.getElem?_drop, hx, List.getElem?_append_left hj]; exact hv
      rw [Array.getElem?_toList] at e
      simp [World.cell?, hh, e]
    · cases hr)

theorem run_bytes_str {w : World} (a : Option Addr) (cap : Nat) (l : List Int) (h : l = [] ∨ ∃ b, a = some b ∧ (loadCells b l.length).run P w = .ok (l.map (Value.int .u8)).toArray w) :
    ∃ s : ByteArray, (Conv.bytesToString (.slice a l.length cap)).run P w = .ok (.string s) w ∧ s.data.toList = l.map fun n => UInt8.ofNat n.toNat := by
  cases a with
  | none =>
    rcases h with rfl | ⟨b, h, _⟩
    · exact ⟨_, rfl, rfl⟩
    · cases h
  | some b =>
    have h : (loadCells b l.length).run P w = .ok (l.map (Value.int .u8)).toArray w := by
      rcases h with rfl | ⟨b', h1, h2⟩
      · rfl
      · cases h1; exact h2
    refine ⟨_, run_bytesToString w b _ cap l h, ?_⟩
    rw [foldl_push_bytes]
    simp [ByteArray.empty, ByteArray.emptyWithCapacity]
    rfl

/-- A row or an array by its place. -/
theorem place_row {X : Ctx} {ct : Cont} {m : Map} {w : World} (hr : HR X ct m w) {b c : Nat} {pt : PT} {p : List Nat} {blk : Blk} {t t' : Ty} {l0 : List t.D} {oo n cap : Nat}
    (hm : m b = some (c, pt)) (hc : ct b = some blk) (hrow : rowAt t (some blk) p = some l0) (hoff : offS pt p = some (oo, t', n, cap)) :
    t' = t ∧ l0.length = n ∧ ∃ xs ys zs, rd w c = some xs ∧ xs.drop oo = ys ++ zs ∧ CRs (CR (SS X ct m w) w t) ys l0 := by
  have hb := hr.blk b c pt blk hm hc
  cases blk with
  | dead => simp [rowAt] at hrow
  | box T v =>
    obtain ⟨arr, el, rfl, hh, hT⟩ := hb
    simp only [rowAt] at hrow
    split at hrow
    · rename_i n' t1 l1 hg
      obtain ⟨e, rfl⟩ := castL_eq hrow
      subst e
      simp only [offS] at hoff
      split at hoff
      · rename_i o1 n1 t2 ho1
        simp only [Option.some.injEq, Prod.mk.injEq] at hoff
        obtain ⟨rfl, rfl, rfl, rfl⟩ := hoff
        obtain ⟨pre, cs, post, e1, e2, e3⟩ := TR_getV FF_SS p T v arr.toList o1 _ _ hT ho1 hg
        simp only [TR] at e3
        obtain ⟨rfl, rfl, e3⟩ := e3
        simp only [CR] at e3
        refine ⟨rfl, e3.1, arr.toList, cs, post, by simp [rd, hh], ?_, e3.2⟩
        rw [e1, ← e2]; simp
      · cases hoff
    · cases hrow
  | row mu fr t0 l =>
    obtain ⟨cap0, arr, el, cs, rest, rfl, hh, e1, e2, e3, e4⟩ := hb
    cases p with
    | nil =>
      simp only [rowAt] at hrow
      obtain ⟨e, rfl⟩ := castL_eq hrow
      subst e
      simp only [offS, Option.some.injEq, Prod.mk.injEq] at hoff
      obtain ⟨rfl, rfl, rfl, rfl⟩ := hoff
      refine ⟨rfl, rfl, arr.toList, cs, rest, by simp [rd, hh], by simpa using e1, CRs_mono (fun cs d hd => CR_mono (S := if fr then FF X ct m w else SS X ct m w) (w := w) ?_ (fun _ _ => rfl) _ _ _ hd) _ _ e2⟩
      intro c' hc'
      cases fr
      · exact hc'
      · exact FF_SS _ hc'
    | cons i p =>
      simp only [rowAt] at hrow
      split at hrow
      · rename_i n' t1 l1 hg
        obtain ⟨e, rfl⟩ := castL_eq hrow
        subst e
        simp only [offS] at hoff
        split at hoff
        · rename_i o1 n1 t2 ho1
          simp only [Option.some.injEq, Prod.mk.injEq] at hoff
          obtain ⟨rfl, rfl, rfl, rfl⟩ := hoff
          simp only [offP] at ho1
          split at ho1
          · rename_i hi
            simp only [Option.map_eq_some_iff, Prod.mk.injEq, Prod.exists] at ho1
            obtain ⟨o2, t3, ho1, rfl, rfl⟩ := ho1
            obtain ⟨pre, c1, post, rfl, q1, q2⟩ := CRs_get (fun cs d => CR_len t0 cs d) l cs i hi e2
            rw [getD_eq hi] at hg
            obtain ⟨pre2, c2, post2, rfl, q3, q4⟩ := TR_getV FF_SS p t0 _ c1 o2 _ _ (TR_mk (m := m) FF_SS fr t0 _ c1 q2) ho1 hg
            simp only [TR] at q4
            obtain ⟨rfl, rfl, q4⟩ := q4
            simp only [CR] at q4
            refine ⟨rfl, q4.1, arr.toList, c2, post2 ++ post ++ rest, by simp [rd, hh], ?_, q4.2⟩
            rw [e1, ← q1, ← q3, ← List.drop_drop]; simp
          · cases ho1
        · cases hoff
      · cases hrow

/-- What a slice holds lies in the memory. -/
theorem UR_sl {X : Ctx} {ct : Cont} {m : Map} {w : World} (hr : HR X ct m w) {H : Heap} {x : AV} {v : Value} {t : Ty} {l : List t.D} (hag : ∀ b, b ∈ x.ids → ct b = H[b]?)
    (h : UR (SS X ct m w) (FF X ct m w) m w x v) (hu : un H (.sl t) x = some l) :
    ∃ a cap, v = .slice a l.length cap ∧ l.length ≤ cap ∧ l.length ≤ maxStr ∧
      (l = [] ∨ ∃ c oo xs ys zs, a = some ⟨c, oo, none⟩ ∧ rd w c = some xs ∧ xs.drop oo = ys ++ zs ∧ CRs (CR (SS X ct m w) w t) ys l) := by
  rw [un_sl] at hu
  cases x with
  | nils =>
    obtain ⟨a, rfl⟩ := UR_nils.1 h
    have hu : some ([] : List t.D) = some l := hu
    cases hu
    exact ⟨a, 0, rfl, Nat.le_refl _, Nat.zero_le _, .inl rfl⟩
  | lst fr t' l' =>
    obtain ⟨e, rfl⟩ := castL_eq hu
    subst e
    have h := UR_lst.1 h
    simp only [CR] at h
    obtain ⟨a, cap, g1, g2, g3⟩ := h
    simp only [List.cons.injEq, and_true] at g1
    refine ⟨a, cap, g1, g2.1, g2.2, ?_⟩
    rcases g3 with g3 | ⟨c, oo, xs, ys, zs, h1, h2, h3, h4, h5⟩
    · exact .inl g3
    · refine .inr ⟨c, oo, xs, ys, zs, h1, h3, h4, CRs_mono (fun cs d hd => CR_mono (S := if fr then FF X ct m w else SS X ct m w) (w := w) ?_ (fun _ _ => rfl) _ _ _ hd) _ _ h5⟩
      intro c' hc'
      cases fr
      · exact hc'
      · exact FF_SS _ hc'
  | own b p off len t' =>
    have hu : (if t'.beq t then (rowAt t H[b]? p).map fun l => (l.drop off).take len else none) = some l := hu
    split at hu
    · rename_i hb
      have hb := Ty.eq_of_beq hb; subst hb
      simp only [Option.map_eq_some_iff] at hu
      obtain ⟨l0, hrow, rfl⟩ := hu
      rcases h with ⟨rfl, a, rfl⟩ | ⟨c, pt, oo, n, cap, a, g1, g2, g3, g4, rfl, g6⟩
      · exact ⟨a, 0, by simp, by simp, by simp, .inl (by simp)⟩
      · cases hH : H[b]? with
        | none => rw [hH] at hrow; simp [rowAt] at hrow
        | some blk =>
          rw [hH] at hrow
          have hc := hag b (by simp [AV.ids])
          rw [hH] at hc
          obtain ⟨_, e2, xs, ys, zs, e3, e4, e5⟩ := place_row hr g1 hc hrow g2
          have hlen : ((l0.drop off).take len).length = len := by simp; omega
          refine ⟨some ⟨c, a, none⟩, cap - off, by rw [hlen], by rw [hlen]; omega, by rw [hlen]; exact g4.2, ?_⟩
          by_cases hz : len = 0
          · left; subst hz; simp
          · right
            have ha := g6 (by omega)
            have q1 := CRs_drop (fun cs d => CR_len t' cs d) off l0 ys e5
            have q2 := CRs_take (fun cs d => CR_len t' cs d) len _ _ q1
            have hyl := CRs_len (fun cs d => CR_len t' cs d) _ _ e5
            have hle : off * t'.size ≤ ys.length := by rw [hyl]; exact Nat.mul_le_mul_right _ (by omega)
            refine ⟨c, a, xs, _, (ys.drop (off * t'.size)).drop (len * t'.size) ++ zs, rfl, e3, ?_, q2⟩
            rw [ha, ← List.drop_drop, e4, List.drop_append_of_le_length hle, ← List.append_assoc, List.take_append_drop]
    · cases hu
  | _ => exact absurd hu (by simp)
end
end Go.Ab

/- ==== Ab16 ==== -/
/- Conversions and slice expressions as steps. -/
namespace Go.Ab
open Go Ieee
variable [GlobI]

section
variable {P : Program} {o : Oper} {st : St} {β : Type} {k : K β} {r : β} {ty : TypeId → Option Ty}

theorem nearest_num (k : FloatKind) (n : Int) : canon k (k.nearest n) = k.nearest n ∧ k.nearest n < 2 ^ k.format.width := by
  have := write_ok k (.number (n < 0) n.natAbs 0) rfl
  exact ⟨canon_of this.2, this.1⟩

theorem run_floatToInt {w : World} {s : FloatKind} {d : IntKind} {b x : Nat} (ha : canon s b = x) (h : ftoiOk s x d = true) :
    (Conv.floatToInt s b d).run P w = .ok (.int d (ftoi s x)) w ∧ d.wrap (ftoi s x) = ftoi s x := by
  unfold ftoiOk at h
  split at h
  · rename_i n hn
    have hnn : (s.format.read b).isNaN = false := by
      cases hq : (s.format.read b).isNaN with
      | false => rfl
      | true =>
        rw [← ha, canon_nan hq] at hn
        obtain ⟨n1, t1, e1⟩ := isNaN_iff.1 (nanW_nan s)
        rw [e1] at hn; cases hn
    have hxb : x = b := by rw [← ha]; exact canon_of hnn
    subst hxb
    have h := of_decide_eq_true h
    have e : ftoi s x = n := by unfold ftoi; rw [hn]; rfl
    have hn' : (s.decode x).toInt .zero = some n := hn
    refine ⟨?_, by rw [e, wrap_iff]; exact h⟩
    unfold Conv.floatToInt
    rw [hn', e]
    simp only [if_pos h]; rfl
  · cases h

theorem load_bytes {w : World} {c oo : Nat} {xs zs : List Value} (l : List Int) (h2 : rd w c = some xs) (h3 : xs.drop oo = l.map (Value.int .u8) ++ zs) :
    (loadCells ⟨c, oo, none⟩ l.length).run P w = .ok (l.map (Value.int .u8)).toArray w := by
  have := run_loadList (P := P) h2 h3
  simpa using this

theorem len_map_u8 (l : List Int) : (l.map fun n => UInt8.ofNat n.toNat).length = l.length := List.length_map ..

theorem un_ids {H : Heap} {t : Ty} {x : AV} {l : List t.D} (h : un H (.sl t) x = some l) : ∀ b, b ∈ x.ids → b < H.length := by
  intro b hb
  rw [un_sl] at h
  cases x with
  | own b' p off len t' =>
    simp only [AV.ids, List.mem_singleton] at hb
    subst hb
    have h : (if t'.beq t then (rowAt t H[b]? p).map fun l => (l.drop off).take len else none) = some l := h
    split at h
    · rcases Nat.lt_or_ge b H.length with h1 | h1
      · exact h1
      · rw [List.getElem?_eq_none h1] at h; simp [rowAt] at h
    · cases h
  | ref b' p t' => exact absurd h (by simp)
  | _ => simp [AV.ids] at hb

theorem Got.conv (hT : TyOK P ty) {s d : TypeId} {x : Operand} (ho : o.op = .convert s d x) (hk : (convE ty st.heap s d (st.v x) k).run = some r) : Got P o st k r := by
  have hx' : ∀ {X : Ctx} {ct : Cont} {m : Map} {w : World} {act : Act}, (∀ y ∈ o.op.operands, UR (SS X ct m w) (FF X ct m w) m w (vT st.tmps y) (act.eval y)) → UR (SS X ct m w) (FF X ct m w) m w (st.v x) (act.eval x) :=
    fun hop => hop x (by simp [ho, Op.operands])
  unfold convE at hk
  split at hk
  · rename_i k0 k' k1 n hs hd hx
    refine Got.pure hk fun X ct m w act hr hop => ?_
    have h1 := hx' hop
    rw [hx] at h1
    refine ⟨_, w, ?_, rfl, UR_int.2 ⟨rfl, wrap_wrap _ _⟩⟩
    simp only [execOp, ho, (UR_int.1 h1).1, convert, Sem.run_bind, run_underlying (hT s _ hs).und, run_underlying (hT d _ hd).und, Result.andThen_ok, Conv.intToInt, Sem.run_pure]
  · rename_i k0 k' k1 n hs hd hx
    refine Got.pure hk fun X ct m w act hr hop => ?_
    have h1 := hx' hop
    rw [hx] at h1
    have hn := nearest_num k' n
    refine ⟨_, w, ?_, rfl, UR_flt.2 ⟨_, rfl, hn.1, hn.2⟩⟩
    simp only [execOp, ho, (UR_int.1 h1).1, convert, Sem.run_bind, run_underlying (hT s _ hs).und, run_underlying (hT d _ hd).und, Result.andThen_ok, Conv.intToFloat, Sem.run_pure]
  · rename_i k0 k' k1 n hs hd hx
    obtain ⟨hc, hk⟩ := Got.need hk
    have run : ∀ (w : World) (b : Nat), (convert s d (.float k1 b)).run P w = (Conv.floatToFloat k1 b k').run P w := fun w b => by
      simp only [convert, Sem.run_bind, run_underlying (hT s _ hs).und, run_underlying (hT d _ hd).und, Result.andThen_ok]
    -- the world may be drawn from: read it off
    refine ⟨_, st.heap, {}, hk, Grows.same _ rfl, by simp, OpOK.pure rfl rfl fun X ct m w act _ hr hop => ?_⟩
    have h1 := hx' hop
    rw [hx] at h1
    obtain ⟨b, g1, g2, g3⟩ := UR_flt.1 h1
    obtain ⟨c, w', g4, g5, g6, g7⟩ := fconv_ok (P := P) (w := w) g2 g3 hc
    refine ⟨_, w', ?_, g5, UR_flt.2 ⟨c, rfl, g6, g7⟩⟩
    simp only [execOp, ho, g1, Sem.run_bind, run, g4, Result.andThen_ok, Sem.run_pure]
  · rename_i k0 k' k1 n hs hd hx
    obtain ⟨hc, hk⟩ := Got.need hk
    refine Got.pure hk fun X ct m w act hr hop => ?_
    have h1 := hx' hop
    rw [hx] at h1
    obtain ⟨b, g1, g2, g3⟩ := UR_flt.1 h1
    have := run_floatToInt (P := P) (w := w) g2 hc
    refine ⟨_, w, ?_, rfl, UR_int.2 ⟨rfl, this.2⟩⟩
    simp only [execOp, ho, g1, convert, Sem.run_bind, run_underlying (hT s _ hs).und, run_underlying (hT d _ hd).und, Result.andThen_ok, this.1, Sem.run_pure]
  · rename_i a hs hd hx
    refine Got.pure hk fun X ct m w act hr hop => ?_
    have h1 := hx' hop
    rw [hx] at h1
    obtain ⟨s', g1, g2, g3⟩ := UR_str.1 h1
    refine ⟨_, w, ?_, rfl, UR_str.2 ⟨s', rfl, g2, g3⟩⟩
    simp only [execOp, ho, g1, convert, Sem.run_bind, run_underlying (hT s _ hs).und, run_underlying (hT d _ hd).und, Result.andThen_ok, Sem.run_pure]
  · rename_i hs hd
    obtain ⟨l, hl, hk⟩ := optT_some hk
    obtain ⟨te, hu, he⟩ := (hT s _ hs).ints _ rfl
    refine ⟨_, st.heap, _, hk, Grows.same _ rfl, un_ids hl, OpOK.pure rfl rfl fun X ct m w act hag hr hop => ?_⟩
    obtain ⟨a, cap, g1, g2, g3, g4⟩ := UR_sl hr (fun b hb => hag b (.inr (.inl hb))) (hx' hop) hl
    have hld : (l : List Int) = [] ∨ ∃ b, a = some b ∧ (loadCells b (List.length l)).run P w = .ok (List.map (Value.int .u8) l).toArray w := by
      rcases g4 with g4 | ⟨c, oo, xs, ys, zs, rfl, h2, h3, h4⟩
      · exact .inl g4
      · right
        obtain ⟨rfl, _⟩ := bytes_list l ys h4
        exact ⟨_, rfl, load_bytes l h2 h3⟩
    obtain ⟨s', h1, h2⟩ := run_bytes_str (P := P) (w := w) a cap l hld
    refine ⟨_, w, ?_, rfl, UR_str.2 ⟨s', rfl, h2, Nat.le_trans (Nat.le_of_eq (len_map_u8 l)) g3⟩⟩
    have hrun : (convert s d (act.eval x)).run P w = .ok (.string s') w := by rw [g1]; exact (run_convert_bytes_string w s d te a _ cap hu he (hT d _ hd).und).trans h1
    simp only [execOp, ho, Sem.run_bind, hrun, Result.andThen_ok, Sem.run_pure]
  · simp [Tree.run] at hk
end
end Go.Ab

/- ==== Ab17 ==== -/
/- Slice expressions. -/
namespace Go.Ab
open Go Ieee
variable [GlobI]

/-- A bound of a slice expression as it stands: left out, or a number. -/
def BoundIs (v : Option Value) (d n : Int) : Prop := (v = none ∧ n = d) ∨ ∃ kd, v = some (.int kd n)

section
variable {P : Program} {o : Oper} {st : St} {β : Type} {k : K β} {r : β} {ty : TypeId → Option Ty}

theorem run_sliceBounds {w : World} (b : Bool) (len cap : Nat) (lo hi : Option Value) (l h : Int) (hl : BoundIs lo 0 l) (hh : BoundIs hi len h) (h0 : 0 ≤ l) (h1 : l ≤ h) (h2 : h ≤ cap) :
    (Instr.sliceBounds b len cap lo hi none).run P w = .ok (l.toNat, h.toNat, cap) w := by
  have sb : ∀ (kd : IntKind) (i : Int) (y : Nat) (code : BoundsCode), 0 ≤ i → i ≤ y → (Instr.sliceBound (.int kd i) y code).run P w = .ok i.toNat w := by
    intro kd i y code hi0 hi1
    simp [Instr.sliceBound, asIntOf, hi0, hi1]
  unfold Instr.sliceBounds
  rcases hh with ⟨rfl, rfl⟩ | ⟨kd, rfl⟩
  · rcases hl with ⟨rfl, rfl⟩ | ⟨kd', rfl⟩
    · simp
    · have := sb kd' l len .sliceB h0 (by omega)
      simp [this]
  · have e1 := fun code => sb kd h cap code (by omega) h2
    rcases hl with ⟨rfl, rfl⟩ | ⟨kd', rfl⟩
    · simp [e1]
    · have := sb kd' l h.toNat .sliceB h0 (by omega)
      simp [e1, this]

theorem bound_is {S F : Nat → Prop} {m : Map} {w : World} {act : Act} {y : Option Operand} {d n : Int} (h : ∀ z, y = some z → UR S F m w (st.v z) (act.eval z)) (hb : bound (y.map st.v) d = some n) : BoundIs (y.map act.eval) d n := by
  cases y with
  | none => simp only [bound, Option.map_none, Option.some.injEq] at hb; exact .inl ⟨rfl, hb.symm⟩
  | some z =>
    have h1 := h z rfl
    simp only [Option.map_some] at hb ⊢
    cases hz : st.v z with
    | int kd n' =>
      rw [hz] at hb h1
      simp only [bound, Option.some.injEq] at hb
      subst hb
      exact .inr ⟨kd, by rw [(UR_int.1 h1).1]⟩
    | _ => rw [hz] at hb; simp [bound] at hb


theorem offS_of_offP {pt : PT} {p : List Nat} {oo n : Nat} {e : Ty} (h : offP pt p = some (oo, .arr n e)) : offS pt p = some (oo, e, n, n) := by
  cases pt with
  | var T => simp [offS, h]
  | rows T n1 cap =>
    cases p with
    | nil => simp [offP] at h
    | cons i p => simp [offS, h]

/-- A part of what lies somewhere. -/
theorem CRs_part {α : Type} {R : List Value → α → Prop} {n : Nat} (hl : ∀ cs d, R cs d → cs.length = n) {xs ys zs : List Value} {ds : List α} {oo : Nat} (l h : Nat) (h1 : l ≤ ds.length) (hx : xs.drop oo = ys ++ zs) (hc : CRs R ys ds) :
    ∃ ys' zs', xs.drop (oo + l * n) = ys' ++ zs' ∧ CRs R ys' ((ds.drop l).take h) := by
  have q1 := CRs_drop hl l ds ys hc
  have q2 := CRs_take hl h _ _ q1
  have hyl := CRs_len hl _ _ hc
  have hle : l * n ≤ ys.length := by rw [hyl]; exact Nat.mul_le_mul_right _ h1
  refine ⟨_, (ys.drop (l * n)).drop (h * n) ++ zs, ?_, q2⟩
  rw [← List.drop_drop, hx, List.drop_append_of_le_length hle, ← List.append_assoc, List.take_append_drop]

theorem Got.slice (hT : TyOK P ty) {t : TypeId} {x : Operand} {lo hi : Option Operand} (ho : o.op = .slice t x lo hi none)
    (hk : (sliceE ty t (st.v x) (lo.map st.v) (hi.map st.v) fun v => k v st.heap {}).run = some r) : Got P o st k r := by
  have hx' : ∀ {X : Ctx} {ct : Cont} {m : Map} {w : World} {act : Act}, (∀ y ∈ o.op.operands, UR (SS X ct m w) (FF X ct m w) m w (vT st.tmps y) (act.eval y)) → UR (SS X ct m w) (FF X ct m w) m w (st.v x) (act.eval x) :=
    fun hop => hop x (by simp [ho, Op.operands])
  have hlo' : ∀ {X : Ctx} {ct : Cont} {m : Map} {w : World} {act : Act} {d n : Int}, (∀ y ∈ o.op.operands, UR (SS X ct m w) (FF X ct m w) m w (vT st.tmps y) (act.eval y)) → bound (lo.map st.v) d = some n → BoundIs (lo.map act.eval) d n :=
    fun hop hb => bound_is (fun z hz => hop z (by subst hz; simp [ho, Op.operands])) hb
  have hhi' : ∀ {X : Ctx} {ct : Cont} {m : Map} {w : World} {act : Act} {d n : Int}, (∀ y ∈ o.op.operands, UR (SS X ct m w) (FF X ct m w) m w (vT st.tmps y) (act.eval y)) → bound (hi.map st.v) d = some n → BoundIs (hi.map act.eval) d n :=
    fun hop hb => bound_is (fun z hz => hop z (by subst hz; simp [ho, Op.operands])) hb
  have exec : ∀ {w : World} {act : Act} {v : Value}, (Instr.sliceAt t (act.eval x) (lo.map act.eval) (hi.map act.eval) none).run P w = .ok v w → (execOp act.eval o).run P w = .ok (.value v) w := fun h => by
    simp only [execOp, ho, Option.map_none, Sem.run_bind, h, Result.andThen_ok, Sem.run_pure]
  unfold sliceE at hk
  split at hk
  · rename_i s hty hx
    obtain ⟨l, hl, hk⟩ := optT_some hk
    obtain ⟨h, hh, hk⟩ := optT_some hk
    obtain ⟨hc, hk⟩ := Got.need hk
    simp only [Bool.and_eq_true, decide_eq_true_eq] at hc
    obtain ⟨⟨h0, h1⟩, h2⟩ := hc
    refine Got.pure hk fun X ct m w act hr hop => ?_
    have g := hx' hop
    rw [hx] at g
    obtain ⟨s', g1, rfl, g2⟩ := UR_str.1 g
    have hsz : s'.size = s'.data.toList.length := by simp
    refine ⟨.string (s'.extract l.toNat h.toNat), w, exec ?_, rfl, UR_str.2 ⟨_, rfl, ?_, ?_⟩⟩
    · have := run_sliceBounds (P := P) (w := w) false s'.size s'.size (lo.map act.eval) (hi.map act.eval) l h (hlo' hop hl) (by rw [hsz]; exact hhi' hop hh) h0 h1 (by rw [hsz]; exact h2)
      rw [g1]
      simp [Instr.sliceAt, Instr.slice, run_underlying (hT t _ hty).und, this]
    · simp [List.extract_eq_take_drop]
    · simp; omega
  · rename_i e fr u s hty hx
    split at hk
    · rename_i hb
      have hb := Ty.eq_of_beq hb; subst hb
      obtain ⟨l, hl, hk⟩ := optT_some hk
      obtain ⟨h, hh, hk⟩ := optT_some hk
      obtain ⟨hc, hk⟩ := Got.need hk
      simp only [Bool.and_eq_true, decide_eq_true_eq] at hc
      obtain ⟨⟨h0, h1⟩, h2⟩ := hc
      refine Got.pure hk fun X ct m w act hr hop => ?_
      have g := hx' hop
      rw [hx] at g
      have g := UR_lst.1 g
      simp only [CR] at g
      obtain ⟨a, cap, g1, g2, g3⟩ := g
      simp only [List.cons.injEq, and_true] at g1
      obtain ⟨te, hu, he⟩ := (hT t _ hty).und
      have run : (Instr.sliceAt t (act.eval x) (lo.map act.eval) (hi.map act.eval) none).run P w =
          .ok (.slice (if cap = l.toNat then a else a.map (·.add (l.toNat * u.size))) (h.toNat - l.toNat) (cap - l.toNat)) w := by
        have := run_sliceBounds (P := P) (w := w) true s.length cap (lo.map act.eval) (hi.map act.eval) l h (hlo' hop hl) (hhi' hop hh) h0 h1 (by omega)
        rw [g1]
        simp [Instr.sliceAt, Instr.slice, run_underlying hu, this, run_sizeOf' he]
      have hlen : ((s.drop l.toNat).take (h.toNat - l.toNat)).length = h.toNat - l.toNat := by simp; omega
      refine ⟨_, w, exec run, rfl, UR_lst.2 ?_⟩
      simp only [CR]
      refine ⟨_, cap - l.toNat, by rw [hlen], by rw [hlen]; omega, ?_⟩
      by_cases hz : h.toNat - l.toNat = 0
      · left; rw [hz]; simp; rfl
      · right
        rcases g3 with g3 | ⟨c, oo, xs, ys, zs, rfl, q1, q2, q3, q4⟩
        · subst g3; simp at h2; omega
        · obtain ⟨ys', zs', e1, e2⟩ := CRs_part (fun cs d => CR_len u cs d) l.toNat (h.toNat - l.toNat) (by omega) q3 q4
          exact ⟨c, oo + l.toNat * u.size, xs, ys', zs', by rw [if_neg (by omega)]; simp [Addr.add_mid], q1, q2, e1, e2⟩
    · simp [Tree.run] at hk
  · rename_i e b p off len u hty hx
    split at hk
    · rename_i hb
      have hb := Ty.eq_of_beq hb; subst hb
      obtain ⟨l, hl, hk⟩ := optT_some hk
      obtain ⟨h, hh, hk⟩ := optT_some hk
      obtain ⟨hc, hk⟩ := Got.need hk
      simp only [Bool.and_eq_true, decide_eq_true_eq] at hc
      obtain ⟨⟨h0, h1⟩, h2⟩ := hc
      refine Got.pure hk fun X ct m w act hr hop => ?_
      have g := hx' hop
      rw [hx] at g
      obtain ⟨te, hu, he⟩ := (hT t _ hty).und
      have run : ∀ a cap, act.eval x = .slice a len cap → len ≤ cap → (Instr.sliceAt t (act.eval x) (lo.map act.eval) (hi.map act.eval) none).run P w =
          .ok (.slice (if cap = l.toNat then a else a.map (·.add (l.toNat * u.size))) (h.toNat - l.toNat) (cap - l.toNat)) w := by
        intro a cap g1 hcap
        have := run_sliceBounds (P := P) (w := w) true len cap (lo.map act.eval) (hi.map act.eval) l h (hlo' hop hl) (hhi' hop hh) h0 h1 (by omega)
        rw [g1]
        simp [Instr.sliceAt, Instr.slice, run_underlying hu, this, run_sizeOf' he]
      rcases g with ⟨rfl, a, g1⟩ | ⟨c, pt, oo, n, cap, a, q1, q2, q3, q4, g1, q6⟩
      · have e1 : l.toNat = 0 := by omega
        have e2 : h.toNat = 0 := by omega
        refine ⟨_, w, exec (run a 0 g1 (Nat.le_refl _)), rfl, .inl ⟨by omega, a, ?_⟩⟩
        rw [e1, e2]; simp
      · refine ⟨_, w, exec (run _ _ g1 (by omega)), rfl, .inr ⟨c, pt, oo, n, cap, if cap - off = l.toNat then a else a + l.toNat * u.size, q1, q2, by omega, ⟨q4.1, by omega⟩, ?_, ?_⟩⟩
        · rw [Nat.sub_sub]
          split <;> simp [Addr.add_mid]
        · intro hlt
          rw [if_neg (by omega), q6 (by omega), Nat.add_mul, Nat.add_assoc]
    · simp [Tree.run] at hk
  · rename_i e hty hx
    obtain ⟨l, hl, hk⟩ := optT_some hk
    obtain ⟨h, hh, hk⟩ := optT_some hk
    obtain ⟨hc, hk⟩ := Got.need hk
    simp only [Bool.and_eq_true, decide_eq_true_eq] at hc
    obtain ⟨rfl, rfl⟩ := hc
    refine Got.pure hk fun X ct m w act hr hop => ?_
    have g := hx' hop
    rw [hx] at g
    obtain ⟨a, g1⟩ := UR_nils.1 g
    obtain ⟨te, hu, he⟩ := (hT t _ hty).und
    refine ⟨.slice a 0 0, w, exec ?_, rfl, UR_nils.2 ⟨a, rfl⟩⟩
    have := run_sliceBounds (P := P) (w := w) true 0 0 (lo.map act.eval) (hi.map act.eval) 0 0 (hlo' hop hl) (hhi' hop hh) (by omega) (by omega) (by omega)
    rw [g1]
    simp [Instr.sliceAt, Instr.slice, run_underlying hu, this, run_sizeOf' he]
  · rename_i n e b p t' hty hx
    split at hk
    · rename_i hb
      simp only [Bool.and_eq_true, decide_eq_true_eq] at hb
      obtain ⟨hb, hn⟩ := hb
      have hb := Ty.eq_of_beq hb; subst hb
      obtain ⟨l, hl, hk⟩ := optT_some hk
      obtain ⟨h, hh, hk⟩ := optT_some hk
      obtain ⟨hc, hk⟩ := Got.need hk
      simp only [Bool.and_eq_true, decide_eq_true_eq] at hc
      obtain ⟨⟨h0, h1⟩, h2⟩ := hc
      refine Got.pure hk fun X ct m w act hr hop => ?_
      have g := hx' hop
      rw [hx] at g
      obtain ⟨c, pt, oo, q1, q2, g1⟩ := g
      obtain ⟨te, hu, he⟩ := (hT t _ hty).und
      have run : (Instr.sliceAt t (act.eval x) (lo.map act.eval) (hi.map act.eval) none).run P w =
          .ok (.slice (some (if n = l.toNat then ⟨c, oo, none⟩ else (⟨c, oo, none⟩ : Addr).add (l.toNat * e.size))) (h.toNat - l.toNat) (n - l.toNat)) w := by
        have := run_sliceBounds (P := P) (w := w) false n n (lo.map act.eval) (hi.map act.eval) l h (hlo' hop hl) (hhi' hop hh) h0 h1 h2
        rw [g1]
        simp [Instr.sliceAt, Instr.sureAddr, run_underlying hu, this, run_sizeOf' he]
      refine ⟨_, w, exec run, rfl, .inr ⟨c, pt, oo, n, n, if n = l.toNat then oo else oo + l.toNat * e.size, q1, offS_of_offP q2, by omega, ⟨Nat.le_refl _, by omega⟩, ?_, ?_⟩⟩
      · split <;> simp [Addr.add_mid]
      · intro hlt
        rw [if_neg (by omega)]
    · simp [Tree.run] at hk
  · rename_i n e t' n' u s hty hx
    split at hk
    · rename_i hb
      simp only [Bool.and_eq_true, decide_eq_true_eq] at hb
      obtain ⟨⟨hb, hb2⟩, hn⟩ := hb
      have hb := Ty.eq_of_beq hb; subst hb
      have hb2 := Ty.eq_of_beq hb2; subst hb2
      obtain ⟨l, hl, hk⟩ := optT_some hk
      obtain ⟨h, hh, hk⟩ := optT_some hk
      obtain ⟨hc, hk⟩ := Got.need hk
      simp only [Bool.and_eq_true, decide_eq_true_eq] at hc
      obtain ⟨⟨h0, h1⟩, h2⟩ := hc
      refine Got.pure hk fun X ct m w act hr hop => ?_
      have g := hx' hop
      rw [hx] at g
      obtain ⟨c, oo, cs, xs, zs, g1, q1, q2, q3, q4⟩ := g
      simp only [TR] at q4
      obtain ⟨rfl, _, q4⟩ := q4
      simp only [CR] at q4
      obtain ⟨hls, q4⟩ := q4
      obtain ⟨te, hu, he⟩ := (hT t _ hty).und
      have run : (Instr.sliceAt t (act.eval x) (lo.map act.eval) (hi.map act.eval) none).run P w =
          .ok (.slice (some (if n' = l.toNat then ⟨c, oo, none⟩ else (⟨c, oo, none⟩ : Addr).add (l.toNat * u.size))) (h.toNat - l.toNat) (n' - l.toNat)) w := by
        have := run_sliceBounds (P := P) (w := w) false n' n' (lo.map act.eval) (hi.map act.eval) l h (hlo' hop hl) (hhi' hop hh) h0 h1 h2
        rw [g1]
        simp [Instr.sliceAt, Instr.sureAddr, run_underlying hu, this, run_sizeOf' he]
      have hlen : ((s.drop l.toNat).take (h.toNat - l.toNat)).length = h.toNat - l.toNat := by simp; omega
      refine ⟨_, w, exec run, rfl, UR_lst.2 ?_⟩
      simp only [CR, Bool.false_eq_true, if_false]
      refine ⟨_, n' - l.toNat, by rw [hlen], by rw [hlen]; omega, ?_⟩
      by_cases hz : h.toNat - l.toNat = 0
      · left; rw [hz]; simp; rfl
      · right
        obtain ⟨ys', zs', e1, e2⟩ := CRs_part (fun cs d => CR_len u cs d) l.toNat (h.toNat - l.toNat) (by omega) q3 q4
        exact ⟨c, oo + l.toNat * u.size, xs, ys', zs', by rw [if_neg (by omega), Addr.add_mid], q1, q2, e1, e2⟩
    · simp [Tree.run] at hk
  · simp [Tree.run] at hk
end
end Go.Ab

/- ==== Ab18 ==== -/
/- Steps on memory: new variables, loads, stores. -/
namespace Go.Ab
open Go
variable [GlobI]

theorem setRow_same {w : World} {c : Nat} {arr : Array Value} {el : TypeId} {fr : Nat × Nat} (h : w.heap[c]? = some (.cells arr el fr)) (a' : Array Value) : (w.setRow c a').heap[c]? = some (.cells a' el fr) := by
  unfold World.setRow
  rw [Array.getElem?_modify, if_pos rfl, h]; rfl
theorem setRow_other {w : World} {c c' : Nat} (h : c' ≠ c) (a' : Array Value) : (w.setRow c a').heap[c']? = w.heap[c']? := by
  unfold World.setRow
  rw [Array.getElem?_modify, if_neg (Ne.symm h)]
theorem setRow_size {w : World} {c : Nat} (a' : Array Value) : (w.setRow c a').heap.size = w.heap.size := by
  unfold World.setRow
  simp

section
variable {P : Program} {o : Oper} {st : St} {β : Type} {k : K β} {r : β} {ty : TypeId → Option Ty}

/-- A value by its place. -/
theorem place_get {X : Ctx} {ct : Cont} {m : Map} {w : World} (hr : HR X ct m w) {b c : Nat} {pt : PT} {p : List Nat} {blk : Blk} {t : Ty} {v : AV} {oo : Nat}
    (hm : m b = some (c, pt)) (hc : ct b = some blk) (hg : getB blk p = some v) (hoff : offP pt p = some (oo, t)) :
    ∃ arr el pre cs post, w.heap[c]? = some (.cells arr el (0, 0)) ∧ arr.toList = pre ++ cs ++ post ∧ pre.length = oo ∧ TR (SS X ct m w) (FF X ct m w) m w t v cs := by
  have hb := hr.blk b c pt blk hm hc
  cases blk with
  | dead => cases p <;> simp [getB] at hg
  | box T v0 =>
    obtain ⟨arr, el, rfl, hh, hT⟩ := hb
    have hg : getV v0 p = some v := by cases p <;> exact hg
    obtain ⟨pre, cs, post, e1, e2, e3⟩ := TR_getV FF_SS p T v0 arr.toList oo t v hT hoff hg
    exact ⟨arr, el, pre, cs, post, hh, e1, e2, e3⟩
  | row mu fr t0 l =>
    obtain ⟨cap0, arr, el, cs, rest, rfl, hh, e1, e2, e3, e4⟩ := hb
    cases p with
    | nil => simp [getB] at hg
    | cons i p =>
      simp only [offP] at hoff
      split at hoff
      · rename_i hi
        simp only [Option.map_eq_some_iff, Prod.mk.injEq, Prod.exists] at hoff
        obtain ⟨o2, t3, ho1, rfl, rfl⟩ := hoff
        obtain ⟨pre, c1, post, rfl, q1, q2⟩ := CRs_get (fun cs d => CR_len t0 cs d) l cs i hi e2
        simp only [getB] at hg
        rw [getD_eq hi] at hg
        obtain ⟨pre2, c2, post2, rfl, q3, q4⟩ := TR_getV FF_SS p t0 _ c1 o2 _ _ (TR_mk (m := m) FF_SS fr t0 _ c1 q2) ho1 hg
        exact ⟨arr, el, pre ++ pre2, c2, post2 ++ post ++ rest, hh, by rw [e1]; simp, by simp [q1, q3], q4⟩
      · cases hoff

theorem place_set {X : Ctx} {ct : Cont} {m : Map} {w : World} (hr : HR X ct m w) {H : Heap} {b c : Nat} {pt : PT} {p : List Nat} {blk blk' : Blk} {t : Ty} {x : AV} {cx : List Value} {oo : Nat}
    (hm : m b = some (c, pt)) (hc : ct b = some blk) (hs : setB H x blk p = some blk') (hoff : offP pt p = some (oo, t)) (hx : TR (SS X ct m w) (FF X ct m w) m w t x cx) :
    mutB (some blk) = true ∧ ∃ arr el pre old post, w.heap[c]? = some (.cells arr el (0, 0)) ∧ arr.toList = pre ++ old ++ post ∧ pre.length = oo ∧ old.length = t.size ∧
      ∀ (S F : Nat → Prop) (w' : World), Evo (SS X ct m w) (FF X ct m w) m w S F m w' → w'.heap[c]? = some (.cells (pre ++ cx ++ post).toArray el (0, 0)) → BR S F m w' c pt blk' := by
  have hb := hr.blk b c pt blk hm hc
  cases blk with
  | dead => cases p <;> simp [setB] at hs
  | box T v0 =>
    obtain ⟨arr, el, rfl, hh, hT⟩ := hb
    have hs : (setV H x v0 p).map (Blk.box T) = some blk' := by cases p <;> exact hs
    simp only [Option.map_eq_some_iff] at hs
    obtain ⟨v', hs', rfl⟩ := hs
    obtain ⟨pre, old, post, e1, e2, e3, e4⟩ := TR_setV FF_SS H x cx p T v0 arr.toList oo t v' hT hoff hx hs'
    refine ⟨rfl, arr, el, pre, old, post, hh, e1, e2, e3, fun S F w' hev hw' => ⟨_, el, rfl, hw', ?_⟩⟩
    exact TR_mono hev _ _ _ e4
  | row mu fr t0 l =>
    obtain ⟨cap0, arr, el, cs, rest, rfl, hh, e1, e2, e3, e4⟩ := hb
    cases p with
    | nil => cases mu <;> simp [setB] at hs
    | cons i p =>
      cases mu with
      | false => simp [setB] at hs
      | true =>
        simp only [offP] at hoff
        split at hoff
        · rename_i hi
          simp only [Option.map_eq_some_iff, Prod.mk.injEq, Prod.exists] at hoff
          obtain ⟨o2, t3, ho1, rfl, rfl⟩ := hoff
          obtain ⟨pre, c1, post, rfl, q1, q2⟩ := CRs_get (fun cs d => CR_len t0 cs d) l cs i hi e2
          simp only [setB] at hs
          rw [getD_eq hi] at hs
          split at hs
          · rename_i v' hv'
            split at hs
            · rename_i hno
              simp only [Option.map_eq_some_iff] at hs
              obtain ⟨d, hd, rfl⟩ := hs
              obtain ⟨pre2, c2, post2, rfl, q3, q4, q5⟩ := TR_setV FF_SS H x cx p t0 _ c1 o2 _ v' (TR_mk (m := m) FF_SS fr t0 _ c1 q2) ho1 hx hv'
              have hun := TR_un FF_SS H t0 v' _ d q5 hno hd
              refine ⟨rfl, arr, el, pre ++ pre2, c2, post2 ++ post ++ rest, hh, by rw [e1]; simp, by simp [q1, q3], q4, fun S F w' hev hw' => ?_⟩
              have hlen2 : (pre2 ++ c2 ++ post2).length = t0.size := CR_len _ _ _ q2
              have hlen3 : (pre2 ++ cx ++ post2).length = t0.size := TR_len _ _ _ q5
              refine ⟨cap0, _, el, pre ++ (pre2 ++ cx ++ post2) ++ post, rest, by simp, hw', by simp, ?_, by simpa using e3, ?_⟩
              · have key : CRs (CR (if (fr && isFr t0 v') = true then F else S) w' t0) (pre ++ (pre2 ++ cx ++ post2) ++ post) (l.set i d) := by
                  refine CRs_set (fun cs d => CR_len t0 cs d) l pre (pre2 ++ c2 ++ post2) post i hi ?_ q1 hlen2 _ d ?_
                  · refine CRs_mono (fun cs d hd => ?_) _ _ e2
                    cases fr with
                    | false => exact CR_mono hev.hS hev.hw _ _ _ hd
                    | true =>
                      cases hf : isFr t0 v' with
                      | true => exact CR_mono hev.hF (fun c hc => hev.hw c (hev.hFS c hc)) _ _ _ hd
                      | false => exact CR_mono (fun c hc => hev.hS c (hev.hFS c hc)) (fun c hc => hev.hw c (hev.hFS c hc)) _ _ _ hd
                  · cases hf : fr && isFr t0 v' with
                    | false => exact CR_mono hev.hS hev.hw _ _ _ hun.1
                    | true =>
                      simp only [Bool.and_eq_true] at hf
                      exact CR_mono hev.hF (fun c hc => hev.hw c (hev.hFS c hc)) _ _ _ (hun.2 hf.2)
                exact key
              · have := congrArg List.length e1
                simp only [Array.length_toList, List.length_append] at this hlen2 hlen3
                simp only [List.size_toArray, List.length_append]
                omega
            · cases hs
          · cases hs
        · cases hoff

theorem Got.load (hT : TyOK P ty) {t : TypeId} {a : Operand} (ho : o.op = .load t a) (hk : (loadE ty st.heap t (st.v a) k).run = some r) : Got P o st k r := by
  have hx' : ∀ {X : Ctx} {ct : Cont} {m : Map} {w : World} {act : Act}, (∀ y ∈ o.op.operands, UR (SS X ct m w) (FF X ct m w) m w (vT st.tmps y) (act.eval y)) → UR (SS X ct m w) (FF X ct m w) m w (st.v a) (act.eval a) :=
    fun hop => hop a (by simp [ho, Op.operands])
  unfold loadE at hk
  obtain ⟨T, hty, hk⟩ := optT_some hk
  split at hk
  · rename_i b p t' ha
    split at hk
    · rename_i hb
      have hb := Ty.eq_of_beq hb; subst hb
      obtain ⟨blk, hblk, hk⟩ := optT_some hk
      obtain ⟨v, hv, hk⟩ := optT_some hk
      have hlt : b < st.heap.length := by
        rcases Nat.lt_or_ge b st.heap.length with h | h
        · exact h
        · rw [List.getElem?_eq_none h] at hblk; cases hblk
      refine ⟨v, st.heap, _, hk, Grows.same _ rfl, by simpa using hlt, OpOK.pure rfl rfl fun X ct m w act hag hr hop => ?_⟩
      have g := hx' hop
      rw [ha] at g
      obtain ⟨c, pt, oo, g1, g2, g3⟩ := g
      have hct : ct b = some blk := by rw [hag b (.inr (.inl (by simp))), hblk]
      obtain ⟨arr, el, pre, cs, post, q1, q2, q3, q4⟩ := place_get hr g1 hct hv g2
      refine ⟨ofCells t' cs, w, ?_, rfl, UR_cells q4⟩
      have := run_load_at (P := P) (hT t _ hty).elem q1 q2 q3 (TR_len _ _ _ q4) (fun h => size_one q4 h)
      simp only [execOp, ho, g3, Sem.run_bind, this, Result.andThen_ok, Sem.run_pure]
    · simp [Tree.run] at hk
  · rename_i t' v ha
    split at hk
    · rename_i hb
      have hb := Ty.eq_of_beq hb; subst hb
      refine Got.pure hk fun X ct m w act hr hop => ?_
      have g := hx' hop
      rw [ha] at g
      obtain ⟨c, oo, cs, xs, zs, g1, g2, g3, g4, g5⟩ := g
      unfold rd at g3
      split at g3
      · rename_i arr el fr hh
        cases g3
        refine ⟨ofCells t' cs, w, ?_, rfl, UR_cells g5⟩
        have hle : oo ≤ arr.toList.length ∨ cs ++ zs = [] := by
          rcases Nat.lt_or_ge arr.toList.length oo with h | h
          · right; rw [← g4]; exact List.drop_eq_nil_of_le (by omega)
          · exact .inl h
        rcases hle with hle | hle
        · have e : arr.toList = arr.toList.take oo ++ cs ++ zs := by
            rw [List.append_assoc, ← g4, List.take_append_drop]
          have := run_load_at (P := P) (o := oo) (hT t _ hty).elem hh e (by rw [List.length_take]; omega) (TR_len _ _ _ g5) (fun h => size_one g5 h)
          simp only [execOp, ho, g1, Sem.run_bind, this, Result.andThen_ok, Sem.run_pure]
        · -- no cells at all
          have hcs : cs = [] := by simpa using (List.append_eq_nil_iff.1 hle).1
          subst hcs
          have hz := TR_len _ _ _ g5
          obtain ⟨i, z, d, hi, hs, hz1, hzc, hbb, hd, hrr⟩ := (hT t _ hty).elem
          have hagg : t'.isAgg = true := by
            cases hq : t'.isAgg with
            | true => rfl
            | false => obtain ⟨v, hv⟩ := size_one g5 hq; cases hv
          have hag : (isAgg t).run P w = .ok true w := by
            unfold isAgg
            rw [Sem.run_bind, run_underlying hd w]
            rw [hagg] at hrr
            cases d <;> simp_all [TypeDesc.isRow]
          simp only [List.length_nil] at hz
          simp [execOp, ho, g1, Instr.loadAt, Instr.sureAddr, loadVar, hag, sizeOf, typeInfo, hi, hs, ← hz, loadCells, loadCellsFrom, ofCells, hagg]
      · cases g3
    · simp [Tree.run] at hk
  · simp [Tree.run] at hk

theorem after_set {f : Foot} {b : Nat} (ht : f.turns = [b]) (ha : f.all = false) {H : Heap} (hb : b < H.length) (k : Blk) (ct : Cont) : after f H (H.set b k) ct = updC ct b k := by
  funext b'
  unfold after updC
  simp only [ht, ha, Bool.false_and, Bool.false_or, List.length_set, List.contains_cons, List.contains_nil, Bool.or_false, Bool.or_eq_true, beq_iff_eq, Bool.and_eq_true, decide_eq_true_eq]
  by_cases h : b' = b
  · subst h; simp [hb]
  · rw [if_neg (by rintro (h1 | h1); exact h h1; omega), if_neg h]

theorem Got.store (hT : TyOK P ty) {t : TypeId} {a x : Operand} (ho : o.op = .store t a x) (hk : (storeE ty st.heap t (st.v a) (st.v x) k).run = some r) : Got P o st k r := by
  unfold storeE at hk
  obtain ⟨T, hty, hk⟩ := optT_some hk
  split at hk
  · rename_i b p t' ha
    split at hk
    · rename_i hb
      simp only [Bool.and_eq_true] at hb
      obtain ⟨hb, hchk⟩ := hb
      have hb := Ty.eq_of_beq hb; subst hb
      obtain ⟨blk, hblk, hk⟩ := optT_some hk
      obtain ⟨blk', hset, hk⟩ := optT_some hk
      have hlt : b < st.heap.length := by
        rcases Nat.lt_or_ge b st.heap.length with h | h
        · exact h
        · rw [List.getElem?_eq_none h] at hblk; cases hblk
      refine ⟨.junk, _, _, hk, ⟨by simp, by simpa using hlt, fun b' hb' _ hn => ?_⟩, by simpa using hlt, ?_⟩
      · rw [List.getElem?_set_ne]; rintro rfl; simp at hn
      · intro X ct m w act hag hfr hr hop K Q hK
        have g := hop a (by simp [ho, Op.operands])
        have gx := hop x (by simp [ho, Op.operands])
        have ha : vT st.tmps a = _ := ha
        rw [ha] at g
        obtain ⟨c, pt, oo, g1, g2, g3⟩ := g
        obtain ⟨cx, h1, h2⟩ := UR_chk gx hchk
        have hct : ct b = some blk := by rw [hag b (.inr (.inl (by simp))), hblk]
        obtain ⟨hmu, arr, el, pre, old, post, q1, q2, q3, q4, q5⟩ := place_set hr g1 hct hset g2 h1
        rw [after_set rfl rfl hlt] at hK
        have hrun := run_store_at (P := P) (hT t _ hty).elem q1 q2 q3 q4 (TR_len _ _ _ h1) (fun h => size_one h1 h) (TR_one _ _ _ h1)
        have hw := hr.write (k' := blk') (w' := w.setRow c (pre ++ cx ++ post).toArray) g1 hct hmu (setRow_size _) (fun c' hc' => setRow_other hc' _) (fun S F hev => q5 S F _ hev (setRow_same q1 _))
        unfold Oper.wp
        simp only [execOp, ho, g3, h2, Sem.run_bind, hrun, Result.andThen_ok, Sem.run_pure]
        exact hK undef _ m hw.1 hw.2 (fun b h1 h2 => absurd h1 h2) trivial
    · simp [Tree.run] at hk
  · simp [Tree.run] at hk
end
end Go.Ab

/- ==== Ab19 ==== -/
/- Steps on memory: new variables and literals. -/
namespace Go.Ab
open Go
variable [GlobI]

section
variable {P : Program} {o : Oper} {st : St} {β : Type} {k : K β} {r : β} {ty : TypeId → Option Ty}

theorem after_push {f : Foot} (ht : f.turns = []) (ha : f.all = false) (H : Heap) (k : Blk) (ct : Cont) : after f H (H ++ [k]) ct = updC ct H.length k := by
  funext b'
  unfold after updC
  simp only [ht, ha, Bool.false_and, Bool.false_or, List.contains_nil, List.length_append, List.length_cons, List.length_nil, Bool.and_eq_true, decide_eq_true_eq]
  by_cases h : b' = H.length
  · subst h; simp
  · rw [if_neg (by omega), if_neg h]

theorem Grows.push {f : Foot} (ht : f.turns = []) (H : Heap) (k : Blk) : Grows H (H ++ [k]) f :=
  ⟨by simp, by simp [ht], fun b hb _ _ => by rw [List.getElem?_append_left hb]⟩

theorem Grow_updM {m : Map} {H : Heap} {k : Blk} {x : Nat × PT} : Grow m (updM m H.length x) H (H ++ [k]) := by
  intro b h1 h2
  unfold updM at h2
  split at h2
  · rename_i he; subst he; simp
  · exact absurd h1 h2

theorem ofCells_cells {T : Ty} {cs : List Value} (h1 : T.isAgg = false → ∃ v, cs = [v]) (hone : ∀ v ∈ cs, v.oneCell' = true) : (ofCells T cs).cells = cs.toArray := by
  unfold ofCells
  cases hagg : T.isAgg with
  | true => simp [Value.cells]
  | false =>
    obtain ⟨v, rfl⟩ := h1 hagg
    have := hone v (by simp)
    cases v <;> simp_all [Value.cells, Value.oneCell']

/-- A new variable. -/
theorem Got.newVar {T : Ty} {v : AV} {t : TypeId} (hk : (k (.ref st.heap.length [] T) (st.heap ++ [.box T v]) {}).run = some r)
    (h : ∀ (X : Ctx) (ct : Cont) (m : Map) (w : World) (act : Act), HR X ct m w → (∀ y ∈ o.op.operands, UR (SS X ct m w) (FF X ct m w) m w (vT st.tmps y) (act.eval y)) →
      ∃ arr : Array Value, (execOp act.eval o).run P w = .ok (.value (.pointer (some ⟨w.heap.size, 0, none⟩))) { w with heap := w.heap.push (.cells arr t) } ∧ TR (SS X ct m w) (FF X ct m w) m w T v arr.toList) : Got P o st k r := by
  refine ⟨_, _, _, hk, Grows.push rfl _ _, by simp, ?_⟩
  intro X ct m w act hag hfr hr hop K Q hK
  obtain ⟨arr, h1, h2⟩ := h X ct m w act hr hop
  have hb : m st.heap.length = none := hfr _ (Nat.le_refl _) (by simp)
  rw [after_push rfl rfl] at hK
  have := hr.alloc hb (.cells arr t) (.box T v) (.var T) (w' := { w with heap := w.heap.push (.cells arr t) }) rfl (fun S F hev hh => ⟨arr, t, rfl, hh, TR_mono hev _ _ _ h2⟩)
  unfold Oper.wp
  rw [h1]
  exact hK _ _ _ this.1 this.2 Grow_updM ⟨w.heap.size, .var T, 0, by simp [updM], by cases T <;> rfl, rfl⟩

theorem run_zeroValue' {t : TypeId} {T : Ty} (h : Elem P t T) (w : World) : ∃ z, (zeroValue t).run P w = .ok z w ∧ z.cells.toList = zC T := by
  obtain ⟨i, z, d, hi, hs, hz, hzc, _⟩ := h
  exact ⟨z, by simp [zeroValue, typeInfo, hi, hz], hzc⟩

theorem Got.alloc (hT : TyOK P ty) {t : TypeId} (ho : o.op = .alloc t) (hk : (optT (ty t) fun T => k (.ref st.heap.length [] T) (st.heap ++ [.box T (zAV T)]) {} : Tree β).run = some r) : Got P o st k r := by
  obtain ⟨T, hty, hk⟩ := optT_some hk
  refine Got.newVar (t := t) hk fun X ct m w act hr hop => ?_
  obtain ⟨z, h1, h2⟩ := run_zeroValue' (hT t _ hty).elem w
  refine ⟨z.cells, ?_, by rw [h2]; exact TR_zero T⟩
  simp only [execOp, ho, Instr.alloc, Sem.run_bind, h1, Result.andThen_ok, Go.newVar, newRow, run_newObj, Sem.run_pure]

theorem Got.box {t : TypeId} {x : Operand} (ho : o.op = .box t x) (hk : (optT (ty t) fun T => if chk T (st.v x) then k (.ref st.heap.length [] T) (st.heap ++ [.box T (st.v x)]) {} else .fail : Tree β).run = some r) : Got P o st k r := by
  obtain ⟨T, hty, hk⟩ := optT_some hk
  split at hk
  · rename_i hc
    refine Got.newVar (t := t) hk fun X ct m w act hr hop => ?_
    obtain ⟨cs, h1, h2⟩ := UR_chk (hop x (by simp [ho, Op.operands])) hc
    have hcl := ofCells_cells (fun h => size_one h1 h) (TR_one _ _ _ h1)
    refine ⟨cs.toArray, ?_, by simpa using h1⟩
    simp only [execOp, ho, Instr.box, Sem.run_bind, Go.newVar, newRow, run_newObj, Result.andThen_ok, Sem.run_pure, h2, hcl]
  · simp [Tree.run] at hk

theorem splice_foldl : ∀ (xs pre old post : List Value) (off : Nat) (cells : Array Value), cells.toList = pre ++ old ++ post → pre.length = off → old.length = xs.length →
    ((xs.zipIdx).foldl (fun (cs : Array Value) (p : Value × Nat) => cs.setIfInBounds (off + p.2) p.1) cells).toList = pre ++ xs ++ post := by
  have key : ∀ (xs pre old post : List Value) (off j : Nat) (cells : Array Value), cells.toList = pre ++ old ++ post → pre.length = off + j → old.length = xs.length →
      ((xs.zipIdx j).foldl (fun (cs : Array Value) (p : Value × Nat) => cs.setIfInBounds (off + p.2) p.1) cells).toList = pre ++ xs ++ post := by
    intro xs
    induction xs with
    | nil =>
      intro pre old post off j cells h1 h2 h3
      have : old = [] := by simpa using h3
      subst this; simpa using h1
    | cons x xs ih =>
      intro pre old post off j cells h1 h2 h3
      cases old with
      | nil => simp at h3
      | cons y old =>
        simp only [List.zipIdx_cons, List.foldl_cons]
        have := ih (pre ++ [x]) old post off (j + 1) (cells.setIfInBounds (off + j) x) (by
          rw [Array.toList_setIfInBounds, h1, ← h2]; simp) (by simp; omega) (by simpa using h3)
        rw [this]; simp
  intro xs pre old post off cells h1 h2 h3
  exact key xs pre old post off 0 cells h1 (by simpa using h2) h3

mutual
theorem un_chk {H : Heap} : ∀ {t : Ty} {v : AV} {d : t.D}, noOwn t v = true → un H t v = some d → chk t v = true
  | .bool, v, d, _, h => by
    rw [un_bool] at h
    cases v with
    | bool b => rfl
    | _ => exact absurd h (by simp)
  | .int k, v, d, _, h => by
    rw [un_int] at h
    cases v with
    | int k' n =>
      simp only at h
      split at h
      · rename_i he; subst he; simp [chk]
      · cases h
    | _ => exact absurd h (by simp)
  | .flt k, v, d, _, h => by
    rw [un_flt] at h
    cases v with
    | flt k' n =>
      simp only at h
      split at h
      · rename_i he; subst he; simp [chk]
      · cases h
    | _ => exact absurd h (by simp)
  | .str, v, d, _, h => by
    rw [un_str] at h
    cases v with
    | str b => rfl
    | _ => exact absurd h (by simp)
  | .err, v, d, _, h => by
    rw [un_err] at h
    cases v with
    | err b => rfl
    | _ => exact absurd h (by simp)
  | .st fs, v, d, hn, h => by
    rw [un_st] at h
    cases v with
    | agg vs =>
      simp only [noOwn] at hn
      simp only [chk]
      exact unL_chk hn h
    | _ => exact absurd h (by simp)
  | .arr n t, v, d, _, h => by
    rw [un_arr] at h
    cases v with
    | arr n' t' l =>
      have h : (if n' == n then castL t' t l else none) = some d := h
      split at h
      · rename_i he
        unfold castL at h
        split at h
        · rename_i hb; simp only [chk, he, hb, Bool.and_self]
        · cases h
      · cases h
    | _ => exact absurd h (by simp)
  | .sl t, v, d, hn, h => by
    rw [un_sl] at h
    cases v with
    | nils => rfl
    | lst fr t' l =>
      have h : castL t' t l = some d := h
      unfold castL at h
      split at h
      · rename_i hb; simp only [chk, hb]
      · cases h
    | own b p off len t' => simp [noOwn] at hn
    | _ => exact absurd h (by simp)
theorem unL_chk {H : Heap} : ∀ {t : TyL} {v : List AV} {d : t.D}, noOwnL t v = true → unL H t v = some d → chkL t v = true
  | .nil, v, d, _, h => by
    rw [unL_nil] at h
    cases v with
    | nil => rfl
    | cons a v => exact absurd h (by simp)
  | .cons t r, v, d, hn, h => by
    rw [unL_cons] at h
    cases v with
    | nil => exact absurd h (by simp)
    | cons a v =>
      simp only [noOwnL, Bool.and_eq_true] at hn
      simp only at h
      split at h
      · rename_i a b ha hb
        simp only [chkL, Bool.and_eq_true]
        exact ⟨un_chk hn.1 ha, unL_chk hn.2 hb⟩
      · cases h
end

theorem fill_st {S F : Nat → Prop} {m : Map} {w : World} {fs : TyL} {place : Nat → Option (Nat × Nat)} (hp : ∀ i fo t, fs.at i = some (fo, t) → place i = some (fo, t.size)) :
    ∀ (L : List (Nat × Operand)) (f : Operand → AV) (g : Operand → Value) (vs vs' : List AV) (cells : Array Value), (∀ q ∈ L, UR S F m w (f q.2) (g q.2)) → buildSt fs (L.map fun q => (q.1, f q.2)) vs = some vs' →
    TRL S F m w fs vs cells.toList → ∃ cells', Instr.fill place cells (L.map fun q => (q.1, g q.2)) = some cells' ∧ TRL S F m w fs vs' cells'.toList := by
  intro L
  induction L with
  | nil => intro f g vs vs' cells hf hb ht; simp only [List.map_nil, buildSt, Option.some.injEq] at hb; subst hb; exact ⟨cells, rfl, ht⟩
  | cons p L ih =>
    intro f g vs vs' cells hf hb ht
    have hu := hf p (by simp)
    have h2 : ∀ q ∈ L, UR S F m w (f q.2) (g q.2) := fun q hq => hf q (by simp [hq])
    simp only [List.map_cons, buildSt] at hb
    split at hb
    · rename_i q hq
      obtain ⟨fo, t⟩ := q
      split at hb
      · rename_i hc
        obtain ⟨cs, g1, g2⟩ := UR_chk hu hc
        obtain ⟨v0, pre, c, post, e1, e2, e3, e4, e5⟩ := TRL_at fs vs cells.toList p.1 fo t ht hq
        have hcl := ofCells_cells (fun h => size_one g1 h) (TR_one _ _ _ g1)
        have hlen : cs.length = c.length := by rw [TR_len _ _ _ g1, TR_len _ _ _ e4]
        have hsp := splice_foldl cs pre c post fo cells e2 e3 hlen.symm
        obtain ⟨cells', q1, q2⟩ := ih f g (vs.set p.1 (f p.2)) vs' _ h2 hb (by rw [hsp]; exact e5 (f p.2) cs g1)
        refine ⟨cells', ?_, q2⟩
        have hsz : cells.size = fo + c.length + post.length := by
          have := congrArg List.length e2; simp [Nat.add_assoc] at this; omega
        simp only [List.map_cons, Instr.fill]
        rw [hp _ _ _ hq]
        simp only [g2, hcl]
        have hts : cs.length = t.size := TR_len _ _ _ g1
        rw [if_neg (by simp; omega)]
        have e : (cs.toArray.zipIdx).foldl (fun cs (c, j) => cs.setIfInBounds (fo + j) c) cells = (cs.zipIdx).foldl (fun (cs : Array Value) (p : Value × Nat) => cs.setIfInBounds (fo + p.2) p.1) cells := by
          rw [← Array.foldl_toList]; simp
        rw [e]; exact q1
      · cases hb
    · cases hb

theorem fill_arr {S F : Nat → Prop} {m : Map} {w : World} {t : Ty} {n : Nat} (hFS : ∀ c, F c → S c) {H : Heap} (S' : Nat → Prop) (fr : Bool) (hfr : ∀ c, (if fr then F c else S c) → S' c) :
    ∀ (L : List (Nat × Operand)) (f : Operand → AV) (g : Operand → Value) (l l' : List t.D) (cells : Array Value), (∀ q ∈ L, UR S F m w (f q.2) (g q.2)) → (fr = true → ∀ q ∈ L, isFr t (f q.2) = true) → buildArr H t n (L.map fun q => (q.1, f q.2)) l = some l' →
    l.length = n → CRs (CR S' w t) cells.toList l → ∃ cells', Instr.fill (fun i => some (i * t.size, t.size)) cells (L.map fun q => (q.1, g q.2)) = some cells' ∧ CRs (CR S' w t) cells'.toList l' ∧ l'.length = n := by
  intro L
  induction L with
  | nil => intro f g l l' cells hf _ hb hl ht; simp only [List.map_nil, buildArr, Option.some.injEq] at hb; subst hb; exact ⟨cells, rfl, ht, hl⟩
  | cons p L ih =>
    intro f g l l' cells hf hf2 hb hl ht
    have hu := hf p (by simp)
    have h2 : ∀ q ∈ L, UR S F m w (f q.2) (g q.2) := fun q hq => hf q (by simp [hq])
    simp only [List.map_cons, buildArr] at hb
    split at hb
    · rename_i hc
      simp only [Bool.and_eq_true, decide_eq_true_eq] at hc
      split at hb
      · rename_i d hd
        have hchk : chk t (f p.2) = true := un_chk hc.2 hd
        obtain ⟨cs, g1, g2⟩ := UR_chk hu hchk
        have hun := TR_un hFS H t _ cs d g1 hc.2 hd
        have hcr : CR S' w t cs d := by
          cases fr with
          | false => exact CR_mono (fun c h => hfr c (by simpa using h)) (fun _ _ => rfl) _ _ _ hun.1
          | true => exact CR_mono (fun c h => hfr c (by simpa using h)) (fun _ _ => rfl) _ _ _ (hun.2 (hf2 rfl p (by simp)))
        obtain ⟨pre, c, post, e2, e3, e4⟩ := CRs_get (fun cs d => CR_len t cs d) l cells.toList p.1 (by omega) ht
        have hcl := ofCells_cells (fun h => size_one g1 h) (TR_one _ _ _ g1)
        have hlen : cs.length = c.length := by rw [TR_len _ _ _ g1, CR_len _ _ _ e4]
        have hsp := splice_foldl cs pre c post (p.1 * t.size) cells e2 e3 hlen.symm
        rw [e2] at ht
        have hset := CRs_set (fun cs d => CR_len t cs d) l pre c post p.1 (by omega) ht e3 (CR_len _ _ _ e4) cs d hcr
        obtain ⟨cells', q1, q2⟩ := ih f g (l.set p.1 d) l' _ h2 (fun h q hq => hf2 h q (by simp [hq])) hb (by simpa using hl) (by rw [hsp]; exact hset)
        refine ⟨cells', ?_, q2⟩
        have hsz : cells.size = p.1 * t.size + c.length + post.length := by
          have := congrArg List.length e2; simp [Nat.add_assoc] at this; omega
        simp only [List.map_cons, Instr.fill]
        simp only [g2, hcl]
        have hts : cs.length = t.size := TR_len _ _ _ g1
        rw [if_neg (by simp; omega)]
        have e : (cs.toArray.zipIdx).foldl (fun cs (c, j) => cs.setIfInBounds (p.1 * t.size + j) c) cells = (cs.zipIdx).foldl (fun (cs : Array Value) (q : Value × Nat) => cs.setIfInBounds (p.1 * t.size + q.2) q.1) cells := by
          rw [← Array.foldl_toList]; simp
        rw [e]; exact q1
      · cases hb
    · cases hb
end
end Go.Ab

/- ==== Ab20 ==== -/
/- Literals and make. -/
namespace Go.Ab
open Go
variable [GlobI]

section
variable {P : Program} {o : Oper} {st : St} {β : Type} {k : K β} {r : β} {ty : TypeId → Option Ty}

theorem FieldsOK_places : ∀ (fs : TyL) (l : List Field) (oo : Nat), FieldsOK P fs l oo →
    ∃ places, l.mapM (fun f => (P.info? f.type).map fun i => (f.offset, i.size)) = some places ∧ ∀ i fo t, fs.at i = some (fo, t) → places[i]? = some (oo + fo, t.size)
  | .nil, l, oo, h => by
    cases l with
    | nil => exact ⟨[], rfl, fun i fo t h => by simp [TyL.at] at h⟩
    | cons => simp [FieldsOK] at h
  | .cons t r, l, oo, h => by
    cases l with
    | nil => simp [FieldsOK] at h
    | cons f l =>
      simp only [FieldsOK] at h
      obtain ⟨h1, ⟨i, z, d, hi, hs, _⟩, h3⟩ := h
      obtain ⟨places, g1, g2⟩ := FieldsOK_places r l _ h3
      refine ⟨(f.offset, i.size) :: places, by simp [List.mapM_cons, hi, g1], fun j fo t' hj => ?_⟩
      cases j with
      | zero =>
        simp only [TyL.at, Option.some.injEq, Prod.mk.injEq] at hj
        obtain ⟨rfl, rfl⟩ := hj
        simp [h1, hs]
      | succ j =>
        simp only [TyL.at, Option.map_eq_some_iff, Prod.mk.injEq, Prod.exists] at hj
        obtain ⟨o1, t1, hj, rfl, rfl⟩ := hj
        have := g2 j o1 t1 hj
        simp only [List.getElem?_cons_succ, this]
        rw [Nat.add_assoc]

theorem Got.build (hT : TyOK P ty) {t : TypeId} {ps : Array (Nat × Operand)} (ho : o.op = .build t ps)
    (hk : (optT (buildE ty st.heap t (ps.toList.map fun p => (p.1, st.v p.2))) fun v => k v st.heap {} : Tree β).run = some r) : Got P o st k r := by
  obtain ⟨v, hv, hk⟩ := optT_some hk
  refine Got.pure hk fun X ct m w act hr hop => ?_
  have hop' : ∀ q ∈ ps.toList, UR (SS X ct m w) (FF X ct m w) m w (st.v q.2) (act.eval q.2) := fun q hq => hop q.2 (by
    simp only [ho, Op.operands]; simp; exact ⟨q.1, by simpa using hq⟩)
  have exec : ∀ cells, P.built t (ps.toList.map fun q => (q.1, act.eval q.2)) = some cells → (execOp act.eval o).run P w = .ok (.value (.agg cells)) w := fun cells h => by
    have := run_build (P := P) w t (ps.map fun q => (q.1, act.eval q.2)) cells (by simpa using h)
    simp only [execOp, ho, Sem.run_bind, this, Result.andThen_ok, Sem.run_pure]
  unfold buildE at hv
  split at hv
  · rename_i fs hty
    simp only [Option.map_eq_some_iff] at hv
    obtain ⟨vs, hv, rfl⟩ := hv
    obtain ⟨⟨i, z, d, hi, hs, hz, hzc, _⟩, und, _⟩ := hT t _ hty
    obtain ⟨fields, hu, hF⟩ := und
    obtain ⟨places, hp, hp2⟩ := FieldsOK_places fs fields.toList 0 hF
    obtain ⟨cells, h1, h2⟩ := fill_st (fs := fs) (place := (places.toArray[·]?)) (fun i fo t h => by
      have := hp2 i fo t h
      simpa using this) ps.toList st.v act.eval (zAVL fs) vs z.cells hop' hv (by rw [hzc]; exact TRL_zero fs)
    refine ⟨.agg cells, w, exec cells ?_, rfl, ?_⟩
    · unfold Program.built
      simp only [hi, hu, hz, hp]
      exact h1
    · have := UR_cells (T := .st fs) (x := .agg vs) (cs := cells.toList) (by simpa only [TR] using h2)
      simpa [ofCells, Ty.isAgg] using this
  · rename_i n e hty
    simp only [Option.map_eq_some_iff] at hv
    obtain ⟨l, hv, rfl⟩ := hv
    obtain ⟨⟨i, z, d, hi, hs, hz, hzc, _⟩, und, _⟩ := hT t _ hty
    obtain ⟨te, hu, ⟨ie, ze, de, hie, hse, _⟩⟩ := und
    have hzero : CRs (CR (SS X ct m w) w e) z.cells.toList (List.replicate n e.zero) := by
      rw [hzc]; exact CRs_replicate (CR_zero e) n
    obtain ⟨cells, h1, h2, h3⟩ := fill_arr (S := SS X ct m w) (F := FF X ct m w) (m := m) (w := w) (t := e) (n := n) FF_SS (H := st.heap) (SS X ct m w) false (fun c h => by simpa using h) ps.toList st.v act.eval _ l z.cells hop' (by simp) hv (by simp) hzero
    refine ⟨.agg cells, w, exec cells ?_, rfl, ?_⟩
    · unfold Program.built
      simp only [hi, hu, hz, hie, hse]
      exact h1
    · have := UR_cells (S := SS X ct m w) (F := FF X ct m w) (m := m) (w := w) (T := .arr n e) (x := .arr n e l) (cs := cells.toList) (by simp only [TR, CR]; exact ⟨trivial, trivial, h3, h2⟩)
      simpa [ofCells, Ty.isAgg] using this
  · cases hv

theorem made_flat (z : Array Value) (c : Nat) : (madeCells z (c * z.size)).toList = (List.replicate c z.toList).flatten := by
  by_cases hz : z.size = 0
  · have : z = #[] := Array.eq_empty_of_size_eq_zero hz
    subst this
    simp [madeCells]
  · induction c with
    | zero => simp [madeCells]
    | succ c ih =>
      rw [List.replicate_succ', List.flatten_append, ← ih]
      simp only [madeCells, Array.toList_map, Array.toList_range, List.flatten_cons, List.flatten_nil, List.append_nil]
      rw [Nat.add_mul, Nat.one_mul, List.range_add, List.map_append]
      congr 1
      rw [List.map_map]
      apply List.ext_getElem
      · simp
      · intro i h1 h2
        have hi : i < z.size := by simpa using h2
        simp only [List.getElem_map, List.getElem_range, Function.comp]
        rw [Nat.mul_comm, Nat.mul_add_mod, Nat.mod_eq_of_lt hi, getElem!_pos z i hi]
        simp

/-- A new row. -/
theorem newRow_ok {X : Ctx} {ct : Cont} {m : Map} {w : World} (hr : HR X ct m w) {b : Nat} (hb : m b = none) {t : Ty} {fr : Bool} {l : List t.D} {cap : Nat} {arr : Array Value} {el : TypeId} {cs rest : List Value} {w' : World}
    (hw : w'.heap = w.heap.push (.cells arr el)) (h1 : arr.toList = cs ++ rest) (h2 : CRs (CR (if fr then FF X ct m w else SS X ct m w) w t) cs l) (h3 : l.length ≤ cap) (h4 : arr.size = cap * t.size) (hio : kio w' = kio w := by rfl) :
    HR X (updC ct b (.row true fr t l)) (updM m b (w.heap.size, .rows t l.length cap)) w' ∧ Evolves X ct m w (updC ct b (.row true fr t l)) (updM m b (w.heap.size, .rows t l.length cap)) w' :=
  hr.alloc hb (.cells arr el) (.row true fr t l) (.rows t l.length cap) hw (fun S F hev hh => ⟨cap, arr, el, cs, rest, rfl, hh, h1, CRs_mono (fun cs d hd => by
    cases fr
    · exact CR_mono hev.hS hev.hw _ _ _ hd
    · exact CR_mono hev.hF (fun c hc => hev.hw c (hev.hFS c hc)) _ _ _ hd) _ _ h2, h3, h4⟩) hio

theorem Got.makeSlice (hT : TyOK P ty) {t : TypeId} {n c : Operand} (ho : o.op = .makeSlice t n c) (hk : (makeSliceE ty st.heap t (st.v n) (st.v c) k).run = some r) : Got P o st k r := by
  unfold makeSliceE at hk
  split at hk
  · rename_i e n' c' hty hn hc
    have hn : vT st.tmps n = _ := hn
    have hc : vT st.tmps c = _ := hc
    obtain ⟨hcond, hk⟩ := Got.need hk
    simp only [Bool.and_eq_true, decide_eq_true_eq] at hcond
    obtain ⟨⟨h0, h1⟩, h2⟩ := hcond
    refine ⟨_, _, _, hk, Grows.push rfl _ _, by simp, ?_⟩
    intro X ct m w act hag hfr hr hop K Q hK
    have g1 := hop n (by simp [ho, Op.operands])
    have g2 := hop c (by simp [ho, Op.operands])
    rw [hn] at g1
    rw [hc] at g2
    have hb : m st.heap.length = none := hfr _ (Nat.le_refl _) (by simp)
    obtain ⟨te, hu, ⟨ie, z, d, hie, hse, hz, hzc, hby, _⟩⟩ := (hT t _ hty).und
    have hmr : (maxRow : Int) = 68719476736 := by decide
    have hrun := run_make (P := P) w t te ie z hu hie hz .i64 .i64 n' c' h0 h1 (by
      have : (ie.bytes : Int) * c' ≤ 1024 * 68719476736 := Int.mul_le_mul (by omega) (by omega) (by omega) (by omega)
      omega) (by omega)
    have hzs : z.cells.size = ie.size := by
      have := congrArg List.length hzc
      simp only [Array.length_toList] at this
      rw [this, hse]; exact CR_len (S := fun _ => True) (w := w) e _ _ (CR_zero e)
    have hflat := made_flat z.cells c'.toNat
    rw [hzs] at hflat
    rw [after_push rfl rfl] at hK
    have hsplit : (madeCells z.cells (c'.toNat * ie.size)).toList = (List.replicate n'.toNat (zC e)).flatten ++ (List.replicate (c'.toNat - n'.toNat) (zC e)).flatten := by
      rw [hflat, hzc, ← List.flatten_append, List.replicate_append_replicate]
      congr 2; omega
    have := newRow_ok (t := e) (fr := true) (l := List.replicate n'.toNat e.zero) (cap := c'.toNat) (w' := w.alloc (.cells (madeCells z.cells (c'.toNat * ie.size)) te)) hr hb rfl hsplit
      (CRs_replicate (CR_zero e) _) (by simp; omega) (by rw [size_madeCells, hse])
    unfold Oper.wp
    simp only [execOp, ho, (UR_int.1 g1).1, (UR_int.1 g2).1, Sem.run_bind, hrun, Result.andThen_ok, Sem.run_pure]
    have hl : (List.replicate n'.toNat e.zero).length = n'.toNat := by simp
    refine hK _ _ _ this.1 this.2 Grow_updM (.inr ⟨w.heap.size, .rows e (List.replicate n'.toNat e.zero).length c'.toNat, 0, n'.toNat, c'.toNat, 0, by simp [updM], by simp [offS], by omega, ⟨by omega, ?_⟩, by simp, by simp⟩)
    have : maxStr = 281474976710656 := by decide
    omega
  · simp [Tree.run] at hk
end
end Go.Ab
