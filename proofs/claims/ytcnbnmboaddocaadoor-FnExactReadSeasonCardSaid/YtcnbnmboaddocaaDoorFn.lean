/- The functions that the seat's laws reach, as plain functions, each with its walk: the evaluator's equations are checked by the kernel. -/
import Derived.Test.YtcnbnmboaddocaaDoorAbC
import Derived.Test.YtcnbnmboaddocaaDoorShelf
import Derived.Test.YtcnbnmboaddocaaDoorProg
namespace Go.Proofs.YtcnbnmboaddocaaDoor
open Go Go.Ab Go.Proofs
set_option maxRecDepth 100000
set_option linter.all false
def tab : List (Option Ty) := [
  none,
  none,
  some (.int .i64),
  some (.int .i64),
  some .bool,
  some (.int .u8),
  some (.int .u8),
  some (.st (.cons (.int .i64) (.cons (.int .i64) (.cons .bool (.cons (.int .u8) .nil))))),
  some (.st (.cons (.int .i64) (.cons (.int .i64) (.cons .bool (.cons (.int .u8) .nil))))),
  some .str,
  some .str,
  some .str,
  some (.int .u64),
  some (.st (.cons .str (.cons (.int .u64) .nil))),
  some (.st (.cons .str (.cons (.int .u64) .nil))),
  none,
  none,
  none,
  none,
  none,
  none,
  some (.int .i32),
  some (.st (.cons (.int .i64) (.cons (.int .i64) (.cons (.int .i64) .nil)))),
  some (.st (.cons (.int .i64) (.cons (.int .i64) (.cons (.int .i64) .nil)))),
  none,
  none,
  none,
  none,
  some (.sl (.int .i64)),
  some (.st (.cons (.sl (.int .i64)) (.cons (.sl (.int .i64)) (.cons (.int .i64) (.cons (.int .i64) (.cons (.int .i64) (.cons (.int .i64) (.cons (.int .i64) .nil)))))))),
  some (.st (.cons (.sl (.int .i64)) (.cons (.sl (.int .i64)) (.cons (.int .i64) (.cons (.int .i64) (.cons (.int .i64) (.cons (.int .i64) (.cons (.int .i64) .nil)))))))),
  none,
  none,
  none,
  none,
  none,
  none,
  none,
  none,
  none,
  some (.sl .str),
  none,
  none,
  none,
  none,
  none,
  none,
  none,
  none,
  none,
  none,
  none,
  none,
  none,
  none,
  none,
  none,
  none,
  none,
  none,
  none,
  none,
  none,
  none,
  none,
  some (.st (.cons (.sl .str) (.cons .bool .nil))),
  some (.st (.cons (.sl .str) (.cons .bool .nil))),
  none,
  some .err,
  none,
  none,
  none,
  none,
  none,
  none,
  none,
  none,
  none,
  none,
  none,
  some (.int .i64),
  some (.int .u64),
  none,
  none,
  some (.int .u64),
  none,
  none,
  none,
  none,
  some (.sl (.int .u8)),
  none,
  none,
  none,
  none,
  none,
  none,
  none,
  none,
  none,
  none,
  none,
  some (.st (.cons .str (.cons .str (.cons .err .nil)))),
  some (.st (.cons .str (.cons .str (.cons .err .nil)))),
  none,
  none,
  some (.arr 24 (.int .u8)),
  none,
  none,
  none,
  none,
  none,
  none,
  none,
  some (.st (.cons .str .nil)),
  some (.st (.cons .str .nil)),
  none,
  some (.arr 20 (.int .u64)),
  some (.int .u32),
  some (.arr 65 (.int .u8)),
  none,
  none,
  none,
  none,
  none,
  some (.arr 256 (.int .u8)),
  some (.st (.cons (.int .u8) (.cons (.int .u8) .nil))),
  some (.st (.cons (.int .u8) (.cons (.int .u8) .nil))),
  some (.arr 16 (.st (.cons (.int .u8) (.cons (.int .u8) .nil)))),
  none,
  none,
  none,
  some (.arr 32 (.int .u8)),
  some (.arr 64 (.int .u8)),
  none,
  none,
  none,
  none,
  none,
  none,
  some (.int .u8),
  some (.int .u8),
  none,
  some (.int .i32),
  some (.int .i32),
  none,
  none]
def ty : TypeId → Option Ty := tyTab tab
theorem tab_ok : tabB Tryd.prog 0 tab = true := by kernel_rfl
abbrev gtab : List (Nat × (Option Obj → Prop)) := [(0, isIface), (1, isIface), (2, isInt), (3, isTab Lib.pow10Tab)]
instance : GlobI := GlobI.ofTab gtab
theorem hg_MaxLen (S : Nat → Prop) (w : World) (h : GlobI.g S w) : ∃ m, w.cell? ⟨2, 0, none⟩ = some (.int .i64 m) := isInt_cell ((show globOf gtab S w from h) _ (.tail _ (.tail _ (.head _)))).2
theorem hg_Err (S : Nat → Prop) (w : World) (h : GlobI.g S w) : (∃ t p, w.cell? ⟨0, 0, none⟩ = some (.iface t p)) ∧ ∃ t p, w.cell? ⟨1, 0, none⟩ = some (.iface t p) := ⟨isIface_cell ((show globOf gtab S w from h) _ (.head _)).2, isIface_cell ((show globOf gtab S w from h) _ (.tail _ (.head _))).2⟩
theorem hg_pow (S : Nat → Prop) (w : World) (h : GlobI.g S w) : Lib.TabIs Tryd.prog w "internal/strconv.uint64pow10" .u64 Lib.pow10Tab := isTab_tab (by kernel_rfl) ((show globOf gtab S w from h) _ (.tail _ (.tail _ (.tail _ (.head _))))).2
theorem lib_Split.sound : FSound Tryd.prog 37 none [false, false] (.cons .str (.cons .str .nil)) (.vals (.cons (.sl .str) .nil)) true lib_Split := sound_Split (enters_of Tryd.func37 (by kernel_rfl) rfl) hg_MaxLen fun s sep m w h1 h2 h3 => Tryd.strings_Split s sep m w h1 h2 h3
noncomputable def lib_Split.ent : Ent Tryd.prog := Ent.con 37 none [false, false] (.cons .str (.cons .str .nil)) (.vals (.cons (.sl .str) .nil)) true lib_Split lib_Split.sound
theorem lib_ParseInt.sound : FSound Tryd.prog 38 none [false, false, false] (.cons .str (.cons (.int .i64) (.cons (.int .i64) .nil))) (.vals (.cons (.int .i64) (.cons .err .nil))) true lib_ParseInt := sound_ParseInt (enters_of Tryd.func38 (by kernel_rfl) rfl) hg_Err (fun s h v hv w => Tryd.strconv_ParseInt_10_at64_ok s h v hv w) (fun s h hp hq ev w h1 h2 => by
  cases e : Lib.parseIntB 64 s.data.toList with
  | ok v => exact absurd e (hp v)
  | range => exact absurd e hq
  | _ => exact (Any.strconv_ParseInt_10_at64_syntax Tryd.laysC174 s h e ev w h1 h2).mono fun e w' ⟨N, a, _, _, b⟩ => ⟨N, a, b⟩) (fun s h hp ev w h1 h2 => (Tryd.strconv_ParseInt_10_at64_range s h hp ev w h1 h2).mono fun e w' ⟨N, a, _, _, b⟩ => ⟨N, a, b⟩)
noncomputable def lib_ParseInt.ent : Ent Tryd.prog := Ent.con 38 none [false, false, false] (.cons .str (.cons (.int .i64) (.cons (.int .i64) .nil))) (.vals (.cons (.int .i64) (.cons .err .nil))) true lib_ParseInt lib_ParseInt.sound
theorem lib_FormatInt.sound : FSound Tryd.prog 45 none [false, false] (.cons (.int .i64) (.cons (.int .i64) .nil)) (.vals (.cons .str .nil)) true lib_FormatInt := sound_FormatInt (enters_of Tryd.func45 (by kernel_rfl) rfl) hg_pow fun n h0 h1 w ht => Tryd.strconv_FormatInt_10 n h0 h1 w ht
noncomputable def lib_FormatInt.ent : Ent Tryd.prog := Ent.con 45 none [false, false] (.cons (.int .i64) (.cons (.int .i64) .nil)) (.vals (.cons .str .nil)) true lib_FormatInt lib_FormatInt.sound
theorem lib_Join.sound : FSound Tryd.prog 46 none [false, false] (.cons (.sl .str) (.cons .str .nil)) (.vals (.cons .str .nil)) true lib_Join := sound_Join (enters_of Tryd.func46 (by kernel_rfl) rfl) (fun a c sep w => Tryd.strings_Join_none a c sep w) (fun bk o c xs sep w h1 h2 h3 h4 h5 => Tryd.strings_Join bk o c xs sep w h1 h2 h3 h4 h5)
noncomputable def lib_Join.ent : Ent Tryd.prog := Ent.con 46 none [false, false] (.cons (.sl .str) (.cons .str .nil)) (.vals (.cons .str .nil)) true lib_Join lib_Join.sound
theorem base : Base Tryd.prog ty := ⟨by kernel_rfl, tyTab_ok tab_ok⟩
def spec_l01Split.l0.st (g : (((Unit) × ((List (List UInt8)) × Unit)) × ((Unit) × ((List UInt8) × Int × Int × Int × Unit))) → Option ((((Unit) × ((List (List UInt8)) × Unit)) × ((Unit) × ((List UInt8) × Int × Unit))))) (d : (((Unit) × ((List (List UInt8)) × Unit)) × ((Unit) × ((List UInt8) × Int × Int × Int × Unit)))) : Option ((((Unit) × ((List (List UInt8)) × Unit)) × ((Unit) × ((List UInt8) × Int × Unit)))) :=
  bif decide (d.2.2.2.2.2.1 < (d.2.2.1.length : Int)) then
    bif (decide ((0 : Int) ≤ d.2.2.2.2.2.1) && decide (d.2.2.2.2.2.1 < (d.2.2.1.length : Int))) then
      let x1 : Bool := (((d.2.2.1.getD d.2.2.2.2.2.1.toNat 0).toNat : Int) == d.2.2.2.1)
      bif x1 then
        bif ((decide ((0 : Int) ≤ d.2.2.2.2.1) && decide (d.2.2.2.2.1 ≤ d.2.2.2.2.2.1)) && decide (d.2.2.2.2.2.1 ≤ (d.2.2.1.length : Int))) then
          let x2 : List UInt8 := ((d.2.2.1.drop d.2.2.2.2.1.toNat).take (d.2.2.2.2.2.1.toNat - d.2.2.2.2.1.toNat))
          bif decide (d.1.2.1.length + ((([x2] : List (List UInt8)).drop 0).take 1).length ≤ maxRow) then
            let l3 : List (List UInt8) := (d.1.2.1.take d.1.2.1.length ++ ((([x2] : List (List UInt8)).drop 0).take 1))
            bif (decide ((d.1.2.1.length + ((([x2] : List (List UInt8)).drop 0).take 1).length) = l3.length) && true) then
              (g (((), (l3, ())), ((), (d.2.2.1, d.2.2.2.1, (IntKind.i64.wrap (d.2.2.2.2.2.1 + (1 : Int))), (IntKind.i64.wrap (d.2.2.2.2.2.1 + (1 : Int))), ())))).bind some
            else
              none
          else
            none
        else
          none
      else
        bif (decide (d.1.2.1.length = d.1.2.1.length) && true) then
          (g (((), (d.1.2.1, ())), ((), (d.2.2.1, d.2.2.2.1, d.2.2.2.2.1, (IntKind.i64.wrap (d.2.2.2.2.2.1 + (1 : Int))), ())))).bind some
        else
          none
    else
      none
  else
    bif (decide (d.1.2.1.length = d.1.2.1.length) && true) then
      some (((), (d.1.2.1, ())), ((), (d.2.2.1, d.2.2.2.2.1, ())))
    else
      none
def spec_l01Split.l0 : Nat → (((Unit) × ((List (List UInt8)) × Unit)) × ((Unit) × ((List UInt8) × Int × Int × Int × Unit))) → Option ((((Unit) × ((List (List UInt8)) × Unit)) × ((Unit) × ((List UInt8) × Int × Unit))))
  | 0, _ => none
  | n + 1, d => spec_l01Split.l0.st (spec_l01Split.l0 n) d
def spec_l01Split (rd : Unit) (d : (List UInt8 × Int × Unit)) : Option (Unit × (List (List UInt8) × Unit)) :=
  bif (decide (0 = ([] : List (List UInt8)).length) && true) then
    (spec_l01Split.l0 fuel (((), (([] : List (List UInt8)), ())), ((), (d.1, d.2.1, (0 : Int), (0 : Int), ())))).bind fun z5 =>
    bif ((decide ((0 : Int) ≤ z5.2.2.2.1) && decide (z5.2.2.2.1 ≤ (z5.2.2.1.length : Int))) && decide ((z5.2.2.1.length : Int) ≤ (z5.2.2.1.length : Int))) then
      let x6 : List UInt8 := ((z5.2.2.1.drop z5.2.2.2.1.toNat).take (((z5.2.2.1.length : Int)).toNat - z5.2.2.2.1.toNat))
      bif decide (z5.1.2.1.length + ((([x6] : List (List UInt8)).drop 0).take 1).length ≤ maxRow) then
        let l7 : List (List UInt8) := (z5.1.2.1.take z5.1.2.1.length ++ ((([x6] : List (List UInt8)).drop 0).take 1))
        some ((), (((l7.drop 0).take (z5.1.2.1.length + ((([x6] : List (List UInt8)).drop 0).take 1).length)), ()))
      else
        none
    else
      none
  else
    none
noncomputable def spec_l01Split.code : Code := Tryd.f23.body.getD .skip
theorem spec_l01Split.fn : Fun Tryd.prog 23 Tryd.f23 spec_l01Split.code := ⟨by kernel_rfl, by kernel_rfl, by kernel_rfl⟩
noncomputable def spec_l01Split.es : List (Ent Tryd.prog) := []
noncomputable def spec_l01Split.l0.c : Code := loopAt spec_l01Split.code 0
noncomputable def spec_l01Split.l0.ts : List LoopT := []
theorem spec_l01Split.l0.lok {β : Type} : LoopsOK Tryd.prog (lpT (β := β) spec_l01Split.l0.ts) spec_l01Split.l0.c 1 := LoopsOK_T trivial
noncomputable def spec_l01Split.l0.hd : SPat := { heap := [], rows := [{ fr := true, t := .str, loc := (.tmp 5 []), cut := false }], tmps := [.val (.dat true .str), .val (.dat true (.int .u8))] ++ (jk 3) ++ [.u (.own 0 .str), .val (.dat true (.int .i64)), .val (.dat true (.int .i64))] ++ (jk 27) }
noncomputable def spec_l01Split.l0.xs : Exits := [(.exit 0, { heap := [], rows := [{ fr := true, t := .str, loc := (.tmp 5 []), cut := false }], tmps := [.val (.dat true .str)] ++ (jk 4) ++ [.u (.own 0 .str), .val (.dat true (.int .i64))] ++ (jk 28) })]
noncomputable def spec_l01Split.l0.T : LoopT := ⟨0, spec_l01Split.l0.hd, spec_l01Split.l0.xs, spec_l01Split.l0 fuel⟩
theorem spec_l01Split.l0.step : StepB ty spec_l01Split.es spec_l01Split.l0.ts spec_l01Split.l0.c 1 spec_l01Split.l0.hd spec_l01Split.l0.xs spec_l01Split.l0 := by intro n d; kernel_rfl
theorem spec_l01Split.l0.zero : @Zero spec_l01Split.l0.hd.D (ExD spec_l01Split.l0.xs) spec_l01Split.l0 := fun _ => rfl
theorem spec_l01Split.l0.ok {β : Type} : Sound Tryd.prog (.loop spec_l01Split.l0.c) (lpE (β := β) spec_l01Split.l0.hd spec_l01Split.l0.xs (spec_l01Split.l0 fuel)) := Sound.lp base spec_l01Split.l0.lok (by kernel_rfl) spec_l01Split.l0.zero spec_l01Split.l0.step fuel
noncomputable def spec_l01Split.ts : List LoopT := [spec_l01Split.l0.T]
theorem spec_l01Split.lok {β : Type} : LoopsOK Tryd.prog (lpT (β := β) spec_l01Split.ts) spec_l01Split.code 0 := LoopsOK_T ⟨spec_l01Split.l0.ok, trivial⟩
theorem spec_l01Split.eq : EqB ty spec_l01Split.es spec_l01Split.ts Tryd.f23 none [false, false] (.cons .str (.cons (.int .u8) .nil)) (.vals (.cons (.sl .str) .nil)) true spec_l01Split := by intro rd d; kernel_rfl
theorem spec_l01Split.sound : FSound Tryd.prog 23 none [false, false] (.cons .str (.cons (.int .u8) .nil)) (.vals (.cons (.sl .str) .nil)) true spec_l01Split := FSound.mk base spec_l01Split.fn spec_l01Split.lok spec_l01Split.eq
noncomputable def spec_l01Split.ent : Ent Tryd.prog := Ent.con 23 none [false, false] (.cons .str (.cons (.int .u8) .nil)) (.vals (.cons (.sl .str) .nil)) true spec_l01Split spec_l01Split.sound
def spec_l06Words (rd : Unit) (d : (Unit)) : Option (Unit × (List (List UInt8) × Unit)) :=
  some ((), (((([([] : List UInt8), ([108, 111, 97, 100] : List UInt8), ([107, 105, 110, 100, 108, 101] : List UInt8), ([114, 97, 107, 101] : List UInt8), ([99, 108, 101, 97, 110] : List UInt8), ([112, 97, 110, 101] : List UInt8), ([98, 114, 97, 105, 110] : List UInt8), ([109, 117, 116, 101] : List UInt8), ([100, 97, 109, 112, 101, 114] : List UInt8), ([119, 97, 105, 116] : List UInt8)] : List (List UInt8)).drop 0).take 10), ()))
noncomputable def spec_l06Words.code : Code := Tryd.f33.body.getD .skip
theorem spec_l06Words.fn : Fun Tryd.prog 33 Tryd.f33 spec_l06Words.code := ⟨by kernel_rfl, by kernel_rfl, by kernel_rfl⟩
noncomputable def spec_l06Words.es : List (Ent Tryd.prog) := []
noncomputable def spec_l06Words.ts : List LoopT := []
theorem spec_l06Words.lok {β : Type} : LoopsOK Tryd.prog (lpT (β := β) spec_l06Words.ts) spec_l06Words.code 0 := LoopsOK_T trivial
theorem spec_l06Words.eq : EqB ty spec_l06Words.es spec_l06Words.ts Tryd.f33 none [] .nil (.vals (.cons (.sl .str) .nil)) true spec_l06Words := by intro rd d; kernel_rfl
theorem spec_l06Words.sound : FSound Tryd.prog 33 none [] .nil (.vals (.cons (.sl .str) .nil)) true spec_l06Words := FSound.mk base spec_l06Words.fn spec_l06Words.lok spec_l06Words.eq
noncomputable def spec_l06Words.ent : Ent Tryd.prog := Ent.con 33 none [] .nil (.vals (.cons (.sl .str) .nil)) true spec_l06Words spec_l06Words.sound
def spec_l06Two (rd : Unit) (d : (Int × Unit)) : Option (Unit × (Bool × Unit)) :=
  bif (d.1 == (1 : Int)) then
    some ((), (true, ()))
  else
    bif (d.1 == (5 : Int)) then
      some ((), (true, ()))
    else
      bif (d.1 == (6 : Int)) then
        some ((), (true, ()))
      else
        some ((), ((d.1 == (8 : Int)), ()))
noncomputable def spec_l06Two.code : Code := Tryd.f34.body.getD .skip
theorem spec_l06Two.fn : Fun Tryd.prog 34 Tryd.f34 spec_l06Two.code := ⟨by kernel_rfl, by kernel_rfl, by kernel_rfl⟩
noncomputable def spec_l06Two.es : List (Ent Tryd.prog) := []
noncomputable def spec_l06Two.ts : List LoopT := []
theorem spec_l06Two.lok {β : Type} : LoopsOK Tryd.prog (lpT (β := β) spec_l06Two.ts) spec_l06Two.code 0 := LoopsOK_T trivial
theorem spec_l06Two.eq : EqB ty spec_l06Two.es spec_l06Two.ts Tryd.f34 none [false] (.cons (.int .i64) .nil) (.vals (.cons .bool .nil)) true spec_l06Two := by intro rd d; kernel_rfl
theorem spec_l06Two.sound : FSound Tryd.prog 34 none [false] (.cons (.int .i64) .nil) (.vals (.cons .bool .nil)) true spec_l06Two := FSound.mk base spec_l06Two.fn spec_l06Two.lok spec_l06Two.eq
noncomputable def spec_l06Two.ent : Ent Tryd.prog := Ent.con 34 none [false] (.cons (.int .i64) .nil) (.vals (.cons .bool .nil)) true spec_l06Two spec_l06Two.sound
def spec_l01Number.l0.st (g : (((Unit) × (Unit)) × ((Unit) × ((List UInt8) × Int × Int × Unit))) → Option ((((Unit) × (Unit)) × ((Unit) × (Int × Bool × Unit))) ⊕ (((Unit) × (Unit)) × ((Unit) × (Int × Unit))))) (d : (((Unit) × (Unit)) × ((Unit) × ((List UInt8) × Int × Int × Unit)))) : Option ((((Unit) × (Unit)) × ((Unit) × (Int × Bool × Unit))) ⊕ (((Unit) × (Unit)) × ((Unit) × (Int × Unit)))) :=
  bif decide (d.2.2.2.2.1 < (d.2.2.1.length : Int)) then
    bif (decide ((0 : Int) ≤ d.2.2.2.2.1) && decide (d.2.2.2.2.1 < (d.2.2.1.length : Int))) then
      let x1 : Bool := decide (((d.2.2.1.getD d.2.2.2.2.1.toNat 0).toNat : Int) < (48 : Int))
      bif x1 then
        some (.inl (((), ()), ((), ((0 : Int), false, ()))))
      else
        bif (decide ((0 : Int) ≤ d.2.2.2.2.1) && decide (d.2.2.2.2.1 < (d.2.2.1.length : Int))) then
          let x2 : Bool := decide (((d.2.2.1.getD d.2.2.2.2.1.toNat 0).toNat : Int) > (57 : Int))
          bif x2 then
            some (.inl (((), ()), ((), ((0 : Int), false, ()))))
          else
            bif (decide ((0 : Int) ≤ d.2.2.2.2.1) && decide (d.2.2.2.2.1 < (d.2.2.1.length : Int))) then
              let x3 : Int := (IntKind.u8.wrap (((d.2.2.1.getD d.2.2.2.2.1.toNat 0).toNat : Int) - (48 : Int)))
              let x4 : Int := (IntKind.i64.wrap ((IntKind.i64.wrap (d.2.2.2.1 * (10 : Int))) + (IntKind.i64.wrap x3)))
              (g (((), ()), ((), (d.2.2.1, x4, (IntKind.i64.wrap (d.2.2.2.2.1 + (1 : Int))), ())))).bind some
            else
              none
        else
          none
    else
      none
  else
    some (.inr (((), ()), ((), (d.2.2.2.1, ()))))
def spec_l01Number.l0 : Nat → (((Unit) × (Unit)) × ((Unit) × ((List UInt8) × Int × Int × Unit))) → Option ((((Unit) × (Unit)) × ((Unit) × (Int × Bool × Unit))) ⊕ (((Unit) × (Unit)) × ((Unit) × (Int × Unit))))
  | 0, _ => none
  | n + 1, d => spec_l01Number.l0.st (spec_l01Number.l0 n) d
def spec_l01Number (rd : Unit) (d : (List UInt8 × Unit)) : Option (Unit × (Int × Bool × Unit)) :=
  bif decide ((d.1.length : Int) < (1 : Int)) then
    some ((), ((0 : Int), false, ()))
  else
    bif decide ((d.1.length : Int) > (9 : Int)) then
      some ((), ((0 : Int), false, ()))
    else
      bif decide ((0 : Int) < (d.1.length : Int)) then
        bif (((d.1.getD 0 0).toNat : Int) == (48 : Int)) then
          bif decide ((d.1.length : Int) > (1 : Int)) then
            some ((), ((0 : Int), false, ()))
          else
            (spec_l01Number.l0 fuel (((), ()), ((), (d.1, (0 : Int), (0 : Int), ())))).bind fun y5 =>
            Sum.elim
              (fun z6 =>
                some ((), z6.2.2))
              (fun z7 =>
                some ((), (z7.2.2.1, true, ()))) y5
        else
          (spec_l01Number.l0 fuel (((), ()), ((), (d.1, (0 : Int), (0 : Int), ())))).bind fun y8 =>
          Sum.elim
            (fun z9 =>
              some ((), z9.2.2))
            (fun z10 =>
              some ((), (z10.2.2.1, true, ()))) y8
      else
        none
noncomputable def spec_l01Number.code : Code := Tryd.f35.body.getD .skip
theorem spec_l01Number.fn : Fun Tryd.prog 35 Tryd.f35 spec_l01Number.code := ⟨by kernel_rfl, by kernel_rfl, by kernel_rfl⟩
noncomputable def spec_l01Number.es : List (Ent Tryd.prog) := []
noncomputable def spec_l01Number.l0.c : Code := loopAt spec_l01Number.code 0
noncomputable def spec_l01Number.l0.ts : List LoopT := []
theorem spec_l01Number.l0.lok {β : Type} : LoopsOK Tryd.prog (lpT (β := β) spec_l01Number.l0.ts) spec_l01Number.l0.c 1 := LoopsOK_T trivial
noncomputable def spec_l01Number.l0.hd : SPat := { heap := [], rows := [], tmps := [.val (.dat true .str)] ++ (jk 3) ++ [.val (.dat true (.int .i64)), .val (.dat true (.int .i64))] ++ (jk 43) }
noncomputable def spec_l01Number.l0.xs : Exits := [(.ret, { heap := [], rows := [], tmps := [.u .junk, .u .junk, .val (.dat true (.int .i64)), .val (.dat true .bool)] ++ (jk 45) }), (.exit 0, { heap := [], rows := [], tmps := (jk 4) ++ [.val (.dat true (.int .i64))] ++ (jk 44) })]
noncomputable def spec_l01Number.l0.T : LoopT := ⟨0, spec_l01Number.l0.hd, spec_l01Number.l0.xs, spec_l01Number.l0 fuel⟩
theorem spec_l01Number.l0.step : StepB ty spec_l01Number.es spec_l01Number.l0.ts spec_l01Number.l0.c 1 spec_l01Number.l0.hd spec_l01Number.l0.xs spec_l01Number.l0 := by intro n d; kernel_rfl
theorem spec_l01Number.l0.zero : @Zero spec_l01Number.l0.hd.D (ExD spec_l01Number.l0.xs) spec_l01Number.l0 := fun _ => rfl
theorem spec_l01Number.l0.ok {β : Type} : Sound Tryd.prog (.loop spec_l01Number.l0.c) (lpE (β := β) spec_l01Number.l0.hd spec_l01Number.l0.xs (spec_l01Number.l0 fuel)) := Sound.lp base spec_l01Number.l0.lok (by kernel_rfl) spec_l01Number.l0.zero spec_l01Number.l0.step fuel
noncomputable def spec_l01Number.ts : List LoopT := [spec_l01Number.l0.T]
theorem spec_l01Number.lok {β : Type} : LoopsOK Tryd.prog (lpT (β := β) spec_l01Number.ts) spec_l01Number.code 0 := LoopsOK_T ⟨spec_l01Number.l0.ok, trivial⟩
theorem spec_l01Number.eq : EqB ty spec_l01Number.es spec_l01Number.ts Tryd.f35 none [false] (.cons .str .nil) (.vals (.cons (.int .i64) (.cons .bool .nil))) true spec_l01Number := by intro rd d; kernel_rfl
theorem spec_l01Number.sound : FSound Tryd.prog 35 none [false] (.cons .str .nil) (.vals (.cons (.int .i64) (.cons .bool .nil))) true spec_l01Number := FSound.mk base spec_l01Number.fn spec_l01Number.lok spec_l01Number.eq
noncomputable def spec_l01Number.ent : Ent Tryd.prog := Ent.con 35 none [false] (.cons .str .nil) (.vals (.cons (.int .i64) (.cons .bool .nil))) true spec_l01Number spec_l01Number.sound
def spec_l00In (rd : Unit) (d : (Int × Int × Int × Unit)) : Option (Unit × (Bool × Unit)) :=
  bif decide (d.1 ≥ d.2.1) then
    some ((), (decide (d.1 ≤ d.2.2.1), ()))
  else
    some ((), (false, ()))
noncomputable def spec_l00In.code : Code := Tryd.f40.body.getD .skip
theorem spec_l00In.fn : Fun Tryd.prog 40 Tryd.f40 spec_l00In.code := ⟨by kernel_rfl, by kernel_rfl, by kernel_rfl⟩
noncomputable def spec_l00In.es : List (Ent Tryd.prog) := []
noncomputable def spec_l00In.ts : List LoopT := []
theorem spec_l00In.lok {β : Type} : LoopsOK Tryd.prog (lpT (β := β) spec_l00In.ts) spec_l00In.code 0 := LoopsOK_T trivial
theorem spec_l00In.eq : EqB ty spec_l00In.es spec_l00In.ts Tryd.f40 none [false, false, false] (.cons (.int .i64) (.cons (.int .i64) (.cons (.int .i64) .nil))) (.vals (.cons .bool .nil)) true spec_l00In := by intro rd d; kernel_rfl
theorem spec_l00In.sound : FSound Tryd.prog 40 none [false, false, false] (.cons (.int .i64) (.cons (.int .i64) (.cons (.int .i64) .nil))) (.vals (.cons .bool .nil)) true spec_l00In := FSound.mk base spec_l00In.fn spec_l00In.lok spec_l00In.eq
noncomputable def spec_l00In.ent : Ent Tryd.prog := Ent.con 40 none [false, false, false] (.cons (.int .i64) (.cons (.int .i64) (.cons (.int .i64) .nil))) (.vals (.cons .bool .nil)) true spec_l00In spec_l00In.sound
def spec_l06Act (rd : Unit) (d : ((Int × Int × Int × Unit) × Unit)) : Option (Unit × (Bool × Unit)) :=
  (spec_l00In () (d.1.1, (1 : Int), (9 : Int), ())).bind fun r1 =>
  bif r1.2.1 then
    (spec_l00In () (d.1.2.1, (0 : Int), (999 : Int), ())).bind fun r2 =>
    bif r2.2.1 then
      (spec_l00In () (d.1.2.2.1, (0 : Int), (999 : Int), ())).bind fun r3 =>
      bif r3.2.1 then
        bif (d.1.2.2.1 == (0 : Int)) then
          some ((), (true, ()))
        else
          (spec_l06Two () (d.1.1, ())).bind fun r4 =>
          some ((), (r4.2.1, ()))
      else
        some ((), (false, ()))
    else
      some ((), (false, ()))
  else
    some ((), (false, ()))
noncomputable def spec_l06Act.code : Code := Tryd.f36.body.getD .skip
theorem spec_l06Act.fn : Fun Tryd.prog 36 Tryd.f36 spec_l06Act.code := ⟨by kernel_rfl, by kernel_rfl, by kernel_rfl⟩
noncomputable def spec_l06Act.es : List (Ent Tryd.prog) := [spec_l06Two.ent, spec_l00In.ent]
noncomputable def spec_l06Act.ts : List LoopT := []
theorem spec_l06Act.lok {β : Type} : LoopsOK Tryd.prog (lpT (β := β) spec_l06Act.ts) spec_l06Act.code 0 := LoopsOK_T trivial
theorem spec_l06Act.eq : EqB ty spec_l06Act.es spec_l06Act.ts Tryd.f36 none [true] (.cons (.st (.cons (.int .i64) (.cons (.int .i64) (.cons (.int .i64) .nil)))) .nil) (.vals (.cons .bool .nil)) true spec_l06Act := by intro rd d; kernel_rfl
theorem spec_l06Act.sound : FSound Tryd.prog 36 none [true] (.cons (.st (.cons (.int .i64) (.cons (.int .i64) (.cons (.int .i64) .nil)))) .nil) (.vals (.cons .bool .nil)) true spec_l06Act := FSound.mk base spec_l06Act.fn spec_l06Act.lok spec_l06Act.eq
noncomputable def spec_l06Act.ent : Ent Tryd.prog := Ent.con 36 none [true] (.cons (.st (.cons (.int .i64) (.cons (.int .i64) (.cons (.int .i64) .nil)))) .nil) (.vals (.cons .bool .nil)) true spec_l06Act spec_l06Act.sound
def spec_l06ReadAct.l0.st (g : (((Unit) × (Unit)) × (((Int × Int × Int × Unit) × Unit) × ((List (List UInt8)) × (List (List UInt8)) × Int × Unit))) → Option ((((Unit) × (Unit)) × (((Int × Int × Int × Unit) × Unit) × (Bool × Unit))) ⊕ (((Unit) × (Unit)) × (((Int × Int × Int × Unit) × Unit) × (Unit))))) (d : (((Unit) × (Unit)) × (((Int × Int × Int × Unit) × Unit) × ((List (List UInt8)) × (List (List UInt8)) × Int × Unit)))) : Option ((((Unit) × (Unit)) × (((Int × Int × Int × Unit) × Unit) × (Bool × Unit))) ⊕ (((Unit) × (Unit)) × (((Int × Int × Int × Unit) × Unit) × (Unit)))) :=
  bif decide (d.2.2.2.2.1 ≤ (9 : Int)) then
    bif decide ((0 : Int) < (d.2.2.1.length : Int)) then
      bif (decide ((0 : Int) ≤ d.2.2.2.2.1) && decide (d.2.2.2.2.1 < (d.2.2.2.1.length : Int))) then
        let x3 : Bool := ((d.2.2.1.getD 0 ([] : List UInt8)) != (d.2.2.2.1.getD d.2.2.2.2.1.toNat ([] : List UInt8)))
        bif x3 then
          (g (((), ()), ((d.2.1.1, ()), (d.2.2.1, d.2.2.2.1, (IntKind.i64.wrap (d.2.2.2.2.1 + (1 : Int))), ())))).bind some
        else
          (spec_l06Two () (d.2.2.2.2.1, ())).bind fun r4 =>
          bif r4.2.1 then
            bif ((d.2.2.1.length : Int) != (3 : Int)) then
              some (.inl (((), ()), ((((0 : Int), (0 : Int), (0 : Int), ()), ()), (false, ()))))
            else
              bif decide ((1 : Int) < (d.2.2.1.length : Int)) then
                (spec_l01Number () ((d.2.2.1.getD 1 ([] : List UInt8)), ())).bind fun r5 =>
                bif decide ((2 : Int) < (d.2.2.1.length : Int)) then
                  (spec_l01Number () ((d.2.2.1.getD 2 ([] : List UInt8)), ())).bind fun r6 =>
                  bif r5.2.2.1 then
                    bif r6.2.2.1 then
                      (spec_l06Act () ((d.2.2.2.2.1, r5.2.1, r6.2.1, ()), ())).bind fun r7 =>
                      some (.inl (((), ()), (((d.2.2.2.2.1, r5.2.1, r6.2.1, ()), ()), (r7.2.1, ()))))
                    else
                      some (.inl (((), ()), (((d.2.2.2.2.1, r5.2.1, r6.2.1, ()), ()), (false, ()))))
                  else
                    some (.inl (((), ()), (((d.2.2.2.2.1, r5.2.1, r6.2.1, ()), ()), (false, ()))))
                else
                  none
              else
                none
          else
            bif ((d.2.2.1.length : Int) != (2 : Int)) then
              some (.inl (((), ()), ((((0 : Int), (0 : Int), (0 : Int), ()), ()), (false, ()))))
            else
              bif decide ((1 : Int) < (d.2.2.1.length : Int)) then
                (spec_l01Number () ((d.2.2.1.getD 1 ([] : List UInt8)), ())).bind fun r8 =>
                bif r8.2.2.1 then
                  (spec_l06Act () ((d.2.2.2.2.1, r8.2.1, (0 : Int), ()), ())).bind fun r9 =>
                  some (.inl (((), ()), (((d.2.2.2.2.1, r8.2.1, (0 : Int), ()), ()), (r9.2.1, ()))))
                else
                  some (.inl (((), ()), (((d.2.2.2.2.1, r8.2.1, (0 : Int), ()), ()), (false, ()))))
              else
                none
      else
        none
    else
      none
  else
    some (.inr (((), ()), ((d.2.1.1, ()), ())))
def spec_l06ReadAct.l0 : Nat → (((Unit) × (Unit)) × (((Int × Int × Int × Unit) × Unit) × ((List (List UInt8)) × (List (List UInt8)) × Int × Unit))) → Option ((((Unit) × (Unit)) × (((Int × Int × Int × Unit) × Unit) × (Bool × Unit))) ⊕ (((Unit) × (Unit)) × (((Int × Int × Int × Unit) × Unit) × (Unit))))
  | 0, _ => none
  | n + 1, d => spec_l06ReadAct.l0.st (spec_l06ReadAct.l0 n) d
def spec_l06ReadAct (rd : Unit) (d : (List UInt8 × Unit)) : Option (Unit × ((Int × Int × Int × Unit) × Bool × Unit)) :=
  (spec_l01Split () (d.1, (32 : Int), ())).bind fun r1 =>
  (spec_l06Words () (())).bind fun r2 =>
  (spec_l06ReadAct.l0 fuel (((), ()), ((((0 : Int), (0 : Int), (0 : Int), ()), ()), (r1.2.1, r2.2.1, (1 : Int), ())))).bind fun y10 =>
  Sum.elim
    (fun z11 =>
      some ((), (z11.2.1.1, z11.2.2.1, ())))
    (fun z12 =>
      some ((), (((0 : Int), (0 : Int), (0 : Int), ()), false, ()))) y10
noncomputable def spec_l06ReadAct.code : Code := Tryd.f13.body.getD .skip
theorem spec_l06ReadAct.fn : Fun Tryd.prog 13 Tryd.f13 spec_l06ReadAct.code := ⟨by kernel_rfl, by kernel_rfl, by kernel_rfl⟩
noncomputable def spec_l06ReadAct.es : List (Ent Tryd.prog) := [spec_l01Split.ent, spec_l06Words.ent, spec_l06Two.ent, spec_l01Number.ent, spec_l06Act.ent]
noncomputable def spec_l06ReadAct.l0.c : Code := loopAt spec_l06ReadAct.code 0
noncomputable def spec_l06ReadAct.l0.ts : List LoopT := []
theorem spec_l06ReadAct.l0.lok {β : Type} : LoopsOK Tryd.prog (lpT (β := β) spec_l06ReadAct.l0.ts) spec_l06ReadAct.l0.c 1 := LoopsOK_T trivial
noncomputable def spec_l06ReadAct.l0.hd : SPat := { heap := [.box (.dat true (.st (.cons (.int .i64) (.cons (.int .i64) (.cons (.int .i64) .nil)))))], rows := [], tmps := [.u .junk, .u .junk, .u (.ref 0 [] (.st (.cons (.int .i64) (.cons (.int .i64) (.cons (.int .i64) .nil))))), .u .junk, .val (.dat true (.sl .str)), .val (.dat true (.sl .str)), .val (.dat true (.int .i64))] ++ (jk 60) }
noncomputable def spec_l06ReadAct.l0.xs : Exits := [(.ret, { heap := [.box (.dat true (.st (.cons (.int .i64) (.cons (.int .i64) (.cons (.int .i64) .nil)))))], rows := [], tmps := [.u .junk, .u .junk, .u (.ref 0 [] (.st (.cons (.int .i64) (.cons (.int .i64) (.cons (.int .i64) .nil))))), .val (.dat true .bool)] ++ (jk 63) }), (.exit 0, { heap := [.box (.dat true (.st (.cons (.int .i64) (.cons (.int .i64) (.cons (.int .i64) .nil)))))], rows := [], tmps := [.u .junk, .u .junk, .u (.ref 0 [] (.st (.cons (.int .i64) (.cons (.int .i64) (.cons (.int .i64) .nil)))))] ++ (jk 64) })]
noncomputable def spec_l06ReadAct.l0.T : LoopT := ⟨0, spec_l06ReadAct.l0.hd, spec_l06ReadAct.l0.xs, spec_l06ReadAct.l0 fuel⟩
theorem spec_l06ReadAct.l0.step : StepB ty spec_l06ReadAct.es spec_l06ReadAct.l0.ts spec_l06ReadAct.l0.c 1 spec_l06ReadAct.l0.hd spec_l06ReadAct.l0.xs spec_l06ReadAct.l0 := by intro n d; kernel_rfl
theorem spec_l06ReadAct.l0.zero : @Zero spec_l06ReadAct.l0.hd.D (ExD spec_l06ReadAct.l0.xs) spec_l06ReadAct.l0 := fun _ => rfl
theorem spec_l06ReadAct.l0.ok {β : Type} : Sound Tryd.prog (.loop spec_l06ReadAct.l0.c) (lpE (β := β) spec_l06ReadAct.l0.hd spec_l06ReadAct.l0.xs (spec_l06ReadAct.l0 fuel)) := Sound.lp base spec_l06ReadAct.l0.lok (by kernel_rfl) spec_l06ReadAct.l0.zero spec_l06ReadAct.l0.step fuel
noncomputable def spec_l06ReadAct.ts : List LoopT := [spec_l06ReadAct.l0.T]
theorem spec_l06ReadAct.lok {β : Type} : LoopsOK Tryd.prog (lpT (β := β) spec_l06ReadAct.ts) spec_l06ReadAct.code 0 := LoopsOK_T ⟨spec_l06ReadAct.l0.ok, trivial⟩
theorem spec_l06ReadAct.eq : EqB ty spec_l06ReadAct.es spec_l06ReadAct.ts Tryd.f13 none [false] (.cons .str .nil) (.vals (.cons (.st (.cons (.int .i64) (.cons (.int .i64) (.cons (.int .i64) .nil)))) (.cons .bool .nil))) true spec_l06ReadAct := by intro rd d; kernel_rfl
theorem spec_l06ReadAct.sound : FSound Tryd.prog 13 none [false] (.cons .str .nil) (.vals (.cons (.st (.cons (.int .i64) (.cons (.int .i64) (.cons (.int .i64) .nil)))) (.cons .bool .nil))) true spec_l06ReadAct := FSound.mk base spec_l06ReadAct.fn spec_l06ReadAct.lok spec_l06ReadAct.eq
noncomputable def spec_l06ReadAct.ent : Ent Tryd.prog := Ent.con 13 none [false] (.cons .str .nil) (.vals (.cons (.st (.cons (.int .i64) (.cons (.int .i64) (.cons (.int .i64) .nil)))) (.cons .bool .nil))) true spec_l06ReadAct spec_l06ReadAct.sound
def spec_ReadAct (rd : Unit) (d : (List UInt8 × Unit)) : Option (Unit × ((Int × Int × Int × Unit) × Int × Unit)) :=
  (spec_l06ReadAct () (d.1, ())).bind fun r1 =>
  bif (!r1.2.2.1) then
    some ((), (((0 : Int), (0 : Int), (0 : Int), ()), (5 : Int), ()))
  else
    some ((), (r1.2.1, (0 : Int), ()))
noncomputable def spec_ReadAct.code : Code := Tryd.f5.body.getD .skip
theorem spec_ReadAct.fn : Fun Tryd.prog 5 Tryd.f5 spec_ReadAct.code := ⟨by kernel_rfl, by kernel_rfl, by kernel_rfl⟩
noncomputable def spec_ReadAct.es : List (Ent Tryd.prog) := [spec_l06ReadAct.ent]
noncomputable def spec_ReadAct.ts : List LoopT := []
theorem spec_ReadAct.lok {β : Type} : LoopsOK Tryd.prog (lpT (β := β) spec_ReadAct.ts) spec_ReadAct.code 0 := LoopsOK_T trivial
theorem spec_ReadAct.eq : EqB ty spec_ReadAct.es spec_ReadAct.ts Tryd.f5 none [false] (.cons .str .nil) (.vals (.cons (.st (.cons (.int .i64) (.cons (.int .i64) (.cons (.int .i64) .nil)))) (.cons (.int .i64) .nil))) true spec_ReadAct := by intro rd d; kernel_rfl
theorem spec_ReadAct.sound : FSound Tryd.prog 5 none [false] (.cons .str .nil) (.vals (.cons (.st (.cons (.int .i64) (.cons (.int .i64) (.cons (.int .i64) .nil)))) (.cons (.int .i64) .nil))) true spec_ReadAct := FSound.mk base spec_ReadAct.fn spec_ReadAct.lok spec_ReadAct.eq
noncomputable def spec_ReadAct.ent : Ent Tryd.prog := Ent.con 5 none [false] (.cons .str .nil) (.vals (.cons (.st (.cons (.int .i64) (.cons (.int .i64) (.cons (.int .i64) .nil)))) (.cons (.int .i64) .nil))) true spec_ReadAct spec_ReadAct.sound
def impl_split (rd : Unit) (d : (List UInt8 × Unit)) : Option (Unit × (List (List UInt8) × Bool × Unit)) :=
  (lib_Split () (d.1, ([32] : List UInt8), ())).bind fun r1 =>
  some ((), (r1.2.1, false, ()))
noncomputable def impl_split.code : Code := Tryd.f14.body.getD .skip
theorem impl_split.fn : Fun Tryd.prog 14 Tryd.f14 impl_split.code := ⟨by kernel_rfl, by kernel_rfl, by kernel_rfl⟩
noncomputable def impl_split.es : List (Ent Tryd.prog) := [lib_Split.ent]
noncomputable def impl_split.ts : List LoopT := []
theorem impl_split.lok {β : Type} : LoopsOK Tryd.prog (lpT (β := β) impl_split.ts) impl_split.code 0 := LoopsOK_T trivial
theorem impl_split.eq : EqB ty impl_split.es impl_split.ts Tryd.f14 none [false] (.cons .str .nil) (.new (.st (.cons (.sl .str) (.cons .bool .nil)))) true impl_split := by intro rd d; kernel_rfl
theorem impl_split.sound : FSound Tryd.prog 14 none [false] (.cons .str .nil) (.new (.st (.cons (.sl .str) (.cons .bool .nil)))) true impl_split := FSound.mk base impl_split.fn impl_split.lok impl_split.eq
noncomputable def impl_split.ent : Ent Tryd.prog := Ent.con 14 none [false] (.cons .str .nil) (.new (.st (.cons (.sl .str) (.cons .bool .nil)))) true impl_split impl_split.sound
def impl_actWords (rd : Unit) (d : (Unit)) : Option (Unit × (List (List UInt8) × Unit)) :=
  some ((), (((([([] : List UInt8), ([108, 111, 97, 100] : List UInt8), ([107, 105, 110, 100, 108, 101] : List UInt8), ([114, 97, 107, 101] : List UInt8), ([99, 108, 101, 97, 110] : List UInt8), ([112, 97, 110, 101] : List UInt8), ([98, 114, 97, 105, 110] : List UInt8), ([109, 117, 116, 101] : List UInt8), ([100, 97, 109, 112, 101, 114] : List UInt8), ([119, 97, 105, 116] : List UInt8)] : List (List UInt8)).drop 0).take 10), ()))
noncomputable def impl_actWords.code : Code := Tryd.f16.body.getD .skip
theorem impl_actWords.fn : Fun Tryd.prog 16 Tryd.f16 impl_actWords.code := ⟨by kernel_rfl, by kernel_rfl, by kernel_rfl⟩
noncomputable def impl_actWords.es : List (Ent Tryd.prog) := []
noncomputable def impl_actWords.ts : List LoopT := []
theorem impl_actWords.lok {β : Type} : LoopsOK Tryd.prog (lpT (β := β) impl_actWords.ts) impl_actWords.code 0 := LoopsOK_T trivial
theorem impl_actWords.eq : EqB ty impl_actWords.es impl_actWords.ts Tryd.f16 none [] .nil (.vals (.cons (.sl .str) .nil)) true impl_actWords := by intro rd d; kernel_rfl
theorem impl_actWords.sound : FSound Tryd.prog 16 none [] .nil (.vals (.cons (.sl .str) .nil)) true impl_actWords := FSound.mk base impl_actWords.fn impl_actWords.lok impl_actWords.eq
noncomputable def impl_actWords.ent : Ent Tryd.prog := Ent.con 16 none [] .nil (.vals (.cons (.sl .str) .nil)) true impl_actWords impl_actWords.sound
def impl_words_next (rd : (List (List UInt8) × Bool × Unit)) (d : (Unit)) : Option ((List (List UInt8) × Bool × Unit) × (List UInt8 × Unit)) :=
  bif ((rd.1.length : Int) == (0 : Int)) then
    some ((rd.1, true, ()), (([] : List UInt8), ()))
  else
    bif decide ((0 : Int) < (rd.1.length : Int)) then
      bif (decide ((1 : Int) ≤ (rd.1.length : Int)) && decide ((rd.1.length : Int) ≤ (rd.1.length : Int))) then
        some ((((rd.1.drop 1).take (((rd.1.length : Int)).toNat - 1)), rd.2.1, ()), ((rd.1.getD 0 ([] : List UInt8)), ()))
      else
        none
    else
      none
noncomputable def impl_words_next.code : Code := Tryd.f17.body.getD .skip
theorem impl_words_next.fn : Fun Tryd.prog 17 Tryd.f17 impl_words_next.code := ⟨by kernel_rfl, by kernel_rfl, by kernel_rfl⟩
noncomputable def impl_words_next.es : List (Ent Tryd.prog) := []
noncomputable def impl_words_next.ts : List LoopT := []
theorem impl_words_next.lok {β : Type} : LoopsOK Tryd.prog (lpT (β := β) impl_words_next.ts) impl_words_next.code 0 := LoopsOK_T trivial
theorem impl_words_next.eq : EqB ty impl_words_next.es impl_words_next.ts Tryd.f17 (some (.st (.cons (.sl .str) (.cons .bool .nil)))) [] .nil (.vals (.cons .str .nil)) true impl_words_next := by intro rd d; kernel_rfl
theorem impl_words_next.sound : FSound Tryd.prog 17 (some (.st (.cons (.sl .str) (.cons .bool .nil)))) [] .nil (.vals (.cons .str .nil)) true impl_words_next := FSound.mk base impl_words_next.fn impl_words_next.lok impl_words_next.eq
noncomputable def impl_words_next.ent : Ent Tryd.prog := Ent.con 17 (some (.st (.cons (.sl .str) (.cons .bool .nil)))) [] .nil (.vals (.cons .str .nil)) true impl_words_next impl_words_next.sound
def slices_Index_s_string_string.l0.st (g : (((Unit) × (Unit)) × ((Unit) × ((List (List UInt8)) × (List UInt8) × Int × Int × Unit))) → Option ((((Unit) × (Unit)) × ((Unit) × (Int × Unit))) ⊕ (((Unit) × (Unit)) × ((Unit) × (Unit))))) (d : (((Unit) × (Unit)) × ((Unit) × ((List (List UInt8)) × (List UInt8) × Int × Int × Unit)))) : Option ((((Unit) × (Unit)) × ((Unit) × (Int × Unit))) ⊕ (((Unit) × (Unit)) × ((Unit) × (Unit)))) :=
  bif decide (d.2.2.2.2.2.1 < d.2.2.2.2.1) then
    bif (decide ((0 : Int) ≤ d.2.2.2.2.2.1) && decide (d.2.2.2.2.2.1 < (d.2.2.1.length : Int))) then
      let x1 : Bool := (d.2.2.2.1 == (d.2.2.1.getD d.2.2.2.2.2.1.toNat ([] : List UInt8)))
      bif x1 then
        some (.inl (((), ()), ((), (d.2.2.2.2.2.1, ()))))
      else
        (g (((), ()), ((), (d.2.2.1, d.2.2.2.1, d.2.2.2.2.1, (IntKind.i64.wrap (d.2.2.2.2.2.1 + (1 : Int))), ())))).bind some
    else
      none
  else
    some (.inr (((), ()), ((), ())))
def slices_Index_s_string_string.l0 : Nat → (((Unit) × (Unit)) × ((Unit) × ((List (List UInt8)) × (List UInt8) × Int × Int × Unit))) → Option ((((Unit) × (Unit)) × ((Unit) × (Int × Unit))) ⊕ (((Unit) × (Unit)) × ((Unit) × (Unit))))
  | 0, _ => none
  | n + 1, d => slices_Index_s_string_string.l0.st (slices_Index_s_string_string.l0 n) d
def slices_Index_s_string_string (rd : Unit) (d : (List (List UInt8) × List UInt8 × Unit)) : Option (Unit × (Int × Unit)) :=
  (slices_Index_s_string_string.l0 fuel (((), ()), ((), (d.1, d.2.1, (d.1.length : Int), (0 : Int), ())))).bind fun y2 =>
  Sum.elim
    (fun z3 =>
      some ((), (z3.2.2.1, ())))
    (fun z4 =>
      some ((), ((-1 : Int), ()))) y2
noncomputable def slices_Index_s_string_string.code : Code := Tryd.f15.body.getD .skip
theorem slices_Index_s_string_string.fn : Fun Tryd.prog 15 Tryd.f15 slices_Index_s_string_string.code := ⟨by kernel_rfl, by kernel_rfl, by kernel_rfl⟩
noncomputable def slices_Index_s_string_string.es : List (Ent Tryd.prog) := []
noncomputable def slices_Index_s_string_string.l0.c : Code := loopAt slices_Index_s_string_string.code 0
noncomputable def slices_Index_s_string_string.l0.ts : List LoopT := []
theorem slices_Index_s_string_string.l0.lok {β : Type} : LoopsOK Tryd.prog (lpT (β := β) slices_Index_s_string_string.l0.ts) slices_Index_s_string_string.l0.c 1 := LoopsOK_T trivial
noncomputable def slices_Index_s_string_string.l0.hd : SPat := { heap := [], rows := [], tmps := [.val (.dat false (.sl .str)), .val (.dat true .str)] ++ (jk 5) ++ [.val (.dat true (.int .i64)), .val (.dat true (.int .i64))] ++ (jk 10) }
noncomputable def slices_Index_s_string_string.l0.xs : Exits := [(.ret, { heap := [], rows := [], tmps := (jk 4) ++ [.val (.dat true (.int .i64))] ++ (jk 14) }), (.exit 0, { heap := [], rows := [], tmps := (jk 19) })]
noncomputable def slices_Index_s_string_string.l0.T : LoopT := ⟨0, slices_Index_s_string_string.l0.hd, slices_Index_s_string_string.l0.xs, slices_Index_s_string_string.l0 fuel⟩
theorem slices_Index_s_string_string.l0.step : StepB ty slices_Index_s_string_string.es slices_Index_s_string_string.l0.ts slices_Index_s_string_string.l0.c 1 slices_Index_s_string_string.l0.hd slices_Index_s_string_string.l0.xs slices_Index_s_string_string.l0 := by intro n d; kernel_rfl
theorem slices_Index_s_string_string.l0.zero : @Zero slices_Index_s_string_string.l0.hd.D (ExD slices_Index_s_string_string.l0.xs) slices_Index_s_string_string.l0 := fun _ => rfl
theorem slices_Index_s_string_string.l0.ok {β : Type} : Sound Tryd.prog (.loop slices_Index_s_string_string.l0.c) (lpE (β := β) slices_Index_s_string_string.l0.hd slices_Index_s_string_string.l0.xs (slices_Index_s_string_string.l0 fuel)) := Sound.lp base slices_Index_s_string_string.l0.lok (by kernel_rfl) slices_Index_s_string_string.l0.zero slices_Index_s_string_string.l0.step fuel
noncomputable def slices_Index_s_string_string.ts : List LoopT := [slices_Index_s_string_string.l0.T]
theorem slices_Index_s_string_string.lok {β : Type} : LoopsOK Tryd.prog (lpT (β := β) slices_Index_s_string_string.ts) slices_Index_s_string_string.code 0 := LoopsOK_T ⟨slices_Index_s_string_string.l0.ok, trivial⟩
theorem slices_Index_s_string_string.eq : EqB ty slices_Index_s_string_string.es slices_Index_s_string_string.ts Tryd.f15 none [false, false] (.cons (.sl .str) (.cons .str .nil)) (.vals (.cons (.int .i64) .nil)) true slices_Index_s_string_string := by intro rd d; kernel_rfl
theorem slices_Index_s_string_string.sound : FSound Tryd.prog 15 none [false, false] (.cons (.sl .str) (.cons .str .nil)) (.vals (.cons (.int .i64) .nil)) true slices_Index_s_string_string := FSound.mk base slices_Index_s_string_string.fn slices_Index_s_string_string.lok slices_Index_s_string_string.eq
noncomputable def slices_Index_s_string_string.ent : Ent Tryd.prog := Ent.con 15 none [false, false] (.cons (.sl .str) (.cons .str .nil)) (.vals (.cons (.int .i64) .nil)) true slices_Index_s_string_string slices_Index_s_string_string.sound
def impl_words_integer (rd : (List (List UInt8) × Bool × Unit)) (d : (Unit)) : Option ((List (List UInt8) × Bool × Unit) × (Int × Unit)) :=
  (impl_words_next rd (())).bind fun r1 =>
  (lib_ParseInt () (r1.2.1, (10 : Int), (64 : Int), ())).bind fun r2 =>
  bif r1.1.2.1 then
    some ((r1.1.1, true, ()), (r2.2.1, ()))
  else
    some ((r1.1.1, r2.2.2.1, ()), (r2.2.1, ()))
noncomputable def impl_words_integer.code : Code := Tryd.f18.body.getD .skip
theorem impl_words_integer.fn : Fun Tryd.prog 18 Tryd.f18 impl_words_integer.code := ⟨by kernel_rfl, by kernel_rfl, by kernel_rfl⟩
noncomputable def impl_words_integer.es : List (Ent Tryd.prog) := [impl_words_next.ent, lib_ParseInt.ent]
noncomputable def impl_words_integer.ts : List LoopT := []
theorem impl_words_integer.lok {β : Type} : LoopsOK Tryd.prog (lpT (β := β) impl_words_integer.ts) impl_words_integer.code 0 := LoopsOK_T trivial
theorem impl_words_integer.eq : EqB ty impl_words_integer.es impl_words_integer.ts Tryd.f18 (some (.st (.cons (.sl .str) (.cons .bool .nil)))) [] .nil (.vals (.cons (.int .i64) .nil)) true impl_words_integer := by intro rd d; kernel_rfl
theorem impl_words_integer.sound : FSound Tryd.prog 18 (some (.st (.cons (.sl .str) (.cons .bool .nil)))) [] .nil (.vals (.cons (.int .i64) .nil)) true impl_words_integer := FSound.mk base impl_words_integer.fn impl_words_integer.lok impl_words_integer.eq
noncomputable def impl_words_integer.ent : Ent Tryd.prog := Ent.con 18 (some (.st (.cons (.sl .str) (.cons .bool .nil)))) [] .nil (.vals (.cons (.int .i64) .nil)) true impl_words_integer impl_words_integer.sound
def impl_hasB (rd : Unit) (d : (Int × Unit)) : Option (Unit × (Bool × Unit)) :=
  bif (d.1 == (1 : Int)) then
    some ((), (true, ()))
  else
    bif (d.1 == (5 : Int)) then
      some ((), (true, ()))
    else
      bif (d.1 == (6 : Int)) then
        some ((), (true, ()))
      else
        some ((), ((d.1 == (8 : Int)), ()))
noncomputable def impl_hasB.code : Code := Tryd.f19.body.getD .skip
theorem impl_hasB.fn : Fun Tryd.prog 19 Tryd.f19 impl_hasB.code := ⟨by kernel_rfl, by kernel_rfl, by kernel_rfl⟩
noncomputable def impl_hasB.es : List (Ent Tryd.prog) := []
noncomputable def impl_hasB.ts : List LoopT := []
theorem impl_hasB.lok {β : Type} : LoopsOK Tryd.prog (lpT (β := β) impl_hasB.ts) impl_hasB.code 0 := LoopsOK_T trivial
theorem impl_hasB.eq : EqB ty impl_hasB.es impl_hasB.ts Tryd.f19 none [false] (.cons (.int .i64) .nil) (.vals (.cons .bool .nil)) true impl_hasB := by intro rd d; kernel_rfl
theorem impl_hasB.sound : FSound Tryd.prog 19 none [false] (.cons (.int .i64) .nil) (.vals (.cons .bool .nil)) true impl_hasB := FSound.mk base impl_hasB.fn impl_hasB.lok impl_hasB.eq
noncomputable def impl_hasB.ent : Ent Tryd.prog := Ent.con 19 none [false] (.cons (.int .i64) .nil) (.vals (.cons .bool .nil)) true impl_hasB impl_hasB.sound
def impl_words_done (rd : (List (List UInt8) × Bool × Unit)) (d : (Unit)) : Option ((List (List UInt8) × Bool × Unit) × (Bool × Unit)) :=
  bif (!rd.2.1) then
    some (rd, (((rd.1.length : Int) == (0 : Int)), ()))
  else
    some (rd, (false, ()))
noncomputable def impl_words_done.code : Code := Tryd.f20.body.getD .skip
theorem impl_words_done.fn : Fun Tryd.prog 20 Tryd.f20 impl_words_done.code := ⟨by kernel_rfl, by kernel_rfl, by kernel_rfl⟩
noncomputable def impl_words_done.es : List (Ent Tryd.prog) := []
noncomputable def impl_words_done.ts : List LoopT := []
theorem impl_words_done.lok {β : Type} : LoopsOK Tryd.prog (lpT (β := β) impl_words_done.ts) impl_words_done.code 0 := LoopsOK_T trivial
theorem impl_words_done.eq : EqB ty impl_words_done.es impl_words_done.ts Tryd.f20 (some (.st (.cons (.sl .str) (.cons .bool .nil)))) [] .nil (.vals (.cons .bool .nil)) true impl_words_done := by intro rd d; kernel_rfl
theorem impl_words_done.sound : FSound Tryd.prog 20 (some (.st (.cons (.sl .str) (.cons .bool .nil)))) [] .nil (.vals (.cons .bool .nil)) true impl_words_done := FSound.mk base impl_words_done.fn impl_words_done.lok impl_words_done.eq
noncomputable def impl_words_done.ent : Ent Tryd.prog := Ent.con 20 (some (.st (.cons (.sl .str) (.cons .bool .nil)))) [] .nil (.vals (.cons .bool .nil)) true impl_words_done impl_words_done.sound
def impl_ValidAct (rd : Unit) (d : ((Int × Int × Int × Unit) × Unit)) : Option (Unit × (Bool × Unit)) :=
  bif decide (d.1.1 ≥ (1 : Int)) then
    bif decide (d.1.1 ≤ (9 : Int)) then
      bif decide (d.1.2.1 ≥ (0 : Int)) then
        bif decide (d.1.2.1 ≤ (999 : Int)) then
          bif decide (d.1.2.2.1 ≥ (0 : Int)) then
            bif decide (d.1.2.2.1 ≤ (999 : Int)) then
              (impl_hasB () (d.1.1, ())).bind fun r1 =>
              bif r1.2.1 then
                some ((), (true, ()))
              else
                some ((), ((d.1.2.2.1 == (0 : Int)), ()))
            else
              some ((), (false, ()))
          else
            some ((), (false, ()))
        else
          some ((), (false, ()))
      else
        some ((), (false, ()))
    else
      some ((), (false, ()))
  else
    some ((), (false, ()))
noncomputable def impl_ValidAct.code : Code := Tryd.f21.body.getD .skip
theorem impl_ValidAct.fn : Fun Tryd.prog 21 Tryd.f21 impl_ValidAct.code := ⟨by kernel_rfl, by kernel_rfl, by kernel_rfl⟩
noncomputable def impl_ValidAct.es : List (Ent Tryd.prog) := [impl_hasB.ent]
noncomputable def impl_ValidAct.ts : List LoopT := []
theorem impl_ValidAct.lok {β : Type} : LoopsOK Tryd.prog (lpT (β := β) impl_ValidAct.ts) impl_ValidAct.code 0 := LoopsOK_T trivial
theorem impl_ValidAct.eq : EqB ty impl_ValidAct.es impl_ValidAct.ts Tryd.f21 none [false] (.cons (.st (.cons (.int .i64) (.cons (.int .i64) (.cons (.int .i64) .nil)))) .nil) (.vals (.cons .bool .nil)) true impl_ValidAct := by intro rd d; kernel_rfl
theorem impl_ValidAct.sound : FSound Tryd.prog 21 none [false] (.cons (.st (.cons (.int .i64) (.cons (.int .i64) (.cons (.int .i64) .nil)))) .nil) (.vals (.cons .bool .nil)) true impl_ValidAct := FSound.mk base impl_ValidAct.fn impl_ValidAct.lok impl_ValidAct.eq
noncomputable def impl_ValidAct.ent : Ent Tryd.prog := Ent.con 21 none [false] (.cons (.st (.cons (.int .i64) (.cons (.int .i64) (.cons (.int .i64) .nil)))) .nil) (.vals (.cons .bool .nil)) true impl_ValidAct impl_ValidAct.sound
def impl_decimals.l0.st (g : (((Unit) × ((List (List UInt8)) × Unit)) × ((Unit) × ((List Int) × Int × Int × Unit))) → Option ((((Unit) × ((List (List UInt8)) × Unit)) × ((Unit) × (Unit))))) (d : (((Unit) × ((List (List UInt8)) × Unit)) × ((Unit) × ((List Int) × Int × Int × Unit)))) : Option ((((Unit) × ((List (List UInt8)) × Unit)) × ((Unit) × (Unit)))) :=
  bif decide (d.2.2.2.2.1 < d.2.2.2.1) then
    bif (decide ((0 : Int) ≤ d.2.2.2.2.1) && decide (d.2.2.2.2.1 < (d.2.2.1.length : Int))) then
      (lib_FormatInt () ((d.2.2.1.getD d.2.2.2.2.1.toNat (0 : Int)), (10 : Int), ())).bind fun r1 =>
      bif decide (d.1.2.1.length + ((([r1.2.1] : List (List UInt8)).drop 0).take 1).length ≤ maxRow) then
        let l2 : List (List UInt8) := (d.1.2.1.take d.1.2.1.length ++ ((([r1.2.1] : List (List UInt8)).drop 0).take 1))
        bif (decide ((d.1.2.1.length + ((([r1.2.1] : List (List UInt8)).drop 0).take 1).length) = l2.length) && true) then
          (g (((), (l2, ())), ((), (d.2.2.1, d.2.2.2.1, (IntKind.i64.wrap (d.2.2.2.2.1 + (1 : Int))), ())))).bind some
        else
          none
      else
        none
    else
      none
  else
    bif (decide (d.1.2.1.length = d.1.2.1.length) && true) then
      some (((), (d.1.2.1, ())), ((), ()))
    else
      none
def impl_decimals.l0 : Nat → (((Unit) × ((List (List UInt8)) × Unit)) × ((Unit) × ((List Int) × Int × Int × Unit))) → Option ((((Unit) × ((List (List UInt8)) × Unit)) × ((Unit) × (Unit))))
  | 0, _ => none
  | n + 1, d => impl_decimals.l0.st (impl_decimals.l0 n) d
def impl_decimals (rd : Unit) (d : (List Int × Unit)) : Option (Unit × (List UInt8 × Unit)) :=
  bif (decide (0 = ([] : List (List UInt8)).length) && true) then
    (impl_decimals.l0 fuel (((), (([] : List (List UInt8)), ())), ((), (d.1, (d.1.length : Int), (0 : Int), ())))).bind fun z4 =>
    (lib_Join () (((z4.1.2.1.drop 0).take z4.1.2.1.length), ([32] : List UInt8), ())).bind fun r5 =>
    some ((), (r5.2.1, ()))
  else
    none
noncomputable def impl_decimals.code : Code := Tryd.f39.body.getD .skip
theorem impl_decimals.fn : Fun Tryd.prog 39 Tryd.f39 impl_decimals.code := ⟨by kernel_rfl, by kernel_rfl, by kernel_rfl⟩
noncomputable def impl_decimals.es : List (Ent Tryd.prog) := [lib_FormatInt.ent, lib_Join.ent]
noncomputable def impl_decimals.l0.c : Code := loopAt impl_decimals.code 0
noncomputable def impl_decimals.l0.ts : List LoopT := []
theorem impl_decimals.l0.lok {β : Type} : LoopsOK Tryd.prog (lpT (β := β) impl_decimals.l0.ts) impl_decimals.l0.c 1 := LoopsOK_T trivial
noncomputable def impl_decimals.l0.hd : SPat := { heap := [], rows := [{ fr := true, t := .str, loc := (.tmp 3 []), cut := false }], tmps := (jk 3) ++ [.u (.own 0 .str)] ++ (jk 3) ++ [.val (.dat false (.sl (.int .i64))), .val (.dat true (.int .i64)), .val (.dat true (.int .i64))] ++ (jk 11) }
noncomputable def impl_decimals.l0.xs : Exits := [(.exit 0, { heap := [], rows := [{ fr := true, t := .str, loc := (.tmp 3 []), cut := false }], tmps := (jk 3) ++ [.u (.own 0 .str)] ++ (jk 17) })]
noncomputable def impl_decimals.l0.T : LoopT := ⟨0, impl_decimals.l0.hd, impl_decimals.l0.xs, impl_decimals.l0 fuel⟩
theorem impl_decimals.l0.step : StepB ty impl_decimals.es impl_decimals.l0.ts impl_decimals.l0.c 1 impl_decimals.l0.hd impl_decimals.l0.xs impl_decimals.l0 := by intro n d; kernel_rfl
theorem impl_decimals.l0.zero : @Zero impl_decimals.l0.hd.D (ExD impl_decimals.l0.xs) impl_decimals.l0 := fun _ => rfl
theorem impl_decimals.l0.ok {β : Type} : Sound Tryd.prog (.loop impl_decimals.l0.c) (lpE (β := β) impl_decimals.l0.hd impl_decimals.l0.xs (impl_decimals.l0 fuel)) := Sound.lp base impl_decimals.l0.lok (by kernel_rfl) impl_decimals.l0.zero impl_decimals.l0.step fuel
noncomputable def impl_decimals.ts : List LoopT := [impl_decimals.l0.T]
theorem impl_decimals.lok {β : Type} : LoopsOK Tryd.prog (lpT (β := β) impl_decimals.ts) impl_decimals.code 0 := LoopsOK_T ⟨impl_decimals.l0.ok, trivial⟩
theorem impl_decimals.eq : EqB ty impl_decimals.es impl_decimals.ts Tryd.f39 none [false] (.cons (.sl (.int .i64)) .nil) (.vals (.cons .str .nil)) true impl_decimals := by intro rd d; kernel_rfl
theorem impl_decimals.sound : FSound Tryd.prog 39 none [false] (.cons (.sl (.int .i64)) .nil) (.vals (.cons .str .nil)) true impl_decimals := FSound.mk base impl_decimals.fn impl_decimals.lok impl_decimals.eq
noncomputable def impl_decimals.ent : Ent Tryd.prog := Ent.con 39 none [false] (.cons (.sl (.int .i64)) .nil) (.vals (.cons .str .nil)) true impl_decimals impl_decimals.sound
def impl_ActText (rd : Unit) (d : ((Int × Int × Int × Unit) × Unit)) : Option (Unit × (List UInt8 × Unit)) :=
  (impl_ValidAct () (d.1, ())).bind fun r1 =>
  bif (!r1.2.1) then
    some ((), (([] : List UInt8), ()))
  else
    (impl_hasB () (d.1.1, ())).bind fun r2 =>
    bif r2.2.1 then
      (impl_actWords () (())).bind fun r3 =>
      bif (decide ((0 : Int) ≤ d.1.1) && decide (d.1.1 < (r3.2.1.length : Int))) then
        bif decide ((r3.2.1.getD d.1.1.toNat ([] : List UInt8)).length + ([32] : List UInt8).length ≤ maxStr) then
          let x4 : List UInt8 := ((r3.2.1.getD d.1.1.toNat ([] : List UInt8)) ++ ([32] : List UInt8))
          (impl_decimals () (((([d.1.2.1, d.1.2.2.1] : List Int).drop 0).take 2), ())).bind fun r5 =>
          bif decide (x4.length + r5.2.1.length ≤ maxStr) then
            some ((), ((x4 ++ r5.2.1), ()))
          else
            none
        else
          none
      else
        none
    else
      (impl_actWords () (())).bind fun r6 =>
      bif (decide ((0 : Int) ≤ d.1.1) && decide (d.1.1 < (r6.2.1.length : Int))) then
        bif decide ((r6.2.1.getD d.1.1.toNat ([] : List UInt8)).length + ([32] : List UInt8).length ≤ maxStr) then
          let x7 : List UInt8 := ((r6.2.1.getD d.1.1.toNat ([] : List UInt8)) ++ ([32] : List UInt8))
          (impl_decimals () (((([d.1.2.1] : List Int).drop 0).take 1), ())).bind fun r8 =>
          bif decide (x7.length + r8.2.1.length ≤ maxStr) then
            some ((), ((x7 ++ r8.2.1), ()))
          else
            none
        else
          none
      else
        none
noncomputable def impl_ActText.code : Code := Tryd.f22.body.getD .skip
theorem impl_ActText.fn : Fun Tryd.prog 22 Tryd.f22 impl_ActText.code := ⟨by kernel_rfl, by kernel_rfl, by kernel_rfl⟩
noncomputable def impl_ActText.es : List (Ent Tryd.prog) := [impl_actWords.ent, impl_hasB.ent, impl_ValidAct.ent, impl_decimals.ent]
noncomputable def impl_ActText.ts : List LoopT := []
theorem impl_ActText.lok {β : Type} : LoopsOK Tryd.prog (lpT (β := β) impl_ActText.ts) impl_ActText.code 0 := LoopsOK_T trivial
theorem impl_ActText.eq : EqB ty impl_ActText.es impl_ActText.ts Tryd.f22 none [false] (.cons (.st (.cons (.int .i64) (.cons (.int .i64) (.cons (.int .i64) .nil)))) .nil) (.vals (.cons .str .nil)) true impl_ActText := by intro rd d; kernel_rfl
theorem impl_ActText.sound : FSound Tryd.prog 22 none [false] (.cons (.st (.cons (.int .i64) (.cons (.int .i64) (.cons (.int .i64) .nil)))) .nil) (.vals (.cons .str .nil)) true impl_ActText := FSound.mk base impl_ActText.fn impl_ActText.lok impl_ActText.eq
noncomputable def impl_ActText.ent : Ent Tryd.prog := Ent.con 22 none [false] (.cons (.st (.cons (.int .i64) (.cons (.int .i64) (.cons (.int .i64) .nil)))) .nil) (.vals (.cons .str .nil)) true impl_ActText impl_ActText.sound
def impl_ReadAct (rd : Unit) (d : (List UInt8 × Unit)) : Option (Unit × ((Int × Int × Int × Unit) × Int × Unit)) :=
  (impl_split () (d.1, ())).bind fun r1 =>
  (impl_actWords () (())).bind fun r2 =>
  (impl_words_next r1.2 (())).bind fun r3 =>
  (slices_Index_s_string_string () (r2.2.1, r3.2.1, ())).bind fun r4 =>
  (impl_words_integer r3.1 (())).bind fun r5 =>
  (impl_hasB () (r4.2.1, ())).bind fun r6 =>
  bif r6.2.1 then
    (impl_words_integer r5.1 (())).bind fun r7 =>
    (impl_words_done r7.1 (())).bind fun r8 =>
    bif (!r8.2.1) then
      some ((), (((0 : Int), (0 : Int), (0 : Int), ()), (5 : Int), ()))
    else
      (impl_ValidAct () ((r4.2.1, r5.2.1, r7.2.1, ()), ())).bind fun r9 =>
      bif (!r9.2.1) then
        some ((), (((0 : Int), (0 : Int), (0 : Int), ()), (5 : Int), ()))
      else
        (impl_ActText () ((r4.2.1, r5.2.1, r7.2.1, ()), ())).bind fun r10 =>
        bif (r10.2.1 != d.1) then
          some ((), (((0 : Int), (0 : Int), (0 : Int), ()), (5 : Int), ()))
        else
          some ((), ((r4.2.1, r5.2.1, r7.2.1, ()), (0 : Int), ()))
  else
    (impl_words_done r5.1 (())).bind fun r11 =>
    bif (!r11.2.1) then
      some ((), (((0 : Int), (0 : Int), (0 : Int), ()), (5 : Int), ()))
    else
      (impl_ValidAct () ((r4.2.1, r5.2.1, (0 : Int), ()), ())).bind fun r12 =>
      bif (!r12.2.1) then
        some ((), (((0 : Int), (0 : Int), (0 : Int), ()), (5 : Int), ()))
      else
        (impl_ActText () ((r4.2.1, r5.2.1, (0 : Int), ()), ())).bind fun r13 =>
        bif (r13.2.1 != d.1) then
          some ((), (((0 : Int), (0 : Int), (0 : Int), ()), (5 : Int), ()))
        else
          some ((), ((r4.2.1, r5.2.1, (0 : Int), ()), (0 : Int), ()))
noncomputable def impl_ReadAct.code : Code := Tryd.f6.body.getD .skip
theorem impl_ReadAct.fn : Fun Tryd.prog 6 Tryd.f6 impl_ReadAct.code := ⟨by kernel_rfl, by kernel_rfl, by kernel_rfl⟩
noncomputable def impl_ReadAct.es : List (Ent Tryd.prog) := [impl_split.ent, slices_Index_s_string_string.ent, impl_actWords.ent, impl_words_next.ent, impl_words_integer.ent, impl_hasB.ent, impl_words_done.ent, impl_ValidAct.ent, impl_ActText.ent]
noncomputable def impl_ReadAct.ts : List LoopT := []
theorem impl_ReadAct.lok {β : Type} : LoopsOK Tryd.prog (lpT (β := β) impl_ReadAct.ts) impl_ReadAct.code 0 := LoopsOK_T trivial
theorem impl_ReadAct.eq : EqB ty impl_ReadAct.es impl_ReadAct.ts Tryd.f6 none [false] (.cons .str .nil) (.vals (.cons (.st (.cons (.int .i64) (.cons (.int .i64) (.cons (.int .i64) .nil)))) (.cons (.int .i64) .nil))) true impl_ReadAct := by intro rd d; kernel_rfl
theorem impl_ReadAct.sound : FSound Tryd.prog 6 none [false] (.cons .str .nil) (.vals (.cons (.st (.cons (.int .i64) (.cons (.int .i64) (.cons (.int .i64) .nil)))) (.cons (.int .i64) .nil))) true impl_ReadAct := FSound.mk base impl_ReadAct.fn impl_ReadAct.lok impl_ReadAct.eq
noncomputable def impl_ReadAct.ent : Ent Tryd.prog := Ent.con 6 none [false] (.cons .str .nil) (.vals (.cons (.st (.cons (.int .i64) (.cons (.int .i64) (.cons (.int .i64) .nil)))) (.cons (.int .i64) .nil))) true impl_ReadAct impl_ReadAct.sound
def laws_eqAct (rd : Unit) (d : ((Int × Int × Int × Unit) × (Int × Int × Int × Unit) × Unit)) : Option (Unit × (Bool × Unit)) :=
  bif (d.1.1 != d.2.1.1) then
    some ((), (false, ()))
  else
    bif (d.1.2.1 != d.2.1.2.1) then
      some ((), (false, ()))
    else
      bif (d.1.2.2.1 != d.2.1.2.2.1) then
        some ((), (false, ()))
      else
        some ((), (true, ()))
noncomputable def laws_eqAct.code : Code := Tryd.f7.body.getD .skip
theorem laws_eqAct.fn : Fun Tryd.prog 7 Tryd.f7 laws_eqAct.code := ⟨by kernel_rfl, by kernel_rfl, by kernel_rfl⟩
noncomputable def laws_eqAct.es : List (Ent Tryd.prog) := []
noncomputable def laws_eqAct.ts : List LoopT := []
theorem laws_eqAct.lok {β : Type} : LoopsOK Tryd.prog (lpT (β := β) laws_eqAct.ts) laws_eqAct.code 0 := LoopsOK_T trivial
theorem laws_eqAct.eq : EqB ty laws_eqAct.es laws_eqAct.ts Tryd.f7 none [false, false] (.cons (.st (.cons (.int .i64) (.cons (.int .i64) (.cons (.int .i64) .nil)))) (.cons (.st (.cons (.int .i64) (.cons (.int .i64) (.cons (.int .i64) .nil)))) .nil)) (.vals (.cons .bool .nil)) true laws_eqAct := by intro rd d; kernel_rfl
theorem laws_eqAct.sound : FSound Tryd.prog 7 none [false, false] (.cons (.st (.cons (.int .i64) (.cons (.int .i64) (.cons (.int .i64) .nil)))) (.cons (.st (.cons (.int .i64) (.cons (.int .i64) (.cons (.int .i64) .nil)))) .nil)) (.vals (.cons .bool .nil)) true laws_eqAct := FSound.mk base laws_eqAct.fn laws_eqAct.lok laws_eqAct.eq
noncomputable def laws_eqAct.ent : Ent Tryd.prog := Ent.con 7 none [false, false] (.cons (.st (.cons (.int .i64) (.cons (.int .i64) (.cons (.int .i64) .nil)))) (.cons (.st (.cons (.int .i64) (.cons (.int .i64) (.cons (.int .i64) .nil)))) .nil)) (.vals (.cons .bool .nil)) true laws_eqAct laws_eqAct.sound
def laws_FnExactReadAct (rd : Unit) (d : (List UInt8 × Unit)) : Option (Unit × (Bool × Unit)) :=
  bif decide ((d.1.length : Int) > (1048576 : Int)) then
    some ((), (true, ()))
  else
    (spec_ReadAct () (d.1, ())).bind fun r1 =>
    (impl_ReadAct () (d.1, ())).bind fun r2 =>
    (laws_eqAct () (r2.2.1, r1.2.1, ())).bind fun r3 =>
    bif (!r3.2.1) then
      some ((), (false, ()))
    else
      bif (r2.2.2.1 != r1.2.2.1) then
        some ((), (false, ()))
      else
        some ((), (true, ()))
noncomputable def laws_FnExactReadAct.code : Code := Tryd.f3.body.getD .skip
theorem laws_FnExactReadAct.fn : Fun Tryd.prog 3 Tryd.f3 laws_FnExactReadAct.code := ⟨by kernel_rfl, by kernel_rfl, by kernel_rfl⟩
noncomputable def laws_FnExactReadAct.es : List (Ent Tryd.prog) := [spec_ReadAct.ent, impl_ReadAct.ent, laws_eqAct.ent]
noncomputable def laws_FnExactReadAct.ts : List LoopT := []
theorem laws_FnExactReadAct.lok {β : Type} : LoopsOK Tryd.prog (lpT (β := β) laws_FnExactReadAct.ts) laws_FnExactReadAct.code 0 := LoopsOK_T trivial
theorem laws_FnExactReadAct.eq : EqB ty laws_FnExactReadAct.es laws_FnExactReadAct.ts Tryd.f3 none [false] (.cons .str .nil) (.vals (.cons .bool .nil)) true laws_FnExactReadAct := by intro rd d; kernel_rfl
theorem laws_FnExactReadAct.sound : FSound Tryd.prog 3 none [false] (.cons .str .nil) (.vals (.cons .bool .nil)) true laws_FnExactReadAct := FSound.mk base laws_FnExactReadAct.fn laws_FnExactReadAct.lok laws_FnExactReadAct.eq
noncomputable def laws_FnExactReadAct.ent : Ent Tryd.prog := Ent.con 3 none [false] (.cons .str .nil) (.vals (.cons .bool .nil)) true laws_FnExactReadAct laws_FnExactReadAct.sound
def spec_l07Numbers.l0.st (g : (((Unit) × ((List Int) × Unit)) × ((Unit) × ((List (List UInt8)) × Int × Unit))) → Option ((((Unit) × ((List Int) × Unit)) × ((Unit) × (Bool × Unit))) ⊕ (((Unit) × ((List Int) × Unit)) × ((Unit) × (Unit))))) (d : (((Unit) × ((List Int) × Unit)) × ((Unit) × ((List (List UInt8)) × Int × Unit)))) : Option ((((Unit) × ((List Int) × Unit)) × ((Unit) × (Bool × Unit))) ⊕ (((Unit) × ((List Int) × Unit)) × ((Unit) × (Unit)))) :=
  bif decide (d.2.2.2.1 < (d.2.2.1.length : Int)) then
    bif (decide ((0 : Int) ≤ d.2.2.2.1) && decide (d.2.2.2.1 < (d.2.2.1.length : Int))) then
      (spec_l01Number () ((d.2.2.1.getD d.2.2.2.1.toNat ([] : List UInt8)), ())).bind fun r1 =>
      bif (!r1.2.2.1) then
        bif (decide (d.1.2.1.length = d.1.2.1.length) && true) then
          some (.inl (((), (d.1.2.1, ())), ((), (false, ()))))
        else
          none
      else
        bif decide (d.1.2.1.length + ((([r1.2.1] : List Int).drop 0).take 1).length ≤ maxRow) then
          let l2 : List Int := (d.1.2.1.take d.1.2.1.length ++ ((([r1.2.1] : List Int).drop 0).take 1))
          bif (decide ((d.1.2.1.length + ((([r1.2.1] : List Int).drop 0).take 1).length) = l2.length) && true) then
            (g (((), (l2, ())), ((), (d.2.2.1, (IntKind.i64.wrap (d.2.2.2.1 + (1 : Int))), ())))).bind some
          else
            none
        else
          none
    else
      none
  else
    bif (decide (d.1.2.1.length = d.1.2.1.length) && true) then
      some (.inr (((), (d.1.2.1, ())), ((), ())))
    else
      none
def spec_l07Numbers.l0 : Nat → (((Unit) × ((List Int) × Unit)) × ((Unit) × ((List (List UInt8)) × Int × Unit))) → Option ((((Unit) × ((List Int) × Unit)) × ((Unit) × (Bool × Unit))) ⊕ (((Unit) × ((List Int) × Unit)) × ((Unit) × (Unit))))
  | 0, _ => none
  | n + 1, d => spec_l07Numbers.l0.st (spec_l07Numbers.l0 n) d
def spec_l07Numbers (rd : Unit) (d : (List (List UInt8) × Unit)) : Option (Unit × (List Int × Bool × Unit)) :=
  bif (decide (0 = ([] : List Int).length) && true) then
    (spec_l07Numbers.l0 fuel (((), (([] : List Int), ())), ((), (d.1, (0 : Int), ())))).bind fun y3 =>
    Sum.elim
      (fun z4 =>
        some ((), (((z4.1.2.1.drop 0).take z4.1.2.1.length), z4.2.2.1, ())))
      (fun z5 =>
        some ((), (((z5.1.2.1.drop 0).take z5.1.2.1.length), true, ()))) y3
  else
    none
noncomputable def spec_l07Numbers.code : Code := Tryd.f24.body.getD .skip
theorem spec_l07Numbers.fn : Fun Tryd.prog 24 Tryd.f24 spec_l07Numbers.code := ⟨by kernel_rfl, by kernel_rfl, by kernel_rfl⟩
noncomputable def spec_l07Numbers.es : List (Ent Tryd.prog) := [spec_l01Number.ent]
noncomputable def spec_l07Numbers.l0.c : Code := loopAt spec_l07Numbers.code 0
noncomputable def spec_l07Numbers.l0.ts : List LoopT := []
theorem spec_l07Numbers.l0.lok {β : Type} : LoopsOK Tryd.prog (lpT (β := β) spec_l07Numbers.l0.ts) spec_l07Numbers.l0.c 1 := LoopsOK_T trivial
noncomputable def spec_l07Numbers.l0.hd : SPat := { heap := [], rows := [{ fr := true, t := (.int .i64), loc := (.tmp 4 []), cut := false }], tmps := [.val (.dat false (.sl .str))] ++ (jk 3) ++ [.u (.own 0 (.int .i64)), .val (.dat true (.int .i64))] ++ (jk 25) }
noncomputable def spec_l07Numbers.l0.xs : Exits := [(.ret, { heap := [], rows := [{ fr := true, t := (.int .i64), loc := (.tmp 2 []), cut := false }], tmps := [.u .junk, .u .junk, .u (.own 0 (.int .i64)), .val (.dat true .bool)] ++ (jk 27) }), (.exit 0, { heap := [], rows := [{ fr := true, t := (.int .i64), loc := (.tmp 4 []), cut := false }], tmps := (jk 4) ++ [.u (.own 0 (.int .i64))] ++ (jk 26) })]
noncomputable def spec_l07Numbers.l0.T : LoopT := ⟨0, spec_l07Numbers.l0.hd, spec_l07Numbers.l0.xs, spec_l07Numbers.l0 fuel⟩
theorem spec_l07Numbers.l0.step : StepB ty spec_l07Numbers.es spec_l07Numbers.l0.ts spec_l07Numbers.l0.c 1 spec_l07Numbers.l0.hd spec_l07Numbers.l0.xs spec_l07Numbers.l0 := by intro n d; kernel_rfl
theorem spec_l07Numbers.l0.zero : @Zero spec_l07Numbers.l0.hd.D (ExD spec_l07Numbers.l0.xs) spec_l07Numbers.l0 := fun _ => rfl
theorem spec_l07Numbers.l0.ok {β : Type} : Sound Tryd.prog (.loop spec_l07Numbers.l0.c) (lpE (β := β) spec_l07Numbers.l0.hd spec_l07Numbers.l0.xs (spec_l07Numbers.l0 fuel)) := Sound.lp base spec_l07Numbers.l0.lok (by kernel_rfl) spec_l07Numbers.l0.zero spec_l07Numbers.l0.step fuel
noncomputable def spec_l07Numbers.ts : List LoopT := [spec_l07Numbers.l0.T]
theorem spec_l07Numbers.lok {β : Type} : LoopsOK Tryd.prog (lpT (β := β) spec_l07Numbers.ts) spec_l07Numbers.code 0 := LoopsOK_T ⟨spec_l07Numbers.l0.ok, trivial⟩
theorem spec_l07Numbers.eq : EqB ty spec_l07Numbers.es spec_l07Numbers.ts Tryd.f24 none [false] (.cons (.sl .str) .nil) (.vals (.cons (.sl (.int .i64)) (.cons .bool .nil))) true spec_l07Numbers := by intro rd d; kernel_rfl
theorem spec_l07Numbers.sound : FSound Tryd.prog 24 none [false] (.cons (.sl .str) .nil) (.vals (.cons (.sl (.int .i64)) (.cons .bool .nil))) true spec_l07Numbers := FSound.mk base spec_l07Numbers.fn spec_l07Numbers.lok spec_l07Numbers.eq
noncomputable def spec_l07Numbers.ent : Ent Tryd.prog := Ent.con 24 none [false] (.cons (.sl .str) .nil) (.vals (.cons (.sl (.int .i64)) (.cons .bool .nil))) true spec_l07Numbers spec_l07Numbers.sound
def spec_l07Bounded.l0.st (g : (((Unit) × (Unit)) × ((Unit) × ((List Int) × Int × Int × Unit))) → Option ((((Unit) × (Unit)) × ((Unit) × (Bool × Unit))) ⊕ (((Unit) × (Unit)) × ((Unit) × (Unit))))) (d : (((Unit) × (Unit)) × ((Unit) × ((List Int) × Int × Int × Unit)))) : Option ((((Unit) × (Unit)) × ((Unit) × (Bool × Unit))) ⊕ (((Unit) × (Unit)) × ((Unit) × (Unit)))) :=
  bif decide (d.2.2.2.2.1 < (d.2.2.1.length : Int)) then
    bif (decide ((0 : Int) ≤ d.2.2.2.2.1) && decide (d.2.2.2.2.1 < (d.2.2.1.length : Int))) then
      (spec_l00In () ((d.2.2.1.getD d.2.2.2.2.1.toNat (0 : Int)), (0 : Int), d.2.2.2.1, ())).bind fun r1 =>
      bif (!r1.2.1) then
        some (.inl (((), ()), ((), (false, ()))))
      else
        (g (((), ()), ((), (d.2.2.1, d.2.2.2.1, (IntKind.i64.wrap (d.2.2.2.2.1 + (1 : Int))), ())))).bind some
    else
      none
  else
    some (.inr (((), ()), ((), ())))
def spec_l07Bounded.l0 : Nat → (((Unit) × (Unit)) × ((Unit) × ((List Int) × Int × Int × Unit))) → Option ((((Unit) × (Unit)) × ((Unit) × (Bool × Unit))) ⊕ (((Unit) × (Unit)) × ((Unit) × (Unit))))
  | 0, _ => none
  | n + 1, d => spec_l07Bounded.l0.st (spec_l07Bounded.l0 n) d
def spec_l07Bounded (rd : Unit) (d : (List Int × Int × Unit)) : Option (Unit × (Bool × Unit)) :=
  (spec_l07Bounded.l0 fuel (((), ()), ((), (d.1, d.2.1, (0 : Int), ())))).bind fun y2 =>
  Sum.elim
    (fun z3 =>
      some ((), (z3.2.2.1, ())))
    (fun z4 =>
      some ((), (true, ()))) y2
noncomputable def spec_l07Bounded.code : Code := Tryd.f41.body.getD .skip
theorem spec_l07Bounded.fn : Fun Tryd.prog 41 Tryd.f41 spec_l07Bounded.code := ⟨by kernel_rfl, by kernel_rfl, by kernel_rfl⟩
noncomputable def spec_l07Bounded.es : List (Ent Tryd.prog) := [spec_l00In.ent]
noncomputable def spec_l07Bounded.l0.c : Code := loopAt spec_l07Bounded.code 0
noncomputable def spec_l07Bounded.l0.ts : List LoopT := []
theorem spec_l07Bounded.l0.lok {β : Type} : LoopsOK Tryd.prog (lpT (β := β) spec_l07Bounded.l0.ts) spec_l07Bounded.l0.c 1 := LoopsOK_T trivial
noncomputable def spec_l07Bounded.l0.hd : SPat := { heap := [], rows := [], tmps := [.val (.dat false (.sl (.int .i64))), .val (.dat true (.int .i64))] ++ (jk 3) ++ [.val (.dat true (.int .i64))] ++ (jk 13) }
noncomputable def spec_l07Bounded.l0.xs : Exits := [(.ret, { heap := [], rows := [], tmps := (jk 4) ++ [.val (.dat true .bool)] ++ (jk 14) }), (.exit 0, { heap := [], rows := [], tmps := (jk 19) })]
noncomputable def spec_l07Bounded.l0.T : LoopT := ⟨0, spec_l07Bounded.l0.hd, spec_l07Bounded.l0.xs, spec_l07Bounded.l0 fuel⟩
theorem spec_l07Bounded.l0.step : StepB ty spec_l07Bounded.es spec_l07Bounded.l0.ts spec_l07Bounded.l0.c 1 spec_l07Bounded.l0.hd spec_l07Bounded.l0.xs spec_l07Bounded.l0 := by intro n d; kernel_rfl
theorem spec_l07Bounded.l0.zero : @Zero spec_l07Bounded.l0.hd.D (ExD spec_l07Bounded.l0.xs) spec_l07Bounded.l0 := fun _ => rfl
theorem spec_l07Bounded.l0.ok {β : Type} : Sound Tryd.prog (.loop spec_l07Bounded.l0.c) (lpE (β := β) spec_l07Bounded.l0.hd spec_l07Bounded.l0.xs (spec_l07Bounded.l0 fuel)) := Sound.lp base spec_l07Bounded.l0.lok (by kernel_rfl) spec_l07Bounded.l0.zero spec_l07Bounded.l0.step fuel
noncomputable def spec_l07Bounded.ts : List LoopT := [spec_l07Bounded.l0.T]
theorem spec_l07Bounded.lok {β : Type} : LoopsOK Tryd.prog (lpT (β := β) spec_l07Bounded.ts) spec_l07Bounded.code 0 := LoopsOK_T ⟨spec_l07Bounded.l0.ok, trivial⟩
theorem spec_l07Bounded.eq : EqB ty spec_l07Bounded.es spec_l07Bounded.ts Tryd.f41 none [false, false] (.cons (.sl (.int .i64)) (.cons (.int .i64) .nil)) (.vals (.cons .bool .nil)) true spec_l07Bounded := by intro rd d; kernel_rfl
theorem spec_l07Bounded.sound : FSound Tryd.prog 41 none [false, false] (.cons (.sl (.int .i64)) (.cons (.int .i64) .nil)) (.vals (.cons .bool .nil)) true spec_l07Bounded := FSound.mk base spec_l07Bounded.fn spec_l07Bounded.lok spec_l07Bounded.eq
noncomputable def spec_l07Bounded.ent : Ent Tryd.prog := Ent.con 41 none [false, false] (.cons (.sl (.int .i64)) (.cons (.int .i64) .nil)) (.vals (.cons .bool .nil)) true spec_l07Bounded spec_l07Bounded.sound
def spec_l07Ok (rd : Unit) (d : ((List Int × List Int × Int × Int × Int × Int × Int × Unit) × Unit)) : Option (Unit × (Bool × Unit)) :=
  (spec_l00In () ((d.1.1.length : Int), (1 : Int), (24 : Int), ())).bind fun r1 =>
  bif r1.2.1 then
    bif ((d.1.2.1.length : Int) == (d.1.1.length : Int)) then
      (spec_l07Bounded () (d.1.1, (200 : Int), ())).bind fun r2 =>
      bif r2.2.1 then
        (spec_l07Bounded () (d.1.2.1, (1000 : Int), ())).bind fun r3 =>
        bif r3.2.1 then
          (spec_l00In () (d.1.2.2.1, (0 : Int), (20 : Int), ())).bind fun r4 =>
          bif r4.2.1 then
            (spec_l00In () (d.1.2.2.2.1, (1 : Int), (40 : Int), ())).bind fun r5 =>
            bif r5.2.1 then
              (spec_l00In () (d.1.2.2.2.2.1, (0 : Int), (60 : Int), ())).bind fun r6 =>
              bif r6.2.1 then
                (spec_l00In () (d.1.2.2.2.2.2.1, (0 : Int), d.1.2.2.2.2.1, ())).bind fun r7 =>
                bif r7.2.1 then
                  (spec_l00In () (d.1.2.2.2.2.2.2.1, (0 : Int), (100 : Int), ())).bind fun r8 =>
                  some ((), (r8.2.1, ()))
                else
                  some ((), (false, ()))
              else
                some ((), (false, ()))
            else
              some ((), (false, ()))
          else
            some ((), (false, ()))
        else
          some ((), (false, ()))
      else
        some ((), (false, ()))
    else
      some ((), (false, ()))
  else
    some ((), (false, ()))
noncomputable def spec_l07Ok.code : Code := Tryd.f25.body.getD .skip
theorem spec_l07Ok.fn : Fun Tryd.prog 25 Tryd.f25 spec_l07Ok.code := ⟨by kernel_rfl, by kernel_rfl, by kernel_rfl⟩
noncomputable def spec_l07Ok.es : List (Ent Tryd.prog) := [spec_l00In.ent, spec_l07Bounded.ent]
noncomputable def spec_l07Ok.ts : List LoopT := []
theorem spec_l07Ok.lok {β : Type} : LoopsOK Tryd.prog (lpT (β := β) spec_l07Ok.ts) spec_l07Ok.code 0 := LoopsOK_T trivial
theorem spec_l07Ok.eq : EqB ty spec_l07Ok.es spec_l07Ok.ts Tryd.f25 none [true] (.cons (.st (.cons (.sl (.int .i64)) (.cons (.sl (.int .i64)) (.cons (.int .i64) (.cons (.int .i64) (.cons (.int .i64) (.cons (.int .i64) (.cons (.int .i64) .nil)))))))) .nil) (.vals (.cons .bool .nil)) true spec_l07Ok := by intro rd d; kernel_rfl
theorem spec_l07Ok.sound : FSound Tryd.prog 25 none [true] (.cons (.st (.cons (.sl (.int .i64)) (.cons (.sl (.int .i64)) (.cons (.int .i64) (.cons (.int .i64) (.cons (.int .i64) (.cons (.int .i64) (.cons (.int .i64) .nil)))))))) .nil) (.vals (.cons .bool .nil)) true spec_l07Ok := FSound.mk base spec_l07Ok.fn spec_l07Ok.lok spec_l07Ok.eq
noncomputable def spec_l07Ok.ent : Ent Tryd.prog := Ent.con 25 none [true] (.cons (.st (.cons (.sl (.int .i64)) (.cons (.sl (.int .i64)) (.cons (.int .i64) (.cons (.int .i64) (.cons (.int .i64) (.cons (.int .i64) (.cons (.int .i64) .nil)))))))) .nil) (.vals (.cons .bool .nil)) true spec_l07Ok spec_l07Ok.sound
def spec_ReadSeason.l0.st (g : (((Unit) × ((List Int) × (List Int) × Unit)) × (((List Int × List Int × Int × Int × Int × Int × Int × Unit) × (Unit × Unit × Int × Int × Int × Int × Int × Unit) × Unit) × ((List (List UInt8)) × Int × Unit))) → Option ((((Unit) × (Unit)) × (((List Int × List Int × Int × Int × Int × Int × Int × Unit) × Unit) × (Int × Unit))) ⊕ (((Unit) × ((List Int) × (List Int) × Unit)) × (((List Int × List Int × Int × Int × Int × Int × Int × Unit) × (Unit × Unit × Int × Int × Int × Int × Int × Unit) × Unit) × (Unit))))) (d : (((Unit) × ((List Int) × (List Int) × Unit)) × (((List Int × List Int × Int × Int × Int × Int × Int × Unit) × (Unit × Unit × Int × Int × Int × Int × Int × Unit) × Unit) × ((List (List UInt8)) × Int × Unit)))) : Option ((((Unit) × (Unit)) × (((List Int × List Int × Int × Int × Int × Int × Int × Unit) × Unit) × (Int × Unit))) ⊕ (((Unit) × ((List Int) × (List Int) × Unit)) × (((List Int × List Int × Int × Int × Int × Int × Int × Unit) × (Unit × Unit × Int × Int × Int × Int × Int × Unit) × Unit) × (Unit)))) :=
  let x6 : Bool := decide ((IntKind.i64.wrap (d.2.2.2.1 + (1 : Int))) < (d.2.2.1.length : Int))
  bif x6 then
    bif (decide ((0 : Int) ≤ d.2.2.2.1) && decide (d.2.2.2.1 < (d.2.2.1.length : Int))) then
      (spec_l01Split () ((d.2.2.1.getD d.2.2.2.1.toNat ([] : List UInt8)), (32 : Int), ())).bind fun r7 =>
      (spec_l07Numbers () (r7.2.1, ())).bind fun r8 =>
      bif (!r8.2.2.1) then
        some (.inl (((), ()), (((([] : List Int), ([] : List Int), (0 : Int), (0 : Int), (0 : Int), (0 : Int), (0 : Int), ()), ()), ((5 : Int), ()))))
      else
        bif ((r8.2.1.length : Int) != (2 : Int)) then
          some (.inl (((), ()), (((([] : List Int), ([] : List Int), (0 : Int), (0 : Int), (0 : Int), (0 : Int), (0 : Int), ()), ()), ((5 : Int), ()))))
        else
          bif decide ((0 : Int) < (r8.2.1.length : Int)) then
            bif decide (d.1.2.1.length + ((([(r8.2.1.getD 0 (0 : Int))] : List Int).drop 0).take 1).length ≤ maxRow) then
              let l9 : List Int := (d.1.2.1.take d.1.2.1.length ++ ((([(r8.2.1.getD 0 (0 : Int))] : List Int).drop 0).take 1))
              bif decide ((1 : Int) < (r8.2.1.length : Int)) then
                bif decide (d.1.2.2.1.length + ((([(r8.2.1.getD 1 (0 : Int))] : List Int).drop 0).take 1).length ≤ maxRow) then
                  let l10 : List Int := (d.1.2.2.1.take d.1.2.2.1.length ++ ((([(r8.2.1.getD 1 (0 : Int))] : List Int).drop 0).take 1))
                  bif (((decide ((d.1.2.1.length + ((([(r8.2.1.getD 0 (0 : Int))] : List Int).drop 0).take 1).length) = l9.length) && (decide ((d.1.2.2.1.length + ((([(r8.2.1.getD 1 (0 : Int))] : List Int).drop 0).take 1).length) = l10.length) && true)) && true) && true) then
                    (g (((), (l9, l10, ())), ((d.2.1.1, ((), (), d.2.1.2.1.2.2.1, d.2.1.2.1.2.2.2.1, d.2.1.2.1.2.2.2.2.1, d.2.1.2.1.2.2.2.2.2.1, d.2.1.2.1.2.2.2.2.2.2.1, ()), ()), (d.2.2.1, (IntKind.i64.wrap (d.2.2.2.1 + (1 : Int))), ())))).bind some
                  else
                    none
                else
                  none
              else
                none
            else
              none
          else
            none
    else
      none
  else
    bif (((decide (d.1.2.1.length = d.1.2.1.length) && (decide (d.1.2.2.1.length = d.1.2.2.1.length) && true)) && true) && true) then
      some (.inr (((), (d.1.2.1, d.1.2.2.1, ())), ((d.2.1.1, ((), (), d.2.1.2.1.2.2.1, d.2.1.2.1.2.2.2.1, d.2.1.2.1.2.2.2.2.1, d.2.1.2.1.2.2.2.2.2.1, d.2.1.2.1.2.2.2.2.2.2.1, ()), ()), ())))
    else
      none
def spec_ReadSeason.l0 : Nat → (((Unit) × ((List Int) × (List Int) × Unit)) × (((List Int × List Int × Int × Int × Int × Int × Int × Unit) × (Unit × Unit × Int × Int × Int × Int × Int × Unit) × Unit) × ((List (List UInt8)) × Int × Unit))) → Option ((((Unit) × (Unit)) × (((List Int × List Int × Int × Int × Int × Int × Int × Unit) × Unit) × (Int × Unit))) ⊕ (((Unit) × ((List Int) × (List Int) × Unit)) × (((List Int × List Int × Int × Int × Int × Int × Int × Unit) × (Unit × Unit × Int × Int × Int × Int × Int × Unit) × Unit) × (Unit))))
  | 0, _ => none
  | n + 1, d => spec_ReadSeason.l0.st (spec_ReadSeason.l0 n) d
def spec_ReadSeason (rd : Unit) (d : (List UInt8 × Unit)) : Option (Unit × ((List Int × List Int × Int × Int × Int × Int × Int × Unit) × Int × Unit)) :=
  (spec_l01Split () (d.1, (10 : Int), ())).bind fun r1 =>
  bif decide ((0 : Int) < (r1.2.1.length : Int)) then
    (spec_l01Split () ((r1.2.1.getD 0 ([] : List UInt8)), (32 : Int), ())).bind fun r2 =>
    bif ((r2.2.1.length : Int) != (6 : Int)) then
      some ((), ((([] : List Int), ([] : List Int), (0 : Int), (0 : Int), (0 : Int), (0 : Int), (0 : Int), ()), (5 : Int), ()))
    else
      bif decide ((0 : Int) < (r2.2.1.length : Int)) then
        let x3 : Bool := ((r2.2.1.getD 0 ([] : List UInt8)) != ([115, 101, 97, 115, 111, 110] : List UInt8))
        bif x3 then
          some ((), ((([] : List Int), ([] : List Int), (0 : Int), (0 : Int), (0 : Int), (0 : Int), (0 : Int), ()), (5 : Int), ()))
        else
          bif (decide ((0 : Int) ≤ (IntKind.i64.wrap ((r1.2.1.length : Int) - (1 : Int)))) && decide ((IntKind.i64.wrap ((r1.2.1.length : Int) - (1 : Int))) < (r1.2.1.length : Int))) then
            let x4 : Bool := ((r1.2.1.getD (((IntKind.i64.wrap ((r1.2.1.length : Int) - (1 : Int)))).toNat) ([] : List UInt8)) != ([] : List UInt8))
            bif x4 then
              some ((), ((([] : List Int), ([] : List Int), (0 : Int), (0 : Int), (0 : Int), (0 : Int), (0 : Int), ()), (5 : Int), ()))
            else
              bif (decide ((1 : Int) ≤ (r2.2.1.length : Int)) && decide ((r2.2.1.length : Int) ≤ (r2.2.1.length : Int))) then
                (spec_l07Numbers () (((r2.2.1.drop 1).take (((r2.2.1.length : Int)).toNat - 1)), ())).bind fun r5 =>
                bif (!r5.2.2.1) then
                  some ((), ((([] : List Int), ([] : List Int), (0 : Int), (0 : Int), (0 : Int), (0 : Int), (0 : Int), ()), (5 : Int), ()))
                else
                  bif decide ((0 : Int) < (r5.2.1.length : Int)) then
                    bif decide ((1 : Int) < (r5.2.1.length : Int)) then
                      bif decide ((2 : Int) < (r5.2.1.length : Int)) then
                        bif decide ((3 : Int) < (r5.2.1.length : Int)) then
                          bif decide ((4 : Int) < (r5.2.1.length : Int)) then
                            bif (((decide (0 = ([] : List Int).length) && (decide (0 = ([] : List Int).length) && true)) && true) && true) then
                              (spec_ReadSeason.l0 fuel (((), (([] : List Int), ([] : List Int), ())), (((([] : List Int), ([] : List Int), (0 : Int), (0 : Int), (0 : Int), (0 : Int), (0 : Int), ()), ((), (), (r5.2.1.getD 0 (0 : Int)), (r5.2.1.getD 1 (0 : Int)), (r5.2.1.getD 2 (0 : Int)), (r5.2.1.getD 3 (0 : Int)), (r5.2.1.getD 4 (0 : Int)), ()), ()), (r1.2.1, (1 : Int), ())))).bind fun y11 =>
                              Sum.elim
                                (fun z12 =>
                                  some ((), (z12.2.1.1, z12.2.2.1, ())))
                                (fun z13 =>
                                  (spec_l07Ok () ((((z13.1.2.1.drop 0).take z13.1.2.1.length), ((z13.1.2.2.1.drop 0).take z13.1.2.2.1.length), z13.2.1.2.1.2.2.1, z13.2.1.2.1.2.2.2.1, z13.2.1.2.1.2.2.2.2.1, z13.2.1.2.1.2.2.2.2.2.1, z13.2.1.2.1.2.2.2.2.2.2.1, ()), ())).bind fun r14 =>
                                  bif (!r14.2.1) then
                                    some ((), ((([] : List Int), ([] : List Int), (0 : Int), (0 : Int), (0 : Int), (0 : Int), (0 : Int), ()), (5 : Int), ()))
                                  else
                                    some ((), ((((z13.1.2.1.drop 0).take z13.1.2.1.length), ((z13.1.2.2.1.drop 0).take z13.1.2.2.1.length), z13.2.1.2.1.2.2.1, z13.2.1.2.1.2.2.2.1, z13.2.1.2.1.2.2.2.2.1, z13.2.1.2.1.2.2.2.2.2.1, z13.2.1.2.1.2.2.2.2.2.2.1, ()), (0 : Int), ()))) y11
                            else
                              none
                          else
                            none
                        else
                          none
                      else
                        none
                    else
                      none
                  else
                    none
              else
                none
          else
            none
      else
        none
  else
    none
noncomputable def spec_ReadSeason.code : Code := Tryd.f8.body.getD .skip
theorem spec_ReadSeason.fn : Fun Tryd.prog 8 Tryd.f8 spec_ReadSeason.code := ⟨by kernel_rfl, by kernel_rfl, by kernel_rfl⟩
noncomputable def spec_ReadSeason.es : List (Ent Tryd.prog) := [spec_l01Split.ent, spec_l07Numbers.ent, spec_l07Ok.ent]
noncomputable def spec_ReadSeason.l0.c : Code := loopAt spec_ReadSeason.code 0
noncomputable def spec_ReadSeason.l0.ts : List LoopT := []
theorem spec_ReadSeason.l0.lok {β : Type} : LoopsOK Tryd.prog (lpT (β := β) spec_ReadSeason.l0.ts) spec_ReadSeason.l0.c 1 := LoopsOK_T trivial
noncomputable def spec_ReadSeason.l0.hd : SPat := { heap := [.box (.dat true (.st (.cons (.sl (.int .i64)) (.cons (.sl (.int .i64)) (.cons (.int .i64) (.cons (.int .i64) (.cons (.int .i64) (.cons (.int .i64) (.cons (.int .i64) .nil))))))))), .box (.st (.cons (.own 2 (.int .i64)) (.cons (.own 3 (.int .i64)) (.cons (.dat true (.int .i64)) (.cons (.dat true (.int .i64)) (.cons (.dat true (.int .i64)) (.cons (.dat true (.int .i64)) (.cons (.dat true (.int .i64)) .nil))))))))], rows := [{ fr := true, t := (.int .i64), loc := (.box 1 [0]), cut := false }, { fr := true, t := (.int .i64), loc := (.box 1 [1]), cut := false }], tmps := [.u .junk, .u .junk, .u (.ref 0 [] (.st (.cons (.sl (.int .i64)) (.cons (.sl (.int .i64)) (.cons (.int .i64) (.cons (.int .i64) (.cons (.int .i64) (.cons (.int .i64) (.cons (.int .i64) .nil))))))))), .u .junk, .val (.dat true (.sl .str))] ++ (jk 3) ++ [.u (.ref 1 [] (.st (.cons (.sl (.int .i64)) (.cons (.sl (.int .i64)) (.cons (.int .i64) (.cons (.int .i64) (.cons (.int .i64) (.cons (.int .i64) (.cons (.int .i64) .nil))))))))), .val (.dat true (.int .i64))] ++ (jk 96) }
noncomputable def spec_ReadSeason.l0.xs : Exits := [(.ret, { heap := [.box (.dat true (.st (.cons (.sl (.int .i64)) (.cons (.sl (.int .i64)) (.cons (.int .i64) (.cons (.int .i64) (.cons (.int .i64) (.cons (.int .i64) (.cons (.int .i64) .nil))))))))), .dead], rows := [], tmps := [.u .junk, .u .junk, .u (.ref 0 [] (.st (.cons (.sl (.int .i64)) (.cons (.sl (.int .i64)) (.cons (.int .i64) (.cons (.int .i64) (.cons (.int .i64) (.cons (.int .i64) (.cons (.int .i64) .nil))))))))), .val (.dat true (.int .i64))] ++ (jk 102) }), (.exit 0, { heap := [.box (.dat true (.st (.cons (.sl (.int .i64)) (.cons (.sl (.int .i64)) (.cons (.int .i64) (.cons (.int .i64) (.cons (.int .i64) (.cons (.int .i64) (.cons (.int .i64) .nil))))))))), .box (.st (.cons (.own 2 (.int .i64)) (.cons (.own 3 (.int .i64)) (.cons (.dat true (.int .i64)) (.cons (.dat true (.int .i64)) (.cons (.dat true (.int .i64)) (.cons (.dat true (.int .i64)) (.cons (.dat true (.int .i64)) .nil))))))))], rows := [{ fr := true, t := (.int .i64), loc := (.box 1 [0]), cut := false }, { fr := true, t := (.int .i64), loc := (.box 1 [1]), cut := false }], tmps := [.u .junk, .u .junk, .u (.ref 0 [] (.st (.cons (.sl (.int .i64)) (.cons (.sl (.int .i64)) (.cons (.int .i64) (.cons (.int .i64) (.cons (.int .i64) (.cons (.int .i64) (.cons (.int .i64) .nil)))))))))] ++ (jk 5) ++ [.u (.ref 1 [] (.st (.cons (.sl (.int .i64)) (.cons (.sl (.int .i64)) (.cons (.int .i64) (.cons (.int .i64) (.cons (.int .i64) (.cons (.int .i64) (.cons (.int .i64) .nil)))))))))] ++ (jk 97) })]
noncomputable def spec_ReadSeason.l0.T : LoopT := ⟨0, spec_ReadSeason.l0.hd, spec_ReadSeason.l0.xs, spec_ReadSeason.l0 fuel⟩
theorem spec_ReadSeason.l0.step : StepB ty spec_ReadSeason.es spec_ReadSeason.l0.ts spec_ReadSeason.l0.c 1 spec_ReadSeason.l0.hd spec_ReadSeason.l0.xs spec_ReadSeason.l0 := by intro n d; kernel_rfl
theorem spec_ReadSeason.l0.zero : @Zero spec_ReadSeason.l0.hd.D (ExD spec_ReadSeason.l0.xs) spec_ReadSeason.l0 := fun _ => rfl
theorem spec_ReadSeason.l0.ok {β : Type} : Sound Tryd.prog (.loop spec_ReadSeason.l0.c) (lpE (β := β) spec_ReadSeason.l0.hd spec_ReadSeason.l0.xs (spec_ReadSeason.l0 fuel)) := Sound.lp base spec_ReadSeason.l0.lok (by kernel_rfl) spec_ReadSeason.l0.zero spec_ReadSeason.l0.step fuel
noncomputable def spec_ReadSeason.ts : List LoopT := [spec_ReadSeason.l0.T]
theorem spec_ReadSeason.lok {β : Type} : LoopsOK Tryd.prog (lpT (β := β) spec_ReadSeason.ts) spec_ReadSeason.code 0 := LoopsOK_T ⟨spec_ReadSeason.l0.ok, trivial⟩
theorem spec_ReadSeason.eq : EqB ty spec_ReadSeason.es spec_ReadSeason.ts Tryd.f8 none [false] (.cons .str .nil) (.vals (.cons (.st (.cons (.sl (.int .i64)) (.cons (.sl (.int .i64)) (.cons (.int .i64) (.cons (.int .i64) (.cons (.int .i64) (.cons (.int .i64) (.cons (.int .i64) .nil)))))))) (.cons (.int .i64) .nil))) true spec_ReadSeason := by intro rd d; kernel_rfl
theorem spec_ReadSeason.sound : FSound Tryd.prog 8 none [false] (.cons .str .nil) (.vals (.cons (.st (.cons (.sl (.int .i64)) (.cons (.sl (.int .i64)) (.cons (.int .i64) (.cons (.int .i64) (.cons (.int .i64) (.cons (.int .i64) (.cons (.int .i64) .nil)))))))) (.cons (.int .i64) .nil))) true spec_ReadSeason := FSound.mk base spec_ReadSeason.fn spec_ReadSeason.lok spec_ReadSeason.eq
noncomputable def spec_ReadSeason.ent : Ent Tryd.prog := Ent.con 8 none [false] (.cons .str .nil) (.vals (.cons (.st (.cons (.sl (.int .i64)) (.cons (.sl (.int .i64)) (.cons (.int .i64) (.cons (.int .i64) (.cons (.int .i64) (.cons (.int .i64) (.cons (.int .i64) .nil)))))))) (.cons (.int .i64) .nil))) true spec_ReadSeason spec_ReadSeason.sound
def impl_linesOf (rd : Unit) (d : (List UInt8 × Unit)) : Option (Unit × (List (List UInt8) × Bool × Unit)) :=
  bif (d.1 == ([] : List UInt8)) then
    some ((), (([] : List (List UInt8)), true, ()))
  else
    (lib_Split () (d.1, ([10] : List UInt8), ())).bind fun r1 =>
    bif (decide ((0 : Int) ≤ (IntKind.i64.wrap ((r1.2.1.length : Int) - (1 : Int)))) && decide ((IntKind.i64.wrap ((r1.2.1.length : Int) - (1 : Int))) ≤ (r1.2.1.length : Int))) then
      let x2 : List (List UInt8) := ((r1.2.1.drop 0).take (((IntKind.i64.wrap ((r1.2.1.length : Int) - (1 : Int)))).toNat - 0))
      bif (decide ((0 : Int) ≤ (IntKind.i64.wrap ((r1.2.1.length : Int) - (1 : Int)))) && decide ((IntKind.i64.wrap ((r1.2.1.length : Int) - (1 : Int))) < (r1.2.1.length : Int))) then
        let x3 : Bool := ((r1.2.1.getD (((IntKind.i64.wrap ((r1.2.1.length : Int) - (1 : Int)))).toNat) ([] : List UInt8)) == ([] : List UInt8))
        some ((), (x2, x3, ()))
      else
        none
    else
      none
noncomputable def impl_linesOf.code : Code := Tryd.f26.body.getD .skip
theorem impl_linesOf.fn : Fun Tryd.prog 26 Tryd.f26 impl_linesOf.code := ⟨by kernel_rfl, by kernel_rfl, by kernel_rfl⟩
noncomputable def impl_linesOf.es : List (Ent Tryd.prog) := [lib_Split.ent]
noncomputable def impl_linesOf.ts : List LoopT := []
theorem impl_linesOf.lok {β : Type} : LoopsOK Tryd.prog (lpT (β := β) impl_linesOf.ts) impl_linesOf.code 0 := LoopsOK_T trivial
theorem impl_linesOf.eq : EqB ty impl_linesOf.es impl_linesOf.ts Tryd.f26 none [false] (.cons .str .nil) (.vals (.cons (.sl .str) (.cons .bool .nil))) true impl_linesOf := by intro rd d; kernel_rfl
theorem impl_linesOf.sound : FSound Tryd.prog 26 none [false] (.cons .str .nil) (.vals (.cons (.sl .str) (.cons .bool .nil))) true impl_linesOf := FSound.mk base impl_linesOf.fn impl_linesOf.lok impl_linesOf.eq
noncomputable def impl_linesOf.ent : Ent Tryd.prog := Ent.con 26 none [false] (.cons .str .nil) (.vals (.cons (.sl .str) (.cons .bool .nil))) true impl_linesOf impl_linesOf.sound
def impl_words_is (rd : (List (List UInt8) × Bool × Unit)) (d : (List UInt8 × Unit)) : Option ((List (List UInt8) × Bool × Unit) × (Unit)) :=
  (impl_words_next rd (())).bind fun r1 =>
  bif (r1.2.1 != d.1) then
    some ((r1.1.1, true, ()), (()))
  else
    some (r1.1, (()))
noncomputable def impl_words_is.code : Code := Tryd.f27.body.getD .skip
theorem impl_words_is.fn : Fun Tryd.prog 27 Tryd.f27 impl_words_is.code := ⟨by kernel_rfl, by kernel_rfl, by kernel_rfl⟩
noncomputable def impl_words_is.es : List (Ent Tryd.prog) := [impl_words_next.ent]
noncomputable def impl_words_is.ts : List LoopT := []
theorem impl_words_is.lok {β : Type} : LoopsOK Tryd.prog (lpT (β := β) impl_words_is.ts) impl_words_is.code 0 := LoopsOK_T trivial
theorem impl_words_is.eq : EqB ty impl_words_is.es impl_words_is.ts Tryd.f27 (some (.st (.cons (.sl .str) (.cons .bool .nil)))) [false] (.cons .str .nil) (.vals .nil) true impl_words_is := by intro rd d; kernel_rfl
theorem impl_words_is.sound : FSound Tryd.prog 27 (some (.st (.cons (.sl .str) (.cons .bool .nil)))) [false] (.cons .str .nil) (.vals .nil) true impl_words_is := FSound.mk base impl_words_is.fn impl_words_is.lok impl_words_is.eq
noncomputable def impl_words_is.ent : Ent Tryd.prog := Ent.con 27 (some (.st (.cons (.sl .str) (.cons .bool .nil)))) [false] (.cons .str .nil) (.vals .nil) true impl_words_is impl_words_is.sound
def impl_ValidSeason.l0.st (g : (((Unit) × (Unit)) × (((List Int × List Int × Int × Int × Int × Int × Int × Unit) × Unit) × (Int × Int × Unit))) → Option ((((Unit) × (Unit)) × ((Unit) × (Bool × Unit))) ⊕ (((Unit) × (Unit)) × (((List Int × List Int × Int × Int × Int × Int × Int × Unit) × Unit) × (Unit))))) (d : (((Unit) × (Unit)) × (((List Int × List Int × Int × Int × Int × Int × Int × Unit) × Unit) × (Int × Int × Unit)))) : Option ((((Unit) × (Unit)) × ((Unit) × (Bool × Unit))) ⊕ (((Unit) × (Unit)) × (((List Int × List Int × Int × Int × Int × Int × Int × Unit) × Unit) × (Unit)))) :=
  bif decide (d.2.2.2.1 < d.2.2.1) then
    bif (decide ((0 : Int) ≤ d.2.2.2.1) && decide (d.2.2.2.1 < (d.2.1.1.1.length : Int))) then
      let x1 : Bool := decide ((d.2.1.1.1.getD d.2.2.2.1.toNat (0 : Int)) < (0 : Int))
      bif x1 then
        some (.inl (((), ()), ((), (false, ()))))
      else
        bif (decide ((0 : Int) ≤ d.2.2.2.1) && decide (d.2.2.2.1 < (d.2.1.1.1.length : Int))) then
          let x2 : Bool := decide ((d.2.1.1.1.getD d.2.2.2.1.toNat (0 : Int)) > (200 : Int))
          bif x2 then
            some (.inl (((), ()), ((), (false, ()))))
          else
            bif (decide ((0 : Int) ≤ d.2.2.2.1) && decide (d.2.2.2.1 < (d.2.1.1.2.1.length : Int))) then
              let x3 : Bool := decide ((d.2.1.1.2.1.getD d.2.2.2.1.toNat (0 : Int)) < (0 : Int))
              bif x3 then
                some (.inl (((), ()), ((), (false, ()))))
              else
                bif (decide ((0 : Int) ≤ d.2.2.2.1) && decide (d.2.2.2.1 < (d.2.1.1.2.1.length : Int))) then
                  let x4 : Bool := decide ((d.2.1.1.2.1.getD d.2.2.2.1.toNat (0 : Int)) > (1000 : Int))
                  bif x4 then
                    some (.inl (((), ()), ((), (false, ()))))
                  else
                    (g (((), ()), ((d.2.1.1, ()), (d.2.2.1, (IntKind.i64.wrap (d.2.2.2.1 + (1 : Int))), ())))).bind some
                else
                  none
            else
              none
        else
          none
    else
      none
  else
    some (.inr (((), ()), ((d.2.1.1, ()), ())))
def impl_ValidSeason.l0 : Nat → (((Unit) × (Unit)) × (((List Int × List Int × Int × Int × Int × Int × Int × Unit) × Unit) × (Int × Int × Unit))) → Option ((((Unit) × (Unit)) × ((Unit) × (Bool × Unit))) ⊕ (((Unit) × (Unit)) × (((List Int × List Int × Int × Int × Int × Int × Int × Unit) × Unit) × (Unit))))
  | 0, _ => none
  | n + 1, d => impl_ValidSeason.l0.st (impl_ValidSeason.l0 n) d
def impl_ValidSeason (rd : Unit) (d : ((List Int × List Int × Int × Int × Int × Int × Int × Unit) × Unit)) : Option (Unit × (Bool × Unit)) :=
  bif decide ((d.1.1.length : Int) < (1 : Int)) then
    some ((), (false, ()))
  else
    bif decide ((d.1.1.length : Int) > (24 : Int)) then
      some ((), (false, ()))
    else
      bif ((d.1.2.1.length : Int) != (d.1.1.length : Int)) then
        some ((), (false, ()))
      else
        (impl_ValidSeason.l0 fuel (((), ()), ((d.1, ()), ((d.1.1.length : Int), (0 : Int), ())))).bind fun y5 =>
        Sum.elim
          (fun z6 =>
            some ((), (z6.2.2.1, ())))
          (fun z7 =>
            bif decide (z7.2.1.1.2.2.1 ≥ (0 : Int)) then
              bif decide (z7.2.1.1.2.2.1 ≤ (20 : Int)) then
                bif decide (z7.2.1.1.2.2.2.1 ≥ (1 : Int)) then
                  bif decide (z7.2.1.1.2.2.2.1 ≤ (40 : Int)) then
                    bif decide (z7.2.1.1.2.2.2.2.1 ≥ (0 : Int)) then
                      bif decide (z7.2.1.1.2.2.2.2.1 ≤ (60 : Int)) then
                        bif decide (z7.2.1.1.2.2.2.2.2.1 ≥ (0 : Int)) then
                          bif decide (z7.2.1.1.2.2.2.2.2.1 ≤ z7.2.1.1.2.2.2.2.1) then
                            bif decide (z7.2.1.1.2.2.2.2.2.2.1 ≥ (0 : Int)) then
                              some ((), (decide (z7.2.1.1.2.2.2.2.2.2.1 ≤ (100 : Int)), ()))
                            else
                              some ((), (false, ()))
                          else
                            some ((), (false, ()))
                        else
                          some ((), (false, ()))
                      else
                        some ((), (false, ()))
                    else
                      some ((), (false, ()))
                  else
                    some ((), (false, ()))
                else
                  some ((), (false, ()))
              else
                some ((), (false, ()))
            else
              some ((), (false, ()))) y5
noncomputable def impl_ValidSeason.code : Code := Tryd.f28.body.getD .skip
theorem impl_ValidSeason.fn : Fun Tryd.prog 28 Tryd.f28 impl_ValidSeason.code := ⟨by kernel_rfl, by kernel_rfl, by kernel_rfl⟩
noncomputable def impl_ValidSeason.es : List (Ent Tryd.prog) := []
noncomputable def impl_ValidSeason.l0.c : Code := loopAt impl_ValidSeason.code 0
noncomputable def impl_ValidSeason.l0.ts : List LoopT := []
theorem impl_ValidSeason.l0.lok {β : Type} : LoopsOK Tryd.prog (lpT (β := β) impl_ValidSeason.l0.ts) impl_ValidSeason.l0.c 1 := LoopsOK_T trivial
noncomputable def impl_ValidSeason.l0.hd : SPat := { heap := [.box (.dat false (.st (.cons (.sl (.int .i64)) (.cons (.sl (.int .i64)) (.cons (.int .i64) (.cons (.int .i64) (.cons (.int .i64) (.cons (.int .i64) (.cons (.int .i64) .nil)))))))))], rows := [], tmps := [.u .junk, .u (.ref 0 [] (.st (.cons (.sl (.int .i64)) (.cons (.sl (.int .i64)) (.cons (.int .i64) (.cons (.int .i64) (.cons (.int .i64) (.cons (.int .i64) (.cons (.int .i64) .nil)))))))))] ++ (jk 19) ++ [.val (.dat true (.int .i64)), .val (.dat true (.int .i64))] ++ (jk 83) }
noncomputable def impl_ValidSeason.l0.xs : Exits := [(.ret, { heap := [.dead], rows := [], tmps := [.u .junk, .u .junk, .val (.dat true .bool)] ++ (jk 103) }), (.exit 0, { heap := [.box (.dat false (.st (.cons (.sl (.int .i64)) (.cons (.sl (.int .i64)) (.cons (.int .i64) (.cons (.int .i64) (.cons (.int .i64) (.cons (.int .i64) (.cons (.int .i64) .nil)))))))))], rows := [], tmps := [.u .junk, .u (.ref 0 [] (.st (.cons (.sl (.int .i64)) (.cons (.sl (.int .i64)) (.cons (.int .i64) (.cons (.int .i64) (.cons (.int .i64) (.cons (.int .i64) (.cons (.int .i64) .nil)))))))))] ++ (jk 104) })]
noncomputable def impl_ValidSeason.l0.T : LoopT := ⟨0, impl_ValidSeason.l0.hd, impl_ValidSeason.l0.xs, impl_ValidSeason.l0 fuel⟩
theorem impl_ValidSeason.l0.step : StepB ty impl_ValidSeason.es impl_ValidSeason.l0.ts impl_ValidSeason.l0.c 1 impl_ValidSeason.l0.hd impl_ValidSeason.l0.xs impl_ValidSeason.l0 := by intro n d; kernel_rfl
theorem impl_ValidSeason.l0.zero : @Zero impl_ValidSeason.l0.hd.D (ExD impl_ValidSeason.l0.xs) impl_ValidSeason.l0 := fun _ => rfl
theorem impl_ValidSeason.l0.ok {β : Type} : Sound Tryd.prog (.loop impl_ValidSeason.l0.c) (lpE (β := β) impl_ValidSeason.l0.hd impl_ValidSeason.l0.xs (impl_ValidSeason.l0 fuel)) := Sound.lp base impl_ValidSeason.l0.lok (by kernel_rfl) impl_ValidSeason.l0.zero impl_ValidSeason.l0.step fuel
noncomputable def impl_ValidSeason.ts : List LoopT := [impl_ValidSeason.l0.T]
theorem impl_ValidSeason.lok {β : Type} : LoopsOK Tryd.prog (lpT (β := β) impl_ValidSeason.ts) impl_ValidSeason.code 0 := LoopsOK_T ⟨impl_ValidSeason.l0.ok, trivial⟩
theorem impl_ValidSeason.eq : EqB ty impl_ValidSeason.es impl_ValidSeason.ts Tryd.f28 none [false] (.cons (.st (.cons (.sl (.int .i64)) (.cons (.sl (.int .i64)) (.cons (.int .i64) (.cons (.int .i64) (.cons (.int .i64) (.cons (.int .i64) (.cons (.int .i64) .nil)))))))) .nil) (.vals (.cons .bool .nil)) true impl_ValidSeason := by intro rd d; kernel_rfl
theorem impl_ValidSeason.sound : FSound Tryd.prog 28 none [false] (.cons (.st (.cons (.sl (.int .i64)) (.cons (.sl (.int .i64)) (.cons (.int .i64) (.cons (.int .i64) (.cons (.int .i64) (.cons (.int .i64) (.cons (.int .i64) .nil)))))))) .nil) (.vals (.cons .bool .nil)) true impl_ValidSeason := FSound.mk base impl_ValidSeason.fn impl_ValidSeason.lok impl_ValidSeason.eq
noncomputable def impl_ValidSeason.ent : Ent Tryd.prog := Ent.con 28 none [false] (.cons (.st (.cons (.sl (.int .i64)) (.cons (.sl (.int .i64)) (.cons (.int .i64) (.cons (.int .i64) (.cons (.int .i64) (.cons (.int .i64) (.cons (.int .i64) .nil)))))))) .nil) (.vals (.cons .bool .nil)) true impl_ValidSeason impl_ValidSeason.sound
def impl_seasonText.l0.st (g : (((Unit) × (Unit)) × (((List Int × List Int × Int × Int × Int × Int × Int × Unit) × Unit) × ((List UInt8) × (List Int) × Int × Int × Unit))) → Option ((((Unit) × (Unit)) × ((Unit) × ((List UInt8) × Unit))))) (d : (((Unit) × (Unit)) × (((List Int × List Int × Int × Int × Int × Int × Int × Unit) × Unit) × ((List UInt8) × (List Int) × Int × Int × Unit)))) : Option ((((Unit) × (Unit)) × ((Unit) × ((List UInt8) × Unit)))) :=
  bif decide (d.2.2.2.2.2.1 < d.2.2.2.2.1) then
    bif (decide ((0 : Int) ≤ d.2.2.2.2.2.1) && decide (d.2.2.2.2.2.1 < (d.2.2.2.1.length : Int))) then
      bif (decide ((0 : Int) ≤ d.2.2.2.2.2.1) && decide (d.2.2.2.2.2.1 < (d.2.1.1.2.1.length : Int))) then
        (impl_decimals () (((([(d.2.2.2.1.getD d.2.2.2.2.2.1.toNat (0 : Int)), (d.2.1.1.2.1.getD d.2.2.2.2.2.1.toNat (0 : Int))] : List Int).drop 0).take 2), ())).bind fun r3 =>
        bif decide (r3.2.1.length + ([10] : List UInt8).length ≤ maxStr) then
          bif decide (d.2.2.1.length + (r3.2.1 ++ ([10] : List UInt8)).length ≤ maxStr) then
            (g (((), ()), ((d.2.1.1, ()), ((d.2.2.1 ++ (r3.2.1 ++ ([10] : List UInt8))), d.2.2.2.1, d.2.2.2.2.1, (IntKind.i64.wrap (d.2.2.2.2.2.1 + (1 : Int))), ())))).bind some
          else
            none
        else
          none
      else
        none
    else
      none
  else
    some (((), ()), ((), (d.2.2.1, ())))
def impl_seasonText.l0 : Nat → (((Unit) × (Unit)) × (((List Int × List Int × Int × Int × Int × Int × Int × Unit) × Unit) × ((List UInt8) × (List Int) × Int × Int × Unit))) → Option ((((Unit) × (Unit)) × ((Unit) × ((List UInt8) × Unit))))
  | 0, _ => none
  | n + 1, d => impl_seasonText.l0.st (impl_seasonText.l0 n) d
def impl_seasonText (rd : Unit) (d : ((List Int × List Int × Int × Int × Int × Int × Int × Unit) × Unit)) : Option (Unit × (List UInt8 × Unit)) :=
  (impl_decimals () (((([d.1.2.2.1, d.1.2.2.2.1, d.1.2.2.2.2.1, d.1.2.2.2.2.2.1, d.1.2.2.2.2.2.2.1] : List Int).drop 0).take 5), ())).bind fun r1 =>
  bif decide (([115, 101, 97, 115, 111, 110, 32] : List UInt8).length + r1.2.1.length ≤ maxStr) then
    bif decide ((([115, 101, 97, 115, 111, 110, 32] : List UInt8) ++ r1.2.1).length + ([10] : List UInt8).length ≤ maxStr) then
      let x2 : List UInt8 := ((([115, 101, 97, 115, 111, 110, 32] : List UInt8) ++ r1.2.1) ++ ([10] : List UInt8))
      (impl_seasonText.l0 fuel (((), ()), ((d.1, ()), (x2, d.1.1, (d.1.1.length : Int), (0 : Int), ())))).bind fun z5 =>
      some ((), (z5.2.2.1, ()))
    else
      none
  else
    none
noncomputable def impl_seasonText.code : Code := Tryd.f29.body.getD .skip
theorem impl_seasonText.fn : Fun Tryd.prog 29 Tryd.f29 impl_seasonText.code := ⟨by kernel_rfl, by kernel_rfl, by kernel_rfl⟩
noncomputable def impl_seasonText.es : List (Ent Tryd.prog) := [impl_decimals.ent]
noncomputable def impl_seasonText.l0.c : Code := loopAt impl_seasonText.code 0
noncomputable def impl_seasonText.l0.ts : List LoopT := []
theorem impl_seasonText.l0.lok {β : Type} : LoopsOK Tryd.prog (lpT (β := β) impl_seasonText.l0.ts) impl_seasonText.l0.c 1 := LoopsOK_T trivial
noncomputable def impl_seasonText.l0.hd : SPat := { heap := [.box (.dat false (.st (.cons (.sl (.int .i64)) (.cons (.sl (.int .i64)) (.cons (.int .i64) (.cons (.int .i64) (.cons (.int .i64) (.cons (.int .i64) (.cons (.int .i64) .nil))))))))), .dead], rows := [], tmps := [.u .junk, .u (.ref 0 [] (.st (.cons (.sl (.int .i64)) (.cons (.sl (.int .i64)) (.cons (.int .i64) (.cons (.int .i64) (.cons (.int .i64) (.cons (.int .i64) (.cons (.int .i64) .nil))))))))), .u .junk, .val (.dat true .str)] ++ (jk 17) ++ [.val (.dat false (.sl (.int .i64))), .val (.dat true (.int .i64)), .val (.dat true (.int .i64))] ++ (jk 17) }
noncomputable def impl_seasonText.l0.xs : Exits := [(.exit 0, { heap := [.dead, .dead], rows := [], tmps := (jk 3) ++ [.val (.dat true .str)] ++ (jk 37) })]
noncomputable def impl_seasonText.l0.T : LoopT := ⟨0, impl_seasonText.l0.hd, impl_seasonText.l0.xs, impl_seasonText.l0 fuel⟩
theorem impl_seasonText.l0.step : StepB ty impl_seasonText.es impl_seasonText.l0.ts impl_seasonText.l0.c 1 impl_seasonText.l0.hd impl_seasonText.l0.xs impl_seasonText.l0 := by intro n d; kernel_rfl
theorem impl_seasonText.l0.zero : @Zero impl_seasonText.l0.hd.D (ExD impl_seasonText.l0.xs) impl_seasonText.l0 := fun _ => rfl
theorem impl_seasonText.l0.ok {β : Type} : Sound Tryd.prog (.loop impl_seasonText.l0.c) (lpE (β := β) impl_seasonText.l0.hd impl_seasonText.l0.xs (impl_seasonText.l0 fuel)) := Sound.lp base impl_seasonText.l0.lok (by kernel_rfl) impl_seasonText.l0.zero impl_seasonText.l0.step fuel
noncomputable def impl_seasonText.ts : List LoopT := [impl_seasonText.l0.T]
theorem impl_seasonText.lok {β : Type} : LoopsOK Tryd.prog (lpT (β := β) impl_seasonText.ts) impl_seasonText.code 0 := LoopsOK_T ⟨impl_seasonText.l0.ok, trivial⟩
theorem impl_seasonText.eq : EqB ty impl_seasonText.es impl_seasonText.ts Tryd.f29 none [false] (.cons (.st (.cons (.sl (.int .i64)) (.cons (.sl (.int .i64)) (.cons (.int .i64) (.cons (.int .i64) (.cons (.int .i64) (.cons (.int .i64) (.cons (.int .i64) .nil)))))))) .nil) (.vals (.cons .str .nil)) true impl_seasonText := by intro rd d; kernel_rfl
theorem impl_seasonText.sound : FSound Tryd.prog 29 none [false] (.cons (.st (.cons (.sl (.int .i64)) (.cons (.sl (.int .i64)) (.cons (.int .i64) (.cons (.int .i64) (.cons (.int .i64) (.cons (.int .i64) (.cons (.int .i64) .nil)))))))) .nil) (.vals (.cons .str .nil)) true impl_seasonText := FSound.mk base impl_seasonText.fn impl_seasonText.lok impl_seasonText.eq
noncomputable def impl_seasonText.ent : Ent Tryd.prog := Ent.con 29 none [false] (.cons (.st (.cons (.sl (.int .i64)) (.cons (.sl (.int .i64)) (.cons (.int .i64) (.cons (.int .i64) (.cons (.int .i64) (.cons (.int .i64) (.cons (.int .i64) .nil)))))))) .nil) (.vals (.cons .str .nil)) true impl_seasonText impl_seasonText.sound
def impl_ReadSeason.l0.st (g : (((Unit) × ((List Int) × (List Int) × Unit)) × (((List Int × List Int × Int × Int × Int × Int × Int × Unit) × (Unit × Unit × Int × Int × Int × Int × Int × Unit) × Unit) × ((List UInt8) × Bool × (List (List UInt8)) × Int × Int × Unit))) → Option ((((Unit) × ((List Int) × (List Int) × Unit)) × (((List Int × List Int × Int × Int × Int × Int × Int × Unit) × (Unit × Unit × Int × Int × Int × Int × Int × Unit) × Unit) × ((List UInt8) × Bool × Unit))))) (d : (((Unit) × ((List Int) × (List Int) × Unit)) × (((List Int × List Int × Int × Int × Int × Int × Int × Unit) × (Unit × Unit × Int × Int × Int × Int × Int × Unit) × Unit) × ((List UInt8) × Bool × (List (List UInt8)) × Int × Int × Unit)))) : Option ((((Unit) × ((List Int) × (List Int) × Unit)) × (((List Int × List Int × Int × Int × Int × Int × Int × Unit) × (Unit × Unit × Int × Int × Int × Int × Int × Unit) × Unit) × ((List UInt8) × Bool × Unit)))) :=
  bif decide (d.2.2.2.2.2.2.1 < d.2.2.2.2.2.1) then
    bif (decide ((0 : Int) ≤ d.2.2.2.2.2.2.1) && decide (d.2.2.2.2.2.2.1 < (d.2.2.2.2.1.length : Int))) then
      (impl_split () ((d.2.2.2.2.1.getD d.2.2.2.2.2.2.1.toNat ([] : List UInt8)), ())).bind fun r10 =>
      (impl_words_integer r10.2 (())).bind fun r11 =>
      bif decide (d.1.2.1.length + ((([r11.2.1] : List Int).drop 0).take 1).length ≤ maxRow) then
        let l12 : List Int := (d.1.2.1.take d.1.2.1.length ++ ((([r11.2.1] : List Int).drop 0).take 1))
        (impl_words_integer r11.1 (())).bind fun r13 =>
        bif decide (d.1.2.2.1.length + ((([r13.2.1] : List Int).drop 0).take 1).length ≤ maxRow) then
          let l14 : List Int := (d.1.2.2.1.take d.1.2.2.1.length ++ ((([r13.2.1] : List Int).drop 0).take 1))
          bif d.2.2.2.1 then
            (impl_words_done r13.1 (())).bind fun r15 =>
            bif (((decide ((d.1.2.1.length + ((([r11.2.1] : List Int).drop 0).take 1).length) = l12.length) && (decide ((d.1.2.2.1.length + ((([r13.2.1] : List Int).drop 0).take 1).length) = l14.length) && true)) && true) && true) then
              (g (((), (l12, l14, ())), ((d.2.1.1, ((), (), d.2.1.2.1.2.2.1, d.2.1.2.1.2.2.2.1, d.2.1.2.1.2.2.2.2.1, d.2.1.2.1.2.2.2.2.2.1, d.2.1.2.1.2.2.2.2.2.2.1, ()), ()), (d.2.2.1, r15.2.1, d.2.2.2.2.1, d.2.2.2.2.2.1, (IntKind.i64.wrap (d.2.2.2.2.2.2.1 + (1 : Int))), ())))).bind some
            else
              none
          else
            bif (((decide ((d.1.2.1.length + ((([r11.2.1] : List Int).drop 0).take 1).length) = l12.length) && (decide ((d.1.2.2.1.length + ((([r13.2.1] : List Int).drop 0).take 1).length) = l14.length) && true)) && true) && true) then
              (g (((), (l12, l14, ())), ((d.2.1.1, ((), (), d.2.1.2.1.2.2.1, d.2.1.2.1.2.2.2.1, d.2.1.2.1.2.2.2.2.1, d.2.1.2.1.2.2.2.2.2.1, d.2.1.2.1.2.2.2.2.2.2.1, ()), ()), (d.2.2.1, false, d.2.2.2.2.1, d.2.2.2.2.2.1, (IntKind.i64.wrap (d.2.2.2.2.2.2.1 + (1 : Int))), ())))).bind some
            else
              none
        else
          none
      else
        none
    else
      none
  else
    bif (((decide (d.1.2.1.length = d.1.2.1.length) && (decide (d.1.2.2.1.length = d.1.2.2.1.length) && true)) && true) && true) then
      some (((), (d.1.2.1, d.1.2.2.1, ())), ((d.2.1.1, ((), (), d.2.1.2.1.2.2.1, d.2.1.2.1.2.2.2.1, d.2.1.2.1.2.2.2.2.1, d.2.1.2.1.2.2.2.2.2.1, d.2.1.2.1.2.2.2.2.2.2.1, ()), ()), (d.2.2.1, d.2.2.2.1, ())))
    else
      none
def impl_ReadSeason.l0 : Nat → (((Unit) × ((List Int) × (List Int) × Unit)) × (((List Int × List Int × Int × Int × Int × Int × Int × Unit) × (Unit × Unit × Int × Int × Int × Int × Int × Unit) × Unit) × ((List UInt8) × Bool × (List (List UInt8)) × Int × Int × Unit))) → Option ((((Unit) × ((List Int) × (List Int) × Unit)) × (((List Int × List Int × Int × Int × Int × Int × Int × Unit) × (Unit × Unit × Int × Int × Int × Int × Int × Unit) × Unit) × ((List UInt8) × Bool × Unit))))
  | 0, _ => none
  | n + 1, d => impl_ReadSeason.l0.st (impl_ReadSeason.l0 n) d
def impl_ReadSeason (rd : Unit) (d : (List UInt8 × Unit)) : Option (Unit × ((List Int × List Int × Int × Int × Int × Int × Int × Unit) × Int × Unit)) :=
  (impl_linesOf () (d.1, ())).bind fun r1 =>
  bif (!r1.2.2.1) then
    some ((), ((([] : List Int), ([] : List Int), (0 : Int), (0 : Int), (0 : Int), (0 : Int), (0 : Int), ()), (5 : Int), ()))
  else
    bif decide ((r1.2.1.length : Int) < (1 : Int)) then
      some ((), ((([] : List Int), ([] : List Int), (0 : Int), (0 : Int), (0 : Int), (0 : Int), (0 : Int), ()), (5 : Int), ()))
    else
      bif decide ((r1.2.1.length : Int) > (25 : Int)) then
        some ((), ((([] : List Int), ([] : List Int), (0 : Int), (0 : Int), (0 : Int), (0 : Int), (0 : Int), ()), (5 : Int), ()))
      else
        bif decide ((0 : Int) < (r1.2.1.length : Int)) then
          (impl_split () ((r1.2.1.getD 0 ([] : List UInt8)), ())).bind fun r2 =>
          (impl_words_is r2.2 (([115, 101, 97, 115, 111, 110] : List UInt8), ())).bind fun r3 =>
          (impl_words_integer r3.1 (())).bind fun r4 =>
          (impl_words_integer r4.1 (())).bind fun r5 =>
          (impl_words_integer r5.1 (())).bind fun r6 =>
          (impl_words_integer r6.1 (())).bind fun r7 =>
          (impl_words_integer r7.1 (())).bind fun r8 =>
          (impl_words_done r8.1 (())).bind fun r9 =>
          bif (decide ((1 : Int) ≤ (r1.2.1.length : Int)) && decide ((r1.2.1.length : Int) ≤ (r1.2.1.length : Int))) then
            bif (((decide (0 = ([] : List Int).length) && (decide (0 = ([] : List Int).length) && true)) && true) && true) then
              (impl_ReadSeason.l0 fuel (((), (([] : List Int), ([] : List Int), ())), (((([] : List Int), ([] : List Int), (0 : Int), (0 : Int), (0 : Int), (0 : Int), (0 : Int), ()), ((), (), r4.2.1, r5.2.1, r6.2.1, r7.2.1, r8.2.1, ()), ()), (d.1, r9.2.1, ((r1.2.1.drop 1).take (((r1.2.1.length : Int)).toNat - 1)), (((r1.2.1.drop 1).take (((r1.2.1.length : Int)).toNat - 1)).length : Int), (0 : Int), ())))).bind fun z17 =>
              bif (!z17.2.2.2.1) then
                some ((), ((([] : List Int), ([] : List Int), (0 : Int), (0 : Int), (0 : Int), (0 : Int), (0 : Int), ()), (5 : Int), ()))
              else
                (impl_ValidSeason () ((((z17.1.2.1.drop 0).take z17.1.2.1.length), ((z17.1.2.2.1.drop 0).take z17.1.2.2.1.length), z17.2.1.2.1.2.2.1, z17.2.1.2.1.2.2.2.1, z17.2.1.2.1.2.2.2.2.1, z17.2.1.2.1.2.2.2.2.2.1, z17.2.1.2.1.2.2.2.2.2.2.1, ()), ())).bind fun r18 =>
                bif (!r18.2.1) then
                  some ((), ((([] : List Int), ([] : List Int), (0 : Int), (0 : Int), (0 : Int), (0 : Int), (0 : Int), ()), (5 : Int), ()))
                else
                  (impl_seasonText () ((((z17.1.2.1.drop 0).take z17.1.2.1.length), ((z17.1.2.2.1.drop 0).take z17.1.2.2.1.length), z17.2.1.2.1.2.2.1, z17.2.1.2.1.2.2.2.1, z17.2.1.2.1.2.2.2.2.1, z17.2.1.2.1.2.2.2.2.2.1, z17.2.1.2.1.2.2.2.2.2.2.1, ()), ())).bind fun r19 =>
                  bif (r19.2.1 != z17.2.2.1) then
                    some ((), ((([] : List Int), ([] : List Int), (0 : Int), (0 : Int), (0 : Int), (0 : Int), (0 : Int), ()), (5 : Int), ()))
                  else
                    some ((), (((z17.1.2.1.take z17.1.2.1.length), (z17.1.2.2.1.take z17.1.2.2.1.length), z17.2.1.2.1.2.2.1, z17.2.1.2.1.2.2.2.1, z17.2.1.2.1.2.2.2.2.1, z17.2.1.2.1.2.2.2.2.2.1, z17.2.1.2.1.2.2.2.2.2.2.1, ()), (0 : Int), ()))
            else
              none
          else
            none
        else
          none
noncomputable def impl_ReadSeason.code : Code := Tryd.f9.body.getD .skip
theorem impl_ReadSeason.fn : Fun Tryd.prog 9 Tryd.f9 impl_ReadSeason.code := ⟨by kernel_rfl, by kernel_rfl, by kernel_rfl⟩
noncomputable def impl_ReadSeason.es : List (Ent Tryd.prog) := [impl_split.ent, impl_words_integer.ent, impl_words_done.ent, impl_linesOf.ent, impl_words_is.ent, impl_ValidSeason.ent, impl_seasonText.ent]
noncomputable def impl_ReadSeason.l0.c : Code := loopAt impl_ReadSeason.code 0
noncomputable def impl_ReadSeason.l0.ts : List LoopT := []
theorem impl_ReadSeason.l0.lok {β : Type} : LoopsOK Tryd.prog (lpT (β := β) impl_ReadSeason.l0.ts) impl_ReadSeason.l0.c 1 := LoopsOK_T trivial
noncomputable def impl_ReadSeason.l0.hd : SPat := { heap := [.box (.dat true (.st (.cons (.sl (.int .i64)) (.cons (.sl (.int .i64)) (.cons (.int .i64) (.cons (.int .i64) (.cons (.int .i64) (.cons (.int .i64) (.cons (.int .i64) .nil))))))))), .dead, .box (.st (.cons (.own 3 (.int .i64)) (.cons (.own 4 (.int .i64)) (.cons (.dat true (.int .i64)) (.cons (.dat true (.int .i64)) (.cons (.dat true (.int .i64)) (.cons (.dat true (.int .i64)) (.cons (.dat true (.int .i64)) .nil))))))))], rows := [{ fr := true, t := (.int .i64), loc := (.box 2 [0]), cut := false }, { fr := true, t := (.int .i64), loc := (.box 2 [1]), cut := false }], tmps := [.val (.dat true .str), .u .junk, .u (.ref 0 [] (.st (.cons (.sl (.int .i64)) (.cons (.sl (.int .i64)) (.cons (.int .i64) (.cons (.int .i64) (.cons (.int .i64) (.cons (.int .i64) (.cons (.int .i64) .nil)))))))))] ++ (jk 4) ++ [.u (.ref 2 [] (.st (.cons (.sl (.int .i64)) (.cons (.sl (.int .i64)) (.cons (.int .i64) (.cons (.int .i64) (.cons (.int .i64) (.cons (.int .i64) (.cons (.int .i64) .nil))))))))), .val (.dat true .bool)] ++ (jk 46) ++ [.val (.dat true (.sl .str)), .val (.dat true (.int .i64)), .val (.dat true (.int .i64))] ++ (jk 40) }
noncomputable def impl_ReadSeason.l0.xs : Exits := [(.exit 0, { heap := [.box (.dat true (.st (.cons (.sl (.int .i64)) (.cons (.sl (.int .i64)) (.cons (.int .i64) (.cons (.int .i64) (.cons (.int .i64) (.cons (.int .i64) (.cons (.int .i64) .nil))))))))), .dead, .box (.st (.cons (.own 3 (.int .i64)) (.cons (.own 4 (.int .i64)) (.cons (.dat true (.int .i64)) (.cons (.dat true (.int .i64)) (.cons (.dat true (.int .i64)) (.cons (.dat true (.int .i64)) (.cons (.dat true (.int .i64)) .nil))))))))], rows := [{ fr := true, t := (.int .i64), loc := (.box 2 [0]), cut := false }, { fr := true, t := (.int .i64), loc := (.box 2 [1]), cut := false }], tmps := [.val (.dat true .str), .u .junk, .u (.ref 0 [] (.st (.cons (.sl (.int .i64)) (.cons (.sl (.int .i64)) (.cons (.int .i64) (.cons (.int .i64) (.cons (.int .i64) (.cons (.int .i64) (.cons (.int .i64) .nil)))))))))] ++ (jk 4) ++ [.u (.ref 2 [] (.st (.cons (.sl (.int .i64)) (.cons (.sl (.int .i64)) (.cons (.int .i64) (.cons (.int .i64) (.cons (.int .i64) (.cons (.int .i64) (.cons (.int .i64) .nil))))))))), .val (.dat true .bool)] ++ (jk 89) })]
noncomputable def impl_ReadSeason.l0.T : LoopT := ⟨0, impl_ReadSeason.l0.hd, impl_ReadSeason.l0.xs, impl_ReadSeason.l0 fuel⟩
theorem impl_ReadSeason.l0.step : StepB ty impl_ReadSeason.es impl_ReadSeason.l0.ts impl_ReadSeason.l0.c 1 impl_ReadSeason.l0.hd impl_ReadSeason.l0.xs impl_ReadSeason.l0 := by intro n d; kernel_rfl
theorem impl_ReadSeason.l0.zero : @Zero impl_ReadSeason.l0.hd.D (ExD impl_ReadSeason.l0.xs) impl_ReadSeason.l0 := fun _ => rfl
theorem impl_ReadSeason.l0.ok {β : Type} : Sound Tryd.prog (.loop impl_ReadSeason.l0.c) (lpE (β := β) impl_ReadSeason.l0.hd impl_ReadSeason.l0.xs (impl_ReadSeason.l0 fuel)) := Sound.lp base impl_ReadSeason.l0.lok (by kernel_rfl) impl_ReadSeason.l0.zero impl_ReadSeason.l0.step fuel
noncomputable def impl_ReadSeason.ts : List LoopT := [impl_ReadSeason.l0.T]
theorem impl_ReadSeason.lok {β : Type} : LoopsOK Tryd.prog (lpT (β := β) impl_ReadSeason.ts) impl_ReadSeason.code 0 := LoopsOK_T ⟨impl_ReadSeason.l0.ok, trivial⟩
theorem impl_ReadSeason.eq : EqB ty impl_ReadSeason.es impl_ReadSeason.ts Tryd.f9 none [false] (.cons .str .nil) (.owned (.cons (.st (.cons (.sl (.int .i64)) (.cons (.sl (.int .i64)) (.cons (.int .i64) (.cons (.int .i64) (.cons (.int .i64) (.cons (.int .i64) (.cons (.int .i64) .nil)))))))) (.cons (.int .i64) .nil))) true impl_ReadSeason := by intro rd d; kernel_rfl
theorem impl_ReadSeason.sound : FSound Tryd.prog 9 none [false] (.cons .str .nil) (.owned (.cons (.st (.cons (.sl (.int .i64)) (.cons (.sl (.int .i64)) (.cons (.int .i64) (.cons (.int .i64) (.cons (.int .i64) (.cons (.int .i64) (.cons (.int .i64) .nil)))))))) (.cons (.int .i64) .nil))) true impl_ReadSeason := FSound.mk base impl_ReadSeason.fn impl_ReadSeason.lok impl_ReadSeason.eq
noncomputable def impl_ReadSeason.ent : Ent Tryd.prog := Ent.con 9 none [false] (.cons .str .nil) (.owned (.cons (.st (.cons (.sl (.int .i64)) (.cons (.sl (.int .i64)) (.cons (.int .i64) (.cons (.int .i64) (.cons (.int .i64) (.cons (.int .i64) (.cons (.int .i64) .nil)))))))) (.cons (.int .i64) .nil))) true impl_ReadSeason impl_ReadSeason.sound
def laws_eqInt64S.l0.st (g : (((Unit) × (Unit)) × ((Unit) × ((List Int) × (List Int) × Int × Unit))) → Option ((((Unit) × (Unit)) × ((Unit) × (Bool × Unit))) ⊕ (((Unit) × (Unit)) × ((Unit) × (Unit))))) (d : (((Unit) × (Unit)) × ((Unit) × ((List Int) × (List Int) × Int × Unit)))) : Option ((((Unit) × (Unit)) × ((Unit) × (Bool × Unit))) ⊕ (((Unit) × (Unit)) × ((Unit) × (Unit)))) :=
  bif decide (d.2.2.2.2.1 < (d.2.2.1.length : Int)) then
    bif (decide ((0 : Int) ≤ d.2.2.2.2.1) && decide (d.2.2.2.2.1 < (d.2.2.1.length : Int))) then
      bif (decide ((0 : Int) ≤ d.2.2.2.2.1) && decide (d.2.2.2.2.1 < (d.2.2.2.1.length : Int))) then
        let x1 : Bool := ((d.2.2.1.getD d.2.2.2.2.1.toNat (0 : Int)) != (d.2.2.2.1.getD d.2.2.2.2.1.toNat (0 : Int)))
        bif x1 then
          some (.inl (((), ()), ((), (false, ()))))
        else
          (g (((), ()), ((), (d.2.2.1, d.2.2.2.1, (IntKind.i64.wrap (d.2.2.2.2.1 + (1 : Int))), ())))).bind some
      else
        none
    else
      none
  else
    some (.inr (((), ()), ((), ())))
def laws_eqInt64S.l0 : Nat → (((Unit) × (Unit)) × ((Unit) × ((List Int) × (List Int) × Int × Unit))) → Option ((((Unit) × (Unit)) × ((Unit) × (Bool × Unit))) ⊕ (((Unit) × (Unit)) × ((Unit) × (Unit))))
  | 0, _ => none
  | n + 1, d => laws_eqInt64S.l0.st (laws_eqInt64S.l0 n) d
def laws_eqInt64S (rd : Unit) (d : (List Int × List Int × Unit)) : Option (Unit × (Bool × Unit)) :=
  bif ((d.1.length : Int) != (d.2.1.length : Int)) then
    some ((), (false, ()))
  else
    (laws_eqInt64S.l0 fuel (((), ()), ((), (d.1, d.2.1, (0 : Int), ())))).bind fun y2 =>
    Sum.elim
      (fun z3 =>
        some ((), (z3.2.2.1, ())))
      (fun z4 =>
        some ((), (true, ()))) y2
noncomputable def laws_eqInt64S.code : Code := Tryd.f30.body.getD .skip
theorem laws_eqInt64S.fn : Fun Tryd.prog 30 Tryd.f30 laws_eqInt64S.code := ⟨by kernel_rfl, by kernel_rfl, by kernel_rfl⟩
noncomputable def laws_eqInt64S.es : List (Ent Tryd.prog) := []
noncomputable def laws_eqInt64S.l0.c : Code := loopAt laws_eqInt64S.code 0
noncomputable def laws_eqInt64S.l0.ts : List LoopT := []
theorem laws_eqInt64S.l0.lok {β : Type} : LoopsOK Tryd.prog (lpT (β := β) laws_eqInt64S.l0.ts) laws_eqInt64S.l0.c 1 := LoopsOK_T trivial
noncomputable def laws_eqInt64S.l0.hd : SPat := { heap := [], rows := [], tmps := [.val (.dat false (.sl (.int .i64))), .val (.dat false (.sl (.int .i64)))] ++ (jk 3) ++ [.val (.dat true (.int .i64))] ++ (jk 20) }
noncomputable def laws_eqInt64S.l0.xs : Exits := [(.ret, { heap := [], rows := [], tmps := (jk 4) ++ [.val (.dat true .bool)] ++ (jk 21) }), (.exit 0, { heap := [], rows := [], tmps := (jk 26) })]
noncomputable def laws_eqInt64S.l0.T : LoopT := ⟨0, laws_eqInt64S.l0.hd, laws_eqInt64S.l0.xs, laws_eqInt64S.l0 fuel⟩
theorem laws_eqInt64S.l0.step : StepB ty laws_eqInt64S.es laws_eqInt64S.l0.ts laws_eqInt64S.l0.c 1 laws_eqInt64S.l0.hd laws_eqInt64S.l0.xs laws_eqInt64S.l0 := by intro n d; kernel_rfl
theorem laws_eqInt64S.l0.zero : @Zero laws_eqInt64S.l0.hd.D (ExD laws_eqInt64S.l0.xs) laws_eqInt64S.l0 := fun _ => rfl
theorem laws_eqInt64S.l0.ok {β : Type} : Sound Tryd.prog (.loop laws_eqInt64S.l0.c) (lpE (β := β) laws_eqInt64S.l0.hd laws_eqInt64S.l0.xs (laws_eqInt64S.l0 fuel)) := Sound.lp base laws_eqInt64S.l0.lok (by kernel_rfl) laws_eqInt64S.l0.zero laws_eqInt64S.l0.step fuel
noncomputable def laws_eqInt64S.ts : List LoopT := [laws_eqInt64S.l0.T]
theorem laws_eqInt64S.lok {β : Type} : LoopsOK Tryd.prog (lpT (β := β) laws_eqInt64S.ts) laws_eqInt64S.code 0 := LoopsOK_T ⟨laws_eqInt64S.l0.ok, trivial⟩
theorem laws_eqInt64S.eq : EqB ty laws_eqInt64S.es laws_eqInt64S.ts Tryd.f30 none [false, false] (.cons (.sl (.int .i64)) (.cons (.sl (.int .i64)) .nil)) (.vals (.cons .bool .nil)) true laws_eqInt64S := by intro rd d; kernel_rfl
theorem laws_eqInt64S.sound : FSound Tryd.prog 30 none [false, false] (.cons (.sl (.int .i64)) (.cons (.sl (.int .i64)) .nil)) (.vals (.cons .bool .nil)) true laws_eqInt64S := FSound.mk base laws_eqInt64S.fn laws_eqInt64S.lok laws_eqInt64S.eq
noncomputable def laws_eqInt64S.ent : Ent Tryd.prog := Ent.con 30 none [false, false] (.cons (.sl (.int .i64)) (.cons (.sl (.int .i64)) .nil)) (.vals (.cons .bool .nil)) true laws_eqInt64S laws_eqInt64S.sound
def laws_eqSeason (rd : Unit) (d : ((List Int × List Int × Int × Int × Int × Int × Int × Unit) × (List Int × List Int × Int × Int × Int × Int × Int × Unit) × Unit)) : Option (Unit × (Bool × Unit)) :=
  (laws_eqInt64S () (d.1.1, d.2.1.1, ())).bind fun r1 =>
  bif (!r1.2.1) then
    some ((), (false, ()))
  else
    (laws_eqInt64S () (d.1.2.1, d.2.1.2.1, ())).bind fun r2 =>
    bif (!r2.2.1) then
      some ((), (false, ()))
    else
      bif (d.1.2.2.1 != d.2.1.2.2.1) then
        some ((), (false, ()))
      else
        bif (d.1.2.2.2.1 != d.2.1.2.2.2.1) then
          some ((), (false, ()))
        else
          bif (d.1.2.2.2.2.1 != d.2.1.2.2.2.2.1) then
            some ((), (false, ()))
          else
            bif (d.1.2.2.2.2.2.1 != d.2.1.2.2.2.2.2.1) then
              some ((), (false, ()))
            else
              bif (d.1.2.2.2.2.2.2.1 != d.2.1.2.2.2.2.2.2.1) then
                some ((), (false, ()))
              else
                some ((), (true, ()))
noncomputable def laws_eqSeason.code : Code := Tryd.f10.body.getD .skip
theorem laws_eqSeason.fn : Fun Tryd.prog 10 Tryd.f10 laws_eqSeason.code := ⟨by kernel_rfl, by kernel_rfl, by kernel_rfl⟩
noncomputable def laws_eqSeason.es : List (Ent Tryd.prog) := [laws_eqInt64S.ent]
noncomputable def laws_eqSeason.ts : List LoopT := []
theorem laws_eqSeason.lok {β : Type} : LoopsOK Tryd.prog (lpT (β := β) laws_eqSeason.ts) laws_eqSeason.code 0 := LoopsOK_T trivial
theorem laws_eqSeason.eq : EqB ty laws_eqSeason.es laws_eqSeason.ts Tryd.f10 none [false, false] (.cons (.st (.cons (.sl (.int .i64)) (.cons (.sl (.int .i64)) (.cons (.int .i64) (.cons (.int .i64) (.cons (.int .i64) (.cons (.int .i64) (.cons (.int .i64) .nil)))))))) (.cons (.st (.cons (.sl (.int .i64)) (.cons (.sl (.int .i64)) (.cons (.int .i64) (.cons (.int .i64) (.cons (.int .i64) (.cons (.int .i64) (.cons (.int .i64) .nil)))))))) .nil)) (.vals (.cons .bool .nil)) true laws_eqSeason := by intro rd d; kernel_rfl
theorem laws_eqSeason.sound : FSound Tryd.prog 10 none [false, false] (.cons (.st (.cons (.sl (.int .i64)) (.cons (.sl (.int .i64)) (.cons (.int .i64) (.cons (.int .i64) (.cons (.int .i64) (.cons (.int .i64) (.cons (.int .i64) .nil)))))))) (.cons (.st (.cons (.sl (.int .i64)) (.cons (.sl (.int .i64)) (.cons (.int .i64) (.cons (.int .i64) (.cons (.int .i64) (.cons (.int .i64) (.cons (.int .i64) .nil)))))))) .nil)) (.vals (.cons .bool .nil)) true laws_eqSeason := FSound.mk base laws_eqSeason.fn laws_eqSeason.lok laws_eqSeason.eq
noncomputable def laws_eqSeason.ent : Ent Tryd.prog := Ent.con 10 none [false, false] (.cons (.st (.cons (.sl (.int .i64)) (.cons (.sl (.int .i64)) (.cons (.int .i64) (.cons (.int .i64) (.cons (.int .i64) (.cons (.int .i64) (.cons (.int .i64) .nil)))))))) (.cons (.st (.cons (.sl (.int .i64)) (.cons (.sl (.int .i64)) (.cons (.int .i64) (.cons (.int .i64) (.cons (.int .i64) (.cons (.int .i64) (.cons (.int .i64) .nil)))))))) .nil)) (.vals (.cons .bool .nil)) true laws_eqSeason laws_eqSeason.sound
def laws_heldInt64S.l0.st (g : (((Unit) × (Unit)) × ((Unit) × ((List Int) × Int × Int × Unit))) → Option ((((Unit) × (Unit)) × ((Unit) × (Int × Unit))) ⊕ (((Unit) × (Unit)) × ((Unit) × (Int × Unit))))) (d : (((Unit) × (Unit)) × ((Unit) × ((List Int) × Int × Int × Unit)))) : Option ((((Unit) × (Unit)) × ((Unit) × (Int × Unit))) ⊕ (((Unit) × (Unit)) × ((Unit) × (Int × Unit)))) :=
  bif decide (d.2.2.2.2.1 < (d.2.2.1.length : Int)) then
    bif (decide ((0 : Int) ≤ d.2.2.2.2.1) && decide (d.2.2.2.2.1 < (d.2.2.1.length : Int))) then
      bif ((d.2.2.1.getD d.2.2.2.2.1.toNat (0 : Int)) != d.2.2.2.1) then
        some (.inl (((), ()), ((), ((-1 : Int), ()))))
      else
        (g (((), ()), ((), (d.2.2.1, (IntKind.i64.wrap (d.2.2.2.1 + (1 : Int))), (IntKind.i64.wrap (d.2.2.2.2.1 + (1 : Int))), ())))).bind some
    else
      none
  else
    some (.inr (((), ()), ((), (d.2.2.2.1, ()))))
def laws_heldInt64S.l0 : Nat → (((Unit) × (Unit)) × ((Unit) × ((List Int) × Int × Int × Unit))) → Option ((((Unit) × (Unit)) × ((Unit) × (Int × Unit))) ⊕ (((Unit) × (Unit)) × ((Unit) × (Int × Unit))))
  | 0, _ => none
  | n + 1, d => laws_heldInt64S.l0.st (laws_heldInt64S.l0 n) d
def laws_heldInt64S (rd : Unit) (d : (List Int × Int × Unit)) : Option (Unit × (Int × Unit)) :=
  (laws_heldInt64S.l0 fuel (((), ()), ((), (d.1, d.2.1, (0 : Int), ())))).bind fun y1 =>
  Sum.elim
    (fun z2 =>
      some ((), (z2.2.2.1, ())))
    (fun z3 =>
      some ((), (z3.2.2.1, ()))) y1
noncomputable def laws_heldInt64S.code : Code := Tryd.f32.body.getD .skip
theorem laws_heldInt64S.fn : Fun Tryd.prog 32 Tryd.f32 laws_heldInt64S.code := ⟨by kernel_rfl, by kernel_rfl, by kernel_rfl⟩
noncomputable def laws_heldInt64S.es : List (Ent Tryd.prog) := []
noncomputable def laws_heldInt64S.l0.c : Code := loopAt laws_heldInt64S.code 0
noncomputable def laws_heldInt64S.l0.ts : List LoopT := []
theorem laws_heldInt64S.l0.lok {β : Type} : LoopsOK Tryd.prog (lpT (β := β) laws_heldInt64S.l0.ts) laws_heldInt64S.l0.c 1 := LoopsOK_T trivial
noncomputable def laws_heldInt64S.l0.hd : SPat := { heap := [], rows := [], tmps := [.val (.dat false (.sl (.int .i64))), .val (.dat true (.int .i64))] ++ (jk 3) ++ [.val (.dat true (.int .i64))] ++ (jk 15) }
noncomputable def laws_heldInt64S.l0.xs : Exits := [(.ret, { heap := [], rows := [], tmps := (jk 4) ++ [.val (.dat true (.int .i64))] ++ (jk 16) }), (.exit 0, { heap := [], rows := [], tmps := [.u .junk, .val (.dat true (.int .i64))] ++ (jk 19) })]
noncomputable def laws_heldInt64S.l0.T : LoopT := ⟨0, laws_heldInt64S.l0.hd, laws_heldInt64S.l0.xs, laws_heldInt64S.l0 fuel⟩
theorem laws_heldInt64S.l0.step : StepB ty laws_heldInt64S.es laws_heldInt64S.l0.ts laws_heldInt64S.l0.c 1 laws_heldInt64S.l0.hd laws_heldInt64S.l0.xs laws_heldInt64S.l0 := by intro n d; kernel_rfl
theorem laws_heldInt64S.l0.zero : @Zero laws_heldInt64S.l0.hd.D (ExD laws_heldInt64S.l0.xs) laws_heldInt64S.l0 := fun _ => rfl
theorem laws_heldInt64S.l0.ok {β : Type} : Sound Tryd.prog (.loop laws_heldInt64S.l0.c) (lpE (β := β) laws_heldInt64S.l0.hd laws_heldInt64S.l0.xs (laws_heldInt64S.l0 fuel)) := Sound.lp base laws_heldInt64S.l0.lok (by kernel_rfl) laws_heldInt64S.l0.zero laws_heldInt64S.l0.step fuel
noncomputable def laws_heldInt64S.ts : List LoopT := [laws_heldInt64S.l0.T]
theorem laws_heldInt64S.lok {β : Type} : LoopsOK Tryd.prog (lpT (β := β) laws_heldInt64S.ts) laws_heldInt64S.code 0 := LoopsOK_T ⟨laws_heldInt64S.l0.ok, trivial⟩
theorem laws_heldInt64S.eq : EqB ty laws_heldInt64S.es laws_heldInt64S.ts Tryd.f32 none [false, false] (.cons (.sl (.int .i64)) (.cons (.int .i64) .nil)) (.vals (.cons (.int .i64) .nil)) true laws_heldInt64S := by intro rd d; kernel_rfl
theorem laws_heldInt64S.sound : FSound Tryd.prog 32 none [false, false] (.cons (.sl (.int .i64)) (.cons (.int .i64) .nil)) (.vals (.cons (.int .i64) .nil)) true laws_heldInt64S := FSound.mk base laws_heldInt64S.fn laws_heldInt64S.lok laws_heldInt64S.eq
noncomputable def laws_heldInt64S.ent : Ent Tryd.prog := Ent.con 32 none [false, false] (.cons (.sl (.int .i64)) (.cons (.int .i64) .nil)) (.vals (.cons (.int .i64) .nil)) true laws_heldInt64S laws_heldInt64S.sound
def laws_heldSeason (rd : Unit) (d : ((List Int × List Int × Int × Int × Int × Int × Int × Unit) × Int × Unit)) : Option (Unit × (Int × Unit)) :=
  (laws_heldInt64S () (d.1.1, d.2.1, ())).bind fun r1 =>
  bif decide (r1.2.1 < (0 : Int)) then
    some ((), ((-1 : Int), ()))
  else
    (laws_heldInt64S () (d.1.2.1, r1.2.1, ())).bind fun r2 =>
    bif decide (r2.2.1 < (0 : Int)) then
      some ((), ((-1 : Int), ()))
    else
      some ((), (r2.2.1, ()))
noncomputable def laws_heldSeason.code : Code := Tryd.f12.body.getD .skip
theorem laws_heldSeason.fn : Fun Tryd.prog 12 Tryd.f12 laws_heldSeason.code := ⟨by kernel_rfl, by kernel_rfl, by kernel_rfl⟩
noncomputable def laws_heldSeason.es : List (Ent Tryd.prog) := [laws_heldInt64S.ent]
noncomputable def laws_heldSeason.ts : List LoopT := []
theorem laws_heldSeason.lok {β : Type} : LoopsOK Tryd.prog (lpT (β := β) laws_heldSeason.ts) laws_heldSeason.code 0 := LoopsOK_T trivial
theorem laws_heldSeason.eq : EqB ty laws_heldSeason.es laws_heldSeason.ts Tryd.f12 none [false, false] (.cons (.st (.cons (.sl (.int .i64)) (.cons (.sl (.int .i64)) (.cons (.int .i64) (.cons (.int .i64) (.cons (.int .i64) (.cons (.int .i64) (.cons (.int .i64) .nil)))))))) (.cons (.int .i64) .nil)) (.vals (.cons (.int .i64) .nil)) true laws_heldSeason := by intro rd d; kernel_rfl
theorem laws_heldSeason.sound : FSound Tryd.prog 12 none [false, false] (.cons (.st (.cons (.sl (.int .i64)) (.cons (.sl (.int .i64)) (.cons (.int .i64) (.cons (.int .i64) (.cons (.int .i64) (.cons (.int .i64) (.cons (.int .i64) .nil)))))))) (.cons (.int .i64) .nil)) (.vals (.cons (.int .i64) .nil)) true laws_heldSeason := FSound.mk base laws_heldSeason.fn laws_heldSeason.lok laws_heldSeason.eq
noncomputable def laws_heldSeason.ent : Ent Tryd.prog := Ent.con 12 none [false, false] (.cons (.st (.cons (.sl (.int .i64)) (.cons (.sl (.int .i64)) (.cons (.int .i64) (.cons (.int .i64) (.cons (.int .i64) (.cons (.int .i64) (.cons (.int .i64) .nil)))))))) (.cons (.int .i64) .nil)) (.vals (.cons (.int .i64) .nil)) true laws_heldSeason laws_heldSeason.sound
def laws_FnExactReadSeason.laws_markInt64S.l0s0.st (g : ((((List Int) × (List Int) × Unit) × (Unit)) × (((List Int × List Int × Int × Int × Int × Int × Int × Unit) × (Unit × Unit × Int × Int × Int × Int × Int × Unit) × (Unit × Unit × Int × Int × Int × Int × Int × Unit) × Unit) × (Int × Int × Unit))) → Option (((((List Int) × (List Int) × Unit) × (Unit)) × (((List Int × List Int × Int × Int × Int × Int × Int × Unit) × (Unit × Unit × Int × Int × Int × Int × Int × Unit) × (Unit × Unit × Int × Int × Int × Int × Int × Unit) × Unit) × (Int × Unit))))) (d : ((((List Int) × (List Int) × Unit) × (Unit)) × (((List Int × List Int × Int × Int × Int × Int × Int × Unit) × (Unit × Unit × Int × Int × Int × Int × Int × Unit) × (Unit × Unit × Int × Int × Int × Int × Int × Unit) × Unit) × (Int × Int × Unit)))) : Option (((((List Int) × (List Int) × Unit) × (Unit)) × (((List Int × List Int × Int × Int × Int × Int × Int × Unit) × (Unit × Unit × Int × Int × Int × Int × Int × Unit) × (Unit × Unit × Int × Int × Int × Int × Int × Unit) × Unit) × (Int × Unit)))) :=
  bif decide (d.2.2.2.1 < (d.1.1.1.length : Int)) then
    bif (decide ((0 : Int) ≤ d.2.2.2.1) && decide (d.2.2.2.1 < (d.1.1.1.length : Int))) then
      bif (((decide (d.1.1.1.length = (d.1.1.1.set (0 + d.2.2.2.1.toNat) d.2.2.1).length) && (decide (d.1.1.2.1.length = d.1.1.2.1.length) && true)) && ((decide (d.1.1.1.length = (d.1.1.1.set (0 + d.2.2.2.1.toNat) d.2.2.1).length) && (decide (d.1.1.2.1.length = d.1.1.2.1.length) && true)) && true)) && (decide (d.1.1.1.length = (d.1.1.1.set (0 + d.2.2.2.1.toNat) d.2.2.1).length) && true)) then
        (g ((((d.1.1.1.set (0 + d.2.2.2.1.toNat) d.2.2.1), d.1.1.2.1, ()), ()), ((d.2.1.1, ((), (), d.2.1.2.1.2.2.1, d.2.1.2.1.2.2.2.1, d.2.1.2.1.2.2.2.2.1, d.2.1.2.1.2.2.2.2.2.1, d.2.1.2.1.2.2.2.2.2.2.1, ()), ((), (), d.2.1.2.2.1.2.2.1, d.2.1.2.2.1.2.2.2.1, d.2.1.2.2.1.2.2.2.2.1, d.2.1.2.2.1.2.2.2.2.2.1, d.2.1.2.2.1.2.2.2.2.2.2.1, ()), ()), ((IntKind.i64.wrap (d.2.2.1 + (1 : Int))), (IntKind.i64.wrap (d.2.2.2.1 + (1 : Int))), ())))).bind some
      else
        none
    else
      none
  else
    bif (((decide (d.1.1.1.length = d.1.1.1.length) && (decide (d.1.1.2.1.length = d.1.1.2.1.length) && true)) && ((decide (d.1.1.1.length = d.1.1.1.length) && (decide (d.1.1.2.1.length = d.1.1.2.1.length) && true)) && true)) && true) then
      some (((d.1.1.1, d.1.1.2.1, ()), ()), ((d.2.1.1, ((), (), d.2.1.2.1.2.2.1, d.2.1.2.1.2.2.2.1, d.2.1.2.1.2.2.2.2.1, d.2.1.2.1.2.2.2.2.2.1, d.2.1.2.1.2.2.2.2.2.2.1, ()), ((), (), d.2.1.2.2.1.2.2.1, d.2.1.2.2.1.2.2.2.1, d.2.1.2.2.1.2.2.2.2.1, d.2.1.2.2.1.2.2.2.2.2.1, d.2.1.2.2.1.2.2.2.2.2.2.1, ()), ()), (d.2.2.1, ())))
    else
      none
def laws_FnExactReadSeason.laws_markInt64S.l0s0 : Nat → ((((List Int) × (List Int) × Unit) × (Unit)) × (((List Int × List Int × Int × Int × Int × Int × Int × Unit) × (Unit × Unit × Int × Int × Int × Int × Int × Unit) × (Unit × Unit × Int × Int × Int × Int × Int × Unit) × Unit) × (Int × Int × Unit))) → Option (((((List Int) × (List Int) × Unit) × (Unit)) × (((List Int × List Int × Int × Int × Int × Int × Int × Unit) × (Unit × Unit × Int × Int × Int × Int × Int × Unit) × (Unit × Unit × Int × Int × Int × Int × Int × Unit) × Unit) × (Int × Unit))))
  | 0, _ => none
  | n + 1, d => laws_FnExactReadSeason.laws_markInt64S.l0s0.st (laws_FnExactReadSeason.laws_markInt64S.l0s0 n) d
def laws_FnExactReadSeason.laws_markInt64S.l0s1.st (g : ((((List Int) × (List Int) × Unit) × (Unit)) × (((List Int × List Int × Int × Int × Int × Int × Int × Unit) × (Unit × Unit × Int × Int × Int × Int × Int × Unit) × (Unit × Unit × Int × Int × Int × Int × Int × Unit) × Unit) × (Int × Int × Unit))) → Option (((((List Int) × (List Int) × Unit) × (Unit)) × (((List Int × List Int × Int × Int × Int × Int × Int × Unit) × (Unit × Unit × Int × Int × Int × Int × Int × Unit) × (Unit × Unit × Int × Int × Int × Int × Int × Unit) × Unit) × (Int × Unit))))) (d : ((((List Int) × (List Int) × Unit) × (Unit)) × (((List Int × List Int × Int × Int × Int × Int × Int × Unit) × (Unit × Unit × Int × Int × Int × Int × Int × Unit) × (Unit × Unit × Int × Int × Int × Int × Int × Unit) × Unit) × (Int × Int × Unit)))) : Option (((((List Int) × (List Int) × Unit) × (Unit)) × (((List Int × List Int × Int × Int × Int × Int × Int × Unit) × (Unit × Unit × Int × Int × Int × Int × Int × Unit) × (Unit × Unit × Int × Int × Int × Int × Int × Unit) × Unit) × (Int × Unit)))) :=
  bif decide (d.2.2.2.1 < (d.1.1.2.1.length : Int)) then
    bif (decide ((0 : Int) ≤ d.2.2.2.1) && decide (d.2.2.2.1 < (d.1.1.2.1.length : Int))) then
      bif (((decide (d.1.1.1.length = d.1.1.1.length) && (decide (d.1.1.2.1.length = (d.1.1.2.1.set (0 + d.2.2.2.1.toNat) d.2.2.1).length) && true)) && ((decide (d.1.1.1.length = d.1.1.1.length) && (decide (d.1.1.2.1.length = (d.1.1.2.1.set (0 + d.2.2.2.1.toNat) d.2.2.1).length) && true)) && true)) && (decide (d.1.1.2.1.length = (d.1.1.2.1.set (0 + d.2.2.2.1.toNat) d.2.2.1).length) && true)) then
        (g (((d.1.1.1, (d.1.1.2.1.set (0 + d.2.2.2.1.toNat) d.2.2.1), ()), ()), ((d.2.1.1, ((), (), d.2.1.2.1.2.2.1, d.2.1.2.1.2.2.2.1, d.2.1.2.1.2.2.2.2.1, d.2.1.2.1.2.2.2.2.2.1, d.2.1.2.1.2.2.2.2.2.2.1, ()), ((), (), d.2.1.2.2.1.2.2.1, d.2.1.2.2.1.2.2.2.1, d.2.1.2.2.1.2.2.2.2.1, d.2.1.2.2.1.2.2.2.2.2.1, d.2.1.2.2.1.2.2.2.2.2.2.1, ()), ()), ((IntKind.i64.wrap (d.2.2.1 + (1 : Int))), (IntKind.i64.wrap (d.2.2.2.1 + (1 : Int))), ())))).bind some
      else
        none
    else
      none
  else
    bif (((decide (d.1.1.1.length = d.1.1.1.length) && (decide (d.1.1.2.1.length = d.1.1.2.1.length) && true)) && ((decide (d.1.1.1.length = d.1.1.1.length) && (decide (d.1.1.2.1.length = d.1.1.2.1.length) && true)) && true)) && true) then
      some (((d.1.1.1, d.1.1.2.1, ()), ()), ((d.2.1.1, ((), (), d.2.1.2.1.2.2.1, d.2.1.2.1.2.2.2.1, d.2.1.2.1.2.2.2.2.1, d.2.1.2.1.2.2.2.2.2.1, d.2.1.2.1.2.2.2.2.2.2.1, ()), ((), (), d.2.1.2.2.1.2.2.1, d.2.1.2.2.1.2.2.2.1, d.2.1.2.2.1.2.2.2.2.1, d.2.1.2.2.1.2.2.2.2.2.1, d.2.1.2.2.1.2.2.2.2.2.2.1, ()), ()), (d.2.2.1, ())))
    else
      none
def laws_FnExactReadSeason.laws_markInt64S.l0s1 : Nat → ((((List Int) × (List Int) × Unit) × (Unit)) × (((List Int × List Int × Int × Int × Int × Int × Int × Unit) × (Unit × Unit × Int × Int × Int × Int × Int × Unit) × (Unit × Unit × Int × Int × Int × Int × Int × Unit) × Unit) × (Int × Int × Unit))) → Option (((((List Int) × (List Int) × Unit) × (Unit)) × (((List Int × List Int × Int × Int × Int × Int × Int × Unit) × (Unit × Unit × Int × Int × Int × Int × Int × Unit) × (Unit × Unit × Int × Int × Int × Int × Int × Unit) × Unit) × (Int × Unit))))
  | 0, _ => none
  | n + 1, d => laws_FnExactReadSeason.laws_markInt64S.l0s1.st (laws_FnExactReadSeason.laws_markInt64S.l0s1 n) d
def laws_FnExactReadSeason (rd : Unit) (d : (List UInt8 × Unit)) : Option (Unit × (Bool × Unit)) :=
  bif decide ((d.1.length : Int) > (1048576 : Int)) then
    some ((), (true, ()))
  else
    (spec_ReadSeason () (d.1, ())).bind fun r1 =>
    (impl_ReadSeason () (d.1, ())).bind fun r2 =>
    (laws_eqSeason () ((((r2.2.1.1.drop 0).take r2.2.1.1.length), ((r2.2.1.2.1.drop 0).take r2.2.1.2.1.length), r2.2.1.2.2.1, r2.2.1.2.2.2.1, r2.2.1.2.2.2.2.1, r2.2.1.2.2.2.2.2.1, r2.2.1.2.2.2.2.2.2.1, ()), r1.2.1, ())).bind fun r3 =>
    bif (!r3.2.1) then
      some ((), (false, ()))
    else
      bif (r2.2.2.1 != r1.2.2.1) then
        some ((), (false, ()))
      else
        bif (((decide (r2.2.1.1.length = r2.2.1.1.length) && (decide (r2.2.1.2.1.length = r2.2.1.2.1.length) && true)) && ((decide (r2.2.1.1.length = r2.2.1.1.length) && (decide (r2.2.1.2.1.length = r2.2.1.2.1.length) && true)) && true)) && (decide (r2.2.1.1.length = r2.2.1.1.length) && true)) then
          (laws_FnExactReadSeason.laws_markInt64S.l0s0 fuel (((r2.2.1.1, r2.2.1.2.1, ()), ()), ((r1.2.1, ((), (), r2.2.1.2.2.1, r2.2.1.2.2.2.1, r2.2.1.2.2.2.2.1, r2.2.1.2.2.2.2.2.1, r2.2.1.2.2.2.2.2.2.1, ()), ((), (), r2.2.1.2.2.1, r2.2.1.2.2.2.1, r2.2.1.2.2.2.2.1, r2.2.1.2.2.2.2.2.1, r2.2.1.2.2.2.2.2.2.1, ()), ()), ((1 : Int), (0 : Int), ())))).bind fun z5 =>
          bif (((decide (z5.1.1.1.length = z5.1.1.1.length) && (decide (z5.1.1.2.1.length = z5.1.1.2.1.length) && true)) && ((decide (z5.1.1.1.length = z5.1.1.1.length) && (decide (z5.1.1.2.1.length = z5.1.1.2.1.length) && true)) && true)) && (decide (z5.1.1.2.1.length = z5.1.1.2.1.length) && true)) then
            (laws_FnExactReadSeason.laws_markInt64S.l0s1 fuel (((z5.1.1.1, z5.1.1.2.1, ()), ()), ((z5.2.1.1, ((), (), z5.2.1.2.1.2.2.1, z5.2.1.2.1.2.2.2.1, z5.2.1.2.1.2.2.2.2.1, z5.2.1.2.1.2.2.2.2.2.1, z5.2.1.2.1.2.2.2.2.2.2.1, ()), ((), (), z5.2.1.2.2.1.2.2.1, z5.2.1.2.2.1.2.2.2.1, z5.2.1.2.2.1.2.2.2.2.1, z5.2.1.2.2.1.2.2.2.2.2.1, z5.2.1.2.2.1.2.2.2.2.2.2.1, ()), ()), (z5.2.2.1, (0 : Int), ())))).bind fun z7 =>
            (laws_heldSeason () ((((z7.1.1.1.drop 0).take z7.1.1.1.length), ((z7.1.1.2.1.drop 0).take z7.1.1.2.1.length), z7.2.1.2.1.2.2.1, z7.2.1.2.1.2.2.2.1, z7.2.1.2.1.2.2.2.2.1, z7.2.1.2.1.2.2.2.2.2.1, z7.2.1.2.1.2.2.2.2.2.2.1, ()), (1 : Int), ())).bind fun r8 =>
            bif decide (r8.2.1 < (0 : Int)) then
              some ((), (false, ()))
            else
              bif (r8.2.1 != z7.2.2.1) then
                some ((), (false, ()))
              else
                (impl_ReadSeason () (d.1, ())).bind fun r9 =>
                (laws_eqSeason () ((((r9.2.1.1.drop 0).take r9.2.1.1.length), ((r9.2.1.2.1.drop 0).take r9.2.1.2.1.length), r9.2.1.2.2.1, r9.2.1.2.2.2.1, r9.2.1.2.2.2.2.1, r9.2.1.2.2.2.2.2.1, r9.2.1.2.2.2.2.2.2.1, ()), z7.2.1.1, ())).bind fun r10 =>
                bif (!r10.2.1) then
                  some ((), (false, ()))
                else
                  bif (r9.2.2.1 != r1.2.2.1) then
                    some ((), (false, ()))
                  else
                    (laws_heldSeason () ((((z7.1.1.1.drop 0).take z7.1.1.1.length), ((z7.1.1.2.1.drop 0).take z7.1.1.2.1.length), z7.2.1.2.1.2.2.1, z7.2.1.2.1.2.2.2.1, z7.2.1.2.1.2.2.2.2.1, z7.2.1.2.1.2.2.2.2.2.1, z7.2.1.2.1.2.2.2.2.2.2.1, ()), (1 : Int), ())).bind fun r11 =>
                    bif decide (r11.2.1 < (0 : Int)) then
                      some ((), (false, ()))
                    else
                      bif (r11.2.1 != z7.2.2.1) then
                        some ((), (false, ()))
                      else
                        some ((), (true, ()))
          else
            none
        else
          none
noncomputable def laws_FnExactReadSeason.laws_markInt64S.code : Code := Tryd.f31.body.getD .skip
theorem laws_FnExactReadSeason.laws_markInt64S.fn : Fun Tryd.prog 31 Tryd.f31 laws_FnExactReadSeason.laws_markInt64S.code := ⟨by kernel_rfl, by kernel_rfl, by kernel_rfl⟩
noncomputable def laws_FnExactReadSeason.laws_markInt64S.es : List (Ent Tryd.prog) := []
noncomputable def laws_FnExactReadSeason.laws_markInt64S.l0s1.c : Code := loopAt laws_FnExactReadSeason.laws_markInt64S.code 0
noncomputable def laws_FnExactReadSeason.laws_markInt64S.l0s0.c : Code := loopAt laws_FnExactReadSeason.laws_markInt64S.code 0
noncomputable def laws_FnExactReadSeason.laws_markInt64S.l0s0.ts : List LoopT := []
theorem laws_FnExactReadSeason.laws_markInt64S.l0s0.lok {β : Type} : LoopsOK Tryd.prog (lpT (β := β) laws_FnExactReadSeason.laws_markInt64S.l0s0.ts) laws_FnExactReadSeason.laws_markInt64S.l0s0.c 1 := LoopsOK_T trivial
noncomputable def laws_FnExactReadSeason.laws_markInt64S.l0s0.hd : SPat := { heap := [.box (.dat true (.st (.cons (.sl (.int .i64)) (.cons (.sl (.int .i64)) (.cons (.int .i64) (.cons (.int .i64) (.cons (.int .i64) (.cons (.int .i64) (.cons (.int .i64) .nil))))))))), .row true (.int .i64), .row true (.int .i64), .box (.st (.cons (.own 1 (.int .i64)) (.cons (.own 2 (.int .i64)) (.cons (.dat true (.int .i64)) (.cons (.dat true (.int .i64)) (.cons (.dat true (.int .i64)) (.cons (.dat true (.int .i64)) (.cons (.dat true (.int .i64)) .nil)))))))), .box (.st (.cons (.own 1 (.int .i64)) (.cons (.own 2 (.int .i64)) (.cons (.dat true (.int .i64)) (.cons (.dat true (.int .i64)) (.cons (.dat true (.int .i64)) (.cons (.dat true (.int .i64)) (.cons (.dat true (.int .i64)) .nil))))))))], rows := [], tmps := [.u (.own 1 (.int .i64)), .val (.dat true (.int .i64))] ++ (jk 3) ++ [.val (.dat true (.int .i64))] ++ (jk 13) }
noncomputable def laws_FnExactReadSeason.laws_markInt64S.l0s0.xs : Exits := [(.exit 0, { heap := [.box (.dat true (.st (.cons (.sl (.int .i64)) (.cons (.sl (.int .i64)) (.cons (.int .i64) (.cons (.int .i64) (.cons (.int .i64) (.cons (.int .i64) (.cons (.int .i64) .nil))))))))), .row true (.int .i64), .row true (.int .i64), .box (.st (.cons (.own 1 (.int .i64)) (.cons (.own 2 (.int .i64)) (.cons (.dat true (.int .i64)) (.cons (.dat true (.int .i64)) (.cons (.dat true (.int .i64)) (.cons (.dat true (.int .i64)) (.cons (.dat true (.int .i64)) .nil)))))))), .box (.st (.cons (.own 1 (.int .i64)) (.cons (.own 2 (.int .i64)) (.cons (.dat true (.int .i64)) (.cons (.dat true (.int .i64)) (.cons (.dat true (.int .i64)) (.cons (.dat true (.int .i64)) (.cons (.dat true (.int .i64)) .nil))))))))], rows := [], tmps := [.u .junk, .val (.dat true (.int .i64))] ++ (jk 17) })]
noncomputable def laws_FnExactReadSeason.laws_markInt64S.l0s0.T : LoopT := ⟨0, laws_FnExactReadSeason.laws_markInt64S.l0s0.hd, laws_FnExactReadSeason.laws_markInt64S.l0s0.xs, laws_FnExactReadSeason.laws_markInt64S.l0s0 fuel⟩
theorem laws_FnExactReadSeason.laws_markInt64S.l0s0.step : StepB ty laws_FnExactReadSeason.laws_markInt64S.es laws_FnExactReadSeason.laws_markInt64S.l0s0.ts laws_FnExactReadSeason.laws_markInt64S.l0s0.c 1 laws_FnExactReadSeason.laws_markInt64S.l0s0.hd laws_FnExactReadSeason.laws_markInt64S.l0s0.xs laws_FnExactReadSeason.laws_markInt64S.l0s0 := by intro n d; kernel_rfl
theorem laws_FnExactReadSeason.laws_markInt64S.l0s0.zero : @Zero laws_FnExactReadSeason.laws_markInt64S.l0s0.hd.D (ExD laws_FnExactReadSeason.laws_markInt64S.l0s0.xs) laws_FnExactReadSeason.laws_markInt64S.l0s0 := fun _ => rfl
theorem laws_FnExactReadSeason.laws_markInt64S.l0s0.ok {β : Type} : Sound Tryd.prog (.loop laws_FnExactReadSeason.laws_markInt64S.l0s0.c) (lpE (β := β) laws_FnExactReadSeason.laws_markInt64S.l0s0.hd laws_FnExactReadSeason.laws_markInt64S.l0s0.xs (laws_FnExactReadSeason.laws_markInt64S.l0s0 fuel)) := Sound.lp base laws_FnExactReadSeason.laws_markInt64S.l0s0.lok (by kernel_rfl) laws_FnExactReadSeason.laws_markInt64S.l0s0.zero laws_FnExactReadSeason.laws_markInt64S.l0s0.step fuel
noncomputable def laws_FnExactReadSeason.laws_markInt64S.l0s1.ts : List LoopT := []
theorem laws_FnExactReadSeason.laws_markInt64S.l0s1.lok {β : Type} : LoopsOK Tryd.prog (lpT (β := β) laws_FnExactReadSeason.laws_markInt64S.l0s1.ts) laws_FnExactReadSeason.laws_markInt64S.l0s1.c 1 := LoopsOK_T trivial
noncomputable def laws_FnExactReadSeason.laws_markInt64S.l0s1.hd : SPat := { heap := [.box (.dat true (.st (.cons (.sl (.int .i64)) (.cons (.sl (.int .i64)) (.cons (.int .i64) (.cons (.int .i64) (.cons (.int .i64) (.cons (.int .i64) (.cons (.int .i64) .nil))))))))), .row true (.int .i64), .row true (.int .i64), .box (.st (.cons (.own 1 (.int .i64)) (.cons (.own 2 (.int .i64)) (.cons (.dat true (.int .i64)) (.cons (.dat true (.int .i64)) (.cons (.dat true (.int .i64)) (.cons (.dat true (.int .i64)) (.cons (.dat true (.int .i64)) .nil)))))))), .box (.st (.cons (.own 1 (.int .i64)) (.cons (.own 2 (.int .i64)) (.cons (.dat true (.int .i64)) (.cons (.dat true (.int .i64)) (.cons (.dat true (.int .i64)) (.cons (.dat true (.int .i64)) (.cons (.dat true (.int .i64)) .nil))))))))], rows := [], tmps := [.u (.own 2 (.int .i64)), .val (.dat true (.int .i64))] ++ (jk 3) ++ [.val (.dat true (.int .i64))] ++ (jk 13) }
noncomputable def laws_FnExactReadSeason.laws_markInt64S.l0s1.xs : Exits := [(.exit 0, { heap := [.box (.dat true (.st (.cons (.sl (.int .i64)) (.cons (.sl (.int .i64)) (.cons (.int .i64) (.cons (.int .i64) (.cons (.int .i64) (.cons (.int .i64) (.cons (.int .i64) .nil))))))))), .row true (.int .i64), .row true (.int .i64), .box (.st (.cons (.own 1 (.int .i64)) (.cons (.own 2 (.int .i64)) (.cons (.dat true (.int .i64)) (.cons (.dat true (.int .i64)) (.cons (.dat true (.int .i64)) (.cons (.dat true (.int .i64)) (.cons (.dat true (.int .i64)) .nil)))))))), .box (.st (.cons (.own 1 (.int .i64)) (.cons (.own 2 (.int .i64)) (.cons (.dat true (.int .i64)) (.cons (.dat true (.int .i64)) (.cons (.dat true (.int .i64)) (.cons (.dat true (.int .i64)) (.cons (.dat true (.int .i64)) .nil))))))))], rows := [], tmps := [.u .junk, .val (.dat true (.int .i64))] ++ (jk 17) })]
noncomputable def laws_FnExactReadSeason.laws_markInt64S.l0s1.T : LoopT := ⟨0, laws_FnExactReadSeason.laws_markInt64S.l0s1.hd, laws_FnExactReadSeason.laws_markInt64S.l0s1.xs, laws_FnExactReadSeason.laws_markInt64S.l0s1 fuel⟩
theorem laws_FnExactReadSeason.laws_markInt64S.l0s1.step : StepB ty laws_FnExactReadSeason.laws_markInt64S.es laws_FnExactReadSeason.laws_markInt64S.l0s1.ts laws_FnExactReadSeason.laws_markInt64S.l0s1.c 1 laws_FnExactReadSeason.laws_markInt64S.l0s1.hd laws_FnExactReadSeason.laws_markInt64S.l0s1.xs laws_FnExactReadSeason.laws_markInt64S.l0s1 := by intro n d; kernel_rfl
theorem laws_FnExactReadSeason.laws_markInt64S.l0s1.zero : @Zero laws_FnExactReadSeason.laws_markInt64S.l0s1.hd.D (ExD laws_FnExactReadSeason.laws_markInt64S.l0s1.xs) laws_FnExactReadSeason.laws_markInt64S.l0s1 := fun _ => rfl
theorem laws_FnExactReadSeason.laws_markInt64S.l0s1.ok {β : Type} : Sound Tryd.prog (.loop laws_FnExactReadSeason.laws_markInt64S.l0s1.c) (lpE (β := β) laws_FnExactReadSeason.laws_markInt64S.l0s1.hd laws_FnExactReadSeason.laws_markInt64S.l0s1.xs (laws_FnExactReadSeason.laws_markInt64S.l0s1 fuel)) := Sound.lp base laws_FnExactReadSeason.laws_markInt64S.l0s1.lok (by kernel_rfl) laws_FnExactReadSeason.laws_markInt64S.l0s1.zero laws_FnExactReadSeason.laws_markInt64S.l0s1.step fuel
noncomputable def laws_FnExactReadSeason.laws_markInt64S.ts : List LoopT := [laws_FnExactReadSeason.laws_markInt64S.l0s0.T, laws_FnExactReadSeason.laws_markInt64S.l0s1.T]
theorem laws_FnExactReadSeason.laws_markInt64S.lok {β : Type} : LoopsOK Tryd.prog (lpT (β := β) laws_FnExactReadSeason.laws_markInt64S.ts) laws_FnExactReadSeason.laws_markInt64S.code 0 := LoopsOK_T ⟨laws_FnExactReadSeason.laws_markInt64S.l0s0.ok, laws_FnExactReadSeason.laws_markInt64S.l0s1.ok, trivial⟩
noncomputable def laws_FnExactReadSeason.laws_markInt64S.inl : Ent Tryd.prog := Ent.inl base laws_FnExactReadSeason.laws_markInt64S.fn laws_FnExactReadSeason.laws_markInt64S.es laws_FnExactReadSeason.laws_markInt64S.ts laws_FnExactReadSeason.laws_markInt64S.lok
noncomputable def laws_FnExactReadSeason.laws_markSeason.code : Code := Tryd.f11.body.getD .skip
theorem laws_FnExactReadSeason.laws_markSeason.fn : Fun Tryd.prog 11 Tryd.f11 laws_FnExactReadSeason.laws_markSeason.code := ⟨by kernel_rfl, by kernel_rfl, by kernel_rfl⟩
noncomputable def laws_FnExactReadSeason.laws_markSeason.es : List (Ent Tryd.prog) := [laws_FnExactReadSeason.laws_markInt64S.inl]
noncomputable def laws_FnExactReadSeason.laws_markSeason.ts : List LoopT := []
theorem laws_FnExactReadSeason.laws_markSeason.lok {β : Type} : LoopsOK Tryd.prog (lpT (β := β) laws_FnExactReadSeason.laws_markSeason.ts) laws_FnExactReadSeason.laws_markSeason.code 0 := LoopsOK_T trivial
noncomputable def laws_FnExactReadSeason.laws_markSeason.inl : Ent Tryd.prog := Ent.inl base laws_FnExactReadSeason.laws_markSeason.fn laws_FnExactReadSeason.laws_markSeason.es laws_FnExactReadSeason.laws_markSeason.ts laws_FnExactReadSeason.laws_markSeason.lok
noncomputable def laws_FnExactReadSeason.code : Code := Tryd.f4.body.getD .skip
theorem laws_FnExactReadSeason.fn : Fun Tryd.prog 4 Tryd.f4 laws_FnExactReadSeason.code := ⟨by kernel_rfl, by kernel_rfl, by kernel_rfl⟩
noncomputable def laws_FnExactReadSeason.es : List (Ent Tryd.prog) := [spec_ReadSeason.ent, impl_ReadSeason.ent, laws_eqSeason.ent, laws_FnExactReadSeason.laws_markSeason.inl, laws_heldSeason.ent]
noncomputable def laws_FnExactReadSeason.ts : List LoopT := []
theorem laws_FnExactReadSeason.lok {β : Type} : LoopsOK Tryd.prog (lpT (β := β) laws_FnExactReadSeason.ts) laws_FnExactReadSeason.code 0 := LoopsOK_T trivial
theorem laws_FnExactReadSeason.eq : EqB ty laws_FnExactReadSeason.es laws_FnExactReadSeason.ts Tryd.f4 none [false] (.cons .str .nil) (.vals (.cons .bool .nil)) true laws_FnExactReadSeason := by intro rd d; kernel_rfl
theorem laws_FnExactReadSeason.sound : FSound Tryd.prog 4 none [false] (.cons .str .nil) (.vals (.cons .bool .nil)) true laws_FnExactReadSeason := FSound.mk base laws_FnExactReadSeason.fn laws_FnExactReadSeason.lok laws_FnExactReadSeason.eq
noncomputable def laws_FnExactReadSeason.ent : Ent Tryd.prog := Ent.con 4 none [false] (.cons .str .nil) (.vals (.cons .bool .nil)) true laws_FnExactReadSeason laws_FnExactReadSeason.sound
end Go.Proofs.YtcnbnmboaddocaaDoor
