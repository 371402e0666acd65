/- What the rows' lists of variables give: the library's variables as the contracts want them. -/
import Derived.Test.YtcnbnmboaddocaaDoorFn
import Derived.Test.YtcnbnmboaddocaaDoorRows
import Derived.Stop.LaidErr
import Derived.LaidLaws
import Derived.MakeChecks
import Derived.Lib.LaidTab
import Derived.Lay
namespace Go.Proofs.YtcnbnmboaddocaaDoor
open Go Go.Ab Go.RowKit
set_option maxRecDepth 100000
set_option linter.all false
def laidL : List (String × DataW Unit) := [("math/bits.deBruijn32tab", Rows.laid_math_bits_deBruijn32tab), ("math/bits.deBruijn64tab", Rows.laid_math_bits_deBruijn64tab), ("internal/strconv.uint64pow10", Rows.laid_internal_strconv_uint64pow10), ("unicode/utf8.acceptRanges", Rows.laid_unicode_utf8_acceptRanges), ("strconv.ErrRange", Rows.laid_strconv_ErrRange), ("strconv.ErrSyntax", Rows.laid_strconv_ErrSyntax), ("unicode/utf8.first", Rows.laid_unicode_utf8_first)]
theorem star : "*" ++ "errors.errorString" = "*errors.errorString" := by decide
theorem rowErr (u : TypeId) (h : Tryd.prog.typeName? 3 u = some "*errors.errorString") : u = 112 :=
  typeName_ptr_named (nm := "errors.errorString") (by rw [star]; kernel_rfl) (by kernel_rfl) (by decide) u (by rw [star]; exact h)
theorem g0 : Tryd.prog.globalNamed "strconv.ErrSyntax" = some 0 := by kernel_rfl
theorem is0 {W : World} (hL : laidMet Tryd.prog laidL W) : isIface W.heap[0]? := by
  obtain ⟨a, s, h, -, -, -⟩ := laid_sentinel (hL.tail.tail.tail.tail.tail) g0 (by kernel_rfl) Tryd.underlying68 rowErr Tryd.underlying112 Tryd.underlying114 rfl rfl Tryd.underlying9 (by kernel_rfl) (by kernel_rfl)
  exact isIface_var g0 h rfl
theorem g1 : Tryd.prog.globalNamed "strconv.ErrRange" = some 1 := by kernel_rfl
theorem is1 {W : World} (hL : laidMet Tryd.prog laidL W) : isIface W.heap[1]? := by
  obtain ⟨a, s, h, -, -, -⟩ := laid_sentinel (hL.tail.tail.tail.tail) g1 (by kernel_rfl) Tryd.underlying68 rowErr Tryd.underlying112 Tryd.underlying114 rfl rfl Tryd.underlying9 (by kernel_rfl) (by kernel_rfl)
  exact isIface_var g1 h rfl
theorem g3 : Tryd.prog.globalNamed "internal/strconv.uint64pow10" = some 3 := by kernel_rfl
theorem is3 {W : World} (hL : laidMet Tryd.prog laidL W) : isTab Lib.pow10Tab W.heap[3]? :=
  isTab_var g3 (Lib.tabIs_of_head (rest := laidL.drop 3) g3 (t := 116) (by kernel_rfl) Tryd.underlying116 Tryd.underlying81 (by kernel_rfl) (by kernel_rfl) hL.tail.tail)
theorem globs {W : World} (hL : laidMet Tryd.prog laidL W) (hsh : W.ShapedOpen Tryd.prog) : GlobI.g (fun b => b < W.heap.size) W := by
  have i0 := is0 hL
  have i1 := is1 hL
  have i2 : isInt W.heap[2]? := by
    obtain ⟨m, hm⟩ := Tryd.laysM146.s1_3 W hsh
    exact isInt_shaped hm
  have i3 := is3 hL
  intro p hp
  simp only [gtab, List.mem_cons, List.not_mem_nil, or_false] at hp
  rcases hp with rfl | rfl | rfl | rfl
  · exact ⟨lt_of_iface i0, i0⟩
  · exact ⟨lt_of_iface i1, i1⟩
  · exact ⟨lt_of_int i2, i2⟩
  · exact ⟨lt_of_tab i3, i3⟩
theorem own : ownKnob Tryd.prog.godebug = none := by kernel_rfl
theorem laid_met (os : Os) (args : Array Value) : laidMet Tryd.prog laidL ((World.laidAll Tryd.prog os laidL).forCall (fun _ _ => 0) ⟨#[], args, []⟩).memory := laidMet_laidAll args (by kernel_rfl) (by kernel_rfl)
theorem laid_plain (W : World) : laidMetH Tryd.prog laidL W = laidMet Tryd.prog laidL W := MakeChecks.laidMetH_plain _ _ _ (by kernel_rfl)
end Go.Proofs.YtcnbnmboaddocaaDoor
