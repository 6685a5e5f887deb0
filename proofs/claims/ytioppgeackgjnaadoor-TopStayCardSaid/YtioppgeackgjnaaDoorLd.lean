/- The laid variables: what the walks read of them; a world that holds them (the witness). -/
import Derived.Test.YtioppgeackgjnaaDoorCards
import Derived.Test.YtioppgeackgjnaaDoorTie
import Derived.Test.YtioppgeackgjnaaDoorHaL
import Derived.Deep.DeepHandedRow
import Derived.Deep.DeepWitnessRowRef
import Derived.Lib.LaidIn
import Derived.Lib.LaidTab
import Derived.Stop.LaidErr
import Derived.LaidSub
import Derived.MakeChecks
import Derived.ProofKit
namespace Go.Proofs.YtioppgeackgjnaaDoor.Ld
open Go.ChangeShapes Go.WideShapes Go.ChangeAt Go.RowKit
set_option linter.unusedVariables false

theorem star : "*" ++ "errors.errorString" = "*errors.errorString" := by decide
theorem rowErr (u : TypeId) (h : Tryd.prog.typeName? 3 u = some "*errors.errorString") : u = 140 :=
  typeName_ptr_named (nm := "errors.errorString") (by rw [star]; kernel_rfl) (by kernel_rfl) (by decide) u (by rw [star]; exact h)
theorem cells142 : Tryd.prog.cellsOf 142 = 1 := by kernel_rfl
theorem cells9 : Tryd.prog.cellsOf 9 = 1 := by kernel_rfl
theorem cells54 : Tryd.prog.cellsOf 54 = 1 := by kernel_rfl
theorem cells117 : Tryd.prog.cellsOf 117 = 20 := by kernel_rfl
theorem gPow10 : Tryd.prog.globalNamed "internal/strconv.uint64pow10" = some 1 := by kernel_rfl
theorem gPow10T : (Tryd.prog.globals[1]?).map (·.type) = some 117 := by kernel_rfl
theorem gES : Tryd.prog.globalNamed "strconv.ErrSyntax" = some 2 := by kernel_rfl
theorem gEST : (Tryd.prog.globals[2]?).map (·.type) = some 78 := by kernel_rfl
theorem gER : Tryd.prog.globalNamed "strconv.ErrRange" = some 3 := by kernel_rfl
theorem gERT : (Tryd.prog.globals[3]?).map (·.type) = some 78 := by kernel_rfl

/-- The rows' list. -/
def laid7 : List (String × DataW Unit) := [("math/bits.deBruijn32tab", Rows.laid_math_bits_deBruijn32tab), ("math/bits.deBruijn64tab", Rows.laid_math_bits_deBruijn64tab), ("internal/strconv.uint64pow10", Rows.laid_internal_strconv_uint64pow10), ("unicode/utf8.acceptRanges", Rows.laid_unicode_utf8_acceptRanges), ("strconv.ErrRange", Rows.laid_strconv_ErrRange), ("strconv.ErrSyntax", Rows.laid_strconv_ErrSyntax), ("unicode/utf8.first", Rows.laid_unicode_utf8_first)]
theorem plain7 : (laid7.all fun x => x.2.handleName?.isNone) = true := by kernel_rfl
theorem laid_of {W : World} (h : laidMetH Tryd.prog laid7 W) (hs : W.ShapedOpen Tryd.prog) : Bt.Laid W := by
  rw [MakeChecks.laidMetH_plain _ _ _ plain7] at h
  have h1 : laidMet Tryd.prog [("internal/strconv.uint64pow10", Rows.laid_internal_strconv_uint64pow10)] W := by
    have := h.filter (fun x => x.1 == "internal/strconv.uint64pow10")
    rwa [show laid7.filter (fun x => x.1 == "internal/strconv.uint64pow10") = [("internal/strconv.uint64pow10", Rows.laid_internal_strconv_uint64pow10)] from by kernel_rfl] at this
  have h2 : laidMet Tryd.prog [("strconv.ErrSyntax", Rows.laid_strconv_ErrSyntax)] W := by
    have := h.filter (fun x => x.1 == "strconv.ErrSyntax")
    rwa [show laid7.filter (fun x => x.1 == "strconv.ErrSyntax") = [("strconv.ErrSyntax", Rows.laid_strconv_ErrSyntax)] from by kernel_rfl] at this
  have h3 : laidMet Tryd.prog [("strconv.ErrRange", Rows.laid_strconv_ErrRange)] W := by
    have := h.filter (fun x => x.1 == "strconv.ErrRange")
    rwa [show laid7.filter (fun x => x.1 == "strconv.ErrRange") = [("strconv.ErrRange", Rows.laid_strconv_ErrRange)] from by kernel_rfl] at this
  obtain ⟨a0, s0, hv0, -, -, -⟩ := laid_sentinel h2 gES gEST Tryd.underlying78 rowErr Tryd.underlying140 Tryd.underlying142 rfl rfl Tryd.underlying9 cells142 cells9
  obtain ⟨a1, s1, hv1, -, -, -⟩ := laid_sentinel h3 gER gERT Tryd.underlying78 rowErr Tryd.underlying140 Tryd.underlying142 rfl rfl Tryd.underlying9 cells142 cells9
  exact ⟨Tryd.laysM145.s1_3 W hs, Lib.tabIs_of_head (rest := []) gPow10 gPow10T Tryd.underlying117 Tryd.underlying54 cells54 cells117 h1, ⟨_, _, hv0⟩, ⟨_, _, hv1⟩⟩

/-! ### a world that holds them -/
def oneCell : DataW Unit → List Value
  | .lit (.int k n) => [.int k n]
  | _ => []
def twoCells : DataW Unit → List Value
  | .agg l => l.flatMap oneCell
  | d => oneCell d
def tabCells : DataW Unit → Array Value
  | .agg l => (l.flatMap twoCells).toArray
  | _ => #[]
noncomputable def laidWorld (os : Os) : World :=
  let N := (World.settled Tryd.prog os).heap.size
  let w0 := World.holding Tryd.prog os ⟨#[.cells #[.string ⟨#[118, 97, 108, 117, 101, 32, 111, 117, 116, 32, 111, 102, 32, 114, 97, 110, 103, 101]⟩] 142, .cells #[.string ⟨#[105, 110, 118, 97, 108, 105, 100, 32, 115, 121, 110, 116, 97, 120]⟩] 142], #[], []⟩
  let put (h : Array Obj) (g : Nat) (cs : Array Value) : Array Obj := h.modify g fun
    | .cells _ t frozen => .cells cs t frozen
    | o => o
  let h1 := put w0.heap 1 (tabCells Rows.laid_internal_strconv_uint64pow10)
  let h2 := put h1 2 #[.iface 140 (.pointer (some ⟨N + 1, 0, none⟩))]
  let h3 := put h2 3 #[.iface 140 (.pointer (some ⟨N, 0, none⟩))]
  let h4 := put h3 4 (tabCells Rows.laid_math_bits_deBruijn32tab)
  let h5 := put h4 5 (tabCells Rows.laid_math_bits_deBruijn64tab)
  let h6 := put h5 6 (tabCells Rows.laid_unicode_utf8_first)
  let h7 := put h6 7 (tabCells Rows.laid_unicode_utf8_acceptRanges)
  { w0 with heap := h7 }
noncomputable abbrev N0 : Nat := (World.settled Tryd.prog default).heap.size
set_option maxRecDepth 1000000 in
theorem laid_met (os : Os) (args : Array Value) : laidMetH Tryd.prog laid7 ((laidWorld os).forCall (fun _ _ => 0) ⟨#[], args, []⟩).memory := by
  rw [MakeChecks.laidMetH_plain _ _ _ plain7]
  exact (LaidIn.of_run (l := laid7) [1, 2, 3, 4, 5, 6, 7, N0, N0 + 1] 8 (by kernel_rfl) (by kernel_rfl) (by kernel_rfl) (by kernel_rfl)).met
end Go.Proofs.YtioppgeackgjnaaDoor.Ld
