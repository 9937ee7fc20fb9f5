/- What the cards of all statements ask: two closed facts; that of the program's tables in parts. No condition. -/
import Derived.Test.YtfofhpkafhpicaaGreatDoorRows
import Derived.ProofKit
import Derived.OpenShut
import Derived.ShutString
import Derived.ChangeOld
import Derived.Lib.SmallJoins
import Derived.KernelRfl
namespace Go.Proofs.YtfofhpkafhpicaaGreatDoor
open Go.ChangeShapes Go.WideShapes Go.ChangeAt Go.RowKit

theorem own : ownKnob Tryz.prog.godebug = none := by kernel_rfl
theorem typesSize : Tryz.prog.types.size = 750 := by kernel_rfl
theorem rowsFine0 : (List.range' 0 50).all (rowFine Tryz.prog) = true := by kernel_rfl
theorem rowsFine1 : (List.range' 50 50).all (rowFine Tryz.prog) = true := by kernel_rfl
theorem rowsFine2 : (List.range' 100 50).all (rowFine Tryz.prog) = true := by kernel_rfl
theorem rowsFine3 : (List.range' 150 50).all (rowFine Tryz.prog) = true := by kernel_rfl
theorem rowsFine4 : (List.range' 200 50).all (rowFine Tryz.prog) = true := by kernel_rfl
theorem rowsFine5 : (List.range' 250 50).all (rowFine Tryz.prog) = true := by kernel_rfl
theorem rowsFine6 : (List.range' 300 50).all (rowFine Tryz.prog) = true := by kernel_rfl
theorem rowsFine7 : (List.range' 350 50).all (rowFine Tryz.prog) = true := by kernel_rfl
theorem rowsFine8 : (List.range' 400 50).all (rowFine Tryz.prog) = true := by kernel_rfl
theorem rowsFine9 : (List.range' 450 50).all (rowFine Tryz.prog) = true := by kernel_rfl
theorem rowsFine10 : (List.range' 500 50).all (rowFine Tryz.prog) = true := by kernel_rfl
theorem rowsFine11 : (List.range' 550 50).all (rowFine Tryz.prog) = true := by kernel_rfl
theorem rowsFine12 : (List.range' 600 50).all (rowFine Tryz.prog) = true := by kernel_rfl
theorem rowsFine13 : (List.range' 650 50).all (rowFine Tryz.prog) = true := by kernel_rfl
theorem rowsFine14 : (List.range' 700 50).all (rowFine Tryz.prog) = true := by kernel_rfl
theorem globalsFine : Tryz.prog.globals.all (fun g => decide (g.type < 750)) = true := by kernel_rfl
theorem funcsFine : Tryz.prog.funcs.all (fun f => f.params.all fun t => decide (t < 750)) = true := by kernel_rfl
theorem range_part {p : Nat → Bool} {a n m b c : Nat} (h1 : (List.range' a n).all p = true) (h2 : (List.range' b m).all p = true) (hb : b = a + n) (hc : c = n + m) : (List.range' a c).all p = true := by
  subst hb hc
  rw [← List.range'_append_1, List.all_append, h1, h2]
  rfl
theorem rowsFrom13 : (List.range' 650 100).all (rowFine Tryz.prog) = true := range_part rowsFine13 rowsFine14 (by decide) (by decide)
theorem rowsFrom12 : (List.range' 600 150).all (rowFine Tryz.prog) = true := range_part rowsFine12 rowsFrom13 (by decide) (by decide)
theorem rowsFrom11 : (List.range' 550 200).all (rowFine Tryz.prog) = true := range_part rowsFine11 rowsFrom12 (by decide) (by decide)
theorem rowsFrom10 : (List.range' 500 250).all (rowFine Tryz.prog) = true := range_part rowsFine10 rowsFrom11 (by decide) (by decide)
theorem rowsFrom9 : (List.range' 450 300).all (rowFine Tryz.prog) = true := range_part rowsFine9 rowsFrom10 (by decide) (by decide)
theorem rowsFrom8 : (List.range' 400 350).all (rowFine Tryz.prog) = true := range_part rowsFine8 rowsFrom9 (by decide) (by decide)
theorem rowsFrom7 : (List.range' 350 400).all (rowFine Tryz.prog) = true := range_part rowsFine7 rowsFrom8 (by decide) (by decide)
theorem rowsFrom6 : (List.range' 300 450).all (rowFine Tryz.prog) = true := range_part rowsFine6 rowsFrom7 (by decide) (by decide)
theorem rowsFrom5 : (List.range' 250 500).all (rowFine Tryz.prog) = true := range_part rowsFine5 rowsFrom6 (by decide) (by decide)
theorem rowsFrom4 : (List.range' 200 550).all (rowFine Tryz.prog) = true := range_part rowsFine4 rowsFrom5 (by decide) (by decide)
theorem rowsFrom3 : (List.range' 150 600).all (rowFine Tryz.prog) = true := range_part rowsFine3 rowsFrom4 (by decide) (by decide)
theorem rowsFrom2 : (List.range' 100 650).all (rowFine Tryz.prog) = true := range_part rowsFine2 rowsFrom3 (by decide) (by decide)
theorem rowsFrom1 : (List.range' 50 700).all (rowFine Tryz.prog) = true := range_part rowsFine1 rowsFrom2 (by decide) (by decide)
theorem rowsFrom0 : (List.range' 0 750).all (rowFine Tryz.prog) = true := range_part rowsFine0 rowsFrom1 (by decide) (by decide)
theorem rowsFine : (List.range 750).all (rowFine Tryz.prog) = true := by
  rw [List.range_eq_range']
  exact rowsFrom0
theorem laidOut : laidOutB Tryz.prog = true := by
  unfold laidOutB
  simp only [typesSize, rowsFine, globalsFine, funcsFine, Bool.and_self]
end Go.Proofs.YtfofhpkafhpicaaGreatDoor
