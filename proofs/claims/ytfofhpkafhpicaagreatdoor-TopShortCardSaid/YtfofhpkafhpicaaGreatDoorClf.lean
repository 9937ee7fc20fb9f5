/- What the card asks of the functions that the law may come to. No condition. (Printed by wip/tools/clogen.py.) -/
import Derived.Test.YtfofhpkafhpicaaGreatDoorMcl
namespace Go.Proofs.YtfofhpkafhpicaaGreatDoor
open Go

theorem any_none {P : Program} (h : ∀ f, P.goes f = false) (o : Option FuncId) : o.any P.goes = false := by
  cases o with
  | none => rfl
  | some f => exact h f
theorem cI0 : cC0.filterMap (fun g => (Tryz.prog.funcs[g]?).bind fun fn => if fn.ours || fn.body.isNone || fn.name == "runtime.NumGoroutine" then some fn.name else none) = ["internal/bytealg.CountString"] := by kernel_rfl
theorem cG0 : cC0.flatMap (fun g => ((Tryz.prog.funcs[g]?).bind (·.body)).elim [] Code.globalsNamed) = [1, 2] := by kernel_rfl
theorem cE0 : cC0.filterMap (fun g => (Tryz.prog.funcs[g]?).bind fun fn => if fn.body.isNone then entryReads.lookup fn.name else none) = [] := by kernel_rfl
theorem cI1 : cC1.filterMap (fun g => (Tryz.prog.funcs[g]?).bind fun fn => if fn.ours || fn.body.isNone || fn.name == "runtime.NumGoroutine" then some fn.name else none) = ["internal/bytealg.IndexByteString", "internal/bytealg.IndexString"] := by kernel_rfl
theorem cG1 : cC1.flatMap (fun g => ((Tryz.prog.funcs[g]?).bind (·.body)).elim [] Code.globalsNamed) = [3, 3, 3, 4, 5, 0, 6, 7] := by kernel_rfl
theorem cE1 : cC1.filterMap (fun g => (Tryz.prog.funcs[g]?).bind fun fn => if fn.body.isNone then entryReads.lookup fn.name else none) = ["internal/bytealg.MaxLen"] := by kernel_rfl
theorem cI2 : cC2.filterMap (fun g => (Tryz.prog.funcs[g]?).bind fun fn => if fn.ours || fn.body.isNone || fn.name == "runtime.NumGoroutine" then some fn.name else none) = [] := by kernel_rfl
theorem cG2 : cC2.flatMap (fun g => ((Tryz.prog.funcs[g]?).bind (·.body)).elim [] Code.globalsNamed) = [] := by kernel_rfl
theorem cE2 : cC2.filterMap (fun g => (Tryz.prog.funcs[g]?).bind fun fn => if fn.body.isNone then entryReads.lookup fn.name else none) = [] := by kernel_rfl
theorem cI3 : cC3.filterMap (fun g => (Tryz.prog.funcs[g]?).bind fun fn => if fn.ours || fn.body.isNone || fn.name == "runtime.NumGoroutine" then some fn.name else none) = [] := by kernel_rfl
theorem cG3 : cC3.flatMap (fun g => ((Tryz.prog.funcs[g]?).bind (·.body)).elim [] Code.globalsNamed) = [] := by kernel_rfl
theorem cE3 : cC3.filterMap (fun g => (Tryz.prog.funcs[g]?).bind fun fn => if fn.body.isNone then entryReads.lookup fn.name else none) = [] := by kernel_rfl
theorem cI4 : cC4.filterMap (fun g => (Tryz.prog.funcs[g]?).bind fun fn => if fn.ours || fn.body.isNone || fn.name == "runtime.NumGoroutine" then some fn.name else none) = [] := by kernel_rfl
theorem cG4 : cC4.flatMap (fun g => ((Tryz.prog.funcs[g]?).bind (·.body)).elim [] Code.globalsNamed) = [] := by kernel_rfl
theorem cE4 : cC4.filterMap (fun g => (Tryz.prog.funcs[g]?).bind fun fn => if fn.body.isNone then entryReads.lookup fn.name else none) = [] := by kernel_rfl
theorem cI5 : cC5.filterMap (fun g => (Tryz.prog.funcs[g]?).bind fun fn => if fn.ours || fn.body.isNone || fn.name == "runtime.NumGoroutine" then some fn.name else none) = [] := by kernel_rfl
theorem cG5 : cC5.flatMap (fun g => ((Tryz.prog.funcs[g]?).bind (·.body)).elim [] Code.globalsNamed) = [] := by kernel_rfl
theorem cE5 : cC5.filterMap (fun g => (Tryz.prog.funcs[g]?).bind fun fn => if fn.body.isNone then entryReads.lookup fn.name else none) = [] := by kernel_rfl
theorem cI6 : cC6.filterMap (fun g => (Tryz.prog.funcs[g]?).bind fun fn => if fn.ours || fn.body.isNone || fn.name == "runtime.NumGoroutine" then some fn.name else none) = [] := by kernel_rfl
theorem cG6 : cC6.flatMap (fun g => ((Tryz.prog.funcs[g]?).bind (·.body)).elim [] Code.globalsNamed) = [] := by kernel_rfl
theorem cE6 : cC6.filterMap (fun g => (Tryz.prog.funcs[g]?).bind fun fn => if fn.body.isNone then entryReads.lookup fn.name else none) = [] := by kernel_rfl
theorem cI7 : cC7.filterMap (fun g => (Tryz.prog.funcs[g]?).bind fun fn => if fn.ours || fn.body.isNone || fn.name == "runtime.NumGoroutine" then some fn.name else none) = ["internal/abi.NoEscape"] := by kernel_rfl
theorem cG7 : cC7.flatMap (fun g => ((Tryz.prog.funcs[g]?).bind (·.body)).elim [] Code.globalsNamed) = [] := by kernel_rfl
theorem cE7 : cC7.filterMap (fun g => (Tryz.prog.funcs[g]?).bind fun fn => if fn.body.isNone then entryReads.lookup fn.name else none) = [] := by kernel_rfl
theorem cI8 : cC8.filterMap (fun g => (Tryz.prog.funcs[g]?).bind fun fn => if fn.ours || fn.body.isNone || fn.name == "runtime.NumGoroutine" then some fn.name else none) = [] := by kernel_rfl
theorem cG8 : cC8.flatMap (fun g => ((Tryz.prog.funcs[g]?).bind (·.body)).elim [] Code.globalsNamed) = [1, 2] := by kernel_rfl
theorem cE8 : cC8.filterMap (fun g => (Tryz.prog.funcs[g]?).bind fun fn => if fn.body.isNone then entryReads.lookup fn.name else none) = [] := by kernel_rfl
theorem cI9 : cC9.filterMap (fun g => (Tryz.prog.funcs[g]?).bind fun fn => if fn.ours || fn.body.isNone || fn.name == "runtime.NumGoroutine" then some fn.name else none) = [] := by kernel_rfl
theorem cG9 : cC9.flatMap (fun g => ((Tryz.prog.funcs[g]?).bind (·.body)).elim [] Code.globalsNamed) = [] := by kernel_rfl
theorem cE9 : cC9.filterMap (fun g => (Tryz.prog.funcs[g]?).bind fun fn => if fn.body.isNone then entryReads.lookup fn.name else none) = [] := by kernel_rfl
theorem cI10 : cC10.filterMap (fun g => (Tryz.prog.funcs[g]?).bind fun fn => if fn.ours || fn.body.isNone || fn.name == "runtime.NumGoroutine" then some fn.name else none) = [] := by kernel_rfl
theorem cG10 : cC10.flatMap (fun g => ((Tryz.prog.funcs[g]?).bind (·.body)).elim [] Code.globalsNamed) = [] := by kernel_rfl
theorem cE10 : cC10.filterMap (fun g => (Tryz.prog.funcs[g]?).bind fun fn => if fn.body.isNone then entryReads.lookup fn.name else none) = [] := by kernel_rfl
theorem cIall : cC.filterMap (fun g => (Tryz.prog.funcs[g]?).bind fun fn => if fn.ours || fn.body.isNone || fn.name == "runtime.NumGoroutine" then some fn.name else none) = ["internal/bytealg.CountString"] ++ (["internal/bytealg.IndexByteString", "internal/bytealg.IndexString"] ++ ([] ++ ([] ++ ([] ++ ([] ++ ([] ++ (["internal/abi.NoEscape"] ++ ([] ++ ([] ++ ([])))))))))) := filterMap_part cI0 (filterMap_part cI1 (filterMap_part cI2 (filterMap_part cI3 (filterMap_part cI4 (filterMap_part cI5 (filterMap_part cI6 (filterMap_part cI7 (filterMap_part cI8 (filterMap_part cI9 cI10)))))))))
theorem cGall : cC.flatMap (fun g => ((Tryz.prog.funcs[g]?).bind (·.body)).elim [] Code.globalsNamed) = [1, 2] ++ ([3, 3, 3, 4, 5, 0, 6, 7] ++ ([] ++ ([] ++ ([] ++ ([] ++ ([] ++ ([] ++ ([1, 2] ++ ([] ++ ([])))))))))) := flatMap_part cG0 (flatMap_part cG1 (flatMap_part cG2 (flatMap_part cG3 (flatMap_part cG4 (flatMap_part cG5 (flatMap_part cG6 (flatMap_part cG7 (flatMap_part cG8 (flatMap_part cG9 cG10)))))))))
theorem cEall : cC.filterMap (fun g => (Tryz.prog.funcs[g]?).bind fun fn => if fn.body.isNone then entryReads.lookup fn.name else none) = [] ++ (["internal/bytealg.MaxLen"] ++ ([] ++ ([] ++ ([] ++ ([] ++ ([] ++ ([] ++ ([] ++ ([] ++ ([])))))))))) := filterMap_part cE0 (filterMap_part cE1 (filterMap_part cE2 (filterMap_part cE3 (filterMap_part cE4 (filterMap_part cE5 (filterMap_part cE6 (filterMap_part cE7 (filterMap_part cE8 (filterMap_part cE9 cE10)))))))))
theorem inPlaceIs : Tryz.prog.inPlace 5 = ["internal/bytealg.CountString", "internal/bytealg.IndexByteString", "internal/bytealg.IndexString", "internal/abi.NoEscape"] := by
  unfold Program.inPlace
  rw [clo]
  exact cIall
theorem unfIs : Tryz.prog.unfollowed 5 = true := by
  unfold Program.unfollowed
  rw [clo]
  exact List.any_eq_true.2 ⟨282, List.contains_iff_mem.1 (by kernel_rfl), by kernel_rfl⟩
theorem recIs : Tryz.prog.recurses 5 = true := by
  unfold Program.recurses
  rw [unfIs]
  rfl
theorem varsIs : Tryz.prog.varsNamed 5 = ["unicode/utf8.first", "unicode/utf8.acceptRanges", "internal/bytealg.MaxLen", "strconv.ErrSyntax", "strconv.ErrRange", "internal/strconv.uint64pow10", "math/bits.deBruijn32tab", "math/bits.deBruijn64tab"] := by
  unfold Program.varsNamed
  rw [clo, cGall, cEall]
  kernel_rfl
theorem gop0 : ((Tryz.prog.funcs.toList.drop 0).take 54).all (fun fn => !fn.goes) = true := by kernel_rfl
theorem gop1 : ((Tryz.prog.funcs.toList.drop 54).take 79).all (fun fn => !fn.goes) = true := by kernel_rfl
theorem gop2 : ((Tryz.prog.funcs.toList.drop 133).take 82).all (fun fn => !fn.goes) = true := by kernel_rfl
theorem gop3 : ((Tryz.prog.funcs.toList.drop 215).take 91).all (fun fn => !fn.goes) = true := by kernel_rfl
theorem gop4 : ((Tryz.prog.funcs.toList.drop 306).take 71).all (fun fn => !fn.goes) = true := by kernel_rfl
theorem gop5 : ((Tryz.prog.funcs.toList.drop 377).take 66).all (fun fn => !fn.goes) = true := by kernel_rfl
theorem gop6 : ((Tryz.prog.funcs.toList.drop 443).take 63).all (fun fn => !fn.goes) = true := by kernel_rfl
theorem gop7 : ((Tryz.prog.funcs.toList.drop 506).take 73).all (fun fn => !fn.goes) = true := by kernel_rfl
theorem gop8 : ((Tryz.prog.funcs.toList.drop 579).take 68).all (fun fn => !fn.goes) = true := by kernel_rfl
theorem gopEnd : (Tryz.prog.funcs.toList.drop 647).all (fun fn => !fn.goes) = true := by kernel_rfl
theorem gof8 : (Tryz.prog.funcs.toList.drop 579).all (fun fn => !fn.goes) = true := all_part gop8 gopEnd rfl
theorem gof7 : (Tryz.prog.funcs.toList.drop 506).all (fun fn => !fn.goes) = true := all_part gop7 gof8 rfl
theorem gof6 : (Tryz.prog.funcs.toList.drop 443).all (fun fn => !fn.goes) = true := all_part gop6 gof7 rfl
theorem gof5 : (Tryz.prog.funcs.toList.drop 377).all (fun fn => !fn.goes) = true := all_part gop5 gof6 rfl
theorem gof4 : (Tryz.prog.funcs.toList.drop 306).all (fun fn => !fn.goes) = true := all_part gop4 gof5 rfl
theorem gof3 : (Tryz.prog.funcs.toList.drop 215).all (fun fn => !fn.goes) = true := all_part gop3 gof4 rfl
theorem gof2 : (Tryz.prog.funcs.toList.drop 133).all (fun fn => !fn.goes) = true := all_part gop2 gof3 rfl
theorem gof1 : (Tryz.prog.funcs.toList.drop 54).all (fun fn => !fn.goes) = true := all_part gop1 gof2 rfl
theorem gof0 : (Tryz.prog.funcs.toList.drop 0).all (fun fn => !fn.goes) = true := all_part gop0 gof1 rfl
theorem goesNone (f : Nat) : Tryz.prog.goes f = false := goes_none gof0 f
theorem j9 : ((Rows.topShortRow.inPlace == Tryz.prog.inPlace 5)) = true := by rw [inPlaceIs]; kernel_rfl
theorem j10 : ((Rows.topShortRow.unfollowed == Tryz.prog.unfollowed 5)) = true := by rw [unfIs]; rfl
theorem j11 : ((Rows.topShortRow.recurses == Tryz.prog.recurses 5)) = true := by rw [recIs]; rfl
theorem j12 : ((Rows.topShortRow.named == Tryz.prog.varsNamed 5)) = true := by rw [varsIs]; kernel_rfl
theorem c6 : false = Rows.topShortRow.goesBy Tryz.prog := by
  have h : ∀ o : Option FuncId, o.any Tryz.prog.goes = false := any_none goesNone
  unfold OpenClaim.goesBy Program.goesAt Program.goesFrom
  rw [h]
  rfl
end Go.Proofs.YtfofhpkafhpicaaGreatDoor
