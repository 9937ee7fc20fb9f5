/- Several texts in one: Te, Tf, Tg. -/
import Derived.Test.YtfofhpkafhpicaaGreatDoorHead
import Derived.Test.YtfofhpkafhpicaaGreatDoorOp
import Derived.LaidMore
import Derived.Lay
import Derived.Stop.Joined
import Derived.Test.YtfofhpkafhpicaaGreatDoorClf
import Derived.SevenTiedAt

/- Closed facts that the card of TopShort asks, one by one: a world in which the law can be called. No condition. (Printed by wip/tools/tegen.py.) -/
namespace Go.Proofs.YtfofhpkafhpicaaGreatDoor.topShort
open Go.ChangeShapes Go.WideShapes Go.ChangeAt Go.RowKit
set_option linter.unusedSimpArgs false
set_option linter.unusedVariables false

theorem find_first {p : Nat → Bool} {n k : Nat} (hk : k < n) (h1 : (List.range' 0 k).all (fun u => !p u) = true) (h2 : p k = true) : (List.range n).find? p = some k := by
  rw [List.find?_range_eq_some]
  refine ⟨h2, List.mem_range.2 hk, fun j hj => ?_⟩
  exact List.all_eq_true.1 h1 j (by rw [← List.range_eq_range']; exact List.mem_range.2 hj)
theorem lay_iface {P : Program} {t n u : Nat} {name : String} {d : DataW Unit} {x : List Value × List Obj} {v : Value}
    (h1 : (match P.underlying t with | some (.interface _) => true | _ => false) = true)
    (hf : ((List.range P.types.size).find? fun u => P.typeName? 3 u == some name) = some u) (h2 : d.lay P u n = some x) (h3 : Lay.pack P u x.1 = some v) : (DataW.iface name d).lay P t n = some ([.iface u v], x.2) := by
  rw [DataW.lay, hf]
  split at h1
  · rename_i e
    simp only [e, h2, h3]
  · cases h1
theorem lay_cons {P : Program} {n g t m : Nat} {x : String × DataW Unit} {r : List (String × DataW Unit)} {y : List Value × List Obj} {z : List (Nat × List Value) × List Obj}
    (h1 : P.globalNamed x.1 = some g) (h2 : (P.globals[g]?).map (·.type) = some t) (h3 : x.2.lay P t n = some y) (hm : n + y.2.length = m) (h4 : Lay.layList P m r = some z) : Lay.layList P n (x :: r) = some ((g, y.1) :: z.1, y.2 ++ z.2) := by
  subst hm
  cases e : P.globals[g]? with
  | none => rw [e] at h2; cases h2
  | some gl =>
    rw [e] at h2
    obtain rfl : gl.type = t := Option.some.inj h2
    rw [Lay.layList, h1]
    simp only [e, h3, h4]

theorem nm0 : (List.range' 0 40).all (fun u => !(Tryz.prog.typeName? 3 u == some "*errors.errorString")) = true := by kernel_rfl
theorem nm1 : (List.range' 40 40).all (fun u => !(Tryz.prog.typeName? 3 u == some "*errors.errorString")) = true := by kernel_rfl
theorem nm2 : (List.range' 80 40).all (fun u => !(Tryz.prog.typeName? 3 u == some "*errors.errorString")) = true := by kernel_rfl
theorem nm3 : (List.range' 120 40).all (fun u => !(Tryz.prog.typeName? 3 u == some "*errors.errorString")) = true := by kernel_rfl
theorem nm4 : (List.range' 160 40).all (fun u => !(Tryz.prog.typeName? 3 u == some "*errors.errorString")) = true := by kernel_rfl
theorem nm5 : (List.range' 200 40).all (fun u => !(Tryz.prog.typeName? 3 u == some "*errors.errorString")) = true := by kernel_rfl
theorem nm6 : (List.range' 240 40).all (fun u => !(Tryz.prog.typeName? 3 u == some "*errors.errorString")) = true := by kernel_rfl
theorem nm7 : (List.range' 280 40).all (fun u => !(Tryz.prog.typeName? 3 u == some "*errors.errorString")) = true := by kernel_rfl
theorem nm8 : (List.range' 320 40).all (fun u => !(Tryz.prog.typeName? 3 u == some "*errors.errorString")) = true := by kernel_rfl
theorem nm9 : (List.range' 360 40).all (fun u => !(Tryz.prog.typeName? 3 u == some "*errors.errorString")) = true := by kernel_rfl
theorem nm10 : (List.range' 400 40).all (fun u => !(Tryz.prog.typeName? 3 u == some "*errors.errorString")) = true := by kernel_rfl
theorem nm11 : (List.range' 440 40).all (fun u => !(Tryz.prog.typeName? 3 u == some "*errors.errorString")) = true := by kernel_rfl
theorem nm12 : (List.range' 480 40).all (fun u => !(Tryz.prog.typeName? 3 u == some "*errors.errorString")) = true := by kernel_rfl
theorem nm13 : (List.range' 520 40).all (fun u => !(Tryz.prog.typeName? 3 u == some "*errors.errorString")) = true := by kernel_rfl
theorem nm14 : (List.range' 560 40).all (fun u => !(Tryz.prog.typeName? 3 u == some "*errors.errorString")) = true := by kernel_rfl
theorem nm15 : (List.range' 600 40).all (fun u => !(Tryz.prog.typeName? 3 u == some "*errors.errorString")) = true := by kernel_rfl
theorem nm16 : (List.range' 640 40).all (fun u => !(Tryz.prog.typeName? 3 u == some "*errors.errorString")) = true := by kernel_rfl
theorem nm17 : (List.range' 680 40).all (fun u => !(Tryz.prog.typeName? 3 u == some "*errors.errorString")) = true := by kernel_rfl
theorem nm18 : (List.range' 720 4).all (fun u => !(Tryz.prog.typeName? 3 u == some "*errors.errorString")) = true := by kernel_rfl
theorem nmHit : (Tryz.prog.typeName? 3 724 == some "*errors.errorString") = true := by kernel_rfl
theorem nmTo1 : (List.range' 0 80).all (fun u => !(Tryz.prog.typeName? 3 u == some "*errors.errorString")) = true := range_part nm0 nm1 (by decide) (by decide)
theorem nmTo2 : (List.range' 0 120).all (fun u => !(Tryz.prog.typeName? 3 u == some "*errors.errorString")) = true := range_part nmTo1 nm2 (by decide) (by decide)
theorem nmTo3 : (List.range' 0 160).all (fun u => !(Tryz.prog.typeName? 3 u == some "*errors.errorString")) = true := range_part nmTo2 nm3 (by decide) (by decide)
theorem nmTo4 : (List.range' 0 200).all (fun u => !(Tryz.prog.typeName? 3 u == some "*errors.errorString")) = true := range_part nmTo3 nm4 (by decide) (by decide)
theorem nmTo5 : (List.range' 0 240).all (fun u => !(Tryz.prog.typeName? 3 u == some "*errors.errorString")) = true := range_part nmTo4 nm5 (by decide) (by decide)
theorem nmTo6 : (List.range' 0 280).all (fun u => !(Tryz.prog.typeName? 3 u == some "*errors.errorString")) = true := range_part nmTo5 nm6 (by decide) (by decide)
theorem nmTo7 : (List.range' 0 320).all (fun u => !(Tryz.prog.typeName? 3 u == some "*errors.errorString")) = true := range_part nmTo6 nm7 (by decide) (by decide)
theorem nmTo8 : (List.range' 0 360).all (fun u => !(Tryz.prog.typeName? 3 u == some "*errors.errorString")) = true := range_part nmTo7 nm8 (by decide) (by decide)
theorem nmTo9 : (List.range' 0 400).all (fun u => !(Tryz.prog.typeName? 3 u == some "*errors.errorString")) = true := range_part nmTo8 nm9 (by decide) (by decide)
theorem nmTo10 : (List.range' 0 440).all (fun u => !(Tryz.prog.typeName? 3 u == some "*errors.errorString")) = true := range_part nmTo9 nm10 (by decide) (by decide)
theorem nmTo11 : (List.range' 0 480).all (fun u => !(Tryz.prog.typeName? 3 u == some "*errors.errorString")) = true := range_part nmTo10 nm11 (by decide) (by decide)
theorem nmTo12 : (List.range' 0 520).all (fun u => !(Tryz.prog.typeName? 3 u == some "*errors.errorString")) = true := range_part nmTo11 nm12 (by decide) (by decide)
theorem nmTo13 : (List.range' 0 560).all (fun u => !(Tryz.prog.typeName? 3 u == some "*errors.errorString")) = true := range_part nmTo12 nm13 (by decide) (by decide)
theorem nmTo14 : (List.range' 0 600).all (fun u => !(Tryz.prog.typeName? 3 u == some "*errors.errorString")) = true := range_part nmTo13 nm14 (by decide) (by decide)
theorem nmTo15 : (List.range' 0 640).all (fun u => !(Tryz.prog.typeName? 3 u == some "*errors.errorString")) = true := range_part nmTo14 nm15 (by decide) (by decide)
theorem nmTo16 : (List.range' 0 680).all (fun u => !(Tryz.prog.typeName? 3 u == some "*errors.errorString")) = true := range_part nmTo15 nm16 (by decide) (by decide)
theorem nmTo17 : (List.range' 0 720).all (fun u => !(Tryz.prog.typeName? 3 u == some "*errors.errorString")) = true := range_part nmTo16 nm17 (by decide) (by decide)
theorem nmTo18 : (List.range' 0 724).all (fun u => !(Tryz.prog.typeName? 3 u == some "*errors.errorString")) = true := range_part nmTo17 nm18 (by decide) (by decide)
theorem typesMany : 724 < Tryz.prog.types.size := by rw [typesSize]; decide
theorem nmIs : ((List.range Tryz.prog.types.size).find? fun u => Tryz.prog.typeName? 3 u == some "*errors.errorString") = some 724 := find_first typesMany nmTo18 nmHit

def y0 : List Value := [.int .u8 240, .int .u8 240, .int .u8 240, .int .u8 240, .int .u8 240, .int .u8 240, .int .u8 240, .int .u8 240, .int .u8 240, .int .u8 240, .int .u8 240, .int .u8 240, .int .u8 240, .int .u8 240, .int .u8 240, .int .u8 240, .int .u8 240, .int .u8 240, .int .u8 240, .int .u8 240, .int .u8 240, .int .u8 240, .int .u8 240, .int .u8 240, .int .u8 240, .int .u8 240, .int .u8 240, .int .u8 240, .int .u8 240, .int .u8 240, .int .u8 240, .int .u8 240, .int .u8 240, .int .u8 240, .int .u8 240, .int .u8 240, .int .u8 240, .int .u8 240, .int .u8 240, .int .u8 240, .int .u8 240, .int .u8 240, .int .u8 240, .int .u8 240, .int .u8 240, .int .u8 240, .int .u8 240, .int .u8 240, .int .u8 240, .int .u8 240, .int .u8 240, .int .u8 240, .int .u8 240, .int .u8 240, .int .u8 240, .int .u8 240, .int .u8 240, .int .u8 240, .int .u8 240, .int .u8 240, .int .u8 240, .int .u8 240, .int .u8 240, .int .u8 240, .int .u8 240, .int .u8 240, .int .u8 240, .int .u8 240, .int .u8 240, .int .u8 240, .int .u8 240, .int .u8 240, .int .u8 240, .int .u8 240, .int .u8 240, .int .u8 240, .int .u8 240, .int .u8 240, .int .u8 240, .int .u8 240, .int .u8 240, .int .u8 240, .int .u8 240, .int .u8 240, .int .u8 240, .int .u8 240, .int .u8 240, .int .u8 240, .int .u8 240, .int .u8 240, .int .u8 240, .int .u8 240, .int .u8 240, .int .u8 240, .int .u8 240, .int .u8 240, .int .u8 240, .int .u8 240, .int .u8 240, .int .u8 240, .int .u8 240, .int .u8 240, .int .u8 240, .int .u8 240, .int .u8 240, .int .u8 240, .int .u8 240, .int .u8 240, .int .u8 240, .int .u8 240, .int .u8 240, .int .u8 240, .int .u8 240, .int .u8 240, .int .u8 240, .int .u8 240, .int .u8 240, .int .u8 240, .int .u8 240, .int .u8 240, .int .u8 240, .int .u8 240, .int .u8 240, .int .u8 240, .int .u8 240, .int .u8 240, .int .u8 240, .int .u8 240, .int .u8 241, .int .u8 241, .int .u8 241, .int .u8 241, .int .u8 241, .int .u8 241, .int .u8 241, .int .u8 241, .int .u8 241, .int .u8 241, .int .u8 241, .int .u8 241, .int .u8 241, .int .u8 241, .int .u8 241, .int .u8 241, .int .u8 241, .int .u8 241, .int .u8 241, .int .u8 241, .int .u8 241, .int .u8 241, .int .u8 241, .int .u8 241, .int .u8 241, .int .u8 241, .int .u8 241, .int .u8 241, .int .u8 241, .int .u8 241, .int .u8 241, .int .u8 241, .int .u8 241, .int .u8 241, .int .u8 241, .int .u8 241, .int .u8 241, .int .u8 241, .int .u8 241, .int .u8 241, .int .u8 241, .int .u8 241, .int .u8 241, .int .u8 241, .int .u8 241, .int .u8 241, .int .u8 241, .int .u8 241, .int .u8 241, .int .u8 241, .int .u8 241, .int .u8 241, .int .u8 241, .int .u8 241, .int .u8 241, .int .u8 241, .int .u8 241, .int .u8 241, .int .u8 241, .int .u8 241, .int .u8 241, .int .u8 241, .int .u8 241, .int .u8 241, .int .u8 241, .int .u8 241, .int .u8 2, .int .u8 2, .int .u8 2, .int .u8 2, .int .u8 2, .int .u8 2, .int .u8 2, .int .u8 2, .int .u8 2, .int .u8 2, .int .u8 2, .int .u8 2, .int .u8 2, .int .u8 2, .int .u8 2, .int .u8 2, .int .u8 2, .int .u8 2, .int .u8 2, .int .u8 2, .int .u8 2, .int .u8 2, .int .u8 2, .int .u8 2, .int .u8 2, .int .u8 2, .int .u8 2, .int .u8 2, .int .u8 2, .int .u8 2, .int .u8 19, .int .u8 3, .int .u8 3, .int .u8 3, .int .u8 3, .int .u8 3, .int .u8 3, .int .u8 3, .int .u8 3, .int .u8 3, .int .u8 3, .int .u8 3, .int .u8 3, .int .u8 35, .int .u8 3, .int .u8 3, .int .u8 52, .int .u8 4, .int .u8 4, .int .u8 4, .int .u8 68, .int .u8 241, .int .u8 241, .int .u8 241, .int .u8 241, .int .u8 241, .int .u8 241, .int .u8 241, .int .u8 241, .int .u8 241, .int .u8 241, .int .u8 241]
def b0 : List Obj := []
theorem g0 : Tryz.prog.globalNamed "unicode/utf8.first" = some 1 := by kernel_rfl
theorem t0 : (Tryz.prog.globals[1]?).map (·.type) = some 587 := by kernel_rfl
theorem l0 : (Rows.laid_unicode_utf8_first : DataW Unit).lay Tryz.prog 587 13 = some (y0, b0) := by kernel_rfl
def y1 : List Value := [.int .u8 128, .int .u8 191, .int .u8 160, .int .u8 191, .int .u8 128, .int .u8 159, .int .u8 144, .int .u8 191, .int .u8 128, .int .u8 143, .int .u8 0, .int .u8 0, .int .u8 0, .int .u8 0, .int .u8 0, .int .u8 0, .int .u8 0, .int .u8 0, .int .u8 0, .int .u8 0, .int .u8 0, .int .u8 0, .int .u8 0, .int .u8 0, .int .u8 0, .int .u8 0, .int .u8 0, .int .u8 0, .int .u8 0, .int .u8 0, .int .u8 0, .int .u8 0]
def b1 : List Obj := []
theorem g1 : Tryz.prog.globalNamed "unicode/utf8.acceptRanges" = some 2 := by kernel_rfl
theorem t1 : (Tryz.prog.globals[2]?).map (·.type) = some 590 := by kernel_rfl
theorem l1 : (Rows.laid_unicode_utf8_acceptRanges : DataW Unit).lay Tryz.prog 590 13 = some (y1, b1) := by kernel_rfl
def y2 : List Value := [.iface 724 (.pointer (some ⟨13, 0, none⟩))]
def b2 : List Obj := [.cells #[.string ⟨#[105, 110, 118, 97, 108, 105, 100, 32, 115, 121, 110, 116, 97, 120]⟩] 726]
theorem g2 : Tryz.prog.globalNamed "strconv.ErrSyntax" = some 4 := by kernel_rfl
theorem t2 : (Tryz.prog.globals[4]?).map (·.type) = some 108 := by kernel_rfl
theorem l2 : (Rows.laid_strconv_ErrSyntax : DataW Unit).lay Tryz.prog 108 13 = some (y2, b2) := lay_iface (x := ([.pointer (some ⟨13, 0, none⟩)], b2)) (by kernel_rfl) nmIs (by kernel_rfl) (by kernel_rfl)
def y3 : List Value := [.iface 724 (.pointer (some ⟨14, 0, none⟩))]
def b3 : List Obj := [.cells #[.string ⟨#[118, 97, 108, 117, 101, 32, 111, 117, 116, 32, 111, 102, 32, 114, 97, 110, 103, 101]⟩] 726]
theorem g3 : Tryz.prog.globalNamed "strconv.ErrRange" = some 5 := by kernel_rfl
theorem t3 : (Tryz.prog.globals[5]?).map (·.type) = some 108 := by kernel_rfl
theorem l3 : (Rows.laid_strconv_ErrRange : DataW Unit).lay Tryz.prog 108 14 = some (y3, b3) := lay_iface (x := ([.pointer (some ⟨14, 0, none⟩)], b3)) (by kernel_rfl) nmIs (by kernel_rfl) (by kernel_rfl)
def y4 : List Value := [.int .u64 1, .int .u64 10, .int .u64 100, .int .u64 1000, .int .u64 10000, .int .u64 100000, .int .u64 1000000, .int .u64 10000000, .int .u64 100000000, .int .u64 1000000000, .int .u64 10000000000, .int .u64 100000000000, .int .u64 1000000000000, .int .u64 10000000000000, .int .u64 100000000000000, .int .u64 1000000000000000, .int .u64 10000000000000000, .int .u64 100000000000000000, .int .u64 1000000000000000000, .int .u64 10000000000000000000]
def b4 : List Obj := []
theorem g4 : Tryz.prog.globalNamed "internal/strconv.uint64pow10" = some 0 := by kernel_rfl
theorem t4 : (Tryz.prog.globals[0]?).map (·.type) = some 563 := by kernel_rfl
theorem l4 : (Rows.laid_internal_strconv_uint64pow10 : DataW Unit).lay Tryz.prog 563 15 = some (y4, b4) := by kernel_rfl
def y5 : List Value := [.int .u8 0, .int .u8 1, .int .u8 28, .int .u8 2, .int .u8 29, .int .u8 14, .int .u8 24, .int .u8 3, .int .u8 30, .int .u8 22, .int .u8 20, .int .u8 15, .int .u8 25, .int .u8 17, .int .u8 4, .int .u8 8, .int .u8 31, .int .u8 27, .int .u8 13, .int .u8 23, .int .u8 21, .int .u8 19, .int .u8 16, .int .u8 7, .int .u8 26, .int .u8 12, .int .u8 18, .int .u8 6, .int .u8 11, .int .u8 5, .int .u8 10, .int .u8 9]
def b5 : List Obj := []
theorem g5 : Tryz.prog.globalNamed "math/bits.deBruijn32tab" = some 6 := by kernel_rfl
theorem t5 : (Tryz.prog.globals[6]?).map (·.type) = some 691 := by kernel_rfl
theorem l5 : (Rows.laid_math_bits_deBruijn32tab : DataW Unit).lay Tryz.prog 691 15 = some (y5, b5) := by kernel_rfl
def y6 : List Value := [.int .u8 0, .int .u8 1, .int .u8 56, .int .u8 2, .int .u8 57, .int .u8 49, .int .u8 28, .int .u8 3, .int .u8 61, .int .u8 58, .int .u8 42, .int .u8 50, .int .u8 38, .int .u8 29, .int .u8 17, .int .u8 4, .int .u8 62, .int .u8 47, .int .u8 59, .int .u8 36, .int .u8 45, .int .u8 43, .int .u8 51, .int .u8 22, .int .u8 53, .int .u8 39, .int .u8 33, .int .u8 30, .int .u8 24, .int .u8 18, .int .u8 12, .int .u8 5, .int .u8 63, .int .u8 55, .int .u8 48, .int .u8 27, .int .u8 60, .int .u8 41, .int .u8 37, .int .u8 16, .int .u8 46, .int .u8 35, .int .u8 44, .int .u8 21, .int .u8 52, .int .u8 32, .int .u8 23, .int .u8 11, .int .u8 54, .int .u8 26, .int .u8 40, .int .u8 15, .int .u8 34, .int .u8 20, .int .u8 31, .int .u8 10, .int .u8 25, .int .u8 14, .int .u8 19, .int .u8 9, .int .u8 13, .int .u8 8, .int .u8 7, .int .u8 6]
def b6 : List Obj := []
theorem g6 : Tryz.prog.globalNamed "math/bits.deBruijn64tab" = some 7 := by kernel_rfl
theorem t6 : (Tryz.prog.globals[7]?).map (·.type) = some 692 := by kernel_rfl
theorem l6 : (Rows.laid_math_bits_deBruijn64tab : DataW Unit).lay Tryz.prog 692 15 = some (y6, b6) := by kernel_rfl
theorem lay7 : Lay.layList Tryz.prog 15 ([] : List (String × DataW Unit)) = some ([], []) := rfl
theorem lay6 : Lay.layList Tryz.prog 15 ([("math/bits.deBruijn64tab", Rows.laid_math_bits_deBruijn64tab)] : List (String × DataW Unit)) = some ([(7, y6)], b6 ++ ([])) := lay_cons (y := (y6, b6)) (z := ([], [])) g6 t6 l6 rfl lay7
theorem lay5 : Lay.layList Tryz.prog 15 ([("math/bits.deBruijn32tab", Rows.laid_math_bits_deBruijn32tab), ("math/bits.deBruijn64tab", Rows.laid_math_bits_deBruijn64tab)] : List (String × DataW Unit)) = some ([(6, y5), (7, y6)], b5 ++ (b6 ++ ([]))) := lay_cons (y := (y5, b5)) (z := ([(7, y6)], b6 ++ ([]))) g5 t5 l5 rfl lay6
theorem lay4 : Lay.layList Tryz.prog 15 ([("internal/strconv.uint64pow10", Rows.laid_internal_strconv_uint64pow10), ("math/bits.deBruijn32tab", Rows.laid_math_bits_deBruijn32tab), ("math/bits.deBruijn64tab", Rows.laid_math_bits_deBruijn64tab)] : List (String × DataW Unit)) = some ([(0, y4), (6, y5), (7, y6)], b4 ++ (b5 ++ (b6 ++ ([])))) := lay_cons (y := (y4, b4)) (z := ([(6, y5), (7, y6)], b5 ++ (b6 ++ ([])))) g4 t4 l4 rfl lay5
theorem lay3 : Lay.layList Tryz.prog 14 ([("strconv.ErrRange", Rows.laid_strconv_ErrRange), ("internal/strconv.uint64pow10", Rows.laid_internal_strconv_uint64pow10), ("math/bits.deBruijn32tab", Rows.laid_math_bits_deBruijn32tab), ("math/bits.deBruijn64tab", Rows.laid_math_bits_deBruijn64tab)] : List (String × DataW Unit)) = some ([(5, y3), (0, y4), (6, y5), (7, y6)], b3 ++ (b4 ++ (b5 ++ (b6 ++ ([]))))) := lay_cons (y := (y3, b3)) (z := ([(0, y4), (6, y5), (7, y6)], b4 ++ (b5 ++ (b6 ++ ([]))))) g3 t3 l3 rfl lay4
theorem lay2 : Lay.layList Tryz.prog 13 ([("strconv.ErrSyntax", Rows.laid_strconv_ErrSyntax), ("strconv.ErrRange", Rows.laid_strconv_ErrRange), ("internal/strconv.uint64pow10", Rows.laid_internal_strconv_uint64pow10), ("math/bits.deBruijn32tab", Rows.laid_math_bits_deBruijn32tab), ("math/bits.deBruijn64tab", Rows.laid_math_bits_deBruijn64tab)] : List (String × DataW Unit)) = some ([(4, y2), (5, y3), (0, y4), (6, y5), (7, y6)], b2 ++ (b3 ++ (b4 ++ (b5 ++ (b6 ++ ([])))))) := lay_cons (y := (y2, b2)) (z := ([(5, y3), (0, y4), (6, y5), (7, y6)], b3 ++ (b4 ++ (b5 ++ (b6 ++ ([])))))) g2 t2 l2 rfl lay3
theorem lay1 : Lay.layList Tryz.prog 13 ([("unicode/utf8.acceptRanges", Rows.laid_unicode_utf8_acceptRanges), ("strconv.ErrSyntax", Rows.laid_strconv_ErrSyntax), ("strconv.ErrRange", Rows.laid_strconv_ErrRange), ("internal/strconv.uint64pow10", Rows.laid_internal_strconv_uint64pow10), ("math/bits.deBruijn32tab", Rows.laid_math_bits_deBruijn32tab), ("math/bits.deBruijn64tab", Rows.laid_math_bits_deBruijn64tab)] : List (String × DataW Unit)) = some ([(2, y1), (4, y2), (5, y3), (0, y4), (6, y5), (7, y6)], b1 ++ (b2 ++ (b3 ++ (b4 ++ (b5 ++ (b6 ++ ([]))))))) := lay_cons (y := (y1, b1)) (z := ([(4, y2), (5, y3), (0, y4), (6, y5), (7, y6)], b2 ++ (b3 ++ (b4 ++ (b5 ++ (b6 ++ ([]))))))) g1 t1 l1 rfl lay2
theorem lay0 : Lay.layList Tryz.prog 13 ([("unicode/utf8.first", Rows.laid_unicode_utf8_first), ("unicode/utf8.acceptRanges", Rows.laid_unicode_utf8_acceptRanges), ("strconv.ErrSyntax", Rows.laid_strconv_ErrSyntax), ("strconv.ErrRange", Rows.laid_strconv_ErrRange), ("internal/strconv.uint64pow10", Rows.laid_internal_strconv_uint64pow10), ("math/bits.deBruijn32tab", Rows.laid_math_bits_deBruijn32tab), ("math/bits.deBruijn64tab", Rows.laid_math_bits_deBruijn64tab)] : List (String × DataW Unit)) = some ([(1, y0), (2, y1), (4, y2), (5, y3), (0, y4), (6, y5), (7, y6)], b0 ++ (b1 ++ (b2 ++ (b3 ++ (b4 ++ (b5 ++ (b6 ++ ([])))))))) := lay_cons (y := (y0, b0)) (z := ([(2, y1), (4, y2), (5, y3), (0, y4), (6, y5), (7, y6)], b1 ++ (b2 ++ (b3 ++ (b4 ++ (b5 ++ (b6 ++ ([])))))))) g0 t0 l0 rfl lay1
def yG : List (Nat × List Value) := [(1, y0), (2, y1), (4, y2), (5, y3), (0, y4), (6, y5), (7, y6)]
def yB : List Obj := b0 ++ (b1 ++ (b2 ++ (b3 ++ (b4 ++ (b5 ++ (b6 ++ ([])))))))
theorem layIs : Lay.layList Tryz.prog 13 Rows.topShortRow.laid = some (yG, yB) := by
  have e : Rows.topShortRow.laid = ([("unicode/utf8.first", Rows.laid_unicode_utf8_first), ("unicode/utf8.acceptRanges", Rows.laid_unicode_utf8_acceptRanges), ("strconv.ErrSyntax", Rows.laid_strconv_ErrSyntax), ("strconv.ErrRange", Rows.laid_strconv_ErrRange), ("internal/strconv.uint64pow10", Rows.laid_internal_strconv_uint64pow10), ("math/bits.deBruijn32tab", Rows.laid_math_bits_deBruijn32tab), ("math/bits.deBruijn64tab", Rows.laid_math_bits_deBruijn64tab)] : List (String × DataW Unit)) := by kernel_rfl
  rw [e]
  exact lay0
theorem sizeIs (os : Os) : (World.holding Tryz.prog os ⟨#[], #[], []⟩).heap.size = 13 := by kernel_rfl
def wL (P : Program) (os : Os) : World := { World.holding P os ⟨#[], #[], []⟩ with heap := ⟨Lay.setRows (World.holding P os ⟨#[], #[], []⟩).heap.toList yG ++ yB⟩ }
theorem laid_is {P : Program} {os : Os} {n : Nat} {laid : List (String × DataW Unit)} (hs : (World.holding P os ⟨#[], #[], []⟩).heap.size = n) (hl : Lay.layList P n laid = some (yG, yB)) : World.laidAll P os laid = wL P os := by
  unfold World.laidAll World.layVars
  rw [hs, hl]
  rfl
theorem fits_is {P : Program} {w : World} {n : Nat} {laid : List (String × DataW Unit)} (hs : w.heap.size = n) (hl : Lay.layList P n laid = some (yG, yB))
    (h1 : (decide (yG.map (·.1)).Nodup && (yG.all fun r => Lay.isRow w.heap.toList[r.1]? && !([] : List Nat).contains r.1)) = true) : w.layFits P laid [] = true := by
  unfold World.layFits
  rw [hs, hl]
  simp only [h1]
  rfl
theorem ifaces_is {P : Program} {w w' : World} {n : Nat} {laid : List (String × DataW Unit)} (hs : w.heap.size = n) (hl : Lay.layList P n laid = some (yG, yB))
    (h1 : ((yG.all fun r => r.2.all (Lay.okV P w')) && yB.all (Lay.okO P w')) = true) : w.layIfaces P laid w' = true := by
  unfold World.layIfaces
  rw [hs, hl]
  exact h1
theorem laidIs (os : Os) : World.laidAll Tryz.prog os Rows.topShortRow.laid = wL Tryz.prog os := laid_is (sizeIs os) layIs
theorem e1 : Tryz.prog.inits.idxOf? 5 = none := by kernel_rfl
theorem e2w (os : Os) : ((wL Tryz.prog os).forCall (fun _ _ => 0) ⟨#[], (#[.int .i64 0, .int .i64 0, .int .i64 0] : Array Value), []⟩).variablesZipB Tryz.prog = true := by kernel_rfl
theorem e2 (os : Os) : ((World.laidAll Tryz.prog os Rows.topShortRow.laid).forCall (fun _ _ => 0) ⟨#[], (#[.int .i64 0, .int .i64 0, .int .i64 0] : Array Value), []⟩).variablesZipB Tryz.prog = true := by
  rw [laidIs]
  exact e2w os
theorem e3w (os : Os) : (((wL Tryz.prog os).forCall (fun _ _ => 0) ⟨#[], (#[.int .i64 0, .int .i64 0, .int .i64 0] : Array Value), []⟩).heap.toList.drop Tryz.prog.globals.size).take ((begin Tryz.prog (fun _ _ => 0) default).world.heap.size - Tryz.prog.globals.size) = (begin Tryz.prog (fun _ _ => 0) default).world.heap.toList.drop Tryz.prog.globals.size := by kernel_rfl
theorem e3 (os : Os) : (((World.laidAll Tryz.prog os Rows.topShortRow.laid).forCall (fun _ _ => 0) ⟨#[], (#[.int .i64 0, .int .i64 0, .int .i64 0] : Array Value), []⟩).heap.toList.drop Tryz.prog.globals.size).take ((begin Tryz.prog (fun _ _ => 0) default).world.heap.size - Tryz.prog.globals.size) = (begin Tryz.prog (fun _ _ => 0) default).world.heap.toList.drop Tryz.prog.globals.size := by
  rw [laidIs]
  exact e3w os
theorem e4w (os : Os) : Input.okWideB Tryz.prog ((wL Tryz.prog os).forCall (fun _ _ => 0) ⟨#[], (#[.int .i64 0, .int .i64 0, .int .i64 0] : Array Value), []⟩) 5 ⟨#[], #[.int .i64 0, .int .i64 0, .int .i64 0], []⟩ = true := by kernel_rfl
theorem e4 (os : Os) : Input.okWideB Tryz.prog ((World.laidAll Tryz.prog os Rows.topShortRow.laid).forCall (fun _ _ => 0) ⟨#[], (#[.int .i64 0, .int .i64 0, .int .i64 0] : Array Value), []⟩) 5 ⟨#[], #[.int .i64 0, .int .i64 0, .int .i64 0], []⟩ = true := by
  rw [laidIs]
  exact e4w os
theorem e5w {H : Type} (enc : TypeId × Value → H) (os : Os) : Rows.topShortSpec.preB enc Tryz.prog Tryz.f5 Rows.topShortRow.domain false ((wL Tryz.prog os).forCall (fun _ _ => 0) ⟨#[], (#[.int .i64 0, .int .i64 0, .int .i64 0] : Array Value), []⟩).memory #[.int .i64 0, .int .i64 0, .int .i64 0] 8 = true := by kernel_rfl
theorem e5 {H : Type} (enc : TypeId × Value → H) (os : Os) : Rows.topShortSpec.preB enc Tryz.prog Tryz.f5 Rows.topShortRow.domain false ((World.laidAll Tryz.prog os Rows.topShortRow.laid).forCall (fun _ _ => 0) ⟨#[], (#[.int .i64 0, .int .i64 0, .int .i64 0] : Array Value), []⟩).memory #[.int .i64 0, .int .i64 0, .int .i64 0] 8 = true := by
  rw [laidIs]
  exact e5w enc os
theorem e6w {H : Type} (enc : TypeId × Value → H) (os : Os) : Rows.topShortSpec.sizedB enc Tryz.prog Tryz.f5 false ((wL Tryz.prog os).forCall (fun _ _ => 0) ⟨#[], (#[.int .i64 0, .int .i64 0, .int .i64 0] : Array Value), []⟩).memory #[.int .i64 0, .int .i64 0, .int .i64 0] 8 = true := by kernel_rfl
theorem e6 {H : Type} (enc : TypeId × Value → H) (os : Os) : Rows.topShortSpec.sizedB enc Tryz.prog Tryz.f5 false ((World.laidAll Tryz.prog os Rows.topShortRow.laid).forCall (fun _ _ => 0) ⟨#[], (#[.int .i64 0, .int .i64 0, .int .i64 0] : Array Value), []⟩).memory #[.int .i64 0, .int .i64 0, .int .i64 0] 8 = true := by
  rw [laidIs]
  exact e6w enc os
theorem e7 : (Rows.topShortRow.laid.all fun x => x.2.handleName?.isNone) = true := by kernel_rfl
theorem e8w (os : Os) : (decide (yG.map (·.1)).Nodup && (yG.all fun r => Lay.isRow (World.holding Tryz.prog os ⟨#[], #[], []⟩).heap.toList[r.1]? && !([] : List Nat).contains r.1)) = true := by kernel_rfl
theorem e8 (os : Os) : (World.holding Tryz.prog os ⟨#[], #[], []⟩).layFits Tryz.prog Rows.topShortRow.laid [] = true := fits_is (sizeIs os) layIs (e8w os)
theorem e9w (os : Os) : ((yG.all fun r => r.2.all (Lay.okV Tryz.prog (wL Tryz.prog os))) && yB.all (Lay.okO Tryz.prog (wL Tryz.prog os))) = true := by kernel_rfl
theorem e9 (os : Os) : (World.holding Tryz.prog os ⟨#[], #[], []⟩).layIfaces Tryz.prog Rows.topShortRow.laid (World.laidAll Tryz.prog os Rows.topShortRow.laid) = true := by
  rw [laidIs]
  exact ifaces_is (sizeIs os) layIs (e9w os)
theorem e10 : lssOf Tryz.prog [3, 3, 3] = some [[.int .i64], [.int .i64], [.int .i64]] := by kernel_rfl
theorem e11 : argsRead Tryz.prog [3, 3, 3] = true := by kernel_rfl
end Go.Proofs.YtfofhpkafhpicaaGreatDoor.topShort

/- Closed facts that the card of TopShort asks, one by one: the joined ones. No condition. -/
namespace Go.Proofs.YtfofhpkafhpicaaGreatDoor.topShort
open Go.ChangeShapes Go.WideShapes Go.ChangeAt Go.RowKit

theorem j0 : (Rows.topShortRow.wf (OpenSpec.ofChange Rows.topShortSpec)) = true := by kernel_rfl
theorem j2 : (mapsRowed Tryz.prog) = true := by kernel_rfl
theorem j3 : (Tryz.f5.params.all (Tryz.prog.readableRec ·)) = true := by kernel_rfl
theorem j4 : (namedTie Tryz.prog Rows.topShortRow.named Rows.topShortSpec.vars) = true := by kernel_rfl
theorem j5 : ((Rows.topShortRow.stops == [])) = true := by kernel_rfl
theorem j6 : ((Tryz.prog.stops == [])) = true := by kernel_rfl
theorem j7 : ((Rows.topShortRow.knobs == [])) = true := by kernel_rfl
theorem j8 : ((Tryz.prog.stopKnobs == [])) = true := by kernel_rfl
theorem j13 : ((Rows.topShortRow.maps == (Tryz.f5.params.toList ++ Rows.topShortSpec.plain.varTypes Tryz.prog).any (Tryz.prog.mapsRec ·))) = true := by kernel_rfl
theorem j14 : ((Rows.topShortRow.ifaces == (Tryz.f5.params.toList ++ Rows.topShortSpec.plain.varTypes Tryz.prog).any (Tryz.prog.ifacesRec ·))) = true := by kernel_rfl
theorem j15 : ((Rows.topShortRow.mapsOut == Tryz.prog.mapsAmong Tryz.f5.resultTypes.toList)) = true := by kernel_rfl
theorem j16 : ((Rows.topShortRow.loops == (Tryz.f5.params.toList ++ Rows.topShortSpec.plain.varTypes Tryz.prog).any (Tryz.prog.loopsFrom ·))) = true := by kernel_rfl
theorem j17 : ((Rows.topShortRow.wideKeys == (Tryz.f5.params.toList ++ Rows.topShortSpec.plain.varTypes Tryz.prog ++ Tryz.f5.resultTypes.toList).any (Tryz.prog.wideKeysFrom ·))) = true := by kernel_rfl
theorem j18 : (Rows.topShortSpec.vars.all (Tryz.prog.varReadable ·)) = true := by kernel_rfl
theorem j19 : (Tryz.f5.resultTypes.all (fun t => Tryz.prog.readableRec t && decide (t < Tryz.prog.types.size))) = true := by kernel_rfl
theorem j20 : ((Rows.topShortRow.ifacesOut == Tryz.f5.resultTypes.toList.any (Tryz.prog.ifacesRec ·))) = true := by kernel_rfl
theorem j21 : ((Rows.topShortRow.loopsOut == Tryz.f5.resultTypes.toList.any (Tryz.prog.loopsFrom ·))) = true := by kernel_rfl
theorem j22 : ((Rows.topShortRow.plainKeys == Tryz.prog.plainKeys)) = true := by kernel_rfl
theorem j23 : (Rows.topShortRow.shortTexts.isNone) = true := by kernel_rfl
theorem j24 : (Tryz.prog.stopsHeard) = true := by kernel_rfl
theorem j26 : ((Rows.topShortRow.lifted == Tryz.prog.liftsFinal)) = true := by rw [finals_none]; kernel_rfl
theorem j27 : ((Tryz.prog.make == some Rows.topShortRow.make)) = true := by rw [make_cut]; kernel_rfl
theorem j28 : ((Rows.topShortRow.kinds == (if Rows.topShortRow.domain.isEmpty then [] else Tryz.f5.params.toList.map fun t => match Tryz.prog.underlying t with | some (.int k) => some k | _ => none))) = true := by kernel_rfl
theorem j29 : ((Rows.topShortRow.pinned == Rows.topShortRow.pinnedBy)) = true := by kernel_rfl
theorem j30 : ((Rows.topShortRow.veiled == (Tryz.f5.params.toList ++ Rows.topShortSpec.plain.varTypes Tryz.prog ++ Tryz.f5.resultTypes.toList).any (Tryz.prog.veiledRec ·))) = true := by kernel_rfl
theorem j31 : (Rows.topShortRow.veiledFits Tryz.prog Tryz.f5.params.toList (Tryz.f5.params.toList ++ Rows.topShortSpec.plain.varTypes Tryz.prog ++ Tryz.f5.resultTypes.toList)) = true := by kernel_rfl
set_option maxRecDepth 100000 in
theorem facts : joinedFacts Tryz.prog 5 Tryz.f5 Rows.topShortSpec Rows.topShortRow = true := by
  unfold joinedFacts
  exact (both (both (both (both (both (both (both (both (both (both (both (both (both (both (both (both (both (both (both (both (both (both (both (both (both (both (both (both (both (both (both j0 laidOut) j2) j3) j4) j5) j6) j7) j8) j9) j10) j11) j12) j13) j14) j15) j16) j17) j18) j19) j20) j21) j22) j23) j24) may_enter) j26) j27) j28) j29) j30) j31)
end Go.Proofs.YtfofhpkafhpicaaGreatDoor.topShort

/- Closed facts that the card of TopShort asks, one by one: those of the tie. No condition. -/
namespace Go.Proofs.YtfofhpkafhpicaaGreatDoor.topShort
open Go.ChangeShapes Go.WideShapes Go.ChangeAt Go.RowKit

theorem c1 : Rows.topShortRow.wfByText (OpenSpec.ofChange Rows.topShortSpec) = true := by kernel_rfl
theorem c2 : Tryz.pinned.checked.prog.mainIs = some (true, "1bdd895862cc6d4e4cdce9bd1951f01deccbc9bbc4ab38f4e3d2031c742c9f23".toList) := by kernel_rfl
theorem c3 : Tryz.prog.funcNamed "gatehouse/gatehousetop.TopShort" = some 5 := by kernel_rfl
theorem c4 : true = Tryz.prog.looks [] := by kernel_rfl
theorem c5 : ([3, 3, 3].all fun u => !Tryz.prog.wantsStandIn u) = true := by kernel_rfl
end Go.Proofs.YtfofhpkafhpicaaGreatDoor.topShort
