/- Labels joined by points: one, and one ahead of others. -/
import Derived.Test.YtmilcpejchjleaaMkp
namespace Go.Proofs.Ytmilcpejchjleaa
open Go.RowKit

theorem joinW_cons (s : List UInt8) (t : List UInt8) (r : List (List UInt8)) : joinW (s :: t :: r) ⟨#[46]⟩ = s ++ (46 :: joinW (t :: r) ⟨#[46]⟩) := by
  simp [joinW, Lib.join]
theorem joinW_one (s : List UInt8) : joinW [s] ⟨#[46]⟩ = s := by simp [joinW, Lib.join]
/-- the rows of a list that is seen -/
def rowsV (ls : List (List UInt8)) : List (List AV) := List.map (fun i => [AV.val (Value.string { data := List.toArray (List.getD ls i []) })]) (List.range (List.length ls))
theorem rowsV_eq (ls : List (List UInt8)) : rowsV ls = rowsL ls := by
  unfold rowsV rowsL
  apply List.ext_getElem
  · simp
  · intro i h1 h2
    simp only [List.length_map, List.length_range] at h1
    simp [sStr, List.getD_eq_getElem?_getD, h1]
end Go.Proofs.Ytmilcpejchjleaa
