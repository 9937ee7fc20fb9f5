/- The closed law NameKnown answers true.
   No condition. -/
import Derived.Test.YtmilcpejchjleaaJoin
import Derived.Test.YtmilcpejchjleaaHead
namespace Go.Proofs.Ytmilcpejchjleaa.nameKnown
open Go.ChangeShapes Go.WideShapes Go.ChangeAt Go.RowKit

theorem comes : comesTrue kJoin Try.prog 10000 30 10 = true := by kernel_rfl

set_option maxRecDepth 100000 in
theorem lifted (os : Os) (started : os.Started) (H : Type) (enc : TypeId × Value → H) :
    ReturnsInHanded {} Try.checked os 10 .any (Rows.nameKnownSpec.pre6 enc Try.prog Try.f10 Rows.nameKnownRow.domain false) (Rows.nameKnownSpec.post enc Try.prog Try.f10 false true false false) := by
  refine returnsInHanded_of_change (C := Try.checked) own started (by kernel_rfl) Try.func10
    (ChangeSpec.witness6 (enc := enc) (C := Try.checked) false ⟨#[], #[], []⟩ 8 (by kernel_rfl) (by kernel_rfl) (by kernel_rfl) (by kernel_rfl)) ?_
  intro W base args ds gs before hval0 hW hcnd _
  have hW' := hW
  obtain ⟨p, q, hA0, hV, rfl, hfz, hnd⟩ := hW
  have hA : DataW.TrodAll enc Try.prog W 0 (fun _ => true) true Try.f10.params.toList args.toList ds p := hA0
  rw [Try.params10] at hA
  obtain ⟨hargs, rfl, rfl⟩ := trodAll_nil hA
  obtain rfl : args = #[] := by cases args; simp_all
  obtain ⟨rfl, rfl⟩ := trodVars_none hV
  clear hA0 hval0
  refine (closed_true kJoin_ok comes W).mono fun e W' ⟨he, bel⟩ => ?_
  subst he
  exact ⟨_, rfl, _, _, _, [], _, [], hW', trodAll_mk1 (shut_bool Try.underlying4 _), trodAll_mk0, rfl, bel.frame _, fun h => by cases h⟩

theorem facts : joinedFacts Try.prog 10 Try.f10 Rows.nameKnownSpec Rows.nameKnownRow = true := by
  unfold joinedFacts
  exact both (both (both (both (both (both (both (by kernel_rfl) may_enter) (by rw [finals_none]; kernel_rfl)) (by rw [make_cut]; kernel_rfl)) (by kernel_rfl)) (by kernel_rfl)) (by kernel_rfl)) (by kernel_rfl)

theorem over : Rows.nameKnownRow.holds Try.pinned (OpenSpec.ofChange Rows.nameKnownSpec) :=
  OpenClaim.holds_of_wide 10 Try.f10 rfl rfl rfl rfl rfl rfl rfl ⟨rfl, rfl, rfl, rfl, rfl⟩ rfl rfl rfl rfl rfl (by kernel_rfl) Try.func10 facts
    (of_decide_eq_true (by kernel_rfl)) (by unfold Func.isWrapper; first | (rw [if_pos (by decide +kernel)]; kernel_rfl) | (rw [if_neg (by decide +kernel)]; exact ⟨rfl, rfl⟩))
    (fun os started H enc _ => lifted os started H enc)

theorem proved : Rows.NameKnownSaid := over
end Go.Proofs.Ytmilcpejchjleaa.nameKnown
