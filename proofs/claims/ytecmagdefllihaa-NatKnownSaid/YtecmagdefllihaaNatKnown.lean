/- The examples of chapter 19 answer as told: the law NatKnown answers true.
   No condition. -/
import Derived.Test.YtecmagdefllihaaNkLaw
import Derived.Test.YtecmagdefllihaaOp
import Derived.Test.YtecmagdefllihaaHead
namespace Go.Proofs.Ytecmagdefllihaa.natKnown
set_option linter.unnecessarySimpa false
open Go.ChangeShapes Go.WideShapes Go.ChangeAt Go.RowKit

theorem opened (xs : List AV) (h : ArgsOk Try.prog [] [] xs) : ∃ L' nx', ACall Try.prog 14 xs [] 0 (.val (.bool true)) L' nx' := by
  obtain rfl := h
  exact walk  

set_option maxRecDepth 100000 in
theorem lifted (os : Os) (started : os.Started) (H : Type) (enc : TypeId × Value → H) :
    ReturnsInHanded {} Try.checked os 14 .any (Rows.natKnownSpec.pre6 enc Try.prog Try.f14 Rows.natKnownRow.domain false) (Rows.natKnownSpec.post enc Try.prog Try.f14 false true false false) := by
  refine returnsInHanded_of_change (C := Try.checked) own started (by kernel_rfl) Try.func14
    (ChangeSpec.witness6 (enc := enc) (C := Try.checked) false ⟨#[], #[], []⟩ 8 (by kernel_rfl) (by kernel_rfl) (by kernel_rfl) (by kernel_rfl)) ?_
  intro W base args ds gs before hval0 hW hcnd _
  have hval : ∀ (j : Nat) t v, Try.f14.params[j]? = some t → args[j]? = some v → Value.okWide Try.prog W .any base t v := hval0
  have hW' := hW
  obtain ⟨p, q, hA0, hV, rfl, hfz, hnd⟩ := hW
  have hA : DataW.TrodAll enc Try.prog W 0 (fun _ => true) true Try.f14.params.toList args.toList ds p := hA0
  rw [Try.params14] at hA hval
  obtain ⟨rfl, rfl⟩ := trodVars_none hV
  clear hA0 hval0
  obtain ⟨xs, hok, hlen, hreps⟩ := open_args (enc := enc) [] [] args.toList ds p (by kernel_rfl) hA fun j t v h1 h2 => hval j t v (by simpa using h1) (by simpa using h2)
  obtain ⟨L', nx', hc⟩ := opened xs hok
  refine (hc.true_ (reps_args hlen hreps)).mono fun e W' ⟨he, bel⟩ => ?_
  subst he
  have hA2 := args_after laidOut bel [] args.toList ds p (by kernel_rfl) hA
  clear hreps hval hok hlen
  obtain ⟨_, rfl, rfl⟩ := trodAll_nil hA
  exact ⟨_, rfl, _, _, _, [], _, [], hW', trodAll_mk1 (shut_bool Try.underlying4 _), hA2, rfl, bel.frame _, fun h => by cases h⟩

theorem facts : joinedFacts Try.prog 14 Try.f14 Rows.natKnownSpec Rows.natKnownRow = true := by
  unfold joinedFacts
  exact both (both (both (both (both (both (both (by kernel_rfl) may_enter) (by rw [finals_none]; kernel_rfl)) (by rw [make_cut]; kernel_rfl)) (by kernel_rfl)) (by kernel_rfl)) (by kernel_rfl)) (by kernel_rfl)

theorem over : Rows.natKnownRow.holds Try.pinned (OpenSpec.ofChange Rows.natKnownSpec) :=
  OpenClaim.holds_of_wide 14 Try.f14 rfl rfl rfl rfl rfl rfl rfl ⟨rfl, rfl, rfl, rfl, rfl⟩ rfl rfl rfl rfl rfl (by kernel_rfl) Try.func14 facts
    (of_decide_eq_true (by kernel_rfl)) (by unfold Func.isWrapper; first | (rw [if_pos (by decide +kernel)]; kernel_rfl) | (rw [if_neg (by decide +kernel)]; exact ⟨rfl, rfl⟩))
    (fun os started H enc _ => lifted os started H enc)

theorem proved : Rows.NatKnownSaid := over
end Go.Proofs.Ytecmagdefllihaa.natKnown
