/- No two questions that wait go out by one port; the thirty-third is refused: for every list of draws the law AskPorts answers true.
   No condition. -/
import Derived.Test.YtmilcpejchjleaaMar
import Derived.Test.YtmilcpejchjleaaLa
import Derived.Test.YtmilcpejchjleaaOp
import Derived.Test.YtmilcpejchjleaaHead
namespace Go.Proofs.Ytmilcpejchjleaa.askPorts
open Go.ChangeShapes Go.WideShapes Go.ChangeAt Go.RowKit

theorem opened (xs : List AV) (h : ArgsOk Try.prog [44] [[.sl [.int .u32]]] xs) : ∃ L' nx', ACall Try.prog 7 xs [] 0 (.val (.bool true)) L' nx' := by
  obtain ⟨x0, r0, rfl, a0, h⟩ := h
  obtain rfl := h
  obtain ⟨n0, g0, y0, e0, hg0, -⟩ := a0.one_inv (by kernel_rfl)
  injection e0 with e0 _
  subst e0
  exact walk' n0 g0 fun i hi => by
    obtain ⟨z, hw, hz⟩ := leaf_int (hg0 i hi).1 (hg0 i hi).2
    exact ⟨z, wf_u32 hw, hz⟩

set_option maxRecDepth 100000 in
theorem lifted (os : Os) (started : os.Started) (H : Type) (enc : TypeId × Value → H) :
    ReturnsInHanded {} Try.checked os 7 .any (Rows.askPortsSpec.pre6 enc Try.prog Try.f7 Rows.askPortsRow.domain false) (Rows.askPortsSpec.post enc Try.prog Try.f7 false true false false) := by
  refine returnsInHanded_of_change (C := Try.checked) own started (by kernel_rfl) Try.func7
    (ChangeSpec.witness6 (enc := enc) (C := Try.checked) false ⟨#[], #[.slice none 0 0], []⟩ 8 (by kernel_rfl) (by kernel_rfl) (by kernel_rfl) (by kernel_rfl)) ?_
  intro W base args ds gs before hval0 hW hcnd _
  have hval : ∀ (j : Nat) t v, Try.f7.params[j]? = some t → args[j]? = some v → Value.okWide Try.prog W .any base t v := hval0
  have hW' := hW
  obtain ⟨p, q, hA0, hV, rfl, hfz, hnd⟩ := hW
  have hA : DataW.TrodAll enc Try.prog W 0 (fun _ => true) true Try.f7.params.toList args.toList ds p := hA0
  rw [Try.params7] at hA hval
  obtain ⟨rfl, rfl⟩ := trodVars_none hV
  clear hA0 hval0
  obtain ⟨xs, hok, hlen, hreps⟩ := open_args (enc := enc) [44] [[.sl [.int .u32]]] args.toList ds p (by kernel_rfl) hA fun j t v h1 h2 => hval j t v (by simpa using h1) (by simpa using h2)
  obtain ⟨L', nx', hc⟩ := opened xs hok
  refine (hc.true_ (reps_args hlen hreps)).mono fun e W' ⟨he, bel⟩ => ?_
  subst he
  have hA2 := args_after laidOut bel [44] args.toList ds p (by kernel_rfl) hA
  clear hreps hval hok hlen
  obtain ⟨_, _, d0, ds0, p0, q0, _, rfl, rfl, _, hA⟩ := trodAll_cons hA
  obtain ⟨_, rfl, rfl⟩ := trodAll_nil hA
  exact ⟨_, rfl, _, _, _, [], _, [], hW', trodAll_mk1 (shut_bool Try.underlying4 _), hA2, rfl, bel.frame _, fun h => by cases h⟩

theorem facts : joinedFacts Try.prog 7 Try.f7 Rows.askPortsSpec Rows.askPortsRow = true := by
  unfold joinedFacts
  exact both (both (both (both (both (both (both (by kernel_rfl) may_enter) (by rw [finals_none]; kernel_rfl)) (by rw [make_cut]; kernel_rfl)) (by kernel_rfl)) (by kernel_rfl)) (by kernel_rfl)) (by kernel_rfl)

theorem over : Rows.askPortsRow.holds Try.pinned (OpenSpec.ofChange Rows.askPortsSpec) :=
  OpenClaim.holds_of_wide 7 Try.f7 rfl rfl rfl rfl rfl rfl rfl ⟨rfl, rfl, rfl, rfl, rfl⟩ rfl rfl rfl rfl rfl (by kernel_rfl) Try.func7 facts
    (of_decide_eq_true (by kernel_rfl)) (by unfold Func.isWrapper; first | (rw [if_pos (by decide +kernel)]; kernel_rfl) | (rw [if_neg (by decide +kernel)]; exact ⟨rfl, rfl⟩))
    (fun os started H enc _ => lifted os started H enc)

theorem proved : Rows.AskPortsSaid := over
end Go.Proofs.Ytmilcpejchjleaa.askPorts
