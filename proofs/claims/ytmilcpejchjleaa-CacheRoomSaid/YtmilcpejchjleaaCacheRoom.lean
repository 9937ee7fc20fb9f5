/- Of more answers than there is room for those that are over first go: for every room and every list of times the law CacheRoom answers true.
   No condition. -/
import Derived.Test.YtmilcpejchjleaaMcx
import Derived.Test.YtmilcpejchjleaaLa
import Derived.Test.YtmilcpejchjleaaOp
import Derived.Test.YtmilcpejchjleaaHead
namespace Go.Proofs.Ytmilcpejchjleaa.cacheRoom
open Go.ChangeShapes Go.WideShapes Go.ChangeAt Go.RowKit

theorem opened (xs : List AV) (h : ArgsOk Try.prog [3, 44] [[.int .i64], [.sl [.int .u32]]] xs) : ∃ L' nx', ACall Try.prog 4 xs [] 0 (.val (.bool true)) L' nx' := by
  obtain ⟨x0, r0, rfl, a0, h⟩ := h
  obtain ⟨x1, r1, rfl, a1, h⟩ := h
  obtain rfl := h
  obtain ⟨room, y0, e0, hroom, -⟩ := a0.one_inv (by kernel_rfl)
  injection e0 with e0 _
  subst e0
  obtain ⟨n1, g1, y1, e1, hg1, -⟩ := a1.one_inv (by kernel_rfl)
  injection e1 with e1 _
  subst e1
  exact walk' room n1 g1 fun i hi => by
    obtain ⟨z, hw, hz⟩ := leaf_int (hg1 i hi).1 (hg1 i hi).2
    exact ⟨z, wf_u32 hw, hz⟩

set_option maxRecDepth 100000 in
theorem lifted (os : Os) (started : os.Started) (H : Type) (enc : TypeId × Value → H) :
    ReturnsInHanded {} Try.checked os 4 .any (Rows.cacheRoomSpec.pre6 enc Try.prog Try.f4 Rows.cacheRoomRow.domain false) (Rows.cacheRoomSpec.post enc Try.prog Try.f4 false true false false) := by
  refine returnsInHanded_of_change (C := Try.checked) own started (by kernel_rfl) Try.func4
    (ChangeSpec.witness6 (enc := enc) (C := Try.checked) false ⟨#[], #[.int .i64 0, .slice none 0 0], []⟩ 8 (by kernel_rfl) (by kernel_rfl) (by kernel_rfl) (by kernel_rfl)) ?_
  intro W base args ds gs before hval0 hW hcnd _
  have hval : ∀ (j : Nat) t v, Try.f4.params[j]? = some t → args[j]? = some v → Value.okWide Try.prog W .any base t v := hval0
  have hW' := hW
  obtain ⟨p, q, hA0, hV, rfl, hfz, hnd⟩ := hW
  have hA : DataW.TrodAll enc Try.prog W 0 (fun _ => true) true Try.f4.params.toList args.toList ds p := hA0
  rw [Try.params4] at hA hval
  obtain ⟨rfl, rfl⟩ := trodVars_none hV
  clear hA0 hval0
  obtain ⟨xs, hok, hlen, hreps⟩ := open_args (enc := enc) [3, 44] [[.int .i64], [.sl [.int .u32]]] args.toList ds p (by kernel_rfl) hA fun j t v h1 h2 => hval j t v (by simpa using h1) (by simpa using h2)
  obtain ⟨L', nx', hc⟩ := opened xs hok
  refine (hc.true_ (reps_args hlen hreps)).mono fun e W' ⟨he, bel⟩ => ?_
  subst he
  have hA2 := args_after laidOut bel [3, 44] args.toList ds p (by kernel_rfl) hA
  clear hreps hval hok hlen
  obtain ⟨_, _, d0, ds0, p0, q0, _, rfl, rfl, _, hA⟩ := trodAll_cons hA
  obtain ⟨_, _, d1, ds1, p1, q1, _, rfl, rfl, _, hA⟩ := trodAll_cons hA
  obtain ⟨_, rfl, rfl⟩ := trodAll_nil hA
  exact ⟨_, rfl, _, _, _, [], _, [], hW', trodAll_mk1 (shut_bool Try.underlying4 _), hA2, rfl, bel.frame _, fun h => by cases h⟩

theorem facts : joinedFacts Try.prog 4 Try.f4 Rows.cacheRoomSpec Rows.cacheRoomRow = true := by
  unfold joinedFacts
  exact both (both (both (both (both (both (both (by kernel_rfl) may_enter) (by rw [finals_none]; kernel_rfl)) (by rw [make_cut]; kernel_rfl)) (by kernel_rfl)) (by kernel_rfl)) (by kernel_rfl)) (by kernel_rfl)

theorem over : Rows.cacheRoomRow.holds Try.pinned (OpenSpec.ofChange Rows.cacheRoomSpec) :=
  OpenClaim.holds_of_wide 4 Try.f4 rfl rfl rfl rfl rfl rfl rfl ⟨rfl, rfl, rfl, rfl, rfl⟩ rfl rfl rfl rfl rfl (by kernel_rfl) Try.func4 facts
    (of_decide_eq_true (by kernel_rfl)) (by unfold Func.isWrapper; first | (rw [if_pos (by decide +kernel)]; kernel_rfl) | (rw [if_neg (by decide +kernel)]; exact ⟨rfl, rfl⟩))
    (fun os started H enc _ => lifted os started H enc)

theorem proved : Rows.CacheRoomSaid := over
end Go.Proofs.Ytmilcpejchjleaa.cacheRoom
