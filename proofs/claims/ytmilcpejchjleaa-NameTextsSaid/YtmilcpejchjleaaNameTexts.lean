/- Any name's text, any text's name, whether two names are alike, is as the document says: for all names and texts the law NameTexts answers true.
   No condition. -/
import Derived.Test.YtmilcpejchjleaaMnt
import Derived.Test.YtmilcpejchjleaaLa
import Derived.Test.YtmilcpejchjleaaOp
import Derived.Test.YtmilcpejchjleaaHead
namespace Go.Proofs.Ytmilcpejchjleaa.nameTexts
open Go.ChangeShapes Go.WideShapes Go.ChangeAt Go.RowKit

theorem opened (xs : List AV) (h : ArgsOk Try.prog [29, 29, 9] [[.sl [.str]], [.sl [.str]], [.str]] xs) : ∃ L' nx', ACall Try.prog 13 xs [] 0 (.val (.bool true)) L' nx' := by
  obtain ⟨x0, r0, rfl, a0, h⟩ := h
  obtain ⟨x1, r1, rfl, a1, h⟩ := h
  obtain ⟨x2, r2, rfl, a2, h⟩ := h
  obtain rfl := h
  obtain ⟨n0, g0, y0, e0, hg0, -⟩ := a0.one_inv (by kernel_rfl)
  injection e0 with e0 _
  subst e0
  obtain ⟨us, hus⟩ := toVS n0 g0 fun i hi => by
    obtain ⟨s, _, h⟩ := leaf_str (hg0 i hi).1 (hg0 i hi).2
    exact ⟨s, h⟩
  obtain ⟨n1, g1, y1, e1, hg1, -⟩ := a1.one_inv (by kernel_rfl)
  injection e1 with e1 _
  subst e1
  obtain ⟨ws, hws⟩ := toVS n1 g1 fun i hi => by
    obtain ⟨s, _, h⟩ := leaf_str (hg1 i hi).1 (hg1 i hi).2
    exact ⟨s, h⟩
  obtain ⟨tx, y2, e2, htx, -⟩ := a2.one_inv (by kernel_rfl)
  injection e2 with e2 _
  subst e2
  obtain ⟨L1, nx1, hc⟩ := nameTexts_walk us ws tx 
  exact ⟨L1, nx1, hc.argsL (.cons hus (.cons hws (.cons (sameA _) .nil)))⟩

set_option maxRecDepth 100000 in
theorem lifted (os : Os) (started : os.Started) (H : Type) (enc : TypeId × Value → H) :
    ReturnsInHanded {} Try.checked os 13 .any (Rows.nameTextsSpec.pre6 enc Try.prog Try.f13 Rows.nameTextsRow.domain false) (Rows.nameTextsSpec.post enc Try.prog Try.f13 false true false false) := by
  refine returnsInHanded_of_change (C := Try.checked) own started (by kernel_rfl) Try.func13
    (ChangeSpec.witness6 (enc := enc) (C := Try.checked) false ⟨#[], #[.slice none 0 0, .slice none 0 0, .string ⟨#[]⟩], []⟩ 8 (by kernel_rfl) (by kernel_rfl) (by kernel_rfl) (by kernel_rfl)) ?_
  intro W base args ds gs before hval0 hW hcnd _
  have hval : ∀ (j : Nat) t v, Try.f13.params[j]? = some t → args[j]? = some v → Value.okWide Try.prog W .any base t v := hval0
  have hW' := hW
  obtain ⟨p, q, hA0, hV, rfl, hfz, hnd⟩ := hW
  have hA : DataW.TrodAll enc Try.prog W 0 (fun _ => true) true Try.f13.params.toList args.toList ds p := hA0
  rw [Try.params13] at hA hval
  obtain ⟨rfl, rfl⟩ := trodVars_none hV
  clear hA0 hval0
  obtain ⟨xs, hok, hlen, hreps⟩ := open_args (enc := enc) [29, 29, 9] [[.sl [.str]], [.sl [.str]], [.str]] args.toList ds p (by kernel_rfl) hA fun j t v h1 h2 => hval j t v (by simpa using h1) (by simpa using h2)
  obtain ⟨L', nx', hc⟩ := opened xs hok
  refine (hc.true_ (reps_args hlen hreps)).mono fun e W' ⟨he, bel⟩ => ?_
  subst he
  have hA2 := args_after laidOut bel [29, 29, 9] args.toList ds p (by kernel_rfl) hA
  clear hreps hval hok hlen
  obtain ⟨_, _, d0, ds0, p0, q0, _, rfl, rfl, _, hA⟩ := trodAll_cons hA
  obtain ⟨_, _, d1, ds1, p1, q1, _, rfl, rfl, _, hA⟩ := trodAll_cons hA
  obtain ⟨_, _, d2, ds2, p2, q2, _, rfl, rfl, _, hA⟩ := trodAll_cons hA
  obtain ⟨_, rfl, rfl⟩ := trodAll_nil hA
  exact ⟨_, rfl, _, _, _, [], _, [], hW', trodAll_mk1 (shut_bool Try.underlying4 _), hA2, rfl, bel.frame _, fun h => by cases h⟩

theorem facts : joinedFacts Try.prog 13 Try.f13 Rows.nameTextsSpec Rows.nameTextsRow = true := by
  unfold joinedFacts
  exact both (both (both (both (both (both (both (by kernel_rfl) may_enter) (by rw [finals_none]; kernel_rfl)) (by rw [make_cut]; kernel_rfl)) (by kernel_rfl)) (by kernel_rfl)) (by kernel_rfl)) (by kernel_rfl)

theorem over : Rows.nameTextsRow.holds Try.pinned (OpenSpec.ofChange Rows.nameTextsSpec) :=
  OpenClaim.holds_of_wide 13 Try.f13 rfl rfl rfl rfl rfl rfl rfl ⟨rfl, rfl, rfl, rfl, rfl⟩ rfl rfl rfl rfl rfl (by kernel_rfl) Try.func13 facts
    (of_decide_eq_true (by kernel_rfl)) (by unfold Func.isWrapper; first | (rw [if_pos (by decide +kernel)]; kernel_rfl) | (rw [if_neg (by decide +kernel)]; exact ⟨rfl, rfl⟩))
    (fun os started H enc _ => lifted os started H enc)

theorem proved : Rows.NameTextsSaid := over
end Go.Proofs.Ytmilcpejchjleaa.nameTexts
