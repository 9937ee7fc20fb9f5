/- What an error says of a packet: no error is asked of a fragment, of one from no host, of an error; and none of the error that was built: for every address, packet and type the law IcmpNone answers true.
   No condition. -/
import Derived.Test.YtoekncmggjhmjaaInl
import Derived.Test.YtoekncmggjhmjaaOp
import Derived.Test.YtoekncmggjhmjaaHead
namespace Go.Proofs.Ytoekncmggjhmjaa.icmpNone
open Go.ChangeShapes Go.WideShapes Go.ChangeAt Go.RowKit

theorem opened (xs : List AV) (h : ArgsOk Try.prog [23, 26, 3] [[.int .u8, .int .u8, .int .u8, .int .u8], [.int .i64, .int .i64, .int .i64, .int .i64, .int .i64, .int .i64, .int .u8, .int .u8, .int .u8, .int .u8, .int .u8, .int .u8, .int .u8, .int .u8, .bytes, .bytes], [.int .i64]] xs) : ∃ L' nx', ACall Try.prog 24 xs [] 0 (.val (.bool true)) L' nx' := by
  obtain ⟨x0, r0, rfl, a0, h⟩ := h
  obtain ⟨x1, r1, rfl, a1, h⟩ := h
  obtain ⟨x2, r2, rfl, a2, h⟩ := h
  obtain rfl := h
  obtain ⟨c0, rfl, i0⟩ := a0.row_inv (by kernel_rfl)
  obtain ⟨w0, _, rfl, hw0, w1, _, rfl, hw1, w2, _, rfl, hw2, w3, _, rfl, hw3, rfl⟩ := i0
  obtain ⟨c1, rfl, i1⟩ := a1.row_inv (by kernel_rfl)
  obtain ⟨tos, _, rfl, htos, id, _, rfl, hid, flags, _, rfl, hflags, part, _, rfl, hpart, ttl, _, rfl, httl, proto, _, rfl, hproto, f0, _, rfl, hf0, f1, _, rfl, hf1, f2, _, rfl, hf2, f3, _, rfl, hf3, t0, _, rfl, ht0, t1, _, rfl, ht1, t2, _, rfl, ht2, t3, _, rfl, ht3, opts, _, rfl, body, _, rfl, rfl⟩ := i1
  obtain ⟨typ, y2, e2, htyp, -⟩ := a2.one_inv (by kernel_rfl)
  injection e2 with e2 _
  subst e2
  exact walk w0 w1 w2 w3 tos id flags part ttl proto f0 f1 f2 f3 t0 t1 t2 t3 opts body typ ⟨wf_u8 hw0, wf_u8 hw1, wf_u8 hw2, wf_u8 hw3⟩ ⟨wf_u8 hf0, wf_u8 hf1, wf_u8 hf2, wf_u8 hf3, wf_u8 ht0, wf_u8 ht1, wf_u8 ht2, wf_u8 ht3⟩

set_option maxRecDepth 100000 in
theorem lifted (os : Os) (started : os.Started) (H : Type) (enc : TypeId × Value → H) :
    ReturnsInHanded {} Try.checked os 24 .any (Rows.icmpNoneSpec.pre6 enc Try.prog Try.f24 Rows.icmpNoneRow.domain false) (Rows.icmpNoneSpec.post enc Try.prog Try.f24 false true false false) := by
  refine returnsInHanded_of_change (C := Try.checked) own started (by kernel_rfl) Try.func24
    (ChangeSpec.witness6 (enc := enc) (C := Try.checked) false ⟨#[], #[.agg #[.int .u8 0, .int .u8 0, .int .u8 0, .int .u8 0], .agg #[.int .i64 0, .int .i64 0, .int .i64 0, .int .i64 0, .int .i64 0, .int .i64 0, .int .u8 0, .int .u8 0, .int .u8 0, .int .u8 0, .int .u8 0, .int .u8 0, .int .u8 0, .int .u8 0, .slice none 0 0, .slice none 0 0], .int .i64 0], []⟩ 8 (by kernel_rfl) (by kernel_rfl) (by kernel_rfl) (by kernel_rfl)) ?_
  intro W base args ds gs before hval0 hW hcnd _
  have hval : ∀ (j : Nat) t v, Try.f24.params[j]? = some t → args[j]? = some v → Value.okWide Try.prog W .any base t v := hval0
  have hW' := hW
  obtain ⟨p, q, hA0, hV, rfl, hfz, hnd⟩ := hW
  have hA : DataW.TrodAll enc Try.prog W 0 (fun _ => true) true Try.f24.params.toList args.toList ds p := hA0
  rw [Try.params24] at hA hval
  obtain ⟨rfl, rfl⟩ := trodVars_none hV
  clear hA0 hval0
  obtain ⟨xs, hok, hlen, hreps⟩ := open_args (enc := enc) [23, 26, 3] [[.int .u8, .int .u8, .int .u8, .int .u8], [.int .i64, .int .i64, .int .i64, .int .i64, .int .i64, .int .i64, .int .u8, .int .u8, .int .u8, .int .u8, .int .u8, .int .u8, .int .u8, .int .u8, .bytes, .bytes], [.int .i64]] args.toList ds p (by kernel_rfl) hA fun j t v h1 h2 => hval j t v (by simpa using h1) (by simpa using h2)
  obtain ⟨L', nx', hc⟩ := opened xs hok
  refine (hc.true_ (reps_args hlen hreps)).mono fun e W' ⟨he, bel⟩ => ?_
  subst he
  have hA2 := args_after laidOut bel [23, 26, 3] args.toList ds p (by kernel_rfl) hA
  clear hreps hval hok hlen
  obtain ⟨_, _, d0, ds0, p0, q0, _, rfl, rfl, _, hA⟩ := trodAll_cons hA
  obtain ⟨_, _, d1, ds1, p1, q1, _, rfl, rfl, _, hA⟩ := trodAll_cons hA
  obtain ⟨_, _, d2, ds2, p2, q2, _, rfl, rfl, _, hA⟩ := trodAll_cons hA
  obtain ⟨_, rfl, rfl⟩ := trodAll_nil hA
  exact ⟨_, rfl, _, _, _, [], _, [], hW', trodAll_mk1 (shut_bool Try.underlying4 _), hA2, rfl, bel.frame _, fun h => by cases h⟩

theorem facts : joinedFacts Try.prog 24 Try.f24 Rows.icmpNoneSpec Rows.icmpNoneRow = true := by
  unfold joinedFacts
  exact both (both (both (both (both (both (both (by kernel_rfl) may_enter) (by rw [finals_none]; kernel_rfl)) (by rw [make_cut]; kernel_rfl)) (by kernel_rfl)) (by kernel_rfl)) (by kernel_rfl)) (by kernel_rfl)

theorem over : Rows.icmpNoneRow.holds Try.pinned (OpenSpec.ofChange Rows.icmpNoneSpec) :=
  OpenClaim.holds_of_wide 24 Try.f24 rfl rfl rfl rfl rfl rfl rfl ⟨rfl, rfl, rfl, rfl, rfl⟩ rfl rfl rfl rfl rfl (by kernel_rfl) Try.func24 facts
    (of_decide_eq_true (by kernel_rfl)) (by unfold Func.isWrapper; first | (rw [if_pos (by decide +kernel)]; kernel_rfl) | (rw [if_neg (by decide +kernel)]; exact ⟨rfl, rfl⟩))
    (fun os started H enc _ => lifted os started H enc)

theorem proved : Rows.IcmpNoneSaid := over
end Go.Proofs.Ytoekncmggjhmjaa.icmpNone
