/- TrackShakes answers true, whatever is given.
   No condition. -/
import Derived.Test.YtecmagdefllihaaShakeA
import Derived.Test.YtecmagdefllihaaShakeB
import Derived.Test.YtecmagdefllihaaShakeC
import Derived.Test.YtecmagdefllihaaShakeD
import Derived.Test.YtecmagdefllihaaShakeE
import Derived.Test.YtecmagdefllihaaHead
namespace Go.Proofs.Ytecmagdefllihaa.trackShakes
open Go.ChangeShapes Go.WideShapes Go.ChangeAt Go.RowKit

theorem walk (x z : Bool) (a : Int) (W : World) : Calls Try.prog 6 #[.bool x, .int .i64 a, .bool z] W fun e w' => e = .returned (.bool true) ∧ Below W.heap.size W w' := by
  by_cases h1 : a < 0
  · refine run_true (vals := [.bool x, .int .i64 a, .bool z]) (symH_ok _ _ _ _ _) (low x z a) (fun p hp => ?_) W
    simp at hp
    rw [hp]; simpa using h1
  by_cases h2 : 50 < a
  · refine run_true (vals := [.bool x, .int .i64 a, .bool z]) (symH_ok _ _ _ _ _) (high x z a) (fun p hp => ?_) W
    simp only [List.mem_cons, List.not_mem_nil, or_false] at hp
    rcases hp with rfl | rfl | rfl | rfl
    all_goals first | (simpa using h1) | (simpa using h2)
  have hq : ∀ p ∈ [decide (a < 0) = false, decide (a < 0) = false, decide (a < 0) = false, decide (50 < a) = false, famP (upTo a 50 0)], p := by
    intro p hp
    simp only [List.mem_cons, List.not_mem_nil, or_false] at hp
    rcases hp with rfl | rfl | rfl | rfl | rfl
    · simpa using h1
    · simpa using h1
    · simpa using h1
    · simpa using h2
    · exact famP_upTo a 50 0 (by omega) (by omega)
  cases x <;> cases z
  · exact run_true (vals := [.bool false, .int .i64 a, .bool false]) (symH_ok _ _ _ _ _) (midE a) hq W
  · exact run_true (vals := [.bool false, .int .i64 a, .bool true]) (symH_ok _ _ _ _ _) (midD a) hq W
  · exact run_true (vals := [.bool true, .int .i64 a, .bool false]) (symH_ok _ _ _ _ _) (midC a) hq W
  · exact run_true (vals := [.bool true, .int .i64 a, .bool true]) (symH_ok _ _ _ _ _) (midB a) hq W

set_option maxRecDepth 100000 in
theorem lifted (os : Os) (started : os.Started) (H : Type) (enc : TypeId × Value → H) :
    ReturnsInHanded {} Try.checked os 6 .any (Rows.trackShakesSpec.pre6 enc Try.prog Try.f6 Rows.trackShakesRow.domain false) (Rows.trackShakesSpec.post enc Try.prog Try.f6 false true false false) := by
  refine returnsInHanded_of_change (C := Try.checked) own started (by kernel_rfl) Try.func6
    (ChangeSpec.witness6 (enc := enc) (C := Try.checked) false ⟨#[], #[.bool false, .int .i64 0, .bool false], []⟩ 8 (by kernel_rfl) (by kernel_rfl) (by kernel_rfl) (by kernel_rfl)) ?_
  intro W base args ds gs before hval0 hW hcnd _
  have hval : ∀ (j : Nat) t v, Try.f6.params[j]? = some t → args[j]? = some v → Value.okWide Try.prog W .any base t v := hval0
  have hW' := hW
  obtain ⟨p, q, hA0, hV, rfl, hfz, hnd⟩ := hW
  have hA : DataW.TrodAll enc Try.prog W 0 (fun _ => true) true Try.f6.params.toList args.toList ds p := hA0
  rw [Try.params6] at hA hval
  obtain ⟨v0, vs0, d0, ds0, p0, q0, hargs, rfl, rfl, h0, r0⟩ := trodAll_cons hA
  obtain ⟨v1, vs1, d1, ds1, p1, q1, rfl, rfl, rfl, h1, r1⟩ := trodAll_cons r0
  obtain ⟨v2, vs2, d2, ds2, p2, q2, rfl, rfl, rfl, h2, r2⟩ := trodAll_cons r1
  obtain ⟨rfl, rfl, rfl⟩ := trodAll_nil r2
  obtain rfl : args = #[v0, v1, v2] := by cases args; simp_all
  obtain ⟨rfl, rfl⟩ := trodVars_none hV
  have lt0 : ∀ x ∈ p0, x.block < W.heap.size := by obtain ⟨m, hm⟩ := h0; exact DataW.trod_lt m _ _ _ hm
  have lt1 : ∀ x ∈ p1, x.block < W.heap.size := by obtain ⟨m, hm⟩ := h1; exact DataW.trod_lt m _ _ _ hm
  have lt2 : ∀ x ∈ p2, x.block < W.heap.size := by obtain ⟨m, hm⟩ := h2; exact DataW.trod_lt m _ _ _ hm
  obtain ⟨x, rfl⟩ := okWide_bool Try.underlying4 (hval 0 4 v0 rfl rfl)
  obtain ⟨a, rfl⟩ := okWide_int Try.underlying3 (hval 1 3 v1 rfl rfl)
  obtain ⟨z, rfl⟩ := okWide_bool Try.underlying4 (hval 2 4 v2 rfl rfl)
  clear hA0 hval0
  refine (walk x z a W).mono fun e W' ⟨he, bel⟩ => ?_
  subst he
  exact ⟨_, rfl, _, _, _, [], _, [], hW', trodAll_mk1 (shut_bool Try.underlying4 _), (trodAll_cons_mk (Below.trod laidOut (by kernel_rfl) (of_decide_eq_true (by kernel_rfl)) h0 bel lt0) (trodAll_cons_mk (Below.trod laidOut (by kernel_rfl) (of_decide_eq_true (by kernel_rfl)) h1 bel lt1) (trodAll_cons_mk (Below.trod laidOut (by kernel_rfl) (of_decide_eq_true (by kernel_rfl)) h2 bel lt2) trodAll_mk0))), rfl, bel.frame _, fun h => by cases h⟩

theorem facts : joinedFacts Try.prog 6 Try.f6 Rows.trackShakesSpec Rows.trackShakesRow = true := by
  unfold joinedFacts
  exact both (both (both (both (both (both (both (by kernel_rfl) may_enter) (by rw [finals_none]; kernel_rfl)) (by rw [make_cut]; kernel_rfl)) (by kernel_rfl)) (by kernel_rfl)) (by kernel_rfl)) (by kernel_rfl)

theorem over : Rows.trackShakesRow.holds Try.pinned (OpenSpec.ofChange Rows.trackShakesSpec) :=
  OpenClaim.holds_of_wide 6 Try.f6 rfl rfl rfl rfl rfl rfl rfl ⟨rfl, rfl, rfl, rfl, rfl⟩ rfl rfl rfl rfl rfl (by kernel_rfl) Try.func6 facts
    (of_decide_eq_true (by kernel_rfl)) (by unfold Func.isWrapper; first | (rw [if_pos (by decide +kernel)]; kernel_rfl) | (rw [if_neg (by decide +kernel)]; exact ⟨rfl, rfl⟩))
    (fun os started H enc _ => lifted os started H enc)

theorem proved : Rows.TrackShakesSaid := over
end Go.Proofs.Ytecmagdefllihaa.trackShakes
