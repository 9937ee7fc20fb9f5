/- The law TrackWays, walked: whatever is given, it answers true. -/
import Derived.Test.YtecmagdefllihaaTlRun
import Derived.Test.YtecmagdefllihaaBw
import Derived.Test.YtecmagdefllihaaPv
namespace Go.Proofs.Ytecmagdefllihaa.trackWays
open Go.RowKit

theorem fl_eq (z : Int) : bits .and .i64 z 63 = fl63 z := rfl
theorem in_eq (z : Int) : (bits .and .i64 z 64 != 0) = in64 z := rfl
theorem up (i : Nat) (h : i ≤ 1000) : AV.val (.int .i64 (IntKind.wrap .i64 ((i : Int) + 1))) = AV.val (.int .i64 ((i + 1 : Nat) : Int)) := by
  rw [w64 _ (by omega)]; rfl

theorem ways1 (n : Nat) (x : Nat → Int) (hn : n ≤ 100) : ∀ m i st inw, i + m = n → EvXL Try.prog 0 (loopAt Try.prog 5 8) ((wG1 n x i st inw).st 0) (.exit 0) (wE.st 0)
  | 0, i, st, inw, h => EvXL.last (stepXS_ok kW0_ok (ways_end1 n x i st inw) (allCons (by simp; omega) allNil)) (by simp)
  | m + 1, i, st, inw, h => by
    refine EvXL.step (stepXS_ok kW0_ok (ways_11 n x i st inw) ?_) (ways1 n x hn m (i + 1) _ _ (by omega))
    refine allCons (by simp; omega) (allRp _ (by omega) (allCons ?_ (allCons rfl (allCons (up i (by omega)) (allCons rfl (allCons ?_ allNil))))))
    · rw [nxS_turn]; simp
    · unfold SameO
      rw [nxS_turn, nxI_turn]

theorem ways0 (n : Nat) (x : Nat → Int) (hn : n ≤ 100) : ∀ m i, i + m = n → EvXL Try.prog 0 (loopAt Try.prog 5 8) ((wG0 n x i).st 0) (.exit 0) (wE.st 0)
  | 0, i, h => EvXL.last (stepXS_ok kW0_ok (ways_end n x i) (allCons (by simp; omega) allNil)) (by simp)
  | m + 1, i, h => by
    by_cases ho : bits .and .i64 (fl63 (x i)) 4 = 0 ∧ bits .and .i64 (fl63 (x i)) 18 = 2
    · refine EvXL.step (stepXS_ok kW1_ok (ways_01 n x i) ?_) (ways1 n x hn m (i + 1) _ _ (by omega))
      refine allCons (by simp; omega) (allRp _ (by omega) (allCons ho.1 (allCons ho.2 (allCons ho.1 (allCons ho.2 (allCons rfl (allCons (up i (by omega)) (allCons rfl (allCons rfl allNil)))))))))
    · refine EvXL.step (stepXS_ok kW0_ok (ways_00 n x i) ?_) (ways0 n x hn m (i + 1) (by omega))
      refine allCons (by simp; omega) (allRp _ (by omega) (allRp _ (fun h1 h2 => ho ⟨h1, h2⟩) (allCons rfl (allCons (up i (by omega)) allNil))))

theorem walk (n : Nat) (x : Nat → Int) : ∃ L' nx', ACall Try.prog 5 [seqA n x] [] 0 (.val (.bool true)) L' nx' := by
  by_cases hn : n ≤ 100
  · exact ⟨_, _, outXS_ok kW0_ok (ways_top n x) (allCons (by simp; omega) (allCons rfl (allCons rfl (allCons (ways0 n x hn n 0 (by omega)) allNil))))⟩
  · exact ⟨_, _, (outT_ok kW0_ok (ways_many n x) (allCons (by simp; omega) allNil)).1⟩

theorem walk' (n : Nat) (g : Nat → List AV) (h : ∀ i, i < n → ∃ z : Int, g i = [.val (.int .i64 z)]) : ∃ L' nx', ACall Try.prog 5 [.view 1 n g] [] 0 (.val (.bool true)) L' nx' := by
  obtain ⟨L', nx', hc⟩ := walk n fun i => match g i with | [.val (.int .i64 z)] => z | _ => 0
  refine ⟨L', nx', hc.args rfl fun E w k a a' u h1 h2 r => ?_⟩
  cases k with
  | zero =>
    simp at h1 h2
    subst h1 h2
    refine Rep.view_congr (fun i hi => ?_) r
    obtain ⟨z, hz⟩ := h i hi
    simp [hz, i64]
  | succ k => simp at h1
end Go.Proofs.Ytecmagdefllihaa.trackWays
