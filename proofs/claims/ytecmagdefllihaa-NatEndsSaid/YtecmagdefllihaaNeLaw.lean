/- The law NatEnds, walked: whatever is given, it answers true. -/
import Derived.Test.YtecmagdefllihaaNm
namespace Go.Proofs.Ytecmagdefllihaa.natEnds
open Go.RowKit
set_option linter.unusedSimpArgs false

theorem later (a b port : Int) (n : Nat) (x : Nat → Int) (ha : 0 ≤ a ∧ a ≤ 255) (hb : 0 ≤ b ∧ b ≤ 255) (hab : a ≠ b) (hp : 1 ≤ port ∧ port ≤ 65535) (hn : n ≤ 40) (c d : Int) (hc : 0 ≤ c ∧ c ≤ 65535) (hd : 0 ≤ d ∧ d ≤ 65535) (hcd : c ≠ d) :
    ∀ m i, i + m = n → EvXL Try.prog 0 (loopAt Try.prog 10 8) ((ndG1 a b port n x c d i).st 0) (.exit 0) ((ndE1 a b port n x c d).st 0)
  | 0, i, h => EvXL.last (stepXS_ok kU_ok (ends_end1 a b port n x c d i) (by
      repeat' (first | exact allNil | refine allCons ?_ ?_ | (with_reducible refine allRp _ ?_ ?_))
      all_goals first | (with_reducible rfl) | rfl | (simp; omega))) (by simp)
  | m + 1, i, h => EvXL.step (next a b port n x ha hb hab hp hn c d i (by omega) hc hd hcd) (later a b port n x ha hb hab hp hn c d hc hd hcd m (i + 1) (by omega))

set_option maxHeartbeats 4000000 in
theorem walk (a b port : Int) (n : Nat) (x : Nat → Int) : ∃ L' nx', ACall Try.prog 10 [.val (.int .i64 a), .val (.int .i64 b), .val (.int .i64 port), seqB n x] [] 0 (.val (.bool true)) L' nx' := by
  by_cases g1 : a < 0
  · refine ⟨_, _, (outT_ok kU_ok (ends_a0 a b port n x) ?_).1⟩
    repeat' (first | exact allNil | refine allCons ?_ ?_ | (with_reducible refine allRp _ ?_ ?_))
    all_goals first | (simp; omega) | (simp; done)
  by_cases g2 : b < 0
  · refine ⟨_, _, (outT_ok kU_ok (ends_b0 a b port n x) ?_).1⟩
    repeat' (first | exact allNil | refine allCons ?_ ?_ | (with_reducible refine allRp _ ?_ ?_))
    all_goals first | (simp; omega) | (simp; done)
  by_cases g3 : 255 < a
  · refine ⟨_, _, (outT_ok kU_ok (ends_a1 a b port n x) ?_).1⟩
    repeat' (first | exact allNil | refine allCons ?_ ?_ | (with_reducible refine allRp _ ?_ ?_))
    all_goals first | (simp; omega) | (simp; done)
  by_cases g4 : 255 < b
  · refine ⟨_, _, (outT_ok kU_ok (ends_b1 a b port n x) ?_).1⟩
    repeat' (first | exact allNil | refine allCons ?_ ?_ | (with_reducible refine allRp _ ?_ ?_))
    all_goals first | (simp; omega) | (simp; done)
  by_cases g5 : a = b
  · refine ⟨_, _, (outT_ok kU_ok (ends_ab a b port n x) ?_).1⟩
    repeat' (first | exact allNil | refine allCons ?_ ?_ | (with_reducible refine allRp _ ?_ ?_))
    all_goals first | (simp; omega) | (simp [g5]; done)
  by_cases g6 : port < 1
  · refine ⟨_, _, (outT_ok kU_ok (ends_p0 a b port n x) ?_).1⟩
    repeat' (first | exact allNil | refine allCons ?_ ?_ | (with_reducible refine allRp _ ?_ ?_))
    all_goals first | (simp; omega) | (simp [g5]; done)
  by_cases g7 : 65535 < port
  · refine ⟨_, _, (outT_ok kU_ok (ends_p1 a b port n x) ?_).1⟩
    repeat' (first | exact allNil | refine allCons ?_ ?_ | (with_reducible refine allRp _ ?_ ?_))
    all_goals first | (simp; omega) | (simp [g5]; done)
  by_cases g8 : 40 < n
  · refine ⟨_, _, (outT_ok kU_ok (ends_n a b port n x) ?_).1⟩
    repeat' (first | exact allNil | refine allCons ?_ ?_ | (with_reducible refine allRp _ ?_ ?_))
    all_goals first | (simp; omega) | (simp [g5]; done)
  by_cases h0 : n = 0
  · have hloop : EvXL Try.prog 0 (loopAt Try.prog 10 8) ((ndG0 a b port n x).st 0) (.exit 0) ((ndE0 n x).st 0) := EvXL.last (stepXS_ok kU_ok (ends_end0 a b port n x) (by
      repeat' (first | exact allNil | refine allCons ?_ ?_ | (with_reducible refine allRp _ ?_ ?_))
      all_goals first | (with_reducible rfl) | rfl | (simp; omega))) (by simp)
    refine ⟨_, _, outXS_ok kU_ok (ends_top0 a b port n x) ?_⟩
    repeat' (first | exact allNil | refine allCons ?_ ?_ | (with_reducible refine allRp _ ?_ ?_))
    all_goals first | (with_reducible rfl) | exact hloop | (simp; omega) | (simp [g5]; done) | (simp [h0]; done)
  have key : ∀ c d : Int, EvXL Try.prog 0 (loopAt Try.prog 10 8) ((ndG0 a b port n x).st 0) (.exit 0) ((ndE1 a b port n x c d).st 0) → ∃ L' nx', ACall Try.prog 10 [.val (.int .i64 a), .val (.int .i64 b), .val (.int .i64 port), seqB n x] [] 0 (.val (.bool true)) L' nx' := by
    intro c d hloop
    refine ⟨_, _, outXS_ok kU_ok (ends_top1 a b port n x c d) ?_⟩
    repeat' (first | exact allNil | refine allCons ?_ ?_ | (with_reducible refine allRp _ ?_ ?_))
    all_goals first | (with_reducible rfl) | exact hloop | (simp; omega) | (simp [g5]; done) | (simp [h0]; done)
  have ha : 0 ≤ a ∧ a ≤ 255 := by omega
  have hb : 0 ≤ b ∧ b ≤ 255 := by omega
  have hp : 1 ≤ port ∧ port ≤ 65535 := by omega
  have hn : n ≤ 40 := by omega
  rcases Int.lt_trichotomy port 40000 with hl | hl | hl
  · exact key 40000 40001 (EvXL.step (lo a b port n x ha hb g5 hp hn (by omega) hl) (later a b port n x ha hb g5 hp hn 40000 40001 (by omega) (by omega) (by omega) (n - 1) 1 (by omega)))
  · exact key 40000 40001 (EvXL.step (eq a b port n x ha hb g5 hp hn (by omega) hl) (later a b port n x ha hb g5 hp hn 40000 40001 (by omega) (by omega) (by omega) (n - 1) 1 (by omega)))
  · exact key port 40000 (EvXL.step (hi a b port n x ha hb g5 hp hn (by omega) hl) (later a b port n x ha hb g5 hp hn port 40000 (by omega) (by omega) (by omega) (n - 1) 1 (by omega)))

theorem walk' (a b port : Int) (n : Nat) (g : Nat → List AV) (h : ∀ i, i < n → ∃ z : Int, g i = [.val (.int .i64 z)]) : ∃ L' nx', ACall Try.prog 10 [.val (.int .i64 a), .val (.int .i64 b), .val (.int .i64 port), .view 1 n g] [] 0 (.val (.bool true)) L' nx' := by
  obtain ⟨L', nx', hc⟩ := walk a b port n fun i => match g i with | [.val (.int .i64 z)] => z | _ => 0
  refine ⟨L', nx', hc.args rfl fun E w k y y' u h1 h2 r => ?_⟩
  match k with
  | 0 => simp at h1 h2; subst h1 h2; exact r
  | 1 => simp at h1 h2; subst h1 h2; exact r
  | 2 => simp at h1 h2; subst h1 h2; exact r
  | 3 =>
    simp at h1 h2
    subst h1 h2
    refine Rep.view_congr (fun i hi => ?_) r
    obtain ⟨z, hz⟩ := h i hi
    simp [hz]
  | k + 4 => simp at h1
end Go.Proofs.Ytecmagdefllihaa.natEnds
