/- The law TrackRoom, walked: whatever is given, it answers true. -/
import Derived.Test.YtecmagdefllihaaMtu
set_option linter.unusedSimpArgs false
set_option linter.unusedVariables false
namespace Go.Proofs.Ytecmagdefllihaa.trackRoom
open Go.RowKit

/-! ### the rows that are left -/
theorem over_app {a b src : List (List AV)} {n : Nat} (h : a.length = n) : over (a ++ b) n src = a ++ src ++ b.drop src.length := by
  subst h
  unfold over
  rw [List.take_left, ← List.drop_drop, List.drop_left]
theorem gone_mid (A B : List (List AV)) (x y z : List AV) (o n : Nat) (ha : A.length = o) (hb : B.length = n - o - 1) (h : o + 1 < n) :
    over (over (over (A ++ x :: B) o (((A ++ x :: B).drop (o + 1)).take (n - (o + 1)))) (o + (n - (o + 1))) (List.replicate (n - (o + (n - (o + 1)))) z)) (o + (n - (o + 1))) [y] = A ++ B ++ [y] := by
  have e1 : (A ++ x :: B).drop (o + 1) = B := by
    subst ha
    rw [← List.drop_drop, List.drop_left]
    rfl
  rw [e1, List.take_of_length_le (by omega), over_app ha]
  obtain ⟨t, ht⟩ : ∃ t, (x :: B).drop B.length = [t] := by
    have hl : ((x :: B).drop B.length).length = 1 := by simp
    match h : (x :: B).drop B.length, hl with
    | [t], _ => exact ⟨t, rfl⟩
  rw [ht, over_app (by simp only [List.length_append]; omega), show n - (o + (n - (o + 1))) = 1 from by omega]
  show over (A ++ B ++ [z] ++ []) _ _ = _
  rw [List.append_nil, over_app (by simp only [List.length_append]; omega)]
  show A ++ B ++ [y] ++ [] = _
  rw [List.append_nil]
theorem gone_last (A : List (List AV)) (x y z : List AV) (o n : Nat) (ha : A.length = o) (h : o + 1 = n) :
    over (over (A ++ [x]) o (List.replicate (n - o) z)) o [y] = A ++ [y] := by
  rw [show n - o = 1 from by omega, over_app ha]
  show over (A ++ [z] ++ []) _ _ = _
  rw [List.append_nil, over_app ha]
  show A ++ [y] ++ [] = _
  rw [List.append_nil]
theorem ones_tr (l : List (Int × Int)) : onesOk 8 (trows l) = true := by
  unfold onesOk trows
  rw [List.all_map, List.all_eq_true]
  intro x _
  rfl
theorem trows_drop (l : List (Int × Int)) (n : Nat) : (trows l).drop n = trows (l.drop n) := by
  unfold trows; rw [List.map_drop]
theorem trows_take (l : List (Int × Int)) (n : Nat) : (trows l).take n = trows (l.take n) := by
  unfold trows; rw [List.map_take]

theorem rwO_eq (n o : Nat) (h : o < n) : rwO (begunT n) (o : Int) = trows (overT n o) := by
  unfold rwO
  rw [tal_trows, begunT_at n o h, Nat.zero_add, Int.toNat_natCast, ← trows_set, begunT_set n o h]
theorem exO_eq (n o : Nat) (h : o < n) : exO (begunT n) (o : Int) = (o : Int) := by
  unfold exO
  rw [rwO_eq n o h, tal_trows, overT_first]
  split <;> omega
theorem e1O_eq (n o : Nat) (h : o < n) (hn : n ≤ 60) : e1O (begunT n) (o : Int) = ((o + 1 : Nat) : Int) := by
  unfold e1O
  rw [exO_eq n o h, w64 _ (by omega)]
  omega

/-! ### the loops -/
theorem tr_loop (n o : Nat) (hn : n ≤ 60) : ∀ (k i : Nat), i + k = n → 0 < i →
    EvXL Try.prog 0 (loopAt Try.prog 7 9) ((trG n o i (begunT i)).st 0) (.exit 0) ((trE n o (begunT n)).st 0)
  | 0, i, hk, h0 => by
    obtain rfl : i = n := by omega
    refine EvXL.last (stepXS_ok kTr_ok (tr_end i o i (begunT i)) ?_) (by simp)
    repeat' (first | exact allNil | refine allCons ?_ ?_ | (with_reducible refine allRp _ ?_ ?_))
    all_goals first | exact True.intro | (with_reducible rfl) | exact decide_eq_false (by omega) | exact same_tr (fun _ => rfl) rfl | exact rfl
  | k + 1, i, hk, h0 => by
    have hs : EvX Try.prog 0 (loopAt Try.prog 7 9) ((trG n o i (begunT i)).st 0) .normal ((trG n o (i + 1) (begunT (i + 1))).st 0) := by
      rw [begunT_succ]
      refine stepXS_ok kTr_ok (tr_step n o i (begunT i)) ?_
      simp only [tal_trows, begunT_no i i (Nat.le_refl _), begunT_len, trows_len]
      repeat' (first | exact allNil | refine allCons ?_ ?_ | (with_reducible refine allRp _ ?_ ?_))
      all_goals first | exact True.intro | (with_reducible rfl) | exact decide_eq_true (by omega) | exact decide_eq_false (by omega) | omega | exact i64_succ i (by omega) | exact same_tr (fun _ => rfl) (by rw [trows_app]; rfl) | (simp only [List.length_append, begunT_len]; exact rfl) | exact rfl
    exact EvXL.step hs (tr_loop n o hn k (i + 1) (by omega) (by omega))

theorem tr_all (n o : Nat) (hn : n ≤ 60) (h0 : 0 < n) :
    EvXL Try.prog 0 (loopAt Try.prog 7 9) ((trG0 n o).st 0) (.exit 0) ((trE n o (begunT n)).st 0) := by
  have h1 : EvX Try.prog 0 (loopAt Try.prog 7 9) ((trG0 n o).st 0) .normal ((trG1 n o).st 0) := by
    refine stepXS_ok kTr_ok (tr_first n o) ?_
    repeat' (first | exact allNil | refine allCons ?_ ?_ | (with_reducible refine allRp _ ?_ ?_))
    all_goals first | exact True.intro | (with_reducible rfl) | exact decide_eq_true (by omega) | exact decide_eq_false (by omega) | exact rfl
  have h2 : EvX Try.prog 0 (loopAt Try.prog 7 9) ((trG0 n o).st 0) .normal ((trG n o (1 : Nat) (begunT 1)).st 0) :=
    EvX.flat h1 rfl rfl rfl ⟨rfl, ⟨rfl, rfl, rfl, rfl, rfl, fun _ _ => rfl⟩, rfl, ⟨rfl, rfl, rfl, rfl, rfl, fun _ _ => rfl⟩, True.intro⟩
  exact EvXL.step h2 (tr_loop n o hn (n - 1) 1 (by omega) (by omega))

theorem ts_loop (n o : Nat) (hn : n ≤ 60) (ho : o < n) : ∀ (k i : Nat), i + k = n →
    EvXL Try.prog 0 (loopAt Try.prog 7 15) ((tsG n o i (leftT n o)).st 0) (.exit 2) ((tsE n (leftT n o)).st 0)
  | 0, i, hk => by
    obtain rfl : i = n := by omega
    refine EvXL.last (stepXS_ok kTr_ok (ts_end i o i (leftT i o)) ?_) (by simp)
    repeat' (first | exact allNil | refine allCons ?_ ?_ | (with_reducible refine allRp _ ?_ ?_))
    all_goals first | exact True.intro | (with_reducible rfl) | exact decide_eq_false (by omega) | exact same_tr (fun _ => rfl) rfl | exact rfl
  | k + 1, i, hk => by
    have hs : EvX Try.prog 0 (loopAt Try.prog 7 15) ((tsG n o i (leftT n o)).st 0) .normal ((tsG n o (i + 1) (leftT n o)).st 0) := by
      by_cases he : i = o
      · subst he
        refine stepXS_ok kTr_ok (ts_gone n i i (leftT n i)) ?_
        simp only [tal_trows, leftT_gone n i hn ho, leftT_len n i ho, trows_len]
        repeat' (first | exact allNil | refine allCons ?_ ?_ | (with_reducible refine allRp _ ?_ ?_))
        all_goals first | exact True.intro | (with_reducible rfl) | exact decide_eq_true (by omega) | exact decide_eq_false (by omega) | omega | exact i64_succ i (by omega) | exact same_tr (fun _ => rfl) rfl | (simp; done) | exact rfl
      · obtain ⟨p, hp, hf, hg⟩ := leftT_there n o i ho (by omega) he
        have hne : ((i : Int) == (o : Int)) = false := beq_eq_false_iff_ne.2 (by omega)
        refine stepXS_ok kTr_ok (ts_there n o i (leftT n o) p i 1) ?_
        simp only [tal_trows, hf, leftT_len n o ho, trows_len]
        repeat' (first | exact allNil | refine allCons ?_ ?_ | (with_reducible refine allRp _ ?_ ?_))
        all_goals first | exact True.intro | (with_reducible rfl) | exact decide_eq_true (by omega) | exact decide_eq_false (by omega) | omega | exact i64_succ i (by omega) | (rw [Nat.zero_add, Int.toNat_natCast]; exact trows_get hg) | exact same_tr (fun _ => rfl) rfl | (rw [hne]; rfl) | exact rfl
    exact EvXL.step hs (ts_loop n o hn ho k (i + 1) (by omega))

set_option maxRecDepth 100000 in
set_option maxHeartbeats 4000000 in
theorem walk (room over more : Int) : ∃ L' nx', ACall Try.prog 7 [i64 room, i64 over, i64 more] [] 0 (.val (.bool true)) L' nx' := by
  by_cases h1 : room < 1
  · refine ⟨_, _, outXS_ok kRm_ok (tu_r0 room over more) ?_⟩
    repeat' (first | exact allNil | refine allCons ?_ ?_ | (with_reducible refine allRp _ ?_ ?_))
    all_goals first | exact decide_eq_true (by omega) | exact decide_eq_false (by omega) | exact rfl
  by_cases h2 : room > 60
  · refine ⟨_, _, outXS_ok kRm_ok (tu_r61 room over more) ?_⟩
    repeat' (first | exact allNil | refine allCons ?_ ?_ | (with_reducible refine allRp _ ?_ ?_))
    all_goals first | exact decide_eq_true (by omega) | exact decide_eq_false (by omega) | exact rfl
  by_cases h3 : over < 0
  · refine ⟨_, _, outXS_ok kRm_ok (tu_o0 room over more) ?_⟩
    repeat' (first | exact allNil | refine allCons ?_ ?_ | (with_reducible refine allRp _ ?_ ?_))
    all_goals first | exact decide_eq_true (by omega) | exact decide_eq_false (by omega) | exact rfl
  by_cases h4 : over ≥ room
  · refine ⟨_, _, outXS_ok kRm_ok (tu_o3 room over more) ?_⟩
    repeat' (first | exact allNil | refine allCons ?_ ?_ | (with_reducible refine allRp _ ?_ ?_))
    all_goals first | exact decide_eq_true (by omega) | exact decide_eq_false (by omega) | exact rfl
  by_cases h5 : more < 1
  · refine ⟨_, _, outXS_ok kRm_ok (tu_m0 room over more) ?_⟩
    repeat' (first | exact allNil | refine allCons ?_ ?_ | (with_reducible refine allRp _ ?_ ?_))
    all_goals first | exact decide_eq_true (by omega) | exact decide_eq_false (by omega) | exact rfl
  by_cases h6 : more > 1
  · refine ⟨_, _, outXS_ok kRm_ok (tu_m2 room over more) ?_⟩
    repeat' (first | exact allNil | refine allCons ?_ ?_ | (with_reducible refine allRp _ ?_ ?_))
    all_goals first | exact decide_eq_true (by omega) | exact decide_eq_false (by omega) | exact rfl
  obtain ⟨n, rfl⟩ : ∃ n : Nat, room = n := ⟨room.toNat, by omega⟩
  obtain ⟨o, rfl⟩ : ∃ o : Nat, over = o := ⟨over.toNat, by omega⟩
  have hn : n ≤ 60 := by omega
  have ho : o < n := by omega
  have L1 := tr_all n o hn (by omega)
  have L2 := ts_loop n o hn ho n 0 (by omega)
  have f1 := begunT_at n o ho
  have f2 := overT_no n o ho hn
  have f3 := overT_first n o
  obtain ⟨f4, f5⟩ := leftT_last n o ho hn
  have g1 := trows_get (begunT_get n o ho)
  have g2 : (trows (overT n o))[o]? = some (trow ((o : Int), 6)) := by
    refine trows_get ?_
    unfold overT
    have := get_at (seg 0 o) (seg (o + 1) (n - o - 1)) ((o : Int), (6 : Int))
    rwa [seg_len] at this
  have g3 := trows_get f5
  have hsplit : trows (overT n o) = trows (seg 0 o) ++ trow ((o : Int), 6) :: trows (seg (o + 1) (n - o - 1)) := by
    unfold overT; rw [trows_app]; rfl
  have hleft : trows (leftT n o) = trows (seg 0 o) ++ trows (seg (o + 1) (n - o - 1)) ++ [trow (1000, 1)] := by
    unfold leftT; rw [trows_app, trows_app]; rfl
  by_cases hl : o + 1 < n
  · have hG := gone_mid (trows (seg 0 o)) (trows (seg (o + 1) (n - o - 1))) (trow ((o : Int), 6)) (trow (1000, 1)) [i64 0, u8 0, u8 0, u8 0, u8 0, i64 0, i64 0, .val (.bool false)] o n (by rw [trows_len, seg_len]) (by rw [trows_len, seg_len]) hl
    rw [← hsplit, ← hleft] at hG
    refine ⟨_, _, outXS_ok kRm_ok (tu_mid n o more (begunT n) (leftT n o)) ?_⟩
    simp only [tal_trows, rwO_eq n o ho, exO_eq n o ho, e1O_eq n o ho hn, f1, f2, f3, f4, begunT_len, leftT_len n o ho, trows_len, overT_len n o ho, Int.toNat_natCast, Nat.zero_add]
    repeat' (first | exact allNil | refine allCons ?_ ?_ | (with_reducible refine allRp _ ?_ ?_))
    all_goals first | exact True.intro | (with_reducible rfl) | exact decide_eq_true (by omega) | exact decide_eq_false (by omega) | omega | exact L1 | exact L2 | exact g1 | exact g2 | exact g3 | exact same_tr (fun _ => rfl) hG | (rw [trows_drop, trows_take]; exact ones_tr _) | exact beq_iff_eq.2 rfl | exact beq_eq_false_iff_ne.2 (by omega) | (rw [show o + (n - (o + 1)) + 1 = n from by omega]; exact rfl) | (simp only [List.length_append, List.length_take, List.length_drop, List.length_replicate, List.length_cons, List.length_nil, trows_len, overT_len n o ho]; omega) | exact rfl
  · have hA : seg (o + 1) (n - o - 1) = [] := by rw [show n - o - 1 = 0 from by omega]; rfl
    have hG := gone_last (trows (seg 0 o)) (trow ((o : Int), 6)) (trow (1000, 1)) [i64 0, u8 0, u8 0, u8 0, u8 0, i64 0, i64 0, .val (.bool false)] o n (by rw [trows_len, seg_len]) (by omega)
    have hs2 : trows (seg 0 o) ++ [trow ((o : Int), 6)] = trows (overT n o) := by rw [hsplit, hA]; rfl
    have hl2 : trows (seg 0 o) ++ [trow (1000, 1)] = trows (leftT n o) := by rw [hleft, hA]; show _ = trows (seg 0 o) ++ [] ++ _; rw [List.append_nil]
    rw [hs2, hl2] at hG
    refine ⟨_, _, outXS_ok kRm_ok (tu_last n o more (begunT n) (leftT n o)) ?_⟩
    simp only [tal_trows, rwO_eq n o ho, exO_eq n o ho, e1O_eq n o ho hn, f1, f2, f3, f4, begunT_len, leftT_len n o ho, trows_len, overT_len n o ho, Int.toNat_natCast, Nat.zero_add]
    repeat' (first | exact allNil | refine allCons ?_ ?_ | (with_reducible refine allRp _ ?_ ?_))
    all_goals first | exact True.intro | (with_reducible rfl) | exact decide_eq_true (by omega) | exact decide_eq_false (by omega) | omega | exact L1 | exact L2 | exact g1 | exact g2 | exact g3 | exact same_tr (fun _ => rfl) hG | (rw [trows_drop, trows_take]; exact ones_tr _) | exact beq_iff_eq.2 rfl | exact beq_eq_false_iff_ne.2 (by omega) | (rw [show o + 1 = n from by omega]; exact rfl) | (simp only [List.length_append, List.length_take, List.length_drop, List.length_replicate, List.length_cons, List.length_nil, trows_len, overT_len n o ho]; omega) | exact rfl
end Go.Proofs.Ytecmagdefllihaa.trackRoom
