/- A segment that a table sees, which keeps one talk, or none: known to the engine. -/
import Derived.Test.YtecmagdefllihaaTkRun
namespace Go.Proofs.Ytecmagdefllihaa
open Go.RowKit

def segA (f : Int) : AV := .agg [.val (.int .i64 0), .val (.int .i64 0), .val (.int .u32 0), .val (.int .u32 0), .val (.int .i64 f), .val (.int .i64 0), .val (.int .i64 0), .val (.slice none 0 0), .val (.slice none 0 0)]
def seeA (id : Nat) (inn : Bool) (f : Int) : List AV := [.ptr id 0 0, i64 1, .agg [u8 8, u8 8, u8 8, u8 1], i64 1, .val (.bool inn), segA f]

theorem see_one (st : Int) (inw inn : Bool) (f : Int) : ∃ n1, 2 ≤ n1 ∧ n1 ≤ 302 ∧ ACall Try.prog 17 (seeA 0 inn f) [(0, table (.sl 1 0 1 none)), (1, talk st inw)] 2 (.val (.int .i64 (nxS st inw inn f))) [(1, talk (nxS st inw inn f) (nxI st inw inn f)), (0, table (.sl 1 0 1 none))] n1 := by
  have key : ∀ (s : Int) (i : Bool) (n1 : Nat), 2 ≤ n1 → n1 ≤ 302 → nxT st inw inn f = (s, i) → ACall Try.prog 17 (seeA 0 inn f) [(0, table (.sl 1 0 1 none)), (1, talk st inw)] 2 (.val (.int .i64 s)) [(1, talk s i), (0, table (.sl 1 0 1 none))] n1 →
      ∃ n1, 2 ≤ n1 ∧ n1 ≤ 302 ∧ ACall Try.prog 17 (seeA 0 inn f) [(0, table (.sl 1 0 1 none)), (1, talk st inw)] 2 (.val (.int .i64 (nxS st inw inn f))) [(1, talk (nxS st inw inn f) (nxI st inw inn f)), (0, table (.sl 1 0 1 none))] n1 := by
    intro s i n1 h1 h2 h3 h4
    have e1 : nxS st inw inn f = s := by unfold nxS; rw [h3]
    have e2 : nxI st inw inn f = i := by unfold nxI; rw [h3]
    exact ⟨n1, h1, h2, by rw [e1, e2]; exact h4⟩
  by_cases h4 : bits .and .i64 f 4 = 0
  case neg =>
    exact key _ _ _ (by decide) (by decide) (by simp [nxT, *]) (outT_ok noneKnown_ok (see_rst st inw inn f) (by
      repeat' (first | exact allNil | refine allCons ?_ ?_ | (with_reducible refine allRp _ ?_ ?_))
      all_goals first | (simp [*]; done) | (simp; omega))).1
  by_cases h6 : st = 6
  · subst h6
    by_cases ho : bits .and .i64 f 18 = 2
    · exact key _ _ _ (by decide) (by decide) (by simp [nxT, *]) (outT_ok noneKnown_ok (see_again 6 inw inn f) (by
        repeat' (first | exact allNil | refine allCons ?_ ?_ | (with_reducible refine allRp _ ?_ ?_))
        all_goals first | (simp [*]; done) | (simp; omega))).1
    · exact key _ _ _ (by decide) (by decide) (by simp [nxT, *]) (outT_ok noneKnown_ok (see_over 6 inw inn f) (by
        repeat' (first | exact allNil | refine allCons ?_ ?_ | (with_reducible refine allRp _ ?_ ?_))
        all_goals first | (simp [*]; done) | (simp; omega))).1
  by_cases h5 : 5 ≤ st
  · exact key _ _ _ (by decide) (by decide) (by simp [nxT, *]) (outT_ok noneKnown_ok (see_shut st inw inn f) (by
      repeat' (first | exact allNil | refine allCons ?_ ?_ | (with_reducible refine allRp _ ?_ ?_))
      all_goals first | (simp [*]; done) | (simp; omega))).1
  have hn : inn = inw ∨ inn = !inw := by cases inn <;> cases inw <;> simp
  by_cases hf : bits .and .i64 f 1 = 0
  · by_cases e4 : st = 4
    · subst e4
      exact key _ _ _ (by decide) (by decide) (by simp [nxT, *]) (outT_ok noneKnown_ok (see_h3 4 inw inn f) (by
        repeat' (first | exact allNil | refine allCons ?_ ?_ | (with_reducible refine allRp _ ?_ ?_))
        all_goals first | (simp [*]; done) | (simp; omega))).1
    by_cases e1 : st = 1
    · subst e1
      by_cases hs : bits .and .i64 f 2 = 0
      · exact key _ _ _ (by decide) (by decide) (by simp [nxT, *]) (outT_ok noneKnown_ok (see_b3 1 inw inn f) (by
          repeat' (first | exact allNil | refine allCons ?_ ?_ | (with_reducible refine allRp _ ?_ ?_))
          all_goals first | (simp [*]; done) | (simp; omega))).1
      rcases hn with rfl | rfl
      · exact key _ _ _ (by decide) (by decide) (by simp [nxT, *]) (outT_ok noneKnown_ok (see_b2 1 inn inn f) (by
          repeat' (first | exact allNil | refine allCons ?_ ?_ | (with_reducible refine allRp _ ?_ ?_))
          all_goals first | (simp [*]; done) | (simp; omega))).1
      · exact key _ _ _ (by decide) (by decide) (by simp [nxT, *]) (outT_ok noneKnown_ok (see_b1 1 inw (!inw) f) (by
          repeat' (first | exact allNil | refine allCons ?_ ?_ | (with_reducible refine allRp _ ?_ ?_))
          all_goals first | (simp [*]; done) | (simp; omega))).1
    by_cases e2 : st = 2
    · subst e2
      by_cases ha : bits .and .i64 f 18 = 16
      · exact key _ _ _ (by decide) (by decide) (by simp [nxT, *]) (outT_ok noneKnown_ok (see_t1 2 inw inn f) (by
          repeat' (first | exact allNil | refine allCons ?_ ?_ | (with_reducible refine allRp _ ?_ ?_))
          all_goals first | (simp [*]; done) | (simp; omega))).1
      · exact key _ _ _ (by decide) (by decide) (by simp [nxT, *]) (outT_ok noneKnown_ok (see_t2 2 inw inn f) (by
          repeat' (first | exact allNil | refine allCons ?_ ?_ | (with_reducible refine allRp _ ?_ ?_))
          all_goals first | (simp [*]; done) | (simp; omega))).1
    exact key _ _ _ (by decide) (by decide) (by simp [nxT, *]) (outT_ok noneKnown_ok (see_s st inw inn f) (by
      repeat' (first | exact allNil | refine allCons ?_ ?_ | (with_reducible refine allRp _ ?_ ?_))
      all_goals first | (simp [*]; done) | (simp; omega))).1
  · by_cases e4 : st = 4
    · subst e4
      rcases hn with rfl | rfl
      · exact key _ _ _ (by decide) (by decide) (by simp [nxT, *]) (outT_ok noneKnown_ok (see_h2 4 inn inn f) (by
          repeat' (first | exact allNil | refine allCons ?_ ?_ | (with_reducible refine allRp _ ?_ ?_))
          all_goals first | (simp [*]; done) | (simp; omega))).1
      · exact key _ _ _ (by decide) (by decide) (by simp [nxT, *]) (outT_ok noneKnown_ok (see_h1 4 inw (!inw) f) (by
          repeat' (first | exact allNil | refine allCons ?_ ?_ | (with_reducible refine allRp _ ?_ ?_))
          all_goals first | (simp [*]; done) | (simp; omega))).1
    by_cases e1 : st = 1
    · subst e1
      by_cases hs : bits .and .i64 f 2 = 0
      · exact key _ _ _ (by decide) (by decide) (by simp [nxT, *]) (outT_ok noneKnown_ok (see_b3f 1 inw inn f) (by
          repeat' (first | exact allNil | refine allCons ?_ ?_ | (with_reducible refine allRp _ ?_ ?_))
          all_goals first | (simp [*]; done) | (simp; omega))).1
      rcases hn with rfl | rfl
      · exact key _ _ _ (by decide) (by decide) (by simp [nxT, *]) (outT_ok noneKnown_ok (see_b2f 1 inn inn f) (by
          repeat' (first | exact allNil | refine allCons ?_ ?_ | (with_reducible refine allRp _ ?_ ?_))
          all_goals first | (simp [*]; done) | (simp; omega))).1
      · exact key _ _ _ (by decide) (by decide) (by simp [nxT, *]) (outT_ok noneKnown_ok (see_b1f 1 inw (!inw) f) (by
          repeat' (first | exact allNil | refine allCons ?_ ?_ | (with_reducible refine allRp _ ?_ ?_))
          all_goals first | (simp [*]; done) | (simp; omega))).1
    by_cases e2 : st = 2
    · subst e2
      by_cases ha : bits .and .i64 f 18 = 16
      · exact key _ _ _ (by decide) (by decide) (by simp [nxT, *]) (outT_ok noneKnown_ok (see_t1f 2 inw inn f) (by
          repeat' (first | exact allNil | refine allCons ?_ ?_ | (with_reducible refine allRp _ ?_ ?_))
          all_goals first | (simp [*]; done) | (simp; omega))).1
      · exact key _ _ _ (by decide) (by decide) (by simp [nxT, *]) (outT_ok noneKnown_ok (see_t2f 2 inw inn f) (by
          repeat' (first | exact allNil | refine allCons ?_ ?_ | (with_reducible refine allRp _ ?_ ?_))
          all_goals first | (simp [*]; done) | (simp; omega))).1
    exact key _ _ _ (by decide) (by decide) (by simp [nxT, *]) (outT_ok noneKnown_ok (see_sf st inw inn f) (by
      repeat' (first | exact allNil | refine allCons ?_ ?_ | (with_reducible refine allRp _ ?_ ?_))
      all_goals first | (simp [*]; done) | (simp; omega))).1

theorem see_used {L : List (Nat × AObj)} {nx id id2 : Nat} {st f : Int} {inw inn : Bool} (h1 : hp L id = some (table (.sl id2 0 1 none))) (h2 : hp L id2 = some (talk st inw)) (h3 : id < nx ∧ id2 < nx ∧ id ≠ id2) :
    ACall Try.prog 17 (seeA id inn f) L nx (.val (.int .i64 (nxS st inw inn f))) ([(id2, talk (nxS st inw inn f) (nxI st inw inn f)), (id, table (.sl id2 0 1 none))] ++ L.filter fun p => ![id, id2].contains p.1) (nx + 300) := by
  obtain ⟨n1, hn1, hn2, h⟩ := see_one st inw inn f
  have := ACall.used (ids := [id, id2]) (K := L) (nx := nx) (h : ACall Try.prog _ _ _ [id, id2].length _ _ n1) (by simp [h3.2.2]) (by simp [h3.1, h3.2.1]) hn1 (fun m x hm => ?_)
  · refine ACall.up (n1 := nx + (n1 - 2)) ?_ (by omega)
    simpa [renL, AV.ren, renN, renH, AObj.ren, table, talk, seeA, segA, i64, u8] using this
  · simp only [hp] at hm
    by_cases e0 : m = 0
    · subst e0
      simp at hm
      subst hm
      exact ⟨by simp, by simpa [renN, AObj.ren, table, renL, AV.ren, i64] using h1⟩
    · rw [if_neg e0] at hm
      by_cases e1 : m = 1
      · subst e1
        simp at hm
        subst hm
        exact ⟨by simp, by simpa [renN, AObj.ren, talk, renL, AV.ren, i64, u8] using h2⟩
      · rw [if_neg e1] at hm; cases hm

theorem see_used0 {L L1 : List (Nat × AObj)} {nx id n1 : Nat} {v : Value} {f : Int} {inn : Bool} (h : ACall Try.prog 17 (seeA 0 inn f) [(0, table (.val (.slice none 0 0)))] 1 (.val v) L1 n1) (hn : 1 ≤ n1) (h1 : hp L id = some (table (.val (.slice none 0 0)))) (h3 : id < nx) :
    ACall Try.prog 17 (seeA id inn f) L nx (.val v) (renH (renN [id] nx) L1 ++ L.filter fun p => ![id].contains p.1) (nx + (n1 - 1)) := by
  have := ACall.used (ids := [id]) (K := L) (nx := nx) (h : ACall Try.prog _ _ _ [id].length _ _ n1) (by simp) (by simp [h3]) hn (fun m x hm => ?_)
  · simpa [renL, AV.ren, renN, seeA, segA, i64, u8] using this
  · simp only [hp] at hm
    by_cases e0 : m = 0
    · subst e0
      simp at hm
      subst hm
      exact ⟨by simp, by simpa [renN, AObj.ren, table, renL, AV.ren, i64] using h1⟩
    · rw [if_neg e0] at hm; cases hm

/-- one segment; of a table that keeps nothing it is told whether the segment begins a talk -/
def kSee (opn : Bool) : Inl := fun g xs L nx =>
  if g = 17 then
    match xs with
    | [.ptr id 0 0, .val (.int .i64 1), .agg [.val (.int .u8 8), .val (.int .u8 8), .val (.int .u8 8), .val (.int .u8 1)], .val (.int .i64 1), .val (.bool inn), .agg [.val (.int .i64 0), .val (.int .i64 0), .val (.int .u32 0), .val (.int .u32 0), .val (.int .i64 f), .val (.int .i64 0), .val (.int .i64 0), .val (.slice none 0 0), .val (.slice none 0 0)]] =>
      match hp L id with
      | some ⟨t1, 2, true, false, .rows [[.val (.int .i64 4), .sl id2 0 1 none]]⟩ =>
        match hp L id2 with
        | some ⟨t2, 8, false, false, .rows [[.val (.int .i64 1), .val (.int .u8 8), .val (.int .u8 8), .val (.int .u8 8), .val (.int .u8 1), .val (.int .i64 1), .val (.int .i64 st), .val (.bool inw)]]⟩ =>
          if t1 = 88 ∧ t2 = 92 ∧ id < nx ∧ id2 < nx ∧ id ≠ id2 then
            some (.val (.int .i64 (nxS st inw inn f)), [(id2, talk (nxS st inw inn f) (nxI st inw inn f)), (id, table (.sl id2 0 1 none))] ++ L.filter fun p => ![id, id2].contains p.1, nx + 300, [])
          else none
        | _ => none
      | some ⟨t1, 2, true, false, .rows [[.val (.int .i64 4), .val (.slice none 0 0)]]⟩ =>
        if t1 = 88 ∧ id < nx then
          if opn then some (.val (.int .i64 1), [(nx + 71, talk 1 inn), (id, table (.sl (nx + 71) 0 1 none))] ++ L.filter fun p => ![id].contains p.1, nx + 76, [bits .and .i64 f 4 = 0, bits .and .i64 f 18 = 2])
          else some (.val (.int .i64 0), [(id, table (.val (.slice none 0 0)))] ++ L.filter fun p => ![id].contains p.1, nx + 50, [bits .and .i64 f 4 = 0 → bits .and .i64 f 18 ≠ 2])
        else none
      | _ => none
    | _ => none
  else none

theorem kSee_ok (opn : Bool) : InlOk Try.prog (kSee opn) := by
  intro g xs L nx v L' nx' q h hq
  unfold kSee at h
  split at h
  · rename_i hg
    subst hg
    split at h
    · rename_i id inn f
      split at h
      · rename_i t1 id2 h1
        split at h
        · rename_i t2 st inw h2
          split at h
          · rename_i hc
            simp only [Option.some.injEq, Prod.mk.injEq] at h
            obtain ⟨rfl, rfl, rfl, rfl⟩ := h
            obtain ⟨rfl, rfl, hc⟩ := hc
            exact ⟨see_used h1 h2 hc, by omega⟩
          · cases h
        · cases h
      · rename_i t1 h1
        split at h
        · rename_i hc
          obtain ⟨rfl, hc⟩ := hc
          split at h
          · simp only [Option.some.injEq, Prod.mk.injEq] at h
            obtain ⟨rfl, rfl, rfl, rfl⟩ := h
            have q1 : bits .and .i64 f 4 = 0 := hq _ List.mem_cons_self
            have q2 : bits .and .i64 f 18 = 2 := hq _ (List.mem_cons_of_mem _ List.mem_cons_self)
            refine ⟨?_, by omega⟩
            have := see_used0 (L := L) (nx := nx) (outT_ok noneKnown_ok (see_no inn f) (by
              repeat' (first | exact allNil | refine allCons ?_ ?_ | (with_reducible refine allRp _ ?_ ?_))
              all_goals simp [*])).1 (by decide) h1 hc
            simpa [renH, renN, AObj.ren, table, talk, renL, AV.ren, i64, u8, seeA, segA] using this
          · simp only [Option.some.injEq, Prod.mk.injEq] at h
            obtain ⟨rfl, rfl, rfl, rfl⟩ := h
            have q1 : bits .and .i64 f 4 = 0 → bits .and .i64 f 18 ≠ 2 := hq _ List.mem_cons_self
            refine ⟨?_, by omega⟩
            by_cases h4 : bits .and .i64 f 4 = 0
            · have := see_used0 (L := L) (nx := nx) (outT_ok noneKnown_ok (see_nn inn f) (by
                repeat' (first | exact allNil | refine allCons ?_ ?_ | (with_reducible refine allRp _ ?_ ?_))
                all_goals simp [h4, q1 h4])).1 (by decide) h1 hc
              simpa [renH, renN, AObj.ren, table, talk, renL, AV.ren, i64, u8, seeA, segA] using this
            · have := see_used0 (L := L) (nx := nx) (outT_ok noneKnown_ok (see_nr inn f) (by
                repeat' (first | exact allNil | refine allCons ?_ ?_ | (with_reducible refine allRp _ ?_ ?_))
                all_goals simp [h4])).1 (by decide) h1 hc
              refine ACall.up (n1 := nx + (44 - 1)) ?_ (by omega)
              simpa [renH, renN, AObj.ren, table, talk, renL, AV.ren, i64, u8, seeA, segA] using this
        · cases h
      · cases h
    · cases h
  · cases h
end Go.Proofs.Ytecmagdefllihaa
