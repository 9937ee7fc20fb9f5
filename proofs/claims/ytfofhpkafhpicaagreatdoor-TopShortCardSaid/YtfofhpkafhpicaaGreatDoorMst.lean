/- Several texts in one: St0, St. -/
import Derived.Test.YtfofhpkafhpicaaGreatDoorMkt
import Derived.Lib.Bytealg
import Derived.Test.YtfofhpkafhpicaaGreatDoorUp0
import Derived.Lib.Strings
import Derived.Lib.Slices
import Derived.Lib.Walk
import Derived.Lib.Builder

/- Calls of Go's library, closed: how often a byte stands in a text, and where; a text that is built. What they yield. -/
namespace Go.Proofs.YtfofhpkafhpicaaGreatDoor
open Go.RowKit
set_option linter.unusedSimpArgs false
set_option linter.unusedVariables false

/-- how often a byte stands in a text, and where -/
def kCnt : Inl := fun g xs L nx =>
  if g = 312 then
    match xs with
    | [.val (.string s), .val (.string t)] =>
      match t.data.toList with
      | [c] => some (.val (.int .i64 (Lib.countByte s.data.toList c : Nat)), L, nx, [])
      | _ => none
    | _ => none
  else if g = 402 then
    match xs with
    | [.val (.string s), .val (.int .u8 c)] => some (.val (.int .i64 (Lib.indexByte s.data.toList c.toNat.toUInt8)), L, nx, [])
    | _ => none
  else none
def dropL (ids : List Nat) (L : List (Nat × AObj)) : List (Nat × AObj) := L.filter fun p => !ids.contains p.1
/-- a builder notes where it is -/
def kChk : Inl := fun g xs L nx =>
  if g = 99 then
    match xs with
    | [.ptr id 0 0] =>
      match hp L id with
      | some ⟨t, 2, true, false, .rows [[.val (.pointer none), b]]⟩ =>
        if t = 104 then some (.tup [], (id, ⟨t, 2, true, false, .rows [[.ptr id 0 0, b]]⟩) :: dropL [id] L, nx, []) else none
      | some ⟨_, 2, _, false, .rows [[.ptr id' 0 0, _]]⟩ => if id' = id then some (.tup [], L, nx, []) else none
      | _ => none
    | _ => none
  else none
/-- a builder's text -/
def kStr : Inl := fun g xs L nx =>
  if g = 32 then
    match xs with
    | [.ptr id 0 0] =>
      match hp L id with
      | some ⟨t, 2, true, false, .rows [[_, .sl id2 0 n none]]⟩ =>
        match hp L id2 with
        | some ⟨t2, 1, _, false, .bytes ys⟩ =>
          if 0 < n ∧ n ≤ ys.length ∧ t = 104 ∧ t2 = 5 then some (.val (.string ⟨(ys.take n).toArray⟩), dropL [id2] L, nx, []) else none
        | _ => none
      | _ => none
    | _ => none
  else none
def kLib : Inl := orInl kCnt (orInl kChk kStr)
/-- what closed runs know -/
def kCl : Inl := orInl kSRC kLib
end Go.Proofs.YtfofhpkafhpicaaGreatDoor

/- Calls of Go's library, closed: their proofs. -/
namespace Go.Proofs.YtfofhpkafhpicaaGreatDoor
open Go.RowKit
set_option linter.unusedSimpArgs false
set_option linter.unusedVariables false

set_option maxHeartbeats 1000000 in
set_option maxRecDepth 100000 in
theorem count_walk (s : ByteArray) (c : UInt8) (w : World) :
    Calls Tryz.prog 312 #[.string s, .string ⟨#[c]⟩] w fun e w' => e = .returned (.int .i64 (Lib.countByte s.data.toList c)) ∧ w' = w := by
  go_enter Tryz.func312, Tryz.ntmps312
  go_wp2
  rw [run_callFunc_extern Tryz.func391 (by kernel_rfl) (by kernel_rfl) (by kernel_rfl) (e := Extern.BytealgCount.count) (by kernel_rfl), Lib.run_countString]
  simp only [Result.andThen]
  rw [Oper.upon_value]
  go_wp2
  go_ret
  exact ⟨rfl, rfl⟩

set_option maxHeartbeats 1000000 in
set_option maxRecDepth 100000 in
theorem index_walk (s : ByteArray) (c : Int) (w : World) :
    Calls Tryz.prog 402 #[.string s, .int .u8 c] w fun e w' => e = .returned (.int .i64 (Lib.indexByte s.data.toList c.toNat.toUInt8)) ∧ w' = w := by
  go_enter Tryz.func402, Tryz.ntmps402
  go_wp2
  rw [run_callFunc_extern Tryz.func494 (by kernel_rfl) (by kernel_rfl) (by kernel_rfl) (e := Extern.BytealgIndexByte.indexByte) (by kernel_rfl), Lib.run_indexByteString]
  simp only [Result.andThen]
  rw [Oper.upon_value]
  go_wp2
  go_ret
  exact ⟨rfl, rfl⟩

theorem kCnt_ok : InlOk Tryz.prog kCnt := by
  intro g xs L nx v L' nx' q h hq
  unfold kCnt at h
  split at h
  · rename_i hg
    split at h
    · rename_i s t
      split at h
      · rename_i c hc
        simp only [Option.some.injEq, Prod.mk.injEq] at h
        obtain ⟨rfl, rfl, rfl, rfl⟩ := h
        refine ⟨ACall.plain fun E w vs hs hr => ?_, Nat.le_refl _⟩
        obtain ⟨u, u', rfl, r1, r2⟩ := reps2 hr
        obtain rfl := r1.val_inv
        obtain rfl := r2.val_inv
        subst hg
        have ht : t = ⟨#[c]⟩ := by
          obtain ⟨t⟩ := t
          simp only at hc
          rw [Array.ext' (ys := #[c]) hc]
        rw [ht]
        exact (count_walk s c w).mono fun e w' ⟨h1, h2⟩ => ⟨h1, by rw [h2]; exact Below.refl _ _⟩
      · cases h
    · cases h
  · split at h
    · rename_i hg
      split at h
      · rename_i s c
        simp only [Option.some.injEq, Prod.mk.injEq] at h
        obtain ⟨rfl, rfl, rfl, rfl⟩ := h
        refine ⟨ACall.plain fun E w vs hs hr => ?_, Nat.le_refl _⟩
        obtain ⟨u, u', rfl, r1, r2⟩ := reps2 hr
        obtain rfl := r1.val_inv
        obtain rfl := r2.val_inv
        subst hg
        exact (index_walk s c w).mono fun e w' ⟨h1, h2⟩ => ⟨h1, by rw [h2]; exact Below.refl _ _⟩
      · cases h
    · cases h

/-! ### builders -/
set_option maxHeartbeats 1000000 in
set_option maxRecDepth 100000 in
theorem chk_used (b : Nat) (w : World) (h0 : w.cell? ⟨b, 0, none⟩ = some (.pointer (some ⟨b, 0, none⟩))) :
    Calls Tryz.prog 99 #[.pointer (some ⟨b, 0, none⟩)] w fun e w' => e = .returned (.tuple #[]) ∧ w' = w := by
  obtain ⟨j, hj, _⟩ := Option.map_eq_some_iff.1 (show (Tryz.prog.info? 104).map (·.size) = some 2 by kernel_rfl)
  go_enter Tryz.func99, Tryz.ntmps99
  go_wp2
  rw [Lib.run_neq_ptr_same w _ Tryz.underlying102 hj]
  go_wp2
  go_end0
  exact ⟨rfl, rfl⟩

set_option maxHeartbeats 1000000 in
set_option maxRecDepth 100000 in
theorem chk_fresh (b : Nat) (w : World) (h0 : w.cell? ⟨b, 0, none⟩ = some (.pointer none)) (hsh : w.shape? b = some (104, 2)) (hfz : w.frozen? ⟨b, 0, none⟩ = false) :
    Calls Tryz.prog 99 #[.pointer (some ⟨b, 0, none⟩)] w fun e w' => e = .returned (.tuple #[]) ∧ w' = w.setCell ⟨b, 0, none⟩ (.pointer (some ⟨b, 0, none⟩)) := by
  obtain ⟨j, hj, hjs⟩ := Option.map_eq_some_iff.1 (show (Tryz.prog.info? 104).map (·.size) = some 2 by kernel_rfl)
  go_enter Tryz.func99, Tryz.ntmps99
  go_wp2
  rw [Lib.run_to_unsafe w ⟨b, 0, none⟩ Tryz.underlying102 Tryz.underlying394 hj (by rw [hjs]; decide) hsh (Nat.zero_lt_succ 1)]
  simp only [Result.andThen]
  rw [Oper.upon_value]
  go_wp2
  rw [run_callFunc_extern Tryz.func215 (by kernel_rfl) (by kernel_rfl) (by kernel_rfl) (e := Extern.AbiNoEscape.same) (by kernel_rfl)]
  rw [Lib.run_noEscape]
  simp only [Result.andThen]
  rw [Oper.upon_value]
  go_wp2
  rw [Lib.run_from_unsafe w ⟨b, 0, none⟩ Tryz.underlying394 Tryz.underlying102 hj hsh (by kernel_rfl)]
  simp only [Result.andThen]
  rw [Oper.upon_value]
  go_wp2
  go_end0
  exact ⟨rfl, rfl⟩

set_option maxHeartbeats 1000000 in
set_option maxRecDepth 100000 in
theorem str_walk (b g n cap : Nat) (p : Value) (cur : Array Value) (l : List UInt8) (w : World) (hl : l.length = n) (h0 : l ≠ [])
    (hb : w.heap[b]? = some (.cells #[p, .slice (some ⟨g, 0, none⟩) n cap] 104 (0, 0))) (hg : w.heap[g]? = some (.cells cur 5 (0, 0))) (hnc : n ≤ cap) (hcs : cur.size = cap) (hcm : cap ≤ maxLen)
    (hcell : ∀ (j : Nat) x, l[j]? = some x → w.cell? ⟨g, j, none⟩ = some (.int .u8 x.toNat)) :
    Calls Tryz.prog 32 #[.pointer (some ⟨b, 0, none⟩)] w fun e w' => e = .returned (.string ⟨l.toArray⟩) ∧ w' = w.drew.freeze ⟨g, 0, none⟩ n := by
  subst hl
  have hl0 : l.length ≠ 0 := by simpa using h0
  have c1 : w.drew.cell? ⟨b, 1, none⟩ = some (.slice (some ⟨g, 0, none⟩) l.length cap) := by
    have : w.drew.heap[b]? = some (.cells #[p, .slice (some ⟨g, 0, none⟩) l.length cap] 104 (0, 0)) := hb
    rw [Lib.cell_of_heap this]; rfl
  have hSD : (Builtin.unsafeSliceData_ #[28] 247 #[.slice (some ⟨g, 0, none⟩) l.length cap]).run Tryz.prog w.drew = .ok (.pointer (some ⟨g, 0, none⟩)) w.drew :=
    Lib.run_unsafeSliceData_row _ _ _ _ _ _ (by omega)
  have hUS : (Builtin.unsafeString_ #[247, 3] 9 #[.pointer (some ⟨g, 0, none⟩), .int .i64 l.length]).run Tryz.prog w.drew = .ok (.string ⟨l.toArray⟩) (w.drew.freeze ⟨g, 0, none⟩ l.length) := by
    refine Lib.run_unsafeString_row w.drew 247 3 9 5 Tryz.underlying247 (by kernel_rfl) g cur.size (by have hg' : w.drew.heap[g]? = some (.cells cur 5 (0, 0)) := hg; simp [World.shape?, hg']) l h0 (by omega) (by unfold maxLen at hcm; omega) ?_
    intro j x hx
    rw [show ((⟨g, 0, none⟩ : Addr).add j) = ⟨g, j, none⟩ by simp [Addr.add]; omega]
    exact hcell j x hx
  go_enter Tryz.func32, Tryz.ntmps32
  go_wp2
  go_region
  all_goals (go_wp2; go_ret; exact ⟨rfl, rfl⟩)

section
variable {P : Program} {E : Env} {H : Heap} {w w' : World} {nx : Nat} {N : Nat → Prop}
/-- an object of one row of two cells -/
theorem two_cells {id blk c sz : Nat} {T : TypeId} {a b : AV} (s : Sat E nx H w) (hid : H id = some ⟨T, 2, true, false, .rows [[a, b]]⟩) (hf : E.f id = some (.at_ blk c sz)) :
    c = 1 ∧ sz = 2 ∧ ∃ va vb, w.heap[blk]? = some (.cells #[va, vb] T (0, 0)) ∧ Rep E w a va ∧ Rep E w b vb := by
  obtain ⟨h1, _, h3, h4, hex, cur, fr, hg, hs, hfr, hc⟩ := s.at_ hid hf
  have hc1 : c = 1 := hex rfl
  have hs2 : sz = 2 := h1
  subst hc1 hs2
  obtain rfl : fr = (0, 0) := hfr.resolve_right (by simp)
  obtain ⟨a0, va, e1, e2, r1⟩ := hc 0 (by simp [Body.len]) 0 (by omega)
  obtain ⟨b0, vb, e3, e4, r2⟩ := hc 0 (by simp [Body.len]) 1 (by omega)
  simp [Body.cell?] at e1 e3
  subst e1 e3
  refine ⟨rfl, rfl, va, vb, ?_, r1, r2⟩
  rw [hg]
  congr 2
  apply Array.ext_getElem?
  intro k
  match k with
  | 0 => simpa using e2
  | 1 => simpa using e4
  | k + 2 => rw [Array.getElem?_eq_none (by omega), Array.getElem?_eq_none (by simp)]

theorem hp_drop (ids : List Nat) : ∀ (L : List (Nat × AObj)) (k : Nat), hp (dropL ids L) k = if k ∈ ids then none else hp L k
  | [], k => by simp [dropL, hp]
  | (i, x) :: L, k => by
    have ih := hp_drop ids L k
    unfold dropL at ih ⊢
    rw [List.filter_cons]
    by_cases hi : i ∈ ids
    · rw [if_neg (by simpa using hi), ih]
      by_cases hk : k ∈ ids
      · rw [if_pos hk, if_pos hk]
      · rw [if_neg hk, if_neg hk]
        simp only [hp]
        rw [if_neg (show ¬ k = i from fun e => hk (e ▸ hi))]
    · rw [if_pos (by simpa using hi)]
      simp only [hp]
      rw [ih]
      by_cases e : k = i
      · subst e
        rw [if_pos rfl, if_neg hi, if_pos rfl]
      · rw [if_neg e, if_neg e]

/-- one block turns, and nothing is said of the object there any more -/
theorem sat_lose (s : Sat E nx H w) {id b c sz : Nat} {o : AObj} (hid : H id = some o) (hf : E.f id = some (.at_ b c sz)) (hk : ∀ k, k ≠ b → w'.heap[k]? = w.heap[k]?) (hsz : w'.heap.size = w.heap.size) (hm : Mem w w') :
    Sat E nx (upd H id none) w' ∧ Ext E H w N E (upd H id none) w' := by
  have hI : ¬ E.I b := s.notI ⟨id, o, c, sz, hid, hf⟩
  have m : More E w E w' := ⟨fun _ _ h => h, fun _ h => h, fun b' hb' => hk b' (fun e => hI (e ▸ hb'))⟩
  have key : ∀ k y, upd H id none k = some y → k ≠ id ∧ H k = some y := fun k y hy => by
    by_cases e : k = id
    · subst e; rw [upd_same] at hy; cases hy
    · rw [upd_other _ _ e] at hy; exact ⟨e, hy⟩
  refine ⟨⟨fun k x h => ?_, fun k k' x x' b1 c1 z1 c2 z2 h h' hf1 hf2 => s.inj _ _ _ _ _ _ _ _ _ (key _ _ h).2 (key _ _ h').2 hf1 hf2, s.fresh, fun b' hb' => by rw [hsz]; exact s.imm b' hb'⟩, ?_⟩
  · obtain ⟨hne, h⟩ := key _ _ h
    obtain ⟨p, hp, r⟩ := s.rows _ _ h
    refine ⟨p, hp, ?_⟩
    cases p with
    | nil => exact r
    | at_ b1 c1 z1 => exact r.more m r.2.1 (hk b1 (fun e => by subst e; exact hne (s.inj _ _ _ _ _ _ _ _ _ h hid hp hf)))
  · refine ⟨fun _ _ h => h, fun _ _ h => .inl h, fun _ h => h, fun _ h => .inl h, fun b' _ hn => hk b' (fun e => hn (e ▸ ⟨id, o, c, sz, hid, hf⟩)), ?_, by omega, hm.os, hm.tape, hm.output⟩
    rintro b' ⟨k, x, c1, z1, h, hf1⟩
    exact .inl ⟨k, x, c1, z1, (key _ _ h).2, hf1⟩

theorem Sat.congr {K : Heap} (s : Sat E nx H w) (h : ∀ k, K k = H k) : Sat E nx K w := by
  rw [show K = H from funext h]; exact s
end

theorem rep_tup0 {E : Env} {w : World} : Rep E w (.tup []) (.tuple #[]) := .tup rfl fun k a v h _ => by simp at h

theorem kChk_ok : InlOk Tryz.prog kChk := by
  intro g xs L nx v L' nx' q h hq
  unfold kChk at h
  split at h
  · rename_i hg
    subst hg
    split at h
    · rename_i id
      split at h
      · rename_i t b hid
        split at h
        · rename_i ht
          subst ht
          simp only [Option.some.injEq, Prod.mk.injEq] at h
          obtain ⟨rfl, rfl, rfl, rfl⟩ := h
          refine ⟨fun E w vs hs hr => ?_, Nat.le_refl _⟩
          obtain ⟨u, rfl, r⟩ := reps1 hr
          cases r with
          | ptr hE =>
            rename_i blk c sz
            obtain ⟨rfl, rfl, va, vb, hb, ra, rb⟩ := two_cells hs hid hE
            obtain rfl := ra.val_inv
            simp only [Nat.zero_mul, Nat.add_zero]
            refine (chk_fresh blk w (by simp [World.cell?, hb]) (by simp [World.shape?, hb]) (by simp [World.frozen?, hb])).mono ?_
            rintro e w' ⟨rfl, rfl⟩
            obtain ⟨cur', g1, g2, g3, g4, g5, gm⟩ := setCells_spec blk 104 (0, 0) [.pointer (some ⟨blk, 0, none⟩)] 0 _ w hb
            have k := sat_set (w' := w.setCell ⟨blk, 0, none⟩ (.pointer (some ⟨blk, 0, none⟩))) (N := fun id => nx ≤ id) (o' := ⟨104, 2, true, false, .rows [[.ptr id 0 0, b]]⟩) hs hid hE g1 g4 g5 gm rfl (by rw [g2]; rfl) (by simp [Body.len]) (fun _ => by simp [Body.len]) (.inl rfl) (by
              intro i hi j hj
              simp only [Body.len, List.length_singleton] at hi
              obtain rfl : i = 0 := by omega
              match j, hj with
              | 0, _ => exact ⟨.ptr id 0 0, .pointer (some ⟨blk, 0, none⟩), rfl, by rw [g3]; simp, by simpa using Rep.ptr (i := 0) (j := 0) hE⟩
              | 1, _ => exact ⟨b, vb, rfl, by rw [g3]; simp, rb⟩)
            refine ⟨E, _, rfl, k.1.congr fun k => ?_, rep_tup0, ?_⟩
            · simp only [hp, upd]
              by_cases e : k = id
              · rw [if_pos e, if_pos e]
              · rw [if_neg e, if_neg e, hp_drop, if_neg (by simpa using e)]
            · have hh : hp ((id, (⟨104, 2, true, false, .rows [[.ptr id 0 0, b]]⟩ : AObj)) :: dropL [id] L) = upd (hp L) id (some ⟨104, 2, true, false, .rows [[.ptr id 0 0, b]]⟩) := funext fun k => by
                simp only [hp, upd]
                by_cases e : k = id
                · rw [if_pos e, if_pos e]
                · rw [if_neg e, if_neg e, hp_drop, if_neg (by simpa using e)]
              rw [hh]
              exact k.2
        · cases h
      · rename_i t id' b hid
        split at h
        · rename_i he
          subst he
          simp only [Option.some.injEq, Prod.mk.injEq] at h
          obtain ⟨rfl, rfl, rfl, rfl⟩ := h
          refine ⟨fun E w vs hs hr => ?_, Nat.le_refl _⟩
          obtain ⟨u, rfl, r⟩ := reps1 hr
          cases r with
          | ptr hE =>
            rename_i blk c sz
            simp only [Nat.zero_mul, Nat.add_zero]
            have hc0 : w.cell? ⟨blk, 0, none⟩ = some (.pointer (some ⟨blk, 0, none⟩)) := by
              obtain ⟨h1, _, h3, h4, hex, cur, fr, hgg, hs', hfr, hc⟩ := hs.at_ hid hE
              have hs2 : sz = 2 := h1
              obtain ⟨a0, va, e1, e2, r1⟩ := hc 0 (by simp [Body.len]) 0 (by omega)
              simp [Body.cell?] at e1
              subst e1
              cases r1 with
              | ptr hE' =>
                rw [hE] at hE'
                cases hE'
                simp only [Nat.zero_mul, Nat.add_zero] at e2
                simp [World.cell?, hgg, e2]
            refine (chk_used blk w hc0).mono ?_
            rintro e w' ⟨rfl, rfl⟩
            exact ⟨E, _, rfl, hs, rep_tup0, Ext.refl hs⟩
        · cases h
      · cases h
    · cases h
  · cases h

theorem kStr_ok : InlOk Tryz.prog kStr := by
  intro g xs L nx v L' nx' q h hq
  unfold kStr at h
  split at h
  · rename_i hg
    subst hg
    split at h
    · rename_i id
      split at h
      · rename_i t a id2 n hid
        split at h
        · rename_i t2 ex2 ys hid2
          split at h
          · rename_i hc
            obtain ⟨h0, hn, rfl, rfl⟩ := hc
            simp only [Option.some.injEq, Prod.mk.injEq] at h
            obtain ⟨rfl, rfl, rfl, rfl⟩ := h
            refine ⟨fun E w vs hs hr => ?_, Nat.le_refl _⟩
            obtain ⟨u, rfl, r⟩ := reps1 hr
            cases r with
            | ptr hE =>
              rename_i blk c sz
              obtain ⟨rfl, rfl, va, vb, hb, ra, rb⟩ := two_cells hs hid hE
              simp only [Nat.zero_mul, Nat.add_zero]
              cases rb with
              | slnil => omega
              | sl hE2 hc2 hl2 hn2 hA2 =>
                rename_i b2 c2 sz2 cap A
                obtain rfl := hA2.resolve_left (by omega)
                obtain ⟨k1, _, k3, k4, _, cur, fr, hgg, hs', hfr, hcell⟩ := hs.at_ hid2 hE2
                obtain rfl : sz2 = 1 := k1
                obtain rfl : fr = (0, 0) := hfr.resolve_right (by simp)
                simp only [Option.getD_none, Nat.add_zero] at hc2
                subst hc2
                simp only [Nat.zero_mul] at hb
                simp only [Body.len] at k3
                have hlen : (ys.take n).length = n := by simp; omega
                refine (str_walk blk b2 n cap va cur (ys.take n) w hlen (fun e => by rw [e] at hlen; simp at hlen; omega) hb hgg hn2 (by omega) k4 (fun j x hx => ?_)).mono ?_
                · rw [List.getElem?_take] at hx
                  split at hx
                  · obtain ⟨a', v', e1, e2, e3⟩ := hcell j (by simp only [Body.len]; exact (List.getElem?_eq_some_iff.1 hx).1) 0 (by omega)
                    simp only [Body.cell?, if_true, hx, Option.map_some, Option.some.injEq] at e1
                    subst e1
                    obtain rfl := e3.val_inv
                    simp only [Nat.mul_one, Nat.add_zero] at e2
                    simp [World.cell?, hgg, e2, bv]
                  · cases hx
                · rintro e w' ⟨rfl, rfl⟩
                  have hfz : (w.drew.freeze ⟨b2, 0, none⟩ n).heap = (w.heap.modify b2 fun
                      | .cells c elem (lo, hi) => .cells c elem (if lo == hi then (0, 0 + n) else (min lo 0, max hi (0 + n)))
                      | o => o) := by
                    unfold World.freeze
                    rw [if_neg (by omega)]
                    rfl
                  have k := sat_lose (w' := w.drew.freeze ⟨b2, 0, none⟩ n) (N := fun id => nx ≤ id) hs hid2 hE2 (fun k hk => by
                    rw [hfz, Array.getElem?_modify, if_neg (fun e => hk e.symm)]) (by rw [hfz]; simp) (by unfold World.freeze; rw [if_neg (by omega)]; exact ⟨rfl, rfl, rfl⟩)
                  have hh : hp (dropL [id2] L) = upd (hp L) id2 none := funext fun k => by
                    rw [hp_drop]
                    simp only [upd, List.mem_singleton]
                  exact ⟨E, _, rfl, by rw [hh]; exact k.1, .val _, by rw [hh]; exact k.2⟩
          · cases h
        · cases h
      · cases h
    · cases h
  · cases h

theorem kLib_ok : InlOk Tryz.prog kLib := orInl_ok kCnt_ok (orInl_ok kChk_ok kStr_ok)
theorem kCl_ok : InlOk Tryz.prog kCl := orInl_ok kSRC_ok kLib_ok
end Go.Proofs.YtfofhpkafhpicaaGreatDoor
