/- The contract of the reference's sum; sums and readers, known to closed runs and to open ones. -/
import Derived.Test.YtbpofglponmpnaaGreatDoorKt
import Derived.Test.YtbpofglponmpnaaGreatDoorFr
namespace Go.Proofs.YtbpofglponmpnaaGreatDoor
open Go.RowKit
set_option linter.unusedSimpArgs false
set_option linter.unusedVariables false

set_option maxHeartbeats 400000 in
theorem refadd_any (a b : Int) (w : World) (h1 : 0 ≤ a) (ha : a ≤ 65535) (h2 : 0 ≤ b) (hb : b ≤ 65535) :
    Calls Tryz.prog 279 #[.int .i64 a, .int .i64 b] w fun e w' => e = .returned (.int .i64 (add16 a.toNat b.toNat : Nat)) ∧ w = w' := by
  go_enter Tryz.func279, Tryz.ntmps279
  go_wp2
  go_ret
  refine ⟨?_, rfl⟩
  simp only [add16]
  simp
  omega

theorem refof_any (A : Option Addr) (n c : Nat) (xs : List UInt8) (lo hi : Nat) (w : World) (hn : n ≤ 100000000) (h : Rd w lo hi A n c xs) :
    Calls Tryz.prog 176 #[.slice A n c] w fun e w' => e = .returned (.int .i64 (ofL xs : Nat)) ∧ w = w' := by
  have hmax := h.max
  have hcap := h.cap
  have hlen := Lib.hid h.len
  have hat := Lib.hid h.at_
  clear h
  go_enter Tryz.func176, Tryz.ntmps176
  go_wp2
  go_loop [3, 4] (fun s i => ∃ (s' j : Nat), s' ≤ 65535 ∧ j ≤ n + 1 ∧ s = .int .i64 (s' : Int) ∧ i = .int .i64 (j : Int) ∧ Hid (prs s' (xs.drop j) = prs 0 xs))
    (fun _ i => n + 2 - (intOf i).toNat)
  case atStart => exact ⟨0, 0, by omega, by omega, rfl, rfl, by unfold Hid; simp⟩
  case round =>
    obtain ⟨s', j, hs', hj, rfl, rfl, HP⟩ := hrel
    by_cases hlt : j + 1 < n
    · obtain ⟨g, o, rfl, _, _, hc⟩ := hat.out (by omega)
      obtain ⟨x, hx⟩ : ∃ x, xs[j]? = some x := ⟨_, List.getElem?_eq_getElem (by have := hlen.out; omega)⟩
      obtain ⟨y, hy⟩ : ∃ x, xs[j + 1]? = some x := ⟨_, List.getElem?_eq_getElem (by have := hlen.out; omega)⟩
      have c1 := hc _ _ hx
      have c2 := hc _ _ hy
      clear hc
      have HX := Lib.hid hx
      have HY := Lib.hid hy
      clear hx hy
      unfold bv at c1 c2
      have hx8 := u8le x
      have hy8 := u8le y
      go_wp2_with (go_at_call 279; refine (refadd_any _ _ _ (by omega) (by omega) (by omega) (by omega)).mono ?_; rintro e w' ⟨rfl, rfl⟩)
      go_round
      case rel =>
        refine ⟨add16 s' (x.toNat * 256 + y.toNat), j + 2, add16_le _ _ hs' (by omega), by omega, ?_, by go_num, ?_⟩
        · congr 3
        · unfold Hid
          rw [← prs_two s' xs j x y HX.out HY.out]
          exact HP.out
      case measure => simp [intOf]; omega
    · by_cases h1 : j < n
      · obtain ⟨g, o, rfl, _, _, hc⟩ := hat.out (by omega)
        obtain ⟨x, hx⟩ : ∃ x, xs[j]? = some x := ⟨_, List.getElem?_eq_getElem (by have := hlen.out; omega)⟩
        have c1 := hc _ _ hx
        clear hc
        have hfin : prs s' (xs.drop j) = add16 s' (x.toNat * 256) := prs_one s' xs j x hx (by have := hlen.out; omega)
        rw [HP.out] at hfin
        have HF := Lib.hid hfin
        clear hx hfin HP hat
        unfold bv at c1
        have hx8 := u8le x
        go_wp2_with (go_at_call 279; refine (refadd_any _ _ _ (by omega) (by omega) (by omega) (by omega)).mono ?_; rintro e w' ⟨rfl, rfl⟩)
        go_round
        case rel =>
          refine ⟨add16 s' (x.toNat * 256), j + 2, add16_le _ _ hs' (by omega), by omega, ?_, by go_num, ?_⟩
          · congr 3
          · unfold Hid
            rw [HF.out, List.drop_of_length_le (by have := hlen.out; omega)]
            rfl
        case measure => simp [intOf]; omega
      · have hfin : s' = prs 0 xs := by rw [← HP.out, List.drop_of_length_le (by have := hlen.out; omega)]; rfl
        have HF := Lib.hid hfin
        clear hfin HP hat hlen
        go_wp2
        go_ret
        refine ⟨?_, rfl⟩
        have e : ((65535 - s' : Nat) : Int) = 65535 - (s' : Nat) := by omega
        simp only [ofL, ← HF.out, e]
        rfl


/-- the reference's sum, open runs -/
def kRef : Inl := fun g xs L nx =>
  if g = 176 then
    match xs with
    | [x] =>
      match bytesOf (hp L) x with
      | some (ys, p) => some (.val (.int .i64 (ofL ys : Nat)), L, nx, [p, ys.length ≤ 100000000])
      | none => none
    | _ => none
  else none
theorem kRef_ok : InlOk Tryz.prog kRef := by
  intro g xs L nx v L' nx' q h hq
  unfold kRef at h
  split at h
  · rename_i hg
    split at h
    · rename_i x
      split at h
      · rename_i ys p hb
        simp only [Option.some.injEq, Prod.mk.injEq] at h
        obtain ⟨rfl, rfl, rfl, rfl⟩ := h
        refine ⟨ACall.plain fun E w vs hs hr => ?_, Nat.le_refl _⟩
        obtain ⟨u, rfl, r⟩ := reps1 hr
        obtain ⟨A, n, c, rfl, rd⟩ := rd_of hs hb (hq _ List.mem_cons_self) r
        have hn : n ≤ 100000000 := by have := rd.len; have := hq _ (List.mem_cons_of_mem _ List.mem_cons_self); omega
        subst hg
        exact (refof_any A n c ys 0 w.heap.size w hn rd).mono fun e w' ⟨h1, h2⟩ => ⟨h1, by rw [← h2]; exact Below.refl _ _⟩
      · cases h
    · cases h
  · cases h
/-- the reference's sum, called s2 where it is of a head's 20 bytes, else s1 -/
def kOf (s1 s2 : Int) : Inl := fun g xs L nx =>
  if g = 176 then
    match xs with
    | [x] =>
      match bytesOf (hp L) x with
      | some (ys, p) =>
        if ys.length = 20 then some (.val (.int .i64 s2), L, nx, [p, (ofL ys : Int) = s2])
        else some (.val (.int .i64 s1), L, nx, [p, ys.length ≤ 100000000, (ofL ys : Int) = s1])
      | none => none
    | _ => none
  else none
theorem kOf_ok (s1 s2 : Int) : InlOk Tryz.prog (kOf s1 s2) := by
  intro g xs L nx v L' nx' q h hq
  unfold kOf at h
  split at h
  · rename_i hg
    split at h
    · rename_i x
      split at h
      · rename_i ys p hb
        split at h
        · rename_i h20
          simp only [Option.some.injEq, Prod.mk.injEq] at h
          obtain ⟨rfl, rfl, rfl, rfl⟩ := h
          have h1 : p := hq _ (by simp)
          have h2 : (ofL ys : Int) = s2 := hq _ (by simp)
          subst h2
          exact kRef_ok g [x] L nx _ L nx [p, ys.length ≤ 100000000] (by unfold kRef; simp [hg, hb]) fun r hr => by
            simp only [List.mem_cons, List.not_mem_nil, or_false] at hr
            rcases hr with rfl | rfl
            · exact h1
            · omega
        · simp only [Option.some.injEq, Prod.mk.injEq] at h
          obtain ⟨rfl, rfl, rfl, rfl⟩ := h
          have h1 : p := hq _ (by simp)
          have h3 : ys.length ≤ 100000000 := hq _ (by simp)
          have h2 : (ofL ys : Int) = s1 := hq _ (by simp)
          subst h2
          exact kRef_ok g [x] L nx _ L nx [p, ys.length ≤ 100000000] (by unfold kRef; simp [hg, hb]) fun r hr => by
            simp only [List.mem_cons, List.not_mem_nil, or_false] at hr
            rcases hr with rfl | rfl
            · exact h1
            · exact h3
      · cases h
    · cases h
  · cases h
theorem getD_cut (l : List UInt8) (off k n : Nat) (h : k < n) : ((l.drop off).take n).getD k 0 = l.getD (off + k) 0 := by
  simp [List.getD, List.getElem?_take, List.getElem?_drop, h]
/-- what a reader reads, by the bytes -/
def rdU (g : FuncId) (ys : List UInt8) (off : Nat) : AV :=
  if g = 286 then .val (.int .i64 (((ys.getD off 0).toNat : Nat) : Int))
  else if g = 180 then .val (.int .i64 (((ys.getD off 0).toNat * 256 + (ys.getD (off + 1) 0).toNat : Nat) : Int))
  else .val (.int .u32 ((((((ys.getD off 0).toNat * 256 + (ys.getD (off + 1) 0).toNat) * 256 + (ys.getD (off + 2) 0).toNat) * 256 + (ys.getD (off + 3) 0).toNat : Nat)) : Int))
/-- how many bytes a number has -/
def rdK (g : FuncId) : Nat := if g = 286 then 1 else if g = 180 then 2 else 4
def kRdU : Inl := fun g xs L nx =>
  if g = 286 ∨ g = 180 ∨ g = 287 then
    match xs with
    | [.ptr id 0 0] =>
      match hp L id with
      | some ⟨t1, 2, x1, z1, .rows [[.sl id2 off n none, .val (.bool false)]]⟩ =>
        match hp L id2 with
        | some ⟨t2, 1, x2, z2, .bytes ys⟩ =>
          if id < nx ∧ id2 < nx ∧ id ≠ id2 then
            some (rdU g ys off, [(id2, ⟨t2, 1, x2, z2, .bytes ys⟩), (id, ⟨t1, 2, x1, z1, .rows [[.sl id2 (off + rdK g) (n - rdK g) none, .val (.bool false)]]⟩)] ++ L.filter fun p => ![id, id2].contains p.1, nx + 100, [rdK g ≤ n, off + n ≤ ys.length])
          else none
        | _ => none
      | _ => none
    | _ => none
  else none
theorem kRdU_ok : InlOk Tryz.prog kRdU := by
  intro g xs L nx v L' nx' q h hq
  unfold kRdU at h
  split at h
  · rename_i hg
    split at h
    · rename_i id
      split at h
      · rename_i t1 x1 z1 id2 off n h1
        split at h
        · rename_i t2 x2 z2 ys h2
          split at h
          · rename_i h3
            simp only [Option.some.injEq, Prod.mk.injEq] at h
            obtain ⟨rfl, rfl, rfl, rfl⟩ := h
            refine ⟨?_, by omega⟩
            have q1 : rdK g ≤ n := hq _ (by simp)
            have q2 : off + n ≤ ys.length := hq _ (by simp)
            rcases hg with rfl | rfl | rfl
            · have e : rdU 286 ys off = .val (.int .i64 (at8 ys off : Nat)) := by
                have q1' : 1 ≤ n := q1
                rw [rdU, if_pos rfl, ← at8_len ys off (by omega), getD_cut _ _ _ _ (by decide)]
                rfl
              rw [e]
              exact rd_used (ru8_c ys off n t1 t2 x1 z1 x2 z2 q1 q2) (by omega) (by omega) h1 h2 h3
            · have e : rdU 180 ys off = .val (.int .i64 (at16 ys off : Nat)) := by
                have q1' : 2 ≤ n := q1
                rw [rdU, if_neg (by decide), if_pos rfl, ← at16_len ys off (by omega), getD_cut _ _ _ _ (by decide), getD_cut _ _ _ _ (by decide)]
                rfl
              rw [e]
              exact rd_used (ru16_c ys off n t1 t2 x1 z1 x2 z2 q1 q2) (by omega) (by omega) h1 h2 h3
            · have e : rdU 287 ys off = .val (.int .u32 (at32 ys off : Nat)) := by
                have q1' : 4 ≤ n := q1
                rw [rdU, if_neg (by decide), if_neg (by decide), ← at32_len ys off (by omega), getD_cut _ _ _ _ (by decide), getD_cut _ _ _ _ (by decide), getD_cut _ _ _ _ (by decide), getD_cut _ _ _ _ (by decide)]
                rfl
              rw [e]
              exact rd_used (ru32_c ys off n t1 t2 x1 z1 x2 z2 q1 q2) (by omega) (by omega) h1 h2 h3
          · cases h
        · cases h
      · cases h
    · cases h
  · cases h
/-- sums and readers, open runs -/
def kSS : Inl := orInl kRef (orInl kSum kRdU)
theorem kSS_ok : InlOk Tryz.prog kSS := orInl_ok kRef_ok (orInl_ok kSum_ok kRdU_ok)

/-- a sum of bytes that are known -/
def kSumC : Inl := fun g xs L nx =>
  if g = 176 ∨ g = 329 ∨ g = 367 then
    match xs with
    | [x] =>
      match bytesOf (hp L) x with
      | some (ys, _) =>
        if ((bytesDP (hp L) x).b && decide (ys.length ≤ 100000000)) = true then
          match orInl kRef kSum g xs L nx with
          | some (v, L', n', _) => some (v, L', n', [])
          | none => none
        else none
      | none => none
    | _ => none
  else none
theorem kSumC_ok : InlOk Tryz.prog kSumC := by
  intro g xs L nx v L' nx' q h hq
  unfold kSumC at h
  split at h
  · rename_i hg
    split at h
    · rename_i x
      split at h
      · rename_i ys p hb
        split at h
        · rename_i hc
          simp only [Bool.and_eq_true, decide_eq_true_eq] at hc
          split at h
          · rename_i v1 L1 n1 q1 h1
            simp only [Option.some.injEq, Prod.mk.injEq] at h
            obtain ⟨rfl, rfl, rfl, rfl⟩ := h
            have hp := bytesDP_ok hb ((bytesDP (hp L) x).h hc.1)
            refine orInl_ok kRef_ok kSum_ok g [x] L nx v1 L1 n1 q1 h1 ?_
            have hq1 : q1 = [p, ys.length ≤ 100000000] := by
              rcases hg with rfl | rfl | rfl
              · simp [orInl, kRef, hb] at h1
                exact h1.2.2.2.symm
              · simp [orInl, kRef, kSum, hb] at h1
                exact h1.2.2.2.symm
              · simp [orInl, kRef, kSum, hb] at h1
                exact h1.2.2.2.symm
            rw [hq1]
            intro r hr
            simp only [List.mem_cons, List.not_mem_nil, or_false] at hr
            rcases hr with rfl | rfl
            · exact hp
            · exact hc.2
          · cases h
        · cases h
      · cases h
    · cases h
  · cases h

/-- a reader's numbers, where all is known -/
def kRdC : Inl := fun g xs L nx =>
  if g = 286 ∨ g = 180 ∨ g = 287 then
    match xs with
    | [.ptr id 0 0] =>
      match hp L id with
      | some ⟨t1, 2, x1, z1, .rows [[.sl id2 off n none, .val (.bool false)]]⟩ =>
        match hp L id2 with
        | some ⟨t2, 1, x2, z2, .bytes ys⟩ =>
          if id < nx ∧ id2 < nx ∧ id ≠ id2 then
            if rdK g ≤ n ∧ off + n ≤ ys.length then
              some (if g = 286 then .val (.int .i64 (at8 ys off : Nat)) else if g = 180 then .val (.int .i64 (at16 ys off : Nat)) else .val (.int .u32 (at32 ys off : Nat)),
                [(id2, ⟨t2, 1, x2, z2, .bytes ys⟩), (id, ⟨t1, 2, x1, z1, .rows [[.sl id2 (off + rdK g) (n - rdK g) none, .val (.bool false)]]⟩)] ++ L.filter fun p => ![id, id2].contains p.1, nx + 100, [])
            else none
          else none
        | _ => none
      | _ => none
    | _ => none
  else none
theorem kRdC_ok : InlOk Tryz.prog kRdC := by
  intro g xs L nx v L' nx' q h hq
  unfold kRdC at h
  split at h
  · rename_i hg
    split at h
    · rename_i id
      split at h
      · rename_i t1 x1 z1 id2 off n h1
        split at h
        · rename_i t2 x2 z2 ys h2
          split at h
          · rename_i h3
            split at h
            · rename_i h4
              simp only [Option.some.injEq, Prod.mk.injEq] at h
              obtain ⟨rfl, rfl, rfl, rfl⟩ := h
              refine ⟨?_, by omega⟩
              rcases hg with rfl | rfl | rfl
              · rw [if_pos rfl]
                exact rd_used (ru8_c ys off n t1 t2 x1 z1 x2 z2 h4.1 h4.2) (by omega) (by omega) h1 h2 h3
              · rw [if_neg (by decide), if_pos rfl]
                exact rd_used (ru16_c ys off n t1 t2 x1 z1 x2 z2 h4.1 h4.2) (by omega) (by omega) h1 h2 h3
              · rw [if_neg (by decide), if_neg (by decide)]
                exact rd_used (ru32_c ys off n t1 t2 x1 z1 x2 z2 h4.1 h4.2) (by omega) (by omega) h1 h2 h3
            · cases h
          · cases h
        · cases h
      · cases h
    · cases h
  · cases h
/-- a reader's numbers by the bytes, where all lengths are known -/
def kRdV : Inl := fun g xs L nx =>
  if g = 286 ∨ g = 180 ∨ g = 287 then
    match xs with
    | [.ptr id 0 0] =>
      match hp L id with
      | some ⟨t1, 2, x1, z1, .rows [[.sl id2 off n none, .val (.bool false)]]⟩ =>
        match hp L id2 with
        | some ⟨t2, 1, x2, z2, .bytes ys⟩ =>
          if id < nx ∧ id2 < nx ∧ id ≠ id2 then
            if rdK g ≤ n ∧ off + n ≤ ys.length then
              some (rdU g ys off,
                [(id2, ⟨t2, 1, x2, z2, .bytes ys⟩), (id, ⟨t1, 2, x1, z1, .rows [[.sl id2 (off + rdK g) (n - rdK g) none, .val (.bool false)]]⟩)] ++ L.filter fun p => ![id, id2].contains p.1, nx + 100, [])
            else none
          else none
        | _ => none
      | _ => none
    | _ => none
  else none
theorem kRdV_ok : InlOk Tryz.prog kRdV := by
  intro g xs L nx v L' nx' q h hq
  unfold kRdV at h
  split at h
  · rename_i hg
    split at h
    · rename_i id
      split at h
      · rename_i t1 x1 z1 id2 off n h1
        split at h
        · rename_i t2 x2 z2 ys h2
          split at h
          · rename_i h3
            split at h
            · rename_i h4
              simp only [Option.some.injEq, Prod.mk.injEq] at h
              obtain ⟨rfl, rfl, rfl, rfl⟩ := h
              refine ⟨?_, by omega⟩
              exact (kRdU_ok g [.ptr id 0 0] L nx _ _ _ [rdK g ≤ n, off + n ≤ ys.length] (by unfold kRdU; simp only [if_pos hg, h1, h2, if_pos h3]) fun p hp => by
                simp only [List.mem_cons, List.not_mem_nil, or_false] at hp
                rcases hp with rfl | rfl
                · exact h4.1
                · exact h4.2).1
            · cases h
          · cases h
        · cases h
      · cases h
    · cases h
  · cases h
/-- sums and readers, closed runs -/
def kSRC : Inl := orInl kSumC kRdC
theorem kSRC_ok : InlOk Tryz.prog kSRC := orInl_ok kSumC_ok kRdC_ok
end Go.Proofs.YtbpofglponmpnaaGreatDoor
