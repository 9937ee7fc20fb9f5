/- What the statements of layer 9 ask first. -/
import Derived.Test.YtoekncmggjhmjaaIcmpLaw
import Derived.Test.YtoekncmggjhmjaaMore
namespace Go.Proofs.Ytoekncmggjhmjaa
open Go.RowKit

def awm : Msg := ⟨8, 0, 458752, [120]⟩
def awq : Pkt := (icmpPut baseP awm).2
theorem awq_put : icmpPut baseP awm = (0, awq) := by kernel_rfl
theorem awq_get : icmpGet awq = (0, awm) := by kernel_rfl
theorem awq_query : query awm = (7, true) := by kernel_rfl
theorem awq_fault : fault awm = false := by kernel_rfl
theorem awq_len : awq.body.length = 9 := by kernel_rfl
attribute [irreducible] awq

theorem fault11 (w : World) : Calls Try.prog 32 #[.agg #[.int .i64 11, .int .i64 0, .int .u32 0, .slice none 0 0]] w fun e w' => e = .returned (.bool true) ∧ Below w.heap.size w w' :=
  fault_any ⟨11, 0, 0, []⟩ none 0 0 w
theorem fault8 (A : Option Addr) (w : World) : Calls Try.prog 32 #[.agg #[.int .i64 8, .int .i64 0, .int .u32 458752, .slice A 1 1]] w fun e w' => e = .returned (.bool false) ∧ Below w.heap.size w w' :=
  fault_any awm A 1 1 w

set_option maxRecDepth 100000 in
set_option maxHeartbeats 1000000 in
theorem awake9_any (w : World) : Calls Try.prog 25 #[] w fun e w' => e = .returned (.bool true) ∧ Below w.heap.size w w' := by
  have kc := fun (w : World) (C : Array Value) (n c : Nat) => Lib.run_convert_bytes_const (P := Try.prog) w 24 5 C n c Try.underlying24 Try.underlying5
  go_enter Try.func25, Try.ntmps25
  go_wp2_with fail
  obtain ⟨w0, hw0⟩ : ∃ w0, w0 = (w.alloc (.cells #[.int .u8 120] 5 (1, 2))).alloc (.cells #[.int .i64 8, .int .i64 0, .int .u32 458752, .slice (some ⟨w.heap.size, 0, none⟩) 1 1] 30) := ⟨_, rfl⟩
  have BM : Blk w0 (w.heap.size + 1) 30 #[.int .i64 8, .int .i64 0, .int .u32 458752, .slice (some ⟨w.heap.size, 0, none⟩) 1 1] := by
    rw [hw0]
    exact Blk.new (w.alloc (.cells #[.int .u8 120] 5 (1, 2))) 30 #[.int .i64 8, .int .i64 0, .int .u32 458752, .slice (some ⟨w.heap.size, 0, none⟩) 1 1] (by simp)
  have rB : Rd w0 w.heap.size (w.heap.size + 1) (some ⟨w.heap.size, 0, none⟩) 1 1 awm.body := by
    rw [hw0]
    exact (Rd.mark w 5 (1, 2) #[.int .u8 120] [120] rfl (by simp) rfl rfl).alloc (by simp) _
  have hbw0 : Below w.heap.size w w0 := by
    rw [hw0]
    exact ((Below.refl _ _).alloc (Nat.le_refl _) _).alloc (by simp) _
  have hz0 : w.heap.size + 1 < w0.heap.size := BM.lt
  rw [← hw0]
  clear hw0 kc
  obtain ⟨m0, m1, m2, m3, mf⟩ := BM.cells4
  clear mf
  go_cut [0, 1, 2, 3] (fun s0 s1 s2 s3 wx => ∃ (g Nb : Nat) (Ao Ab : Option Addr) (no co nb cb : Nat), s0 = .bool false ∧ s1 = .pointer (some ⟨w.heap.size + 1, 0, none⟩) ∧ s2 = .pointer (some ⟨g, 0, none⟩) ∧ s3 = .int .i64 0 ∧ Blk wx g 26 (pktA awq Ao no co Ab nb cb) ∧
    PktAt wx w0.heap.size Nb awq Ao no co Ab nb cb ∧ Nb ≤ wx.heap.size ∧ Blk wx (w.heap.size + 1) 30 #[.int .i64 8, .int .i64 0, .int .u32 458752, .slice (some ⟨w.heap.size, 0, none⟩) 1 1] ∧
    Rd wx w.heap.size (w.heap.size + 1) (some ⟨w.heap.size, 0, none⟩) 1 1 awm.body ∧ Below w.heap.size w wx)
  case first =>
    go_region_held3 (fun w' => w'.cell? ⟨w.heap.size + 1, 0, none⟩ = some (.int .i64 8) ∧ w'.cell? ⟨w.heap.size + 1, 1, none⟩ = some (.int .i64 0) ∧ w'.cell? ⟨w.heap.size + 1, 2, none⟩ = some (.int .u32 458752) ∧ w'.cell? ⟨w.heap.size + 1, 3, none⟩ = some (.slice (some ⟨w.heap.size, 0, none⟩) 1 1)) (go_keep)
      (first
        | (go_at_call 39
           refine (base9_any w0.drew).mono ?_
           rintro e w1 ⟨rfl, hb1⟩
           have BM1 : Blk w1 _ _ _ := (BM.drew).below hb1 (by first | omega | (simp; omega))
           have rB1 := (rB.drew).below hb1 (by first | omega | (simp; omega))
           have hbw1 := (hbw0.drew).trans (hb1.mono (by first | omega | (simp; omega)))
           have hz1 : w.heap.size + 1 < w1.heap.size := BM1.lt
           have hy1 : w0.heap.size ≤ w1.heap.size := by have := hb1.size; simp at this; omega
           clear hb1 m0 m1 m2 m3
           obtain ⟨m0, m1, m2, m3, -⟩ := BM1.cells4)
        | (go_at_call 39
           refine (base9_any (w0.drew.alloc _)).mono ?_
           rintro e w1 ⟨rfl, hb1⟩
           have BM1 : Blk w1 _ _ _ := (BM.drew.alloc _).below hb1 (by first | omega | (simp; omega))
           have rB1 := (rB.drew.alloc (by first | omega | (simp; omega)) _).below hb1 (by first | omega | (simp; omega))
           have hbw1 := (hbw0.drew.alloc (by first | omega | (simp; omega)) _).trans (hb1.mono (by first | omega | (simp; omega)))
           have hz1 : w.heap.size + 1 < w1.heap.size := BM1.lt
           have hy1 : w0.heap.size ≤ w1.heap.size := by have := hb1.size; simp at this; omega
           have BZ1 : Blk w1 w0.heap.size _ _ := (Blk.new w0.drew _ _ rfl).below hb1 (by simp)
           clear hb1 m0 m1 m2 m3
           obtain ⟨m0, m1, m2, m3, -⟩ := BM1.cells4)
        | (go_at_call 34
           have _hq := BZ1.lt
           refine (icmpPut_any baseP none 0 0 none 0 0 awm _ 1 1 w.heap.size w1.heap.size w1 ⟨Rd.nil _ _ _, Rd.nil _ _ _⟩ ((rB1).wide (Nat.le_refl _) (by omega)) (by simp) (by omega) (by decide)).mono ?_
           rw [awq_put]
           rintro e w2 ⟨Ao, no, co, Ab, nb, cb, rfl, pk2, hb2⟩
           have BM2 : Blk w2 _ _ _ := (BM1).below hb2 (by first | omega | (simp; omega))
           have rB2 := (rB1).below hb2 (by first | omega | (simp; omega))
           have hbw2 := (hbw1).trans (hb2.mono (by first | omega | (simp; omega)))
           have hz2 : w.heap.size + 1 < w2.heap.size := BM2.lt
           have hy2 := hb2.size
           have BZ : Blk w2 w0.heap.size _ _ := BZ1.below hb2 (by omega)
           clear hb2 m0 m1 m2 m3
           obtain ⟨m0, m1, m2, m3, -⟩ := BM2.cells4
           have ne1 : ¬ w0.heap.size = w.heap.size + 1 := by omega
           have ne2 : ¬ w.heap.size + 1 = w0.heap.size := by omega
           obtain ⟨z0, z1, z2, z3, z4, z5, z6, z7, z8, z9, z10, z11, z12, z13, z14, z15, zf⟩ := BZ.cells16
           unfold pktA)
        | (go_at_call 34
           refine (icmpPut_any baseP none 0 0 none 0 0 awm _ 1 1 w.heap.size w1.heap.size w1 ⟨Rd.nil _ _ _, Rd.nil _ _ _⟩ ((rB1).wide (Nat.le_refl _) (by omega)) (by simp) (by omega) (by decide)).mono ?_
           rw [awq_put]
           rintro e w2 ⟨Ao, no, co, Ab, nb, cb, rfl, pk2, hb2⟩
           have BM2 : Blk w2 _ _ _ := (BM1).below hb2 (by first | omega | (simp; omega))
           have rB2 := (rB1).below hb2 (by first | omega | (simp; omega))
           have hbw2 := (hbw1).trans (hb2.mono (by first | omega | (simp; omega)))
           have hz2 : w.heap.size + 1 < w2.heap.size := BM2.lt
           have hy2 := hb2.size
           clear hb2 m0 m1 m2 m3
           obtain ⟨m0, m1, m2, m3, -⟩ := BM2.cells4
           unfold pktA)
        | (go_at_call 34
           refine (icmpPut_any baseP none 0 0 none 0 0 awm _ 1 1 w.heap.size w1.heap.size (w1.alloc _) ⟨Rd.nil _ _ _, Rd.nil _ _ _⟩ ((rB1.alloc (by omega) _).wide (Nat.le_refl _) (by omega)) (by simp) (by omega) (by decide)).mono ?_
           rw [awq_put]
           rintro e w2 ⟨Ao, no, co, Ab, nb, cb, rfl, pk2, hb2⟩
           have BM2 : Blk w2 _ _ _ := (BM1.alloc _).below hb2 (by first | omega | (simp; omega))
           have rB2 := (rB1.alloc (by omega) _).below hb2 (by first | omega | (simp; omega))
           have hbw2 := (hbw1.alloc (by omega) _).trans (hb2.mono (by first | omega | (simp; omega)))
           have hz2 : w.heap.size + 1 < w2.heap.size := BM2.lt
           have hy2 := hb2.size
           have BZ : Blk w2 w1.heap.size _ _ := (Blk.new w1 _ _ rfl).below hb2 (by simp)
           clear hb2 m0 m1 m2 m3
           obtain ⟨m0, m1, m2, m3, -⟩ := BM2.cells4
           have ne1 : ¬ w1.heap.size = w.heap.size + 1 := by omega
           have ne2 : ¬ w.heap.size + 1 = w1.heap.size := by omega
           obtain ⟨z0, z1, z2, z3, z4, z5, z6, z7, z8, z9, z10, z11, z12, z13, z14, z15, zf⟩ := BZ.cells16
           unfold pktA))
    all_goals go_wp2_with fail
    all_goals go_meet
    case' rel => skip
    · exact ⟨w2.heap.size, w2.heap.size, Ao, Ab, no, co, nb, cb, rfl, rfl, rfl, rfl, Blk.new w2 _ _ rfl, (pk2.alloc (Nat.le_refl _) _).wide hy1 (Nat.le_refl _), by simp, BM2.alloc _, rB2.alloc (by omega) _, hbw2.alloc (by omega) _⟩
    · simp only [World.size_alloc] at pk2 hy2
      exact ⟨w1.heap.size, w2.heap.size, Ao, Ab, no, co, nb, cb, rfl, rfl, rfl, rfl, BZ.put16, (pk2.kp kp16 (by omega)).wide (by omega) (Nat.le_refl _), Nat.le_of_eq (kp16 (b := w1.heap.size)).size.symm, BM2.kp kp16 (by omega), rB2.kp kp16 (by omega), below_kp hbw2 kp16 (by omega)⟩
    · exact ⟨w0.heap.size, w2.heap.size, Ao, Ab, no, co, nb, cb, rfl, rfl, rfl, rfl, BZ.put16, (pk2.kp kp16 (by have := BZ1.lt; omega)).wide hy1 (Nat.le_refl _), Nat.le_of_eq (kp16 (b := w0.heap.size)).size.symm, BM2.kp kp16 (by omega), rB2.kp kp16 (by omega), below_kp hbw2 kp16 (by omega)⟩
  case rest =>
    obtain ⟨g, Nb, Ao, Ab, no, co, nb, cb, rfl, rfl, rfl, rfl, BP, pk, hNb, BM, rB, hbw⟩ := hcut
    clear hbw0 hz0 m0 m1 m2 m3
    have hMz := BM.lt
    go_wp2_with (refine wpList_loadBlk rfl rtP (.tmp 2) rfl rfl BP ?_)
    refine (icmpGet_any awq Ao no co Ab nb cb w0.heap.size Nb wc pk hNb (by have := pk.body.len; rw [awq_len] at this; omega)).mono ?_
    rw [awq_get]
    rintro e w4 ⟨A, n, c, rfl, r4, hb4⟩
    have BM4 : Blk w4 _ _ _ := BM.below hb4 hMz
    have rB4 := rB.below hb4 (by omega)
    have hbw4 := hbw.trans (hb4.mono hbw.size)
    have hz4 : w.heap.size + 1 < w4.heap.size := BM4.lt
    clear hb4 pk BP BM rB hbw
    unfold msgA
    go_wp2_with fail
    refine (query_any awm A n c _ (by decide)).mono ?_
    rw [awq_query]
    rintro e w5 ⟨rfl, hb5⟩
    have BM5 : Blk w5 _ _ _ := (BM4.alloc _).below hb5 (by simp; omega)
    have BQ5 : Blk w5 w4.heap.size _ _ := (Blk.new w4 _ _ rfl).below hb5 (by simp)
    have rB5 := (rB4.alloc (by omega) _).below hb5 (by simp; omega)
    have rQ5 := (r4.alloc (by omega) _).below hb5 (by simp)
    have hbw5 := (hbw4.alloc (by omega) _).trans (hb5.mono (by simp; omega))
    have hz5 : w.heap.size + 1 < w5.heap.size := BM5.lt
    have hy5 : w4.heap.size < w5.heap.size := BQ5.lt
    clear hb5 BM4 rB4 r4 hbw4 BM rB
    obtain ⟨m0, m1, m2, m3, -⟩ := BM5.cells4
    obtain ⟨q0, q1, q2, q3, -⟩ := BQ5.cells4
    go_wp2_with fail
    go_region_held3 (fun w' => (w'.cell? ⟨w.heap.size + 1, 0, none⟩ = some (.int .i64 8) ∧ w'.cell? ⟨w.heap.size + 1, 1, none⟩ = some (.int .i64 0) ∧ w'.cell? ⟨w.heap.size + 1, 2, none⟩ = some (.int .u32 458752) ∧ w'.cell? ⟨w.heap.size + 1, 3, none⟩ = some (.slice (some ⟨w.heap.size, 0, none⟩) 1 1)) ∧
        (w'.cell? ⟨w4.heap.size, 0, none⟩ = some (.int .i64 awm.typ) ∧ w'.cell? ⟨w4.heap.size, 1, none⟩ = some (.int .i64 awm.code) ∧ w'.cell? ⟨w4.heap.size, 2, none⟩ = some (.int .u32 awm.rest) ∧ w'.cell? ⟨w4.heap.size, 3, none⟩ = some (.slice A n c))) (go_keep)
      (first
          | (go_at_call 36
             refine (msg9_any awm _ 1 1 _).mono ?_
             rintro e w6 ⟨rfl, hb6⟩
             have BM6 : Blk w6 _ _ _ := BM5.drew.below hb6 hz5
             have BQ6 : Blk w6 _ _ _ := BQ5.drew.below hb6 hy5
             have rB6 := rB5.drew.below hb6 (by first | omega | (simp; omega))
             have rQ6 := rQ5.drew.below hb6 (by first | omega | (simp; omega))
             have hbw6 := hbw5.drew.trans (hb6.mono (by first | omega | (simp; omega)))
             have hz6 : w.heap.size + 1 < w6.heap.size := BM6.lt
             have hy6 : w4.heap.size < w6.heap.size := BQ6.lt
             clear hb6 m0 m1 m2 m3 q0 q1 q2 q3
             obtain ⟨m0, m1, m2, m3, -⟩ := BM6.cells4
             obtain ⟨q0, q1, q2, q3, -⟩ := BQ6.cells4)
          | (go_at_call 31
             refine (same9_any awm A _ n c 1 1 _ _ _ _ w6 rQ6 rB6 (by omega) (by omega)).mono ?_
             rintro e w7 ⟨rfl, hb7⟩
             have BM7 : Blk w7 _ _ _ := BM6.below hb7 hz6
             have BQ7 : Blk w7 _ _ _ := BQ6.below hb7 hy6
             have rB7 := rB6.below hb7 (by first | omega | (simp; omega))
             have rQ7 := rQ6.below hb7 (by first | omega | (simp; omega))
             have hbw7 := hbw6.trans (hb7.mono (by first | omega | (simp; omega)))
             have hz7 : w.heap.size + 1 < w7.heap.size := BM7.lt
             have hy7 : w4.heap.size < w7.heap.size := BQ7.lt
             clear hb7 m0 m1 m2 m3 q0 q1 q2 q3
             obtain ⟨m0, m1, m2, m3, -⟩ := BM7.cells4
             obtain ⟨q0, q1, q2, q3, -⟩ := BQ7.cells4)
          | (go_at_call 32
             ((with_reducible refine (fault8 _ w7).mono ?_))
             rintro e w8 ⟨rfl, hb8⟩
             have BM8 : Blk w8 _ _ _ := BM7.below hb8 hz7
             have BQ8 : Blk w8 _ _ _ := BQ7.below hb8 hy7
             have rB8 := rB7.below hb8 (by first | omega | (simp; omega))
             have rQ8 := rQ7.below hb8 (by first | omega | (simp; omega))
             have hbw8 := hbw7.trans (hb8.mono (by first | omega | (simp; omega)))
             have hz8 : w.heap.size + 1 < w8.heap.size := BM8.lt
             have hy8 : w4.heap.size < w8.heap.size := BQ8.lt
             clear hb8 m0 m1 m2 m3 q0 q1 q2 q3
             obtain ⟨m0, m1, m2, m3, -⟩ := BM8.cells4
             obtain ⟨q0, q1, q2, q3, -⟩ := BQ8.cells4)
          | (go_at_call 32
             ((with_reducible refine (fault11 w8).mono ?_))
             rintro e w9 ⟨rfl, hb9⟩
             have BM9 : Blk w9 _ _ _ := BM8.below hb9 hz8
             have BQ9 : Blk w9 _ _ _ := BQ8.below hb9 hy8
             have rB9 := rB8.below hb9 (by first | omega | (simp; omega))
             have rQ9 := rQ8.below hb9 (by first | omega | (simp; omega))
             have hbw9 := hbw8.trans (hb9.mono (by first | omega | (simp; omega)))
             have hz9 : w.heap.size + 1 < w9.heap.size := BM9.lt
             have hy9 : w4.heap.size < w9.heap.size := BQ9.lt
             clear hb9 m0 m1 m2 m3 q0 q1 q2 q3
             obtain ⟨m0, m1, m2, m3, -⟩ := BM9.cells4
             obtain ⟨q0, q1, q2, q3, -⟩ := BQ9.cells4))
    go_wp2
    go_ret
    exact ⟨rfl, hbw9⟩
end Go.Proofs.Ytoekncmggjhmjaa
