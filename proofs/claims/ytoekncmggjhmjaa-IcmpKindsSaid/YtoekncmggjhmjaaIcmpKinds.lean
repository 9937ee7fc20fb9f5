/- A message is a query, or a fault, or neither, never both: for every message the law IcmpKinds answers true.
   No condition. -/
import Derived.Test.YtoekncmggjhmjaaAwake9
import Derived.Test.YtoekncmggjhmjaaOpen
import Derived.Test.YtoekncmggjhmjaaHead
namespace Go.Proofs.Ytoekncmggjhmjaa.icmpKinds
open Go.ChangeShapes Go.WideShapes Go.ChangeAt Go.RowKit

set_option maxHeartbeats 1000000 in
theorem kinds_walk (m : Msg) (A : Option Addr) (n c : Nat) (w : World) (hr : m.rest ≤ 4294967295) :
    Calls Try.prog 6 #[.agg (msgA m A n c)] w fun e w' => e = .returned (.bool true) ∧ Below w.heap.size w w' := by
  unfold msgA
  go_enter Try.func6, Try.ntmps6
  go_wp2_with fail
  refine (awake9_any _).mono ?_
  rintro e w1 ⟨rfl, hb1⟩
  have B0 : Blk w1 w.heap.size _ _ := (Blk.new w _ _ rfl).below hb1 (by simp)
  have hbw1 : Below w.heap.size w w1 := ((Below.refl _ _).alloc (Nat.le_refl _) _).trans (hb1.mono (by simp))
  have hz1 : w.heap.size < w1.heap.size := B0.lt
  clear hb1
  obtain ⟨m0, m1, m2, m3, -⟩ := B0.cells4
  go_wp2_with fail
  refine (query_any m A n c _ hr).mono ?_
  rintro e w2 ⟨rfl, hb2⟩
  replace B0 := B0.below hb2 hz1
  have hbw2 := hbw1.trans (hb2.mono (by omega))
  have hz2 : w.heap.size < w2.heap.size := B0.lt
  clear hb2 m0 m1 m2 m3
  obtain ⟨m0, m1, m2, m3, -⟩ := B0.cells4
  by_cases h3 : m.code = 0
  · by_cases h1 : m.typ = 8
    · have hq : query m = (m.rest / 65536, true) := by unfold query; rw [if_neg (by omega)]
      rw [hq]
      have b1 := beq_yes h1
      have b2 := beq_no (a := m.typ) (b := 0) (by omega)
      have b3 := beq_yes h3
      have hf : fault m = false := by unfold fault; simp; omega
      clear hq h1 h3
      go_wp2_with fail
      refine (fault_any m A n c _).mono ?_
      rw [hf]
      rintro e w3 ⟨rfl, hb3⟩
      replace B0 := B0.below hb3 hz2
      have hbw3 := hbw2.trans (hb3.mono (by omega))
      clear hb3 m0 m1 m2 m3 hf
      obtain ⟨m0, m1, m2, m3, -⟩ := B0.cells4
      go_wp2_with fail
      go_ret
      exact ⟨by first | rfl | simp, hbw3⟩
    · by_cases h2 : m.typ = 0
      · have hq : query m = (m.rest / 65536, true) := by unfold query; rw [if_neg (by omega)]
        rw [hq]
        have b1 := beq_no h1
        have b2 := beq_yes h2
        have b3 := beq_yes h3
        have hf : fault m = false := by unfold fault; simp; omega
        clear hq h1 h3 h2
        go_wp2_with fail
        refine (fault_any m A n c _).mono ?_
        rw [hf]
        rintro e w3 ⟨rfl, hb3⟩
        replace B0 := B0.below hb3 hz2
        have hbw3 := hbw2.trans (hb3.mono (by omega))
        clear hb3 m0 m1 m2 m3 hf
        obtain ⟨m0, m1, m2, m3, -⟩ := B0.cells4
        go_wp2_with fail
        go_ret
        exact ⟨by first | rfl | simp, hbw3⟩
      · have hq : query m = (0, false) := by unfold query; rw [if_pos (by omega)]
        rw [hq]
        have b1 := beq_no h1
        have b2 := beq_no h2
        have b3 := beq_yes h3
        clear hq h1 h3 h2
        go_wp2_with fail
        go_ret
        exact ⟨by first | rfl | simp, hbw2⟩
  · by_cases h1 : m.typ = 8
    · have hq : query m = (0, false) := by unfold query; rw [if_pos (by omega)]
      rw [hq]
      have b1 := beq_yes h1
      have b2 := beq_no (a := m.typ) (b := 0) (by omega)
      have b3 := beq_no h3
      clear hq h1 h3
      go_wp2_with fail
      go_ret
      exact ⟨by first | rfl | simp, hbw2⟩
    · by_cases h2 : m.typ = 0
      · have hq : query m = (0, false) := by unfold query; rw [if_pos (by omega)]
        rw [hq]
        have b1 := beq_no h1
        have b2 := beq_yes h2
        have b3 := beq_no h3
        clear hq h1 h3 h2
        go_wp2_with fail
        go_ret
        exact ⟨by first | rfl | simp, hbw2⟩
      · have hq : query m = (0, false) := by unfold query; rw [if_pos (by omega)]
        rw [hq]
        have b1 := beq_no h1
        have b2 := beq_no h2
        have b3 := beq_no h3
        clear hq h1 h3 h2
        go_wp2_with fail
        go_ret
        exact ⟨by first | rfl | simp, hbw2⟩

set_option maxRecDepth 100000 in
theorem lifted (os : Os) (started : os.Started) (H : Type) (enc : TypeId × Value → H) :
    ReturnsInHanded {} Try.checked os 6 .any (Rows.icmpKindsSpec.pre6 enc Try.prog Try.f6 Rows.icmpKindsRow.domain false) (Rows.icmpKindsSpec.post enc Try.prog Try.f6 false true false false) := by
  refine returnsInHanded_of_change (C := Try.checked) own started (by kernel_rfl) Try.func6
    (ChangeSpec.witness6 (enc := enc) (C := Try.checked) false ⟨#[], #[.agg #[.int .i64 0, .int .i64 0, .int .u32 0, .slice none 0 0]], []⟩ 8 (by kernel_rfl) (by kernel_rfl) (by kernel_rfl) (by kernel_rfl)) ?_
  intro W base args ds gs before hval0 hW hcnd _
  have hval : ∀ (j : Nat) t v, Try.f6.params[j]? = some t → args[j]? = some v → Value.okWide Try.prog W .any base t v := hval0
  have hW' := hW
  obtain ⟨p, q, hA0, hV, rfl, hfz, hnd⟩ := hW
  have hA : DataW.TrodAll enc Try.prog W 0 (fun _ => true) true Try.f6.params.toList args.toList ds p := hA0
  rw [Try.params6] at hA hval
  obtain ⟨v0, vs0, d0, ds0, p0, q0, hargs, rfl, rfl, h0, r0⟩ := trodAll_cons hA
  obtain ⟨rfl, rfl, rfl⟩ := trodAll_nil r0
  obtain rfl : args = #[v0] := by cases args; simp_all
  obtain ⟨rfl, rfl⟩ := trodVars_none hV
  have lt0 : ∀ x ∈ p0, x.block < W.heap.size := by obtain ⟨m, hm⟩ := h0; exact DataW.trod_lt m _ _ _ hm
  obtain ⟨m, A, n, c, rfl, _, hr⟩ := open_msg (hval 0 30 v0 rfl rfl) h0
  clear hA0 hval0
  refine (kinds_walk m A n c W hr).mono fun e W' ⟨he, bel⟩ => ?_
  subst he
  exact ⟨_, rfl, _, _, _, [], _, [], hW', trodAll_mk1 (shut_bool Try.underlying4 _), (trodAll_cons_mk (Below.trod laidOut (by kernel_rfl) (of_decide_eq_true (by kernel_rfl)) h0 bel lt0) trodAll_mk0), rfl, bel.frame _, fun h => by cases h⟩

theorem facts : joinedFacts Try.prog 6 Try.f6 Rows.icmpKindsSpec Rows.icmpKindsRow = true := by
  unfold joinedFacts
  exact both (both (both (both (both (both (both (by kernel_rfl) may_enter) (by rw [finals_none]; kernel_rfl)) (by rw [make_cut]; kernel_rfl)) (by kernel_rfl)) (by kernel_rfl)) (by kernel_rfl)) (by kernel_rfl)

theorem over : Rows.icmpKindsRow.holds Try.pinned (OpenSpec.ofChange Rows.icmpKindsSpec) :=
  OpenClaim.holds_of_wide 6 Try.f6 rfl rfl rfl rfl rfl rfl rfl ⟨rfl, rfl, rfl, rfl, rfl⟩ rfl rfl rfl rfl rfl (by kernel_rfl) Try.func6 facts
    (of_decide_eq_true (by kernel_rfl)) (by unfold Func.isWrapper; first | (rw [if_pos (by decide +kernel)]; kernel_rfl) | (rw [if_neg (by decide +kernel)]; exact ⟨rfl, rfl⟩))
    (fun os started H enc _ => lifted os started H enc)

theorem proved : Rows.IcmpKindsSaid := over
end Go.Proofs.Ytoekncmggjhmjaa.icmpKinds
