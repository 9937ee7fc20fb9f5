/- The contracts of icmp.Put and of the reference's PutIcmp. -/
import Derived.Test.YtoekncmggjhmjaaIcmpA
namespace Go.Proofs.Ytoekncmggjhmjaa
open Go.RowKit

/-- a packet that is handed back, and what went wrong -/
def RetP (w : World) (r : Int × Pkt) (e : Ending) (w' : World) : Prop :=
  ∃ Ao no co Ab nb cb, e = .returned (.tuple #[.agg (pktA r.2 Ao no co Ab nb cb), .int .i64 r.1]) ∧ PktAt w' w.heap.size w'.heap.size r.2 Ao no co Ab nb cb ∧ Below w.heap.size w w'

theorem retP_zero {w w' : World} (k : Int) (hb : Below w.heap.size w w') : RetP w (k, Pkt.zero) (.returned (.tuple #[.agg (pktA Pkt.zero none 0 0 none 0 0), .int .i64 k])) w' :=
  ⟨none, 0, 0, none, 0, 0, rfl, ⟨Rd.nil _ _ _, Rd.nil _ _ _⟩, hb⟩

set_option maxHeartbeats 2000000 in
theorem icmpPut_any (p : Pkt) (Ao : Option Addr) (no co : Nat) (Ab : Option Addr) (nb cb : Nat) (m : Msg) (Am : Option Addr) (nm cm : Nat) (lo hi : Nat) (w : World) (h : PktAt w lo hi p Ao no co Ab nb cb)
    (hm : Rd w lo hi Am nm cm m.body) (hhi : hi ≤ w.heap.size) (hno : no ≤ 1000000) (hr : m.rest ≤ 4294967295) :
    Calls Try.prog 34 #[.agg (pktA p Ao no co Ab nb cb), .agg (msgA m Am nm cm)] w (RetP w (icmpPut p m)) := by
  have hro := h.opts
  have hlm := Lib.hid hm.len
  unfold pktA msgA
  go_enter Try.func34, Try.ntmps34
  go_wp2_with fail
  refine (within_any m.typ _).mono ?_
  rintro e w1 ⟨rfl, s1⟩
  have B0 : Blk w1 w.heap.size _ _ := (((Blk.new w _ _ rfl).alloc _).alloc _).sm s1
  have B1 : Blk w1 (w.heap.size + 1) _ _ := ((Blk.new _ _ _ (by simp)).alloc _).sm s1
  have B2 : Blk w1 (w.heap.size + 1 + 1) _ _ := (Blk.new _ _ _ (by simp)).sm s1
  have hbw1 : Below w.heap.size w w1 := below_sm ((((Below.refl _ _).alloc (Nat.le_refl _) _).alloc (by simp) _).alloc (by simp; omega) _) s1
  have rm1 : Rd w1 lo hi Am nm cm m.body := Rd.sm (((hm.alloc hhi _).alloc (by simp; omega) _).alloc (by simp; omega) _) s1
  have ro1 : Rd w1 lo hi Ao no co p.opts := Rd.sm (((hro.alloc hhi _).alloc (by simp; omega) _).alloc (by simp; omega) _) s1
  have hz1 : w.heap.size + 1 + 1 < w1.heap.size := B2.lt
  clear s1 hm hro h
  obtain ⟨b0, b1, b2, b3, -⟩ := B1.cells4
  by_cases h1 : isByte m.typ = true
  · rw [h1]
    go_wp2_with fail
    refine (within_any m.code _).mono ?_
    rintro e w2 ⟨rfl, s2⟩
    replace B0 := B0.sm s2
    replace B1 := B1.sm s2
    replace B2 := B2.sm s2
    have hbw2 := below_sm hbw1 s2
    have rm2 := rm1.sm s2
    have ro2 := ro1.sm s2
    have hz2 : w.heap.size + 1 + 1 < w2.heap.size := B2.lt
    clear s2 hbw1 rm1 ro1 hz1 b0 b1 b2 b3
    obtain ⟨b0, b1, b2, b3, -⟩ := B1.cells4
    by_cases h2 : isByte m.code = true
    · rw [h2]
      by_cases h3 : 1472 < nm
      · have hfin : icmpPut p m = (2, Pkt.zero) := by unfold icmpPut; rw [if_neg (by simp [h1, h2]), if_pos (by have := hlm.out; omega)]
        have HF := Lib.hid hfin
        clear hfin h1 h2
        go_wp2_with (refine wpList_storeBlk rfl rtP (.tmp 4) (.tmp 25) rfl rfl rfl B2 ?_
                     intro w3 B3 k3)
        refine bodyPost_ret (results_cell2 rfl rtP rfl B3 rfl) rfl ?_
        rw [HF.out]
        exact retP_zero 2 (below_kp hbw2 k3 (by omega))
      · have hfin : icmpPut p m = (0, { p with proto := 1, body := icmpBody m }) := by unfold icmpPut; rw [if_neg (by simp [h1, h2]), if_neg (by have := hlm.out; omega)]
        have HF := Lib.hid hfin
        have hn3 : nm ≤ 1472 := by omega
        clear hfin h1 h2 h3
        have HX : Hid (∀ a b : Int, [Value.int .u8 (a % 256), Value.int .u8 (b % 256), Value.int .u8 0, Value.int .u8 0] = [lo8 a, lo8 b, 0, 0].map bv) := fun a b => by simp [bv_lo8, bv]
        have hy2 : w.heap.size + 1 < w2.heap.size := by omega
        go_wp2_with fail
        refine (u32_any _ 4 4 m.rest [lo8 m.typ, lo8 m.code, 0, 0] w2.heap.size (w2.heap.size + 1) _ (Rd.lit _ _ _ _ (HX.out _ _) (by simp) rfl rfl) (by simp) (by omega) (by omega) (by omega)).mono ?_
        rintro e w3 ⟨A3, c3, rfl, own3, hb3⟩
        replace B0 := (B0.alloc _).below hb3 (by simp; omega)
        replace B1 := (B1.alloc _).below hb3 (by simp; omega)
        replace B2 := (B2.alloc _).below hb3 (by simp; omega)
        have hbw3 : Below w.heap.size w w3 := (hbw2.alloc (by omega) _).trans (hb3.mono (by simp; omega))
        have rm3 := (rm2.alloc (by omega) _).below hb3 (by simp; omega)
        have ro3 := (ro2.alloc (by omega) _).below hb3 (by simp; omega)
        have hz3 : w2.heap.size < w3.heap.size := by have := hb3.size; simp at this; omega
        simp only [World.size_alloc] at own3
        clear hb3 hbw2 rm2 ro2 HX b0 b1 b2 b3
        obtain ⟨b0, b1, b2, b3, -⟩ := B1.cells4
        have hl3 := Lib.hid own3.lt
        go_wp2_with (at_builtin
                     refine wpList_appB _ rfl (.tmp 36) (.tmp 38) bt rfl _ A3 _ c3 _ rfl own3 lo hi Am nm cm m.body rfl rm3 (by omega) (by omega) ?_
                     intro A4 c4 w4 own4 hg4 hat4)
        replace B0 := B0.grown hg4 (fun e => by have := hl3.out _ e.symm; omega)
        replace B2 := B2.grown hg4 (fun e => by have := hl3.out _ e.symm; omega)
        have hbw4 : Below w.heap.size w w4 := hbw3.grown hg4 (by omega) (fun k hk => by have := hl3.out k hk; omega)
        have ro4 := ro3.grown hg4 (by omega) (fun k hk => by have := hl3.out k hk; omega)
        have hz4 : w3.heap.size ≤ w4.heap.size := hg4.size
        clear hl3 hbw3 rm3 ro3 own3 hg4 hat4 b0 b1 b2 b3 B1
        obtain ⟨bb, hbb⟩ : ∃ bb, bb = [lo8 m.typ, lo8 m.code, 0, 0] ++ be32 m.rest ++ m.body := ⟨_, rfl⟩
        rw [← hbb] at own4
        have HB := Lib.hid hbb
        have hb2 : bb[2]? = some 0 := by rw [hbb]; rfl
        have hb3 : bb[3]? = some 0 := by rw [hbb]; rfl
        clear hbb
        refine (of_sm A4 (8 + nm) c4 bb _ _ w4 (by omega) (Rd.of_own own4)).mono ?_
        rintro e w5 ⟨sm, rfl, hs16, HS, s5⟩
        replace B0 := B0.sm s5
        replace B2 := B2.sm s5
        have hbw5 := below_sm hbw4 s5
        have ro5 := ro4.sm s5
        have own5 := own4.sm s5
        have hz5 := s5.size
        clear hbw4 ro4 own4 s5
        obtain ⟨g, hgA, hgb, hgl, hgc, hgf⟩ := own5.place (by omega)
        subst hgA
        have s2 : w5.cell? ⟨g, 2, none⟩ = some (.int .u8 0) := hgc 2 0 hb2
        have s3 : w5.cell? ⟨g, 3, none⟩ = some (.int .u8 0) := hgc 3 0 hb3
        replace own5 : Own _ _ _ _ _ _ _ := (own5.stored 2 (lo8 ((sm : Int) / 256))).stored 3 (lo8 sm)
        have e1 : Value.int .u8 ((sm : Int) / 256) = bv (lo8 ((sm : Int) / 256)) := bv_small _ (by omega) (by omega)
        have e2 : Value.int .u8 ((sm : Int) % 256) = bv (lo8 sm) := bv_lo8 _
        rw [← e1, ← e2] at own5
        clear hgc hb2 hb3 e1 e2
        have HZ := Lib.hid hz5
        have hz5' : w4.heap.size ≤ w5.heap.size := by omega
        clear hz5
        go_upto_region 9 with fail
        obtain ⟨w6, hw6⟩ : ∃ w6, w6 = (w5.setCell ⟨g, 2, none⟩ (.int .u8 ((sm : Int) / 256))).setCell ⟨g, 3, none⟩ (.int .u8 ((sm : Int) % 256)) := ⟨_, rfl⟩
        have k6 : Kp g w5 w6 := by rw [hw6]; exact ((Kp.refl _ _).set _ _).set _ _
        rw [← hw6] at own5 ⊢
        replace B0 := B0.kp k6 (by omega)
        replace B2 := B2.kp k6 (by omega)
        have hbw6 := below_kp hbw5 k6 (by omega)
        have ro6 := ro5.kp k6 (by omega)
        have hz6 : w5.heap.size ≤ w6.heap.size := Nat.le_of_eq k6.size.symm
        clear hw6 s2 s3 hgf hbw5 ro5 HZ k6
        have hz61 : w.heap.size < w6.heap.size := by omega
        have hz62 : g < w6.heap.size := by omega
        obtain ⟨-, -, -, -, -, -, -, -, -, -, -, -, -, -, q14, -, -⟩ := B0.cells16
        go_wp2_with (first
          | (at_builtin
             refine wpList_appB _ rfl (.tmp 51) (.tmp 53) bt rfl w6.heap.size _ 0 0 [] rfl (Own.lit _ _ _ #[] [] (by simp) rfl (by simp) rfl rfl) lo hi Ao no co p.opts rfl (ro6.alloc (by omega) _) (by omega) (by simp) ?_
             intro A7 c7 w7 own7 hg7 hat7
             simp only [Nat.zero_add, List.nil_append] at own7
             have hl7 : Below w6.heap.size w6 w7 := ((Below.refl _ _).alloc (Nat.le_refl _) _).grown hg7 (by simp) (by simp [Value.ownBlock])
             replace B0 := B0.below hl7 (by omega)
             replace B2 := B2.below hl7 (by omega)
             have hbw7 := hbw6.trans (hl7.mono (by omega))
             replace own5 := own5.below hl7 (Nat.le_refl _)
             have hz7 : w6.heap.size ≤ w7.heap.size := hl7.size
             clear hg7 hat7 hl7 q14 hbw6 ro6
             obtain ⟨-, -, -, -, -, q5, -, -, -, -, -, -, -, -, q14, q15, f0⟩ := B0.cells16
             replace B0 := ((B0.set_ 5 (.int .i64 1)).set_ 14 (.slice A7 no c7)).set_ 15 (.slice (some ⟨g, 0, none⟩) (8 + nm) c4)
             simp only [List.setIfInBounds_toArray, List.set_cons_succ, List.set_cons_zero] at B0
             replace B2 := ((B2.far (p := ⟨w.heap.size, 5, none⟩) (by simp; omega) (.int .i64 1)).far (p := ⟨w.heap.size, 14, none⟩) (by simp; omega) (.slice A7 no c7)).far (p := ⟨w.heap.size, 15, none⟩) (by simp; omega) (.slice (some ⟨g, 0, none⟩) (8 + nm) c4))
          | refine wpList_loadBlk rfl rtP (.tmp 2) rfl rfl B0 ?_
          | (refine wpList_storeBlk rfl rtP (.tmp 4) (.tmp 59) rfl rfl rfl B2 ?_
             intro w8 B8 k8))
        refine bodyPost_ret (results_cell2 rfl rtP rfl B8 rfl) rfl ?_
        rw [HF.out]
        have r7 := Rd.of_own own7
        have rb := Rd.of_own own5
        have hbody : (bb.set 2 (lo8 ((sm : Int) / 256))).set 3 (lo8 sm) = icmpBody m := by
          unfold icmpBody putSum
          rw [HS.out, HB.out]
        rw [hbody] at rb
        have k3 : Kp w.heap.size w7 (((w7.setCell ⟨w.heap.size, 5, none⟩ (.int .i64 1)).setCell ⟨w.heap.size, 14, none⟩ (.slice A7 no c7)).setCell ⟨w.heap.size, 15, none⟩ (.slice (some ⟨g, 0, none⟩) (8 + nm) c4)) :=
          ((Kp.refl _ _).set _ _).set _ _ |>.set _ _
        have hz8 : w7.heap.size ≤ w8.heap.size := by rw [k8.size, k3.size]; exact Nat.le_refl _
        exact ⟨A7, no, c7, some ⟨g, 0, none⟩, 8 + nm, c4, rfl, ⟨((r7.kp k3 (by omega)).kp k8 (by omega)).wide (by omega) hz8, ((rb.kp k3 (by omega)).kp k8 (by omega)).wide (by omega) hz8⟩,
          below_kp (below_kp hbw7 k3 (Nat.le_refl _)) k8 (by omega)⟩
    · have hfin : icmpPut p m = (1, Pkt.zero) := by unfold icmpPut; rw [if_pos (by simp [h2])]
      have HF := Lib.hid hfin
      rw [Bool.not_eq_true] at h2
      rw [h2]
      clear hfin h2
      go_wp2_with (refine wpList_storeBlk rfl rtP (.tmp 4) (.tmp 19) rfl rfl rfl B2 ?_
                   intro w3 B3 k3)
      refine bodyPost_ret (results_cell2 rfl rtP rfl B3 rfl) rfl ?_
      rw [HF.out]
      exact retP_zero 1 (below_kp hbw2 k3 (by omega))
  · have hfin : icmpPut p m = (1, Pkt.zero) := by unfold icmpPut; rw [if_pos (by simp [h1])]
    have HF := Lib.hid hfin
    rw [Bool.not_eq_true] at h1
    rw [h1]
    clear hfin h1
    go_wp2_with (refine wpList_storeBlk rfl rtP (.tmp 4) (.tmp 19) rfl rfl rfl B2 ?_
                 intro w3 B3 k3)
    refine bodyPost_ret (results_cell2 rfl rtP rfl B3 rfl) rfl ?_
    rw [HF.out]
    exact retP_zero 1 (below_kp hbw1 k3 (by omega))
end Go.Proofs.Ytoekncmggjhmjaa
