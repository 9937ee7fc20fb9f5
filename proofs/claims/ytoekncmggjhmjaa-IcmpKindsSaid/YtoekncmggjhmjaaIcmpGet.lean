/- The contracts of icmp.Get and of the reference's GetIcmp. -/
import Derived.Test.YtoekncmggjhmjaaIcmpA
namespace Go.Proofs.Ytoekncmggjhmjaa
open Go.RowKit

/-- a message that is handed back, and what went wrong -/
def RetM (w : World) (r : Int × Msg) (e : Ending) (w' : World) : Prop :=
  ∃ A n c, e = .returned (.tuple #[.agg (msgA r.2 A n c), .int .i64 r.1]) ∧ Rd w' w.heap.size w'.heap.size A n c r.2.body ∧ Below w.heap.size w w'

theorem retM_zero {w w' : World} (k : Int) (hb : Below w.heap.size w w') :
    RetM w (k, Msg.zero) (.returned (.tuple #[.agg #[.int .i64 0, .int .i64 0, .int .u32 0, .slice none 0 0], .int .i64 k])) w' :=
  ⟨none, 0, 0, rfl, Rd.nil _ _ _, hb⟩

set_option maxHeartbeats 2000000 in
theorem icmpGet_any (p : Pkt) (Ao : Option Addr) (no co : Nat) (Ab : Option Addr) (nb cb : Nat) (lo hi : Nat) (w : World) (h : PktAt w lo hi p Ao no co Ab nb cb) (hhi : hi ≤ w.heap.size) (hn : nb ≤ 1000000) :
    Calls Try.prog 26 #[.agg (pktA p Ao no co Ab nb cb)] w (RetM w (icmpGet p)) := by
  have hrb := h.body
  have hlb := Lib.hid hrb.len
  by_cases h1 : p.proto = 1
  · have b1 := bne_yes h1
    unfold pktA
    have H1 := Lib.hid h1
    clear h1
    go_enter Try.func26, Try.ntmps26
    go_wp2_with fail
    clear b1
    refine (whole_any p Ao no co Ab nb cb _).mono ?_
    rintro e w1 ⟨rfl, hb1⟩
    have B0 : Blk w1 w.heap.size _ _ := Blk.below ((Blk.new w _ _ rfl).alloc _) hb1 (by simp; omega)
    have B1 : Blk w1 (w.heap.size + 1) _ _ := Blk.below (Blk.new _ _ _ (by simp)) hb1 (by simp)
    have hbw : Below w.heap.size w w1 := (((Below.refl _ _).alloc (Nat.le_refl _) _).alloc (by simp) _).trans (hb1.mono (by simp; omega))
    have r1 : Rd w1 lo hi Ab nb cb p.body := (((hrb.alloc hhi _).alloc (by simp; omega) _).below hb1 (by simp; omega))
    have hz1 : w.heap.size + 1 < w1.heap.size := B1.lt
    clear hb1 hrb h
    obtain ⟨-, -, -, -, -, -, -, -, -, -, -, -, -, -, -, c15, -⟩ := B0.cells16
    obtain ⟨d0, d1, d2, d3, f1⟩ := B1.cells4
    by_cases h2 : whole p = true
    · by_cases h3 : p.body.length < 8
      · have hfin : icmpGet p = (3, Msg.zero) := by unfold icmpGet; rw [if_neg (by have := H1.out; omega), if_neg (by simp [h2]), if_pos h3]
        have HF := Lib.hid hfin
        have h3' : nb < 8 := by have := hlb.out; omega
        rw [h2]
        clear hfin h2 h3
        go_wp2_with fail
        refine bodyPost_ret (v := .tuple #[.agg #[.int .i64 0, .int .i64 0, .int .u32 0, .slice none 0 0], .int .i64 3]) (by simp [results, Try.results26, go_sem, d0, d1, d2, d3]) rfl ?_
        rw [HF.out]
        exact retM_zero 3 (by go_grown)
      · have h3' : 8 ≤ nb := by have := hlb.out; omega
        rw [h2]
        have H2 := Lib.hid h2
        have H3 := Lib.hid h3
        clear h2 h3
        go_wp2_with fail
        refine (fits_any Ab nb cb p.body lo hi w1 (by omega) r1).mono ?_
        rintro e w2 ⟨rfl, k2, rfl⟩
        by_cases h4 : ofL p.body = 0
        · have hfin : icmpGet p = (0, ⟨at8 p.body 0, at8 p.body 1, at32 p.body 4, p.body.drop 8⟩) := by
            unfold icmpGet; rw [if_neg (by have := H1.out; omega), if_neg (by simp [H2.out]), if_neg H3.out, if_neg (by simp [h4])]
          have HF := Lib.hid hfin
          have e4 : (ofL p.body == 0) = true := by simpa using h4
          rw [e4]
          clear hfin h4 e4
          go_wp2_with fail
          refine (read_any Ab nb cb p.body lo hi _ (r1.drewN k2) (by simp; omega) (by omega)).mono ?_
          rintro e w3 ⟨g, rfl, hg, rd3, hb3⟩
          have hlen8 : 8 ≤ p.body.length := by have := hlb.out; omega
          have hlenm : p.body.length ≤ 1000000 := by have := hlb.out; omega
          have hg' := hg.out
          simp only [World.heap_drewN] at hg' hb3 rd3
          replace B1 : Blk w3 (w.heap.size + 1) _ _ := (B1.drewN k2).below hb3 hz1
          have hbw3 : Below w.heap.size w w3 := (below_drewN hbw k2).trans (hb3.mono (by omega))
          clear d0 d1 d2 d3 f1 c15 B0 hb3 r1 hbw hg
          go_wp2_with fail
          refine (ru8_any g _ p.body w3 rd3 (by omega) (by omega)).mono ?_
          rintro e w4 ⟨v1, x1, rfl, hv1, rd4, ch4, V1⟩
          replace B1 : Blk w4 (w.heap.size + 1) _ _ := B1.grown ch4 (by simp; omega)
          have hg4 := rd4.lt
          have hbw4 : Below w.heap.size w w4 := hbw3.grown ch4 hbw3.size (by simp; omega)
          clear rd3 hbw3 ch4
          go_wp2_with fail
          have BM : Blk _ w4.heap.size _ _ := Blk.new w4 30 #[.int .i64 (v1 : Int), .int .i64 0, .int .u32 0, .slice none 0 0] rfl
          refine (ru8_any g _ x1 _ (rd4.alloc _) (by have := V1.out; omega) (by have := V1.out; omega)).mono ?_
          rintro e w5 ⟨v2, x2, rfl, hv2, rd5, ch5, V2⟩
          replace B1 : Blk w5 (w.heap.size + 1) _ _ := (B1.alloc _).grown ch5 (by simp; omega)
          replace BM := BM.grown ch5 (by simp; omega)
          have hbw5 : Below w.heap.size w w5 := (hbw4.alloc hbw4.size _).grown ch5 (by have := hbw4.size; simp; omega) (by simp; omega)
          have hM := BM.lt
          have hgM := hg4
          clear rd4 hbw4 ch5 hg4
          obtain ⟨m0, m1, m2, m3, mf⟩ := BM.cells4
          go_wp2_with fail
          clear m0 m1 m2 m3 mf
          replace BM := BM.set_ 1 (.int .i64 (v2 : Int))
          refine (ru16_any g _ x2 _ (rd5.setCell (by simp; omega) _) (by have := V1.out; have := V2.out; omega) (by have := V1.out; have := V2.out; omega)).mono ?_
          rintro e w6 ⟨v3, x3, rfl, hv3, rd6, ch6, V3⟩
          replace B1 : Blk w6 (w.heap.size + 1) _ _ := (B1.far (by simp; omega) _).grown ch6 (by simp; omega)
          replace BM := BM.grown ch6 (by simp; omega)
          have hbw6 : Below w.heap.size w w6 := (hbw5.setCell (by simp; omega) _).grown ch6 (by have := hbw5.size; simp; omega) (by simp; omega)
          have hs6 := BM.lt
          clear rd5 hbw5 ch6 hM
          go_wp2_with fail
          refine (ru32_any g _ x3 _ rd6 (by have := V1.out; have := V2.out; have := V3.out; omega) (by have := V1.out; have := V2.out; have := V3.out; omega)).mono ?_
          rintro e w7 ⟨v4, x4, rfl, hv4, rd7, ch7, V4⟩
          replace B1 : Blk w7 (w.heap.size + 1) _ _ := B1.grown ch7 (by simp; omega)
          replace BM := BM.grown ch7 (by simp; omega)
          have hbw7 : Below w.heap.size w w7 := hbw6.grown ch7 hbw6.size (by simp; omega)
          have hs7 := BM.lt
          clear rd6 hbw6 ch7 hs6
          simp only [List.setIfInBounds_toArray, List.set_cons_succ, List.set_cons_zero] at BM
          obtain ⟨m0, m1, m2, m3, mf⟩ := BM.cells4
          go_wp2_with fail
          clear m0 m1 m2 m3 mf
          replace BM := BM.set_ 2 (.int .u32 (v4 : Int))
          refine (left_any g _ _ _ (rd7.setCell (by simp; omega) _)).mono ?_
          rintro e w8 ⟨rfl, rfl⟩
          go_wp2_with fail
          refine (bytes_any _ g _ x4 _ (rd7.setCell (by simp; omega) _) (Nat.le_refl _) (by have := V1.out; have := V2.out; have := V3.out; have := V4.out; omega)).mono ?_
          rintro e w9 ⟨A9, c9, y9, z9, rfl, own9, rd9, ch9, V9⟩
          replace B1 : Blk w9 (w.heap.size + 1) _ _ := (B1.far (by simp; omega) _).grown ch9 (by simp; omega)
          replace BM := BM.grown ch9 (by simp; omega)
          have hbw9 : Below w.heap.size w w9 := (hbw7.setCell (by simp; omega) _).grown ch9 (by have := hbw7.size; simp; omega) (by simp; omega)
          have hs9 := BM.lt
          clear rd7 ch9 rd9
          simp only [List.setIfInBounds_toArray, List.set_cons_succ, List.set_cons_zero] at BM
          obtain ⟨m0, m1, m2, m3, mf⟩ := BM.cells4
          obtain ⟨d0, d1, d2, d3, f1⟩ := B1.cells4
          go_wp2_with fail
          refine bodyPost_ret (v := .tuple #[.agg #[.int .i64 (v1 : Int), .int .i64 (v2 : Int), .int .u32 (v4 : Int), .slice A9 x4.length c9], .int .i64 0]) (by simp [results, Try.results26, go_sem, d0, d1, d2, d3]) rfl ?_
          have hlo := own9.lt
          have r9 := Rd.of_own own9
          simp only [World.size_setCell] at r9
          clear own9 d0 d1 d2 d3 f1 m0 m1 m2 m3 mf
          have V1 := V1.out
          have V2 := V2.out
          have V3 := V3.out
          have V4 := V4.out
          have V9 := V9.out
          rw [V4.2.1, V3.2.1, V2.2.1, V1.2.1] at V9
          rw [V3.2.1, V2.2.1, V1.2.1] at V4
          rw [V1.2.1] at V2
          simp only [List.drop_drop, List.take_length] at V9 V4
          rw [HF.out]
          refine ⟨A9, x4.length, c9, ?_, ?_, by go_grown⟩
          · rw [V1.1, V2.1, V4.1]
            rfl
          · have hy : y9 = p.body.drop 8 := by
              rw [V9.1]
            rw [hy] at r9
            refine Rd.wide (lo := w7.heap.size) (hi := w9.heap.size) ?_ (by have := hbw7.size; omega) (by simp)
            repeat (refine Rd.setCell ?_ (by simp; omega) _)
            exact r9
        · have hfin : icmpGet p = (5, Msg.zero) := by unfold icmpGet; rw [if_neg (by have := H1.out; omega), if_neg (by simp [H2.out]), if_neg H3.out, if_pos h4]
          have HF := Lib.hid hfin
          have e4 : (ofL p.body == 0) = false := by simpa using h4
          rw [e4]
          clear hfin h4 e4
          go_wp2_with fail
          refine bodyPost_ret (v := .tuple #[.agg #[.int .i64 0, .int .i64 0, .int .u32 0, .slice none 0 0], .int .i64 5]) (by simp [results, Try.results26, go_sem, d0, d1, d2, d3]) rfl ?_
          rw [HF.out]
          have hbk := below_drewN hbw k2
          exact retM_zero 5 (by go_grown)
    · have hfin : icmpGet p = (10, Msg.zero) := by unfold icmpGet; rw [if_neg (by have := H1.out; omega), if_pos (by simpa using h2)]
      have HF := Lib.hid hfin
      rw [Bool.not_eq_true] at h2
      rw [h2]
      clear hfin h2
      go_wp2_with fail
      refine bodyPost_ret (v := .tuple #[.agg #[.int .i64 0, .int .i64 0, .int .u32 0, .slice none 0 0], .int .i64 10]) (by simp [results, Try.results26, go_sem, d0, d1, d2, d3]) rfl ?_
      rw [HF.out]
      exact retM_zero 10 (by go_grown)
  · have hfin : icmpGet p = (1, Msg.zero) := by unfold icmpGet; rw [if_pos h1]
    have HF := Lib.hid hfin
    have b1 := bne_no h1
    clear hfin h1 hrb
    unfold pktA
    go_enter Try.func26, Try.ntmps26
    go_wp2_with fail
    go_returns
    rw [HF.out]
    exact retM_zero 1 (by go_grown)
end Go.Proofs.Ytoekncmggjhmjaa
