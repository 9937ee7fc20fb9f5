/- The law TopShort, walked: whatever is given, it answers true. -/
import Derived.Test.YtfofhpkafhpicaaGreatDoorMsh
import Derived.Test.YtfofhpkafhpicaaGreatDoorMsq
import Derived.Test.YtfofhpkafhpicaaGreatDoorMsr
import Derived.Test.YtfofhpkafhpicaaGreatDoorMss
namespace Go.Proofs.YtfofhpkafhpicaaGreatDoor.topShort
open Go.RowKit
set_option linter.unusedSimpArgs false
set_option linter.unusedVariables false

theorem by8 {a b c d e f g h : Int} (x : (0 ≤ a ∧ a < 256) ∧ (0 ≤ b ∧ b < 256) ∧ (0 ≤ c ∧ c < 256) ∧ (0 ≤ d ∧ d < 256) ∧ (0 ≤ e ∧ e < 256) ∧ (0 ≤ f ∧ f < 256) ∧ (0 ≤ g ∧ g < 256) ∧ (0 ≤ h ∧ h < 256)) : byteP [a, b, c, d, e, f, g, h] := by
  intro z hz
  simp only [List.mem_cons, List.not_mem_nil, or_false] at hz
  rcases hz with rfl | rfl | rfl | rfl | rfl | rfl | rfl | rfl <;> omega
theorem portE_ge (p : Int) : 40000 ≤ portE p := by unfold portE; split <;> omega
theorem portE_le (p : Int) (h : p ≤ 65535) : portE p ≤ 65535 := by unfold portE; split <;> omega
theorem vbf {b : Bool} (h : b = false) : AV.val (Value.bool b) = vb false := by rw [h]
theorem vbt {b : Bool} (h : b = true) : AV.val (Value.bool b) = vb true := by rw [h]
theorem t12 (a b c d e f g h p q : Int) : List.take 12 (udpP a b c d e f g h p q dta) = udpP a b c d e f g h p q dta := List.take_of_length_le (by rw [udpP_len]; exact Nat.le_refl 12)
theorem l12 (a b c d e f g h p q : Int) : List.length (udpP a b c d e f g h p q dta) = 12 := by rw [udpP_len]; rfl
theorem l32 (t x a b c d e f g h : Int) (l : List UInt8) (hl : l.length = 12) : List.length (ipP t x a b c d e f g h l) = 32 := by rw [ipP_len, hl]
theorem t32 (t x a b c d e f g h : Int) (l : List UInt8) (hl : l.length = 12) : List.take 32 (ipP t x a b c d e f g h l) = ipP t x a b c d e f g h l := List.take_of_length_le (by rw [ipP_len, hl]; exact Nat.le_refl 32)
theorem pq {p q : Int} (h : p ≤ q) : p ≤ q := h

set_option maxRecDepth 100000 in
theorem u0ax0_is (port w : Int) (dr : Int) (m : Nat) (e0 e1 e2 e3 e4 e5 e6 e7 e8 e9 : Int) (h1 : 1 ≤ port) (h2 : port ≤ 65535)  : (u0ax0 port w (portE port) w (w + 1) dr m e0 e1 e2 e3 e4 e5 e6 e7 e8 e9).ok Tryz.prog := by
  have f1 := portE_ge port
  have f2 := portE_le port h2
  have s := u0ax0_run port w (portE port) w (w + 1) dr m e0 e1 e2 e3 e4 e5 e6 e7 e8 e9
  refine outS_ok (kTP_ok _ _ _) s ?_
  clear s
  generalize ha : portE port = o1 at *
  repeat' (first | exact allNil | refine allCons ?_ ?_ | (with_reducible refine allRp _ ?_ ?_))
  all_goals first
    | exact rfl
    | exact trivial
    | (with_reducible assumption)
    | exact decide_eq_false (by omega)
    | exact decide_eq_true (by omega)
    | exact beqF (by omega)
    | exact vbt (beq_t rfl)
    | exact by8 (by omega)
    | (rw [decide_eq_true h2]; rfl)
    | (with_reducible omega)
    | (simp only [t12, l12, t32, l32, List.length_cons]; done)
    | (simp [t12, l12, t32, l32]; done)
set_option maxRecDepth 100000 in
theorem u0ax1_is (port w : Int) (dr : Int) (m : Nat) (e0 e1 e2 e3 e4 e5 e6 e7 e8 e9 : Int) (h1 : 1 ≤ port) (h2 : port ≤ 65535) (hw : 1 ≤ w) (hv : w < 120)  : (u0ax1 port w (portE port) w (w + 1) dr m e0 e1 e2 e3 e4 e5 e6 e7 e8 e9).ok Tryz.prog := by
  have f1 := portE_ge port
  have f2 := portE_le port h2
  have n1 : IntKind.wrap IntKind.i64 (w + 1 + 120) = w + 1 + 120 := w64 _ (by omega)
  have n2 : IntKind.wrap IntKind.i64 (w + 1 - 1) = w + 1 - 1 := w64 _ (by omega)
  have s := u0ax1_run port w (portE port) w (w + 1) dr m e0 e1 e2 e3 e4 e5 e6 e7 e8 e9
  refine outS_ok (kTP_ok _ _ _) s ?_
  clear s
  generalize ha : portE port = o1 at *
  repeat' (first | exact allNil | refine allCons ?_ ?_ | (with_reducible refine allRp _ ?_ ?_))
  all_goals first
    | exact rfl
    | exact trivial
    | (with_reducible assumption)
    | exact decide_eq_false (by omega)
    | exact decide_eq_true (by omega)
    | exact beqF (by omega)
    | exact vbt (beq_t rfl)
    | exact by8 (by omega)
    | (rw [decide_eq_true h2]; rfl)
    | (with_reducible omega)
    | (simp only [n1, n2]; first | exact rfl | exact decide_eq_false (by omega) | exact decide_eq_true (by omega))
    | (simp only [t12, l12, t32, l32, List.length_cons]; done)
    | (simp [t12, l12, t32, l32]; done)
    | (simp [n1, n2]; omega)
set_option maxRecDepth 100000 in
theorem u0zx1_is (port : Int) (h1 : 1 ≤ port) (h2 : port ≤ 65535) : (u0zx1 port (portE port)).ok Tryz.prog := by
  have f1 := portE_ge port
  have f2 := portE_le port h2
  have s := u0zx1_run port (portE port)
  refine outS_ok (kTP_ok _ _ _) s ?_
  clear s
  generalize ha : portE port = o1 at *
  repeat' (first | exact allNil | refine allCons ?_ ?_ | (with_reducible refine allRp _ ?_ ?_))
  all_goals first
    | exact rfl
    | exact trivial
    | (with_reducible assumption)
    | exact decide_eq_false (by omega)
    | exact decide_eq_true (by omega)
    | exact beqF (by omega)
    | exact vbt (beq_t rfl)
    | exact by8 (by omega)
    | (rw [decide_eq_true h2]; rfl)
    | (with_reducible omega)
    | (simp only [t12, l12, t32, l32, List.length_cons]; done)
    | (simp [t12, l12, t32, l32]; done)
set_option maxRecDepth 100000 in
theorem u0dx1_is (port w : Int) (dr : Int) (m : Nat) (e0 e1 e2 e3 e4 e5 e6 e7 e8 e9 : Int) (h1 : 1 ≤ port) (h2 : port ≤ 65535) (hw : 120 ≤ w) (hv : w ≤ 200)  : (u0dx1 port w (portE port) w (w + 1) dr m e0 e1 e2 e3 e4 e5 e6 e7 e8 e9).ok Tryz.prog := by
  have f1 := portE_ge port
  have f2 := portE_le port h2
  have n1 : IntKind.wrap IntKind.i64 (w + 1 + 120) = w + 1 + 120 := w64 _ (by omega)
  have n2 : IntKind.wrap IntKind.i64 (w + 1 - 1) = w + 1 - 1 := w64 _ (by omega)
  have s := u0dx1_run port w (portE port) w (w + 1) dr m e0 e1 e2 e3 e4 e5 e6 e7 e8 e9
  refine outS_ok (kTP_ok _ _ _) s ?_
  clear s
  generalize ha : portE port = o1 at *
  repeat' (first | exact allNil | refine allCons ?_ ?_ | (with_reducible refine allRp _ ?_ ?_))
  all_goals first
    | exact rfl
    | exact trivial
    | (with_reducible assumption)
    | exact decide_eq_false (by omega)
    | exact decide_eq_true (by omega)
    | exact beqF (by omega)
    | exact vbt (beq_t rfl)
    | exact by8 (by omega)
    | (rw [decide_eq_true h2]; rfl)
    | (with_reducible omega)
    | (simp only [n1, n2]; first | exact rfl | exact decide_eq_false (by omega) | exact decide_eq_true (by omega))
    | (simp only [t12, l12, t32, l32, List.length_cons]; done)
    | (simp [t12, l12, t32, l32]; done)
    | (simp [n1, n2]; omega)
set_option maxRecDepth 100000 in
theorem u1ax0_is (port w : Int) (dr : Int) (m : Nat) (e0 e1 e2 e3 e4 e5 e6 e7 e8 e9 : Int) (h1 : 1 ≤ port) (h2 : port ≤ 65535)  : (u1ax0 port w (portE port) w (w + 1) dr m e0 e1 e2 e3 e4 e5 e6 e7 e8 e9).ok Tryz.prog := by
  have f1 := portE_ge port
  have f2 := portE_le port h2
  have s := u1ax0_run port w (portE port) w (w + 1) dr m e0 e1 e2 e3 e4 e5 e6 e7 e8 e9
  refine outS_ok (kTP_ok _ _ _) s ?_
  clear s
  generalize ha : portE port = o1 at *
  repeat' (first | exact allNil | refine allCons ?_ ?_ | (with_reducible refine allRp _ ?_ ?_))
  all_goals first
    | exact rfl
    | exact trivial
    | (with_reducible assumption)
    | exact decide_eq_false (by omega)
    | exact decide_eq_true (by omega)
    | exact beqF (by omega)
    | exact vbt (beq_t rfl)
    | exact by8 (by omega)
    | (rw [decide_eq_true h2]; rfl)
    | (with_reducible omega)
    | (simp only [t12, l12, t32, l32, List.length_cons]; done)
    | (simp [t12, l12, t32, l32]; done)
set_option maxRecDepth 100000 in
theorem u1ax1_is (port w : Int) (dr : Int) (m : Nat) (e0 e1 e2 e3 e4 e5 e6 e7 e8 e9 : Int) (h1 : 1 ≤ port) (h2 : port ≤ 65535) (hw : 1 ≤ w) (hv : w < 120)  : (u1ax1 port w (portE port) w (w + 1) dr m e0 e1 e2 e3 e4 e5 e6 e7 e8 e9).ok Tryz.prog := by
  have f1 := portE_ge port
  have f2 := portE_le port h2
  have n1 : IntKind.wrap IntKind.i64 (w + 1 + 120) = w + 1 + 120 := w64 _ (by omega)
  have n2 : IntKind.wrap IntKind.i64 (w + 1 - 1) = w + 1 - 1 := w64 _ (by omega)
  have s := u1ax1_run port w (portE port) w (w + 1) dr m e0 e1 e2 e3 e4 e5 e6 e7 e8 e9
  refine outS_ok (kTP_ok _ _ _) s ?_
  clear s
  generalize ha : portE port = o1 at *
  repeat' (first | exact allNil | refine allCons ?_ ?_ | (with_reducible refine allRp _ ?_ ?_))
  all_goals first
    | exact rfl
    | exact trivial
    | (with_reducible assumption)
    | exact decide_eq_false (by omega)
    | exact decide_eq_true (by omega)
    | exact beqF (by omega)
    | exact vbt (beq_t rfl)
    | exact by8 (by omega)
    | (rw [decide_eq_true h2]; rfl)
    | (with_reducible omega)
    | (simp only [n1, n2]; first | exact rfl | exact decide_eq_false (by omega) | exact decide_eq_true (by omega))
    | (simp only [t12, l12, t32, l32, List.length_cons]; done)
    | (simp [t12, l12, t32, l32]; done)
    | (simp [n1, n2]; omega)
set_option maxRecDepth 100000 in
theorem u1zx1_is (port : Int) (h1 : 1 ≤ port) (h2 : port ≤ 65535) : (u1zx1 port (portE port)).ok Tryz.prog := by
  have f1 := portE_ge port
  have f2 := portE_le port h2
  have s := u1zx1_run port (portE port)
  refine outS_ok (kTP_ok _ _ _) s ?_
  clear s
  generalize ha : portE port = o1 at *
  repeat' (first | exact allNil | refine allCons ?_ ?_ | (with_reducible refine allRp _ ?_ ?_))
  all_goals first
    | exact rfl
    | exact trivial
    | (with_reducible assumption)
    | exact decide_eq_false (by omega)
    | exact decide_eq_true (by omega)
    | exact beqF (by omega)
    | exact vbt (beq_t rfl)
    | exact by8 (by omega)
    | (rw [decide_eq_true h2]; rfl)
    | (with_reducible omega)
    | (simp only [t12, l12, t32, l32, List.length_cons]; done)
    | (simp [t12, l12, t32, l32]; done)
set_option maxRecDepth 100000 in
theorem u2ax0_is (port w : Int) (dr : Int) (m : Nat) (e0 e1 e2 e3 e4 e5 e6 e7 e8 e9 : Int) (h1 : 1 ≤ port) (h2 : port ≤ 65535)  : (u2ax0 port w (portE port) w (w + 1) dr m e0 e1 e2 e3 e4 e5 e6 e7 e8 e9).ok Tryz.prog := by
  have f1 := portE_ge port
  have f2 := portE_le port h2
  have s := u2ax0_run port w (portE port) w (w + 1) dr m e0 e1 e2 e3 e4 e5 e6 e7 e8 e9
  refine outS_ok (kTP_ok _ _ _) s ?_
  clear s
  generalize ha : portE port = o1 at *
  repeat' (first | exact allNil | refine allCons ?_ ?_ | (with_reducible refine allRp _ ?_ ?_))
  all_goals first
    | exact rfl
    | exact trivial
    | (with_reducible assumption)
    | exact decide_eq_false (by omega)
    | exact decide_eq_true (by omega)
    | exact beqF (by omega)
    | exact vbt (beq_t rfl)
    | exact by8 (by omega)
    | (rw [decide_eq_true h2]; rfl)
    | (with_reducible omega)
    | (simp only [t12, l12, t32, l32, List.length_cons]; done)
    | (simp [t12, l12, t32, l32]; done)
set_option maxRecDepth 100000 in
theorem u2ax1_is (port w : Int) (dr : Int) (m : Nat) (e0 e1 e2 e3 e4 e5 e6 e7 e8 e9 : Int) (h1 : 1 ≤ port) (h2 : port ≤ 65535) (hw : 1 ≤ w) (hv : w < 120)  : (u2ax1 port w (portE port) w (w + 1) dr m e0 e1 e2 e3 e4 e5 e6 e7 e8 e9).ok Tryz.prog := by
  have f1 := portE_ge port
  have f2 := portE_le port h2
  have n1 : IntKind.wrap IntKind.i64 (w + 1 + 120) = w + 1 + 120 := w64 _ (by omega)
  have n2 : IntKind.wrap IntKind.i64 (w + 1 - 1) = w + 1 - 1 := w64 _ (by omega)
  have s := u2ax1_run port w (portE port) w (w + 1) dr m e0 e1 e2 e3 e4 e5 e6 e7 e8 e9
  refine outS_ok (kTP_ok _ _ _) s ?_
  clear s
  generalize ha : portE port = o1 at *
  repeat' (first | exact allNil | refine allCons ?_ ?_ | (with_reducible refine allRp _ ?_ ?_))
  all_goals first
    | exact rfl
    | exact trivial
    | (with_reducible assumption)
    | exact decide_eq_false (by omega)
    | exact decide_eq_true (by omega)
    | exact beqF (by omega)
    | exact vbt (beq_t rfl)
    | exact by8 (by omega)
    | (rw [decide_eq_true h2]; rfl)
    | (with_reducible omega)
    | (simp only [n1, n2]; first | exact rfl | exact decide_eq_false (by omega) | exact decide_eq_true (by omega))
    | (simp only [t12, l12, t32, l32, List.length_cons]; done)
    | (simp [t12, l12, t32, l32]; done)
    | (simp [n1, n2]; omega)
set_option maxRecDepth 100000 in
theorem u2zx1_is (port : Int) (h1 : 1 ≤ port) (h2 : port ≤ 65535) : (u2zx1 port (portE port)).ok Tryz.prog := by
  have f1 := portE_ge port
  have f2 := portE_le port h2
  have s := u2zx1_run port (portE port)
  refine outS_ok (kTP_ok _ _ _) s ?_
  clear s
  generalize ha : portE port = o1 at *
  repeat' (first | exact allNil | refine allCons ?_ ?_ | (with_reducible refine allRp _ ?_ ?_))
  all_goals first
    | exact rfl
    | exact trivial
    | (with_reducible assumption)
    | exact decide_eq_false (by omega)
    | exact decide_eq_true (by omega)
    | exact beqF (by omega)
    | exact vbt (beq_t rfl)
    | exact by8 (by omega)
    | (rw [decide_eq_true h2]; rfl)
    | (with_reducible omega)
    | (simp only [t12, l12, t32, l32, List.length_cons]; done)
    | (simp [t12, l12, t32, l32]; done)
set_option maxRecDepth 100000 in
theorem sh_top0a_walk (port w : Int) (h1 : 1 ≤ port) (h2 : port ≤ 65535) (hw : 1 ≤ w) (hv : w < 120) : ∃ L' nx', ACall Tryz.prog 5 [.val (.int .i64 0), .val (.int .i64 port), .val (.int .i64 w)] [] 0 (.val (.bool true)) L' nx' := by
  obtain ⟨dr, m, e0, e1, e2, e3, e4, e5, e6, e7, e8, e9, hL⟩ := loopA 100 port (portE port) w (by omega) (by omega)
  have c : ∀ c ∈ [u0ax0 port w (portE port) w (w + 1) dr m e0 e1 e2 e3 e4 e5 e6 e7 e8 e9, u0ax1 port w (portE port) w (w + 1) dr m e0 e1 e2 e3 e4 e5 e6 e7 e8 e9], c.ok Tryz.prog := by
    intro c hc
    simp only [List.mem_cons, List.not_mem_nil, or_false] at hc
    rcases hc with rfl | rfl
    all_goals first | exact u0ax0_is port w dr m e0 e1 e2 e3 e4 e5 e6 e7 e8 e9 h1 h2 | exact u0ax1_is port w dr m e0 e1 e2 e3 e4 e5 e6 e7 e8 e9 h1 h2 hw hv
  have f1 := portE_ge port
  have f2 := portE_le port h2
  have s := sh_top0a port w (portE port) w (w + 1) dr m e0 e1 e2 e3 e4 e5 e6 e7 e8 e9
  have e : (true == decide (w < (120 : Int))) = true := by simp; omega
  have g := outXS_ok (orInl_ok (kBo_ok c) (kTS_ok _ _)) s ?_
  · rw [e] at g
    exact ⟨_, _, g⟩
  clear s c e
  generalize ha : portE port = o1 at *
  repeat' (first | exact allNil | refine allCons ?_ ?_ | (with_reducible refine allRp _ ?_ ?_))
  all_goals first
    | exact rfl
    | exact trivial
    | (with_reducible assumption)
    | exact decide_eq_false (by omega)
    | exact decide_eq_true (by omega)
    | exact beqF (by omega)
    | exact vbt (beq_t rfl)
    | exact by8 (by omega)
    | (rw [decide_eq_true h2]; rfl)
    | (with_reducible omega)
    | exact hL
    | (simp only [t12, l12, t32, l32, List.length_cons]; done)
    | (simp [t12, l12, t32, l32]; done)
set_option maxRecDepth 100000 in
theorem sh_top0z_walk (port : Int) (h1 : 1 ≤ port) (h2 : port ≤ 65535) : ∃ L' nx', ACall Tryz.prog 5 [.val (.int .i64 0), .val (.int .i64 port), .val (.int .i64 0)] [] 0 (.val (.bool true)) L' nx' := by
  have hL := lastA 100 port (portE port) 0 1 5 10 1 2 4 8 16 32 64 128 256 512
  have c : ∀ c ∈ [u0ax0 port 0 (portE port) 0 (0 + 1) 0 0 0 0 0 0 0 0 0 0 0 0, u0zx1 port (portE port)], c.ok Tryz.prog := by
    intro c hc
    simp only [List.mem_cons, List.not_mem_nil, or_false] at hc
    rcases hc with rfl | rfl
    all_goals first | exact u0ax0_is port 0 0 0 0 0 0 0 0 0 0 0 0 0 h1 h2 | exact u0zx1_is port h1 h2
  have f1 := portE_ge port
  have f2 := portE_le port h2
  have s := sh_top0z port (portE port)
  refine ⟨_, _, outXS_ok (orInl_ok (kBo_ok c) (kTS_ok _ _)) s ?_⟩
  clear s c
  generalize ha : portE port = o1 at *
  repeat' (first | exact allNil | refine allCons ?_ ?_ | (with_reducible refine allRp _ ?_ ?_))
  all_goals first
    | exact rfl
    | exact trivial
    | (with_reducible assumption)
    | exact decide_eq_false (by omega)
    | exact decide_eq_true (by omega)
    | exact beqF (by omega)
    | exact vbt (beq_t rfl)
    | exact by8 (by omega)
    | (rw [decide_eq_true h2]; rfl)
    | (with_reducible omega)
    | exact hL
    | (simp only [t12, l12, t32, l32, List.length_cons]; done)
    | (simp [t12, l12, t32, l32]; done)
set_option maxRecDepth 100000 in
theorem sh_top0d_walk (port w : Int) (h1 : 1 ≤ port) (h2 : port ≤ 65535) (hw : 120 ≤ w) (hv : w ≤ 200) : ∃ L' nx', ACall Tryz.prog 5 [.val (.int .i64 0), .val (.int .i64 port), .val (.int .i64 w)] [] 0 (.val (.bool true)) L' nx' := by
  obtain ⟨dr, m, e0, e1, e2, e3, e4, e5, e6, e7, e8, e9, hL⟩ := loopD 100 port (portE port) w (by omega) (by omega)
  have c : ∀ c ∈ [u0ax0 port w (portE port) w (w + 1) dr m e0 e1 e2 e3 e4 e5 e6 e7 e8 e9, u0dx1 port w (portE port) w (w + 1) dr m e0 e1 e2 e3 e4 e5 e6 e7 e8 e9], c.ok Tryz.prog := by
    intro c hc
    simp only [List.mem_cons, List.not_mem_nil, or_false] at hc
    rcases hc with rfl | rfl
    all_goals first | exact u0ax0_is port w dr m e0 e1 e2 e3 e4 e5 e6 e7 e8 e9 h1 h2 | exact u0dx1_is port w dr m e0 e1 e2 e3 e4 e5 e6 e7 e8 e9 h1 h2 hw hv
  have f1 := portE_ge port
  have f2 := portE_le port h2
  have s := sh_top0d port w (portE port) w (w + 1) dr m e0 e1 e2 e3 e4 e5 e6 e7 e8 e9
  have e : (false == decide (w < (120 : Int))) = true := by simp; omega
  have g := outXS_ok (orInl_ok (kBo_ok c) (kTS_ok _ _)) s ?_
  · rw [e] at g
    exact ⟨_, _, g⟩
  clear s c e
  generalize ha : portE port = o1 at *
  repeat' (first | exact allNil | refine allCons ?_ ?_ | (with_reducible refine allRp _ ?_ ?_))
  all_goals first
    | exact rfl
    | exact trivial
    | (with_reducible assumption)
    | exact decide_eq_false (by omega)
    | exact decide_eq_true (by omega)
    | exact beqF (by omega)
    | exact vbt (beq_t rfl)
    | exact by8 (by omega)
    | (rw [decide_eq_true h2]; rfl)
    | (with_reducible omega)
    | exact hL
    | (simp only [t12, l12, t32, l32, List.length_cons]; done)
    | (simp [t12, l12, t32, l32]; done)
set_option maxRecDepth 100000 in
theorem sh_top1a_walk (port w : Int) (h1 : 1 ≤ port) (h2 : port ≤ 65535) (hw : 1 ≤ w) (hv : w < 120) : ∃ L' nx', ACall Tryz.prog 5 [.val (.int .i64 1), .val (.int .i64 port), .val (.int .i64 w)] [] 0 (.val (.bool true)) L' nx' := by
  obtain ⟨dr, m, e0, e1, e2, e3, e4, e5, e6, e7, e8, e9, hL⟩ := loopA 101 port (portE port) w (by omega) (by omega)
  have c : ∀ c ∈ [u1ax0 port w (portE port) w (w + 1) dr m e0 e1 e2 e3 e4 e5 e6 e7 e8 e9, u1ax1 port w (portE port) w (w + 1) dr m e0 e1 e2 e3 e4 e5 e6 e7 e8 e9], c.ok Tryz.prog := by
    intro c hc
    simp only [List.mem_cons, List.not_mem_nil, or_false] at hc
    rcases hc with rfl | rfl
    all_goals first | exact u1ax0_is port w dr m e0 e1 e2 e3 e4 e5 e6 e7 e8 e9 h1 h2 | exact u1ax1_is port w dr m e0 e1 e2 e3 e4 e5 e6 e7 e8 e9 h1 h2 hw hv
  have f1 := portE_ge port
  have f2 := portE_le port h2
  have s := sh_top1a port w (portE port) w (w + 1) dr m e0 e1 e2 e3 e4 e5 e6 e7 e8 e9
  have e : (true == decide (w < (120 : Int))) = true := by simp; omega
  have g := outXS_ok (orInl_ok (kBo_ok c) (kTS_ok _ _)) s ?_
  · rw [e] at g
    exact ⟨_, _, g⟩
  clear s c e
  generalize ha : portE port = o1 at *
  repeat' (first | exact allNil | refine allCons ?_ ?_ | (with_reducible refine allRp _ ?_ ?_))
  all_goals first
    | exact rfl
    | exact trivial
    | (with_reducible assumption)
    | exact decide_eq_false (by omega)
    | exact decide_eq_true (by omega)
    | exact beqF (by omega)
    | exact vbt (beq_t rfl)
    | exact by8 (by omega)
    | (rw [decide_eq_true h2]; rfl)
    | (with_reducible omega)
    | exact hL
    | (simp only [t12, l12, t32, l32, List.length_cons]; done)
    | (simp [t12, l12, t32, l32]; done)
set_option maxRecDepth 100000 in
theorem sh_top1z_walk (port : Int) (h1 : 1 ≤ port) (h2 : port ≤ 65535) : ∃ L' nx', ACall Tryz.prog 5 [.val (.int .i64 1), .val (.int .i64 port), .val (.int .i64 0)] [] 0 (.val (.bool true)) L' nx' := by
  have hL := lastA 101 port (portE port) 0 1 5 10 1 2 4 8 16 32 64 128 256 512
  have c : ∀ c ∈ [u1ax0 port 0 (portE port) 0 (0 + 1) 0 0 0 0 0 0 0 0 0 0 0 0, u1zx1 port (portE port)], c.ok Tryz.prog := by
    intro c hc
    simp only [List.mem_cons, List.not_mem_nil, or_false] at hc
    rcases hc with rfl | rfl
    all_goals first | exact u1ax0_is port 0 0 0 0 0 0 0 0 0 0 0 0 0 h1 h2 | exact u1zx1_is port h1 h2
  have f1 := portE_ge port
  have f2 := portE_le port h2
  have s := sh_top1z port (portE port)
  refine ⟨_, _, outXS_ok (orInl_ok (kBo_ok c) (kTS_ok _ _)) s ?_⟩
  clear s c
  generalize ha : portE port = o1 at *
  repeat' (first | exact allNil | refine allCons ?_ ?_ | (with_reducible refine allRp _ ?_ ?_))
  all_goals first
    | exact rfl
    | exact trivial
    | (with_reducible assumption)
    | exact decide_eq_false (by omega)
    | exact decide_eq_true (by omega)
    | exact beqF (by omega)
    | exact vbt (beq_t rfl)
    | exact by8 (by omega)
    | (rw [decide_eq_true h2]; rfl)
    | (with_reducible omega)
    | exact hL
    | (simp only [t12, l12, t32, l32, List.length_cons]; done)
    | (simp [t12, l12, t32, l32]; done)
set_option maxRecDepth 100000 in
theorem sh_top1d_walk (port w : Int) (h1 : 1 ≤ port) (h2 : port ≤ 65535) (hw : 120 ≤ w) (hv : w ≤ 200) : ∃ L' nx', ACall Tryz.prog 5 [.val (.int .i64 1), .val (.int .i64 port), .val (.int .i64 w)] [] 0 (.val (.bool true)) L' nx' := by
  obtain ⟨dr, m, e0, e1, e2, e3, e4, e5, e6, e7, e8, e9, hL⟩ := loopD 101 port (portE port) w (by omega) (by omega)
  have c : ∀ c ∈ [u1ax0 port w (portE port) w (w + 1) dr m e0 e1 e2 e3 e4 e5 e6 e7 e8 e9, u0dx1 port w (portE port) w (w + 1) dr m e0 e1 e2 e3 e4 e5 e6 e7 e8 e9], c.ok Tryz.prog := by
    intro c hc
    simp only [List.mem_cons, List.not_mem_nil, or_false] at hc
    rcases hc with rfl | rfl
    all_goals first | exact u1ax0_is port w dr m e0 e1 e2 e3 e4 e5 e6 e7 e8 e9 h1 h2 | exact u0dx1_is port w dr m e0 e1 e2 e3 e4 e5 e6 e7 e8 e9 h1 h2 hw hv
  have f1 := portE_ge port
  have f2 := portE_le port h2
  have s := sh_top1d port w (portE port) w (w + 1) dr m e0 e1 e2 e3 e4 e5 e6 e7 e8 e9
  have e : (false == decide (w < (120 : Int))) = true := by simp; omega
  have g := outXS_ok (orInl_ok (kBo_ok c) (kTS_ok _ _)) s ?_
  · rw [e] at g
    exact ⟨_, _, g⟩
  clear s c e
  generalize ha : portE port = o1 at *
  repeat' (first | exact allNil | refine allCons ?_ ?_ | (with_reducible refine allRp _ ?_ ?_))
  all_goals first
    | exact rfl
    | exact trivial
    | (with_reducible assumption)
    | exact decide_eq_false (by omega)
    | exact decide_eq_true (by omega)
    | exact beqF (by omega)
    | exact vbt (beq_t rfl)
    | exact by8 (by omega)
    | (rw [decide_eq_true h2]; rfl)
    | (with_reducible omega)
    | exact hL
    | (simp only [t12, l12, t32, l32, List.length_cons]; done)
    | (simp [t12, l12, t32, l32]; done)
set_option maxRecDepth 100000 in
theorem sh_top2a_walk (port w : Int) (h1 : 1 ≤ port) (h2 : port ≤ 65535) (hw : 1 ≤ w) (hv : w < 120) : ∃ L' nx', ACall Tryz.prog 5 [.val (.int .i64 2), .val (.int .i64 port), .val (.int .i64 w)] [] 0 (.val (.bool true)) L' nx' := by
  obtain ⟨dr, m, e0, e1, e2, e3, e4, e5, e6, e7, e8, e9, hL⟩ := loopA 102 port (portE port) w (by omega) (by omega)
  have c : ∀ c ∈ [u2ax0 port w (portE port) w (w + 1) dr m e0 e1 e2 e3 e4 e5 e6 e7 e8 e9, u2ax1 port w (portE port) w (w + 1) dr m e0 e1 e2 e3 e4 e5 e6 e7 e8 e9], c.ok Tryz.prog := by
    intro c hc
    simp only [List.mem_cons, List.not_mem_nil, or_false] at hc
    rcases hc with rfl | rfl
    all_goals first | exact u2ax0_is port w dr m e0 e1 e2 e3 e4 e5 e6 e7 e8 e9 h1 h2 | exact u2ax1_is port w dr m e0 e1 e2 e3 e4 e5 e6 e7 e8 e9 h1 h2 hw hv
  have f1 := portE_ge port
  have f2 := portE_le port h2
  have s := sh_top2a port w (portE port) w (w + 1) dr m e0 e1 e2 e3 e4 e5 e6 e7 e8 e9
  have e : (true == decide (w < (120 : Int))) = true := by simp; omega
  have g := outXS_ok (orInl_ok (kBo_ok c) (kTS_ok _ _)) s ?_
  · rw [e] at g
    exact ⟨_, _, g⟩
  clear s c e
  generalize ha : portE port = o1 at *
  repeat' (first | exact allNil | refine allCons ?_ ?_ | (with_reducible refine allRp _ ?_ ?_))
  all_goals first
    | exact rfl
    | exact trivial
    | (with_reducible assumption)
    | exact decide_eq_false (by omega)
    | exact decide_eq_true (by omega)
    | exact beqF (by omega)
    | exact vbt (beq_t rfl)
    | exact by8 (by omega)
    | (rw [decide_eq_true h2]; rfl)
    | (with_reducible omega)
    | exact hL
    | (simp only [t12, l12, t32, l32, List.length_cons]; done)
    | (simp [t12, l12, t32, l32]; done)
set_option maxRecDepth 100000 in
theorem sh_top2z_walk (port : Int) (h1 : 1 ≤ port) (h2 : port ≤ 65535) : ∃ L' nx', ACall Tryz.prog 5 [.val (.int .i64 2), .val (.int .i64 port), .val (.int .i64 0)] [] 0 (.val (.bool true)) L' nx' := by
  have hL := lastA 102 port (portE port) 0 1 5 10 1 2 4 8 16 32 64 128 256 512
  have c : ∀ c ∈ [u2ax0 port 0 (portE port) 0 (0 + 1) 0 0 0 0 0 0 0 0 0 0 0 0, u2zx1 port (portE port)], c.ok Tryz.prog := by
    intro c hc
    simp only [List.mem_cons, List.not_mem_nil, or_false] at hc
    rcases hc with rfl | rfl
    all_goals first | exact u2ax0_is port 0 0 0 0 0 0 0 0 0 0 0 0 0 h1 h2 | exact u2zx1_is port h1 h2
  have f1 := portE_ge port
  have f2 := portE_le port h2
  have s := sh_top2z port (portE port)
  refine ⟨_, _, outXS_ok (orInl_ok (kBo_ok c) (kTS_ok _ _)) s ?_⟩
  clear s c
  generalize ha : portE port = o1 at *
  repeat' (first | exact allNil | refine allCons ?_ ?_ | (with_reducible refine allRp _ ?_ ?_))
  all_goals first
    | exact rfl
    | exact trivial
    | (with_reducible assumption)
    | exact decide_eq_false (by omega)
    | exact decide_eq_true (by omega)
    | exact beqF (by omega)
    | exact vbt (beq_t rfl)
    | exact by8 (by omega)
    | (rw [decide_eq_true h2]; rfl)
    | (with_reducible omega)
    | exact hL
    | (simp only [t12, l12, t32, l32, List.length_cons]; done)
    | (simp [t12, l12, t32, l32]; done)
set_option maxRecDepth 100000 in
theorem sh_top2d_walk (port w : Int) (h1 : 1 ≤ port) (h2 : port ≤ 65535) (hw : 120 ≤ w) (hv : w ≤ 200) : ∃ L' nx', ACall Tryz.prog 5 [.val (.int .i64 2), .val (.int .i64 port), .val (.int .i64 w)] [] 0 (.val (.bool true)) L' nx' := by
  obtain ⟨dr, m, e0, e1, e2, e3, e4, e5, e6, e7, e8, e9, hL⟩ := loopD 102 port (portE port) w (by omega) (by omega)
  have c : ∀ c ∈ [u2ax0 port w (portE port) w (w + 1) dr m e0 e1 e2 e3 e4 e5 e6 e7 e8 e9, u0dx1 port w (portE port) w (w + 1) dr m e0 e1 e2 e3 e4 e5 e6 e7 e8 e9], c.ok Tryz.prog := by
    intro c hc
    simp only [List.mem_cons, List.not_mem_nil, or_false] at hc
    rcases hc with rfl | rfl
    all_goals first | exact u2ax0_is port w dr m e0 e1 e2 e3 e4 e5 e6 e7 e8 e9 h1 h2 | exact u0dx1_is port w dr m e0 e1 e2 e3 e4 e5 e6 e7 e8 e9 h1 h2 hw hv
  have f1 := portE_ge port
  have f2 := portE_le port h2
  have s := sh_top2d port w (portE port) w (w + 1) dr m e0 e1 e2 e3 e4 e5 e6 e7 e8 e9
  have e : (false == decide (w < (120 : Int))) = true := by simp; omega
  have g := outXS_ok (orInl_ok (kBo_ok c) (kTS_ok _ _)) s ?_
  · rw [e] at g
    exact ⟨_, _, g⟩
  clear s c e
  generalize ha : portE port = o1 at *
  repeat' (first | exact allNil | refine allCons ?_ ?_ | (with_reducible refine allRp _ ?_ ?_))
  all_goals first
    | exact rfl
    | exact trivial
    | (with_reducible assumption)
    | exact decide_eq_false (by omega)
    | exact decide_eq_true (by omega)
    | exact beqF (by omega)
    | exact vbt (beq_t rfl)
    | exact by8 (by omega)
    | (rw [decide_eq_true h2]; rfl)
    | (with_reducible omega)
    | exact hL
    | (simp only [t12, l12, t32, l32, List.length_cons]; done)
    | (simp [t12, l12, t32, l32]; done)
theorem walk (n port wait : Int) (hn : (Lit.int .i64 n).wf = true) (hport : (Lit.int .i64 port).wf = true) (hwait : (Lit.int .i64 wait).wf = true) : ∃ L' nx', ACall Tryz.prog 5 [.val (.int .i64 n), .val (.int .i64 port), .val (.int .i64 wait)] [] 0 (.val (.bool true)) L' nx' := by
  by_cases h : 0 ≤ n ∧ n ≤ 2 ∧ 1 ≤ port ∧ port ≤ 65535 ∧ 0 ≤ wait ∧ wait ≤ 200
  · obtain ⟨h1, h2, h3, h4, h5, h6⟩ := h
    have cn : n = 0 ∨ n = 1 ∨ n = 2 := by omega
    by_cases hz : wait = 0
    · subst hz
      rcases cn with rfl | rfl | rfl
      · exact sh_top0z_walk port h3 h4
      · exact sh_top1z_walk port h3 h4
      · exact sh_top2z_walk port h3 h4
    by_cases ha : wait < 120
    · rcases cn with rfl | rfl | rfl
      · exact sh_top0a_walk port wait h3 h4 (by omega) ha
      · exact sh_top1a_walk port wait h3 h4 (by omega) ha
      · exact sh_top2a_walk port wait h3 h4 (by omega) ha
    · rcases cn with rfl | rfl | rfl
      · exact sh_top0d_walk port wait h3 h4 (by omega) h6
      · exact sh_top1d_walk port wait h3 h4 (by omega) h6
      · exact sh_top2d_walk port wait h3 h4 (by omega) h6
  · exact short_out n port wait h
end Go.Proofs.YtfofhpkafhpicaaGreatDoor.topShort
