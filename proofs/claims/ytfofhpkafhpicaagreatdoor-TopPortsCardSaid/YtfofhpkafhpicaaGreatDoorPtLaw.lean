/- The law TopPorts, walked: whatever is given, it answers true. -/
import Derived.Test.YtfofhpkafhpicaaGreatDoorMpx
import Derived.Test.YtfofhpkafhpicaaGreatDoorMra
import Derived.Test.YtfofhpkafhpicaaGreatDoorMrb
import Derived.Test.YtfofhpkafhpicaaGreatDoorMrc
namespace Go.Proofs.YtfofhpkafhpicaaGreatDoor.topPorts
open Go.RowKit
set_option linter.unusedSimpArgs false
set_option linter.unusedVariables false

theorem w8r (v : Int) : 0 ≤ w8 v ∧ w8 v < 256 := by
  have := wu8_lo v
  have := wu8_hi v
  exact ⟨by assumption, by assumption⟩
theorem bitA0 : ∀ t : Fin 256, (bits BinOp.andNot IntKind.u32 (bits BinOp.xor IntKind.u32 (bits BinOp.or IntKind.u32 (134743040 : Int) (IntKind.wrap IntKind.u32 ((t.val : Nat) : Int))) (3232235776 : Int)) (255 : Int) == (0 : Int)) = false := by decide +kernel
theorem bitB0 : ∀ t : Fin 256, (bits BinOp.and IntKind.u32 (bits BinOp.xor IntKind.u32 (bits BinOp.or IntKind.u32 (134743040 : Int) (IntKind.wrap IntKind.u32 ((t.val : Nat) : Int))) (3405803777 : Int)) (4294967040 : Int) == (0 : Int)) = false := by decide +kernel
theorem natOf (z : Int) (h : 0 ≤ z ∧ z < 256) : ∃ t : Fin 256, z = ((t.val : Nat) : Int) := ⟨⟨z.toNat, by omega⟩, by simp; omega⟩
theorem bitA (v : Int) : (bits BinOp.andNot IntKind.u32 (bits BinOp.xor IntKind.u32 (bits BinOp.or IntKind.u32 (134743040 : Int) (IntKind.wrap IntKind.u32 (w8 v))) (3232235776 : Int)) (255 : Int) == (0 : Int)) = false := by
  obtain ⟨t, e⟩ := natOf _ (w8r v)
  rw [e]
  exact bitA0 t
theorem bitB (v : Int) : (bits BinOp.and IntKind.u32 (bits BinOp.xor IntKind.u32 (bits BinOp.or IntKind.u32 (134743040 : Int) (IntKind.wrap IntKind.u32 (w8 v))) (3405803777 : Int)) (4294967040 : Int) == (0 : Int)) = false := by
  obtain ⟨t, e⟩ := natOf _ (w8r v)
  rw [e]
  exact bitB0 t
theorem by8 {a b c d e f g h : Int} (x : (0 ≤ a ∧ a < 256) ∧ (0 ≤ b ∧ b < 256) ∧ (0 ≤ c ∧ c < 256) ∧ (0 ≤ d ∧ d < 256) ∧ (0 ≤ e ∧ e < 256) ∧ (0 ≤ f ∧ f < 256) ∧ (0 ≤ g ∧ g < 256) ∧ (0 ≤ h ∧ h < 256)) : byteP [a, b, c, d, e, f, g, h] := by
  intro z hz
  simp only [List.mem_cons, List.not_mem_nil, or_false] at hz
  rcases hz with rfl | rfl | rfl | rfl | rfl | rfl | rfl | rfl <;> omega
theorem portE_ge (p : Int) : 40000 ≤ portE p := by unfold portE; split <;> omega
theorem portE_le (p : Int) (h : p ≤ 65535) : portE p ≤ 65535 := by unfold portE; split <;> omega
theorem portR_ge (p : Int) : 40000 ≤ portR p := by unfold portR; split <;> omega
theorem portR_le (p : Int) : portR p ≤ 40001 := by unfold portR; split <;> omega
theorem port_ne (p : Int) : portE p ≠ portR p := by unfold portE portR; split <;> split <;> omega
theorem vbf {b : Bool} (h : b = false) : AV.val (Value.bool b) = vb false := by rw [h]
theorem vbt {b : Bool} (h : b = true) : AV.val (Value.bool b) = vb true := by rw [h]
theorem t12 (a b c d e f g h p q : Int) : List.take 12 (udpP a b c d e f g h p q dta) = udpP a b c d e f g h p q dta := List.take_of_length_le (by rw [udpP_len]; exact Nat.le_refl 12)
theorem l12 (a b c d e f g h p q : Int) : List.length (udpP a b c d e f g h p q dta) = 12 := by rw [udpP_len]; rfl
theorem l32 (t x a b c d e f g h : Int) (l : List UInt8) (hl : l.length = 12) : List.length (ipP t x a b c d e f g h l) = 32 := by rw [ipP_len, hl]
theorem t32 (t x a b c d e f g h : Int) (l : List UInt8) (hl : l.length = 12) : List.take 32 (ipP t x a b c d e f g h l) = ipP t x a b c d e f g h l := List.take_of_length_le (by rw [ipP_len, hl]; exact Nat.le_refl 32)
theorem pq {p q : Int} (h : p ≤ q) : p ≤ q := h

set_option maxRecDepth 100000 in
theorem b01x0_is (port v : Int) (h1 : 1 ≤ port) (h2 : port ≤ 65535) : (b01x0 port v (portE port) (portR port)).ok Tryz.prog := by
  have hw : 0 ≤ IntKind.u8.wrap v ∧ IntKind.u8.wrap v < 256 := w8r v
  have e1 := portE_ge port
  have e2 := portE_le port h2
  have e3 := portR_ge port
  have e4 := portR_le port
  have e5 := port_ne port
  have hA := bitA v
  have hB := bitB v
  have s := b01x0_run port v (portE port) (portR port)
  refine outS_ok (kTP_ok _ _ _) s ?_
  clear s
  generalize ha : portE port = o1 at *
  generalize hb : portR port = o2 at *
  repeat' (first | exact allNil | refine allCons ?_ ?_ | (with_reducible refine allRp _ ?_ ?_))
  all_goals first
    | exact rfl
    | exact trivial
    | (with_reducible assumption)
    | exact decide_eq_false (by omega)
    | exact decide_eq_true (by omega)
    | exact beqF (by omega)
    | exact beqF e5
    | exact vbf (beqF e5)
    | exact vbt (beq_t rfl)
    | exact bne_iff_ne.2 e5
    | exact by8 (by omega)
    | (rw [decide_eq_true h2]; rfl)
    | (with_reducible omega)
    | (simp only [t12, l12, t32, l32, List.length_cons]; done)
    | (simp [t12, l12, t32, l32]; done)
set_option maxRecDepth 100000 in
theorem b01x1_is (port v : Int) (h1 : 1 ≤ port) (h2 : port ≤ 65535) : (b01x1 port v (portE port) (portR port)).ok Tryz.prog := by
  have hw : 0 ≤ IntKind.u8.wrap v ∧ IntKind.u8.wrap v < 256 := w8r v
  have e1 := portE_ge port
  have e2 := portE_le port h2
  have e3 := portR_ge port
  have e4 := portR_le port
  have e5 := port_ne port
  have hA := bitA v
  have hB := bitB v
  have s := b01x1_run port v (portE port) (portR port)
  refine outS_ok (kTP_ok _ _ _) s ?_
  clear s
  generalize ha : portE port = o1 at *
  generalize hb : portR port = o2 at *
  repeat' (first | exact allNil | refine allCons ?_ ?_ | (with_reducible refine allRp _ ?_ ?_))
  all_goals first
    | exact rfl
    | exact trivial
    | (with_reducible assumption)
    | exact decide_eq_false (by omega)
    | exact decide_eq_true (by omega)
    | exact beqF (by omega)
    | exact beqF e5
    | exact vbf (beqF e5)
    | exact vbt (beq_t rfl)
    | exact bne_iff_ne.2 e5
    | exact by8 (by omega)
    | (rw [decide_eq_true h2]; rfl)
    | (with_reducible omega)
    | (simp only [t12, l12, t32, l32, List.length_cons]; done)
    | (simp [t12, l12, t32, l32]; done)
set_option maxRecDepth 100000 in
theorem b01x2_is (port v : Int) (h1 : 1 ≤ port) (h2 : port ≤ 65535) : (b01x2 port v (portE port) (portR port)).ok Tryz.prog := by
  have hw : 0 ≤ IntKind.u8.wrap v ∧ IntKind.u8.wrap v < 256 := w8r v
  have e1 := portE_ge port
  have e2 := portE_le port h2
  have e3 := portR_ge port
  have e4 := portR_le port
  have e5 := port_ne port
  have hA := bitA v
  have hB := bitB v
  have s := b01x2_run port v (portE port) (portR port)
  refine outS_ok (kTP_ok _ _ _) s ?_
  clear s
  generalize ha : portE port = o1 at *
  generalize hb : portR port = o2 at *
  repeat' (first | exact allNil | refine allCons ?_ ?_ | (with_reducible refine allRp _ ?_ ?_))
  all_goals first
    | exact rfl
    | exact trivial
    | (with_reducible assumption)
    | exact decide_eq_false (by omega)
    | exact decide_eq_true (by omega)
    | exact beqF (by omega)
    | exact beqF e5
    | exact vbf (beqF e5)
    | exact vbt (beq_t rfl)
    | exact bne_iff_ne.2 e5
    | exact by8 (by omega)
    | (rw [decide_eq_true h2]; rfl)
    | (with_reducible omega)
    | (simp only [t12, l12, t32, l32, List.length_cons]; done)
    | (simp [t12, l12, t32, l32]; done)
set_option maxRecDepth 100000 in
theorem b01x3_is (port v : Int) (h1 : 1 ≤ port) (h2 : port ≤ 65535) : (b01x3 port v (portE port) (portR port)).ok Tryz.prog := by
  have hw : 0 ≤ IntKind.u8.wrap v ∧ IntKind.u8.wrap v < 256 := w8r v
  have e1 := portE_ge port
  have e2 := portE_le port h2
  have e3 := portR_ge port
  have e4 := portR_le port
  have e5 := port_ne port
  have hA := bitA v
  have hB := bitB v
  have s := b01x3_run port v (portE port) (portR port)
  refine outS_ok (kTP_ok _ _ _) s ?_
  clear s
  generalize ha : portE port = o1 at *
  generalize hb : portR port = o2 at *
  repeat' (first | exact allNil | refine allCons ?_ ?_ | (with_reducible refine allRp _ ?_ ?_))
  all_goals first
    | exact rfl
    | exact trivial
    | (with_reducible assumption)
    | exact decide_eq_false (by omega)
    | exact decide_eq_true (by omega)
    | exact beqF (by omega)
    | exact beqF e5
    | exact vbf (beqF e5)
    | exact vbt (beq_t rfl)
    | exact bne_iff_ne.2 e5
    | exact by8 (by omega)
    | (rw [decide_eq_true h2]; rfl)
    | (with_reducible omega)
    | (simp only [t12, l12, t32, l32, List.length_cons]; done)
    | (simp [t12, l12, t32, l32]; done)
set_option maxRecDepth 100000 in
theorem walk01 (port v : Int) (h1 : 1 ≤ port) (h2 : port ≤ 65535) : ∃ L' nx', ACall Tryz.prog 4 [.val (.int .i64 0), .val (.int .i64 1), .val (.int .i64 port), .val (.int .i64 v)] [] 0 (.val (.bool true)) L' nx' := by
  have c : ∀ c ∈ [b01x0 port v (portE port) (portR port), b01x1 port v (portE port) (portR port), b01x2 port v (portE port) (portR port), b01x3 port v (portE port) (portR port)], c.ok Tryz.prog := by
    intro c hc
    simp only [List.mem_cons, List.not_mem_nil, or_false] at hc
    rcases hc with rfl | rfl | rfl | rfl
    all_goals first | exact b01x0_is port v h1 h2 | exact b01x1_is port v h1 h2 | exact b01x2_is port v h1 h2 | exact b01x3_is port v h1 h2
  have hw : 0 ≤ IntKind.u8.wrap v ∧ IntKind.u8.wrap v < 256 := w8r v
  have e1 := portE_ge port
  have e2 := portE_le port h2
  have e3 := portR_ge port
  have e4 := portR_le port
  have e5 := port_ne port
  have hA := bitA v
  have hB := bitB v
  have s := topPorts_01 port v (portE port) (portR port)
  refine ⟨_, _, (outS_ok (orInl_ok (kBo_ok c) (kTP_ok _ _ _)) s ?_).1⟩
  clear s c
  generalize ha : portE port = o1 at *
  generalize hb : portR port = o2 at *
  repeat' (first | exact allNil | refine allCons ?_ ?_ | (with_reducible refine allRp _ ?_ ?_))
  all_goals first
    | exact rfl
    | exact trivial
    | (with_reducible assumption)
    | exact decide_eq_false (by omega)
    | exact decide_eq_true (by omega)
    | exact beqF (by omega)
    | exact beqF e5
    | exact vbf (beqF e5)
    | exact vbt (beq_t rfl)
    | exact bne_iff_ne.2 e5
    | exact by8 (by omega)
    | (rw [decide_eq_true h2]; rfl)
    | (with_reducible omega)
    | (simp only [t12, l12, t32, l32, List.length_cons]; done)
    | (simp [t12, l12, t32, l32]; done)
set_option maxRecDepth 100000 in
theorem b02x0_is (port v : Int) (h1 : 1 ≤ port) (h2 : port ≤ 65535) : (b02x0 port v (portE port) (portR port)).ok Tryz.prog := by
  have hw : 0 ≤ IntKind.u8.wrap v ∧ IntKind.u8.wrap v < 256 := w8r v
  have e1 := portE_ge port
  have e2 := portE_le port h2
  have e3 := portR_ge port
  have e4 := portR_le port
  have e5 := port_ne port
  have hA := bitA v
  have hB := bitB v
  have s := b02x0_run port v (portE port) (portR port)
  refine outS_ok (kTP_ok _ _ _) s ?_
  clear s
  generalize ha : portE port = o1 at *
  generalize hb : portR port = o2 at *
  repeat' (first | exact allNil | refine allCons ?_ ?_ | (with_reducible refine allRp _ ?_ ?_))
  all_goals first
    | exact rfl
    | exact trivial
    | (with_reducible assumption)
    | exact decide_eq_false (by omega)
    | exact decide_eq_true (by omega)
    | exact beqF (by omega)
    | exact beqF e5
    | exact vbf (beqF e5)
    | exact vbt (beq_t rfl)
    | exact bne_iff_ne.2 e5
    | exact by8 (by omega)
    | (rw [decide_eq_true h2]; rfl)
    | (with_reducible omega)
    | (simp only [t12, l12, t32, l32, List.length_cons]; done)
    | (simp [t12, l12, t32, l32]; done)
set_option maxRecDepth 100000 in
theorem b02x1_is (port v : Int) (h1 : 1 ≤ port) (h2 : port ≤ 65535) : (b02x1 port v (portE port) (portR port)).ok Tryz.prog := by
  have hw : 0 ≤ IntKind.u8.wrap v ∧ IntKind.u8.wrap v < 256 := w8r v
  have e1 := portE_ge port
  have e2 := portE_le port h2
  have e3 := portR_ge port
  have e4 := portR_le port
  have e5 := port_ne port
  have hA := bitA v
  have hB := bitB v
  have s := b02x1_run port v (portE port) (portR port)
  refine outS_ok (kTP_ok _ _ _) s ?_
  clear s
  generalize ha : portE port = o1 at *
  generalize hb : portR port = o2 at *
  repeat' (first | exact allNil | refine allCons ?_ ?_ | (with_reducible refine allRp _ ?_ ?_))
  all_goals first
    | exact rfl
    | exact trivial
    | (with_reducible assumption)
    | exact decide_eq_false (by omega)
    | exact decide_eq_true (by omega)
    | exact beqF (by omega)
    | exact beqF e5
    | exact vbf (beqF e5)
    | exact vbt (beq_t rfl)
    | exact bne_iff_ne.2 e5
    | exact by8 (by omega)
    | (rw [decide_eq_true h2]; rfl)
    | (with_reducible omega)
    | (simp only [t12, l12, t32, l32, List.length_cons]; done)
    | (simp [t12, l12, t32, l32]; done)
set_option maxRecDepth 100000 in
theorem b02x2_is (port v : Int) (h1 : 1 ≤ port) (h2 : port ≤ 65535) : (b02x2 port v (portE port) (portR port)).ok Tryz.prog := by
  have hw : 0 ≤ IntKind.u8.wrap v ∧ IntKind.u8.wrap v < 256 := w8r v
  have e1 := portE_ge port
  have e2 := portE_le port h2
  have e3 := portR_ge port
  have e4 := portR_le port
  have e5 := port_ne port
  have hA := bitA v
  have hB := bitB v
  have s := b02x2_run port v (portE port) (portR port)
  refine outS_ok (kTP_ok _ _ _) s ?_
  clear s
  generalize ha : portE port = o1 at *
  generalize hb : portR port = o2 at *
  repeat' (first | exact allNil | refine allCons ?_ ?_ | (with_reducible refine allRp _ ?_ ?_))
  all_goals first
    | exact rfl
    | exact trivial
    | (with_reducible assumption)
    | exact decide_eq_false (by omega)
    | exact decide_eq_true (by omega)
    | exact beqF (by omega)
    | exact beqF e5
    | exact vbf (beqF e5)
    | exact vbt (beq_t rfl)
    | exact bne_iff_ne.2 e5
    | exact by8 (by omega)
    | (rw [decide_eq_true h2]; rfl)
    | (with_reducible omega)
    | (simp only [t12, l12, t32, l32, List.length_cons]; done)
    | (simp [t12, l12, t32, l32]; done)
set_option maxRecDepth 100000 in
theorem b02x3_is (port v : Int) (h1 : 1 ≤ port) (h2 : port ≤ 65535) : (b02x3 port v (portE port) (portR port)).ok Tryz.prog := by
  have hw : 0 ≤ IntKind.u8.wrap v ∧ IntKind.u8.wrap v < 256 := w8r v
  have e1 := portE_ge port
  have e2 := portE_le port h2
  have e3 := portR_ge port
  have e4 := portR_le port
  have e5 := port_ne port
  have hA := bitA v
  have hB := bitB v
  have s := b02x3_run port v (portE port) (portR port)
  refine outS_ok (kTP_ok _ _ _) s ?_
  clear s
  generalize ha : portE port = o1 at *
  generalize hb : portR port = o2 at *
  repeat' (first | exact allNil | refine allCons ?_ ?_ | (with_reducible refine allRp _ ?_ ?_))
  all_goals first
    | exact rfl
    | exact trivial
    | (with_reducible assumption)
    | exact decide_eq_false (by omega)
    | exact decide_eq_true (by omega)
    | exact beqF (by omega)
    | exact beqF e5
    | exact vbf (beqF e5)
    | exact vbt (beq_t rfl)
    | exact bne_iff_ne.2 e5
    | exact by8 (by omega)
    | (rw [decide_eq_true h2]; rfl)
    | (with_reducible omega)
    | (simp only [t12, l12, t32, l32, List.length_cons]; done)
    | (simp [t12, l12, t32, l32]; done)
set_option maxRecDepth 100000 in
theorem walk02 (port v : Int) (h1 : 1 ≤ port) (h2 : port ≤ 65535) : ∃ L' nx', ACall Tryz.prog 4 [.val (.int .i64 0), .val (.int .i64 2), .val (.int .i64 port), .val (.int .i64 v)] [] 0 (.val (.bool true)) L' nx' := by
  have c : ∀ c ∈ [b02x0 port v (portE port) (portR port), b02x1 port v (portE port) (portR port), b02x2 port v (portE port) (portR port), b02x3 port v (portE port) (portR port)], c.ok Tryz.prog := by
    intro c hc
    simp only [List.mem_cons, List.not_mem_nil, or_false] at hc
    rcases hc with rfl | rfl | rfl | rfl
    all_goals first | exact b02x0_is port v h1 h2 | exact b02x1_is port v h1 h2 | exact b02x2_is port v h1 h2 | exact b02x3_is port v h1 h2
  have hw : 0 ≤ IntKind.u8.wrap v ∧ IntKind.u8.wrap v < 256 := w8r v
  have e1 := portE_ge port
  have e2 := portE_le port h2
  have e3 := portR_ge port
  have e4 := portR_le port
  have e5 := port_ne port
  have hA := bitA v
  have hB := bitB v
  have s := topPorts_02 port v (portE port) (portR port)
  refine ⟨_, _, (outS_ok (orInl_ok (kBo_ok c) (kTP_ok _ _ _)) s ?_).1⟩
  clear s c
  generalize ha : portE port = o1 at *
  generalize hb : portR port = o2 at *
  repeat' (first | exact allNil | refine allCons ?_ ?_ | (with_reducible refine allRp _ ?_ ?_))
  all_goals first
    | exact rfl
    | exact trivial
    | (with_reducible assumption)
    | exact decide_eq_false (by omega)
    | exact decide_eq_true (by omega)
    | exact beqF (by omega)
    | exact beqF e5
    | exact vbf (beqF e5)
    | exact vbt (beq_t rfl)
    | exact bne_iff_ne.2 e5
    | exact by8 (by omega)
    | (rw [decide_eq_true h2]; rfl)
    | (with_reducible omega)
    | (simp only [t12, l12, t32, l32, List.length_cons]; done)
    | (simp [t12, l12, t32, l32]; done)
set_option maxRecDepth 100000 in
theorem b10x0_is (port v : Int) (h1 : 1 ≤ port) (h2 : port ≤ 65535) : (b10x0 port v (portE port) (portR port)).ok Tryz.prog := by
  have hw : 0 ≤ IntKind.u8.wrap v ∧ IntKind.u8.wrap v < 256 := w8r v
  have e1 := portE_ge port
  have e2 := portE_le port h2
  have e3 := portR_ge port
  have e4 := portR_le port
  have e5 := port_ne port
  have hA := bitA v
  have hB := bitB v
  have s := b10x0_run port v (portE port) (portR port)
  refine outS_ok (kTP_ok _ _ _) s ?_
  clear s
  generalize ha : portE port = o1 at *
  generalize hb : portR port = o2 at *
  repeat' (first | exact allNil | refine allCons ?_ ?_ | (with_reducible refine allRp _ ?_ ?_))
  all_goals first
    | exact rfl
    | exact trivial
    | (with_reducible assumption)
    | exact decide_eq_false (by omega)
    | exact decide_eq_true (by omega)
    | exact beqF (by omega)
    | exact beqF e5
    | exact vbf (beqF e5)
    | exact vbt (beq_t rfl)
    | exact bne_iff_ne.2 e5
    | exact by8 (by omega)
    | (rw [decide_eq_true h2]; rfl)
    | (with_reducible omega)
    | (simp only [t12, l12, t32, l32, List.length_cons]; done)
    | (simp [t12, l12, t32, l32]; done)
set_option maxRecDepth 100000 in
theorem b10x1_is (port v : Int) (h1 : 1 ≤ port) (h2 : port ≤ 65535) : (b10x1 port v (portE port) (portR port)).ok Tryz.prog := by
  have hw : 0 ≤ IntKind.u8.wrap v ∧ IntKind.u8.wrap v < 256 := w8r v
  have e1 := portE_ge port
  have e2 := portE_le port h2
  have e3 := portR_ge port
  have e4 := portR_le port
  have e5 := port_ne port
  have hA := bitA v
  have hB := bitB v
  have s := b10x1_run port v (portE port) (portR port)
  refine outS_ok (kTP_ok _ _ _) s ?_
  clear s
  generalize ha : portE port = o1 at *
  generalize hb : portR port = o2 at *
  repeat' (first | exact allNil | refine allCons ?_ ?_ | (with_reducible refine allRp _ ?_ ?_))
  all_goals first
    | exact rfl
    | exact trivial
    | (with_reducible assumption)
    | exact decide_eq_false (by omega)
    | exact decide_eq_true (by omega)
    | exact beqF (by omega)
    | exact beqF e5
    | exact vbf (beqF e5)
    | exact vbt (beq_t rfl)
    | exact bne_iff_ne.2 e5
    | exact by8 (by omega)
    | (rw [decide_eq_true h2]; rfl)
    | (with_reducible omega)
    | (simp only [t12, l12, t32, l32, List.length_cons]; done)
    | (simp [t12, l12, t32, l32]; done)
set_option maxRecDepth 100000 in
theorem b10x2_is (port v : Int) (h1 : 1 ≤ port) (h2 : port ≤ 65535) : (b10x2 port v (portE port) (portR port)).ok Tryz.prog := by
  have hw : 0 ≤ IntKind.u8.wrap v ∧ IntKind.u8.wrap v < 256 := w8r v
  have e1 := portE_ge port
  have e2 := portE_le port h2
  have e3 := portR_ge port
  have e4 := portR_le port
  have e5 := port_ne port
  have hA := bitA v
  have hB := bitB v
  have s := b10x2_run port v (portE port) (portR port)
  refine outS_ok (kTP_ok _ _ _) s ?_
  clear s
  generalize ha : portE port = o1 at *
  generalize hb : portR port = o2 at *
  repeat' (first | exact allNil | refine allCons ?_ ?_ | (with_reducible refine allRp _ ?_ ?_))
  all_goals first
    | exact rfl
    | exact trivial
    | (with_reducible assumption)
    | exact decide_eq_false (by omega)
    | exact decide_eq_true (by omega)
    | exact beqF (by omega)
    | exact beqF e5
    | exact vbf (beqF e5)
    | exact vbt (beq_t rfl)
    | exact bne_iff_ne.2 e5
    | exact by8 (by omega)
    | (rw [decide_eq_true h2]; rfl)
    | (with_reducible omega)
    | (simp only [t12, l12, t32, l32, List.length_cons]; done)
    | (simp [t12, l12, t32, l32]; done)
set_option maxRecDepth 100000 in
theorem b10x3_is (port v : Int) (h1 : 1 ≤ port) (h2 : port ≤ 65535) : (b10x3 port v (portE port) (portR port)).ok Tryz.prog := by
  have hw : 0 ≤ IntKind.u8.wrap v ∧ IntKind.u8.wrap v < 256 := w8r v
  have e1 := portE_ge port
  have e2 := portE_le port h2
  have e3 := portR_ge port
  have e4 := portR_le port
  have e5 := port_ne port
  have hA := bitA v
  have hB := bitB v
  have s := b10x3_run port v (portE port) (portR port)
  refine outS_ok (kTP_ok _ _ _) s ?_
  clear s
  generalize ha : portE port = o1 at *
  generalize hb : portR port = o2 at *
  repeat' (first | exact allNil | refine allCons ?_ ?_ | (with_reducible refine allRp _ ?_ ?_))
  all_goals first
    | exact rfl
    | exact trivial
    | (with_reducible assumption)
    | exact decide_eq_false (by omega)
    | exact decide_eq_true (by omega)
    | exact beqF (by omega)
    | exact beqF e5
    | exact vbf (beqF e5)
    | exact vbt (beq_t rfl)
    | exact bne_iff_ne.2 e5
    | exact by8 (by omega)
    | (rw [decide_eq_true h2]; rfl)
    | (with_reducible omega)
    | (simp only [t12, l12, t32, l32, List.length_cons]; done)
    | (simp [t12, l12, t32, l32]; done)
set_option maxRecDepth 100000 in
theorem walk10 (port v : Int) (h1 : 1 ≤ port) (h2 : port ≤ 65535) : ∃ L' nx', ACall Tryz.prog 4 [.val (.int .i64 1), .val (.int .i64 0), .val (.int .i64 port), .val (.int .i64 v)] [] 0 (.val (.bool true)) L' nx' := by
  have c : ∀ c ∈ [b10x0 port v (portE port) (portR port), b10x1 port v (portE port) (portR port), b10x2 port v (portE port) (portR port), b10x3 port v (portE port) (portR port)], c.ok Tryz.prog := by
    intro c hc
    simp only [List.mem_cons, List.not_mem_nil, or_false] at hc
    rcases hc with rfl | rfl | rfl | rfl
    all_goals first | exact b10x0_is port v h1 h2 | exact b10x1_is port v h1 h2 | exact b10x2_is port v h1 h2 | exact b10x3_is port v h1 h2
  have hw : 0 ≤ IntKind.u8.wrap v ∧ IntKind.u8.wrap v < 256 := w8r v
  have e1 := portE_ge port
  have e2 := portE_le port h2
  have e3 := portR_ge port
  have e4 := portR_le port
  have e5 := port_ne port
  have hA := bitA v
  have hB := bitB v
  have s := topPorts_10 port v (portE port) (portR port)
  refine ⟨_, _, (outS_ok (orInl_ok (kBo_ok c) (kTP_ok _ _ _)) s ?_).1⟩
  clear s c
  generalize ha : portE port = o1 at *
  generalize hb : portR port = o2 at *
  repeat' (first | exact allNil | refine allCons ?_ ?_ | (with_reducible refine allRp _ ?_ ?_))
  all_goals first
    | exact rfl
    | exact trivial
    | (with_reducible assumption)
    | exact decide_eq_false (by omega)
    | exact decide_eq_true (by omega)
    | exact beqF (by omega)
    | exact beqF e5
    | exact vbf (beqF e5)
    | exact vbt (beq_t rfl)
    | exact bne_iff_ne.2 e5
    | exact by8 (by omega)
    | (rw [decide_eq_true h2]; rfl)
    | (with_reducible omega)
    | (simp only [t12, l12, t32, l32, List.length_cons]; done)
    | (simp [t12, l12, t32, l32]; done)
set_option maxRecDepth 100000 in
theorem b12x0_is (port v : Int) (h1 : 1 ≤ port) (h2 : port ≤ 65535) : (b12x0 port v (portE port) (portR port)).ok Tryz.prog := by
  have hw : 0 ≤ IntKind.u8.wrap v ∧ IntKind.u8.wrap v < 256 := w8r v
  have e1 := portE_ge port
  have e2 := portE_le port h2
  have e3 := portR_ge port
  have e4 := portR_le port
  have e5 := port_ne port
  have hA := bitA v
  have hB := bitB v
  have s := b12x0_run port v (portE port) (portR port)
  refine outS_ok (kTP_ok _ _ _) s ?_
  clear s
  generalize ha : portE port = o1 at *
  generalize hb : portR port = o2 at *
  repeat' (first | exact allNil | refine allCons ?_ ?_ | (with_reducible refine allRp _ ?_ ?_))
  all_goals first
    | exact rfl
    | exact trivial
    | (with_reducible assumption)
    | exact decide_eq_false (by omega)
    | exact decide_eq_true (by omega)
    | exact beqF (by omega)
    | exact beqF e5
    | exact vbf (beqF e5)
    | exact vbt (beq_t rfl)
    | exact bne_iff_ne.2 e5
    | exact by8 (by omega)
    | (rw [decide_eq_true h2]; rfl)
    | (with_reducible omega)
    | (simp only [t12, l12, t32, l32, List.length_cons]; done)
    | (simp [t12, l12, t32, l32]; done)
set_option maxRecDepth 100000 in
theorem b12x1_is (port v : Int) (h1 : 1 ≤ port) (h2 : port ≤ 65535) : (b12x1 port v (portE port) (portR port)).ok Tryz.prog := by
  have hw : 0 ≤ IntKind.u8.wrap v ∧ IntKind.u8.wrap v < 256 := w8r v
  have e1 := portE_ge port
  have e2 := portE_le port h2
  have e3 := portR_ge port
  have e4 := portR_le port
  have e5 := port_ne port
  have hA := bitA v
  have hB := bitB v
  have s := b12x1_run port v (portE port) (portR port)
  refine outS_ok (kTP_ok _ _ _) s ?_
  clear s
  generalize ha : portE port = o1 at *
  generalize hb : portR port = o2 at *
  repeat' (first | exact allNil | refine allCons ?_ ?_ | (with_reducible refine allRp _ ?_ ?_))
  all_goals first
    | exact rfl
    | exact trivial
    | (with_reducible assumption)
    | exact decide_eq_false (by omega)
    | exact decide_eq_true (by omega)
    | exact beqF (by omega)
    | exact beqF e5
    | exact vbf (beqF e5)
    | exact vbt (beq_t rfl)
    | exact bne_iff_ne.2 e5
    | exact by8 (by omega)
    | (rw [decide_eq_true h2]; rfl)
    | (with_reducible omega)
    | (simp only [t12, l12, t32, l32, List.length_cons]; done)
    | (simp [t12, l12, t32, l32]; done)
set_option maxRecDepth 100000 in
theorem b12x2_is (port v : Int) (h1 : 1 ≤ port) (h2 : port ≤ 65535) : (b12x2 port v (portE port) (portR port)).ok Tryz.prog := by
  have hw : 0 ≤ IntKind.u8.wrap v ∧ IntKind.u8.wrap v < 256 := w8r v
  have e1 := portE_ge port
  have e2 := portE_le port h2
  have e3 := portR_ge port
  have e4 := portR_le port
  have e5 := port_ne port
  have hA := bitA v
  have hB := bitB v
  have s := b12x2_run port v (portE port) (portR port)
  refine outS_ok (kTP_ok _ _ _) s ?_
  clear s
  generalize ha : portE port = o1 at *
  generalize hb : portR port = o2 at *
  repeat' (first | exact allNil | refine allCons ?_ ?_ | (with_reducible refine allRp _ ?_ ?_))
  all_goals first
    | exact rfl
    | exact trivial
    | (with_reducible assumption)
    | exact decide_eq_false (by omega)
    | exact decide_eq_true (by omega)
    | exact beqF (by omega)
    | exact beqF e5
    | exact vbf (beqF e5)
    | exact vbt (beq_t rfl)
    | exact bne_iff_ne.2 e5
    | exact by8 (by omega)
    | (rw [decide_eq_true h2]; rfl)
    | (with_reducible omega)
    | (simp only [t12, l12, t32, l32, List.length_cons]; done)
    | (simp [t12, l12, t32, l32]; done)
set_option maxRecDepth 100000 in
theorem b12x3_is (port v : Int) (h1 : 1 ≤ port) (h2 : port ≤ 65535) : (b12x3 port v (portE port) (portR port)).ok Tryz.prog := by
  have hw : 0 ≤ IntKind.u8.wrap v ∧ IntKind.u8.wrap v < 256 := w8r v
  have e1 := portE_ge port
  have e2 := portE_le port h2
  have e3 := portR_ge port
  have e4 := portR_le port
  have e5 := port_ne port
  have hA := bitA v
  have hB := bitB v
  have s := b12x3_run port v (portE port) (portR port)
  refine outS_ok (kTP_ok _ _ _) s ?_
  clear s
  generalize ha : portE port = o1 at *
  generalize hb : portR port = o2 at *
  repeat' (first | exact allNil | refine allCons ?_ ?_ | (with_reducible refine allRp _ ?_ ?_))
  all_goals first
    | exact rfl
    | exact trivial
    | (with_reducible assumption)
    | exact decide_eq_false (by omega)
    | exact decide_eq_true (by omega)
    | exact beqF (by omega)
    | exact beqF e5
    | exact vbf (beqF e5)
    | exact vbt (beq_t rfl)
    | exact bne_iff_ne.2 e5
    | exact by8 (by omega)
    | (rw [decide_eq_true h2]; rfl)
    | (with_reducible omega)
    | (simp only [t12, l12, t32, l32, List.length_cons]; done)
    | (simp [t12, l12, t32, l32]; done)
set_option maxRecDepth 100000 in
theorem walk12 (port v : Int) (h1 : 1 ≤ port) (h2 : port ≤ 65535) : ∃ L' nx', ACall Tryz.prog 4 [.val (.int .i64 1), .val (.int .i64 2), .val (.int .i64 port), .val (.int .i64 v)] [] 0 (.val (.bool true)) L' nx' := by
  have c : ∀ c ∈ [b12x0 port v (portE port) (portR port), b12x1 port v (portE port) (portR port), b12x2 port v (portE port) (portR port), b12x3 port v (portE port) (portR port)], c.ok Tryz.prog := by
    intro c hc
    simp only [List.mem_cons, List.not_mem_nil, or_false] at hc
    rcases hc with rfl | rfl | rfl | rfl
    all_goals first | exact b12x0_is port v h1 h2 | exact b12x1_is port v h1 h2 | exact b12x2_is port v h1 h2 | exact b12x3_is port v h1 h2
  have hw : 0 ≤ IntKind.u8.wrap v ∧ IntKind.u8.wrap v < 256 := w8r v
  have e1 := portE_ge port
  have e2 := portE_le port h2
  have e3 := portR_ge port
  have e4 := portR_le port
  have e5 := port_ne port
  have hA := bitA v
  have hB := bitB v
  have s := topPorts_12 port v (portE port) (portR port)
  refine ⟨_, _, (outS_ok (orInl_ok (kBo_ok c) (kTP_ok _ _ _)) s ?_).1⟩
  clear s c
  generalize ha : portE port = o1 at *
  generalize hb : portR port = o2 at *
  repeat' (first | exact allNil | refine allCons ?_ ?_ | (with_reducible refine allRp _ ?_ ?_))
  all_goals first
    | exact rfl
    | exact trivial
    | (with_reducible assumption)
    | exact decide_eq_false (by omega)
    | exact decide_eq_true (by omega)
    | exact beqF (by omega)
    | exact beqF e5
    | exact vbf (beqF e5)
    | exact vbt (beq_t rfl)
    | exact bne_iff_ne.2 e5
    | exact by8 (by omega)
    | (rw [decide_eq_true h2]; rfl)
    | (with_reducible omega)
    | (simp only [t12, l12, t32, l32, List.length_cons]; done)
    | (simp [t12, l12, t32, l32]; done)
set_option maxRecDepth 100000 in
theorem b20x0_is (port v : Int) (h1 : 1 ≤ port) (h2 : port ≤ 65535) : (b20x0 port v (portE port) (portR port)).ok Tryz.prog := by
  have hw : 0 ≤ IntKind.u8.wrap v ∧ IntKind.u8.wrap v < 256 := w8r v
  have e1 := portE_ge port
  have e2 := portE_le port h2
  have e3 := portR_ge port
  have e4 := portR_le port
  have e5 := port_ne port
  have hA := bitA v
  have hB := bitB v
  have s := b20x0_run port v (portE port) (portR port)
  refine outS_ok (kTP_ok _ _ _) s ?_
  clear s
  generalize ha : portE port = o1 at *
  generalize hb : portR port = o2 at *
  repeat' (first | exact allNil | refine allCons ?_ ?_ | (with_reducible refine allRp _ ?_ ?_))
  all_goals first
    | exact rfl
    | exact trivial
    | (with_reducible assumption)
    | exact decide_eq_false (by omega)
    | exact decide_eq_true (by omega)
    | exact beqF (by omega)
    | exact beqF e5
    | exact vbf (beqF e5)
    | exact vbt (beq_t rfl)
    | exact bne_iff_ne.2 e5
    | exact by8 (by omega)
    | (rw [decide_eq_true h2]; rfl)
    | (with_reducible omega)
    | (simp only [t12, l12, t32, l32, List.length_cons]; done)
    | (simp [t12, l12, t32, l32]; done)
set_option maxRecDepth 100000 in
theorem b20x1_is (port v : Int) (h1 : 1 ≤ port) (h2 : port ≤ 65535) : (b20x1 port v (portE port) (portR port)).ok Tryz.prog := by
  have hw : 0 ≤ IntKind.u8.wrap v ∧ IntKind.u8.wrap v < 256 := w8r v
  have e1 := portE_ge port
  have e2 := portE_le port h2
  have e3 := portR_ge port
  have e4 := portR_le port
  have e5 := port_ne port
  have hA := bitA v
  have hB := bitB v
  have s := b20x1_run port v (portE port) (portR port)
  refine outS_ok (kTP_ok _ _ _) s ?_
  clear s
  generalize ha : portE port = o1 at *
  generalize hb : portR port = o2 at *
  repeat' (first | exact allNil | refine allCons ?_ ?_ | (with_reducible refine allRp _ ?_ ?_))
  all_goals first
    | exact rfl
    | exact trivial
    | (with_reducible assumption)
    | exact decide_eq_false (by omega)
    | exact decide_eq_true (by omega)
    | exact beqF (by omega)
    | exact beqF e5
    | exact vbf (beqF e5)
    | exact vbt (beq_t rfl)
    | exact bne_iff_ne.2 e5
    | exact by8 (by omega)
    | (rw [decide_eq_true h2]; rfl)
    | (with_reducible omega)
    | (simp only [t12, l12, t32, l32, List.length_cons]; done)
    | (simp [t12, l12, t32, l32]; done)
set_option maxRecDepth 100000 in
theorem b20x2_is (port v : Int) (h1 : 1 ≤ port) (h2 : port ≤ 65535) : (b20x2 port v (portE port) (portR port)).ok Tryz.prog := by
  have hw : 0 ≤ IntKind.u8.wrap v ∧ IntKind.u8.wrap v < 256 := w8r v
  have e1 := portE_ge port
  have e2 := portE_le port h2
  have e3 := portR_ge port
  have e4 := portR_le port
  have e5 := port_ne port
  have hA := bitA v
  have hB := bitB v
  have s := b20x2_run port v (portE port) (portR port)
  refine outS_ok (kTP_ok _ _ _) s ?_
  clear s
  generalize ha : portE port = o1 at *
  generalize hb : portR port = o2 at *
  repeat' (first | exact allNil | refine allCons ?_ ?_ | (with_reducible refine allRp _ ?_ ?_))
  all_goals first
    | exact rfl
    | exact trivial
    | (with_reducible assumption)
    | exact decide_eq_false (by omega)
    | exact decide_eq_true (by omega)
    | exact beqF (by omega)
    | exact beqF e5
    | exact vbf (beqF e5)
    | exact vbt (beq_t rfl)
    | exact bne_iff_ne.2 e5
    | exact by8 (by omega)
    | (rw [decide_eq_true h2]; rfl)
    | (with_reducible omega)
    | (simp only [t12, l12, t32, l32, List.length_cons]; done)
    | (simp [t12, l12, t32, l32]; done)
set_option maxRecDepth 100000 in
theorem b20x3_is (port v : Int) (h1 : 1 ≤ port) (h2 : port ≤ 65535) : (b20x3 port v (portE port) (portR port)).ok Tryz.prog := by
  have hw : 0 ≤ IntKind.u8.wrap v ∧ IntKind.u8.wrap v < 256 := w8r v
  have e1 := portE_ge port
  have e2 := portE_le port h2
  have e3 := portR_ge port
  have e4 := portR_le port
  have e5 := port_ne port
  have hA := bitA v
  have hB := bitB v
  have s := b20x3_run port v (portE port) (portR port)
  refine outS_ok (kTP_ok _ _ _) s ?_
  clear s
  generalize ha : portE port = o1 at *
  generalize hb : portR port = o2 at *
  repeat' (first | exact allNil | refine allCons ?_ ?_ | (with_reducible refine allRp _ ?_ ?_))
  all_goals first
    | exact rfl
    | exact trivial
    | (with_reducible assumption)
    | exact decide_eq_false (by omega)
    | exact decide_eq_true (by omega)
    | exact beqF (by omega)
    | exact beqF e5
    | exact vbf (beqF e5)
    | exact vbt (beq_t rfl)
    | exact bne_iff_ne.2 e5
    | exact by8 (by omega)
    | (rw [decide_eq_true h2]; rfl)
    | (with_reducible omega)
    | (simp only [t12, l12, t32, l32, List.length_cons]; done)
    | (simp [t12, l12, t32, l32]; done)
set_option maxRecDepth 100000 in
theorem walk20 (port v : Int) (h1 : 1 ≤ port) (h2 : port ≤ 65535) : ∃ L' nx', ACall Tryz.prog 4 [.val (.int .i64 2), .val (.int .i64 0), .val (.int .i64 port), .val (.int .i64 v)] [] 0 (.val (.bool true)) L' nx' := by
  have c : ∀ c ∈ [b20x0 port v (portE port) (portR port), b20x1 port v (portE port) (portR port), b20x2 port v (portE port) (portR port), b20x3 port v (portE port) (portR port)], c.ok Tryz.prog := by
    intro c hc
    simp only [List.mem_cons, List.not_mem_nil, or_false] at hc
    rcases hc with rfl | rfl | rfl | rfl
    all_goals first | exact b20x0_is port v h1 h2 | exact b20x1_is port v h1 h2 | exact b20x2_is port v h1 h2 | exact b20x3_is port v h1 h2
  have hw : 0 ≤ IntKind.u8.wrap v ∧ IntKind.u8.wrap v < 256 := w8r v
  have e1 := portE_ge port
  have e2 := portE_le port h2
  have e3 := portR_ge port
  have e4 := portR_le port
  have e5 := port_ne port
  have hA := bitA v
  have hB := bitB v
  have s := topPorts_20 port v (portE port) (portR port)
  refine ⟨_, _, (outS_ok (orInl_ok (kBo_ok c) (kTP_ok _ _ _)) s ?_).1⟩
  clear s c
  generalize ha : portE port = o1 at *
  generalize hb : portR port = o2 at *
  repeat' (first | exact allNil | refine allCons ?_ ?_ | (with_reducible refine allRp _ ?_ ?_))
  all_goals first
    | exact rfl
    | exact trivial
    | (with_reducible assumption)
    | exact decide_eq_false (by omega)
    | exact decide_eq_true (by omega)
    | exact beqF (by omega)
    | exact beqF e5
    | exact vbf (beqF e5)
    | exact vbt (beq_t rfl)
    | exact bne_iff_ne.2 e5
    | exact by8 (by omega)
    | (rw [decide_eq_true h2]; rfl)
    | (with_reducible omega)
    | (simp only [t12, l12, t32, l32, List.length_cons]; done)
    | (simp [t12, l12, t32, l32]; done)
set_option maxRecDepth 100000 in
theorem b21x0_is (port v : Int) (h1 : 1 ≤ port) (h2 : port ≤ 65535) : (b21x0 port v (portE port) (portR port)).ok Tryz.prog := by
  have hw : 0 ≤ IntKind.u8.wrap v ∧ IntKind.u8.wrap v < 256 := w8r v
  have e1 := portE_ge port
  have e2 := portE_le port h2
  have e3 := portR_ge port
  have e4 := portR_le port
  have e5 := port_ne port
  have hA := bitA v
  have hB := bitB v
  have s := b21x0_run port v (portE port) (portR port)
  refine outS_ok (kTP_ok _ _ _) s ?_
  clear s
  generalize ha : portE port = o1 at *
  generalize hb : portR port = o2 at *
  repeat' (first | exact allNil | refine allCons ?_ ?_ | (with_reducible refine allRp _ ?_ ?_))
  all_goals first
    | exact rfl
    | exact trivial
    | (with_reducible assumption)
    | exact decide_eq_false (by omega)
    | exact decide_eq_true (by omega)
    | exact beqF (by omega)
    | exact beqF e5
    | exact vbf (beqF e5)
    | exact vbt (beq_t rfl)
    | exact bne_iff_ne.2 e5
    | exact by8 (by omega)
    | (rw [decide_eq_true h2]; rfl)
    | (with_reducible omega)
    | (simp only [t12, l12, t32, l32, List.length_cons]; done)
    | (simp [t12, l12, t32, l32]; done)
set_option maxRecDepth 100000 in
theorem b21x1_is (port v : Int) (h1 : 1 ≤ port) (h2 : port ≤ 65535) : (b21x1 port v (portE port) (portR port)).ok Tryz.prog := by
  have hw : 0 ≤ IntKind.u8.wrap v ∧ IntKind.u8.wrap v < 256 := w8r v
  have e1 := portE_ge port
  have e2 := portE_le port h2
  have e3 := portR_ge port
  have e4 := portR_le port
  have e5 := port_ne port
  have hA := bitA v
  have hB := bitB v
  have s := b21x1_run port v (portE port) (portR port)
  refine outS_ok (kTP_ok _ _ _) s ?_
  clear s
  generalize ha : portE port = o1 at *
  generalize hb : portR port = o2 at *
  repeat' (first | exact allNil | refine allCons ?_ ?_ | (with_reducible refine allRp _ ?_ ?_))
  all_goals first
    | exact rfl
    | exact trivial
    | (with_reducible assumption)
    | exact decide_eq_false (by omega)
    | exact decide_eq_true (by omega)
    | exact beqF (by omega)
    | exact beqF e5
    | exact vbf (beqF e5)
    | exact vbt (beq_t rfl)
    | exact bne_iff_ne.2 e5
    | exact by8 (by omega)
    | (rw [decide_eq_true h2]; rfl)
    | (with_reducible omega)
    | (simp only [t12, l12, t32, l32, List.length_cons]; done)
    | (simp [t12, l12, t32, l32]; done)
set_option maxRecDepth 100000 in
theorem b21x2_is (port v : Int) (h1 : 1 ≤ port) (h2 : port ≤ 65535) : (b21x2 port v (portE port) (portR port)).ok Tryz.prog := by
  have hw : 0 ≤ IntKind.u8.wrap v ∧ IntKind.u8.wrap v < 256 := w8r v
  have e1 := portE_ge port
  have e2 := portE_le port h2
  have e3 := portR_ge port
  have e4 := portR_le port
  have e5 := port_ne port
  have hA := bitA v
  have hB := bitB v
  have s := b21x2_run port v (portE port) (portR port)
  refine outS_ok (kTP_ok _ _ _) s ?_
  clear s
  generalize ha : portE port = o1 at *
  generalize hb : portR port = o2 at *
  repeat' (first | exact allNil | refine allCons ?_ ?_ | (with_reducible refine allRp _ ?_ ?_))
  all_goals first
    | exact rfl
    | exact trivial
    | (with_reducible assumption)
    | exact decide_eq_false (by omega)
    | exact decide_eq_true (by omega)
    | exact beqF (by omega)
    | exact beqF e5
    | exact vbf (beqF e5)
    | exact vbt (beq_t rfl)
    | exact bne_iff_ne.2 e5
    | exact by8 (by omega)
    | (rw [decide_eq_true h2]; rfl)
    | (with_reducible omega)
    | (simp only [t12, l12, t32, l32, List.length_cons]; done)
    | (simp [t12, l12, t32, l32]; done)
set_option maxRecDepth 100000 in
theorem b21x3_is (port v : Int) (h1 : 1 ≤ port) (h2 : port ≤ 65535) : (b21x3 port v (portE port) (portR port)).ok Tryz.prog := by
  have hw : 0 ≤ IntKind.u8.wrap v ∧ IntKind.u8.wrap v < 256 := w8r v
  have e1 := portE_ge port
  have e2 := portE_le port h2
  have e3 := portR_ge port
  have e4 := portR_le port
  have e5 := port_ne port
  have hA := bitA v
  have hB := bitB v
  have s := b21x3_run port v (portE port) (portR port)
  refine outS_ok (kTP_ok _ _ _) s ?_
  clear s
  generalize ha : portE port = o1 at *
  generalize hb : portR port = o2 at *
  repeat' (first | exact allNil | refine allCons ?_ ?_ | (with_reducible refine allRp _ ?_ ?_))
  all_goals first
    | exact rfl
    | exact trivial
    | (with_reducible assumption)
    | exact decide_eq_false (by omega)
    | exact decide_eq_true (by omega)
    | exact beqF (by omega)
    | exact beqF e5
    | exact vbf (beqF e5)
    | exact vbt (beq_t rfl)
    | exact bne_iff_ne.2 e5
    | exact by8 (by omega)
    | (rw [decide_eq_true h2]; rfl)
    | (with_reducible omega)
    | (simp only [t12, l12, t32, l32, List.length_cons]; done)
    | (simp [t12, l12, t32, l32]; done)
set_option maxRecDepth 100000 in
theorem walk21 (port v : Int) (h1 : 1 ≤ port) (h2 : port ≤ 65535) : ∃ L' nx', ACall Tryz.prog 4 [.val (.int .i64 2), .val (.int .i64 1), .val (.int .i64 port), .val (.int .i64 v)] [] 0 (.val (.bool true)) L' nx' := by
  have c : ∀ c ∈ [b21x0 port v (portE port) (portR port), b21x1 port v (portE port) (portR port), b21x2 port v (portE port) (portR port), b21x3 port v (portE port) (portR port)], c.ok Tryz.prog := by
    intro c hc
    simp only [List.mem_cons, List.not_mem_nil, or_false] at hc
    rcases hc with rfl | rfl | rfl | rfl
    all_goals first | exact b21x0_is port v h1 h2 | exact b21x1_is port v h1 h2 | exact b21x2_is port v h1 h2 | exact b21x3_is port v h1 h2
  have hw : 0 ≤ IntKind.u8.wrap v ∧ IntKind.u8.wrap v < 256 := w8r v
  have e1 := portE_ge port
  have e2 := portE_le port h2
  have e3 := portR_ge port
  have e4 := portR_le port
  have e5 := port_ne port
  have hA := bitA v
  have hB := bitB v
  have s := topPorts_21 port v (portE port) (portR port)
  refine ⟨_, _, (outS_ok (orInl_ok (kBo_ok c) (kTP_ok _ _ _)) s ?_).1⟩
  clear s c
  generalize ha : portE port = o1 at *
  generalize hb : portR port = o2 at *
  repeat' (first | exact allNil | refine allCons ?_ ?_ | (with_reducible refine allRp _ ?_ ?_))
  all_goals first
    | exact rfl
    | exact trivial
    | (with_reducible assumption)
    | exact decide_eq_false (by omega)
    | exact decide_eq_true (by omega)
    | exact beqF (by omega)
    | exact beqF e5
    | exact vbf (beqF e5)
    | exact vbt (beq_t rfl)
    | exact bne_iff_ne.2 e5
    | exact by8 (by omega)
    | (rw [decide_eq_true h2]; rfl)
    | (with_reducible omega)
    | (simp only [t12, l12, t32, l32, List.length_cons]; done)
    | (simp [t12, l12, t32, l32]; done)
theorem walk (a b port v : Int) (ha : (Lit.int .i64 a).wf = true) (hb : (Lit.int .i64 b).wf = true) (hport : (Lit.int .i64 port).wf = true) (hv : (Lit.int .i64 v).wf = true) : ∃ L' nx', ACall Tryz.prog 4 [.val (.int .i64 a), .val (.int .i64 b), .val (.int .i64 port), .val (.int .i64 v)] [] 0 (.val (.bool true)) L' nx' := by
  by_cases h : 0 ≤ a ∧ a ≤ 2 ∧ 0 ≤ b ∧ b ≤ 2 ∧ a ≠ b ∧ 1 ≤ port ∧ port ≤ 65535
  · obtain ⟨h1, h2, h3, h4, h5, h6, h7⟩ := h
    have ca : a = 0 ∨ a = 1 ∨ a = 2 := by omega
    have cb : b = 0 ∨ b = 1 ∨ b = 2 := by omega
    rcases ca with rfl | rfl | rfl <;> rcases cb with rfl | rfl | rfl
    · exact absurd rfl h5
    · exact walk01 port v h6 h7
    · exact walk02 port v h6 h7
    · exact walk10 port v h6 h7
    · exact absurd rfl h5
    · exact walk12 port v h6 h7
    · exact walk20 port v h6 h7
    · exact walk21 port v h6 h7
    · exact absurd rfl h5
  · exact ports_out a b port v h
end Go.Proofs.YtfofhpkafhpicaaGreatDoor.topPorts
