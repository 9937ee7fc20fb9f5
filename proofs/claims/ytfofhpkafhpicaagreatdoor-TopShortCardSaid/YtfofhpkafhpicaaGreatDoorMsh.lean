/- Several texts in one: Sh0, Shu, Shx. -/
import Derived.Test.YtfofhpkafhpicaaGreatDoorMpx
import Derived.Test.YtfofhpkafhpicaaGreatDoorMzp
import Derived.Test.YtfofhpkafhpicaaGreatDoorRp

/- The world that the loop of the law TopShort meets: objects 0 to 24; what its head says, with the mapping (gA) and without (gD). -/
namespace Go.Proofs.YtfofhpkafhpicaaGreatDoor
open Go.RowKit
set_option linter.unusedVariables false
abbrev wn (nw : Int) : Int := IntKind.wrap IntKind.i64 (nw + 1)
def sh0 : AObj := { t := 64, sz := 2, exact := true, fz := false, body := Body.rows [[AV.ptr 1 0 0, AV.ptr 2 0 0]] }
def sh1 (nw : Int) (dr : Int) : AObj := { t := 124, sz := 51, exact := true, fz := false, body := Body.rows [[vi8 192, vi8 168, vi8 1, vi8 1, vi8 192, vi8 168, vi8 1, vi8 0, vi64 24, vi8 2, vi8 0, vi8 0, vi8 0, vi8 0, vi8 1, vi8 2, vi8 0, vi8 0, vi8 0, vi8 0, vi8 2, vi8 192, vi8 168, vi8 1, vi8 100, vi8 192, vi8 168, vi8 1, vi8 131, vi64 3600, vi8 9, vi8 9, vi8 9, vi8 9, vi64 120, vi64 7200, vi64 30, vi64 40000, v0, v0, vi64 nw, vi32 dr, AV.ptr 3 0 0, AV.ptr 4 0 0, AV.ptr 5 0 0, AV.ptr 6 0 0, AV.ptr 7 0 0, AV.ptr 8 0 0, AV.ptr 9 0 0, AV.ptr 10 0 0, v0]] }
def sh2 : AObj := { t := 60, sz := 146, exact := true, fz := false, body := Body.rows [[vi8 192, vi8 168, vi8 1, vi8 1, vi8 192, vi8 168, vi8 1, vi8 0, vi64 24, vi8 2, vi8 0, vi8 0, vi8 0, vi8 0, vi8 1, vi8 2, vi8 0, vi8 0, vi8 0, vi8 0, vi8 2, vi8 192, vi8 168, vi8 1, vi8 100, vi8 192, vi8 168, vi8 1, vi8 131, vi64 3600, vi8 9, vi8 9, vi8 9, vi8 9, vi64 120, vi64 7200, vi64 30, vi64 40000, v0, v0, vi8 192, vi8 168, vi8 1, vi8 100, vi8 192, vi8 168, vi8 1, vi8 101, vi8 192, vi8 168, vi8 1, vi8 102, vi8 0, vi8 0, vi8 0, vi8 0, vi8 0, vi8 0, vi8 0, vi8 0, vi8 0, vi8 0, vi8 0, vi8 0, vi8 0, vi8 0, vi8 0, vi8 0, vi8 0, vi8 0, vi8 0, vi8 0, vi8 203, vi8 0, vi8 113, vi8 1, vb true, vi64 0, vi64 0, vi64 0, vi64 0, vi64 63, vi64 17, vi8 203, vi8 0, vi8 113, vi8 1, vi8 8, vi8 8, vi8 4, vi8 1, AV.sl 11 0 0 none, AV.sl 12 0 12 none, vb true, vi64 0, vi64 0, vi64 0, vi64 0, vi64 0, vi64 0, vi8 0, vi8 0, vi8 0, vi8 0, vi8 0, vi8 0, vi8 0, vi8 0, v0, v0, vi64 0, vi64 0, v0, v0, v0, v0, v0, vi64 1, vi64 0, vi32 5, vi64 0, vi64 32768, vi8 0, vi8 0, vi8 0, vi8 0, vi8 0, vi8 0, vi8 0, vi8 0, vi8 0, vi8 0, vi8 0, vi8 0, vi8 0, vi8 0, vi8 0, vi8 0, vi8 2, vi8 0, vi8 0, vi8 0, vi8 0, vi8 2, AV.sl 13 0 4 none, vb false]] }
def sh3 (nw : Int) : AObj := { t := 298, sz := 3, exact := true, fz := false, body := Body.rows [[vi64 600, vi64 nw, v0]] }
def sh4 (nw : Int) : AObj := { t := 298, sz := 3, exact := true, fz := false, body := Body.rows [[vi64 600, vi64 nw, AV.sl 14 0 1 none]] }
def sh5 : AObj := { t := 259, sz := 41, exact := true, fz := false, body := Body.rows [[vi8 192, vi8 168, vi8 1, vi8 1, vi8 192, vi8 168, vi8 1, vi8 0, vi64 24, vi8 2, vi8 0, vi8 0, vi8 0, vi8 0, vi8 1, vi8 2, vi8 0, vi8 0, vi8 0, vi8 0, vi8 2, vi8 192, vi8 168, vi8 1, vi8 100, vi8 192, vi8 168, vi8 1, vi8 131, vi64 3600, vi8 9, vi8 9, vi8 9, vi8 9, vi64 120, vi64 7200, vi64 30, vi64 40000, v0, v0, AV.ptr 15 0 0]] }
def sh6 (nw : Int) : AObj := { t := 271, sz := 38, exact := true, fz := false, body := Body.rows [[vi8 2, vi8 0, vi8 0, vi8 0, vi8 0, vi8 2, vi64 3, vi64 nw, vi32 5, vi8 203, vi8 0, vi8 113, vi8 1, vi8 255, vi8 255, vi8 255, vi8 0, vi8 203, vi8 0, vi8 113, vi8 254, vi8 203, vi8 0, vi8 113, vi8 254, vi64 3001, vi64 1, vi8 203, vi8 0, vi8 113, vi8 1, vi8 203, vi8 0, vi8 113, vi8 254, vi64 1, vi64 4, vi64 1]] }
def sh7 (nw : Int) : AObj := { t := 331, sz := 4, exact := true, fz := false, body := Body.rows [[vi64 40000, vi64 128, vi64 nw, AV.sl 16 0 1 none]] }
def sh8 : AObj := { t := 340, sz := 5, exact := true, fz := false, body := Body.rows [[AV.ptr 7 0 0, AV.ptr 17 0 0, vi64 120, vi64 7200, vi64 30]] }
def sh9 : AObj := { t := 286, sz := 3, exact := true, fz := false, body := Body.rows [[vi64 32, v0, AV.ptr 18 0 0]] }
def sh10 (m : Nat) : AObj := { t := 345, sz := 3, exact := true, fz := false, body := Body.rows [[AV.ptr 7 0 0, vi64 0, AV.sl 19 0 m none]] }
def sh11 : AObj := { t := 5, sz := 1, exact := false, fz := false, body := Body.bytes [] }
def sh12 (o1 : Int) : AObj := { t := 5, sz := 1, exact := false, fz := false, body := Body.bytes (udpP 203 0 113 1 8 8 4 1 o1 80 dta) }
def sh13 : AObj := { t := 184, sz := 2, exact := false, fz := false, body := Body.rows [[vi64 53, AV.sl 20 0 1 none], [vi64 50, AV.sl 21 0 4 none], [vi64 54, AV.sl 22 0 4 none], [vi64 55, AV.sl 23 0 3 none]] }
def sh14 : AObj := { t := 296, sz := 14, exact := false, fz := false, body := Body.rows [[vi8 203, vi8 0, vi8 113, vi8 254, vb true, vi8 2, vi8 2, vi8 0, vi8 0, vi8 0, vi8 1, vi64 1, vi64 0, v0]] }
def sh15 (nw : Int) : AObj := { t := 405, sz := 6, exact := true, fz := false, body := Body.rows [[vi32 3232235876, vi32 3232235907, v0, AV.sl 24 0 3 none, AV.emap, vi64 nw]] }
def sh16 (x : Int) (port : Int) (o1 : Int) : AObj := { t := 174, sz := 9, exact := false, fz := false, body := Body.rows [[vi64 17, vi64 o1, vi8 192, vi8 168, vi8 1, vi8 x, vi64 port, vi64 1, vi64 121]] }
def sh17 : AObj := { t := 456, sz := 2, exact := true, fz := false, body := Body.rows [[vi64 128, v0]] }
def sh18 : AObj := { t := 459, sz := 2, exact := true, fz := false, body := Body.rows [[vi64 64, v0]] }
def sh19 (e0 : Int) (e1 : Int) (e2 : Int) (e3 : Int) (e4 : Int) (e5 : Int) (e6 : Int) (e7 : Int) (e8 : Int) (e9 : Int) : AObj := { t := 2, sz := 1, exact := false, fz := false, body := Body.rows [[vi64 e0], [vi64 e1], [vi64 e2], [vi64 e3], [vi64 e4], [vi64 e5], [vi64 e6], [vi64 e7], [vi64 e8], [vi64 e9]] }
def sh20 : AObj := { t := 5, sz := 1, exact := false, fz := false, body := Body.bytes [(3 : UInt8)] }
def sh21 : AObj := { t := 5, sz := 1, exact := false, fz := false, body := Body.bytes [203, 0, 113, (1 : UInt8)] }
def sh22 : AObj := { t := 5, sz := 1, exact := false, fz := false, body := Body.bytes [203, 0, 113, (254 : UInt8)] }
def sh23 : AObj := { t := 5, sz := 1, exact := false, fz := false, body := Body.bytes [1, 3, (6 : UInt8)] }
def sh24 : AObj := { t := 408, sz := 12, exact := false, fz := false, body := Body.rows [[vi8 2, vi8 1, vi8 0, vi8 0, vi8 0, vi8 0, vi8 192, vi8 168, vi8 1, vi8 100, vi64 3601, vb false], [vi8 2, vi8 1, vi8 0, vi8 0, vi8 0, vi8 1, vi8 192, vi8 168, vi8 1, vi8 101, vi64 3601, vb false], [vi8 2, vi8 1, vi8 0, vi8 0, vi8 0, vi8 2, vi8 192, vi8 168, vi8 1, vi8 102, vi64 3601, vb false]] }
def shC : List (Nat × AObj) := [(0, sh0), (2, sh2), (5, sh5), (8, sh8), (9, sh9), (11, sh11), (13, sh13), (14, sh14), (17, sh17), (18, sh18), (20, sh20), (21, sh21), (22, sh22), (23, sh23), (24, sh24)]
def shA (x port o1 : Int) (nw dr : Int) (m : Nat) (e0 e1 e2 e3 e4 e5 e6 e7 e8 e9 : Int) : List (Nat × AObj) := [(1, sh1 nw dr), (3, sh3 nw), (4, sh4 nw), (6, sh6 nw), (7, sh7 nw), (10, sh10 m), (12, sh12 o1), (15, sh15 nw), (16, sh16 x port o1), (19, sh19 e0 e1 e2 e3 e4 e5 e6 e7 e8 e9)]
def gA (x port o1 wait i : Int) (nw dr : Int) (m : Nat) (e0 e1 e2 e3 e4 e5 e6 e7 e8 e9 : Int) : GoalX := { len := 62, tms := [(7, .ptr 0 0 0)], opn := [(2, vi64 wait), (8, vi64 i)], objs := shC, oob := shA x port o1 nw dr m e0 e1 e2 e3 e4 e5 e6 e7 e8 e9, k := 25 }
def sd7 (nw : Int) : AObj := { t := 331, sz := 4, exact := true, fz := false, body := Body.rows [[vi64 40000, vi64 128, vi64 nw, AV.sl 16 0 0 none]] }
def sd16 : AObj := { t := 174, sz := 9, exact := false, fz := false, body := Body.rows [[vi64 0, vi64 0, vi8 0, vi8 0, vi8 0, vi8 0, vi64 0, vi64 0, vi64 0]] }
def shD (o1 : Int) (nw dr : Int) (m : Nat) (e0 e1 e2 e3 e4 e5 e6 e7 e8 e9 : Int) : List (Nat × AObj) := [(1, sh1 nw dr), (3, sh3 nw), (4, sh4 nw), (6, sh6 nw), (7, sd7 nw), (10, sh10 m), (12, sh12 o1), (15, sh15 nw), (16, sd16 ), (19, sh19 e0 e1 e2 e3 e4 e5 e6 e7 e8 e9)]
def gD (o1 wait i : Int) (nw dr : Int) (m : Nat) (e0 e1 e2 e3 e4 e5 e6 e7 e8 e9 : Int) : GoalX := { len := 62, tms := [(7, .ptr 0 0 0)], opn := [(2, vi64 wait), (8, vi64 i)], objs := shC, oob := shD o1 nw dr m e0 e1 e2 e3 e4 e5 e6 e7 e8 e9, k := 25 }
end Go.Proofs.YtfofhpkafhpicaaGreatDoor

/- What is known in a run of the law TopShort: the gateway as it begins, at the number that this law comes with, and what TopPorts knows. -/
namespace Go.Proofs.YtfofhpkafhpicaaGreatDoor
open Go.RowKit
set_option linter.unusedVariables false
set_option linter.unusedSimpArgs false

theorem ACall.down {P : Program} {g : FuncId} {xs : List AV} {L L' : List (Nat × AObj)} {nx n2 n' : Nat} {v : AV} (h : ACall P g xs L nx v L' n') (hle : n2 ≤ nx) : ACall P g xs L n2 v L' n' := by
  intro E w vs s r
  refine Calls.mono (h E w vs ⟨s.rows, s.inj, fun id hid => s.fresh id (Nat.le_trans hle hid), s.imm⟩ r) fun e w' hh => ?_
  obtain ⟨E', u, rfl, t1, t2, t3⟩ := hh
  exact ⟨E', u, rfl, t1, t2, ⟨t3.f, fun id p h => (t3.nw id p h).imp (fun h => h) (fun h => Nat.le_trans hle h), t3.I, t3.I', t3.fr, t3.hb, t3.size, t3.os, t3.tape, t3.output⟩⟩

def upS : CC := { upC22 with nx := 4316 }
theorem upS_is : upS.ok Tryz.prog := ⟨ACall.down upC22_is.1 (by decide), Nat.le_trans (by decide) upC22_is.2⟩
def kUpS : Inl := kCC [upS]
theorem kUpS_ok : InlOk Tryz.prog kUpS := kCC_ok fun c hc => by
  simp only [List.mem_cons, List.not_mem_nil, or_false] at hc
  exact hc ▸ upS_is
def kTS (ns : List (Nat × Sp)) (o1 : Int) : Inl := orInl kUpS (kTP ns o1 o1)
theorem kTS_ok (ns : List (Nat × Sp)) (o1 : Int) : InlOk Tryz.prog (kTS ns o1) := orInl_ok kUpS_ok (kTP_ok ns o1 o1)
end Go.Proofs.YtfofhpkafhpicaaGreatDoor

/- The law TopShort at numbers out of range: it answers true. -/
namespace Go.Proofs.YtfofhpkafhpicaaGreatDoor
open Go.RowKit
set_option linter.unusedVariables false
set_option linter.unusedSimpArgs false

set_option maxRecDepth 100000 in
theorem topShort_x (n : Int) (port : Int) (wait : Int) : outT kAct0 [(5, { op := [(3, 5, .mrg), (3, 9, .mrg), (3, 13, .mrg), (3, 17, .mrg), (3, 21, .mrg)], br := [(34, true)], sp := [(3, 3), (3, 4), (3, 7), (3, 8), (3, 11), (3, 12), (3, 15), (3, 16), (3, 19), (3, 20)] })] Tryz.prog 5 [vi64 n, vi64 port, vi64 wait] [] 0 = some (AV.val (Value.bool true), [], 4315, ((!decide (n < (0 : Int))) = true → (!decide (n < (0 : Int))) = true) :: (decide (n < (0 : Int)) = false → (!decide (n < (0 : Int))) = true) :: ((!bif decide (n < (0 : Int)) then true else decide (n > (2 : Int))) = true → (!bif decide (n < (0 : Int)) then true else decide (n > (2 : Int))) = true) :: ((bif decide (n < (0 : Int)) then true else decide (n > (2 : Int))) = false → (!bif decide (n < (0 : Int)) then true else decide (n > (2 : Int))) = true) :: ((!bif bif decide (n < (0 : Int)) then true else decide (n > (2 : Int)) then true else decide (port < (1 : Int))) = true → (!bif bif decide (n < (0 : Int)) then true else decide (n > (2 : Int)) then true else decide (port < (1 : Int))) = true) :: ((bif bif decide (n < (0 : Int)) then true else decide (n > (2 : Int)) then true else decide (port < (1 : Int))) = false → (!bif bif decide (n < (0 : Int)) then true else decide (n > (2 : Int)) then true else decide (port < (1 : Int))) = true) :: ((!bif bif bif decide (n < (0 : Int)) then true else decide (n > (2 : Int)) then true else decide (port < (1 : Int)) then true else decide (port > (65535 : Int))) = true → (!bif bif bif decide (n < (0 : Int)) then true else decide (n > (2 : Int)) then true else decide (port < (1 : Int)) then true else decide (port > (65535 : Int))) = true) :: ((bif bif bif decide (n < (0 : Int)) then true else decide (n > (2 : Int)) then true else decide (port < (1 : Int)) then true else decide (port > (65535 : Int))) = false → (!bif bif bif decide (n < (0 : Int)) then true else decide (n > (2 : Int)) then true else decide (port < (1 : Int)) then true else decide (port > (65535 : Int))) = true) :: ((!bif bif bif bif decide (n < (0 : Int)) then true else decide (n > (2 : Int)) then true else decide (port < (1 : Int)) then true else decide (port > (65535 : Int)) then true else decide (wait < (0 : Int))) = true → (!bif bif bif bif decide (n < (0 : Int)) then true else decide (n > (2 : Int)) then true else decide (port < (1 : Int)) then true else decide (port > (65535 : Int)) then true else decide (wait < (0 : Int))) = true) :: ((bif bif bif bif decide (n < (0 : Int)) then true else decide (n > (2 : Int)) then true else decide (port < (1 : Int)) then true else decide (port > (65535 : Int)) then true else decide (wait < (0 : Int))) = false → (!bif bif bif bif decide (n < (0 : Int)) then true else decide (n > (2 : Int)) then true else decide (port < (1 : Int)) then true else decide (port > (65535 : Int)) then true else decide (wait < (0 : Int))) = true) :: ((bif bif bif bif bif decide (n < (0 : Int)) then true else decide (n > (2 : Int)) then true else decide (port < (1 : Int)) then true else decide (port > (65535 : Int)) then true else decide (wait < (0 : Int)) then true else decide (wait > (200 : Int))) = true) :: []) := by kernel_rfl

theorem short_out (n port wait : Int) (h : ¬ (0 ≤ n ∧ n ≤ 2 ∧ 1 ≤ port ∧ port ≤ 65535 ∧ 0 ≤ wait ∧ wait ≤ 200)) :
    ∃ L' nx', ACall Tryz.prog 5 [.val (.int .i64 n), .val (.int .i64 port), .val (.int .i64 wait)] [] 0 (.val (.bool true)) L' nx' := by
  have hl : (bif bif bif bif bif decide (n < (0 : Int)) then true else decide (n > (2 : Int)) then true else decide (port < (1 : Int)) then true else decide (port > (65535 : Int)) then true else decide (wait < (0 : Int)) then true else decide (wait > (200 : Int))) = true := by
    by_cases h1 : n < 0
    · rw [decide_eq_true h1]; rfl
    rw [decide_eq_false h1]
    by_cases h2 : n > 2
    · rw [decide_eq_true h2]; rfl
    rw [decide_eq_false h2]
    by_cases h3 : port < 1
    · rw [decide_eq_true h3]; rfl
    rw [decide_eq_false h3]
    by_cases h4 : port > 65535
    · rw [decide_eq_true h4]; rfl
    rw [decide_eq_false h4]
    by_cases h5 : wait < 0
    · rw [decide_eq_true h5]; rfl
    rw [decide_eq_false h5]
    exact decide_eq_true (by omega)
  refine ⟨_, _, (outT_ok kAct0_ok (topShort_x n port wait) ?_).1⟩
  repeat' (first | exact allNil | refine allCons ?_ ?_ | (with_reducible refine allRp _ ?_ ?_))
  all_goals first | exact fun h => h | exact fun h => by rw [h]; rfl | exact hl
end Go.Proofs.YtfofhpkafhpicaaGreatDoor
