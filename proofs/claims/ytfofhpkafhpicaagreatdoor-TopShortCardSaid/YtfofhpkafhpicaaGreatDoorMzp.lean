/- Several texts in one: Zw, ZpRun, Zp, Zt. -/
import Derived.Test.YtfofhpkafhpicaaGreatDoorMbw
import Derived.Test.YtfofhpkafhpicaaGreatDoorMkt
import Derived.Test.YtfofhpkafhpicaaGreatDoorRp
import Derived.Test.YtfofhpkafhpicaaGreatDoorMzl

/- Less is told of what a call leaves; a contract that turns nothing, used at other numbers. (Cut out of two texts of chapter 19.) -/
namespace Go.Proofs.YtfofhpkafhpicaaGreatDoor
open Go.RowKit
set_option linter.unusedVariables false
set_option linter.unusedSimpArgs false

theorem ACall.weak {P : Program} {g : FuncId} {xs : List AV} {L L1 L2 : List (Nat × AObj)} {nx n1 : Nat} {v : AV} (h : ACall P g xs L nx v L1 n1) (hs : ∀ id o, hp L2 id = some o → hp L1 id = some o) : ACall P g xs L nx v L2 n1 := by
  intro E w vs s r
  refine Calls.mono (h E w vs s r) fun e w' hh => ?_
  obtain ⟨E', u, rfl, t1, t2, t3⟩ := hh
  exact ⟨E', u, rfl, t1.sub hs, t2, ⟨t3.f, t3.nw, t3.I, t3.I', t3.fr, fun b ⟨id, o, c, z, h1, h2⟩ => t3.hb b ⟨id, o, c, z, hs id o h1, h2⟩, t3.size, t3.os, t3.tape, t3.output⟩⟩

theorem hp_filter_of (f : Nat → Bool) : ∀ (K : List (Nat × AObj)) (k : Nat), f k = true → hp (K.filter fun p => f p.1) k = hp K k
  | [], k, _ => rfl
  | (i, y) :: K, k, h => by
    by_cases hf : f i = true
    · rw [List.filter_cons_of_pos (by simpa using hf)]
      simp only [hp]
      rw [hp_filter_of f K k h]
    · rw [List.filter_cons_of_neg (by simpa using hf), hp_filter_of f K k h]
      simp only [hp]
      rw [if_neg fun e => hf (by rw [← e]; exact h)]

theorem hp_app_of {A B : List (Nat × AObj)} {k : Nat} {x : AObj} : hp A k = some x → hp (A ++ B) k = some x := by
  induction A with
  | nil => intro h; cases h
  | cons a A ih =>
    intro h
    simp only [List.cons_append, hp] at h ⊢
    split
    · rename_i c; rw [if_pos c] at h; exact h
    · rename_i c; rw [if_neg c] at h; exact ih h
theorem hp_app_none {A B : List (Nat × AObj)} {k : Nat} : hp A k = none → hp (A ++ B) k = hp B k := by
  induction A with
  | nil => intro _; rfl
  | cons a A ih =>
    intro h
    simp only [List.cons_append, hp] at h ⊢
    split
    · rename_i c; rw [if_pos c] at h; cases h
    · rename_i c; rw [if_neg c] at h; exact ih h

theorem ACall.usedW {P : Program} {g : FuncId} {xs : List AV} {M K : List (Nat × AObj)} {n1 : Nat} {v : AV} {ids : List Nat} (h : ACall P g xs M ids.length v M n1) {nx : Nat} (hnd : ids.Nodup) (hlt : ∀ i ∈ ids, i < nx) (hle : ids.length ≤ n1)
    (hL : ∀ k x, hp M k = some x → k < ids.length ∧ hp K (renN ids nx k) = some (x.ren (renN ids nx))) (hc : ∀ k, k < ids.length → ∃ x, hp M k = some x) (hv : v.ren (renN ids nx) = v) :
    ACall P g (renL (renN ids nx) xs) K nx v K (nx + (n1 - ids.length)) := by
  have inj : ∀ i j, renN ids nx i = renN ids nx j → i = j := renN_inj hnd hlt
  have u := ACall.used h hnd hlt hle hL
  rw [hv] at u
  refine u.weak fun id o ho => ?_
  by_cases hi : id ∈ ids
  · obtain ⟨k, hk, e⟩ := List.getElem_of_mem hi
    have er : renN ids nx k = id := by
      unfold renN
      rw [List.getD_eq_getElem?_getD, List.getElem?_eq_getElem hk, Option.getD_some, e]
    obtain ⟨x, hx⟩ := hc k hk
    have h1 := (hL k x hx).2
    rw [er, ho] at h1
    refine hp_app_of ?_
    rw [← er, hp_renH inj, hx, h1]
    rfl
  · have hn : hp (renH (renN ids nx) M) id = none := by
      cases h1 : hp (renH (renN ids nx) M) id with
      | none => rfl
      | some y =>
        obtain ⟨k, x, h2, _, h3⟩ := hp_renH_inv inj _ _ _ h1
        have hk := (hL k x h3).1
        exact absurd (by rw [h2]; unfold renN; rw [List.getD_eq_getElem?_getD, List.getElem?_eq_getElem hk, Option.getD_some]; exact List.getElem_mem hk) hi
    rw [hp_app_none hn, hp_filter_of (fun k => !ids.contains k) K id (by simpa using hi)]
    exact ho
end Go.Proofs.YtfofhpkafhpicaaGreatDoor

/- The port that a flow is given, reckoned. (Printed by wip/sym/pksym.py.) -/
namespace Go.Proofs.YtfofhpkafhpicaaGreatDoor
open Go.RowKit
set_option linter.unusedVariables false
set_option linter.unusedSimpArgs false

set_option maxRecDepth 100000 in
theorem port_e_lo (a0 : Int) (a1 : Int) (a2 : Int) (a3 : Int) (p : Int) (nw : Int) (tn : Int) : outT noneKnown [(581, { op := [(1, 16, .br false)], gd := [(1, 8, false), (1, 9, false), (1, 10, false), (1, 11, false), (1, 12, false), (1, 13, false), (1, 14, false), (1, 15, false)], ob := [(6, 5)] }),
   (165, { ob := [(1, 5)] })] Tryz.prog 581 [AV.ptr 0 0 0, AV.agg [AV.val (Value.int IntKind.i64 (17 : Int)), AV.val (Value.int IntKind.u8 a0), AV.val (Value.int IntKind.u8 a1), AV.val (Value.int IntKind.u8 a2), AV.val (Value.int IntKind.u8 a3), AV.val (Value.int IntKind.i64 p)], AV.val (Value.int IntKind.i64 nw)] [(0, { t := 331, sz := 4, exact := true, fz := false, body := Body.rows [[AV.val (Value.int IntKind.i64 (40000 : Int)), AV.val (Value.int IntKind.i64 (128 : Int)), AV.val (Value.int IntKind.i64 tn), AV.val (Value.slice none 0 0)]] })] 1 =
   some (AV.tup [AV.val (Value.int IntKind.i64 (40000 : Int)), AV.val (Value.bool true)], [(0, { t := 331, sz := 4, exact := true, fz := false, body := Body.rows [[AV.val (Value.int IntKind.i64 (40000 : Int)), AV.val (Value.int IntKind.i64 (128 : Int)), AV.val (Value.int IntKind.i64 tn), AV.val (Value.slice none 0 0)]] })], 55,
   rp 9 (decide (p ≥ (40000 : Int)) = false) ( [])) := by kernel_rfl

set_option maxRecDepth 100000 in
theorem port_e_hi (a0 : Int) (a1 : Int) (a2 : Int) (a3 : Int) (p : Int) (nw : Int) (tn : Int) : outT noneKnown [(581, { op := [(1, 14, .keep), (1, 16, .br true)], gd := [(1, 8, true), (1, 9, true), (1, 10, true), (1, 11, true), (1, 12, true), (1, 13, true), (1, 14, true), (1, 15, true)], ob := [(1, 14)] }),
   (165, { ob := [(1, 5)] })] Tryz.prog 581 [AV.ptr 0 0 0, AV.agg [AV.val (Value.int IntKind.i64 (17 : Int)), AV.val (Value.int IntKind.u8 a0), AV.val (Value.int IntKind.u8 a1), AV.val (Value.int IntKind.u8 a2), AV.val (Value.int IntKind.u8 a3), AV.val (Value.int IntKind.i64 p)], AV.val (Value.int IntKind.i64 nw)] [(0, { t := 331, sz := 4, exact := true, fz := false, body := Body.rows [[AV.val (Value.int IntKind.i64 (40000 : Int)), AV.val (Value.int IntKind.i64 (128 : Int)), AV.val (Value.int IntKind.i64 tn), AV.val (Value.slice none 0 0)]] })] 1 =
   some (AV.tup [AV.val (Value.int IntKind.i64 p), AV.val (Value.bool true)], [(0, { t := 331, sz := 4, exact := true, fz := false, body := Body.rows [[AV.val (Value.int IntKind.i64 (40000 : Int)), AV.val (Value.int IntKind.i64 (128 : Int)), AV.val (Value.int IntKind.i64 tn), AV.val (Value.slice none 0 0)]] })], 42,
   rp 7 (decide (p ≥ (40000 : Int)) = true) (
   (SameO (some { t := 331, sz := 4, exact := true, fz := false, body := Body.rows [[AV.val (Value.int IntKind.i64 (40000 : Int)), AV.val (Value.int IntKind.i64 (128 : Int)), AV.val (Value.int IntKind.i64 tn), AV.val (Value.slice none 0 0)]] }) { t := 331, sz := 4, exact := true, fz := false, body := Body.rows [[AV.val (Value.int IntKind.i64 (40000 : Int)), AV.val (Value.int IntKind.i64 (128 : Int)), AV.val (Value.int IntKind.i64 tn), AV.val (Value.slice none 0 0)]] }) ::
   rp 2 (decide (p ≥ (40000 : Int)) = true) ( []))) := by kernel_rfl

set_option maxRecDepth 100000 in
theorem port_r_lo (a0 : Int) (a1 : Int) (a2 : Int) (a3 : Int) (p : Int) (nw : Int) (tn : Int) (o : Int) (x0 : Int) (x1 : Int) (x2 : Int) (x3 : Int) (q : Int) (un : Int) : outS noneKnown [(129000283, { op := [(1, 14, .br false)], gd := [(1, 11, false), (1, 12, false), (1, 13, false)] }),
   (61000283, { op := [(1, 14, .br true)], gd := [(1, 11, true), (1, 12, true), (1, 13, true)] }),
   (48000282, { br := [(16, true)], ob := [(4, 5)] }),
   (581, { op := [(1, 16, .br false)], gd := [(1, 8, false), (1, 9, false), (1, 10, false), (1, 11, false), (1, 12, false), (1, 13, false), (1, 14, false), (1, 15, false)], ob := [(6, 5)] }),
   (165, { ob := [(1, 5)] }),
   (116000282, { ob := [(4, 5)] })] Tryz.prog 581 [AV.ptr 0 0 0, AV.agg [AV.val (Value.int IntKind.i64 (17 : Int)), AV.val (Value.int IntKind.u8 a0), AV.val (Value.int IntKind.u8 a1), AV.val (Value.int IntKind.u8 a2), AV.val (Value.int IntKind.u8 a3), AV.val (Value.int IntKind.i64 p)], AV.val (Value.int IntKind.i64 nw)] [(0, { t := 331, sz := 4, exact := true, fz := false, body := Body.rows [[AV.val (Value.int IntKind.i64 (40000 : Int)), AV.val (Value.int IntKind.i64 (128 : Int)), AV.val (Value.int IntKind.i64 tn), AV.sl 1 0 1 none]] }), (1, { t := 174, sz := 9, exact := false, fz := false, body := Body.rows [[AV.val (Value.int IntKind.i64 (17 : Int)), AV.val (Value.int IntKind.i64 o), AV.val (Value.int IntKind.u8 x0), AV.val (Value.int IntKind.u8 x1), AV.val (Value.int IntKind.u8 x2), AV.val (Value.int IntKind.u8 x3), AV.val (Value.int IntKind.i64 q), AV.val (Value.int IntKind.i64 (1 : Int)), AV.val (Value.int IntKind.i64 un)]] })] 2 =
   some (AV.tup [AV.val (Value.int IntKind.i64 (40001 : Int)), AV.val (Value.bool true)], [(1, { t := 174, sz := 9, exact := false, fz := false, body := Body.rows [[AV.val (Value.int IntKind.i64 (17 : Int)), AV.val (Value.int IntKind.i64 o), AV.val (Value.int IntKind.u8 x0), AV.val (Value.int IntKind.u8 x1), AV.val (Value.int IntKind.u8 x2), AV.val (Value.int IntKind.u8 x3), AV.val (Value.int IntKind.i64 q), AV.val (Value.int IntKind.i64 (1 : Int)), AV.val (Value.int IntKind.i64 un)]] }), (0, { t := 331, sz := 4, exact := true, fz := false, body := Body.rows [[AV.val (Value.int IntKind.i64 (40000 : Int)), AV.val (Value.int IntKind.i64 (128 : Int)), AV.val (Value.int IntKind.i64 tn), AV.sl 1 0 1 none]] })], 153,
   rp 9 (decide (p ≥ (40000 : Int)) = false) (
   rp 4 ((o == (40000 : Int)) = true) (
   (decide (nw < un) = true) ::
   rp 4 ((o == (40001 : Int)) = false) ( [])))) := by kernel_rfl

set_option maxRecDepth 100000 in
theorem port_r_eq (a0 : Int) (a1 : Int) (a2 : Int) (a3 : Int) (p : Int) (nw : Int) (tn : Int) (o : Int) (x0 : Int) (x1 : Int) (x2 : Int) (x3 : Int) (q : Int) (un : Int) : outS noneKnown [(185000283, { op := [(1, 14, .br false)], gd := [(1, 11, false), (1, 12, false), (1, 13, false)] }),
   (34000282, { br := [(16, true)], ob := [(4, 5)] }),
   (172000282, { ob := [(4, 5)] }),
   (104000282, { br := [(16, true)], ob := [(4, 5)] }),
   (47000283, { op := [(1, 14, .br true)], gd := [(1, 11, true), (1, 12, true), (1, 13, true)] }),
   (581, { op := [(1, 14, .keep), (1, 16, .br true)], gd := [(1, 8, true), (1, 9, true), (1, 10, true), (1, 11, true), (1, 12, true), (1, 13, true), (1, 14, true), (1, 15, true)], ob := [(1, 14), (6, 5)] }),
   (165, { ob := [(1, 5)] }),
   (117000283, { op := [(1, 14, .br true)], gd := [(1, 11, true), (1, 12, true), (1, 13, true)] })] Tryz.prog 581 [AV.ptr 0 0 0, AV.agg [AV.val (Value.int IntKind.i64 (17 : Int)), AV.val (Value.int IntKind.u8 a0), AV.val (Value.int IntKind.u8 a1), AV.val (Value.int IntKind.u8 a2), AV.val (Value.int IntKind.u8 a3), AV.val (Value.int IntKind.i64 p)], AV.val (Value.int IntKind.i64 nw)] [(0, { t := 331, sz := 4, exact := true, fz := false, body := Body.rows [[AV.val (Value.int IntKind.i64 (40000 : Int)), AV.val (Value.int IntKind.i64 (128 : Int)), AV.val (Value.int IntKind.i64 tn), AV.sl 1 0 1 none]] }), (1, { t := 174, sz := 9, exact := false, fz := false, body := Body.rows [[AV.val (Value.int IntKind.i64 (17 : Int)), AV.val (Value.int IntKind.i64 o), AV.val (Value.int IntKind.u8 x0), AV.val (Value.int IntKind.u8 x1), AV.val (Value.int IntKind.u8 x2), AV.val (Value.int IntKind.u8 x3), AV.val (Value.int IntKind.i64 q), AV.val (Value.int IntKind.i64 (1 : Int)), AV.val (Value.int IntKind.i64 un)]] })] 2 =
   some (AV.tup [AV.val (Value.int IntKind.i64 (40001 : Int)), AV.val (Value.bool true)], [(1, { t := 174, sz := 9, exact := false, fz := false, body := Body.rows [[AV.val (Value.int IntKind.i64 (17 : Int)), AV.val (Value.int IntKind.i64 o), AV.val (Value.int IntKind.u8 x0), AV.val (Value.int IntKind.u8 x1), AV.val (Value.int IntKind.u8 x2), AV.val (Value.int IntKind.u8 x3), AV.val (Value.int IntKind.i64 q), AV.val (Value.int IntKind.i64 (1 : Int)), AV.val (Value.int IntKind.i64 un)]] }), (0, { t := 331, sz := 4, exact := true, fz := false, body := Body.rows [[AV.val (Value.int IntKind.i64 (40000 : Int)), AV.val (Value.int IntKind.i64 (128 : Int)), AV.val (Value.int IntKind.i64 tn), AV.sl 1 0 1 none]] })], 209,
   rp 7 (decide (p ≥ (40000 : Int)) = true) (
   rp 4 ((o == p) = true) (
   (decide (nw < un) = true) ::
   (SameO (some { t := 174, sz := 9, exact := false, fz := false, body := Body.rows [[AV.val (Value.int IntKind.i64 (17 : Int)), AV.val (Value.int IntKind.i64 o), AV.val (Value.int IntKind.u8 x0), AV.val (Value.int IntKind.u8 x1), AV.val (Value.int IntKind.u8 x2), AV.val (Value.int IntKind.u8 x3), AV.val (Value.int IntKind.i64 q), AV.val (Value.int IntKind.i64 (1 : Int)), AV.val (Value.int IntKind.i64 un)]] }) { t := 174, sz := 9, exact := false, fz := false, body := Body.rows [[AV.val (Value.int IntKind.i64 (17 : Int)), AV.val (Value.int IntKind.i64 o), AV.val (Value.int IntKind.u8 x0), AV.val (Value.int IntKind.u8 x1), AV.val (Value.int IntKind.u8 x2), AV.val (Value.int IntKind.u8 x3), AV.val (Value.int IntKind.i64 q), AV.val (Value.int IntKind.i64 (1 : Int)), AV.val (Value.int IntKind.i64 un)]] }) ::
   (SameO (some { t := 331, sz := 4, exact := true, fz := false, body := Body.rows [[AV.val (Value.int IntKind.i64 (40000 : Int)), AV.val (Value.int IntKind.i64 (128 : Int)), AV.val (Value.int IntKind.i64 tn), AV.sl 1 0 1 none]] }) { t := 331, sz := 4, exact := true, fz := false, body := Body.rows [[AV.val (Value.int IntKind.i64 (40000 : Int)), AV.val (Value.int IntKind.i64 (128 : Int)), AV.val (Value.int IntKind.i64 tn), AV.sl 1 0 1 none]] }) ::
   rp 2 (decide (p ≥ (40000 : Int)) = true) (
   rp 4 ((o == (40000 : Int)) = true) (
   (decide (nw < un) = true) ::
   rp 4 ((o == (40001 : Int)) = false) ( [])))))) := by kernel_rfl

set_option maxRecDepth 100000 in
theorem port_r_hi (a0 : Int) (a1 : Int) (a2 : Int) (a3 : Int) (p : Int) (nw : Int) (tn : Int) (o : Int) (x0 : Int) (x1 : Int) (x2 : Int) (x3 : Int) (q : Int) (un : Int) : outS noneKnown [(34000282, { br := [(16, true)], ob := [(4, 5)] }),
   (104000282, { ob := [(4, 5)] }),
   (47000283, { op := [(1, 14, .br true)], gd := [(1, 11, true), (1, 12, true), (1, 13, true)] }),
   (581, { op := [(1, 14, .keep), (1, 16, .br true)], gd := [(1, 8, true), (1, 9, true), (1, 10, true), (1, 11, true), (1, 12, true), (1, 13, true), (1, 14, true), (1, 15, true)], ob := [(1, 14), (6, 5)] }),
   (165, { ob := [(1, 5)] }),
   (117000283, { op := [(1, 14, .br false)], gd := [(1, 11, false), (1, 12, false), (1, 13, false)] })] Tryz.prog 581 [AV.ptr 0 0 0, AV.agg [AV.val (Value.int IntKind.i64 (17 : Int)), AV.val (Value.int IntKind.u8 a0), AV.val (Value.int IntKind.u8 a1), AV.val (Value.int IntKind.u8 a2), AV.val (Value.int IntKind.u8 a3), AV.val (Value.int IntKind.i64 p)], AV.val (Value.int IntKind.i64 nw)] [(0, { t := 331, sz := 4, exact := true, fz := false, body := Body.rows [[AV.val (Value.int IntKind.i64 (40000 : Int)), AV.val (Value.int IntKind.i64 (128 : Int)), AV.val (Value.int IntKind.i64 tn), AV.sl 1 0 1 none]] }), (1, { t := 174, sz := 9, exact := false, fz := false, body := Body.rows [[AV.val (Value.int IntKind.i64 (17 : Int)), AV.val (Value.int IntKind.i64 o), AV.val (Value.int IntKind.u8 x0), AV.val (Value.int IntKind.u8 x1), AV.val (Value.int IntKind.u8 x2), AV.val (Value.int IntKind.u8 x3), AV.val (Value.int IntKind.i64 q), AV.val (Value.int IntKind.i64 (1 : Int)), AV.val (Value.int IntKind.i64 un)]] })] 2 =
   some (AV.tup [AV.val (Value.int IntKind.i64 (40000 : Int)), AV.val (Value.bool true)], [(1, { t := 174, sz := 9, exact := false, fz := false, body := Body.rows [[AV.val (Value.int IntKind.i64 (17 : Int)), AV.val (Value.int IntKind.i64 o), AV.val (Value.int IntKind.u8 x0), AV.val (Value.int IntKind.u8 x1), AV.val (Value.int IntKind.u8 x2), AV.val (Value.int IntKind.u8 x3), AV.val (Value.int IntKind.i64 q), AV.val (Value.int IntKind.i64 (1 : Int)), AV.val (Value.int IntKind.i64 un)]] }), (0, { t := 331, sz := 4, exact := true, fz := false, body := Body.rows [[AV.val (Value.int IntKind.i64 (40000 : Int)), AV.val (Value.int IntKind.i64 (128 : Int)), AV.val (Value.int IntKind.i64 tn), AV.sl 1 0 1 none]] })], 141,
   rp 7 (decide (p ≥ (40000 : Int)) = true) (
   rp 4 ((o == p) = true) (
   (decide (nw < un) = true) ::
   (SameO (some { t := 174, sz := 9, exact := false, fz := false, body := Body.rows [[AV.val (Value.int IntKind.i64 (17 : Int)), AV.val (Value.int IntKind.i64 o), AV.val (Value.int IntKind.u8 x0), AV.val (Value.int IntKind.u8 x1), AV.val (Value.int IntKind.u8 x2), AV.val (Value.int IntKind.u8 x3), AV.val (Value.int IntKind.i64 q), AV.val (Value.int IntKind.i64 (1 : Int)), AV.val (Value.int IntKind.i64 un)]] }) { t := 174, sz := 9, exact := false, fz := false, body := Body.rows [[AV.val (Value.int IntKind.i64 (17 : Int)), AV.val (Value.int IntKind.i64 o), AV.val (Value.int IntKind.u8 x0), AV.val (Value.int IntKind.u8 x1), AV.val (Value.int IntKind.u8 x2), AV.val (Value.int IntKind.u8 x3), AV.val (Value.int IntKind.i64 q), AV.val (Value.int IntKind.i64 (1 : Int)), AV.val (Value.int IntKind.i64 un)]] }) ::
   (SameO (some { t := 331, sz := 4, exact := true, fz := false, body := Body.rows [[AV.val (Value.int IntKind.i64 (40000 : Int)), AV.val (Value.int IntKind.i64 (128 : Int)), AV.val (Value.int IntKind.i64 tn), AV.sl 1 0 1 none]] }) { t := 331, sz := 4, exact := true, fz := false, body := Body.rows [[AV.val (Value.int IntKind.i64 (40000 : Int)), AV.val (Value.int IntKind.i64 (128 : Int)), AV.val (Value.int IntKind.i64 tn), AV.sl 1 0 1 none]] }) ::
   rp 2 (decide (p ≥ (40000 : Int)) = true) (
   rp 4 ((o == (40000 : Int)) = false) ( []))))) := by kernel_rfl
end Go.Proofs.YtfofhpkafhpicaaGreatDoor

/- The port that a flow is given, where there is no mapping, or one that was made: known to the engine. -/
namespace Go.Proofs.YtfofhpkafhpicaaGreatDoor
open Go.RowKit
set_option linter.unusedSimpArgs false
set_option linter.unusedVariables false

abbrev portFn : FuncId := 581
def portE (p : Int) : Int := if p ≥ 40000 then p else 40000
def portR (p : Int) : Int := if p > 40000 then 40000 else 40001
def flP (a0 a1 a2 a3 p : Int) : AV := .agg [.val (.int .i64 17), .val (.int .u8 a0), .val (.int .u8 a1), .val (.int .u8 a2), .val (.int .u8 a3), .val (.int .i64 p)]
def tbO (tn : Int) (l : AV) : AObj := ⟨331, 4, true, false, .rows [[.val (.int .i64 40000), .val (.int .i64 128), .val (.int .i64 tn), l]]⟩
def roO (o x0 x1 x2 x3 q un : Int) : AObj := ⟨174, 9, false, false, .rows [[.val (.int .i64 17), .val (.int .i64 o), .val (.int .u8 x0), .val (.int .u8 x1), .val (.int .u8 x2), .val (.int .u8 x3), .val (.int .i64 q), .val (.int .i64 1), .val (.int .i64 un)]]⟩
def ptV (o : Int) : AV := .tup [.val (.int .i64 o), .val (.bool true)]

/-- the first flow is given o1, the next one o2 -/
def kPort (o1 o2 : Int) : Inl := fun g xs L nx =>
  if g = portFn then
    match xs with
    | [.ptr id 0 0, .agg [.val (.int .i64 17), .val (.int .u8 a0), .val (.int .u8 a1), .val (.int .u8 a2), .val (.int .u8 a3), .val (.int .i64 p)], .val (.int .i64 nw)] =>
      match hp L id with
      | some ⟨t1, 4, true, false, .rows [[.val (.int .i64 40000), .val (.int .i64 128), .val (.int .i64 tn), .val (.slice none 0 0)]]⟩ =>
        if t1 = 331 ∧ id < nx then some (ptV o1, L, nx + 100, [portE p = o1]) else none
      | some ⟨t1, 4, true, false, .rows [[.val (.int .i64 40000), .val (.int .i64 128), .val (.int .i64 tn), .sl id2 0 1 none]]⟩ =>
        match hp L id2 with
        | some ⟨t2, 9, false, false, .rows [[.val (.int .i64 17), .val (.int .i64 o), .val (.int .u8 x0), .val (.int .u8 x1), .val (.int .u8 x2), .val (.int .u8 x3), .val (.int .i64 q), .val (.int .i64 1), .val (.int .i64 un)]]⟩ =>
          if t1 = 331 ∧ t2 = 174 ∧ id < nx ∧ id2 < nx ∧ id ≠ id2 then some (ptV o2, L, nx + 300, [portE p = o, nw < un, portR p = o2]) else none
        | _ => none
      | _ => none
    | _ => none
  else none
theorem noneK_ok : InlOk Tryz.prog noneKnown := fun _ _ _ _ _ _ _ _ h => by cases h
theorem beqF {a b : Int} (h : a ≠ b) : (a == b) = false := beq_eq_false_iff_ne.2 h
theorem port_e (a0 a1 a2 a3 p nw tn : Int) : ACall Tryz.prog portFn [.ptr 0 0 0, flP a0 a1 a2 a3 p, .val (.int .i64 nw)] [(0, tbO tn (.val (.slice none 0 0)))] 1 (ptV (portE p)) [(0, tbO tn (.val (.slice none 0 0)))] 55 := by
  by_cases h : p ≥ 40000
  · rw [show portE p = p from if_pos h]
    refine ACall.up (n1 := 42) (outT_ok noneK_ok (port_e_hi a0 a1 a2 a3 p nw tn) ?_).1 (by omega)
    repeat' (first | exact allNil | refine allCons ?_ ?_ | (with_reducible refine allRp _ ?_ ?_))
    all_goals first | (with_reducible assumption) | exact rfl | exact beq_t (by omega) | exact beqF (by omega) | exact decide_eq_true (by omega) | exact decide_eq_false (by omega)
  · rw [show portE p = 40000 from if_neg h]
    refine (outT_ok noneK_ok (port_e_lo a0 a1 a2 a3 p nw tn) ?_).1
    repeat' (first | exact allNil | refine allCons ?_ ?_ | (with_reducible refine allRp _ ?_ ?_))
    all_goals first | (with_reducible assumption) | exact rfl | exact beq_t (by omega) | exact beqF (by omega) | exact decide_eq_true (by omega) | exact decide_eq_false (by omega)
theorem swap2 {P : Program} {g : FuncId} {xs : List AV} {L : List (Nat × AObj)} {a b : AObj} {nx n1 : Nat} {v : AV} (h : ACall P g xs L nx v [(1, b), (0, a)] n1) : ACall P g xs L nx v [(0, a), (1, b)] n1 :=
  h.weak fun k x hk => by
    simp only [hp] at hk ⊢
    split at hk
    · rename_i e; subst e; rw [if_neg (by decide), if_pos rfl]; exact hk
    · split at hk
      · rename_i e; subst e; rw [if_pos rfl]; exact hk
      · cases hk
theorem port_r (a0 a1 a2 a3 p nw tn o x0 x1 x2 x3 q un : Int) (ho : o = portE p) (hu : nw < un) : ACall Tryz.prog portFn [.ptr 0 0 0, flP a0 a1 a2 a3 p, .val (.int .i64 nw)] [(0, tbO tn (.sl 1 0 1 none)), (1, roO o x0 x1 x2 x3 q un)] 2 (ptV (portR p)) [(0, tbO tn (.sl 1 0 1 none)), (1, roO o x0 x1 x2 x3 q un)] 209 := by
  by_cases h : p ≥ 40000
  · have ho' : o = p := ho.trans (if_pos h)
    by_cases h2 : p > 40000
    · rw [show portR p = 40000 from if_pos h2]
      refine ACall.up (n1 := 141) (swap2 (outS_ok noneK_ok (port_r_hi a0 a1 a2 a3 p nw tn o x0 x1 x2 x3 q un) ?_).1) (by omega)
      repeat' (first | exact allNil | refine allCons ?_ ?_ | (with_reducible refine allRp _ ?_ ?_))
      all_goals first | (with_reducible assumption) | exact rfl | exact beq_t (by omega) | exact beqF (by omega) | exact decide_eq_true (by omega) | exact decide_eq_false (by omega)
    · rw [show portR p = 40001 from if_neg h2]
      refine swap2 (outS_ok noneK_ok (port_r_eq a0 a1 a2 a3 p nw tn o x0 x1 x2 x3 q un) ?_).1
      repeat' (first | exact allNil | refine allCons ?_ ?_ | (with_reducible refine allRp _ ?_ ?_))
      all_goals first | (with_reducible assumption) | exact rfl | exact beq_t (by omega) | exact beqF (by omega) | exact decide_eq_true (by omega) | exact decide_eq_false (by omega)
  · have ho' : o = 40000 := ho.trans (if_neg h)
    rw [show portR p = 40001 from if_neg (by omega)]
    refine ACall.up (n1 := 153) (swap2 (outS_ok noneK_ok (port_r_lo a0 a1 a2 a3 p nw tn o x0 x1 x2 x3 q un) ?_).1) (by omega)
    repeat' (first | exact allNil | refine allCons ?_ ?_ | (with_reducible refine allRp _ ?_ ?_))
    all_goals first | (with_reducible assumption) | exact rfl | exact beq_t (by omega) | exact beqF (by omega) | exact decide_eq_true (by omega) | exact decide_eq_false (by omega)
theorem kPort_ok (o1 o2 : Int) : InlOk Tryz.prog (kPort o1 o2) := by
  intro g xs L nx v L' nx' q h hq
  unfold kPort at h
  split at h
  · rename_i hg
    subst hg
    split at h
    · rename_i id a0 a1 a2 a3 p nw
      split at h
      · rename_i t1 tn q1
        split at h
        · rename_i hc
          obtain ⟨rfl, hc⟩ := hc
          simp only [Option.some.injEq, Prod.mk.injEq] at h
          obtain ⟨rfl, rfl, rfl, rfl⟩ := h
          obtain rfl : portE p = o1 := hq _ (by simp)
          refine ⟨ACall.up (n1 := nx + (55 - 1)) ?_ (by omega), by omega⟩
          exact ACall.usedW (ids := [id]) (K := L) (M := [(0, tbO tn (.val (.slice none 0 0)))]) (port_e a0 a1 a2 a3 p nw tn) (by simp) (by simp [hc]) (by simp) (fun k x hk => by
            simp only [hp] at hk
            split at hk
            · rename_i e; subst e; injection hk with hk; subst hk; exact ⟨by simp, q1⟩
            · cases hk) (fun k hk => by
              have : k = 0 := by simp at hk; omega
              subst this; exact ⟨_, rfl⟩) rfl
        · cases h
      · rename_i t1 tn id2 q1
        split at h
        · rename_i t2 o x0 x1 x2 x3 qq un q2
          split at h
          · rename_i hc
            obtain ⟨rfl, rfl, h3, h4, h5⟩ := hc
            simp only [Option.some.injEq, Prod.mk.injEq] at h
            obtain ⟨rfl, rfl, rfl, rfl⟩ := h
            have c : ∀ p ∈ _, p := hq
            simp only [List.forall_mem_cons, List.not_mem_nil, false_implies, implies_true, and_true] at c
            obtain ⟨c1, c2, c3⟩ := c
            subst c3
            refine ⟨ACall.up (n1 := nx + (209 - 2)) ?_ (by omega), by omega⟩
            exact ACall.usedW (ids := [id, id2]) (K := L) (M := [(0, tbO tn (.sl 1 0 1 none)), (1, roO o x0 x1 x2 x3 qq un)]) (port_r a0 a1 a2 a3 p nw tn o x0 x1 x2 x3 qq un c1.symm c2) (by simp [h5]) (by simp [h3, h4]) (by simp) (fun k x hk => by
              simp only [hp] at hk
              split at hk
              · rename_i e; subst e; injection hk with hk; subst hk; exact ⟨by simp, q1⟩
              · split at hk
                · rename_i e; subst e; injection hk with hk; subst hk; exact ⟨by simp, q2⟩
                · cases hk) (fun k hk => by
                have : k = 0 ∨ k = 1 := by simp at hk; omega
                rcases this with rfl | rfl
                · exact ⟨_, rfl⟩
                · exact ⟨_, rfl⟩) rfl
          · cases h
        · cases h
      · cases h
    · cases h
  · cases h
end Go.Proofs.YtfofhpkafhpicaaGreatDoor

/- What is known in a run of a whole law of the gateway: packets as they are told, ports, and what every act knows. -/
namespace Go.Proofs.YtfofhpkafhpicaaGreatDoor
open Go.RowKit
set_option linter.unusedVariables false
set_option linter.unusedSimpArgs false

def kTP (ns : List (Nat × Sp)) (o1 o2 : Int) : Inl := orInl (kPkt ns) (orInl (kPort o1 o2) kAct0)
theorem kTP_ok (ns : List (Nat × Sp)) (o1 o2 : Int) : InlOk Tryz.prog (kTP ns o1 o2) := orInl_ok (kPkt_ok ns) (orInl_ok (kPort_ok o1 o2) kAct0_ok)
end Go.Proofs.YtfofhpkafhpicaaGreatDoor
