/- Several texts in one: Df0, DfRun, Df. -/
import Derived.Test.YtmilcpejchjleaaMdd

/- A message that is written the document's way: words, and what the heads of the loops say. -/
namespace Go.Proofs.Ytmilcpejchjleaa
open Go.RowKit
set_option linter.unusedVariables false

/-- an object that was there may be numbered as a new one -/
theorem ACall.alias {P : Program} {g : FuncId} {xs : List AV} {L L1 : List (Nat × AObj)} {id off n nx n1 : Nat} {lim : Option Nat} {o : AObj} (h : ACall P g xs L nx (.sl id off n lim) L1 n1) (hid : hp L1 id = some o) (hle : nx ≤ n1) (hlt : ∀ k x, hp L1 k = some x → k < n1) :
    ACall P g xs L nx (.sl n1 off n lim) ((n1, o) :: dropL id L1) (n1 + 1) := by
  intro E w vs hs hr
  refine Calls.mono (h E w vs hs hr) fun e w' ⟨E', u, he, t1, t2, t3⟩ => ?_
  let E2 : Env := ⟨fun k => if k = n1 then E'.f id else E'.f k, E'.I⟩
  have hold : ∀ k p, E'.f k = some p → E2.f k = some p := fun k p hk => by
    show (if k = n1 then E'.f id else E'.f k) = some p
    rw [if_neg (fun e => by subst e; rw [t1.fresh _ (Nat.le_refl _)] at hk; cases hk)]
    exact hk
  have hnew : E2.f n1 = E'.f id := if_pos rfl
  have hm : More E' w' E2 w' := ⟨hold, fun _ h => h, fun _ _ => rfl⟩
  have split : ∀ k x, hp ((n1, o) :: dropL id L1) k = some x → ∃ k0, hp L1 k0 = some x ∧ E2.f k = E'.f k0 ∧ (k = n1 ∧ k0 = id ∨ k = k0 ∧ k0 ≠ id ∧ k0 < n1) := fun k x hk => by
    simp only [hp] at hk
    split at hk
    · rename_i e
      injection hk with hk
      have e0 : k = n1 := e
      subst hk e0
      exact ⟨id, hid, hnew, .inl ⟨rfl, rfl⟩⟩
    · rename_i e
      obtain ⟨h1, h2⟩ := hp_dropL id L1 k x hk
      have := hlt _ _ h2
      exact ⟨k, h2, if_neg (by omega), .inr ⟨rfl, h1, this⟩⟩
  refine ⟨E2, u, he, ⟨fun k x hk => ?_, fun k k' x x' b c z c' z' hk hk' e1 e2 => ?_, fun k hk => ?_, t1.imm⟩, ?_, ⟨fun k p hk => hold _ _ (t3.f k p hk), fun k p hk => ?_, t3.I, t3.I', t3.fr, fun b ⟨k, x, c, z, h1, h2⟩ => ?_, t3.size, t3.os, t3.tape, t3.output⟩⟩
  · obtain ⟨k0, h1, h2, _⟩ := split k x hk
    obtain ⟨p, p1, p2⟩ := t1.rows _ _ h1
    refine ⟨p, by rw [h2]; exact p1, ?_⟩
    cases p with
    | nil => exact p2
    | at_ b c s => exact p2.more hm p2.2.1 rfl
  · obtain ⟨k0, h1, h2, h3⟩ := split k x hk
    obtain ⟨k1, h4, h5, h6⟩ := split k' x' hk'
    rw [h2] at e1
    rw [h5] at e2
    have := t1.inj _ _ _ _ _ _ _ _ _ h1 h4 e1 e2
    omega
  · show (if k = n1 then E'.f id else E'.f k) = none
    rw [if_neg (by omega)]
    exact t1.fresh k (by omega)
  · cases t2 with
    | sl hE hc hl hn hA => exact .sl (hnew.trans hE) hc hl hn hA
    | slnil hE hl => exact .slnil (hnew.trans hE) hl
  · have hk : (if k = n1 then E'.f id else E'.f k) = some p := hk
    split at hk
    · exact .inr (by omega)
    · exact t3.nw k p hk
  · obtain ⟨k0, h3, h4, _⟩ := split k x h1
    rw [h4] at h2
    exact t3.hb b ⟨k0, x, c, z, h3, h2⟩

def argS : AV → Option (List (List UInt8))
  | .view sz n g => some (lsOf (.view sz n g))
  | _ => none
def putKs (b : List UInt8) (ls : List (List UInt8)) : Prop := b.length ≤ 900000 ∧ lsK ls ∧ goodN ls = true
def kRPutB : Inl := kBytes 50 argS putKs (fun b ls => b ++ encL ls ++ [0]) 10 (fun ls y => y = vS ls)
def kRU16 : Inl := kBytes 110 argI (fun b z => b.length ≤ 1000000 ∧ pairB z = true) (fun b z => b ++ be2 z) 20 (fun z y => y = iI z)
def kRU32 : Inl := kBytes 135 argU (fun b z => b.length ≤ 900000 ∧ 0 ≤ z ∧ z ≤ 4294967295) (fun b z => b ++ be4 z) 50 (fun z y => y = iU z)
def kFits : Inl := fun g xs L nx =>
  if g = 108 then
    match xs with
    | [.val (.int .i64 z)] => some (.val (.bool (pairB z)), L, nx, [])
    | _ => none
  else none
def kRg : Inl := orInl kFits kRGood
def kRq : Inl := orInl kRPutB (orInl kRU16 kRU32)

def rgdG (rs : List DR) (i : Nat) : GoalX := { len := 44, opn := [(0, vR rs), (3, sI i)] }
def rgdE : GoalX := { len := 44 }
def rgdN : GoalX := { len := 44, tms := [(2, .val (.bool false))] }
def rgdL (rs : List DR) (e : Ex) (E : GoalX) : LoopX := { ids := [], G := rgdG rs 0, ex := e, E := E }
def rptG (x : List UInt8) (rs : List DR) (i : Nat) : GoalX := { len := 58, opn := [(0, .sl 1 0 x.length none), (1, vR rs), (5, sI i)], oob := [(1, puO x)], k := 1 }
def rptG0 (x : List UInt8) (rs : List DR) : GoalX := { len := 58, opn := [(0, .sl 0 0 x.length none), (1, vR rs), (5, sI 0)], oob := [(0, puO x)], k := 0 }
def rptE (x : List UInt8) : GoalX := { len := 58, opn := [(0, .sl 1 0 x.length none)], oob := [(1, puO x)], k := 1 }
def rptE0 (x : List UInt8) : GoalX := { len := 58, opn := [(0, .sl 0 0 x.length none)], oob := [(0, puO x)], k := 0 }
def rptR (x : List UInt8) : GoalX := { len := 58, opn := [(4, .sl 1 0 x.length none)], oob := [(1, puO x)], k := 1 }
def rptR0 (x : List UInt8) : GoalX := { len := 58, opn := [(4, .sl 0 0 x.length none)], oob := [(0, puO x)], k := 0 }
def rptL (x : List UInt8) (rs : List DR) (e : Ex) (E : GoalX) : LoopX := { ids := [], G := rptG0 x rs, ex := e, E := E }
end Go.Proofs.Ytmilcpejchjleaa

/- A message that is written the document's way, reckoned: parts. -/
namespace Go.Proofs.Ytmilcpejchjleaa
open Go.RowKit

set_option maxRecDepth 100000 in
theorem fits_neg (z : Int) : outXS noneKnown [(108, { op := [(1, 5, .br false)], gd := [(1, 3, false), (1, 4, false)] })] Try.prog 108 [AV.val (Value.int IntKind.i64 z)] [] 0 [] [] = some (AV.val (Value.bool false), [], 8, [decide (z ≥ (0 : Int)) = false, decide (z ≥ (0 : Int)) = false, decide (z ≥ (0 : Int)) = false]) := by kernel_rfl

set_option maxRecDepth 100000 in
theorem fits_ok (z : Int) : outXS noneKnown [(108, { op := [(1, 5, .br true)], gd := [(1, 3, true), (1, 4, true)] })] Try.prog 108 [AV.val (Value.int IntKind.i64 z)] [] 0 [] [] = some (AV.val (Value.bool (decide (z ≤ (65535 : Int)))), [], 8, [decide (z ≥ (0 : Int)) = true, decide (z ≥ (0 : Int)) = true, decide (z ≥ (0 : Int)) = true]) := by kernel_rfl

set_option maxRecDepth 100000 in
theorem ru16_c (b : List UInt8) (z : Int) : outXS noneKnown [(110, { ob := [(1, 2), (1, 8), (1, 9)] })] Try.prog 110 [AV.bytes b, AV.val (Value.int IntKind.i64 z)] [] 0 [10] [] = some (AV.sl 10 0 (0 + List.length b + 2) none, [(10, { t := 5, sz := 1, exact := false, fz := false, body := Body.bytes (b ++ [UInt8.ofNat (Int.toNat (IntKind.wrap IntKind.u8 (Int.fdiv z (256 : Int)))), UInt8.ofNat (Int.toNat (IntKind.wrap IntKind.u8 z))]) })], 12, [True, 0 = 0 ∧ 0 + List.length b ≤ 1000000000, ∀ (x : AV), x ∈ [AV.val (Value.int IntKind.u8 (IntKind.wrap IntKind.u8 (Int.fdiv z (256 : Int)))), AV.val (Value.int IntKind.u8 (IntKind.wrap IntKind.u8 z))] → isByteAV x, 2 ≤ 2, List.length b = 0 + List.length b ∧ 0 + List.length b + 2 ≤ 1000000000]) := by kernel_rfl

set_option maxRecDepth 100000 in
theorem ru32_c (b : List UInt8) (z : Int) : outXS kRU16 [(135, { ob := [(1, 8)] })] Try.prog 135 [AV.bytes b, AV.val (Value.int IntKind.u32 z)] [] 0 [31] [] = some (AV.sl 31 0 (List.length (b ++ be2 (IntKind.wrap IntKind.i64 (Int.fdiv z (65536 : Int))) ++ be2 (IntKind.wrap IntKind.i64 (bits BinOp.and IntKind.u32 z (65535 : Int))))) none, [(31, { t := 5, sz := 1, exact := false, fz := false, body := Body.bytes (b ++ be2 (IntKind.wrap IntKind.i64 (Int.fdiv z (65536 : Int))) ++ be2 (IntKind.wrap IntKind.i64 (bits BinOp.and IntKind.u32 z (65535 : Int)))) })], 51, [True, AV.val (Value.int IntKind.i64 (IntKind.wrap IntKind.i64 (Int.fdiv z (65536 : Int)))) = AV.val (Value.int IntKind.i64 (IntKind.wrap IntKind.i64 (Int.fdiv z (65536 : Int)))), List.length b ≤ 1000000 ∧ pairB (IntKind.wrap IntKind.i64 (Int.fdiv z (65536 : Int))) = true, 1 = 1 ∧ List.length (b ++ be2 (IntKind.wrap IntKind.i64 (Int.fdiv z (65536 : Int)))) = List.length (b ++ be2 (IntKind.wrap IntKind.i64 (Int.fdiv z (65536 : Int)))), AV.val (Value.int IntKind.i64 (IntKind.wrap IntKind.i64 (bits BinOp.and IntKind.u32 z (65535 : Int)))) = AV.val (Value.int IntKind.i64 (IntKind.wrap IntKind.i64 (bits BinOp.and IntKind.u32 z (65535 : Int)))), List.length (b ++ be2 (IntKind.wrap IntKind.i64 (Int.fdiv z (65536 : Int)))) ≤ 1000000 ∧ pairB (IntKind.wrap IntKind.i64 (bits BinOp.and IntKind.u32 z (65535 : Int))) = true]) := by kernel_rfl

set_option maxRecDepth 100000 in
theorem rgd_no (rs : List DR) : outXS kRg [] Try.prog 109 [vR rs] [] 0 [] [(2, rgdL rs Ex.ret rgdN)] = some (AV.val (Value.bool false), [], 0, [(vR rs) = vR rs, AV.val (Value.int IntKind.i64 (0 : Int)) = AV.val (Value.int IntKind.i64 (0 : Int)), EvXL Try.prog 0 (loopAt Try.prog 109 2) (GoalX.st (LoopX.G (rgdL rs Ex.ret rgdN)) 0) (LoopX.ex (rgdL rs Ex.ret rgdN)) (GoalX.st (LoopX.E (rgdL rs Ex.ret rgdN)) 0)]) := by kernel_rfl

set_option maxRecDepth 100000 in
theorem rgd_yes (rs : List DR) : outXS kRg [] Try.prog 109 [vR rs] [] 0 [] [(2, rgdL rs (Ex.exit 0) rgdE)] = some (AV.val (Value.bool true), [], 1, [(vR rs) = vR rs, AV.val (Value.int IntKind.i64 (0 : Int)) = AV.val (Value.int IntKind.i64 (0 : Int)), EvXL Try.prog 0 (loopAt Try.prog 109 2) (GoalX.st (LoopX.G (rgdL rs (Ex.exit 0) rgdE)) 0) (LoopX.ex (rgdL rs (Ex.exit 0) rgdE)) (GoalX.st (LoopX.E (rgdL rs (Ex.exit 0) rgdE)) 0)]) := by kernel_rfl

set_option maxRecDepth 100000 in
theorem rgd_step (rs : List DR) (i : Nat) : stepXS kRg [(109, { op := [(4, 15, .br false), (4, 24, .br false), (4, 33, .br false)], gd := [(4, 8, false), (4, 9, false), (4, 10, false), (4, 11, false), (4, 12, false), (4, 13, false), (4, 14, false), (4, 17, false), (4, 18, false), (4, 19, false), (4, 20, false), (4, 21, false), (4, 22, false), (4, 23, false), (4, 26, false), (4, 27, false), (4, 28, false), (4, 29, false), (4, 30, false), (4, 31, false), (4, 32, false)], br := [(7, true), (43, false)], ob := [(4, 2), (4, 10), (4, 19), (4, 28)] })] Try.prog 109 2 (rgdG rs i) (rgdG rs (i + 1)) [] 0 [] = some (.normal, [decide ((↑i : Int) < (↑(List.length rs) : Int)) = true, (0 : Int) ≤ (↑i : Int) ∧ (↑i : Int) < (↑(List.length rs) : Int), (AV.view 1 (List.length (List.getD rs (Int.toNat (↑i : Int)) dr0).1) fun i_1 => [AV.val (Value.string { data := List.toArray (List.getD (List.getD rs (Int.toNat (↑i : Int)) dr0).1 i_1 []) })]) = AV.view 1 (List.length (lsOf (AV.view 1 (List.length (List.getD rs (Int.toNat (↑i : Int)) dr0).1) fun i_1 => [AV.val (Value.string { data := List.toArray (List.getD (List.getD rs (Int.toNat (↑i : Int)) dr0).1 i_1 []) })]))) fun i_1 => [AV.val (Value.string { data := List.toArray (List.getD (lsOf (AV.view 1 (List.length (List.getD rs (Int.toNat (↑i : Int)) dr0).1) fun i_2 => [AV.val (Value.string { data := List.toArray (List.getD (List.getD rs (Int.toNat (↑i : Int)) dr0).1 i_2 []) })])) i_1 []) })], True, (!goodN (lsOf (AV.view 1 (List.length (List.getD rs (Int.toNat (↑i : Int)) dr0).1) fun i_1 => [AV.val (Value.string { data := List.toArray (List.getD (List.getD rs (Int.toNat (↑i : Int)) dr0).1 i_1 []) })]))) = false, (!goodN (lsOf (AV.view 1 (List.length (List.getD rs (Int.toNat (↑i : Int)) dr0).1) fun i_1 => [AV.val (Value.string { data := List.toArray (List.getD (List.getD rs (Int.toNat (↑i : Int)) dr0).1 i_1 []) })]))) = false, (!goodN (lsOf (AV.view 1 (List.length (List.getD rs (Int.toNat (↑i : Int)) dr0).1) fun i_1 => [AV.val (Value.string { data := List.toArray (List.getD (List.getD rs (Int.toNat (↑i : Int)) dr0).1 i_1 []) })]))) = false, (0 : Int) ≤ (↑i : Int) ∧ (↑i : Int) < (↑(List.length rs) : Int), (!goodN (lsOf (AV.view 1 (List.length (List.getD rs (Int.toNat (↑i : Int)) dr0).1) fun i_1 => [AV.val (Value.string { data := List.toArray (List.getD (List.getD rs (Int.toNat (↑i : Int)) dr0).1 i_1 []) })]))) = false, (!goodN (lsOf (AV.view 1 (List.length (List.getD rs (Int.toNat (↑i : Int)) dr0).1) fun i_1 => [AV.val (Value.string { data := List.toArray (List.getD (List.getD rs (Int.toNat (↑i : Int)) dr0).1 i_1 []) })]))) = false, (!goodN (lsOf (AV.view 1 (List.length (List.getD rs (Int.toNat (↑i : Int)) dr0).1) fun i_1 => [AV.val (Value.string { data := List.toArray (List.getD (List.getD rs (Int.toNat (↑i : Int)) dr0).1 i_1 []) })]))) = false, (!goodN (lsOf (AV.view 1 (List.length (List.getD rs (Int.toNat (↑i : Int)) dr0).1) fun i_1 => [AV.val (Value.string { data := List.toArray (List.getD (List.getD rs (Int.toNat (↑i : Int)) dr0).1 i_1 []) })]))) = false, (!goodN (lsOf (AV.view 1 (List.length (List.getD rs (Int.toNat (↑i : Int)) dr0).1) fun i_1 => [AV.val (Value.string { data := List.toArray (List.getD (List.getD rs (Int.toNat (↑i : Int)) dr0).1 i_1 []) })]))) = false, (!pairB (List.getD rs (Int.toNat (↑i : Int)) dr0).2) = false, (!pairB (List.getD rs (Int.toNat (↑i : Int)) dr0).2) = false, (!pairB (List.getD rs (Int.toNat (↑i : Int)) dr0).2) = false, (0 : Int) ≤ (↑i : Int) ∧ (↑i : Int) < (↑(List.length rs) : Int), (!pairB (List.getD rs (Int.toNat (↑i : Int)) dr0).2) = false, (!pairB (List.getD rs (Int.toNat (↑i : Int)) dr0).2) = false, (!pairB (List.getD rs (Int.toNat (↑i : Int)) dr0).2) = false, (!pairB (List.getD rs (Int.toNat (↑i : Int)) dr0).2) = false, (!pairB (List.getD rs (Int.toNat (↑i : Int)) dr0).2) = false, (!pairB (List.getD rs (Int.toNat (↑i : Int)) dr0).3) = false, (!pairB (List.getD rs (Int.toNat (↑i : Int)) dr0).3) = false, (!pairB (List.getD rs (Int.toNat (↑i : Int)) dr0).3) = false, (0 : Int) ≤ (↑i : Int) ∧ (↑i : Int) < (↑(List.length rs) : Int), (!pairB (List.getD rs (Int.toNat (↑i : Int)) dr0).3) = false, (!pairB (List.getD rs (Int.toNat (↑i : Int)) dr0).3) = false, (!pairB (List.getD rs (Int.toNat (↑i : Int)) dr0).3) = false, (!pairB (List.getD rs (Int.toNat (↑i : Int)) dr0).3) = false, (!pairB (List.getD rs (Int.toNat (↑i : Int)) dr0).3) = false, decide ((↑(List.length (List.getD rs (Int.toNat (↑i : Int)) dr0).5) : Int) > (65535 : Int)) = false, (vR rs) = vR rs, AV.val (Value.int IntKind.i64 (IntKind.wrap IntKind.i64 ((↑i : Int) + (1 : Int)))) = AV.val (Value.int IntKind.i64 (↑(i + 1) : Int))]) := by kernel_rfl

set_option maxRecDepth 100000 in
theorem rgd_b1 (rs : List DR) (i : Nat) : stepXS kRg [(109, { op := [(4, 15, .br true)], gd := [(4, 8, true), (4, 9, true), (4, 10, true), (4, 11, true), (4, 12, true), (4, 13, true), (4, 14, true)], br := [(7, true)], ob := [(4, 2)] })] Try.prog 109 2 (rgdG rs i) (rgdN) [] 0 [] = some (.ret, [decide ((↑i : Int) < (↑(List.length rs) : Int)) = true, (0 : Int) ≤ (↑i : Int) ∧ (↑i : Int) < (↑(List.length rs) : Int), (AV.view 1 (List.length (List.getD rs (Int.toNat (↑i : Int)) dr0).1) fun i_1 => [AV.val (Value.string { data := List.toArray (List.getD (List.getD rs (Int.toNat (↑i : Int)) dr0).1 i_1 []) })]) = AV.view 1 (List.length (lsOf (AV.view 1 (List.length (List.getD rs (Int.toNat (↑i : Int)) dr0).1) fun i_1 => [AV.val (Value.string { data := List.toArray (List.getD (List.getD rs (Int.toNat (↑i : Int)) dr0).1 i_1 []) })]))) fun i_1 => [AV.val (Value.string { data := List.toArray (List.getD (lsOf (AV.view 1 (List.length (List.getD rs (Int.toNat (↑i : Int)) dr0).1) fun i_2 => [AV.val (Value.string { data := List.toArray (List.getD (List.getD rs (Int.toNat (↑i : Int)) dr0).1 i_2 []) })])) i_1 []) })], True, (!goodN (lsOf (AV.view 1 (List.length (List.getD rs (Int.toNat (↑i : Int)) dr0).1) fun i_1 => [AV.val (Value.string { data := List.toArray (List.getD (List.getD rs (Int.toNat (↑i : Int)) dr0).1 i_1 []) })]))) = true, (!goodN (lsOf (AV.view 1 (List.length (List.getD rs (Int.toNat (↑i : Int)) dr0).1) fun i_1 => [AV.val (Value.string { data := List.toArray (List.getD (List.getD rs (Int.toNat (↑i : Int)) dr0).1 i_1 []) })]))) = true, (!goodN (lsOf (AV.view 1 (List.length (List.getD rs (Int.toNat (↑i : Int)) dr0).1) fun i_1 => [AV.val (Value.string { data := List.toArray (List.getD (List.getD rs (Int.toNat (↑i : Int)) dr0).1 i_1 []) })]))) = true, (!goodN (lsOf (AV.view 1 (List.length (List.getD rs (Int.toNat (↑i : Int)) dr0).1) fun i_1 => [AV.val (Value.string { data := List.toArray (List.getD (List.getD rs (Int.toNat (↑i : Int)) dr0).1 i_1 []) })]))) = true, (!goodN (lsOf (AV.view 1 (List.length (List.getD rs (Int.toNat (↑i : Int)) dr0).1) fun i_1 => [AV.val (Value.string { data := List.toArray (List.getD (List.getD rs (Int.toNat (↑i : Int)) dr0).1 i_1 []) })]))) = true, (!goodN (lsOf (AV.view 1 (List.length (List.getD rs (Int.toNat (↑i : Int)) dr0).1) fun i_1 => [AV.val (Value.string { data := List.toArray (List.getD (List.getD rs (Int.toNat (↑i : Int)) dr0).1 i_1 []) })]))) = true, (!goodN (lsOf (AV.view 1 (List.length (List.getD rs (Int.toNat (↑i : Int)) dr0).1) fun i_1 => [AV.val (Value.string { data := List.toArray (List.getD (List.getD rs (Int.toNat (↑i : Int)) dr0).1 i_1 []) })]))) = true, (!goodN (lsOf (AV.view 1 (List.length (List.getD rs (Int.toNat (↑i : Int)) dr0).1) fun i_1 => [AV.val (Value.string { data := List.toArray (List.getD (List.getD rs (Int.toNat (↑i : Int)) dr0).1 i_1 []) })]))) = true]) := by kernel_rfl

set_option maxRecDepth 100000 in
theorem rgd_b2 (rs : List DR) (i : Nat) : stepXS kRg [(109, { op := [(4, 15, .br false), (4, 24, .br true)], gd := [(4, 8, false), (4, 9, false), (4, 10, false), (4, 11, false), (4, 12, false), (4, 13, false), (4, 14, false), (4, 17, true), (4, 18, true), (4, 19, true), (4, 20, true), (4, 21, true), (4, 22, true), (4, 23, true)], br := [(7, true)], ob := [(4, 2), (4, 10)] })] Try.prog 109 2 (rgdG rs i) (rgdN) [] 0 [] = some (.ret, [decide ((↑i : Int) < (↑(List.length rs) : Int)) = true, (0 : Int) ≤ (↑i : Int) ∧ (↑i : Int) < (↑(List.length rs) : Int), (AV.view 1 (List.length (List.getD rs (Int.toNat (↑i : Int)) dr0).1) fun i_1 => [AV.val (Value.string { data := List.toArray (List.getD (List.getD rs (Int.toNat (↑i : Int)) dr0).1 i_1 []) })]) = AV.view 1 (List.length (lsOf (AV.view 1 (List.length (List.getD rs (Int.toNat (↑i : Int)) dr0).1) fun i_1 => [AV.val (Value.string { data := List.toArray (List.getD (List.getD rs (Int.toNat (↑i : Int)) dr0).1 i_1 []) })]))) fun i_1 => [AV.val (Value.string { data := List.toArray (List.getD (lsOf (AV.view 1 (List.length (List.getD rs (Int.toNat (↑i : Int)) dr0).1) fun i_2 => [AV.val (Value.string { data := List.toArray (List.getD (List.getD rs (Int.toNat (↑i : Int)) dr0).1 i_2 []) })])) i_1 []) })], True, (!goodN (lsOf (AV.view 1 (List.length (List.getD rs (Int.toNat (↑i : Int)) dr0).1) fun i_1 => [AV.val (Value.string { data := List.toArray (List.getD (List.getD rs (Int.toNat (↑i : Int)) dr0).1 i_1 []) })]))) = false, (!goodN (lsOf (AV.view 1 (List.length (List.getD rs (Int.toNat (↑i : Int)) dr0).1) fun i_1 => [AV.val (Value.string { data := List.toArray (List.getD (List.getD rs (Int.toNat (↑i : Int)) dr0).1 i_1 []) })]))) = false, (!goodN (lsOf (AV.view 1 (List.length (List.getD rs (Int.toNat (↑i : Int)) dr0).1) fun i_1 => [AV.val (Value.string { data := List.toArray (List.getD (List.getD rs (Int.toNat (↑i : Int)) dr0).1 i_1 []) })]))) = false, (0 : Int) ≤ (↑i : Int) ∧ (↑i : Int) < (↑(List.length rs) : Int), (!goodN (lsOf (AV.view 1 (List.length (List.getD rs (Int.toNat (↑i : Int)) dr0).1) fun i_1 => [AV.val (Value.string { data := List.toArray (List.getD (List.getD rs (Int.toNat (↑i : Int)) dr0).1 i_1 []) })]))) = false, (!goodN (lsOf (AV.view 1 (List.length (List.getD rs (Int.toNat (↑i : Int)) dr0).1) fun i_1 => [AV.val (Value.string { data := List.toArray (List.getD (List.getD rs (Int.toNat (↑i : Int)) dr0).1 i_1 []) })]))) = false, (!goodN (lsOf (AV.view 1 (List.length (List.getD rs (Int.toNat (↑i : Int)) dr0).1) fun i_1 => [AV.val (Value.string { data := List.toArray (List.getD (List.getD rs (Int.toNat (↑i : Int)) dr0).1 i_1 []) })]))) = false, (!goodN (lsOf (AV.view 1 (List.length (List.getD rs (Int.toNat (↑i : Int)) dr0).1) fun i_1 => [AV.val (Value.string { data := List.toArray (List.getD (List.getD rs (Int.toNat (↑i : Int)) dr0).1 i_1 []) })]))) = false, (!goodN (lsOf (AV.view 1 (List.length (List.getD rs (Int.toNat (↑i : Int)) dr0).1) fun i_1 => [AV.val (Value.string { data := List.toArray (List.getD (List.getD rs (Int.toNat (↑i : Int)) dr0).1 i_1 []) })]))) = false, (!pairB (List.getD rs (Int.toNat (↑i : Int)) dr0).2) = true, (!pairB (List.getD rs (Int.toNat (↑i : Int)) dr0).2) = true, (!pairB (List.getD rs (Int.toNat (↑i : Int)) dr0).2) = true, (!pairB (List.getD rs (Int.toNat (↑i : Int)) dr0).2) = true, (!pairB (List.getD rs (Int.toNat (↑i : Int)) dr0).2) = true, (!pairB (List.getD rs (Int.toNat (↑i : Int)) dr0).2) = true, (!pairB (List.getD rs (Int.toNat (↑i : Int)) dr0).2) = true, (!pairB (List.getD rs (Int.toNat (↑i : Int)) dr0).2) = true]) := by kernel_rfl

set_option maxRecDepth 100000 in
theorem rgd_b3 (rs : List DR) (i : Nat) : stepXS kRg [(109, { op := [(4, 15, .br false), (4, 24, .br false), (4, 33, .br true)], gd := [(4, 8, false), (4, 9, false), (4, 10, false), (4, 11, false), (4, 12, false), (4, 13, false), (4, 14, false), (4, 17, false), (4, 18, false), (4, 19, false), (4, 20, false), (4, 21, false), (4, 22, false), (4, 23, false), (4, 26, true), (4, 27, true), (4, 28, true), (4, 29, true), (4, 30, true), (4, 31, true), (4, 32, true)], br := [(7, true)], ob := [(4, 2), (4, 10), (4, 19)] })] Try.prog 109 2 (rgdG rs i) (rgdN) [] 0 [] = some (.ret, [decide ((↑i : Int) < (↑(List.length rs) : Int)) = true, (0 : Int) ≤ (↑i : Int) ∧ (↑i : Int) < (↑(List.length rs) : Int), (AV.view 1 (List.length (List.getD rs (Int.toNat (↑i : Int)) dr0).1) fun i_1 => [AV.val (Value.string { data := List.toArray (List.getD (List.getD rs (Int.toNat (↑i : Int)) dr0).1 i_1 []) })]) = AV.view 1 (List.length (lsOf (AV.view 1 (List.length (List.getD rs (Int.toNat (↑i : Int)) dr0).1) fun i_1 => [AV.val (Value.string { data := List.toArray (List.getD (List.getD rs (Int.toNat (↑i : Int)) dr0).1 i_1 []) })]))) fun i_1 => [AV.val (Value.string { data := List.toArray (List.getD (lsOf (AV.view 1 (List.length (List.getD rs (Int.toNat (↑i : Int)) dr0).1) fun i_2 => [AV.val (Value.string { data := List.toArray (List.getD (List.getD rs (Int.toNat (↑i : Int)) dr0).1 i_2 []) })])) i_1 []) })], True, (!goodN (lsOf (AV.view 1 (List.length (List.getD rs (Int.toNat (↑i : Int)) dr0).1) fun i_1 => [AV.val (Value.string { data := List.toArray (List.getD (List.getD rs (Int.toNat (↑i : Int)) dr0).1 i_1 []) })]))) = false, (!goodN (lsOf (AV.view 1 (List.length (List.getD rs (Int.toNat (↑i : Int)) dr0).1) fun i_1 => [AV.val (Value.string { data := List.toArray (List.getD (List.getD rs (Int.toNat (↑i : Int)) dr0).1 i_1 []) })]))) = false, (!goodN (lsOf (AV.view 1 (List.length (List.getD rs (Int.toNat (↑i : Int)) dr0).1) fun i_1 => [AV.val (Value.string { data := List.toArray (List.getD (List.getD rs (Int.toNat (↑i : Int)) dr0).1 i_1 []) })]))) = false, (0 : Int) ≤ (↑i : Int) ∧ (↑i : Int) < (↑(List.length rs) : Int), (!goodN (lsOf (AV.view 1 (List.length (List.getD rs (Int.toNat (↑i : Int)) dr0).1) fun i_1 => [AV.val (Value.string { data := List.toArray (List.getD (List.getD rs (Int.toNat (↑i : Int)) dr0).1 i_1 []) })]))) = false, (!goodN (lsOf (AV.view 1 (List.length (List.getD rs (Int.toNat (↑i : Int)) dr0).1) fun i_1 => [AV.val (Value.string { data := List.toArray (List.getD (List.getD rs (Int.toNat (↑i : Int)) dr0).1 i_1 []) })]))) = false, (!goodN (lsOf (AV.view 1 (List.length (List.getD rs (Int.toNat (↑i : Int)) dr0).1) fun i_1 => [AV.val (Value.string { data := List.toArray (List.getD (List.getD rs (Int.toNat (↑i : Int)) dr0).1 i_1 []) })]))) = false, (!goodN (lsOf (AV.view 1 (List.length (List.getD rs (Int.toNat (↑i : Int)) dr0).1) fun i_1 => [AV.val (Value.string { data := List.toArray (List.getD (List.getD rs (Int.toNat (↑i : Int)) dr0).1 i_1 []) })]))) = false, (!goodN (lsOf (AV.view 1 (List.length (List.getD rs (Int.toNat (↑i : Int)) dr0).1) fun i_1 => [AV.val (Value.string { data := List.toArray (List.getD (List.getD rs (Int.toNat (↑i : Int)) dr0).1 i_1 []) })]))) = false, (!pairB (List.getD rs (Int.toNat (↑i : Int)) dr0).2) = false, (!pairB (List.getD rs (Int.toNat (↑i : Int)) dr0).2) = false, (!pairB (List.getD rs (Int.toNat (↑i : Int)) dr0).2) = false, (0 : Int) ≤ (↑i : Int) ∧ (↑i : Int) < (↑(List.length rs) : Int), (!pairB (List.getD rs (Int.toNat (↑i : Int)) dr0).2) = false, (!pairB (List.getD rs (Int.toNat (↑i : Int)) dr0).2) = false, (!pairB (List.getD rs (Int.toNat (↑i : Int)) dr0).2) = false, (!pairB (List.getD rs (Int.toNat (↑i : Int)) dr0).2) = false, (!pairB (List.getD rs (Int.toNat (↑i : Int)) dr0).2) = false, (!pairB (List.getD rs (Int.toNat (↑i : Int)) dr0).3) = true, (!pairB (List.getD rs (Int.toNat (↑i : Int)) dr0).3) = true, (!pairB (List.getD rs (Int.toNat (↑i : Int)) dr0).3) = true, (!pairB (List.getD rs (Int.toNat (↑i : Int)) dr0).3) = true, (!pairB (List.getD rs (Int.toNat (↑i : Int)) dr0).3) = true, (!pairB (List.getD rs (Int.toNat (↑i : Int)) dr0).3) = true, (!pairB (List.getD rs (Int.toNat (↑i : Int)) dr0).3) = true, (!pairB (List.getD rs (Int.toNat (↑i : Int)) dr0).3) = true]) := by kernel_rfl

set_option maxRecDepth 100000 in
theorem rgd_b4 (rs : List DR) (i : Nat) : stepXS kRg [(109, { op := [(4, 15, .br false), (4, 24, .br false), (4, 33, .br false)], gd := [(4, 8, false), (4, 9, false), (4, 10, false), (4, 11, false), (4, 12, false), (4, 13, false), (4, 14, false), (4, 17, false), (4, 18, false), (4, 19, false), (4, 20, false), (4, 21, false), (4, 22, false), (4, 23, false), (4, 26, false), (4, 27, false), (4, 28, false), (4, 29, false), (4, 30, false), (4, 31, false), (4, 32, false)], br := [(7, true), (43, true)], ob := [(4, 2), (4, 10), (4, 19), (4, 28)] })] Try.prog 109 2 (rgdG rs i) (rgdN) [] 0 [] = some (.ret, [decide ((↑i : Int) < (↑(List.length rs) : Int)) = true, (0 : Int) ≤ (↑i : Int) ∧ (↑i : Int) < (↑(List.length rs) : Int), (AV.view 1 (List.length (List.getD rs (Int.toNat (↑i : Int)) dr0).1) fun i_1 => [AV.val (Value.string { data := List.toArray (List.getD (List.getD rs (Int.toNat (↑i : Int)) dr0).1 i_1 []) })]) = AV.view 1 (List.length (lsOf (AV.view 1 (List.length (List.getD rs (Int.toNat (↑i : Int)) dr0).1) fun i_1 => [AV.val (Value.string { data := List.toArray (List.getD (List.getD rs (Int.toNat (↑i : Int)) dr0).1 i_1 []) })]))) fun i_1 => [AV.val (Value.string { data := List.toArray (List.getD (lsOf (AV.view 1 (List.length (List.getD rs (Int.toNat (↑i : Int)) dr0).1) fun i_2 => [AV.val (Value.string { data := List.toArray (List.getD (List.getD rs (Int.toNat (↑i : Int)) dr0).1 i_2 []) })])) i_1 []) })], True, (!goodN (lsOf (AV.view 1 (List.length (List.getD rs (Int.toNat (↑i : Int)) dr0).1) fun i_1 => [AV.val (Value.string { data := List.toArray (List.getD (List.getD rs (Int.toNat (↑i : Int)) dr0).1 i_1 []) })]))) = false, (!goodN (lsOf (AV.view 1 (List.length (List.getD rs (Int.toNat (↑i : Int)) dr0).1) fun i_1 => [AV.val (Value.string { data := List.toArray (List.getD (List.getD rs (Int.toNat (↑i : Int)) dr0).1 i_1 []) })]))) = false, (!goodN (lsOf (AV.view 1 (List.length (List.getD rs (Int.toNat (↑i : Int)) dr0).1) fun i_1 => [AV.val (Value.string { data := List.toArray (List.getD (List.getD rs (Int.toNat (↑i : Int)) dr0).1 i_1 []) })]))) = false, (0 : Int) ≤ (↑i : Int) ∧ (↑i : Int) < (↑(List.length rs) : Int), (!goodN (lsOf (AV.view 1 (List.length (List.getD rs (Int.toNat (↑i : Int)) dr0).1) fun i_1 => [AV.val (Value.string { data := List.toArray (List.getD (List.getD rs (Int.toNat (↑i : Int)) dr0).1 i_1 []) })]))) = false, (!goodN (lsOf (AV.view 1 (List.length (List.getD rs (Int.toNat (↑i : Int)) dr0).1) fun i_1 => [AV.val (Value.string { data := List.toArray (List.getD (List.getD rs (Int.toNat (↑i : Int)) dr0).1 i_1 []) })]))) = false, (!goodN (lsOf (AV.view 1 (List.length (List.getD rs (Int.toNat (↑i : Int)) dr0).1) fun i_1 => [AV.val (Value.string { data := List.toArray (List.getD (List.getD rs (Int.toNat (↑i : Int)) dr0).1 i_1 []) })]))) = false, (!goodN (lsOf (AV.view 1 (List.length (List.getD rs (Int.toNat (↑i : Int)) dr0).1) fun i_1 => [AV.val (Value.string { data := List.toArray (List.getD (List.getD rs (Int.toNat (↑i : Int)) dr0).1 i_1 []) })]))) = false, (!goodN (lsOf (AV.view 1 (List.length (List.getD rs (Int.toNat (↑i : Int)) dr0).1) fun i_1 => [AV.val (Value.string { data := List.toArray (List.getD (List.getD rs (Int.toNat (↑i : Int)) dr0).1 i_1 []) })]))) = false, (!pairB (List.getD rs (Int.toNat (↑i : Int)) dr0).2) = false, (!pairB (List.getD rs (Int.toNat (↑i : Int)) dr0).2) = false, (!pairB (List.getD rs (Int.toNat (↑i : Int)) dr0).2) = false, (0 : Int) ≤ (↑i : Int) ∧ (↑i : Int) < (↑(List.length rs) : Int), (!pairB (List.getD rs (Int.toNat (↑i : Int)) dr0).2) = false, (!pairB (List.getD rs (Int.toNat (↑i : Int)) dr0).2) = false, (!pairB (List.getD rs (Int.toNat (↑i : Int)) dr0).2) = false, (!pairB (List.getD rs (Int.toNat (↑i : Int)) dr0).2) = false, (!pairB (List.getD rs (Int.toNat (↑i : Int)) dr0).2) = false, (!pairB (List.getD rs (Int.toNat (↑i : Int)) dr0).3) = false, (!pairB (List.getD rs (Int.toNat (↑i : Int)) dr0).3) = false, (!pairB (List.getD rs (Int.toNat (↑i : Int)) dr0).3) = false, (0 : Int) ≤ (↑i : Int) ∧ (↑i : Int) < (↑(List.length rs) : Int), (!pairB (List.getD rs (Int.toNat (↑i : Int)) dr0).3) = false, (!pairB (List.getD rs (Int.toNat (↑i : Int)) dr0).3) = false, (!pairB (List.getD rs (Int.toNat (↑i : Int)) dr0).3) = false, (!pairB (List.getD rs (Int.toNat (↑i : Int)) dr0).3) = false, (!pairB (List.getD rs (Int.toNat (↑i : Int)) dr0).3) = false, decide ((↑(List.length (List.getD rs (Int.toNat (↑i : Int)) dr0).5) : Int) > (65535 : Int)) = true]) := by kernel_rfl

set_option maxRecDepth 100000 in
theorem rgd_end (rs : List DR) (i : Nat) : stepXS kRg [(109, { br := [(7, false)] })] Try.prog 109 2 (rgdG rs i) (rgdE) [] 0 [] = some (.exit 0, [decide ((↑i : Int) < (↑(List.length rs) : Int)) = false]) := by kernel_rfl

set_option maxRecDepth 100000 in
theorem rpt_a (x : List UInt8) (rs : List DR) : outXS kRq [] Try.prog 111 [AV.sl 0 0 (List.length x) none, vR rs] [(0, { t := 5, sz := 1, exact := false, fz := false, body := Body.bytes x })] 1 [0] [(2, rptL x rs (Ex.exit 0) (rptE0 x))] = some (AV.sl 0 0 (List.length x) none, [(0, { t := 5, sz := 1, exact := false, fz := false, body := Body.bytes x })], 3, [AV.sl 0 0 (List.length x) none = AV.sl 0 0 (List.length x) none, (vR rs) = vR rs, AV.val (Value.int IntKind.i64 (0 : Int)) = AV.val (Value.int IntKind.i64 (0 : Int)), SameO (some { t := 5, sz := 1, exact := false, fz := false, body := Body.bytes x }) { t := 5, sz := 1, exact := false, fz := false, body := Body.bytes x }, EvXL Try.prog 1 (loopAt Try.prog 111 2) (GoalX.st (LoopX.G (rptL x rs (Ex.exit 0) (rptE0 x))) 1) (LoopX.ex (rptL x rs (Ex.exit 0) (rptE0 x))) (GoalX.st (LoopX.E (rptL x rs (Ex.exit 0) (rptE0 x))) 1)]) := by kernel_rfl

set_option maxRecDepth 100000 in
theorem rpt_b (x : List UInt8) (rs : List DR) : outXS kRq [] Try.prog 111 [AV.sl 0 0 (List.length x) none, vR rs] [(0, { t := 5, sz := 1, exact := false, fz := false, body := Body.bytes x })] 1 [0] [(2, rptL x rs Ex.ret (rptR0 x))] = some (AV.sl 0 0 (List.length x) none, [(0, { t := 5, sz := 1, exact := false, fz := false, body := Body.bytes x })], 1, [AV.sl 0 0 (List.length x) none = AV.sl 0 0 (List.length x) none, (vR rs) = vR rs, AV.val (Value.int IntKind.i64 (0 : Int)) = AV.val (Value.int IntKind.i64 (0 : Int)), SameO (some { t := 5, sz := 1, exact := false, fz := false, body := Body.bytes x }) { t := 5, sz := 1, exact := false, fz := false, body := Body.bytes x }, EvXL Try.prog 1 (loopAt Try.prog 111 2) (GoalX.st (LoopX.G (rptL x rs Ex.ret (rptR0 x))) 1) (LoopX.ex (rptL x rs Ex.ret (rptR0 x))) (GoalX.st (LoopX.E (rptL x rs Ex.ret (rptR0 x))) 1)]) := by kernel_rfl

set_option maxRecDepth 100000 in
theorem rpt_c (x : List UInt8) (rs : List DR) (y : List UInt8) : outXS kRq [] Try.prog 111 [AV.sl 0 0 (List.length x) none, vR rs] [(0, { t := 5, sz := 1, exact := false, fz := false, body := Body.bytes x })] 1 [1] [(2, rptL x rs (Ex.exit 0) (rptE y))] = some (AV.sl 1 0 (List.length y) none, [(1, { t := 5, sz := 1, exact := false, fz := false, body := Body.bytes y })], 4, [AV.sl 0 0 (List.length x) none = AV.sl 0 0 (List.length x) none, (vR rs) = vR rs, AV.val (Value.int IntKind.i64 (0 : Int)) = AV.val (Value.int IntKind.i64 (0 : Int)), SameO (some { t := 5, sz := 1, exact := false, fz := false, body := Body.bytes x }) { t := 5, sz := 1, exact := false, fz := false, body := Body.bytes x }, EvXL Try.prog 1 (loopAt Try.prog 111 2) (GoalX.st (LoopX.G (rptL x rs (Ex.exit 0) (rptE y))) 1) (LoopX.ex (rptL x rs (Ex.exit 0) (rptE y))) (GoalX.st (LoopX.E (rptL x rs (Ex.exit 0) (rptE y))) 1)]) := by kernel_rfl

set_option maxRecDepth 100000 in
theorem rpt_d (x : List UInt8) (rs : List DR) (y : List UInt8) : outXS kRq [] Try.prog 111 [AV.sl 0 0 (List.length x) none, vR rs] [(0, { t := 5, sz := 1, exact := false, fz := false, body := Body.bytes x })] 1 [1] [(2, rptL x rs Ex.ret (rptR y))] = some (AV.sl 1 0 (List.length y) none, [(1, { t := 5, sz := 1, exact := false, fz := false, body := Body.bytes y })], 2, [AV.sl 0 0 (List.length x) none = AV.sl 0 0 (List.length x) none, (vR rs) = vR rs, AV.val (Value.int IntKind.i64 (0 : Int)) = AV.val (Value.int IntKind.i64 (0 : Int)), SameO (some { t := 5, sz := 1, exact := false, fz := false, body := Body.bytes x }) { t := 5, sz := 1, exact := false, fz := false, body := Body.bytes x }, EvXL Try.prog 1 (loopAt Try.prog 111 2) (GoalX.st (LoopX.G (rptL x rs Ex.ret (rptR y))) 1) (LoopX.ex (rptL x rs Ex.ret (rptR y))) (GoalX.st (LoopX.E (rptL x rs Ex.ret (rptR y))) 1)]) := by kernel_rfl

set_option maxRecDepth 100000 in
theorem rpt_step0 (x : List UInt8) (rs : List DR) : stepXS kRq [(111, { op := [(7, 6, .keep), (7, 12, .keep), (8, 6, .keep), (8, 13, .keep)], br := [(9, true), (14, false)], ob := [(6, 3), (6, 6), (7, 3), (7, 6), (7, 9), (7, 12), (8, 3), (8, 6), (8, 9), (8, 13), (9, 3), (9, 6)] })] Try.prog 111 2 (rptG0 x rs) (rptG (x ++ encR (List.getD rs 0 dr0)) rs 1) [171] 1 [] = some (.normal, [decide ((0 : Int) < (↑(List.length rs) : Int)) = true, decide ((↑(List.length x) : Int) > (2000 : Int)) = false, (0 : Int) ≤ (0 : Int) ∧ (0 : Int) < (↑(List.length rs) : Int), 1 = 1 ∧ List.length x = List.length x, (AV.view 1 (List.length (List.getD rs (Int.toNat (0 : Int)) dr0).1) fun i => [AV.val (Value.string { data := List.toArray (List.getD (List.getD rs (Int.toNat (0 : Int)) dr0).1 i []) })]) = AV.view 1 (List.length (lsOf (AV.view 1 (List.length (List.getD rs (Int.toNat (0 : Int)) dr0).1) fun i => [AV.val (Value.string { data := List.toArray (List.getD (List.getD rs (Int.toNat (0 : Int)) dr0).1 i []) })]))) fun i => [AV.val (Value.string { data := List.toArray (List.getD (lsOf (AV.view 1 (List.length (List.getD rs (Int.toNat (0 : Int)) dr0).1) fun i => [AV.val (Value.string { data := List.toArray (List.getD (List.getD rs (Int.toNat (0 : Int)) dr0).1 i []) })])) i []) })], putKs x (lsOf (AV.view 1 (List.length (List.getD rs (Int.toNat (0 : Int)) dr0).1) fun i => [AV.val (Value.string { data := List.toArray (List.getD (List.getD rs (Int.toNat (0 : Int)) dr0).1 i []) })])), (0 : Int) ≤ (0 : Int) ∧ (0 : Int) < (↑(List.length rs) : Int), 1 = 1 ∧ List.length (x ++ encL (lsOf (AV.view 1 (List.length (List.getD rs (Int.toNat (0 : Int)) dr0).1) fun i => [AV.val (Value.string { data := List.toArray (List.getD (List.getD rs (Int.toNat (0 : Int)) dr0).1 i []) })])) ++ [(0 : UInt8)]) = List.length (x ++ encL (lsOf (AV.view 1 (List.length (List.getD rs (Int.toNat (0 : Int)) dr0).1) fun i => [AV.val (Value.string { data := List.toArray (List.getD (List.getD rs (Int.toNat (0 : Int)) dr0).1 i []) })])) ++ [(0 : UInt8)]), AV.val (Value.int IntKind.i64 (List.getD rs (Int.toNat (0 : Int)) dr0).2) = AV.val (Value.int IntKind.i64 (List.getD rs (Int.toNat (0 : Int)) dr0).2), List.length (x ++ encL (lsOf (AV.view 1 (List.length (List.getD rs (Int.toNat (0 : Int)) dr0).1) fun i => [AV.val (Value.string { data := List.toArray (List.getD (List.getD rs (Int.toNat (0 : Int)) dr0).1 i []) })])) ++ [(0 : UInt8)]) ≤ 1000000 ∧ pairB (List.getD rs (Int.toNat (0 : Int)) dr0).2 = true, SameO (some { t := 5, sz := 1, exact := false, fz := false, body := Body.bytes (x ++ encL (lsOf (AV.view 1 (List.length (List.getD rs (Int.toNat (0 : Int)) dr0).1) fun i => [AV.val (Value.string { data := List.toArray (List.getD (List.getD rs (Int.toNat (0 : Int)) dr0).1 i []) })])) ++ [(0 : UInt8)]) }) { t := 5, sz := 1, exact := false, fz := false, body := Body.bytes (x ++ encL (lsOf (AV.view 1 (List.length (List.getD rs (Int.toNat (0 : Int)) dr0).1) fun i => [AV.val (Value.string { data := List.toArray (List.getD (List.getD rs (Int.toNat (0 : Int)) dr0).1 i []) })])) ++ [(0 : UInt8)]) }, (0 : Int) ≤ (0 : Int) ∧ (0 : Int) < (↑(List.length rs) : Int), 1 = 1 ∧ List.length (x ++ encL (lsOf (AV.view 1 (List.length (List.getD rs (Int.toNat (0 : Int)) dr0).1) fun i => [AV.val (Value.string { data := List.toArray (List.getD (List.getD rs (Int.toNat (0 : Int)) dr0).1 i []) })])) ++ [(0 : UInt8)] ++ be2 (List.getD rs (Int.toNat (0 : Int)) dr0).2) = List.length (x ++ encL (lsOf (AV.view 1 (List.length (List.getD rs (Int.toNat (0 : Int)) dr0).1) fun i => [AV.val (Value.string { data := List.toArray (List.getD (List.getD rs (Int.toNat (0 : Int)) dr0).1 i []) })])) ++ [(0 : UInt8)] ++ be2 (List.getD rs (Int.toNat (0 : Int)) dr0).2), AV.val (Value.int IntKind.i64 (List.getD rs (Int.toNat (0 : Int)) dr0).3) = AV.val (Value.int IntKind.i64 (List.getD rs (Int.toNat (0 : Int)) dr0).3), List.length (x ++ encL (lsOf (AV.view 1 (List.length (List.getD rs (Int.toNat (0 : Int)) dr0).1) fun i => [AV.val (Value.string { data := List.toArray (List.getD (List.getD rs (Int.toNat (0 : Int)) dr0).1 i []) })])) ++ [(0 : UInt8)] ++ be2 (List.getD rs (Int.toNat (0 : Int)) dr0).2) ≤ 1000000 ∧ pairB (List.getD rs (Int.toNat (0 : Int)) dr0).3 = true, SameO (some { t := 5, sz := 1, exact := false, fz := false, body := Body.bytes (x ++ encL (lsOf (AV.view 1 (List.length (List.getD rs (Int.toNat (0 : Int)) dr0).1) fun i => [AV.val (Value.string { data := List.toArray (List.getD (List.getD rs (Int.toNat (0 : Int)) dr0).1 i []) })])) ++ [(0 : UInt8)] ++ be2 (List.getD rs (Int.toNat (0 : Int)) dr0).2) }) { t := 5, sz := 1, exact := false, fz := false, body := Body.bytes (x ++ encL (lsOf (AV.view 1 (List.length (List.getD rs (Int.toNat (0 : Int)) dr0).1) fun i => [AV.val (Value.string { data := List.toArray (List.getD (List.getD rs (Int.toNat (0 : Int)) dr0).1 i []) })])) ++ [(0 : UInt8)] ++ be2 (List.getD rs (Int.toNat (0 : Int)) dr0).2) }, (0 : Int) ≤ (0 : Int) ∧ (0 : Int) < (↑(List.length rs) : Int), 1 = 1 ∧ List.length (x ++ encL (lsOf (AV.view 1 (List.length (List.getD rs (Int.toNat (0 : Int)) dr0).1) fun i => [AV.val (Value.string { data := List.toArray (List.getD (List.getD rs (Int.toNat (0 : Int)) dr0).1 i []) })])) ++ [(0 : UInt8)] ++ be2 (List.getD rs (Int.toNat (0 : Int)) dr0).2 ++ be2 (List.getD rs (Int.toNat (0 : Int)) dr0).3) = List.length (x ++ encL (lsOf (AV.view 1 (List.length (List.getD rs (Int.toNat (0 : Int)) dr0).1) fun i => [AV.val (Value.string { data := List.toArray (List.getD (List.getD rs (Int.toNat (0 : Int)) dr0).1 i []) })])) ++ [(0 : UInt8)] ++ be2 (List.getD rs (Int.toNat (0 : Int)) dr0).2 ++ be2 (List.getD rs (Int.toNat (0 : Int)) dr0).3), AV.val (Value.int IntKind.u32 (List.getD rs (Int.toNat (0 : Int)) dr0).4) = AV.val (Value.int IntKind.u32 (List.getD rs (Int.toNat (0 : Int)) dr0).4), List.length (x ++ encL (lsOf (AV.view 1 (List.length (List.getD rs (Int.toNat (0 : Int)) dr0).1) fun i => [AV.val (Value.string { data := List.toArray (List.getD (List.getD rs (Int.toNat (0 : Int)) dr0).1 i []) })])) ++ [(0 : UInt8)] ++ be2 (List.getD rs (Int.toNat (0 : Int)) dr0).2 ++ be2 (List.getD rs (Int.toNat (0 : Int)) dr0).3) ≤ 900000 ∧ (0 : Int) ≤ (List.getD rs (Int.toNat (0 : Int)) dr0).4 ∧ (List.getD rs (Int.toNat (0 : Int)) dr0).4 ≤ (4294967295 : Int), SameO (some { t := 5, sz := 1, exact := false, fz := false, body := Body.bytes (x ++ encL (lsOf (AV.view 1 (List.length (List.getD rs (Int.toNat (0 : Int)) dr0).1) fun i => [AV.val (Value.string { data := List.toArray (List.getD (List.getD rs (Int.toNat (0 : Int)) dr0).1 i []) })])) ++ [(0 : UInt8)] ++ be2 (List.getD rs (Int.toNat (0 : Int)) dr0).2 ++ be2 (List.getD rs (Int.toNat (0 : Int)) dr0).3) }) { t := 5, sz := 1, exact := false, fz := false, body := Body.bytes (x ++ encL (lsOf (AV.view 1 (List.length (List.getD rs (Int.toNat (0 : Int)) dr0).1) fun i => [AV.val (Value.string { data := List.toArray (List.getD (List.getD rs (Int.toNat (0 : Int)) dr0).1 i []) })])) ++ [(0 : UInt8)] ++ be2 (List.getD rs (Int.toNat (0 : Int)) dr0).2 ++ be2 (List.getD rs (Int.toNat (0 : Int)) dr0).3) }, (0 : Int) ≤ (0 : Int) ∧ (0 : Int) < (↑(List.length rs) : Int), 1 = 1 ∧ List.length (x ++ encL (lsOf (AV.view 1 (List.length (List.getD rs (Int.toNat (0 : Int)) dr0).1) fun i => [AV.val (Value.string { data := List.toArray (List.getD (List.getD rs (Int.toNat (0 : Int)) dr0).1 i []) })])) ++ [(0 : UInt8)] ++ be2 (List.getD rs (Int.toNat (0 : Int)) dr0).2 ++ be2 (List.getD rs (Int.toNat (0 : Int)) dr0).3 ++ be4 (List.getD rs (Int.toNat (0 : Int)) dr0).4) = List.length (x ++ encL (lsOf (AV.view 1 (List.length (List.getD rs (Int.toNat (0 : Int)) dr0).1) fun i => [AV.val (Value.string { data := List.toArray (List.getD (List.getD rs (Int.toNat (0 : Int)) dr0).1 i []) })])) ++ [(0 : UInt8)] ++ be2 (List.getD rs (Int.toNat (0 : Int)) dr0).2 ++ be2 (List.getD rs (Int.toNat (0 : Int)) dr0).3 ++ be4 (List.getD rs (Int.toNat (0 : Int)) dr0).4), AV.val (Value.int IntKind.i64 (↑(List.length (List.getD rs (Int.toNat (0 : Int)) dr0).5) : Int)) = AV.val (Value.int IntKind.i64 (↑(List.length (List.getD rs (Int.toNat (0 : Int)) dr0).5) : Int)), List.length (x ++ encL (lsOf (AV.view 1 (List.length (List.getD rs (Int.toNat (0 : Int)) dr0).1) fun i => [AV.val (Value.string { data := List.toArray (List.getD (List.getD rs (Int.toNat (0 : Int)) dr0).1 i []) })])) ++ [(0 : UInt8)] ++ be2 (List.getD rs (Int.toNat (0 : Int)) dr0).2 ++ be2 (List.getD rs (Int.toNat (0 : Int)) dr0).3 ++ be4 (List.getD rs (Int.toNat (0 : Int)) dr0).4) ≤ 1000000 ∧ pairB (↑(List.length (List.getD rs (Int.toNat (0 : Int)) dr0).5) : Int) = true, SameO (some { t := 5, sz := 1, exact := false, fz := false, body := Body.bytes (x ++ encL (lsOf (AV.view 1 (List.length (List.getD rs (Int.toNat (0 : Int)) dr0).1) fun i => [AV.val (Value.string { data := List.toArray (List.getD (List.getD rs (Int.toNat (0 : Int)) dr0).1 i []) })])) ++ [(0 : UInt8)] ++ be2 (List.getD rs (Int.toNat (0 : Int)) dr0).2 ++ be2 (List.getD rs (Int.toNat (0 : Int)) dr0).3 ++ be4 (List.getD rs (Int.toNat (0 : Int)) dr0).4) }) { t := 5, sz := 1, exact := false, fz := false, body := Body.bytes (x ++ encL (lsOf (AV.view 1 (List.length (List.getD rs (Int.toNat (0 : Int)) dr0).1) fun i => [AV.val (Value.string { data := List.toArray (List.getD (List.getD rs (Int.toNat (0 : Int)) dr0).1 i []) })])) ++ [(0 : UInt8)] ++ be2 (List.getD rs (Int.toNat (0 : Int)) dr0).2 ++ be2 (List.getD rs (Int.toNat (0 : Int)) dr0).3 ++ be4 (List.getD rs (Int.toNat (0 : Int)) dr0).4) }, (0 : Int) ≤ (0 : Int) ∧ (0 : Int) < (↑(List.length rs) : Int), True, List.length (x ++ encL (lsOf (AV.view 1 (List.length (List.getD rs (Int.toNat (0 : Int)) dr0).1) fun i => [AV.val (Value.string { data := List.toArray (List.getD (List.getD rs (Int.toNat (0 : Int)) dr0).1 i []) })])) ++ [(0 : UInt8)] ++ be2 (List.getD rs (Int.toNat (0 : Int)) dr0).2 ++ be2 (List.getD rs (Int.toNat (0 : Int)) dr0).3 ++ be4 (List.getD rs (Int.toNat (0 : Int)) dr0).4 ++ be2 (↑(List.length (List.getD rs (Int.toNat (0 : Int)) dr0).5) : Int)) = List.length (x ++ encL (lsOf (AV.view 1 (List.length (List.getD rs (Int.toNat (0 : Int)) dr0).1) fun i => [AV.val (Value.string { data := List.toArray (List.getD (List.getD rs (Int.toNat (0 : Int)) dr0).1 i []) })])) ++ [(0 : UInt8)] ++ be2 (List.getD rs (Int.toNat (0 : Int)) dr0).2 ++ be2 (List.getD rs (Int.toNat (0 : Int)) dr0).3 ++ be4 (List.getD rs (Int.toNat (0 : Int)) dr0).4 ++ be2 (↑(List.length (List.getD rs (Int.toNat (0 : Int)) dr0).5) : Int)) ∧ List.length (x ++ encL (lsOf (AV.view 1 (List.length (List.getD rs (Int.toNat (0 : Int)) dr0).1) fun i => [AV.val (Value.string { data := List.toArray (List.getD (List.getD rs (Int.toNat (0 : Int)) dr0).1 i []) })])) ++ [(0 : UInt8)] ++ be2 (List.getD rs (Int.toNat (0 : Int)) dr0).2 ++ be2 (List.getD rs (Int.toNat (0 : Int)) dr0).3 ++ be4 (List.getD rs (Int.toNat (0 : Int)) dr0).4 ++ be2 (↑(List.length (List.getD rs (Int.toNat (0 : Int)) dr0).5) : Int)) + List.length (List.getD rs (Int.toNat (0 : Int)) dr0).5 ≤ 1000000000, AV.sl 171 0 (List.length (x ++ encL (lsOf (AV.view 1 (List.length (List.getD rs (Int.toNat (0 : Int)) dr0).1) fun i => [AV.val (Value.string { data := List.toArray (List.getD (List.getD rs (Int.toNat (0 : Int)) dr0).1 i []) })])) ++ [(0 : UInt8)] ++ be2 (List.getD rs (Int.toNat (0 : Int)) dr0).2 ++ be2 (List.getD rs (Int.toNat (0 : Int)) dr0).3 ++ be4 (List.getD rs (Int.toNat (0 : Int)) dr0).4 ++ be2 (↑(List.length (List.getD rs (Int.toNat (0 : Int)) dr0).5) : Int)) + List.length (List.getD rs (Int.toNat (0 : Int)) dr0).5) none = AV.sl 171 0 (List.length (x ++ encR (List.getD rs 0 dr0))) none, (vR rs) = vR rs, AV.val (Value.int IntKind.i64 (1 : Int)) = AV.val (Value.int IntKind.i64 (1 : Int)), SameO (some { t := 5, sz := 1, exact := false, fz := false, body := Body.bytes (x ++ encL (lsOf (AV.view 1 (List.length (List.getD rs (Int.toNat (0 : Int)) dr0).1) fun i => [AV.val (Value.string { data := List.toArray (List.getD (List.getD rs (Int.toNat (0 : Int)) dr0).1 i []) })])) ++ [(0 : UInt8)] ++ be2 (List.getD rs (Int.toNat (0 : Int)) dr0).2 ++ be2 (List.getD rs (Int.toNat (0 : Int)) dr0).3 ++ be4 (List.getD rs (Int.toNat (0 : Int)) dr0).4 ++ be2 (↑(List.length (List.getD rs (Int.toNat (0 : Int)) dr0).5) : Int) ++ (List.getD rs (Int.toNat (0 : Int)) dr0).5) }) { t := 5, sz := 1, exact := false, fz := false, body := Body.bytes (x ++ encR (List.getD rs 0 dr0)) }]) := by kernel_rfl

set_option maxRecDepth 100000 in
theorem rpt_big0 (x : List UInt8) (rs : List DR) : stepXS kRq [(111, { br := [(9, true), (14, true)] })] Try.prog 111 2 (rptG0 x rs) (rptR0 x) [] 1 [] = some (.ret, [decide ((0 : Int) < (↑(List.length rs) : Int)) = true, decide ((↑(List.length x) : Int) > (2000 : Int)) = true, AV.sl 0 0 (List.length x) none = AV.sl 0 0 (List.length x) none, SameO (some { t := 5, sz := 1, exact := false, fz := false, body := Body.bytes x }) { t := 5, sz := 1, exact := false, fz := false, body := Body.bytes x }]) := by kernel_rfl

set_option maxRecDepth 100000 in
theorem rpt_end0 (x : List UInt8) (rs : List DR) : stepXS kRq [(111, { br := [(9, false)] })] Try.prog 111 2 (rptG0 x rs) (rptE0 x) [] 1 [] = some (.exit 0, [decide ((0 : Int) < (↑(List.length rs) : Int)) = false, AV.sl 0 0 (List.length x) none = AV.sl 0 0 (List.length x) none, SameO (some { t := 5, sz := 1, exact := false, fz := false, body := Body.bytes x }) { t := 5, sz := 1, exact := false, fz := false, body := Body.bytes x }]) := by kernel_rfl

set_option maxRecDepth 100000 in
theorem rpt_step1 (x : List UInt8) (rs : List DR) (i : Nat) : stepXS kRq [(111, { op := [(7, 6, .keep), (7, 12, .keep), (8, 6, .keep), (8, 13, .keep)], br := [(9, true), (14, false)], ob := [(6, 3), (6, 6), (7, 3), (7, 6), (7, 9), (7, 12), (8, 3), (8, 6), (8, 9), (8, 13), (9, 3), (9, 6)] })] Try.prog 111 2 (rptG x rs i) (rptG (x ++ encR (List.getD rs i dr0)) rs (i + 1)) [172] 1 [] = some (.normal, [decide ((↑i : Int) < (↑(List.length rs) : Int)) = true, decide ((↑(List.length x) : Int) > (2000 : Int)) = false, (0 : Int) ≤ (↑i : Int) ∧ (↑i : Int) < (↑(List.length rs) : Int), 1 = 1 ∧ List.length x = List.length x, (AV.view 1 (List.length (List.getD rs (Int.toNat (↑i : Int)) dr0).1) fun i_1 => [AV.val (Value.string { data := List.toArray (List.getD (List.getD rs (Int.toNat (↑i : Int)) dr0).1 i_1 []) })]) = AV.view 1 (List.length (lsOf (AV.view 1 (List.length (List.getD rs (Int.toNat (↑i : Int)) dr0).1) fun i_1 => [AV.val (Value.string { data := List.toArray (List.getD (List.getD rs (Int.toNat (↑i : Int)) dr0).1 i_1 []) })]))) fun i_1 => [AV.val (Value.string { data := List.toArray (List.getD (lsOf (AV.view 1 (List.length (List.getD rs (Int.toNat (↑i : Int)) dr0).1) fun i_2 => [AV.val (Value.string { data := List.toArray (List.getD (List.getD rs (Int.toNat (↑i : Int)) dr0).1 i_2 []) })])) i_1 []) })], putKs x (lsOf (AV.view 1 (List.length (List.getD rs (Int.toNat (↑i : Int)) dr0).1) fun i_1 => [AV.val (Value.string { data := List.toArray (List.getD (List.getD rs (Int.toNat (↑i : Int)) dr0).1 i_1 []) })])), (0 : Int) ≤ (↑i : Int) ∧ (↑i : Int) < (↑(List.length rs) : Int), 1 = 1 ∧ List.length (x ++ encL (lsOf (AV.view 1 (List.length (List.getD rs (Int.toNat (↑i : Int)) dr0).1) fun i_1 => [AV.val (Value.string { data := List.toArray (List.getD (List.getD rs (Int.toNat (↑i : Int)) dr0).1 i_1 []) })])) ++ [(0 : UInt8)]) = List.length (x ++ encL (lsOf (AV.view 1 (List.length (List.getD rs (Int.toNat (↑i : Int)) dr0).1) fun i_1 => [AV.val (Value.string { data := List.toArray (List.getD (List.getD rs (Int.toNat (↑i : Int)) dr0).1 i_1 []) })])) ++ [(0 : UInt8)]), AV.val (Value.int IntKind.i64 (List.getD rs (Int.toNat (↑i : Int)) dr0).2) = AV.val (Value.int IntKind.i64 (List.getD rs (Int.toNat (↑i : Int)) dr0).2), List.length (x ++ encL (lsOf (AV.view 1 (List.length (List.getD rs (Int.toNat (↑i : Int)) dr0).1) fun i_1 => [AV.val (Value.string { data := List.toArray (List.getD (List.getD rs (Int.toNat (↑i : Int)) dr0).1 i_1 []) })])) ++ [(0 : UInt8)]) ≤ 1000000 ∧ pairB (List.getD rs (Int.toNat (↑i : Int)) dr0).2 = true, SameO (some { t := 5, sz := 1, exact := false, fz := false, body := Body.bytes (x ++ encL (lsOf (AV.view 1 (List.length (List.getD rs (Int.toNat (↑i : Int)) dr0).1) fun i_1 => [AV.val (Value.string { data := List.toArray (List.getD (List.getD rs (Int.toNat (↑i : Int)) dr0).1 i_1 []) })])) ++ [(0 : UInt8)]) }) { t := 5, sz := 1, exact := false, fz := false, body := Body.bytes (x ++ encL (lsOf (AV.view 1 (List.length (List.getD rs (Int.toNat (↑i : Int)) dr0).1) fun i_1 => [AV.val (Value.string { data := List.toArray (List.getD (List.getD rs (Int.toNat (↑i : Int)) dr0).1 i_1 []) })])) ++ [(0 : UInt8)]) }, (0 : Int) ≤ (↑i : Int) ∧ (↑i : Int) < (↑(List.length rs) : Int), 1 = 1 ∧ List.length (x ++ encL (lsOf (AV.view 1 (List.length (List.getD rs (Int.toNat (↑i : Int)) dr0).1) fun i_1 => [AV.val (Value.string { data := List.toArray (List.getD (List.getD rs (Int.toNat (↑i : Int)) dr0).1 i_1 []) })])) ++ [(0 : UInt8)] ++ be2 (List.getD rs (Int.toNat (↑i : Int)) dr0).2) = List.length (x ++ encL (lsOf (AV.view 1 (List.length (List.getD rs (Int.toNat (↑i : Int)) dr0).1) fun i_1 => [AV.val (Value.string { data := List.toArray (List.getD (List.getD rs (Int.toNat (↑i : Int)) dr0).1 i_1 []) })])) ++ [(0 : UInt8)] ++ be2 (List.getD rs (Int.toNat (↑i : Int)) dr0).2), AV.val (Value.int IntKind.i64 (List.getD rs (Int.toNat (↑i : Int)) dr0).3) = AV.val (Value.int IntKind.i64 (List.getD rs (Int.toNat (↑i : Int)) dr0).3), List.length (x ++ encL (lsOf (AV.view 1 (List.length (List.getD rs (Int.toNat (↑i : Int)) dr0).1) fun i_1 => [AV.val (Value.string { data := List.toArray (List.getD (List.getD rs (Int.toNat (↑i : Int)) dr0).1 i_1 []) })])) ++ [(0 : UInt8)] ++ be2 (List.getD rs (Int.toNat (↑i : Int)) dr0).2) ≤ 1000000 ∧ pairB (List.getD rs (Int.toNat (↑i : Int)) dr0).3 = true, SameO (some { t := 5, sz := 1, exact := false, fz := false, body := Body.bytes (x ++ encL (lsOf (AV.view 1 (List.length (List.getD rs (Int.toNat (↑i : Int)) dr0).1) fun i_1 => [AV.val (Value.string { data := List.toArray (List.getD (List.getD rs (Int.toNat (↑i : Int)) dr0).1 i_1 []) })])) ++ [(0 : UInt8)] ++ be2 (List.getD rs (Int.toNat (↑i : Int)) dr0).2) }) { t := 5, sz := 1, exact := false, fz := false, body := Body.bytes (x ++ encL (lsOf (AV.view 1 (List.length (List.getD rs (Int.toNat (↑i : Int)) dr0).1) fun i_1 => [AV.val (Value.string { data := List.toArray (List.getD (List.getD rs (Int.toNat (↑i : Int)) dr0).1 i_1 []) })])) ++ [(0 : UInt8)] ++ be2 (List.getD rs (Int.toNat (↑i : Int)) dr0).2) }, (0 : Int) ≤ (↑i : Int) ∧ (↑i : Int) < (↑(List.length rs) : Int), 1 = 1 ∧ List.length (x ++ encL (lsOf (AV.view 1 (List.length (List.getD rs (Int.toNat (↑i : Int)) dr0).1) fun i_1 => [AV.val (Value.string { data := List.toArray (List.getD (List.getD rs (Int.toNat (↑i : Int)) dr0).1 i_1 []) })])) ++ [(0 : UInt8)] ++ be2 (List.getD rs (Int.toNat (↑i : Int)) dr0).2 ++ be2 (List.getD rs (Int.toNat (↑i : Int)) dr0).3) = List.length (x ++ encL (lsOf (AV.view 1 (List.length (List.getD rs (Int.toNat (↑i : Int)) dr0).1) fun i_1 => [AV.val (Value.string { data := List.toArray (List.getD (List.getD rs (Int.toNat (↑i : Int)) dr0).1 i_1 []) })])) ++ [(0 : UInt8)] ++ be2 (List.getD rs (Int.toNat (↑i : Int)) dr0).2 ++ be2 (List.getD rs (Int.toNat (↑i : Int)) dr0).3), AV.val (Value.int IntKind.u32 (List.getD rs (Int.toNat (↑i : Int)) dr0).4) = AV.val (Value.int IntKind.u32 (List.getD rs (Int.toNat (↑i : Int)) dr0).4), List.length (x ++ encL (lsOf (AV.view 1 (List.length (List.getD rs (Int.toNat (↑i : Int)) dr0).1) fun i_1 => [AV.val (Value.string { data := List.toArray (List.getD (List.getD rs (Int.toNat (↑i : Int)) dr0).1 i_1 []) })])) ++ [(0 : UInt8)] ++ be2 (List.getD rs (Int.toNat (↑i : Int)) dr0).2 ++ be2 (List.getD rs (Int.toNat (↑i : Int)) dr0).3) ≤ 900000 ∧ (0 : Int) ≤ (List.getD rs (Int.toNat (↑i : Int)) dr0).4 ∧ (List.getD rs (Int.toNat (↑i : Int)) dr0).4 ≤ (4294967295 : Int), SameO (some { t := 5, sz := 1, exact := false, fz := false, body := Body.bytes (x ++ encL (lsOf (AV.view 1 (List.length (List.getD rs (Int.toNat (↑i : Int)) dr0).1) fun i_1 => [AV.val (Value.string { data := List.toArray (List.getD (List.getD rs (Int.toNat (↑i : Int)) dr0).1 i_1 []) })])) ++ [(0 : UInt8)] ++ be2 (List.getD rs (Int.toNat (↑i : Int)) dr0).2 ++ be2 (List.getD rs (Int.toNat (↑i : Int)) dr0).3) }) { t := 5, sz := 1, exact := false, fz := false, body := Body.bytes (x ++ encL (lsOf (AV.view 1 (List.length (List.getD rs (Int.toNat (↑i : Int)) dr0).1) fun i_1 => [AV.val (Value.string { data := List.toArray (List.getD (List.getD rs (Int.toNat (↑i : Int)) dr0).1 i_1 []) })])) ++ [(0 : UInt8)] ++ be2 (List.getD rs (Int.toNat (↑i : Int)) dr0).2 ++ be2 (List.getD rs (Int.toNat (↑i : Int)) dr0).3) }, (0 : Int) ≤ (↑i : Int) ∧ (↑i : Int) < (↑(List.length rs) : Int), 1 = 1 ∧ List.length (x ++ encL (lsOf (AV.view 1 (List.length (List.getD rs (Int.toNat (↑i : Int)) dr0).1) fun i_1 => [AV.val (Value.string { data := List.toArray (List.getD (List.getD rs (Int.toNat (↑i : Int)) dr0).1 i_1 []) })])) ++ [(0 : UInt8)] ++ be2 (List.getD rs (Int.toNat (↑i : Int)) dr0).2 ++ be2 (List.getD rs (Int.toNat (↑i : Int)) dr0).3 ++ be4 (List.getD rs (Int.toNat (↑i : Int)) dr0).4) = List.length (x ++ encL (lsOf (AV.view 1 (List.length (List.getD rs (Int.toNat (↑i : Int)) dr0).1) fun i_1 => [AV.val (Value.string { data := List.toArray (List.getD (List.getD rs (Int.toNat (↑i : Int)) dr0).1 i_1 []) })])) ++ [(0 : UInt8)] ++ be2 (List.getD rs (Int.toNat (↑i : Int)) dr0).2 ++ be2 (List.getD rs (Int.toNat (↑i : Int)) dr0).3 ++ be4 (List.getD rs (Int.toNat (↑i : Int)) dr0).4), AV.val (Value.int IntKind.i64 (↑(List.length (List.getD rs (Int.toNat (↑i : Int)) dr0).5) : Int)) = AV.val (Value.int IntKind.i64 (↑(List.length (List.getD rs (Int.toNat (↑i : Int)) dr0).5) : Int)), List.length (x ++ encL (lsOf (AV.view 1 (List.length (List.getD rs (Int.toNat (↑i : Int)) dr0).1) fun i_1 => [AV.val (Value.string { data := List.toArray (List.getD (List.getD rs (Int.toNat (↑i : Int)) dr0).1 i_1 []) })])) ++ [(0 : UInt8)] ++ be2 (List.getD rs (Int.toNat (↑i : Int)) dr0).2 ++ be2 (List.getD rs (Int.toNat (↑i : Int)) dr0).3 ++ be4 (List.getD rs (Int.toNat (↑i : Int)) dr0).4) ≤ 1000000 ∧ pairB (↑(List.length (List.getD rs (Int.toNat (↑i : Int)) dr0).5) : Int) = true, SameO (some { t := 5, sz := 1, exact := false, fz := false, body := Body.bytes (x ++ encL (lsOf (AV.view 1 (List.length (List.getD rs (Int.toNat (↑i : Int)) dr0).1) fun i_1 => [AV.val (Value.string { data := List.toArray (List.getD (List.getD rs (Int.toNat (↑i : Int)) dr0).1 i_1 []) })])) ++ [(0 : UInt8)] ++ be2 (List.getD rs (Int.toNat (↑i : Int)) dr0).2 ++ be2 (List.getD rs (Int.toNat (↑i : Int)) dr0).3 ++ be4 (List.getD rs (Int.toNat (↑i : Int)) dr0).4) }) { t := 5, sz := 1, exact := false, fz := false, body := Body.bytes (x ++ encL (lsOf (AV.view 1 (List.length (List.getD rs (Int.toNat (↑i : Int)) dr0).1) fun i_1 => [AV.val (Value.string { data := List.toArray (List.getD (List.getD rs (Int.toNat (↑i : Int)) dr0).1 i_1 []) })])) ++ [(0 : UInt8)] ++ be2 (List.getD rs (Int.toNat (↑i : Int)) dr0).2 ++ be2 (List.getD rs (Int.toNat (↑i : Int)) dr0).3 ++ be4 (List.getD rs (Int.toNat (↑i : Int)) dr0).4) }, (0 : Int) ≤ (↑i : Int) ∧ (↑i : Int) < (↑(List.length rs) : Int), True, List.length (x ++ encL (lsOf (AV.view 1 (List.length (List.getD rs (Int.toNat (↑i : Int)) dr0).1) fun i_1 => [AV.val (Value.string { data := List.toArray (List.getD (List.getD rs (Int.toNat (↑i : Int)) dr0).1 i_1 []) })])) ++ [(0 : UInt8)] ++ be2 (List.getD rs (Int.toNat (↑i : Int)) dr0).2 ++ be2 (List.getD rs (Int.toNat (↑i : Int)) dr0).3 ++ be4 (List.getD rs (Int.toNat (↑i : Int)) dr0).4 ++ be2 (↑(List.length (List.getD rs (Int.toNat (↑i : Int)) dr0).5) : Int)) = List.length (x ++ encL (lsOf (AV.view 1 (List.length (List.getD rs (Int.toNat (↑i : Int)) dr0).1) fun i_1 => [AV.val (Value.string { data := List.toArray (List.getD (List.getD rs (Int.toNat (↑i : Int)) dr0).1 i_1 []) })])) ++ [(0 : UInt8)] ++ be2 (List.getD rs (Int.toNat (↑i : Int)) dr0).2 ++ be2 (List.getD rs (Int.toNat (↑i : Int)) dr0).3 ++ be4 (List.getD rs (Int.toNat (↑i : Int)) dr0).4 ++ be2 (↑(List.length (List.getD rs (Int.toNat (↑i : Int)) dr0).5) : Int)) ∧ List.length (x ++ encL (lsOf (AV.view 1 (List.length (List.getD rs (Int.toNat (↑i : Int)) dr0).1) fun i_1 => [AV.val (Value.string { data := List.toArray (List.getD (List.getD rs (Int.toNat (↑i : Int)) dr0).1 i_1 []) })])) ++ [(0 : UInt8)] ++ be2 (List.getD rs (Int.toNat (↑i : Int)) dr0).2 ++ be2 (List.getD rs (Int.toNat (↑i : Int)) dr0).3 ++ be4 (List.getD rs (Int.toNat (↑i : Int)) dr0).4 ++ be2 (↑(List.length (List.getD rs (Int.toNat (↑i : Int)) dr0).5) : Int)) + List.length (List.getD rs (Int.toNat (↑i : Int)) dr0).5 ≤ 1000000000, AV.sl 172 0 (List.length (x ++ encL (lsOf (AV.view 1 (List.length (List.getD rs (Int.toNat (↑i : Int)) dr0).1) fun i_1 => [AV.val (Value.string { data := List.toArray (List.getD (List.getD rs (Int.toNat (↑i : Int)) dr0).1 i_1 []) })])) ++ [(0 : UInt8)] ++ be2 (List.getD rs (Int.toNat (↑i : Int)) dr0).2 ++ be2 (List.getD rs (Int.toNat (↑i : Int)) dr0).3 ++ be4 (List.getD rs (Int.toNat (↑i : Int)) dr0).4 ++ be2 (↑(List.length (List.getD rs (Int.toNat (↑i : Int)) dr0).5) : Int)) + List.length (List.getD rs (Int.toNat (↑i : Int)) dr0).5) none = AV.sl 172 0 (List.length (x ++ encR (List.getD rs i dr0))) none, (vR rs) = vR rs, AV.val (Value.int IntKind.i64 (IntKind.wrap IntKind.i64 ((↑i : Int) + (1 : Int)))) = AV.val (Value.int IntKind.i64 (↑(i + 1) : Int)), SameO (some { t := 5, sz := 1, exact := false, fz := false, body := Body.bytes (x ++ encL (lsOf (AV.view 1 (List.length (List.getD rs (Int.toNat (↑i : Int)) dr0).1) fun i_1 => [AV.val (Value.string { data := List.toArray (List.getD (List.getD rs (Int.toNat (↑i : Int)) dr0).1 i_1 []) })])) ++ [(0 : UInt8)] ++ be2 (List.getD rs (Int.toNat (↑i : Int)) dr0).2 ++ be2 (List.getD rs (Int.toNat (↑i : Int)) dr0).3 ++ be4 (List.getD rs (Int.toNat (↑i : Int)) dr0).4 ++ be2 (↑(List.length (List.getD rs (Int.toNat (↑i : Int)) dr0).5) : Int) ++ (List.getD rs (Int.toNat (↑i : Int)) dr0).5) }) { t := 5, sz := 1, exact := false, fz := false, body := Body.bytes (x ++ encR (List.getD rs i dr0)) }]) := by kernel_rfl

set_option maxRecDepth 100000 in
theorem rpt_big1 (x : List UInt8) (rs : List DR) (i : Nat) : stepXS kRq [(111, { br := [(9, true), (14, true)] })] Try.prog 111 2 (rptG x rs i) (rptR x) [1] 1 [] = some (.ret, [decide ((↑i : Int) < (↑(List.length rs) : Int)) = true, decide ((↑(List.length x) : Int) > (2000 : Int)) = true, AV.sl 1 0 (List.length x) none = AV.sl 1 0 (List.length x) none, SameO (some { t := 5, sz := 1, exact := false, fz := false, body := Body.bytes x }) { t := 5, sz := 1, exact := false, fz := false, body := Body.bytes x }]) := by kernel_rfl

set_option maxRecDepth 100000 in
theorem rpt_end1 (x : List UInt8) (rs : List DR) (i : Nat) : stepXS kRq [(111, { br := [(9, false)] })] Try.prog 111 2 (rptG x rs i) (rptE x) [1] 1 [] = some (.exit 0, [decide ((↑i : Int) < (↑(List.length rs) : Int)) = false, AV.sl 1 0 (List.length x) none = AV.sl 1 0 (List.length x) none, SameO (some { t := 5, sz := 1, exact := false, fz := false, body := Body.bytes x }) { t := 5, sz := 1, exact := false, fz := false, body := Body.bytes x }]) := by kernel_rfl
end Go.Proofs.Ytmilcpejchjleaa

/- A message that is written the document's way: parts. -/
namespace Go.Proofs.Ytmilcpejchjleaa
open Go.RowKit
set_option linter.unusedSimpArgs false
set_option linter.unusedVariables false

theorem fits_call (z : Int) (L : List (Nat × AObj)) (nx : Nat) : ACall Try.prog 108 [.val (.int .i64 z)] L nx (.val (.bool (pairB z))) L nx := by
  have hx : ∀ r, renL r [AV.val (Value.int .i64 z)] = [AV.val (Value.int .i64 z)] := fun r => rfl
  unfold pairB
  by_cases h1 : 0 ≤ z
  · rw [decide_eq_true h1, Bool.true_and]
    refine (outXS_ok noneKnown_ok (fits_ok z) ?_).lift hx L nx
    repeat' (first | exact allNil | refine allCons ?_ ?_)
    all_goals first | exact decide_eq_true (by omega) | exact decide_eq_false (by omega)
  · rw [decide_eq_false h1, Bool.false_and]
    refine (outXS_ok noneKnown_ok (fits_neg z) ?_).lift hx L nx
    repeat' (first | exact allNil | refine allCons ?_ ?_)
    all_goals first | exact decide_eq_true (by omega) | exact decide_eq_false (by omega)
theorem kFits_ok : InlOk Try.prog kFits := by
  intro g xs L nx v L' nx' q h hq
  unfold kFits at h
  split at h
  · rename_i hg
    subst hg
    split at h
    · simp only [Option.some.injEq, Prod.mk.injEq] at h
      obtain ⟨rfl, rfl, rfl, rfl⟩ := h
      exact ⟨fits_call _ L nx, Nat.le_refl _⟩
    · cases h
  · cases h
theorem kRg_ok : InlOk Try.prog kRg := orInl_ok kFits_ok kRGood_ok

theorem ru16_call (b : List UInt8) (z : Int) (h : b.length ≤ 1000000 ∧ pairB z = true) : ACall Try.prog 110 [.bytes b, iI z] [] 0 (.sl 0 0 (b ++ be2 z).length none) [(0, puO (b ++ be2 z))] 20 := by
  have hz := pairB_iff h.2
  have hl := h.1
  have hh := outXS_ok noneKnown_ok (ru16_c b z) (by
    repeat' (first | exact allNil | refine allCons ?_ ?_ | (with_reducible refine allRp _ ?_ ?_))
    all_goals first | (with_reducible rfl) | exact True.intro | omega | exact ⟨rfl, by omega⟩ | exact ⟨by omega, by omega⟩ | (intro x hx; simp only [List.mem_cons, List.not_mem_nil, or_false] at hx; rcases hx with rfl | rfl <;> exact wrap_byte _))
  exact hh.toB (by decide) (by rw [← be2_raw z hz]) (by simp [be2]) 20 (by decide)
theorem kRU16_ok : InlOk Try.prog kRU16 := kBytes_ok (av := iI) (fun a y h => h) (fun a r => rfl) (by decide) (fun b z h => ru16_call b z h)
theorem and16 (z : Int) (h : 0 ≤ z ∧ z ≤ 4294967295) : bits BinOp.and IntKind.u32 z (65535 : Int) = z % 65536 := by
  have e : bits BinOp.and IntKind.u32 z (65535 : Int) = IntKind.wrap IntKind.u32 ((Int.toNat (z % 4294967296) &&& Int.toNat ((65535 : Int) % 4294967296) : Nat) : Int) := rfl
  have e1 : Int.toNat (z % 4294967296) = z.toNat := by omega
  have e2 : Int.toNat ((65535 : Int) % 4294967296) = 2 ^ 16 - 1 := by decide
  rw [e, e1, e2, Nat.and_two_pow_sub_one_eq_mod]
  have e3 : IntKind.wrap IntKind.u32 ((z.toNat % 2 ^ 16 : Nat) : Int) = ((z.toNat % 2 ^ 16 : Nat) : Int) % 4294967296 := by simp [IntKind.wrap, IntKind.bits, IntKind.signed]
  rw [e3]
  omega
theorem be4_two (z : Int) (h : 0 ≤ z ∧ z ≤ 4294967295) : be2 (z / 65536) ++ be2 (z % 65536) = be4 z := by
  obtain ⟨n, rfl⟩ : ∃ n : Nat, z = n := ⟨z.toNat, by omega⟩
  unfold be2 be4
  have e1 : Int.toNat ((n : Int) / 65536) = n / 65536 := by omega
  have e2 : Int.toNat ((n : Int) % 65536) = n % 65536 := by omega
  rw [e1, e2, Int.toNat_natCast]
  have k1 : n / 65536 / 256 = n / 16777216 := by omega
  have k2 : UInt8.ofNat (n % 65536 / 256) = UInt8.ofNat (n / 256) := by
    apply UInt8.toNat_inj.1
    simp
    omega
  have k3 : UInt8.ofNat (n % 65536) = UInt8.ofNat n := by
    apply UInt8.toNat_inj.1
    simp
  rw [k1, k2, k3]
  rfl
theorem ru32_call (b : List UInt8) (z : Int) (h : b.length ≤ 900000 ∧ 0 ≤ z ∧ z ≤ 4294967295) : ACall Try.prog 135 [.bytes b, iU z] [] 0 (.sl 0 0 (b ++ be4 z).length none) [(0, puO (b ++ be4 z))] 50 := by
  have hl := h.1
  have hz := h.2
  have w1 : IntKind.wrap IntKind.i64 (Int.fdiv z (65536 : Int)) = z / 65536 := by rw [fdivP _ _ (by decide), w64 _ (by omega)]
  have w2 : IntKind.wrap IntKind.i64 (bits BinOp.and IntKind.u32 z (65535 : Int)) = z % 65536 := by rw [and16 z hz, w64 _ (by omega)]
  have p1 : pairB (z / 65536) = true := by
    unfold pairB
    rw [decide_eq_true (by omega : 0 ≤ z / 65536), decide_eq_true (by omega : z / 65536 ≤ 65535)]; rfl
  have p2 : pairB (z % 65536) = true := by
    unfold pairB
    rw [decide_eq_true (by omega : 0 ≤ z % 65536), decide_eq_true (by omega : z % 65536 ≤ 65535)]; rfl
  have hh := outXS_ok kRU16_ok (ru32_c b z) (by
    simp only [w1, w2]
    repeat' (first | exact allNil | refine allCons ?_ ?_ | (with_reducible refine allRp _ ?_ ?_))
    all_goals first | (with_reducible rfl) | exact True.intro | exact ⟨by omega, p1⟩ | exact ⟨by simp [be2_len]; omega, p2⟩ | exact ⟨rfl, rfl⟩ | exact ⟨True.intro, True.intro⟩ | exact rfl)
  simp only [w1, w2, List.append_assoc, be4_two z hz] at hh
  exact hh.toB (by decide) rfl (by simp) 50 (by decide)
theorem kRU32_ok : InlOk Try.prog kRU32 := kBytes_ok (av := iU) (fun a y h => h) (fun a r => rfl) (by decide) (fun b z h => ru32_call b z h)
theorem rputB_call (b : List UInt8) (ls : List (List UInt8)) (h : putKs b ls) : ACall Try.prog 50 [.bytes b, vS ls] [] 0 (.sl 0 0 (b ++ encL ls ++ [0]).length none) [(0, puO (b ++ encL ls ++ [0]))] 10 :=
  (rput_ok b ls h.2.1 h.2.2 h.1).toB (by decide) rfl (by simp; omega) 10 (by decide)
theorem kRPutB_ok : InlOk Try.prog kRPutB := kBytes_ok (av := vS) (fun a y h => h) (fun a r => rfl) (by decide) (fun b ls h => rputB_call b ls h)
theorem kRq_ok : InlOk Try.prog kRq := orInl_ok kRPutB_ok (orInl_ok kRU16_ok kRU32_ok)

theorem rgd_call (rs : List DR) (hn : rs.length ≤ 100000) : ACall Try.prog 109 [vR rs] [] 0 (.val (.bool (!rBad rs))) [] 0 := by
  have hx : ∀ r, renL r [vR rs] = [vR rs] := fun r => rfl
  have en := fun i => lsOf_vS (rs.getD i dr0).name
  unfold vS sStr at en
  have h : EvXL Try.prog 0 (loopAt Try.prog 109 2) ((rgdG rs 0).st 0) (if rs.any (fun q => !rOk q) then .ret else .exit 0) ((if rs.any (fun q => !rOk q) then rgdN else rgdE).st 0) := by
    refine any_loopE 0 (fun i hi hf => ?_) (fun i hi hf => ?_) (fun i hi => ?_) rs 0 rfl
    · rw [← getR hi] at hf
      unfold rOk at hf
      simp only [Bool.not_eq_false', Bool.and_eq_true, decide_eq_true_eq] at hf
      obtain ⟨⟨⟨b1, b2⟩, b3⟩, b4⟩ := hf
      exact stepXS_ok kRg_ok (rgd_step rs i) (by
        simp only [Int.toNat_natCast, en]
        repeat' (first | exact allNil | refine allCons ?_ ?_ | (with_reducible refine allRp _ ?_ ?_))
        all_goals first | (with_reducible rfl) | exact True.intro | exact decide_eq_true (by omega) | exact decide_eq_false (by omega) | exact sI_succ i (by omega) | omega | (rw [b1]; rfl) | (rw [b2]; rfl) | (rw [b3]; rfl) | exact rfl)
    · rw [← getR hi] at hf
      unfold rOk at hf
      cases b3 : goodN (rs.getD i dr0).name with
      | false =>
        have b1 := b3
        have b2 := b3
        exact stepXS_ok kRg_ok (rgd_b1 rs i) (by
        simp only [Int.toNat_natCast, en]
        repeat' (first | exact allNil | refine allCons ?_ ?_ | (with_reducible refine allRp _ ?_ ?_))
        all_goals first | (with_reducible rfl) | exact True.intro | exact decide_eq_true (by omega) | exact decide_eq_false (by omega) | exact sI_succ i (by omega) | omega | (rw [b1]; rfl) | (rw [b2]; rfl) | (rw [b3]; rfl) | exact rfl)
      | true =>
      cases b1 : pairB (rs.getD i dr0).ty with
      | false =>
        have b2 := b1
        exact stepXS_ok kRg_ok (rgd_b2 rs i) (by
        simp only [Int.toNat_natCast, en]
        repeat' (first | exact allNil | refine allCons ?_ ?_ | (with_reducible refine allRp _ ?_ ?_))
        all_goals first | (with_reducible rfl) | exact True.intro | exact decide_eq_true (by omega) | exact decide_eq_false (by omega) | exact sI_succ i (by omega) | omega | (rw [b1]; rfl) | (rw [b2]; rfl) | (rw [b3]; rfl) | exact rfl)
      | true =>
      cases b2 : pairB (rs.getD i dr0).cl with
      | false => exact stepXS_ok kRg_ok (rgd_b3 rs i) (by
        simp only [Int.toNat_natCast, en]
        repeat' (first | exact allNil | refine allCons ?_ ?_ | (with_reducible refine allRp _ ?_ ?_))
        all_goals first | (with_reducible rfl) | exact True.intro | exact decide_eq_true (by omega) | exact decide_eq_false (by omega) | exact sI_succ i (by omega) | omega | (rw [b1]; rfl) | (rw [b2]; rfl) | (rw [b3]; rfl) | exact rfl)
      | true =>
      have b4 : 65535 < (rs.getD i dr0).data.length := by
        rw [b1, b2, b3] at hf
        simpa using hf
      exact stepXS_ok kRg_ok (rgd_b4 rs i) (by
        simp only [Int.toNat_natCast, en]
        repeat' (first | exact allNil | refine allCons ?_ ?_ | (with_reducible refine allRp _ ?_ ?_))
        all_goals first | (with_reducible rfl) | exact True.intro | exact decide_eq_true (by omega) | exact decide_eq_false (by omega) | exact sI_succ i (by omega) | omega | (rw [b1]; rfl) | (rw [b2]; rfl) | (rw [b3]; rfl) | exact rfl)
    · exact stepXS_ok kRg_ok (rgd_end rs i) (by
        repeat' (first | exact allNil | refine allCons ?_ ?_ | (with_reducible refine allRp _ ?_ ?_))
        all_goals first | (with_reducible rfl) | exact decide_eq_false (by omega) | exact rfl)
  unfold rBad
  cases hb : rs.any fun q => !rOk q with
  | true =>
    rw [hb] at h
    refine (outXS_ok kRg_ok (rgd_no rs) ?_).lift hx [] 0
    repeat' (first | exact allNil | refine allCons ?_ ?_ | (with_reducible refine allRp _ ?_ ?_))
    all_goals first | (with_reducible rfl) | exact h | exact rfl
  | false =>
    rw [hb] at h
    refine (outXS_ok kRg_ok (rgd_yes rs) ?_).lift hx [] 0
    repeat' (first | exact allNil | refine allCons ?_ ?_ | (with_reducible refine allRp _ ?_ ?_))
    all_goals first | (with_reducible rfl) | exact h | exact rfl

/-- records written one behind another, as the document does -/
def rputW : List UInt8 → List DR → List UInt8
  | x, [] => x
  | x, r :: t => if 2000 < x.length then x else rputW (x ++ encR r) t
theorem rputW_eq : ∀ (rs : List DR) (x : List UInt8), (rputW x rs = x ++ encRs rs) ∨ (2000 < (rputW x rs).length ∧ (rputW x rs).length ≤ (x ++ encRs rs).length)
  | [], x => .inl (by simp [rputW, encRs])
  | r :: t, x => by
    unfold rputW
    split
    · rename_i h
      exact .inr ⟨h, by simp⟩
    · rcases rputW_eq t (x ++ encR r) with h | ⟨h1, h2⟩
      · exact .inl (by rw [h]; simp [encRs])
      · exact .inr ⟨h1, by simpa [encRs] using h2⟩


theorem toNat0 : Int.toNat (0 : Int) = 0 := rfl
theorem ACall.low1 {P : Program} {g : FuncId} {xs : List AV} {L : List (Nat × AObj)} {n n1 : Nat} {z : List UInt8} (h : ACall P g xs L 1 (.sl 0 0 n none) [(0, puO z)] n1) (h1 : 1 ≤ n1) : ACall P g xs L 1 (.sl 0 0 n none) [(0, puO z)] 1 := by
  refine h.renew (v' := .sl 0 0 n none) (L2 := [(0, puO z)]) [] h1 (by simp) (by simp) (by simp [AV.ren, renX]) fun k x hk => ?_
  simp only [hp] at hk
  split at hk
  · rename_i e
    injection hk with hk
    have e0 : k = 0 := e
    subst hk e0
    simp [hp, renX, puO, objApp, AObj.ren]
  · cases hk
theorem ACall.low2 {P : Program} {g : FuncId} {xs : List AV} {L : List (Nat × AObj)} {n n1 : Nat} {z : List UInt8} (h : ACall P g xs L 1 (.sl 1 0 n none) [(1, puO z)] n1) (h1 : 2 ≤ n1) : ACall P g xs L 1 (.sl 1 0 n none) [(1, puO z)] 2 := by
  refine h.renew (v' := .sl 1 0 n none) (L2 := [(1, puO z)]) [1] (by omega) (by simp) (fun x hx => by rw [List.mem_singleton.1 hx]; omega) (by simp [AV.ren, renX]) fun k x hk => ?_
  simp only [hp] at hk
  split at hk
  · rename_i e
    injection hk with hk
    have e0 : k = 1 := e
    subst hk e0
    simp [hp, renX, puO, objApp, AObj.ren]
  · cases hk

theorem rpt_facts {x : List UInt8} {q : DR} (hx : x.length ≤ 2000) (h : rOk q = true ∧ lsK q.name ∧ 0 ≤ q.ttl ∧ q.ttl ≤ 4294967295) :
    putKs x q.name ∧ pairB q.ty = true ∧ pairB q.cl = true ∧ pairB (q.data.length : Int) = true ∧ (x ++ encL q.name ++ [0]).length ≤ 1000000 ∧ (x ++ encL q.name ++ [0] ++ be2 q.ty).length ≤ 1000000 ∧ (x ++ encL q.name ++ [0] ++ be2 q.ty ++ be2 q.cl).length ≤ 900000 ∧ (x ++ encL q.name ++ [0] ++ be2 q.ty ++ be2 q.cl ++ be4 q.ttl).length ≤ 1000000 ∧ q.data.length ≤ 65535 ∧ (encL q.name).length ≤ 254 := by
  obtain ⟨hq, hk, ht⟩ := h
  unfold rOk at hq
  simp only [Bool.and_eq_true, decide_eq_true_eq] at hq
  obtain ⟨⟨⟨h1, h2⟩, h3⟩, h4⟩ := hq
  have he := encL_good h3
  refine ⟨⟨by omega, hk, h3⟩, h1, h2, ?_, by simp; omega, by simp [be2_len]; omega, by simp [be2_len]; omega, by simp [be2_len, be4_len]; omega, h4, he⟩
  unfold pairB
  rw [decide_eq_true (by omega : (0 : Int) ≤ (q.data.length : Int)), decide_eq_true (by omega : (q.data.length : Int) ≤ 65535)]
  rfl

theorem rpt_loop (rs : List DR) (hr : rOks rs) (hn : rs.length ≤ 1000) : ∀ (rest : List DR) (i : Nat) (x : List UInt8), rs.drop i = rest → x.length ≤ 200000 →
    ∃ e E, (e = .exit 0 ∧ E = rptE (rputW x rest) ∨ e = .ret ∧ E = rptR (rputW x rest)) ∧ EvXL Try.prog 1 (loopAt Try.prog 111 2) ((rptG x rs i).st 1) e (E.st 1)
  | [], i, x, h, hx => by
    have hi : rs.length ≤ i := by simpa using h
    exact ⟨_, _, .inl ⟨rfl, rfl⟩, EvXL.last (stepXS_ok kRq_ok (rpt_end1 x rs i) (by
      repeat' (first | exact allNil | refine allCons ?_ ?_ | (with_reducible refine allRp _ ?_ ?_))
      all_goals first | (with_reducible rfl) | exact decide_eq_false (by omega) | exact rfl)) (by simp)⟩
  | q :: r, i, x, h, hx => by
    obtain ⟨hi, hg, hr'⟩ := dropStepG (d := dr0) h
    have hq := hr q (List.mem_of_mem_drop (h ▸ List.mem_cons_self ..))
    have en := lsOf_vS q.name
    unfold vS sStr at en
    unfold rputW
    by_cases hb : 2000 < x.length
    · rw [if_pos hb]
      exact ⟨_, _, .inr ⟨rfl, rfl⟩, EvXL.last (stepXS_ok kRq_ok (rpt_big1 x rs i) (by
        repeat' (first | exact allNil | refine allCons ?_ ?_ | (with_reducible refine allRp _ ?_ ?_))
        all_goals first | (with_reducible rfl) | exact decide_eq_true (by omega) | exact rfl)) (by simp)⟩
    · rw [if_neg hb]
      obtain ⟨hps, h1, h2, h5, m1, m2, m3, m4, h4, he⟩ := rpt_facts (by omega : x.length ≤ 2000) hq
      have ht := hq.2.2
      have hl := encR_len hq.1
      obtain ⟨e, E, hE, ih⟩ := rpt_loop rs hr hn r (i + 1) (x ++ encR q) hr' (by rw [List.length_append]; omega)
      refine ⟨e, E, hE, EvXL.step (stepXS_ok kRq_ok (rpt_step1 x rs i) ?_) (by rw [hg]; exact ih)⟩
      simp only [Int.toNat_natCast, toNat0, hg, en]
      repeat' (first | exact allNil | refine allCons ?_ ?_ | (with_reducible refine allRp _ ?_ ?_))
      all_goals first | (with_reducible rfl) | exact True.intro | exact decide_eq_true (by omega) | exact decide_eq_false (by omega) | exact sI_succ i (by omega) | exact hps | exact ⟨m1, h1⟩ | exact ⟨m2, h2⟩ | exact ⟨m3, ht⟩ | exact ⟨m4, h5⟩ | exact ⟨rfl, rfl⟩ | exact ⟨True.intro, True.intro⟩ | exact ⟨True.intro, by simp [be2_len, be4_len]; omega⟩ | omega | (simp only [encR, List.append_assoc, SameO]; done) | (simp [encR, SameO]; done) | (simp [encR]; omega) | exact rfl

theorem rpt_call (x : List UInt8) (rs : List DR) (hr : rOks rs) (hn : rs.length ≤ 1000) (hx : x.length ≤ 100000) :
    ∃ N, ACall Try.prog 111 [.sl 0 0 x.length none, vR rs] [(0, puO x)] 1 (.sl 1 0 (rputW x rs).length none) [(1, puO (rputW x rs))] N ∧ N = 2 := by
  refine ⟨2, ?_, rfl⟩
  have nop : ∀ z : List UInt8, ∀ k y, hp [(0, puO z)] k = some y → k < 1 := fun z k y hk => by
    simp only [hp] at hk
    split at hk
    · rename_i e; have : k = 0 := e; omega
    · cases hk
  cases rs with
  | nil =>
    have hl : EvXL Try.prog 1 (loopAt Try.prog 111 2) ((rptG0 x []).st 1) (.exit 0) ((rptE0 x).st 1) := EvXL.last (stepXS_ok kRq_ok (rpt_end0 x []) (by
      repeat' (first | exact allNil | refine allCons ?_ ?_ | (with_reducible refine allRp _ ?_ ?_))
      all_goals first | (with_reducible rfl) | exact rfl)) (by simp)
    have h := outXS_ok kRq_ok (rpt_a x []) (by
      repeat' (first | exact allNil | refine allCons ?_ ?_ | (with_reducible refine allRp _ ?_ ?_))
      all_goals first | (with_reducible rfl) | exact hl | exact rfl)
    exact (h.low1 (by decide)).alias (o := puO x) rfl (by decide) (nop x)
  | cons q r =>
    have hq := hr q (List.mem_cons_self ..)
    have en := lsOf_vS q.name
    unfold vS sStr at en
    have hg : (q :: r).getD 0 dr0 = q := rfl
    by_cases hb : 2000 < x.length
    · have hl : EvXL Try.prog 1 (loopAt Try.prog 111 2) ((rptG0 x (q :: r)).st 1) .ret ((rptR0 x).st 1) := EvXL.last (stepXS_ok kRq_ok (rpt_big0 x (q :: r)) (by
        repeat' (first | exact allNil | refine allCons ?_ ?_ | (with_reducible refine allRp _ ?_ ?_))
        all_goals first | (with_reducible rfl) | exact decide_eq_true (by omega) | exact decide_eq_true (by simp) | exact rfl)) (by simp)
      have h := outXS_ok kRq_ok (rpt_b x (q :: r)) (by
        repeat' (first | exact allNil | refine allCons ?_ ?_ | (with_reducible refine allRp _ ?_ ?_))
        all_goals first | (with_reducible rfl) | exact hl | exact rfl)
      have e : rputW x (q :: r) = x := by unfold rputW; rw [if_pos hb]
      rw [e]
      exact (h.low1 (by decide)).alias (o := puO x) rfl (by decide) (nop x)
    · obtain ⟨hps, h1, h2, h5, m1, m2, m3, m4, h4, he⟩ := rpt_facts (by omega : x.length ≤ 2000) hq
      have ht := hq.2.2
      have hl := encR_len hq.1
      have e : rputW x (q :: r) = rputW (x ++ encR q) r := by rw [rputW, if_neg hb]
      obtain ⟨e', E, hE, ih⟩ := rpt_loop (q :: r) hr hn r 1 (x ++ encR q) rfl (by rw [List.length_append]; omega)
      have hs : EvXL Try.prog 1 (loopAt Try.prog 111 2) ((rptG0 x (q :: r)).st 1) e' (E.st 1) := by
        refine EvXL.step (stepXS_ok kRq_ok (rpt_step0 x (q :: r)) ?_) (by rw [hg]; exact ih)
        simp only [Int.toNat_natCast, toNat0, hg, en]
        repeat' (first | exact allNil | refine allCons ?_ ?_ | (with_reducible refine allRp _ ?_ ?_))
        all_goals first | (with_reducible rfl) | exact True.intro | exact decide_eq_true (by omega) | exact decide_eq_true (by simp) | exact decide_eq_false (by omega) | exact hps | exact ⟨m1, h1⟩ | exact ⟨m2, h2⟩ | exact ⟨m3, ht⟩ | exact ⟨m4, h5⟩ | exact ⟨rfl, rfl⟩ | exact ⟨True.intro, True.intro⟩ | exact ⟨True.intro, by simp [be2_len, be4_len]; omega⟩ | omega | (simp only [encR, List.append_assoc, SameO]; done) | (simp [encR, SameO]; done) | (simp [encR]; omega) | exact rfl
      rw [e]
      rcases hE with ⟨rfl, rfl⟩ | ⟨rfl, rfl⟩
      · refine (outXS_ok kRq_ok (rpt_c x (q :: r) (rputW (x ++ encR q) r)) (by
          repeat' (first | exact allNil | refine allCons ?_ ?_ | (with_reducible refine allRp _ ?_ ?_))
          all_goals first | (with_reducible rfl) | exact hs | exact rfl)).low2 (by decide)
      · refine (outXS_ok kRq_ok (rpt_d x (q :: r) (rputW (x ++ encR q) r)) (by
          repeat' (first | exact allNil | refine allCons ?_ ?_ | (with_reducible refine allRp _ ?_ ?_))
          all_goals first | (with_reducible rfl) | exact hs | exact rfl)).low2 (by decide)
end Go.Proofs.Ytmilcpejchjleaa
