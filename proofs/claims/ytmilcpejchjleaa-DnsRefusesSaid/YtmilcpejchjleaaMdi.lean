/- Several texts in one: Di0, DiRun, Di. -/
import Derived.Test.YtmilcpejchjleaaMdh

/- Messages seen as the document's, and questions copied: words, known functions, and what the heads of the loops say. -/
namespace Go.Proofs.Ytmilcpejchjleaa
open Go.RowKit

/-- a function whose arguments and result lead to no objects -/
def kPure (f : FuncId) (F : List AV → Option (AV × List Prop)) : Inl := fun g xs L nx =>
  if g = f then
    match F xs with
    | some (v, q) => some (v, L, nx, q)
    | none => none
  else none
theorem kPure_ok {P : Program} {f : FuncId} {F : List AV → Option (AV × List Prop)} (h : ∀ xs v q, F xs = some (v, q) → (∀ p ∈ q, p) → ∀ L nx, ACall P f xs L nx v L nx) : InlOk P (kPure f F) := by
  intro g xs L nx w L' nx' q h1 hq
  unfold kPure at h1
  split at h1
  · rename_i hg
    subst hg
    split at h1
    · rename_i v q' hF
      simp only [Option.some.injEq, Prod.mk.injEq] at h1
      obtain ⟨rfl, rfl, rfl, rfl⟩ := h1
      exact ⟨h xs _ _ hF hq L nx, Nat.le_refl _⟩
    · cases h1
  · cases h1

section
variable {α : Type} (R : RTyW α)
/-- a list that is seen: nil, or rows that nobody writes -/
def RTyW.ofS (x : AV) : Option (List α × Prop) := R.of (fun _ => none) x
theorem RTyW.ofS_rep {x : AV} {ls : List α} {p : Prop} (hx : R.ofS x = some (ls, p)) (hp : p) : ∀ E w u, Rep E w x u → Rep E w (R.vv ls) u := by
  unfold RTyW.ofS at hx
  rw [R.of_eq] at hx
  rw [R.hv]
  unfold RTy.of at hx
  split at hx
  · rename_i sz n f
    simp only [Option.some.injEq, Prod.mk.injEq] at hx
    obtain ⟨rfl, rfl⟩ := hx
    intro E w u h
    rwa [← hp]
  · rename_i v'
    simp only [Option.some.injEq, Prod.mk.injEq] at hx
    obtain ⟨rfl, rfl⟩ := hx
    subst hp
    intro E w u h
    rw [h.val_inv]
    exact R.R.nil_rep (Nat.zero_le _)
  · rename_i xs
    simp only [Option.some.injEq, Prod.mk.injEq] at hx
    obtain ⟨rfl, rfl⟩ := hx
    subst hp
    intro E w u h
    cases h with
    | bytes hn hc hm hb =>
      rw [List.length_nil] at hn
      subst hn
      exact R.R.nil_rep hm
  · cases hx
  · cases hx
theorem RTyW.ren_vv (l : List α) (r : Nat → Nat) : (R.vv l).ren r = R.vv l := by rw [R.hv]; exact R.R.ren_v l r
def RTyW.see (f : FuncId) (K : List α → Prop) : Inl := kPure f fun xs =>
  match xs with
  | [x] =>
    match R.ofS x with
    | some (ls, p) => some (R.vv ls, [p, K ls])
    | none => none
  | _ => none
theorem RTyW.see_ok {P : Program} {f : FuncId} {K : List α → Prop} {n : Nat} (hc : ∀ ls, K ls → ACall P f [R.vv ls] [] 0 (R.vv ls) [] n) : InlOk P (R.see f K) := kPure_ok fun xs v q h hq L nx => by
  split at h
  · rename_i x
    split at h
    · rename_i ls p hx
      simp only [Option.some.injEq, Prod.mk.injEq] at h
      obtain ⟨rfl, rfl⟩ := h
      simp only [List.forall_mem_cons, List.not_mem_nil, false_implies, implies_true, and_true] at hq
      have h2 := (hc ls hq.2).liftV (fun r => by simp only [renL, R.ren_vv]) (fun r => R.ren_vv ls r) L nx
      exact h2.argsL (.cons (R.ofS_rep hx hq.1) .nil)
    · cases h
  · cases h
end

def ls5 {α : Type} (l : List α) : Prop := l.length ≤ 100000
def kQs : Inl := WQ.see 104 ls5
def kRs : Inl := WR.see 105 ls5
def kCs : Inl := WQ.see 112 qK
def kCp : Inl := kPure 68 fun xs =>
  match xs with
  | [.agg [nm, .val (.int .i64 ty), .val (.int .i64 cl)]] => some (quA ⟨lsOf nm, ty, cl⟩, [nm = vS (lsOf nm), lsK (lsOf nm)])
  | _ => none

def qsG0 (qs : List DQ) : GoalX := { len := 20, tms := [(3, nilS)], opn := [(0, vQ qs), (4, sI 0)] }
def qsG (qs : List DQ) (i : Nat) (l : List DQ) : GoalX := { len := 20, opn := [(3, .sl 0 0 i none), (0, vQ qs), (4, sI i)], oob := [(0, objFlat 159 3 (rowsQ l))], k := 1 }
def qsE (qs : List DQ) : GoalX := { len := 20, opn := [(3, .sl 0 0 qs.length none)], oob := [(0, objFlat 159 3 (rowsQ qs))], k := 1 }
def qsL (qs : List DQ) : LoopX := { ids := [], G := qsG0 qs, ex := .exit 0, E := qsE qs }
def rsG0 (rs : List DR) : GoalX := { len := 41, tms := [(3, nilS)], opn := [(0, vR rs), (4, sI 0)] }
def rsG (rs : List DR) (i : Nat) (l : List DR) : GoalX := { len := 41, opn := [(3, .sl 0 0 i none), (0, vR rs), (4, sI i)], oob := [(0, objFlat 190 5 (rowsR l))], k := 1 }
def rsE (rs : List DR) : GoalX := { len := 41, opn := [(3, .sl 0 0 rs.length none)], oob := [(0, objFlat 190 5 (rowsR rs))], k := 1 }
def rsL (rs : List DR) : LoopX := { ids := [], G := rsG0 rs, ex := .exit 0, E := rsE rs }
def csG0 (qs : List DQ) : GoalX := { len := 19, tms := [(3, nilS)], opn := [(6, vQ qs), (7, sI qs.length), (8, sI 0)] }
def csG (qs : List DQ) (i : Nat) (l : List DQ) : GoalX := { len := 19, opn := [(3, .sl 0 0 i none), (6, vQ qs), (7, sI qs.length), (8, sI i)], oob := [(0, objFlat 31 3 (rowsQ l))], k := 1 }
def csE (qs : List DQ) : GoalX := { len := 19, opn := [(3, .sl 0 0 qs.length none)], oob := [(0, objFlat 31 3 (rowsQ qs))], k := 1 }
def csL (qs : List DQ) : LoopX := { ids := [], G := csG0 qs, ex := .exit 0, E := csE qs }
end Go.Proofs.Ytmilcpejchjleaa

/- Messages seen as the document's, and questions copied, reckoned. -/
namespace Go.Proofs.Ytmilcpejchjleaa
open Go.RowKit

set_option maxRecDepth 100000 in
theorem qs_step (qs : List DQ) (i : Nat) (l : List DQ) : stepXS noneKnown [(104, { br := [(8, true)], ob := [(5, 3), (5, 7)] })] Try.prog 104 3 (qsG qs i l) (qsG qs (i + 1) (l ++ [List.getD qs i dq0])) [12] 0 [] =
   some (.normal,
   (decide ((↑i : Int) < (↑(List.length qs) : Int)) = true) ::
   ((0 : Int) ≤ (↑i : Int) ∧ (↑i : Int) < (↑(List.length qs) : Int)) ::
   (List.length (rowsQ l) = i) ::
   (i + 1 ≤ 1000000000) ::
   ((i + 1) * 40 ≤ 140737488355328) ::
   (AV.sl 12 0 (i + 1) none = AV.sl 12 0 (i + 1) none) ::
   ((AV.view 3 (List.length qs) fun i => [AV.view 1 (List.length (List.getD qs i dq0).1) fun i_1 => [AV.val (Value.string { data := List.toArray (List.getD (List.getD qs i dq0).1 i_1 []) })], AV.val (Value.int IntKind.i64 (List.getD qs i dq0).2), AV.val (Value.int IntKind.i64 (List.getD qs i dq0).3)]) = AV.view 3 (List.length qs) fun i => [AV.view 1 (List.length (List.getD qs i dq0).1) fun i_1 => [AV.val (Value.string { data := List.toArray (List.getD (List.getD qs i dq0).1 i_1 []) })], AV.val (Value.int IntKind.i64 (List.getD qs i dq0).2), AV.val (Value.int IntKind.i64 (List.getD qs i dq0).3)]) ::
   (AV.val (Value.int IntKind.i64 (IntKind.wrap IntKind.i64 ((↑i : Int) + (1 : Int)))) = AV.val (Value.int IntKind.i64 (↑(i + 1) : Int))) ::
   (SameO (some { t := 159, sz := 3, exact := false, fz := false, body := Body.flat (rowsQ l ++ [[AV.view 1 (List.length (List.getD qs (Int.toNat (↑i : Int)) dq0).1) fun i_1 => [AV.val (Value.string { data := List.toArray (List.getD (List.getD qs (Int.toNat (↑i : Int)) dq0).1 i_1 []) })], AV.val (Value.int IntKind.i64 (List.getD qs (Int.toNat (↑i : Int)) dq0).2), AV.val (Value.int IntKind.i64 (List.getD qs (Int.toNat (↑i : Int)) dq0).3)]]) }) { t := 159, sz := 3, exact := false, fz := false, body := Body.flat (List.map (fun x => (AV.brecOn_1.go x (AV.ren._f (renX 0 [12] 27)) (renL._f (renX 0 [12] 27))).1) (rowsQ (l ++ [List.getD qs i dq0]))) }) :: []) := by kernel_rfl

set_option maxRecDepth 100000 in
theorem qs_end (qs : List DQ) : stepXS noneKnown [(104, { br := [(8, false)] })] Try.prog 104 3 (qsG qs (List.length qs) qs) (qsE qs) [0] 0 [] =
   some (.exit 0,
   (decide ((↑(List.length qs) : Int) < (↑(List.length qs) : Int)) = false) ::
   (AV.sl 0 0 (List.length qs) none = AV.sl 0 0 (List.length qs) none) ::
   (SameO (some { t := 159, sz := 3, exact := false, fz := false, body := Body.flat (rowsQ qs) }) { t := 159, sz := 3, exact := false, fz := false, body := Body.flat (List.map (fun x => (AV.brecOn_1.go x (AV.ren._f (renX 0 [0] 5)) (renL._f (renX 0 [0] 5))).1) (rowsQ qs)) }) :: []) := by kernel_rfl

set_option maxRecDepth 100000 in
theorem qs_ret (qs : List DQ) : outXS noneKnown [] Try.prog 104 [AV.view 3 (List.length qs) fun i => [AV.view 1 (List.length (List.getD qs i dq0).1) fun i_1 => [AV.val (Value.string { data := List.toArray (List.getD (List.getD qs i dq0).1 i_1 []) })], AV.val (Value.int IntKind.i64 (List.getD qs i dq0).2), AV.val (Value.int IntKind.i64 (List.getD qs i dq0).3)]] [] 0 [0] [(3, qsL qs)] =
   some (AV.sl 0 0 (List.length qs) none, [(0, { t := 159, sz := 3, exact := false, fz := false, body := Body.flat (rowsQ qs) })], 3,
   ((AV.view 3 (List.length qs) fun i => [AV.view 1 (List.length (List.getD qs i dq0).1) fun i_1 => [AV.val (Value.string { data := List.toArray (List.getD (List.getD qs i dq0).1 i_1 []) })], AV.val (Value.int IntKind.i64 (List.getD qs i dq0).2), AV.val (Value.int IntKind.i64 (List.getD qs i dq0).3)]) = AV.view 3 (List.length qs) fun i => [AV.view 1 (List.length (List.getD qs i dq0).1) fun i_1 => [AV.val (Value.string { data := List.toArray (List.getD (List.getD qs i dq0).1 i_1 []) })], AV.val (Value.int IntKind.i64 (List.getD qs i dq0).2), AV.val (Value.int IntKind.i64 (List.getD qs i dq0).3)]) ::
   (AV.val (Value.int IntKind.i64 (0 : Int)) = AV.val (Value.int IntKind.i64 (0 : Int))) ::
   (EvXL Try.prog 0 (loopAt Try.prog 104 3) (GoalX.st (LoopX.G (qsL qs)) 0) (LoopX.ex (qsL qs)) (GoalX.st (LoopX.E (qsL qs)) 0)) :: []) := by kernel_rfl

set_option maxRecDepth 100000 in
theorem rs_step (qs : List DR) (i : Nat) (l : List DR) : stepXS noneKnown [(105, { br := [(8, true)], ob := [(5, 3), (5, 8), (5, 13), (5, 18), (5, 23), (5, 28)] })] Try.prog 105 3 (rsG qs i l) (rsG qs (i + 1) (l ++ [List.getD qs i dr0])) [33] 0 [] =
   some (.normal,
   (decide ((↑i : Int) < (↑(List.length qs) : Int)) = true) ::
   rp 5 ((0 : Int) ≤ (↑i : Int) ∧ (↑i : Int) < (↑(List.length qs) : Int)) (
   (List.length (rowsR l) = i) ::
   (i + 1 ≤ 1000000000) ::
   ((i + 1) * 72 ≤ 140737488355328) ::
   (AV.sl 33 0 (i + 1) none = AV.sl 33 0 (i + 1) none) ::
   ((AV.view 5 (List.length qs) fun i => [AV.view 1 (List.length (List.getD qs i dr0).1) fun i_1 => [AV.val (Value.string { data := List.toArray (List.getD (List.getD qs i dr0).1 i_1 []) })], AV.val (Value.int IntKind.i64 (List.getD qs i dr0).2), AV.val (Value.int IntKind.i64 (List.getD qs i dr0).3), AV.val (Value.int IntKind.u32 (List.getD qs i dr0).4), AV.bytes (List.getD qs i dr0).5]) = AV.view 5 (List.length qs) fun i => [AV.view 1 (List.length (List.getD qs i dr0).1) fun i_1 => [AV.val (Value.string { data := List.toArray (List.getD (List.getD qs i dr0).1 i_1 []) })], AV.val (Value.int IntKind.i64 (List.getD qs i dr0).2), AV.val (Value.int IntKind.i64 (List.getD qs i dr0).3), AV.val (Value.int IntKind.u32 (List.getD qs i dr0).4), AV.bytes (List.getD qs i dr0).5]) ::
   (AV.val (Value.int IntKind.i64 (IntKind.wrap IntKind.i64 ((↑i : Int) + (1 : Int)))) = AV.val (Value.int IntKind.i64 (↑(i + 1) : Int))) ::
   (SameO (some { t := 190, sz := 5, exact := false, fz := false, body := Body.flat (rowsR l ++ [[AV.view 1 (List.length (List.getD qs (Int.toNat (↑i : Int)) dr0).1) fun i_1 => [AV.val (Value.string { data := List.toArray (List.getD (List.getD qs (Int.toNat (↑i : Int)) dr0).1 i_1 []) })], AV.val (Value.int IntKind.i64 (List.getD qs (Int.toNat (↑i : Int)) dr0).2), AV.val (Value.int IntKind.i64 (List.getD qs (Int.toNat (↑i : Int)) dr0).3), AV.val (Value.int IntKind.u32 (List.getD qs (Int.toNat (↑i : Int)) dr0).4), AV.bytes (List.getD qs (Int.toNat (↑i : Int)) dr0).5]]) }) { t := 190, sz := 5, exact := false, fz := false, body := Body.flat (List.map (fun x => (AV.brecOn_1.go x (AV.ren._f (renX 0 [33] 38)) (renL._f (renX 0 [33] 38))).1) (rowsR (l ++ [List.getD qs i dr0]))) }) :: [])) := by kernel_rfl

set_option maxRecDepth 100000 in
theorem rs_end (qs : List DR) : stepXS noneKnown [(105, { br := [(8, false)] })] Try.prog 105 3 (rsG qs (List.length qs) qs) (rsE qs) [0] 0 [] =
   some (.exit 0,
   (decide ((↑(List.length qs) : Int) < (↑(List.length qs) : Int)) = false) ::
   (AV.sl 0 0 (List.length qs) none = AV.sl 0 0 (List.length qs) none) ::
   (SameO (some { t := 190, sz := 5, exact := false, fz := false, body := Body.flat (rowsR qs) }) { t := 190, sz := 5, exact := false, fz := false, body := Body.flat (List.map (fun x => (AV.brecOn_1.go x (AV.ren._f (renX 0 [0] 5)) (renL._f (renX 0 [0] 5))).1) (rowsR qs)) }) :: []) := by kernel_rfl

set_option maxRecDepth 100000 in
theorem rs_ret (qs : List DR) : outXS noneKnown [] Try.prog 105 [AV.view 5 (List.length qs) fun i => [AV.view 1 (List.length (List.getD qs i dr0).1) fun i_1 => [AV.val (Value.string { data := List.toArray (List.getD (List.getD qs i dr0).1 i_1 []) })], AV.val (Value.int IntKind.i64 (List.getD qs i dr0).2), AV.val (Value.int IntKind.i64 (List.getD qs i dr0).3), AV.val (Value.int IntKind.u32 (List.getD qs i dr0).4), AV.bytes (List.getD qs i dr0).5]] [] 0 [0] [(3, rsL qs)] =
   some (AV.sl 0 0 (List.length qs) none, [(0, { t := 190, sz := 5, exact := false, fz := false, body := Body.flat (rowsR qs) })], 3,
   ((AV.view 5 (List.length qs) fun i => [AV.view 1 (List.length (List.getD qs i dr0).1) fun i_1 => [AV.val (Value.string { data := List.toArray (List.getD (List.getD qs i dr0).1 i_1 []) })], AV.val (Value.int IntKind.i64 (List.getD qs i dr0).2), AV.val (Value.int IntKind.i64 (List.getD qs i dr0).3), AV.val (Value.int IntKind.u32 (List.getD qs i dr0).4), AV.bytes (List.getD qs i dr0).5]) = AV.view 5 (List.length qs) fun i => [AV.view 1 (List.length (List.getD qs i dr0).1) fun i_1 => [AV.val (Value.string { data := List.toArray (List.getD (List.getD qs i dr0).1 i_1 []) })], AV.val (Value.int IntKind.i64 (List.getD qs i dr0).2), AV.val (Value.int IntKind.i64 (List.getD qs i dr0).3), AV.val (Value.int IntKind.u32 (List.getD qs i dr0).4), AV.bytes (List.getD qs i dr0).5]) ::
   (AV.val (Value.int IntKind.i64 (0 : Int)) = AV.val (Value.int IntKind.i64 (0 : Int))) ::
   (EvXL Try.prog 0 (loopAt Try.prog 105 3) (GoalX.st (LoopX.G (rsL qs)) 0) (LoopX.ex (rsL qs)) (GoalX.st (LoopX.E (rsL qs)) 0)) :: []) := by kernel_rfl

set_option maxRecDepth 100000 in
theorem cs_step (qs : List DQ) (i : Nat) (l : List DQ) : stepXS kCp [(112, { br := [(9, true)], ob := [(4, 0), (5, 4)] })] Try.prog 112 3 (csG qs i l) (csG qs (i + 1) (l ++ [List.getD qs i dq0])) [10] 0 [] =
   some (.normal,
   (decide ((↑i : Int) < (↑(List.length qs) : Int)) = true) ::
   ((0 : Int) ≤ (↑i : Int) ∧ (↑i : Int) < (↑(List.length qs) : Int)) ::
   ((AV.view 1 (List.length (List.getD qs (Int.toNat (↑i : Int)) dq0).1) fun i_1 => [AV.val (Value.string { data := List.toArray (List.getD (List.getD qs (Int.toNat (↑i : Int)) dq0).1 i_1 []) })]) = AV.view 1 (List.length (lsOf (AV.view 1 (List.length (List.getD qs (Int.toNat (↑i : Int)) dq0).1) fun i_1 => [AV.val (Value.string { data := List.toArray (List.getD (List.getD qs (Int.toNat (↑i : Int)) dq0).1 i_1 []) })]))) fun i_1 => [AV.val (Value.string { data := List.toArray (List.getD (lsOf (AV.view 1 (List.length (List.getD qs (Int.toNat (↑i : Int)) dq0).1) fun i_2 => [AV.val (Value.string { data := List.toArray (List.getD (List.getD qs (Int.toNat (↑i : Int)) dq0).1 i_2 []) })])) i_1 []) })]) ::
   (lsK (lsOf (AV.view 1 (List.length (List.getD qs (Int.toNat (↑i : Int)) dq0).1) fun i_1 => [AV.val (Value.string { data := List.toArray (List.getD (List.getD qs (Int.toNat (↑i : Int)) dq0).1 i_1 []) })]))) ::
   (List.length (rowsQ l) = i) ::
   (i + 1 ≤ 1000000000) ::
   ((i + 1) * 40 ≤ 140737488355328) ::
   (AV.sl 10 0 (i + 1) none = AV.sl 10 0 (i + 1) none) ::
   ((AV.view 3 (List.length qs) fun i => [AV.view 1 (List.length (List.getD qs i dq0).1) fun i_1 => [AV.val (Value.string { data := List.toArray (List.getD (List.getD qs i dq0).1 i_1 []) })], AV.val (Value.int IntKind.i64 (List.getD qs i dq0).2), AV.val (Value.int IntKind.i64 (List.getD qs i dq0).3)]) = AV.view 3 (List.length qs) fun i => [AV.view 1 (List.length (List.getD qs i dq0).1) fun i_1 => [AV.val (Value.string { data := List.toArray (List.getD (List.getD qs i dq0).1 i_1 []) })], AV.val (Value.int IntKind.i64 (List.getD qs i dq0).2), AV.val (Value.int IntKind.i64 (List.getD qs i dq0).3)]) ::
   (AV.val (Value.int IntKind.i64 (↑(List.length qs) : Int)) = AV.val (Value.int IntKind.i64 (↑(List.length qs) : Int))) ::
   (AV.val (Value.int IntKind.i64 (IntKind.wrap IntKind.i64 ((↑i : Int) + (1 : Int)))) = AV.val (Value.int IntKind.i64 (↑(i + 1) : Int))) ::
   (SameO (some { t := 31, sz := 3, exact := false, fz := false, body := Body.flat (rowsQ l ++ [[AV.view 1 (List.length (lsOf (AV.view 1 (List.length (List.getD qs (Int.toNat (↑i : Int)) dq0).1) fun i_1 => [AV.val (Value.string { data := List.toArray (List.getD (List.getD qs (Int.toNat (↑i : Int)) dq0).1 i_1 []) })]))) fun i_1 => [AV.val (Value.string { data := List.toArray (List.getD (lsOf (AV.view 1 (List.length (List.getD qs (Int.toNat (↑i : Int)) dq0).1) fun i_2 => [AV.val (Value.string { data := List.toArray (List.getD (List.getD qs (Int.toNat (↑i : Int)) dq0).1 i_2 []) })])) i_1 []) })], AV.val (Value.int IntKind.i64 (List.getD qs (Int.toNat (↑i : Int)) dq0).2), AV.val (Value.int IntKind.i64 (List.getD qs (Int.toNat (↑i : Int)) dq0).3)]]) }) { t := 31, sz := 3, exact := false, fz := false, body := Body.flat (List.map (fun x => (AV.brecOn_1.go x (AV.ren._f (renX 0 [10] 14)) (renL._f (renX 0 [10] 14))).1) (rowsQ (l ++ [List.getD qs i dq0]))) }) :: []) := by kernel_rfl

set_option maxRecDepth 100000 in
theorem cs_end (qs : List DQ) : stepXS kCp [(112, { br := [(9, false)] })] Try.prog 112 3 (csG qs (List.length qs) qs) (csE qs) [0] 0 [] =
   some (.exit 0,
   (decide ((↑(List.length qs) : Int) < (↑(List.length qs) : Int)) = false) ::
   (AV.sl 0 0 (List.length qs) none = AV.sl 0 0 (List.length qs) none) ::
   (SameO (some { t := 31, sz := 3, exact := false, fz := false, body := Body.flat (rowsQ qs) }) { t := 31, sz := 3, exact := false, fz := false, body := Body.flat (List.map (fun x => (AV.brecOn_1.go x (AV.ren._f (renX 0 [0] 2)) (renL._f (renX 0 [0] 2))).1) (rowsQ qs)) }) :: []) := by kernel_rfl

set_option maxRecDepth 100000 in
theorem cs_ret (qs : List DQ) : outXS kCp [] Try.prog 112 [AV.view 3 (List.length qs) fun i => [AV.view 1 (List.length (List.getD qs i dq0).1) fun i_1 => [AV.val (Value.string { data := List.toArray (List.getD (List.getD qs i dq0).1 i_1 []) })], AV.val (Value.int IntKind.i64 (List.getD qs i dq0).2), AV.val (Value.int IntKind.i64 (List.getD qs i dq0).3)]] [] 0 [0] [(3, csL qs)] =
   some (AV.sl 0 0 (List.length qs) none, [(0, { t := 31, sz := 3, exact := false, fz := false, body := Body.flat (rowsQ qs) })], 3,
   ((AV.view 3 (List.length qs) fun i => [AV.view 1 (List.length (List.getD qs i dq0).1) fun i_1 => [AV.val (Value.string { data := List.toArray (List.getD (List.getD qs i dq0).1 i_1 []) })], AV.val (Value.int IntKind.i64 (List.getD qs i dq0).2), AV.val (Value.int IntKind.i64 (List.getD qs i dq0).3)]) = AV.view 3 (List.length qs) fun i => [AV.view 1 (List.length (List.getD qs i dq0).1) fun i_1 => [AV.val (Value.string { data := List.toArray (List.getD (List.getD qs i dq0).1 i_1 []) })], AV.val (Value.int IntKind.i64 (List.getD qs i dq0).2), AV.val (Value.int IntKind.i64 (List.getD qs i dq0).3)]) ::
   (AV.val (Value.int IntKind.i64 (↑(List.length qs) : Int)) = AV.val (Value.int IntKind.i64 (↑(List.length qs) : Int))) ::
   (AV.val (Value.int IntKind.i64 (0 : Int)) = AV.val (Value.int IntKind.i64 (0 : Int))) ::
   (EvXL Try.prog 0 (loopAt Try.prog 112 3) (GoalX.st (LoopX.G (csL qs)) 0) (LoopX.ex (csL qs)) (GoalX.st (LoopX.E (csL qs)) 0)) :: []) := by kernel_rfl

set_option maxRecDepth 100000 in
theorem cp_one (q : DQ) : outXS noneKnown [] Try.prog 68 [AV.agg [AV.view 1 (List.length q.1) fun i => [AV.val (Value.string { data := List.toArray (List.getD q.1 i []) })], AV.val (Value.int IntKind.i64 q.2), AV.val (Value.int IntKind.i64 q.3)]] [] 0 [5] [] =
   some (AV.agg [AV.sl 5 0 (0 + List.length q.1) none, AV.val (Value.int IntKind.i64 q.2), AV.val (Value.int IntKind.i64 q.3)], [(5, { t := 9, sz := 1, exact := false, fz := false, body := Body.flat (rowsV q.1) })], 10,
   (0 = 0) ::
   (0 < List.length q.1) ::
   (onesOk 1 (rowsV q.1) = true) ::
   (0 + List.length q.1 ≤ 1000000000) ::
   ((0 + List.length q.1) * 16 ≤ 140737488355328) :: []) := by kernel_rfl

set_option maxRecDepth 100000 in
theorem cp_nil (q : DQ) : outXS noneKnown [] Try.prog 68 [AV.agg [AV.bytes [], AV.val (Value.int IntKind.i64 q.2), AV.val (Value.int IntKind.i64 q.3)]] [] 0 [2] [] =
   some (AV.agg [AV.sl 2 0 0 none, AV.val (Value.int IntKind.i64 q.2), AV.val (Value.int IntKind.i64 q.3)], [(2, { t := 9, sz := 1, exact := true, fz := false, body := Body.rows [] })], 10,
   []) := by kernel_rfl
end Go.Proofs.Ytmilcpejchjleaa

/- Messages seen as the document's, and questions copied: known. -/
namespace Go.Proofs.Ytmilcpejchjleaa
open Go.RowKit
set_option linter.unusedSimpArgs false
set_option linter.unusedVariables false

theorem same_rows {α : Type} (R : RTy α) {t sz : Nat} {ex fz : Bool} {f : List AV → List AV} {es : List α} {l : List (List AV)} (hf : ∀ s, f (R.row s) = R.row s) (h : l = rowsG R es) : SameO (some { t := t, sz := sz, exact := ex, fz := fz, body := .flat l }) { t := t, sz := sz, exact := ex, fz := fz, body := .flat ((rowsG R es).map f) } := by
  have : (rowsG R es).map f = rowsG R es := by
    unfold rowsG
    rw [List.map_map]
    exact List.map_congr_left fun e _ => hf e
  rw [this, h]
  exact rfl
theorem rowsQ_len (l : List DQ) : (rowsQ l).length = l.length := RTy.rows_len RQ l
theorem rowsR_len (l : List DR) : (rowsR l).length = l.length := RTy.rows_len RR l
theorem take_snoc {α : Type} {d : α} {l : List α} {i : Nat} (h : i < l.length) : l.take i ++ [l.getD i d] = l.take (i + 1) := by
  rw [List.getD_eq_getElem?_getD, List.getElem?_eq_getElem h, Option.getD_some]
  exact List.take_append_getElem h
theorem rowsQ_snoc (l : List DQ) (q : DQ) : rowsQ l ++ [[vS q.name, iI q.ty, iI q.cl]] = rowsQ (l ++ [q]) := RTy.rows_app RQ l [q]
theorem rowsR_snoc (l : List DR) (q : DR) : rowsR l ++ [[vS q.name, iI q.ty, iI q.cl, iU q.ttl, .bytes q.data]] = rowsR (l ++ [q]) := RTy.rows_app RR l [q]

theorem onesV (es : List (List UInt8)) : onesOk 1 (rowsV es) = true := by
  unfold rowsV onesOk
  simp [List.all_eq_true]
  intro a _
  rfl

theorem vS_nil_rep {E : Env} {w : World} {u : Value} (h : Rep E w (vS []) u) : Rep E w (.bytes []) u := by
  unfold vS at h
  cases h with
  | view cells hc hm hA hl h1 h2 => exact .bytes rfl hc hm fun h0 => absurd h0 (by simp)

theorem Rep.aggF {E E' : Env} {w : World} {l l' : List AV} {u : Value} (h : Rep E w (.agg l) u) (hl : l'.length = l.length) (hh : ∀ (k : Nat) a a' v, l[k]? = some a → l'[k]? = some a' → Rep E w a v → Rep E' w a' v) : Rep E' w (.agg l') u := by
  cases h with
  | agg hn h1 =>
    refine .agg (by rw [hl]; exact hn) fun k a' v h2 h3 => ?_
    have hk := (List.getElem?_eq_some_iff.1 h2).1
    rw [hl] at hk
    exact hh k _ a' v (List.getElem?_eq_getElem hk) h2 (h1 k _ v (List.getElem?_eq_getElem hk) h3)
theorem Rep.valF {E E' : Env} {w : World} {x v : Value} (h : Rep E w (.val x) v) : Rep E' w (.val x) v := by
  rw [h.val_inv]; exact .val _
/-- a question whose name is told -/
theorem quA_told {E E' : Env} {w : World} {x y : AV} {a b : Value} {u : Value} (h : Rep E w (.agg [x, .val a, .val b]) u) (hx : ∀ v, Rep E w x v → Rep E' w y v) : Rep E' w (.agg [y, .val a, .val b]) u := by
  refine h.aggF rfl fun k p p' v h1 h2 h3 => ?_
  match k with
  | 0 => simp at h1 h2; subst h1 h2; exact hx v h3
  | 1 => simp at h1 h2; subst h1 h2; exact h3.valF
  | 2 => simp at h1 h2; subst h1 h2; exact h3.valF
  | k + 3 => simp at h1


theorem copied_call (q : DQ) (hk : lsK q.name) : ACall Try.prog 68 [quA q] [] 0 (quA q) [] 10 := by
  obtain ⟨nm, ty, cl⟩ := q
  obtain ⟨h1, h2⟩ := hk
  by_cases hn : nm = []
  · subst hn
    refine ACall.argsL ?_ (.cons (RepLe.agg (.cons (a := .bytes []) (fun E w u h => vS_nil_rep h) (.cons (sameA _) (.cons (sameA _) .nil)))) .nil)
    have h := outXS_ok noneKnown_ok (cp_nil ⟨[], ty, cl⟩) allNil
    refine ACall.told [2] h (fun id hid => by
      have e := List.mem_singleton.1 hid
      subst e
      exact ⟨_, rfl⟩) (fun id x hid => by cases hid) fun E w u hs hr => ?_
    exact quA_told hr fun v hv => Rep.frzRow (es := []) hs rfl (List.mem_singleton.2 rfl) (.inr rfl) rfl rfl hv
  · have h := outXS_ok noneKnown_ok (cp_one ⟨nm, ty, cl⟩) (by
      have hp : 0 < nm.length := List.length_pos_iff.2 hn
      have ho := onesV nm
      have h1 : nm.length ≤ 1000000 := h1
      refine allCons rfl (allCons hp (allCons ho (allCons ?_ (allCons ?_ allNil))))
      · show 0 + nm.length ≤ _
        omega
      · show (0 + nm.length) * 16 ≤ _
        omega)
    refine ACall.told [5] h (fun id hid => by
      have e := List.mem_singleton.1 hid
      subst e
      exact ⟨_, rfl⟩) (fun id x hid => by cases hid) fun E w u hs hr => ?_
    exact quA_told hr fun v hv => Rep.frzRow (es := nm) hs rfl (List.mem_singleton.2 rfl) (.inl (by
      show Body.flat _ = _
      rw [← rowsV_eq])) rfl (Nat.zero_add _) hv

theorem qs_loop (qs : List DQ) (hn : ls5 qs) : ∀ (k i : Nat), i + k = qs.length →
    EvXL Try.prog 0 (loopAt Try.prog 104 3) ((qsG qs i (qs.take i)).st 0) (.exit 0) ((qsE qs).st 0)
  | 0, i, h => by
    obtain rfl : i = qs.length := by omega
    rw [List.take_length]
    exact EvXL.last (stepXS_ok noneKnown_ok (qs_end qs) (by
      repeat' (first | exact allNil | refine allCons ?_ ?_ | (with_reducible refine allRp _ ?_ ?_))
      all_goals first | (with_reducible rfl) | exact decide_eq_false (by omega) | exact same_rows RQ (fun _ => rfl) rfl | exact rfl)) (by simp)
  | k + 1, i, h => by
    have hn1 : qs.length ≤ 100000 := hn
    have hi : i < qs.length := by omega
    have hl : (qs.take i).length = i := by rw [List.length_take]; omega
    refine EvXL.step (stepXS_ok noneKnown_ok (qs_step qs i (qs.take i)) ?_) (by
      rw [take_snoc hi]
      exact qs_loop qs hn k (i + 1) (by omega))
    simp only [Int.toNat_natCast]
    repeat' (first | exact allNil | refine allCons ?_ ?_ | (with_reducible refine allRp _ ?_ ?_))
    all_goals first | (with_reducible rfl) | exact decide_eq_true (by omega) | exact True.intro | omega | exact sI_succ i (by omega) | exact ⟨by omega, by omega⟩ | exact (rowsQ_len _).trans hl | exact same_rows RQ (fun _ => rfl) (rowsQ_snoc _ _) | exact hk | exact rfl
theorem qs_call (qs : List DQ) (hn : ls5 qs) : ACall Try.prog 104 [WQ.vv qs] [] 0 (WQ.vv qs) [] 3 := by
  have h0 := qs_loop qs hn qs.length 0 (by omega)
  have h1 : EvXL Try.prog 0 (loopAt Try.prog 104 3) ((qsG0 qs).st 0) (.exit 0) ((qsE qs).st 0) := EvXL.nil_in (G := qsG0 qs) (G1 := qsG qs 0 []) 3 [] _ 159 3 h0 rfl rfl rfl rfl rfl
  have h := outXS_ok noneKnown_ok (qs_ret qs) (by
    repeat' (first | exact allNil | refine allCons ?_ ?_ | (with_reducible refine allRp _ ?_ ?_))
    all_goals first | (with_reducible rfl) | exact h1 | exact rfl)
  refine ACall.told [0] h (fun id hid => by
      have e := List.mem_singleton.1 hid
      subst e
      exact ⟨_, rfl⟩) (fun id x hid => by cases hid) fun E w u hs hr => ?_
  exact WQ.frzRows hs rfl (List.mem_singleton.2 rfl) (.inr rfl) rfl rfl hr

theorem rs_loop (qs : List DR) (hn : ls5 qs) : ∀ (k i : Nat), i + k = qs.length →
    EvXL Try.prog 0 (loopAt Try.prog 105 3) ((rsG qs i (qs.take i)).st 0) (.exit 0) ((rsE qs).st 0)
  | 0, i, h => by
    obtain rfl : i = qs.length := by omega
    rw [List.take_length]
    exact EvXL.last (stepXS_ok noneKnown_ok (rs_end qs) (by
      repeat' (first | exact allNil | refine allCons ?_ ?_ | (with_reducible refine allRp _ ?_ ?_))
      all_goals first | (with_reducible rfl) | exact decide_eq_false (by omega) | exact same_rows RR (fun _ => rfl) rfl | exact rfl)) (by simp)
  | k + 1, i, h => by
    have hn1 : qs.length ≤ 100000 := hn
    have hi : i < qs.length := by omega
    have hl : (qs.take i).length = i := by rw [List.length_take]; omega
    refine EvXL.step (stepXS_ok noneKnown_ok (rs_step qs i (qs.take i)) ?_) (by
      rw [take_snoc hi]
      exact rs_loop qs hn k (i + 1) (by omega))
    simp only [Int.toNat_natCast]
    repeat' (first | exact allNil | refine allCons ?_ ?_ | (with_reducible refine allRp _ ?_ ?_))
    all_goals first | (with_reducible rfl) | exact decide_eq_true (by omega) | exact True.intro | omega | exact sI_succ i (by omega) | exact ⟨by omega, by omega⟩ | exact (rowsR_len _).trans hl | exact same_rows RR (fun _ => rfl) (rowsR_snoc _ _) | exact hk | exact rfl
theorem rs_call (qs : List DR) (hn : ls5 qs) : ACall Try.prog 105 [WR.vv qs] [] 0 (WR.vv qs) [] 3 := by
  have h0 := rs_loop qs hn qs.length 0 (by omega)
  have h1 : EvXL Try.prog 0 (loopAt Try.prog 105 3) ((rsG0 qs).st 0) (.exit 0) ((rsE qs).st 0) := EvXL.nil_in (G := rsG0 qs) (G1 := rsG qs 0 []) 3 [] _ 190 5 h0 rfl rfl rfl rfl rfl
  have h := outXS_ok noneKnown_ok (rs_ret qs) (by
    repeat' (first | exact allNil | refine allCons ?_ ?_ | (with_reducible refine allRp _ ?_ ?_))
    all_goals first | (with_reducible rfl) | exact h1 | exact rfl)
  refine ACall.told [0] h (fun id hid => by
      have e := List.mem_singleton.1 hid
      subst e
      exact ⟨_, rfl⟩) (fun id x hid => by cases hid) fun E w u hs hr => ?_
  exact WR.frzRows hs rfl (List.mem_singleton.2 rfl) (.inr rfl) rfl rfl hr

theorem kQs_ok : InlOk Try.prog kQs := WQ.see_ok qs_call
theorem kRs_ok : InlOk Try.prog kRs := WR.see_ok rs_call
theorem kCp_ok : InlOk Try.prog kCp := kPure_ok fun xs v q h hq L nx => by
  split at h
  · rename_i nm ty cl
    simp only [Option.some.injEq, Prod.mk.injEq] at h
    obtain ⟨rfl, rfl⟩ := h
    simp only [List.forall_mem_cons, List.not_mem_nil, false_implies, implies_true, and_true] at hq
    obtain ⟨h1, h2⟩ := hq
    generalize lsOf nm = z at *
    subst h1
    exact (copied_call ⟨z, ty, cl⟩ h2).liftV (fun r => rfl) (fun r => rfl) L nx
  · cases h

theorem cs_loop (qs : List DQ) (hn : qK qs) : ∀ (k i : Nat), i + k = qs.length →
    EvXL Try.prog 0 (loopAt Try.prog 112 3) ((csG qs i (qs.take i)).st 0) (.exit 0) ((csE qs).st 0)
  | 0, i, h => by
    obtain rfl : i = qs.length := by omega
    rw [List.take_length]
    exact EvXL.last (stepXS_ok kCp_ok (cs_end qs) (by
      repeat' (first | exact allNil | refine allCons ?_ ?_ | (with_reducible refine allRp _ ?_ ?_))
      all_goals first | (with_reducible rfl) | exact decide_eq_false (by omega) | exact same_rows RQ (fun _ => rfl) rfl | exact rfl)) (by simp)
  | k + 1, i, h => by
    have hn1 : qs.length ≤ 1000 := hn.1
    have hi : i < qs.length := by omega
    have hl : (qs.take i).length = i := by rw [List.length_take]; omega
    refine EvXL.step (stepXS_ok kCp_ok (cs_step qs i (qs.take i)) ?_) (by
      rw [take_snoc hi]
      exact cs_loop qs hn k (i + 1) (by omega))
    have hk := hn.2 i
    have en := lsOf_vS (qs.getD i dq0).name
    unfold vS sStr at en
    simp only [Int.toNat_natCast, en]
    repeat' (first | exact allNil | refine allCons ?_ ?_ | (with_reducible refine allRp _ ?_ ?_))
    all_goals first | (with_reducible rfl) | exact decide_eq_true (by omega) | exact True.intro | omega | exact sI_succ i (by omega) | exact ⟨by omega, by omega⟩ | exact (rowsQ_len _).trans hl | exact same_rows RQ (fun _ => rfl) (rowsQ_snoc _ _) | exact hk | exact rfl
theorem cs_call (qs : List DQ) (hn : qK qs) : ACall Try.prog 112 [WQ.vv qs] [] 0 (WQ.vv qs) [] 3 := by
  have h0 := cs_loop qs hn qs.length 0 (by omega)
  have h1 : EvXL Try.prog 0 (loopAt Try.prog 112 3) ((csG0 qs).st 0) (.exit 0) ((csE qs).st 0) := EvXL.nil_in (G := csG0 qs) (G1 := csG qs 0 []) 3 [] _ 31 3 h0 rfl rfl rfl rfl rfl
  have h := outXS_ok kCp_ok (cs_ret qs) (by
    repeat' (first | exact allNil | refine allCons ?_ ?_ | (with_reducible refine allRp _ ?_ ?_))
    all_goals first | (with_reducible rfl) | exact h1 | exact rfl)
  refine ACall.told [0] h (fun id hid => by
      have e := List.mem_singleton.1 hid
      subst e
      exact ⟨_, rfl⟩) (fun id x hid => by cases hid) fun E w u hs hr => ?_
  exact WQ.frzRows hs rfl (List.mem_singleton.2 rfl) (.inr rfl) rfl rfl hr

theorem kCs_ok : InlOk Try.prog kCs := WQ.see_ok cs_call
end Go.Proofs.Ytmilcpejchjleaa
