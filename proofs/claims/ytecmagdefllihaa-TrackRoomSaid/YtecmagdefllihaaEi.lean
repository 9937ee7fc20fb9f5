/- An engine for walks, ninth part: one operation, reckoned; what it reckons holds. -/
import Derived.Test.YtecmagdefllihaaEh
import Derived.Test.YtecmagdefllihaaEfl
import Derived.Test.YtecmagdefllihaaEcp
namespace Go.Proofs.Ytecmagdefllihaa
open Go.RowKit

/-- a condition, and how it is decided where all is known -/
structure DP where
  p : Prop
  b : Bool
  h : b = true → p
def DP.of (p : Prop) [Decidable p] : DP := ⟨p, decide p, of_decide_eq_true⟩
def DP.true_ : DP := ⟨True, true, fun _ => trivial⟩

/-- conditions: decided now, or left to be shown -/
def chk (cl : Bool) (d : DP) : Option (List Prop) := if cl then (if d.b then some [] else none) else some [d.p]
theorem chk_ok {cl : Bool} {d : DP} {l : List Prop} (h : chk cl d = some l) (hl : ∀ q ∈ l, q) : d.p := by
  unfold chk at h
  split at h
  · split at h
    · rename_i hb; exact d.h hb
    · cases h
  · injection h with h
    subst h
    exact hl _ (List.mem_singleton.2 rfl)

abbrev Inl := FuncId → List AV → List (Nat × AObj) → Nat → Option (AV × List (Nat × AObj) × Nat × List Prop)
def InlOk (P : Program) (inl : Inl) : Prop := ∀ g xs L nx v L' nx' q, inl g xs L nx = some (v, L', nx', q) → (∀ p ∈ q, p) → ACall P g xs L nx v L' nx' ∧ nx ≤ nx'

inductive Hn where
  | call (cs : List Co1) (B R : List Nat) (v : AV) (H' : List (Nat × AObj)) (k : Nat)
  | borrow (cs : List Co1) (B : List Nat) (v : Value)
  | as (c : Co2)
  | br (b : Bool)
  | row (e : List AV)
  | byte (y : UInt8)
  | get
  | mrg
  | cut (id : Nat) (ys : List UInt8)
  | keep
  | mrs
  | inn

abbrev Out := Option ((AV × List (Nat × Option AObj)) × List Prop)
abbrev OutN := Option (Eff × List Prop)
def one (v : Option AV) (l : List Prop := []) : Out := v.map fun v => ((v, []), l)

def isByteB : AV → Bool
  | .val (.int .u8 z) => decide (0 ≤ z ∧ z < 256)
  | _ => false
theorem isByteB_ok {x : AV} (h : isByteB x = true) : isByteAV x := by
  unfold isByteB at h
  split at h
  · simpa [isByteAV] using h
  · cases h
def allBytes (l : List AV) : DP := ⟨∀ x ∈ l, isByteAV x, l.all isByteB, fun h x hx => isByteB_ok (List.all_eq_true.1 h x hx)⟩

/-- is what 'bytesOf' asks so? -/
def bytesDP (H : Heap) : AV → DP
  | .bytes _ => DP.true_
  | .sl id off n _ =>
    match H id with
    | some ob => match ob.body with
      | .bytes ys => DP.of (off + n ≤ ys.length)
      | _ => ⟨False, false, fun h => by cases h⟩
    | none => ⟨False, false, fun h => by cases h⟩
  | .csl id i j n _ =>
    match H id with
    | some ob => match ob.body with
      | .rows l => match l[i]? with
        | some e => ⟨j + n ≤ e.length ∧ e.length ≤ ob.sz ∧ ∀ x ∈ (e.drop j).take n, isByteAV x, decide (j + n ≤ e.length) && (decide (e.length ≤ ob.sz) && ((e.drop j).take n).all isByteB), fun h => by
            simp only [Bool.and_eq_true, decide_eq_true_eq] at h
            exact ⟨h.1, h.2.1, fun x hx => isByteB_ok (List.all_eq_true.1 h.2.2 x hx)⟩⟩
        | none => ⟨False, false, fun h => by cases h⟩
      | _ => ⟨False, false, fun h => by cases h⟩
    | none => ⟨False, false, fun h => by cases h⟩
  | _ => DP.true_

theorem bytesDP_ok {H : Heap} {x : AV} {xs : List UInt8} {p : Prop} (h : bytesOf H x = some (xs, p)) (hd : (bytesDP H x).p) : p := by
  unfold bytesOf at h
  unfold bytesDP at hd
  split at h
  · simp only [Option.some.injEq, Prod.mk.injEq] at h; rw [← h.2]; trivial
  · split at h
    · rename_i ob hid
      split at h
      · rename_i ys hb
        split at h
        · simp only [Option.some.injEq, Prod.mk.injEq] at h
          rw [← h.2]
          simp only [hid, hb] at hd
          exact hd
        · cases h
      · cases h
    · cases h
  · split at h
    · rename_i ob hid
      split at h
      · rename_i l hb
        split at h
        · rename_i e he
          simp only [Option.some.injEq, Prod.mk.injEq] at h
          rw [← h.2]
          simp only [hid, hb, he] at hd
          exact hd
        · cases h
      · cases h
    · cases h
  · simp only [Option.some.injEq, Prod.mk.injEq] at h; rw [← h.2]; trivial
  · cases h

section
variable (cl : Bool) (inl : Inl) (P : Program) (tm : Nat → AV) (H : Heap) (L : List (Nat × AObj)) (nx rid : Nat)

def stPure (o : Oper) : Out := (pureOp P tm o).map fun v => ((.val v, []), [])

def stExtract (o : Oper) (x : Operand) (i : Nat) : Out :=
  match avOf tm x with
  | .tup l => one l[i]?
  | _ => stPure P tm o

def stField (x : Operand) (t : TypeId) (f : Nat) : Out :=
  match aggCells (avOf tm x), fieldT P t f with
  | some l, some (off, ft) => one (partA P ft l off)
  | _, _ => none

def stIndex (o : Oper) (x ix : Operand) (t : TypeId) : Out :=
  match aggCells (avOf tm x), arrT P t, avOf tm ix with
  | some l, some (n, e), .val (.int _ z) =>
    match szT P e, chk cl (DP.of (0 ≤ z ∧ z < (n : Int))) with
    | some es, some q => one (partA P e l (z.toNat * es)) q
    | _, _ => none
  | _, _, _ =>
    if cl then stPure P tm o else
    match avOf tm x, avOf tm ix with
    | .val (.string st), .val (.int _ z) => if isStrT P t then one (some (.val (.int .u8 ((st.data.toList.getD z.toNat 0).toNat : Int)))) [0 ≤ z ∧ z.toNat < st.size] else stPure P tm o
    | _, _ => stPure P tm o

def stBuild (t : TypeId) (ps : Array (Nat × Operand)) : Out :=
  match zeroT P t, placesT P t with
  | some z, some pl => one ((fillA pl (z.map .val) (ps.toList.map fun p => (p.1, avOf tm p.2))).map .agg)
  | _, _ => none

def stAlloc (t : TypeId) : Out := (zeroT P t).map fun z => ((.ptr rid 0 0, [(rid, some (objOne t (z.map .val)))]), [])
def stBox (t : TypeId) (x : Operand) : Out := (cellsOf (avOf tm x)).map fun l => ((.ptr rid 0 0, [(rid, some (objOne t l))]), [])

def stBuildSlice (t : TypeId) (n : Nat) (ps : Array (Nat × Operand)) : Out :=
  match elemT P t with
  | some e =>
    match szT P e, zeroT P e with
    | some sz, some z =>
      if z.length = sz ∧ 0 < sz ∧ n * sz ≤ 16777216 then
        match fillA (fun i => some (i * sz, sz)) ((List.replicate n z).flatten.map .val) (ps.toList.map fun p => (p.1, avOf tm p.2)) with
        | some l =>
          if byteTB P e then
            if sz = 1 then (chk cl (allBytes l)).map fun q => ((.sl rid 0 n none, [(rid, some (objBytes e (l.map byteVal)))]), q) else none
          else some ((.sl rid 0 n none, [(rid, some (objRows e sz n l))]), [])
        | none => none
      else none
    | _, _ => none
  | none => none

def stLoad (hn : Option Hn) (t : TypeId) (x : Operand) : Out :=
  match avOf tm x with
  | .ptr id i j =>
    match H id with
    | some ob =>
      match ob.body with
      | .rows l =>
        match hn with
        | some (.row e) => if e.length ≤ ob.sz then one (partA P t e j) [l[i]? = some e] else none
        | _ => match l[i]? with
          | some e => if e.length ≤ ob.sz then one (partA P t e j) else none
          | none => none
      | .bytes xs =>
        match aggT P t with
        | some false =>
          if ob.sz = 1 ∧ j = 0 then
            match hn with
            | some (.byte y) => one (some (.val (bv y))) [xs[i]? = some y]
            | some .get => (chk cl (DP.of (i < xs.length))).bind fun q => one (some (.val (bv (xs.getD i 0)))) q
            | _ => match xs[i]? with
              | some y => one (some (.val (bv y)))
              | none => none
          else none
        | _ => none
      | .flat _ => none
    | none => none
  | .iptr e => one (partA P t e 0)
  | _ => none

def stStore (hn : Option Hn) (t : TypeId) (x y : Operand) : Out :=
  match avOf tm x with
  | .ptr id i j =>
    match H id with
    | some ob =>
      match ob.body with
      | .rows l =>
        match (match hn with | some (.row e) => some (e, [l[i]? = some e]) | _ => (l[i]?).map fun e => (e, [])), cellsOf (avOf tm y), szT P t with
        | some (e, q), some cs, some n =>
          if e.length = ob.sz ∧ cs.all AV.one = true ∧ cs.length = n ∧ j + n ≤ ob.sz then some ((.val undef, [(id, some { ob with body := .rows (l.set i (splice e j cs)) })]), q) else none
        | _, _, _ => none
      | .bytes xs =>
        match chk cl (DP.of (i < xs.length)), chk cl ⟨isByteAV (avOf tm y), isByteB (avOf tm y), isByteB_ok⟩, szT P t with
        | some q, some q', some 1 => if ob.sz = 1 ∧ j = 0 then some ((.val undef, [(id, some { ob with body := .bytes (xs.set i (byteVal (avOf tm y))) })]), q ++ q') else none
        | _, _, _ => none
      | .flat _ => none
    | none => none
  | _ => none

def stFieldAddr (t : TypeId) (x : Operand) (f : Nat) : Out :=
  match fieldT P t f with
  | some (off, ft) =>
    match szT P ft with
    | some (_ + 1) =>
      match avOf tm x with
      | .ptr id i j => one (some (.ptr id i (j + off)))
      | .iptr l => one (some (.iptr (l.drop off)))
      | _ => none
    | _ => none
  | none => none

def stIndexAddr (hn : Option Hn) (t : TypeId) (x ix : Operand) : Out :=
  match avOf tm ix with
  | .val (.int _ z) =>
    match avOf tm x with
    | .sl id off n _ =>
      match H id, elemT P t with
      | some ob, some e => if szT P e = some ob.sz then (chk cl (DP.of (0 ≤ z ∧ z < (n : Int)))).bind fun q => one (some (.ptr id (off + z.toNat) 0)) q else none
      | _, _ => none
    | .ptr id i j =>
      match arrT P t with
      | some (n, e) => match szT P e with
        | some es => (chk cl (DP.of (0 ≤ z ∧ z < (n : Int)))).bind fun q => one (some (.ptr id i (j + z.toNat * es))) q
        | none => none
      | none => none
    | .csl id i j n _ =>
      match elemT P t with
      | some e => if szT P e = some 1 then (chk cl (DP.of (0 ≤ z ∧ z < (n : Int)))).bind fun q => one (some (.ptr id i (j + z.toNat))) q else none
      | none => none
    | .bytes xs =>
      match elemT P t with
      | some e =>
        if szT P e = some 1 then
          match hn with
          | some (.byte y) => one (some (.iptr [.val (bv y)])) [0 ≤ z, xs[z.toNat]? = some y]
          | some .get => (chk cl (DP.of (0 ≤ z ∧ z.toNat < xs.length))).bind fun q => one (some (.iptr [.val (bv (xs.getD z.toNat 0))])) q
          | _ => if 0 ≤ z then match xs[z.toNat]? with
            | some y => one (some (.iptr [.val (bv y)]))
            | none => none
            else none
        else none
      | none => none
    | .view sz n g =>
      match elemT P t with
      | some e => if szT P e = some sz then (chk cl (DP.of (0 ≤ z ∧ z < (n : Int)))).bind fun q => one (some (.iptr (g z.toNat))) q else none
      | none => none
    | _ => none
  | _ => none

def natB (tm : Nat → AV) (b : Option Operand) (d : Nat) : Option (Nat × DP) :=
  match boundA tm b d with
  | some z => some (z.toNat, DP.of (0 ≤ z))
  | none => none

def stSlice (o : Oper) (t : TypeId) (x : Operand) (lo hi mx : Option Operand) : Out :=
  match avOf tm x with
  | .sl id off n lim =>
    match H id, elemT P t, natB tm lo 0, natB tm hi n with
    | some ob, some e, some (l, d1), some (h, d2) =>
      if szT P e = some ob.sz then
        match mx with
        | none => (chk cl d1).bind fun q1 => (chk cl d2).bind fun q2 => (chk cl (DP.of (l ≤ h ∧ off + h ≤ lim.getD ob.body.len))).bind fun q3 => one (some (.sl id (off + l) (h - l) lim)) (q1 ++ (q2 ++ q3))
        | some _ =>
          if hi.isSome then
            match natB tm mx 0 with
            | some (m, d3) => (chk cl d1).bind fun q1 => (chk cl d2).bind fun q2 => (chk cl d3).bind fun q3 => (chk cl (DP.of (l ≤ h ∧ h ≤ m ∧ off + m ≤ lim.getD ob.body.len))).bind fun q4 =>
                one (some (.sl id (off + l) (h - l) (some (off + m)))) (q1 ++ (q2 ++ (q3 ++ q4)))
            | none => none
          else none
      else none
    | _, _, _, _ => none
  | .bytes xs =>
    match elemT P t, natB tm lo 0, natB tm hi xs.length, mx with
    | some e, some (l, d1), some (h, d2), none =>
      if szT P e = some 1 then (chk cl d1).bind fun q1 => (chk cl d2).bind fun q2 => (chk cl (DP.of (l ≤ h ∧ h ≤ xs.length))).bind fun q3 => one (some (.bytes ((xs.take h).drop l))) (q1 ++ (q2 ++ q3)) else none
    | some e, some (l, d1), some (h, d2), some m =>
      match hi with
      | some _ => match natB tm (some m) 0 with
        | some (m, d3) => if szT P e = some 1 then (chk cl d1).bind fun q1 => (chk cl d2).bind fun q2 => (chk cl d3).bind fun q3 => (chk cl (DP.of (l ≤ h ∧ h ≤ m ∧ m ≤ xs.length))).bind fun q4 => one (some (.bytes ((xs.take h).drop l))) (q1 ++ (q2 ++ (q3 ++ q4))) else none
        | none => none
      | none => none
    | _, _, _, _ => none
  | .view sz n g =>
    match elemT P t, natB tm lo 0, natB tm hi n, mx with
    | some e, some (l, d1), some (h, d2), none =>
      if szT P e = some sz then (chk cl d1).bind fun q1 => (chk cl d2).bind fun q2 => (chk cl (DP.of (l ≤ h ∧ h ≤ n))).bind fun q3 => one (some (.view sz (h - l) (fun i => g (l + i)))) (q1 ++ (q2 ++ q3)) else none
    | _, _, _, _ => none
  | .ptr id i j =>
    match arrT P t, mx with
    | some (n, e), none =>
      match natB tm lo 0, natB tm hi n with
      | some (l, d1), some (h, d2) =>
        if szT P e = some 1 ∧ n ≤ 1000000 then (chk cl d1).bind fun q1 => (chk cl d2).bind fun q2 => (chk cl (DP.of (l ≤ h ∧ h ≤ n ∧ l < n))).bind fun q3 => one (some (.csl id i (j + l) (h - l) (n - l))) (q1 ++ (q2 ++ q3)) else none
      | _, _ => none
    | _, _ => none
  | .val (.string st) =>
    match P.underlying t, natB tm lo 0, natB tm hi st.size, mx with
    | some .string, some (l, d1), some (h, d2), none =>
      (chk cl d1).bind fun q1 => (chk cl d2).bind fun q2 => (chk cl (DP.of (l ≤ h ∧ h ≤ st.size))).bind fun q3 => one (some (.val (.string (st.extract l h)))) (q1 ++ (q2 ++ q3))
    | _, _, _, _ => none
  | _ => stPure P tm o

def stMake (t : TypeId) (x y : Operand) : Out :=
  match elemT P t, avOf tm x, avOf tm y with
  | some e, .val (.int .i64 z), .val (.int .i64 z') =>
    if byteTB P e then (chk cl (DP.of (0 ≤ z ∧ z ≤ 1000000000 ∧ z' = z))).map fun q => ((.sl rid 0 z.toNat none, [(rid, some (objBytes e (List.replicate z.toNat 0)))]), q) else none
  | _, _, _ => none

def stConvert (o : Oper) (t dst : TypeId) (x : Operand) : Out :=
  match elemT P t, P.underlying dst with
  | some e, some .string =>
    match bytesOf H (avOf tm x) with
    | some (xs, _) => if byteTB P e then (chk cl (bytesDP H (avOf tm x))).bind fun q => one (some (.val (.string ⟨xs.toArray⟩))) q else none
    | none => none
  | some e, some (.slice _) =>
    match avOf tm x with
    | .sl id off n lim =>
      match H id with
      | some ob => if t = dst ∧ byteTB P e = true then (chk cl (DP.of (0 < n))).map fun q => ((.sl id off n lim, [(id, some { ob with fz := true })]), q) else none
      | none => none
    | _ => stPure P tm o
  | none, some (.slice e) =>
    match avOf tm x with
    | .val (.string st) => if (byteTB P e && isStrT P t) = true then (chk cl (DP.of (st.size ≤ 1000000000))).map fun q => ((.sl rid 0 st.size none, [(rid, some { objApp e st.data.toList with fz := true })]), q) else stPure P tm o
    | _ => stPure P tm o
  | _, _ => stPure P tm o

def stLen (o : Oper) (t : TypeId) (x : Operand) : Out :=
  match lenA (avOf tm x), elemT P t with
  | some n, some _ => one (some (.val (.int .i64 n)))
  | _, _ => stPure P tm o

/-- how many bytes a slice shows -/
def lenB (y : AV) (xs : List UInt8) : Nat :=
  match y with
  | .sl _ _ n _ => n
  | .csl _ _ _ n _ => n
  | _ => xs.length

def stAppend (t : TypeId) (x y : Operand) : Out :=
  match elemT P t, bytesOf H (avOf tm y), chk cl (bytesDP H (avOf tm y)) with
  | some e, some (xs, _), some q =>
    if byteTB P e then
      match avOf tm x with
      | .sl id 0 n none =>
        match H id with
        | some ob =>
          match ob.body with
          | .bytes ys => if ob.sz = 1 ∧ ob.fz = false ∧ ob.t = e then (chk cl (DP.of (ys.length = n ∧ n + lenB (avOf tm y) xs ≤ 1000000000))).map fun q' => ((.sl rid 0 (n + lenB (avOf tm y) xs) none, [(id, none), (rid, some (objApp e (ys ++ xs)))]), q ++ q') else none
          | _ => none
        | none => none
      | .val (.slice none 0 0) => (chk cl (DP.of (lenB (avOf tm y) xs ≤ 1000000000))).map fun q' => ((.sl rid 0 (lenB (avOf tm y) xs) none, [(rid, some (objApp e xs))]), q ++ q')
      | _ => none
    else none
  | _, _, _ => none

/-- append behind a part of a row, which is forgotten -/
def stAppendI (b : Builtin) (args : List Operand) (ts : List TypeId) : Out :=
  match b, args, ts with
  | .append, [x, y], [t, u] =>
    if t = u then
      match elemT P t, bytesOf H (avOf tm y) with
      | some e, some (xs, p) =>
        if byteTB P e then
          match avOf tm x with
          | .sl id 0 n none =>
            match H id with
            | some ob =>
              match ob.body with
              | .bytes ys => if ob.sz = 1 ∧ ob.fz = false ∧ ob.t = e then some ((.sl rid 0 (n + xs.length) none, [(id, none), (rid, some (objApp e (ys.take n ++ xs)))]), [p, n ≤ ys.length, n + xs.length ≤ 1000000000]) else none
              | _ => none
            | none => none
          | _ => none
        else none
      | _, _ => none
    else none
  | _, _, _ => none

def allIn (B : List Nat) : Bool := B.all fun id => (H id).isSome

def stCall (hn : Option Hn) (f : Operand) (args : Array Operand) : OutN :=
  match avOf tm f with
  | .fn (.func g) caps =>
    if callable P g then
      match hn with
      | some (.call cs B R v H' k) =>
        if allIn H B then
          match coL (co1 H B) (args.toList.map (avOf tm) ++ caps) cs, pickH (dropH H B) R with
          | some (xs, q), some Hf => some (⟨v, callUs cl H B R H', nx + k⟩, q ++ [ACall P g xs Hf nx v H' (nx + k)])
          | _, _ => none
        else none
      | some (.borrow cs B v) =>
        if allIn H B then
          match coL (co1 H B) (args.toList.map (avOf tm) ++ caps) cs with
          | some (xs, q) => some (⟨.val v, [], nx⟩, q ++ [ACall P g xs [] nx (.val v) [] nx])
          | none => none
        else none
      | _ =>
        match inl g (args.toList.map (avOf tm) ++ caps) L nx with
        | some (v, L', nx', q) => some (⟨v, callUs cl H [] (L.map (·.1)) L', nx'⟩, q)
        | none => none
    else none
  | _ => none

def optB : AV → Option (Option Bool × Bool)
  | .val (.bool x) => some (none, x)
  | .opt b (.val (.bool x)) => some (some b, x)
  | _ => none
def optQ (t : Bool) (w : Bool) : Option Bool → List Prop
  | none => []
  | some b => [t = w → b = true]

def pickM (t : Bool) (x y : Operand) : Out :=
  match optB (avOf tm x), optB (avOf tm y) with
  | some (bx, vx), some (by_, vy) => some ((.val (.bool (bif t then vx else vy)), []), optQ t true bx ++ optQ t false by_)
  | _, _ => none

def stPick (hn : Option Hn) (c x y : Operand) : Out :=
  match avOf tm c with
  | .val (.bool t) =>
    match hn with
    | some .mrg => pickM tm t x y
    | some .mrs => pickM tm t x y
    | some (.br b) => one (some (if b then avOf tm x else avOf tm y)) [t = b]
    | _ => one (some (if t then avOf tm x else avOf tm y))
  | _ => none

def stNil (o : Oper) (x : Operand) : Out :=
  match avOf tm x with
  | .ptr id i j => one (some (.ptr id i j))
  | .iptr l => one (some (.iptr l))
  | _ => stPure P tm o

def stMakeFunc (fn : Fn) (fs : List Operand) (caps : Array Operand) : Out :=
  match fs with
  | [] => one (some (.fn fn (caps.toList.map (avOf tm))))
  | _ => none

/-- a text's bytes (a word) -/
def textB (s : ByteArray) : List UInt8 := s.data.toList

def stBin (o : Oper) (b : BinOp) (ty : TypeId) (x y : Operand) : Out :=
  match b with
  | .eql => if eqNil P tm ty x y then one (some (.val (.bool false))) else match eqAgg P tm ty x y with | some B => one (some (.val (.bool B))) | none => stPure P tm o
  | .neq => if eqNil P tm ty x y then one (some (.val (.bool true))) else match eqAgg P tm ty x y with | some B => one (some (.val (.bool (!B)))) | none => stPure P tm o
  | .add => if cl then stPure P tm o else match avOf tm x, avOf tm y with | .val (.string u), .val (.string v) => one (some (.val (.string ⟨(textB u ++ textB v).toArray⟩))) [(textB u).length + (textB v).length ≤ 1000000000000] | _, _ => stPure P tm o
  | .shl => if cl then stPure P tm o else match avOf tm x, avOf tm y with | .val (.int k u), .val (.int _ c) => one (some (.val (.int k (k.wrap (u * 2 ^ min c.toNat k.bits))))) [0 ≤ c] | _, _ => stPure P tm o
  | .shr => if cl then stPure P tm o else match avOf tm x, avOf tm y with | .val (.int k u), .val (.int _ c) => one (some (.val (.int k (u.fdiv (2 ^ min c.toNat k.bits))))) [0 ≤ c] | _, _ => stPure P tm o
  | _ => stPure P tm o

/-- the object that an append of rows seen leaves: what they lead to is nobody's own -/
def objAppF (t : TypeId) (sz : Nat) (l : List (List AV)) : AObj := ⟨t, sz, false, false, .flat l⟩

/-- appends of structs -/
def stAppendR (t : TypeId) (x y : Operand) : Out :=
  match elemT P t with
  | some e =>
    match szT P e with
    | some sz =>
      if isEmptyV tm y then (if isSliceV tm x then one (some (avOf tm x)) else none)
      else
        match zeroT P e, infoB P e, avOf tm y with
        | some z, some by_, .view sz2 m gv =>
          match avOf tm x with
          | .sl id 0 n none =>
            match H id with
            | some ob =>
              match ob.body with
              | .rows l =>
                if z.length = sz ∧ 0 < sz ∧ sz2 = sz ∧ ob.sz = sz ∧ ob.t = e ∧ ob.fz = false then
                  some ((.sl rid 0 (n + m) none, [(id, none), (rid, some (objAppF e sz (l ++ (List.range m).map gv)))]), [l.length = n, 0 < m, onesOk sz ((List.range m).map gv) = true, n + m ≤ 1000000000, (n + m) * by_ ≤ 140737488355328])
                else none
              | _ => none
            | none => none
          | _ => none
        | some z, some by_, .sl id2 off2 m _ =>
          if cl = false then
            match H id2, avOf tm x with
            | some ob2, .sl id 0 n none =>
              match ob2.body, H id with
              | .rows l2, some ob =>
                match ob.body with
                | .rows l =>
                  if z.length = sz ∧ 0 < sz ∧ ob2.sz = sz ∧ 0 < m ∧ off2 + m ≤ l2.length ∧ onesOk sz ((l2.drop off2).take m) = true ∧ ob.sz = sz ∧ ob.t = e ∧ ob.fz = false then
                    some ((.sl rid 0 (n + m) none, [(id, none), (rid, some (objAppR e sz (l ++ (l2.drop off2).take m)))]), [l.length = n, n + m ≤ 1000000000, (n + m) * by_ ≤ 140737488355328])
                  else none
                | _ => none
              | _, _ => none
            | _, _ => none
          else
          match H id2 with
          | some ob2 =>
            match ob2.body with
            | .rows l2 =>
              if z.length = sz ∧ 0 < sz ∧ ob2.sz = sz ∧ 0 < m ∧ off2 + m ≤ l2.length ∧ onesOk sz ((l2.drop off2).take m) = true then
                match avOf tm x with
                | .sl id 0 n none =>
                  match H id with
                  | some ob =>
                    match ob.body with
                    | .rows l =>
                      if ob.sz = sz ∧ ob.t = e ∧ ob.fz = false then
                        if n + m ≤ l.length then some ((.sl id 0 (n + m) none, [(id, some { ob with body := .rows (over l n ((l2.drop off2).take m)) })]), [])
                        else if l.length = n ∧ n + m ≤ 1000000000 ∧ (n + m) * by_ ≤ 140737488355328 then some ((.sl rid 0 (n + m) none, [(id, none), (rid, some (objAppR e sz (l ++ (l2.drop off2).take m)))]), [])
                        else none
                      else none
                    | _ => none
                  | none => none
                | .val (.slice none 0 0) =>
                  if m ≤ 1000000000 ∧ m * by_ ≤ 140737488355328 then some ((.sl rid 0 m none, [(rid, some (objAppR e sz ((l2.drop off2).take m)))]), []) else none
                | _ => none
              else none
            | _ => none
          | none => none
        | _, _, _ => none
    | none => none
  | none => none

/-- append of a text's bytes -/
def stAppendS (t u : TypeId) (x y : Operand) : Out :=
  match elemT P t, avOf tm y with
  | some e, .val (.string st) =>
    if (byteTB P e && isStrT P u) = true then
      match avOf tm x with
      | .sl id 0 n none =>
        match H id with
        | some ob =>
          match ob.body with
          | .bytes ys => if ob.sz = 1 ∧ ob.fz = false ∧ ob.t = e then (chk cl (DP.of (ys.length = n ∧ n + st.size ≤ 1000000000))).map fun q' => ((.sl rid 0 (n + st.size) none, [(id, none), (rid, some (objApp e (ys ++ st.data.toList)))]), q') else none
          | _ => none
        | none => none
      | .val (.slice none 0 0) => (chk cl (DP.of (st.size ≤ 1000000000))).map fun q' => ((.sl rid 0 st.size none, [(rid, some (objApp e st.data.toList))]), q')
      | _ => none
    else none
  | _, _ => none

def stClear (t : TypeId) (x : Operand) : Out :=
  match elemT P t, avOf tm x with
  | some e, .sl id off n _ =>
    match n with
    | 0 => some ((.val (.tuple #[]), []), [])
    | n + 1 =>
      match szT P e, zeroT P e, H id with
      | some sz, some z, some ob =>
        match ob.body with
        | .rows l => if z.length = sz ∧ z.all Value.oneCell' = true ∧ ob.sz = sz ∧ off + (n + 1) ≤ l.length then some ((.val (.tuple #[]), [(id, some { ob with body := .rows (over l off (List.replicate (n + 1) (z.map .val))) })]), []) else none
        | _ => none
      | _, _, _ => none
  | _, _ => none

/-- copy of bytes -/
def stCopy (t : TypeId) (x y : Operand) : Out :=
  match elemT P t, bytesOf H (avOf tm y), chk cl (bytesDP H (avOf tm y)) with
  | some e, some (xs, _), some q =>
    if byteTB P e then
      match avOf tm x with
      | .sl id off n _ =>
        match H id with
        | some ob =>
          match ob.body with
          | .bytes ys => if ob.sz = 1 then (chk cl (DP.of (0 < xs.length ∧ xs.length ≤ n ∧ off + xs.length ≤ ys.length))).map fun q' => ((.val (goInt xs.length), [(id, some { ob with body := .bytes (ys.take off ++ (xs ++ ys.drop (off + xs.length))) })]), q ++ q') else none
          | _ => none
        | none => none
      | .csl id i j n _ =>
        match H id with
        | some ob =>
          match ob.body with
          | .rows l =>
            match l[i]? with
            | some el => if el.length = ob.sz ∧ j + n ≤ ob.sz then (chk cl (DP.of (0 < n ∧ n ≤ xs.length))).map fun q' => ((.val (goInt n), [(id, some { ob with body := .rows (l.set i (splice el j ((List.range n).map fun k => .val (bv (xs.getD k 0))))) })]), q ++ q') else none
            | none => none
          | _ => none
        | none => none
      | _ => none
    else none
  | _, _, _ => none

def stBuiltin (o : Oper) (b : Builtin) (args : List Operand) (ts : List TypeId) : Out :=
  match b with
  | .len =>
    match args, ts with
    | [x], [t] => stLen P tm o t x
    | _, _ => none
  | .append =>
    match args, ts with
    | [x, y], [t, u] => if t = u then (match stAppend cl P tm H rid t x y with | some r => some r | none => stAppendR cl P tm H rid t x y) else stAppendS cl P tm H rid t u x y
    | _, _ => none
  | .clear =>
    match args, ts with
    | [x], [t] => stClear P tm H t x
    | _, _ => none
  | .copy =>
    match args, ts with
    | [x, y], [t, _] => stCopy cl P tm H t x y
    | _, _ => none
  | _ => stPure P tm o

/-- an append of rows within, and a clear, at open places -/
def stInR (b : Builtin) (args : List Operand) (ts : List TypeId) : Out :=
  match b, args, ts with
  | .append, [x, y], [t, u] =>
    if t = u then
      match elemT P t with
      | some e =>
        match szT P e, avOf tm x, avOf tm y with
        | some sz, .sl id 0 n none, .sl id2 off2 m _ =>
          match H id, H id2 with
          | some ob, some ob2 =>
            match ob.body, ob2.body with
            | .rows l, .rows l2 =>
              if ob.sz = sz ∧ ob.t = e ∧ ob.fz = false ∧ ob2.sz = sz then some ((.sl id 0 (n + m) none, [(id, some { ob with body := .rows (over l n ((l2.drop off2).take m)) })]), [0 < m, off2 + m ≤ l2.length, n + m ≤ l.length, onesOk sz ((l2.drop off2).take m) = true]) else none
            | _, _ => none
          | _, _ => none
        | _, _, _ => none
      | none => none
    else none
  | .clear, [x], [t] =>
    match elemT P t, avOf tm x with
    | some e, .sl id off n _ =>
      match szT P e, zeroT P e, H id with
      | some sz, some z, some ob =>
        match ob.body with
        | .rows l => if z.length = sz ∧ z.all Value.oneCell' = true ∧ ob.sz = sz then some ((.val (.tuple #[]), [(id, some { ob with body := .rows (over l off (List.replicate n (z.map .val))) })]), [0 < n, off + n ≤ l.length]) else none
        | _ => none
      | _, _, _ => none
    | _, _ => none
  | _, _, _ => none

/-- an append of nothing, where that is to be shown -/
def stInZ (b : Builtin) (args : List Operand) (ts : List TypeId) : Out :=
  match b, args, ts with
  | .append, [x, y], [t, u] =>
    if t = u then
      match elemT P t, avOf tm x, avOf tm y with
      | some e, .sl id off n lim, .sl _ _ m _ =>
        match szT P e with
        | some _ => one (some (.sl id off n lim)) [m = 0]
        | none => none
      | _, _, _ => none
    else none
  | _, _, _ => none

/-- is it a call of a Go function? -/
def isCall (o : Oper) : Option (Operand × Array Operand) :=
  match o.op with
  | .call c => match c.callee with
    | .value f => some (f, c.args)
    | _ => none
  | _ => none

/-- one operation that is no call -/
def opStep0 (hn : Option Hn) (o : Oper) : Out :=
  match o.op with
  | .move x => one (some (avOf tm x))
  | .assign x => one (some (avOf tm x))
  | .extract x i => stExtract P tm o x i
  | .field t x f => stField P tm x t f
  | .index t x ix => stIndex cl P tm o x ix t
  | .build t ps => stBuild P tm t ps
  | .alloc t => stAlloc P rid t
  | .box t x => stBox tm rid t x
  | .buildSlice t n ps => stBuildSlice cl P tm rid t n ps
  | .load t x => stLoad cl P tm H hn t x
  | .store t x y => stStore cl P tm H hn t x y
  | .fieldAddr t x f => stFieldAddr P tm t x f
  | .indexAddr t x ix => stIndexAddr cl P tm H hn t x ix
  | .slice t x lo hi mx => stSlice cl P tm H o t x lo hi mx
  | .makeSlice t x y => stMake cl P tm rid t x y
  | .convert t dst x => stConvert cl P tm H rid o t dst x
  | .nilCheck x => stNil P tm o x
  | .pick c x y => stPick tm hn c x y
  | .makeFunc fn fs caps => stMakeFunc tm fn fs.toList caps
  | .binOp b ty x y _ => stBin cl P tm o b ty x y
  | .call c => match c.callee with
    | .builtin b => match hn with
      | some .inn =>
        match stAppendI P tm H rid b c.args.toList c.argTypes.toList with
        | some r => some r
        | none => stInR P tm H b c.args.toList c.argTypes.toList
      | some .mrs => stInZ P tm b c.args.toList c.argTypes.toList
      | _ => stBuiltin cl P tm H rid o b c.args.toList c.argTypes.toList
    | _ => none
  | _ => stPure P tm o

def opStep1 (hn : Option Hn) (o : Oper) : OutN :=
  match isCall o with
  | some (f, args) => stCall cl inl P tm H L nx hn f args
  | none =>
    match opStep0 cl P tm (unflatH H) rid hn o with
    | some (f, q) => some (⟨f.1, reflat (anyFlat H f.2) f.2, nx⟩, q)
    | none => none

/-- an object's bytes, called by another name -/
def cutU (id : Nat) (ys : List UInt8) : List (Nat × Option AObj) → Option (List (Nat × Option AObj) × List Prop)
  | [] => some ([], [])
  | (i, x) :: us =>
    match cutU id ys us with
    | some (us', q) =>
      if i = id then
        match x with
        | some ⟨t, sz, ex, fz, .bytes xs⟩ => some ((i, some ⟨t, sz, ex, fz, .bytes ys⟩) :: us', (xs = ys) :: q)
        | _ => none
      else some ((i, x) :: us', q)
    | none => none

/-- an object is as it was -/
def SameO (x : Option AObj) (y : AObj) : Prop := x = some y

/-- the objects that were there are as they were -/
def keepU (H : Heap) : List (Nat × Option AObj) → List (Nat × Option AObj) × List Prop
  | [] => ([], [])
  | (i, x) :: us =>
    match H i with
    | some y => ((keepU H us).1, SameO x y :: (keepU H us).2)
    | none => ((i, x) :: (keepU H us).1, (keepU H us).2)

def opStep (hn : Option Hn) (o : Oper) : OutN :=
  match opStep1 cl inl P tm H L nx rid hn o with
  | some (f, q) =>
    match hn with
    | some (.as c) =>
      match co2 (fun _ => none) [] f.v c with
      | some (v, q') => some (⟨v, f.us, f.nx⟩, q ++ q')
      | none => none
    | some (.cut id ys) =>
      match cutU id ys f.us with
      | some (us, q') => some (⟨f.v, us, f.nx⟩, q ++ q')
      | none => none
    | some .keep => some (⟨f.v, (keepU H f.us).1, f.nx⟩, q ++ (keepU H f.us).2)
    | _ => some (f, q)
  | none => none
end

/-! ### what an operation looks at -/
/-- the objects that a value leads to -/
def idsOf : Nat → AV → List Nat
  | 0, _ => []
  | n + 1, x =>
    match x with
    | .ptr id _ _ => [id]
    | .sl id _ _ _ => [id]
    | .csl id _ _ _ _ => [id]
    | .agg l => l.flatMap (idsOf n)
    | .tup l => l.flatMap (idsOf n)
    | .fn _ l => l.flatMap (idsOf n)
    | .iptr l => l.flatMap (idsOf n)
    | .opt _ v => idsOf n v
    | _ => []

def idsObj (x : AObj) : List Nat :=
  match x.body with
  | .rows l => l.flatMap fun e => e.flatMap (idsOf 3)
  | .bytes _ => []
  | .flat _ => []

/-- and those that these lead to -/
def reach (H : Heap) : Nat → List Nat → List Nat → List Nat
  | 0, _, acc => acc
  | _ + 1, [], acc => acc
  | n + 1, id :: todo, acc =>
    if acc.contains id then reach H n todo acc
    else match H id with
      | some x => reach H n (idsObj x ++ todo) (id :: acc)
      | none => reach H n todo (id :: acc)

def pickO (H : Heap) (R : List Nat) : List (Nat × AObj) := R.filterMap fun id => (H id).map fun x => (id, x)

def opTmps (o : Oper) : List Tmp := o.op.operands.toList.filterMap fun | .tmp t => some t | _ => none

/-- what is asked for by the hint -/
def hnIds : Option Hn → List Nat
  | some (.call _ B R _ _ _) => B ++ R
  | some (.borrow _ B _) => B
  | _ => []

def tmOf (ts : List Tmp) (tm : Nat → AV) : Nat → AV := fun t => if ts.contains t then tm t else .any
def startIds (tm : Nat → AV) (o : Oper) (hn : Option Hn) : List Nat := hnIds hn ++ (opTmps o).flatMap fun t => idsOf 4 (tm t)

/-- does it look at no object? -/
def noLook (o : Oper) : Bool :=
  match o.op with
  | .move _ | .assign _ | .fieldAddr _ _ _ | .nilCheck _ | .extract _ _ => true
  | _ => false

/-- the objects that it looks at: a call, all that its arguments lead to -/
def rdSet (H : Heap) (tm : Nat → AV) (o : Oper) (hn : Option Hn) : List Nat := if (isCall o).isSome then reach H 1000 (startIds tm o hn) [] else if noLook o then hnIds hn else startIds tm o hn

/-- one operation, out of what it looks at alone -/
def opStepF (cl : Bool) (inl : Inl) (P : Program) (tm : Nat → AV) (H : Heap) (nx rid : Nat) (hn : Option Hn) (o : Oper) : OutN :=
  let L := pickO H (rdSet H tm o hn)
  opStep cl inl P (tmOf (opTmps o) tm) (hp L) L nx rid hn o
end Go.Proofs.Ytecmagdefllihaa
