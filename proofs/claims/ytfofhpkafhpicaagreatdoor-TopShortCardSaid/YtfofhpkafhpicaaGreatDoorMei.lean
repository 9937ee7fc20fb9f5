/- Several texts in one: Ei, Ej. -/
import Derived.Test.YtfofhpkafhpicaaGreatDoorMeh
import Derived.Test.YtfofhpkafhpicaaGreatDoorMea
import Derived.Test.YtfofhpkafhpicaaGreatDoorMew

/- An engine for walks, ninth part: one operation, reckoned; what it reckons holds. -/
namespace Go.Proofs.YtfofhpkafhpicaaGreatDoor
open Go.RowKit

/-- a condition, and how it is decided where all is known -/
structure DP where
  p : Prop
  b : Bool
  h : b = true → p
def DP.of (p : Prop) [Decidable p] : DP := ⟨p, decide p, of_decide_eq_true⟩
def DP.true_ : DP := ⟨True, true, fun _ => trivial⟩

/-- conditions: decided now, or left to be shown -/
def chk (cl : Bool) (d : DP) : Option (List Prop) := if cl then (if d.b then some [] else none) else some [d.p]
theorem chk_ok {cl : Bool} {d : DP} {l : List Prop} (h : chk cl d = some l) (hl : ∀ q ∈ l, q) : d.p := by
  unfold chk at h
  split at h
  · split at h
    · rename_i hb; exact d.h hb
    · cases h
  · injection h with h
    subst h
    exact hl _ (List.mem_singleton.2 rfl)

abbrev Inl := FuncId → List AV → List (Nat × AObj) → Nat → Option (AV × List (Nat × AObj) × Nat × List Prop)
def InlOk (P : Program) (inl : Inl) : Prop := ∀ g xs L nx v L' nx' q, inl g xs L nx = some (v, L', nx', q) → (∀ p ∈ q, p) → ACall P g xs L nx v L' nx' ∧ nx ≤ nx'

inductive Hn where
  | call (cs : List Co1) (B R : List Nat) (v : AV) (H' : List (Nat × AObj)) (k : Nat)
  | borrow (cs : List Co1) (B : List Nat) (v : Value)
  | as (c : Co2)
  | br (b : Bool)
  | row (e : List AV)
  | byte (y : UInt8)
  | get
  | mrg
  | cut (id : Nat) (ys : List UInt8)
  | keep
  | mrs
  | inn

abbrev Out := Option ((AV × List (Nat × Option AObj)) × List Prop)
abbrev OutN := Option (Eff × List Prop)
def one (v : Option AV) (l : List Prop := []) : Out := v.map fun v => ((v, []), l)

def isByteB : AV → Bool
  | .val (.int .u8 z) => decide (0 ≤ z ∧ z < 256)
  | _ => false
theorem isByteB_ok {x : AV} (h : isByteB x = true) : isByteAV x := by
  unfold isByteB at h
  split at h
  · simpa [isByteAV] using h
  · cases h
def allBytes (l : List AV) : DP := ⟨∀ x ∈ l, isByteAV x, l.all isByteB, fun h x hx => isByteB_ok (List.all_eq_true.1 h x hx)⟩

/-- is what 'bytesOf' asks so? -/
def bytesDP (H : Heap) : AV → DP
  | .bytes _ => DP.true_
  | .sl id off n _ =>
    match H id with
    | some ob => match ob.body with
      | .bytes ys => DP.of (off + n ≤ ys.length)
      | _ => ⟨False, false, fun h => by cases h⟩
    | none => ⟨False, false, fun h => by cases h⟩
  | .csl id i j n _ =>
    match H id with
    | some ob => match ob.body with
      | .rows l => match l[i]? with
        | some e => ⟨j + n ≤ e.length ∧ e.length ≤ ob.sz ∧ ∀ x ∈ (e.drop j).take n, isByteAV x, decide (j + n ≤ e.length) && (decide (e.length ≤ ob.sz) && ((e.drop j).take n).all isByteB), fun h => by
            simp only [Bool.and_eq_true, decide_eq_true_eq] at h
            exact ⟨h.1, h.2.1, fun x hx => isByteB_ok (List.all_eq_true.1 h.2.2 x hx)⟩⟩
        | none => ⟨False, false, fun h => by cases h⟩
      | _ => ⟨False, false, fun h => by cases h⟩
    | none => ⟨False, false, fun h => by cases h⟩
  | _ => DP.true_

theorem bytesDP_ok {H : Heap} {x : AV} {xs : List UInt8} {p : Prop} (h : bytesOf H x = some (xs, p)) (hd : (bytesDP H x).p) : p := by
  unfold bytesOf at h
  unfold bytesDP at hd
  split at h
  · simp only [Option.some.injEq, Prod.mk.injEq] at h; rw [← h.2]; trivial
  · split at h
    · rename_i ob hid
      split at h
      · rename_i ys hb
        split at h
        · simp only [Option.some.injEq, Prod.mk.injEq] at h
          rw [← h.2]
          simp only [hid, hb] at hd
          exact hd
        · cases h
      · cases h
    · cases h
  · split at h
    · rename_i ob hid
      split at h
      · rename_i l hb
        split at h
        · rename_i e he
          simp only [Option.some.injEq, Prod.mk.injEq] at h
          rw [← h.2]
          simp only [hid, hb, he] at hd
          exact hd
        · cases h
      · cases h
    · cases h
  · simp only [Option.some.injEq, Prod.mk.injEq] at h; rw [← h.2]; trivial
  · cases h

section
variable (cl : Bool) (inl : Inl) (P : Program) (tm : Nat → AV) (H : Heap) (L : List (Nat × AObj)) (nx rid : Nat)

def stPure (o : Oper) : Out := (pureOp P tm o).map fun v => ((.val v, []), [])

def stExtract (o : Oper) (x : Operand) (i : Nat) : Out :=
  match avOf tm x with
  | .tup l => one l[i]?
  | _ => stPure P tm o

def stField (x : Operand) (t : TypeId) (f : Nat) : Out :=
  match aggCells (avOf tm x), fieldT P t f with
  | some l, some (off, ft) => one (partA P ft l off)
  | _, _ => none

def stIndex (o : Oper) (x ix : Operand) (t : TypeId) : Out :=
  match aggCells (avOf tm x), arrT P t, avOf tm ix with
  | some l, some (n, e), .val (.int _ z) =>
    match szT P e, chk cl (DP.of (0 ≤ z ∧ z < (n : Int))) with
    | some es, some q => one (partA P e l (z.toNat * es)) q
    | _, _ => none
  | _, _, _ =>
    if cl then stPure P tm o else
    match avOf tm x, avOf tm ix with
    | .val (.string st), .val (.int _ z) => if isStrT P t then one (some (.val (.int .u8 ((st.data.toList.getD z.toNat 0).toNat : Int)))) [0 ≤ z ∧ z.toNat < st.size] else stPure P tm o
    | _, _ => stPure P tm o

def stBuild (t : TypeId) (ps : Array (Nat × Operand)) : Out :=
  match zeroT P t, placesT P t with
  | some z, some pl => one ((fillA pl (z.map .val) (ps.toList.map fun p => (p.1, avOf tm p.2))).map .agg)
  | _, _ => none

def stAlloc (t : TypeId) : Out := (zeroT P t).map fun z => ((.ptr rid 0 0, [(rid, some (objOne t (z.map .val)))]), [])
def stBox (t : TypeId) (x : Operand) : Out := (cellsOf (avOf tm x)).map fun l => ((.ptr rid 0 0, [(rid, some (objOne t l))]), [])

def stBuildSlice (t : TypeId) (n : Nat) (ps : Array (Nat × Operand)) : Out :=
  match elemT P t with
  | some e =>
    match szT P e, zeroT P e with
    | some sz, some z =>
      if z.length = sz ∧ 0 < sz ∧ n * sz ≤ 16777216 then
        match fillA (fun i => some (i * sz, sz)) ((List.replicate n z).flatten.map .val) (ps.toList.map fun p => (p.1, avOf tm p.2)) with
        | some l =>
          if byteTB P e then
            if sz = 1 then (chk cl (allBytes l)).map fun q => ((.sl rid 0 n none, [(rid, some (objBytes e (l.map byteVal)))]), q) else none
          else some ((.sl rid 0 n none, [(rid, some (objRows e sz n l))]), [])
        | none => none
      else none
    | _, _ => none
  | none => none

def stLoad (hn : Option Hn) (t : TypeId) (x : Operand) : Out :=
  match avOf tm x with
  | .ptr id i j =>
    match H id with
    | some ob =>
      match ob.body with
      | .rows l =>
        match hn with
        | some (.row e) => if e.length ≤ ob.sz then one (partA P t e j) [l[i]? = some e] else none
        | _ => match l[i]? with
          | some e => if e.length ≤ ob.sz then one (partA P t e j) else none
          | none => none
      | .bytes xs =>
        match aggT P t with
        | some false =>
          if ob.sz = 1 ∧ j = 0 then
            match hn with
            | some (.byte y) => one (some (.val (bv y))) [xs[i]? = some y]
            | some .get => (chk cl (DP.of (i < xs.length))).bind fun q => one (some (.val (bv (xs.getD i 0)))) q
            | _ => match xs[i]? with
              | some y => one (some (.val (bv y)))
              | none => none
          else none
        | _ => none
      | .flat _ => none
    | none => none
  | .iptr e => one (partA P t e 0)
  | _ => none

def stStore (hn : Option Hn) (t : TypeId) (x y : Operand) : Out :=
  match avOf tm x with
  | .ptr id i j =>
    match H id with
    | some ob =>
      match ob.body with
      | .rows l =>
        match (match hn with | some (.row e) => some (e, [l[i]? = some e]) | _ => (l[i]?).map fun e => (e, [])), cellsOf (avOf tm y), szT P t with
        | some (e, q), some cs, some n =>
          if e.length = ob.sz ∧ cs.all AV.one = true ∧ cs.length = n ∧ j + n ≤ ob.sz then some ((.val undef, [(id, some { ob with body := .rows (l.set i (splice e j cs)) })]), q) else none
        | _, _, _ => none
      | .bytes xs =>
        match chk cl (DP.of (i < xs.length)), chk cl ⟨isByteAV (avOf tm y), isByteB (avOf tm y), isByteB_ok⟩, szT P t with
        | some q, some q', some 1 => if ob.sz = 1 ∧ j = 0 then some ((.val undef, [(id, some { ob with body := .bytes (xs.set i (byteVal (avOf tm y))) })]), q ++ q') else none
        | _, _, _ => none
      | .flat _ => none
    | none => none
  | _ => none

def stFieldAddr (t : TypeId) (x : Operand) (f : Nat) : Out :=
  match fieldT P t f with
  | some (off, ft) =>
    match szT P ft with
    | some (_ + 1) =>
      match avOf tm x with
      | .ptr id i j => one (some (.ptr id i (j + off)))
      | .iptr l => one (some (.iptr (l.drop off)))
      | _ => none
    | _ => none
  | none => none

def stIndexAddr (hn : Option Hn) (t : TypeId) (x ix : Operand) : Out :=
  match avOf tm ix with
  | .val (.int _ z) =>
    match avOf tm x with
    | .sl id off n _ =>
      match H id, elemT P t with
      | some ob, some e => if szT P e = some ob.sz then (chk cl (DP.of (0 ≤ z ∧ z < (n : Int)))).bind fun q => one (some (.ptr id (off + z.toNat) 0)) q else none
      | _, _ => none
    | .ptr id i j =>
      match arrT P t with
      | some (n, e) => match szT P e with
        | some es => (chk cl (DP.of (0 ≤ z ∧ z < (n : Int)))).bind fun q => one (some (.ptr id i (j + z.toNat * es))) q
        | none => none
      | none => none
    | .csl id i j n _ =>
      match elemT P t with
      | some e => if szT P e = some 1 then (chk cl (DP.of (0 ≤ z ∧ z < (n : Int)))).bind fun q => one (some (.ptr id i (j + z.toNat))) q else none
      | none => none
    | .bytes xs =>
      match elemT P t with
      | some e =>
        if szT P e = some 1 then
          match hn with
          | some (.byte y) => one (some (.iptr [.val (bv y)])) [0 ≤ z, xs[z.toNat]? = some y]
          | some .get => (chk cl (DP.of (0 ≤ z ∧ z.toNat < xs.length))).bind fun q => one (some (.iptr [.val (bv (xs.getD z.toNat 0))])) q
          | _ => if 0 ≤ z then match xs[z.toNat]? with
            | some y => one (some (.iptr [.val (bv y)]))
            | none => none
            else none
        else none
      | none => none
    | .view sz n g =>
      match elemT P t with
      | some e => if szT P e = some sz then (chk cl (DP.of (0 ≤ z ∧ z < (n : Int)))).bind fun q => one (some (.iptr (g z.toNat))) q else none
      | none => none
    | _ => none
  | _ => none

def natB (tm : Nat → AV) (b : Option Operand) (d : Nat) : Option (Nat × DP) :=
  match boundA tm b d with
  | some z => some (z.toNat, DP.of (0 ≤ z))
  | none => none

def stSlice (o : Oper) (t : TypeId) (x : Operand) (lo hi mx : Option Operand) : Out :=
  match avOf tm x with
  | .sl id off n lim =>
    match H id, elemT P t, natB tm lo 0, natB tm hi n with
    | some ob, some e, some (l, d1), some (h, d2) =>
      if szT P e = some ob.sz then
        match mx with
        | none => (chk cl d1).bind fun q1 => (chk cl d2).bind fun q2 => (chk cl (DP.of (l ≤ h ∧ off + h ≤ lim.getD ob.body.len))).bind fun q3 => one (some (.sl id (off + l) (h - l) lim)) (q1 ++ (q2 ++ q3))
        | some _ =>
          if hi.isSome then
            match natB tm mx 0 with
            | some (m, d3) => (chk cl d1).bind fun q1 => (chk cl d2).bind fun q2 => (chk cl d3).bind fun q3 => (chk cl (DP.of (l ≤ h ∧ h ≤ m ∧ off + m ≤ lim.getD ob.body.len))).bind fun q4 =>
                one (some (.sl id (off + l) (h - l) (some (off + m)))) (q1 ++ (q2 ++ (q3 ++ q4)))
            | none => none
          else none
      else none
    | _, _, _, _ => none
  | .bytes xs =>
    match elemT P t, natB tm lo 0, natB tm hi xs.length, mx with
    | some e, some (l, d1), some (h, d2), none =>
      if szT P e = some 1 then (chk cl d1).bind fun q1 => (chk cl d2).bind fun q2 => (chk cl (DP.of (l ≤ h ∧ h ≤ xs.length))).bind fun q3 => one (some (.bytes ((xs.take h).drop l))) (q1 ++ (q2 ++ q3)) else none
    | some e, some (l, d1), some (h, d2), some m =>
      match hi with
      | some _ => match natB tm (some m) 0 with
        | some (m, d3) => if szT P e = some 1 then (chk cl d1).bind fun q1 => (chk cl d2).bind fun q2 => (chk cl d3).bind fun q3 => (chk cl (DP.of (l ≤ h ∧ h ≤ m ∧ m ≤ xs.length))).bind fun q4 => one (some (.bytes ((xs.take h).drop l))) (q1 ++ (q2 ++ (q3 ++ q4))) else none
        | none => none
      | none => none
    | _, _, _, _ => none
  | .view sz n g =>
    match elemT P t, natB tm lo 0, natB tm hi n, mx with
    | some e, some (l, d1), some (h, d2), none =>
      if szT P e = some sz then (chk cl d1).bind fun q1 => (chk cl d2).bind fun q2 => (chk cl (DP.of (l ≤ h ∧ h ≤ n))).bind fun q3 => one (some (.view sz (h - l) (fun i => g (l + i)))) (q1 ++ (q2 ++ q3)) else none
    | _, _, _, _ => none
  | .csl id i j n c =>
    match elemT P t, natB tm lo 0, natB tm hi n, mx with
    | some e, some (l, d1), some (h, d2), none =>
      if szT P e = some 1 then (chk cl d1).bind fun q1 => (chk cl d2).bind fun q2 => (chk cl (DP.of (l ≤ h ∧ h ≤ n))).bind fun q3 => one (some (if c = l then .csl id i j (h - l) (c - l) else .csl id i (j + l) (h - l) (c - l))) (q1 ++ (q2 ++ q3)) else none
    | _, _, _, _ => none
  | .ptr id i j =>
    match arrT P t, mx with
    | some (n, e), none =>
      match natB tm lo 0, natB tm hi n with
      | some (l, d1), some (h, d2) =>
        if szT P e = some 1 ∧ n ≤ 1000000 then (chk cl d1).bind fun q1 => (chk cl d2).bind fun q2 => (chk cl (DP.of (l ≤ h ∧ h ≤ n ∧ l < n))).bind fun q3 => one (some (.csl id i (j + l) (h - l) (n - l))) (q1 ++ (q2 ++ q3)) else none
      | _, _ => none
    | _, _ => none
  | .val (.string st) =>
    match P.underlying t, natB tm lo 0, natB tm hi st.size, mx with
    | some .string, some (l, d1), some (h, d2), none =>
      (chk cl d1).bind fun q1 => (chk cl d2).bind fun q2 => (chk cl (DP.of (l ≤ h ∧ h ≤ st.size))).bind fun q3 => one (some (.val (.string (st.extract l h)))) (q1 ++ (q2 ++ q3))
    | _, _, _, _ => none
  | _ => stPure P tm o

def stMake (t : TypeId) (x y : Operand) : Out :=
  match elemT P t, avOf tm x, avOf tm y with
  | some e, .val (.int .i64 z), .val (.int .i64 z') =>
    if byteTB P e then (chk cl (DP.of (0 ≤ z ∧ z ≤ 1000000000 ∧ z' = z))).map fun q => ((.sl rid 0 z.toNat none, [(rid, some (objBytes e (List.replicate z.toNat 0)))]), q)
    else
      match P.info? e with
      | some i =>
        match i.zero with
        | some (.string u) => if i.size = 1 ∧ i.bytes ≤ 100 then (chk cl (DP.of (0 ≤ z ∧ z ≤ 1000000 ∧ z' = z))).map fun q => ((.sl rid 0 z.toNat none, [(rid, some (objRows e 1 z.toNat (List.replicate z.toNat (.val (.string u)))))]), q) else none
        | _ => none
      | none => none
  | _, _, _ => none

def stConvert (o : Oper) (t dst : TypeId) (x : Operand) : Out :=
  match elemT P t, P.underlying dst with
  | some e, some .string =>
    match bytesOf H (avOf tm x) with
    | some (xs, _) => if byteTB P e then (chk cl (bytesDP H (avOf tm x))).bind fun q => one (some (.val (.string ⟨xs.toArray⟩))) q else none
    | none => none
  | some e, some (.slice _) =>
    match avOf tm x with
    | .sl id off n lim =>
      match H id with
      | some ob => if t = dst ∧ byteTB P e = true then (chk cl (DP.of (0 < n))).map fun q => ((.sl id off n lim, [(id, some { ob with fz := true })]), q) else none
      | none => none
    | _ => stPure P tm o
  | none, some (.slice e) =>
    match avOf tm x with
    | .val (.string st) => if (byteTB P e && isStrT P t) = true then (chk cl (DP.of (st.size ≤ 1000000000))).map fun q => ((.sl rid 0 st.size none, [(rid, some { objApp e st.data.toList with fz := true })]), q) else stPure P tm o
    | _ => stPure P tm o
  | _, _ => stPure P tm o

def stLen (o : Oper) (t : TypeId) (x : Operand) : Out :=
  match lenA (avOf tm x), elemT P t with
  | some n, some _ => one (some (.val (.int .i64 n)))
  | _, _ => stPure P tm o

/-- how many bytes a slice shows -/
def lenB (y : AV) (xs : List UInt8) : Nat :=
  match y with
  | .sl _ _ n _ => n
  | .csl _ _ _ n _ => n
  | _ => xs.length

def stAppend (t : TypeId) (x y : Operand) : Out :=
  match elemT P t, bytesOf H (avOf tm y), chk cl (bytesDP H (avOf tm y)) with
  | some e, some (xs, _), some q =>
    if byteTB P e then
      match avOf tm x with
      | .sl id 0 n none =>
        match H id with
        | some ob =>
          match ob.body with
          | .bytes ys => if ob.sz = 1 ∧ ob.fz = false ∧ ob.t = e then (chk cl (DP.of (ys.length = n ∧ n + lenB (avOf tm y) xs ≤ 1000000000))).map fun q' => ((.sl rid 0 (n + lenB (avOf tm y) xs) none, [(id, none), (rid, some (objApp e (ys ++ xs)))]), q ++ q') else none
          | _ => none
        | none => none
      | .val (.slice none 0 0) => (chk cl (DP.of (lenB (avOf tm y) xs ≤ 1000000000))).map fun q' => ((.sl rid 0 (lenB (avOf tm y) xs) none, [(rid, some (objApp e xs))]), q ++ q')
      | _ => none
    else none
  | _, _, _ => none

/-- append behind a part of a row, which is forgotten -/
def stAppendI (b : Builtin) (args : List Operand) (ts : List TypeId) : Out :=
  match b, args, ts with
  | .append, [x, y], [t, u] =>
    if t = u then
      match elemT P t, bytesOf H (avOf tm y) with
      | some e, some (xs, p) =>
        if byteTB P e then
          match avOf tm x with
          | .sl id 0 n none =>
            match H id with
            | some ob =>
              match ob.body with
              | .bytes ys => if ob.sz = 1 ∧ ob.fz = false ∧ ob.t = e then some ((.sl rid 0 (n + xs.length) none, [(id, none), (rid, some (objApp e (ys.take n ++ xs)))]), [p, n ≤ ys.length, n + xs.length ≤ 1000000000]) else none
              | _ => none
            | none => none
          | _ => none
        else none
      | _, _ => none
    else none
  | _, _, _ => none

def allIn (B : List Nat) : Bool := B.all fun id => (H id).isSome

def stCall (hn : Option Hn) (f : Operand) (args : Array Operand) : OutN :=
  match avOf tm f with
  | .fn (.func g) caps =>
    if callable P g then
      match hn with
      | some (.call cs B R v H' k) =>
        if allIn H B then
          match coL (co1 H B) (args.toList.map (avOf tm) ++ caps) cs, pickH (dropH H B) R with
          | some (xs, q), some Hf => some (⟨v, callUs cl H B R H', nx + k⟩, q ++ [ACall P g xs Hf nx v H' (nx + k)])
          | _, _ => none
        else none
      | some (.borrow cs B v) =>
        if allIn H B then
          match coL (co1 H B) (args.toList.map (avOf tm) ++ caps) cs with
          | some (xs, q) => some (⟨.val v, [], nx⟩, q ++ [ACall P g xs [] nx (.val v) [] nx])
          | none => none
        else none
      | _ =>
        match inl g (args.toList.map (avOf tm) ++ caps) L nx with
        | some (v, L', nx', q) => some (⟨v, callUs cl H [] (L.map (·.1)) L', nx'⟩, q)
        | none => none
    else none
  | _ => none

def optB : AV → Option (Option Bool × Bool)
  | .val (.bool x) => some (none, x)
  | .opt b (.val (.bool x)) => some (some b, x)
  | _ => none
def optQ (t : Bool) (w : Bool) : Option Bool → List Prop
  | none => []
  | some b => [t = w → b = true]

def pickM (t : Bool) (x y : Operand) : Out :=
  match optB (avOf tm x), optB (avOf tm y) with
  | some (bx, vx), some (by_, vy) => some ((.val (.bool (bif t then vx else vy)), []), optQ t true bx ++ optQ t false by_)
  | _, _ => none

def stPick (hn : Option Hn) (c x y : Operand) : Out :=
  match avOf tm c with
  | .val (.bool t) =>
    match hn with
    | some .mrg => pickM tm t x y
    | some .mrs => pickM tm t x y
    | some (.br b) => one (some (if b then avOf tm x else avOf tm y)) [t = b]
    | _ => one (some (if t then avOf tm x else avOf tm y))
  | _ => none

def stNil (o : Oper) (x : Operand) : Out :=
  match avOf tm x with
  | .ptr id i j => one (some (.ptr id i j))
  | .iptr l => one (some (.iptr l))
  | _ => stPure P tm o

def stMakeFunc (fn : Fn) (fs : List Operand) (caps : Array Operand) : Out :=
  match fs with
  | [] => one (some (.fn fn (caps.toList.map (avOf tm))))
  | _ => none

/-- a text's bytes (a word) -/
def textB (s : ByteArray) : List UInt8 := s.data.toList

def stBin (o : Oper) (b : BinOp) (ty : TypeId) (x y : Operand) : Out :=
  match b with
  | .eql => if eqNil P tm ty x y then one (some (.val (.bool false))) else match eqAgg P tm ty x y with | some B => one (some (.val (.bool B))) | none => stPure P tm o
  | .neq => if eqNil P tm ty x y then one (some (.val (.bool true))) else match eqAgg P tm ty x y with | some B => one (some (.val (.bool (!B)))) | none => stPure P tm o
  | .add => if cl then stPure P tm o else match avOf tm x, avOf tm y with | .val (.string u), .val (.string v) => one (some (.val (.string ⟨(textB u ++ textB v).toArray⟩))) [(textB u).length + (textB v).length ≤ 1000000000000] | _, _ => stPure P tm o
  | .shl => if cl then stPure P tm o else match avOf tm x, avOf tm y with | .val (.int k u), .val (.int _ c) => one (some (.val (.int k (k.wrap (u * 2 ^ min c.toNat k.bits))))) [0 ≤ c] | _, _ => stPure P tm o
  | .shr => if cl then stPure P tm o else match avOf tm x, avOf tm y with | .val (.int k u), .val (.int _ c) => one (some (.val (.int k (u.fdiv (2 ^ min c.toNat k.bits))))) [0 ≤ c] | _, _ => stPure P tm o
  | _ => stPure P tm o

/-- the object that an append of rows seen leaves: what they lead to is nobody's own -/
def objAppF (t : TypeId) (sz : Nat) (l : List (List AV)) : AObj := ⟨t, sz, false, false, .flat l⟩

/-- appends of structs -/
def stAppendR (t : TypeId) (x y : Operand) : Out :=
  match elemT P t with
  | some e =>
    match szT P e with
    | some sz =>
      if isEmptyV tm y then (if isSliceV tm x then one (some (avOf tm x)) else none)
      else
        match zeroT P e, infoB P e, avOf tm y with
        | some z, some by_, .view sz2 m gv =>
          match avOf tm x with
          | .sl id 0 n none =>
            match H id with
            | some ob =>
              match ob.body with
              | .rows l =>
                if z.length = sz ∧ 0 < sz ∧ sz2 = sz ∧ ob.sz = sz ∧ ob.t = e ∧ ob.fz = false then
                  some ((.sl rid 0 (n + m) none, [(id, none), (rid, some (objAppF e sz (l ++ (List.range m).map gv)))]), [l.length = n, 0 < m, onesOk sz ((List.range m).map gv) = true, n + m ≤ 1000000000, (n + m) * by_ ≤ 140737488355328])
                else none
              | _ => none
            | none => none
          | _ => none
        | some z, some by_, .sl id2 off2 m _ =>
          if cl = false then
            match H id2, avOf tm x with
            | some ob2, .sl id 0 n none =>
              match ob2.body, H id with
              | .rows l2, some ob =>
                match ob.body with
                | .rows l =>
                  if z.length = sz ∧ 0 < sz ∧ ob2.sz = sz ∧ 0 < m ∧ off2 + m ≤ l2.length ∧ onesOk sz ((l2.drop off2).take m) = true ∧ ob.sz = sz ∧ ob.t = e ∧ ob.fz = false then
                    some ((.sl rid 0 (n + m) none, [(id, none), (rid, some (objAppR e sz (l ++ (l2.drop off2).take m)))]), [l.length = n, n + m ≤ 1000000000, (n + m) * by_ ≤ 140737488355328])
                  else none
                | _ => none
              | _, _ => none
            | _, _ => none
          else
          match H id2 with
          | some ob2 =>
            match ob2.body with
            | .rows l2 =>
              if z.length = sz ∧ 0 < sz ∧ ob2.sz = sz ∧ 0 < m ∧ off2 + m ≤ l2.length ∧ onesOk sz ((l2.drop off2).take m) = true then
                match avOf tm x with
                | .sl id 0 n none =>
                  match H id with
                  | some ob =>
                    match ob.body with
                    | .rows l =>
                      if ob.sz = sz ∧ ob.t = e ∧ ob.fz = false then
                        if n + m ≤ l.length then some ((.sl id 0 (n + m) none, [(id, some { ob with body := .rows (over l n ((l2.drop off2).take m)) })]), [])
                        else if l.length = n ∧ n + m ≤ 1000000000 ∧ (n + m) * by_ ≤ 140737488355328 then some ((.sl rid 0 (n + m) none, [(id, none), (rid, some (objAppR e sz (l ++ (l2.drop off2).take m)))]), [])
                        else none
                      else none
                    | _ => none
                  | none => none
                | .val (.slice none 0 0) =>
                  if m ≤ 1000000000 ∧ m * by_ ≤ 140737488355328 then some ((.sl rid 0 m none, [(rid, some (objAppR e sz ((l2.drop off2).take m)))]), []) else none
                | _ => none
              else none
            | _ => none
          | none => none
        | _, _, _ => none
    | none => none
  | none => none

/-- append of a text's bytes -/
def stAppendS (t u : TypeId) (x y : Operand) : Out :=
  match elemT P t, avOf tm y with
  | some e, .val (.string st) =>
    if (byteTB P e && isStrT P u) = true then
      match avOf tm x with
      | .sl id 0 n none =>
        match H id with
        | some ob =>
          match ob.body with
          | .bytes ys => if ob.sz = 1 ∧ ob.fz = false ∧ ob.t = e then (chk cl (DP.of (ys.length = n ∧ n + st.size ≤ 1000000000))).map fun q' => ((.sl rid 0 (n + st.size) none, [(id, none), (rid, some (objApp e (ys ++ st.data.toList)))]), q') else none
          | _ => none
        | none => none
      | .val (.slice none 0 0) => (chk cl (DP.of (st.size ≤ 1000000000))).map fun q' => ((.sl rid 0 st.size none, [(rid, some (objApp e st.data.toList))]), q')
      | _ => none
    else none
  | _, _ => none

def isIntT (P : Program) (u : TypeId) : Bool := match P.underlying u with | some (.int _) => true | _ => false
/-- append of zeros -/
def stAppendZ (t u : TypeId) (x y : Operand) : Out :=
  match elemT P t, avOf tm y with
  | some e, .val (.int _ k) =>
    if (byteTB P e && isIntT P u) = true then
      match avOf tm x with
      | .sl id 0 n none =>
        match H id with
        | some ob =>
          match ob.body with
          | .bytes ys => if ob.sz = 1 ∧ ob.fz = false ∧ ob.t = e then (chk cl (DP.of (0 < k ∧ ys.length = n ∧ n + k.toNat ≤ 1000000000))).map fun q' => ((.sl rid 0 (n + k.toNat) none, [(id, none), (rid, some (objApp e (ys ++ List.replicate k.toNat 0)))]), q') else none
          | _ => none
        | none => none
      | _ => none
    else none
  | _, _ => none

def stClear (t : TypeId) (x : Operand) : Out :=
  match elemT P t, avOf tm x with
  | some e, .sl id off n _ =>
    match n with
    | 0 => some ((.val (.tuple #[]), []), [])
    | n + 1 =>
      match szT P e, zeroT P e, H id with
      | some sz, some z, some ob =>
        match ob.body with
        | .rows l => if z.length = sz ∧ z.all Value.oneCell' = true ∧ ob.sz = sz ∧ off + (n + 1) ≤ l.length then some ((.val (.tuple #[]), [(id, some { ob with body := .rows (over l off (List.replicate (n + 1) (z.map .val))) })]), []) else none
        | _ => none
      | _, _, _ => none
  | _, _ => none

/-- copy of bytes -/
def stCopy (t : TypeId) (x y : Operand) : Out :=
  match elemT P t, bytesOf H (avOf tm y), chk cl (bytesDP H (avOf tm y)) with
  | some e, some (xs, _), some q =>
    if byteTB P e then
      match avOf tm x with
      | .sl id off n _ =>
        match H id with
        | some ob =>
          match ob.body with
          | .bytes ys => if ob.sz = 1 then (chk cl (DP.of (0 < xs.length ∧ xs.length ≤ n ∧ off + xs.length ≤ ys.length))).map fun q' => ((.val (goInt xs.length), [(id, some { ob with body := .bytes (ys.take off ++ (xs ++ ys.drop (off + xs.length))) })]), q ++ q') else none
          | _ => none
        | none => none
      | .csl id i j n _ =>
        match H id with
        | some ob =>
          match ob.body with
          | .rows l =>
            match l[i]? with
            | some el => if el.length = ob.sz ∧ j + n ≤ ob.sz then (chk cl (DP.of (0 < n ∧ n ≤ xs.length))).map fun q' => ((.val (goInt n), [(id, some { ob with body := .rows (l.set i (splice el j ((List.range n).map fun k => .val (bv (xs.getD k 0))))) })]), q ++ q') else none
            | none => none
          | _ => none
        | none => none
      | _ => none
    else none
  | _, _, _ => none

def stBuiltin (o : Oper) (b : Builtin) (args : List Operand) (ts : List TypeId) : Out :=
  match b with
  | .len =>
    match args, ts with
    | [x], [t] => stLen P tm o t x
    | _, _ => none
  | .append =>
    match args, ts with
    | [x, y], [t, u] => if t = u then (match stAppend cl P tm H rid t x y with | some r => some r | none => stAppendR cl P tm H rid t x y) else (match stAppendS cl P tm H rid t u x y with | some r => some r | none => stAppendZ cl P tm H rid t u x y)
    | _, _ => none
  | .clear =>
    match args, ts with
    | [x], [t] => stClear P tm H t x
    | _, _ => none
  | .copy =>
    match args, ts with
    | [x, y], [t, _] => stCopy cl P tm H t x y
    | _, _ => none
  | _ => stPure P tm o

/-- an append of rows within, and a clear, at open places -/
def stInR (b : Builtin) (args : List Operand) (ts : List TypeId) : Out :=
  match b, args, ts with
  | .append, [x, y], [t, u] =>
    if t = u then
      match elemT P t with
      | some e =>
        match szT P e, avOf tm x, avOf tm y with
        | some sz, .sl id 0 n none, .sl id2 off2 m _ =>
          match H id, H id2 with
          | some ob, some ob2 =>
            match ob.body, ob2.body with
            | .rows l, .rows l2 =>
              if ob.sz = sz ∧ ob.t = e ∧ ob.fz = false ∧ ob2.sz = sz then some ((.sl id 0 (n + m) none, [(id, some { ob with body := .rows (over l n ((l2.drop off2).take m)) })]), [0 < m, off2 + m ≤ l2.length, n + m ≤ l.length, onesOk sz ((l2.drop off2).take m) = true]) else none
            | _, _ => none
          | _, _ => none
        | _, _, _ => none
      | none => none
    else none
  | .clear, [x], [t] =>
    match elemT P t, avOf tm x with
    | some e, .sl id off n _ =>
      match szT P e, zeroT P e, H id with
      | some sz, some z, some ob =>
        match ob.body with
        | .rows l => if z.length = sz ∧ z.all Value.oneCell' = true ∧ ob.sz = sz then some ((.val (.tuple #[]), [(id, some { ob with body := .rows (over l off (List.replicate n (z.map .val))) })]), [0 < n, off + n ≤ l.length]) else none
        | _ => none
      | _, _, _ => none
    | _, _ => none
  | _, _, _ => none

/-- an append of nothing, where that is to be shown -/
def stInZ (b : Builtin) (args : List Operand) (ts : List TypeId) : Out :=
  match b, args, ts with
  | .append, [x, y], [t, u] =>
    if t = u then
      match elemT P t, avOf tm x, avOf tm y with
      | some e, .sl id off n lim, .sl _ _ m _ =>
        match szT P e with
        | some _ => one (some (.sl id off n lim)) [m = 0]
        | none => none
      | _, _, _ => none
    else none
  | _, _, _ => none

/-- is it a call of a Go function? -/
def isCall (o : Oper) : Option (Operand × Array Operand) :=
  match o.op with
  | .call c => match c.callee with
    | .value f => some (f, c.args)
    | _ => none
  | _ => none

/-- a map that stays empty is asked -/
def stLookup (t : TypeId) (x ix : Operand) : Out :=
  match avOf tm x, mapT P t, valOf (avOf tm ix) with
  | .emap, some (k, _), some v =>
    if keyB P k v = true then
      match mapT P t with
      | some (_, e) => match (P.info? e).bind (·.zero) with
        | some z => one (some (.val z))
        | none => none
      | none => none
    else none
  | _, _, _ => none

/-- one operation that is no call -/
def opStep0 (hn : Option Hn) (o : Oper) : Out :=
  match o.op with
  | .move x => one (some (avOf tm x))
  | .assign x => one (some (avOf tm x))
  | .extract x i => stExtract P tm o x i
  | .field t x f => stField P tm x t f
  | .index t x ix => stIndex cl P tm o x ix t
  | .build t ps => stBuild P tm t ps
  | .alloc t => stAlloc P rid t
  | .box t x => stBox tm rid t x
  | .buildSlice t n ps => stBuildSlice cl P tm rid t n ps
  | .load t x => stLoad cl P tm H hn t x
  | .store t x y => stStore cl P tm H hn t x y
  | .fieldAddr t x f => stFieldAddr P tm t x f
  | .indexAddr t x ix => stIndexAddr cl P tm H hn t x ix
  | .slice t x lo hi mx => stSlice cl P tm H o t x lo hi mx
  | .makeSlice t x y => stMake cl P tm rid t x y
  | .convert t dst x => stConvert cl P tm H rid o t dst x
  | .nilCheck x => stNil P tm o x
  | .pick c x y => stPick tm hn c x y
  | .makeFunc fn fs caps => stMakeFunc tm fn fs.toList caps
  | .binOp b ty x y _ => stBin cl P tm o b ty x y
  | .makeMap _ none => one (some .emap)
  | .lookup t x ix false => stLookup P tm t x ix
  | .call c => match c.callee with
    | .builtin b => match hn with
      | some .inn =>
        match stAppendI P tm H rid b c.args.toList c.argTypes.toList with
        | some r => some r
        | none => stInR P tm H b c.args.toList c.argTypes.toList
      | some .mrs => stInZ P tm b c.args.toList c.argTypes.toList
      | _ => stBuiltin cl P tm H rid o b c.args.toList c.argTypes.toList
    | _ => none
  | _ => stPure P tm o

def opStep1 (hn : Option Hn) (o : Oper) : OutN :=
  match isCall o with
  | some (f, args) => stCall cl inl P tm H L nx hn f args
  | none =>
    match opStep0 cl P tm (unflatH H) rid hn o with
    | some (f, q) => some (⟨f.1, reflat (anyFlat H f.2) f.2, nx⟩, q)
    | none => none

/-- an object's bytes, called by another name -/
def cutU (id : Nat) (ys : List UInt8) : List (Nat × Option AObj) → Option (List (Nat × Option AObj) × List Prop)
  | [] => some ([], [])
  | (i, x) :: us =>
    match cutU id ys us with
    | some (us', q) =>
      if i = id then
        match x with
        | some ⟨t, sz, ex, fz, .bytes xs⟩ => some ((i, some ⟨t, sz, ex, fz, .bytes ys⟩) :: us', (xs = ys) :: q)
        | _ => none
      else some ((i, x) :: us', q)
    | none => none

/-- an object is as it was -/
def SameO (x : Option AObj) (y : AObj) : Prop := x = some y

/-- the objects that were there are as they were -/
def keepU (H : Heap) : List (Nat × Option AObj) → List (Nat × Option AObj) × List Prop
  | [] => ([], [])
  | (i, x) :: us =>
    match H i with
    | some y => ((keepU H us).1, SameO x y :: (keepU H us).2)
    | none => ((i, x) :: (keepU H us).1, (keepU H us).2)

def opStep (hn : Option Hn) (o : Oper) : OutN :=
  match opStep1 cl inl P tm H L nx rid hn o with
  | some (f, q) =>
    match hn with
    | some (.as c) =>
      match co2 (fun _ => none) [] f.v c with
      | some (v, q') => some (⟨v, f.us, f.nx⟩, q ++ q')
      | none => none
    | some (.cut id ys) =>
      match cutU id ys f.us with
      | some (us, q') => some (⟨f.v, us, f.nx⟩, q ++ q')
      | none => none
    | some .keep => some (⟨f.v, (keepU H f.us).1, f.nx⟩, q ++ (keepU H f.us).2)
    | _ => some (f, q)
  | none => none
end

/-! ### what an operation looks at -/
/-- the objects that a value leads to -/
def idsOf : Nat → AV → List Nat
  | 0, _ => []
  | n + 1, x =>
    match x with
    | .ptr id _ _ => [id]
    | .sl id _ _ _ => [id]
    | .csl id _ _ _ _ => [id]
    | .agg l => l.flatMap (idsOf n)
    | .tup l => l.flatMap (idsOf n)
    | .fn _ l => l.flatMap (idsOf n)
    | .iptr l => l.flatMap (idsOf n)
    | .opt _ v => idsOf n v
    | _ => []

def idsObj (x : AObj) : List Nat :=
  match x.body with
  | .rows l => l.flatMap fun e => e.flatMap (idsOf 3)
  | .bytes _ => []
  | .flat _ => []

/-- and those that these lead to -/
def reach (H : Heap) : Nat → List Nat → List Nat → List Nat
  | 0, _, acc => acc
  | _ + 1, [], acc => acc
  | n + 1, id :: todo, acc =>
    if acc.contains id then reach H n todo acc
    else match H id with
      | some x => reach H n (idsObj x ++ todo) (id :: acc)
      | none => reach H n todo (id :: acc)

def pickO (H : Heap) (R : List Nat) : List (Nat × AObj) := R.filterMap fun id => (H id).map fun x => (id, x)

def opTmps (o : Oper) : List Tmp := o.op.operands.toList.filterMap fun | .tmp t => some t | _ => none

/-- what is asked for by the hint -/
def hnIds : Option Hn → List Nat
  | some (.call _ B R _ _ _) => B ++ R
  | some (.borrow _ B _) => B
  | _ => []

def tmOf (ts : List Tmp) (tm : Nat → AV) : Nat → AV := fun t => if ts.contains t then tm t else .any
def startIds (tm : Nat → AV) (o : Oper) (hn : Option Hn) : List Nat := hnIds hn ++ (opTmps o).flatMap fun t => idsOf 4 (tm t)

/-- does it look at no object? -/
def noLook (o : Oper) : Bool :=
  match o.op with
  | .move _ | .assign _ | .fieldAddr _ _ _ | .nilCheck _ | .extract _ _ => true
  | _ => false

/-- the objects that it looks at: a call, all that its arguments lead to -/
def rdSet (H : Heap) (tm : Nat → AV) (o : Oper) (hn : Option Hn) : List Nat := if (isCall o).isSome then reach H 1000 (startIds tm o hn) [] else if noLook o then hnIds hn else startIds tm o hn

/-- one operation, out of what it looks at alone -/
def opStepF (cl : Bool) (inl : Inl) (P : Program) (tm : Nat → AV) (H : Heap) (nx rid : Nat) (hn : Option Hn) (o : Oper) : OutN :=
  let L := pickO H (rdSet H tm o hn)
  opStep cl inl P (tmOf (opTmps o) tm) (hp L) L nx rid hn o
end Go.Proofs.YtfofhpkafhpicaaGreatDoor

/- An engine for walks, tenth part: what an operation is reckoned to do it does. -/
namespace Go.Proofs.YtfofhpkafhpicaaGreatDoor
open Go.RowKit

section
variable {cl : Bool} {inl : Inl} {L : List (Nat × AObj)} {P : Program} {E : Env} {H : Heap} {w : World} {a : Act} {o : Oper} {nx rid : Nat} {tm : Nat → AV} {f : AV × List (Nat × Option AObj)} {ef : Eff} {l : List Prop} {hn : Option Hn}

theorem one_some {v : Option AV} {q : List Prop} (h : one v q = some (f, l)) : ∃ x, v = some x ∧ f = (x, []) ∧ l = q := by
  unfold one at h
  simp only [Option.map_eq_some_iff, Prod.mk.injEq] at h
  obtain ⟨x, h1, h2, h3⟩ := h
  exact ⟨x, h1, h2.symm, h3.symm⟩

theorem natB_ok {b : Option Operand} {d n : Nat} {dp : DP} (h : natB tm b d = some (n, dp)) (hd : dp.p) : boundA tm b d = some (n : Int) := by
  unfold natB at h
  split at h
  · rename_i z hz
    simp only [Option.some.injEq, Prod.mk.injEq] at h
    obtain ⟨rfl, rfl⟩ := h
    have : 0 ≤ z := hd
    rw [hz, Int.toNat_of_nonneg this]
  · cases h

theorem stPure_ok (s : Sat E nx H w) (r : RepT E w tm a) (h : stPure P tm o = some (f, l)) : OpOk P o E H a w rid nx ⟨f.1, f.2, nx⟩ := by
  unfold stPure at h
  simp only [Option.map_eq_some_iff, Prod.mk.injEq] at h
  obtain ⟨v, h1, rfl, _⟩ := h
  exact ok_pure s r h1

theorem stExtract_ok {x : Operand} {i : Nat} (s : Sat E nx H w) (r : RepT E w tm a) (ho : o.op = .extract x i) (h : stExtract P tm o x i = some (f, l)) : OpOk P o E H a w rid nx ⟨f.1, f.2, nx⟩ := by
  unfold stExtract at h
  split at h
  · rename_i l' hx
    obtain ⟨y, hy, rfl, _⟩ := one_some h
    exact ok_extract s r ho hx hy
  · exact stPure_ok s r h

theorem stField_ok {x : Operand} {t : TypeId} {i : Nat} (s : Sat E nx H w) (r : RepT E w tm a) (ho : o.op = .field t x i) (h : stField P tm x t i = some (f, l)) : OpOk P o E H a w rid nx ⟨f.1, f.2, nx⟩ := by
  unfold stField at h
  split at h
  · rename_i l' off ft h1 h2
    obtain ⟨y, hy, rfl, _⟩ := one_some h
    exact ok_field s r ho h1 h2 hy
  · cases h

theorem stIndex_ok {x ix : Operand} {t : TypeId} (s : Sat E nx H w) (r : RepT E w tm a) (ho : o.op = .index t x ix) (h : stIndex cl P tm o x ix t = some (f, l)) (hl : ∀ q ∈ l, q) : OpOk P o E H a w rid nx ⟨f.1, f.2, nx⟩ := by
  unfold stIndex at h
  split at h
  · rename_i l' n e k z h1 h2 h3
    split at h
    · rename_i es q h4 h5
      obtain ⟨y, hy, rfl, rfl⟩ := one_some h
      exact ok_index s r ho h1 h3 (chk_ok h5 hl) h2 h4 hy
    · cases h
  · split at h
    · exact stPure_ok s r h
    · split at h
      · rename_i st k z hx hi
        split at h
        · rename_i ht
          obtain ⟨y, hy, rfl, rfl⟩ := one_some h
          cases hy
          exact ok_indexStr s r ho (isStrT_ok ht) hx hi (hl _ (List.mem_singleton.2 rfl))
        · exact stPure_ok s r h
      · exact stPure_ok s r h

theorem stBuild_ok {t : TypeId} {ps : Array (Nat × Operand)} (s : Sat E nx H w) (r : RepT E w tm a) (ho : o.op = .build t ps) (h : stBuild P tm t ps = some (f, l)) : OpOk P o E H a w rid nx ⟨f.1, f.2, nx⟩ := by
  unfold stBuild at h
  split at h
  · rename_i z pl h1 h2
    obtain ⟨y, hy, rfl, _⟩ := one_some h
    obtain ⟨l', h3, rfl⟩ := Option.map_eq_some_iff.1 hy
    exact ok_build s r ho h1 h2 h3
  · cases h

theorem stAlloc_ok {t : TypeId} (s : Sat E nx H w) (hr : E.f rid = none) (hrid : rid < nx) (ho : o.op = .alloc t) (h : stAlloc P rid t = some (f, l)) : OpOk P o E H a w rid nx ⟨f.1, f.2, nx⟩ := by
  unfold stAlloc at h
  simp only [Option.map_eq_some_iff, Prod.mk.injEq] at h
  obtain ⟨z, h1, rfl, _⟩ := h
  exact ok_alloc s hr (Nat.le_refl _) hrid ho h1

theorem stBox_ok {t : TypeId} {x : Operand} (s : Sat E nx H w) (r : RepT E w tm a) (hr : E.f rid = none) (hrid : rid < nx) (ho : o.op = .box t x) (h : stBox tm rid t x = some (f, l)) : OpOk P o E H a w rid nx ⟨f.1, f.2, nx⟩ := by
  unfold stBox at h
  simp only [Option.map_eq_some_iff, Prod.mk.injEq] at h
  obtain ⟨z, h1, rfl, _⟩ := h
  exact ok_box s r hr (Nat.le_refl _) hrid ho h1

theorem stBuildSlice_ok {t : TypeId} {n : Nat} {ps : Array (Nat × Operand)} (s : Sat E nx H w) (r : RepT E w tm a) (hr : E.f rid = none) (hrid : rid < nx) (ho : o.op = .buildSlice t n ps) (h : stBuildSlice cl P tm rid t n ps = some (f, l)) (hl : ∀ q ∈ l, q) : OpOk P o E H a w rid nx ⟨f.1, f.2, nx⟩ := by
  unfold stBuildSlice at h
  split at h
  · rename_i e h1
    split at h
    · rename_i sz z h2 h3
      split at h
      · rename_i hc
        split at h
        · rename_i l' h4
          split at h
          · split at h
            · rename_i hs
              subst hs
              simp only [Option.map_eq_some_iff, Prod.mk.injEq] at h
              obtain ⟨q, hq, rfl, rfl⟩ := h
              exact ok_buildBytes s r hr (Nat.le_refl _) hrid ho h1 h2 h3 hc.1 hc.2.2 h4 (chk_ok hq hl)
            · cases h
          · simp only [Option.some.injEq, Prod.mk.injEq] at h
            obtain ⟨rfl, _⟩ := h
            exact ok_buildSlice s r hr (Nat.le_refl _) hrid ho h1 h2 h3 hc.1 hc.2.1 hc.2.2 h4
        · cases h
      · cases h
    · cases h
  · cases h

theorem getD_some {xs : List UInt8} {i : Nat} (h : i < xs.length) : xs[i]? = some (xs.getD i 0) := by
  simp [List.getD_eq_getElem?_getD, List.getElem?_eq_getElem h]

theorem stLoad_ok {t : TypeId} {x : Operand} (s : Sat E nx H w) (r : RepT E w tm a) (ho : o.op = .load t x) (h : stLoad cl P tm H hn t x = some (f, l)) (hl : ∀ q ∈ l, q) : OpOk P o E H a w rid nx ⟨f.1, f.2, nx⟩ := by
  unfold stLoad at h
  split at h
  · rename_i id i j hx
    split at h
    · rename_i ob hid
      split at h
      · rename_i rows hb
        split at h
        · rename_i e
          split at h
          · rename_i he
            obtain ⟨y, hy, rfl, rfl⟩ := one_some h
            exact ok_load s r ho hx hid hb (hl _ (List.mem_singleton.2 rfl)) he hy
          · cases h
        · split at h
          · rename_i e h2
            split at h
            · rename_i he
              obtain ⟨y, hy, rfl, _⟩ := one_some h
              exact ok_load s r ho hx hid hb h2 he hy
            · cases h
          · cases h
      · rename_i xs hb
        split at h
        · rename_i ha
          split at h
          · rename_i hc
            obtain ⟨hc1, rfl⟩ := hc
            split at h
            · rename_i y
              obtain ⟨y', hy, rfl, rfl⟩ := one_some h
              cases hy
              exact ok_loadB s r ho hx hid hb hc1 (hl _ (List.mem_singleton.2 rfl)) ha
            · obtain ⟨q, hq, h⟩ := Option.bind_eq_some_iff.1 h
              obtain ⟨y', hy, rfl, rfl⟩ := one_some h
              cases hy
              exact ok_loadB s r ho hx hid hb hc1 (getD_some (chk_ok hq hl)) ha
            · split at h
              · rename_i y h2
                obtain ⟨y', hy, rfl, _⟩ := one_some h
                cases hy
                exact ok_loadB s r ho hx hid hb hc1 h2 ha
              · cases h
          · cases h
        · cases h
      · cases h
    · cases h
  · rename_i e hx
    obtain ⟨y, hy, rfl, _⟩ := one_some h
    exact ok_loadI s r ho hx hy
  · cases h

theorem stStore_ok {t : TypeId} {x y : Operand} (s : Sat E nx H w) (r : RepT E w tm a) (ho : o.op = .store t x y) (h : stStore cl P tm H hn t x y = some (f, l)) (hl : ∀ q ∈ l, q) : OpOk P o E H a w rid nx ⟨f.1, f.2, nx⟩ := by
  unfold stStore at h
  split at h
  · rename_i id i j hx
    split at h
    · rename_i ob hid
      split at h
      · rename_i rows hb
        split at h
        · rename_i e q cs n h1 h2 h3
          split at h
          · rename_i hc
            simp only [Option.some.injEq, Prod.mk.injEq] at h
            obtain ⟨rfl, rfl⟩ := h
            have he : rows[i]? = some e := by
              split at h1
              · simp only [Option.some.injEq, Prod.mk.injEq] at h1
                obtain ⟨rfl, rfl⟩ := h1
                exact hl _ (List.mem_singleton.2 rfl)
              · simp only [Option.map_eq_some_iff, Prod.mk.injEq] at h1
                obtain ⟨e', h4, rfl, _⟩ := h1
                exact h4
            exact ok_store s r ho hx hid hb he hc.1 h2 hc.2.1 h3 hc.2.2.1 hc.2.2.2
          · cases h
        · cases h
      · rename_i xs hb
        split at h
        · rename_i q q' h1 h2 h3
          split at h
          · rename_i hc
            obtain ⟨hc1, rfl⟩ := hc
            simp only [Option.some.injEq, Prod.mk.injEq] at h
            obtain ⟨rfl, rfl⟩ := h
            have hy : isByteAV (avOf tm y) := chk_ok h2 fun p hp => hl p (List.mem_append_right _ hp)
            exact ok_storeB s r ho hx hid hb hc1 (chk_ok h1 fun p hp => hl p (List.mem_append_left _ hp)) (byteVal_eq hy) h3
          · cases h
        · cases h
      · cases h
    · cases h
  · cases h

theorem stFieldAddr_ok {t : TypeId} {x : Operand} {i : Nat} (s : Sat E nx H w) (r : RepT E w tm a) (ho : o.op = .fieldAddr t x i) (h : stFieldAddr P tm t x i = some (f, l)) : OpOk P o E H a w rid nx ⟨f.1, f.2, nx⟩ := by
  unfold stFieldAddr at h
  split at h
  · rename_i off ft h1
    split at h
    · rename_i n h2
      split at h
      · rename_i id i' j hx
        obtain ⟨y, hy, rfl, _⟩ := one_some h
        cases hy
        exact ok_fieldAddr s r ho hx h1 h2
      · rename_i l' hx
        obtain ⟨y, hy, rfl, _⟩ := one_some h
        cases hy
        exact ok_fieldAddrI s r ho hx h1 h2
      · cases h
    · cases h
  · cases h

theorem stIndexAddr_ok {t : TypeId} {x ix : Operand} (s : Sat E nx H w) (r : RepT E w tm a) (ho : o.op = .indexAddr t x ix) (h : stIndexAddr cl P tm H hn t x ix = some (f, l)) (hl : ∀ q ∈ l, q) : OpOk P o E H a w rid nx ⟨f.1, f.2, nx⟩ := by
  unfold stIndexAddr at h
  split at h
  · rename_i k z hi
    split at h
    · rename_i id off n lim hx
      split at h
      · rename_i ob e hid ht
        split at h
        · rename_i hs
          obtain ⟨q, hq, h⟩ := Option.bind_eq_some_iff.1 h
          obtain ⟨y, hy, rfl, rfl⟩ := one_some h
          cases hy
          exact ok_indexSl s r ho hx hi (chk_ok hq hl) hid ht hs
        · cases h
      · cases h
    · rename_i id i j hx
      split at h
      · rename_i n e ht
        split at h
        · rename_i es hs
          obtain ⟨q, hq, h⟩ := Option.bind_eq_some_iff.1 h
          obtain ⟨y, hy, rfl, rfl⟩ := one_some h
          cases hy
          exact ok_indexArr s r ho hx hi (chk_ok hq hl) ht hs
        · cases h
      · cases h
    · rename_i id i j n c hx
      split at h
      · rename_i e ht
        split at h
        · rename_i hs
          obtain ⟨q, hq, h⟩ := Option.bind_eq_some_iff.1 h
          obtain ⟨y, hy, rfl, rfl⟩ := one_some h
          cases hy
          exact ok_indexCsl s r ho hx hi (chk_ok hq hl) ht hs
        · cases h
      · cases h
    · rename_i xs hx
      split at h
      · rename_i e ht
        split at h
        · rename_i hs
          split at h
          · rename_i y
            obtain ⟨y', hy, rfl, rfl⟩ := one_some h
            cases hy
            exact ok_indexBytes s r ho hx hi (hl _ (by simp)) (hl (xs[z.toNat]? = some y) (by simp)) ht hs
          · obtain ⟨q, hq, h⟩ := Option.bind_eq_some_iff.1 h
            obtain ⟨y', hy, rfl, rfl⟩ := one_some h
            cases hy
            have k := chk_ok hq hl
            exact ok_indexBytes s r ho hx hi k.1 (getD_some k.2) ht hs
          · split at h
            · rename_i hz
              split at h
              · rename_i y h2
                obtain ⟨y', hy, rfl, _⟩ := one_some h
                cases hy
                exact ok_indexBytes s r ho hx hi hz h2 ht hs
              · cases h
            · cases h
        · cases h
      · cases h
    · rename_i sz n g hx
      split at h
      · rename_i e ht
        split at h
        · rename_i hs
          obtain ⟨q, hq, h⟩ := Option.bind_eq_some_iff.1 h
          obtain ⟨y, hy, rfl, rfl⟩ := one_some h
          cases hy
          exact ok_indexView s r ho hx hi (chk_ok hq hl) ht hs
        · cases h
      · cases h
    · cases h
  · cases h

theorem stSlice_ok {t : TypeId} {x : Operand} {lo hi mx : Option Operand} (s : Sat E nx H w) (r : RepT E w tm a) (ho : o.op = .slice t x lo hi mx) (h : stSlice cl P tm H o t x lo hi mx = some (f, l)) (hl : ∀ q ∈ l, q) : OpOk P o E H a w rid nx ⟨f.1, f.2, nx⟩ := by
  unfold stSlice at h
  split at h
  · rename_i id off n lim hx
    split at h
    · rename_i ob e l' d1 h' d2 hid ht hlo hhi
      split at h
      · rename_i hs
        split at h
        · obtain ⟨q1, g1, h⟩ := Option.bind_eq_some_iff.1 h
          obtain ⟨q2, g2, h⟩ := Option.bind_eq_some_iff.1 h
          obtain ⟨q3, g3, h⟩ := Option.bind_eq_some_iff.1 h
          obtain ⟨y, hy, rfl, rfl⟩ := one_some h
          cases hy
          have k1 := natB_ok hlo (chk_ok g1 fun p hp => hl p (by simp [hp]))
          have k2 := natB_ok hhi (chk_ok g2 fun p hp => hl p (by simp [hp]))
          have k3 : l' ≤ h' ∧ off + h' ≤ lim.getD ob.body.len := chk_ok g3 fun p hp => hl p (by simp [hp])
          exact ok_sliceSl (m := none) s r ho hx hid ht hs k1 k2 (fun d => rfl) (by simp) (fun e => absurd rfl e) k3.1 (fun k e => by cases e) (by simpa using k3.2)
        · rename_i mo
          split at h
          · rename_i hih
            split at h
            · rename_i m d3 hm
              obtain ⟨q1, g1, h⟩ := Option.bind_eq_some_iff.1 h
              obtain ⟨q2, g2, h⟩ := Option.bind_eq_some_iff.1 h
              obtain ⟨q3, g3, h⟩ := Option.bind_eq_some_iff.1 h
              obtain ⟨q4, g4, h⟩ := Option.bind_eq_some_iff.1 h
              obtain ⟨y, hy, rfl, rfl⟩ := one_some h
              cases hy
              have k1 := natB_ok hlo (chk_ok g1 fun p hp => hl p (by simp [hp]))
              have k2 := natB_ok hhi (chk_ok g2 fun p hp => hl p (by simp [hp]))
              have k3 := natB_ok hm (chk_ok g3 fun p hp => hl p (by simp [hp]))
              have k4 : l' ≤ h' ∧ h' ≤ m ∧ off + m ≤ lim.getD ob.body.len := chk_ok g4 fun p hp => hl p (by simp [hp])
              refine ok_sliceSl (m := some m) s r ho hx hid ht hs k1 k2 (fun d => ?_) (by simp) (fun _ e => by rw [e] at hih; cases hih) k4.1 (fun k e => by cases e; exact k4.2.1) (by simpa using k4.2.2)
              simpa [boundA] using k3
            · cases h
          · cases h
      · cases h
    · cases h
  · rename_i xs hx
    split at h
    · rename_i e l' d1 h' d2 ht hlo hhi
      split at h
      · rename_i hs
        obtain ⟨q1, g1, h⟩ := Option.bind_eq_some_iff.1 h
        obtain ⟨q2, g2, h⟩ := Option.bind_eq_some_iff.1 h
        obtain ⟨q3, g3, h⟩ := Option.bind_eq_some_iff.1 h
        obtain ⟨y, hy, rfl, rfl⟩ := one_some h
        cases hy
        have k3 : l' ≤ h' ∧ h' ≤ xs.length := chk_ok g3 fun p hp => hl p (by simp [hp])
        exact ok_sliceBytes s r ho hx ht hs (natB_ok hlo (chk_ok g1 fun p hp => hl p (by simp [hp]))) (natB_ok hhi (chk_ok g2 fun p hp => hl p (by simp [hp]))) rfl k3.1 k3.2
      · cases h
    · rename_i e l' d1 h' d2 m ht hlo hhi
      split at h
      · rename_i hio
        split at h
        · rename_i m' d3 hm
          split at h
          · rename_i hs
            obtain ⟨q1, g1, h⟩ := Option.bind_eq_some_iff.1 h
            obtain ⟨q2, g2, h⟩ := Option.bind_eq_some_iff.1 h
            obtain ⟨q3, g3, h⟩ := Option.bind_eq_some_iff.1 h
            obtain ⟨q4, g4, h⟩ := Option.bind_eq_some_iff.1 h
            obtain ⟨y, hy, rfl, rfl⟩ := one_some h
            cases hy
            have k4 : l' ≤ h' ∧ h' ≤ m' ∧ m' ≤ xs.length := chk_ok g4 fun p hp => hl p (by simp [hp])
            exact ok_sliceBytes3 s r ho hx ht hs (natB_ok hlo (chk_ok g1 fun p hp => hl p (by simp [hp]))) (natB_ok hhi (chk_ok g2 fun p hp => hl p (by simp [hp]))) (natB_ok hm (chk_ok g3 fun p hp => hl p (by simp [hp]))) k4.1 k4.2.1 k4.2.2
          · cases h
        · cases h
      · cases h
    · cases h
  · rename_i sz n g hx
    split at h
    · rename_i e l' d1 h' d2 ht hlo hhi
      split at h
      · rename_i hs
        obtain ⟨q1, g1, h⟩ := Option.bind_eq_some_iff.1 h
        obtain ⟨q2, g2, h⟩ := Option.bind_eq_some_iff.1 h
        obtain ⟨q3, g3, h⟩ := Option.bind_eq_some_iff.1 h
        obtain ⟨y, hy, rfl, rfl⟩ := one_some h
        cases hy
        have k3 : l' ≤ h' ∧ h' ≤ n := chk_ok g3 fun p hp => hl p (by simp [hp])
        exact ok_sliceView s r ho hx ht hs (natB_ok hlo (chk_ok g1 fun p hp => hl p (by simp [hp]))) (natB_ok hhi (chk_ok g2 fun p hp => hl p (by simp [hp]))) rfl k3.1 k3.2
      · cases h
    · cases h
  · rename_i id i j n c hx
    split at h
    · rename_i e l' d1 h' d2 ht hlo hhi
      split at h
      · rename_i hs
        obtain ⟨q1, g1, h⟩ := Option.bind_eq_some_iff.1 h
        obtain ⟨q2, g2, h⟩ := Option.bind_eq_some_iff.1 h
        obtain ⟨q3, g3, h⟩ := Option.bind_eq_some_iff.1 h
        obtain ⟨y, hy, rfl, rfl⟩ := one_some h
        cases hy
        have k3 : l' ≤ h' ∧ h' ≤ n := chk_ok g3 fun p hp => hl p (by simp [hp])
        exact ok_sliceCsl s r ho hx ht hs (natB_ok hlo (chk_ok g1 fun p hp => hl p (by simp [hp]))) (natB_ok hhi (chk_ok g2 fun p hp => hl p (by simp [hp]))) rfl k3.1 k3.2
      · cases h
    · cases h
  · rename_i id i j hx
    split at h
    · rename_i n e ht
      split at h
      · rename_i l' d1 h' d2 hlo hhi
        split at h
        · rename_i hs
          obtain ⟨q1, g1, h⟩ := Option.bind_eq_some_iff.1 h
          obtain ⟨q2, g2, h⟩ := Option.bind_eq_some_iff.1 h
          obtain ⟨q3, g3, h⟩ := Option.bind_eq_some_iff.1 h
          obtain ⟨y, hy, rfl, rfl⟩ := one_some h
          cases hy
          have k3 : l' ≤ h' ∧ h' ≤ n ∧ l' < n := chk_ok g3 fun p hp => hl p (by simp [hp])
          exact ok_sliceArr s r ho hx ht hs.1 (natB_ok hlo (chk_ok g1 fun p hp => hl p (by simp [hp]))) (natB_ok hhi (chk_ok g2 fun p hp => hl p (by simp [hp]))) rfl k3.1 k3.2.1 k3.2.2 (by unfold maxLen; omega)
        · cases h
      · cases h
    · cases h
  · rename_i st hx
    split at h
    · rename_i l' d1 h' d2 ht hlo hhi
      obtain ⟨q1, g1, h⟩ := Option.bind_eq_some_iff.1 h
      obtain ⟨q2, g2, h⟩ := Option.bind_eq_some_iff.1 h
      obtain ⟨q3, g3, h⟩ := Option.bind_eq_some_iff.1 h
      obtain ⟨y, hy, rfl, rfl⟩ := one_some h
      cases hy
      have k3 : l' ≤ h' ∧ h' ≤ st.size := chk_ok g3 fun p hp => hl p (by simp [hp])
      exact ok_sliceStr s r ho hx ht (natB_ok hlo (chk_ok g1 fun p hp => hl p (by simp [hp]))) (natB_ok hhi (chk_ok g2 fun p hp => hl p (by simp [hp]))) rfl k3.1 k3.2
    · cases h
  · exact stPure_ok s r h

theorem stMake_ok {t : TypeId} {x y : Operand} (s : Sat E nx H w) (r : RepT E w tm a) (hr : E.f rid = none) (hrid : rid < nx) (ho : o.op = .makeSlice t x y) (h : stMake cl P tm rid t x y = some (f, l)) (hl : ∀ q ∈ l, q) : OpOk P o E H a w rid nx ⟨f.1, f.2, nx⟩ := by
  unfold stMake at h
  split at h
  · rename_i e z z' ht hx hy
    split at h
    · rename_i hb
      simp only [Option.map_eq_some_iff, Prod.mk.injEq] at h
      obtain ⟨q, hq, rfl, rfl⟩ := h
      obtain ⟨h1, h2, rfl⟩ : 0 ≤ z ∧ z ≤ 1000000000 ∧ z' = z := chk_ok hq hl
      obtain ⟨n, rfl, hn⟩ := int_toNat h1
      rw [hn]
      obtain ⟨i, hi, hz0, hz1, hz2⟩ := info_parts (byteTB_ok hb ht).hi
      exact ok_makeBytes s r hr (Nat.le_refl _) hrid ho ht hi hz2 hz1 hz0 hx hy (by omega)
    · split at h
      · rename_i i hi
        split at h
        · rename_i u hz
          split at h
          · rename_i hc
            simp only [Option.map_eq_some_iff, Prod.mk.injEq] at h
            obtain ⟨q, hq, rfl, rfl⟩ := h
            obtain ⟨h1, h2, rfl⟩ : 0 ≤ z ∧ z ≤ 1000000 ∧ z' = z := chk_ok hq hl
            obtain ⟨n, rfl, hn⟩ := int_toNat h1
            rw [hn]
            have hn9 : n ≤ 1000000 := by omega
            exact ok_makeVals s r hr (Nat.le_refl _) hrid ho ht hi rfl hc.1 hz rfl hx hy (Nat.le_trans (Nat.mul_le_mul hn9 hc.2) (by decide)) (by omega)
          · cases h
        · cases h
      · cases h
  · cases h

theorem stConvert_ok {t dst : TypeId} {x : Operand} (s : Sat E nx H w) (r : RepT E w tm a) (hr : E.f rid = none) (hrid : rid < nx) (ho : o.op = .convert t dst x) (h : stConvert cl P tm H rid o t dst x = some (f, l)) (hl : ∀ q ∈ l, q) : OpOk P o E H a w rid nx ⟨f.1, f.2, nx⟩ := by
  unfold stConvert at h
  split at h
  · rename_i e ht hd
    split at h
    · rename_i xs p hx
      split at h
      · rename_i hb
        obtain ⟨q, hq, h⟩ := Option.bind_eq_some_iff.1 h
        obtain ⟨y, hy, rfl, rfl⟩ := one_some h
        cases hy
        exact ok_string s r ho ht hb hd hx (bytesDP_ok hx (chk_ok hq hl))
      · cases h
    · cases h
  · rename_i e e' ht hd
    split at h
    · rename_i id off n lim hx
      split at h
      · rename_i ob hid
        split at h
        · rename_i hc
          obtain ⟨rfl, hb⟩ := hc
          simp only [Option.map_eq_some_iff, Prod.mk.injEq] at h
          obtain ⟨q, hq, rfl, rfl⟩ := h
          exact ok_mark s r ho ht hb hx hid (chk_ok hq hl)
        · cases h
      · cases h
    · exact stPure_ok s r h
  · rename_i e ht hd
    split at h
    · rename_i st hx
      split at h
      · rename_i hb
        simp only [Bool.and_eq_true] at hb
        simp only [Option.map_eq_some_iff, Prod.mk.injEq] at h
        obtain ⟨q, hq, rfl, rfl⟩ := h
        exact ok_bytesOfStr s r hr (Nat.le_refl _) hrid ho (isStrT_ok hb.2) (by simp [elemT, hd]) hb.1 hx (chk_ok hq hl)
      · exact stPure_ok s r h
    · exact stPure_ok s r h
  · exact stPure_ok s r h

theorem stLen_ok {t : TypeId} {x : Operand} (s : Sat E nx H w) (r : RepT E w tm a) (ho : o.op = .call { callee := .builtin .len, args := #[x], argTypes := #[t] }) (h : stLen P tm o t x = some (f, l)) : OpOk P o E H a w rid nx ⟨f.1, f.2, nx⟩ := by
  unfold stLen at h
  split at h
  · rename_i n e hx ht
    obtain ⟨y, hy, rfl, _⟩ := one_some h
    cases hy
    exact ok_len s r ho hx ht
  · exact stPure_ok s r h

theorem lenB_ok {x : AV} {xs : List UInt8} {p : Prop} (h : bytesOf H x = some (xs, p)) (hp : p) : lenB x xs = xs.length := by
  unfold bytesOf at h
  split at h
  · rfl
  · split at h
    · split at h
      · split at h
        · simp only [Option.some.injEq, Prod.mk.injEq] at h
          obtain ⟨rfl, rfl⟩ := h
          simp [lenB]; omega
        · cases h
      · cases h
    · cases h
  · split at h
    · split at h
      · split at h
        · simp only [Option.some.injEq, Prod.mk.injEq] at h
          obtain ⟨rfl, rfl⟩ := h
          simp [lenB]; omega
        · cases h
      · cases h
    · cases h
  · rfl
  · cases h

theorem stAppend_ok {t : TypeId} {x y : Operand} (s : Sat E nx H w) (r : RepT E w tm a) (hr : E.f rid = none) (hrid : rid < nx) (ho : o.op = .call { callee := .builtin .append, args := #[x, y], argTypes := #[t, t] }) (h : stAppend cl P tm H rid t x y = some (f, l)) (hl : ∀ q ∈ l, q) : OpOk P o E H a w rid nx ⟨f.1, f.2, nx⟩ := by
  unfold stAppend at h
  split at h
  · rename_i e xs p q ht hy hq
    split at h
    · rename_i hb
      split at h
      · rename_i id n hx
        split at h
        · rename_i ob hid
          split at h
          · rename_i ys hob
            split at h
            · rename_i hc
              simp only [Option.map_eq_some_iff, Prod.mk.injEq] at h
              obtain ⟨q', hq', rfl, rfl⟩ := h
              obtain ⟨k1, k2⟩ : ys.length = n ∧ n + lenB (avOf tm y) xs ≤ 1000000000 := chk_ok hq' fun p hp => hl p (List.mem_append_right _ hp)
              have hpp := bytesDP_ok hy (chk_ok hq fun p hp => hl p (List.mem_append_left _ hp))
              have hlb := lenB_ok hy hpp
              rw [hlb] at k2 ⊢
              subst k1
              exact ok_appendSl s r hr (Nat.le_refl _) hrid ho ht hb hx hid hob hc.1 hc.2.1 hc.2.2 rfl hy hpp k2
            · cases h
          · cases h
        · cases h
      · rename_i hx
        simp only [Option.map_eq_some_iff, Prod.mk.injEq] at h
        obtain ⟨q', hq', rfl, rfl⟩ := h
        have hpp := bytesDP_ok hy (chk_ok hq fun p hp => hl p (List.mem_append_left _ hp))
        have k2 : lenB (avOf tm y) xs ≤ 1000000000 := chk_ok hq' fun p hp => hl p (List.mem_append_right _ hp)
        have hlb := lenB_ok hy hpp
        rw [hlb] at k2 ⊢
        exact ok_appendNil s r hr (Nat.le_refl _) hrid ho ht hb hx hy hpp k2
      · cases h
    · cases h
  · cases h

theorem allIn_ok {B : List Nat} (h : allIn H B = true) : ∀ id ∈ B, ∃ x, H id = some x := fun id hid => by
  unfold allIn at h
  exact Option.isSome_iff_exists.1 (List.all_eq_true.1 h id hid)

theorem stCall_ok {g : Operand} {args : Array Operand} {ts : Array TypeId} (s : Sat E nx H w) (r : RepT E w tm a) (ho : o.op = .call { callee := .value g, args := args, argTypes := ts }) (h : stCall cl inl P tm H L nx hn g args = some (ef, l)) (hl : ∀ q ∈ l, q) (hinl : InlOk P inl) (hL : H = hp L) : OpOk P o E H a w rid nx ef := by
  unfold stCall at h
  split at h
  · rename_i g' caps hf
    split at h
    · rename_i hc
      split at h
      · rename_i cs B R v H' k
        split at h
        · rename_i hB
          split at h
          · rename_i xs q Hf h1 h2
            simp only [Option.some.injEq, Prod.mk.injEq] at h
            obtain ⟨rfl, rfl⟩ := h
            obtain ⟨e1, e2⟩ := pickH_ok R Hf h2
            exact ok_call s r ho hf hc (allIn_ok hB) h1 (fun p hp => hl p (List.mem_append_left _ hp)) e1 e2 (hl _ (List.mem_append_right _ (List.mem_singleton.2 rfl))) (Nat.le_add_right _ _)
          · cases h
        · cases h
      · rename_i cs B v
        split at h
        · rename_i hB
          split at h
          · rename_i xs q h1
            simp only [Option.some.injEq, Prod.mk.injEq] at h
            obtain ⟨rfl, rfl⟩ := h
            exact ok_callB s r ho hf hc (allIn_ok hB) h1 (fun p hp => hl p (List.mem_append_left _ hp)) (hl _ (List.mem_append_right _ (List.mem_singleton.2 rfl))) (Nat.le_refl _)
          · cases h
        · cases h
      · split at h
        · rename_i v L' nx' q hi
          simp only [Option.some.injEq, Prod.mk.injEq] at h
          obtain ⟨rfl, rfl⟩ := h
          obtain ⟨c1, c2⟩ := hinl _ _ _ _ _ _ _ _ hi hl
          subst hL
          exact ok_call (B := []) (R := L.map (·.1)) s r ho hf hc (fun _ h => by cases h) (coL_keep _ _ _) (fun _ h => by cases h) (fun k x hk => by rw [dropH_nil]; exact hk) (hp_ids L) c1 c2
        · cases h
    · cases h
  · cases h

theorem optB_rep {v : AV} {u : Value} {ob : Option Bool} {x : Bool} (h : optB v = some (ob, x)) (r : Rep E w v u) (hq : ∀ b, ob = some b → b = true) : Rep E w (.val (.bool x)) u := by
  unfold optB at h
  split at h
  · simp only [Option.some.injEq, Prod.mk.injEq] at h
    obtain ⟨rfl, rfl⟩ := h
    exact r
  · simp only [Option.some.injEq, Prod.mk.injEq] at h
    obtain ⟨rfl, rfl⟩ := h
    cases r with
    | opt h1 h2 => exact h1 (hq _ rfl)
  · cases h

theorem pickM_ok {c x y : Operand} {t : Bool} (s : Sat E nx H w) (r : RepT E w tm a) (ho : o.op = .pick c x y) (hc : avOf tm c = .val (.bool t)) (h : pickM tm t x y = some (f, l)) (hl : ∀ q ∈ l, q) : OpOk P o E H a w rid nx ⟨f.1, f.2, nx⟩ := by
  unfold pickM at h
  split at h
  · rename_i bx vx by_ vy h1 h2
    simp only [Option.some.injEq, Prod.mk.injEq] at h
    obtain ⟨rfl, rfl⟩ := h
    refine ok_val (u := if t then a.eval x else a.eval y) s (by simp [execOp, ho, eval_val r hc, asBool]) ?_
    cases t with
    | true => exact optB_rep h1 (r.eval x) fun b e => by subst e; exact hl (true = true → b = true) (by simp [optQ]) rfl
    | false => exact optB_rep h2 (r.eval y) fun b e => by subst e; exact hl (false = false → b = true) (by simp [optQ]) rfl
  · cases h

theorem stPick_ok {c x y : Operand} (s : Sat E nx H w) (r : RepT E w tm a) (ho : o.op = .pick c x y) (h : stPick tm hn c x y = some (f, l)) (hl : ∀ q ∈ l, q) : OpOk P o E H a w rid nx ⟨f.1, f.2, nx⟩ := by
  have key : ∀ t : Bool, avOf tm c = .val (.bool t) → OpOk P o E H a w rid nx ⟨if t then avOf tm x else avOf tm y, [], nx⟩ := fun t hc => by
    refine ok_val (u := if t then a.eval x else a.eval y) s ?_ ?_
    · simp [execOp, ho, eval_val r hc, asBool]
    · cases t
      · exact r.eval y
      · exact r.eval x
  unfold stPick at h
  split at h
  · rename_i t hc
    split at h
    · exact pickM_ok s r ho hc h hl
    · exact pickM_ok s r ho hc h hl
    · rename_i b
      obtain ⟨z, hz, rfl, rfl⟩ := one_some h
      cases hz
      have : t = b := hl _ (List.mem_singleton.2 rfl)
      subst this
      exact key t hc
    · obtain ⟨z, hz, rfl, _⟩ := one_some h
      cases hz
      exact key t hc
  · cases h

theorem stNil_ok {x : Operand} (s : Sat E nx H w) (r : RepT E w tm a) (ho : o.op = .nilCheck x) (h : stNil P tm o x = some (f, l)) : OpOk P o E H a w rid nx ⟨f.1, f.2, nx⟩ := by
  unfold stNil at h
  split at h
  · rename_i id i j hx
    obtain ⟨z, hz, rfl, _⟩ := one_some h
    cases hz
    obtain ⟨b, c, sz, hE, hu⟩ := eval_ptr r hx
    exact ok_val s (by simp [execOp, ho, hu]) (.ptr hE)
  · rename_i l' hx
    obtain ⟨z, hz, rfl, _⟩ := one_some h
    cases hz
    have rx := r.eval x
    rw [hx] at rx
    generalize hu : a.eval x = u at rx
    cases rx with
    | iptr vs h1 h2 h3 h4 => exact ok_val s (by simp [execOp, ho, hu]) (.iptr vs h1 h2 h3 h4)
  · exact stPure_ok s r h

theorem stMakeFunc_ok {fn : Fn} {fs caps : Array Operand} (s : Sat E nx H w) (r : RepT E w tm a) (ho : o.op = .makeFunc fn fs caps) (h : stMakeFunc tm fn fs.toList caps = some (f, l)) : OpOk P o E H a w rid nx ⟨f.1, f.2, nx⟩ := by
  unfold stMakeFunc at h
  split at h
  · rename_i h1
    have e1 : fs = #[] := by rw [← Array.toArray_toList (xs := fs), h1]
    subst e1
    obtain ⟨y, hy, rfl, _⟩ := one_some h
    cases hy
    exact ok_makeFunc s r ho rfl
  · cases h

theorem stBin_ok {b : BinOp} {ty tr : TypeId} {x y : Operand} (s : Sat E nx H w) (r : RepT E w tm a) (ho : o.op = .binOp b ty x y tr) (h : stBin cl P tm o b ty x y = some (f, l)) (hl : ∀ q ∈ l, q) : OpOk P o E H a w rid nx ⟨f.1, f.2, nx⟩ := by
  unfold stBin at h
  split at h
  · split at h
    · rename_i hc
      obtain ⟨y, hy, rfl, _⟩ := one_some h
      cases hy
      exact ok_eqNil (neg := false) s r (by simpa using ho) hc
    · split at h
      · rename_i B hB
        obtain ⟨y, hy, rfl, _⟩ := one_some h
        cases hy
        exact ok_eqAgg (neg := false) s r (by simpa using ho) hB
      · exact stPure_ok s r h
  · split at h
    · rename_i hc
      obtain ⟨y, hy, rfl, _⟩ := one_some h
      cases hy
      exact ok_eqNil (neg := true) s r (by simpa using ho) hc
    · split at h
      · rename_i B hB
        obtain ⟨y, hy, rfl, _⟩ := one_some h
        cases hy
        exact ok_eqAgg (neg := true) s r (by simpa using ho) hB
      · exact stPure_ok s r h
  · split at h
    · exact stPure_ok s r h
    · split at h
      · rename_i u v hx hy
        obtain ⟨z, hv, rfl, hq⟩ := one_some h
        cases hv
        have h0 : (textB u).length + (textB v).length ≤ 1000000000000 := hl _ (by rw [hq]; exact List.mem_cons_self)
        refine ok_val s ?_ (.val _)
        have e1 : (u ++ v : ByteArray) = ⟨(textB u ++ textB v).toArray⟩ := by
          unfold textB
          apply ByteArray.ext
          rw [ByteArray.data_append]
          apply Array.ext'
          simp
        unfold textB at h0
        have e2 : ¬ (((u.size + v.size : Nat) : Int) > IntKind.i64.max) := by
          have a1 : u.size = u.data.toList.length := (Array.length_toList (xs := u.data)).symm
          have a2 : v.size = v.data.toList.length := (Array.length_toList (xs := v.data)).symm
          have a3 : IntKind.i64.max = 9223372036854775807 := by decide
          omega
        rw [← e1]
        simp only [execOp, ho, eval_val r hx, eval_val r hy, binOp, Op.stringOp, eqGuard]
        rw [if_neg e2]
        rfl
      · exact stPure_ok s r h
  · split at h
    · exact stPure_ok s r h
    · split at h
      · rename_i k u ck c hx hy
        obtain ⟨v, hv, rfl, hq⟩ := one_some h
        cases hv
        have h0 : 0 ≤ c := hl _ (by rw [hq]; exact List.mem_cons_self)
        refine ok_val s ?_ (.val _)
        simp [execOp, ho, eval_val r hx, eval_val r hy, eqGuard, binOp, Op.shift, show ¬ c < 0 from by omega]
      · exact stPure_ok s r h
  · split at h
    · exact stPure_ok s r h
    · split at h
      · rename_i k u ck c hx hy
        obtain ⟨v, hv, rfl, hq⟩ := one_some h
        cases hv
        have h0 : 0 ≤ c := hl _ (by rw [hq]; exact List.mem_cons_self)
        refine ok_val s ?_ (.val _)
        simp [execOp, ho, eval_val r hx, eval_val r hy, eqGuard, binOp, Op.shift, show ¬ c < 0 from by omega]
      · exact stPure_ok s r h
  · exact stPure_ok s r h

theorem stAppendR_ok {t : TypeId} {x y : Operand} (s : Sat E nx H w) (r : RepT E w tm a) (hr : E.f rid = none) (hrid : rid < nx) (ho : o.op = .call { callee := .builtin .append, args := #[x, y], argTypes := #[t, t] }) (h : stAppendR cl P tm H rid t x y = some (f, l)) (hl : ∀ q ∈ l, q) : OpOk P o E H a w rid nx ⟨f.1, f.2, nx⟩ := by
  unfold stAppendR at h
  split at h
  · rename_i e ht
    split at h
    · rename_i sz hs
      split at h
      · rename_i hy
        split at h
        · rename_i hx
          obtain ⟨y, hy', rfl, _⟩ := one_some h
          cases hy'
          exact ok_append0 s r ho ht hs (isSliceV_ok r hx) (isEmptyV_ok r hy)
        · cases h
      · split at h
        · rename_i z by_ sz2 m gv hz hby hy
          split at h
          · rename_i id n hx
            split at h
            · rename_i ob hid
              split at h
              · rename_i l1 hob
                split at h
                · rename_i hc
                  obtain ⟨hzl, hpos, hsz2, hsz, hot, hfz⟩ := hc
                  subst hsz2
                  simp only [Option.some.injEq, Prod.mk.injEq] at h
                  obtain ⟨rfl, rfl⟩ := h
                  have ok := ok_appendView s r hr (Nat.le_refl _) hrid ho ht hs hz hzl hpos hby hx hid hob hsz hot hfz (hl (l1.length = n) (by simp)) hy (hl (0 < m) (by simp)) (hl (onesOk sz2 ((List.range m).map gv) = true) (by simp)) (hl (n + m ≤ 1000000000) (by simp)) (hl ((n + m) * by_ ≤ 140737488355328) (by simp))
                  exact ok.eqv (fun _ => OEqv.refl _) (fun k => by
                    show OEqv (upd (upd H id none) rid (some (objAppR e sz2 (l1 ++ (List.range m).map gv))) k) (upd (upd H id none) rid (some (objAppF e sz2 (l1 ++ (List.range m).map gv))) k)
                    by_cases hk : k = rid
                    · subst hk
                      rw [upd_same, upd_same]
                      exact ⟨rfl, rfl, rfl, rfl, rfl, fun _ _ => rfl⟩
                    · rw [upd_other _ _ hk, upd_other _ _ hk]
                      exact OEqv.refl _)
                · cases h
              · cases h
            · cases h
          · cases h
        · rename_i z by_ id2 off2 m lim2 hz hby hy
          split at h
          · split at h
            · rename_i ob2 id n hid2 hx
              split at h
              · rename_i l2 ob hob2 hid
                split at h
                · rename_i l1 hob
                  split at h
                  · rename_i hc
                    obtain ⟨hzl, hpos, hsz2, hm, hle2, hones, hsz, hot, hfz⟩ := hc
                    simp only [Option.some.injEq, Prod.mk.injEq] at h
                    obtain ⟨rfl, rfl⟩ := h
                    exact ok_appendRows s r hr (Nat.le_refl _) hrid ho ht hs hz hzl hpos hby hx hid hob hsz hot hfz (hl (l1.length = n) (by simp)) hy hid2 hob2 hsz2 hm hle2 hones (hl (n + m ≤ 1000000000) (by simp)) (hl ((n + m) * by_ ≤ 140737488355328) (by simp))
                  · cases h
                · cases h
              · cases h
            · cases h
          split at h
          · rename_i ob2 hid2
            split at h
            · rename_i l2 hob2
              split at h
              · rename_i hc
                obtain ⟨hzl, hpos, hsz2, hm, hle2, hones⟩ := hc
                split at h
                · rename_i id n hx
                  split at h
                  · rename_i ob hid
                    split at h
                    · rename_i l1 hob
                      split at h
                      · rename_i hc2
                        obtain ⟨hsz, hot, hfz⟩ := hc2
                        split at h
                        · rename_i hfit
                          simp only [Option.some.injEq, Prod.mk.injEq] at h
                          obtain ⟨rfl, rfl⟩ := h
                          exact ok_appendIn s r ho ht hs hx hid hob hsz hot hfz hy hid2 hob2 hsz2 hm hle2 hfit hones
                        · split at h
                          · rename_i hc3
                            simp only [Option.some.injEq, Prod.mk.injEq] at h
                            obtain ⟨rfl, rfl⟩ := h
                            exact ok_appendRows s r hr (Nat.le_refl _) hrid ho ht hs hz hzl hpos hby hx hid hob hsz hot hfz hc3.1 hy hid2 hob2 hsz2 hm hle2 hones hc3.2.1 hc3.2.2
                          · cases h
                      · cases h
                    · cases h
                  · cases h
                · rename_i hx
                  split at h
                  · rename_i hc3
                    simp only [Option.some.injEq, Prod.mk.injEq] at h
                    obtain ⟨rfl, rfl⟩ := h
                    exact ok_appendRowsNil s r hr (Nat.le_refl _) hrid ho ht hs hz hzl hpos hby hx hy hid2 hob2 hsz2 hm hle2 hones hc3.1 hc3.2
                  · cases h
                · cases h
              · cases h
            · cases h
          · cases h
        · cases h
    · cases h
  · cases h

theorem stAppendS_ok {t u : TypeId} {x y : Operand} (s : Sat E nx H w) (r : RepT E w tm a) (hr : E.f rid = none) (hrid : rid < nx) (ho : o.op = .call { callee := .builtin .append, args := #[x, y], argTypes := #[t, u] }) (h : stAppendS cl P tm H rid t u x y = some (f, l)) (hl : ∀ q ∈ l, q) : OpOk P o E H a w rid nx ⟨f.1, f.2, nx⟩ := by
  unfold stAppendS at h
  split at h
  · rename_i e st ht hy
    split at h
    · rename_i hb
      simp only [Bool.and_eq_true] at hb
      split at h
      · rename_i id n hx
        split at h
        · rename_i ob hid
          split at h
          · rename_i ys hob
            split at h
            · rename_i hc
              simp only [Option.map_eq_some_iff, Prod.mk.injEq] at h
              obtain ⟨q, hq, rfl, rfl⟩ := h
              have hk : ys.length = n ∧ n + st.size ≤ 1000000000 := chk_ok hq hl
              obtain ⟨rfl, hk2⟩ := hk
              exact ok_appendStrSl s r hr (Nat.le_refl _) hrid ho ht hb.1 (isStrT_ok hb.2) hx hid hob hc.1 hc.2.1 hc.2.2 rfl hy hk2
            · cases h
          · cases h
        · cases h
      · rename_i hx
        simp only [Option.map_eq_some_iff, Prod.mk.injEq] at h
        obtain ⟨q, hq, rfl, rfl⟩ := h
        exact ok_appendStrNil s r hr (Nat.le_refl _) hrid ho ht hb.1 (isStrT_ok hb.2) hx hy (chk_ok hq hl)
      · cases h
    · cases h
  · cases h

theorem stClear_ok {t : TypeId} {x : Operand} (s : Sat E nx H w) (r : RepT E w tm a) (ho : o.op = .call { callee := .builtin .clear, args := #[x], argTypes := #[t] }) (h : stClear P tm H t x = some (f, l)) : OpOk P o E H a w rid nx ⟨f.1, f.2, nx⟩ := by
  unfold stClear at h
  split at h
  · rename_i e id off n lim ht hx
    split at h
    · simp only [Option.some.injEq, Prod.mk.injEq] at h
      obtain ⟨rfl, rfl⟩ := h
      exact ok_clear0 s r ho ht hx
    · split at h
      · rename_i sz z ob hs hz hid
        split at h
        · rename_i l1 hob
          split at h
          · rename_i hc
            simp only [Option.some.injEq, Prod.mk.injEq] at h
            obtain ⟨rfl, rfl⟩ := h
            exact ok_clear s r ho ht hs hz hc.1 hc.2.1 hx hid hob hc.2.2.1 hc.2.2.2
          · cases h
        · cases h
      · cases h
  · cases h

theorem stCopy_ok {t t' : TypeId} {x y : Operand} (s : Sat E nx H w) (r : RepT E w tm a) (ho : o.op = .call { callee := .builtin .copy, args := #[x, y], argTypes := #[t, t'] }) (h : stCopy cl P tm H t x y = some (f, l)) (hl : ∀ q ∈ l, q) : OpOk P o E H a w rid nx ⟨f.1, f.2, nx⟩ := by
  unfold stCopy at h
  split at h
  · rename_i e xs p q1 ht hy hd
    split at h
    · rename_i hb
      split at h
      · rename_i id off n lim hx
        split at h
        · rename_i ob hid
          split at h
          · rename_i ys hob
            split at h
            · rename_i hsz
              obtain ⟨q2, hq, h⟩ := Option.map_eq_some_iff.1 h
              simp only [Prod.mk.injEq] at h
              obtain ⟨rfl, rfl⟩ := h
              have h2 := chk_ok hq fun q hh => hl q (List.mem_append_right _ hh)
              exact ok_copyB s r ho ht hb hx hid hob hsz hy (bytesDP_ok hy (chk_ok hd fun q hh => hl q (List.mem_append_left _ hh))) h2.1 h2.2.1 h2.2.2
            · cases h
          · cases h
        · cases h
      · rename_i id i j n c hx
        split at h
        · rename_i ob hid
          split at h
          · rename_i l1 hob
            split at h
            · rename_i el hi
              split at h
              · rename_i hc
                obtain ⟨q2, hq, h⟩ := Option.map_eq_some_iff.1 h
                simp only [Prod.mk.injEq] at h
                obtain ⟨rfl, rfl⟩ := h
                have h2 := chk_ok hq fun q hh => hl q (List.mem_append_right _ hh)
                exact ok_copyR s r ho ht hb hx hid hob hi hc.1 hc.2 hy (bytesDP_ok hy (chk_ok hd fun q hh => hl q (List.mem_append_left _ hh))) h2.1 h2.2
              · cases h
            · cases h
          · cases h
        · cases h
      · cases h
    · cases h
  · cases h

theorem stAppendI_ok {b : Builtin} {args : Array Operand} {ts : Array TypeId} (s : Sat E nx H w) (r : RepT E w tm a) (hr : E.f rid = none) (hrid : rid < nx) (ho : o.op = .call { callee := .builtin b, args := args, argTypes := ts })
    (h : stAppendI P tm H rid b args.toList ts.toList = some (f, l)) (hl : ∀ q ∈ l, q) : OpOk P o E H a w rid nx ⟨f.1, f.2, nx⟩ := by
  unfold stAppendI at h
  split at h
  · rename_i x y t u ha ht'
    have e1 : args = #[x, y] := by rw [← Array.toArray_toList (xs := args), ha]
    have e2 : ts = #[t, u] := by rw [← Array.toArray_toList (xs := ts), ht']
    subst e1 e2
    split at h
    · rename_i htu
      subst htu
      split at h
      · rename_i e xs p ht hy
        split at h
        · rename_i hb
          split at h
          · rename_i id n hx
            split at h
            · rename_i ob hid
              split at h
              · rename_i ys hob
                split at h
                · rename_i hc
                  simp only [Option.some.injEq, Prod.mk.injEq] at h
                  obtain ⟨rfl, rfl⟩ := h
                  exact ok_appendPre s r hr (Nat.le_refl _) hrid ho ht hb hx hid hob hc.1 hc.2.1 hc.2.2 (hl (n ≤ ys.length) (by simp)) hy (hl p (by simp)) (hl (n + xs.length ≤ 1000000000) (by simp))
                · cases h
              · cases h
            · cases h
          · cases h
        · cases h
      · cases h
    · cases h
  · cases h

theorem isIntT_ok {P : Program} {u : TypeId} (h : isIntT P u = true) : ∃ k, P.underlying u = some (.int k) := by
  unfold isIntT at h
  split at h
  · rename_i k hk
    exact ⟨k, hk⟩
  · cases h
theorem stAppendZ_ok {t u : TypeId} {x y : Operand} (s : Sat E nx H w) (r : RepT E w tm a) (hr : E.f rid = none) (hrid : rid < nx) (ho : o.op = .call { callee := .builtin .append, args := #[x, y], argTypes := #[t, u] }) (h : stAppendZ cl P tm H rid t u x y = some (f, l)) (hl : ∀ q ∈ l, q) : OpOk P o E H a w rid nx ⟨f.1, f.2, nx⟩ := by
  unfold stAppendZ at h
  split at h
  · rename_i e kq k ht hy
    split at h
    · rename_i hb
      simp only [Bool.and_eq_true] at hb
      obtain ⟨kn, hkn⟩ := isIntT_ok hb.2
      split at h
      · rename_i id n hx
        split at h
        · rename_i ob hid
          split at h
          · rename_i ys hob
            split at h
            · rename_i hc
              simp only [Option.map_eq_some_iff, Prod.mk.injEq] at h
              obtain ⟨q, hq, rfl, rfl⟩ := h
              have hk : 0 < k ∧ ys.length = n ∧ n + k.toNat ≤ 1000000000 := chk_ok hq hl
              obtain ⟨hk0, rfl, hk2⟩ := hk
              exact ok_appendZSl (zn := k.toNat) (kq := kq) s r hr (Nat.le_refl _) hrid ho ht hb.1 hkn hx hid hob hc.1 hc.2.1 hc.2.2 rfl (by rw [hy, Int.toNat_of_nonneg (by omega)]) (by omega) hk2
            · cases h
          · cases h
        · cases h
      · cases h
    · cases h
  · cases h

theorem stBuiltin_ok {b : Builtin} {args : Array Operand} {ts : Array TypeId} (s : Sat E nx H w) (r : RepT E w tm a) (hr : E.f rid = none) (hrid : rid < nx) (ho : o.op = .call { callee := .builtin b, args := args, argTypes := ts })
    (h : stBuiltin cl P tm H rid o b args.toList ts.toList = some (f, l)) (hl : ∀ q ∈ l, q) : OpOk P o E H a w rid nx ⟨f.1, f.2, nx⟩ := by
  unfold stBuiltin at h
  split at h
  · split at h
    · rename_i x t h1 h2
      have e1 : args = #[x] := by rw [← Array.toArray_toList (xs := args), h1]
      have e2 : ts = #[t] := by rw [← Array.toArray_toList (xs := ts), h2]
      subst e1 e2
      exact stLen_ok s r ho h
    · cases h
  · split at h
    · rename_i x y t u h1 h2
      split at h
      · rename_i e
        subst e
        have e1 : args = #[x, y] := by rw [← Array.toArray_toList (xs := args), h1]
        have e2 : ts = #[t, t] := by rw [← Array.toArray_toList (xs := ts), h2]
        subst e1 e2
        split at h
        · rename_i r' h3
          injection h with h
          subst h
          exact stAppend_ok s r hr hrid ho h3 hl
        · exact stAppendR_ok s r hr hrid ho h hl
      · have e1 : args = #[x, y] := by rw [← Array.toArray_toList (xs := args), h1]
        have e2 : ts = #[t, u] := by rw [← Array.toArray_toList (xs := ts), h2]
        subst e1 e2
        split at h
        · rename_i r' h3
          injection h with h
          subst h
          exact stAppendS_ok s r hr hrid ho h3 hl
        · exact stAppendZ_ok s r hr hrid ho h hl
    · cases h
  · split at h
    · rename_i x t h1 h2
      have e1 : args = #[x] := by rw [← Array.toArray_toList (xs := args), h1]
      have e2 : ts = #[t] := by rw [← Array.toArray_toList (xs := ts), h2]
      subst e1 e2
      exact stClear_ok s r ho h
    · cases h
  · split at h
    · rename_i x y t u h1 h2
      have e1 : args = #[x, y] := by rw [← Array.toArray_toList (xs := args), h1]
      have e2 : ts = #[t, u] := by rw [← Array.toArray_toList (xs := ts), h2]
      subst e1 e2
      exact stCopy_ok s r ho h hl
    · cases h
  · exact stPure_ok s r h

theorem stInR_ok {b : Builtin} {args : Array Operand} {ts : Array TypeId} (s : Sat E nx H w) (r : RepT E w tm a) (ho : o.op = .call { callee := .builtin b, args := args, argTypes := ts })
    (h : stInR P tm H b args.toList ts.toList = some (f, l)) (hl : ∀ q ∈ l, q) : OpOk P o E H a w rid nx ⟨f.1, f.2, nx⟩ := by
  unfold stInR at h
  split at h
  · rename_i x y t u ha ht'
    have e1 : args = #[x, y] := by rw [← Array.toArray_toList (xs := args), ha]
    have e2 : ts = #[t, u] := by rw [← Array.toArray_toList (xs := ts), ht']
    subst e1 e2
    split at h
    · rename_i htu
      subst htu
      split at h
      · rename_i e ht
        split at h
        · rename_i sz id n id2 off2 m lim2 hs hx hy
          split at h
          · rename_i ob ob2 hid hid2
            split at h
            · rename_i l1 l2 hob hob2
              split at h
              · rename_i hc
                simp only [Option.some.injEq, Prod.mk.injEq] at h
                obtain ⟨rfl, rfl⟩ := h
                exact ok_appendIn s r ho ht hs hx hid hob hc.1 hc.2.1 hc.2.2.1 hy hid2 hob2 hc.2.2.2 (hl (0 < m) (by simp)) (hl (off2 + m ≤ l2.length) (by simp)) (hl (n + m ≤ l1.length) (by simp)) (hl (onesOk sz ((l2.drop off2).take m) = true) (by simp))
              · cases h
            · cases h
          · cases h
        · cases h
      · cases h
    · cases h
  · rename_i x t ha ht'
    have e1 : args = #[x] := by rw [← Array.toArray_toList (xs := args), ha]
    have e2 : ts = #[t] := by rw [← Array.toArray_toList (xs := ts), ht']
    subst e1 e2
    split at h
    · rename_i e id off n lim ht hx
      split at h
      · rename_i sz z ob hs hz hid
        split at h
        · rename_i l1 hob
          split at h
          · rename_i hc
            simp only [Option.some.injEq, Prod.mk.injEq] at h
            obtain ⟨rfl, rfl⟩ := h
            have h0 : 0 < n := hl (0 < n) (by simp)
            have h1 : off + n ≤ l1.length := hl (off + n ≤ l1.length) (by simp)
            obtain ⟨k, rfl⟩ : ∃ k, n = k + 1 := ⟨n - 1, by omega⟩
            exact ok_clear s r ho ht hs hz hc.1 hc.2.1 hx hid hob hc.2.2 h1
          · cases h
        · cases h
      · cases h
    · cases h
  · cases h

theorem stInZ_ok {b : Builtin} {args : Array Operand} {ts : Array TypeId} (s : Sat E nx H w) (r : RepT E w tm a) (ho : o.op = .call { callee := .builtin b, args := args, argTypes := ts })
    (h : stInZ P tm b args.toList ts.toList = some (f, l)) (hl : ∀ q ∈ l, q) : OpOk P o E H a w rid nx ⟨f.1, f.2, nx⟩ := by
  unfold stInZ at h
  split at h
  · rename_i x y t u ha ht'
    have e1 : args = #[x, y] := by rw [← Array.toArray_toList (xs := args), ha]
    have e2 : ts = #[t, u] := by rw [← Array.toArray_toList (xs := ts), ht']
    subst e1 e2
    split at h
    · rename_i htu
      subst htu
      split at h
      · rename_i e id off n lim id2 off2 m lim2 ht hx hy
        split at h
        · rename_i sz hs
          obtain ⟨v, hv, rfl, rfl⟩ := one_some h
          cases hv
          have hm : m = 0 := hl (m = 0) (by simp)
          have h1 := ok_append0 (rid := rid) s r ho ht hs (isSliceV_ok r (by simp [isSliceV, hx])) (isEmptyV_ok r (by simp [isEmptyV, hy, hm]))
          rw [hx] at h1
          exact h1
        · cases h
      · cases h
    · cases h
  · cases h

theorem opStep0_ok (s : Sat E nx H w) (r : RepT E w tm a) (hr : E.f rid = none) (hrid : rid < nx) (h : opStep0 cl P tm H rid hn o = some (f, l)) (hl : ∀ q ∈ l, q) : OpOk P o E H a w rid nx ⟨f.1, f.2, nx⟩ := by
  unfold opStep0 at h
  split at h
  · rename_i x ho
    obtain ⟨y, hy, rfl, _⟩ := one_some h
    cases hy
    exact ok_move s r (.inl ho)
  · rename_i x ho
    obtain ⟨y, hy, rfl, _⟩ := one_some h
    cases hy
    exact ok_move s r (.inr ho)
  · exact stExtract_ok s r (by assumption) h
  · exact stField_ok s r (by assumption) h
  · exact stIndex_ok s r (by assumption) h hl
  · exact stBuild_ok s r (by assumption) h
  · exact stAlloc_ok s hr hrid (by assumption) h
  · exact stBox_ok s r hr hrid (by assumption) h
  · exact stBuildSlice_ok s r hr hrid (by assumption) h hl
  · exact stLoad_ok s r (by assumption) h hl
  · exact stStore_ok s r (by assumption) h hl
  · exact stFieldAddr_ok s r (by assumption) h
  · exact stIndexAddr_ok s r (by assumption) h hl
  · exact stSlice_ok s r (by assumption) h hl
  · exact stMake_ok s r hr hrid (by assumption) h hl
  · exact stConvert_ok s r hr hrid (by assumption) h hl
  · exact stNil_ok s r (by assumption) h
  · exact stPick_ok s r (by assumption) h hl
  · exact stMakeFunc_ok s r (by assumption) h
  · exact stBin_ok s r (by assumption) h hl
  · rename_i ho
    obtain ⟨y, hy, rfl, _⟩ := one_some h
    cases hy
    exact ok_makeMap s ho
  · rename_i t x ix ho
    unfold stLookup at h
    split at h
    · rename_i k e0 v hx ht hix
      split at h
      · rename_i hk
        split at h
        · rename_i k2 e ht2
          split at h
          · rename_i z hz
            obtain ⟨y, hy, rfl, _⟩ := one_some h
            cases hy
            rw [ht] at ht2
            simp only [Option.some.injEq, Prod.mk.injEq] at ht2
            obtain ⟨rfl, rfl⟩ := ht2
            exact ok_lookup s r ho ht hx hix hk hz
          · cases h
        · cases h
      · cases h
    · cases h
  · rename_i c ho
    obtain ⟨callee, args, ts⟩ := c
    split at h
    · rename_i b hb
      simp only at hb
      subst hb
      split at h
      · split at h
        · rename_i r' h3
          injection h with h
          subst h
          exact stAppendI_ok s r hr hrid ho h3 hl
        · exact stInR_ok s r ho h hl
      · exact stInZ_ok s r ho h hl
      · exact stBuiltin_ok s r hr hrid ho h hl
    · cases h
  · exact stPure_ok s r h

theorem opStep1_ok (s : Sat E nx H w) (r : RepT E w tm a) (hr : E.f rid = none) (hrid : rid < nx) (h : opStep1 cl inl P tm H L nx rid hn o = some (ef, l)) (hl : ∀ q ∈ l, q) (hinl : InlOk P inl) (hL : H = hp L) : OpOk P o E H a w rid nx ef := by
  unfold opStep1 at h
  split at h
  · rename_i g args hc
    unfold isCall at hc
    split at hc
    · rename_i c ho
      obtain ⟨callee, args', ts⟩ := c
      split at hc
      · rename_i g' hb
        simp only at hb
        subst hb
        simp only [Option.some.injEq, Prod.mk.injEq] at hc
        obtain ⟨rfl, rfl⟩ := hc
        exact stCall_ok s r ho h hl hinl hL
      · cases hc
    · cases hc
  · split at h
    · rename_i f q h1
      simp only [Option.some.injEq, Prod.mk.injEq] at h
      obtain ⟨rfl, rfl⟩ := h
      exact (opStep0_ok (s.eqv (unflatH_eqv H)) r hr hrid h1 hl).eqv (unflatH_eqv H).symm (reflat_eqv _ _ (unflatH_eqv H).symm)
    · cases h

theorem rep_frz_nil {E : Env} {w : World} {x : AV} {u : Value} (h : Rep (E.frz []) w x u) : Rep E w x u := by
  have : E.frz [] = E := by
    unfold Env.frz
    cases E
    simp
  rwa [this] at h

theorem OpOk.as {v : AV} (hv : ∀ E' w' u, Sat E' ef.nx (fun _ => none) w' → Rep E' w' ef.v u → Rep E' w' v u) (h : OpOk P o E H a w rid nx ef) : OpOk P o E H a w rid nx ⟨v, ef.us, ef.nx⟩ := by
  have key : ∀ E' w' u, Post E H w rid nx ef E' w' u → Post E H w rid nx ⟨v, ef.us, ef.nx⟩ E' w' u := fun E' w' u p => ⟨p.sat, hv _ _ _ (p.sat.sub fun _ _ h => by cases h) p.rep, p.ext, p.le⟩
  cases h with
  | value E' w' u h p => exact .value E' w' u h (key _ _ _ p)
  | skip E' w' h p => exact .skip E' w' h (key _ _ _ p)
  | enter g args w1 h c =>
    refine .enter g args w1 h (Calls.mono c fun e w' hh => ?_)
    obtain ⟨E', u, e, p⟩ := hh
    exact ⟨E', u, e, key _ _ _ p⟩

theorem cutU_ok {id : Nat} {ys : List UInt8} : ∀ (us us' : List (Nat × Option AObj)) (q : List Prop), cutU id ys us = some (us', q) → (∀ p ∈ q, p) → us' = us
  | [], us', q, h, hq => by
    simp only [cutU, Option.some.injEq, Prod.mk.injEq] at h
    exact h.1.symm
  | (i, x) :: us, us', q, h, hq => by
    unfold cutU at h
    split at h
    · rename_i us2 q2 h2
      split at h
      · split at h
        · simp only [Option.some.injEq, Prod.mk.injEq] at h
          obtain ⟨rfl, rfl⟩ := h
          rw [cutU_ok us us2 q2 h2 (fun p hp => hq p (List.mem_cons_of_mem _ hp)), hq _ List.mem_cons_self]
        · cases h
      · simp only [Option.some.injEq, Prod.mk.injEq] at h
        obtain ⟨rfl, rfl⟩ := h
        rw [cutU_ok us us2 q2 h2 hq]
    · cases h

theorem applyU_dep : ∀ (us : List (Nat × Option AObj)) (H K : Heap) (k : Nat), ((∃ x, (k, x) ∈ us) ∨ H k = K k) → applyU H us k = applyU K us k
  | [], H, K, k, h => by
    rcases h with ⟨x, hx⟩ | h
    · cases hx
    · exact h
  | (i, x) :: us, H, K, k, h => by
    show applyU (upd H i x) us k = applyU (upd K i x) us k
    refine applyU_dep us _ _ k ?_
    by_cases e : k = i
    · right; subst e; rw [upd_same, upd_same]
    · rw [upd_other _ _ e, upd_other _ _ e]
      rcases h with ⟨y, hy⟩ | h
      · rcases List.mem_cons.1 hy with hy | hy
        · cases hy; exact absurd rfl e
        · exact .inl ⟨y, hy⟩
      · exact .inr h

theorem applyU_filter {H : Heap} : ∀ (us : List (Nat × Option AObj)) (K : Heap), (∀ p ∈ (keepU H us).2, p) → ∀ k, (H k = none → applyU K (keepU H us).1 k = applyU K us k) ∧ (H k ≠ none → K k = H k → applyU K (keepU H us).1 k = K k ∧ applyU K us k = K k)
  | [], K, hq, k => ⟨fun _ => rfl, fun _ _ => ⟨rfl, rfl⟩⟩
  | (j, y) :: us, K, hq, k => by
    unfold keepU at hq ⊢
    cases hj : H j with
    | some y' =>
      rw [hj] at hq
      simp only at hq ⊢
      have hy : y = some y' := hq _ List.mem_cons_self
      have hq' : ∀ p ∈ (keepU H us).2, p := fun p hp => hq p (List.mem_cons_of_mem _ hp)
      have e1 : applyU K ((j, y) :: us) = applyU (upd K j y) us := rfl
      rw [e1]
      refine ⟨fun hk => ?_, fun hk hK => ?_⟩
      · rw [← (applyU_filter us (upd K j y) hq' k).1 hk]
        refine applyU_dep _ _ _ _ (.inr ?_)
        rw [upd_other]
        intro e; subst e; rw [hj] at hk; cases hk
      · have hu : upd K j y k = K k := by
          by_cases e : k = j
          · subst e; rw [upd_same, hy, hK, hj]
          · rw [upd_other _ _ e]
        have h1 := (applyU_filter us K hq' k).2 hk hK
        have h2 := (applyU_filter us (upd K j y) hq' k).2 hk (by rw [hu, hK])
        exact ⟨h1.1, by rw [h2.2, hu]⟩
    | none =>
      rw [hj] at hq
      simp only at hq ⊢
      have e1 : applyU K ((j, y) :: us) = applyU (upd K j y) us := rfl
      have e2 : applyU K ((j, y) :: (keepU H us).1) = applyU (upd K j y) (keepU H us).1 := rfl
      rw [e1, e2]
      have h := applyU_filter us (upd K j y) hq k
      refine ⟨h.1, fun hk hK => ?_⟩
      have hne : k ≠ j := by intro e; subst e; exact hk hj
      have hu : upd K j y k = K k := upd_other _ _ hne
      rw [← hu]
      exact h.2 hk (by rw [hu, hK])

theorem applyU_keep {H : Heap} (us : List (Nat × Option AObj)) (hq : ∀ p ∈ (keepU H us).2, p) : applyU H (keepU H us).1 = applyU H us := by
  funext k
  have h := applyU_filter us H hq k
  by_cases e : H k = none
  · exact h.1 e
  · have := h.2 e rfl
    rw [this.1, this.2]

theorem OpOk.us {v : AV} {us us' : List (Nat × Option AObj)} {nx' : Nat} (e : applyU H us' = applyU H us) (h : OpOk P o E H a w rid nx ⟨v, us, nx'⟩) : OpOk P o E H a w rid nx ⟨v, us', nx'⟩ := by
  have key : ∀ E' w' u, Post E H w rid nx ⟨v, us, nx'⟩ E' w' u → Post E H w rid nx ⟨v, us', nx'⟩ E' w' u := fun E' w' u p => ⟨e ▸ p.sat, p.rep, e ▸ p.ext, p.le⟩
  cases h with
  | value E' w' u h p => exact .value E' w' u h (key _ _ _ p)
  | skip E' w' h p => exact .skip E' w' h (key _ _ _ p)
  | enter g args w1 h c =>
    refine .enter g args w1 h (Calls.mono c fun e w' hh => ?_)
    obtain ⟨E', u, e, p⟩ := hh
    exact ⟨E', u, e, key _ _ _ p⟩

theorem opStep_ok (s : Sat E nx H w) (r : RepT E w tm a) (hr : E.f rid = none) (hrid : rid < nx) (h : opStep cl inl P tm H L nx rid hn o = some (ef, l)) (hl : ∀ q ∈ l, q) (hinl : InlOk P inl) (hL : H = hp L) : OpOk P o E H a w rid nx ef := by
  unfold opStep at h
  split at h
  · rename_i f0 q h1
    split at h
    · rename_i c
      split at h
      · rename_i v q' h2
        simp only [Option.some.injEq, Prod.mk.injEq] at h
        obtain ⟨rfl, rfl⟩ := h
        have h3 := opStep1_ok s r hr hrid h1 (fun p hp => hl p (List.mem_append_left _ hp)) hinl hL
        exact OpOk.as (fun E' w' u hs hu => rep_frz_nil (co2_ok hs h2 (fun p hp => hl p (List.mem_append_right _ hp)) hu)) h3
      · cases h
    · split at h
      · rename_i us q' h2
        simp only [Option.some.injEq, Prod.mk.injEq] at h
        obtain ⟨rfl, rfl⟩ := h
        have h3 := opStep1_ok s r hr hrid h1 (fun p hp => hl p (List.mem_append_left _ hp)) hinl hL
        rw [cutU_ok _ _ _ h2 fun p hp => hl p (List.mem_append_right _ hp)]
        exact h3
      · cases h
    · simp only [Option.some.injEq, Prod.mk.injEq] at h
      obtain ⟨rfl, rfl⟩ := h
      have h3 := opStep1_ok s r hr hrid h1 (fun p hp => hl p (List.mem_append_left _ hp)) hinl hL
      exact OpOk.us (applyU_keep _ fun p hp => hl p (List.mem_append_right _ hp)) h3
    · simp only [Option.some.injEq, Prod.mk.injEq] at h
      obtain ⟨rfl, rfl⟩ := h
      exact opStep1_ok s r hr hrid h1 hl hinl hL
  · cases h
theorem pickO_sub : ∀ (R : List Nat) (k : Nat) (x : AObj), hp (pickO H R) k = some x → H k = some x
  | [], k, x, h => by simp [pickO, hp] at h
  | i :: R, k, x, h => by
    unfold pickO at h
    simp only [List.filterMap_cons] at h
    cases hi : H i with
    | none =>
      rw [hi] at h
      exact pickO_sub R k x h
    | some y =>
      rw [hi] at h
      simp only [Option.map_some, hp] at h
      split at h
      · rename_i e; subst e; rw [hi]; exact h
      · exact pickO_sub R k x h

/-- an operation on fewer objects is one on more -/
theorem OpOk.frame {K : Heap} (s : Sat E nx H w) (hsub : ∀ id x, K id = some x → H id = some x) (h : OpOk P o E K a w rid nx ef) : OpOk P o E H a w rid nx ef := by
  have key : ∀ E' w' u, Post E K w rid nx ef E' w' u → Post E H w rid nx ef E' w' u := fun E' w' u p => by
    have := Sat.frame (K := applyU H ef.us) s hsub p.ext p.sat fun id x hx => by
      rcases applyU_cases ef.us H id with ⟨y, h1, h2⟩ | ⟨h1, h2⟩
      · left
        rw [← hx]
        exact applyU_dep _ _ _ _ (.inl ⟨y, h1⟩)
      · rw [hx] at h2
        cases hk : K id with
        | none => exact .inr ⟨h2.symm, rfl⟩
        | some y =>
          left
          rw [← hx]
          refine applyU_dep _ _ _ _ (.inr ?_)
          rw [hk, hsub _ _ hk]
    exact ⟨this.1, p.rep, this.2, p.le⟩
  cases h with
  | value E' w' u h p => exact .value E' w' u h (key _ _ _ p)
  | skip E' w' h p => exact .skip E' w' h (key _ _ _ p)
  | enter g args w1 h c =>
    refine .enter g args w1 h (Calls.mono c fun e w' hh => ?_)
    obtain ⟨E', u, e, p⟩ := hh
    exact ⟨E', u, e, key _ _ _ p⟩

theorem opStepF_ok (s : Sat E nx H w) (r : RepT E w tm a) (hr : E.f rid = none) (hrid : rid < nx) (h : opStepF cl inl P tm H nx rid hn o = some (ef, l)) (hl : ∀ q ∈ l, q) (hinl : InlOk P inl) : OpOk P o E H a w rid nx ef := by
  unfold opStepF at h
  refine OpOk.frame s (pickO_sub _) (opStep_ok (s.sub (pickO_sub _)) ⟨fun t => ?_⟩ hr hrid h hl hinl rfl)
  unfold tmOf
  split
  · exact r.rep t
  · exact .any _
end
end Go.Proofs.YtfofhpkafhpicaaGreatDoor
