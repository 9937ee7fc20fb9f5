/- Several texts in one: Cv, Cr0, CrRun, Cw, Cr, Cs0. -/
import Derived.Test.YtmilcpejchjleaaMda
import Derived.Test.YtmilcpejchjleaaMna
import Derived.Test.YtmilcpejchjleaaMez

/- Results that are told by what they hold, in steps: what they lead to first. (Some of it cut out of XFv, XDq, XDi, so that less is imported.) -/
namespace Go.Proofs.Ytmilcpejchjleaa
open Go.RowKit
set_option linter.unusedSimpArgs false
set_option linter.unusedVariables false

/-- what a call does out of nothing, if neither its arguments nor its result lead to objects, it does anywhere -/
theorem ACall.liftV {P : Program} {g : FuncId} {xs : List AV} {v : AV} {n' : Nat} (h : ACall P g xs [] 0 v [] n') (hx : ∀ r, renL r xs = xs) (hv : ∀ r : Nat → Nat, v.ren r = v) (L : List (Nat × AObj)) (nx : Nat) : ACall P g xs L nx v L nx := by
  intro E w vs hs hr
  have s0 : Sat ⟨fun _ => none, E.I⟩ 0 (hp []) w := ⟨fun _ _ h => by simp [hp] at h, fun _ _ _ _ _ _ _ _ _ h => by simp [hp] at h, fun _ _ => rfl, hs.imm⟩
  have r0 : Reps ⟨fun _ => none, E.I⟩ w xs vs := by
    refine ⟨hr.1, fun k a u h1 h2 => ?_⟩
    have e : (renL (fun id => id + nx) xs)[k]? = some (a.ren fun id => id + nx) := by rw [renL_get, h1]; rfl
    rw [hx] at e
    exact Rep.of_ren (E := E) (E0 := ⟨fun _ => none, E.I⟩) (r := fun id => id + nx) (fun _ h => h) (fun id => (hs.fresh (id + nx) (by omega)).symm) (hr.2 k _ u e h2) a rfl
  refine Calls.mono (h _ w vs s0 r0) fun e w' hh => ?_
  obtain ⟨E', u, rfl, t1, t2, t3⟩ := hh
  have hold : ∀ b, b < w.heap.size → w'.heap[b]? = w.heap[b]? := fun b hb => t3.fr b hb fun ⟨id, o, c, z, h1, _⟩ => by simp [hp] at h1
  have hI' : ∀ b, E'.I b → E.I b ∨ w.heap.size ≤ b := fun b hb => by
    rcases t3.I' b hb with h | h | ⟨id, o, c, z, h1, _⟩
    · exact .inl h
    · exact .inr h
    · simp [hp] at h1
  have rv : Rep ⟨fun _ => none, E'.I⟩ w' v u := Rep.of_ren (E := E') (E0 := ⟨fun _ => none, E'.I⟩) (r := fun i => i + n') (fun b hb => hb) (fun i => (t1.fresh (i + n') (by omega)).symm) t2 v (hv _).symm
  have m2 : More ⟨fun _ => none, E'.I⟩ w' ⟨E.f, E'.I⟩ w' := ⟨fun _ _ h => (by cases h), fun _ h => h, fun _ _ => rfl⟩
  have rv2 := rv.more m2
  have m : More E w ⟨E.f, E'.I⟩ w' := ⟨fun _ _ h => h, t3.I, fun b hb => hold b (hs.imm b hb)⟩
  refine ⟨⟨E.f, E'.I⟩, u, rfl, ⟨fun k o hk => ?_, hs.inj, hs.fresh, t1.imm⟩, rv2, ⟨fun _ _ h => h, fun _ _ h => .inl h, t3.I, fun b hb => (hI' b hb).imp_right .inl, fun b hb _ => hold b hb, fun b hb => .inl hb, t3.size, t3.os, t3.tape, t3.output⟩⟩
  obtain ⟨p, hp', ro⟩ := hs.rows _ _ hk
  refine ⟨p, hp', ?_⟩
  cases p with
  | nil => exact ro
  | at_ b c sz => exact ro.more m (fun hI => (hI' b hI).elim ro.2.1 fun h => by have := hs.lt hk hp'; omega) (hold b (hs.lt hk hp'))

/-- the result told otherwise, for objects that are not written any more -/
theorem ACall.told {P : Program} {g : FuncId} {xs : List AV} {L L1 L2 : List (Nat × AObj)} {nx n1 : Nat} {v v' : AV} (B : List Nat) (h : ACall P g xs L nx v L1 n1) (hB : ∀ id ∈ B, ∃ x, hp L1 id = some x) (hsub : ∀ id x, hp L2 id = some x → id ∉ B ∧ hp L1 id = some x)
    (hv : ∀ E w u, Sat E n1 (hp L1) w → Rep E w v u → Rep (E.frz B) w v' u) : ACall P g xs L nx v' L2 n1 := by
  intro E w vs hs' hreps
  refine Calls.mono (h E w vs hs' hreps) fun e w' hh => ?_
  obtain ⟨E', u, rfl, t1, t2, t3⟩ := hh
  obtain ⟨f1, f2⟩ := sat_frz (N := fun id => nx ≤ id) t1 hB
  have f3 := f1.sub (K := hp L2) fun id x hx => dropH_some.2 (hsub id x hx)
  refine ⟨E'.frz B, u, rfl, f3, hv E' w' u t1 t2, ?_⟩
  have x2 := t3.trans f2 (fun _ h => h) (fun _ h => h) (M := fun id => nx ≤ id)
  refine ⟨x2.f, x2.nw, x2.I, x2.I', x2.fr, fun b hb => x2.hb b ?_, x2.size, x2.os, x2.tape, x2.output⟩
  obtain ⟨id, x, c', sz, h1, h2⟩ := hb
  exact ⟨id, x, c', sz, dropH_some.2 (hsub id x h1), h2⟩

/-- rows of one's own, told by what they hold -/
theorem RTyW.frzRows {α : Type} (R : RTyW α) {E : Env} {nx : Nat} {H : Heap} {w : World} {B : List Nat} {id n : Nat} {ob : AObj} {ls : List α} {u : Value} (s : Sat E nx H w) (hid : H id = some ob) (hB : id ∈ B) (hb : ob.body = .rows (rowsG R.R ls) ∨ ob.body = .flat (rowsG R.R ls)) (hz : ob.sz = R.R.sz) (hn : n = ls.length)
    (r : Rep E w (.sl id 0 n none) u) : Rep (E.frz B) w (R.vv ls) u := by
  obtain ⟨p, hp0, ro⟩ := s.rows _ _ hid
  subst hn
  have := Bor.rep hp0 ro (more_frz E w B) (fun x hx => by
    cases p with
    | nil => exact hx.elim
    | at_ b c sz => exact .inr ⟨id, hB, c, sz, by rw [show x = b from hx]; exact hp0⟩)
    (Bor.view (id := id) (o := ob) (off := 0) (n := ls.length) (lim := none) (g := fun i => R.R.row (ls.getD i R.R.d)) hb (by simp [rowsG]) (fun i hi => by
      simp [rowsG, List.getD_eq_getElem?_getD, hi]) (fun i _ => by rw [hz]; exact R.R.len _)) r
  rw [hz] at this
  rw [R.hv]
  exact this
theorem AObj.Told.same {E : Env} {w : World} (B : List Nat) (x : AObj) : x.Told E w B x :=
  ⟨rfl, rfl, rfl, rfl, rfl, fun _ _ a h => ⟨a, h, fun _ r => r.more (more_frz E w B)⟩⟩
theorem AObj.Told.one {E : Env} {w : World} {B : List Nat} {t : TypeId} {l l' : List AV} (hn : l'.length = l.length) (h : ∀ (k : Nat) a a', l[k]? = some a → l'[k]? = some a' → ∀ v, Rep E w a v → Rep (E.frz B) w a' v) : (objOne t l).Told E w B (objOne t l') := by
  refine ⟨rfl, hn, rfl, rfl, rfl, fun i j a hc => ?_⟩
  have hc : ([l][i]?).bind (·[j]?) = some a := hc
  match i, hc with
  | 0, hc =>
    have hc : l[j]? = some a := hc
    have hj := (List.getElem?_eq_some_iff.1 hc).1
    rw [← hn] at hj
    exact ⟨l'[j], List.getElem?_eq_getElem hj, h j a _ hc (List.getElem?_eq_getElem hj)⟩
  | i + 1, hc => simp at hc

theorem Rep.aggF {E E' : Env} {w : World} {l l' : List AV} {u : Value} (h : Rep E w (.agg l) u) (hl : l'.length = l.length) (hh : ∀ (k : Nat) a a' v, l[k]? = some a → l'[k]? = some a' → Rep E w a v → Rep E' w a' v) : Rep E' w (.agg l') u := by
  cases h with
  | agg hn h1 =>
    refine .agg (by rw [hl]; exact hn) fun k a' v h2 h3 => ?_
    have hk := (List.getElem?_eq_some_iff.1 h2).1
    rw [hl] at hk
    exact hh k _ a' v (List.getElem?_eq_getElem hk) h2 (h1 k _ v (List.getElem?_eq_getElem hk) h3)
theorem Rep.valF {E E' : Env} {w : World} {x v : Value} (h : Rep E w (.val x) v) : Rep E' w (.val x) v := by
  rw [h.val_inv]; exact .val _

/-- objects told anew, by what objects that are not written any more hold -/
theorem ACall.toldO {P : Program} {g : FuncId} {xs : List AV} {L L1 L2 : List (Nat × AObj)} {nx n1 : Nat} {v v' : AV} (B : List Nat) (h : ACall P g xs L nx v L1 n1) (hB : ∀ id ∈ B, ∃ x, hp L1 id = some x)
    (hc : ∀ id y, hp L2 id = some y → id ∉ B ∧ ∃ x, hp L1 id = some x ∧ ∀ E w, Sat E n1 (hp L1) w → x.Told E w B y)
    (hv : ∀ E w u, Sat E n1 (hp L1) w → Rep E w v u → Rep (E.frz B) w v' u) : ACall P g xs L nx v' L2 n1 := by
  intro E w vs hs' hreps
  refine Calls.mono (h E w vs hs' hreps) fun e w' hh => ?_
  obtain ⟨E', u, rfl, t1, t2, t3⟩ := hh
  obtain ⟨z1, f2⟩ := sat_frz (N := fun id => nx ≤ id) t1 hB
  have key : ∀ id y, hp L2 id = some y → ∃ x, dropH (hp L1) B id = some x ∧ hp L1 id = some x ∧ x.Told E' w' B y := fun id y hid => by
    obtain ⟨h1, x, h2, h3⟩ := hc id y hid
    refine ⟨x, ?_, h2, h3 E' w' t1⟩
    unfold dropH
    rw [if_neg (by simpa using h1)]
    exact h2
  have x2 := t3.trans f2 (fun _ h => h) (fun _ h => h) (M := fun id => nx ≤ id)
  refine ⟨E'.frz B, u, rfl, ?_, hv E' w' u t1 t2, ?_⟩
  · refine ⟨fun id y hid => ?_, fun id id' o o' b c s c' s' g1 g2 g3 g4 => ?_, fun id hid => z1.fresh id hid, z1.imm⟩
    · obtain ⟨x, k1, k2, k3⟩ := key id y hid
      obtain ⟨p, p1, p2⟩ := z1.rows id x k1
      obtain ⟨q, q1, q2⟩ := t1.rows id x k2
      have hpq : q = p := by
        have h1 : E'.f id = some p := p1
        rw [h1] at q1
        injection q1 with q1
        exact q1.symm
      subst hpq
      exact ⟨q, p1, q2.told k3 fun b c s e => by
        subst e
        exact p2.2.1⟩
    · obtain ⟨x, k1, _, _⟩ := key id o g1
      obtain ⟨x', k1', _, _⟩ := key id' o' g2
      exact z1.inj id id' x x' b c s c' s' k1 k1' g3 g4
  · refine ⟨x2.f, x2.nw, x2.I, x2.I', x2.fr, fun b hb => x2.hb b ?_, x2.size, x2.os, x2.tape, x2.output⟩
    obtain ⟨id, o, c', sz, h1, h2⟩ := hb
    obtain ⟨x, k1, _, _⟩ := key id o h1
    exact ⟨id, x, c', sz, k1, h2⟩

/-- a row of one's own of one element, told anew -/
theorem AObj.Told.row1 {E : Env} {w : World} {B : List Nat} {t : TypeId} {sz : Nat} {ex fz : Bool} {l l' : List AV} (hn : l'.length = l.length) (h : ∀ (k : Nat) a a', l[k]? = some a → l'[k]? = some a' → ∀ v, Rep E w a v → Rep (E.frz B) w a' v) : (AObj.mk t sz ex fz (.rows [l])).Told E w B ⟨t, sz, ex, fz, .rows [l']⟩ := by
  refine ⟨rfl, rfl, rfl, rfl, rfl, fun i j a hc => ?_⟩
  have hc : ([l][i]?).bind (·[j]?) = some a := hc
  match i, hc with
  | 0, hc =>
    have hc : l[j]? = some a := hc
    have hj := (List.getElem?_eq_some_iff.1 hc).1
    rw [← hn] at hj
    exact ⟨l'[j], List.getElem?_eq_getElem hj, h j a _ hc (List.getElem?_eq_getElem hj)⟩
  | i + 1, hc => simp at hc
end Go.Proofs.Ytmilcpejchjleaa

/- The law CacheRoom: words for what is kept; the loops that look for it. -/
namespace Go.Proofs.Ytmilcpejchjleaa
open Go.RowKit

/-- the name of a number; its question; a record of a time -/
def nmB (n : Nat) : List UInt8 := [UInt8.ofNat (97 + n % 16), UInt8.ofNat (97 + n / 16 % 8)]
def kq (n : Nat) : DQ := ⟨[nmB n], 1, 1⟩
def kr (n : Nat) (t : Int) : DR := ⟨[nmB n], 1, 1, t, [1, 2, 3, UInt8.ofNat n]⟩
def qA (n : Nat) : AV := .agg [vS [nmB n], iI 1, iI 1]
def mA (n : Nat) (t : Int) : AV := .agg [iI 9, iI 33152, vQ [kq n], vR [kr n t], nilS, nilS]
/-- what is kept of a number and a time -/
def krow (x : Nat × Int) : List AV := [vS [nmB x.1], iI 1, iI 1, iI 9, iI 33152, nilS, vR [kr x.1 x.2], nilS, nilS, iI 0, iI x.2]
def krows (l : List (Nat × Int)) : List (List AV) := l.map krow
theorem krows_len (l : List (Nat × Int)) : (krows l).length = l.length := List.length_map _
theorem krows_get {l : List (Nat × Int)} {i : Nat} {x : Nat × Int} (h : l[i]? = some x) : (krows l)[i]? = some (krow x) := by
  unfold krows; rw [List.getElem?_map, h]; rfl
theorem krows_app (l k : List (Nat × Int)) : krows (l ++ k) = krows l ++ krows k := List.map_append
def kObj (l : List (Nat × Int)) : AObj := ⟨114, 11, false, false, .flat (krows l)⟩
def cacheO (room : Int) (n id : Nat) : AObj := objOne 109 [iI room, .sl id 0 n none]
def qObj (o : Nat) : AObj := objOne 31 [vS [nmB o], iI 1, iI 1]
/-- the number that a name tells -/
def unN (x : AV) : Nat := match lsOf x with | [[a, b]] => (a.toNat - 97) % 16 + 16 * ((b.toNat - 97) % 8) | _ => 0
theorem unN_nm {n : Nat} (h : n < 128) : unN (vS [nmB n]) = n := by
  unfold unN
  rw [lsOf_vS]
  revert n
  decide +kernel
def kal (l : List (List AV)) : List (Nat × Int) := l.map fun r => match r with | [x, _, _, _, _, _, _, _, _, _, .val (.int _ t)] => (unN x, t) | _ => (0, 0)
theorem kal_krows {l : List (Nat × Int)} (h : ∀ x ∈ l, x.1 < 128) : kal (krows l) = l := by
  unfold kal krows
  rw [List.map_map]
  conv => rhs; rw [← List.map_id l]
  refine List.map_congr_left fun x hx => ?_
  show (unN (vS [nmB x.1]), x.2) = x
  rw [unN_nm (h x hx)]

def fxF : AV := .fn (.func 115) [.ptr 1 0 0]
def fxG (l : List (Nat × Int)) (o i : Nat) : GoalX := { len := 19, opn := [(1, fxF), (0, .sl 0 0 l.length none), (7, sI l.length), (8, sI i)], oob := [(0, kObj l), (1, qObj o)], k := 0 }
def fxR (l : List (Nat × Int)) (o i : Nat) : GoalX := { len := 19, opn := [(4, sI i)], oob := [(0, kObj l), (1, qObj o)], k := 0 }
def fxE (l : List (Nat × Int)) (o : Nat) : GoalX := { len := 19, oob := [(0, kObj l), (1, qObj o)], k := 0 }
def fxLR (l : List (Nat × Int)) (o i : Nat) : LoopX := { ids := [], G := fxG l o 0, ex := .ret, E := fxR l o i }
def fxLE (l : List (Nat × Int)) (o : Nat) : LoopX := { ids := [], G := fxG l o 0, ex := .exit 0, E := fxE l o }
/-- which goes first: the loop of makeRoom -/
def mkG (room : Int) (l : List (Nat × Int)) (i f : Nat) : GoalX := { len := 49, tms := [(0, .ptr 0 0 0)], opn := [(18, .sl 1 0 l.length none), (19, sI l.length), (20, sI i), (2, sI f)], oob := [(0, cacheO room l.length 1), (1, kObj l)], k := 0 }
def mkE (room : Int) (l : List (Nat × Int)) (f : Nat) : GoalX := { len := 49, tms := [(0, .ptr 0 0 0)], opn := [(2, sI f)], oob := [(0, cacheO room l.length 1), (1, kObj l)], k := 0 }
def mkL (room : Int) (l : List (Nat × Int)) (f : Nat) : LoopX := { ids := [], G := mkG room l 0 0, ex := .exit 0, E := mkE room l f }
end Go.Proofs.Ytmilcpejchjleaa

/- The law CacheRoom (runs of what it calls). No condition. -/
namespace Go.Proofs.Ytmilcpejchjleaa
open Go.RowKit

set_option maxRecDepth 100000 in
theorem cr_ask (n : Nat) : outXS kN2 [(27, { ob := [(1, 9)] })] Try.prog 27 [AV.val (Value.int IntKind.i64 (↑n : Int))] [] 0 [12] [] =
   some (AV.agg [AV.sl 12 0 1 none, AV.val (Value.int IntKind.i64 (1 : Int)), AV.val (Value.int IntKind.i64 (1 : Int))], [(12, { t := 9, sz := 1, exact := true, fz := false, body := Body.rows [[AV.val (Value.string { data := #[UInt8.ofNat (Int.toNat (IntKind.wrap IntKind.u8 (IntKind.wrap IntKind.i64 ((97 : Int) + bits BinOp.and IntKind.i64 (↑n : Int) (15 : Int))))), UInt8.ofNat (Int.toNat (IntKind.wrap IntKind.u8 (IntKind.wrap IntKind.i64 ((97 : Int) + bits BinOp.and IntKind.i64 (Int.fdiv (↑n : Int) (16 : Int)) (7 : Int)))))] })]] })], 15,
   (∀ (x : AV), x ∈ [AV.val (Value.int IntKind.u8 (IntKind.wrap IntKind.u8 (IntKind.wrap IntKind.i64 ((97 : Int) + bits BinOp.and IntKind.i64 (↑n : Int) (15 : Int))))), AV.val (Value.int IntKind.u8 (IntKind.wrap IntKind.u8 (IntKind.wrap IntKind.i64 ((97 : Int) + bits BinOp.and IntKind.i64 (Int.fdiv (↑n : Int) (16 : Int)) (7 : Int)))))] → isByteAV x) :: []) := by kernel_rfl

set_option maxRecDepth 100000 in
theorem cr_cq (s : List UInt8) (ty : Int) (cl : Int) : outXS kN2 [] Try.prog 68 [AV.agg [AV.view 1 1 fun i => [AV.val (Value.string { data := List.toArray (List.getD [s] i []) })], AV.val (Value.int IntKind.i64 ty), AV.val (Value.int IntKind.i64 cl)]] [] 0 [5] [] =
   some (AV.agg [AV.sl 5 0 1 none, AV.val (Value.int IntKind.i64 ty), AV.val (Value.int IntKind.i64 cl)], [(5, { t := 9, sz := 1, exact := false, fz := false, body := Body.flat [[AV.val (Value.string { data := List.toArray s })]] })], 10,
   (0 = 0) ::
   (0 < 1) ::
   ((1 == 1 && (true && true) && true) = true) ::
   (1 ≤ 1000000000) ::
   (16 ≤ 140737488355328) :: []) := by kernel_rfl

set_option maxRecDepth 100000 in
theorem cr_rec (s : List UInt8) (d : List UInt8) (ty : Int) (cl : Int) (t : Int) : outXS kN2 [(80, { ob := [(6, 3)] })] Try.prog 80 [AV.view 5 1 fun i => [AV.view 1 (List.length (List.getD [{ name := [s], ty := ty, cl := cl, ttl := t, data := d }] i dr0).1) fun i_1 => [AV.val (Value.string { data := List.toArray (List.getD (List.getD [{ name := [s], ty := ty, cl := cl, ttl := t, data := d }] i dr0).1 i_1 []) })], AV.val (Value.int IntKind.i64 (List.getD [{ name := [s], ty := ty, cl := cl, ttl := t, data := d }] i dr0).2), AV.val (Value.int IntKind.i64 (List.getD [{ name := [s], ty := ty, cl := cl, ttl := t, data := d }] i dr0).3), AV.val (Value.int IntKind.u32 (List.getD [{ name := [s], ty := ty, cl := cl, ttl := t, data := d }] i dr0).4), AV.bytes (List.getD [{ name := [s], ty := ty, cl := cl, ttl := t, data := d }] i dr0).5], AV.val (Value.int IntKind.i64 (0 : Int))] [] 0 [13, 19, 34] [] =
   some (AV.sl 34 0 1 none, [(13, { t := 9, sz := 1, exact := false, fz := false, body := Body.flat [[AV.val (Value.string { data := List.toArray s })]] }), (19, { t := 5, sz := 1, exact := false, fz := false, body := Body.bytes d }), (34, { t := 42, sz := 5, exact := false, fz := false, body := Body.rows [[AV.sl 13 0 1 none, AV.val (Value.int IntKind.i64 ty), AV.val (Value.int IntKind.i64 cl), AV.val (Value.int IntKind.u32 (IntKind.wrap IntKind.u32 (if (0 : Int) > IntKind.wrap IntKind.i64 (IntKind.wrap IntKind.i64 t - (0 : Int)) then (0 : Int) else IntKind.wrap IntKind.i64 (IntKind.wrap IntKind.i64 t - (0 : Int))))), AV.sl 19 0 (0 + List.length d) none]] })], 41,
   (0 = 0) ::
   (0 < 1) ::
   ((1 == 1 && (true && true) && true) = true) ::
   (1 ≤ 1000000000) ::
   (16 ≤ 140737488355328) ::
   (True) ::
   (0 = 0 ∧ 0 + List.length d ≤ 1000000000) :: []) := by kernel_rfl

set_option maxRecDepth 100000 in
theorem fx_no (l : List (Nat × Int)) (o : Nat) (i : Nat) (x : Nat) (s : Int) : stepXS kN2 [(86, { br := [(30, true)] }),
   (114, { op := [(4, 4, Hn.row (krow (x, s)))], br := [(9, true)], ob := [(4, 3)] })] Try.prog 114 2 (fxG l o i) (fxG l o (i + 1)) [] 2 [] =
   some (.normal,
   (decide ((↑i : Int) < (↑(List.length l) : Int)) = true) ::
   ((0 : Int) ≤ (↑i : Int) ∧ (↑i : Int) < (↑(List.length l) : Int)) ::
   ((krows l)[0 + i]? = some [AV.view 1 1 fun i => [AV.val (Value.string { data := List.toArray (List.getD [nmB x] i []) })], AV.val (Value.int IntKind.i64 (1 : Int)), AV.val (Value.int IntKind.i64 (1 : Int)), AV.val (Value.int IntKind.i64 (9 : Int)), AV.val (Value.int IntKind.i64 (33152 : Int)), AV.val (Value.slice none 0 0), AV.view 5 1 fun i => [AV.view 1 (List.length (List.getD [kr (Prod.fst (x, s)) (Prod.snd (x, s))] i dr0).1) fun i_1 => [AV.val (Value.string { data := List.toArray (List.getD (List.getD [kr (Prod.fst (x, s)) (Prod.snd (x, s))] i dr0).1 i_1 []) })], AV.val (Value.int IntKind.i64 (List.getD [kr (Prod.fst (x, s)) (Prod.snd (x, s))] i dr0).2), AV.val (Value.int IntKind.i64 (List.getD [kr (Prod.fst (x, s)) (Prod.snd (x, s))] i dr0).3), AV.val (Value.int IntKind.u32 (List.getD [kr (Prod.fst (x, s)) (Prod.snd (x, s))] i dr0).4), AV.bytes (List.getD [kr (Prod.fst (x, s)) (Prod.snd (x, s))] i dr0).5], AV.val (Value.slice none 0 0), AV.val (Value.slice none 0 0), AV.val (Value.int IntKind.i64 (0 : Int)), AV.val (Value.int IntKind.i64 s)]) ::
   (List.length (nmB x) ≤ 1000000000) ::
   ((!alikeB (nmB x) (nmB o)) = true) ::
   (AV.fn (Fn.func 115) [AV.ptr 1 0 0] = AV.fn (Fn.func 115) [AV.ptr 1 0 0]) ::
   (AV.sl 0 0 (List.length l) none = AV.sl 0 0 (List.length l) none) ::
   (AV.val (Value.int IntKind.i64 (↑(List.length l) : Int)) = AV.val (Value.int IntKind.i64 (↑(List.length l) : Int))) ::
   (AV.val (Value.int IntKind.i64 (IntKind.wrap IntKind.i64 ((↑i : Int) + (1 : Int)))) = AV.val (Value.int IntKind.i64 (↑(i + 1) : Int))) ::
   (SameO (some { t := 114, sz := 11, exact := false, fz := false, body := Body.flat (krows l) }) { t := 114, sz := 11, exact := false, fz := false, body := Body.flat (List.map (fun x => (AV.brecOn_1.go x (AV.ren._f (renX 2 [] 74)) (renL._f (renX 2 [] 74))).1) (krows l)) }) ::
   (SameO (some { t := 31, sz := 3, exact := true, fz := false, body := Body.rows [[AV.view 1 1 fun i => [AV.val (Value.string { data := List.toArray (List.getD [nmB o] i []) })], AV.val (Value.int IntKind.i64 (1 : Int)), AV.val (Value.int IntKind.i64 (1 : Int))]] }) { t := 31, sz := 3, exact := true, fz := false, body := Body.rows [[AV.view 1 1 fun i => [AV.val (Value.string { data := List.toArray (List.getD [nmB o] i []) })], AV.val (Value.int IntKind.i64 (1 : Int)), AV.val (Value.int IntKind.i64 (1 : Int))]] }) :: []) := by kernel_rfl

set_option maxRecDepth 100000 in
theorem fx_hit (l : List (Nat × Int)) (o : Nat) (i : Nat) (x : Nat) (s : Int) : stepXS kN2 [(86, { br := [(30, false)] }),
   (114, { op := [(4, 4, Hn.row (krow (x, s)))], br := [(9, true)], ob := [(4, 3)] })] Try.prog 114 2 (fxG l o i) (fxR l o i) [] 2 [] =
   some (.ret,
   (decide ((↑i : Int) < (↑(List.length l) : Int)) = true) ::
   ((0 : Int) ≤ (↑i : Int) ∧ (↑i : Int) < (↑(List.length l) : Int)) ::
   ((krows l)[0 + i]? = some [AV.view 1 1 fun i => [AV.val (Value.string { data := List.toArray (List.getD [nmB x] i []) })], AV.val (Value.int IntKind.i64 (1 : Int)), AV.val (Value.int IntKind.i64 (1 : Int)), AV.val (Value.int IntKind.i64 (9 : Int)), AV.val (Value.int IntKind.i64 (33152 : Int)), AV.val (Value.slice none 0 0), AV.view 5 1 fun i => [AV.view 1 (List.length (List.getD [kr (Prod.fst (x, s)) (Prod.snd (x, s))] i dr0).1) fun i_1 => [AV.val (Value.string { data := List.toArray (List.getD (List.getD [kr (Prod.fst (x, s)) (Prod.snd (x, s))] i dr0).1 i_1 []) })], AV.val (Value.int IntKind.i64 (List.getD [kr (Prod.fst (x, s)) (Prod.snd (x, s))] i dr0).2), AV.val (Value.int IntKind.i64 (List.getD [kr (Prod.fst (x, s)) (Prod.snd (x, s))] i dr0).3), AV.val (Value.int IntKind.u32 (List.getD [kr (Prod.fst (x, s)) (Prod.snd (x, s))] i dr0).4), AV.bytes (List.getD [kr (Prod.fst (x, s)) (Prod.snd (x, s))] i dr0).5], AV.val (Value.slice none 0 0), AV.val (Value.slice none 0 0), AV.val (Value.int IntKind.i64 (0 : Int)), AV.val (Value.int IntKind.i64 s)]) ::
   (List.length (nmB x) ≤ 1000000000) ::
   ((!alikeB (nmB x) (nmB o)) = false) ::
   (AV.val (Value.int IntKind.i64 (↑i : Int)) = AV.val (Value.int IntKind.i64 (↑i : Int))) ::
   (SameO (some { t := 114, sz := 11, exact := false, fz := false, body := Body.flat (krows l) }) { t := 114, sz := 11, exact := false, fz := false, body := Body.flat (List.map (fun x => (AV.brecOn_1.go x (AV.ren._f (renX 2 [] 77)) (renL._f (renX 2 [] 77))).1) (krows l)) }) ::
   (SameO (some { t := 31, sz := 3, exact := true, fz := false, body := Body.rows [[AV.view 1 1 fun i => [AV.val (Value.string { data := List.toArray (List.getD [nmB o] i []) })], AV.val (Value.int IntKind.i64 (1 : Int)), AV.val (Value.int IntKind.i64 (1 : Int))]] }) { t := 31, sz := 3, exact := true, fz := false, body := Body.rows [[AV.view 1 1 fun i => [AV.val (Value.string { data := List.toArray (List.getD [nmB o] i []) })], AV.val (Value.int IntKind.i64 (1 : Int)), AV.val (Value.int IntKind.i64 (1 : Int))]] }) :: []) := by kernel_rfl

set_option maxRecDepth 100000 in
theorem fx_end (l : List (Nat × Int)) (o : Nat) : stepXS kN2 [(114, { br := [(9, false)] })] Try.prog 114 2 (fxG l o (List.length l)) (fxE l o) [] 2 [] =
   some (.exit 0,
   (decide ((↑(List.length l) : Int) < (↑(List.length l) : Int)) = false) ::
   (SameO (some { t := 114, sz := 11, exact := false, fz := false, body := Body.flat (krows l) }) { t := 114, sz := 11, exact := false, fz := false, body := Body.flat (List.map (fun x => (AV.brecOn_1.go x (AV.ren._f (renX 2 [] 3)) (renL._f (renX 2 [] 3))).1) (krows l)) }) ::
   (SameO (some { t := 31, sz := 3, exact := true, fz := false, body := Body.rows [[AV.view 1 1 fun i => [AV.val (Value.string { data := List.toArray (List.getD [nmB o] i []) })], AV.val (Value.int IntKind.i64 (1 : Int)), AV.val (Value.int IntKind.i64 (1 : Int))]] }) { t := 31, sz := 3, exact := true, fz := false, body := Body.rows [[AV.view 1 1 fun i => [AV.val (Value.string { data := List.toArray (List.getD [nmB o] i []) })], AV.val (Value.int IntKind.i64 (1 : Int)), AV.val (Value.int IntKind.i64 (1 : Int))]] }) :: []) := by kernel_rfl

set_option maxRecDepth 100000 in
theorem fx_some (l : List (Nat × Int)) (o : Nat) (i : Nat) : outXS kN2 [] Try.prog 114 [AV.sl 0 0 (List.length l) none, AV.fn (Fn.func 115) [AV.ptr 1 0 0]] [(0, { t := 114, sz := 11, exact := false, fz := false, body := Body.flat (krows l) }), (1, { t := 31, sz := 3, exact := true, fz := false, body := Body.rows [[AV.view 1 1 fun i => [AV.val (Value.string { data := List.toArray (List.getD [nmB o] i []) })], AV.val (Value.int IntKind.i64 (1 : Int)), AV.val (Value.int IntKind.i64 (1 : Int))]] })] 2 [0, 1] [(2, fxLR l o i)] =
   some (AV.val (Value.int IntKind.i64 (↑i : Int)), [(0, { t := 114, sz := 11, exact := false, fz := false, body := Body.flat (krows l) }), (1, { t := 31, sz := 3, exact := true, fz := false, body := Body.rows [[AV.view 1 1 fun i => [AV.val (Value.string { data := List.toArray (List.getD [nmB o] i []) })], AV.val (Value.int IntKind.i64 (1 : Int)), AV.val (Value.int IntKind.i64 (1 : Int))]] })], 2,
   (AV.fn (Fn.func 115) [AV.ptr 1 0 0] = AV.fn (Fn.func 115) [AV.ptr 1 0 0]) ::
   (AV.sl 0 0 (List.length l) none = AV.sl 0 0 (List.length l) none) ::
   (AV.val (Value.int IntKind.i64 (↑(List.length l) : Int)) = AV.val (Value.int IntKind.i64 (↑(List.length l) : Int))) ::
   (AV.val (Value.int IntKind.i64 (0 : Int)) = AV.val (Value.int IntKind.i64 (0 : Int))) ::
   (SameO (some { t := 114, sz := 11, exact := false, fz := false, body := Body.flat (krows l) }) { t := 114, sz := 11, exact := false, fz := false, body := Body.flat (List.map (fun x => (AV.brecOn_1.go x (AV.ren._f (renX 2 [] 6)) (renL._f (renX 2 [] 6))).1) (krows l)) }) ::
   (SameO (some { t := 31, sz := 3, exact := true, fz := false, body := Body.rows [[AV.view 1 1 fun i => [AV.val (Value.string { data := List.toArray (List.getD [nmB o] i []) })], AV.val (Value.int IntKind.i64 (1 : Int)), AV.val (Value.int IntKind.i64 (1 : Int))]] }) { t := 31, sz := 3, exact := true, fz := false, body := Body.rows [[AV.view 1 1 fun i => [AV.val (Value.string { data := List.toArray (List.getD [nmB o] i []) })], AV.val (Value.int IntKind.i64 (1 : Int)), AV.val (Value.int IntKind.i64 (1 : Int))]] }) ::
   (EvXL Try.prog 2 (loopAt Try.prog 114 2) (GoalX.st (LoopX.G (fxLR l o i)) 2) (LoopX.ex (fxLR l o i)) (GoalX.st (LoopX.E (fxLR l o i)) 2)) :: []) := by kernel_rfl

set_option maxRecDepth 100000 in
theorem fx_none (l : List (Nat × Int)) (o : Nat) : outXS kN2 [] Try.prog 114 [AV.sl 0 0 (List.length l) none, AV.fn (Fn.func 115) [AV.ptr 1 0 0]] [(0, { t := 114, sz := 11, exact := false, fz := false, body := Body.flat (krows l) }), (1, { t := 31, sz := 3, exact := true, fz := false, body := Body.rows [[AV.view 1 1 fun i => [AV.val (Value.string { data := List.toArray (List.getD [nmB o] i []) })], AV.val (Value.int IntKind.i64 (1 : Int)), AV.val (Value.int IntKind.i64 (1 : Int))]] })] 2 [0, 1] [(2, fxLE l o)] =
   some (AV.val (Value.int IntKind.i64 (-1 : Int)), [(0, { t := 114, sz := 11, exact := false, fz := false, body := Body.flat (krows l) }), (1, { t := 31, sz := 3, exact := true, fz := false, body := Body.rows [[AV.view 1 1 fun i => [AV.val (Value.string { data := List.toArray (List.getD [nmB o] i []) })], AV.val (Value.int IntKind.i64 (1 : Int)), AV.val (Value.int IntKind.i64 (1 : Int))]] })], 3,
   (AV.fn (Fn.func 115) [AV.ptr 1 0 0] = AV.fn (Fn.func 115) [AV.ptr 1 0 0]) ::
   (AV.sl 0 0 (List.length l) none = AV.sl 0 0 (List.length l) none) ::
   (AV.val (Value.int IntKind.i64 (↑(List.length l) : Int)) = AV.val (Value.int IntKind.i64 (↑(List.length l) : Int))) ::
   (AV.val (Value.int IntKind.i64 (0 : Int)) = AV.val (Value.int IntKind.i64 (0 : Int))) ::
   (SameO (some { t := 114, sz := 11, exact := false, fz := false, body := Body.flat (krows l) }) { t := 114, sz := 11, exact := false, fz := false, body := Body.flat (List.map (fun x => (AV.brecOn_1.go x (AV.ren._f (renX 2 [] 6)) (renL._f (renX 2 [] 6))).1) (krows l)) }) ::
   (SameO (some { t := 31, sz := 3, exact := true, fz := false, body := Body.rows [[AV.view 1 1 fun i => [AV.val (Value.string { data := List.toArray (List.getD [nmB o] i []) })], AV.val (Value.int IntKind.i64 (1 : Int)), AV.val (Value.int IntKind.i64 (1 : Int))]] }) { t := 31, sz := 3, exact := true, fz := false, body := Body.rows [[AV.view 1 1 fun i => [AV.val (Value.string { data := List.toArray (List.getD [nmB o] i []) })], AV.val (Value.int IntKind.i64 (1 : Int)), AV.val (Value.int IntKind.i64 (1 : Int))]] }) ::
   (EvXL Try.prog 2 (loopAt Try.prog 114 2) (GoalX.st (LoopX.G (fxLE l o)) 2) (LoopX.ex (fxLE l o)) (GoalX.st (LoopX.E (fxLE l o)) 2)) :: []) := by kernel_rfl

set_option maxRecDepth 100000 in
theorem mk_lt (room : Int) (l : List (Nat × Int)) (i : Nat) (f : Nat) (x : Nat) (y : Nat) (s : Int) (z : Int) : stepXS kN2 [(72, { op := [(4, 2, Hn.row (krow (x, s))), (5, 9, Hn.row (krow (y, z)))], br := [(21, true), (35, true)], ob := [(4, 1), (5, 7)] })] Try.prog 72 3 (mkG room l i f) (mkG room l (i + 1) i) [] 2 [] =
   some (.normal,
   (decide ((↑i : Int) < (↑(List.length l) : Int)) = true) ::
   ((0 : Int) ≤ (↑i : Int) ∧ (↑i : Int) < (↑(List.length l) : Int)) ::
   ((krows l)[0 + i]? = some [AV.view 1 1 fun i => [AV.val (Value.string { data := List.toArray (List.getD [nmB x] i []) })], AV.val (Value.int IntKind.i64 (1 : Int)), AV.val (Value.int IntKind.i64 (1 : Int)), AV.val (Value.int IntKind.i64 (9 : Int)), AV.val (Value.int IntKind.i64 (33152 : Int)), AV.val (Value.slice none 0 0), AV.view 5 1 fun i => [AV.view 1 (List.length (List.getD [kr (Prod.fst (x, s)) (Prod.snd (x, s))] i dr0).1) fun i_1 => [AV.val (Value.string { data := List.toArray (List.getD (List.getD [kr (Prod.fst (x, s)) (Prod.snd (x, s))] i dr0).1 i_1 []) })], AV.val (Value.int IntKind.i64 (List.getD [kr (Prod.fst (x, s)) (Prod.snd (x, s))] i dr0).2), AV.val (Value.int IntKind.i64 (List.getD [kr (Prod.fst (x, s)) (Prod.snd (x, s))] i dr0).3), AV.val (Value.int IntKind.u32 (List.getD [kr (Prod.fst (x, s)) (Prod.snd (x, s))] i dr0).4), AV.bytes (List.getD [kr (Prod.fst (x, s)) (Prod.snd (x, s))] i dr0).5], AV.val (Value.slice none 0 0), AV.val (Value.slice none 0 0), AV.val (Value.int IntKind.i64 (0 : Int)), AV.val (Value.int IntKind.i64 s)]) ::
   ((0 : Int) ≤ (↑f : Int) ∧ (↑f : Int) < (↑(List.length l) : Int)) ::
   ((krows l)[0 + f]? = some [AV.view 1 1 fun i => [AV.val (Value.string { data := List.toArray (List.getD [nmB y] i []) })], AV.val (Value.int IntKind.i64 (1 : Int)), AV.val (Value.int IntKind.i64 (1 : Int)), AV.val (Value.int IntKind.i64 (9 : Int)), AV.val (Value.int IntKind.i64 (33152 : Int)), AV.val (Value.slice none 0 0), AV.view 5 1 fun i => [AV.view 1 (List.length (List.getD [kr (Prod.fst (y, z)) (Prod.snd (y, z))] i dr0).1) fun i_1 => [AV.val (Value.string { data := List.toArray (List.getD (List.getD [kr (Prod.fst (y, z)) (Prod.snd (y, z))] i dr0).1 i_1 []) })], AV.val (Value.int IntKind.i64 (List.getD [kr (Prod.fst (y, z)) (Prod.snd (y, z))] i dr0).2), AV.val (Value.int IntKind.i64 (List.getD [kr (Prod.fst (y, z)) (Prod.snd (y, z))] i dr0).3), AV.val (Value.int IntKind.u32 (List.getD [kr (Prod.fst (y, z)) (Prod.snd (y, z))] i dr0).4), AV.bytes (List.getD [kr (Prod.fst (y, z)) (Prod.snd (y, z))] i dr0).5], AV.val (Value.slice none 0 0), AV.val (Value.slice none 0 0), AV.val (Value.int IntKind.i64 (0 : Int)), AV.val (Value.int IntKind.i64 z)]) ::
   (decide (s < z) = true) ::
   (AV.sl 1 0 (List.length l) none = AV.sl 1 0 (List.length l) none) ::
   (AV.val (Value.int IntKind.i64 (↑(List.length l) : Int)) = AV.val (Value.int IntKind.i64 (↑(List.length l) : Int))) ::
   (AV.val (Value.int IntKind.i64 (IntKind.wrap IntKind.i64 ((↑i : Int) + (1 : Int)))) = AV.val (Value.int IntKind.i64 (↑(i + 1) : Int))) ::
   (AV.val (Value.int IntKind.i64 (↑i : Int)) = AV.val (Value.int IntKind.i64 (↑i : Int))) ::
   (SameO (some { t := 109, sz := 2, exact := true, fz := false, body := Body.rows [[AV.val (Value.int IntKind.i64 room), AV.sl 1 0 (List.length l) none]] }) { t := 109, sz := 2, exact := true, fz := false, body := Body.rows [[AV.val (Value.int IntKind.i64 room), AV.sl 1 0 (List.length l) none]] }) ::
   (SameO (some { t := 114, sz := 11, exact := false, fz := false, body := Body.flat (krows l) }) { t := 114, sz := 11, exact := false, fz := false, body := Body.flat (List.map (fun x => (AV.brecOn_1.go x (AV.ren._f (renX 2 [] 24)) (renL._f (renX 2 [] 24))).1) (krows l)) }) :: []) := by kernel_rfl

set_option maxRecDepth 100000 in
theorem mk_ge (room : Int) (l : List (Nat × Int)) (i : Nat) (f : Nat) (x : Nat) (y : Nat) (s : Int) (z : Int) : stepXS kN2 [(72, { op := [(4, 2, Hn.row (krow (x, s))), (5, 9, Hn.row (krow (y, z)))], br := [(21, true), (35, false)], ob := [(4, 1), (5, 7)] })] Try.prog 72 3 (mkG room l i f) (mkG room l (i + 1) f) [] 2 [] =
   some (.normal,
   (decide ((↑i : Int) < (↑(List.length l) : Int)) = true) ::
   ((0 : Int) ≤ (↑i : Int) ∧ (↑i : Int) < (↑(List.length l) : Int)) ::
   ((krows l)[0 + i]? = some [AV.view 1 1 fun i => [AV.val (Value.string { data := List.toArray (List.getD [nmB x] i []) })], AV.val (Value.int IntKind.i64 (1 : Int)), AV.val (Value.int IntKind.i64 (1 : Int)), AV.val (Value.int IntKind.i64 (9 : Int)), AV.val (Value.int IntKind.i64 (33152 : Int)), AV.val (Value.slice none 0 0), AV.view 5 1 fun i => [AV.view 1 (List.length (List.getD [kr (Prod.fst (x, s)) (Prod.snd (x, s))] i dr0).1) fun i_1 => [AV.val (Value.string { data := List.toArray (List.getD (List.getD [kr (Prod.fst (x, s)) (Prod.snd (x, s))] i dr0).1 i_1 []) })], AV.val (Value.int IntKind.i64 (List.getD [kr (Prod.fst (x, s)) (Prod.snd (x, s))] i dr0).2), AV.val (Value.int IntKind.i64 (List.getD [kr (Prod.fst (x, s)) (Prod.snd (x, s))] i dr0).3), AV.val (Value.int IntKind.u32 (List.getD [kr (Prod.fst (x, s)) (Prod.snd (x, s))] i dr0).4), AV.bytes (List.getD [kr (Prod.fst (x, s)) (Prod.snd (x, s))] i dr0).5], AV.val (Value.slice none 0 0), AV.val (Value.slice none 0 0), AV.val (Value.int IntKind.i64 (0 : Int)), AV.val (Value.int IntKind.i64 s)]) ::
   ((0 : Int) ≤ (↑f : Int) ∧ (↑f : Int) < (↑(List.length l) : Int)) ::
   ((krows l)[0 + f]? = some [AV.view 1 1 fun i => [AV.val (Value.string { data := List.toArray (List.getD [nmB y] i []) })], AV.val (Value.int IntKind.i64 (1 : Int)), AV.val (Value.int IntKind.i64 (1 : Int)), AV.val (Value.int IntKind.i64 (9 : Int)), AV.val (Value.int IntKind.i64 (33152 : Int)), AV.val (Value.slice none 0 0), AV.view 5 1 fun i => [AV.view 1 (List.length (List.getD [kr (Prod.fst (y, z)) (Prod.snd (y, z))] i dr0).1) fun i_1 => [AV.val (Value.string { data := List.toArray (List.getD (List.getD [kr (Prod.fst (y, z)) (Prod.snd (y, z))] i dr0).1 i_1 []) })], AV.val (Value.int IntKind.i64 (List.getD [kr (Prod.fst (y, z)) (Prod.snd (y, z))] i dr0).2), AV.val (Value.int IntKind.i64 (List.getD [kr (Prod.fst (y, z)) (Prod.snd (y, z))] i dr0).3), AV.val (Value.int IntKind.u32 (List.getD [kr (Prod.fst (y, z)) (Prod.snd (y, z))] i dr0).4), AV.bytes (List.getD [kr (Prod.fst (y, z)) (Prod.snd (y, z))] i dr0).5], AV.val (Value.slice none 0 0), AV.val (Value.slice none 0 0), AV.val (Value.int IntKind.i64 (0 : Int)), AV.val (Value.int IntKind.i64 z)]) ::
   (decide (s < z) = false) ::
   (AV.sl 1 0 (List.length l) none = AV.sl 1 0 (List.length l) none) ::
   (AV.val (Value.int IntKind.i64 (↑(List.length l) : Int)) = AV.val (Value.int IntKind.i64 (↑(List.length l) : Int))) ::
   (AV.val (Value.int IntKind.i64 (IntKind.wrap IntKind.i64 ((↑i : Int) + (1 : Int)))) = AV.val (Value.int IntKind.i64 (↑(i + 1) : Int))) ::
   (AV.val (Value.int IntKind.i64 (↑f : Int)) = AV.val (Value.int IntKind.i64 (↑f : Int))) ::
   (SameO (some { t := 109, sz := 2, exact := true, fz := false, body := Body.rows [[AV.val (Value.int IntKind.i64 room), AV.sl 1 0 (List.length l) none]] }) { t := 109, sz := 2, exact := true, fz := false, body := Body.rows [[AV.val (Value.int IntKind.i64 room), AV.sl 1 0 (List.length l) none]] }) ::
   (SameO (some { t := 114, sz := 11, exact := false, fz := false, body := Body.flat (krows l) }) { t := 114, sz := 11, exact := false, fz := false, body := Body.flat (List.map (fun x => (AV.brecOn_1.go x (AV.ren._f (renX 2 [] 22)) (renL._f (renX 2 [] 22))).1) (krows l)) }) :: []) := by kernel_rfl

set_option maxRecDepth 100000 in
theorem mk_end (room : Int) (l : List (Nat × Int)) (f : Nat) : stepXS kN2 [(72, { br := [(21, false)] })] Try.prog 72 3 (mkG room l (List.length l) f) (mkE room l f) [] 2 [] =
   some (.exit 0,
   (decide ((↑(List.length l) : Int) < (↑(List.length l) : Int)) = false) ::
   (AV.val (Value.int IntKind.i64 (↑f : Int)) = AV.val (Value.int IntKind.i64 (↑f : Int))) ::
   (SameO (some { t := 109, sz := 2, exact := true, fz := false, body := Body.rows [[AV.val (Value.int IntKind.i64 room), AV.sl 1 0 (List.length l) none]] }) { t := 109, sz := 2, exact := true, fz := false, body := Body.rows [[AV.val (Value.int IntKind.i64 room), AV.sl 1 0 (List.length l) none]] }) ::
   (SameO (some { t := 114, sz := 11, exact := false, fz := false, body := Body.flat (krows l) }) { t := 114, sz := 11, exact := false, fz := false, body := Body.flat (List.map (fun x => (AV.brecOn_1.go x (AV.ren._f (renX 2 [] 3)) (renL._f (renX 2 [] 3))).1) (krows l)) }) :: []) := by kernel_rfl

set_option maxRecDepth 100000 in
theorem mk_mid (room : Int) (l : List (Nat × Int)) (f : Nat) : outXS kN2 [(72, { br := [(14, false)] }),
   (71, { op := [(5, 6, Hn.inn), (6, 5, Hn.inn)], br := [(16, false)], ob := [(1, 5), (5, 2), (5, 5), (6, 4)] })] Try.prog 72 [AV.ptr 0 0 0] [(0, { t := 109, sz := 2, exact := true, fz := false, body := Body.rows [[AV.val (Value.int IntKind.i64 room), AV.sl 1 0 (List.length l) none]] }), (1, { t := 114, sz := 11, exact := false, fz := false, body := Body.flat (krows l) })] 2 [0, 1] [(3, mkL room l f)] =
   some (AV.tup [], [(0, { t := 109, sz := 2, exact := true, fz := false, body := Body.rows [[AV.val (Value.int IntKind.i64 room), AV.sl 1 0 (f + (List.length l - Int.toNat (IntKind.wrap IntKind.i64 ((↑f : Int) + (1 : Int))))) none]] }), (1, { t := 114, sz := 11, exact := false, fz := false, body := Body.flat (List.take (0 + (f + (List.length l - Int.toNat (IntKind.wrap IntKind.i64 ((↑f : Int) + (1 : Int)))))) (List.take f (krows l) ++ List.take (List.length l - Int.toNat (IntKind.wrap IntKind.i64 ((↑f : Int) + (1 : Int)))) (List.drop (0 + Int.toNat (IntKind.wrap IntKind.i64 ((↑f : Int) + (1 : Int)))) (krows l)) ++ List.drop (f + List.length (List.take (List.length l - Int.toNat (IntKind.wrap IntKind.i64 ((↑f : Int) + (1 : Int)))) (List.drop (0 + Int.toNat (IntKind.wrap IntKind.i64 ((↑f : Int) + (1 : Int)))) (krows l)))) (krows l)) ++ List.replicate (List.length l - (f + (List.length l - Int.toNat (IntKind.wrap IntKind.i64 ((↑f : Int) + (1 : Int)))))) (List.map AV.val [Value.slice none 0 0, Value.int IntKind.i64 (0 : Int), Value.int IntKind.i64 (0 : Int), Value.int IntKind.i64 (0 : Int), Value.int IntKind.i64 (0 : Int), Value.slice none 0 0, Value.slice none 0 0, Value.slice none 0 0, Value.slice none 0 0, Value.int IntKind.i64 (0 : Int), Value.int IntKind.i64 (0 : Int)]) ++ List.drop (0 + (f + (List.length l - Int.toNat (IntKind.wrap IntKind.i64 ((↑f : Int) + (1 : Int))))) + List.length (List.replicate (List.length l - (f + (List.length l - Int.toNat (IntKind.wrap IntKind.i64 ((↑f : Int) + (1 : Int)))))) (List.map AV.val [Value.slice none 0 0, Value.int IntKind.i64 (0 : Int), Value.int IntKind.i64 (0 : Int), Value.int IntKind.i64 (0 : Int), Value.int IntKind.i64 (0 : Int), Value.slice none 0 0, Value.slice none 0 0, Value.slice none 0 0, Value.slice none 0 0, Value.int IntKind.i64 (0 : Int), Value.int IntKind.i64 (0 : Int)]))) (List.take f (krows l) ++ List.take (List.length l - Int.toNat (IntKind.wrap IntKind.i64 ((↑f : Int) + (1 : Int)))) (List.drop (0 + Int.toNat (IntKind.wrap IntKind.i64 ((↑f : Int) + (1 : Int)))) (krows l)) ++ List.drop (f + List.length (List.take (List.length l - Int.toNat (IntKind.wrap IntKind.i64 ((↑f : Int) + (1 : Int)))) (List.drop (0 + Int.toNat (IntKind.wrap IntKind.i64 ((↑f : Int) + (1 : Int)))) (krows l)))) (krows l))) })], 43,
   (decide ((↑(List.length l) : Int) < room) = false) ::
   (AV.sl 1 0 (List.length l) none = AV.sl 1 0 (List.length l) none) ::
   (AV.val (Value.int IntKind.i64 (↑(List.length l) : Int)) = AV.val (Value.int IntKind.i64 (↑(List.length l) : Int))) ::
   rp 2 (AV.val (Value.int IntKind.i64 (0 : Int)) = AV.val (Value.int IntKind.i64 (0 : Int))) (
   (SameO (some { t := 109, sz := 2, exact := true, fz := false, body := Body.rows [[AV.val (Value.int IntKind.i64 room), AV.sl 1 0 (List.length l) none]] }) { t := 109, sz := 2, exact := true, fz := false, body := Body.rows [[AV.val (Value.int IntKind.i64 room), AV.sl 1 0 (List.length l) none]] }) ::
   (SameO (some { t := 114, sz := 11, exact := false, fz := false, body := Body.flat (krows l) }) { t := 114, sz := 11, exact := false, fz := false, body := Body.flat (List.map (fun x => (AV.brecOn_1.go x (AV.ren._f (renX 2 [] 19)) (renL._f (renX 2 [] 19))).1) (krows l)) }) ::
   (EvXL Try.prog 2 (loopAt Try.prog 72 3) (GoalX.st (LoopX.G (mkL room l f)) 2) (LoopX.ex (mkL room l f)) (GoalX.st (LoopX.E (mkL room l f)) 2)) ::
   ((0 : Int) ≤ (↑f : Int)) ::
   ((0 : Int) ≤ IntKind.wrap IntKind.i64 ((↑f : Int) + (1 : Int))) ::
   ((0 : Int) ≤ (↑(List.length l) : Int)) ::
   (f ≤ Int.toNat (IntKind.wrap IntKind.i64 ((↑f : Int) + (1 : Int))) ∧ Int.toNat (IntKind.wrap IntKind.i64 ((↑f : Int) + (1 : Int))) ≤ List.length l ∧ 0 + List.length l ≤ List.length (krows l)) ::
   (((↑f : Int) == IntKind.wrap IntKind.i64 ((↑f : Int) + (1 : Int))) = false) ::
   ((0 : Int) ≤ (0 : Int)) ::
   ((0 : Int) ≤ (↑f : Int)) ::
   (0 ≤ f ∧ 0 + f ≤ List.length (krows l)) ::
   ((0 : Int) ≤ IntKind.wrap IntKind.i64 ((↑f : Int) + (1 : Int))) ::
   ((0 : Int) ≤ (↑(List.length l) : Int)) ::
   (Int.toNat (IntKind.wrap IntKind.i64 ((↑f : Int) + (1 : Int))) ≤ List.length l ∧ 0 + List.length l ≤ List.length (krows l)) ::
   (0 < List.length l - Int.toNat (IntKind.wrap IntKind.i64 ((↑f : Int) + (1 : Int)))) ::
   (0 + Int.toNat (IntKind.wrap IntKind.i64 ((↑f : Int) + (1 : Int))) + (List.length l - Int.toNat (IntKind.wrap IntKind.i64 ((↑f : Int) + (1 : Int)))) ≤ List.length (krows l)) ::
   (f + (List.length l - Int.toNat (IntKind.wrap IntKind.i64 ((↑f : Int) + (1 : Int)))) ≤ List.length (krows l)) ::
   (onesOk 11 (List.take (List.length l - Int.toNat (IntKind.wrap IntKind.i64 ((↑f : Int) + (1 : Int)))) (List.drop (0 + Int.toNat (IntKind.wrap IntKind.i64 ((↑f : Int) + (1 : Int)))) (krows l))) = true) ::
   ((0 : Int) ≤ (↑(f + (List.length l - Int.toNat (IntKind.wrap IntKind.i64 ((↑f : Int) + (1 : Int))))) : Int)) ::
   ((0 : Int) ≤ (↑(List.length l) : Int)) ::
   (f + (List.length l - Int.toNat (IntKind.wrap IntKind.i64 ((↑f : Int) + (1 : Int)))) ≤ List.length l ∧ 0 + List.length l ≤ List.length (List.take f (krows l) ++ List.take (List.length l - Int.toNat (IntKind.wrap IntKind.i64 ((↑f : Int) + (1 : Int)))) (List.drop (0 + Int.toNat (IntKind.wrap IntKind.i64 ((↑f : Int) + (1 : Int)))) (krows l)) ++ List.drop (f + List.length (List.take (List.length l - Int.toNat (IntKind.wrap IntKind.i64 ((↑f : Int) + (1 : Int)))) (List.drop (0 + Int.toNat (IntKind.wrap IntKind.i64 ((↑f : Int) + (1 : Int)))) (krows l)))) (krows l))) ::
   (0 < List.length l - (f + (List.length l - Int.toNat (IntKind.wrap IntKind.i64 ((↑f : Int) + (1 : Int)))))) ::
   (0 + (f + (List.length l - Int.toNat (IntKind.wrap IntKind.i64 ((↑f : Int) + (1 : Int))))) + (List.length l - (f + (List.length l - Int.toNat (IntKind.wrap IntKind.i64 ((↑f : Int) + (1 : Int)))))) ≤ List.length (List.take f (krows l) ++ List.take (List.length l - Int.toNat (IntKind.wrap IntKind.i64 ((↑f : Int) + (1 : Int)))) (List.drop (0 + Int.toNat (IntKind.wrap IntKind.i64 ((↑f : Int) + (1 : Int)))) (krows l)) ++ List.drop (f + List.length (List.take (List.length l - Int.toNat (IntKind.wrap IntKind.i64 ((↑f : Int) + (1 : Int)))) (List.drop (0 + Int.toNat (IntKind.wrap IntKind.i64 ((↑f : Int) + (1 : Int)))) (krows l)))) (krows l))) :: [])) := by kernel_rfl

set_option maxRecDepth 100000 in
theorem mk_last (room : Int) (l : List (Nat × Int)) (f : Nat) : outXS kN2 [(72, { br := [(14, false)] }),
   (71, { op := [(5, 6, Hn.mrs), (6, 5, Hn.inn)], br := [(16, false)], ob := [(1, 5), (5, 2), (5, 5), (6, 4)] })] Try.prog 72 [AV.ptr 0 0 0] [(0, { t := 109, sz := 2, exact := true, fz := false, body := Body.rows [[AV.val (Value.int IntKind.i64 room), AV.sl 1 0 (List.length l) none]] }), (1, { t := 114, sz := 11, exact := false, fz := false, body := Body.flat (krows l) })] 2 [0, 1] [(3, mkL room l f)] =
   some (AV.tup [], [(0, { t := 109, sz := 2, exact := true, fz := false, body := Body.rows [[AV.val (Value.int IntKind.i64 room), AV.sl 1 0 f none]] }), (1, { t := 114, sz := 11, exact := false, fz := false, body := Body.flat (List.take (0 + f) (krows l) ++ List.replicate (List.length l - f) (List.map AV.val [Value.slice none 0 0, Value.int IntKind.i64 (0 : Int), Value.int IntKind.i64 (0 : Int), Value.int IntKind.i64 (0 : Int), Value.int IntKind.i64 (0 : Int), Value.slice none 0 0, Value.slice none 0 0, Value.slice none 0 0, Value.slice none 0 0, Value.int IntKind.i64 (0 : Int), Value.int IntKind.i64 (0 : Int)]) ++ List.drop (0 + f + List.length (List.replicate (List.length l - f) (List.map AV.val [Value.slice none 0 0, Value.int IntKind.i64 (0 : Int), Value.int IntKind.i64 (0 : Int), Value.int IntKind.i64 (0 : Int), Value.int IntKind.i64 (0 : Int), Value.slice none 0 0, Value.slice none 0 0, Value.slice none 0 0, Value.slice none 0 0, Value.int IntKind.i64 (0 : Int), Value.int IntKind.i64 (0 : Int)]))) (krows l)) })], 43,
   (decide ((↑(List.length l) : Int) < room) = false) ::
   (AV.sl 1 0 (List.length l) none = AV.sl 1 0 (List.length l) none) ::
   (AV.val (Value.int IntKind.i64 (↑(List.length l) : Int)) = AV.val (Value.int IntKind.i64 (↑(List.length l) : Int))) ::
   rp 2 (AV.val (Value.int IntKind.i64 (0 : Int)) = AV.val (Value.int IntKind.i64 (0 : Int))) (
   (SameO (some { t := 109, sz := 2, exact := true, fz := false, body := Body.rows [[AV.val (Value.int IntKind.i64 room), AV.sl 1 0 (List.length l) none]] }) { t := 109, sz := 2, exact := true, fz := false, body := Body.rows [[AV.val (Value.int IntKind.i64 room), AV.sl 1 0 (List.length l) none]] }) ::
   (SameO (some { t := 114, sz := 11, exact := false, fz := false, body := Body.flat (krows l) }) { t := 114, sz := 11, exact := false, fz := false, body := Body.flat (List.map (fun x => (AV.brecOn_1.go x (AV.ren._f (renX 2 [] 19)) (renL._f (renX 2 [] 19))).1) (krows l)) }) ::
   (EvXL Try.prog 2 (loopAt Try.prog 72 3) (GoalX.st (LoopX.G (mkL room l f)) 2) (LoopX.ex (mkL room l f)) (GoalX.st (LoopX.E (mkL room l f)) 2)) ::
   ((0 : Int) ≤ (↑f : Int)) ::
   ((0 : Int) ≤ IntKind.wrap IntKind.i64 ((↑f : Int) + (1 : Int))) ::
   ((0 : Int) ≤ (↑(List.length l) : Int)) ::
   (f ≤ Int.toNat (IntKind.wrap IntKind.i64 ((↑f : Int) + (1 : Int))) ∧ Int.toNat (IntKind.wrap IntKind.i64 ((↑f : Int) + (1 : Int))) ≤ List.length l ∧ 0 + List.length l ≤ List.length (krows l)) ::
   (((↑f : Int) == IntKind.wrap IntKind.i64 ((↑f : Int) + (1 : Int))) = false) ::
   ((0 : Int) ≤ (0 : Int)) ::
   ((0 : Int) ≤ (↑f : Int)) ::
   (0 ≤ f ∧ 0 + f ≤ List.length (krows l)) ::
   ((0 : Int) ≤ IntKind.wrap IntKind.i64 ((↑f : Int) + (1 : Int))) ::
   ((0 : Int) ≤ (↑(List.length l) : Int)) ::
   (Int.toNat (IntKind.wrap IntKind.i64 ((↑f : Int) + (1 : Int))) ≤ List.length l ∧ 0 + List.length l ≤ List.length (krows l)) ::
   (List.length l - Int.toNat (IntKind.wrap IntKind.i64 ((↑f : Int) + (1 : Int))) = 0) ::
   ((0 : Int) ≤ (↑f : Int)) ::
   ((0 : Int) ≤ (↑(List.length l) : Int)) ::
   (f ≤ List.length l ∧ 0 + List.length l ≤ List.length (krows l)) ::
   (0 < List.length l - f) ::
   (0 + f + (List.length l - f) ≤ List.length (krows l)) :: [])) := by kernel_rfl
end Go.Proofs.Ytmilcpejchjleaa

/- A contract that turns nothing, used at other numbers. (Cut out of XNo and XUw0.) -/
namespace Go.Proofs.Ytmilcpejchjleaa
open Go.RowKit

theorem ACall.weak {P : Program} {g : FuncId} {xs : List AV} {L L1 L2 : List (Nat × AObj)} {nx n1 : Nat} {v : AV} (h : ACall P g xs L nx v L1 n1) (hs : ∀ id o, hp L2 id = some o → hp L1 id = some o) : ACall P g xs L nx v L2 n1 := by
  intro E w vs s r
  refine Calls.mono (h E w vs s r) fun e w' hh => ?_
  obtain ⟨E', u, rfl, t1, t2, t3⟩ := hh
  exact ⟨E', u, rfl, t1.sub hs, t2, ⟨t3.f, t3.nw, t3.I, t3.I', t3.fr, fun b ⟨id, o, c, z, h1, h2⟩ => t3.hb b ⟨id, o, c, z, hs id o h1, h2⟩, t3.size, t3.os, t3.tape, t3.output⟩⟩

theorem hp_filter_of (f : Nat → Bool) : ∀ (K : List (Nat × AObj)) (k : Nat), f k = true → hp (K.filter fun p => f p.1) k = hp K k
  | [], k, _ => rfl
  | (i, y) :: K, k, h => by
    by_cases hf : f i = true
    · rw [List.filter_cons_of_pos (by simpa using hf)]
      simp only [hp]
      rw [hp_filter_of f K k h]
    · rw [List.filter_cons_of_neg (by simpa using hf), hp_filter_of f K k h]
      simp only [hp]
      rw [if_neg fun e => hf (by rw [← e]; exact h)]

theorem hp_app_of {A B : List (Nat × AObj)} {k : Nat} {x : AObj} : hp A k = some x → hp (A ++ B) k = some x := by
  induction A with
  | nil => intro h; cases h
  | cons a A ih =>
    intro h
    simp only [List.cons_append, hp] at h ⊢
    split
    · rename_i c; rw [if_pos c] at h; exact h
    · rename_i c; rw [if_neg c] at h; exact ih h
theorem hp_app_none {A B : List (Nat × AObj)} {k : Nat} : hp A k = none → hp (A ++ B) k = hp B k := by
  induction A with
  | nil => intro _; rfl
  | cons a A ih =>
    intro h
    simp only [List.cons_append, hp] at h ⊢
    split
    · rename_i c; rw [if_pos c] at h; cases h
    · rename_i c; rw [if_neg c] at h; exact ih h

theorem ACall.usedW {P : Program} {g : FuncId} {xs : List AV} {M K : List (Nat × AObj)} {n1 : Nat} {v : AV} {ids : List Nat} (h : ACall P g xs M ids.length v M n1) {nx : Nat} (hnd : ids.Nodup) (hlt : ∀ i ∈ ids, i < nx) (hle : ids.length ≤ n1)
    (hL : ∀ k x, hp M k = some x → k < ids.length ∧ hp K (renN ids nx k) = some (x.ren (renN ids nx))) (hc : ∀ k, k < ids.length → ∃ x, hp M k = some x) (hv : v.ren (renN ids nx) = v) :
    ACall P g (renL (renN ids nx) xs) K nx v K (nx + (n1 - ids.length)) := by
  have inj : ∀ i j, renN ids nx i = renN ids nx j → i = j := renN_inj hnd hlt
  have u := ACall.used h hnd hlt hle hL
  rw [hv] at u
  refine u.weak fun id o ho => ?_
  by_cases hi : id ∈ ids
  · obtain ⟨k, hk, e⟩ := List.getElem_of_mem hi
    have er : renN ids nx k = id := by
      unfold renN
      rw [List.getD_eq_getElem?_getD, List.getElem?_eq_getElem hk, Option.getD_some, e]
    obtain ⟨x, hx⟩ := hc k hk
    have h1 := (hL k x hx).2
    rw [er, ho] at h1
    refine hp_app_of ?_
    rw [← er, hp_renH inj, hx, h1]
    rfl
  · have hn : hp (renH (renN ids nx) M) id = none := by
      cases h1 : hp (renH (renN ids nx) M) id with
      | none => rfl
      | some y =>
        obtain ⟨k, x, h2, _, h3⟩ := hp_renH_inv inj _ _ _ h1
        have hk := (hL k x h3).1
        exact absurd (by rw [h2]; unfold renN; rw [List.getD_eq_getElem?_getD, List.getElem?_eq_getElem hk, Option.getD_some]; exact List.getElem_mem hk) hi
    rw [hp_app_none hn, hp_filter_of (fun k => !ids.contains k) K id (by simpa using hi)]
    exact ho
end Go.Proofs.Ytmilcpejchjleaa

/- The law CacheRoom: contracts of what it calls: questions and answers made, copies, looking for what is kept, making room. -/
namespace Go.Proofs.Ytmilcpejchjleaa
open Go.RowKit
set_option linter.unusedSimpArgs false
set_option linter.unusedVariables false

/-! ### questions made and copied -/
theorem nm_raw {n : Nat} (h : n < 128) : [UInt8.ofNat (Int.toNat (IntKind.wrap IntKind.u8 (IntKind.wrap IntKind.i64 ((97 : Int) + bits BinOp.and IntKind.i64 (n : Int) (15 : Int))))), UInt8.ofNat (Int.toNat (IntKind.wrap IntKind.u8 (IntKind.wrap IntKind.i64 ((97 : Int) + bits BinOp.and IntKind.i64 (Int.fdiv (n : Int) (16 : Int)) (7 : Int)))))] = nmB n := by
  revert n
  decide +kernel
theorem nm_byte {n : Nat} (h : n < 128) : ∀ (x : AV), x ∈ [AV.val (Value.int IntKind.u8 (IntKind.wrap IntKind.u8 (IntKind.wrap IntKind.i64 ((97 : Int) + bits BinOp.and IntKind.i64 (n : Int) (15 : Int))))), AV.val (Value.int IntKind.u8 (IntKind.wrap IntKind.u8 (IntKind.wrap IntKind.i64 ((97 : Int) + bits BinOp.and IntKind.i64 (Int.fdiv (n : Int) (16 : Int)) (7 : Int)))))] → isByteAV x := by
  intro x hx
  rcases List.mem_cons.1 hx with rfl | hx
  · exact (isB _).2 ⟨by rw [wu8]; omega, by rw [wu8]; omega⟩
  · rw [List.mem_singleton.1 hx]
    exact (isB _).2 ⟨by rw [wu8]; omega, by rw [wu8]; omega⟩
theorem quA_told {E E' : Env} {w : World} {x y : AV} {a b : Value} {u : Value} (h : Rep E w (.agg [x, .val a, .val b]) u) (hx : ∀ v, Rep E w x v → Rep E' w y v) : Rep E' w (.agg [y, .val a, .val b]) u := by
  refine h.aggF rfl fun k p p' v h1 h2 h3 => ?_
  match k with
  | 0 => simp at h1 h2; subst h1 h2; exact hx v h3
  | 1 => simp at h1 h2; subst h1 h2; exact h3.valF
  | 2 => simp at h1 h2; subst h1 h2; exact h3.valF
  | k + 3 => simp at h1
theorem ask_call (n : Nat) (h : n < 128) : ACall Try.prog 27 [sI n] [] 0 (qA n) [] 15 := by
  have h0 := outXS_ok kN2_ok (cr_ask n) (by
    refine allCons (nm_byte h) allNil)
  refine ACall.told [12] h0 (fun id hid => by
    have e := List.mem_singleton.1 hid
    subst e
    exact ⟨_, rfl⟩) (fun id x hid => by cases hid) fun E w u hs hr => ?_
  refine quA_told hr fun v hv => Rep.frzRow (es := [nmB n]) hs rfl (List.mem_singleton.2 rfl) (.inr ?_) rfl rfl hv
  rw [← nm_raw h]
  rfl
theorem cq_call (s : List UInt8) (ty cl : Int) : ACall Try.prog 68 [.agg [vS [s], iI ty, iI cl]] [] 0 (.agg [vS [s], iI ty, iI cl]) [] 10 := by
  have h0 := outXS_ok kN2_ok (cr_cq s ty cl) (by
    repeat' (first | exact allNil | refine allCons ?_ ?_ | (with_reducible refine allRp _ ?_ ?_))
    all_goals first | exact rfl | omega)
  refine ACall.told [5] h0 (fun id hid => by
    have e := List.mem_singleton.1 hid
    subst e
    exact ⟨_, rfl⟩) (fun id x hid => by cases hid) fun E w u hs hr => ?_
  exact quA_told hr fun v hv => Rep.frzRow (es := [s]) hs rfl (List.mem_singleton.2 rfl) (.inl rfl) rfl rfl hv

/-- bytes of a row of one's own, told by what they are -/
theorem Rep.frzB {E : Env} {nx : Nat} {H : Heap} {w : World} {B : List Nat} {id n : Nat} {ob : AObj} {d : List UInt8} {u : Value} (s : Sat E nx H w) (hid : H id = some ob) (hB : id ∈ B) (hb : ob.body = .bytes d) (hz : ob.sz = 1) (hn : n = d.length) (r : Rep E w (.sl id 0 n none) u) : Rep (E.frz B) w (.bytes d) u := by
  subst hn
  refine co0_ok (c := .bytes d) (l := [0 + d.length ≤ d.length, (d.drop 0).take d.length = d]) s ?_ (by simp) r
  simp [co0, bytesOf, hid, hb, hz, inB, idOf, hB]
/-- a record whose name and data are told -/
theorem rrow_told {E : Env} {w : World} {B : List Nat} {t : TypeId} {sz : Nat} {ex fz : Bool} {x y d e : AV} {a b c : Value} (hx : ∀ v, Rep E w x v → Rep (E.frz B) w y v) (hd : ∀ v, Rep E w d v → Rep (E.frz B) w e v) : (AObj.mk t sz ex fz (.rows [[x, .val a, .val b, .val c, d]])).Told E w B ⟨t, sz, ex, fz, .rows [[y, .val a, .val b, .val c, e]]⟩ := by
  refine AObj.Told.row1 rfl fun k p p' h1 h2 v h3 => ?_
  match k with
  | 0 => simp at h1 h2; subst h1 h2; exact hx v h3
  | 1 => simp at h1 h2; subst h1 h2; exact h3.valF
  | 2 => simp at h1 h2; subst h1 h2; exact h3.valF
  | 3 => simp at h1 h2; subst h1 h2; exact h3.valF
  | 4 => simp at h1 h2; subst h1 h2; exact hd v h3
  | k + 5 => simp at h1
theorem ttl_raw {t : Int} (h : 0 ≤ t ∧ t < 4294967296) : IntKind.wrap IntKind.u32 (if (0 : Int) > IntKind.wrap IntKind.i64 (IntKind.wrap IntKind.i64 t - (0 : Int)) then (0 : Int) else IntKind.wrap IntKind.i64 (IntKind.wrap IntKind.i64 t - (0 : Int))) = t := by
  have e1 : IntKind.wrap IntKind.i64 t = t := w64 _ (by omega)
  have e2 : IntKind.wrap IntKind.i64 (t - 0) = t := by rw [w64 _ (by omega)]; omega
  rw [e1, e2, if_neg (by omega), wu32]
  omega
theorem rec_call (s d : List UInt8) (ty cl t : Int) (ht : 0 ≤ t ∧ t < 4294967296) (hd : d.length ≤ 1000) : ACall Try.prog 80 [vR [⟨[s], ty, cl, t, d⟩], iI 0] [] 0 (vR [⟨[s], ty, cl, t, d⟩]) [] 100 := by
  have h0 := outXS_ok kN2_ok (cr_rec s d ty cl t) (by
    repeat' (first | exact allNil | refine allCons ?_ ?_ | (with_reducible refine allRp _ ?_ ?_))
    all_goals first | exact rfl | exact True.intro | omega)
  rw [ttl_raw ht] at h0
  have h1 := ACall.toldO (L2 := [(34, ⟨42, 5, false, false, .rows [[vS [s], iI ty, iI cl, iU t, .bytes d]]⟩)]) [13, 19] h0 (fun id hid => by
    simp only [List.mem_cons, List.not_mem_nil, or_false] at hid
    rcases hid with rfl | rfl
    · exact ⟨_, rfl⟩
    · exact ⟨_, rfl⟩) (fun id x hid => by
    simp only [hp] at hid
    split at hid
    · rename_i e
      subst e
      injection hid with hid
      subst hid
      exact ⟨by decide, _, rfl, fun E w hs => rrow_told (fun v hv => Rep.frzRow (id := 13) (es := [s]) hs rfl (by decide) (.inl rfl) rfl rfl hv) (fun v hv => Rep.frzB (id := 19) hs rfl (by decide) rfl rfl (Nat.zero_add _) hv)⟩
    · cases hid) (fun E w u hs hr => hr.more (more_frz E w [13, 19]))
  refine (ACall.told [34] h1 (fun id hid => by
    have e := List.mem_singleton.1 hid
    subst e
    exact ⟨_, rfl⟩) (fun id x hid => by cases hid) fun E w u hs hr => ?_).upTo (by decide)
  exact WR.frzRows (id := 34) (ls := [⟨[s], ty, cl, t, d⟩]) hs rfl (List.mem_singleton.2 rfl) (.inl rfl) rfl rfl hr
end Go.Proofs.Ytmilcpejchjleaa

/- The law CacheRoom: questions, copies and records known anywhere. -/
namespace Go.Proofs.Ytmilcpejchjleaa
open Go.RowKit
set_option linter.unusedSimpArgs false
set_option linter.unusedVariables false

theorem vS_ren (l : List (List UInt8)) (r : Nat → Nat) : (vS l).ren r = vS l := rfl
theorem vR_ren (l : List DR) (r : Nat → Nat) : (vR l).ren r = vR l := RTy.ren_v RR l r
def kAsk : Inl := fun g xs L nx =>
  if g = 27 then
    match xs with
    | [.val (.int .i64 n)] => some (qA n.toNat, L, nx, [0 ≤ n, n < 128])
    | _ => none
  else none
theorem kAsk_ok : InlOk Try.prog kAsk := by
  intro g xs L nx w L' nx' q h hq
  unfold kAsk at h
  split at h
  · rename_i hg
    subst hg
    split at h
    · rename_i n
      simp only [Option.some.injEq, Prod.mk.injEq] at h
      obtain ⟨rfl, rfl, rfl, rfl⟩ := h
      simp only [List.forall_mem_cons, List.not_mem_nil, false_implies, implies_true, and_true] at hq
      obtain ⟨q1, q2⟩ := hq
      have := ACall.liftV (ask_call n.toNat (by omega)) (fun r => rfl) (fun r => rfl) L nx
      rw [show sI n.toNat = .val (.int .i64 n) from by unfold sI; rw [Int.toNat_of_nonneg q1]] at this
      exact ⟨this, Nat.le_refl _⟩
    · cases h
  · cases h
def kCq : Inl := fun g xs L nx =>
  if g = 68 then
    match xs with
    | [.agg [x, .val (.int .i64 ty), .val (.int .i64 cl)]] => some (.agg [vS [(lsOf x).getD 0 []], iI ty, iI cl], L, nx, [x = vS [(lsOf x).getD 0 []]])
    | _ => none
  else none
theorem kCq_ok : InlOk Try.prog kCq := by
  intro g xs L nx w L' nx' q h hq
  unfold kCq at h
  split at h
  · rename_i hg
    subst hg
    split at h
    · rename_i x ty cl
      simp only [Option.some.injEq, Prod.mk.injEq] at h
      obtain ⟨rfl, rfl, rfl, rfl⟩ := h
      simp only [List.forall_mem_cons, List.not_mem_nil, false_implies, implies_true, and_true] at hq
      refine ⟨?_, Nat.le_refl _⟩
      generalize (lsOf x).getD 0 [] = s at *
      subst hq
      exact ACall.liftV (cq_call s ty cl) (fun r => rfl) (fun r => rfl) L nx
    · cases h
  · cases h
def kRec : Inl := fun g xs L nx =>
  if g = 80 then
    match xs with
    | [.view 5 1 f, .val (.int .i64 0)] =>
      let r := (ofVR (.view 5 1 f)).getD 0 dr0
      some (vR [⟨[r.name.getD 0 []], r.ty, r.cl, r.ttl, r.data⟩], L, nx, [.view 5 1 f = vR [⟨[r.name.getD 0 []], r.ty, r.cl, r.ttl, r.data⟩], 0 ≤ r.ttl ∧ r.ttl < 4294967296, r.data.length ≤ 1000])
    | _ => none
  else none
theorem kRec_ok : InlOk Try.prog kRec := by
  intro g xs L nx w L' nx' q h hq
  unfold kRec at h
  split at h
  · rename_i hg
    subst hg
    split at h
    · rename_i f
      generalize hr : (ofVR (.view 5 1 f)).getD 0 dr0 = r at h
      simp only [Option.some.injEq, Prod.mk.injEq] at h
      obtain ⟨rfl, rfl, rfl, rfl⟩ := h
      simp only [List.forall_mem_cons, List.not_mem_nil, false_implies, implies_true, and_true] at hq
      obtain ⟨q1, q2, q3⟩ := hq
      rw [q1]
      exact ⟨ACall.liftV (rec_call _ _ _ _ _ q2 q3) (fun r => by
        show [AV.ren r (vR _), _] = _
        rw [vR_ren]; rfl) (fun r => vR_ren _ r) L nx, Nat.le_refl _⟩
    · cases h
  · cases h
def kCa : Inl := orInl kAsk (orInl kCq (orInl kRec kN2))
theorem kCa_ok : InlOk Try.prog kCa := orInl_ok kAsk_ok (orInl_ok kCq_ok (orInl_ok kRec_ok kN2_ok))

/-! ### looking for what is kept -/
def fK (o : Nat) : List (Nat × Int) → Nat → Int
  | [], _ => -1
  | x :: r, i => if x.1 = o then (i : Int) else fK o r (i + 1)
theorem alike_nm : ∀ x, x < 64 → ∀ o, o < 64 → alikeB (nmB x) (nmB o) = decide (x = o) := by decide +kernel
/-- the first that goes: behind f, from i on, k more -/
def frst (l : List (Nat × Int)) : Nat → Nat → Nat → Nat
  | 0, _, f => f
  | k + 1, i, f => frst l k (i + 1) (if (l.getD i (0, 0)).2 < (l.getD f (0, 0)).2 then i else f)
theorem frst_lt (l : List (Nat × Int)) : ∀ k i f, i + k = l.length → f < l.length → frst l k i f < l.length
  | 0, _, _, _, h => h
  | k + 1, i, f, hk, h => by
    unfold frst
    refine frst_lt l k (i + 1) _ (by omega) ?_
    split <;> omega
theorem same_kr {t sz : Nat} {ex fz : Bool} {f : List AV → List AV} {es : List (Nat × Int)} {l : List (List AV)} (hf : ∀ s, f (krow s) = krow s) (h : l = krows es) : SameO (some { t := t, sz := sz, exact := ex, fz := fz, body := .flat l }) { t := t, sz := sz, exact := ex, fz := fz, body := .flat ((krows es).map f) } := by
  have : (krows es).map f = krows es := by
    unfold krows
    rw [List.map_map]
    exact List.map_congr_left fun e _ => hf e
  rw [this, h]
  exact rfl
end Go.Proofs.Ytmilcpejchjleaa
