/- An engine for walks, fifth part: addresses of fields and elements, slices, lengths. -/
import Derived.Test.YtoekncmggjhmjaaEd
namespace Go.Proofs.Ytoekncmggjhmjaa
open Go.RowKit

section
variable {P : Program} {E : Env} {H : Heap} {w : World} {a : Act} {o : Oper} {nx rid : Nat} {tm : Nat → AV}

theorem fieldAt_run {t : TypeId} {f off n g o' : Nat} {ft : TypeId} (hf : fieldT P t f = some (off, ft)) (hs : szT P ft = some (n + 1)) (w : World) :
    (Instr.fieldAt t (.pointer (some ⟨g, o', none⟩)) f).run P w = .ok (.pointer (some ⟨g, o' + off, none⟩)) w := by
  unfold fieldT at hf
  split at hf
  · rename_i fs hfs
    simp only [Option.map_eq_some_iff, Prod.mk.injEq] at hf
    obtain ⟨y, hy, rfl, rfl⟩ := hf
    simp [Instr.fieldAt, run_underlying hfs, hy, Instr.sureAddr, fieldPlace, szT_run hs, add_spot]
  · cases hf

theorem ok_fieldAddr {x : Operand} {t ft : TypeId} {f off n id i j : Nat} (s : Sat E nx H w) (r : RepT E w tm a) (h : o.op = .fieldAddr t x f) (hx : avOf tm x = .ptr id i j)
    (hf : fieldT P t f = some (off, ft)) (hs : szT P ft = some (n + 1)) : OpOk P o E H a w rid nx ⟨.ptr id i (j + off), [], nx⟩ := by
  obtain ⟨b, c, sz, hE, hu⟩ := eval_ptr r hx
  have := Rep.ptr (E := E) (w := w) (i := i) (j := j + off) hE
  rw [← Nat.add_assoc] at this
  exact ok_val s (by simp [execOp, h, hu, fieldAt_run hf hs]) this

theorem ok_fieldAddrI {x : Operand} {t ft : TypeId} {f off n : Nat} {l : List AV} (s : Sat E nx H w) (r : RepT E w tm a) (h : o.op = .fieldAddr t x f) (hx : avOf tm x = .iptr l)
    (hf : fieldT P t f = some (off, ft)) (hs : szT P ft = some (n + 1)) : OpOk P o E H a w rid nx ⟨.iptr (l.drop off), [], nx⟩ := by
  have rx := r.eval x
  rw [hx] at rx
  generalize hu : a.eval x = u at rx
  cases rx with
  | iptr vs hI hn hc hr =>
    rename_i g o'
    refine ok_val (u := .pointer (some ⟨g, o' + off, none⟩)) s (by simp [execOp, h, hu, fieldAt_run hf hs]) ?_
    refine .iptr (vs.drop off) hI (by simp [hn]) (fun k v hv => ?_) fun k a v h1 h2 => ?_
    · rw [List.getElem?_drop] at hv
      rw [Nat.add_assoc]
      exact hc _ _ hv
    · rw [List.getElem?_drop] at h1 h2
      exact hr _ _ _ h1 h2

theorem indexAt_run {t e : TypeId} {es n c g o' k : Nat} {ik : IntKind} (ht : elemT P t = some e) (he : szT P e = some es) (hk : k < n) (w : World) :
    (Instr.indexAt t (.slice (some ⟨g, o', none⟩) n c) (.int ik (k : Int))).run P w = .ok (.pointer (some ⟨g, o' + k * es, none⟩)) w := by
  have h1 : (0 : Int) ≤ k ∧ (k : Int) < n := by omega
  simp only [Instr.indexAt, asIntOf, Sem.run_bind, Sem.run_pure, elemT_run ht, szT_run he, Result.andThen_ok, if_pos h1, Int.toNat_natCast, add_spot]

theorem indexAtArr_run {t e : TypeId} {es n g o' k : Nat} {ik : IntKind} (ht : arrT P t = some (n, e)) (he : szT P e = some es) (hk : k < n) (w : World) :
    (Instr.indexAt t (.pointer (some ⟨g, o', none⟩)) (.int ik (k : Int))).run P w = .ok (.pointer (some ⟨g, o' + k * es, none⟩)) w := by
  have h1 : (0 : Int) ≤ k ∧ (k : Int) < n := by omega
  simp only [Instr.indexAt, asIntOf, Sem.run_bind, Sem.run_pure, arrT_run ht, szT_run he, Result.andThen_ok, if_pos h1, Int.toNat_natCast, add_spot, Instr.sureAddr]

theorem int_toNat {z : Int} (h : 0 ≤ z) : ∃ k : Nat, z = (k : Int) ∧ z.toNat = k := ⟨z.toNat, by omega, rfl⟩

theorem ok_indexSl {x ix : Operand} {t e : TypeId} {id off n : Nat} {lim : Option Nat} {ob : AObj} {ik : IntKind} {z : Int} (s : Sat E nx H w) (r : RepT E w tm a) (h : o.op = .indexAddr t x ix) (hx : avOf tm x = .sl id off n lim)
    (hi : avOf tm ix = .val (.int ik z)) (hz : 0 ≤ z ∧ z < (n : Int)) (hid : H id = some ob) (ht : elemT P t = some e) (he : szT P e = some ob.sz) : OpOk P o E H a w rid nx ⟨.ptr id (off + z.toNat) 0, [], nx⟩ := by
  obtain ⟨k, rfl, hk⟩ := int_toNat hz.1
  have hiv := eval_val r hi
  have rx := r.eval x
  rw [hx] at rx
  generalize hu : a.eval x = u at rx
  cases rx with
  | slnil => omega
  | sl hE hc hl hn hA =>
    rename_i b c sz cap A
    have hsz : sz = ob.sz := (s.at_ hid hE).1
    subst hsz
    have hcap : cap ≠ 0 := by omega
    obtain rfl := hA.resolve_left fun h => hcap h.1
    have := Rep.ptr (E := E) (w := w) (i := off + k) (j := 0) hE
    rw [Nat.add_mul, Nat.add_zero] at this
    exact ok_val s (by simp [execOp, h, hu, hiv, indexAt_run ht he (show k < n by omega)]) this

theorem ok_indexArr {x ix : Operand} {t e : TypeId} {id i j n es : Nat} {ik : IntKind} {z : Int} (s : Sat E nx H w) (r : RepT E w tm a) (h : o.op = .indexAddr t x ix) (hx : avOf tm x = .ptr id i j)
    (hi : avOf tm ix = .val (.int ik z)) (hz : 0 ≤ z ∧ z < (n : Int)) (ht : arrT P t = some (n, e)) (he : szT P e = some es) : OpOk P o E H a w rid nx ⟨.ptr id i (j + z.toNat * es), [], nx⟩ := by
  obtain ⟨k, rfl, hk⟩ := int_toNat hz.1
  have hiv := eval_val r hi
  obtain ⟨b, c, sz, hE, hu⟩ := eval_ptr r hx
  have := Rep.ptr (E := E) (w := w) (i := i) (j := j + k * es) hE
  rw [← Nat.add_assoc] at this
  exact ok_val s (by simp [execOp, h, hu, hiv, indexAtArr_run ht he (show k < n by omega)]) this

theorem ok_indexCsl {x ix : Operand} {t e : TypeId} {id i j n c : Nat} {ik : IntKind} {z : Int} (s : Sat E nx H w) (r : RepT E w tm a) (h : o.op = .indexAddr t x ix) (hx : avOf tm x = .csl id i j n c)
    (hi : avOf tm ix = .val (.int ik z)) (hz : 0 ≤ z ∧ z < (n : Int)) (ht : elemT P t = some e) (he : szT P e = some 1) : OpOk P o E H a w rid nx ⟨.ptr id i (j + z.toNat), [], nx⟩ := by
  obtain ⟨k, rfl, hk⟩ := int_toNat hz.1
  have hiv := eval_val r hi
  have rx := r.eval x
  rw [hx] at rx
  generalize hu : a.eval x = u at rx
  cases rx with
  | csl hE hn hm =>
    have := Rep.ptr (E := E) (w := w) (i := i) (j := j + k) hE
    rw [← Nat.add_assoc] at this
    exact ok_val s (by simp [execOp, h, hu, hiv, indexAt_run ht he (show k < n by omega)]) this

theorem ok_indexBytes {x ix : Operand} {t e : TypeId} {xs : List UInt8} {y : UInt8} {ik : IntKind} {z : Int} (s : Sat E nx H w) (r : RepT E w tm a) (h : o.op = .indexAddr t x ix) (hx : avOf tm x = .bytes xs)
    (hi : avOf tm ix = .val (.int ik z)) (hz : 0 ≤ z) (hy : xs[z.toNat]? = some y) (ht : elemT P t = some e) (he : szT P e = some 1) : OpOk P o E H a w rid nx ⟨.iptr [.val (bv y)], [], nx⟩ := by
  obtain ⟨k, rfl, hk⟩ := int_toNat hz
  rw [hk] at hy
  have hiv := eval_val r hi
  have rx := r.eval x
  rw [hx] at rx
  generalize hu : a.eval x = u at rx
  cases rx with
  | bytes hn hc hm hb =>
    rename_i A n c
    have hlt : k < n := by rw [← hn]; exact (List.getElem?_eq_some_iff.1 hy).1
    obtain ⟨g, o', rfl, hI, hcell⟩ := hb (by omega)
    refine ok_val (u := .pointer (some ⟨g, o' + k, none⟩)) s (by simp [execOp, h, hu, hiv, indexAt_run ht he hlt]) ?_
    refine .iptr [bv y] hI rfl (fun m v hv => ?_) fun m a v h1 h2 => ?_
    · cases m with
      | zero => simp at hv; subst hv; exact hcell _ _ hy
      | succ m => simp at hv
    · cases m with
      | zero => simp at h1 h2; subst h1 h2; exact .val _
      | succ m => simp at h1

theorem ok_indexView {x ix : Operand} {t e : TypeId} {sz n : Nat} {g : Nat → List AV} {ik : IntKind} {z : Int} (s : Sat E nx H w) (r : RepT E w tm a) (h : o.op = .indexAddr t x ix) (hx : avOf tm x = .view sz n g)
    (hi : avOf tm ix = .val (.int ik z)) (hz : 0 ≤ z ∧ z < (n : Int)) (ht : elemT P t = some e) (he : szT P e = some sz) : OpOk P o E H a w rid nx ⟨.iptr (g z.toNat), [], nx⟩ := by
  obtain ⟨k, rfl, hk⟩ := int_toNat hz.1
  have hiv := eval_val r hi
  have rx := r.eval x
  rw [hx] at rx
  generalize hu : a.eval x = u at rx
  have hkn : k < n := by omega
  cases rx with
  | view cells hc hm hA hl hcell hr =>
    rename_i c b o' A
    obtain ⟨rfl, hI⟩ := hA (by omega)
    refine ok_val (u := .pointer (some ⟨b, o' + k * sz, none⟩)) s (by simp [execOp, h, hu, hiv, indexAt_run ht he hkn]) ?_
    rw [hk]
    refine .iptr ((List.range sz).map fun j => cells k j) hI (by simp [hl k hkn]) (fun m v hv => ?_) fun m a v h1 h2 => ?_
    · have hm : m < sz := by have := (List.getElem?_eq_some_iff.1 hv).1; simpa using this
      simp [hm] at hv
      subst hv
      exact hcell _ _ hkn hm
    · have hm : m < sz := by have := (List.getElem?_eq_some_iff.1 h2).1; simpa using this
      simp [hm] at h2
      subst h2
      exact hr _ _ _ hkn h1

/-! ### slices -/
/-- a slice expression's bound: left out, or a number -/
def boundA (tm : Nat → AV) (b : Option Operand) (d : Int) : Option Int :=
  match b with
  | none => some d
  | some x => match avOf tm x with
    | .val (.int _ z) => some z
    | _ => none

theorem boundA_eval {b : Option Operand} {d z : Int} (r : RepT E w tm a) (h : boundA tm b d = some z) : (b = none ∧ z = d) ∨ ∃ x k, b = some x ∧ a.eval x = .int k z := by
  cases b with
  | none => simp [boundA] at h; exact .inl ⟨rfl, h.symm⟩
  | some x =>
    simp only [boundA] at h
    split at h
    · rename_i k z' hv
      injection h with h
      subst h
      exact .inr ⟨x, k, rfl, eval_val r hv⟩
    · cases h

theorem sliceBounds_run {isS : Bool} {len cap : Nat} {low high max : Option Operand} {l h m : Nat} {dl dh dm : Int} (r : RepT E w tm a) (hl : boundA tm low dl = some (l : Int)) (hh : boundA tm high dh = some (h : Int)) (hm : boundA tm max dm = some (m : Int))
    (el : low = none → l = 0) (eh : high = none → h = len) (em : max = none → m = cap) (hx : max ≠ none → high ≠ none) (h1 : l ≤ h) (h2 : h ≤ m) (h3 : m ≤ cap) :
    (Instr.sliceBounds isS len cap (low.map a.eval) (high.map a.eval) (max.map a.eval)).run P w = .ok (l, h, m) w := by
  have b1 : ∀ (k : IntKind) (v y : Nat) (code : BoundsCode), v ≤ y → (Instr.sliceBound (.int k (v : Int)) y code).run P w = .ok v w := fun k v y code hv => by
    rw [run_sliceBound w k _ y code (by omega) (by omega)]; rfl
  rcases boundA_eval r hl with ⟨rfl, -⟩ | ⟨xl, kl, rfl, vl⟩ <;> rcases boundA_eval r hh with ⟨rfl, -⟩ | ⟨xh, kh, rfl, vh⟩ <;> rcases boundA_eval r hm with ⟨rfl, -⟩ | ⟨xm, km, rfl, vm⟩ <;>
    first
    | exact absurd rfl (hx (Option.some_ne_none _))
    | (simp only [Option.map_none, Option.map_some, Instr.sliceBounds, *]
       first
       | (obtain rfl := el rfl; obtain rfl := eh rfl; obtain rfl := em rfl; simp)
       | (obtain rfl := el rfl; obtain rfl := em rfl; simp [b1 _ _ _ _ h2])
       | (obtain rfl := el rfl; simp [b1 _ _ _ _ h3, b1 _ _ _ _ h2])
       | (obtain rfl := eh rfl; obtain rfl := em rfl; simp [b1 _ _ _ _ h1])
       | (obtain rfl := em rfl; simp [b1 _ _ _ _ h2, b1 _ _ _ _ h1])
       | simp [b1 _ _ _ _ h3, b1 _ _ _ _ h2, b1 _ _ _ _ h1])

theorem sliceAt_run {t e : TypeId} {es n c : Nat} {A : Option Addr} {low high max : Option Operand} {l h m : Nat} (ht : elemT P t = some e) (he : szT P e = some es)
    (hb : (Instr.sliceBounds true n c (low.map a.eval) (high.map a.eval) (max.map a.eval)).run P w = .ok (l, h, m) w) :
    (Instr.sliceAt t (.slice A n c) (low.map a.eval) (high.map a.eval) (max.map a.eval)).run P w = .ok (.slice (if m = l then A else A.map (·.add (l * es))) (h - l) (m - l)) w := by
  simp [Instr.sliceAt, Instr.slice, elemT_run ht, szT_run he, hb]

theorem ok_sliceSl {x : Operand} {low high max : Option Operand} {t e : TypeId} {id off n : Nat} {lim : Option Nat} {ob : AObj} {l h : Nat} {m : Option Nat} (s : Sat E nx H w) (r : RepT E w tm a) (hop : o.op = .slice t x low high max) (hx : avOf tm x = .sl id off n lim)
    (hid : H id = some ob) (ht : elemT P t = some e) (he : szT P e = some ob.sz) (hl : boundA tm low 0 = some (l : Int)) (hh : boundA tm high n = some (h : Int))
    (hm : ∀ d : Int, boundA tm max d = some (match m with | none => d | some k => (k : Int))) (hmn : max = none ↔ m = none) (hxx : max ≠ none → high ≠ none)
    (h1 : l ≤ h) (h2 : ∀ k, m = some k → h ≤ k) (h3 : off + m.getD h ≤ lim.getD ob.body.len) :
    OpOk P o E H a w rid nx ⟨.sl id (off + l) (h - l) (match m with | none => lim | some k => some (off + k)), [], nx⟩ := by
  have rx := r.eval x
  rw [hx] at rx
  generalize hu : a.eval x = u at rx
  have el : low = none → l = 0 := fun e => by subst e; simp [boundA] at hl; omega
  have eh : high = none → h = n := fun e => by subst e; simp [boundA] at hh; omega
  cases rx with
  | slnil hE hl0 =>
    have hlen : ob.body.len = 0 := by
      obtain ⟨p, hp, rr⟩ := s.rows _ _ hid
      rw [hE] at hp; cases hp
      exact rr.1
    have hk0 : m.getD h = 0 := by
      rw [hlen] at h3
      cases lim with
      | none => simp at h3; omega
      | some L => simp at h3 hl0; omega
    have hh0 : h = 0 := by
      cases m with
      | none => simpa using hk0
      | some k => have := h2 k rfl; simp at hk0; omega
    have hl0' : l = 0 := by omega
    subst hh0 hl0'
    have hb := sliceBounds_run (P := P) (w := w) (isS := true) (len := 0) (cap := 0) (m := 0) r hl hh (by rw [hm 0]; cases m with | none => rfl | some k => simp at hk0; subst hk0; rfl) el eh (fun _ => rfl) hxx (Nat.le_refl _) (Nat.le_refl _) (Nat.le_refl _)
    refine ok_val (u := .slice none 0 0) s (by simp [execOp, hop, hu, sliceAt_run ht he hb]) ?_
    refine .slnil hE ?_
    cases m with
    | none => exact hl0
    | some k => simp at hk0; simp [hk0]
  | sl hE hc hlc hn hA =>
    rename_i b c sz cap A
    have ro := s.at_ hid hE
    have hsz : sz = ob.sz := ro.1
    subst hsz
    have hcap : off + m.getD h ≤ cap + off := by
      rw [hc]
      cases lim with
      | none => exact Nat.le_trans h3 ro.2.2.1
      | some L => exact h3
    obtain ⟨mm, hmm⟩ : ∃ mm : Nat, mm = m.getD cap := ⟨_, rfl⟩
    have hmle : mm ≤ cap := by
      cases m with
      | none => simp at hmm; omega
      | some k => simp at hmm hcap; omega
    have hhm : h ≤ mm := by
      cases m with
      | none => simp at hmm hcap; omega
      | some k => have := h2 k rfl; simp at hmm; omega
    have hb := sliceBounds_run (P := P) (w := w) (isS := true) (len := n) (cap := cap) (m := mm) r hl hh (by rw [hm cap]; cases m with | none => simp at hmm; rw [hmm] | some k => simp at hmm; rw [hmm]) el eh
      (fun e => by have := hmn.1 e; rw [this] at hmm; simpa using hmm) hxx h1 hhm hmle
    refine ok_val s (by simp only [execOp, hop, hu]; rw [Sem.run_bind, sliceAt_run ht he hb]; rfl) ?_
    refine .sl hE (c := c) ?_ ?_ (by omega) ?_
    · cases m with
      | none => simp at hmm ⊢; omega
      | some k => simp at hmm ⊢; omega
    · cases m with
      | none => exact hlc
      | some k => simp at hmm ⊢; omega
    · by_cases h0 : mm - l = 0
      · rw [if_pos (by omega)]
        by_cases hl0 : off + l = 0
        · right
          rcases hA with hA | hA
          · omega
          · rw [hA, show off = 0 by omega, show l = 0 by omega]
        · exact .inl ⟨h0, hl0⟩
      · right
        rw [if_neg (by omega)]
        rcases hA with hA | hA
        · omega
        · rw [hA]
          simp [add_spot, Nat.add_mul]

theorem ok_sliceBytes {x : Operand} {low high max : Option Operand} {t e : TypeId} {xs : List UInt8} {l h : Nat} (s : Sat E nx H w) (r : RepT E w tm a) (hop : o.op = .slice t x low high max) (hx : avOf tm x = .bytes xs)
    (ht : elemT P t = some e) (he : szT P e = some 1) (hl : boundA tm low 0 = some (l : Int)) (hh : boundA tm high xs.length = some (h : Int)) (hm : max = none) (h1 : l ≤ h) (h2 : h ≤ xs.length) :
    OpOk P o E H a w rid nx ⟨.bytes ((xs.take h).drop l), [], nx⟩ := by
  subst hm
  have rx := r.eval x
  rw [hx] at rx
  generalize hu : a.eval x = u at rx
  have el : low = none → l = 0 := fun e => by subst e; simp [boundA] at hl; omega
  have eh : high = none → h = xs.length := fun e => by subst e; simp [boundA] at hh; omega
  cases rx with
  | bytes hn hc hmx hcell =>
    rename_i A n c
    subst hn
    have hb := sliceBounds_run (P := P) (w := w) (isS := true) (len := xs.length) (cap := c) (m := c) (dm := c) (max := none) r hl hh rfl el eh (fun _ => rfl) (fun e => absurd rfl e) h1 (by omega) (Nat.le_refl _)
    refine ok_val s (by simp only [execOp, hop, hu]; rw [Sem.run_bind, sliceAt_run ht he hb]; rfl) ?_
    refine .bytes (by simp; omega) (by omega) (by omega) fun h0 => ?_
    obtain ⟨g, o', rfl, hI, hx'⟩ := hcell (by omega)
    rw [if_neg (by omega)]
    refine ⟨g, o' + l, by simp [add_spot], hI, fun i y hy => ?_⟩
    rw [List.getElem?_drop, List.getElem?_take] at hy
    split at hy
    · rw [Nat.add_assoc]; exact hx' _ _ hy
    · cases hy

theorem ok_sliceBytes3 {x ho m : Operand} {low : Option Operand} {t e : TypeId} {xs : List UInt8} {l h mm : Nat} (s : Sat E nx H w) (r : RepT E w tm a) (hop : o.op = .slice t x low (some ho) (some m)) (hx : avOf tm x = .bytes xs)
    (ht : elemT P t = some e) (he : szT P e = some 1) (hl : boundA tm low 0 = some (l : Int)) (hh : boundA tm (some ho) xs.length = some (h : Int)) (hm : boundA tm (some m) 0 = some (mm : Int)) (h1 : l ≤ h) (h2 : h ≤ mm) (h3 : mm ≤ xs.length) :
    OpOk P o E H a w rid nx ⟨.bytes ((xs.take h).drop l), [], nx⟩ := by
  have rx := r.eval x
  rw [hx] at rx
  generalize hu : a.eval x = u at rx
  have el : low = none → l = 0 := fun e => by subst e; simp [boundA] at hl; omega
  cases rx with
  | bytes hn hc hmx hcell =>
    rename_i A n c
    subst hn
    have hb := sliceBounds_run (P := P) (w := w) (isS := true) (len := xs.length) (cap := c) (m := mm) (dm := 0) (max := some m) r hl hh hm el (fun e => by cases e) (fun e => by cases e) (fun _ e => by cases e) h1 h2 (by omega)
    refine ok_val s (by simp only [execOp, hop, hu]; rw [Sem.run_bind, sliceAt_run ht he hb]; rfl) ?_
    refine .bytes (by simp; omega) (by omega) (by omega) fun h0 => ?_
    obtain ⟨g, o', rfl, hI, hx'⟩ := hcell (by omega)
    rw [if_neg (by omega)]
    refine ⟨g, o' + l, by simp [add_spot], hI, fun i y hy => ?_⟩
    rw [List.getElem?_drop, List.getElem?_take] at hy
    split at hy
    · rw [Nat.add_assoc]; exact hx' _ _ hy
    · cases hy

theorem ok_sliceView {x : Operand} {low high max : Option Operand} {t e : TypeId} {sz n : Nat} {g : Nat → List AV} {l h : Nat} (s : Sat E nx H w) (r : RepT E w tm a) (hop : o.op = .slice t x low high max) (hx : avOf tm x = .view sz n g)
    (ht : elemT P t = some e) (he : szT P e = some sz) (hl : boundA tm low 0 = some (l : Int)) (hh : boundA tm high n = some (h : Int)) (hm : max = none) (h1 : l ≤ h) (h2 : h ≤ n) :
    OpOk P o E H a w rid nx ⟨.view sz (h - l) (fun i => g (l + i)), [], nx⟩ := by
  subst hm
  have rx := r.eval x
  rw [hx] at rx
  generalize hu : a.eval x = u at rx
  have el : low = none → l = 0 := fun e => by subst e; simp [boundA] at hl; omega
  have eh : high = none → h = n := fun e => by subst e; simp [boundA] at hh; omega
  cases rx with
  | view cells hc hmx hA hlen hcell hr =>
    rename_i c b o' A
    have hb := sliceBounds_run (P := P) (w := w) (isS := true) (len := n) (cap := c) (m := c) (dm := c) (max := none) r hl hh rfl el eh (fun _ => rfl) (fun e => absurd rfl e) h1 (by omega) (Nat.le_refl _)
    refine ok_val s (by simp only [execOp, hop, hu]; rw [Sem.run_bind, sliceAt_run ht he hb]; rfl) ?_
    refine .view (b := b) (o := o' + l * sz) (fun i j => cells (l + i) j) (by omega) (by omega) (fun h0 => ?_) (fun i hi => hlen _ (by omega)) (fun i j hi hj => ?_) fun i j a hi ha => hr _ _ _ (by omega) ha
    · obtain ⟨rfl, hI⟩ := hA (by omega)
      rw [if_neg (by omega)]
      exact ⟨by simp [add_spot], hI⟩
    · have := hcell (l + i) j (by omega) hj
      rw [Nat.add_mul] at this
      rw [show o' + l * sz + i * sz + j = o' + (l * sz + i * sz) + j by omega]
      exact this

theorem ok_sliceArr {x : Operand} {low high max : Option Operand} {t e : TypeId} {id i j n : Nat} {l h : Nat} (s : Sat E nx H w) (r : RepT E w tm a) (hop : o.op = .slice t x low high max) (hx : avOf tm x = .ptr id i j)
    (ht : arrT P t = some (n, e)) (he : szT P e = some 1) (hl : boundA tm low 0 = some (l : Int)) (hh : boundA tm high n = some (h : Int)) (hm : max = none) (h1 : l ≤ h) (h2 : h ≤ n) (h3 : l < n) (h4 : n ≤ maxLen) :
    OpOk P o E H a w rid nx ⟨.csl id i (j + l) (h - l) (n - l), [], nx⟩ := by
  subst hm
  obtain ⟨b, c, sz, hE, hu⟩ := eval_ptr r hx
  have el : low = none → l = 0 := fun e => by subst e; simp [boundA] at hl; omega
  have eh : high = none → h = n := fun e => by subst e; simp [boundA] at hh; omega
  have hb := sliceBounds_run (P := P) (w := w) (isS := false) (len := n) (cap := n) (m := n) (dm := n) (max := none) r hl hh rfl el eh (fun _ => rfl) (fun e => absurd rfl e) h1 h2 (Nat.le_refl _)
  have := Rep.csl (E := E) (w := w) (i := i) (j := j + l) (n := h - l) (c := n - l) hE (by omega) (by omega)
  rw [← Nat.add_assoc] at this
  simp only [Option.map_none] at hb
  exact ok_val s (by simp [execOp, hop, hu, Instr.sliceAt, arrT_run ht, Instr.sureAddr, hb, szT_run he, show ¬ n = l by omega, add_spot]) this

theorem ok_sliceStr {x : Operand} {low high max : Option Operand} {t : TypeId} {st : ByteArray} {l h : Nat} (s : Sat E nx H w) (r : RepT E w tm a) (hop : o.op = .slice t x low high max) (hx : avOf tm x = .val (.string st))
    (ht : P.underlying t = some .string) (hl : boundA tm low 0 = some (l : Int)) (hh : boundA tm high st.size = some (h : Int)) (hm : max = none) (h1 : l ≤ h) (h2 : h ≤ st.size) :
    OpOk P o E H a w rid nx ⟨.val (.string (st.extract l h)), [], nx⟩ := by
  subst hm
  have hu := eval_val r hx
  have el : low = none → l = 0 := fun e => by subst e; simp [boundA] at hl; omega
  have eh : high = none → h = st.size := fun e => by subst e; simp [boundA] at hh; omega
  have hb := sliceBounds_run (P := P) (w := w) (isS := false) (len := st.size) (cap := st.size) (m := st.size) (dm := st.size) (max := none) r hl hh rfl el eh (fun _ => rfl) (fun e => absurd rfl e) h1 h2 (Nat.le_refl _)
  simp only [Option.map_none] at hb
  exact ok_val s (by simp [execOp, hop, hu, Instr.sliceAt, Instr.slice, run_underlying ht, hb]) (.val _)

/-! ### lengths -/
def lenA : AV → Option Nat
  | .sl _ _ n _ => some n
  | .csl _ _ _ n _ => some n
  | .bytes xs => some xs.length
  | .view _ n _ => some n
  | _ => none

theorem lenA_rep {x : AV} {u : Value} {n : Nat} (h : lenA x = some n) (r : Rep E w x u) : ∃ A c, u = .slice A n c := by
  cases r <;> simp [lenA] at h <;> subst h
  · exact ⟨_, _, rfl⟩
  · exact ⟨_, _, rfl⟩
  · exact ⟨_, _, rfl⟩
  · rename_i hn _ _ _; rw [hn]; exact ⟨_, _, rfl⟩
  · exact ⟨_, _, rfl⟩

theorem ok_len {x : Operand} {t e : TypeId} {n : Nat} (s : Sat E nx H w) (r : RepT E w tm a) (h : o.op = .call { callee := .builtin .len, args := #[x], argTypes := #[t] }) (hx : lenA (avOf tm x) = some n) (ht : elemT P t = some e) :
    OpOk P o E H a w rid nx ⟨.val (.int .i64 n), [], nx⟩ := by
  obtain ⟨A, c, hu⟩ := lenA_rep hx (r.eval x)
  exact ok_val s (by simp [execOp, h, resolve, invoke, builtin, Builtin.len_, hu, elemT_run ht, goInt]) (.val _)
end
end Go.Proofs.Ytoekncmggjhmjaa
