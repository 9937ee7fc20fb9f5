/- Several texts in one: Ee, Ef, Eg. -/
import Derived.Test.YtfofhpkafhpicaaGreatDoorMea

/- An engine for walks, fifth part: addresses of fields and elements, slices, lengths. -/
namespace Go.Proofs.YtfofhpkafhpicaaGreatDoor
open Go.RowKit

section
variable {P : Program} {E : Env} {H : Heap} {w : World} {a : Act} {o : Oper} {nx rid : Nat} {tm : Nat → AV}

theorem fieldAt_run {t : TypeId} {f off n g o' : Nat} {ft : TypeId} (hf : fieldT P t f = some (off, ft)) (hs : szT P ft = some (n + 1)) (w : World) :
    (Instr.fieldAt t (.pointer (some ⟨g, o', none⟩)) f).run P w = .ok (.pointer (some ⟨g, o' + off, none⟩)) w := by
  unfold fieldT at hf
  split at hf
  · rename_i fs hfs
    simp only [Option.map_eq_some_iff, Prod.mk.injEq] at hf
    obtain ⟨y, hy, rfl, rfl⟩ := hf
    simp [Instr.fieldAt, run_underlying hfs, hy, Instr.sureAddr, fieldPlace, szT_run hs, add_spot]
  · cases hf

theorem ok_fieldAddr {x : Operand} {t ft : TypeId} {f off n id i j : Nat} (s : Sat E nx H w) (r : RepT E w tm a) (h : o.op = .fieldAddr t x f) (hx : avOf tm x = .ptr id i j)
    (hf : fieldT P t f = some (off, ft)) (hs : szT P ft = some (n + 1)) : OpOk P o E H a w rid nx ⟨.ptr id i (j + off), [], nx⟩ := by
  obtain ⟨b, c, sz, hE, hu⟩ := eval_ptr r hx
  have := Rep.ptr (E := E) (w := w) (i := i) (j := j + off) hE
  rw [← Nat.add_assoc] at this
  exact ok_val s (by simp [execOp, h, hu, fieldAt_run hf hs]) this

theorem ok_fieldAddrI {x : Operand} {t ft : TypeId} {f off n : Nat} {l : List AV} (s : Sat E nx H w) (r : RepT E w tm a) (h : o.op = .fieldAddr t x f) (hx : avOf tm x = .iptr l)
    (hf : fieldT P t f = some (off, ft)) (hs : szT P ft = some (n + 1)) : OpOk P o E H a w rid nx ⟨.iptr (l.drop off), [], nx⟩ := by
  have rx := r.eval x
  rw [hx] at rx
  generalize hu : a.eval x = u at rx
  cases rx with
  | iptr vs hI hn hc hr =>
    rename_i g o'
    refine ok_val (u := .pointer (some ⟨g, o' + off, none⟩)) s (by simp [execOp, h, hu, fieldAt_run hf hs]) ?_
    refine .iptr (vs.drop off) hI (by simp [hn]) (fun k v hv => ?_) fun k a v h1 h2 => ?_
    · rw [List.getElem?_drop] at hv
      rw [Nat.add_assoc]
      exact hc _ _ hv
    · rw [List.getElem?_drop] at h1 h2
      exact hr _ _ _ h1 h2

theorem indexAt_run {t e : TypeId} {es n c g o' k : Nat} {ik : IntKind} (ht : elemT P t = some e) (he : szT P e = some es) (hk : k < n) (w : World) :
    (Instr.indexAt t (.slice (some ⟨g, o', none⟩) n c) (.int ik (k : Int))).run P w = .ok (.pointer (some ⟨g, o' + k * es, none⟩)) w := by
  have h1 : (0 : Int) ≤ k ∧ (k : Int) < n := by omega
  simp only [Instr.indexAt, asIntOf, Sem.run_bind, Sem.run_pure, elemT_run ht, szT_run he, Result.andThen_ok, if_pos h1, Int.toNat_natCast, add_spot]

theorem indexAtArr_run {t e : TypeId} {es n g o' k : Nat} {ik : IntKind} (ht : arrT P t = some (n, e)) (he : szT P e = some es) (hk : k < n) (w : World) :
    (Instr.indexAt t (.pointer (some ⟨g, o', none⟩)) (.int ik (k : Int))).run P w = .ok (.pointer (some ⟨g, o' + k * es, none⟩)) w := by
  have h1 : (0 : Int) ≤ k ∧ (k : Int) < n := by omega
  simp only [Instr.indexAt, asIntOf, Sem.run_bind, Sem.run_pure, arrT_run ht, szT_run he, Result.andThen_ok, if_pos h1, Int.toNat_natCast, add_spot, Instr.sureAddr]

theorem int_toNat {z : Int} (h : 0 ≤ z) : ∃ k : Nat, z = (k : Int) ∧ z.toNat = k := ⟨z.toNat, by omega, rfl⟩

theorem ok_indexSl {x ix : Operand} {t e : TypeId} {id off n : Nat} {lim : Option Nat} {ob : AObj} {ik : IntKind} {z : Int} (s : Sat E nx H w) (r : RepT E w tm a) (h : o.op = .indexAddr t x ix) (hx : avOf tm x = .sl id off n lim)
    (hi : avOf tm ix = .val (.int ik z)) (hz : 0 ≤ z ∧ z < (n : Int)) (hid : H id = some ob) (ht : elemT P t = some e) (he : szT P e = some ob.sz) : OpOk P o E H a w rid nx ⟨.ptr id (off + z.toNat) 0, [], nx⟩ := by
  obtain ⟨k, rfl, hk⟩ := int_toNat hz.1
  have hiv := eval_val r hi
  have rx := r.eval x
  rw [hx] at rx
  generalize hu : a.eval x = u at rx
  cases rx with
  | slnil => omega
  | sl hE hc hl hn hA =>
    rename_i b c sz cap A
    have hsz : sz = ob.sz := (s.at_ hid hE).1
    subst hsz
    have hcap : cap ≠ 0 := by omega
    obtain rfl := hA.resolve_left fun h => hcap h.1
    have := Rep.ptr (E := E) (w := w) (i := off + k) (j := 0) hE
    rw [Nat.add_mul, Nat.add_zero] at this
    exact ok_val s (by simp [execOp, h, hu, hiv, indexAt_run ht he (show k < n by omega)]) this

theorem ok_indexArr {x ix : Operand} {t e : TypeId} {id i j n es : Nat} {ik : IntKind} {z : Int} (s : Sat E nx H w) (r : RepT E w tm a) (h : o.op = .indexAddr t x ix) (hx : avOf tm x = .ptr id i j)
    (hi : avOf tm ix = .val (.int ik z)) (hz : 0 ≤ z ∧ z < (n : Int)) (ht : arrT P t = some (n, e)) (he : szT P e = some es) : OpOk P o E H a w rid nx ⟨.ptr id i (j + z.toNat * es), [], nx⟩ := by
  obtain ⟨k, rfl, hk⟩ := int_toNat hz.1
  have hiv := eval_val r hi
  obtain ⟨b, c, sz, hE, hu⟩ := eval_ptr r hx
  have := Rep.ptr (E := E) (w := w) (i := i) (j := j + k * es) hE
  rw [← Nat.add_assoc] at this
  exact ok_val s (by simp [execOp, h, hu, hiv, indexAtArr_run ht he (show k < n by omega)]) this

theorem ok_indexCsl {x ix : Operand} {t e : TypeId} {id i j n c : Nat} {ik : IntKind} {z : Int} (s : Sat E nx H w) (r : RepT E w tm a) (h : o.op = .indexAddr t x ix) (hx : avOf tm x = .csl id i j n c)
    (hi : avOf tm ix = .val (.int ik z)) (hz : 0 ≤ z ∧ z < (n : Int)) (ht : elemT P t = some e) (he : szT P e = some 1) : OpOk P o E H a w rid nx ⟨.ptr id i (j + z.toNat), [], nx⟩ := by
  obtain ⟨k, rfl, hk⟩ := int_toNat hz.1
  have hiv := eval_val r hi
  have rx := r.eval x
  rw [hx] at rx
  generalize hu : a.eval x = u at rx
  cases rx with
  | csl hE hn hm =>
    have := Rep.ptr (E := E) (w := w) (i := i) (j := j + k) hE
    rw [← Nat.add_assoc] at this
    exact ok_val s (by simp [execOp, h, hu, hiv, indexAt_run ht he (show k < n by omega)]) this

theorem ok_indexBytes {x ix : Operand} {t e : TypeId} {xs : List UInt8} {y : UInt8} {ik : IntKind} {z : Int} (s : Sat E nx H w) (r : RepT E w tm a) (h : o.op = .indexAddr t x ix) (hx : avOf tm x = .bytes xs)
    (hi : avOf tm ix = .val (.int ik z)) (hz : 0 ≤ z) (hy : xs[z.toNat]? = some y) (ht : elemT P t = some e) (he : szT P e = some 1) : OpOk P o E H a w rid nx ⟨.iptr [.val (bv y)], [], nx⟩ := by
  obtain ⟨k, rfl, hk⟩ := int_toNat hz
  rw [hk] at hy
  have hiv := eval_val r hi
  have rx := r.eval x
  rw [hx] at rx
  generalize hu : a.eval x = u at rx
  cases rx with
  | bytes hn hc hm hb =>
    rename_i A n c
    have hlt : k < n := by rw [← hn]; exact (List.getElem?_eq_some_iff.1 hy).1
    obtain ⟨g, o', rfl, hI, hcell⟩ := hb (by omega)
    refine ok_val (u := .pointer (some ⟨g, o' + k, none⟩)) s (by simp [execOp, h, hu, hiv, indexAt_run ht he hlt]) ?_
    refine .iptr [bv y] hI rfl (fun m v hv => ?_) fun m a v h1 h2 => ?_
    · cases m with
      | zero => simp at hv; subst hv; exact hcell _ _ hy
      | succ m => simp at hv
    · cases m with
      | zero => simp at h1 h2; subst h1 h2; exact .val _
      | succ m => simp at h1

theorem ok_indexView {x ix : Operand} {t e : TypeId} {sz n : Nat} {g : Nat → List AV} {ik : IntKind} {z : Int} (s : Sat E nx H w) (r : RepT E w tm a) (h : o.op = .indexAddr t x ix) (hx : avOf tm x = .view sz n g)
    (hi : avOf tm ix = .val (.int ik z)) (hz : 0 ≤ z ∧ z < (n : Int)) (ht : elemT P t = some e) (he : szT P e = some sz) : OpOk P o E H a w rid nx ⟨.iptr (g z.toNat), [], nx⟩ := by
  obtain ⟨k, rfl, hk⟩ := int_toNat hz.1
  have hiv := eval_val r hi
  have rx := r.eval x
  rw [hx] at rx
  generalize hu : a.eval x = u at rx
  have hkn : k < n := by omega
  cases rx with
  | view cells hc hm hA hl hcell hr =>
    rename_i c b o' A
    obtain ⟨rfl, hI⟩ := hA (by omega)
    refine ok_val (u := .pointer (some ⟨b, o' + k * sz, none⟩)) s (by simp [execOp, h, hu, hiv, indexAt_run ht he hkn]) ?_
    rw [hk]
    refine .iptr ((List.range sz).map fun j => cells k j) hI (by simp [hl k hkn]) (fun m v hv => ?_) fun m a v h1 h2 => ?_
    · have hm : m < sz := by have := (List.getElem?_eq_some_iff.1 hv).1; simpa using this
      simp [hm] at hv
      subst hv
      exact hcell _ _ hkn hm
    · have hm : m < sz := by have := (List.getElem?_eq_some_iff.1 h2).1; simpa using this
      simp [hm] at h2
      subst h2
      exact hr _ _ _ hkn h1

/-! ### slices -/
/-- a slice expression's bound: left out, or a number -/
def boundA (tm : Nat → AV) (b : Option Operand) (d : Int) : Option Int :=
  match b with
  | none => some d
  | some x => match avOf tm x with
    | .val (.int _ z) => some z
    | _ => none

theorem boundA_eval {b : Option Operand} {d z : Int} (r : RepT E w tm a) (h : boundA tm b d = some z) : (b = none ∧ z = d) ∨ ∃ x k, b = some x ∧ a.eval x = .int k z := by
  cases b with
  | none => simp [boundA] at h; exact .inl ⟨rfl, h.symm⟩
  | some x =>
    simp only [boundA] at h
    split at h
    · rename_i k z' hv
      injection h with h
      subst h
      exact .inr ⟨x, k, rfl, eval_val r hv⟩
    · cases h

theorem sliceBounds_run {isS : Bool} {len cap : Nat} {low high max : Option Operand} {l h m : Nat} {dl dh dm : Int} (r : RepT E w tm a) (hl : boundA tm low dl = some (l : Int)) (hh : boundA tm high dh = some (h : Int)) (hm : boundA tm max dm = some (m : Int))
    (el : low = none → l = 0) (eh : high = none → h = len) (em : max = none → m = cap) (hx : max ≠ none → high ≠ none) (h1 : l ≤ h) (h2 : h ≤ m) (h3 : m ≤ cap) :
    (Instr.sliceBounds isS len cap (low.map a.eval) (high.map a.eval) (max.map a.eval)).run P w = .ok (l, h, m) w := by
  have b1 : ∀ (k : IntKind) (v y : Nat) (code : BoundsCode), v ≤ y → (Instr.sliceBound (.int k (v : Int)) y code).run P w = .ok v w := fun k v y code hv => by
    rw [run_sliceBound w k _ y code (by omega) (by omega)]; rfl
  rcases boundA_eval r hl with ⟨rfl, -⟩ | ⟨xl, kl, rfl, vl⟩ <;> rcases boundA_eval r hh with ⟨rfl, -⟩ | ⟨xh, kh, rfl, vh⟩ <;> rcases boundA_eval r hm with ⟨rfl, -⟩ | ⟨xm, km, rfl, vm⟩ <;>
    first
    | exact absurd rfl (hx (Option.some_ne_none _))
    | (simp only [Option.map_none, Option.map_some, Instr.sliceBounds, *]
       first
       | (obtain rfl := el rfl; obtain rfl := eh rfl; obtain rfl := em rfl; simp)
       | (obtain rfl := el rfl; obtain rfl := em rfl; simp [b1 _ _ _ _ h2])
       | (obtain rfl := el rfl; simp [b1 _ _ _ _ h3, b1 _ _ _ _ h2])
       | (obtain rfl := eh rfl; obtain rfl := em rfl; simp [b1 _ _ _ _ h1])
       | (obtain rfl := em rfl; simp [b1 _ _ _ _ h2, b1 _ _ _ _ h1])
       | simp [b1 _ _ _ _ h3, b1 _ _ _ _ h2, b1 _ _ _ _ h1])

theorem sliceAt_run {t e : TypeId} {es n c : Nat} {A : Option Addr} {low high max : Option Operand} {l h m : Nat} (ht : elemT P t = some e) (he : szT P e = some es)
    (hb : (Instr.sliceBounds true n c (low.map a.eval) (high.map a.eval) (max.map a.eval)).run P w = .ok (l, h, m) w) :
    (Instr.sliceAt t (.slice A n c) (low.map a.eval) (high.map a.eval) (max.map a.eval)).run P w = .ok (.slice (if m = l then A else A.map (·.add (l * es))) (h - l) (m - l)) w := by
  simp [Instr.sliceAt, Instr.slice, elemT_run ht, szT_run he, hb]

theorem ok_sliceSl {x : Operand} {low high max : Option Operand} {t e : TypeId} {id off n : Nat} {lim : Option Nat} {ob : AObj} {l h : Nat} {m : Option Nat} (s : Sat E nx H w) (r : RepT E w tm a) (hop : o.op = .slice t x low high max) (hx : avOf tm x = .sl id off n lim)
    (hid : H id = some ob) (ht : elemT P t = some e) (he : szT P e = some ob.sz) (hl : boundA tm low 0 = some (l : Int)) (hh : boundA tm high n = some (h : Int))
    (hm : ∀ d : Int, boundA tm max d = some (match m with | none => d | some k => (k : Int))) (hmn : max = none ↔ m = none) (hxx : max ≠ none → high ≠ none)
    (h1 : l ≤ h) (h2 : ∀ k, m = some k → h ≤ k) (h3 : off + m.getD h ≤ lim.getD ob.body.len) :
    OpOk P o E H a w rid nx ⟨.sl id (off + l) (h - l) (match m with | none => lim | some k => some (off + k)), [], nx⟩ := by
  have rx := r.eval x
  rw [hx] at rx
  generalize hu : a.eval x = u at rx
  have el : low = none → l = 0 := fun e => by subst e; simp [boundA] at hl; omega
  have eh : high = none → h = n := fun e => by subst e; simp [boundA] at hh; omega
  cases rx with
  | slnil hE hl0 =>
    have hlen : ob.body.len = 0 := by
      obtain ⟨p, hp, rr⟩ := s.rows _ _ hid
      rw [hE] at hp; cases hp
      exact rr.1
    have hk0 : m.getD h = 0 := by
      rw [hlen] at h3
      cases lim with
      | none => simp at h3; omega
      | some L => simp at h3 hl0; omega
    have hh0 : h = 0 := by
      cases m with
      | none => simpa using hk0
      | some k => have := h2 k rfl; simp at hk0; omega
    have hl0' : l = 0 := by omega
    subst hh0 hl0'
    have hb := sliceBounds_run (P := P) (w := w) (isS := true) (len := 0) (cap := 0) (m := 0) r hl hh (by rw [hm 0]; cases m with | none => rfl | some k => simp at hk0; subst hk0; rfl) el eh (fun _ => rfl) hxx (Nat.le_refl _) (Nat.le_refl _) (Nat.le_refl _)
    refine ok_val (u := .slice none 0 0) s (by simp [execOp, hop, hu, sliceAt_run ht he hb]) ?_
    refine .slnil hE ?_
    cases m with
    | none => exact hl0
    | some k => simp at hk0; simp [hk0]
  | sl hE hc hlc hn hA =>
    rename_i b c sz cap A
    have ro := s.at_ hid hE
    have hsz : sz = ob.sz := ro.1
    subst hsz
    have hcap : off + m.getD h ≤ cap + off := by
      rw [hc]
      cases lim with
      | none => exact Nat.le_trans h3 ro.2.2.1
      | some L => exact h3
    obtain ⟨mm, hmm⟩ : ∃ mm : Nat, mm = m.getD cap := ⟨_, rfl⟩
    have hmle : mm ≤ cap := by
      cases m with
      | none => simp at hmm; omega
      | some k => simp at hmm hcap; omega
    have hhm : h ≤ mm := by
      cases m with
      | none => simp at hmm hcap; omega
      | some k => have := h2 k rfl; simp at hmm; omega
    have hb := sliceBounds_run (P := P) (w := w) (isS := true) (len := n) (cap := cap) (m := mm) r hl hh (by rw [hm cap]; cases m with | none => simp at hmm; rw [hmm] | some k => simp at hmm; rw [hmm]) el eh
      (fun e => by have := hmn.1 e; rw [this] at hmm; simpa using hmm) hxx h1 hhm hmle
    refine ok_val s (by simp only [execOp, hop, hu]; rw [Sem.run_bind, sliceAt_run ht he hb]; rfl) ?_
    refine .sl hE (c := c) ?_ ?_ (by omega) ?_
    · cases m with
      | none => simp at hmm ⊢; omega
      | some k => simp at hmm ⊢; omega
    · cases m with
      | none => exact hlc
      | some k => simp at hmm ⊢; omega
    · by_cases h0 : mm - l = 0
      · rw [if_pos (by omega)]
        by_cases hl0 : off + l = 0
        · right
          rcases hA with hA | hA
          · omega
          · rw [hA, show off = 0 by omega, show l = 0 by omega]
        · exact .inl ⟨h0, hl0⟩
      · right
        rw [if_neg (by omega)]
        rcases hA with hA | hA
        · omega
        · rw [hA]
          simp [add_spot, Nat.add_mul]

theorem ok_sliceBytes {x : Operand} {low high max : Option Operand} {t e : TypeId} {xs : List UInt8} {l h : Nat} (s : Sat E nx H w) (r : RepT E w tm a) (hop : o.op = .slice t x low high max) (hx : avOf tm x = .bytes xs)
    (ht : elemT P t = some e) (he : szT P e = some 1) (hl : boundA tm low 0 = some (l : Int)) (hh : boundA tm high xs.length = some (h : Int)) (hm : max = none) (h1 : l ≤ h) (h2 : h ≤ xs.length) :
    OpOk P o E H a w rid nx ⟨.bytes ((xs.take h).drop l), [], nx⟩ := by
  subst hm
  have rx := r.eval x
  rw [hx] at rx
  generalize hu : a.eval x = u at rx
  have el : low = none → l = 0 := fun e => by subst e; simp [boundA] at hl; omega
  have eh : high = none → h = xs.length := fun e => by subst e; simp [boundA] at hh; omega
  cases rx with
  | bytes hn hc hmx hcell =>
    rename_i A n c
    subst hn
    have hb := sliceBounds_run (P := P) (w := w) (isS := true) (len := xs.length) (cap := c) (m := c) (dm := c) (max := none) r hl hh rfl el eh (fun _ => rfl) (fun e => absurd rfl e) h1 (by omega) (Nat.le_refl _)
    refine ok_val s (by simp only [execOp, hop, hu]; rw [Sem.run_bind, sliceAt_run ht he hb]; rfl) ?_
    refine .bytes (by simp; omega) (by omega) (by omega) fun h0 => ?_
    obtain ⟨g, o', rfl, hI, hx'⟩ := hcell (by omega)
    rw [if_neg (by omega)]
    refine ⟨g, o' + l, by simp [add_spot], hI, fun i y hy => ?_⟩
    rw [List.getElem?_drop, List.getElem?_take] at hy
    split at hy
    · rw [Nat.add_assoc]; exact hx' _ _ hy
    · cases hy

theorem ok_sliceCsl {x : Operand} {low high max : Option Operand} {t e : TypeId} {id i j n c : Nat} {l h : Nat} (s : Sat E nx H w) (r : RepT E w tm a) (hop : o.op = .slice t x low high max) (hx : avOf tm x = .csl id i j n c)
    (ht : elemT P t = some e) (he : szT P e = some 1) (hl : boundA tm low 0 = some (l : Int)) (hh : boundA tm high n = some (h : Int)) (hm : max = none) (h1 : l ≤ h) (h2 : h ≤ n) :
    OpOk P o E H a w rid nx ⟨if c = l then .csl id i j (h - l) (c - l) else .csl id i (j + l) (h - l) (c - l), [], nx⟩ := by
  subst hm
  have rx := r.eval x
  rw [hx] at rx
  generalize hu : a.eval x = u at rx
  have el : low = none → l = 0 := fun e => by subst e; simp [boundA] at hl; omega
  have eh : high = none → h = n := fun e => by subst e; simp [boundA] at hh; omega
  cases rx with
  | csl hE hn hm =>
    have hb := sliceBounds_run (P := P) (w := w) (isS := true) (len := n) (cap := c) (m := c) (dm := c) (max := none) r hl hh rfl el eh (fun _ => rfl) (fun e => absurd rfl e) h1 (by omega) (Nat.le_refl _)
    refine ok_val s (by simp only [execOp, hop, hu]; rw [Sem.run_bind, sliceAt_run ht he hb]; rfl) ?_
    by_cases h0 : c = l
    · rw [if_pos h0, if_pos h0]
      exact Rep.csl (E := E) (w := w) (i := i) (j := j) (n := h - l) (c := c - l) hE (by omega) (by omega)
    · rw [if_neg h0, if_neg h0]
      have := Rep.csl (E := E) (w := w) (i := i) (j := j + l) (n := h - l) (c := c - l) hE (by omega) (by omega)
      simpa [add_spot, Nat.add_assoc] using this

theorem ok_sliceBytes3 {x ho m : Operand} {low : Option Operand} {t e : TypeId} {xs : List UInt8} {l h mm : Nat} (s : Sat E nx H w) (r : RepT E w tm a) (hop : o.op = .slice t x low (some ho) (some m)) (hx : avOf tm x = .bytes xs)
    (ht : elemT P t = some e) (he : szT P e = some 1) (hl : boundA tm low 0 = some (l : Int)) (hh : boundA tm (some ho) xs.length = some (h : Int)) (hm : boundA tm (some m) 0 = some (mm : Int)) (h1 : l ≤ h) (h2 : h ≤ mm) (h3 : mm ≤ xs.length) :
    OpOk P o E H a w rid nx ⟨.bytes ((xs.take h).drop l), [], nx⟩ := by
  have rx := r.eval x
  rw [hx] at rx
  generalize hu : a.eval x = u at rx
  have el : low = none → l = 0 := fun e => by subst e; simp [boundA] at hl; omega
  cases rx with
  | bytes hn hc hmx hcell =>
    rename_i A n c
    subst hn
    have hb := sliceBounds_run (P := P) (w := w) (isS := true) (len := xs.length) (cap := c) (m := mm) (dm := 0) (max := some m) r hl hh hm el (fun e => by cases e) (fun e => by cases e) (fun _ e => by cases e) h1 h2 (by omega)
    refine ok_val s (by simp only [execOp, hop, hu]; rw [Sem.run_bind, sliceAt_run ht he hb]; rfl) ?_
    refine .bytes (by simp; omega) (by omega) (by omega) fun h0 => ?_
    obtain ⟨g, o', rfl, hI, hx'⟩ := hcell (by omega)
    rw [if_neg (by omega)]
    refine ⟨g, o' + l, by simp [add_spot], hI, fun i y hy => ?_⟩
    rw [List.getElem?_drop, List.getElem?_take] at hy
    split at hy
    · rw [Nat.add_assoc]; exact hx' _ _ hy
    · cases hy

theorem ok_sliceView {x : Operand} {low high max : Option Operand} {t e : TypeId} {sz n : Nat} {g : Nat → List AV} {l h : Nat} (s : Sat E nx H w) (r : RepT E w tm a) (hop : o.op = .slice t x low high max) (hx : avOf tm x = .view sz n g)
    (ht : elemT P t = some e) (he : szT P e = some sz) (hl : boundA tm low 0 = some (l : Int)) (hh : boundA tm high n = some (h : Int)) (hm : max = none) (h1 : l ≤ h) (h2 : h ≤ n) :
    OpOk P o E H a w rid nx ⟨.view sz (h - l) (fun i => g (l + i)), [], nx⟩ := by
  subst hm
  have rx := r.eval x
  rw [hx] at rx
  generalize hu : a.eval x = u at rx
  have el : low = none → l = 0 := fun e => by subst e; simp [boundA] at hl; omega
  have eh : high = none → h = n := fun e => by subst e; simp [boundA] at hh; omega
  cases rx with
  | view cells hc hmx hA hlen hcell hr =>
    rename_i c b o' A
    have hb := sliceBounds_run (P := P) (w := w) (isS := true) (len := n) (cap := c) (m := c) (dm := c) (max := none) r hl hh rfl el eh (fun _ => rfl) (fun e => absurd rfl e) h1 (by omega) (Nat.le_refl _)
    refine ok_val s (by simp only [execOp, hop, hu]; rw [Sem.run_bind, sliceAt_run ht he hb]; rfl) ?_
    refine .view (b := b) (o := o' + l * sz) (fun i j => cells (l + i) j) (by omega) (by omega) (fun h0 => ?_) (fun i hi => hlen _ (by omega)) (fun i j hi hj => ?_) fun i j a hi ha => hr _ _ _ (by omega) ha
    · obtain ⟨rfl, hI⟩ := hA (by omega)
      rw [if_neg (by omega)]
      exact ⟨by simp [add_spot], hI⟩
    · have := hcell (l + i) j (by omega) hj
      rw [Nat.add_mul] at this
      rw [show o' + l * sz + i * sz + j = o' + (l * sz + i * sz) + j by omega]
      exact this

theorem ok_sliceArr {x : Operand} {low high max : Option Operand} {t e : TypeId} {id i j n : Nat} {l h : Nat} (s : Sat E nx H w) (r : RepT E w tm a) (hop : o.op = .slice t x low high max) (hx : avOf tm x = .ptr id i j)
    (ht : arrT P t = some (n, e)) (he : szT P e = some 1) (hl : boundA tm low 0 = some (l : Int)) (hh : boundA tm high n = some (h : Int)) (hm : max = none) (h1 : l ≤ h) (h2 : h ≤ n) (h3 : l < n) (h4 : n ≤ maxLen) :
    OpOk P o E H a w rid nx ⟨.csl id i (j + l) (h - l) (n - l), [], nx⟩ := by
  subst hm
  obtain ⟨b, c, sz, hE, hu⟩ := eval_ptr r hx
  have el : low = none → l = 0 := fun e => by subst e; simp [boundA] at hl; omega
  have eh : high = none → h = n := fun e => by subst e; simp [boundA] at hh; omega
  have hb := sliceBounds_run (P := P) (w := w) (isS := false) (len := n) (cap := n) (m := n) (dm := n) (max := none) r hl hh rfl el eh (fun _ => rfl) (fun e => absurd rfl e) h1 h2 (Nat.le_refl _)
  have := Rep.csl (E := E) (w := w) (i := i) (j := j + l) (n := h - l) (c := n - l) hE (by omega) (by omega)
  rw [← Nat.add_assoc] at this
  simp only [Option.map_none] at hb
  exact ok_val s (by simp [execOp, hop, hu, Instr.sliceAt, arrT_run ht, Instr.sureAddr, hb, szT_run he, show ¬ n = l by omega, add_spot]) this

theorem ok_sliceStr {x : Operand} {low high max : Option Operand} {t : TypeId} {st : ByteArray} {l h : Nat} (s : Sat E nx H w) (r : RepT E w tm a) (hop : o.op = .slice t x low high max) (hx : avOf tm x = .val (.string st))
    (ht : P.underlying t = some .string) (hl : boundA tm low 0 = some (l : Int)) (hh : boundA tm high st.size = some (h : Int)) (hm : max = none) (h1 : l ≤ h) (h2 : h ≤ st.size) :
    OpOk P o E H a w rid nx ⟨.val (.string (st.extract l h)), [], nx⟩ := by
  subst hm
  have hu := eval_val r hx
  have el : low = none → l = 0 := fun e => by subst e; simp [boundA] at hl; omega
  have eh : high = none → h = st.size := fun e => by subst e; simp [boundA] at hh; omega
  have hb := sliceBounds_run (P := P) (w := w) (isS := false) (len := st.size) (cap := st.size) (m := st.size) (dm := st.size) (max := none) r hl hh rfl el eh (fun _ => rfl) (fun e => absurd rfl e) h1 h2 (Nat.le_refl _)
  simp only [Option.map_none] at hb
  exact ok_val s (by simp [execOp, hop, hu, Instr.sliceAt, Instr.slice, run_underlying ht, hb]) (.val _)

/-! ### lengths -/
def lenA : AV → Option Nat
  | .sl _ _ n _ => some n
  | .csl _ _ _ n _ => some n
  | .bytes xs => some xs.length
  | .view _ n _ => some n
  | _ => none

theorem lenA_rep {x : AV} {u : Value} {n : Nat} (h : lenA x = some n) (r : Rep E w x u) : ∃ A c, u = .slice A n c := by
  cases r <;> simp [lenA] at h <;> subst h
  · exact ⟨_, _, rfl⟩
  · exact ⟨_, _, rfl⟩
  · exact ⟨_, _, rfl⟩
  · rename_i hn _ _ _; rw [hn]; exact ⟨_, _, rfl⟩
  · exact ⟨_, _, rfl⟩

theorem ok_len {x : Operand} {t e : TypeId} {n : Nat} (s : Sat E nx H w) (r : RepT E w tm a) (h : o.op = .call { callee := .builtin .len, args := #[x], argTypes := #[t] }) (hx : lenA (avOf tm x) = some n) (ht : elemT P t = some e) :
    OpOk P o E H a w rid nx ⟨.val (.int .i64 n), [], nx⟩ := by
  obtain ⟨A, c, hu⟩ := lenA_rep hx (r.eval x)
  exact ok_val s (by simp [execOp, h, resolve, invoke, builtin, Builtin.len_, hu, elemT_run ht, goInt]) (.val _)
end
end Go.Proofs.YtfofhpkafhpicaaGreatDoor

/- An engine for walks, sixth part: structs and slices that are built, bytes and texts. -/
namespace Go.Proofs.YtfofhpkafhpicaaGreatDoor
open Go.RowKit

theorem foldSet : ∀ (l : List Value) (n off : Nat) (cs : Array Value),
    ((l.zipIdx n).foldl (fun cs (p : Value × Nat) => cs.setIfInBounds (off + p.2) p.1) cs).size = cs.size ∧
    ∀ k, ((l.zipIdx n).foldl (fun cs (p : Value × Nat) => cs.setIfInBounds (off + p.2) p.1) cs)[k]? = if off + n ≤ k ∧ k < off + n + l.length ∧ k < cs.size then l[k - (off + n)]? else cs[k]?
  | [], n, off, cs => ⟨rfl, fun k => by rw [if_neg (by simp; omega)]; rfl⟩
  | v :: l, n, off, cs => by
    obtain ⟨h1, h2⟩ := foldSet l (n + 1) off (cs.setIfInBounds (off + n) v)
    simp only [List.zipIdx_cons, List.foldl_cons]
    refine ⟨by rw [h1]; simp, fun k => ?_⟩
    rw [h2, Array.size_setIfInBounds]
    by_cases hk : k = off + n
    · subst hk
      rw [if_neg (by omega)]
      by_cases hs : off + n < cs.size
      · rw [if_pos ⟨by omega, by simp, hs⟩]; simp [hs]
      · rw [if_neg (by omega), Array.getElem?_eq_none (by simp; omega), Array.getElem?_eq_none (by omega)]
    · by_cases hc : off + (n + 1) ≤ k ∧ k < off + (n + 1) + l.length ∧ k < cs.size
      · rw [if_pos hc, if_pos ⟨by omega, by simp; omega, hc.2.2⟩, show k - (off + n) = (k - (off + (n + 1))) + 1 by omega, List.getElem?_cons_succ]
      · rw [if_neg hc, if_neg (by simp; omega), Array.getElem?_setIfInBounds_ne (by omega)]

def Reps (E : Env) (w : World) (l : List AV) (cs : Array Value) : Prop := cs.size = l.length ∧ ∀ (k : Nat) a v, l[k]? = some a → cs[k]? = some v → Rep E w a v

/-- parts laid into a row of cells -/
def fillA (place : Nat → Option (Nat × Nat)) : List AV → List (Nat × AV) → Option (List AV)
  | l, [] => some l
  | l, (i, x) :: rest =>
    match place i, cellsOf x with
    | some (off, size), some cs => if cs.length = size ∧ off + cs.length ≤ l.length then fillA place (splice l off cs) rest else none
    | _, _ => none

section
variable {P : Program} {E : Env} {H : Heap} {w : World} {a : Act} {o : Oper} {nx rid : Nat} {tm : Nat → AV}

theorem fillA_ok (r : RepT E w tm a) (place : Nat → Option (Nat × Nat)) : ∀ (ps : List (Nat × Operand)) (l l' : List AV) (cs : Array Value), fillA place l (ps.map fun p => (p.1, avOf tm p.2)) = some l' → Reps E w l cs →
    ∃ cs', Instr.fill place cs (ps.map fun p => (p.1, a.eval p.2)) = some cs' ∧ Reps E w l' cs' ∧ l'.length = l.length
  | [], l, l', cs, h, hr => by
    simp only [List.map_nil, fillA, Option.some.injEq] at h
    subst h
    exact ⟨cs, rfl, hr, rfl⟩
  | (i, x) :: ps, l, l', cs, h, hr => by
    simp only [List.map_cons, fillA] at h
    split at h
    · rename_i off size c1 h1 h2
      split at h
      · rename_i hc
        obtain ⟨hn, hrep⟩ := cellsOf_rep h2 (r.eval x)
        obtain ⟨f1, f2⟩ := foldSet (a.eval x).cells.toList 0 off cs
        have hlen : (splice l off c1).length = l.length := splice_len _ _ _ hc.2
        have hreps : Reps E w (splice l off c1) (((a.eval x).cells.toList.zipIdx 0).foldl (fun cs (p : Value × Nat) => cs.setIfInBounds (off + p.2) p.1) cs) := ⟨by rw [f1, hr.1, hlen], fun k y v hy hv => by
          rw [splice_get _ _ _ hc.2] at hy
          rw [f2] at hv
          by_cases hk : off ≤ k ∧ k < off + c1.length
          · rw [if_pos hk] at hy
            rw [if_pos ⟨by omega, by simp [hn]; omega, by rw [hr.1]; omega⟩, Array.getElem?_toList] at hv
            simp only [Nat.add_zero] at hv
            exact hrep _ _ _ hy hv
          · rw [if_neg hk] at hy
            rw [if_neg (by simp [hn]; omega)] at hv
            exact hr.2 _ _ _ hy hv⟩
        obtain ⟨cs', e1, e2, e3⟩ := fillA_ok r place ps (splice l off c1) l' _ h hreps
        refine ⟨cs', ?_, e2, by rw [e3, hlen]⟩
        simp only [List.map_cons, Instr.fill, h1]
        rw [if_neg (by simp; rw [hn, hr.1]; omega)]
        rw [← e1]
        congr 1
        rw [← Array.foldl_toList]
        simp
      · cases h
    · cases h

theorem reps_vals (l : List Value) (cs : Array Value) (h : cs.toList = l) : Reps E w (l.map .val) cs := by
  subst h
  refine ⟨by simp, fun k a v h1 h2 => ?_⟩
  simp only [List.getElem?_map, Option.map_eq_some_iff, Array.getElem?_toList] at h1
  obtain ⟨y, hy, rfl⟩ := h1
  rw [hy] at h2
  injection h2 with h2
  subst h2
  exact .val _

/-- the places of a struct's fields, of an array's elements -/
def placesT (P : Program) (t : TypeId) : Option (Nat → Option (Nat × Nat)) :=
  match P.underlying t with
  | some (.struct fs) => (pureEval P (fs.mapM fun f => do pure (f.offset, ← sizeOf f.type))).map fun ps i => ps[i]?
  | some (.array _ e) => (szT P e).map fun n i => some (i * n, n)
  | _ => none

theorem ok_build {t : TypeId} {ps : Array (Nat × Operand)} {z : List Value} {pl : Nat → Option (Nat × Nat)} {l : List AV} (s : Sat E nx H w) (r : RepT E w tm a) (h : o.op = .build t ps) (hz : zeroT P t = some z)
    (hp : placesT P t = some pl) (hl : fillA pl (z.map .val) (ps.toList.map fun p => (p.1, avOf tm p.2)) = some l) : OpOk P o E H a w rid nx ⟨.agg l, [], nx⟩ := by
  obtain ⟨zv, hz1, hz2⟩ := zeroT_run hz w
  obtain ⟨cs', e1, e2, _⟩ := fillA_ok r pl _ _ _ zv.cells hl (reps_vals z zv.cells hz2)
  refine ok_val (u := .agg cs') s ?_ (.agg e2.1 e2.2)
  unfold placesT at hp
  have hmap : (ps.map fun x : Nat × Operand => match x with | (i, x) => (i, a.eval x)).toList = ps.toList.map fun p => (p.1, a.eval p.2) := by simp
  split at hp
  · rename_i fs hfs
    obtain ⟨pa, hpa, rfl⟩ := Option.map_eq_some_iff.1 hp
    have := pureEval_run (P := P) _ w hpa
    simp only [execOp, h, Instr.build, Sem.run_bind, hz1, Result.andThen_ok, run_underlying hfs, this, hmap, e1]
    rfl
  · rename_i n e hfs
    obtain ⟨m, hm, rfl⟩ := Option.map_eq_some_iff.1 hp
    simp only [execOp, h, Instr.build, Sem.run_bind, hz1, Result.andThen_ok, run_underlying hfs, szT_run hm, hmap, e1]
    rfl
  · cases hp

/-! ### slices that are made -/
/-- a row of cells cut into elements -/
def chunk (sz : Nat) : Nat → List AV → List (List AV)
  | 0, _ => []
  | n + 1, l => l.take sz :: chunk sz n (l.drop sz)

theorem chunk_len (sz : Nat) : ∀ (n : Nat) (l : List AV), (chunk sz n l).length = n
  | 0, _ => rfl
  | n + 1, l => by simp [chunk, chunk_len sz n]

theorem chunk_get (sz : Nat) : ∀ (n : Nat) (l : List AV) (i j : Nat), l.length = n * sz → i < n → j < sz → ((chunk sz n l)[i]?).bind (·[j]?) = l[i * sz + j]?
  | 0, l, i, j, _, hi, _ => absurd hi (by omega)
  | n + 1, l, 0, j, hl, _, hj => by simp [chunk, hj]
  | n + 1, l, i + 1, j, hl, hi, hj => by
    simp only [chunk, List.getElem?_cons_succ]
    rw [chunk_get sz n (l.drop sz) i j (by rw [List.length_drop, hl, Nat.add_mul]; omega) (by omega) hj, List.getElem?_drop]
    congr 1
    rw [Nat.add_mul]
    omega

/-- a byte among exact values -/
def byteOf : AV → Option UInt8
  | .val (.int .u8 (.ofNat n)) => some (UInt8.ofNat n)
  | _ => none
def isByteAV : AV → Prop
  | .val (.int .u8 z) => 0 ≤ z ∧ z < 256
  | _ => False
def byteZ : AV → Int
  | .val (.int .u8 z) => z
  | _ => 0
def byteVal (x : AV) : UInt8 := UInt8.ofNat (byteZ x).toNat

theorem byteVal_eq {x : AV} (h : isByteAV x) : x = .val (bv (byteVal x)) := by
  unfold isByteAV at h
  split at h
  · rename_i z
    simp only [byteVal, byteZ, bv]
    have hz : z.toNat < 256 := by omega
    have : ((UInt8.ofNat z.toNat).toNat : Int) = z := by
      rw [UInt8.toNat_ofNat', Nat.mod_eq_of_lt hz]
      omega
    rw [this]
  · exact h.elim

/-- the object that a made slice lies in -/
def objRows (t : TypeId) (sz n : Nat) (l : List AV) : AObj := ⟨t, sz, true, false, .rows (chunk sz n l)⟩
def objBytes (t : TypeId) (xs : List UInt8) : AObj := ⟨t, 1, true, false, .bytes xs⟩

theorem new_rows (s : Sat E nx H w) {nx' : Nat} (hr : E.f rid = none) (hnx : nx ≤ nx') (hrid : rid < nx') {t : TypeId} {sz n : Nat} {cs : Array Value} {l : List AV} (hl : l.length = n * sz) (hn : n ≤ maxLen) (hrep : Reps E w l cs) :
    Post E H w rid nx ⟨.sl rid 0 n none, [(rid, some (objRows t sz n l))], nx'⟩ (E.put rid (.at_ w.heap.size n sz)) (w.alloc (.cells cs t)) (.slice (some ⟨w.heap.size, 0, none⟩) n n) := by
  have h := sat_new (w' := w.alloc (.cells cs t)) (o := objRows t sz n l) (c := n) (fr := (0, 0)) (cur := cs) s hr hnx hrid rfl ⟨rfl, rfl, rfl⟩ (by simp [objRows, hrep.1, hl]) (by simp [objRows, Body.len, chunk_len]) hn (by simp [objRows, Body.len, chunk_len]) (.inl rfl)
    (by
      intro i hi j hj
      simp only [objRows, Body.len, chunk_len] at hi hj
      have hlt : i * sz + j < l.length := by rw [hl]; exact flat_lt hj hi
      have h1 : l[i * sz + j]? = some l[i * sz + j] := List.getElem?_eq_getElem hlt
      have h2 : cs[i * sz + j]? = some (cs[i * sz + j]'(by rw [hrep.1]; exact hlt)) := by simp [hrep.1, hlt]
      exact ⟨_, _, by simp only [objRows, Body.cell?]; rw [chunk_get sz n l i j hl hi hj]; exact h1, h2, hrep.2 _ _ _ h1 h2⟩)
  refine ⟨h.1, ?_, h.2.weaken fun id e => .inl e, hnx⟩
  have := Rep.sl (E := E.put rid (.at_ w.heap.size n sz)) (w := w.alloc (.cells cs t)) (id := rid) (off := 0) (n := n) (lim := none) (cap := n) (A := some ⟨w.heap.size, 0, none⟩) (Env.put_same E rid (.at_ w.heap.size n sz)) rfl (Nat.le_refl _) (Nat.le_refl _) (.inr (by simp))
  exact this

theorem new_bytes (s : Sat E nx H w) {nx' : Nat} (hr : E.f rid = none) (hnx : nx ≤ nx') (hrid : rid < nx') {t : TypeId} {xs : List UInt8} (hn : xs.length ≤ maxLen) :
    Post E H w rid nx ⟨.sl rid 0 xs.length none, [(rid, some (objBytes t xs))], nx'⟩ (E.put rid (.at_ w.heap.size xs.length 1)) (w.alloc (.cells (xs.map bv).toArray t)) (.slice (some ⟨w.heap.size, 0, none⟩) xs.length xs.length) := by
  have h := sat_new (w' := w.alloc (.cells (xs.map bv).toArray t)) (o := objBytes t xs) (c := xs.length) (fr := (0, 0)) (cur := (xs.map bv).toArray) s hr hnx hrid rfl ⟨rfl, rfl, rfl⟩ (by simp [objBytes]) (by simp [objBytes, Body.len]) hn (by simp [objBytes, Body.len]) (.inl rfl)
    (by
      intro i hi j hj
      simp only [objBytes, Body.len] at hi hj
      obtain rfl : j = 0 := by omega
      exact ⟨.val (bv xs[i]), bv xs[i], by simp [objBytes, Body.cell?, hi], by simp [objBytes, hi], .val _⟩)
  refine ⟨h.1, ?_, h.2.weaken fun id e => .inl e, hnx⟩
  exact Rep.sl (E := E.put rid (.at_ w.heap.size xs.length 1)) (w := w.alloc (.cells (xs.map bv).toArray t)) (id := rid) (off := 0) (n := xs.length) (lim := none) (cap := xs.length) (A := some ⟨w.heap.size, 0, none⟩) (Env.put_same E rid (.at_ w.heap.size xs.length 1)) rfl (Nat.le_refl _) (Nat.le_refl _) (.inr (by simp))

theorem range_mod (z : Array Value) (n : Nat) (l : List Value) (hl : z.toList = l) : ((Array.range (n * z.size)).map fun i => z[i % z.size]!).toList = (List.replicate n l).flatten := by
  subst hl
  apply List.ext_getElem?
  intro k
  by_cases hz : z.size = 0
  · have : z = #[] := Array.eq_empty_of_size_eq_zero hz
    subst this
    simp
  · by_cases hk : k < n * z.size
    · have h1 : k / z.size < n := by rw [Nat.div_lt_iff_lt_mul (by omega)]; exact hk
      have h2 : k % z.size < z.size := Nat.mod_lt _ (by omega)
      rw [Array.getElem?_toList, Array.getElem?_map, Array.getElem?_range]
      have h3 : ∀ (m k : Nat), k < m * z.size → (List.replicate m z.toList).flatten[k]? = z.toList[k % z.size]? := by
        intro m
        induction m with
        | zero => intro k hk; omega
        | succ m ih =>
          intro k hk
          rw [List.replicate_succ, List.flatten_cons]
          by_cases hk2 : k < z.size
          · rw [List.getElem?_append_left (by simpa using hk2), Nat.mod_eq_of_lt hk2]
          · have hzl : z.toList.length = z.size := by simp
            rw [List.getElem?_append_right (by rw [hzl]; omega), hzl, ih (k - z.size) (by rw [Nat.add_mul] at hk; omega), ← Nat.mod_eq_sub_mod (by omega)]
      rw [h3 n k hk]
      simp [hk, h2]
    · rw [List.getElem?_eq_none (by simp; omega), List.getElem?_eq_none (by simp; omega)]

theorem ok_buildSlice {t e : TypeId} {n sz : Nat} {ps : Array (Nat × Operand)} {z : List Value} {l : List AV} {nx' : Nat} (s : Sat E nx H w) (r : RepT E w tm a) (hr : E.f rid = none) (hnx : nx ≤ nx') (hrid : rid < nx') (h : o.op = .buildSlice t n ps) (ht : elemT P t = some e) (hs : szT P e = some sz)
    (hz : zeroT P e = some z) (hzl : z.length = sz) (hsz : 0 < sz) (hb : n * sz ≤ 16777216) (hl : fillA (fun i => some (i * sz, sz)) ((List.replicate n z).flatten.map .val) (ps.toList.map fun p => (p.1, avOf tm p.2)) = some l) :
    OpOk P o E H a w rid nx ⟨.sl rid 0 n none, [(rid, some (objRows e sz n l))], nx'⟩ := by
  obtain ⟨zv, hz1, hz2⟩ := zeroT_run hz w
  have hzs : zv.cells.size = sz := by rw [← hzl, ← hz2]; simp
  have hflat : ((List.replicate n z).flatten).length = n * sz := by simp [hzl]
  obtain ⟨cs', e1, e2, e3⟩ := fillA_ok r (fun i => some (i * sz, sz)) _ _ _ ((Array.range (n * sz)).map fun i => zv.cells[i % zv.cells.size]!) hl (reps_vals _ _ (by rw [← hzs]; exact range_mod _ _ _ hz2))
  have hll : l.length = n * sz := by rw [e3]; simp [hzl]
  refine .value _ _ _ ?_ (new_rows (t := e) s hr hnx hrid hll (by unfold maxLen; have : n * 1 ≤ n * sz := Nat.mul_le_mul_left _ hsz; omega) e2)
  have hmap : (ps.map fun x : Nat × Operand => match x with | (i, x) => (i, a.eval x)).toList = ps.toList.map fun p => (p.1, a.eval p.2) := by simp
  by_cases h0 : n * sz = 0
  · have hn0 : n = 0 := by rcases Nat.mul_eq_zero.1 h0 with h | h <;> omega
    subst hn0
    have hre : ∀ f : Nat → Value, (Array.range (0 * sz)).map f = #[] := fun f => by
      apply Array.eq_empty_of_size_eq_zero
      simp
    rw [hre] at e1
    simp only [execOp, h, Instr.buildSlice, Sem.run_bind, Result.andThen_ok, elemT_run ht, szT_run hs, hmap, hre, e1]
    simp [newRow]
  · have hb' : ¬ n * sz > 2 ^ 24 := by omega
    simp [execOp, h, Instr.buildSlice, elemT_run ht, szT_run hs, hz1, hb', h0, e1, newRow]

/-- elements that are bytes -/
theorem ok_buildBytes {t e : TypeId} {n : Nat} {ps : Array (Nat × Operand)} {z : List Value} {l : List AV} {nx' : Nat} (s : Sat E nx H w) (r : RepT E w tm a) (hr : E.f rid = none) (hnx : nx ≤ nx') (hrid : rid < nx') (h : o.op = .buildSlice t n ps) (ht : elemT P t = some e) (hs : szT P e = some 1)
    (hz : zeroT P e = some z) (hzl : z.length = 1) (hb : n * 1 ≤ 16777216) (hl : fillA (fun i => some (i * 1, 1)) ((List.replicate n z).flatten.map .val) (ps.toList.map fun p => (p.1, avOf tm p.2)) = some l) (hby : ∀ x ∈ l, isByteAV x) :
    OpOk P o E H a w rid nx ⟨.sl rid 0 n none, [(rid, some (objBytes e (l.map byteVal)))], nx'⟩ := by
  obtain ⟨zv, hz1, hz2⟩ := zeroT_run hz w
  have hzs : zv.cells.size = 1 := by rw [← hzl, ← hz2]; simp
  obtain ⟨cs', e1, e2, e3⟩ := fillA_ok r (fun i => some (i * 1, 1)) _ _ _ ((Array.range (n * 1)).map fun i => zv.cells[i % zv.cells.size]!) hl (reps_vals _ _ (by rw [← hzs]; exact range_mod _ _ _ hz2))
  have hll : l.length = n := by rw [e3]; simp [hzl]
  have hcs : cs' = ((l.map byteVal).map bv).toArray := by
    apply Array.ext_getElem?
    intro k
    by_cases hk : k < l.length
    · have h1 : l[k]? = some l[k] := List.getElem?_eq_getElem hk
      have h2 : cs'[k]? = some (cs'[k]'(by rw [e2.1]; exact hk)) := by simp [e2.1, hk]
      have h3 := e2.2 _ _ _ h1 h2
      rw [byteVal_eq (hby _ (List.getElem_mem hk))] at h3
      rw [h2, h3.val_inv]
      simp [hk]
    · rw [Array.getElem?_eq_none (by rw [e2.1]; omega), Array.getElem?_eq_none (by simp; omega)]
  have hp := new_bytes (t := e) (xs := l.map byteVal) s hr hnx hrid (by unfold maxLen; simp; omega)
  simp only [List.length_map, hll] at hp
  rw [← hcs] at hp
  refine .value _ _ _ ?_ hp
  have hmap : (ps.map fun x : Nat × Operand => match x with | (i, x) => (i, a.eval x)).toList = ps.toList.map fun p => (p.1, a.eval p.2) := by simp
  by_cases h0 : n = 0
  · subst h0
    have hre : ∀ f : Nat → Value, (Array.range (0 * 1)).map f = #[] := fun f => by
      apply Array.eq_empty_of_size_eq_zero
      simp
    rw [hre] at e1
    simp only [execOp, h, Instr.buildSlice, Sem.run_bind, Result.andThen_ok, elemT_run ht, szT_run hs, hmap, hre, e1]
    simp [newRow]
  · have hb' : ¬ n > 2 ^ 24 := by omega
    simp only [Nat.mul_one] at e1
    simp [execOp, h, Instr.buildSlice, elemT_run ht, szT_run hs, hz1, hb', h0, e1, newRow]

theorem ok_makeBytes {t e : TypeId} {x y : Operand} {n : Nat} {i : TypeInfo} {nx' : Nat} (s : Sat E nx H w) (r : RepT E w tm a) (hr : E.f rid = none) (hnx : nx ≤ nx') (hrid : rid < nx') (h : o.op = .makeSlice t x y) (ht : elemT P t = some e)
    (hi : P.info? e = some i) (hi1 : i.bytes = 1) (hi2 : i.size = 1) (hi3 : i.zero = some (.int .u8 0)) (hx : avOf tm x = .val (.int .i64 n)) (hy : avOf tm y = .val (.int .i64 n)) (hn : n ≤ 1000000000) :
    OpOk P o E H a w rid nx ⟨.sl rid 0 n none, [(rid, some (objBytes e (List.replicate n 0)))], nx'⟩ := by
  have hp := new_bytes (t := e) (xs := List.replicate n 0) s hr hnx hrid (by unfold maxLen; simp; omega)
  simp only [List.length_replicate] at hp
  have hvx := eval_val r hx
  have hvy := eval_val r hy
  refine .value _ _ _ ?_ hp
  have hw : IntKind.i64.wrap (n : Int) = n := IntWalk.i64_in (n : Int) (by omega)
  have hz0 : (zeroValue e).run P w = .ok (.int .u8 0) w := by simp [zeroValue, run_info hi, hi3]
  have hs0 : (sizeOf e).run P w = .ok 1 w := by simp [sizeOf, run_info hi, hi2]
  simp only [execOp, h, Instr.makeSlice, Sem.run_bind, elemT_run ht, Result.andThen_ok, hvx, hvy, asInt, asIntOf, Sem.run_pure, run_info hi, hi1, hw]
  have g1 : ¬ ((n : Int) < 0) := by omega
  have g3 : ¬ (n > roomBytes) := by unfold roomBytes; omega
  by_cases h0 : n = 0
  · subst h0
    have hre : ∀ f : Nat → Value, (Array.range 0).map f = #[] := fun f => by
      apply Array.eq_empty_of_size_eq_zero
      simp
    simp [askRoom, roomBytes, hs0, newRow, hre]
  · have g4 : ¬ (281474976710656 < (n : Int)) := by omega
    simp [askRoom, hs0, hz0, newRow, Value.cells, g1, g3, g4, h0]
    congr 2
    apply Array.ext_getElem?
    intro k
    by_cases hk : k < n
    · simp [hk, Nat.mod_one, bv]
    · simp [hk]
end
end Go.Proofs.YtfofhpkafhpicaaGreatDoor

/- An engine for walks, seventh part: bytes that are read, texts, append. -/
namespace Go.Proofs.YtfofhpkafhpicaaGreatDoor
open Go.RowKit

/-- is e the type of bytes? -/
def byteTB (P : Program) (e : TypeId) : Bool :=
  (match P.info? e with
    | some i => (match i.zero with | some (.int .u8 z) => z == 0 | _ => false) && i.size == 1 && i.bytes == 1
    | none => false) &&
  (match P.underlying e with | some (.int .u8) => true | _ => false)

theorem byteTB_ok {P : Program} {t e : TypeId} (h : byteTB P e = true) (ht : elemT P t = some e) : ByteTy P t e := by
  unfold byteTB at h
  simp only [Bool.and_eq_true] at h
  obtain ⟨h1, h2⟩ := h
  refine ⟨?_, ?_, ?_⟩
  · unfold elemT at ht
    split at ht
    · rename_i e' he
      injection ht with ht
      subst ht
      exact he
    · cases ht
  · split at h1
    · rename_i i hi
      simp only [Bool.and_eq_true, beq_iff_eq] at h1
      obtain ⟨⟨h3, h4⟩, h5⟩ := h1
      split at h3
      · rename_i z hz
        simp only [beq_iff_eq] at h3
        subst h3
        simp [hi, hz, h4, h5]
      · cases h3
    · cases h1
  · split at h2
    · rename_i he
      exact he
    · cases h2

section
variable {P : Program} {E : Env} {H : Heap} {w : World} {a : Act} {o : Oper} {nx rid : Nat} {tm : Nat → AV}

/-- the bytes that a slice holds now, and what must hold for it -/
def bytesOf (H : Heap) : AV → Option (List UInt8 × Prop)
  | .bytes xs => some (xs, True)
  | .sl id off n _ =>
    match H id with
    | some ob =>
      match ob.body with
      | .bytes ys => if ob.sz = 1 then some ((ys.drop off).take n, off + n ≤ ys.length) else none
      | _ => none
    | none => none
  | .csl id i j n _ =>
    match H id with
    | some ob =>
      match ob.body with
      | .rows l =>
        match l[i]? with
        | some e => some (((e.drop j).take n).map byteVal, j + n ≤ e.length ∧ e.length ≤ ob.sz ∧ ∀ x ∈ (e.drop j).take n, isByteAV x)
        | none => none
      | _ => none
    | none => none
  | .val (.slice none 0 0) => some ([], True)
  | _ => none

theorem rd_of {x : AV} {u : Value} {xs : List UInt8} {p : Prop} (s : Sat E nx H w) (h : bytesOf H x = some (xs, p)) (hp : p) (r : Rep E w x u) :
    ∃ A n c, u = .slice A n c ∧ Rd w 0 w.heap.size A n c xs := by
  unfold bytesOf at h
  split at h
  · simp only [Option.some.injEq, Prod.mk.injEq] at h
    obtain ⟨rfl, rfl⟩ := h
    cases r with
    | bytes hn hc hm hx =>
      refine ⟨_, _, _, rfl, hn, hc, hm, fun h0 => ?_⟩
      obtain ⟨g, o', e, hI, hcell⟩ := hx h0
      exact ⟨g, o', e, Nat.zero_le _, s.imm _ hI, hcell⟩
  · split at h
    · rename_i id off n lim _ ob hid
      split at h
      · rename_i ys hb
        split at h
        · rename_i hsz
          simp only [Option.some.injEq, Prod.mk.injEq] at h
          obtain ⟨rfl, rfl⟩ := h
          cases r with
          | slnil hE hl => exact ⟨_, _, _, rfl, by simpa using Rd.nil w 0 w.heap.size⟩
          | sl hE hc hl hn hA =>
            rename_i b c sz cap A
            have ro := s.at_ hid hE
            have h1 : sz = ob.sz := ro.1
            obtain rfl : sz = 1 := by omega
            refine ⟨_, _, _, rfl, by simp; omega, hn, by have := ro.2.2.2.1; omega, fun h0 => ?_⟩
            obtain rfl := hA.resolve_left (by omega)
            refine ⟨b, off * 1, rfl, Nat.zero_le _, s.lt hid hE, fun i y hy => ?_⟩
            rw [List.getElem?_take] at hy
            split at hy
            · rw [List.getElem?_drop] at hy
              obtain ⟨a', v, e1, e2, e3⟩ := ro.read (i := off + i) (j := 0) (by rw [hb]; exact (List.getElem?_eq_some_iff.1 hy).1) (by omega)
              rw [hb] at e1
              simp only [Body.cell?, if_true, hy, Option.map_some, Option.some.injEq] at e1
              subst e1
              have := e3.val_inv
              subst this
              simpa using e2
            · cases hy
        · cases h
      · cases h
    · cases h
  · split at h
    · rename_i id i j n c _ ob hid
      split at h
      · rename_i l hb
        split at h
        · rename_i e he
          simp only [Option.some.injEq, Prod.mk.injEq] at h
          obtain ⟨rfl, rfl⟩ := h
          obtain ⟨hp1, hp2, hp3⟩ := hp
          cases r with
          | csl hE hn hm =>
            rename_i b c' sz
            have ro := s.at_ hid hE
            have h1 : sz = ob.sz := ro.1
            refine ⟨_, _, _, rfl, by simp; omega, hn, hm, fun h0 => ⟨b, _, rfl, Nat.zero_le _, s.lt hid hE, fun k y hy => ?_⟩⟩
            · simp only [List.getElem?_map, Option.map_eq_some_iff] at hy
              obtain ⟨z, hz, rfl⟩ := hy
              have hzm := hp3 z (List.mem_of_getElem? hz)
              rw [List.getElem?_take] at hz
              split at hz
              · rw [List.getElem?_drop] at hz
                have hlt : j + k < e.length := (List.getElem?_eq_some_iff.1 hz).1
                obtain ⟨a', v, e1, e2, e3⟩ := ro.read (i := i) (j := j + k) (by rw [hb]; exact (List.getElem?_eq_some_iff.1 he).1) (by omega)
                rw [hb] at e1
                simp only [Body.cell?, he, Option.bind_some] at e1
                rw [hz] at e1
                injection e1 with e1
                subst e1
                rw [byteVal_eq hzm] at e3
                have := e3.val_inv
                subst this
                rw [← Nat.add_assoc] at e2
                exact e2
              · cases hz
        · cases h
      · cases h
    · cases h
  · simp only [Option.some.injEq, Prod.mk.injEq] at h
    obtain ⟨rfl, rfl⟩ := h
    have := r.val_inv
    subst this
    exact ⟨_, _, _, rfl, Rd.nil _ _ _⟩
  · cases h

theorem ok_string {x : Operand} {t e dst : TypeId} {xs : List UInt8} {p : Prop} (s : Sat E nx H w) (r : RepT E w tm a) (h : o.op = .convert t dst x) (ht : elemT P t = some e) (hb : byteTB P e = true) (hd : P.underlying dst = some .string)
    (hx : bytesOf H (avOf tm x) = some (xs, p)) (hp : p) : OpOk P o E H a w rid nx ⟨.val (.string ⟨xs.toArray⟩), [], nx⟩ := by
  obtain ⟨A, n, c, hu, hr⟩ := rd_of s hx hp (r.eval x)
  exact ok_val s (by simp [execOp, h, hu, run_conv w (byteTB_ok hb ht) hd hr]) (.val _)

/-- something lies anew in a row that was one of the objects', or in a new block -/
theorem sat_put {H0 : Heap} {w' : World} {nx' : Nat} (s0 : Sat E nx H0 w) (s : Sat E nx H w) (h0 : ∀ id o, H id = some o → H0 id = some o) (hr : E.f rid = none) (hnx : nx ≤ nx') (hrid : rid < nx') {row : Option Nat}
    (hrow : ∀ b, row = some b → Hb E H0 b ∧ ¬ Hb E H b) (hg : w.grownBy w' row) {p : Place} {ob : AObj} (hp : match p with
      | .nil => ob.body.len = 0 ∧ ob.exact = false
      | .at_ g c sz => sz = ob.sz ∧ (row = some g ∨ w.heap.size ≤ g) ∧ ob.body.len ≤ c ∧ c ≤ maxLen ∧ ob.exact = false ∧ ∃ cur, w'.heap[g]? = some (.cells cur ob.t (0, 0)) ∧ cur.size = c * sz ∧
          ∀ i, i < ob.body.len → ∀ j, j < sz → ∃ a v, ob.body.cell? i j = some a ∧ cur[i * sz + j]? = some v ∧ Rep E w a v) :
    Sat (E.put rid p) nx' (upd H rid (some ob)) w' ∧ Ext E H0 w (fun id => id = rid) (E.put rid p) (upd H rid (some ob)) w' := by
  have hnI : ∀ b, row = some b → ¬ E.I b := fun b hb => s0.notI (hrow b hb).1
  have hold : ∀ k, k < w.heap.size → row ≠ some k → w'.heap[k]? = w.heap[k]? := fun k hk hn => hg.block k hk fun e => hn e.symm
  have hI : ∀ b, E.I b → w'.heap[b]? = w.heap[b]? := fun b hb => hold b (s.imm b hb) fun e => hnI b e hb
  have m : More E w (E.put rid p) w' := ⟨Env.put_old _ hr, fun _ h => h, hI⟩
  have hgI : ∀ g c sz, p = .at_ g c sz → ¬ E.I g := by
    intro g c sz e hI'
    subst e
    rcases hp.2.1 with h | h
    · exact hnI g h hI'
    · have := s.imm g hI'; omega
  have key : ∀ k y b c1 z1, upd H rid (some ob) k = some y → (E.put rid p).f k = some (.at_ b c1 z1) → (k = rid ∧ p = .at_ b c1 z1) ∨ (k ≠ rid ∧ H k = some y ∧ E.f k = some (.at_ b c1 z1)) := by
    intro k y b c1 z1 hk hfk
    rcases Env.put_inv hfk with ⟨e, q⟩ | ⟨e, q⟩
    · exact .inl ⟨e, q.symm⟩
    · rw [upd_other _ _ e] at hk
      exact .inr ⟨e, hk, q⟩
  have apart : ∀ b c1 z1 k y c2 z2, p = .at_ b c1 z1 → H k = some y → E.f k = some (.at_ b c2 z2) → False := by
    intro b c1 z1 k y c2 z2 e hk hf
    subst e
    rcases hp.2.1 with h | h
    · exact (hrow b h).2 ⟨k, y, c2, z2, hk, hf⟩
    · have := s.lt hk hf; omega
  refine ⟨⟨fun id x h => ?_, fun id id' x x' b c1 z1 c2 z2 h h' hf hf' => ?_, fun id hid => ?_, fun b hb => Nat.lt_of_lt_of_le (s.imm b hb) hg.size⟩, ?_⟩
  · by_cases hid : id = rid
    · subst hid
      rw [upd_same] at h
      cases h
      refine ⟨p, Env.put_same _ _ _, ?_⟩
      cases p with
      | nil => exact hp
      | at_ g c sz =>
        obtain ⟨q1, q2, q3, q4, q5, cur, q6, q7, q8⟩ := hp
        refine ⟨q1, hgI g c sz rfl, q3, q4, (fun e => by rw [q5] at e; cases e), cur, (0, 0), q6, q7, .inl rfl, fun i hi j hj => ?_⟩
        obtain ⟨a', v, e1, e2, r⟩ := q8 i hi j hj
        exact ⟨a', v, e1, e2, r.more m⟩
    · rw [upd_other _ _ hid] at h
      obtain ⟨q, hq, r⟩ := s.rows _ _ h
      refine ⟨q, m.f _ _ hq, ?_⟩
      cases q with
      | nil => exact r
      | at_ b c1 z1 => exact r.more m r.2.1 (hold b (s.lt h hq) fun e => (hrow b e).2 ⟨id, x, c1, z1, h, hq⟩)
  · rcases key _ _ _ _ _ h hf with ⟨e1, e2⟩ | ⟨e1, e2, e3⟩ <;> rcases key _ _ _ _ _ h' hf' with ⟨d1, d2⟩ | ⟨d1, d2, d3⟩
    · rw [e1, d1]
    · exact (apart _ _ _ _ _ _ _ e2 d2 d3).elim
    · exact (apart _ _ _ _ _ _ _ d2 e2 e3).elim
    · exact s.inj _ _ _ _ _ _ _ _ _ e2 d2 e3 d3
  · simp only [Env.put]
    rw [if_neg (by omega)]
    exact s.fresh id (by omega)
  · refine ⟨m.f, fun id q h => ?_, fun _ h => h, fun _ h => .inl h, fun b hb hn => hold b hb fun e => hn (hrow b e).1, ?_, hg.size, hg.os, hg.tape, hg.output⟩
    · rcases Env.put_inv h with ⟨e, _⟩ | ⟨_, q⟩
      · exact .inr e
      · exact .inl q
    · rintro b ⟨id, x, c1, z1, h, hf⟩
      rcases key _ _ _ _ _ h hf with ⟨_, e⟩ | ⟨_, h1, h2⟩
      · subst e
        rcases hp.2.1 with h | h
        · exact .inl (hrow b h).1
        · exact .inr h
      · exact .inl ⟨id, x, c1, z1, h0 _ _ h1, h2⟩

/-- bytes that are marked as a text's own -/
theorem ok_mark {x : Operand} {t e : TypeId} {id off n : Nat} {lim : Option Nat} {ob : AObj} (s : Sat E nx H w) (r : RepT E w tm a) (h : o.op = .convert t t x) (ht : elemT P t = some e) (hb : byteTB P e = true)
    (hx : avOf tm x = .sl id off n lim) (hid : H id = some ob) (hl : 0 < n) : OpOk P o E H a w rid nx ⟨.sl id off n lim, [(id, some { ob with fz := true })], nx⟩ := by
  have rx := r.eval x
  rw [hx] at rx
  generalize hu : a.eval x = u at rx
  cases rx with
  | slnil => omega
  | sl hE hc hlc hn hA =>
    rename_i b c sz cap A
    have ro := s.at_ hid hE
    obtain ⟨h1, h2, h3, h4, h5, cur, fr, hg, hs, hfr, hcell⟩ := ro
    obtain rfl := hA.resolve_left (by omega)
    have hT := byteTB_ok hb ht
    have hw : ∃ fr', (w.freeze ⟨b, cur.size, none⟩ 1).heap[b]? = some (.cells cur ob.t fr') ∧ c * sz ≤ fr'.1 := by
      obtain ⟨lo, hi⟩ := fr
      by_cases e : lo = hi
      · refine ⟨(cur.size, cur.size + 1), by simp [World.freeze, Array.getElem?_modify, hg, e], by simp [hs]⟩
      · refine ⟨(min lo cur.size, max hi (cur.size + 1)), by simp [World.freeze, Array.getElem?_modify, hg, e], ?_⟩
        rcases hfr with hf | ⟨_, hf⟩
        · exact absurd (by injection hf with g1 g2; rw [g1, g2]) e
        · simp only at hf ⊢
          omega
    obtain ⟨fr', hg', hf'⟩ := hw
    have hset := sat_set (w' := w.freeze ⟨b, cur.size, none⟩ 1) (N := fun id => id = rid ∨ nx ≤ id) (o' := { ob with fz := true }) s hid hE hg' (fun k hk => by
        simp only [World.freeze, Nat.one_ne_zero, if_false, Array.getElem?_modify]
        rw [if_neg (by omega)]) (by simp [World.freeze]) ⟨by simp [World.freeze], by simp [World.freeze], by simp [World.freeze]⟩ h1 hs h3 h5 (.inr ⟨rfl, hf'⟩) hcell
    refine .value E _ _ ?_ ⟨hset.1, .sl hE hc hlc hn (.inr rfl), hset.2, Nat.le_refl _⟩
    have hsh : (shape b).run P w = .ok (some (ob.t, cur.size)) w := by
      simp [shape, Sem.run, World.shape?, hg]
    have hfz : (freeze ⟨b, cur.size, none⟩ 1).run P w = .ok () (w.freeze ⟨b, cur.size, none⟩ 1) := rfl
    simp [execOp, h, hu, convert, run_underlying hT.ht, run_underlying hT.hb, markStringish, hsh, hfz]

/-! ### append of bytes -/
def objApp (t : TypeId) (xs : List UInt8) : AObj := ⟨t, 1, false, false, .bytes xs⟩

theorem append_bytes {H0 : Heap} {A : Option Addr} {n c : Nat} {ys : List UInt8} {t ty e : TypeId} {A1 : Option Addr} {m c1 : Nat} {xs : List UInt8} {nx' : Nat} (s0 : Sat E nx H0 w) (s : Sat E nx H w) (h0 : ∀ id o, H id = some o → H0 id = some o)
    (hr : E.f rid = none) (hnx : nx ≤ nx') (hrid : rid < nx') (T : ByteTy P t e) (hown : Own w 0 e A n c ys) (hrow : ∀ b, (Value.slice A n c).ownBlock = some b → Hb E H0 b ∧ ¬ Hb E H b)
    (hrd : Rd w 0 w.heap.size A1 m c1 xs) (h63 : ys.length + xs.length ≤ 1000000000) :
    ∃ E' w' u, (Builtin.append_ #[t, t] ty #[.slice A n c, .slice A1 m c1]).run P w = .ok u w' ∧ Sat E' nx' (upd H rid (some (objApp e (ys ++ xs)))) w' ∧
      Rep E' w' (.sl rid 0 (ys.length + xs.length) none) u ∧ Ext E H0 w (fun id => id = rid) E' (upd H rid (some (objApp e (ys ++ xs)))) w' := by
  have hnl := hown.1
  have hml := hrd.len
  subst hnl
  subst hml
  obtain ⟨A', c', w', hrun, hown', hgr, hat⟩ := run_appB (P := P) w T ty 0 A ys.length c ys hown 0 w.heap.size A1 xs.length c1 xs hrd h63 (Nat.zero_le _)
  rcases hown'.2.2 with ⟨hv, hn0⟩ | ⟨g, cap, cur, hv, _, hgg, hnc, hm, hs, ht⟩
  · injection hv with v1 v2 v3
    subst v1 v3
    have := sat_put (p := .nil) (ob := objApp e (ys ++ xs)) s0 s h0 hr hnx hrid hrow hgr ⟨by simp only [objApp, Body.len, List.length_append]; exact hn0, rfl⟩
    refine ⟨_, w', _, hrun, this.1, ?_, this.2⟩
    rw [v2]
    exact .slnil (Env.put_same _ _ _) rfl
  · injection hv with v1 v2 v3
    subst v1 v3
    have hrow' : (Value.slice A ys.length c).ownBlock = some g ∨ w.heap.size ≤ g := by
      rcases hat with hat | hat
      · left; rw [← hat]; rfl
      · right; simp [Value.ownBlock] at hat; omega
    have := sat_put (p := .at_ g c' 1) (ob := objApp e (ys ++ xs)) s0 s h0 hr hnx hrid hrow hgr ⟨rfl, hrow', by simp [objApp, Body.len]; omega, hm, rfl, cur, hgg, by omega, fun i hi j hj => by
      obtain rfl : j = 0 := by omega
      simp only [objApp, Body.len] at hi
      refine ⟨.val (bv (ys ++ xs)[i]), bv (ys ++ xs)[i], by simp only [objApp, Body.cell?, if_true, List.getElem?_eq_getElem hi, Option.map_some], ?_, .val _⟩
      have h1 : (cur.toList.take ((ys.length + xs.length) * 1))[i]? = some (bv (ys ++ xs)[i]) := by
        rw [ht, List.getElem?_map, List.getElem?_eq_getElem hi]
        rfl
      rw [List.getElem?_take] at h1
      split at h1
      · simpa using h1
      · cases h1⟩
    refine ⟨_, w', _, hrun, this.1, ?_, this.2⟩
    exact .sl (cap := c') (b := g) (c := c') (sz := 1) (Env.put_same _ _ _) rfl (Nat.le_refl _) hnc (.inr (by simp))

theorem append_run {x y : Operand} {t : TypeId} {u v : Value} (h : o.op = .call { callee := .builtin .append, args := #[x, y], argTypes := #[t, t] }) {w' : World} {r : Value} (hx : a.eval x = u) (hy : a.eval y = v)
    (hr : (Builtin.append_ #[t, t] o.type #[u, v]).run P w = .ok r w') : (execOp a.eval o).run P w = .ok (.value r) w' := by
  simp [execOp, h, resolve, invoke, builtin, hx, hy, hr]

theorem ok_appendSl {x y : Operand} {t e : TypeId} {id n : Nat} {ob : AObj} {ys xs : List UInt8} {p : Prop} {nx' : Nat} (s : Sat E nx H w) (r : RepT E w tm a) (hr : E.f rid = none) (hnx : nx ≤ nx') (hrid : rid < nx') (h : o.op = .call { callee := .builtin .append, args := #[x, y], argTypes := #[t, t] })
    (ht : elemT P t = some e) (hb : byteTB P e = true) (hx : avOf tm x = .sl id 0 n none) (hid : H id = some ob) (hob : ob.body = .bytes ys) (hsz : ob.sz = 1) (hfz : ob.fz = false) (hot : ob.t = e) (hn : ys.length = n)
    (hy : bytesOf H (avOf tm y) = some (xs, p)) (hp : p) (h63 : ys.length + xs.length ≤ 1000000000) :
    OpOk P o E H a w rid nx ⟨.sl rid 0 (ys.length + xs.length) none, [(id, none), (rid, some (objApp e (ys ++ xs)))], nx'⟩ := by
  obtain ⟨A1, m, c1, hv, hrd⟩ := rd_of s hy hp (r.eval y)
  have rx := r.eval x
  rw [hx] at rx
  generalize hu : a.eval x = u at rx
  have s1 : Sat E nx (upd H id none) w := s.sub fun k q hk => by
    by_cases e : k = id
    · subst e; rw [upd_same] at hk; cases hk
    · rwa [upd_other _ _ e] at hk
  have h0 : ∀ k q, upd H id none k = some q → H k = some q := fun k q hk => by
    by_cases e : k = id
    · subst e; rw [upd_same] at hk; cases hk
    · rwa [upd_other _ _ e] at hk
  have fin : ∀ A c, u = .slice A n c → Own w 0 e A n c ys → (∀ b, (Value.slice A n c).ownBlock = some b → Hb E H b ∧ ¬ Hb E (upd H id none) b) →
      OpOk P o E H a w rid nx ⟨.sl rid 0 (ys.length + xs.length) none, [(id, none), (rid, some (objApp e (ys ++ xs)))], nx'⟩ := by
    intro A c hA hown hrow
    subst hA
    obtain ⟨E', w', u', h1, h2, h3, h4⟩ := append_bytes (ty := o.type) s s1 h0 hr hnx hrid (byteTB_ok hb ht) hown hrow hrd h63
    exact .value E' w' u' (append_run h hu hv h1) ⟨h2, h3, h4.weaken fun id e => .inl e, hnx⟩
  cases rx with
  | slnil hE hl =>
    have : ys = [] := List.eq_nil_of_length_eq_zero hn
    subst this
    exact fin none 0 rfl (Own.none_ w 0 e) (fun b hb => by simp [Value.ownBlock] at hb)
  | sl hE hc hl hn' hA =>
    rename_i b c sz cap A
    have ro := s.at_ hid hE
    have h1 : sz = ob.sz := ro.1
    obtain rfl : sz = 1 := by omega
    simp only [Option.getD_none, Nat.add_zero] at hc
    subst hc
    obtain rfl := hA.resolve_left (by omega)
    simp only [Nat.zero_mul] at fin ⊢
    obtain ⟨_, _, hlen, hmx, _, cur, fr, hg, hs, hfr, hcell⟩ := ro
    have hfr0 : fr = (0, 0) := hfr.resolve_right fun h => by rw [hfz] at h; cases h.1
    subst hfr0
    rw [hot] at hg
    refine fin (some ⟨b, 0, none⟩) cap (by simp) ⟨hn, by simp [hn], .inr ⟨b, cap, cur, rfl, Nat.zero_le _, hg, hn', hmx, by omega, ?_⟩⟩ (fun b' hb' => ?_)
    · apply List.ext_getElem?
      intro k
      rw [List.getElem?_take]
      by_cases hk : k < n
      · have hk' : k < ob.body.len := by rw [hob]; simp only [Body.len]; omega
        obtain ⟨a', v, e1, e2, e3⟩ := hcell k hk' 0 (by omega)
        rw [hob] at e1
        have hky : k < ys.length := by omega
        simp only [Body.cell?, if_true, List.getElem?_eq_getElem hky, Option.map_some, Option.some.injEq] at e1
        subst e1
        have := e3.val_inv
        subst this
        simp only [Nat.mul_one, Nat.add_zero] at e2
        simp [hk, hky, e2]
      · rw [if_neg (by omega), List.getElem?_eq_none (by simp; omega)]
    · simp only [Value.ownBlock, Option.some.injEq] at hb'
      subst hb'
      refine ⟨⟨id, ob, cap, 1, hid, hE⟩, ?_⟩
      rintro ⟨k, q, c2, z2, hk, hf⟩
      have hne : k ≠ id := fun e => by subst e; rw [upd_same] at hk; cases hk
      rw [upd_other _ _ hne] at hk
      exact hne (s.inj _ _ _ _ _ _ _ _ _ hk hid hf hE)

theorem ok_appendPre {x y : Operand} {t e : TypeId} {id n : Nat} {ob : AObj} {ys xs : List UInt8} {p : Prop} {nx' : Nat} (s : Sat E nx H w) (r : RepT E w tm a) (hr : E.f rid = none) (hnx : nx ≤ nx') (hrid : rid < nx') (h : o.op = .call { callee := .builtin .append, args := #[x, y], argTypes := #[t, t] })
    (ht : elemT P t = some e) (hb : byteTB P e = true) (hx : avOf tm x = .sl id 0 n none) (hid : H id = some ob) (hob : ob.body = .bytes ys) (hsz : ob.sz = 1) (hfz : ob.fz = false) (hot : ob.t = e) (hn : n ≤ ys.length)
    (hy : bytesOf H (avOf tm y) = some (xs, p)) (hp : p) (h63 : n + xs.length ≤ 1000000000) :
    OpOk P o E H a w rid nx ⟨.sl rid 0 (n + xs.length) none, [(id, none), (rid, some (objApp e (ys.take n ++ xs)))], nx'⟩ := by
  obtain ⟨A1, m, c1, hv, hrd⟩ := rd_of s hy hp (r.eval y)
  have rx := r.eval x
  rw [hx] at rx
  generalize hu : a.eval x = u at rx
  have s1 : Sat E nx (upd H id none) w := s.sub fun k q hk => by
    by_cases e : k = id
    · subst e; rw [upd_same] at hk; cases hk
    · rwa [upd_other _ _ e] at hk
  have h0 : ∀ k q, upd H id none k = some q → H k = some q := fun k q hk => by
    by_cases e : k = id
    · subst e; rw [upd_same] at hk; cases hk
    · rwa [upd_other _ _ e] at hk
  have fin : ∀ A c, u = .slice A n c → Own w 0 e A n c (ys.take n) → (∀ b, (Value.slice A n c).ownBlock = some b → Hb E H b ∧ ¬ Hb E (upd H id none) b) →
      OpOk P o E H a w rid nx ⟨.sl rid 0 (n + xs.length) none, [(id, none), (rid, some (objApp e (ys.take n ++ xs)))], nx'⟩ := by
    intro A c hA hown hrow
    subst hA
    obtain ⟨E', w', u', h1, h2, h3, h4⟩ := append_bytes (ty := o.type) s s1 h0 hr hnx hrid (byteTB_ok hb ht) hown hrow hrd (by rw [List.length_take, Nat.min_eq_left hn]; exact h63)
    rw [List.length_take, Nat.min_eq_left hn] at h3
    exact .value E' w' u' (append_run h hu hv h1) ⟨h2, h3, h4.weaken fun id e => .inl e, hnx⟩
  cases rx with
  | slnil hE hl =>
    rw [List.take_zero] at fin
    exact fin none 0 rfl (Own.none_ w 0 e) (fun b hb => by simp [Value.ownBlock] at hb)
  | sl hE hc hl hn' hA =>
    rename_i b c sz cap A
    have ro := s.at_ hid hE
    have h1 : sz = ob.sz := ro.1
    obtain rfl : sz = 1 := by omega
    simp only [Option.getD_none, Nat.add_zero] at hc
    subst hc
    obtain rfl := hA.resolve_left (by omega)
    simp only [Nat.zero_mul] at fin ⊢
    obtain ⟨_, _, hlen, hmx, _, cur, fr, hg, hs, hfr, hcell⟩ := ro
    have hfr0 : fr = (0, 0) := hfr.resolve_right fun h => by rw [hfz] at h; cases h.1
    subst hfr0
    rw [hot] at hg
    refine fin (some ⟨b, 0, none⟩) cap (by simp) ⟨by rw [List.length_take, Nat.min_eq_left hn], by simp [hn], .inr ⟨b, cap, cur, rfl, Nat.zero_le _, hg, hn', hmx, by omega, ?_⟩⟩ (fun b' hb' => ?_)
    · apply List.ext_getElem?
      intro k
      rw [List.getElem?_take]
      by_cases hk : k < n
      · have hk' : k < ob.body.len := by rw [hob]; simp only [Body.len]; omega
        obtain ⟨a', v, e1, e2, e3⟩ := hcell k hk' 0 (by omega)
        rw [hob] at e1
        have hky : k < ys.length := by omega
        simp only [Body.cell?, if_true, List.getElem?_eq_getElem hky, Option.map_some, Option.some.injEq] at e1
        subst e1
        have := e3.val_inv
        subst this
        simp only [Nat.mul_one, Nat.add_zero] at e2
        simp [hk, hky, e2]
      · rw [if_neg (by omega), List.getElem?_eq_none (by simp; omega)]
    · simp only [Value.ownBlock, Option.some.injEq] at hb'
      subst hb'
      refine ⟨⟨id, ob, cap, 1, hid, hE⟩, ?_⟩
      rintro ⟨k, q, c2, z2, hk, hf⟩
      have hne : k ≠ id := fun e => by subst e; rw [upd_same] at hk; cases hk
      rw [upd_other _ _ hne] at hk
      exact hne (s.inj _ _ _ _ _ _ _ _ _ hk hid hf hE)

theorem ok_appendNil {x y : Operand} {t e : TypeId} {xs : List UInt8} {p : Prop} {nx' : Nat} (s : Sat E nx H w) (r : RepT E w tm a) (hr : E.f rid = none) (hnx : nx ≤ nx') (hrid : rid < nx') (h : o.op = .call { callee := .builtin .append, args := #[x, y], argTypes := #[t, t] })
    (ht : elemT P t = some e) (hb : byteTB P e = true) (hx : avOf tm x = .val (.slice none 0 0)) (hy : bytesOf H (avOf tm y) = some (xs, p)) (hp : p) (h63 : xs.length ≤ 1000000000) :
    OpOk P o E H a w rid nx ⟨.sl rid 0 xs.length none, [(rid, some (objApp e xs))], nx'⟩ := by
  obtain ⟨A1, m, c1, hv, hrd⟩ := rd_of s hy hp (r.eval y)
  obtain ⟨E', w', u', h1, h2, h3, h4⟩ := append_bytes (ty := o.type) s s (fun _ _ h => h) hr hnx hrid (byteTB_ok hb ht) (Own.none_ w 0 e) (fun b hb => by simp [Value.ownBlock] at hb) hrd (by simpa using h63)
  simp only [List.nil_append, List.length_nil, Nat.zero_add] at h2 h3 h4
  exact .value E' w' u' (append_run h (eval_val r hx) hv h1) ⟨h2, h3, h4.weaken fun id e => .inl e, hnx⟩
end
end Go.Proofs.YtfofhpkafhpicaaGreatDoor
