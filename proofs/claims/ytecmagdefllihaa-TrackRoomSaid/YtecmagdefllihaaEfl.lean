/- An engine for walks: rows whose values lead to no object of the walk's own ('flat'): what is reckoned of rows is reckoned of them. -/
import Derived.Test.YtecmagdefllihaaEh
import Derived.Test.YtecmagdefllihaaEst
namespace Go.Proofs.Ytecmagdefllihaa
open Go.RowKit

structure AObj.Eqv (x y : AObj) : Prop where
  t : y.t = x.t
  sz : y.sz = x.sz
  exact : y.exact = x.exact
  fz : y.fz = x.fz
  len : y.body.len = x.body.len
  cell : ∀ i j, y.body.cell? i j = x.body.cell? i j

theorem AObj.Eqv.refl (x : AObj) : x.Eqv x := ⟨rfl, rfl, rfl, rfl, rfl, fun _ _ => rfl⟩
theorem AObj.Eqv.symm {x y : AObj} (h : x.Eqv y) : y.Eqv x := ⟨h.t.symm, h.sz.symm, h.exact.symm, h.fz.symm, h.len.symm, fun i j => (h.cell i j).symm⟩

def AObj.unflat : AObj → AObj
  | ⟨t, sz, ex, fz, .flat l⟩ => ⟨t, sz, ex, fz, .rows l⟩
  | ⟨t, sz, ex, fz, .rows l⟩ => ⟨t, sz, ex, fz, .rows l⟩
  | ⟨t, sz, ex, fz, .bytes l⟩ => ⟨t, sz, ex, fz, .bytes l⟩
def AObj.flatO : AObj → AObj
  | ⟨t, sz, ex, fz, .rows l⟩ => ⟨t, sz, ex, fz, .flat l⟩
  | ⟨t, sz, ex, fz, .flat l⟩ => ⟨t, sz, ex, fz, .flat l⟩
  | ⟨t, sz, ex, fz, .bytes l⟩ => ⟨t, sz, ex, fz, .bytes l⟩
def AObj.isFlat (x : AObj) : Bool := match x.body with | .flat _ => true | _ => false

theorem AObj.unflat_eqv (x : AObj) : x.Eqv x.unflat := by
  obtain ⟨t, sz, ex, fz, body⟩ := x
  cases body <;> exact ⟨rfl, rfl, rfl, rfl, rfl, fun _ _ => rfl⟩
theorem AObj.flatO_eqv (x : AObj) : x.Eqv x.flatO := by
  obtain ⟨t, sz, ex, fz, body⟩ := x
  cases body <;> exact ⟨rfl, rfl, rfl, rfl, rfl, fun _ _ => rfl⟩

def unflatH (H : Heap) : Heap := fun id => (H id).map AObj.unflat
def reflat : Bool → List (Nat × Option AObj) → List (Nat × Option AObj)
  | false, us => us
  | true, us => us.map fun u => (u.1, u.2.map AObj.flatO)
def anyFlat (H : Heap) (us : List (Nat × Option AObj)) : Bool := us.any fun u => match H u.1 with | some x => x.isFlat | none => false

def OEqv : Option AObj → Option AObj → Prop
  | none, none => True
  | some x, some y => x.Eqv y
  | _, _ => False
def HEqv (H K : Heap) : Prop := ∀ id, OEqv (H id) (K id)

theorem OEqv.refl : ∀ x : Option AObj, OEqv x x
  | none => trivial
  | some x => AObj.Eqv.refl x
theorem OEqv.symm {x y : Option AObj} (h : OEqv x y) : OEqv y x := by
  cases x <;> cases y <;> first | exact h | exact h.elim | exact AObj.Eqv.symm h
theorem HEqv.symm {H K : Heap} (h : HEqv H K) : HEqv K H := fun id => (h id).symm
theorem OEqv.some_inv {x : Option AObj} {y : AObj} (h : OEqv x (some y)) : ∃ z, x = some z ∧ z.Eqv y := by
  cases x with
  | none => exact h.elim
  | some z => exact ⟨z, rfl, h⟩

theorem unflatH_eqv (H : Heap) : HEqv H (unflatH H) := fun id => by
  unfold unflatH
  cases H id with
  | none => trivial
  | some x => exact x.unflat_eqv

theorem reflat_eqv (b : Bool) (us : List (Nat × Option AObj)) : ∀ {H K : Heap}, HEqv H K → HEqv (applyU H us) (applyU K (reflat b us)) := by
  cases b with
  | false =>
    induction us with
    | nil => intro H K h; exact h
    | cons u us ih =>
      intro H K h
      exact ih (H := upd H u.1 u.2) (K := upd K u.1 u.2) fun id => by
        unfold upd
        split
        · exact OEqv.refl _
        · exact h id
  | true =>
    induction us with
    | nil => intro H K h; exact h
    | cons u us ih =>
      intro H K h
      exact ih (H := upd H u.1 u.2) (K := upd K u.1 (u.2.map AObj.flatO)) fun id => by
        unfold upd
        split
        · cases u.2 with
          | none => trivial
          | some x => exact x.flatO_eqv
        · exact h id

section
variable {P : Program} {E E' : Env} {H K H' K' : Heap} {w w' : World} {nx : Nat} {N : Nat → Prop}

theorem ORep.eqv {x y : AObj} (h : x.Eqv y) {p : Place} (r : ORep E w x p) : ORep E w y p := by
  cases p with
  | nil =>
    obtain ⟨h1, h2⟩ := r
    exact ⟨by rw [h.len]; exact h1, by rw [h.exact]; exact h2⟩
  | at_ b c sz =>
    obtain ⟨h1, h2, h3, h4, h5, cur, fr, h6, h7, h8, h9⟩ := r
    refine ⟨by rw [h.sz]; exact h1, h2, by rw [h.len]; exact h3, h4, by rw [h.exact, h.len]; exact h5, cur, fr, by rw [h.t]; exact h6, h7, by rw [h.fz]; exact h8, fun i hi j hj => ?_⟩
    obtain ⟨a, v, e1, e2, e3⟩ := h9 i (by rw [← h.len]; exact hi) j hj
    exact ⟨a, v, by rw [h.cell]; exact e1, e2, e3⟩

theorem Sat.eqv (s : Sat E nx H w) (h : HEqv H K) : Sat E nx K w := by
  have key : ∀ id y, K id = some y → ∃ x, H id = some x ∧ x.Eqv y := fun id y hy => by
    have := h id
    rw [hy] at this
    exact this.some_inv
  refine ⟨fun id y hy => ?_, fun id id' y y' b c z c' z' h1 h2 => ?_, s.fresh, s.imm⟩
  · obtain ⟨x, hx, e⟩ := key id y hy
    obtain ⟨p, hp, r⟩ := s.rows _ _ hx
    exact ⟨p, hp, r.eqv e⟩
  · obtain ⟨x, hx, _⟩ := key _ _ h1
    obtain ⟨x', hx', _⟩ := key _ _ h2
    exact s.inj _ _ _ _ _ _ _ _ _ hx hx'

theorem Hb.eqv (h : HEqv H K) {b : Nat} (hb : Hb E K b) : Hb E H b := by
  obtain ⟨id, y, c, sz, h1, h2⟩ := hb
  have := h id
  rw [h1] at this
  obtain ⟨x, hx, _⟩ := this.some_inv
  exact ⟨id, x, c, sz, hx, h2⟩

theorem Ext.eqv (x : Ext E H w N E' H' w') (h : HEqv H K) (h' : HEqv H' K') : Ext E K w N E' K' w' :=
  ⟨x.f, x.nw, x.I, fun b hb => (x.I' b hb).imp_right fun y => y.imp_right (Hb.eqv h.symm), fun b h1 h2 => x.fr b h1 fun hb => h2 (Hb.eqv h.symm hb), fun b hb => (x.hb b (Hb.eqv h' hb)).imp_left (Hb.eqv h.symm), x.size, x.os, x.tape, x.output⟩

theorem Post.eqv {rid nx : Nat} {v : AV} {us us' : List (Nat × Option AObj)} {n : Nat} {u : Value} (p : Post E H w rid nx ⟨v, us, n⟩ E' w' u) (h : HEqv H K) (h' : HEqv (applyU H us) (applyU K us')) : Post E K w rid nx ⟨v, us', n⟩ E' w' u :=
  ⟨p.sat.eqv h', p.rep, p.ext.eqv h h', p.le⟩

theorem OpOk.eqv {o : Oper} {a : Act} {rid nx : Nat} {v : AV} {us us' : List (Nat × Option AObj)} {n : Nat} (ok : OpOk P o E H a w rid nx ⟨v, us, n⟩) (h : HEqv H K) (h' : HEqv (applyU H us) (applyU K us')) : OpOk P o E K a w rid nx ⟨v, us', n⟩ := by
  cases ok with
  | value E' w' u hr p => exact .value E' w' u hr (p.eqv h h')
  | skip E' w' hr p => exact .skip E' w' hr (p.eqv h h')
  | enter g args w1 hr c => exact .enter g args w1 hr (Calls.mono c fun e w' ⟨E', u, he, p⟩ => ⟨E', u, he, p.eqv h h'⟩)
end
end Go.Proofs.Ytecmagdefllihaa
