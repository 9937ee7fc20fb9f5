/- An engine for walks: copy of bytes, into bytes or into cells of a row. -/
import Derived.Test.YtecmagdefllihaaEh
import Derived.Laws.IdiomCopy
namespace Go.Proofs.Ytecmagdefllihaa
open Go.RowKit

section
variable {P : Program} {E : Env} {H : Heap} {w : World} {a : Act} {o : Oper} {nx rid : Nat} {tm : Nat → AV}

theorem copy_run {x y : Operand} {t t' e : TypeId} {b k0 n cp k : Nat} {A : Option Addr} {m c : Nat} {xs : List UInt8} (h : o.op = .call { callee := .builtin .copy, args := #[x, y], argTypes := #[t, t'] }) (T : ByteTy P t e)
    (hx : a.eval x = .slice (some ⟨b, k0, none⟩) n cp) (hy : a.eval y = .slice A m c) (rd : Rd w 0 w.heap.size A m c xs) (hk : k = Nat.min m n) (h0 : 0 < k)
    (hc : ∀ j, j < k → (w.cell? ⟨b, k0 + j, none⟩).isSome = true ∧ w.frozen? ⟨b, k0 + j, none⟩ = false) :
    (execOp a.eval o).run P w = .ok (.value (goInt k)) (w.setCells b k0 ((xs.take k).map bv)) := by
  have hi : (P.info? e).map (·.size) = some 1 := by
    have := T.hi
    cases hq : P.info? e with
    | none => simp [hq] at this
    | some i => simp [hq] at this; simp [this]
  have hm : k ≤ m := by rw [hk]; exact Nat.min_le_left _ _
  obtain ⟨g, o', rfl, _, _, hcell⟩ := rd.at_ (by omega)
  have hl : ((xs.take k).map bv).length = k := by simp [rd.len]; omega
  have hrun := run_copy_cells (P := P) w t t' o.type e b k0 n cp ⟨g, o', none⟩ m c ((xs.take k).map bv) T.ht hi (by rw [hl]; exact hk)
    (fun j v hj => by
      rw [add_zero_spot]
      rw [List.getElem?_map, List.getElem?_take] at hj
      split at hj
      · obtain ⟨z, hz, rfl⟩ := Option.map_eq_some_iff.1 hj
        exact hcell j z hz
      · simp at hj)
    (fun j hj => (hc j (by rw [hl] at hj; exact hj)).1) (fun j hj => (hc j (by rw [hl] at hj; exact hj)).2) (fun v hv => by
      obtain ⟨z, _, rfl⟩ := List.mem_map.1 hv
      rfl)
  rw [hl] at hrun
  simp [execOp, h, resolve, invoke, builtin, hx, hy, hrun]

theorem getElem?_over {α : Type} (ys xs : List α) (off i : Nat) (h : off + xs.length ≤ ys.length) : (ys.take off ++ (xs ++ ys.drop (off + xs.length)))[i]? = if off ≤ i ∧ i < off + xs.length then xs[i - off]? else ys[i]? := by
  by_cases h1 : i < off
  · rw [if_neg (by omega), List.getElem?_append_left (by simp; omega), List.getElem?_take, if_pos h1]
  · have ht : (ys.take off).length = off := by simp; omega
    rw [List.getElem?_append_right (by omega), ht]
    by_cases h2 : i < off + xs.length
    · rw [if_pos ⟨by omega, h2⟩, List.getElem?_append_left (by omega)]
    · rw [if_neg (by omega), List.getElem?_append_right (by omega), List.getElem?_drop]
      congr 1
      omega

theorem ok_copyB {x y : Operand} {t t' e : TypeId} {id off n : Nat} {lim : Option Nat} {ob : AObj} {ys xs : List UInt8} {p : Prop} (s : Sat E nx H w) (r : RepT E w tm a) (h : o.op = .call { callee := .builtin .copy, args := #[x, y], argTypes := #[t, t'] })
    (ht : elemT P t = some e) (hb : byteTB P e = true) (hx : avOf tm x = .sl id off n lim) (hid : H id = some ob) (hob : ob.body = .bytes ys) (hsz1 : ob.sz = 1)
    (hy : bytesOf H (avOf tm y) = some (xs, p)) (hp : p) (h0 : 0 < xs.length) (hn : xs.length ≤ n) (hfit : off + xs.length ≤ ys.length) :
    OpOk P o E H a w rid nx ⟨.val (goInt xs.length), [(id, some { ob with body := .bytes (ys.take off ++ (xs ++ ys.drop (off + xs.length))) })], nx⟩ := by
  obtain ⟨A1, m, c1, hv, hrd⟩ := rd_of s hy hp (r.eval y)
  have hm := hrd.len
  have rx := r.eval x
  rw [hx] at rx
  generalize hu : a.eval x = u at rx
  cases rx with
  | slnil hE hl => omega
  | sl hE hc hl hn' hA =>
    rename_i b c sz cap A
    have ro := s.at_ hid hE
    have hsz : sz = ob.sz := ro.1
    obtain rfl : sz = 1 := by omega
    obtain rfl := hA.resolve_left (by omega)
    have hlc : ys.length ≤ c := by have := ro.2.2.1; rw [hob] at this; exact this
    have hrun := copy_run (b := b) (k0 := off * 1) (k := xs.length) h (byteTB_ok hb ht) hu hv hrd (by rw [← hm]; exact (Nat.min_eq_left hn).symm) h0 (fun j hj => ro.writable (by omega))
    obtain ⟨_, _, _, _, hex, cur, fr, hg, hcs, hfr, hcell⟩ := ro
    rw [List.take_of_length_le (Nat.le_refl _)] at hrun
    obtain ⟨cur', g1, g2, g3, g4, g5, gm⟩ := setCells_spec b ob.t fr (xs.map bv) (off * 1) cur w hg
    have hlen : (ys.take off ++ (xs ++ ys.drop (off + xs.length))).length = ys.length := by simp; omega
    have hset := sat_set (w' := w.setCells b (off * 1) (xs.map bv)) (N := fun id => id = rid ∨ nx ≤ id) (o' := { ob with body := .bytes (ys.take off ++ (xs ++ ys.drop (off + xs.length))) }) s hid hE g1 g4 g5 gm hsz (by rw [g2]; exact hcs)
      (by show (ys.take off ++ (xs ++ ys.drop (off + xs.length))).length ≤ c; rw [hlen]; exact hlc)
      (fun hh => by have := hex hh; rw [hob] at this; show c = (ys.take off ++ (xs ++ ys.drop (off + xs.length))).length; rw [hlen]; exact this) hfr (by
        intro i' hi' j' hj'
        simp only [Body.len] at hi'
        rw [hlen] at hi'
        obtain rfl : j' = 0 := by omega
        rw [g3]
        obtain ⟨a', v', e1, e2, e3⟩ := hcell i' (by rw [hob]; exact hi') 0 hj'
        rw [hob] at e1
        simp only [Body.cell?, if_true] at e1 ⊢
        rw [getElem?_over _ _ _ _ hfit]
        by_cases hii : off ≤ i' ∧ i' < off + xs.length
        · have hlt : i' - off < xs.length := by omega
          rw [if_pos hii, if_pos ⟨by omega, by simp; omega, by omega⟩]
          exact ⟨.val (bv xs[i' - off]), bv xs[i' - off], by simp [List.getElem?_eq_getElem hlt], by simp [hlt], .val _⟩
        · rw [if_neg hii, if_neg (by simp; omega)]
          exact ⟨a', v', e1, e2, e3⟩)
    exact .value E _ _ hrun ⟨hset.1, .val _, hset.2, Nat.le_refl _⟩

theorem ok_copyR {x y : Operand} {t t' e : TypeId} {id i j n c0 : Nat} {ob : AObj} {l : List (List AV)} {el : List AV} {xs : List UInt8} {p : Prop} (s : Sat E nx H w) (r : RepT E w tm a) (h : o.op = .call { callee := .builtin .copy, args := #[x, y], argTypes := #[t, t'] })
    (ht : elemT P t = some e) (hb : byteTB P e = true) (hx : avOf tm x = .csl id i j n c0) (hid : H id = some ob) (hob : ob.body = .rows l) (hi : l[i]? = some el) (he : el.length = ob.sz) (hj : j + n ≤ ob.sz)
    (hy : bytesOf H (avOf tm y) = some (xs, p)) (hp : p) (h0 : 0 < n) (hn : n ≤ xs.length) :
    OpOk P o E H a w rid nx ⟨.val (goInt n), [(id, some { ob with body := .rows (l.set i (splice el j ((List.range n).map fun k => .val (bv (xs.getD k 0))))) })], nx⟩ := by
  obtain ⟨A1, m, c1, hv, hrd⟩ := rd_of s hy hp (r.eval y)
  have hm := hrd.len
  have rx := r.eval x
  rw [hx] at rx
  generalize hu : a.eval x = u at rx
  cases rx with
  | csl hE hn' hmx =>
    rename_i b c sz
    have ro := s.at_ hid hE
    have hsz : sz = ob.sz := ro.1
    have hil : i < l.length := (List.getElem?_eq_some_iff.1 hi).1
    have hic : i < c := Nat.lt_of_lt_of_le (by rw [hob]; exact hil) ro.2.2.1
    have hrun := copy_run (b := b) (k0 := i * sz + j) (k := n) h (byteTB_ok hb ht) hu hv hrd (by rw [← hm]; exact (Nat.min_eq_right hn).symm) h0 (fun k hk => ro.writable (by rw [Nat.add_assoc]; exact flat_lt (by omega) hic))
    obtain ⟨_, _, hlc, _, hex, cur, fr, hg, hcs, hfr, hcell⟩ := ro
    obtain ⟨cur', g1, g2, g3, g4, g5, gm⟩ := setCells_spec b ob.t fr ((xs.take n).map bv) (i * sz + j) cur w hg
    have hcn : ((List.range n).map fun k => AV.val (bv (xs.getD k 0))).length = n := by simp
    generalize hcsd : ((List.range n).map fun k => AV.val (bv (xs.getD k 0))) = cs at hcn ⊢
    have hvl : ((xs.take n).map bv).length = n := by simp; omega
    have hset := sat_set (w' := w.setCells b (i * sz + j) ((xs.take n).map bv)) (N := fun id => id = rid ∨ nx ≤ id) (o' := { ob with body := .rows (l.set i (splice el j cs)) }) s hid hE g1 g4 g5 gm hsz (by rw [g2]; exact hcs) (by rw [hob] at hlc; simpa [Body.len] using hlc)
      (fun hh => by have := hex hh; rw [hob] at this; simpa [Body.len] using this) hfr (by
        intro i' hi' j' hj'
        simp only [Body.len, List.length_set] at hi'
        have hi'' : i' < c := Nat.lt_of_lt_of_le (by rw [hob]; exact hi') hlc
        have hcur : i' * sz + j' < cur.size := by rw [hcs]; exact flat_lt hj' hi''
        rw [g3]
        obtain ⟨a', v', e1, e2, e3⟩ := hcell i' (by rw [hob]; exact hi') j' hj'
        rw [hob] at e1
        simp only [Body.cell?] at e1
        by_cases hii : i' = i ∧ j ≤ j' ∧ j' < j + n
        · obtain ⟨rfl, hj1, hj2⟩ := hii
          have hlt : j' - j < n := by omega
          rw [if_pos ⟨by omega, by rw [hvl]; omega, hcur⟩]
          refine ⟨.val (bv (xs.getD (j' - j) 0)), bv (xs.getD (j' - j) 0), ?_, ?_, .val _⟩
          · simp only [Body.cell?]
            rw [List.getElem?_set_self hil, Option.bind_some, splice_get el j cs (by omega), if_pos ⟨hj1, by omega⟩, ← hcsd]
            simp [hlt]
          · rw [show i' * sz + j' - (i' * sz + j) = j' - j by omega, List.getElem?_map, List.getElem?_take, if_pos hlt, List.getD_eq_getElem?_getD, List.getElem?_eq_getElem (by omega : j' - j < xs.length)]
            rfl
        · rw [if_neg (fun hc => hii (by
            obtain ⟨c1, c2, _⟩ := hc
            rw [hvl] at c2
            have := flat_inj (sz := sz) (i := i') (j := j') (i' := i) (j' := j + (i' * sz + j' - (i * sz + j))) hj' (by omega) (by omega)
            omega))]
          refine ⟨a', v', ?_, e2, e3⟩
          simp only [Body.cell?]
          by_cases hii2 : i' = i
          · subst hii2
            rw [List.getElem?_set_self hil, Option.bind_some, splice_get el j cs (by omega), if_neg (fun hc => hii ⟨rfl, by omega, by omega⟩)]
            rw [hi, Option.bind_some] at e1
            exact e1
          · rw [List.getElem?_set_ne (fun e => hii2 e.symm)]
            exact e1)
    exact .value E _ _ hrun ⟨hset.1, .val _, hset.2, Nat.le_refl _⟩
end
end Go.Proofs.Ytecmagdefllihaa
