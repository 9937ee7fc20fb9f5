/- Joined texts: the library's own strings.Join, by the shelf's contract; the contract as the engine takes it. (The numbers are those of the seat of chapters 20 to 23.) -/
import Derived.Test.YtmilcpejchjleaaMes
import Derived.Test.YtmilcpejchjleaaProg
import Derived.Shelf.Strings.OnBuilder
namespace Go.Proofs.Ytmilcpejchjleaa
open Go.Shelf
def joinRen : Go.Shelf.Ren := ⟨fun | 156 => 85 | 165 => 119 | 166 => 120 | 169 => 121 | 240 => 136 | 241 => 137 | 276 => 142 | 277 => 143 | n => n, fun | 31 => 29 | 9 => 9 | 3 => 3 | 4 => 4 | 0 => 0 | 20 => 20 | 72 => 176 | 76 => 180 | 70 => 174 | 37 => 40 | 75 => 179 | 127 => 192 | 164 => 201 | 5 => 5 | 80 => 182 | n => n, fun | n => n⟩
theorem joinLays : Go.Proofs.Lays.n156 Try.prog joinRen := {
  mixed := by kernel_rfl
  f156 := Try.func85.trans (congrArg some (by kernel_rfl))
  f165 := Try.func119.trans (congrArg some (by kernel_rfl))
  f166 := Try.func120.trans (congrArg some (by kernel_rfl))
  f169 := Try.func121.trans (congrArg some (by kernel_rfl))
  f240 := Try.func136.trans (congrArg some (by kernel_rfl))
  f241 := Try.func137.trans (congrArg some (by kernel_rfl))
  f276 := Try.func142.trans (congrArg some (by kernel_rfl))
  f277 := Try.func143.trans (congrArg some (by kernel_rfl))
  t0 := Try.underlying0
  a0 := Try.isAgg0
  z0 := Try.sizeOf0
  v0 := Try.zeroValue0
  t3 := Try.underlying3
  a3 := Try.isAgg3
  z3 := Try.sizeOf3
  v3 := Try.zeroValue3
  t4 := Try.underlying4
  a4 := Try.isAgg4
  z4 := Try.sizeOf4
  v4 := Try.zeroValue4
  t9 := Try.underlying9
  a9 := Try.isAgg9
  z9 := Try.sizeOf9
  v9 := Try.zeroValue9
  t20 := Try.underlying20
  a20 := Try.isAgg20
  z20 := Try.sizeOf20
  v20 := Try.zeroValue20
  t31 := Try.underlying29
  a31 := Try.isAgg29
  z31 := Try.sizeOf29
  v31 := Try.zeroValue29
  t37 := Try.underlying40
  a37 := Try.isAgg40
  z37 := Try.sizeOf40
  v37 := Try.zeroValue40
  t70 := Try.underlying174
  a70 := Try.isAgg174
  z70 := Try.sizeOf174
  v70 := Try.zeroValue174
  t72 := Try.underlying176
  a72 := Try.isAgg176
  z72 := Try.sizeOf176
  v72 := Try.zeroValue176
  t75 := Try.underlying179
  a75 := Try.isAgg179
  z75 := Try.sizeOf179
  v75 := Try.zeroValue179
  t76 := Try.underlying180
  a76 := Try.isAgg180
  z76 := Try.sizeOf180
  v76 := Try.zeroValue180
  t127 := Try.underlying192
  a127 := Try.isAgg192
  z127 := Try.sizeOf192
  v127 := Try.zeroValue192
  t164 := Try.underlying201
  a164 := Try.isAgg201
  z164 := Try.sizeOf201
  v164 := Try.zeroValue201 }
theorem joinExtra : Builder.Extra Try.prog joinRen := {
  sizeBuilder := by kernel_rfl
  liesBuilder := by kernel_rfl
  t5 := Try.underlying5
  a5 := Try.isAgg5
  z5 := Try.sizeOf5
  v5 := Try.zeroValue5
  infoByte := by kernel_rfl
  cellsByte := by kernel_rfl
  sizeByte := by kernel_rfl
  neB5 := by decide }

open Go.RowKit

/-- what was said of a world is so still where no block of it has turned -/
theorem Sat.after {E : Env} {H : Heap} {w w' : World} {nx : Nat} (s : Sat E nx H w) (b : Below w.heap.size w w') : Sat E nx H w' := by
  have m : More E w E w' := ⟨fun _ _ h => h, fun _ h => h, fun k hk => b.block k (s.imm k hk)⟩
  refine ⟨fun id o h => ?_, s.inj, s.fresh, fun k hk => Nat.lt_of_lt_of_le (s.imm k hk) b.size⟩
  obtain ⟨p, hp', ro⟩ := s.rows _ _ h
  refine ⟨p, hp', ?_⟩
  cases p with
  | nil => exact ro
  | at_ g c z => exact ro.more m ro.2.1 (b.block g (s.lt h hp'))

theorem Ext.after {E : Env} {H : Heap} {w w' : World} {N : Nat → Prop} (b : Below w.heap.size w w') : Ext E H w N E H w' :=
  ⟨fun _ _ h => h, fun _ _ h => .inl h, fun _ h => h, fun _ h => .inl h, fun k hk _ => b.block k hk, fun _ h => .inl h, b.size, b.os, b.tape, b.output⟩

/-- a call that yields a plain value and leaves all as it was -/
theorem ACall.plain {P : Program} {g : FuncId} {xs : List AV} {L : List (Nat × AObj)} {nx : Nat} {v : Value}
    (h : ∀ E w vs, Sat E nx (hp L) w → Reps E w xs vs → Calls P g vs w fun e w' => e = .returned v ∧ Below w.heap.size w w') : ACall P g xs L nx (.val v) L nx := by
  intro E w vs hs hr
  refine Calls.mono (h E w vs hs hr) fun e w' ⟨he, b⟩ => ?_
  exact ⟨E, v, he, hs.after b, .val _, Ext.after b⟩

theorem reps2 {E : Env} {w : World} {x y : AV} {vs : Array Value} (h : Reps E w [x, y] vs) : ∃ u v, vs = #[u, v] ∧ Rep E w x u ∧ Rep E w y v := by
  obtain ⟨h1, h2⟩ := h
  have hs : vs.size = 2 := h1
  refine ⟨vs[0], vs[1], ?_, h2 0 x _ rfl (by simp [hs]), h2 1 y _ rfl (by simp [hs])⟩
  apply Array.ext
  · simp [hs]
  · intro i h3 h4
    have : i = 0 ∨ i = 1 := by omega
    rcases this with rfl | rfl <;> simp

/-- a row that holds a text -/
def strOf : List AV → ByteArray
  | [.val (.string s)] => s
  | _ => ⟨#[]⟩
def isStrRow (e : List AV) : Prop := ∃ s, e = [.val (.string s)]
def isStrRowB : List AV → Bool
  | [.val (.string _)] => true
  | _ => false
theorem isStrRowB_ok {e : List AV} (h : isStrRowB e = true) : isStrRow e := by
  unfold isStrRowB at h
  split at h
  · exact ⟨_, rfl⟩
  · cases h
theorem strOf_eq {e : List AV} (h : isStrRow e) : e = [.val (.string (strOf e))] := by
  obtain ⟨s, rfl⟩ := h
  rfl

theorem join_call {E : Env} {w : World} {nx : Nat} {L : List (Nat × AObj)} {id off n : Nat} {lim : Option Nat} {ob : AObj} {l : List (List AV)} {sep : ByteArray} {vs : Array Value} (hs : Sat E nx (hp L) w) (hr : Reps E w [.sl id off (n + 1) lim, .val (.string sep)] vs)
    (hid : hp L id = some ob) (hb : ob.body = .rows l) (hsz : ob.sz = 1) (hl : off + (n + 1) ≤ l.length) (ha : ∀ e ∈ (l.drop off).take (n + 1), isStrRow e) (hn : n ≤ 1000000000)
    (hlen : (Lib.join (((l.drop off).take (n + 1)).map fun e => (strOf e).data.toList) sep.data.toList).length ≤ 140737488355328) :
    Calls Try.prog 85 vs w fun e w' => e = .returned (.string ⟨(Lib.join (((l.drop off).take (n + 1)).map fun e => (strOf e).data.toList) sep.data.toList).toArray⟩) ∧ Below w.heap.size w w' := by
  obtain ⟨u, v, rfl, r, r'⟩ := reps2 hr
  rw [r'.val_inv]
  cases r with
  | sl hE hc hlm hnc hA =>
    rename_i b c sz cap A
    have ro := hs.at_ hid hE
    have h1 : sz = ob.sz := ro.1
    obtain rfl : sz = 1 := by omega
    obtain rfl := hA.resolve_left (by omega)
    have hll : (((l.drop off).take (n + 1)).map strOf).length = n + 1 := by simp; omega
    have hj := Any.strings_Join joinLays joinExtra b (off * 1) cap (((l.drop off).take (n + 1)).map strOf) sep w (fun j x hx => by
      simp only [List.getElem?_map, Option.map_eq_some_iff] at hx
      obtain ⟨e, he, rfl⟩ := hx
      have hem := ha e (List.mem_of_getElem? he)
      rw [List.getElem?_take] at he
      split at he
      · rw [List.getElem?_drop] at he
        obtain ⟨a', v', e1, e2, e3⟩ := ro.read (i := off + j) (j := 0) (by rw [hb]; exact (List.getElem?_eq_some_iff.1 he).1) (by omega)
        rw [hb] at e1
        simp only [Body.cell?, he, Option.bind_some] at e1
        rw [strOf_eq hem] at e1
        simp only [List.getElem?_cons_zero, Option.some.injEq] at e1
        subst e1
        have := e3.val_inv
        subst this
        simpa using e2
      · cases he) (hs.lt hid hE) (by rw [hll]; omega) (by rw [hll]; exact hnc) (by rw [List.map_map]; exact hlen)
    rw [hll, List.map_map] at hj
    exact hj

/-- Join, where all is known -/
def kJoin : Inl := fun g xs L nx =>
  if g = 85 then
    match xs with
    | [.sl id off (n + 1) _, .val (.string sep)] =>
      match hp L id with
      | some ob =>
        match ob.body with
        | .rows l =>
          if ob.sz = 1 ∧ off + (n + 1) ≤ l.length ∧ ((l.drop off).take (n + 1)).all isStrRowB = true ∧ n ≤ 1000000000 ∧ (Lib.join (((l.drop off).take (n + 1)).map fun e => (strOf e).data.toList) sep.data.toList).length ≤ 140737488355328 then
            some (.val (.string ⟨(Lib.join (((l.drop off).take (n + 1)).map fun e => (strOf e).data.toList) sep.data.toList).toArray⟩), L, nx, [])
          else none
        | _ => none
      | none => none
    | _ => none
  else none

theorem kJoin_ok : InlOk Try.prog kJoin := by
  intro g xs L nx v L' nx' q h hq
  unfold kJoin at h
  split at h
  · rename_i hg
    subst hg
    split at h
    · rename_i id off n lim sep
      split at h
      · rename_i ob hid
        split at h
        · rename_i l hb
          split at h
          · rename_i hc
            simp only [Option.some.injEq, Prod.mk.injEq] at h
            obtain ⟨rfl, rfl, rfl, rfl⟩ := h
            exact ⟨ACall.plain fun E w vs hs hr => join_call hs hr hid hb hc.1 hc.2.1 (fun e he => isStrRowB_ok (List.all_eq_true.1 hc.2.2.1 e he)) hc.2.2.2.1 hc.2.2.2.2, Nat.le_refl _⟩
          · cases h
        · cases h
      · cases h
    · cases h
  · cases h
end Go.Proofs.Ytmilcpejchjleaa
