/- Arguments opened to the words of this proof; and read again behind a call that turns nothing old. -/
import Derived.Test.YtoekncmggjhmjaaSpec
import Derived.Test.YtoekncmggjhmjaaRows
import Derived.ProofKit
import Derived.OpenShut
import Derived.ShutString
import Derived.ChangeOld
import Derived.Lib.SmallJoins
namespace Go.Proofs.Ytoekncmggjhmjaa
open Go.ChangeShapes Go.WideShapes Go.ChangeAt Go.RowKit

theorem own : ownKnob Try.prog.godebug = none := by kernel_rfl
theorem laidOut : laidOutB Try.prog = true := by kernel_rfl

section
variable {H : Type} {enc : TypeId × Value → H} {w : World} {fuel : Nat}

theorem wf_u32 {n : Int} (h : (Lit.int .u32 n).wf = true) : 0 ≤ n ∧ n ≤ 4294967295 := by
  simp [Lit.wf, IntKind.min, IntKind.max, IntKind.signed, IntKind.bits] at h
  omega
theorem wf_u8 {n : Int} (h : (Lit.int .u8 n).wf = true) : 0 ≤ n ∧ n ≤ 255 := by
  simp [Lit.wf, IntKind.min, IntKind.max, IntKind.signed, IntKind.bits] at h
  omega

theorem open_bytes {v : Value} {y : DataW H × List MemPlace} (h : DataW.trod enc Try.prog w 0 (fun _ => true) true fuel 24 [v] = some y) :
    ∃ (A : Option Addr) (n c : Nat) (xs : List UInt8), v = .slice A n c ∧ Rd w 0 w.heap.size A n c xs := by
  rcases open_ints Try.underlying24 Try.underlying5 (by kernel_rfl) h with ⟨hcs, _⟩ | ⟨a, len, cap, zs, hcs, _, hl, hm, hz, _, hcell, hwz⟩
  · injection hcs with hv
    exact ⟨none, 0, 0, [], hv, Rd.nil _ _ _⟩
  · injection hcs with hv
    have hz' : zs.length = cap := by simpa using hz
    refine ⟨some a, len, cap, (zs.take len).map fun z => UInt8.ofNat z.toNat, hv, by simp [List.length_take]; omega, hl, hm, fun hn => ?_⟩
    have c0 := hcell 0 (by omega)
    obtain ⟨b, off, spot⟩ := a
    have hspot : spot = none := by simpa [Addr.add] using World.cell?_spot c0
    subst hspot
    refine ⟨b, off, rfl, Nat.zero_le _, ?_, fun i x hx => ?_⟩
    · have := World.block_lt_of_cell? _ _ c0
      simpa [Addr.add] using this
    · simp only [List.getElem?_map, Option.map_eq_some_iff] at hx
      obtain ⟨z, hzi, rfl⟩ := hx
      rw [List.getElem?_take] at hzi
      split at hzi
      · have hlt : i < zs.length := (List.getElem?_eq_some_iff.1 hzi).1
        have hc := hcell i hlt
        rw [add_zero_spot] at hc
        rw [hc]
        have hzv : zs.getD i 0 = z := by simp [List.getD, hzi]
        rw [hzv]
        have hb := wf_u8 (hwz z (List.mem_of_getElem? hzi))
        simp only [bv]
        congr 2
        simp [UInt8.toNat_ofNat']
        omega
      · cases hzi
end

set_option maxRecDepth 100000 in
theorem open_msg {H : Type} {enc : TypeId × Value → H} {w : World} {base : Nat} {v : Value} {d : DataW H} {p : List MemPlace} (hv : Value.okWide Try.prog w .any base 30 v)
    (h : DataW.Trod enc Try.prog w 0 (fun _ => true) true 30 v d p) :
    ∃ (m : Msg) (A : Option Addr) (n c : Nat), v = .agg (msgA m A n c) ∧ Rd w 0 w.heap.size A n c m.body ∧ m.rest ≤ 4294967295 := by
  obtain ⟨v0, v1, v2, v3, y0, y1, y2, y3, k, rfl, _, _, h0, h1, h2, h3⟩ := Joins.open_agg4 Try.underlying30 (by kernel_rfl) (by kernel_rfl) hv h
  obtain ⟨a0, e0, _, _⟩ := DataW.trod_int Try.underlying3 h0
  obtain ⟨a1, e1, _, _⟩ := DataW.trod_int Try.underlying3 h1
  obtain ⟨a2, e2, _, w2⟩ := DataW.trod_int Try.underlying28 h2
  obtain ⟨A, n, c, xs, e3, r⟩ := open_bytes h3
  injection e0 with e0
  injection e1 with e1
  injection e2 with e2
  subst e0 e1 e2 e3
  have hb := wf_u32 w2
  obtain ⟨u, rfl⟩ := Int.eq_ofNat_of_zero_le hb.1
  have hu : u ≤ 4294967295 := by omega
  exact ⟨⟨a0, a1, u, xs⟩, A, n, c, rfl, r, hu⟩
end Go.Proofs.Ytoekncmggjhmjaa
