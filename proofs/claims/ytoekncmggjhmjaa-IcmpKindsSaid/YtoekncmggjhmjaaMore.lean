/- More words on blocks and packets in memory. -/
import Derived.Test.YtoekncmggjhmjaaSpec
namespace Go.Proofs.Ytoekncmggjhmjaa
open Go.RowKit

theorem Blk.drew {w : World} {g : Nat} {t : TypeId} {cs : Array Value} (h : Blk w g t cs) : Blk w.drew g t cs := h
theorem Blk.put2 {w : World} {g : Nat} {t : TypeId} {v0 v1 u0 u1 : Value} (h : Blk w g t #[v0, v1]) :
    Blk ((w.setCell ⟨g, 0, none⟩ u0).setCell ⟨g, 1, none⟩ u1) g t #[u0, u1] := by
  have h2 := ((h.set_ 0 u0).set_ 1 u1)
  simp only [List.setIfInBounds_toArray, List.set_cons_succ, List.set_cons_zero] at h2
  exact h2
theorem Blk.put3 {w : World} {g : Nat} {t : TypeId} {v0 v1 v2 u0 u1 u2 : Value} (h : Blk w g t #[v0, v1, v2]) :
    Blk (((w.setCell ⟨g, 0, none⟩ u0).setCell ⟨g, 1, none⟩ u1).setCell ⟨g, 2, none⟩ u2) g t #[u0, u1, u2] := by
  have h2 := (((h.set_ 0 u0).set_ 1 u1).set_ 2 u2)
  simp only [List.setIfInBounds_toArray, List.set_cons_succ, List.set_cons_zero] at h2
  exact h2
theorem Blk.put4 {w : World} {g : Nat} {t : TypeId} {v0 v1 v2 v3 u0 u1 u2 u3 : Value} (h : Blk w g t #[v0, v1, v2, v3]) :
    Blk ((((w.setCell ⟨g, 0, none⟩ u0).setCell ⟨g, 1, none⟩ u1).setCell ⟨g, 2, none⟩ u2).setCell ⟨g, 3, none⟩ u3) g t #[u0, u1, u2, u3] := by
  have h2 := ((((h.set_ 0 u0).set_ 1 u1).set_ 2 u2).set_ 3 u3)
  simp only [List.setIfInBounds_toArray, List.set_cons_succ, List.set_cons_zero] at h2
  exact h2
theorem Blk.put5 {w : World} {g : Nat} {t : TypeId} {v0 v1 v2 v3 v4 u0 u1 u2 u3 u4 : Value} (h : Blk w g t #[v0, v1, v2, v3, v4]) :
    Blk (((((w.setCell ⟨g, 0, none⟩ u0).setCell ⟨g, 1, none⟩ u1).setCell ⟨g, 2, none⟩ u2).setCell ⟨g, 3, none⟩ u3).setCell ⟨g, 4, none⟩ u4) g t #[u0, u1, u2, u3, u4] := by
  have h2 := (((((h.set_ 0 u0).set_ 1 u1).set_ 2 u2).set_ 3 u3).set_ 4 u4)
  simp only [List.setIfInBounds_toArray, List.set_cons_succ, List.set_cons_zero] at h2
  exact h2
theorem Blk.put9 {w : World} {g : Nat} {t : TypeId} {v0 v1 v2 v3 v4 v5 v6 v7 v8 u0 u1 u2 u3 u4 u5 u6 u7 u8 : Value} (h : Blk w g t #[v0, v1, v2, v3, v4, v5, v6, v7, v8]) :
    Blk (((((((((w.setCell ⟨g, 0, none⟩ u0).setCell ⟨g, 1, none⟩ u1).setCell ⟨g, 2, none⟩ u2).setCell ⟨g, 3, none⟩ u3).setCell ⟨g, 4, none⟩ u4).setCell ⟨g, 5, none⟩ u5).setCell ⟨g, 6, none⟩ u6).setCell ⟨g, 7, none⟩ u7).setCell ⟨g, 8, none⟩ u8) g t #[u0, u1, u2, u3, u4, u5, u6, u7, u8] := by
  have h2 := (((((((((h.set_ 0 u0).set_ 1 u1).set_ 2 u2).set_ 3 u3).set_ 4 u4).set_ 5 u5).set_ 6 u6).set_ 7 u7).set_ 8 u8)
  simp only [List.setIfInBounds_toArray, List.set_cons_succ, List.set_cons_zero] at h2
  exact h2
theorem Blk.put16 {w : World} {g : Nat} {t : TypeId} {v0 v1 v2 v3 v4 v5 v6 v7 v8 v9 v10 v11 v12 v13 v14 v15 u0 u1 u2 u3 u4 u5 u6 u7 u8 u9 u10 u11 u12 u13 u14 u15 : Value} (h : Blk w g t #[v0, v1, v2, v3, v4, v5, v6, v7, v8, v9, v10, v11, v12, v13, v14, v15]) :
    Blk ((((((((((((((((w.setCell ⟨g, 0, none⟩ u0).setCell ⟨g, 1, none⟩ u1).setCell ⟨g, 2, none⟩ u2).setCell ⟨g, 3, none⟩ u3).setCell ⟨g, 4, none⟩ u4).setCell ⟨g, 5, none⟩ u5).setCell ⟨g, 6, none⟩ u6).setCell ⟨g, 7, none⟩ u7).setCell ⟨g, 8, none⟩ u8).setCell ⟨g, 9, none⟩ u9).setCell ⟨g, 10, none⟩ u10).setCell ⟨g, 11, none⟩ u11).setCell ⟨g, 12, none⟩ u12).setCell ⟨g, 13, none⟩ u13).setCell ⟨g, 14, none⟩ u14).setCell ⟨g, 15, none⟩ u15) g t #[u0, u1, u2, u3, u4, u5, u6, u7, u8, u9, u10, u11, u12, u13, u14, u15] := by
  have h2 := ((((((((((((((((h.set_ 0 u0).set_ 1 u1).set_ 2 u2).set_ 3 u3).set_ 4 u4).set_ 5 u5).set_ 6 u6).set_ 7 u7).set_ 8 u8).set_ 9 u9).set_ 10 u10).set_ 11 u11).set_ 12 u12).set_ 13 u13).set_ 14 u14).set_ 15 u15)
  simp only [List.setIfInBounds_toArray, List.set_cons_succ, List.set_cons_zero] at h2
  exact h2

section
variable {w w' : World} {lo hi : Nat} {p : Pkt} {Ao Ab : Option Addr} {no co nb cb : Nat}
theorem PktAt.kp {b : Nat} (h : PktAt w lo hi p Ao no co Ab nb cb) (k : Kp b w w') (hb : b < lo ∨ hi ≤ b) : PktAt w' lo hi p Ao no co Ab nb cb := ⟨h.opts.kp k hb, h.body.kp k hb⟩
theorem PktAt.alloc (h : PktAt w lo hi p Ao no co Ab nb cb) (hB : hi ≤ w.heap.size) (o : Obj) : PktAt (w.alloc o) lo hi p Ao no co Ab nb cb := ⟨h.opts.alloc hB o, h.body.alloc hB o⟩
theorem PktAt.sm (h : PktAt w lo hi p Ao no co Ab nb cb) (s : Sm w w') : PktAt w' lo hi p Ao no co Ab nb cb := ⟨h.opts.sm s, h.body.sm s⟩
theorem PktAt.drew (h : PktAt w lo hi p Ao no co Ab nb cb) : PktAt w.drew lo hi p Ao no co Ab nb cb := ⟨h.opts.drew, h.body.drew⟩
end
end Go.Proofs.Ytoekncmggjhmjaa
