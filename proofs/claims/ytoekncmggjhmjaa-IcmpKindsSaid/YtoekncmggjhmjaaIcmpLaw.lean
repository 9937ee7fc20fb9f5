/- The contracts of the statements' own small functions of layer 9. -/
import Derived.Test.YtoekncmggjhmjaaIcmpGet
import Derived.Test.YtoekncmggjhmjaaIcmpPut
namespace Go.Proofs.Ytoekncmggjhmjaa
open Go.RowKit

theorem strTy : Try.prog.underlying 9 = some .string := Try.underlying9

/-- the packet between two -/
def baseP : Pkt := ⟨0, 0, 0, 0, 64, 0, ⟨10, 0, 0, 1⟩, ⟨10, 0, 0, 2⟩, [], []⟩

theorem base9_any (w : World) : Calls Try.prog 39 #[] w fun e w' => e = .returned (.agg (pktA baseP none 0 0 none 0 0)) ∧ Below w.heap.size w w' := by
  go_enter Try.func39, Try.ntmps39
  go_wp2
  refine bodyPost_ret (results_cell1 rfl rtP rfl (Blk.new w _ _ rfl) rfl) rfl ?_
  exact ⟨rfl, (Below.refl _ _).alloc (Nat.le_refl _) _⟩

theorem msg9_any (m : Msg) (A : Option Addr) (n c : Nat) (w : World) :
    Calls Try.prog 36 #[.agg (msgA m A n c)] w fun e w' => e = .returned (.agg (msgA m A n c)) ∧ Below w.heap.size w w' := by
  unfold msgA
  go_enter Try.func36, Try.ntmps36
  go_wp2
  refine bodyPost_ret (results_cell1 rfl rtM4 rfl (Blk.new (w.alloc _) _ _ (by simp)) rfl) rfl ?_
  exact ⟨rfl, ((Below.refl _ _).alloc (Nat.le_refl _) _).alloc (by simp) _⟩

set_option maxHeartbeats 400000 in
theorem same9_any (m : Msg) (A A' : Option Addr) (n c n' c' : Nat) (lo hi lo' hi' : Nat) (w : World) (h : Rd w lo hi A n c m.body) (h' : Rd w lo' hi' A' n' c' m.body) (hhi : hi ≤ w.heap.size) (hhi' : hi' ≤ w.heap.size) :
    Calls Try.prog 31 #[.agg (msgA m A n c), .agg (msgA m A' n' c')] w fun e w' => e = .returned (.bool true) ∧ Below w.heap.size w w' := by
  have e1 := conv2 (P := Try.prog) bt strTy h hhi
  have e2 := conv2 (P := Try.prog) bt strTy h' hhi'
  clear h h'
  unfold msgA
  go_enter Try.func31, Try.ntmps31
  go_wp2
  go_ret
  exact ⟨by simp, ((Below.refl _ _).alloc (Nat.le_refl _) _).alloc (by simp) _⟩
end Go.Proofs.Ytoekncmggjhmjaa
