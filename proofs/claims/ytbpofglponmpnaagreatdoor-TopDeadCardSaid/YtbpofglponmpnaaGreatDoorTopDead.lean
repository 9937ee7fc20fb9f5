/- A host without a lease goes nowhere: for every act the law TopDead answers true.
   No condition. -/
import Derived.Test.YtbpofglponmpnaaGreatDoorCards
import Derived.Test.YtbpofglponmpnaaGreatDoorTw
import Derived.Test.YtbpofglponmpnaaGreatDoorTdLaw
import Derived.Test.YtbpofglponmpnaaGreatDoorOp
import Derived.Test.YtbpofglponmpnaaGreatDoorMtf
import Derived.LaidMore
import Derived.Lay
import Derived.Stop.Joined
namespace Go.Proofs.YtbpofglponmpnaaGreatDoor.topDead
open Go.ChangeShapes Go.WideShapes Go.ChangeAt Go.RowKit
set_option linter.unusedSimpArgs false
set_option linter.unusedVariables false

theorem opened (xs : List AV) (h : ArgsOk Tryz.prog [25] [[.int .i64, .int .i64, .int .i64, .int .i64, .int .i64, .int .u32, .int .u32, .bytes]] xs) : ∃ L' nx', ACall Tryz.prog 3 xs [] 0 (.val (.bool true)) L' nx' := by
  obtain ⟨x0, r0, rfl, a0, h⟩ := h
  obtain rfl := h
  obtain ⟨c0, rfl, i0⟩ := a0.row_inv (by kernel_rfl)
  obtain ⟨op, _, rfl, hop, n, _, rfl, hn, v, _, rfl, hv, p, _, rfl, hp, q, _, rfl, hq, draw, _, rfl, hdraw, secs, _, rfl, hsecs, b, _, rfl, rfl⟩ := i0
  exact walk op n v p q draw secs b

set_option maxRecDepth 100000 in
theorem lifted (os : Os) (started : os.Started) (H : Type) (enc : TypeId × Value → H) :
    ReturnsInHanded {} Tryz.checked os 3 .any (fun w args => (Rows.topDeadSpec.pre enc Tryz.prog Tryz.f3 Rows.topDeadRow.domain false w args ∧ laidMetH Tryz.prog Rows.topDeadRow.laid w) ∧ sizedMet enc Tryz.prog Tryz.f3 (OpenSpec.ofChange Rows.topDeadSpec) false w args)
      (Rows.topDeadSpec.post enc Tryz.prog Tryz.f3 false true false false) := by
  refine returnsInHanded_of_change_and (C := Tryz.checked) (X := fun w _ => laidMetH Tryz.prog Rows.topDeadRow.laid w) (fun _ _ _ hh h => h.of_heap hh) own started e1 Tryz.func3
    (ChangeSpec.witness_shaped (enc := enc) (C := Tryz.checked) (os := os) (X := fun w _ => laidMetH Tryz.prog Rows.topDeadRow.laid w) false (World.laidAll Tryz.prog os Rows.topDeadRow.laid) #[.agg #[.int .i64 0, .int .i64 0, .int .i64 0, .int .i64 0, .int .i64 0, .int .u32 0, .int .u32 0, .slice none 0 0]] 8 (World.laidAll_os _ _ _)
      (World.shaped_of_ZipB (e2 os) (e3 os)) (e4 os) (e5 enc os) (e6 enc os)
      (by rw [MakeChecks.laidMetH_plain _ _ _ e7]; exact laidMet_laidAll _ (e8 os) (e9 os))) ?_
  intro W base args ds gs before hval0 hW hcnd _ _ _
  have hval : ∀ (j : Nat) t v, Tryz.f3.params[j]? = some t → args[j]? = some v → Value.okWide Tryz.prog W .any base t v := hval0
  have hW' := hW
  obtain ⟨p, q, hA0, hV, rfl, hfz, hnd⟩ := hW
  have hA : DataW.TrodAll enc Tryz.prog W 0 (fun _ => true) true Tryz.f3.params.toList args.toList ds p := hA0
  rw [Tryz.params3] at hA hval
  obtain ⟨rfl, rfl⟩ := trodVars_none hV
  clear hA0 hval0
  obtain ⟨xs, hok, hlen, hreps⟩ := open_args (enc := enc) [25] [[.int .i64, .int .i64, .int .i64, .int .i64, .int .i64, .int .u32, .int .u32, .bytes]] args.toList ds p e10 hA fun j t v h1 h2 => hval j t v (by simpa using h1) (by simpa using h2)
  obtain ⟨L', nx', hc⟩ := opened xs hok
  refine (hc.true_ (reps_args hlen hreps)).mono fun e W' ⟨he, bel⟩ => ?_
  subst he
  have hA2 := args_after laidOut bel [25] args.toList ds p e11 hA
  clear hreps hval hok hlen
  obtain ⟨_, _, d0, ds0, p0, q0, _, rfl, rfl, _, hA⟩ := trodAll_cons hA
  obtain ⟨_, rfl, rfl⟩ := trodAll_nil hA
  exact ⟨_, rfl, _, _, _, [], _, [], hW', trodAll_mk1 (shut_bool Tryz.underlying4 _), hA2, rfl, bel.frame _, fun h => by cases h⟩

theorem over : Rows.topDeadRow.holds Tryz.pinned (OpenSpec.ofChange Rows.topDeadSpec) :=
  OpenClaim.holds_of_wide 3 Tryz.f3 rfl rfl rfl rfl rfl rfl rfl ⟨rfl, rfl, rfl, rfl, rfl⟩ rfl rfl rfl rfl rfl c3 Tryz.func3 facts
    (of_decide_eq_true (by kernel_rfl)) (by unfold Func.isWrapper; first | (rw [if_pos (by decide +kernel)]; kernel_rfl) | (rw [if_neg (by decide +kernel)]; exact ⟨rfl, rfl⟩))
    (fun os started H enc _ => lifted os started H enc)

theorem proved : Rows.TopDeadCardSaid :=
  Claim7.holds_tied_plain_at .later [] [.pinned, .data, .sentinel, .sentinel, .data, .data, .data] true (true, "c60d9d9c827fbecac17d4697b33530bfdbe0cd07c2884ff4b16c00609038ff8b") true over (fun _ h => by cases h) c1 (fun _ h => by cases h) rowTie rfl ⟨rfl, rfl⟩ c2 rfl
    (fun f fn hf hfn => by
      obtain rfl : f = 3 := Option.some.inj (c3.symm.trans hf) |>.symm
      obtain rfl : fn = Tryz.f3 := (Option.some.inj (Tryz.func3.symm.trans hfn)).symm
      exact ⟨c4, fun j t ht => by
        rw [Tryz.params3] at ht
        have hm : t ∈ [25] := by simpa using Array.mem_of_getElem? ht
        exact (show Tryz.prog.wantsStandIn t = false by simpa using List.all_eq_true.1 c5 t hm)⟩)
    c6
end Go.Proofs.YtbpofglponmpnaaGreatDoor.topDead
