/- A flow's mapping is over when its time is, and its answer then stays without: for all arguments the law TopShort answers true.
   No condition. -/
import Derived.Test.YtfofhpkafhpicaaGreatDoorCards
import Derived.Test.YtfofhpkafhpicaaGreatDoorTw
import Derived.Test.YtfofhpkafhpicaaGreatDoorShLaw
import Derived.Test.YtfofhpkafhpicaaGreatDoorOp
import Derived.Test.YtfofhpkafhpicaaGreatDoorMtf
import Derived.LaidMore
import Derived.Lay
import Derived.Stop.Joined
namespace Go.Proofs.YtfofhpkafhpicaaGreatDoor.topShort
open Go.ChangeShapes Go.WideShapes Go.ChangeAt Go.RowKit
set_option linter.unusedSimpArgs false
set_option linter.unusedVariables false

theorem opened (xs : List AV) (h : ArgsOk Tryz.prog [3, 3, 3] [[.int .i64], [.int .i64], [.int .i64]] xs) : ∃ L' nx', ACall Tryz.prog 5 xs [] 0 (.val (.bool true)) L' nx' := by
  obtain ⟨x0, r0, rfl, a0, h⟩ := h
  obtain ⟨x1, r1, rfl, a1, h⟩ := h
  obtain ⟨x2, r2, rfl, a2, h⟩ := h
  obtain rfl := h
  obtain ⟨n, y0, e0, hn, -⟩ := a0.one_inv (by kernel_rfl)
  injection e0 with e0 _
  subst e0
  obtain ⟨port, y1, e1, hport, -⟩ := a1.one_inv (by kernel_rfl)
  injection e1 with e1 _
  subst e1
  obtain ⟨wait, y2, e2, hwait, -⟩ := a2.one_inv (by kernel_rfl)
  injection e2 with e2 _
  subst e2
  exact walk n port wait hn hport hwait

set_option maxRecDepth 100000 in
theorem lifted (os : Os) (started : os.Started) (H : Type) (enc : TypeId × Value → H) :
    ReturnsInHanded {} Tryz.checked os 5 .any (fun w args => (Rows.topShortSpec.pre enc Tryz.prog Tryz.f5 Rows.topShortRow.domain false w args ∧ laidMetH Tryz.prog Rows.topShortRow.laid w) ∧ sizedMet enc Tryz.prog Tryz.f5 (OpenSpec.ofChange Rows.topShortSpec) false w args)
      (Rows.topShortSpec.post enc Tryz.prog Tryz.f5 false true false false) := by
  refine returnsInHanded_of_change_and (C := Tryz.checked) (X := fun w _ => laidMetH Tryz.prog Rows.topShortRow.laid w) (fun _ _ _ hh h => h.of_heap hh) own started e1 Tryz.func5
    (ChangeSpec.witness_shaped (enc := enc) (C := Tryz.checked) (os := os) (X := fun w _ => laidMetH Tryz.prog Rows.topShortRow.laid w) false (World.laidAll Tryz.prog os Rows.topShortRow.laid) #[.int .i64 0, .int .i64 0, .int .i64 0] 8 (World.laidAll_os _ _ _)
      (World.shaped_of_ZipB (e2 os) (e3 os)) (e4 os) (e5 enc os) (e6 enc os)
      (by rw [MakeChecks.laidMetH_plain _ _ _ e7]; exact laidMet_laidAll _ (e8 os) (e9 os))) ?_
  intro W base args ds gs before hval0 hW hcnd _ _ _
  have hval : ∀ (j : Nat) t v, Tryz.f5.params[j]? = some t → args[j]? = some v → Value.okWide Tryz.prog W .any base t v := hval0
  have hW' := hW
  obtain ⟨p, q, hA0, hV, rfl, hfz, hnd⟩ := hW
  have hA : DataW.TrodAll enc Tryz.prog W 0 (fun _ => true) true Tryz.f5.params.toList args.toList ds p := hA0
  rw [Tryz.params5] at hA hval
  obtain ⟨rfl, rfl⟩ := trodVars_none hV
  clear hA0 hval0
  obtain ⟨xs, hok, hlen, hreps⟩ := open_args (enc := enc) [3, 3, 3] [[.int .i64], [.int .i64], [.int .i64]] args.toList ds p e10 hA fun j t v h1 h2 => hval j t v (by simpa using h1) (by simpa using h2)
  obtain ⟨L', nx', hc⟩ := opened xs hok
  refine (hc.true_ (reps_args hlen hreps)).mono fun e W' ⟨he, bel⟩ => ?_
  subst he
  have hA2 := args_after laidOut bel [3, 3, 3] args.toList ds p e11 hA
  clear hreps hval hok hlen
  obtain ⟨_, _, d0, ds0, p0, q0, _, rfl, rfl, _, hA⟩ := trodAll_cons hA
  obtain ⟨_, _, d1, ds1, p1, q1, _, rfl, rfl, _, hA⟩ := trodAll_cons hA
  obtain ⟨_, _, d2, ds2, p2, q2, _, rfl, rfl, _, hA⟩ := trodAll_cons hA
  obtain ⟨_, rfl, rfl⟩ := trodAll_nil hA
  exact ⟨_, rfl, _, _, _, [], _, [], hW', trodAll_mk1 (shut_bool Tryz.underlying4 _), hA2, rfl, bel.frame _, fun h => by cases h⟩

theorem over : Rows.topShortRow.holds Tryz.pinned (OpenSpec.ofChange Rows.topShortSpec) :=
  OpenClaim.holds_of_wide 5 Tryz.f5 rfl rfl rfl rfl rfl rfl rfl ⟨rfl, rfl, rfl, rfl, rfl⟩ rfl rfl rfl rfl rfl c3 Tryz.func5 facts
    (of_decide_eq_true (by kernel_rfl)) (by unfold Func.isWrapper; first | (rw [if_pos (by decide +kernel)]; kernel_rfl) | (rw [if_neg (by decide +kernel)]; exact ⟨rfl, rfl⟩))
    (fun os started H enc _ => lifted os started H enc)

theorem proved : Rows.TopShortCardSaid :=
  Claim7.holds_tied_plain_at .later [] [.pinned, .data, .sentinel, .sentinel, .data, .data, .data] true (true, "1bdd895862cc6d4e4cdce9bd1951f01deccbc9bbc4ab38f4e3d2031c742c9f23") true over (fun _ h => by cases h) c1 (fun _ h => by cases h) rowTie rfl ⟨rfl, rfl⟩ c2 rfl
    (fun f fn hf hfn => by
      obtain rfl : f = 5 := Option.some.inj (c3.symm.trans hf) |>.symm
      obtain rfl : fn = Tryz.f5 := (Option.some.inj (Tryz.func5.symm.trans hfn)).symm
      exact ⟨c4, fun j t ht => by
        rw [Tryz.params5] at ht
        have hm : t ∈ [3, 3, 3] := by simpa using Array.mem_of_getElem? ht
        exact (show Tryz.prog.wantsStandIn t = false by simpa using List.all_eq_true.1 c5 t hm)⟩)
    c6
end Go.Proofs.YtfofhpkafhpicaaGreatDoor.topShort
