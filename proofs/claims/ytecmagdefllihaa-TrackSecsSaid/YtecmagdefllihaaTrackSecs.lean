/- TrackSecs answers true, whatever is given.
   No condition. -/
import Derived.Test.YtecmagdefllihaaSecsQ
import Derived.Test.YtecmagdefllihaaHead
namespace Go.Proofs.Ytecmagdefllihaa.trackSecs
open Go.ChangeShapes Go.WideShapes Go.ChangeAt Go.RowKit

theorem tab1 (P : Program) (g : Nat) (br : List (Nat × Bool)) : ∀ e ∈ [(g, symH P [] [] br [])], InlOk P e.2.inl := by
  intro e he
  rw [List.mem_singleton.1 he]
  exact symH_ok _ _ _ _ _
theorem tab3 (P : Program) (g g' g'' : Nat) (br br' br'' : List (Nat × Bool)) : ∀ e ∈ [(g, symH P [] [] br []), (g', symH P [] [] br' []), (g'', symH P [] [] br'' [])], InlOk P e.2.inl := by
  intro e he
  simp only [List.mem_cons, List.not_mem_nil, or_false] at he
  rcases he with rfl | rfl | rfl
  · exact symH_ok _ _ _ _ _
  · exact symH_ok _ _ _ _ _
  · exact symH_ok _ _ _ _ _

/-- what is left to show of the end -/
theorem endQ {n r l : Int} (h : n = r) (h2 : n ≤ l) : ∀ p ∈ [(n == r) = true, (n == r) = true, (n == r) = true, (n == r) = true, AV.val (.bool (decide (n ≤ l))) = AV.val (.bool true)], p := by
  intro p hp
  have e1 : (n == r) = true := by rw [beq_iff_eq]; exact h
  have e2 : decide (n ≤ l) = true := by rw [decide_eq_true_eq]; exact h2
  simp only [List.mem_cons, List.not_mem_nil, or_false] at hp
  rcases hp with rfl | rfl | rfl | rfl | rfl
  · exact e1
  · exact e1
  · exact e1
  · exact e1
  · rw [e2]

theorem consQ {p : Prop} {q : List Prop} (h : p) (hq : ∀ x ∈ q, x) : ∀ x ∈ p :: q, x := by
  intro x hx
  rcases List.mem_cons.1 hx with rfl | hx
  · exact h
  · exact hq x hx

theorem dT {p : Prop} [Decidable p] (h : p) : decide p = true := decide_eq_true h
theorem dF {p : Prop} [Decidable p] (h : ¬ p) : decide p = false := decide_eq_false h

theorem walk (s l : Int) (W : World) : Calls Try.prog 4 #[.int .i64 s, .int .i64 l] W fun e w' => e = .returned (.bool true) ∧ Below W.heap.size W w' := by
  by_cases h1 : s = 1
  · subst h1
    by_cases hb : l < 240
    · exact run_true (vals := [.int .i64 1, .int .i64 l]) (symH2_ok _ _ _ _ _ _ (tab1 _ _ _)) (s1_true l) (consQ (dT hb) (endQ (by split <;> omega) (by split <;> omega))) W
    · exact run_true (vals := [.int .i64 1, .int .i64 l]) (symH2_ok _ _ _ _ _ _ (tab1 _ _ _)) (s1_false l) (consQ (dF hb) (endQ (by split <;> omega) (by split <;> omega))) W
  by_cases h2 : s = 2
  · subst h2
    by_cases hb : l < 240
    · exact run_true (vals := [.int .i64 2, .int .i64 l]) (symH2_ok _ _ _ _ _ _ (tab1 _ _ _)) (s2_true l) (consQ (dT hb) (endQ (by split <;> omega) (by split <;> omega))) W
    · exact run_true (vals := [.int .i64 2, .int .i64 l]) (symH2_ok _ _ _ _ _ _ (tab1 _ _ _)) (s2_false l) (consQ (dF hb) (endQ (by split <;> omega) (by split <;> omega))) W
  by_cases h4 : s = 4
  · subst h4
    by_cases hb : l < 240
    · exact run_true (vals := [.int .i64 4, .int .i64 l]) (symH2_ok _ _ _ _ _ _ (tab1 _ _ _)) (s4_true l) (consQ (dT hb) (endQ (by split <;> omega) (by split <;> omega))) W
    · exact run_true (vals := [.int .i64 4, .int .i64 l]) (symH2_ok _ _ _ _ _ _ (tab1 _ _ _)) (s4_false l) (consQ (dF hb) (endQ (by split <;> omega) (by split <;> omega))) W
  by_cases h5 : s = 5
  · subst h5
    by_cases hb : l < 10
    · exact run_true (vals := [.int .i64 5, .int .i64 l]) (symH2_ok _ _ _ _ _ _ (tab1 _ _ _)) (s5_true l) (consQ (dT hb) (endQ (by split <;> omega) (by split <;> omega))) W
    · exact run_true (vals := [.int .i64 5, .int .i64 l]) (symH2_ok _ _ _ _ _ _ (tab1 _ _ _)) (s5_false l) (consQ (dF hb) (endQ (by split <;> omega) (by split <;> omega))) W
  by_cases h6 : s = 6
  · subst h6
    by_cases hb : l < 10
    · exact run_true (vals := [.int .i64 6, .int .i64 l]) (symH2_ok _ _ _ _ _ _ (tab1 _ _ _)) (s6_true l) (consQ (dT hb) (endQ (by split <;> omega) (by split <;> omega))) W
    · exact run_true (vals := [.int .i64 6, .int .i64 l]) (symH2_ok _ _ _ _ _ _ (tab1 _ _ _)) (s6_false l) (consQ (dF hb) (endQ (by split <;> omega) (by split <;> omega))) W
  by_cases h3 : s = 3
  · subst h3
    exact run_true (vals := [.int .i64 3, .int .i64 l]) (symH2_ok _ _ _ _ _ _ (fun _ h => by cases h)) (s3 l) (endQ (by rfl) (by exact Int.le_refl _)) W
  by_cases hb : l < 60
  · exact run_true (vals := [.int .i64 s, .int .i64 l]) (symH2_ok _ _ _ _ _ _ (tab3 _ _ _ _ _ _ _)) (other_true s l) (consQ (dF h3) (consQ (dF h1) (consQ (dF h2) (consQ (dF h4) (consQ (dF h5) (consQ (dF h6) (consQ (dF h3) (consQ (dF h1) (consQ (dF h2) (consQ (dF h4) (consQ (dF h5) (consQ (dF h6) (consQ (dT hb) (endQ (by split <;> omega) (by split <;> omega))))))))))))))) W
  · exact run_true (vals := [.int .i64 s, .int .i64 l]) (symH2_ok _ _ _ _ _ _ (tab3 _ _ _ _ _ _ _)) (other_false s l) (consQ (dF h3) (consQ (dF h1) (consQ (dF h2) (consQ (dF h4) (consQ (dF h5) (consQ (dF h6) (consQ (dF h3) (consQ (dF h1) (consQ (dF h2) (consQ (dF h4) (consQ (dF h5) (consQ (dF h6) (consQ (dF hb) (endQ (by split <;> omega) (by split <;> omega))))))))))))))) W

set_option maxRecDepth 100000 in
theorem lifted (os : Os) (started : os.Started) (H : Type) (enc : TypeId × Value → H) :
    ReturnsInHanded {} Try.checked os 4 .any (Rows.trackSecsSpec.pre6 enc Try.prog Try.f4 Rows.trackSecsRow.domain false) (Rows.trackSecsSpec.post enc Try.prog Try.f4 false true false false) := by
  refine returnsInHanded_of_change (C := Try.checked) own started (by kernel_rfl) Try.func4
    (ChangeSpec.witness6 (enc := enc) (C := Try.checked) false ⟨#[], #[.int .i64 0, .int .i64 0], []⟩ 8 (by kernel_rfl) (by kernel_rfl) (by kernel_rfl) (by kernel_rfl)) ?_
  intro W base args ds gs before hval0 hW hcnd _
  have hval : ∀ (j : Nat) t v, Try.f4.params[j]? = some t → args[j]? = some v → Value.okWide Try.prog W .any base t v := hval0
  have hW' := hW
  obtain ⟨p, q, hA0, hV, rfl, hfz, hnd⟩ := hW
  have hA : DataW.TrodAll enc Try.prog W 0 (fun _ => true) true Try.f4.params.toList args.toList ds p := hA0
  rw [Try.params4] at hA hval
  obtain ⟨v0, vs0, d0, ds0, p0, q0, hargs, rfl, rfl, h0, r0⟩ := trodAll_cons hA
  obtain ⟨v1, vs1, d1, ds1, p1, q1, rfl, rfl, rfl, h1, r1⟩ := trodAll_cons r0
  obtain ⟨rfl, rfl, rfl⟩ := trodAll_nil r1
  obtain rfl : args = #[v0, v1] := by cases args; simp_all
  obtain ⟨rfl, rfl⟩ := trodVars_none hV
  have lt0 : ∀ x ∈ p0, x.block < W.heap.size := by obtain ⟨m, hm⟩ := h0; exact DataW.trod_lt m _ _ _ hm
  have lt1 : ∀ x ∈ p1, x.block < W.heap.size := by obtain ⟨m, hm⟩ := h1; exact DataW.trod_lt m _ _ _ hm
  obtain ⟨s, rfl⟩ := okWide_int Try.underlying3 (hval 0 3 v0 rfl rfl)
  obtain ⟨l, rfl⟩ := okWide_int Try.underlying3 (hval 1 3 v1 rfl rfl)
  clear hA0 hval0
  refine (walk s l W).mono fun e W' ⟨he, bel⟩ => ?_
  subst he
  exact ⟨_, rfl, _, _, _, [], _, [], hW', trodAll_mk1 (shut_bool Try.underlying4 _), (trodAll_cons_mk (Below.trod laidOut (by kernel_rfl) (of_decide_eq_true (by kernel_rfl)) h0 bel lt0) (trodAll_cons_mk (Below.trod laidOut (by kernel_rfl) (of_decide_eq_true (by kernel_rfl)) h1 bel lt1) trodAll_mk0)), rfl, bel.frame _, fun h => by cases h⟩

theorem facts : joinedFacts Try.prog 4 Try.f4 Rows.trackSecsSpec Rows.trackSecsRow = true := by
  unfold joinedFacts
  exact both (both (both (both (both (both (both (by kernel_rfl) may_enter) (by rw [finals_none]; kernel_rfl)) (by rw [make_cut]; kernel_rfl)) (by kernel_rfl)) (by kernel_rfl)) (by kernel_rfl)) (by kernel_rfl)

theorem over : Rows.trackSecsRow.holds Try.pinned (OpenSpec.ofChange Rows.trackSecsSpec) :=
  OpenClaim.holds_of_wide 4 Try.f4 rfl rfl rfl rfl rfl rfl rfl ⟨rfl, rfl, rfl, rfl, rfl⟩ rfl rfl rfl rfl rfl (by kernel_rfl) Try.func4 facts
    (of_decide_eq_true (by kernel_rfl)) (by unfold Func.isWrapper; first | (rw [if_pos (by decide +kernel)]; kernel_rfl) | (rw [if_neg (by decide +kernel)]; exact ⟨rfl, rfl⟩))
    (fun os started H enc _ => lifted os started H enc)

theorem proved : Rows.TrackSecsSaid := over
end Go.Proofs.Ytecmagdefllihaa.trackSecs
