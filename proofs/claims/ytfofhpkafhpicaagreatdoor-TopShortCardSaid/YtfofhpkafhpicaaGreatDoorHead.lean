/- The head of the dump, read as words: a harness word, its sum, and the word cut. With it three closed facts that ask the head alone. No condition. -/
import Derived.Test.YtfofhpkafhpicaaGreatDoorCard
import Derived.JoinedOf
namespace Go.Proofs.YtfofhpkafhpicaaGreatDoor

theorem words_ne : ∀ l : List Char, wordsSigns l ≠ []
  | [] => by simp [wordsSigns]
  | c :: r => by
    unfold wordsSigns
    split
    · simp
    · simp
    · split <;> simp

theorem words_app (r : List Char) : ∀ l : List Char, wordsSigns (l ++ Char.ofNat 32 :: r) = wordsSigns l ++ wordsSigns r
  | [] => rfl
  | c :: l => by
    have ih := words_app r l
    by_cases hc : c = Char.ofNat 32
    · subst hc
      show [] :: wordsSigns (l ++ Char.ofNat 32 :: r) = ([] :: wordsSigns l) ++ wordsSigns r
      rw [ih]; rfl
    · have e : ∀ k : List Char, wordsSigns (c :: k) = (match wordsSigns k with | w :: ws => (c :: w) :: ws | [] => [[c]]) := by
        intro k
        rw [wordsSigns]
        · cases wordsSigns k <;> rfl
        · intro h; exact hc h
      show wordsSigns (c :: (l ++ Char.ofNat 32 :: r)) = _
      rw [e, e, ih]
      cases h : wordsSigns l with
      | nil => exact absurd h (words_ne l)
      | cons w ws => rfl

def cs (l : List Nat) : List Char := l.map Char.ofNat

def sumNats : List Nat := [49, 98, 100, 100, 56, 57, 53, 56, 54, 50, 99, 99, 54, 100, 52, 101, 52, 99, 100, 99, 101, 57, 98, 100, 49, 57, 53, 49, 102, 48, 49, 100, 101, 99, 99, 98, 99, 57, 98, 98, 99, 52, 97, 98, 51, 56, 102, 52, 101, 51, 100, 50, 48, 51, 49, 99, 55, 52, 50, 99, 57, 102, 50, 51]
def restNats : List Nat := [97, 116, 32, 103, 97, 116, 101, 104, 111, 117, 115, 101, 47, 103, 97, 116, 101, 104, 111, 117, 115, 101, 116, 111, 112, 46, 84, 111, 112, 77, 97, 112, 115, 32, 103, 97, 116, 101, 104, 111, 117, 115, 101, 47, 103, 97, 116, 101, 104, 111, 117, 115, 101, 116, 111, 112, 46, 84, 111, 112, 80, 111, 114, 116, 115, 32, 103, 97, 116, 101, 104, 111, 117, 115, 101, 47, 103, 97, 116, 101, 104, 111, 117, 115, 101, 116, 111, 112, 46, 84, 111, 112, 83, 104, 111, 114, 116]

theorem lit_io : Tryz.prog.initOrder = String.ofList (cs [104, 97, 114, 110, 101, 115, 115] ++ Char.ofNat 32 :: (cs sumNats ++ Char.ofNat 32 :: (cs [99, 117, 116] ++ Char.ofNat 32 :: cs restNats))) := by kernel_rfl

theorem cut_io : ∃ s r : List Char, Tryz.prog.initOrder = String.ofList (cs [104, 97, 114, 110, 101, 115, 115] ++ Char.ofNat 32 :: (s ++ Char.ofNat 32 :: (cs [99, 117, 116] ++ Char.ofNat 32 :: r))) ∧ wordsSigns s = [s] ∧ isSumSigns s = true :=
  ⟨cs sumNats, cs restNats, lit_io, by kernel_rfl, by kernel_rfl⟩

theorem cut_words : ∃ X, behindMainWord (wordsSigns Tryz.prog.initOrder.toList) = "cut".toList :: X := by
  obtain ⟨s, r, h, hw, hs⟩ := cut_io
  rw [h, String.toList_ofList, words_app, words_app, words_app, hw]
  refine ⟨wordsSigns r, ?_⟩
  have e1 : wordsSigns (cs [104, 97, 114, 110, 101, 115, 115]) = ["harness".toList] := by decide +kernel
  have e2 : wordsSigns (cs [99, 117, 116]) = ["cut".toList] := by decide +kernel
  rw [e1, e2]
  show (if ("harness".toList == "harness".toList || "harness".toList == "ownmain".toList) && isSumSigns s then _ else _) = _
  rw [hs, if_pos (by decide +kernel)]
  rfl

theorem make_of {P : Program} {X} (h : behindMainWord (wordsSigns P.initOrder.toList) = "cut".toList :: X) : P.make = some .cut := by
  unfold Program.make
  rw [h]
  rfl

theorem may_of {P : Program} {X} (h : behindMainWord (wordsSigns P.initOrder.toList) = "cut".toList :: X) (h1 : P.laysLater = false) (h2 : P.bearsReflect = false) (h3 : P.doorFits [] = true) : P.mayEnter = true := by
  have e : stripLifts liftWords ("cut".toList :: X) = ([], "cut".toList :: X) := rfl
  unfold Program.mayEnter
  rw [h]
  simp only [e, h1, h2, h3]
  rfl

theorem lays_none : Tryz.prog.laysLater = false := by kernel_rfl
theorem reflect_none : Tryz.prog.bearsReflect = false := by kernel_rfl
theorem door_fits : Tryz.prog.doorFits [] = true := by kernel_rfl

theorem may_enter : Tryz.prog.mayEnter = true := by
  obtain ⟨X, h⟩ := cut_words
  exact may_of h lays_none reflect_none door_fits

theorem lifts_none : Tryz.prog.headLifts = [] := by
  obtain ⟨X, h⟩ := cut_words
  unfold Program.headLifts
  rw [h]
  kernel_rfl

theorem finals_none : Tryz.prog.liftsFinal = false := by
  obtain ⟨X, h⟩ := cut_words
  unfold Program.liftsFinal
  rw [lifts_none, h]
  kernel_rfl

theorem make_cut : Tryz.prog.make = some .cut := by
  obtain ⟨X, h⟩ := cut_words
  exact make_of h

theorem both {a b : Bool} (ha : a = true) (hb : b = true) : (a && b) = true := by rw [ha, hb]; rfl
end Go.Proofs.YtfofhpkafhpicaaGreatDoor
