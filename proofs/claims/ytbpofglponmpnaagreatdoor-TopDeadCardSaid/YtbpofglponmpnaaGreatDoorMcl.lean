/- Several texts in one: Cl0, Clt. -/
import Derived.Test.YtbpofglponmpnaaGreatDoorCard
import GoSem.ClaimGoes

/- What a card asks about a program's calls, by a table of numbers: the functions that a call may come to, and what stands in them, shown in parts. No condition. -/
namespace Go.Proofs.YtbpofglponmpnaaGreatDoor
open Go

/-- The walk over the calls by a table of numbers; what was met stands as bits too. -/
def cloT (T : List (List Nat)) : (fuel : Nat) → (todo : List Nat) → (mask : Nat) → (seen : List Nat) → List Nat
  | 0, _, _, seen => seen.reverse
  | _ + 1, [], _, seen => seen.reverse
  | n + 1, f :: todo, mask, seen =>
    cond (Nat.testBit mask f) (cloT T n todo mask seen) (cloT T n ((T[f]?).getD [] ++ todo) (mask ||| (1 <<< f)) (f :: seen))

theorem cloT_eq (P : Program) (T : List (List Nat)) (h : ∀ g : Nat, (P.funcs[g]?).elim [] P.leadsTo = (T[g]?).getD []) :
    ∀ (n : Nat) (todo : List Nat) (mask : Nat) (seen : List Nat), (∀ g, Nat.testBit mask g = seen.contains g) → P.closureVia n todo seen = cloT T n todo mask seen
  | 0, todo, mask, seen, _ => by cases todo <;> rfl
  | n + 1, [], mask, seen, _ => rfl
  | n + 1, f :: todo, mask, seen, hm => by
    have e1 : P.closureVia (n + 1) (f :: todo) seen = if seen.contains f then P.closureVia n todo seen else P.closureVia n ((P.funcs[f]?).elim [] P.leadsTo ++ todo) (f :: seen) := rfl
    have e2 : cloT T (n + 1) (f :: todo) mask seen = cond (Nat.testBit mask f) (cloT T n todo mask seen) (cloT T n ((T[f]?).getD [] ++ todo) (mask ||| (1 <<< f)) (f :: seen)) := rfl
    rw [e1, e2, hm f, h f]
    cases hc : seen.contains f
    · rw [if_neg (by simp)]
      refine cloT_eq P T h n _ _ _ fun g => ?_
      rw [Nat.testBit_or, hm g, Nat.one_shiftLeft, Nat.testBit_two_pow, List.contains_cons]
      by_cases e : f = g
      · subst e; simp
      · have e' : ¬ g = f := fun x => e x.symm
        simp [e, e']
    · rw [if_pos rfl]
      exact cloT_eq P T h n _ _ _ hm

theorem clo_eq (P : Program) (T : List (List Nat)) (k f : Nat) (hT : P.funcs.toList.map P.leadsTo = T) (hk : 1 + (T.map fun l => l.length + 1).sum = k) : P.closure f = cloT T k [f] 0 [] := by
  have h : ∀ g : Nat, (P.funcs[g]?).elim [] P.leadsTo = (T[g]?).getD [] := by
    intro g
    subst hT
    rw [List.getElem?_map, Array.getElem?_toList]
    cases P.funcs[g]? <;> rfl
  have e : (P.funcs.toList.map fun g => (P.leadsTo g).length + 1) = T.map fun l => l.length + 1 := by
    rw [← hT, List.map_map]; rfl
  unfold Program.closure
  rw [e, hk]
  exact cloT_eq P T h k [f] 0 [] fun g => by simp

theorem map_part {α β : Type} {F : α → β} {l : List α} {a n b : Nat} {A B : List β} (h1 : ((l.drop a).take n).map F = A) (h2 : (l.drop b).map F = B) (hb : a + n = b) : (l.drop a).map F = A ++ B := by
  subst hb
  have e : l.drop (a + n) = (l.drop a).drop n := by rw [List.drop_drop]
  rw [← h1, ← h2, ← List.map_append, e, List.take_append_drop]

theorem filterMap_part {α β : Type} {q : α → Option β} {A B : List α} {a b : List β} (h1 : A.filterMap q = a) (h2 : B.filterMap q = b) : (A ++ B).filterMap q = a ++ b := by
  rw [List.filterMap_append, h1, h2]
theorem flatMap_part {α β : Type} {q : α → List β} {A B : List α} {a b : List β} (h1 : A.flatMap q = a) (h2 : B.flatMap q = b) : (A ++ B).flatMap q = a ++ b := by
  rw [List.flatMap_append, h1, h2]
theorem all_part {α : Type} {p : α → Bool} {l : List α} {a n b : Nat} (h1 : ((l.drop a).take n).all p = true) (h2 : (l.drop b).all p = true) (hb : a + n = b) : (l.drop a).all p = true := by
  subst hb
  have e : l.drop (a + n) = (l.drop a).drop n := by rw [List.drop_drop]
  rw [e] at h2
  rw [← List.take_append_drop n (l.drop a), List.all_append, h1, h2]; rfl

/-- No body has a go statement and no entry stands for one: then no call goes. -/
theorem goes_none {P : Program} (h : P.funcs.toList.all (fun fn => !fn.goes) = true) (f : Nat) : P.goes f = false := by
  have hn : ∀ fn : Func, fn ∈ P.funcs.toList → fn.goes = false := fun fn m => by simpa using List.all_eq_true.1 h fn m
  have h2 : P.funcs.any Func.goes = false := by
    rw [← Array.any_toList, List.any_eq_false]
    exact fun fn m => by rw [hn fn m]; exact Bool.false_ne_true
  have h1 : ((P.closure f).any fun g => (P.funcs[g]?).any Func.goes) = false := by
    rw [List.any_eq_false]
    intro g _
    cases e : P.funcs[g]? with
    | none => exact Bool.false_ne_true
    | some fn =>
      have m : fn ∈ P.funcs.toList := by
        rw [Array.mem_toList_iff]; exact Array.mem_of_getElem? e
      show ¬ fn.goes = true
      rw [hn fn m]; exact Bool.false_ne_true
  unfold Program.goes
  rw [h1, h2, Bool.and_false]; rfl
end Go.Proofs.YtbpofglponmpnaaGreatDoor

/- The table of the program's calls, and the functions that the law may come to. No condition. (Printed by wip/tools/clogen.py.) -/
namespace Go.Proofs.YtbpofglponmpnaaGreatDoor
open Go

def cT0 : List (List Nat) := [[], [], [1], [4, 5, 6, 7], [9, 8], [9, 10, 6, 6, 6, 6, 6], [11, 13, 12, 14, 15, 16, 17, 18], [19], [20, 21, 23, 22, 24], [25], [20, 26], [28, 27, 18, 30, 29, 18, 31, 33, 32, 34, 35, 36, 37, 38, 39], [40, 41, 18, 43, 42, 41], [45, 44, 44, 45, 44, 46, 44, 45, 44]]
theorem cTp0 : ((Tryz.prog.funcs.toList.drop 0).take 14).map Tryz.prog.leadsTo = cT0 := by kernel_rfl
def cT1 : List (List Nat) := [[47, 47, 48, 49, 50, 51, 52, 53, 54], [55, 56, 58, 55, 59, 57, 60, 61, 56, 62, 59, 57, 64, 59, 63, 62, 65, 57, 62, 64, 59, 57, 66, 66, 61, 59, 63, 67, 59, 63, 68, 67, 62, 59, 57, 55, 56, 59, 63, 64, 69, 63, 64, 70, 63, 59, 63, 71, 64, 72, 62, 57, 64, 69, 62, 57], [73, 75, 74, 76, 77, 39]]
theorem cTp1 : ((Tryz.prog.funcs.toList.drop 14).take 3).map Tryz.prog.leadsTo = cT1 := by kernel_rfl
def cT2 : List (List Nat) := [[78, 79, 62, 55, 55, 80, 81, 82, 68, 83, 84, 83, 60, 60, 56, 58, 59, 57], [85], [87, 86], [88, 89, 14], [90, 90, 91], [92], [16, 93, 16, 93, 94, 14, 96, 95, 97, 98, 18, 99], [], [100], [], [102, 101, 32], [103], [85, 104, 105, 106, 107, 109, 108]]
theorem cTp2 : ((Tryz.prog.funcs.toList.drop 17).take 13).map Tryz.prog.leadsTo = cT2 := by kernel_rfl
def cT3 : List (List Nat) := [[110, 111, 112, 113, 112, 113, 112, 114], [101, 115, 32, 47, 116, 117, 118], [119], [87, 86, 121, 120], [123, 124, 125], [126, 127], [18, 128, 107, 108], [129, 131, 130, 133, 134, 135], [138, 75, 140, 139], [], [141, 142], [143], [99, 144, 145, 146, 147, 148], [150, 149, 152, 153, 151], [], [45, 45], [45, 45, 45, 45], [], [88, 154, 89], [], []]
theorem cTp3 : ((Tryz.prog.funcs.toList.drop 30).take 21).map Tryz.prog.leadsTo = cT3 := by kernel_rfl
def cT4 : List (List Nat) := [[87, 155, 156, 157, 158], [159], [160], [], [], [60, 161, 61, 66, 66], [71, 81], [], [162], [163], [66, 66], [], [55, 57], [], [68, 162, 164, 69, 165, 70], [], [166, 166, 167, 167, 167, 66, 66, 66, 66, 66, 66, 168, 166, 166, 169, 66, 66, 170, 170, 170]]
theorem cTp4 : ((Tryz.prog.funcs.toList.drop 51).take 17).map Tryz.prog.leadsTo = cT4 := by kernel_rfl
def cT5 : List (List Nat) := [[171, 172, 172, 173, 172, 172, 174], [175, 175, 175, 175, 175, 66, 66, 61, 61, 66, 66, 173, 174], [175, 175, 61, 176, 174], [175, 175, 175, 175, 175, 175, 66, 66, 66, 176], [82, 177, 177, 175, 175, 174, 70], [178, 179, 179, 180, 182, 181], [183], [], [184, 138, 185, 186, 75, 187, 139], [188, 189, 190], [191, 191, 172, 174], [191, 192, 191, 192], [193]]
theorem cTp5 : ((Tryz.prog.funcs.toList.drop 68).take 13).map Tryz.prog.leadsTo = cT5 := by kernel_rfl
def cT6 : List (List Nat) := [[174, 66], [176, 172, 172, 172, 192, 192, 174, 174], [194, 195, 172, 172, 196, 196, 196, 196, 60], [197, 197, 197, 197, 197, 197, 198, 197, 197, 199, 199, 199], [], [122, 200, 201], [], [202, 203, 204, 205, 206], [207, 208], [209], [210, 211], [212], [22, 22, 213, 213, 22, 24], [11, 93], [214], [], [7, 215, 215, 99, 215, 215], [216, 217, 99, 95]]
theorem cTp6 : ((Tryz.prog.funcs.toList.drop 81).take 18).map Tryz.prog.leadsTo = cT6 := by kernel_rfl
def cT7 : List (List Nat) := [[215], [137, 219, 218], [120], [], [220, 221, 222], [], [], [223, 223, 223, 224, 225, 226, 227, 227, 228], [229], [230, 231], [], [], [], [232], [], [232, 232], [], [130, 233], [234], [], [235], [236], [122], [], [], [237], [238]]
theorem cTp7 : ((Tryz.prog.funcs.toList.drop 99).take 27).map Tryz.prog.leadsTo = cT7 := by kernel_rfl
def cT8 : List (List Nat) := [[239, 227, 240, 241], [107, 242], [244, 243, 245], [], [246], [132], [], [], [248, 247], [137, 137, 136], [249, 249], [], [18], [250], [109, 251], [252, 253, 254, 255, 256, 257], [258], [215, 259], [260], [261, 262, 261, 263, 264, 51], [261, 262, 265, 266]]
theorem cTp8 : ((Tryz.prog.funcs.toList.drop 126).take 21).map Tryz.prog.leadsTo = cT8 := by kernel_rfl
def cT9 : List (List Nat) := [[261, 262, 265, 267, 268], [261, 19, 236, 269, 260, 268], [270], [], [271], [220, 221, 222], [], [137, 137, 272], [273, 274, 274, 274], [276, 275], [122], [277, 236], [], [], [], [175, 175, 66, 66, 66, 173, 174], [], [171, 173, 172, 172, 195, 195, 172, 172, 174, 174], [171, 176, 195, 174], []]
theorem cTp9 : ((Tryz.prog.funcs.toList.drop 147).take 20).map Tryz.prog.leadsTo = cT9 := by kernel_rfl
def cT10 : List (List Nat) := [[168, 166, 166], [], [], [169, 66, 66, 61, 66], [], [], [278, 176], [], [], [279], [], [], [181], [280], [], [], [], [178, 181, 180, 282, 281, 179, 283, 179, 283], [137, 137, 219], [284, 231], [251], [285, 178, 286, 286, 180, 180, 180, 286, 286, 180, 287, 218, 287, 218, 181, 182, 181], [183, 288, 104, 289, 43, 186, 290, 291, 292]]
theorem cTp10 : ((Tryz.prog.funcs.toList.drop 167).take 23).map Tryz.prog.leadsTo = cT10 := by kernel_rfl
def cT11 : List (List Nat) := [[288, 293, 18, 294, 295], [], [], [], [296, 296], [172, 172], [195, 297], [298, 172], [299], [198, 197, 197, 197, 197, 197, 298, 300], [248, 301], [303, 303, 302], [304, 25, 305, 306, 306], [137, 137, 137, 305, 305], [307, 304, 304], [308], [304, 304, 308], [], []]
theorem cTp11 : ((Tryz.prog.funcs.toList.drop 190).take 19).map Tryz.prog.leadsTo = cT11 := by kernel_rfl
def cT12 : List (List Nat) := [[309, 310, 311], [312, 313], [314, 314], [], [92], [315, 316, 317, 318], [319], [320], [], [], [], [], [], [321, 322], [], [323], [324], [], [], [], [325, 325, 227, 227, 227, 227, 327, 326]]
theorem cTp12 : ((Tryz.prog.funcs.toList.drop 209).take 21).map Tryz.prog.leadsTo = cT12 := by kernel_rfl
def cT13 : List (List Nat) := [[328, 227, 227, 227, 329], [75, 139], [330], [], [], [332, 331], [275], [333], [], [334, 334, 334, 334, 335, 334, 334, 335], [336, 227, 227], [240, 226, 227], [230, 337], [338], [], [339], [], [340, 341, 342, 343, 344, 345, 346, 347, 247, 247], [348, 349], [], [227]]
theorem cTp13 : ((Tryz.prog.funcs.toList.drop 230).take 21).map Tryz.prog.leadsTo = cT13 := by kernel_rfl
def cT14 : List (List Nat) := [[350], [351, 352], [256, 257, 353, 354], [353], [355, 356, 357, 358, 257, 353, 254, 256, 254, 254, 255], [359], [353, 354, 254], [258], [360, 22, 24], [95], [264], [361], [361, 362], [361, 312, 363], [87, 156], [364, 120], [], [260, 99, 260], [267], [], [], [], [], [], [], [122], [], [174, 66], [], [181]]
theorem cTp14 : ((Tryz.prog.funcs.toList.drop 251).take 30).map Tryz.prog.leadsTo = cT14 := by kernel_rfl
def cT15 : List (List Nat) := [[], [], [181], [129, 365, 366], [367], [280], [280], [368, 178, 180, 180, 180, 180, 327, 326, 181], [369, 370, 106, 107, 108], [371, 18, 372, 127, 373], [185, 374], [18, 375, 376, 242, 188, 377, 242, 378, 242], [369, 379, 29, 31], [380, 381, 35], [378, 373, 230, 375, 43, 337], [], [], []]
theorem cTp15 : ((Tryz.prog.funcs.toList.drop 281).take 18).map Tryz.prog.leadsTo = cT15 := by kernel_rfl
def cT16 : List (List Nat) := [[], [382, 299, 169], [383, 384, 385, 386, 387, 388, 389, 390, 301, 301], [], [391, 391], [], [185, 100, 392], [], [304], [305], [393, 394], [393, 395, 311], [396], [398, 397, 399, 401, 400, 403, 402], [404, 405], [406], [], [349, 407, 408]]
theorem cTp16 : ((Tryz.prog.funcs.toList.drop 299).take 18).map Tryz.prog.leadsTo = cT16 := by kernel_rfl
def cT17 : List (List Nat) := [[], [409, 410], [214], [152], [248, 411], [137, 137, 136], [324], [413, 412], [], [329], [227], [414, 414, 414, 414, 414, 414], [415], [416, 416, 417, 417, 416], [418], [], [], [], [], [335], [419, 420, 231, 38]]
theorem cTp17 : ((Tryz.prog.funcs.toList.drop 317).take 21).map Tryz.prog.leadsTo = cT17 := by kernel_rfl
def cT18 : List (List Nat) := [[], [227, 226], [], [421, 421], [422, 423], [424, 424, 424, 425], [], [], [], [], []]
theorem cTp18 : ((Tryz.prog.funcs.toList.drop 338).take 11).map Tryz.prog.leadsTo = cT18 := by kernel_rfl
def cT19 : List (List Nat) := [[], [282, 227], [426, 426, 426, 426, 426, 426, 426], [], [427], [357], [428, 256, 353, 353, 429], [430], [431], [432, 433], [397, 399, 400, 402], [], [435, 434, 312], [436, 437], [438, 405], [], [439, 246], [137, 137, 440], [329], []]
theorem cTp19 : ((Tryz.prog.funcs.toList.drop 349).take 20).map Tryz.prog.leadsTo = cT19 := by kernel_rfl
def cT20 : List (List Nat) := [[441, 442, 178, 286, 180, 286, 287, 180, 180, 287, 218, 287, 218, 287, 218, 287, 218, 181, 224], [443, 224, 444, 445, 446, 447, 448, 449, 445], [380, 450, 451, 35], [178, 286, 286, 452, 339, 339, 245, 180, 180, 180, 287, 453, 339, 227, 227, 226], [454, 138, 455, 242], [456], [285, 457], [188, 458, 455], [368, 459, 460, 461], [368, 462, 463, 464], [110, 443, 224, 112, 465, 466, 467, 468]]
theorem cTp20 : ((Tryz.prog.funcs.toList.drop 369).take 11).map Tryz.prog.leadsTo = cT20 := by kernel_rfl
def cT21 : List (List Nat) := [[469, 469, 469, 470, 471, 471, 471, 472], [473, 238, 474, 475, 476, 477, 477, 477], [], [], [478, 478], [422, 423], [479, 479, 479, 480], [], [], []]
theorem cTp21 : ((Tryz.prog.funcs.toList.drop 380).take 10).map Tryz.prog.leadsTo = cT21 := by kernel_rfl
def cT22 : List (List Nat) := [[], [], [137, 219, 218], [], [481], [], [406, 482, 406, 483, 482, 484], [], [], [], [485], [485], [394, 486], [487, 486], [438], [488, 489, 490, 491], [492]]
theorem cTp22 : ((Tryz.prog.funcs.toList.drop 390).take 17).map Tryz.prog.leadsTo = cT22 := by kernel_rfl
def cT23 : List (List Nat) := [[], [], [], [493, 494], [495, 496, 497, 498, 499, 500, 501, 502, 411, 411], [], [], [], [503, 503], [], [], [], [185, 85, 137, 137, 137], [129, 365, 366, 132, 133], [], [248], [], [425], [504, 504, 504], [], [505]]
theorem cTp23 : ((Tryz.prog.funcs.toList.drop 407).take 21).map Tryz.prog.leadsTo = cT23 := by kernel_rfl
def cT24 : List (List Nat) := [[359, 433], [428, 256, 254, 256, 353, 254, 354, 358], [506, 507], [396], [357, 22, 24, 357, 508, 22], [311], [], [], [], [], [509], [], [], [228, 281], [178, 286, 452, 286, 181, 452, 324], [323], [220, 510, 511, 512, 513], [514, 515, 516]]
theorem cTp24 : ((Tryz.prog.funcs.toList.drop 428).take 18).map Tryz.prog.leadsTo = cT24 := by kernel_rfl
def cT25 : List (List Nat) := [[443, 443, 517, 445, 445], [220, 511], [220, 518, 519, 520], [520], [124, 521, 124, 522, 523, 522], [126, 18, 107, 242], [], [524, 525], [368, 367, 178, 286, 286, 180, 287, 182, 181], [526, 526, 226, 329], [], [503, 503], [527, 527], [288, 528, 229]]
theorem cTp25 : ((Tryz.prog.funcs.toList.drop 446).take 14).map Tryz.prog.leadsTo = cT25 := by kernel_rfl
def cT26 : List (List Nat) := [[529, 528, 530, 531], [454, 532, 528, 533, 455, 534, 535, 455], [288, 265, 536, 229], [529, 265, 530, 531], [454, 532, 265, 536, 533, 455, 534, 537, 455], [323, 178, 287], [111], [], [443, 323], [538, 178, 180], [539, 469, 469], [539, 469, 469, 538, 178, 287, 469, 540], [], [], [541], []]
theorem cTp26 : ((Tryz.prog.funcs.toList.drop 460).take 16).map Tryz.prog.leadsTo = cT26 := by kernel_rfl
def cT27 : List (List Nat) := [[542, 543, 333, 544, 543, 545, 546, 547], [], [], [480], [548, 548, 548], [], [], [], [549], [], [550], [551, 394], [552], [552], [552, 215, 553], [552, 215, 553], [], []]
theorem cTp27 : ((Tryz.prog.funcs.toList.drop 476).take 18).map Tryz.prog.leadsTo = cT27 := by kernel_rfl
def cT28 : List (List Nat) := [[], [], [554, 554], [422, 423], [555, 555, 555, 556], [], [], [], [], [], [], [557]]
theorem cTp28 : ((Tryz.prog.funcs.toList.drop 494).take 12).map Tryz.prog.leadsTo = cT28 := by kernel_rfl
def cT29 : List (List Nat) := [[], [558], [427, 559], [560, 560, 560, 560, 560, 560, 561], [562, 271], [564, 563], [518, 520, 221, 565], [218, 512, 566], [567, 417, 226, 417, 417], [], [], [220, 519, 568, 511, 520], [137, 569, 151], [], [570, 563], [545, 571, 544, 333]]
theorem cTp29 : ((Tryz.prog.funcs.toList.drop 506).take 16).map Tryz.prog.leadsTo = cT29 := by kernel_rfl
def cT30 : List (List Nat) := [[333], [573, 572], [19, 266], [19, 574, 275, 51], [], [], [87, 273, 274, 575, 157, 576, 158], [577, 178, 180, 180, 287, 287, 180, 180, 180, 180, 181, 182, 181], [578, 579, 536], [580, 227, 227, 226, 226, 227, 227, 227, 327, 326], [], [], [], [581, 582, 583, 585, 584, 586], [87, 156]]
theorem cTp30 : ((Tryz.prog.funcs.toList.drop 522).take 15).map Tryz.prog.leadsTo = cT30 := by kernel_rfl
def cT31 : List (List Nat) := [[581, 582, 583, 585, 265, 586], [472], [587, 472], [538, 588, 589], [590, 591], [], [592], [477, 477, 477], [594, 593], [], [546], [], [], [314, 595, 314, 483, 482], [], [], []]
theorem cTp31 : ((Tryz.prog.funcs.toList.drop 537).take 17).map Tryz.prog.leadsTo = cT31 := by kernel_rfl
def cT32 : List (List Nat) := [[], [556], [596, 596, 596], [], [], [427, 433, 597, 595, 352], [], [560, 560, 560, 560, 560, 560], [], [], [], [], [520], [100, 137, 392, 137, 218], [510, 520, 221, 518, 221, 565], [], [], [], [238], [], [], [122, 598, 598, 303, 303, 302]]
theorem cTp32 : ((Tryz.prog.funcs.toList.drop 554).take 22).map Tryz.prog.leadsTo = cT32 := by kernel_rfl
def cT33 : List (List Nat) := [[156, 156], [368, 327, 326], [599, 600, 601, 600, 602], [], [603, 603, 603, 603, 603], [367], [], [], [87, 575], [], [329], [604, 605], [], [538, 539, 336, 538, 472], [], [606, 606]]
theorem cTp33 : ((Tryz.prog.funcs.toList.drop 576).take 16).map Tryz.prog.leadsTo = cT33 := by kernel_rfl
def cT34 : List (List Nat) := [[178, 287], [], [474], [], [], [509, 405], [], [607, 418], [], [418, 608, 609], [], [], [], [], [], [], [], [], [], [], []]
theorem cTp34 : ((Tryz.prog.funcs.toList.drop 592).take 21).map Tryz.prog.leadsTo = cT34 := by kernel_rfl
def cT35 : List (List Nat) := [[], [], [], [], [], [], [], [], [], [], [], []]
theorem cTp35 : ((Tryz.prog.funcs.toList.drop 613).take 12).map Tryz.prog.leadsTo = cT35 := by kernel_rfl
def cT36 : List (List Nat) := [[], [], [], [], [], [], [], [], [], [], [], []]
theorem cTp36 : ((Tryz.prog.funcs.toList.drop 625).take 12).map Tryz.prog.leadsTo = cT36 := by kernel_rfl
def cT37 : List (List Nat) := [[], [], [], [], [], [553, 553]]
theorem cTp37 : ((Tryz.prog.funcs.toList.drop 637).take 6).map Tryz.prog.leadsTo = cT37 := by kernel_rfl
theorem cTend : (Tryz.prog.funcs.toList.drop 643).map Tryz.prog.leadsTo = [] := by kernel_rfl
def cT : List (List Nat) := cT0 ++ (cT1 ++ (cT2 ++ (cT3 ++ (cT4 ++ (cT5 ++ (cT6 ++ (cT7 ++ (cT8 ++ (cT9 ++ (cT10 ++ (cT11 ++ (cT12 ++ (cT13 ++ (cT14 ++ (cT15 ++ (cT16 ++ (cT17 ++ (cT18 ++ (cT19 ++ (cT20 ++ (cT21 ++ (cT22 ++ (cT23 ++ (cT24 ++ (cT25 ++ (cT26 ++ (cT27 ++ (cT28 ++ (cT29 ++ (cT30 ++ (cT31 ++ (cT32 ++ (cT33 ++ (cT34 ++ (cT35 ++ (cT36 ++ (cT37 ++ [])))))))))))))))))))))))))))))))))))))
theorem cTf37 : (Tryz.prog.funcs.toList.drop 637).map Tryz.prog.leadsTo = cT37 ++ [] := map_part cTp37 cTend rfl
theorem cTf36 : (Tryz.prog.funcs.toList.drop 625).map Tryz.prog.leadsTo = cT36 ++ (cT37 ++ []) := map_part cTp36 cTf37 rfl
theorem cTf35 : (Tryz.prog.funcs.toList.drop 613).map Tryz.prog.leadsTo = cT35 ++ (cT36 ++ (cT37 ++ [])) := map_part cTp35 cTf36 rfl
theorem cTf34 : (Tryz.prog.funcs.toList.drop 592).map Tryz.prog.leadsTo = cT34 ++ (cT35 ++ (cT36 ++ (cT37 ++ []))) := map_part cTp34 cTf35 rfl
theorem cTf33 : (Tryz.prog.funcs.toList.drop 576).map Tryz.prog.leadsTo = cT33 ++ (cT34 ++ (cT35 ++ (cT36 ++ (cT37 ++ [])))) := map_part cTp33 cTf34 rfl
theorem cTf32 : (Tryz.prog.funcs.toList.drop 554).map Tryz.prog.leadsTo = cT32 ++ (cT33 ++ (cT34 ++ (cT35 ++ (cT36 ++ (cT37 ++ []))))) := map_part cTp32 cTf33 rfl
theorem cTf31 : (Tryz.prog.funcs.toList.drop 537).map Tryz.prog.leadsTo = cT31 ++ (cT32 ++ (cT33 ++ (cT34 ++ (cT35 ++ (cT36 ++ (cT37 ++ [])))))) := map_part cTp31 cTf32 rfl
theorem cTf30 : (Tryz.prog.funcs.toList.drop 522).map Tryz.prog.leadsTo = cT30 ++ (cT31 ++ (cT32 ++ (cT33 ++ (cT34 ++ (cT35 ++ (cT36 ++ (cT37 ++ []))))))) := map_part cTp30 cTf31 rfl
theorem cTf29 : (Tryz.prog.funcs.toList.drop 506).map Tryz.prog.leadsTo = cT29 ++ (cT30 ++ (cT31 ++ (cT32 ++ (cT33 ++ (cT34 ++ (cT35 ++ (cT36 ++ (cT37 ++ [])))))))) := map_part cTp29 cTf30 rfl
theorem cTf28 : (Tryz.prog.funcs.toList.drop 494).map Tryz.prog.leadsTo = cT28 ++ (cT29 ++ (cT30 ++ (cT31 ++ (cT32 ++ (cT33 ++ (cT34 ++ (cT35 ++ (cT36 ++ (cT37 ++ []))))))))) := map_part cTp28 cTf29 rfl
theorem cTf27 : (Tryz.prog.funcs.toList.drop 476).map Tryz.prog.leadsTo = cT27 ++ (cT28 ++ (cT29 ++ (cT30 ++ (cT31 ++ (cT32 ++ (cT33 ++ (cT34 ++ (cT35 ++ (cT36 ++ (cT37 ++ [])))))))))) := map_part cTp27 cTf28 rfl
theorem cTf26 : (Tryz.prog.funcs.toList.drop 460).map Tryz.prog.leadsTo = cT26 ++ (cT27 ++ (cT28 ++ (cT29 ++ (cT30 ++ (cT31 ++ (cT32 ++ (cT33 ++ (cT34 ++ (cT35 ++ (cT36 ++ (cT37 ++ []))))))))))) := map_part cTp26 cTf27 rfl
theorem cTf25 : (Tryz.prog.funcs.toList.drop 446).map Tryz.prog.leadsTo = cT25 ++ (cT26 ++ (cT27 ++ (cT28 ++ (cT29 ++ (cT30 ++ (cT31 ++ (cT32 ++ (cT33 ++ (cT34 ++ (cT35 ++ (cT36 ++ (cT37 ++ [])))))))))))) := map_part cTp25 cTf26 rfl
theorem cTf24 : (Tryz.prog.funcs.toList.drop 428).map Tryz.prog.leadsTo = cT24 ++ (cT25 ++ (cT26 ++ (cT27 ++ (cT28 ++ (cT29 ++ (cT30 ++ (cT31 ++ (cT32 ++ (cT33 ++ (cT34 ++ (cT35 ++ (cT36 ++ (cT37 ++ []))))))))))))) := map_part cTp24 cTf25 rfl
theorem cTf23 : (Tryz.prog.funcs.toList.drop 407).map Tryz.prog.leadsTo = cT23 ++ (cT24 ++ (cT25 ++ (cT26 ++ (cT27 ++ (cT28 ++ (cT29 ++ (cT30 ++ (cT31 ++ (cT32 ++ (cT33 ++ (cT34 ++ (cT35 ++ (cT36 ++ (cT37 ++ [])))))))))))))) := map_part cTp23 cTf24 rfl
theorem cTf22 : (Tryz.prog.funcs.toList.drop 390).map Tryz.prog.leadsTo = cT22 ++ (cT23 ++ (cT24 ++ (cT25 ++ (cT26 ++ (cT27 ++ (cT28 ++ (cT29 ++ (cT30 ++ (cT31 ++ (cT32 ++ (cT33 ++ (cT34 ++ (cT35 ++ (cT36 ++ (cT37 ++ []))))))))))))))) := map_part cTp22 cTf23 rfl
theorem cTf21 : (Tryz.prog.funcs.toList.drop 380).map Tryz.prog.leadsTo = cT21 ++ (cT22 ++ (cT23 ++ (cT24 ++ (cT25 ++ (cT26 ++ (cT27 ++ (cT28 ++ (cT29 ++ (cT30 ++ (cT31 ++ (cT32 ++ (cT33 ++ (cT34 ++ (cT35 ++ (cT36 ++ (cT37 ++ [])))))))))))))))) := map_part cTp21 cTf22 rfl
theorem cTf20 : (Tryz.prog.funcs.toList.drop 369).map Tryz.prog.leadsTo = cT20 ++ (cT21 ++ (cT22 ++ (cT23 ++ (cT24 ++ (cT25 ++ (cT26 ++ (cT27 ++ (cT28 ++ (cT29 ++ (cT30 ++ (cT31 ++ (cT32 ++ (cT33 ++ (cT34 ++ (cT35 ++ (cT36 ++ (cT37 ++ []))))))))))))))))) := map_part cTp20 cTf21 rfl
theorem cTf19 : (Tryz.prog.funcs.toList.drop 349).map Tryz.prog.leadsTo = cT19 ++ (cT20 ++ (cT21 ++ (cT22 ++ (cT23 ++ (cT24 ++ (cT25 ++ (cT26 ++ (cT27 ++ (cT28 ++ (cT29 ++ (cT30 ++ (cT31 ++ (cT32 ++ (cT33 ++ (cT34 ++ (cT35 ++ (cT36 ++ (cT37 ++ [])))))))))))))))))) := map_part cTp19 cTf20 rfl
theorem cTf18 : (Tryz.prog.funcs.toList.drop 338).map Tryz.prog.leadsTo = cT18 ++ (cT19 ++ (cT20 ++ (cT21 ++ (cT22 ++ (cT23 ++ (cT24 ++ (cT25 ++ (cT26 ++ (cT27 ++ (cT28 ++ (cT29 ++ (cT30 ++ (cT31 ++ (cT32 ++ (cT33 ++ (cT34 ++ (cT35 ++ (cT36 ++ (cT37 ++ []))))))))))))))))))) := map_part cTp18 cTf19 rfl
theorem cTf17 : (Tryz.prog.funcs.toList.drop 317).map Tryz.prog.leadsTo = cT17 ++ (cT18 ++ (cT19 ++ (cT20 ++ (cT21 ++ (cT22 ++ (cT23 ++ (cT24 ++ (cT25 ++ (cT26 ++ (cT27 ++ (cT28 ++ (cT29 ++ (cT30 ++ (cT31 ++ (cT32 ++ (cT33 ++ (cT34 ++ (cT35 ++ (cT36 ++ (cT37 ++ [])))))))))))))))))))) := map_part cTp17 cTf18 rfl
theorem cTf16 : (Tryz.prog.funcs.toList.drop 299).map Tryz.prog.leadsTo = cT16 ++ (cT17 ++ (cT18 ++ (cT19 ++ (cT20 ++ (cT21 ++ (cT22 ++ (cT23 ++ (cT24 ++ (cT25 ++ (cT26 ++ (cT27 ++ (cT28 ++ (cT29 ++ (cT30 ++ (cT31 ++ (cT32 ++ (cT33 ++ (cT34 ++ (cT35 ++ (cT36 ++ (cT37 ++ []))))))))))))))))))))) := map_part cTp16 cTf17 rfl
theorem cTf15 : (Tryz.prog.funcs.toList.drop 281).map Tryz.prog.leadsTo = cT15 ++ (cT16 ++ (cT17 ++ (cT18 ++ (cT19 ++ (cT20 ++ (cT21 ++ (cT22 ++ (cT23 ++ (cT24 ++ (cT25 ++ (cT26 ++ (cT27 ++ (cT28 ++ (cT29 ++ (cT30 ++ (cT31 ++ (cT32 ++ (cT33 ++ (cT34 ++ (cT35 ++ (cT36 ++ (cT37 ++ [])))))))))))))))))))))) := map_part cTp15 cTf16 rfl
theorem cTf14 : (Tryz.prog.funcs.toList.drop 251).map Tryz.prog.leadsTo = cT14 ++ (cT15 ++ (cT16 ++ (cT17 ++ (cT18 ++ (cT19 ++ (cT20 ++ (cT21 ++ (cT22 ++ (cT23 ++ (cT24 ++ (cT25 ++ (cT26 ++ (cT27 ++ (cT28 ++ (cT29 ++ (cT30 ++ (cT31 ++ (cT32 ++ (cT33 ++ (cT34 ++ (cT35 ++ (cT36 ++ (cT37 ++ []))))))))))))))))))))))) := map_part cTp14 cTf15 rfl
theorem cTf13 : (Tryz.prog.funcs.toList.drop 230).map Tryz.prog.leadsTo = cT13 ++ (cT14 ++ (cT15 ++ (cT16 ++ (cT17 ++ (cT18 ++ (cT19 ++ (cT20 ++ (cT21 ++ (cT22 ++ (cT23 ++ (cT24 ++ (cT25 ++ (cT26 ++ (cT27 ++ (cT28 ++ (cT29 ++ (cT30 ++ (cT31 ++ (cT32 ++ (cT33 ++ (cT34 ++ (cT35 ++ (cT36 ++ (cT37 ++ [])))))))))))))))))))))))) := map_part cTp13 cTf14 rfl
theorem cTf12 : (Tryz.prog.funcs.toList.drop 209).map Tryz.prog.leadsTo = cT12 ++ (cT13 ++ (cT14 ++ (cT15 ++ (cT16 ++ (cT17 ++ (cT18 ++ (cT19 ++ (cT20 ++ (cT21 ++ (cT22 ++ (cT23 ++ (cT24 ++ (cT25 ++ (cT26 ++ (cT27 ++ (cT28 ++ (cT29 ++ (cT30 ++ (cT31 ++ (cT32 ++ (cT33 ++ (cT34 ++ (cT35 ++ (cT36 ++ (cT37 ++ []))))))))))))))))))))))))) := map_part cTp12 cTf13 rfl
theorem cTf11 : (Tryz.prog.funcs.toList.drop 190).map Tryz.prog.leadsTo = cT11 ++ (cT12 ++ (cT13 ++ (cT14 ++ (cT15 ++ (cT16 ++ (cT17 ++ (cT18 ++ (cT19 ++ (cT20 ++ (cT21 ++ (cT22 ++ (cT23 ++ (cT24 ++ (cT25 ++ (cT26 ++ (cT27 ++ (cT28 ++ (cT29 ++ (cT30 ++ (cT31 ++ (cT32 ++ (cT33 ++ (cT34 ++ (cT35 ++ (cT36 ++ (cT37 ++ [])))))))))))))))))))))))))) := map_part cTp11 cTf12 rfl
theorem cTf10 : (Tryz.prog.funcs.toList.drop 167).map Tryz.prog.leadsTo = cT10 ++ (cT11 ++ (cT12 ++ (cT13 ++ (cT14 ++ (cT15 ++ (cT16 ++ (cT17 ++ (cT18 ++ (cT19 ++ (cT20 ++ (cT21 ++ (cT22 ++ (cT23 ++ (cT24 ++ (cT25 ++ (cT26 ++ (cT27 ++ (cT28 ++ (cT29 ++ (cT30 ++ (cT31 ++ (cT32 ++ (cT33 ++ (cT34 ++ (cT35 ++ (cT36 ++ (cT37 ++ []))))))))))))))))))))))))))) := map_part cTp10 cTf11 rfl
theorem cTf9 : (Tryz.prog.funcs.toList.drop 147).map Tryz.prog.leadsTo = cT9 ++ (cT10 ++ (cT11 ++ (cT12 ++ (cT13 ++ (cT14 ++ (cT15 ++ (cT16 ++ (cT17 ++ (cT18 ++ (cT19 ++ (cT20 ++ (cT21 ++ (cT22 ++ (cT23 ++ (cT24 ++ (cT25 ++ (cT26 ++ (cT27 ++ (cT28 ++ (cT29 ++ (cT30 ++ (cT31 ++ (cT32 ++ (cT33 ++ (cT34 ++ (cT35 ++ (cT36 ++ (cT37 ++ [])))))))))))))))))))))))))))) := map_part cTp9 cTf10 rfl
theorem cTf8 : (Tryz.prog.funcs.toList.drop 126).map Tryz.prog.leadsTo = cT8 ++ (cT9 ++ (cT10 ++ (cT11 ++ (cT12 ++ (cT13 ++ (cT14 ++ (cT15 ++ (cT16 ++ (cT17 ++ (cT18 ++ (cT19 ++ (cT20 ++ (cT21 ++ (cT22 ++ (cT23 ++ (cT24 ++ (cT25 ++ (cT26 ++ (cT27 ++ (cT28 ++ (cT29 ++ (cT30 ++ (cT31 ++ (cT32 ++ (cT33 ++ (cT34 ++ (cT35 ++ (cT36 ++ (cT37 ++ []))))))))))))))))))))))))))))) := map_part cTp8 cTf9 rfl
theorem cTf7 : (Tryz.prog.funcs.toList.drop 99).map Tryz.prog.leadsTo = cT7 ++ (cT8 ++ (cT9 ++ (cT10 ++ (cT11 ++ (cT12 ++ (cT13 ++ (cT14 ++ (cT15 ++ (cT16 ++ (cT17 ++ (cT18 ++ (cT19 ++ (cT20 ++ (cT21 ++ (cT22 ++ (cT23 ++ (cT24 ++ (cT25 ++ (cT26 ++ (cT27 ++ (cT28 ++ (cT29 ++ (cT30 ++ (cT31 ++ (cT32 ++ (cT33 ++ (cT34 ++ (cT35 ++ (cT36 ++ (cT37 ++ [])))))))))))))))))))))))))))))) := map_part cTp7 cTf8 rfl
theorem cTf6 : (Tryz.prog.funcs.toList.drop 81).map Tryz.prog.leadsTo = cT6 ++ (cT7 ++ (cT8 ++ (cT9 ++ (cT10 ++ (cT11 ++ (cT12 ++ (cT13 ++ (cT14 ++ (cT15 ++ (cT16 ++ (cT17 ++ (cT18 ++ (cT19 ++ (cT20 ++ (cT21 ++ (cT22 ++ (cT23 ++ (cT24 ++ (cT25 ++ (cT26 ++ (cT27 ++ (cT28 ++ (cT29 ++ (cT30 ++ (cT31 ++ (cT32 ++ (cT33 ++ (cT34 ++ (cT35 ++ (cT36 ++ (cT37 ++ []))))))))))))))))))))))))))))))) := map_part cTp6 cTf7 rfl
theorem cTf5 : (Tryz.prog.funcs.toList.drop 68).map Tryz.prog.leadsTo = cT5 ++ (cT6 ++ (cT7 ++ (cT8 ++ (cT9 ++ (cT10 ++ (cT11 ++ (cT12 ++ (cT13 ++ (cT14 ++ (cT15 ++ (cT16 ++ (cT17 ++ (cT18 ++ (cT19 ++ (cT20 ++ (cT21 ++ (cT22 ++ (cT23 ++ (cT24 ++ (cT25 ++ (cT26 ++ (cT27 ++ (cT28 ++ (cT29 ++ (cT30 ++ (cT31 ++ (cT32 ++ (cT33 ++ (cT34 ++ (cT35 ++ (cT36 ++ (cT37 ++ [])))))))))))))))))))))))))))))))) := map_part cTp5 cTf6 rfl
theorem cTf4 : (Tryz.prog.funcs.toList.drop 51).map Tryz.prog.leadsTo = cT4 ++ (cT5 ++ (cT6 ++ (cT7 ++ (cT8 ++ (cT9 ++ (cT10 ++ (cT11 ++ (cT12 ++ (cT13 ++ (cT14 ++ (cT15 ++ (cT16 ++ (cT17 ++ (cT18 ++ (cT19 ++ (cT20 ++ (cT21 ++ (cT22 ++ (cT23 ++ (cT24 ++ (cT25 ++ (cT26 ++ (cT27 ++ (cT28 ++ (cT29 ++ (cT30 ++ (cT31 ++ (cT32 ++ (cT33 ++ (cT34 ++ (cT35 ++ (cT36 ++ (cT37 ++ []))))))))))))))))))))))))))))))))) := map_part cTp4 cTf5 rfl
theorem cTf3 : (Tryz.prog.funcs.toList.drop 30).map Tryz.prog.leadsTo = cT3 ++ (cT4 ++ (cT5 ++ (cT6 ++ (cT7 ++ (cT8 ++ (cT9 ++ (cT10 ++ (cT11 ++ (cT12 ++ (cT13 ++ (cT14 ++ (cT15 ++ (cT16 ++ (cT17 ++ (cT18 ++ (cT19 ++ (cT20 ++ (cT21 ++ (cT22 ++ (cT23 ++ (cT24 ++ (cT25 ++ (cT26 ++ (cT27 ++ (cT28 ++ (cT29 ++ (cT30 ++ (cT31 ++ (cT32 ++ (cT33 ++ (cT34 ++ (cT35 ++ (cT36 ++ (cT37 ++ [])))))))))))))))))))))))))))))))))) := map_part cTp3 cTf4 rfl
theorem cTf2 : (Tryz.prog.funcs.toList.drop 17).map Tryz.prog.leadsTo = cT2 ++ (cT3 ++ (cT4 ++ (cT5 ++ (cT6 ++ (cT7 ++ (cT8 ++ (cT9 ++ (cT10 ++ (cT11 ++ (cT12 ++ (cT13 ++ (cT14 ++ (cT15 ++ (cT16 ++ (cT17 ++ (cT18 ++ (cT19 ++ (cT20 ++ (cT21 ++ (cT22 ++ (cT23 ++ (cT24 ++ (cT25 ++ (cT26 ++ (cT27 ++ (cT28 ++ (cT29 ++ (cT30 ++ (cT31 ++ (cT32 ++ (cT33 ++ (cT34 ++ (cT35 ++ (cT36 ++ (cT37 ++ []))))))))))))))))))))))))))))))))))) := map_part cTp2 cTf3 rfl
theorem cTf1 : (Tryz.prog.funcs.toList.drop 14).map Tryz.prog.leadsTo = cT1 ++ (cT2 ++ (cT3 ++ (cT4 ++ (cT5 ++ (cT6 ++ (cT7 ++ (cT8 ++ (cT9 ++ (cT10 ++ (cT11 ++ (cT12 ++ (cT13 ++ (cT14 ++ (cT15 ++ (cT16 ++ (cT17 ++ (cT18 ++ (cT19 ++ (cT20 ++ (cT21 ++ (cT22 ++ (cT23 ++ (cT24 ++ (cT25 ++ (cT26 ++ (cT27 ++ (cT28 ++ (cT29 ++ (cT30 ++ (cT31 ++ (cT32 ++ (cT33 ++ (cT34 ++ (cT35 ++ (cT36 ++ (cT37 ++ [])))))))))))))))))))))))))))))))))))) := map_part cTp1 cTf2 rfl
theorem cTf0 : (Tryz.prog.funcs.toList.drop 0).map Tryz.prog.leadsTo = cT0 ++ (cT1 ++ (cT2 ++ (cT3 ++ (cT4 ++ (cT5 ++ (cT6 ++ (cT7 ++ (cT8 ++ (cT9 ++ (cT10 ++ (cT11 ++ (cT12 ++ (cT13 ++ (cT14 ++ (cT15 ++ (cT16 ++ (cT17 ++ (cT18 ++ (cT19 ++ (cT20 ++ (cT21 ++ (cT22 ++ (cT23 ++ (cT24 ++ (cT25 ++ (cT26 ++ (cT27 ++ (cT28 ++ (cT29 ++ (cT30 ++ (cT31 ++ (cT32 ++ (cT33 ++ (cT34 ++ (cT35 ++ (cT36 ++ (cT37 ++ []))))))))))))))))))))))))))))))))))))) := map_part cTp0 cTf1 rfl
theorem cTall : Tryz.prog.funcs.toList.map Tryz.prog.leadsTo = cT := cTf0
theorem cTsum : 1 + (cT.map fun l => l.length + 1).sum = 2078 := by kernel_rfl
def cC0 : List Nat := [3, 4, 9, 25, 100, 137, 219, 218, 8, 20, 88, 202, 304, 305, 185, 392, 306, 203, 204, 307, 205, 308, 206, 89, 207, 208, 14, 47, 48, 154, 272, 49, 50, 51, 87, 155, 273, 274, 156, 276, 122, 275, 157, 158, 277, 236, 52, 159, 53, 160, 54, 21, 90, 209, 309, 393, 394, 481, 310, 395]
def cC1 : List Nat := [311, 396, 406, 492, 482, 483, 484, 549, 91, 210, 312, 398, 397, 399, 401, 485, 400, 403, 487, 551, 486, 550, 314, 595, 402, 313, 404, 438, 509, 560, 561, 405, 488, 552, 489, 490, 215, 319, 214, 315, 316, 349, 407, 408, 317, 318, 409, 410, 493, 494, 553, 491, 211, 23, 16, 73, 178, 179, 181, 180]
def cC2 : List Nat := [280, 182, 75, 74, 183, 76, 184, 282, 281, 283, 138, 18, 85, 186, 284, 129, 365, 439, 246, 366, 440, 231, 139, 250, 227, 187, 251, 350, 77, 188, 285, 367, 329, 415, 503, 286, 287, 189, 288, 368, 327, 326, 104, 289, 369, 441, 228, 442, 452, 324, 413, 412, 224, 323, 370, 443, 444, 220, 510, 562]
def cC3 : List Nat := [271, 511, 564, 563, 512, 518, 569, 151, 520, 570, 221, 565, 513, 566, 445, 514, 567, 417, 226, 515, 516, 446, 517, 519, 568, 447, 448, 449, 106, 223, 225, 107, 229, 325, 108, 230, 328, 414, 43, 150, 149, 270, 152, 222, 321, 248, 348, 411, 495, 496, 554, 497, 422, 423, 498, 555, 556, 596, 499, 500]
def cC4 : List Nat := [501, 502, 322, 136, 249, 153, 290, 371, 380, 469, 538, 472, 470, 539, 587, 604, 605, 471, 540, 588, 589, 336, 335, 450, 124, 237, 333, 521, 545, 594, 474, 541, 590, 591, 606, 593, 571, 544, 477, 522, 523, 573, 572, 238, 451, 126, 239, 334, 240, 241, 242, 337, 419, 420, 132, 133, 38, 140, 109, 35]
def cC5 : List Nat := [127, 372, 339, 245, 453, 524, 19, 86, 200, 301, 383, 384, 478, 385, 386, 479, 480, 548, 387, 388, 389, 390, 201, 303, 391, 302, 266, 364, 120, 525, 574, 373, 454, 455, 526, 291, 374, 456, 292, 375, 457, 376, 458, 527, 377, 459, 528, 575, 598, 576, 460, 529, 577, 530, 578, 599, 607, 418, 600, 601]
def cC6 : List Nat := [608, 609, 602, 579, 536, 531, 580, 603, 461, 532, 533, 534, 535, 581, 582, 583, 585, 584, 586, 378, 462, 265, 463, 464, 537, 190, 293, 379, 110, 112, 232, 330, 416, 465, 466, 111, 467, 468, 29, 105, 31, 101, 115, 32, 119, 235, 332, 331, 116, 130, 233, 117, 234, 118, 294, 381, 473, 475, 476, 542]
def cC7 : List Nat := [543, 592, 546, 547, 295, 39, 93, 22, 92, 212, 213, 24, 94, 11, 28, 103, 27, 102, 30, 113, 114, 33, 121, 34, 123, 125, 36, 128, 244, 243, 338, 37, 131, 134, 247, 340, 341, 421, 342, 343, 424, 425, 504, 344, 345, 346, 347, 135, 96, 95, 97, 7, 99, 98, 216, 320, 217, 5, 10, 26]
def cC8 : List Nat := [6, 13, 45, 44, 46, 12, 40, 141, 252, 351, 426, 352, 253, 256, 359, 257, 353, 427, 505, 557, 354, 357, 431, 254, 255, 355, 428, 433, 429, 358, 432, 508, 559, 597, 356, 430, 506, 507, 558, 142, 258, 41, 143, 259, 360, 42, 144, 260, 145, 261, 264, 361, 435, 434, 363, 262, 263, 362, 436, 437]
def cC9 : List Nat := [146, 147, 267, 268, 148, 269, 15, 55, 56, 60, 163, 161, 61, 66, 58, 59, 162, 175, 173, 278, 174, 176, 279, 57, 71, 81, 62, 64, 63, 65, 68, 171, 172, 164, 195, 69, 165, 70, 67, 166, 167, 168, 169, 170, 72, 82, 192, 177, 17, 78, 191, 79, 80, 193, 83, 194, 296, 196, 297, 84]
def cC10 : List Nat := [197, 298, 198, 299, 199, 300, 382]
def cC : List Nat := cC0 ++ (cC1 ++ (cC2 ++ (cC3 ++ (cC4 ++ (cC5 ++ (cC6 ++ (cC7 ++ (cC8 ++ (cC9 ++ (cC10))))))))))
theorem cRun : cloT cT 2078 [3] 0 [] = cC := by kernel_rfl
theorem clo : Tryz.prog.closure 3 = cC := (clo_eq Tryz.prog cT 2078 3 cTall cTsum).trans cRun
end Go.Proofs.YtbpofglponmpnaaGreatDoor
