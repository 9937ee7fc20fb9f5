/- Several texts in one: Cl0, Clt. -/
import Derived.Test.YtfofhpkafhpicaaGreatDoorCard
import GoSem.ClaimGoes

/- What a card asks about a program's calls, by a table of numbers: the functions that a call may come to, and what stands in them, shown in parts. No condition. -/
namespace Go.Proofs.YtfofhpkafhpicaaGreatDoor
open Go

/-- The walk over the calls by a table of numbers; what was met stands as bits too. -/
def cloT (T : List (List Nat)) : (fuel : Nat) → (todo : List Nat) → (mask : Nat) → (seen : List Nat) → List Nat
  | 0, _, _, seen => seen.reverse
  | _ + 1, [], _, seen => seen.reverse
  | n + 1, f :: todo, mask, seen =>
    cond (Nat.testBit mask f) (cloT T n todo mask seen) (cloT T n ((T[f]?).getD [] ++ todo) (mask ||| (1 <<< f)) (f :: seen))

theorem cloT_eq (P : Program) (T : List (List Nat)) (h : ∀ g : Nat, (P.funcs[g]?).elim [] P.leadsTo = (T[g]?).getD []) :
    ∀ (n : Nat) (todo : List Nat) (mask : Nat) (seen : List Nat), (∀ g, Nat.testBit mask g = seen.contains g) → P.closureVia n todo seen = cloT T n todo mask seen
  | 0, todo, mask, seen, _ => by cases todo <;> rfl
  | n + 1, [], mask, seen, _ => rfl
  | n + 1, f :: todo, mask, seen, hm => by
    have e1 : P.closureVia (n + 1) (f :: todo) seen = if seen.contains f then P.closureVia n todo seen else P.closureVia n ((P.funcs[f]?).elim [] P.leadsTo ++ todo) (f :: seen) := rfl
    have e2 : cloT T (n + 1) (f :: todo) mask seen = cond (Nat.testBit mask f) (cloT T n todo mask seen) (cloT T n ((T[f]?).getD [] ++ todo) (mask ||| (1 <<< f)) (f :: seen)) := rfl
    rw [e1, e2, hm f, h f]
    cases hc : seen.contains f
    · rw [if_neg (by simp)]
      refine cloT_eq P T h n _ _ _ fun g => ?_
      rw [Nat.testBit_or, hm g, Nat.one_shiftLeft, Nat.testBit_two_pow, List.contains_cons]
      by_cases e : f = g
      · subst e; simp
      · have e' : ¬ g = f := fun x => e x.symm
        simp [e, e']
    · rw [if_pos rfl]
      exact cloT_eq P T h n _ _ _ hm

theorem clo_eq (P : Program) (T : List (List Nat)) (k f : Nat) (hT : P.funcs.toList.map P.leadsTo = T) (hk : 1 + (T.map fun l => l.length + 1).sum = k) : P.closure f = cloT T k [f] 0 [] := by
  have h : ∀ g : Nat, (P.funcs[g]?).elim [] P.leadsTo = (T[g]?).getD [] := by
    intro g
    subst hT
    rw [List.getElem?_map, Array.getElem?_toList]
    cases P.funcs[g]? <;> rfl
  have e : (P.funcs.toList.map fun g => (P.leadsTo g).length + 1) = T.map fun l => l.length + 1 := by
    rw [← hT, List.map_map]; rfl
  unfold Program.closure
  rw [e, hk]
  exact cloT_eq P T h k [f] 0 [] fun g => by simp

theorem map_part {α β : Type} {F : α → β} {l : List α} {a n b : Nat} {A B : List β} (h1 : ((l.drop a).take n).map F = A) (h2 : (l.drop b).map F = B) (hb : a + n = b) : (l.drop a).map F = A ++ B := by
  subst hb
  have e : l.drop (a + n) = (l.drop a).drop n := by rw [List.drop_drop]
  rw [← h1, ← h2, ← List.map_append, e, List.take_append_drop]

theorem filterMap_part {α β : Type} {q : α → Option β} {A B : List α} {a b : List β} (h1 : A.filterMap q = a) (h2 : B.filterMap q = b) : (A ++ B).filterMap q = a ++ b := by
  rw [List.filterMap_append, h1, h2]
theorem flatMap_part {α β : Type} {q : α → List β} {A B : List α} {a b : List β} (h1 : A.flatMap q = a) (h2 : B.flatMap q = b) : (A ++ B).flatMap q = a ++ b := by
  rw [List.flatMap_append, h1, h2]
theorem all_part {α : Type} {p : α → Bool} {l : List α} {a n b : Nat} (h1 : ((l.drop a).take n).all p = true) (h2 : (l.drop b).all p = true) (hb : a + n = b) : (l.drop a).all p = true := by
  subst hb
  have e : l.drop (a + n) = (l.drop a).drop n := by rw [List.drop_drop]
  rw [e] at h2
  rw [← List.take_append_drop n (l.drop a), List.all_append, h1, h2]; rfl

/-- No body has a go statement and no entry stands for one: then no call goes. -/
theorem goes_none {P : Program} (h : P.funcs.toList.all (fun fn => !fn.goes) = true) (f : Nat) : P.goes f = false := by
  have hn : ∀ fn : Func, fn ∈ P.funcs.toList → fn.goes = false := fun fn m => by simpa using List.all_eq_true.1 h fn m
  have h2 : P.funcs.any Func.goes = false := by
    rw [← Array.any_toList, List.any_eq_false]
    exact fun fn m => by rw [hn fn m]; exact Bool.false_ne_true
  have h1 : ((P.closure f).any fun g => (P.funcs[g]?).any Func.goes) = false := by
    rw [List.any_eq_false]
    intro g _
    cases e : P.funcs[g]? with
    | none => exact Bool.false_ne_true
    | some fn =>
      have m : fn ∈ P.funcs.toList := by
        rw [Array.mem_toList_iff]; exact Array.mem_of_getElem? e
      show ¬ fn.goes = true
      rw [hn fn m]; exact Bool.false_ne_true
  unfold Program.goes
  rw [h1, h2, Bool.and_false]; rfl
end Go.Proofs.YtfofhpkafhpicaaGreatDoor

/- The table of the program's calls, and the functions that the law may come to. No condition. (Printed by wip/tools/clogen.py.) -/
namespace Go.Proofs.YtfofhpkafhpicaaGreatDoor
open Go

def cT0 : List (List Nat) := [[], [], [1], [6, 7, 8, 8, 8, 8, 10, 9, 11], [6, 7, 10, 9, 10, 9, 11, 11, 10, 9, 10, 9], [6, 7, 10, 8, 10, 9], [13, 12], [13, 14, 8, 8, 8, 8, 8], [15, 17, 16, 18, 19, 20, 21, 22], [23], [8, 8]]
theorem cTp0 : ((Tryz.prog.funcs.toList.drop 0).take 11).map Tryz.prog.leadsTo = cT0 := by kernel_rfl
def cT1 : List (List Nat) := [[24, 25, 25, 26, 25, 25, 27], [28, 29, 31, 30, 32], [33], [28, 34], [36, 35, 22, 38, 37, 22, 39, 41, 40, 42, 43, 44, 45, 46, 47], [48, 49, 22, 51, 50, 49], [53, 52, 52, 53, 52, 54, 52, 53, 52], [55, 55, 56, 57, 58, 59, 60, 61, 62]]
theorem cTp1 : ((Tryz.prog.funcs.toList.drop 11).take 8).map Tryz.prog.leadsTo = cT1 := by kernel_rfl
def cT2 : List (List Nat) := [[63, 64, 66, 63, 67, 65, 68, 69, 64, 70, 67, 65, 72, 67, 71, 70, 73, 65, 70, 72, 67, 65, 74, 74, 69, 67, 71, 75, 67, 71, 11, 75, 70, 67, 65, 63, 64, 67, 71, 72, 76, 71, 72, 77, 71, 67, 71, 78, 72, 79, 70, 65, 72, 76, 70, 65], [80, 82, 81, 83, 84, 47]]
theorem cTp2 : ((Tryz.prog.funcs.toList.drop 19).take 2).map Tryz.prog.leadsTo = cT2 := by kernel_rfl
def cT3 : List (List Nat) := [[85, 86, 70, 63, 63, 87, 88, 89, 11, 90, 91, 90, 68, 68, 64, 66, 67, 65], [92], [85, 89], [], [], [94, 93], [], [95, 96, 18], [97, 97, 98], [99], [20, 100, 20, 100, 101, 18, 103, 102, 104, 105, 22, 106], [], [107], [], [109, 108, 40]]
theorem cTp3 : ((Tryz.prog.funcs.toList.drop 21).take 15).map Tryz.prog.leadsTo = cT3 := by kernel_rfl
def cT4 : List (List Nat) := [[110], [92, 111, 112, 113, 114, 116, 115], [117, 118, 119, 120, 119, 120, 119, 121], [108, 122, 40, 55, 123, 124, 125], [126], [127, 128, 130, 129], [132, 133, 134], [135, 136], [22, 137, 114, 115], [138, 140, 139, 142, 143, 144], [147, 82, 149, 148], [], [150, 151], [152], [106, 153, 154, 155, 156, 157], [159, 158, 161, 162, 160], [], [53, 53], [53, 53, 53, 53], []]
theorem cTp4 : ((Tryz.prog.funcs.toList.drop 36).take 20).map Tryz.prog.leadsTo = cT4 := by kernel_rfl
def cT5 : List (List Nat) := [[95, 163, 96], [], [], [127, 164, 165, 166, 167], [168], [169], [], [], [68, 170, 69, 74, 74], [78, 88], [], [171], [172], [74, 74], [], [63, 65], [], [11, 171, 173, 76, 174, 77], []]
theorem cTp5 : ((Tryz.prog.funcs.toList.drop 56).take 19).map Tryz.prog.leadsTo = cT5 := by kernel_rfl
def cT6 : List (List Nat) := [[175, 175, 176, 176, 176, 74, 74, 74, 74, 74, 74, 177, 175, 175, 178, 74, 74, 179, 179, 179], [180, 180, 180, 180, 180, 74, 74, 69, 69, 74, 74, 26, 27], [180, 180, 69, 93, 27], [180, 180, 180, 180, 180, 180, 74, 74, 74, 93], [89, 181, 181, 180, 180, 27, 77], [182, 183, 183, 184, 186, 185], [187], [], [188, 147, 189, 190, 82, 191, 148], [192, 193, 194]]
theorem cTp6 : ((Tryz.prog.funcs.toList.drop 75).take 10).map Tryz.prog.leadsTo = cT6 := by kernel_rfl
def cT7 : List (List Nat) := [[195, 195, 25, 27], [195, 196, 195, 196], [197], [27, 74], [93, 25, 25, 25, 196, 196, 27, 27], [198, 199, 25, 25, 200, 200, 200, 200, 68], [201, 201, 201, 201, 201, 201, 202, 201, 201, 203, 203, 203], [], [204], [27, 74], [205, 206, 207, 208, 209], [210, 211], [212], [213, 214], [215], [30, 30, 216, 216, 30, 32], [15, 100]]
theorem cTp7 : ((Tryz.prog.funcs.toList.drop 85).take 17).map Tryz.prog.leadsTo = cT7 := by kernel_rfl
def cT8 : List (List Nat) := [[217], [], [218, 219, 219, 106, 219, 219], [220, 221, 106, 102], [219], [146, 223, 222], [129], [], [224, 225, 226], [], [], [227, 227, 227, 228, 229, 230, 231, 231, 232], [233], [234, 235], [], [], [], [236], [], [236, 236], [], [139, 237], [238], [], [239], [], [131, 240, 241]]
theorem cTp8 : ((Tryz.prog.funcs.toList.drop 102).take 27).map Tryz.prog.leadsTo = cT8 := by kernel_rfl
def cT9 : List (List Nat) := [[242], [131], [], [], [243], [244], [245, 231, 246, 247], [114, 248], [250, 249, 251], [], [252], [141], [], [], [254, 253], [146, 146, 145], [255, 255], [], [22], [256], [116, 257], [258, 259, 260, 261, 262, 263], [264]]
theorem cTp9 : ((Tryz.prog.funcs.toList.drop 129).take 23).map Tryz.prog.leadsTo = cT9 := by kernel_rfl
def cT10 : List (List Nat) := [[219, 265], [266], [267, 268, 267, 269, 270, 59], [267, 268, 271, 272], [267, 268, 271, 273, 274], [267, 275, 242, 276, 266, 274], [277], [], [278], [224, 225, 226], [], [146, 146, 279], [280, 281, 281, 281], [283, 282], [131], [284, 242], [], [], []]
theorem cTp10 : ((Tryz.prog.funcs.toList.drop 152).take 19).map Tryz.prog.leadsTo = cT10 := by kernel_rfl
def cT11 : List (List Nat) := [[180, 180, 74, 74, 74, 26, 27], [], [24, 26, 25, 25, 199, 199, 25, 25, 27, 27], [24, 93, 199, 27], [], [177, 175, 175], [], [], [178, 74, 74, 69, 74], [], [], [], [185], [285], [], [], [], [182, 185, 184, 287, 286, 183, 288, 183, 288], [146, 146, 223], [289, 235], [257]]
theorem cTp11 : ((Tryz.prog.funcs.toList.drop 171).take 21).map Tryz.prog.leadsTo = cT11 := by kernel_rfl
def cT12 : List (List Nat) := [[290, 182, 291, 291, 184, 184, 184, 291, 291, 184, 292, 222, 292, 222, 185, 186, 185], [187, 293, 111, 294, 51, 190, 295, 296, 297], [293, 298, 22, 299, 300], [], [], [], [301, 301], [25, 25], [199, 302], [303, 25], [304], [202, 201, 201, 201, 201, 201, 303, 305], [], [306, 33, 307, 308, 308], [146, 146, 146, 307, 307], [309, 306, 306], [310]]
theorem cTp12 : ((Tryz.prog.funcs.toList.drop 192).take 17).map Tryz.prog.leadsTo = cT12 := by kernel_rfl
def cT13 : List (List Nat) := [[306, 306, 310], [], [], [311, 312, 313], [314, 315], [316, 316], [], [99], [317, 318, 319, 320], [275], [321], [322], [], [], [], [], [], [323, 324], [], [325], [326], [], [], []]
theorem cTp13 : ((Tryz.prog.funcs.toList.drop 209).take 24).map Tryz.prog.leadsTo = cT13 := by kernel_rfl
def cT14 : List (List Nat) := [[327, 327, 231, 231, 231, 231, 329, 328], [330, 231, 231, 231, 331], [82, 148], [332], [], [], [334, 333], [254, 335], [337, 337, 336], [282], [338], [], [339, 339, 339, 339, 340, 339, 339, 340], [341, 231, 231], [246, 230, 231], [234, 342], [343], [], [344], []]
theorem cTp14 : ((Tryz.prog.funcs.toList.drop 233).take 20).map Tryz.prog.leadsTo = cT14 := by kernel_rfl
def cT15 : List (List Nat) := [[345, 346, 347, 348, 349, 350, 351, 352, 253, 253], [353, 354], [], [231], [355], [356, 357], [262, 263, 358, 359], [358], [360, 361, 362, 363, 263, 358, 260, 262, 260, 260, 261], [364], [358, 359, 260], [264], [365, 30, 32], [102], [270], [366], [366, 367], [366, 314, 368], [127, 165], [369, 129], [], [266, 106, 266], [127, 128], [273], []]
theorem cTp15 : ((Tryz.prog.funcs.toList.drop 253).take 25).map Tryz.prog.leadsTo = cT15 := by kernel_rfl
def cT16 : List (List Nat) := [[], [], [], [], [], [131], [], [185], [], [], [185], [138, 370, 371], [372], [285], [285], [373, 182, 184, 184, 184, 184, 329, 328, 185], [374, 375, 113, 114, 115], [376, 22, 377, 136, 378], [189, 379], [22, 380, 381, 248, 192, 382, 248, 383, 248], [374, 384, 37, 39]]
theorem cTp16 : ((Tryz.prog.funcs.toList.drop 278).take 21).map Tryz.prog.leadsTo = cT16 := by kernel_rfl
def cT17 : List (List Nat) := [[385, 386, 43], [383, 378, 234, 380, 51, 342], [], [], [], [], [387, 304, 178], [], [189, 107, 388], [], [306], [307], [389, 390], [389, 391, 313], [392], [394, 393, 395, 397, 396, 399, 398], [400, 401], [402], [], [354, 403, 404]]
theorem cTp17 : ((Tryz.prog.funcs.toList.drop 299).take 20).map Tryz.prog.leadsTo = cT17 := by kernel_rfl
def cT18 : List (List Nat) := [[], [405, 406], [217], [161], [254, 407], [146, 146, 145], [326], [409, 408], [], [331], [231], [410, 410, 410, 410, 410, 410], [411], [412, 412, 413, 413, 412], [414], [], [415, 416, 417, 418, 419, 420, 421, 422, 335, 335]]
theorem cTp18 : ((Tryz.prog.funcs.toList.drop 319).take 17).map Tryz.prog.leadsTo = cT18 := by kernel_rfl
def cT19 : List (List Nat) := [[], [423, 423], [], [], [], [340], [424, 425, 235, 46], [], [231, 230], [], [426, 426], [427, 428], [429, 429, 429, 430], [], [], []]
theorem cTp19 : ((Tryz.prog.funcs.toList.drop 336).take 16).map Tryz.prog.leadsTo = cT19 := by kernel_rfl
def cT20 : List (List Nat) := [[], [], [], [287, 231], [431, 431, 431, 431, 431, 431, 431], [], [432], [362], [433, 262, 358, 358, 434], [435], [436], [437, 438], [393, 395, 396, 398], [], [440, 439, 314], [441, 442]]
theorem cTp20 : ((Tryz.prog.funcs.toList.drop 352).take 16).map Tryz.prog.leadsTo = cT20 := by kernel_rfl
def cT21 : List (List Nat) := [[443, 401], [], [444, 252], [146, 146, 445], [331], [], [446, 447, 182, 291, 184, 291, 292, 184, 184, 292, 222, 292, 222, 292, 222, 292, 222, 185, 228], [448, 228, 449, 450, 451, 452, 453, 454, 450], [385, 455, 456, 43], [182, 291, 291, 457, 344, 344, 251, 184, 184, 184, 292, 458, 344, 231, 231, 230], [459, 147, 460, 248], [461], [290, 462], [192, 463, 460], [373, 464, 465, 466]]
theorem cTp21 : ((Tryz.prog.funcs.toList.drop 368).take 15).map Tryz.prog.leadsTo = cT21 := by kernel_rfl
def cT22 : List (List Nat) := [[373, 467, 468, 469], [117, 448, 228, 119, 470, 471, 472, 473], [474, 474, 474, 475, 476, 476, 476, 477], [478, 244, 479, 480, 481, 482, 482, 482], [], [146, 223, 222], [], [483], [], [402, 484, 402, 485, 484, 486], [], [], []]
theorem cTp22 : ((Tryz.prog.funcs.toList.drop 383).take 13).map Tryz.prog.leadsTo = cT22 := by kernel_rfl
def cT23 : List (List Nat) := [[487], [487], [390, 488], [489, 488], [443], [490, 491, 492, 493], [494], [], [], [], [495, 496], [497, 498, 499, 500, 501, 502, 503, 504, 407, 407], [], [], [], [505, 505], [], [], [], [], [506, 506], [427, 428]]
theorem cTp23 : ((Tryz.prog.funcs.toList.drop 396).take 22).map Tryz.prog.leadsTo = cT23 := by kernel_rfl
def cT24 : List (List Nat) := [[507, 507, 507, 508], [], [], [], [], [], [189, 92, 146, 146, 146], [138, 370, 371, 141, 142], [], [254]]
theorem cTp24 : ((Tryz.prog.funcs.toList.drop 418).take 10).map Tryz.prog.leadsTo = cT24 := by kernel_rfl
def cT25 : List (List Nat) := [[], [430], [509, 509, 509], [], [510], [364, 438], [433, 262, 260, 262, 358, 260, 359, 363], [511, 512], [392], [362, 30, 32, 362, 513, 30], [313], [], [], [], [], [514], [], [], [232, 286], [182, 291, 457, 291, 185, 457, 326], [325]]
theorem cTp25 : ((Tryz.prog.funcs.toList.drop 428).take 21).map Tryz.prog.leadsTo = cT25 := by kernel_rfl
def cT26 : List (List Nat) := [[224, 515, 516, 517, 518], [519, 520, 521], [448, 448, 522, 450, 450], [224, 516], [224, 523, 524, 525], [525], [133, 526, 133, 527, 528, 527], [135, 22, 114, 248], [], [529, 530], [373, 372, 182, 291, 291, 184, 292, 186, 185], [531, 531, 230, 331], [], [505, 505]]
theorem cTp26 : ((Tryz.prog.funcs.toList.drop 449).take 14).map Tryz.prog.leadsTo = cT26 := by kernel_rfl
def cT27 : List (List Nat) := [[532, 532], [293, 533, 233], [534, 533, 535, 536], [459, 537, 533, 538, 460, 539, 540, 460], [293, 271, 541, 233], [534, 271, 535, 536], [459, 537, 271, 541, 538, 460, 539, 542, 460], [325, 182, 292], [118], [], [448, 325], [543, 182, 184], [544, 474, 474], [544, 474, 474, 543, 182, 292, 474, 545]]
theorem cTp27 : ((Tryz.prog.funcs.toList.drop 463).take 14).map Tryz.prog.leadsTo = cT27 := by kernel_rfl
def cT28 : List (List Nat) := [[], [], [546], [], [547, 548, 338, 549, 548, 550, 551, 552], [], [], [], [], [553], [], [554], [555, 390], [556], [556], [556, 219, 557], [556, 219, 557], [], [], []]
theorem cTp28 : ((Tryz.prog.funcs.toList.drop 477).take 20).map Tryz.prog.leadsTo = cT28 := by kernel_rfl
def cT29 : List (List Nat) := [[], [558, 558], [427, 428], [559, 559, 559, 560], [], [], [], [], [], [], [508]]
theorem cTp29 : ((Tryz.prog.funcs.toList.drop 497).take 11).map Tryz.prog.leadsTo = cT29 := by kernel_rfl
def cT30 : List (List Nat) := [[561, 561, 561], [], [562], [], [563], [432, 564], [565, 565, 565, 565, 565, 565, 566], [567, 278], [569, 568], [523, 525, 225, 570], [222, 517, 571], [572, 413, 230, 413, 413], [], [], [224, 524, 573, 516, 525], [146, 574, 160]]
theorem cTp30 : ((Tryz.prog.funcs.toList.drop 508).take 16).map Tryz.prog.leadsTo = cT30 := by kernel_rfl
def cT31 : List (List Nat) := [[], [575, 568], [550, 576, 549, 338], [338], [578, 577], [275, 272], [275, 579, 282, 59], [], [], [127, 280, 281, 580, 166, 581, 167], [582, 182, 184, 184, 292, 292, 184, 184, 184, 184, 185, 186, 185], [583, 584, 541], [585, 231, 231, 230, 230, 231, 231, 231, 329, 328], [], [], [], [586, 587, 588, 590, 589, 591]]
theorem cTp31 : ((Tryz.prog.funcs.toList.drop 524).take 17).map Tryz.prog.leadsTo = cT31 := by kernel_rfl
def cT32 : List (List Nat) := [[127, 165], [586, 587, 588, 590, 271, 591], [477], [592, 477], [543, 593, 594], [595, 596], [], [597], [482, 482, 482], [599, 598], [], [551], [], [316, 600, 316, 485, 484], [], []]
theorem cTp32 : ((Tryz.prog.funcs.toList.drop 541).take 16).map Tryz.prog.leadsTo = cT32 := by kernel_rfl
def cT33 : List (List Nat) := [[], [], [560], [601, 601, 601], [], [], [], [432, 438, 602, 600, 357], [], [565, 565, 565, 565, 565, 565], [], [], [], [], [525], [107, 146, 388, 146, 222], [515, 525, 225, 523, 225, 570], [], [], [], [244], [], []]
theorem cTp33 : ((Tryz.prog.funcs.toList.drop 557).take 23).map Tryz.prog.leadsTo = cT33 := by kernel_rfl
def cT34 : List (List Nat) := [[131, 603, 603, 337, 337, 336], [165, 165], [373, 329, 328], [604, 605, 606, 605, 607], [], [608, 608, 608, 608, 608], [372], [], [], [127, 580], [], [331], [609, 610], [], [543, 544, 341, 543, 477]]
theorem cTp34 : ((Tryz.prog.funcs.toList.drop 580).take 15).map Tryz.prog.leadsTo = cT34 := by kernel_rfl
def cT35 : List (List Nat) := [[], [611, 611], [182, 292], [], [479], [], [], [514, 401], [], [612, 414], [], [414, 613, 614], [], [], [], [], [], [], [], [], []]
theorem cTp35 : ((Tryz.prog.funcs.toList.drop 595).take 21).map Tryz.prog.leadsTo = cT35 := by kernel_rfl
def cT36 : List (List Nat) := [[], [], [], [], [], [], [], [], [], [], [], []]
theorem cTp36 : ((Tryz.prog.funcs.toList.drop 616).take 12).map Tryz.prog.leadsTo = cT36 := by kernel_rfl
def cT37 : List (List Nat) := [[], [], [], [], [], [], [], [], [], [], [], []]
theorem cTp37 : ((Tryz.prog.funcs.toList.drop 628).take 12).map Tryz.prog.leadsTo = cT37 := by kernel_rfl
def cT38 : List (List Nat) := [[], [], [], [], [], [], [557, 557]]
theorem cTp38 : ((Tryz.prog.funcs.toList.drop 640).take 7).map Tryz.prog.leadsTo = cT38 := by kernel_rfl
theorem cTend : (Tryz.prog.funcs.toList.drop 647).map Tryz.prog.leadsTo = [] := by kernel_rfl
def cT : List (List Nat) := cT0 ++ (cT1 ++ (cT2 ++ (cT3 ++ (cT4 ++ (cT5 ++ (cT6 ++ (cT7 ++ (cT8 ++ (cT9 ++ (cT10 ++ (cT11 ++ (cT12 ++ (cT13 ++ (cT14 ++ (cT15 ++ (cT16 ++ (cT17 ++ (cT18 ++ (cT19 ++ (cT20 ++ (cT21 ++ (cT22 ++ (cT23 ++ (cT24 ++ (cT25 ++ (cT26 ++ (cT27 ++ (cT28 ++ (cT29 ++ (cT30 ++ (cT31 ++ (cT32 ++ (cT33 ++ (cT34 ++ (cT35 ++ (cT36 ++ (cT37 ++ (cT38 ++ []))))))))))))))))))))))))))))))))))))))
theorem cTf38 : (Tryz.prog.funcs.toList.drop 640).map Tryz.prog.leadsTo = cT38 ++ [] := map_part cTp38 cTend rfl
theorem cTf37 : (Tryz.prog.funcs.toList.drop 628).map Tryz.prog.leadsTo = cT37 ++ (cT38 ++ []) := map_part cTp37 cTf38 rfl
theorem cTf36 : (Tryz.prog.funcs.toList.drop 616).map Tryz.prog.leadsTo = cT36 ++ (cT37 ++ (cT38 ++ [])) := map_part cTp36 cTf37 rfl
theorem cTf35 : (Tryz.prog.funcs.toList.drop 595).map Tryz.prog.leadsTo = cT35 ++ (cT36 ++ (cT37 ++ (cT38 ++ []))) := map_part cTp35 cTf36 rfl
theorem cTf34 : (Tryz.prog.funcs.toList.drop 580).map Tryz.prog.leadsTo = cT34 ++ (cT35 ++ (cT36 ++ (cT37 ++ (cT38 ++ [])))) := map_part cTp34 cTf35 rfl
theorem cTf33 : (Tryz.prog.funcs.toList.drop 557).map Tryz.prog.leadsTo = cT33 ++ (cT34 ++ (cT35 ++ (cT36 ++ (cT37 ++ (cT38 ++ []))))) := map_part cTp33 cTf34 rfl
theorem cTf32 : (Tryz.prog.funcs.toList.drop 541).map Tryz.prog.leadsTo = cT32 ++ (cT33 ++ (cT34 ++ (cT35 ++ (cT36 ++ (cT37 ++ (cT38 ++ [])))))) := map_part cTp32 cTf33 rfl
theorem cTf31 : (Tryz.prog.funcs.toList.drop 524).map Tryz.prog.leadsTo = cT31 ++ (cT32 ++ (cT33 ++ (cT34 ++ (cT35 ++ (cT36 ++ (cT37 ++ (cT38 ++ []))))))) := map_part cTp31 cTf32 rfl
theorem cTf30 : (Tryz.prog.funcs.toList.drop 508).map Tryz.prog.leadsTo = cT30 ++ (cT31 ++ (cT32 ++ (cT33 ++ (cT34 ++ (cT35 ++ (cT36 ++ (cT37 ++ (cT38 ++ [])))))))) := map_part cTp30 cTf31 rfl
theorem cTf29 : (Tryz.prog.funcs.toList.drop 497).map Tryz.prog.leadsTo = cT29 ++ (cT30 ++ (cT31 ++ (cT32 ++ (cT33 ++ (cT34 ++ (cT35 ++ (cT36 ++ (cT37 ++ (cT38 ++ []))))))))) := map_part cTp29 cTf30 rfl
theorem cTf28 : (Tryz.prog.funcs.toList.drop 477).map Tryz.prog.leadsTo = cT28 ++ (cT29 ++ (cT30 ++ (cT31 ++ (cT32 ++ (cT33 ++ (cT34 ++ (cT35 ++ (cT36 ++ (cT37 ++ (cT38 ++ [])))))))))) := map_part cTp28 cTf29 rfl
theorem cTf27 : (Tryz.prog.funcs.toList.drop 463).map Tryz.prog.leadsTo = cT27 ++ (cT28 ++ (cT29 ++ (cT30 ++ (cT31 ++ (cT32 ++ (cT33 ++ (cT34 ++ (cT35 ++ (cT36 ++ (cT37 ++ (cT38 ++ []))))))))))) := map_part cTp27 cTf28 rfl
theorem cTf26 : (Tryz.prog.funcs.toList.drop 449).map Tryz.prog.leadsTo = cT26 ++ (cT27 ++ (cT28 ++ (cT29 ++ (cT30 ++ (cT31 ++ (cT32 ++ (cT33 ++ (cT34 ++ (cT35 ++ (cT36 ++ (cT37 ++ (cT38 ++ [])))))))))))) := map_part cTp26 cTf27 rfl
theorem cTf25 : (Tryz.prog.funcs.toList.drop 428).map Tryz.prog.leadsTo = cT25 ++ (cT26 ++ (cT27 ++ (cT28 ++ (cT29 ++ (cT30 ++ (cT31 ++ (cT32 ++ (cT33 ++ (cT34 ++ (cT35 ++ (cT36 ++ (cT37 ++ (cT38 ++ []))))))))))))) := map_part cTp25 cTf26 rfl
theorem cTf24 : (Tryz.prog.funcs.toList.drop 418).map Tryz.prog.leadsTo = cT24 ++ (cT25 ++ (cT26 ++ (cT27 ++ (cT28 ++ (cT29 ++ (cT30 ++ (cT31 ++ (cT32 ++ (cT33 ++ (cT34 ++ (cT35 ++ (cT36 ++ (cT37 ++ (cT38 ++ [])))))))))))))) := map_part cTp24 cTf25 rfl
theorem cTf23 : (Tryz.prog.funcs.toList.drop 396).map Tryz.prog.leadsTo = cT23 ++ (cT24 ++ (cT25 ++ (cT26 ++ (cT27 ++ (cT28 ++ (cT29 ++ (cT30 ++ (cT31 ++ (cT32 ++ (cT33 ++ (cT34 ++ (cT35 ++ (cT36 ++ (cT37 ++ (cT38 ++ []))))))))))))))) := map_part cTp23 cTf24 rfl
theorem cTf22 : (Tryz.prog.funcs.toList.drop 383).map Tryz.prog.leadsTo = cT22 ++ (cT23 ++ (cT24 ++ (cT25 ++ (cT26 ++ (cT27 ++ (cT28 ++ (cT29 ++ (cT30 ++ (cT31 ++ (cT32 ++ (cT33 ++ (cT34 ++ (cT35 ++ (cT36 ++ (cT37 ++ (cT38 ++ [])))))))))))))))) := map_part cTp22 cTf23 rfl
theorem cTf21 : (Tryz.prog.funcs.toList.drop 368).map Tryz.prog.leadsTo = cT21 ++ (cT22 ++ (cT23 ++ (cT24 ++ (cT25 ++ (cT26 ++ (cT27 ++ (cT28 ++ (cT29 ++ (cT30 ++ (cT31 ++ (cT32 ++ (cT33 ++ (cT34 ++ (cT35 ++ (cT36 ++ (cT37 ++ (cT38 ++ []))))))))))))))))) := map_part cTp21 cTf22 rfl
theorem cTf20 : (Tryz.prog.funcs.toList.drop 352).map Tryz.prog.leadsTo = cT20 ++ (cT21 ++ (cT22 ++ (cT23 ++ (cT24 ++ (cT25 ++ (cT26 ++ (cT27 ++ (cT28 ++ (cT29 ++ (cT30 ++ (cT31 ++ (cT32 ++ (cT33 ++ (cT34 ++ (cT35 ++ (cT36 ++ (cT37 ++ (cT38 ++ [])))))))))))))))))) := map_part cTp20 cTf21 rfl
theorem cTf19 : (Tryz.prog.funcs.toList.drop 336).map Tryz.prog.leadsTo = cT19 ++ (cT20 ++ (cT21 ++ (cT22 ++ (cT23 ++ (cT24 ++ (cT25 ++ (cT26 ++ (cT27 ++ (cT28 ++ (cT29 ++ (cT30 ++ (cT31 ++ (cT32 ++ (cT33 ++ (cT34 ++ (cT35 ++ (cT36 ++ (cT37 ++ (cT38 ++ []))))))))))))))))))) := map_part cTp19 cTf20 rfl
theorem cTf18 : (Tryz.prog.funcs.toList.drop 319).map Tryz.prog.leadsTo = cT18 ++ (cT19 ++ (cT20 ++ (cT21 ++ (cT22 ++ (cT23 ++ (cT24 ++ (cT25 ++ (cT26 ++ (cT27 ++ (cT28 ++ (cT29 ++ (cT30 ++ (cT31 ++ (cT32 ++ (cT33 ++ (cT34 ++ (cT35 ++ (cT36 ++ (cT37 ++ (cT38 ++ [])))))))))))))))))))) := map_part cTp18 cTf19 rfl
theorem cTf17 : (Tryz.prog.funcs.toList.drop 299).map Tryz.prog.leadsTo = cT17 ++ (cT18 ++ (cT19 ++ (cT20 ++ (cT21 ++ (cT22 ++ (cT23 ++ (cT24 ++ (cT25 ++ (cT26 ++ (cT27 ++ (cT28 ++ (cT29 ++ (cT30 ++ (cT31 ++ (cT32 ++ (cT33 ++ (cT34 ++ (cT35 ++ (cT36 ++ (cT37 ++ (cT38 ++ []))))))))))))))))))))) := map_part cTp17 cTf18 rfl
theorem cTf16 : (Tryz.prog.funcs.toList.drop 278).map Tryz.prog.leadsTo = cT16 ++ (cT17 ++ (cT18 ++ (cT19 ++ (cT20 ++ (cT21 ++ (cT22 ++ (cT23 ++ (cT24 ++ (cT25 ++ (cT26 ++ (cT27 ++ (cT28 ++ (cT29 ++ (cT30 ++ (cT31 ++ (cT32 ++ (cT33 ++ (cT34 ++ (cT35 ++ (cT36 ++ (cT37 ++ (cT38 ++ [])))))))))))))))))))))) := map_part cTp16 cTf17 rfl
theorem cTf15 : (Tryz.prog.funcs.toList.drop 253).map Tryz.prog.leadsTo = cT15 ++ (cT16 ++ (cT17 ++ (cT18 ++ (cT19 ++ (cT20 ++ (cT21 ++ (cT22 ++ (cT23 ++ (cT24 ++ (cT25 ++ (cT26 ++ (cT27 ++ (cT28 ++ (cT29 ++ (cT30 ++ (cT31 ++ (cT32 ++ (cT33 ++ (cT34 ++ (cT35 ++ (cT36 ++ (cT37 ++ (cT38 ++ []))))))))))))))))))))))) := map_part cTp15 cTf16 rfl
theorem cTf14 : (Tryz.prog.funcs.toList.drop 233).map Tryz.prog.leadsTo = cT14 ++ (cT15 ++ (cT16 ++ (cT17 ++ (cT18 ++ (cT19 ++ (cT20 ++ (cT21 ++ (cT22 ++ (cT23 ++ (cT24 ++ (cT25 ++ (cT26 ++ (cT27 ++ (cT28 ++ (cT29 ++ (cT30 ++ (cT31 ++ (cT32 ++ (cT33 ++ (cT34 ++ (cT35 ++ (cT36 ++ (cT37 ++ (cT38 ++ [])))))))))))))))))))))))) := map_part cTp14 cTf15 rfl
theorem cTf13 : (Tryz.prog.funcs.toList.drop 209).map Tryz.prog.leadsTo = cT13 ++ (cT14 ++ (cT15 ++ (cT16 ++ (cT17 ++ (cT18 ++ (cT19 ++ (cT20 ++ (cT21 ++ (cT22 ++ (cT23 ++ (cT24 ++ (cT25 ++ (cT26 ++ (cT27 ++ (cT28 ++ (cT29 ++ (cT30 ++ (cT31 ++ (cT32 ++ (cT33 ++ (cT34 ++ (cT35 ++ (cT36 ++ (cT37 ++ (cT38 ++ []))))))))))))))))))))))))) := map_part cTp13 cTf14 rfl
theorem cTf12 : (Tryz.prog.funcs.toList.drop 192).map Tryz.prog.leadsTo = cT12 ++ (cT13 ++ (cT14 ++ (cT15 ++ (cT16 ++ (cT17 ++ (cT18 ++ (cT19 ++ (cT20 ++ (cT21 ++ (cT22 ++ (cT23 ++ (cT24 ++ (cT25 ++ (cT26 ++ (cT27 ++ (cT28 ++ (cT29 ++ (cT30 ++ (cT31 ++ (cT32 ++ (cT33 ++ (cT34 ++ (cT35 ++ (cT36 ++ (cT37 ++ (cT38 ++ [])))))))))))))))))))))))))) := map_part cTp12 cTf13 rfl
theorem cTf11 : (Tryz.prog.funcs.toList.drop 171).map Tryz.prog.leadsTo = cT11 ++ (cT12 ++ (cT13 ++ (cT14 ++ (cT15 ++ (cT16 ++ (cT17 ++ (cT18 ++ (cT19 ++ (cT20 ++ (cT21 ++ (cT22 ++ (cT23 ++ (cT24 ++ (cT25 ++ (cT26 ++ (cT27 ++ (cT28 ++ (cT29 ++ (cT30 ++ (cT31 ++ (cT32 ++ (cT33 ++ (cT34 ++ (cT35 ++ (cT36 ++ (cT37 ++ (cT38 ++ []))))))))))))))))))))))))))) := map_part cTp11 cTf12 rfl
theorem cTf10 : (Tryz.prog.funcs.toList.drop 152).map Tryz.prog.leadsTo = cT10 ++ (cT11 ++ (cT12 ++ (cT13 ++ (cT14 ++ (cT15 ++ (cT16 ++ (cT17 ++ (cT18 ++ (cT19 ++ (cT20 ++ (cT21 ++ (cT22 ++ (cT23 ++ (cT24 ++ (cT25 ++ (cT26 ++ (cT27 ++ (cT28 ++ (cT29 ++ (cT30 ++ (cT31 ++ (cT32 ++ (cT33 ++ (cT34 ++ (cT35 ++ (cT36 ++ (cT37 ++ (cT38 ++ [])))))))))))))))))))))))))))) := map_part cTp10 cTf11 rfl
theorem cTf9 : (Tryz.prog.funcs.toList.drop 129).map Tryz.prog.leadsTo = cT9 ++ (cT10 ++ (cT11 ++ (cT12 ++ (cT13 ++ (cT14 ++ (cT15 ++ (cT16 ++ (cT17 ++ (cT18 ++ (cT19 ++ (cT20 ++ (cT21 ++ (cT22 ++ (cT23 ++ (cT24 ++ (cT25 ++ (cT26 ++ (cT27 ++ (cT28 ++ (cT29 ++ (cT30 ++ (cT31 ++ (cT32 ++ (cT33 ++ (cT34 ++ (cT35 ++ (cT36 ++ (cT37 ++ (cT38 ++ []))))))))))))))))))))))))))))) := map_part cTp9 cTf10 rfl
theorem cTf8 : (Tryz.prog.funcs.toList.drop 102).map Tryz.prog.leadsTo = cT8 ++ (cT9 ++ (cT10 ++ (cT11 ++ (cT12 ++ (cT13 ++ (cT14 ++ (cT15 ++ (cT16 ++ (cT17 ++ (cT18 ++ (cT19 ++ (cT20 ++ (cT21 ++ (cT22 ++ (cT23 ++ (cT24 ++ (cT25 ++ (cT26 ++ (cT27 ++ (cT28 ++ (cT29 ++ (cT30 ++ (cT31 ++ (cT32 ++ (cT33 ++ (cT34 ++ (cT35 ++ (cT36 ++ (cT37 ++ (cT38 ++ [])))))))))))))))))))))))))))))) := map_part cTp8 cTf9 rfl
theorem cTf7 : (Tryz.prog.funcs.toList.drop 85).map Tryz.prog.leadsTo = cT7 ++ (cT8 ++ (cT9 ++ (cT10 ++ (cT11 ++ (cT12 ++ (cT13 ++ (cT14 ++ (cT15 ++ (cT16 ++ (cT17 ++ (cT18 ++ (cT19 ++ (cT20 ++ (cT21 ++ (cT22 ++ (cT23 ++ (cT24 ++ (cT25 ++ (cT26 ++ (cT27 ++ (cT28 ++ (cT29 ++ (cT30 ++ (cT31 ++ (cT32 ++ (cT33 ++ (cT34 ++ (cT35 ++ (cT36 ++ (cT37 ++ (cT38 ++ []))))))))))))))))))))))))))))))) := map_part cTp7 cTf8 rfl
theorem cTf6 : (Tryz.prog.funcs.toList.drop 75).map Tryz.prog.leadsTo = cT6 ++ (cT7 ++ (cT8 ++ (cT9 ++ (cT10 ++ (cT11 ++ (cT12 ++ (cT13 ++ (cT14 ++ (cT15 ++ (cT16 ++ (cT17 ++ (cT18 ++ (cT19 ++ (cT20 ++ (cT21 ++ (cT22 ++ (cT23 ++ (cT24 ++ (cT25 ++ (cT26 ++ (cT27 ++ (cT28 ++ (cT29 ++ (cT30 ++ (cT31 ++ (cT32 ++ (cT33 ++ (cT34 ++ (cT35 ++ (cT36 ++ (cT37 ++ (cT38 ++ [])))))))))))))))))))))))))))))))) := map_part cTp6 cTf7 rfl
theorem cTf5 : (Tryz.prog.funcs.toList.drop 56).map Tryz.prog.leadsTo = cT5 ++ (cT6 ++ (cT7 ++ (cT8 ++ (cT9 ++ (cT10 ++ (cT11 ++ (cT12 ++ (cT13 ++ (cT14 ++ (cT15 ++ (cT16 ++ (cT17 ++ (cT18 ++ (cT19 ++ (cT20 ++ (cT21 ++ (cT22 ++ (cT23 ++ (cT24 ++ (cT25 ++ (cT26 ++ (cT27 ++ (cT28 ++ (cT29 ++ (cT30 ++ (cT31 ++ (cT32 ++ (cT33 ++ (cT34 ++ (cT35 ++ (cT36 ++ (cT37 ++ (cT38 ++ []))))))))))))))))))))))))))))))))) := map_part cTp5 cTf6 rfl
theorem cTf4 : (Tryz.prog.funcs.toList.drop 36).map Tryz.prog.leadsTo = cT4 ++ (cT5 ++ (cT6 ++ (cT7 ++ (cT8 ++ (cT9 ++ (cT10 ++ (cT11 ++ (cT12 ++ (cT13 ++ (cT14 ++ (cT15 ++ (cT16 ++ (cT17 ++ (cT18 ++ (cT19 ++ (cT20 ++ (cT21 ++ (cT22 ++ (cT23 ++ (cT24 ++ (cT25 ++ (cT26 ++ (cT27 ++ (cT28 ++ (cT29 ++ (cT30 ++ (cT31 ++ (cT32 ++ (cT33 ++ (cT34 ++ (cT35 ++ (cT36 ++ (cT37 ++ (cT38 ++ [])))))))))))))))))))))))))))))))))) := map_part cTp4 cTf5 rfl
theorem cTf3 : (Tryz.prog.funcs.toList.drop 21).map Tryz.prog.leadsTo = cT3 ++ (cT4 ++ (cT5 ++ (cT6 ++ (cT7 ++ (cT8 ++ (cT9 ++ (cT10 ++ (cT11 ++ (cT12 ++ (cT13 ++ (cT14 ++ (cT15 ++ (cT16 ++ (cT17 ++ (cT18 ++ (cT19 ++ (cT20 ++ (cT21 ++ (cT22 ++ (cT23 ++ (cT24 ++ (cT25 ++ (cT26 ++ (cT27 ++ (cT28 ++ (cT29 ++ (cT30 ++ (cT31 ++ (cT32 ++ (cT33 ++ (cT34 ++ (cT35 ++ (cT36 ++ (cT37 ++ (cT38 ++ []))))))))))))))))))))))))))))))))))) := map_part cTp3 cTf4 rfl
theorem cTf2 : (Tryz.prog.funcs.toList.drop 19).map Tryz.prog.leadsTo = cT2 ++ (cT3 ++ (cT4 ++ (cT5 ++ (cT6 ++ (cT7 ++ (cT8 ++ (cT9 ++ (cT10 ++ (cT11 ++ (cT12 ++ (cT13 ++ (cT14 ++ (cT15 ++ (cT16 ++ (cT17 ++ (cT18 ++ (cT19 ++ (cT20 ++ (cT21 ++ (cT22 ++ (cT23 ++ (cT24 ++ (cT25 ++ (cT26 ++ (cT27 ++ (cT28 ++ (cT29 ++ (cT30 ++ (cT31 ++ (cT32 ++ (cT33 ++ (cT34 ++ (cT35 ++ (cT36 ++ (cT37 ++ (cT38 ++ [])))))))))))))))))))))))))))))))))))) := map_part cTp2 cTf3 rfl
theorem cTf1 : (Tryz.prog.funcs.toList.drop 11).map Tryz.prog.leadsTo = cT1 ++ (cT2 ++ (cT3 ++ (cT4 ++ (cT5 ++ (cT6 ++ (cT7 ++ (cT8 ++ (cT9 ++ (cT10 ++ (cT11 ++ (cT12 ++ (cT13 ++ (cT14 ++ (cT15 ++ (cT16 ++ (cT17 ++ (cT18 ++ (cT19 ++ (cT20 ++ (cT21 ++ (cT22 ++ (cT23 ++ (cT24 ++ (cT25 ++ (cT26 ++ (cT27 ++ (cT28 ++ (cT29 ++ (cT30 ++ (cT31 ++ (cT32 ++ (cT33 ++ (cT34 ++ (cT35 ++ (cT36 ++ (cT37 ++ (cT38 ++ []))))))))))))))))))))))))))))))))))))) := map_part cTp1 cTf2 rfl
theorem cTf0 : (Tryz.prog.funcs.toList.drop 0).map Tryz.prog.leadsTo = cT0 ++ (cT1 ++ (cT2 ++ (cT3 ++ (cT4 ++ (cT5 ++ (cT6 ++ (cT7 ++ (cT8 ++ (cT9 ++ (cT10 ++ (cT11 ++ (cT12 ++ (cT13 ++ (cT14 ++ (cT15 ++ (cT16 ++ (cT17 ++ (cT18 ++ (cT19 ++ (cT20 ++ (cT21 ++ (cT22 ++ (cT23 ++ (cT24 ++ (cT25 ++ (cT26 ++ (cT27 ++ (cT28 ++ (cT29 ++ (cT30 ++ (cT31 ++ (cT32 ++ (cT33 ++ (cT34 ++ (cT35 ++ (cT36 ++ (cT37 ++ (cT38 ++ [])))))))))))))))))))))))))))))))))))))) := map_part cTp0 cTf1 rfl
theorem cTall : Tryz.prog.funcs.toList.map Tryz.prog.leadsTo = cT := cTf0
theorem cTsum : 1 + (cT.map fun l => l.length + 1).sum = 2110 := by kernel_rfl
def cC0 : List Nat := [5, 6, 13, 33, 107, 146, 223, 222, 12, 28, 95, 205, 306, 307, 189, 388, 308, 206, 207, 309, 208, 310, 209, 96, 210, 211, 18, 55, 56, 163, 279, 57, 58, 59, 127, 164, 280, 281, 165, 283, 131, 282, 166, 167, 284, 242, 60, 168, 61, 169, 62, 29, 97, 212, 311, 389, 390, 483, 312, 391]
def cC1 : List Nat := [313, 392, 402, 494, 484, 485, 486, 553, 98, 213, 314, 394, 393, 395, 397, 487, 396, 399, 489, 555, 488, 554, 316, 600, 398, 315, 400, 443, 514, 565, 566, 401, 490, 556, 491, 492, 219, 321, 217, 317, 318, 354, 403, 404, 319, 320, 405, 406, 495, 496, 557, 493, 214, 31, 20, 80, 182, 183, 185, 184]
def cC2 : List Nat := [285, 186, 82, 81, 187, 83, 188, 287, 286, 288, 147, 22, 92, 190, 289, 138, 370, 444, 252, 371, 445, 235, 148, 256, 231, 191, 257, 355, 84, 192, 290, 372, 331, 411, 505, 291, 292, 193, 293, 373, 329, 328, 111, 294, 374, 446, 232, 447, 457, 326, 409, 408, 228, 325, 375, 448, 449, 224, 515, 567]
def cC3 : List Nat := [278, 516, 569, 568, 517, 523, 574, 160, 525, 575, 225, 570, 518, 571, 450, 519, 572, 413, 230, 520, 521, 451, 522, 524, 573, 452, 453, 454, 113, 227, 229, 114, 233, 327, 115, 234, 330, 410, 51, 159, 158, 277, 161, 226, 323, 254, 353, 407, 497, 498, 558, 499, 427, 428, 500, 559, 560, 601, 501, 502]
def cC4 : List Nat := [503, 504, 324, 145, 255, 162, 295, 376, 385, 474, 543, 477, 475, 544, 592, 609, 610, 476, 545, 593, 594, 341, 340, 455, 133, 243, 338, 526, 550, 599, 479, 546, 595, 596, 611, 598, 576, 549, 482, 527, 528, 578, 577, 244, 456, 135, 245, 339, 246, 247, 248, 342, 424, 425, 141, 142, 46, 149, 116, 43]
def cC5 : List Nat := [136, 377, 344, 251, 458, 529, 275, 128, 240, 335, 415, 416, 506, 417, 418, 507, 508, 561, 419, 420, 421, 422, 241, 337, 423, 336, 272, 369, 129, 530, 579, 378, 459, 460, 531, 296, 379, 461, 297, 380, 462, 381, 463, 532, 382, 464, 533, 580, 603, 581, 465, 534, 582, 535, 583, 604, 612, 414, 605, 606]
def cC6 : List Nat := [613, 614, 607, 584, 541, 536, 585, 608, 466, 537, 538, 539, 540, 586, 587, 588, 590, 589, 591, 383, 467, 271, 468, 469, 542, 194, 298, 384, 117, 119, 236, 332, 412, 470, 471, 118, 472, 473, 37, 112, 39, 108, 122, 40, 126, 239, 334, 333, 123, 139, 237, 124, 238, 125, 299, 386, 478, 480, 481, 547]
def cC7 : List Nat := [548, 597, 551, 552, 300, 47, 100, 30, 99, 215, 216, 32, 101, 15, 36, 110, 35, 109, 38, 120, 121, 41, 130, 42, 132, 134, 44, 137, 250, 249, 343, 45, 140, 143, 253, 345, 346, 426, 347, 348, 429, 430, 509, 349, 350, 351, 352, 144, 103, 102, 104, 218, 106, 105, 220, 322, 221, 7, 14, 34]
def cC8 : List Nat := [8, 17, 53, 52, 54, 16, 48, 150, 258, 356, 431, 357, 259, 262, 364, 263, 358, 432, 510, 562, 359, 362, 436, 260, 261, 360, 433, 438, 434, 363, 437, 513, 564, 602, 361, 435, 511, 512, 563, 151, 264, 49, 152, 265, 365, 50, 153, 266, 154, 267, 270, 366, 440, 439, 368, 268, 269, 367, 441, 442]
def cC9 : List Nat := [155, 156, 273, 274, 157, 276, 19, 63, 64, 68, 172, 170, 69, 74, 66, 67, 171, 180, 26, 94, 27, 93, 204, 65, 78, 88, 70, 72, 71, 73, 11, 24, 25, 173, 199, 76, 174, 77, 75, 175, 176, 177, 178, 179, 79, 89, 196, 181, 21, 85, 195, 86, 87, 197, 90, 198, 301, 200, 302, 91]
def cC10 : List Nat := [201, 303, 202, 304, 203, 305, 387, 10, 9, 23]
def cC : List Nat := cC0 ++ (cC1 ++ (cC2 ++ (cC3 ++ (cC4 ++ (cC5 ++ (cC6 ++ (cC7 ++ (cC8 ++ (cC9 ++ (cC10))))))))))
theorem cRun : cloT cT 2110 [5] 0 [] = cC := by kernel_rfl
theorem clo : Tryz.prog.closure 5 = cC := (clo_eq Tryz.prog cT 2110 5 cTall cTsum).trans cRun
end Go.Proofs.YtfofhpkafhpicaaGreatDoor
