/-
  Plain functions: bounds of the given alphabets and words.
-/
import Derived.Test.YtgdehkimfmfofaaGreatJ26
import Derived.Test.YtgdehkimfmfofaaGreatJ23
import Derived.Test.YtgdehkimfmfofaaGreatJ22
import Derived.Test.YtgdehkimfmfofaaGreatJ9
set_option linter.unusedVariables false
set_option linter.unusedSimpArgs false
namespace Go.Wb
set_option linter.unusedVariables false
set_option maxRecDepth 10000
open Go.Am
def tb (T : List (List Nat)) (c n : Nat) : Nat := (T.getD c []).getD n 0
def tbcf : List (List Nat) := [[0, 0, 0, 0, 0, 0, 0, 0, 0, 0],
  [0, 0, 0, 0, 0, 0, 0, 0, 0, 0],
  [0, 0, 0, 0, 0, 0, 0, 0, 0, 0],
  [0, 0, 0, 0, 0, 0, 0, 0, 0, 0],
  [2, 4, 6, 8, 10, 12, 14, 16, 18, 20],
  [2, 5, 9, 14, 20, 27, 35, 44, 54, 65],
  [4, 10, 18, 28, 40, 54, 70, 88, 108, 130],
  [4, 11, 23, 46, 80, 127, 189, 268, 366, 485],
  [6, 18, 38, 68, 115, 197, 315, 478, 696, 980],
  [6, 19, 47, 108, 210, 367, 595, 912, 1338, 1895],
  [8, 28, 68, 139, 305, 599, 1083, 1836, 2956, 4562],
  [8, 29, 83, 212, 457, 900, 1659, 2897, 4832, 7748],
  [10, 40, 110, 273, 663, 1421, 2775, 5042, 8648, 14150],
  [10, 41, 133, 373, 919, 2065, 4295, 8362, 15386, 26973],
  [12, 54, 166, 479, 1266, 2954, 6302, 12548, 23627, 42455],
  [12, 55, 199, 627, 1719, 4233, 9523, 19856, 38838, 71971],
  [14, 70, 238, 776, 2248, 5786, 13620, 29817, 61401, 119959],
  [14, 71, 283, 987, 2958, 7884, 19113, 42891, 90297, 180159]]
def tbwf : List (List Nat) := [[0, 0, 0, 0, 0, 0, 0, 0, 0, 0],
  [0, 0, 0, 0, 0, 0, 0, 0, 0, 0],
  [0, 0, 0, 0, 0, 0, 0, 0, 0, 0],
  [0, 0, 0, 0, 0, 0, 0, 0, 0, 0],
  [6782, 13564, 20346, 27128, 33910, 40692, 47474, 54256, 61038, 67820],
  [10155, 27082, 50781, 81252, 118495, 162510, 213297, 270856, 335187, 406290],
  [27108, 74542, 142302, 230388, 338800, 467538, 616602, 785992, 975708, 1185750],
  [33854, 111705, 250478, 514660, 931135, 1516910, 2299073, 3304712, 4560915, 6094770],
  [74522, 264198, 616442, 1178668, 1998290, 3275630, 5377071, 8324524, 12314271, 17562900],
  [88014, 355397, 940898, 2194116, 4452575, 8018030, 13296801, 20749384, 30890451, 44710463],
  [176112, 772148, 2140292, 4734318, 9126495, 16997568, 31514989, 54460822, 89010149, 139035358],
  [203096, 984911, 3032396, 7828420, 17596977, 35255680, 65805327, 116243030, 196022399, 317561100],
  [386054, 2031800, 6549074, 16494451, 35785428, 71812565, 138510948, 253646890, 441668206, 735169826],
  [440022, 2514675, 8866872, 25247266, 62406731, 137694306, 283341877, 550332896, 1015339457, 1789271750],
  [812700, 5018322, 18495162, 52413859, 126233100, 274669413, 561080366, 1085427930, 2021753063, 3669725200],
  [920636, 6095389, 24285588, 76048015, 204704637, 487047622, 1067564488, 2196508984, 4279214746, 7948960741],
  [1672754, 11898754, 49457106, 155911105, 412664433, 971997515, 2115472091, 4328759521, 8540185319, 16686182896],
  [1888626, 14272141, 63522918, 217745617, 633224435, 1621387411, 3788720432, 8248878318, 16938625870, 33079888085]]
def tbcs : List (List Nat) := [[0, 0, 0, 0, 0, 0, 0, 0, 0, 0],
  [0, 0, 0, 0, 0, 0, 0, 0, 0, 0],
  [0, 0, 0, 0, 0, 0, 0, 0, 0, 0],
  [1, 2, 3, 4, 5, 6, 7, 8, 9, 10],
  [1, 2, 3, 4, 5, 6, 7, 8, 9, 10],
  [1, 6, 13, 22, 33, 46, 61, 78, 97, 118],
  [1, 7, 17, 32, 53, 81, 117, 162, 217, 283],
  [1, 12, 31, 60, 101, 156, 227, 316, 425, 556],
  [1, 13, 37, 84, 165, 293, 483, 752, 1119, 1605],
  [1, 20, 59, 128, 244, 442, 758, 1237, 1934, 2915],
  [1, 21, 69, 178, 389, 757, 1353, 2266, 3605, 5501],
  [1, 30, 99, 239, 545, 1145, 2229, 4066, 7023, 11586],
  [1, 31, 115, 328, 786, 1687, 3347, 6245, 11078, 18827],
  [1, 42, 153, 427, 1091, 2513, 5289, 10332, 18981, 33132],
  [1, 43, 177, 551, 1471, 3537, 7833, 16196, 31583, 58557],
  [1, 56, 223, 703, 1970, 4925, 11228, 23777, 47405, 89861],
  [1, 57, 257, 885, 2605, 6839, 16363, 36220, 75059, 147031],
  [1, 72, 311, 1088, 3337, 9124, 22745, 52563, 113965, 233925]]
def tbws : List (List Nat) := [[0, 0, 0, 0, 0, 0, 0, 0, 0, 0],
  [0, 0, 0, 0, 0, 0, 0, 0, 0, 0],
  [0, 0, 0, 0, 0, 0, 0, 0, 0, 0],
  [3383, 6774, 10165, 13556, 16947, 20338, 23729, 27120, 30511, 33902],
  [3383, 6774, 10165, 13556, 16947, 20338, 23729, 27120, 30511, 33902],
  [3383, 47426, 111795, 196490, 301511, 426858, 572531, 738530, 924855, 1131506],
  [3383, 77843, 213225, 426454, 734455, 1154153, 1702473, 2396340, 3252679, 4288415],
  [3383, 189668, 538521, 1097356, 1913587, 3034628, 4507893, 6380796, 8700751, 11515172],
  [3383, 267375, 849485, 2037722, 4173863, 7640461, 12881007, 20399930, 30762597, 44595313],
  [3383, 596028, 1960781, 4551416, 8940202, 16160910, 27983458, 46252015, 73237124, 111679695],
  [3383, 781807, 2825901, 7582672, 17201223, 34481501, 63090189, 107675820, 173983891, 269815203],
  [3383, 1645738, 6159621, 16101607, 35389193, 71412939, 138107931, 253240482, 441258407, 734756636],
  [3383, 2074645, 8423451, 24800454, 61542916, 135100567, 272323691, 514607899, 922993080, 1584314659],
  [3383, 4205614, 17679063, 51594369, 125410219, 273843141, 560250703, 1084594876, 1997173567, 3515357760],
  [3383, 5174745, 23361553, 75120589, 203044581, 485418349, 1066626889, 2195567994, 4278270365, 7948012969],
  [3383, 10225992, 47780953, 154231561, 410981498, 970311189, 2113782374, 4327066413, 8450458817, 15933452963],
  [3383, 12383507, 61630893, 215850201, 631074805, 1619485213, 3786814843, 8246969338, 16936713499, 33077972323],
  [3383, 24040952, 123763233, 438212490, 1271145235, 3234706122, 7511702915, 16270036625, 33558007435, 67335957997]]
def tbca : List (List Nat) := [[0, 0, 0, 0, 0, 0, 0, 0, 0, 0],
  [0, 0, 0, 0, 0, 0, 0, 0, 0, 0],
  [0, 0, 0, 0, 0, 0, 0, 0, 0, 0],
  [1, 2, 3, 4, 5, 6, 7, 8, 9, 10],
  [2, 4, 6, 8, 10, 12, 14, 16, 18, 20],
  [2, 6, 13, 22, 33, 46, 61, 78, 97, 118],
  [4, 10, 18, 32, 53, 81, 117, 162, 217, 283],
  [4, 12, 31, 60, 101, 156, 227, 316, 425, 556],
  [6, 18, 38, 84, 165, 293, 483, 752, 1119, 1605],
  [6, 20, 59, 128, 244, 442, 758, 1237, 1934, 2915],
  [8, 28, 69, 178, 389, 757, 1353, 2266, 3605, 5501],
  [8, 30, 99, 239, 545, 1145, 2229, 4066, 7023, 11586],
  [10, 40, 115, 328, 786, 1687, 3347, 6245, 11078, 18827],
  [10, 42, 153, 427, 1091, 2513, 5289, 10332, 18981, 33132],
  [12, 54, 177, 551, 1471, 3537, 7833, 16196, 31583, 58557],
  [12, 56, 223, 703, 1970, 4925, 11228, 23777, 47405, 89861],
  [14, 70, 257, 885, 2605, 6839, 16363, 36220, 75059, 147031],
  [14, 72, 311, 1088, 3337, 9124, 22745, 52563, 113965, 233925]]
def tbwa : List (List Nat) := [[0, 0, 0, 0, 0, 0, 0, 0, 0, 0],
  [0, 0, 0, 0, 0, 0, 0, 0, 0, 0],
  [0, 0, 0, 0, 0, 0, 0, 0, 0, 0],
  [3383, 6774, 10165, 13556, 16947, 20338, 23729, 27120, 30511, 33902],
  [6782, 13564, 20346, 27128, 33910, 40692, 47474, 54256, 61038, 67820],
  [10155, 47426, 111795, 196490, 301511, 426858, 572531, 738530, 924855, 1131506],
  [27108, 77843, 213225, 426454, 734455, 1154153, 1702473, 2396340, 3252679, 4288415],
  [33854, 189668, 538521, 1097356, 1913587, 3034628, 4507893, 6380796, 8700751, 11515172],
  [74522, 267375, 849485, 2037722, 4173863, 7640461, 12881007, 20399930, 30762597, 44595313],
  [88014, 596028, 1960781, 4551416, 8940202, 16160910, 27983458, 46252015, 73237124, 111679695],
  [176112, 781807, 2825901, 7582672, 17201223, 34481501, 63090189, 107675820, 173983891, 269815203],
  [203096, 1645738, 6159621, 16101607, 35389193, 71412939, 138107931, 253240482, 441258407, 734756636],
  [386054, 2074645, 8423451, 24800454, 61542916, 135100567, 272323691, 514607899, 922993080, 1584314659],
  [440022, 4205614, 17679063, 51594369, 125410219, 273843141, 560250703, 1084594876, 1997173567, 3515357760],
  [812700, 5174745, 23361553, 75120589, 203044581, 485418349, 1066626889, 2195567994, 4278270365, 7948012969],
  [920636, 10225992, 47780953, 154231561, 410981498, 970311189, 2113782374, 4327066413, 8450458817, 15933452963],
  [1672754, 12383507, 61630893, 215850201, 631074805, 1619485213, 3786814843, 8246969338, 16936713499, 33077972323],
  [1888626, 24040952, 123763233, 438212490, 1271145235, 3234706122, 7511702915, 16270036625, 33558007435, 67335957997]]
def tbcg : List (List Nat) := [[1, 2, 3, 4, 5, 6, 7, 8, 9, 10],
  [1, 2, 3, 4, 5, 6, 7, 8, 9, 10],
  [1, 2, 3, 4, 5, 6, 7, 8, 9, 10],
  [1, 3, 6, 10, 15, 21, 28, 36, 45, 55],
  [3, 8, 15, 24, 35, 48, 63, 80, 99, 120],
  [3, 9, 20, 42, 75, 121, 182, 260, 357, 475],
  [5, 16, 35, 64, 110, 191, 308, 470, 687, 970],
  [5, 17, 44, 104, 205, 361, 588, 904, 1329, 1885],
  [7, 26, 65, 135, 300, 593, 1076, 1828, 2947, 4552],
  [7, 27, 80, 208, 452, 894, 1652, 2889, 4823, 7738],
  [9, 38, 107, 269, 658, 1415, 2768, 5034, 8639, 14140],
  [9, 39, 130, 369, 914, 2059, 4288, 8354, 15377, 26963],
  [11, 52, 163, 475, 1261, 2948, 6295, 12540, 23618, 42445],
  [11, 53, 196, 623, 1714, 4227, 9516, 19848, 38829, 71961],
  [13, 68, 235, 772, 2243, 5780, 13613, 29809, 61392, 119949],
  [13, 69, 280, 983, 2953, 7878, 19106, 42883, 90288, 180149],
  [15, 86, 325, 1200, 3805, 10644, 27007, 63227, 138286, 285317],
  [15, 87, 384, 1472, 4809, 13933, 36678, 89241, 203206, 437131]]
def tbwg : List (List Nat) := [[3391, 6782, 10173, 13564, 16955, 20346, 23737, 27128, 30519, 33910],
  [3391, 6782, 10173, 13564, 16955, 20346, 23737, 27128, 30519, 33910],
  [3391, 6782, 10173, 13564, 16955, 20346, 23737, 27128, 30519, 33910],
  [6764, 20300, 40608, 67688, 101540, 142164, 189560, 243728, 304668, 372380],
  [23717, 67760, 132129, 216824, 321845, 447192, 592865, 758864, 945189, 1151840],
  [30463, 104923, 240305, 501096, 914180, 1496564, 2275336, 3277584, 4530396, 6060860],
  [71131, 257416, 606269, 1165104, 1981335, 3255284, 5353334, 8297396, 12283752, 17528990],
  [84623, 348615, 930725, 2180552, 4435620, 7997684, 13273064, 20722256, 30859932, 44676553],
  [172721, 765366, 2130119, 4720754, 9109540, 16977222, 31491252, 54433694, 88979630, 139001448],
  [199705, 978129, 3022223, 7814856, 17580022, 35235334, 65781590, 116215902, 195991880, 317527190],
  [382663, 2025018, 6538901, 16480887, 35768473, 71792219, 138487211, 253619762, 441637687, 735135916],
  [436631, 2507893, 8856699, 25233702, 62389776, 137673960, 283318140, 550305768, 1015308938, 1789237840],
  [809309, 5011540, 18484989, 52400295, 126216145, 274649067, 561056629, 1085400802, 2021722544, 3669691290],
  [917245, 6088607, 24275415, 76034451, 204687682, 487027276, 1067540751, 2196481856, 4279184227, 7948926831],
  [1669363, 11891972, 49446933, 155897541, 412647478, 971977169, 2115448354, 4328732393, 8540154800, 16686148986],
  [1885235, 14265359, 63512745, 217732053, 633207480, 1621367065, 3788696695, 8248851190, 16938595351, 33079854175],
  [3396233, 27433802, 127156083, 441605340, 1274538085, 3238098972, 7515095765, 16273429475, 33561400285, 67339350847],
  [3827977, 32615701, 160621751, 599453423, 1875906682, 5145340699, 12787406007, 29430180505, 63612729793, 131245516298]]
def tbwt : List (List Nat) := [[0, 0, 0, 0, 0, 0, 0, 0, 0, 0],
  [3391, 6782, 10173, 13564, 16955, 20346, 23737, 27128, 30519, 33910],
  [6782, 20300, 40608, 67688, 101540, 142164, 189560, 243728, 304668, 372380],
  [23717, 67760, 132129, 216824, 321845, 447192, 592865, 758864, 945189, 1151840],
  [30463, 104923, 240305, 501096, 914180, 1496564, 2275336, 3277584, 4530396, 6060860],
  [71131, 257416, 606269, 1165104, 1981335, 3255284, 5353334, 8297396, 12283752, 17528990],
  [84623, 348615, 930725, 2180552, 4435620, 7997684, 13273064, 20722256, 30859932, 44676553],
  [172721, 765366, 2130119, 4720754, 9109540, 16977222, 31491252, 54433694, 88979630, 139001448],
  [199705, 978129, 3022223, 7814856, 17580022, 35235334, 65781590, 116215902, 195991880, 317527190],
  [382663, 2025018, 6538901, 16480887, 35768473, 71792219, 138487211, 253619762, 441637687, 735135916],
  [436631, 2507893, 8856699, 25233702, 62389776, 137673960, 283318140, 550305768, 1015308938, 1789237840],
  [809309, 5011540, 18484989, 52400295, 126216145, 274649067, 561056629, 1085400802, 2021722544, 3669691290],
  [917245, 6088607, 24275415, 76034451, 204687682, 487027276, 1067540751, 2196481856, 4279184227, 7948926831],
  [1669363, 11891972, 49446933, 155897541, 412647478, 971977169, 2115448354, 4328732393, 8540154800, 16686148986],
  [1885235, 14265359, 63512745, 217732053, 633207480, 1621367065, 3788696695, 8248851190, 16938595351, 33079854175],
  [3396233, 27433802, 127156083, 441605340, 1274538085, 3238098972, 7515095765, 16273429475, 33561400285, 67339350847],
  [3827977, 32615701, 160621751, 599453423, 1875906682, 5145340699, 12787406007, 29430180505, 63612729793, 131245516298]]
def altOk9 (c d : Nat) : Prop := ∀ n, n ≤ 9 → tb tbca c n + tb tbca d n ≤ tb tbcf (c + d) n ∧ tb tbwa c n + tb tbwa d n ≤ tb tbwf (c + d) n
instance (c d : Nat) : Decidable (altOk9 c d) := by unfold altOk9; exact inferInstance
def seqOk9 (c d : Nat) : Prop := ∀ n, n ≤ 9 → tb tbcg c n + tb tbcg d n ≤ tb tbcf (c + d) n ∧ tb tbwg c n + tb tbwg d n ≤ tb tbwf (c + d) n
instance (c d : Nat) : Decidable (seqOk9 c d) := by unfold seqOk9; exact inferInstance
end Go.Wb

namespace Go.Wb
set_option linter.unusedVariables false
set_option linter.unusedSimpArgs false
open Go.Am
inductive Star (P : List Int → Prop) : List Int → Prop
  | nil : Star P []
  | cons {u v : List Int} : P u → Star P v → Star P (u ++ v)
mutual
def sem : Rx → List Int → Prop
  | .mk k s l => fun w => if k = 1 then w = [] else if k = 2 then ∃ a, w = [a] ∧ a ∈ s else if k = 3 then semQ l w else if k = 4 then semA l w else if k = 5 then semK l w else False
def semQ : List Rx → List Int → Prop
  | [] => fun w => w = []
  | x :: l => fun w => ∃ u v, w = u ++ v ∧ sem x u ∧ semQ l v
def semA : List Rx → List Int → Prop
  | [] => fun _ => False
  | x :: l => fun w => sem x w ∨ semA l w
def semK : List Rx → List Int → Prop
  | [] => fun w => w = []
  | x :: _ => fun w => Star (sem x) w
end
theorem Star.mono {P Q : List Int → Prop} (h : ∀ w, P w → Star Q w) {w : List Int} (hw : Star P w) : Star Q w := by
  have app : ∀ {u v : List Int}, Star Q u → Star Q v → Star Q (u ++ v) := fun {u v} hu hv => by
    induction hu with
    | nil => exact hv
    | cons h1 _ ih => rw [List.append_assoc]; exact .cons h1 ih
  induction hw with
  | nil => exact .nil
  | cons h1 _ ih => exact app (h _ h1) ih
theorem Star.one {P : List Int → Prop} {w : List Int} (h : P w) : Star P w := by
  have := Star.cons h .nil
  rwa [List.append_nil] at this
theorem Star.congr {P Q : List Int → Prop} (h : ∀ w, P w ↔ Q w) (w : List Int) : Star P w ↔ Star Q w :=
  ⟨Star.mono fun w hw => .one ((h w).1 hw), Star.mono fun w hw => .one ((h w).2 hw)⟩
theorem Star.none {P : List Int → Prop} (h : ∀ w, P w → w = []) {w : List Int} (hw : Star P w) : w = [] := by
  induction hw with
  | nil => rfl
  | cons h1 _ ih => rw [h _ h1, ih]; rfl
theorem Star.head {P : List Int → Prop} {a : Int} {w : List Int} : Star P (a :: w) ↔ ∃ u v, w = u ++ v ∧ P (a :: u) ∧ Star P v := by
  constructor
  · intro h
    have : ∀ z, Star P z → z = a :: w → ∃ u v, w = u ++ v ∧ P (a :: u) ∧ Star P v := by
      intro z hz
      induction hz with
      | nil => intro e; cases e
      | @cons u v h1 h2 ih =>
        intro e
        match u, e with
        | [], e => exact ih e
        | b :: u, e =>
          obtain ⟨rfl, e2⟩ := List.cons.inj e
          exact ⟨u, v, e2.symm, h1, h2⟩
    exact this _ h rfl
  · rintro ⟨u, v, rfl, h1, h2⟩
    exact .cons (u := a :: u) h1 h2
end Go.Wb

namespace Go.Wb
set_option linter.unusedVariables false
open Go.Am Go.Wc
structure Sm (x : Rx) : Prop where
  valid : validR x = true
  size : x.size ≤ 49
  top : Top 16 (simR x)
  ssize : (simR x).size ≤ 49
def lgR (x : Rx) (u : List Int) (k : Nat) : Rx := if k = 0 then x else Dv (simR x) (u.take k)
end Go.Wb

namespace Go.Wb
set_option linter.unusedVariables false
open Go.Am Go.Wc
section
variable {a : List Letter}
theorem known_mk {k : Int} {s : List Int} {l : List Rx} (hs : ∀ z ∈ s, symK a z = true) (hl : ∀ y ∈ l, knownR a y = true) : knownR a (.mk k s l) = true := by
  rw [knownR_eq, Bool.and_eq_true, List.all_eq_true, List.all_eq_true]; exact ⟨hs, hl⟩
theorem known_syms {r : Rx} (h : knownR a r = true) : ∀ z ∈ r.syms, symK a z = true := by
  rw [knownR_eq, Bool.and_eq_true, List.all_eq_true] at h; exact h.1
theorem known_nil (k : Int) : knownR a (.mk k [] []) = true := known_mk (fun z hz => by cases hz) (fun z hz => by cases hz)
theorem known_kids1 {k : Int} {l : List Rx} (hl : ∀ y ∈ l, knownR a y = true) : knownR a (.mk k [] l) = true := known_mk (fun z hz => by cases hz) hl
theorem seqL_known {l : List Rx} (h : ∀ x ∈ l, knownR a x = true) : ∀ x ∈ seqL l, knownR a x = true := fun x hx => by
  obtain ⟨y, hy, hx⟩ := List.mem_flatMap.1 hx
  unfold seqF at hx
  split at hx
  · exact known_kids (h y hy) x hx
  · split at hx
    · cases hx
    · rw [List.mem_singleton.1 hx]; exact h y hy
theorem seqN_known {l : List Rx} (h : ∀ x ∈ l, knownR a x = true) : knownR a (seqN l) = true := by
  have h1 := seqL_known h
  unfold seqN
  split
  · exact known_nil 0
  · unfold seqE
    split
    · exact known_nil 1
    · split
      · exact h1 _ (kid_mem (by omega))
      · exact known_kids1 h1
theorem altL_known {l : List Rx} (h : ∀ x ∈ l, knownR a x = true) : ∀ x ∈ altL l, knownR a x = true := fun x hx => by
  obtain ⟨y, hy, hx⟩ := altL_mem.1 hx
  unfold altF at hx
  split at hx
  · exact known_kids (h y hy) x hx
  · rw [List.mem_singleton.1 hx]; exact h y hy
theorem altD_known {l : List Rx} (h : ∀ x ∈ l, knownR a x = true) : ∀ x ∈ altD l, knownR a x = true := fun x hx => by
  have h1 := altL_known h
  rw [altD_uni, uniR_mem, altM_mem] at hx
  rcases hx with hx | ⟨_, rfl⟩
  · exact h1 x (altK_mem.1 hx).1
  · refine known_mk (fun z hz => ?_) (fun y hy => by cases hy)
    obtain ⟨y, hy, _, hz2⟩ := altS_mem.1 (uniI_mem.1 hz)
    exact known_syms (h1 y hy) z hz2
theorem altN_known {l : List Rx} (h : ∀ x ∈ l, knownR a x = true) : knownR a (altN l) = true := by
  have h1 : ∀ x ∈ altC (altD l), knownR a x = true := fun x hx => by
    unfold altC at hx
    split at hx
    · exact altD_known h x (List.mem_of_mem_drop hx)
    · exact altD_known h x hx
  unfold altN altE
  split
  · exact known_nil 0
  · split
    · exact h1 _ (kid_mem (by omega))
    · exact known_kids1 h1
theorem starN_known {x : Rx} (h : knownR a x = true) : knownR a (starN x) = true := by
  unfold starN
  split
  · exact known_nil 1
  · split
    · exact h
    · refine known_kids1 fun y hy => ?_
      rw [List.mem_singleton.1 hy]
      unfold starB
      split
      · split
        · exact known_kids h _ (kid_mem (by omega))
        · exact known_mk (known_syms h) fun z hz => known_kids h z (List.mem_of_mem_drop hz)
      · exact h
theorem build_known (t : Bool) (r : Rx) : knownR a r = true → knownR a (buildR t r) = true := by
  refine rx_ind (P := fun r => knownR a r = true → knownR a (buildR t r) = true) (fun r ih hk => ?_) r
  have hm : ∀ x ∈ r.kids.map (buildR t), knownR a x = true := fun x hx => by
    obtain ⟨y, hy, rfl⟩ := List.mem_map.1 hx
    exact ih y hy (known_kids hk y hy)
  rw [buildR_eq]
  split
  · refine seqN_known fun x hx => ?_
    split at hx
    · exact hm x (List.mem_reverse.1 hx)
    · exact hm x hx
  · split
    · exact altN_known hm
    · split
      · refine starN_known ?_
        by_cases h0 : 0 < (r.kids.map (buildR t)).length
        · exact hm _ (kid_mem h0)
        · rw [List.eq_nil_of_length_eq_zero (l := r.kids.map (buildR t)) (by omega)]; exact known_nil 0
      · exact known_mk (known_syms hk) fun y hy => by cases hy
theorem sim_known {r : Rx} (h : knownR a r = true) : knownR a (simR r) = true := by
  unfold simR
  split
  · exact build_known false r h
  · exact known_nil 0
theorem shpF_known {n : Int} {st : List Rx} (hm : 0 < a.length) (hn : 0 ≤ n) (h : ∀ x ∈ st, knownR a x = true) : ∀ x ∈ shpF (a.length : Int) n st, knownR a x = true := by
  have a1 := Int.emod_nonneg (n / 8) (show (a.length : Int) ≠ 0 by omega)
  have a2 := Int.emod_lt_of_pos (n / 8) (show (0 : Int) < a.length by omega)
  have b1 := Int.emod_nonneg (n / 8 / a.length) (show (a.length : Int) ≠ 0 by omega)
  have b2 := Int.emod_lt_of_pos (n / 8 / a.length) (show (0 : Int) < a.length by omega)
  have hs : ∀ z : Int, z < a.length → symK a z = true := fun z hz => by
    unfold symK; rw [decide_eq_false (by omega)]; rfl
  have one : ∀ z : Int, z < a.length → knownR a (.mk 2 [z] []) = true := fun z hz => known_mk (fun w hw => by rw [List.mem_singleton.1 hw]; exact hs z hz) (fun y hy => by cases hy)
  have two : ∀ z w : Int, z < a.length → w < a.length → knownR a (.mk 2 [z, w] []) = true := fun z w hz hw => known_mk (fun v hv => by
    rcases List.mem_cons.1 hv with rfl | hv
    · exact hs _ hz
    · rw [List.mem_singleton.1 hv]; exact hs _ hw) (fun y hy => by cases hy)
  have hg : ∀ i, i < st.length → knownR a (st.getD i default) = true := fun i hi => h _ (kid_mem hi)
  have happ : ∀ y, knownR a y = true → ∀ x ∈ st ++ [y], knownR a x = true := fun y hy x hx => by
    rcases List.mem_append.1 hx with hx | hx
    · exact h x hx
    · rw [List.mem_singleton.1 hx]; exact hy
  have hset : ∀ i y, knownR a y = true → ∀ x ∈ st.set i y, knownR a x = true := fun i y hy x hx => by
    rcases List.mem_or_eq_of_mem_set hx with hx | hx
    · exact h x hx
    · rw [hx]; exact hy
  have pair : ∀ (k : Int) (x y : Rx), knownR a x = true → knownR a y = true → knownR a (.mk k [] [x, y]) = true := fun k x y hx hy => known_kids1 fun z hz => by
    rcases List.mem_cons.1 hz with rfl | hz
    · exact hx
    · rw [List.mem_singleton.1 hz]; exact hy
  have star : ∀ x : Rx, knownR a x = true → knownR a (.mk 5 [] [x]) = true := fun x hx => known_kids1 fun z hz => by rw [List.mem_singleton.1 hz]; exact hx
  unfold shpF
  split
  · exact happ _ (one _ (by omega))
  · split
    · refine happ _ ?_
      split
      · exact one _ (by omega)
      · refine two _ _ ?_ ?_
        · unfold minI; split <;> omega
        · unfold maxI; split <;> omega
    · split
      · next hc => exact hset _ _ (star _ (hg _ (by omega)))
      · split
        · next hc => exact fun x hx => hset _ _ (pair 3 _ _ (hg _ (by omega)) (hg _ (by omega))) x (List.mem_of_mem_take hx)
        · split
          · next hc => exact fun x hx => hset _ _ (pair 4 _ _ (hg _ (by omega)) (hg _ (by omega))) x (List.mem_of_mem_take hx)
          · split
            · next hc => exact hset _ _ (pair 4 _ _ (known_nil 1) (hg _ (by omega)))
            · split
              · exact happ _ (known_nil _)
              · exact h
theorem shpN_known (l : List Int) (hm : 0 < a.length) : ∀ i, ∀ x ∈ shpN (a.length : Int) l i, knownR a x = true
  | 0 => fun x hx => by cases hx
  | i + 1 => by
    rw [shpN]
    exact shpF_known hm (around_lt (by decide)).1 (shpN_known l hm i)
theorem shaped_known (l : List Int) (hm : 0 < a.length) : knownR a (shapedP l (a.length : Int)) = true := by
  have h1 := shpN_known l hm (min l.length 16)
  unfold shapedP shpE
  split
  · exact h1 _ (kid_mem (by omega))
  · exact known_kids1 h1
end
theorem pat_read {a : List Letter} {x : Rx} {sets : List SetT} (hA : validA a = true) (hv : validR x = true) (hk : knownR a x = true) (hz : x.size ≤ 49) :
    parseP a sets (printP a x) = (simR x, -1) ∧ printP a (simR x) = printP a x ∧ (printP a x).length ≤ 1024 ∧ (simR x).size ≤ 98 := by
  have h1 := simR_nf x
  have h2 := sim_known hk
  have h3 : (simR x).size ≤ 98 := by have := size_simR x; omega
  have h4 := text_len (validA_txt hA) (simR x)
  have h5 : printP a x = textR a (simR x) := by unfold printP; rw [if_pos ⟨hv, hA, h2⟩]
  have h6 : printP a (simR x) = textR a (simR x) := by unfold printP; rw [simR_id h1, if_pos ⟨nf_valid h1, hA, h2⟩]
  rw [h6, h5]
  exact ⟨parse_text hA h1 h2 (by omega), rfl, by omega, h3⟩
end Go.Wb

namespace Go.Wc
open Go.Am
abbrev poolL : List (List UInt8) := [[97], [98], [99], [101], [105], [110], [115], [116], [99, 104], [195, 169], [65], [115, 99, 104], [104], [108], [195, 182], [117]]
def atV (l : List Int) (i most : Int) : Int := atL l i most
def letter0 (l : List Int) (start : Int) (i : Nat) : Letter := ⟨poolL.getD ((start + i) % 16).toNat default, i, 0, 0, 1 + atL l (2 + i) 9⟩
def letterI (l : List Int) (start : Int) (a : List Letter) (i : Nat) : Letter :=
  if 0 < i ∧ atL l (10 + i) 3 = 1 then { letter0 l start i with base := (a.getD (atL l (20 + i) i).toNat default).base, mark := atL l (30 + i) 4, cap := atL l (40 + i) 2 } else letter0 l start i
def lettersN (l : List Int) (start : Int) : Nat → List Letter
  | 0 => []
  | i + 1 => lettersN l start i ++ [letterI l start (lettersN l start i) i]
def lettersP (l : List Int) : List Letter := lettersN l (atL l 1 16) (3 + atL l 0 6).toNat
theorem lettersN_len (l : List Int) (start : Int) : ∀ i, (lettersN l start i).length = i
  | 0 => rfl
  | i + 1 => by simp [lettersN, lettersN_len l start i]
abbrev smallP : List Letter := [⟨[97], 0, 0, 0, 5⟩, ⟨[98], 1, 0, 0, 6⟩, ⟨[99], 2, 0, 0, 5⟩, ⟨[101], 3, 0, 0, 5⟩, ⟨[110], 4, 0, 0, 6⟩, ⟨[115], 5, 0, 0, 4⟩, ⟨[116], 6, 0, 0, 3⟩, ⟨[99, 104], 7, 0, 0, 10⟩, ⟨[195, 169], 3, 1, 0, 5⟩, ⟨[65], 0, 0, 1, 7⟩]
def manyP (n : Nat) : List Letter := (List.range n).map fun i => ⟨[UInt8.ofNat (97 + i / 20), UInt8.ofNat (97 + i % 20)], i, 0, 0, 1⟩
def bigL (l : List (List Int)) : Prop := ∀ v ∈ l, v.length ≤ 9223372036854775807
theorem bigL.get {l : List (List Int)} (h : bigL l) (k : Nat) : (l.getD k default).length ≤ 9223372036854775807 := by
  rw [List.getD_eq_getElem?_getD]
  cases hk : l[k]? with
  | none => exact Nat.zero_le _
  | some x => exact h x (List.mem_of_getElem? hk)
def rawP (l : List (List Int)) : List (List Int) := (l.take 8).map (List.take 12)
end Go.Wc

namespace Go.Wc
open Go.Am
structure okA (a : List Letter) : Prop where
  len : a.length ≤ 1099511627776
  txt : ∀ x ∈ a, x.text.length ≤ 9223372036854775807
theorem lettersP_len (l : List Int) : 3 ≤ (lettersP l).length ∧ (lettersP l).length ≤ 8 := by
  have := atL_lt (l := l) (i := 0) (most := 6) (by decide)
  unfold lettersP; rw [lettersN_len]; omega
theorem lettersN_get (l : List Int) (s : Int) : ∀ {i j : Nat}, j < i → (lettersN l s i).getD j default = letterI l s (lettersN l s j) j
  | 0, j, h => by omega
  | i + 1, j, h => by
    have hl := lettersN_len l s i
    rw [lettersN, List.getD_eq_getElem?_getD]
    by_cases hj : j = i
    · subst hj
      rw [List.getElem?_append_right (by omega), hl, Nat.sub_self]; rfl
    · rw [List.getElem?_append_left (by omega), ← List.getD_eq_getElem?_getD]
      exact lettersN_get l s (by omega)
theorem lettersN_base (l : List Int) (s : Int) (i : Nat) : ∀ j, j < i → 0 ≤ ((lettersN l s i).getD j default).base ∧ ((lettersN l s i).getD j default).base ≤ j ∧
    ((lettersN l s i).getD ((lettersN l s i).getD j default).base.toNat default).base = ((lettersN l s i).getD j default).base ∧ (((lettersN l s i).getD j default).base = j → ((lettersN l s i).getD j default).mark = 0 ∧ ((lettersN l s i).getD j default).cap = 0) := by
  intro j
  induction j using Nat.strongRecOn with
  | _ j ih =>
    intro hj
    have hx := lettersN_get l s hj
    by_cases hc : 0 < j ∧ atL l (10 + j) 3 = 1
    · have hq := atL_lt (l := l) (i := 20 + j) (most := j) (by omega)
      have hb : ((lettersN l s i).getD j default).base = ((lettersN l s i).getD (atL l (20 + j) j).toNat default).base := by
        rw [hx, letterI, if_pos hc, lettersN_get l s (i := i) (by omega), lettersN_get l s (i := j) (by omega)]
      obtain ⟨h1, h2, h3, h4⟩ := ih (atL l (20 + j) j).toNat (by omega) (by omega)
      rw [hb]
      refine ⟨h1, by omega, h3, fun h => ?_⟩
      omega
    · have hb : (lettersN l s i).getD j default = letter0 l s j := by rw [hx, letterI, if_neg hc]
      rw [hb]
      have e : (letter0 l s j).base = (j : Int) := rfl
      rw [e, Int.toNat_natCast, hb, e]
      exact ⟨by omega, by omega, rfl, fun _ => ⟨rfl, rfl⟩⟩
theorem letterI_nums (l : List Int) (s : Int) (a : List Letter) (j : Nat) : 0 ≤ (letterI l s a j).mark ∧ (letterI l s a j).mark ≤ 15 ∧ 0 ≤ (letterI l s a j).cap ∧ (letterI l s a j).cap ≤ 1 ∧ 1 ≤ (letterI l s a j).width ∧ (letterI l s a j).width ≤ 1000 := by
  have b1 := atL_lt (l := l) (i := 2 + j) (most := 9) (by decide)
  have b3 := atL_lt (l := l) (i := 30 + j) (most := 4) (by decide)
  have b4 := atL_lt (l := l) (i := 40 + j) (most := 2) (by decide)
  unfold letterI letter0
  split <;> (simp only []; omega)
theorem letterI_txt (l : List Int) (s : Int) (a : List Letter) (j : Nat) : (letterI l s a j).text = poolL.getD ((s + j) % 16).toNat default := by
  unfold letterI letter0; split <;> rfl
theorem pool_plain : ∀ n, n < 16 → plainT (poolL.getD n default) = true := by decide
theorem pool_apart : ∀ s, s < 16 → ∀ j, j < 8 → ∀ k, k < j → poolL.getD ((s + k) % 16) default ≠ poolL.getD ((s + j) % 16) default := by decide +kernel
theorem lettersP_valid (l : List Int) : validA (lettersP l) = true := by
  have hs := atL_lt (l := l) (i := 1) (most := 16) (by decide)
  have hlen := lettersP_len l
  generalize hi : (3 + atL l 0 6).toNat = i
  generalize hss : atL l 1 16 = s at hs
  have ha : lettersP l = lettersN l s i := by unfold lettersP; rw [hi, hss]
  rw [ha] at hlen ⊢
  rw [lettersN_len] at hlen
  have hn := lettersN_len l s i
  refine validA_good (n := i) (by omega) (by omega) fun j hj => ?_
  obtain ⟨h1, h2, h3, h4⟩ := lettersN_base l s i j hj
  have hx := lettersN_get l s hj
  have hm := letterI_nums l s (lettersN l s j) j
  rw [← hx] at hm
  have ht : ∀ k, k < i → ((lettersN l s i).getD k default).text = poolL.getD ((s.toNat + k) % 16) default := fun k hk => by
    rw [lettersN_get l s hk, letterI_txt]
    congr 1; omega
  refine ⟨⟨?_, h1, by omega, h3, hm.1, hm.2.1, hm.2.2.1, hm.2.2.2.1, hm.2.2.2.2.1, hm.2.2.2.2.2⟩, h4, fun k hk => ?_⟩
  · rw [ht j hj]; exact pool_plain _ (Nat.mod_lt _ (by decide))
  · rw [ht j hj, ht k (by omega)]
    exact pool_apart s.toNat (by omega) j (by omega) k hk
end Go.Wc

