/-
  From a row's arguments that are lists of letters or of named sets to abstract data.
-/
import Derived.Test.YtgdehkimfmfofaaGreatJ22
import Derived.Test.YtgdehkimfmfofaaGreatJ20
import Derived.Test.YtgdehkimfmfofaaGreatJ8
import Derived.Test.YtgdehkimfmfofaaGreatJ17
set_option linter.unusedVariables false
set_option linter.unusedSimpArgs false
namespace Go.Wb
set_option linter.unusedVariables false
set_option maxRecDepth 10000
open Go.Am
def tb (T : List (List Nat)) (c n : Nat) : Nat := (T.getD c []).getD n 0
def tbcf : List (List Nat) := [[0, 0, 0, 0, 0, 0, 0, 0, 0, 0],
  [0, 0, 0, 0, 0, 0, 0, 0, 0, 0],
  [0, 0, 0, 0, 0, 0, 0, 0, 0, 0],
  [0, 0, 0, 0, 0, 0, 0, 0, 0, 0],
  [2, 4, 6, 8, 10, 12, 14, 16, 18, 20],
  [2, 5, 9, 14, 20, 27, 35, 44, 54, 65],
  [4, 10, 18, 28, 40, 54, 70, 88, 108, 130],
  [4, 11, 23, 46, 80, 127, 189, 268, 366, 485],
  [6, 18, 38, 68, 115, 197, 315, 478, 696, 980],
  [6, 19, 47, 108, 210, 367, 595, 912, 1338, 1895],
  [8, 28, 68, 139, 305, 599, 1083, 1836, 2956, 4562],
  [8, 29, 83, 212, 457, 900, 1659, 2897, 4832, 7748],
  [10, 40, 110, 273, 663, 1421, 2775, 5042, 8648, 14150],
  [10, 41, 133, 373, 919, 2065, 4295, 8362, 15386, 26973],
  [12, 54, 166, 479, 1266, 2954, 6302, 12548, 23627, 42455],
  [12, 55, 199, 627, 1719, 4233, 9523, 19856, 38838, 71971],
  [14, 70, 238, 776, 2248, 5786, 13620, 29817, 61401, 119959],
  [14, 71, 283, 987, 2958, 7884, 19113, 42891, 90297, 180159]]
def tbwf : List (List Nat) := [[0, 0, 0, 0, 0, 0, 0, 0, 0, 0],
  [0, 0, 0, 0, 0, 0, 0, 0, 0, 0],
  [0, 0, 0, 0, 0, 0, 0, 0, 0, 0],
  [0, 0, 0, 0, 0, 0, 0, 0, 0, 0],
  [6782, 13564, 20346, 27128, 33910, 40692, 47474, 54256, 61038, 67820],
  [10155, 27082, 50781, 81252, 118495, 162510, 213297, 270856, 335187, 406290],
  [27108, 74542, 142302, 230388, 338800, 467538, 616602, 785992, 975708, 1185750],
  [33854, 111705, 250478, 514660, 931135, 1516910, 2299073, 3304712, 4560915, 6094770],
  [74522, 264198, 616442, 1178668, 1998290, 3275630, 5377071, 8324524, 12314271, 17562900],
  [88014, 355397, 940898, 2194116, 4452575, 8018030, 13296801, 20749384, 30890451, 44710463],
  [176112, 772148, 2140292, 4734318, 9126495, 16997568, 31514989, 54460822, 89010149, 139035358],
  [203096, 984911, 3032396, 7828420, 17596977, 35255680, 65805327, 116243030, 196022399, 317561100],
  [386054, 2031800, 6549074, 16494451, 35785428, 71812565, 138510948, 253646890, 441668206, 735169826],
  [440022, 2514675, 8866872, 25247266, 62406731, 137694306, 283341877, 550332896, 1015339457, 1789271750],
  [812700, 5018322, 18495162, 52413859, 126233100, 274669413, 561080366, 1085427930, 2021753063, 3669725200],
  [920636, 6095389, 24285588, 76048015, 204704637, 487047622, 1067564488, 2196508984, 4279214746, 7948960741],
  [1672754, 11898754, 49457106, 155911105, 412664433, 971997515, 2115472091, 4328759521, 8540185319, 16686182896],
  [1888626, 14272141, 63522918, 217745617, 633224435, 1621387411, 3788720432, 8248878318, 16938625870, 33079888085]]
def tbcs : List (List Nat) := [[0, 0, 0, 0, 0, 0, 0, 0, 0, 0],
  [0, 0, 0, 0, 0, 0, 0, 0, 0, 0],
  [0, 0, 0, 0, 0, 0, 0, 0, 0, 0],
  [1, 2, 3, 4, 5, 6, 7, 8, 9, 10],
  [1, 2, 3, 4, 5, 6, 7, 8, 9, 10],
  [1, 6, 13, 22, 33, 46, 61, 78, 97, 118],
  [1, 7, 17, 32, 53, 81, 117, 162, 217, 283],
  [1, 12, 31, 60, 101, 156, 227, 316, 425, 556],
  [1, 13, 37, 84, 165, 293, 483, 752, 1119, 1605],
  [1, 20, 59, 128, 244, 442, 758, 1237, 1934, 2915],
  [1, 21, 69, 178, 389, 757, 1353, 2266, 3605, 5501],
  [1, 30, 99, 239, 545, 1145, 2229, 4066, 7023, 11586],
  [1, 31, 115, 328, 786, 1687, 3347, 6245, 11078, 18827],
  [1, 42, 153, 427, 1091, 2513, 5289, 10332, 18981, 33132],
  [1, 43, 177, 551, 1471, 3537, 7833, 16196, 31583, 58557],
  [1, 56, 223, 703, 1970, 4925, 11228, 23777, 47405, 89861],
  [1, 57, 257, 885, 2605, 6839, 16363, 36220, 75059, 147031],
  [1, 72, 311, 1088, 3337, 9124, 22745, 52563, 113965, 233925]]
def tbws : List (List Nat) := [[0, 0, 0, 0, 0, 0, 0, 0, 0, 0],
  [0, 0, 0, 0, 0, 0, 0, 0, 0, 0],
  [0, 0, 0, 0, 0, 0, 0, 0, 0, 0],
  [3383, 6774, 10165, 13556, 16947, 20338, 23729, 27120, 30511, 33902],
  [3383, 6774, 10165, 13556, 16947, 20338, 23729, 27120, 30511, 33902],
  [3383, 47426, 111795, 196490, 301511, 426858, 572531, 738530, 924855, 1131506],
  [3383, 77843, 213225, 426454, 734455, 1154153, 1702473, 2396340, 3252679, 4288415],
  [3383, 189668, 538521, 1097356, 1913587, 3034628, 4507893, 6380796, 8700751, 11515172],
  [3383, 267375, 849485, 2037722, 4173863, 7640461, 12881007, 20399930, 30762597, 44595313],
  [3383, 596028, 1960781, 4551416, 8940202, 16160910, 27983458, 46252015, 73237124, 111679695],
  [3383, 781807, 2825901, 7582672, 17201223, 34481501, 63090189, 107675820, 173983891, 269815203],
  [3383, 1645738, 6159621, 16101607, 35389193, 71412939, 138107931, 253240482, 441258407, 734756636],
  [3383, 2074645, 8423451, 24800454, 61542916, 135100567, 272323691, 514607899, 922993080, 1584314659],
  [3383, 4205614, 17679063, 51594369, 125410219, 273843141, 560250703, 1084594876, 1997173567, 3515357760],
  [3383, 5174745, 23361553, 75120589, 203044581, 485418349, 1066626889, 2195567994, 4278270365, 7948012969],
  [3383, 10225992, 47780953, 154231561, 410981498, 970311189, 2113782374, 4327066413, 8450458817, 15933452963],
  [3383, 12383507, 61630893, 215850201, 631074805, 1619485213, 3786814843, 8246969338, 16936713499, 33077972323],
  [3383, 24040952, 123763233, 438212490, 1271145235, 3234706122, 7511702915, 16270036625, 33558007435, 67335957997]]
def tbca : List (List Nat) := [[0, 0, 0, 0, 0, 0, 0, 0, 0, 0],
  [0, 0, 0, 0, 0, 0, 0, 0, 0, 0],
  [0, 0, 0, 0, 0, 0, 0, 0, 0, 0],
  [1, 2, 3, 4, 5, 6, 7, 8, 9, 10],
  [2, 4, 6, 8, 10, 12, 14, 16, 18, 20],
  [2, 6, 13, 22, 33, 46, 61, 78, 97, 118],
  [4, 10, 18, 32, 53, 81, 117, 162, 217, 283],
  [4, 12, 31, 60, 101, 156, 227, 316, 425, 556],
  [6, 18, 38, 84, 165, 293, 483, 752, 1119, 1605],
  [6, 20, 59, 128, 244, 442, 758, 1237, 1934, 2915],
  [8, 28, 69, 178, 389, 757, 1353, 2266, 3605, 5501],
  [8, 30, 99, 239, 545, 1145, 2229, 4066, 7023, 11586],
  [10, 40, 115, 328, 786, 1687, 3347, 6245, 11078, 18827],
  [10, 42, 153, 427, 1091, 2513, 5289, 10332, 18981, 33132],
  [12, 54, 177, 551, 1471, 3537, 7833, 16196, 31583, 58557],
  [12, 56, 223, 703, 1970, 4925, 11228, 23777, 47405, 89861],
  [14, 70, 257, 885, 2605, 6839, 16363, 36220, 75059, 147031],
  [14, 72, 311, 1088, 3337, 9124, 22745, 52563, 113965, 233925]]
def tbwa : List (List Nat) := [[0, 0, 0, 0, 0, 0, 0, 0, 0, 0],
  [0, 0, 0, 0, 0, 0, 0, 0, 0, 0],
  [0, 0, 0, 0, 0, 0, 0, 0, 0, 0],
  [3383, 6774, 10165, 13556, 16947, 20338, 23729, 27120, 30511, 33902],
  [6782, 13564, 20346, 27128, 33910, 40692, 47474, 54256, 61038, 67820],
  [10155, 47426, 111795, 196490, 301511, 426858, 572531, 738530, 924855, 1131506],
  [27108, 77843, 213225, 426454, 734455, 1154153, 1702473, 2396340, 3252679, 4288415],
  [33854, 189668, 538521, 1097356, 1913587, 3034628, 4507893, 6380796, 8700751, 11515172],
  [74522, 267375, 849485, 2037722, 4173863, 7640461, 12881007, 20399930, 30762597, 44595313],
  [88014, 596028, 1960781, 4551416, 8940202, 16160910, 27983458, 46252015, 73237124, 111679695],
  [176112, 781807, 2825901, 7582672, 17201223, 34481501, 63090189, 107675820, 173983891, 269815203],
  [203096, 1645738, 6159621, 16101607, 35389193, 71412939, 138107931, 253240482, 441258407, 734756636],
  [386054, 2074645, 8423451, 24800454, 61542916, 135100567, 272323691, 514607899, 922993080, 1584314659],
  [440022, 4205614, 17679063, 51594369, 125410219, 273843141, 560250703, 1084594876, 1997173567, 3515357760],
  [812700, 5174745, 23361553, 75120589, 203044581, 485418349, 1066626889, 2195567994, 4278270365, 7948012969],
  [920636, 10225992, 47780953, 154231561, 410981498, 970311189, 2113782374, 4327066413, 8450458817, 15933452963],
  [1672754, 12383507, 61630893, 215850201, 631074805, 1619485213, 3786814843, 8246969338, 16936713499, 33077972323],
  [1888626, 24040952, 123763233, 438212490, 1271145235, 3234706122, 7511702915, 16270036625, 33558007435, 67335957997]]
def tbcg : List (List Nat) := [[1, 2, 3, 4, 5, 6, 7, 8, 9, 10],
  [1, 2, 3, 4, 5, 6, 7, 8, 9, 10],
  [1, 2, 3, 4, 5, 6, 7, 8, 9, 10],
  [1, 3, 6, 10, 15, 21, 28, 36, 45, 55],
  [3, 8, 15, 24, 35, 48, 63, 80, 99, 120],
  [3, 9, 20, 42, 75, 121, 182, 260, 357, 475],
  [5, 16, 35, 64, 110, 191, 308, 470, 687, 970],
  [5, 17, 44, 104, 205, 361, 588, 904, 1329, 1885],
  [7, 26, 65, 135, 300, 593, 1076, 1828, 2947, 4552],
  [7, 27, 80, 208, 452, 894, 1652, 2889, 4823, 7738],
  [9, 38, 107, 269, 658, 1415, 2768, 5034, 8639, 14140],
  [9, 39, 130, 369, 914, 2059, 4288, 8354, 15377, 26963],
  [11, 52, 163, 475, 1261, 2948, 6295, 12540, 23618, 42445],
  [11, 53, 196, 623, 1714, 4227, 9516, 19848, 38829, 71961],
  [13, 68, 235, 772, 2243, 5780, 13613, 29809, 61392, 119949],
  [13, 69, 280, 983, 2953, 7878, 19106, 42883, 90288, 180149],
  [15, 86, 325, 1200, 3805, 10644, 27007, 63227, 138286, 285317],
  [15, 87, 384, 1472, 4809, 13933, 36678, 89241, 203206, 437131]]
def tbwg : List (List Nat) := [[3391, 6782, 10173, 13564, 16955, 20346, 23737, 27128, 30519, 33910],
  [3391, 6782, 10173, 13564, 16955, 20346, 23737, 27128, 30519, 33910],
  [3391, 6782, 10173, 13564, 16955, 20346, 23737, 27128, 30519, 33910],
  [6764, 20300, 40608, 67688, 101540, 142164, 189560, 243728, 304668, 372380],
  [23717, 67760, 132129, 216824, 321845, 447192, 592865, 758864, 945189, 1151840],
  [30463, 104923, 240305, 501096, 914180, 1496564, 2275336, 3277584, 4530396, 6060860],
  [71131, 257416, 606269, 1165104, 1981335, 3255284, 5353334, 8297396, 12283752, 17528990],
  [84623, 348615, 930725, 2180552, 4435620, 7997684, 13273064, 20722256, 30859932, 44676553],
  [172721, 765366, 2130119, 4720754, 9109540, 16977222, 31491252, 54433694, 88979630, 139001448],
  [199705, 978129, 3022223, 7814856, 17580022, 35235334, 65781590, 116215902, 195991880, 317527190],
  [382663, 2025018, 6538901, 16480887, 35768473, 71792219, 138487211, 253619762, 441637687, 735135916],
  [436631, 2507893, 8856699, 25233702, 62389776, 137673960, 283318140, 550305768, 1015308938, 1789237840],
  [809309, 5011540, 18484989, 52400295, 126216145, 274649067, 561056629, 1085400802, 2021722544, 3669691290],
  [917245, 6088607, 24275415, 76034451, 204687682, 487027276, 1067540751, 2196481856, 4279184227, 7948926831],
  [1669363, 11891972, 49446933, 155897541, 412647478, 971977169, 2115448354, 4328732393, 8540154800, 16686148986],
  [1885235, 14265359, 63512745, 217732053, 633207480, 1621367065, 3788696695, 8248851190, 16938595351, 33079854175],
  [3396233, 27433802, 127156083, 441605340, 1274538085, 3238098972, 7515095765, 16273429475, 33561400285, 67339350847],
  [3827977, 32615701, 160621751, 599453423, 1875906682, 5145340699, 12787406007, 29430180505, 63612729793, 131245516298]]
def tbwt : List (List Nat) := [[0, 0, 0, 0, 0, 0, 0, 0, 0, 0],
  [3391, 6782, 10173, 13564, 16955, 20346, 23737, 27128, 30519, 33910],
  [6782, 20300, 40608, 67688, 101540, 142164, 189560, 243728, 304668, 372380],
  [23717, 67760, 132129, 216824, 321845, 447192, 592865, 758864, 945189, 1151840],
  [30463, 104923, 240305, 501096, 914180, 1496564, 2275336, 3277584, 4530396, 6060860],
  [71131, 257416, 606269, 1165104, 1981335, 3255284, 5353334, 8297396, 12283752, 17528990],
  [84623, 348615, 930725, 2180552, 4435620, 7997684, 13273064, 20722256, 30859932, 44676553],
  [172721, 765366, 2130119, 4720754, 9109540, 16977222, 31491252, 54433694, 88979630, 139001448],
  [199705, 978129, 3022223, 7814856, 17580022, 35235334, 65781590, 116215902, 195991880, 317527190],
  [382663, 2025018, 6538901, 16480887, 35768473, 71792219, 138487211, 253619762, 441637687, 735135916],
  [436631, 2507893, 8856699, 25233702, 62389776, 137673960, 283318140, 550305768, 1015308938, 1789237840],
  [809309, 5011540, 18484989, 52400295, 126216145, 274649067, 561056629, 1085400802, 2021722544, 3669691290],
  [917245, 6088607, 24275415, 76034451, 204687682, 487027276, 1067540751, 2196481856, 4279184227, 7948926831],
  [1669363, 11891972, 49446933, 155897541, 412647478, 971977169, 2115448354, 4328732393, 8540154800, 16686148986],
  [1885235, 14265359, 63512745, 217732053, 633207480, 1621367065, 3788696695, 8248851190, 16938595351, 33079854175],
  [3396233, 27433802, 127156083, 441605340, 1274538085, 3238098972, 7515095765, 16273429475, 33561400285, 67339350847],
  [3827977, 32615701, 160621751, 599453423, 1875906682, 5145340699, 12787406007, 29430180505, 63612729793, 131245516298]]
def altOk9 (c d : Nat) : Prop := ∀ n, n ≤ 9 → tb tbca c n + tb tbca d n ≤ tb tbcf (c + d) n ∧ tb tbwa c n + tb tbwa d n ≤ tb tbwf (c + d) n
instance (c d : Nat) : Decidable (altOk9 c d) := by unfold altOk9; exact inferInstance
def seqOk9 (c d : Nat) : Prop := ∀ n, n ≤ 9 → tb tbcg c n + tb tbcg d n ≤ tb tbcf (c + d) n ∧ tb tbwg c n + tb tbwg d n ≤ tb tbwf (c + d) n
instance (c d : Nat) : Decidable (seqOk9 c d) := by unfold seqOk9; exact inferInstance
end Go.Wb

namespace Go.Wb
set_option linter.unusedVariables false
set_option linter.unusedSimpArgs false
open Go.Am
inductive Star (P : List Int → Prop) : List Int → Prop
  | nil : Star P []
  | cons {u v : List Int} : P u → Star P v → Star P (u ++ v)
mutual
def sem : Rx → List Int → Prop
  | .mk k s l => fun w => if k = 1 then w = [] else if k = 2 then ∃ a, w = [a] ∧ a ∈ s else if k = 3 then semQ l w else if k = 4 then semA l w else if k = 5 then semK l w else False
def semQ : List Rx → List Int → Prop
  | [] => fun w => w = []
  | x :: l => fun w => ∃ u v, w = u ++ v ∧ sem x u ∧ semQ l v
def semA : List Rx → List Int → Prop
  | [] => fun _ => False
  | x :: l => fun w => sem x w ∨ semA l w
def semK : List Rx → List Int → Prop
  | [] => fun w => w = []
  | x :: _ => fun w => Star (sem x) w
end
theorem Star.mono {P Q : List Int → Prop} (h : ∀ w, P w → Star Q w) {w : List Int} (hw : Star P w) : Star Q w := by
  have app : ∀ {u v : List Int}, Star Q u → Star Q v → Star Q (u ++ v) := fun {u v} hu hv => by
    induction hu with
    | nil => exact hv
    | cons h1 _ ih => rw [List.append_assoc]; exact .cons h1 ih
  induction hw with
  | nil => exact .nil
  | cons h1 _ ih => exact app (h _ h1) ih
theorem Star.one {P : List Int → Prop} {w : List Int} (h : P w) : Star P w := by
  have := Star.cons h .nil
  rwa [List.append_nil] at this
theorem Star.congr {P Q : List Int → Prop} (h : ∀ w, P w ↔ Q w) (w : List Int) : Star P w ↔ Star Q w :=
  ⟨Star.mono fun w hw => .one ((h w).1 hw), Star.mono fun w hw => .one ((h w).2 hw)⟩
theorem Star.none {P : List Int → Prop} (h : ∀ w, P w → w = []) {w : List Int} (hw : Star P w) : w = [] := by
  induction hw with
  | nil => rfl
  | cons h1 _ ih => rw [h _ h1, ih]; rfl
theorem Star.head {P : List Int → Prop} {a : Int} {w : List Int} : Star P (a :: w) ↔ ∃ u v, w = u ++ v ∧ P (a :: u) ∧ Star P v := by
  constructor
  · intro h
    have : ∀ z, Star P z → z = a :: w → ∃ u v, w = u ++ v ∧ P (a :: u) ∧ Star P v := by
      intro z hz
      induction hz with
      | nil => intro e; cases e
      | @cons u v h1 h2 ih =>
        intro e
        match u, e with
        | [], e => exact ih e
        | b :: u, e =>
          obtain ⟨rfl, e2⟩ := List.cons.inj e
          exact ⟨u, v, e2.symm, h1, h2⟩
    exact this _ h rfl
  · rintro ⟨u, v, rfl, h1, h2⟩
    exact .cons (u := a :: u) h1 h2
end Go.Wb

namespace Go.Wb
set_option linter.unusedVariables false
open Go.Am Go.Wc
structure Sm (x : Rx) : Prop where
  valid : validR x = true
  size : x.size ≤ 49
  top : Top 16 (simR x)
  ssize : (simR x).size ≤ 49
def lgR (x : Rx) (u : List Int) (k : Nat) : Rx := if k = 0 then x else Dv (simR x) (u.take k)
end Go.Wb

namespace Go.Wb
open Go.RowKit Go.ChangeShapes Go.WideShapes Go.Deep Go.Am Go.Wc
set_option linter.unusedVariables false
section
variable {H : Type} {enc : TypeId × Value → H} {P : Program} {w : World} {base : Nat} {spare : Nat → Bool} {held : Bool}
theorem rep_sliceK {α : Type} {ad : α → AV} {ca : α → List AV} {ok : α → Prop} {K : Nat} {t e : TypeId} (hK : 0 < K) (ht : P.underlying t = some (.slice e)) (hc : P.cellsOf e = K) (hcells : ∀ a, AV.cells (ad a) = ca a) (hlen : ∀ a, (ca a).length = K)
    (hleaf : ∀ a (j : Nat) d, (ca a)[j]? = some d → AV.leaf d = true)
    (hel : ∀ (n : Nat) (cs : List Value) x, DataW.trod enc P w base spare held n e cs = some x → ∃ a, ok a ∧ cs.length = K ∧ ∀ (j : Nat) d, (ca a)[j]? = some d → Rep w (fun _ => False) (cs.getD j undef) d) {n : Nat} {v : Value} {x : DataW H × List MemPlace}
    (h : DataW.trod enc P w base spare held n t [v] = some x) : ∃ l : List α, (∀ a ∈ l, ok a) ∧ l.length ≤ 9223372036854775807 ∧ Rep w (fun _ => False) v (.sl (l.map ad)) := by
  rcases open_slice ht h with ⟨h3, hx⟩ | ⟨a, len, cap, m', n2, D, Pl, h3, hba, hl, hmx, hmm, hx, hall⟩
  · simp only [List.cons.injEq, and_true] at h3
    subst h3
    exact ⟨[], fun a ha => (by cases ha), (by simp), .sl none 0 0 [] 1 (fun _ => undef) rfl (Nat.le_refl _) (fun x hx => by cases hx) (fun h => absurd h (by omega)) (fun j d hd => by simp [flat] at hd) (fun j d hd => by simp [flat] at hd)⟩
  · simp only [List.cons.injEq, and_true] at h3
    subst h3
    have hlm : len ≤ m' := by rw [hmm]; split <;> omega
    rw [hc] at hall
    obtain ⟨l, hll, hlp⟩ := choose_list (p := fun i r => ok r ∧ ∃ cs', w.cells? base (a.add (i * K)) K = some cs' ∧ cs'.length = K ∧ ∀ (j : Nat) d, (ca r)[j]? = some d → Rep w (fun _ => False) (cs'.getD j undef) d) len fun i hi => by
      obtain ⟨cs', hc1, hc2⟩ := hall i (by omega)
      obtain ⟨r, hr1, hr2, hr3⟩ := hel n2 cs' (D i, Pl i) hc2
      exact ⟨r, hr1, cs', hc1, hr2, hr3⟩
    have hk3 : ∀ z ∈ l.map ad, (AV.cells z).length = K := fun z hz => by
      obtain ⟨r, _, rfl⟩ := List.mem_map.1 hz
      rw [hcells]; exact hlen r
    have hlen2 : (l.map ad).length = len := by rw [List.length_map, hll]
    have hget : ∀ (j : Nat) d, (flat (l.map ad))[j]? = some d → ∃ i o r, j = i * K + o ∧ o < K ∧ i < len ∧ l[i]? = some r ∧ (ca r)[o]? = some d := fun j d hd => by
      have hj := (List.getElem?_eq_some_iff.1 hd).1
      rw [flat_length _ hk3, hlen2] at hj
      have hi : j / K < len := Nat.div_lt_of_lt_mul (by rw [Nat.mul_comm]; exact hj)
      have hr : l[j / K]? = some l[j / K] := List.getElem?_eq_getElem (by omega)
      have hm : j % K < K := Nat.mod_lt _ hK
      have hdm : j / K * K + j % K = j := by rw [Nat.mul_comm]; exact Nat.div_add_mod j K
      have h6 := flat_get (l.map ad) (j / K) (ad l[j / K]) hk3 (by rw [List.getElem?_map, hr]; rfl) (j % K) hm
      rw [hdm, hd, hcells] at h6
      exact ⟨j / K, j % K, _, hdm.symm, hm, hi, hr, h6.symm⟩
    obtain ⟨b, o, sp⟩ := a
    have hplace : ∀ i, i < len → ∃ cs' : List Value, (∀ j, j < K → w.cell? ((⟨b, o, sp⟩ : Addr).add (i * K + j)) = cs'[j]?) ∧ cs'.length = K := fun i hi => by
      obtain ⟨_, cs', hc1, hc2, _⟩ := hlp i _ (List.getElem?_eq_getElem (show i < l.length by omega))
      obtain ⟨_, _, h7⟩ := World.cells?_some hc1
      exact ⟨cs', fun j hj => by rw [← h7 j hj, add_add], hc2⟩
    have hsp : 0 < len → sp = none ∧ b < w.heap.size := fun h0 => by
      obtain ⟨cs', h7, h8⟩ := hplace 0 h0
      have h9 := h7 0 hK
      rw [List.getElem?_eq_getElem (by omega)] at h9
      have h10 : w.cell? ⟨b, o, sp⟩ = some cs'[0] := by simpa [Addr.add] using h9
      have h11 : sp = none := World.cell?_spot h10
      subst h11
      exact ⟨rfl, World.block_lt_of_cell? w ⟨b, o, none⟩ h10⟩
    refine ⟨l, fun a ha => ?_, by rw [hll]; unfold maxLen at hmx; omega, ?_⟩
    · obtain ⟨i, hi, rfl⟩ := List.getElem_of_mem ha
      exact (hlp i _ (List.getElem?_eq_getElem hi)).1
    · refine .sl _ len cap (l.map ad) K (fun j => (w.cell? ⟨b, o + j, none⟩).getD undef) hlen2 hl hk3 (fun h0 => ?_) (fun j d hd => ?_) (fun j d hd => ?_)
      · obtain ⟨h12, h13⟩ := hsp h0
        subst h12
        refine ⟨b, o, rfl, fun hf => hf, h13, fun j hj => ?_⟩
        have hjd : j / K < len := Nat.div_lt_of_lt_mul (by rw [Nat.mul_comm]; exact hj)
        have hdm : j / K * K + j % K = j := by rw [Nat.mul_comm]; exact Nat.div_add_mod j K
        have hm : j % K < K := Nat.mod_lt _ hK
        obtain ⟨cs', h7, h8⟩ := hplace (j / K) hjd
        have h9 := h7 (j % K) hm
        rw [hdm, List.getElem?_eq_getElem (by omega), Addr.add_lit] at h9
        rw [h9]; rfl
      · obtain ⟨i, o', r, _, _, _, _, h7⟩ := hget j d hd
        exact hleaf r o' d h7
      · obtain ⟨i, o', r, rfl, ho, hi, hr, h7⟩ := hget j d hd
        obtain ⟨h12, h13⟩ := hsp (by omega)
        subst h12
        obtain ⟨_, cs', hc1, hc2, hc3⟩ := hlp i r hr
        obtain ⟨_, _, h8⟩ := World.cells?_some hc1
        have h9 := h8 o' ho
        rw [add_add, Addr.add_lit] at h9
        have h10 := hc3 o' d h7
        rw [List.getD_eq_getElem?_getD, ← h9] at h10
        exact h10
def letC (x : Letter) : List AV := [sbytes x.text, int x.base, int x.mark, int x.cap, int x.width]
def setC (x : SetT) : List AV := [sbytes x.name, ints x.syms]
theorem open_letsA {t e B I : TypeId} {f0 f1 f2 f3 f4 : Field} {r : Reach} {b0 : Nat} {v : Value} {d : DataW H} {ps : List MemPlace} (ht : P.underlying t = some (.slice e)) (he : P.underlying e = some (.struct #[f0, f1, f2, f3, f4])) (e0 : f0.type = B ∧ f0.offset = 0) (e1 : f1.type = I ∧ f1.offset = 1) (e2 : f2.type = I ∧ f2.offset = 2) (e3 : f3.type = I ∧ f3.offset = 3) (e4 : f4.type = I ∧ f4.offset = 4)
    (hB : P.underlying B = some .string) (hI : P.underlying I = some (.int .i64)) (cB : szOf P B = some 1) (cI : szOf P I = some 1) (ce : szOf P e = some 5) (hval : Value.okWide P w r b0 t v) (hd : DataW.Trod enc P w base spare held t v d ps) :
    ∃ l : List Letter, (∀ a ∈ l, a.text.length ≤ 9223372036854775807) ∧ l.length ≤ 9223372036854775807 ∧ Rep w (fun _ => False) v (letters l) := by
  obtain ⟨n, hn⟩ := hd
  rw [one_slice ht hval] at hn
  refine rep_sliceK (ad := letter) (ca := letC) (ok := fun a : Letter => a.text.length ≤ 9223372036854775807) (K := 5) (by decide) ht (cellsOf_of ce) (fun a => rfl) (fun a => rfl) (fun a j d hj => ?_) (fun n cs x h => ?_) hn
  · match j, hj with
    | 0, hj => cases hj; rfl
    | 1, hj => cases hj; rfl
    | 2, hj => cases hj; rfl
    | 3, hj => cases hj; rfl
    | 4, hj => cases hj; rfl
    | j + 5, hj => cases hj
  · obtain ⟨xs, n', _, rfl, hl, hlen, hf⟩ := DataW.trod_struct he h
    rw [cellsOf_of ce] at hl
    match cs, hl with
    | [c0, c1, c2, c3, c4], _ =>
      match xs, hlen with
      | [y0, y1, y2, y3, y4], _ =>
        have h0 := hf 0 f0 rfl
        have h1 := hf 1 f1 rfl
        have h2 := hf 2 f2 rfl
        have h3 := hf 3 f3 rfl
        have h4 := hf 4 f4 rfl
        rw [e0.1, e0.2, cellsOf_of cB] at h0
        rw [e1.1, e1.2, cellsOf_of cI] at h1
        rw [e2.1, e2.2, cellsOf_of cI] at h2
        rw [e3.1, e3.2, cellsOf_of cI] at h3
        rw [e4.1, e4.2, cellsOf_of cI] at h4
        have h0 : DataW.trod enc P w base spare held n' B [c0] = some y0 := h0
        have h1 : DataW.trod enc P w base spare held n' I [c1] = some y1 := h1
        have h2 : DataW.trod enc P w base spare held n' I [c2] = some y2 := h2
        have h3 : DataW.trod enc P w base spare held n' I [c3] = some y3 := h3
        have h4 : DataW.trod enc P w base spare held n' I [c4] = some y4 := h4
        obtain ⟨z0, k0, r0⟩ := trod_str hB _ _ _ h0
        obtain ⟨z1, k1, r1⟩ := trod_i64 hI _ _ _ h1
        obtain ⟨z2, k2, r2⟩ := trod_i64 hI _ _ _ h2
        obtain ⟨z3, k3, r3⟩ := trod_i64 hI _ _ _ h3
        obtain ⟨z4, k4, r4⟩ := trod_i64 hI _ _ _ h4
        refine ⟨⟨z0, z1, z2, z3, z4⟩, k0, rfl, fun j d hj => ?_⟩
        match j, hj with
        | 0, hj => cases hj; exact r0
        | 1, hj => cases hj; exact r1
        | 2, hj => cases hj; exact r2
        | 3, hj => cases hj; exact r3
        | 4, hj => cases hj; exact r4
        | j + 5, hj => cases hj
theorem open_setsA {t e B S I : TypeId} {f0 f1 : Field} {r : Reach} {b0 : Nat} {v : Value} {d : DataW H} {ps : List MemPlace} (ht : P.underlying t = some (.slice e)) (he : P.underlying e = some (.struct #[f0, f1])) (e0 : f0.type = B ∧ f0.offset = 0) (e1 : f1.type = S ∧ f1.offset = 1)
    (hB : P.underlying B = some .string) (hS : P.underlying S = some (.slice I)) (hI : P.underlying I = some (.int .i64)) (cB : szOf P B = some 1) (cS : szOf P S = some 1) (cI : szOf P I = some 1) (ce : szOf P e = some 2) (hval : Value.okWide P w r b0 t v) (hd : DataW.Trod enc P w base spare held t v d ps) :
    ∃ l : List SetT, (∀ a ∈ l, a.syms.length ≤ 9223372036854775807) ∧ l.length ≤ 9223372036854775807 ∧ Rep w (fun _ => False) v (setsA l) := by
  obtain ⟨n, hn⟩ := hd
  rw [one_slice ht hval] at hn
  refine rep_sliceK (ad := setA) (ca := setC) (ok := fun a : SetT => a.syms.length ≤ 9223372036854775807) (K := 2) (by decide) ht (cellsOf_of ce) (fun a => rfl) (fun a => rfl) (fun a j d hj => ?_) (fun n cs x h => ?_) hn
  · match j, hj with
    | 0, hj => cases hj; rfl
    | 1, hj => cases hj; rfl
    | j + 2, hj => cases hj
  · obtain ⟨xs, n', _, rfl, hl, hlen, hf⟩ := DataW.trod_struct he h
    rw [cellsOf_of ce] at hl
    match cs, hl with
    | [c0, c1], _ =>
      match xs, hlen with
      | [y0, y1], _ =>
        have h0 := hf 0 f0 rfl
        have h1 := hf 1 f1 rfl
        rw [e0.1, e0.2, cellsOf_of cB] at h0
        rw [e1.1, e1.2, cellsOf_of cS] at h1
        have h0 : DataW.trod enc P w base spare held n' B [c0] = some y0 := h0
        have h1 : DataW.trod enc P w base spare held n' S [c1] = some y1 := h1
        obtain ⟨z0, k0, r0⟩ := trod_str hB _ _ _ h0
        obtain ⟨z1, k1, k2, r1⟩ := rep_slice (ad := int) (ok := fun z : Int => -9223372036854775808 ≤ z ∧ z ≤ 9223372036854775807) hS (cellsOf_of cI) (fun a => ⟨rfl, rfl⟩) (trod_i64 hI) h1
        refine ⟨⟨z0, z1⟩, k2, rfl, fun j d hj => ?_⟩
        match j, hj with
        | 0, hj => cases hj; exact r0
        | 1, hj => cases hj; exact r1
        | j + 2, hj => cases hj
end
end Go.Wb

