/-
  Plain functions: what RegexLanguage goes through, and that its answers agree.
-/
import Derived.Test.YtgdehkimfmfofaaGreatJ25
import Derived.Test.YtgdehkimfmfofaaGreatJ23
set_option linter.unusedVariables false
set_option linter.unusedSimpArgs false
namespace Go.Wb
set_option linter.unusedVariables false
set_option maxRecDepth 10000
open Go.Am
def tb (T : List (List Nat)) (c n : Nat) : Nat := (T.getD c []).getD n 0
def tbcf : List (List Nat) := [[0, 0, 0, 0, 0, 0, 0, 0, 0, 0],
  [0, 0, 0, 0, 0, 0, 0, 0, 0, 0],
  [0, 0, 0, 0, 0, 0, 0, 0, 0, 0],
  [0, 0, 0, 0, 0, 0, 0, 0, 0, 0],
  [2, 4, 6, 8, 10, 12, 14, 16, 18, 20],
  [2, 5, 9, 14, 20, 27, 35, 44, 54, 65],
  [4, 10, 18, 28, 40, 54, 70, 88, 108, 130],
  [4, 11, 23, 46, 80, 127, 189, 268, 366, 485],
  [6, 18, 38, 68, 115, 197, 315, 478, 696, 980],
  [6, 19, 47, 108, 210, 367, 595, 912, 1338, 1895],
  [8, 28, 68, 139, 305, 599, 1083, 1836, 2956, 4562],
  [8, 29, 83, 212, 457, 900, 1659, 2897, 4832, 7748],
  [10, 40, 110, 273, 663, 1421, 2775, 5042, 8648, 14150],
  [10, 41, 133, 373, 919, 2065, 4295, 8362, 15386, 26973],
  [12, 54, 166, 479, 1266, 2954, 6302, 12548, 23627, 42455],
  [12, 55, 199, 627, 1719, 4233, 9523, 19856, 38838, 71971],
  [14, 70, 238, 776, 2248, 5786, 13620, 29817, 61401, 119959],
  [14, 71, 283, 987, 2958, 7884, 19113, 42891, 90297, 180159]]
def tbwf : List (List Nat) := [[0, 0, 0, 0, 0, 0, 0, 0, 0, 0],
  [0, 0, 0, 0, 0, 0, 0, 0, 0, 0],
  [0, 0, 0, 0, 0, 0, 0, 0, 0, 0],
  [0, 0, 0, 0, 0, 0, 0, 0, 0, 0],
  [6782, 13564, 20346, 27128, 33910, 40692, 47474, 54256, 61038, 67820],
  [10155, 27082, 50781, 81252, 118495, 162510, 213297, 270856, 335187, 406290],
  [27108, 74542, 142302, 230388, 338800, 467538, 616602, 785992, 975708, 1185750],
  [33854, 111705, 250478, 514660, 931135, 1516910, 2299073, 3304712, 4560915, 6094770],
  [74522, 264198, 616442, 1178668, 1998290, 3275630, 5377071, 8324524, 12314271, 17562900],
  [88014, 355397, 940898, 2194116, 4452575, 8018030, 13296801, 20749384, 30890451, 44710463],
  [176112, 772148, 2140292, 4734318, 9126495, 16997568, 31514989, 54460822, 89010149, 139035358],
  [203096, 984911, 3032396, 7828420, 17596977, 35255680, 65805327, 116243030, 196022399, 317561100],
  [386054, 2031800, 6549074, 16494451, 35785428, 71812565, 138510948, 253646890, 441668206, 735169826],
  [440022, 2514675, 8866872, 25247266, 62406731, 137694306, 283341877, 550332896, 1015339457, 1789271750],
  [812700, 5018322, 18495162, 52413859, 126233100, 274669413, 561080366, 1085427930, 2021753063, 3669725200],
  [920636, 6095389, 24285588, 76048015, 204704637, 487047622, 1067564488, 2196508984, 4279214746, 7948960741],
  [1672754, 11898754, 49457106, 155911105, 412664433, 971997515, 2115472091, 4328759521, 8540185319, 16686182896],
  [1888626, 14272141, 63522918, 217745617, 633224435, 1621387411, 3788720432, 8248878318, 16938625870, 33079888085]]
def tbcs : List (List Nat) := [[0, 0, 0, 0, 0, 0, 0, 0, 0, 0],
  [0, 0, 0, 0, 0, 0, 0, 0, 0, 0],
  [0, 0, 0, 0, 0, 0, 0, 0, 0, 0],
  [1, 2, 3, 4, 5, 6, 7, 8, 9, 10],
  [1, 2, 3, 4, 5, 6, 7, 8, 9, 10],
  [1, 6, 13, 22, 33, 46, 61, 78, 97, 118],
  [1, 7, 17, 32, 53, 81, 117, 162, 217, 283],
  [1, 12, 31, 60, 101, 156, 227, 316, 425, 556],
  [1, 13, 37, 84, 165, 293, 483, 752, 1119, 1605],
  [1, 20, 59, 128, 244, 442, 758, 1237, 1934, 2915],
  [1, 21, 69, 178, 389, 757, 1353, 2266, 3605, 5501],
  [1, 30, 99, 239, 545, 1145, 2229, 4066, 7023, 11586],
  [1, 31, 115, 328, 786, 1687, 3347, 6245, 11078, 18827],
  [1, 42, 153, 427, 1091, 2513, 5289, 10332, 18981, 33132],
  [1, 43, 177, 551, 1471, 3537, 7833, 16196, 31583, 58557],
  [1, 56, 223, 703, 1970, 4925, 11228, 23777, 47405, 89861],
  [1, 57, 257, 885, 2605, 6839, 16363, 36220, 75059, 147031],
  [1, 72, 311, 1088, 3337, 9124, 22745, 52563, 113965, 233925]]
def tbws : List (List Nat) := [[0, 0, 0, 0, 0, 0, 0, 0, 0, 0],
  [0, 0, 0, 0, 0, 0, 0, 0, 0, 0],
  [0, 0, 0, 0, 0, 0, 0, 0, 0, 0],
  [3383, 6774, 10165, 13556, 16947, 20338, 23729, 27120, 30511, 33902],
  [3383, 6774, 10165, 13556, 16947, 20338, 23729, 27120, 30511, 33902],
  [3383, 47426, 111795, 196490, 301511, 426858, 572531, 738530, 924855, 1131506],
  [3383, 77843, 213225, 426454, 734455, 1154153, 1702473, 2396340, 3252679, 4288415],
  [3383, 189668, 538521, 1097356, 1913587, 3034628, 4507893, 6380796, 8700751, 11515172],
  [3383, 267375, 849485, 2037722, 4173863, 7640461, 12881007, 20399930, 30762597, 44595313],
  [3383, 596028, 1960781, 4551416, 8940202, 16160910, 27983458, 46252015, 73237124, 111679695],
  [3383, 781807, 2825901, 7582672, 17201223, 34481501, 63090189, 107675820, 173983891, 269815203],
  [3383, 1645738, 6159621, 16101607, 35389193, 71412939, 138107931, 253240482, 441258407, 734756636],
  [3383, 2074645, 8423451, 24800454, 61542916, 135100567, 272323691, 514607899, 922993080, 1584314659],
  [3383, 4205614, 17679063, 51594369, 125410219, 273843141, 560250703, 1084594876, 1997173567, 3515357760],
  [3383, 5174745, 23361553, 75120589, 203044581, 485418349, 1066626889, 2195567994, 4278270365, 7948012969],
  [3383, 10225992, 47780953, 154231561, 410981498, 970311189, 2113782374, 4327066413, 8450458817, 15933452963],
  [3383, 12383507, 61630893, 215850201, 631074805, 1619485213, 3786814843, 8246969338, 16936713499, 33077972323],
  [3383, 24040952, 123763233, 438212490, 1271145235, 3234706122, 7511702915, 16270036625, 33558007435, 67335957997]]
def tbca : List (List Nat) := [[0, 0, 0, 0, 0, 0, 0, 0, 0, 0],
  [0, 0, 0, 0, 0, 0, 0, 0, 0, 0],
  [0, 0, 0, 0, 0, 0, 0, 0, 0, 0],
  [1, 2, 3, 4, 5, 6, 7, 8, 9, 10],
  [2, 4, 6, 8, 10, 12, 14, 16, 18, 20],
  [2, 6, 13, 22, 33, 46, 61, 78, 97, 118],
  [4, 10, 18, 32, 53, 81, 117, 162, 217, 283],
  [4, 12, 31, 60, 101, 156, 227, 316, 425, 556],
  [6, 18, 38, 84, 165, 293, 483, 752, 1119, 1605],
  [6, 20, 59, 128, 244, 442, 758, 1237, 1934, 2915],
  [8, 28, 69, 178, 389, 757, 1353, 2266, 3605, 5501],
  [8, 30, 99, 239, 545, 1145, 2229, 4066, 7023, 11586],
  [10, 40, 115, 328, 786, 1687, 3347, 6245, 11078, 18827],
  [10, 42, 153, 427, 1091, 2513, 5289, 10332, 18981, 33132],
  [12, 54, 177, 551, 1471, 3537, 7833, 16196, 31583, 58557],
  [12, 56, 223, 703, 1970, 4925, 11228, 23777, 47405, 89861],
  [14, 70, 257, 885, 2605, 6839, 16363, 36220, 75059, 147031],
  [14, 72, 311, 1088, 3337, 9124, 22745, 52563, 113965, 233925]]
def tbwa : List (List Nat) := [[0, 0, 0, 0, 0, 0, 0, 0, 0, 0],
  [0, 0, 0, 0, 0, 0, 0, 0, 0, 0],
  [0, 0, 0, 0, 0, 0, 0, 0, 0, 0],
  [3383, 6774, 10165, 13556, 16947, 20338, 23729, 27120, 30511, 33902],
  [6782, 13564, 20346, 27128, 33910, 40692, 47474, 54256, 61038, 67820],
  [10155, 47426, 111795, 196490, 301511, 426858, 572531, 738530, 924855, 1131506],
  [27108, 77843, 213225, 426454, 734455, 1154153, 1702473, 2396340, 3252679, 4288415],
  [33854, 189668, 538521, 1097356, 1913587, 3034628, 4507893, 6380796, 8700751, 11515172],
  [74522, 267375, 849485, 2037722, 4173863, 7640461, 12881007, 20399930, 30762597, 44595313],
  [88014, 596028, 1960781, 4551416, 8940202, 16160910, 27983458, 46252015, 73237124, 111679695],
  [176112, 781807, 2825901, 7582672, 17201223, 34481501, 63090189, 107675820, 173983891, 269815203],
  [203096, 1645738, 6159621, 16101607, 35389193, 71412939, 138107931, 253240482, 441258407, 734756636],
  [386054, 2074645, 8423451, 24800454, 61542916, 135100567, 272323691, 514607899, 922993080, 1584314659],
  [440022, 4205614, 17679063, 51594369, 125410219, 273843141, 560250703, 1084594876, 1997173567, 3515357760],
  [812700, 5174745, 23361553, 75120589, 203044581, 485418349, 1066626889, 2195567994, 4278270365, 7948012969],
  [920636, 10225992, 47780953, 154231561, 410981498, 970311189, 2113782374, 4327066413, 8450458817, 15933452963],
  [1672754, 12383507, 61630893, 215850201, 631074805, 1619485213, 3786814843, 8246969338, 16936713499, 33077972323],
  [1888626, 24040952, 123763233, 438212490, 1271145235, 3234706122, 7511702915, 16270036625, 33558007435, 67335957997]]
def tbcg : List (List Nat) := [[1, 2, 3, 4, 5, 6, 7, 8, 9, 10],
  [1, 2, 3, 4, 5, 6, 7, 8, 9, 10],
  [1, 2, 3, 4, 5, 6, 7, 8, 9, 10],
  [1, 3, 6, 10, 15, 21, 28, 36, 45, 55],
  [3, 8, 15, 24, 35, 48, 63, 80, 99, 120],
  [3, 9, 20, 42, 75, 121, 182, 260, 357, 475],
  [5, 16, 35, 64, 110, 191, 308, 470, 687, 970],
  [5, 17, 44, 104, 205, 361, 588, 904, 1329, 1885],
  [7, 26, 65, 135, 300, 593, 1076, 1828, 2947, 4552],
  [7, 27, 80, 208, 452, 894, 1652, 2889, 4823, 7738],
  [9, 38, 107, 269, 658, 1415, 2768, 5034, 8639, 14140],
  [9, 39, 130, 369, 914, 2059, 4288, 8354, 15377, 26963],
  [11, 52, 163, 475, 1261, 2948, 6295, 12540, 23618, 42445],
  [11, 53, 196, 623, 1714, 4227, 9516, 19848, 38829, 71961],
  [13, 68, 235, 772, 2243, 5780, 13613, 29809, 61392, 119949],
  [13, 69, 280, 983, 2953, 7878, 19106, 42883, 90288, 180149],
  [15, 86, 325, 1200, 3805, 10644, 27007, 63227, 138286, 285317],
  [15, 87, 384, 1472, 4809, 13933, 36678, 89241, 203206, 437131]]
def tbwg : List (List Nat) := [[3391, 6782, 10173, 13564, 16955, 20346, 23737, 27128, 30519, 33910],
  [3391, 6782, 10173, 13564, 16955, 20346, 23737, 27128, 30519, 33910],
  [3391, 6782, 10173, 13564, 16955, 20346, 23737, 27128, 30519, 33910],
  [6764, 20300, 40608, 67688, 101540, 142164, 189560, 243728, 304668, 372380],
  [23717, 67760, 132129, 216824, 321845, 447192, 592865, 758864, 945189, 1151840],
  [30463, 104923, 240305, 501096, 914180, 1496564, 2275336, 3277584, 4530396, 6060860],
  [71131, 257416, 606269, 1165104, 1981335, 3255284, 5353334, 8297396, 12283752, 17528990],
  [84623, 348615, 930725, 2180552, 4435620, 7997684, 13273064, 20722256, 30859932, 44676553],
  [172721, 765366, 2130119, 4720754, 9109540, 16977222, 31491252, 54433694, 88979630, 139001448],
  [199705, 978129, 3022223, 7814856, 17580022, 35235334, 65781590, 116215902, 195991880, 317527190],
  [382663, 2025018, 6538901, 16480887, 35768473, 71792219, 138487211, 253619762, 441637687, 735135916],
  [436631, 2507893, 8856699, 25233702, 62389776, 137673960, 283318140, 550305768, 1015308938, 1789237840],
  [809309, 5011540, 18484989, 52400295, 126216145, 274649067, 561056629, 1085400802, 2021722544, 3669691290],
  [917245, 6088607, 24275415, 76034451, 204687682, 487027276, 1067540751, 2196481856, 4279184227, 7948926831],
  [1669363, 11891972, 49446933, 155897541, 412647478, 971977169, 2115448354, 4328732393, 8540154800, 16686148986],
  [1885235, 14265359, 63512745, 217732053, 633207480, 1621367065, 3788696695, 8248851190, 16938595351, 33079854175],
  [3396233, 27433802, 127156083, 441605340, 1274538085, 3238098972, 7515095765, 16273429475, 33561400285, 67339350847],
  [3827977, 32615701, 160621751, 599453423, 1875906682, 5145340699, 12787406007, 29430180505, 63612729793, 131245516298]]
def tbwt : List (List Nat) := [[0, 0, 0, 0, 0, 0, 0, 0, 0, 0],
  [3391, 6782, 10173, 13564, 16955, 20346, 23737, 27128, 30519, 33910],
  [6782, 20300, 40608, 67688, 101540, 142164, 189560, 243728, 304668, 372380],
  [23717, 67760, 132129, 216824, 321845, 447192, 592865, 758864, 945189, 1151840],
  [30463, 104923, 240305, 501096, 914180, 1496564, 2275336, 3277584, 4530396, 6060860],
  [71131, 257416, 606269, 1165104, 1981335, 3255284, 5353334, 8297396, 12283752, 17528990],
  [84623, 348615, 930725, 2180552, 4435620, 7997684, 13273064, 20722256, 30859932, 44676553],
  [172721, 765366, 2130119, 4720754, 9109540, 16977222, 31491252, 54433694, 88979630, 139001448],
  [199705, 978129, 3022223, 7814856, 17580022, 35235334, 65781590, 116215902, 195991880, 317527190],
  [382663, 2025018, 6538901, 16480887, 35768473, 71792219, 138487211, 253619762, 441637687, 735135916],
  [436631, 2507893, 8856699, 25233702, 62389776, 137673960, 283318140, 550305768, 1015308938, 1789237840],
  [809309, 5011540, 18484989, 52400295, 126216145, 274649067, 561056629, 1085400802, 2021722544, 3669691290],
  [917245, 6088607, 24275415, 76034451, 204687682, 487027276, 1067540751, 2196481856, 4279184227, 7948926831],
  [1669363, 11891972, 49446933, 155897541, 412647478, 971977169, 2115448354, 4328732393, 8540154800, 16686148986],
  [1885235, 14265359, 63512745, 217732053, 633207480, 1621367065, 3788696695, 8248851190, 16938595351, 33079854175],
  [3396233, 27433802, 127156083, 441605340, 1274538085, 3238098972, 7515095765, 16273429475, 33561400285, 67339350847],
  [3827977, 32615701, 160621751, 599453423, 1875906682, 5145340699, 12787406007, 29430180505, 63612729793, 131245516298]]
def altOk9 (c d : Nat) : Prop := ∀ n, n ≤ 9 → tb tbca c n + tb tbca d n ≤ tb tbcf (c + d) n ∧ tb tbwa c n + tb tbwa d n ≤ tb tbwf (c + d) n
instance (c d : Nat) : Decidable (altOk9 c d) := by unfold altOk9; exact inferInstance
def seqOk9 (c d : Nat) : Prop := ∀ n, n ≤ 9 → tb tbcg c n + tb tbcg d n ≤ tb tbcf (c + d) n ∧ tb tbwg c n + tb tbwg d n ≤ tb tbwf (c + d) n
instance (c d : Nat) : Decidable (seqOk9 c d) := by unfold seqOk9; exact inferInstance
theorem tab9 : Tab 17 9 3381 (tb tbcf) (tb tbwf) (tb tbcs) (tb tbws) (tb tbca) (tb tbwa) (tb tbcg) (tb tbwg) where
  fa := by decide +kernel
  sa := by decide +kernel
  ag := by decide +kernel
  fg := by decide +kernel
  sg := by decide +kernel
  st := by
    have h : ∀ c, c < 17 → 2 ≤ c → ∀ n, n ≤ 9 → 1 + sumP (fun j => 1 + tb tbcf c j) n ≤ tb tbcs (c + 1) n ∧ 2 + 3381 + sumP (fun j => 10 + 2 * tb tbwf c j + (1 + tb tbcf c j) * 3381) n ≤ tb tbws (c + 1) n := by decide +kernel
    exact fun c h1 h2 => h c h2 h1
  alt := by
    have h : ∀ c, c ≤ 17 → 1 ≤ c → ∀ d, d ≤ 17 - c → 1 ≤ d → altOk9 c d := by decide +kernel
    exact fun c h1 h2 d h3 h4 => h c h2 h1 d h4 h3
  seq := by
    have h : ∀ c, c ≤ 17 → 2 ≤ c → ∀ d, d ≤ 17 - c → 2 ≤ d → seqOk9 c d := by decide +kernel
    exact fun c h1 h2 d h3 h4 => h c h2 h1 d h4 h3
theorem top9 : ∀ c, 1 ≤ c → c < 17 → ∀ e, e ≤ 16 - c → ∀ n, n ≤ 9 → tb tbwg (c + 1) n + tb tbwt e n ≤ tb tbwt (c + e) n := by
  have h : ∀ c, c < 17 → 1 ≤ c → ∀ e, e ≤ 16 - c → ∀ n, n ≤ 9 → tb tbwg (c + 1) n + tb tbwt e n ≤ tb tbwt (c + e) n := by decide +kernel
  exact fun c h1 h2 => h c h2 h1
theorem end9 : ∀ n, n ≤ 9 → tb tbwa 17 n ≤ tb tbwt 16 n ∧ tb tbwt 16 n ≤ 131245516298 := by decide +kernel
theorem wt_others {l : List Rx} (h : ∀ x ∈ l, 1 ≤ wtR x) {x : Rx} (hx : x ∈ l) : wtR x + l.length ≤ wtS l + 1 := by
  induction l with
  | nil => cases hx
  | cons y l ih =>
    rw [wtS_cons, List.length_cons]
    rcases List.mem_cons.1 hx with rfl | hx
    · have := wtS_ge (n := 1) (l := l) fun z hz => h z (List.mem_cons_of_mem _ hz)
      omega
    · have h1 := ih (fun z hz => h z (List.mem_cons_of_mem _ hz)) hx
      have h2 := h y List.mem_cons_self
      omega
theorem cov9 {x : Rx} (hx : Nf x) (ht : Top 16 x) (hz : x.size ≤ 49) {v : List Int} (hv : v.length ≤ 9) : WW (covT x v) ≤ 131245516298 := by
  have hk := hx.kinds
  have he := end9 _ hv
  by_cases k : x.kind ≤ 2
  · rw [covT_x (by omega) (by omega) (by omega)]; exact Nat.zero_le _
  · have ht := ht (by omega)
    by_cases k3 : x.kind = 3
    · obtain ⟨e, h2, hn, hkk⟩ := hx.k3 k3
      rw [seqF_3 k3] at ht
      have hz' : Rx.sizes x.kids ≤ 49 := by have := size_eq x; omega
      have h1 : ∀ y ∈ x.kids, 1 ≤ wtR y := fun y hy => (wt_nf (hn y hy)).1
      have h3 := bd_top tab9 (Z := 49) (by decide) (t := tb tbwt) (E := 16) top9 hv (l := x.kids) (fun y hy => by
        have h4 := wt_others h1 hy
        have h5 := hkk y hy
        have h6 := (hn y hy).kinds
        have h7 := size_mem hy
        exact ⟨hn y hy, bd_nf tab9 (Z := 49) (by decide) (hn y hy) (by omega) (by omega), (wt_nf (hn y hy)).2 (by omega), by omega⟩) 16 ht (Nat.le_refl _) hz'
      rw [covT_3 k3]; omega
    · rw [seqF_x k3 (by omega), wtS_one, List.length_singleton] at ht
      have h1 := bd_nf tab9 (Z := 49) (by decide) hx ht (by omega)
      have h2 := bd_any tab9 h1 ht hv
      have h3 : tb tbwa (wtR x) v.length ≤ tb tbwa 17 v.length := by
        have h : ∀ c, c ≤ 17 → ∀ n, n ≤ 9 → tb tbwa c n ≤ tb tbwa 17 n := by decide +kernel
        exact h _ ht _ hv
      omega
theorem dv9 {x : Rx} (hx : Nf x) (ht : Top 16 x) (hz : x.size ≤ 49) {v : List Int} (hv : v.length ≤ 9) : dSz (Dv x v) ≤ 131245516304 ∧ (Dv x v).size ≤ 131245516304 := by
  have h : ∀ v : List Int, v.length ≤ 9 → dSz (Dv x v) ≤ 131245516304 := fun v hv => by
    have h1 := dSz_dZ (Dv x v)
    have h2 := dZ_Dv hx v
    have h3 := cov9 hx ht hz hv
    omega
  refine ⟨h v hv, ?_⟩
  revert hv
  refine snoc_ind (P := fun v => v.length ≤ 9 → (Dv x v).size ≤ 131245516304) (fun _ => by rw [Dv_nil]; omega) (fun v b _ hv => ?_) v
  rw [List.length_append, List.length_singleton] at hv
  rw [Dv_snoc]
  exact Nat.le_trans (dSz_spec b _) (h v (by omega))
end Go.Wb

namespace Go.Wb
set_option linter.unusedVariables false
set_option linter.unusedSimpArgs false
open Go.Am
inductive Star (P : List Int → Prop) : List Int → Prop
  | nil : Star P []
  | cons {u v : List Int} : P u → Star P v → Star P (u ++ v)
mutual
def sem : Rx → List Int → Prop
  | .mk k s l => fun w => if k = 1 then w = [] else if k = 2 then ∃ a, w = [a] ∧ a ∈ s else if k = 3 then semQ l w else if k = 4 then semA l w else if k = 5 then semK l w else False
def semQ : List Rx → List Int → Prop
  | [] => fun w => w = []
  | x :: l => fun w => ∃ u v, w = u ++ v ∧ sem x u ∧ semQ l v
def semA : List Rx → List Int → Prop
  | [] => fun _ => False
  | x :: l => fun w => sem x w ∨ semA l w
def semK : List Rx → List Int → Prop
  | [] => fun w => w = []
  | x :: _ => fun w => Star (sem x) w
end
theorem sem_eq (r : Rx) (w : List Int) : sem r w = (if r.kind = 1 then w = [] else if r.kind = 2 then ∃ a, w = [a] ∧ a ∈ r.syms else if r.kind = 3 then semQ r.kids w else if r.kind = 4 then semA r.kids w else
    if r.kind = 5 then semK r.kids w else False) := by cases r with | mk k s l => rw [sem]; rfl
theorem sem_0 {r : Rx} (h : r.kind = 0) (w : List Int) : ¬ sem r w := by rw [sem_eq, if_neg (by omega), if_neg (by omega), if_neg (by omega), if_neg (by omega), if_neg (by omega)]; exact id
theorem sem_1 {r : Rx} (h : r.kind = 1) (w : List Int) : sem r w ↔ w = [] := by rw [sem_eq, if_pos h]
theorem sem_2 {r : Rx} (h : r.kind = 2) (w : List Int) : sem r w ↔ ∃ a, w = [a] ∧ a ∈ r.syms := by rw [sem_eq, if_neg (by omega), if_pos h]
theorem sem_3 {r : Rx} (h : r.kind = 3) (w : List Int) : sem r w ↔ semQ r.kids w := by rw [sem_eq, if_neg (by omega), if_neg (by omega), if_pos h]
theorem sem_4 {r : Rx} (h : r.kind = 4) (w : List Int) : sem r w ↔ semA r.kids w := by rw [sem_eq, if_neg (by omega), if_neg (by omega), if_neg (by omega), if_pos h]
theorem sem_5 {r : Rx} (h : r.kind = 5) (w : List Int) : sem r w ↔ semK r.kids w := by rw [sem_eq, if_neg (by omega), if_neg (by omega), if_neg (by omega), if_neg (by omega), if_pos h]
theorem semQ_nil (w : List Int) : semQ [] w ↔ w = [] := by rw [semQ]
theorem semQ_cons (x : Rx) (l : List Rx) (w : List Int) : semQ (x :: l) w ↔ ∃ u v, w = u ++ v ∧ sem x u ∧ semQ l v := by rw [semQ]
theorem semA_mem {w : List Int} : ∀ {l : List Rx}, semA l w ↔ ∃ x ∈ l, sem x w
  | [] => by rw [semA]; simp
  | x :: l => by rw [semA]; show sem x w ∨ semA l w ↔ _; rw [semA_mem]; simp
theorem semK_one (x : Rx) (w : List Int) : semK [x] w ↔ Star (sem x) w := by rw [semK]
theorem semQ_one (x : Rx) (w : List Int) : semQ [x] w ↔ sem x w := by
  rw [semQ_cons]
  constructor
  · rintro ⟨u, v, rfl, hu, hv⟩
    rw [semQ_nil] at hv
    rw [hv, List.append_nil]; exact hu
  · exact fun h => ⟨w, [], (List.append_nil w).symm, h, (semQ_nil _).2 rfl⟩
theorem semQ_app : ∀ {l m : List Rx} {w : List Int}, semQ (l ++ m) w ↔ ∃ u v, w = u ++ v ∧ semQ l u ∧ semQ m v
  | [], m, w => by
    rw [List.nil_append]
    constructor
    · exact fun h => ⟨[], w, rfl, (semQ_nil _).2 rfl, h⟩
    · rintro ⟨u, v, rfl, hu, hv⟩
      rw [semQ_nil] at hu
      rw [hu]; exact hv
  | x :: l, m, w => by
    rw [List.cons_append, semQ_cons]
    constructor
    · rintro ⟨u, v, rfl, hu, hv⟩
      obtain ⟨u', v', rfl, hu', hv'⟩ := semQ_app.1 hv
      exact ⟨u ++ u', v', (List.append_assoc _ _ _).symm, (semQ_cons _ _ _).2 ⟨u, u', rfl, hu, hu'⟩, hv'⟩
    · rintro ⟨u, v, rfl, hu, hv⟩
      obtain ⟨u', v', rfl, hu', hv'⟩ := (semQ_cons _ _ _).1 hu
      exact ⟨u', v' ++ v, List.append_assoc _ _ _, hu', semQ_app.2 ⟨v', v, rfl, hv', hv⟩⟩
theorem Star.mono {P Q : List Int → Prop} (h : ∀ w, P w → Star Q w) {w : List Int} (hw : Star P w) : Star Q w := by
  have app : ∀ {u v : List Int}, Star Q u → Star Q v → Star Q (u ++ v) := fun {u v} hu hv => by
    induction hu with
    | nil => exact hv
    | cons h1 _ ih => rw [List.append_assoc]; exact .cons h1 ih
  induction hw with
  | nil => exact .nil
  | cons h1 _ ih => exact app (h _ h1) ih
theorem Star.one {P : List Int → Prop} {w : List Int} (h : P w) : Star P w := by
  have := Star.cons h .nil
  rwa [List.append_nil] at this
theorem Star.congr {P Q : List Int → Prop} (h : ∀ w, P w ↔ Q w) (w : List Int) : Star P w ↔ Star Q w :=
  ⟨Star.mono fun w hw => .one ((h w).1 hw), Star.mono fun w hw => .one ((h w).2 hw)⟩
theorem Star.none {P : List Int → Prop} (h : ∀ w, P w → w = []) {w : List Int} (hw : Star P w) : w = [] := by
  induction hw with
  | nil => rfl
  | cons h1 _ ih => rw [h _ h1, ih]; rfl
theorem Star.head {P : List Int → Prop} {a : Int} {w : List Int} : Star P (a :: w) ↔ ∃ u v, w = u ++ v ∧ P (a :: u) ∧ Star P v := by
  constructor
  · intro h
    have : ∀ z, Star P z → z = a :: w → ∃ u v, w = u ++ v ∧ P (a :: u) ∧ Star P v := by
      intro z hz
      induction hz with
      | nil => intro e; cases e
      | @cons u v h1 h2 ih =>
        intro e
        match u, e with
        | [], e => exact ih e
        | b :: u, e =>
          obtain ⟨rfl, e2⟩ := List.cons.inj e
          exact ⟨u, v, e2.symm, h1, h2⟩
    exact this _ h rfl
  · rintro ⟨u, v, rfl, h1, h2⟩
    exact .cons (u := a :: u) h1 h2
theorem Star.rev {P Q : List Int → Prop} (h : ∀ w, P w → Q w.reverse) {w : List Int} (hw : Star P w) : Star Q w.reverse := by
  have app : ∀ {u v : List Int}, Star Q u → Star Q v → Star Q (u ++ v) := fun {u v} hu hv => by
    induction hu with
    | nil => exact hv
    | cons h1 _ ih => rw [List.append_assoc]; exact .cons h1 ih
  induction hw with
  | nil => exact .nil
  | cons h1 _ ih => rw [List.reverse_append]; exact app ih (.one (h _ h1))
theorem acc_sem (x : Rx) : accR x = true ↔ sem x [] := by
  refine rx_ind (P := fun x => accR x = true ↔ sem x []) (fun x ih => ?_) x
  rw [accR_eq]
  by_cases h3 : x.kind = 3
  · rw [if_pos h3, sem_3 h3]
    have : ∀ l : List Rx, (∀ x ∈ l, accR x = true ↔ sem x []) → (l.all accR = true ↔ semQ l []) := by
      intro l
      induction l with
      | nil => intro _; rw [semQ_nil]; simp
      | cons y l ihl =>
        intro h
        have h1 := ihl fun z hz => h z (List.mem_cons_of_mem _ hz)
        rw [List.all_cons, Bool.and_eq_true, h y List.mem_cons_self, h1, semQ_cons]
        constructor
        · exact fun h => ⟨[], [], rfl, h.1, h.2⟩
        · rintro ⟨u, v, e, hu, hv⟩
          have e' := List.append_eq_nil_iff.1 e.symm
          rw [e'.1] at hu
          rw [e'.2] at hv
          exact ⟨hu, hv⟩
    exact this _ ih
  · rw [if_neg h3]
    by_cases h4 : x.kind = 4
    · rw [if_pos h4, sem_4 h4, semA_mem, List.any_eq_true]
      exact exists_congr fun y => and_congr_right fun hy => ih y hy
    · rw [if_neg h4, decide_eq_true_eq]
      by_cases h1 : x.kind = 1
      · rw [sem_1 h1]; exact ⟨fun _ => rfl, fun _ => .inl h1⟩
      · by_cases h5 : x.kind = 5
        · rw [sem_5 h5]
          refine ⟨fun _ => ?_, fun _ => .inr h5⟩
          match x.kids with
          | [] => rw [semK]
          | y :: l => rw [semK]; exact .nil
        · refine ⟨fun h => absurd h (by omega), fun h => ?_⟩
          by_cases h2 : x.kind = 2
          · obtain ⟨a, e, _⟩ := (sem_2 h2 _).1 h
            cases e
          · rw [sem_eq, if_neg h1, if_neg h2, if_neg h3, if_neg h4, if_neg h5] at h; cases h
theorem sem_seqF (x : Rx) (w : List Int) : semQ (seqF x) w ↔ sem x w := by
  by_cases h3 : x.kind = 3
  · rw [seqF_3 h3, sem_3 h3]
  · by_cases h1 : x.kind = 1
    · rw [seqF_1 h1, semQ_nil, sem_1 h1]
    · rw [seqF_x h3 h1, semQ_one]
theorem sem_seqL : ∀ (l : List Rx) (w : List Int), semQ (seqL l) w ↔ semQ l w
  | [], w => Iff.rfl
  | x :: l, w => by
    have e : seqL (x :: l) = seqF x ++ seqL l := rfl
    rw [e, semQ_app, semQ_cons]
    exact exists_congr fun u => exists_congr fun v => and_congr_right fun _ => and_congr (sem_seqF x u) (sem_seqL l v)
theorem semQ_all {l : List Rx} {w : List Int} (h : semQ l w) : ∀ x ∈ l, ∃ u, sem x u := by
  induction l generalizing w with
  | nil => intro x hx; cases hx
  | cons y l ih =>
    obtain ⟨u, v, rfl, hu, hv⟩ := (semQ_cons _ _ _).1 h
    intro x hx
    rcases List.mem_cons.1 hx with rfl | hx
    · exact ⟨u, hu⟩
    · exact ih hv x hx
theorem sem_seqN (l : List Rx) (w : List Int) : sem (seqN l) w ↔ semQ l w := by
  unfold seqN
  by_cases h : l.any (fun x => decide (x.kind = 0)) = true
  · rw [if_pos h]
    obtain ⟨x, hx, h0⟩ := List.any_eq_true.1 h
    refine ⟨fun q => absurd q (sem_0 rfl w), fun q => ?_⟩
    obtain ⟨u, hu⟩ := semQ_all q x hx
    exact absurd hu (sem_0 (of_decide_eq_true h0) u)
  · rw [if_neg h, ← sem_seqL l]
    generalize seqL l = s
    match s with
    | [] => exact (sem_1 (r := emptyRx) rfl w).trans (semQ_nil w).symm
    | [y] => exact (semQ_one y w).symm
    | y :: z :: s => rw [seqE_2 (by simp) (by simp)]; exact sem_3 rfl w
theorem sem_altE (k : List Rx) (w : List Int) : sem (altE k) w ↔ ∃ x ∈ k, sem x w := by
  match k with
  | [] => exact ⟨fun h => absurd h (sem_0 rfl w), fun ⟨x, hx, _⟩ => by cases hx⟩
  | [y] => exact ⟨fun h => ⟨y, List.mem_cons_self, h⟩, fun ⟨x, hx, h⟩ => by rw [List.mem_singleton.1 hx] at h; exact h⟩
  | y :: z :: k => rw [altE_2 (by simp) (by simp)]; exact (sem_4 rfl w).trans semA_mem
theorem sem_altF (x : Rx) (w : List Int) : (∃ y ∈ altF x, sem y w) ↔ sem x w := by
  by_cases h4 : x.kind = 4
  · rw [altF_4 h4, sem_4 h4, semA_mem]
  · rw [altF_x h4]
    exact ⟨fun ⟨y, hy, h⟩ => by rw [List.mem_singleton.1 hy] at h; exact h, fun h => ⟨x, List.mem_cons_self, h⟩⟩
theorem sem_altN {l : List Rx} (w : List Int) : sem (altN l) w ↔ ∃ x ∈ l, sem x w := by
  have hC : (∃ x ∈ altC (altD l), sem x w) ↔ ∃ x ∈ altD l, sem x w := by
    by_cases h : 1 < (altD l).length ∧ ((altD l).getD 0 default).kind = 1 ∧ ((altD l).drop 1).any accR = true
    · rw [altC_t h.1 h.2.1 h.2.2]
      constructor
      · exact fun ⟨x, hx, hs⟩ => ⟨x, List.mem_of_mem_drop hx, hs⟩
      · rintro ⟨x, hx, hs⟩
        by_cases e : x = (altD l).getD 0 default
        · obtain ⟨y, hy, ha⟩ := List.any_eq_true.1 h.2.2
          rw [e, sem_1 h.2.1] at hs
          exact ⟨y, hy, by rw [hs]; exact (acc_sem y).1 ha⟩
        · exact ⟨x, mem_drop1 hx e, hs⟩
    · rw [altC_f h]
  unfold altN
  rw [sem_altE, hC]
  have hL : (∃ x ∈ altL l, sem x w) ↔ ∃ x ∈ l, sem x w := by
    constructor
    · rintro ⟨x, hx, hs⟩
      obtain ⟨y, hy, hxy⟩ := altL_mem.1 hx
      exact ⟨y, hy, (sem_altF y w).1 ⟨x, hxy, hs⟩⟩
    · rintro ⟨y, hy, hs⟩
      obtain ⟨x, hx, hs⟩ := (sem_altF y w).2 hs
      exact ⟨x, altL_mem.2 ⟨y, hy, hx⟩, hs⟩
  rw [← hL]
  constructor
  · rintro ⟨x, hx, hs⟩
    have h1 := altD_mem hx
    rw [altM_mem] at h1
    rcases h1 with h1 | ⟨_, rfl⟩
    · exact ⟨x, (altK_mem.1 h1).1, hs⟩
    · obtain ⟨a, ha, hm⟩ := (sem_2 rfl w).1 hs
      have hm' : a ∈ uniI (altS l) := hm
      obtain ⟨y, hy, hk, hz⟩ := altS_mem.1 (uniI_mem.1 hm')
      exact ⟨y, hy, (sem_2 hk w).2 ⟨a, ha, hz⟩⟩
  · rintro ⟨x, hx, hs⟩
    by_cases h0 : x.kind = 0
    · exact absurd hs (sem_0 h0 w)
    · by_cases h2 : x.kind = 2
      · obtain ⟨a, ha, hm⟩ := (sem_2 h2 w).1 hs
        have hz : a ∈ altS l := altS_mem.2 ⟨x, hx, h2, hm⟩
        refine ⟨.mk 2 (uniI (altS l)) [], ?_, (sem_2 rfl w).2 ⟨a, ha, uniI_mem.2 hz⟩⟩
        rw [altD_uni, uniR_mem, altM_mem]
        exact .inr ⟨List.length_pos_iff_exists_mem.2 ⟨a, hz⟩, rfl⟩
      · refine ⟨x, ?_, hs⟩
        rw [altD_uni, uniR_mem, altM_mem]
        exact .inl (altK_mem.2 ⟨hx, h0, h2⟩)
theorem sem_starN {x : Rx} (h : Nf x) (w : List Int) : sem (starN x) w ↔ Star (sem x) w := by
  by_cases h01 : x.kind = 0 ∨ x.kind = 1
  · rw [starN_e h01, sem_1 rfl]
    refine ⟨fun e => by rw [e]; exact .nil, fun q => Star.none (fun u hu => ?_) q⟩
    rcases h01 with k | k
    · exact absurd hu (sem_0 k u)
    · exact (sem_1 k u).1 hu
  · by_cases h5 : x.kind = 5
    · obtain ⟨y, e, _⟩ := h.k5 h5
      rw [starN_5 h5]
      have hy : ∀ w, sem x w ↔ Star (sem y) w := fun w => by rw [e]; exact (sem_5 rfl w).trans (semK_one y w)
      exact ⟨Star.one, fun q => (hy w).2 (Star.mono (fun u hu => (hy u).1 hu) q)⟩
    · rw [starN_x h01 h5]
      refine (sem_5 rfl w).trans ((semK_one _ w).trans ?_)
      by_cases q : x.kind = 4 ∧ (x.kids.getD 0 default).kind = 1
      · obtain ⟨e, h2, hn, hk4, hs, ht, ha⟩ := h.k4 q.1
        have hx : ∀ u, sem x u ↔ ∃ y ∈ x.kids, sem y u := fun u => (sem_4 q.1 u).trans semA_mem
        have hd : ∀ u, (∃ y ∈ x.kids, sem y u) ↔ u = [] ∨ ∃ y ∈ x.kids.drop 1, sem y u := fun u => by
          constructor
          · rintro ⟨y, hy, hs⟩
            by_cases e : y = x.kids.getD 0 default
            · rw [e, sem_1 q.2] at hs; exact .inl hs
            · exact .inr ⟨y, mem_drop1 hy e, hs⟩
          · rintro (rfl | ⟨y, hy, hs⟩)
            · exact ⟨_, kid_mem (i := 0) (by omega), (sem_1 q.2 _).2 rfl⟩
            · exact ⟨y, List.mem_of_mem_drop hy, hs⟩
        have hB : ∀ u, sem (starB x) u ↔ ∃ y ∈ x.kids.drop 1, sem y u := fun u => by
          by_cases q2 : x.kids.length = 2
          · rw [starB_2 q q2]
            have hl : x.kids.drop 1 = [x.kids.getD 1 default] := by rw [drop_cons (by omega), List.drop_of_length_le (by omega)]
            rw [hl]
            exact ⟨fun h => ⟨_, List.mem_cons_self, h⟩, fun ⟨y, hy, h⟩ => by rw [List.mem_singleton.1 hy] at h; exact h⟩
          · rw [starB_m q q2]
            exact (sem_4 (r := .mk x.kind x.syms (x.kids.drop 1)) q.1 u).trans semA_mem
        constructor
        · exact Star.mono fun u hu => .one ((hx u).2 ((hd u).2 (.inr ((hB u).1 hu))))
        · refine Star.mono fun u hu => ?_
          rcases (hd u).1 ((hx u).1 hu) with rfl | hu
          · exact .nil
          · exact .one ((hB u).2 hu)
      · rw [starB_n q]
theorem sem_dR (a : Int) {x : Rx} (h : Nf x) : ∀ w, sem (dR a x) w ↔ sem x (a :: w) := by
  induction h with
  | none => exact fun w => by rw [dR_x (by decide) (fun h => by cases h), dL_x (by decide) (by decide), altN_nil]; exact ⟨fun q => absurd q (sem_0 rfl w), fun q => absurd q (sem_0 rfl _)⟩
  | empty => exact fun w => by rw [dR_x (by decide) (fun h => by cases h), dL_x (by decide) (by decide), altN_nil]; exact ⟨fun q => absurd q (sem_0 rfl w), fun q => absurd ((sem_1 rfl _).1 q) (by simp)⟩
  | @set s h =>
    intro w
    rw [dR_eq, if_pos (show (Rx.mk 2 s []).kind = 2 from rfl), sem_2 (r := .mk 2 s []) rfl]
    show sem (if a ∈ s then _ else _) w ↔ ∃ b, _ ∧ b ∈ s
    by_cases q : a ∈ s
    · rw [if_pos q, sem_1 rfl]
      constructor
      · rintro rfl; exact ⟨a, rfl, q⟩
      · rintro ⟨b, e, _⟩; exact (List.cons.inj e).2
    · rw [if_neg q]
      refine ⟨fun h => absurd h (sem_0 rfl w), fun ⟨b, e, hb⟩ => ?_⟩
      rw [(List.cons.inj e).1] at q; exact absurd hb q
  | @seq l h2 hn hk ih =>
    intro w
    rw [dR_x (by simp [Rx.kind]) (by simp [Rx.kind]), dL_3 rfl, sem_altN, sem_3 rfl]
    show (∃ x ∈ dRq a l, _) ↔ semQ l _
    clear h2 hk
    induction l with
    | nil =>
      rw [dRq, semQ_nil]
      exact ⟨fun ⟨x, hx, _⟩ => (by cases hx), fun e => (by cases e)⟩
    | cons x l ihl =>
      have h1 := ihl (fun y hy => hn y (List.mem_cons_of_mem _ hy)) fun y hy => ih y (List.mem_cons_of_mem _ hy)
      have h2 : sem (seqN [dR a x, seqN l]) w ↔ ∃ u v, w = u ++ v ∧ sem x (a :: u) ∧ semQ l v := by
        rw [sem_seqN, semQ_cons]
        refine exists_congr fun u => exists_congr fun v => and_congr_right fun _ => and_congr (ih x List.mem_cons_self u) ?_
        rw [semQ_one, sem_seqN]
      rw [dRq, semQ_cons]
      constructor
      · rintro ⟨y, hy, hs⟩
        rcases List.mem_cons.1 hy with rfl | hy
        · obtain ⟨u, v, rfl, hu, hv⟩ := h2.1 hs
          exact ⟨a :: u, v, rfl, hu, hv⟩
        · split at hy
          · next ha => exact ⟨[], a :: w, rfl, (acc_sem x).1 ha, h1.1 ⟨y, hy, hs⟩⟩
          · cases hy
      · rintro ⟨u, v, e, hu, hv⟩
        match u, e with
        | [], e =>
          have e' : v = a :: w := e.symm
          rw [e'] at hv
          obtain ⟨y, hy, hs⟩ := h1.2 hv
          exact ⟨y, List.mem_cons_of_mem _ (by rw [if_pos ((acc_sem x).2 hu)]; exact hy), hs⟩
        | b :: u, e =>
          obtain ⟨rfl, e2⟩ := List.cons.inj e
          exact ⟨_, List.mem_cons_self, h2.2 ⟨u, v, e2, hu, hv⟩⟩
  | @alt l h2 hn hk h4 h5 h6 ih =>
    intro w
    rw [dR_x (by simp [Rx.kind]) (by simp [Rx.kind]), dL_4 rfl, sem_altN, sem_4 rfl, semA_mem]
    show (∃ x ∈ l.map (dR a), _) ↔ ∃ x ∈ l, _
    constructor
    · rintro ⟨y, hy, hs⟩
      obtain ⟨z, hz, rfl⟩ := List.mem_map.1 hy
      exact ⟨z, hz, (ih z hz w).1 hs⟩
    · rintro ⟨z, hz, hs⟩
      exact ⟨_, List.mem_map.2 ⟨z, hz, rfl⟩, (ih z hz w).2 hs⟩
  | @star y hn hk h4 ih =>
    intro w
    have hs : ∀ w, sem (.mk 5 [] [y]) w ↔ Star (sem y) w := fun w => (sem_5 rfl w).trans (semK_one y w)
    rw [dR_5k rfl (by show 0 < 1; decide), sem_seqN, semQ_cons, hs, Star.head]
    refine exists_congr fun u => exists_congr fun v => and_congr_right fun _ => and_congr (ih u) ?_
    rw [semQ_one, hs]
theorem sem_Dv {x : Rx} (h : Nf x) : ∀ u w, sem (Dv x u) w ↔ sem x (u ++ w) := fun u => by
  refine snoc_ind (P := fun u => ∀ w, sem (Dv x u) w ↔ sem x (u ++ w)) (fun w => Iff.rfl) (fun u b ih w => ?_) u
  rw [Dv_snoc, sem_dR b (Dv_nf h u), ih, List.append_assoc]; rfl
theorem acc_Dv {x : Rx} (h : Nf x) (u : List Int) : accR (Dv x u) = true ↔ sem x u := by rw [acc_sem, sem_Dv h, List.append_nil]
theorem semQ_map {f : Rx → Rx} : ∀ {l : List Rx}, (∀ x ∈ l, ∀ w, sem (f x) w ↔ sem x w) → ∀ w, semQ (l.map f) w ↔ semQ l w
  | [], _, w => Iff.rfl
  | x :: l, h, w => by
    rw [List.map_cons, semQ_cons, semQ_cons]
    exact exists_congr fun u => exists_congr fun v => and_congr_right fun _ => and_congr (h x List.mem_cons_self u) (semQ_map (fun y hy => h y (List.mem_cons_of_mem _ hy)) v)
theorem semQ_rev {f : Rx → Rx} : ∀ {l : List Rx}, (∀ x ∈ l, ∀ w, sem (f x) w ↔ sem x w.reverse) → ∀ w, semQ (l.map f).reverse w ↔ semQ l w.reverse
  | [], _, w => by
    rw [List.map_nil, List.reverse_nil, semQ_nil, semQ_nil, List.reverse_eq_nil_iff]
  | x :: l, h, w => by
    rw [List.map_cons, List.reverse_cons, semQ_app, semQ_cons]
    have ih := semQ_rev (l := l) fun y hy => h y (List.mem_cons_of_mem _ hy)
    constructor
    · rintro ⟨u, v, rfl, hu, hv⟩
      rw [semQ_one] at hv
      exact ⟨v.reverse, u.reverse, List.reverse_append, (h x List.mem_cons_self v).1 hv, (ih u).1 hu⟩
    · rintro ⟨u, v, e, hu, hv⟩
      refine ⟨v.reverse, u.reverse, ?_, (ih _).2 (by rw [List.reverse_reverse]; exact hv), (semQ_one _ _).2 ((h x List.mem_cons_self _).2 (by rw [List.reverse_reverse]; exact hu))⟩
      rw [← List.reverse_append, ← e, List.reverse_reverse]
theorem sem_build (r : Rx) : validR r = true → (∀ w, sem (buildR false r) w ↔ sem r w) ∧ ∀ w, sem (buildR true r) w ↔ sem r w.reverse := by
  refine rx_ind (P := fun r => validR r = true → (∀ w, sem (buildR false r) w ↔ sem r w) ∧ ∀ w, sem (buildR true r) w ↔ sem r w.reverse) (fun r ih hv => ?_) r
  have hf : ∀ x ∈ r.kids, ∀ w, sem (buildR false x) w ↔ sem x w := fun x hx => (ih x hx (valid_kids hv x hx)).1
  have ht : ∀ x ∈ r.kids, ∀ w, sem (buildR true x) w ↔ sem x w.reverse := fun x hx => (ih x hx (valid_kids hv x hx)).2
  by_cases h3 : r.kind = 3
  · exact ⟨fun w => by rw [buildR_3f h3, sem_seqN, sem_3 h3, semQ_map hf], fun w => by rw [buildR_3t h3, sem_seqN, sem_3 h3, semQ_rev ht]⟩
  · by_cases h4 : r.kind = 4
    · have hm : ∀ t w, (∃ x ∈ r.kids.map (buildR t), sem x w) ↔ ∃ x ∈ r.kids, sem (buildR t x) w := fun t w =>
        ⟨fun ⟨y, hy, hs⟩ => by obtain ⟨z, hz, rfl⟩ := List.mem_map.1 hy; exact ⟨z, hz, hs⟩, fun ⟨z, hz, hs⟩ => ⟨_, List.mem_map.2 ⟨z, hz, rfl⟩, hs⟩⟩
      exact ⟨fun w => by rw [buildR_4 h4, sem_altN, hm, sem_4 h4, semA_mem]; exact exists_congr fun x => and_congr_right fun hx => hf x hx w,
        fun w => by rw [buildR_4 h4, sem_altN, hm, sem_4 h4, semA_mem]; exact exists_congr fun x => and_congr_right fun hx => ht x hx w⟩
    · by_cases h5 : r.kind = 5
      · obtain ⟨y, hy⟩ := List.length_eq_one_iff.1 (valid_5 hv h5).2
        have hm : y ∈ r.kids := by rw [hy]; exact List.mem_cons_self
        have hb := fun t => build_nf t y (valid_kids hv y hm)
        have e : ∀ t, (r.kids.map (buildR t)).getD 0 default = buildR t y := fun t => by rw [hy]; rfl
        refine ⟨fun w => ?_, fun w => ?_⟩
        · rw [buildR_5 h5, e, sem_starN (hb _), sem_5 h5, hy, semK_one]
          exact Star.congr (hf y hm) w
        · rw [buildR_5 h5, e, sem_starN (hb _), sem_5 h5, hy, semK_one]
          constructor
          · exact Star.rev fun u hu => (ht y hm u).1 hu
          · intro q
            have := Star.rev (Q := sem (buildR true y)) (fun u hu => (ht y hm _).2 (by rw [List.reverse_reverse]; exact hu)) q
            rwa [List.reverse_reverse] at this
      · have hk := valid_kinds hv
        have e : ∀ t w, sem (buildR t r) w ↔ sem r w := fun t w => by
          rw [buildR_x h3 h4 h5]
          by_cases h1 : r.kind = 1
          · rw [sem_1 h1, sem_1 (r := .mk r.kind r.syms []) h1]
          · by_cases h2 : r.kind = 2
            · rw [sem_2 h2, sem_2 (r := .mk r.kind r.syms []) h2]; exact Iff.rfl
            · exact ⟨fun q => absurd q (sem_0 (r := .mk r.kind r.syms []) (by show r.kind = 0; omega) w), fun q => absurd q (sem_0 (by omega) _)⟩
        refine ⟨e false, fun w => (e true w).trans ?_⟩
        by_cases h1 : r.kind = 1
        · rw [sem_1 h1, sem_1 h1, List.reverse_eq_nil_iff]
        · by_cases h2 : r.kind = 2
          · rw [sem_2 h2, sem_2 h2]
            refine exists_congr fun a => and_congr_left fun _ => ?_
            constructor
            · rintro rfl; rfl
            · intro q
              have := congrArg List.reverse q
              rwa [List.reverse_reverse] at this
          · exact ⟨fun q => absurd q (sem_0 (by omega) w), fun q => absurd q (sem_0 (by omega) _)⟩
theorem mtR_Dv (r : Rx) (w : List Int) (k : Nat) : mtR r w k = Dv (simR r) (w.take k) := rfl
theorem match_Dv (r : Rx) (w : List Int) : matchR r w = accR (Dv (simR r) w) := by unfold matchR; rw [mtR_Dv, List.take_length]
theorem match_sem {r : Rx} (hv : validR r = true) (w : List Int) : matchR r w = true ↔ sem r w := by
  rw [match_Dv, acc_Dv (simR_nf r)]
  unfold simR; rw [if_pos hv]; exact (sem_build r hv).1 w
end Go.Wb

namespace Go.Wb
set_option linter.unusedVariables false
open Go.Am Go.Wc
theorem eq_same {p q : Bool} (h : p = q) : (p == q) = true := by rw [h]; exact beq_self_eq_true q
theorem wordP_len (l : List Int) (most long : Int) : (wordP l most long).length ≤ long.toNat := by
  unfold wordP; rw [List.length_map, List.length_take]; exact Nat.min_le_left _ _
structure Sm (x : Rx) : Prop where
  valid : validR x = true
  size : x.size ≤ 49
  top : Top 16 (simR x)
  ssize : (simR x).size ≤ 49
theorem sm_shaped (l : List Int) : Sm (shapedP l 3) := by
  have hm : (0 : Int) < 3 ∧ (3 : Int) ≤ 64 := by decide
  obtain ⟨h1, h2⟩ := shaped_good l hm
  have e : simR (shapedP l 3) = buildR false (shapedP l 3) := by unfold simR; rw [if_pos h1]
  have h3 := size_build' false _ h1
  exact ⟨h1, h2, by rw [e]; exact shaped_top false l hm, by rw [e]; omega⟩
theorem sm_dv {x : Rx} (h : Sm x) {v : List Int} (hv : v.length ≤ 9) : dSz (Dv (simR x) v) ≤ 131245516304 ∧ (Dv (simR x) v).size ≤ 131245516304 := dv9 (simR_nf x) h.top h.ssize hv
theorem sm_match {x : Rx} (h : Sm x) {w : List Int} (hw : w.length ≤ 9) : ∀ k, k ≤ w.length → (mtR x w k).size ≤ 549755813888 ∧ dSz (mtR x w k) ≤ 549755813888 := fun k hk => by
  have := sm_dv h (v := w.take k) (by rw [List.length_take]; omega)
  rw [mtR_Dv]; omega
def lgR (x : Rx) (u : List Int) (k : Nat) : Rx := if k = 0 then x else Dv (simR x) (u.take k)
end Go.Wb

