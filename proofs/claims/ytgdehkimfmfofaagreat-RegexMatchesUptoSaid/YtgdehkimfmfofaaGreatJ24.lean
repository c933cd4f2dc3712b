/-
  From a row's argument that is an expression to abstract data;its size is at most its bulk.
-/
import Derived.Test.YtgdehkimfmfofaaGreatJ20
import Derived.Test.YtgdehkimfmfofaaGreatJ21
import Derived.Test.YtgdehkimfmfofaaGreatJ19
import Derived.Test.YtgdehkimfmfofaaGreatJ18
import Derived.Test.YtgdehkimfmfofaaGreatJ8
import Derived.Test.YtgdehkimfmfofaaGreatRows
import Derived.Test.YtgdehkimfmfofaaGreatJ13
set_option linter.unusedVariables false
set_option linter.unusedSectionVars false
set_option linter.unusedSimpArgs false
namespace Go.Wb
set_option maxRecDepth 10000
open Go.Am
def tb (T:List (List Nat)) (c n:Nat):Nat:=(T.getD c []).getD n 0
def tbcf:List (List Nat):=[[0,0,0,0,0,0,0,0,0,0],
  [0,0,0,0,0,0,0,0,0,0],
  [0,0,0,0,0,0,0,0,0,0],
  [0,0,0,0,0,0,0,0,0,0],
  [2,4,6,8,10,12,14,16,18,20],
  [2,5,9,14,20,27,35,44,54,65],
  [4,10,18,28,40,54,70,88,108,130],
  [4,11,23,46,80,127,189,268,366,485],
  [6,18,38,68,115,197,315,478,696,980],
  [6,19,47,108,210,367,595,912,1338,1895],
  [8,28,68,139,305,599,1083,1836,2956,4562],
  [8,29,83,212,457,900,1659,2897,4832,7748],
  [10,40,110,273,663,1421,2775,5042,8648,14150],
  [10,41,133,373,919,2065,4295,8362,15386,26973],
  [12,54,166,479,1266,2954,6302,12548,23627,42455],
  [12,55,199,627,1719,4233,9523,19856,38838,71971],
  [14,70,238,776,2248,5786,13620,29817,61401,119959],
  [14,71,283,987,2958,7884,19113,42891,90297,180159]]
def tbwf:List (List Nat):=[[0,0,0,0,0,0,0,0,0,0],
  [0,0,0,0,0,0,0,0,0,0],
  [0,0,0,0,0,0,0,0,0,0],
  [0,0,0,0,0,0,0,0,0,0],
  [6782,13564,20346,27128,33910,40692,47474,54256,61038,67820],
  [10155,27082,50781,81252,118495,162510,213297,270856,335187,406290],
  [27108,74542,142302,230388,338800,467538,616602,785992,975708,1185750],
  [33854,111705,250478,514660,931135,1516910,2299073,3304712,4560915,6094770],
  [74522,264198,616442,1178668,1998290,3275630,5377071,8324524,12314271,17562900],
  [88014,355397,940898,2194116,4452575,8018030,13296801,20749384,30890451,44710463],
  [176112,772148,2140292,4734318,9126495,16997568,31514989,54460822,89010149,139035358],
  [203096,984911,3032396,7828420,17596977,35255680,65805327,116243030,196022399,317561100],
  [386054,2031800,6549074,16494451,35785428,71812565,138510948,253646890,441668206,735169826],
  [440022,2514675,8866872,25247266,62406731,137694306,283341877,550332896,1015339457,1789271750],
  [812700,5018322,18495162,52413859,126233100,274669413,561080366,1085427930,2021753063,3669725200],
  [920636,6095389,24285588,76048015,204704637,487047622,1067564488,2196508984,4279214746,7948960741],
  [1672754,11898754,49457106,155911105,412664433,971997515,2115472091,4328759521,8540185319,16686182896],
  [1888626,14272141,63522918,217745617,633224435,1621387411,3788720432,8248878318,16938625870,33079888085]]
def tbcs:List (List Nat):=[[0,0,0,0,0,0,0,0,0,0],
  [0,0,0,0,0,0,0,0,0,0],
  [0,0,0,0,0,0,0,0,0,0],
  [1,2,3,4,5,6,7,8,9,10],
  [1,2,3,4,5,6,7,8,9,10],
  [1,6,13,22,33,46,61,78,97,118],
  [1,7,17,32,53,81,117,162,217,283],
  [1,12,31,60,101,156,227,316,425,556],
  [1,13,37,84,165,293,483,752,1119,1605],
  [1,20,59,128,244,442,758,1237,1934,2915],
  [1,21,69,178,389,757,1353,2266,3605,5501],
  [1,30,99,239,545,1145,2229,4066,7023,11586],
  [1,31,115,328,786,1687,3347,6245,11078,18827],
  [1,42,153,427,1091,2513,5289,10332,18981,33132],
  [1,43,177,551,1471,3537,7833,16196,31583,58557],
  [1,56,223,703,1970,4925,11228,23777,47405,89861],
  [1,57,257,885,2605,6839,16363,36220,75059,147031],
  [1,72,311,1088,3337,9124,22745,52563,113965,233925]]
def tbws:List (List Nat):=[[0,0,0,0,0,0,0,0,0,0],
  [0,0,0,0,0,0,0,0,0,0],
  [0,0,0,0,0,0,0,0,0,0],
  [3383,6774,10165,13556,16947,20338,23729,27120,30511,33902],
  [3383,6774,10165,13556,16947,20338,23729,27120,30511,33902],
  [3383,47426,111795,196490,301511,426858,572531,738530,924855,1131506],
  [3383,77843,213225,426454,734455,1154153,1702473,2396340,3252679,4288415],
  [3383,189668,538521,1097356,1913587,3034628,4507893,6380796,8700751,11515172],
  [3383,267375,849485,2037722,4173863,7640461,12881007,20399930,30762597,44595313],
  [3383,596028,1960781,4551416,8940202,16160910,27983458,46252015,73237124,111679695],
  [3383,781807,2825901,7582672,17201223,34481501,63090189,107675820,173983891,269815203],
  [3383,1645738,6159621,16101607,35389193,71412939,138107931,253240482,441258407,734756636],
  [3383,2074645,8423451,24800454,61542916,135100567,272323691,514607899,922993080,1584314659],
  [3383,4205614,17679063,51594369,125410219,273843141,560250703,1084594876,1997173567,3515357760],
  [3383,5174745,23361553,75120589,203044581,485418349,1066626889,2195567994,4278270365,7948012969],
  [3383,10225992,47780953,154231561,410981498,970311189,2113782374,4327066413,8450458817,15933452963],
  [3383,12383507,61630893,215850201,631074805,1619485213,3786814843,8246969338,16936713499,33077972323],
  [3383,24040952,123763233,438212490,1271145235,3234706122,7511702915,16270036625,33558007435,67335957997]]
def tbca:List (List Nat):=[[0,0,0,0,0,0,0,0,0,0],
  [0,0,0,0,0,0,0,0,0,0],
  [0,0,0,0,0,0,0,0,0,0],
  [1,2,3,4,5,6,7,8,9,10],
  [2,4,6,8,10,12,14,16,18,20],
  [2,6,13,22,33,46,61,78,97,118],
  [4,10,18,32,53,81,117,162,217,283],
  [4,12,31,60,101,156,227,316,425,556],
  [6,18,38,84,165,293,483,752,1119,1605],
  [6,20,59,128,244,442,758,1237,1934,2915],
  [8,28,69,178,389,757,1353,2266,3605,5501],
  [8,30,99,239,545,1145,2229,4066,7023,11586],
  [10,40,115,328,786,1687,3347,6245,11078,18827],
  [10,42,153,427,1091,2513,5289,10332,18981,33132],
  [12,54,177,551,1471,3537,7833,16196,31583,58557],
  [12,56,223,703,1970,4925,11228,23777,47405,89861],
  [14,70,257,885,2605,6839,16363,36220,75059,147031],
  [14,72,311,1088,3337,9124,22745,52563,113965,233925]]
def tbwa:List (List Nat):=[[0,0,0,0,0,0,0,0,0,0],
  [0,0,0,0,0,0,0,0,0,0],
  [0,0,0,0,0,0,0,0,0,0],
  [3383,6774,10165,13556,16947,20338,23729,27120,30511,33902],
  [6782,13564,20346,27128,33910,40692,47474,54256,61038,67820],
  [10155,47426,111795,196490,301511,426858,572531,738530,924855,1131506],
  [27108,77843,213225,426454,734455,1154153,1702473,2396340,3252679,4288415],
  [33854,189668,538521,1097356,1913587,3034628,4507893,6380796,8700751,11515172],
  [74522,267375,849485,2037722,4173863,7640461,12881007,20399930,30762597,44595313],
  [88014,596028,1960781,4551416,8940202,16160910,27983458,46252015,73237124,111679695],
  [176112,781807,2825901,7582672,17201223,34481501,63090189,107675820,173983891,269815203],
  [203096,1645738,6159621,16101607,35389193,71412939,138107931,253240482,441258407,734756636],
  [386054,2074645,8423451,24800454,61542916,135100567,272323691,514607899,922993080,1584314659],
  [440022,4205614,17679063,51594369,125410219,273843141,560250703,1084594876,1997173567,3515357760],
  [812700,5174745,23361553,75120589,203044581,485418349,1066626889,2195567994,4278270365,7948012969],
  [920636,10225992,47780953,154231561,410981498,970311189,2113782374,4327066413,8450458817,15933452963],
  [1672754,12383507,61630893,215850201,631074805,1619485213,3786814843,8246969338,16936713499,33077972323],
  [1888626,24040952,123763233,438212490,1271145235,3234706122,7511702915,16270036625,33558007435,67335957997]]
def tbcg:List (List Nat):=[[1,2,3,4,5,6,7,8,9,10],
  [1,2,3,4,5,6,7,8,9,10],
  [1,2,3,4,5,6,7,8,9,10],
  [1,3,6,10,15,21,28,36,45,55],
  [3,8,15,24,35,48,63,80,99,120],
  [3,9,20,42,75,121,182,260,357,475],
  [5,16,35,64,110,191,308,470,687,970],
  [5,17,44,104,205,361,588,904,1329,1885],
  [7,26,65,135,300,593,1076,1828,2947,4552],
  [7,27,80,208,452,894,1652,2889,4823,7738],
  [9,38,107,269,658,1415,2768,5034,8639,14140],
  [9,39,130,369,914,2059,4288,8354,15377,26963],
  [11,52,163,475,1261,2948,6295,12540,23618,42445],
  [11,53,196,623,1714,4227,9516,19848,38829,71961],
  [13,68,235,772,2243,5780,13613,29809,61392,119949],
  [13,69,280,983,2953,7878,19106,42883,90288,180149],
  [15,86,325,1200,3805,10644,27007,63227,138286,285317],
  [15,87,384,1472,4809,13933,36678,89241,203206,437131]]
def tbwg:List (List Nat):=[[3391,6782,10173,13564,16955,20346,23737,27128,30519,33910],
  [3391,6782,10173,13564,16955,20346,23737,27128,30519,33910],
  [3391,6782,10173,13564,16955,20346,23737,27128,30519,33910],
  [6764,20300,40608,67688,101540,142164,189560,243728,304668,372380],
  [23717,67760,132129,216824,321845,447192,592865,758864,945189,1151840],
  [30463,104923,240305,501096,914180,1496564,2275336,3277584,4530396,6060860],
  [71131,257416,606269,1165104,1981335,3255284,5353334,8297396,12283752,17528990],
  [84623,348615,930725,2180552,4435620,7997684,13273064,20722256,30859932,44676553],
  [172721,765366,2130119,4720754,9109540,16977222,31491252,54433694,88979630,139001448],
  [199705,978129,3022223,7814856,17580022,35235334,65781590,116215902,195991880,317527190],
  [382663,2025018,6538901,16480887,35768473,71792219,138487211,253619762,441637687,735135916],
  [436631,2507893,8856699,25233702,62389776,137673960,283318140,550305768,1015308938,1789237840],
  [809309,5011540,18484989,52400295,126216145,274649067,561056629,1085400802,2021722544,3669691290],
  [917245,6088607,24275415,76034451,204687682,487027276,1067540751,2196481856,4279184227,7948926831],
  [1669363,11891972,49446933,155897541,412647478,971977169,2115448354,4328732393,8540154800,16686148986],
  [1885235,14265359,63512745,217732053,633207480,1621367065,3788696695,8248851190,16938595351,33079854175],
  [3396233,27433802,127156083,441605340,1274538085,3238098972,7515095765,16273429475,33561400285,67339350847],
  [3827977,32615701,160621751,599453423,1875906682,5145340699,12787406007,29430180505,63612729793,131245516298]]
def tbwt:List (List Nat):=[[0,0,0,0,0,0,0,0,0,0],
  [3391,6782,10173,13564,16955,20346,23737,27128,30519,33910],
  [6782,20300,40608,67688,101540,142164,189560,243728,304668,372380],
  [23717,67760,132129,216824,321845,447192,592865,758864,945189,1151840],
  [30463,104923,240305,501096,914180,1496564,2275336,3277584,4530396,6060860],
  [71131,257416,606269,1165104,1981335,3255284,5353334,8297396,12283752,17528990],
  [84623,348615,930725,2180552,4435620,7997684,13273064,20722256,30859932,44676553],
  [172721,765366,2130119,4720754,9109540,16977222,31491252,54433694,88979630,139001448],
  [199705,978129,3022223,7814856,17580022,35235334,65781590,116215902,195991880,317527190],
  [382663,2025018,6538901,16480887,35768473,71792219,138487211,253619762,441637687,735135916],
  [436631,2507893,8856699,25233702,62389776,137673960,283318140,550305768,1015308938,1789237840],
  [809309,5011540,18484989,52400295,126216145,274649067,561056629,1085400802,2021722544,3669691290],
  [917245,6088607,24275415,76034451,204687682,487027276,1067540751,2196481856,4279184227,7948926831],
  [1669363,11891972,49446933,155897541,412647478,971977169,2115448354,4328732393,8540154800,16686148986],
  [1885235,14265359,63512745,217732053,633207480,1621367065,3788696695,8248851190,16938595351,33079854175],
  [3396233,27433802,127156083,441605340,1274538085,3238098972,7515095765,16273429475,33561400285,67339350847],
  [3827977,32615701,160621751,599453423,1875906682,5145340699,12787406007,29430180505,63612729793,131245516298]]
def altOk9 (c d:Nat):Prop:=∀ n,n≤9→tb tbca c n+tb tbca d n≤tb tbcf (c+d) n∧tb tbwa c n+tb tbwa d n≤tb tbwf (c+d) n
instance (c d:Nat):Decidable (altOk9 c d):=by unfold altOk9;exact inferInstance
def seqOk9 (c d:Nat):Prop:=∀ n,n≤9→tb tbcg c n+tb tbcg d n≤tb tbcf (c+d) n∧tb tbwg c n+tb tbwg d n≤tb tbwf (c+d) n
instance (c d:Nat):Decidable (seqOk9 c d):=by unfold seqOk9;exact inferInstance
end Go.Wb

namespace Go.Wb
open Go.Am Go.Wc
theorem eq_same {p q:Bool} (h:p=q):(p == q)=true:=by rw [h];exact beq_self_eq_true q
theorem ne_same {p q:Bool} (h:p=q):(!(p == q))=false:=by rw [eq_same h];rfl
theorem wordP_len (l:List Int) (most long:Int):(wordP l most long).length≤long.toNat:=by
  unfold wordP;rw [List.length_map,List.length_take];exact Nat.min_le_left _ _
structure Sm (x:Rx):Prop where
  valid:validR x=true
  size:x.size≤49
  top:Top 16 (simR x)
  ssize:(simR x).size≤49
def lgR (x:Rx) (u:List Int) (k:Nat):Rx:=if k=0 then x else Dv (simR x) (u.take k)
end Go.Wb

namespace Go.Wb
open Go.Am
mutual
def rder (a:Int):Rx→Rx
  | .mk k s l=>if k=2 then (if a∈s then emptyRx else noneRx) else if k=5 then .mk 3 [] [(rders a l).getD 0 default,.mk k s l] else if k≤1 then noneRx else if k=3 then .mk 4 [] (rderq a l) else .mk 4 [] (rders a l)
def rders (a:Int):List Rx→List Rx
  | []=>[]
  | x :: l=>rder a x :: rders a l
def rderq (a:Int):List Rx→List Rx
  | []=>[]
  | x :: l=>.mk 3 [] (rder a x :: l) :: (if accR x=true then rderq a l else [])
end
def dvE (a:Int) (r:Rx) (i:Nat):Rx:=if r.kind=3 then .mk 3 [] (rder a (r.kids.getD i default) :: r.kids.drop (i+1)) else rder a (r.kids.getD i default)
def dvL (a:Int) (r:Rx) (i:Nat):List Rx:=(List.range i).map (dvE a r)
def bfR (r:Rx) (i:Nat):Bool:=if r.kind=3∧0<i then accR (r.kids.getD (i-1) default) else true
theorem set_len {s:List Int} (h:setOk s=true):s.length≤64:=by
  obtain ⟨h0,h1,h2⟩:=setOk_iff.1 h
  have h3:∀ k:Nat,k<s.length→(k:Int)≤s.getD k default:=by
    intro k
    induction k with
    | zero=>intro hk;have:=(h2 _ (by rw [getD_el hk];exact List.getElem_mem hk:s.getD 0 default∈s)).1;exact this
    | succ k ih =>
      intro hk
      have h4:=ih (by omega)
      have h5:=pair_getD h1 (i:=k) (j:=k+1) (by omega) hk
      have h6:=of_decide_eq_true h5.1
      have h7:=h5.2
      omega
  have h4:=h3 (s.length-1) (by omega)
  have h5:=(h2 _ (by rw [getD_el (by omega)];exact List.getElem_mem (by omega):s.getD (s.length-1) default∈s)).2
  omega
theorem valid_own {k : Int} {s : List Int} {l : List Rx} (h : validR (.mk k s l) = true) : s.length ≤ 64 := by
  by_cases h2:k=2
  · rw [validR_2 (r := .mk k s l) h2, Bool.and_eq_true] at h
    exact set_len h.2
  · rw [validR_eq] at h
    split at h
    · cases h
    · split at h
      · next q=>exact absurd q h2
      · split at h
        · cases h
        · next q =>
          have q':¬ 0<s.length:=fun e=>q (.inl e)
          omega
mutual
theorem nodes_size (most:Int):∀ r:Rx,validR r=true→nodesV most r≤most→(r.size:Int)≤65*nodesV most r
  | .mk k s l, hv, h => by
    rw [nodesV] at h ⊢
    have h1:=valid_own hv
    have h2:=nodes_sizes most 1 (by omega) l (fun x hx=>valid_kids hv x hx) h
    rw [Rx.size];omega
theorem nodes_sizes (most n:Int) (hn:1≤n):∀ l:List Rx,(∀ x∈l,validR x=true)→nodesG most n l≤most→(Rx.sizes l:Int)+65*n≤65*nodesG most n l
  | [],_,_=>by rw [nodesG,Rx.sizes];omega
  | x :: l, hv, h => by
    rw [nodesG] at h ⊢
    split at h
    · next q =>
      rw [if_pos q]
      have h1:=nodesV_bd most x
      have h2:=nodes_sizes most (n+nodesV most x) (by omega) l (fun y hy=>hv y (List.mem_cons_of_mem _ hy)) h
      have h3:nodesV most x≤most:=by omega
      have h4:=nodes_size most x (hv x List.mem_cons_self) h3
      rw [Rx.sizes];omega
    · next q=>exact absurd h q
end
theorem sim_small {r:Rx} (h:nodesV 60 r≤60):(simR r).size≤3900:=by
  unfold simR
  split
  · next hv =>
    have h1:=nodes_size 60 r hv h
    have h2:=size_build' false r hv
    omega
  · show 1≤3900;omega
end Go.Wb

namespace Go.Wc
open Go.Am
abbrev poolL:List (List UInt8):=[[97],[98],[99],[101],[105],[110],[115],[116],[99,104],[195,169],[65],[115,99,104],[104],[108],[195,182],[117]]
def atV (l:List Int) (i most:Int):Int:=atL l i most
def letter0 (l:List Int) (start:Int) (i:Nat):Letter:=⟨poolL.getD ((start+i) % 16).toNat default,i,0,0,1+atL l (2+i) 9⟩
def letterI (l:List Int) (start:Int) (a:List Letter) (i:Nat):Letter :=
  if 0<i∧atL l (10+i) 3=1 then { letter0 l start i with base:=(a.getD (atL l (20+i) i).toNat default).base,mark:=atL l (30+i) 4,cap:=atL l (40+i) 2 } else letter0 l start i
def lettersN (l:List Int) (start:Int):Nat→List Letter
  | 0=>[]
  | i+1=>lettersN l start i++[letterI l start (lettersN l start i) i]
def lettersP (l:List Int):List Letter:=lettersN l (atL l 1 16) (3+atL l 0 6).toNat
theorem take_min {l:List Int} {n:Int}:l.take (if n<(l.length:Int) then n else (l.length:Int)).toNat=l.take n.toNat:=by
  split
  · rfl
  · rw [Int.toNat_natCast,List.take_length,List.take_of_length_le (by omega)]
abbrev smallP:List Letter:=[⟨[97],0,0,0,5⟩,⟨[98],1,0,0,6⟩,⟨[99],2,0,0,5⟩,⟨[101],3,0,0,5⟩,⟨[110],4,0,0,6⟩,⟨[115],5,0,0,4⟩,⟨[116],6,0,0,3⟩,⟨[99,104],7,0,0,10⟩,⟨[195,169],3,1,0,5⟩,⟨[65],0,0,1,7⟩]
def manyP (n:Nat):List Letter:=(List.range n).map fun i=>⟨[UInt8.ofNat (97+i / 20),UInt8.ofNat (97+i % 20)],i,0,0,1⟩
def bigL (l:List (List Int)):Prop:=∀ v∈l,v.length≤9223372036854775807
theorem bigL.get {l:List (List Int)} (h:bigL l) (k:Nat):(l.getD k default).length≤9223372036854775807:=by
  rw [List.getD_eq_getElem?_getD]
  cases hk:l[k]? with
  | none=>exact Nat.zero_le _
  | some x=>exact h x (List.mem_of_getElem? hk)
def rawP (l:List (List Int)):List (List Int):=(l.take 8).map (List.take 12)
end Go.Wc

namespace Go.Wb
open Go.RowKit Go.ChangeShapes Go.WideShapes Go.Deep Go.Am
open Go.Proofs.YtgdehkimfmfofaaGreat.Rows (uptoBulk uptoBulkAll)
section
variable {H:Type} {enc:TypeId×Value→H} {P:Program} {w:World} {base:Nat} {spare:Nat→Bool} {held:Bool}
theorem bulk_pos (d:DataW H):1≤uptoBulk d:=by
  cases d with
  | lit l=>cases l<;>simp [uptoBulk]
  | _=>simp [uptoBulk]
theorem bulkAll_map (D:Nat→DataW H) {f:Nat→Nat}:∀ n:Nat,(∀ i,i<n→f i≤uptoBulk (D i))→((List.range n).map f).sum≤uptoBulkAll ((List.range n).map D)
  | 0,_=>Nat.zero_le _
  | n + 1, h => by
    have app:∀ l m:List (DataW H),uptoBulkAll (l++m)=uptoBulkAll l+uptoBulkAll m:=by
      intro l m
      induction l with
      | nil=>simp [uptoBulkAll]
      | cons x l ih=>simp only [List.cons_append,uptoBulkAll,ih];omega
    have h1:=bulkAll_map D (f:=f) n fun i hi=>h i (by omega)
    have h2:=h n (by omega)
    rw [List.range_succ,List.map_append,List.map_append,List.sum_append,app]
    simp only [List.map_cons,List.map_nil,List.sum_cons,List.sum_nil,uptoBulkAll];omega
theorem bulkAll_mem (D:Nat→DataW H) {n i:Nat} (h:i<n):uptoBulk (D i)≤uptoBulkAll ((List.range n).map D):=by
  have h1:=bulkAll_map D (f:=fun j=>if j=i then uptoBulk (D i) else 0) n fun j hj=>by
    show (if j=i then _ else 0)≤_
    split
    · next e=>rw [e];exact Nat.le_refl _
    · exact Nat.zero_le _
  refine Nat.le_trans ?_ h1
  have h2:∀ l:List Nat,i∈l→uptoBulk (D i)≤(l.map fun j=>if j=i then uptoBulk (D i) else 0).sum:=by
    intro l hl
    induction l with
    | nil=>cases hl
    | cons a l ih =>
      rw [List.map_cons,List.sum_cons]
      rcases List.mem_cons.1 hl with rfl|hl
      · rw [if_pos rfl];omega
      · have:=ih hl;omega
  exact h2 _ (List.mem_range.2 h)
theorem sizes_sum:∀ l:List Rx,Rx.sizes l=(l.map Rx.size).sum
  | []=>rfl
  | x :: l=>by rw [Rx.sizes,List.map_cons,List.sum_cons,sizes_sum l]
def RxC (w:World) (cs:List Value) (r:Rx):Prop:=∀ (j:Nat) d,(rxc r)[j]?=some d→Rep w (fun _=>False) (cs.getD j undef) d
theorem ints_bulk {S I : TypeId} (hS : P.underlying S = some (.slice I)) (hI : P.underlying I = some (.int .i64)) (cI : szOf P I = some 1) {n : Nat} {v : Value} {x : DataW H × List MemPlace} (h : DataW.trod enc P w base spare held n S [v] = some x) :
    ∃ l:List Int,l.length+1≤uptoBulk x.1∧Rep w (fun _=>False) v (ints l):=by
  obtain ⟨l,_,_,h2⟩:=rep_slice (ad:=int) (ok:=fun z:Int=>-9223372036854775808≤z∧z≤9223372036854775807) hS (cellsOf_of cI) (fun a=>⟨rfl,rfl⟩) (trod_i64 hI) h
  refine ⟨l,?_,h2⟩
  have h3:Rep w (fun _=>False) v (.sl (l.map int)):=h2
  rcases open_slice1 hS (cellsOf_of cI) h with ⟨h1,hx⟩|⟨a,len,cap,m,n',V,D,Pl,h1,hb,hl,hm,hmm,hx,hall⟩
  · simp only [List.cons.injEq, and_true] at h1
    subst h1
    have hl:l.length=0:=by
      generalize hz:AV.sl (l.map int)=z at h3
      cases h3 with
      | sl a n cap xs k cv hn =>
        injection hz with hz
        rw [← hz,List.length_map] at hn;exact hn
      | _=>cases hz
    rw [hl,hx];simp [uptoBulk]
  · simp only [List.cons.injEq, and_true] at h1
    subst h1
    have hl:l.length=len:=by
      generalize hz:AV.sl (l.map int)=z at h3
      cases h3 with
      | sl a n cap xs k cv hn =>
        injection hz with hz
        rw [← hz,List.length_map] at hn;exact hn
      | _=>cases hz
    have h4:=bulkAll_map D (f:=fun _=>1) len fun i _=>bulk_pos (D i)
    have h5:∀ n:Nat,((List.range n).map fun _=>1).sum=n:=by
      intro n
      induction n with
      | zero=>rfl
      | succ n ih=>rw [List.range_succ,List.map_append,List.sum_append,ih];rfl
    rw [h5] at h4
    rw [hx]
    simp only [uptoBulk];omega
theorem trod_rx {T I S R : TypeId} {f0 f1 f2 : Field} (hT : P.underlying T = some (.struct #[f0, f1, f2])) (e0 : f0.type = I ∧ f0.offset = 0) (e1 : f1.type = S ∧ f1.offset = 1) (e2 : f2.type = R ∧ f2.offset = 2)
    (hI:P.underlying I=some (.int .i64)) (hS:P.underlying S=some (.slice I)) (hR:P.underlying R=some (.slice T)) (cI:szOf P I=some 1) (cS:szOf P S=some 1) (cR:szOf P R=some 1) (cT:szOf P T=some 3) :
    ∀ (m n:Nat) (cs:List Value) (x:DataW H×List MemPlace),uptoBulk x.1≤m→DataW.trod enc P w base spare held n T cs=some x→∃ r:Rx,r.size≤uptoBulk x.1∧cs.length=3∧RxC w cs r
  | 0,n,cs,x,hm,h=>by have:=bulk_pos x.1;omega
  | m + 1, n, cs, x, hm, h => by
    obtain ⟨y0,y1,y2,n',rfl,hlen,h0,h1,h2⟩:=trod_struct3 hT h
    rw [cellsOf_of cT] at hlen
    rw [e0.1,e0.2,cellsOf_of cI] at h0
    rw [e1.1,e1.2,cellsOf_of cS] at h1
    rw [e2.1,e2.2,cellsOf_of cR] at h2
    match cs,hlen with
    | [c0, c1, c2], _ =>
      have h0:DataW.trod enc P w base spare held n' I [c0]=some y0:=h0
      have h1:DataW.trod enc P w base spare held n' S [c1]=some y1:=h1
      have h2:DataW.trod enc P w base spare held n' R [c2]=some y2:=h2
      obtain ⟨k,_,hk⟩:=trod_i64 hI _ _ _ h0
      obtain ⟨s,hs,hsr⟩:=ints_bulk hS hI cI h1
      have hb:uptoBulk (DataW.agg [y0.1,y1.1,y2.1])=uptoBulk y0.1+(uptoBulk y1.1+(uptoBulk y2.1+0))+1:=by simp only [uptoBulk,uptoBulkAll]
      have hb':uptoBulk (DataW.agg [y0.1,y1.1,y2.1],y0.2++(y1.2++y2.2)).1=uptoBulk (DataW.agg [y0.1,y1.1,y2.1]):=rfl
      have hkids:∃ l:List Rx,Rx.sizes l+1≤uptoBulk y2.1∧Rep w (fun _=>False) c2 (.sl (Rx.avs l)):=by
        rcases open_slice hR h2 with ⟨h3,hx⟩|⟨a,len,cap,m',n2,D,Pl,h3,hba,hl,hmx,hmm,hx,hall⟩
        · simp only [List.cons.injEq, and_true] at h3
          subst h3
          refine ⟨[],by rw [hx];simp [uptoBulk,Rx.sizes],?_⟩
          rw [avs_eq]
          exact .sl none 0 0 [] 1 (fun _=>undef) rfl (Nat.le_refl _) (fun x hx=>by cases hx) (fun h=>absurd h (by omega)) (fun j d hd=>by simp [flat] at hd) (fun j d hd=>by simp [flat] at hd)
        · simp only [List.cons.injEq, and_true] at h3
          subst h3
          have hlm:len≤m':=by rw [hmm];split<;>omega
          have hby:uptoBulk y2.1=uptoBulkAll ((List.range len).map D)+uptoBulkAll ((List.range (m'-len)).map fun j=>D (len+j))+1:=by rw [hx];simp only [uptoBulk]
          rw [cellsOf_of cT] at hall
          obtain ⟨l,hll,hlp⟩:=choose_list (p:=fun i r=>Rx.size r≤uptoBulk (D i)∧∃ cs',w.cells? base (a.add (i*3)) 3=some cs'∧cs'.length=3∧RxC w cs' r) len fun i hi=>by
            obtain ⟨cs',hc1,hc2⟩:=hall i (by omega)
            have hbi:=bulkAll_mem D hi
            obtain ⟨r,hr1,hr2,hr3⟩:=trod_rx hT e0 e1 e2 hI hS hR cI cS cR cT m n2 cs' (D i,Pl i) (by show uptoBulk (D i)≤m;omega) hc2
            exact ⟨r,hr1,cs',hc1,hr2,hr3⟩
          refine ⟨l,?_,?_⟩
          · have h4 : Rx.sizes l ≤ uptoBulkAll ((List.range len).map D) := by
              have h5:=bulkAll_map D (f:=fun i=>(l.getD i default).size) len fun i hi=>by
                have:=hlp i (l.getD i default) (by rw [List.getD_eq_getElem?_getD,List.getElem?_eq_getElem (by omega)];rfl)
                exact this.1
              refine Nat.le_trans (Nat.le_of_eq ?_) h5
              rw [sizes_sum,← hll]
              congr 1
              refine List.ext_getElem (by simp) fun j h1 h2=>?_
              simp only [List.length_map] at h1
              simp [List.getD_eq_getElem?_getD,List.getElem?_eq_getElem h1]
            omega
          · have hk3 : ∀ z ∈ Rx.avs l, (AV.cells z).length = 3 := fun z hz => by
              rw [avs_eq] at hz
              obtain ⟨r,_,rfl⟩:=List.mem_map.1 hz;rfl
            have hlen:(Rx.avs l).length=len:=by rw [avs_eq,List.length_map,hll]
            have hget:∀ (j:Nat) d,(flat (Rx.avs l))[j]?=some d→∃ i o r,j=i*3+o∧o<3∧i<len∧l[i]?=some r∧(rxc r)[o]?=some d:=fun j d hd=>by
              have hj:=(List.getElem?_eq_some_iff.1 hd).1
              rw [flat_length _ hk3,hlen] at hj
              have hi:j / 3<len:=by omega
              have hr:l[j / 3]?=some l[j / 3]:=List.getElem?_eq_getElem (by omega)
              have h6:=flat_get (Rx.avs l) (j / 3) (rx l[j / 3]) hk3 (by rw [avs_eq,List.getElem?_map,hr];rfl) (j % 3) (by omega)
              rw [show j / 3*3+j % 3=j by omega,hd] at h6
              exact ⟨j / 3,j % 3,_,by omega,by omega,hi,hr,h6.symm⟩
            obtain ⟨b,o,sp⟩:=a
            have hplace:∀ i,i<len→∃ cs':List Value,(∀ j,j<3→w.cell? ((⟨b,o,sp⟩:Addr).add (i*3+j))=cs'[j]?)∧cs'.length=3:=fun i hi=>by
              obtain ⟨_,cs',hc1,hc2,_⟩:=hlp i _ (List.getElem?_eq_getElem (show i<l.length by omega))
              obtain ⟨_,_,h7⟩:=World.cells?_some hc1
              exact ⟨cs',fun j hj=>by rw [← h7 j hj,add_add],hc2⟩
            have hsp:0<len→sp=none∧b<w.heap.size:=fun h0=>by
              obtain ⟨cs',h7,h8⟩:=hplace 0 h0
              have h9:=h7 0 (by omega)
              rw [List.getElem?_eq_getElem (by omega)] at h9
              have h10:w.cell? ⟨b,o,sp⟩=some cs'[0]:=by simpa [Addr.add] using h9
              have h11:sp=none:=World.cell?_spot h10
              subst h11
              exact ⟨rfl,World.block_lt_of_cell? w ⟨b,o,none⟩ h10⟩
            refine .sl _ len cap (Rx.avs l) 3 (fun j=>(w.cell? ⟨b,o+j,none⟩).getD undef) hlen hl hk3 (fun h0=>?_) (fun j d hd=>?_) (fun j d hd=>?_)
            · obtain ⟨h12, h13⟩ := hsp h0
              subst h12
              refine ⟨b,o,rfl,fun hf=>hf,h13,fun j hj=>?_⟩
              obtain ⟨cs',h7,h8⟩:=hplace (j / 3) (by omega)
              have h9:=h7 (j % 3) (by omega)
              rw [show j / 3*3+j % 3=j by omega,List.getElem?_eq_getElem (by omega),Addr.add_lit] at h9
              rw [h9];rfl
            · obtain ⟨i, o', r, _, _, _, _, h7⟩ := hget j d hd
              match o',h7 with
              | 0,h7=>cases h7;rfl
              | 1,h7=>cases h7;rfl
              | 2,h7=>cases h7;rfl
              | o'+3,h7=>cases h7
            · obtain ⟨i, o', r, rfl, ho, hi, hr, h7⟩ := hget j d hd
              obtain ⟨h12,h13⟩:=hsp (by omega)
              subst h12
              obtain ⟨_,cs',hc1,hc2,hc3⟩:=hlp i r hr
              obtain ⟨_,_,h8⟩:=World.cells?_some hc1
              have h9:=h8 o' ho
              rw [add_add,Addr.add_lit] at h9
              have h10:=hc3 o' d h7
              rw [List.getD_eq_getElem?_getD,← h9] at h10
              exact h10
      obtain ⟨l,hl,hlr⟩:=hkids
      refine ⟨.mk k s l,?_,rfl,?_⟩
      · rw [hb', hb, Rx.size]
        have:=bulk_pos y0.1
        omega
      · intro j d hd
        match j,hd with
        | 0,hd=>cases hd;exact hk
        | 1,hd=>cases hd;exact hsr
        | 2,hd=>cases hd;exact hlr
        | j+3,hd=>cases hd
theorem open_rxA {T I S R:TypeId} {f0 f1 f2:Field} (hT:P.underlying T=some (.struct #[f0,f1,f2])) (e0:f0.type=I∧f0.offset=0) (e1:f1.type=S∧f1.offset=1) (e2:f2.type=R∧f2.offset=2)
    (hI:P.underlying I=some (.int .i64)) (hS:P.underlying S=some (.slice I)) (hR:P.underlying R=some (.slice T)) (cI:szOf P I=some 1) (cS:szOf P S=some 1) (cR:szOf P R=some 1) (cT:szOf P T=some 3)
    {r:Reach} {b0:Nat} {v:Value} {d:DataW H} {ps:List MemPlace} (hval:Value.okWide P w r b0 T v) (hd:DataW.Trod enc P w base spare held T v d ps) :
    ∃ x:Rx,x.size≤uptoBulk d∧Rep w (fun _=>False) v (rx x):=by
  obtain ⟨n,hn⟩:=hd
  obtain ⟨cs,rfl,hc⟩:=okWide_struct hT hval
  obtain ⟨x,h1,h2,h3⟩:=trod_rx hT e0 e1 e2 hI hS hR cI cS cR cT _ n _ _ (Nat.le_refl _) hn
  refine ⟨x,h1,?_⟩
  have h4:(Value.agg cs).cells.toList=cs.toList:=rfl
  rw [h4] at h2 h3
  have h5:(Value.agg cs)=.agg cs.toList.toArray:=by rw [Array.toArray_toList]
  rw [h5]
  refine .agg cs.toList (rxc x) h2 (fun j d hd=>?_) h3
  match j,hd with
  | 0,hd=>cases hd;rfl
  | 1,hd=>cases hd;rfl
  | 2,hd=>cases hd;rfl
  | j+3,hd=>cases hd
end
end Go.Wb

