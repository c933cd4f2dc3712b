/-
  Part of the proof.
-/
import Derived.Test.YtlapahnodhmcpaaGreatJ0
import Derived.Test.YtlapahnodhmcpaaGreatJ10
import Derived.Test.YtlapahnodhmcpaaGreatRows
import Derived.Test.YtlapahnodhmcpaaGreatJ16
import Derived.Test.YtlapahnodhmcpaaGreatJ20
import Derived.Test.YtlapahnodhmcpaaGreatJ6
set_option linter.unusedVariables false
set_option linter.unusedSectionVars false
set_option linter.unusedSimpArgs false
set_option maxRecDepth 100000
set_option maxHeartbeats 40000000
namespace Go.Proofs.YtlapahnodhmcpaaGreat
open Go.Am
theorem mixed:Tryz.prog.follows .mixedOrders=true:=acL
theorem wu:bY Tryz.prog 3=some 1:=acL
theorem Sb:bo Tryz.prog 3=some false:=acL
theorem Uz:iK Tryz.prog 3 1 8=true:=acL
theorem XB:zeroOf Tryz.prog 3=some [.int .i64 0]:=acL
theorem kc:bY Tryz.prog 4=some 1:=acL
theorem Sc:bo Tryz.prog 4=some false:=acL
theorem Yh:iK Tryz.prog 4 1 1=true:=acL
theorem Yi:zeroOf Tryz.prog 4=some [.bool false]:=acL
theorem el5:iK Tryz.prog 5 1 1=true:=acL
theorem Yj:bY Tryz.prog 9=some 1:=acL
theorem Z6:bo Tryz.prog 9=some false:=acL
theorem XC:iK Tryz.prog 9 1 16=true:=acL
theorem Cw:bY Tryz.prog 22=some 1:=acL
theorem Kl:bo Tryz.prog 22=some false:=acL
theorem sx:iK Tryz.prog 22 1 24=true:=acL
theorem Yk:(Tryz.prog.info? 22).bind (·.zero)=some (.slice none 0 0):=acL
theorem Vh:zeroOf Tryz.prog 22=some [.slice none 0 0]:=acL
theorem Yl:bY Tryz.prog 25=some 1:=acL
theorem Ym:bo Tryz.prog 25=some false:=acL
theorem Vi:bY Tryz.prog 27=some 1:=acL
theorem Yn:bo Tryz.prog 27=some false:=acL
theorem jN:bY Tryz.prog 29=some 4:=acL
theorem lO:bo Tryz.prog 29=some true:=acL
theorem Yo:zeroOf Tryz.prog 29=some [.slice none 0 0,.slice none 0 0,.slice none 0 0,.slice none 0 0]:=acL
theorem Yp:placesOf Tryz.prog 29=some [(0,1),(1,1),(2,1),(3,1)]:=acL
theorem Vj:bY Tryz.prog 30=some 1:=acL
theorem Yq:bo Tryz.prog 30=some false:=acL
theorem Yr:bY Tryz.prog 35=some 1:=acL
theorem zQ:bo Tryz.prog 35=some false:=acL
theorem Ys:bY Tryz.prog 39=some 1:=acL
theorem Yt:bo Tryz.prog 39=some false:=acL
theorem QA:bY Tryz.prog 41=some 6:=acL
theorem TQ:bo Tryz.prog 41=some true:=acL
theorem TR:zeroOf Tryz.prog 41=some [.slice none 0 0,.slice none 0 0,.slice none 0 0,.slice none 0 0,.slice none 0 0,.slice none 0 0]:=acL
theorem Vk:placesOf Tryz.prog 41=some [(0,4),(4,1),(5,1)]:=acL
theorem Vl:bY Tryz.prog 46=some 1:=acL
theorem Vm:iK Tryz.prog 46 1 24=true:=acL
theorem Vn:bY Tryz.prog 50=some 1:=acL
theorem Km:bo Tryz.prog 50=some false:=acL
theorem Yu:bY Tryz.prog 52=some 1:=acL
theorem Yv:bo Tryz.prog 52=some false:=acL
theorem GW:bY Tryz.prog 64=some 4:=acL
theorem QB:bo Tryz.prog 64=some true:=acL
theorem Cx:zeroOf Tryz.prog 64=some [.string ⟨#[]⟩,.slice none 0 0,.slice none 0 0,.slice none 0 0]:=acL
theorem EI:placesOf Tryz.prog 64=some [(0,1),(1,1),(2,1),(3,1)]:=acL
theorem Kn:bY Tryz.prog 69=some 5:=acL
theorem Yw:iK Tryz.prog 69 5 96=true:=acL
theorem Vo:bY Tryz.prog 72=some 2:=acL
theorem EJ:iK Tryz.prog 72 2 40=true:=acL
theorem TS:zeroOf Tryz.prog 72=some [.slice none 0 0,.string ⟨#[]⟩]:=acL
theorem Yx:placesOf Tryz.prog 72=some [(0,1),(1,1)]:=acL
theorem Cy:bY Tryz.prog 85=some 1:=acL
theorem Ko:bo Tryz.prog 85=some false:=acL
theorem ca:bY Tryz.prog 87=some 3:=acL
theorem ja:bo Tryz.prog 87=some true:=acL
theorem ju:iK Tryz.prog 87 3 56=true:=acL
theorem o3:zeroOf Tryz.prog 87=some [.int .i64 0,.slice none 0 0,.slice none 0 0]:=acL
theorem GX:placesOf Tryz.prog 87=some [(0,1),(1,1),(2,1)]:=acL
theorem QC:bY Tryz.prog 89=some 8:=acL
theorem TT:bo Tryz.prog 89=some true:=acL
theorem Yy:iK Tryz.prog 89 8 152=true:=acL
theorem QD:bY Tryz.prog 95=some 1:=acL
theorem QE:bo Tryz.prog 95=some false:=acL
theorem Cz:bY Tryz.prog 97=some 6:=acL
theorem TU:bo Tryz.prog 97=some true:=acL
theorem QF:iK Tryz.prog 97 6 104=true:=acL
theorem QG:zeroOf Tryz.prog 97=some [.string ⟨#[]⟩,.int .i64 0,.slice none 0 0,.slice none 0 0,.int .i64 0,.slice none 0 0]:=acL
theorem TV:placesOf Tryz.prog 97=some [(0,1),(1,3),(4,1),(5,1)]:=acL
theorem Iv:bo Tryz.prog 100=some false:=acL
theorem Vp:zeroOf Tryz.prog 102=some [.slice none 0 0,.slice none 0 0,.map none]:=acL
theorem Vq:placesOf Tryz.prog 102=some [(0,1),(1,1),(2,1)]:=acL
theorem Vr:iK Tryz.prog 107 2 16=true:=acL
theorem N0:(Tryz.prog.info? 109).bind (·.zero)=some (.slice none 0 0):=acL
theorem Iw:bY Tryz.prog 112=some 4:=acL
theorem Sd:bo Tryz.prog 112=some true:=acL
theorem Iy:iK Tryz.prog 112 4 88=true:=acL
theorem N1:zeroOf Tryz.prog 112=some [.string ⟨#[]⟩,.slice none 0 0,.slice none 0 0,.slice none 0 0]:=acL
theorem N2:placesOf Tryz.prog 112=some [(0,1),(1,1),(2,1),(3,1)]:=acL
theorem Vs:iK Tryz.prog 122 2 40=true:=acL
theorem Vt:bY Tryz.prog 132=some 2:=acL
theorem Vu:zeroOf Tryz.prog 132=some [.int .i64 0,.slice none 0 0]:=acL
theorem Iz:pv Tryz.prog 132 0=some (0,0+1,false):=acL
theorem na:bY Tryz.prog 134=some 1:=acL
theorem km:bo Tryz.prog 134=some false:=acL
theorem Se:iK Tryz.prog 134 1 24=true:=acL
theorem Vv:bY Tryz.prog 143=some 5:=acL
theorem QH:pv Tryz.prog 143 1=some (1,0+1,false):=acL
theorem Sf:bY Tryz.prog 160=some 12:=acL
theorem Vw:bo Tryz.prog 160=some true:=acL
theorem nY:zeroOf Tryz.prog 160=some [.string ⟨#[]⟩,.int .i64 0,.slice none 0 0,.slice none 0 0,.int .i64 0,.slice none 0 0,.string ⟨#[]⟩,.slice none 0 0,.slice none 0 0,.slice none 0 0,.slice none 0 0,.slice none 0 0]:=acL
theorem pz:placesOf Tryz.prog 160=some [(0,6),(6,4),(10,1),(11,1)]:=acL
theorem Sg:bY Tryz.prog 259=some 1:=acL
theorem mA:bo Tryz.prog 259=some false:=acL
def n8:List (Option (Nat×Nat×Bool)):=[none,none,none,none,none,none,none,none]
def XN:List (Nat×Da):=[(2,⟨some 1,some false,some [.int .i64 0],none,n8,none,some 8⟩),
 (3,⟨some 1,some false,some [.int .i64 0],none,n8,none,some 8⟩),
 (4,⟨some 1,some false,some [.bool false],none,n8,none,some 1⟩),
 (5,⟨some 1,some false,some [.int .u8 0],none,n8,none,some 1⟩),
 (6,⟨some 1,some false,some [.int .u8 0],none,n8,none,some 1⟩),
 (7,⟨some 4,some true,some [.int .i64 0,.int .i64 0,.bool false,.int .u8 0],some [(0,1),(1,1),(2,1),(3,1)],[some (0,1,false),some (1,1,false),some (2,1,false),some (3,1,false),none,none,none,none],none,some 24⟩),
 (8,⟨some 4,some true,some [.int .i64 0,.int .i64 0,.bool false,.int .u8 0],some [(0,1),(1,1),(2,1),(3,1)],[some (0,1,false),some (1,1,false),some (2,1,false),some (3,1,false),none,none,none,none],none,some 24⟩),
 (9,⟨some 1,some false,some [.string ⟨#[]⟩],none,n8,none,some 16⟩),
 (10,⟨some 1,some false,some [.string ⟨#[]⟩],none,n8,none,some 16⟩),
 (11,⟨some 1,some false,some [.string ⟨#[]⟩],none,n8,none,some 16⟩),
 (12,⟨some 1,some false,some [.int .u64 0],none,n8,none,some 8⟩),
 (13,⟨some 2,some true,some [.string ⟨#[]⟩,.int .u64 0],some [(0,1),(1,1)],[some (0,1,false),some (1,1,false),none,none,none,none,none,none],none,some 24⟩),
 (14,⟨some 2,some true,some [.string ⟨#[]⟩,.int .u64 0],some [(0,1),(1,1)],[some (0,1,false),some (1,1,false),none,none,none,none,none,none],none,some 24⟩),
 (15,⟨some 1,some false,some [.pointer none],none,n8,none,some 8⟩),
 (16,⟨some 1,some false,some [.pointer none],none,n8,none,some 8⟩),
 (17,⟨some 1,some false,some [.pointer none],none,n8,none,some 8⟩),
 (18,⟨some 1,some true,some [.pointer none],some [(0,1)],[some (0,1,false),none,none,none,none,none,none,none],none,some 8⟩),
 (19,⟨some 1,some true,some [.pointer none],some [(0,1)],[some (0,1,false),none,none,none,none,none,none,none],none,some 8⟩),
 (21,⟨some 1,some false,some [.int .i32 0],none,n8,none,some 4⟩),
 (22,⟨some 1,some false,some [.slice none 0 0],none,n8,some 3,some 24⟩),
 (23,⟨some 1,some false,some [.slice none 0 0],none,n8,some 143,some 24⟩),
 (24,⟨some 1,some false,some [.slice none 0 0],none,n8,some 122,some 24⟩),
 (25,⟨some 1,some false,some [.slice none 0 0],none,n8,some 89,some 24⟩),
 (26,⟨some 1,some false,some [.slice none 0 0],none,n8,some 97,some 24⟩),
 (27,⟨some 1,some false,some [.slice none 0 0],none,n8,some 9,some 24⟩),
 (28,⟨some 4,some true,some [.slice none 0 0,.slice none 0 0,.slice none 0 0,.slice none 0 0],some [(0,1),(1,1),(2,1),(3,1)],[some (0,1,false),some (1,1,false),some (2,1,false),some (3,1,false),none,none,none,none],none,some 96⟩),
 (29,⟨some 4,some true,some [.slice none 0 0,.slice none 0 0,.slice none 0 0,.slice none 0 0],some [(0,1),(1,1),(2,1),(3,1)],[some (0,1,false),some (1,1,false),some (2,1,false),some (3,1,false),none,none,none,none],none,some 96⟩),
 (30,⟨some 1,some false,some [.slice none 0 0],none,n8,some 72,some 24⟩),
 (34,⟨some 1,some false,some [.slice none 0 0],none,n8,some 30,some 24⟩),
 (35,⟨some 1,some false,some [.pointer none],none,n8,none,some 8⟩),
 (36,⟨some 1,some false,some [.int .i64 0],none,n8,none,some 8⟩),
 (39,⟨some 1,some false,some [.slice none 0 0],none,n8,some 46,some 24⟩),
 (40,⟨some 6,some true,some [.slice none 0 0,.slice none 0 0,.slice none 0 0,.slice none 0 0,.slice none 0 0,.slice none 0 0],some [(0,4),(4,1),(5,1)],[some (0,4,true),some (4,1,false),some (5,1,false),none,none,none,none,none],none,some 144⟩),
 (41,⟨some 6,some true,some [.slice none 0 0,.slice none 0 0,.slice none 0 0,.slice none 0 0,.slice none 0 0,.slice none 0 0],some [(0,4),(4,1),(5,1)],[some (0,4,true),some (4,1,false),some (5,1,false),none,none,none,none,none],none,some 144⟩),
 (46,⟨some 1,some false,some [.slice none 0 0],none,n8,some 64,some 24⟩),
 (52,⟨some 1,some false,some [.slice none 0 0],none,n8,some 22,some 24⟩),
 (55,⟨some 1,some false,some [.slice none 0 0],none,n8,some 69,some 24⟩),
 (63,⟨some 4,some true,some [.string ⟨#[]⟩,.slice none 0 0,.slice none 0 0,.slice none 0 0],some [(0,1),(1,1),(2,1),(3,1)],[some (0,1,false),some (1,1,false),some (2,1,false),some (3,1,false),none,none,none,none],none,some 88⟩),
 (64,⟨some 4,some true,some [.string ⟨#[]⟩,.slice none 0 0,.slice none 0 0,.slice none 0 0],some [(0,1),(1,1),(2,1),(3,1)],[some (0,1,false),some (1,1,false),some (2,1,false),some (3,1,false),none,none,none,none],none,some 88⟩),
 (68,⟨some 5,some true,some [.int .i64 0,.string ⟨#[]⟩,.slice none 0 0,.slice none 0 0,.slice none 0 0],some [(0,1),(1,4)],[some (0,1,false),some (1,4,true),none,none,none,none,none,none],none,some 96⟩),
 (69,⟨some 5,some true,some [.int .i64 0,.string ⟨#[]⟩,.slice none 0 0,.slice none 0 0,.slice none 0 0],some [(0,1),(1,4)],[some (0,1,false),some (1,4,true),none,none,none,none,none,none],none,some 96⟩),
 (71,⟨some 2,some true,some [.slice none 0 0,.string ⟨#[]⟩],some [(0,1),(1,1)],[some (0,1,false),some (1,1,false),none,none,none,none,none,none],none,some 40⟩),
 (72,⟨some 2,some true,some [.slice none 0 0,.string ⟨#[]⟩],some [(0,1),(1,1)],[some (0,1,false),some (1,1,false),none,none,none,none,none,none],none,some 40⟩),
 (78,⟨some 1,some false,some [.slice none 0 0],none,n8,some 29,some 24⟩),
 (84,⟨some 1,some false,some [.slice none 0 0],none,n8,some 132,some 24⟩),
 (85,⟨some 1,some false,some [.slice none 0 0],none,n8,some 87,some 24⟩),
 (86,⟨some 3,some true,some [.int .i64 0,.slice none 0 0,.slice none 0 0],some [(0,1),(1,1),(2,1)],[some (0,1,false),some (1,1,false),some (2,1,false),none,none,none,none,none],none,some 56⟩),
 (87,⟨some 3,some true,some [.int .i64 0,.slice none 0 0,.slice none 0 0],some [(0,1),(1,1),(2,1)],[some (0,1,false),some (1,1,false),some (2,1,false),none,none,none,none,none],none,some 56⟩),
 (88,⟨some 8,some true,some [.string ⟨#[]⟩,.slice none 0 0,.int .i64 0,.slice none 0 0,.slice none 0 0,.int .i64 0,.slice none 0 0,.slice none 0 0],some [(0,1),(1,1),(2,3),(5,3)],[some (0,1,false),some (1,1,false),some (2,3,true),some (5,3,true),none,none,none,none],none,some 152⟩),
 (89,⟨some 8,some true,some [.string ⟨#[]⟩,.slice none 0 0,.int .i64 0,.slice none 0 0,.slice none 0 0,.int .i64 0,.slice none 0 0,.slice none 0 0],some [(0,1),(1,1),(2,3),(5,3)],[some (0,1,false),some (1,1,false),some (2,3,true),some (5,3,true),none,none,none,none],none,some 152⟩),
 (95,⟨some 1,some false,some [.slice none 0 0],none,n8,some 112,some 24⟩),
 (96,⟨some 6,some true,some [.string ⟨#[]⟩,.int .i64 0,.slice none 0 0,.slice none 0 0,.int .i64 0,.slice none 0 0],some [(0,1),(1,3),(4,1),(5,1)],[some (0,1,false),some (1,3,true),some (4,1,false),some (5,1,false),none,none,none,none],none,some 104⟩),
 (97,⟨some 6,some true,some [.string ⟨#[]⟩,.int .i64 0,.slice none 0 0,.slice none 0 0,.int .i64 0,.slice none 0 0],some [(0,1),(1,3),(4,1),(5,1)],[some (0,1,false),some (1,3,true),some (4,1,false),some (5,1,false),none,none,none,none],none,some 104⟩),
 (100,⟨some 1,some false,some [.map none],none,n8,none,some 8⟩),
 (101,⟨some 3,some true,some [.slice none 0 0,.slice none 0 0,.map none],some [(0,1),(1,1),(2,1)],[some (0,1,false),some (1,1,false),some (2,1,false),none,none,none,none,none],none,some 56⟩),
 (102,⟨some 3,some true,some [.slice none 0 0,.slice none 0 0,.map none],some [(0,1),(1,1),(2,1)],[some (0,1,false),some (1,1,false),some (2,1,false),none,none,none,none,none],none,some 56⟩),
 (106,⟨some 2,some true,some [.int .i64 0,.int .i64 0],some [(0,1),(1,1)],[some (0,1,false),some (1,1,false),none,none,none,none,none,none],none,some 16⟩),
 (107,⟨some 2,some true,some [.int .i64 0,.int .i64 0],some [(0,1),(1,1)],[some (0,1,false),some (1,1,false),none,none,none,none,none,none],none,some 16⟩),
 (109,⟨some 1,some false,some [.slice none 0 0],none,n8,some 107,some 24⟩),
 (111,⟨some 4,some true,some [.string ⟨#[]⟩,.slice none 0 0,.slice none 0 0,.slice none 0 0],some [(0,1),(1,1),(2,1),(3,1)],[some (0,1,false),some (1,1,false),some (2,1,false),some (3,1,false),none,none,none,none],none,some 88⟩),
 (112,⟨some 4,some true,some [.string ⟨#[]⟩,.slice none 0 0,.slice none 0 0,.slice none 0 0],some [(0,1),(1,1),(2,1),(3,1)],[some (0,1,false),some (1,1,false),some (2,1,false),some (3,1,false),none,none,none,none],none,some 88⟩),
 (121,⟨some 2,some true,some [.string ⟨#[]⟩,.slice none 0 0],some [(0,1),(1,1)],[some (0,1,false),some (1,1,false),none,none,none,none,none,none],none,some 40⟩),
 (122,⟨some 2,some true,some [.string ⟨#[]⟩,.slice none 0 0],some [(0,1),(1,1)],[some (0,1,false),some (1,1,false),none,none,none,none,none,none],none,some 40⟩),
 (131,⟨some 2,some true,some [.int .i64 0,.slice none 0 0],some [(0,1),(1,1)],[some (0,1,false),some (1,1,false),none,none,none,none,none,none],none,some 32⟩),
 (132,⟨some 2,some true,some [.int .i64 0,.slice none 0 0],some [(0,1),(1,1)],[some (0,1,false),some (1,1,false),none,none,none,none,none,none],none,some 32⟩),
 (134,⟨some 1,some false,some [.slice none 0 0],none,n8,some 4,some 24⟩),
 (135,⟨some 1,some false,some [.slice none 0 0],none,n8,some 193,some 24⟩),
 (136,⟨some 2,some true,some [.slice none 0 0,.slice none 0 0],some [(0,1),(1,1)],[some (0,1,false),some (1,1,false),none,none,none,none,none,none],none,some 48⟩),
 (137,⟨some 2,some true,some [.slice none 0 0,.slice none 0 0],some [(0,1),(1,1)],[some (0,1,false),some (1,1,false),none,none,none,none,none,none],none,some 48⟩),
 (142,⟨some 5,some true,some [.string ⟨#[]⟩,.int .i64 0,.int .i64 0,.int .i64 0,.int .i64 0],some [(0,1),(1,1),(2,1),(3,1),(4,1)],[some (0,1,false),some (1,1,false),some (2,1,false),some (3,1,false),some (4,1,false),none,none,none],none,some 48⟩),
 (143,⟨some 5,some true,some [.string ⟨#[]⟩,.int .i64 0,.int .i64 0,.int .i64 0,.int .i64 0],some [(0,1),(1,1),(2,1),(3,1),(4,1)],[some (0,1,false),some (1,1,false),some (2,1,false),some (3,1,false),some (4,1,false),none,none,none],none,some 48⟩),
 (149,⟨some 1,some false,some [.slice none 0 0],none,n8,some 5,some 24⟩),
 (154,⟨some 1,some false,some [.int .u64 0],none,n8,none,some 8⟩),
 (159,⟨some 12,some true,some [.string ⟨#[]⟩,.int .i64 0,.slice none 0 0,.slice none 0 0,.int .i64 0,.slice none 0 0,.string ⟨#[]⟩,.slice none 0 0,.slice none 0 0,.slice none 0 0,.slice none 0 0,.slice none 0 0],some [(0,6),(6,4),(10,1),(11,1)],[some (0,6,true),some (6,4,true),some (10,1,false),some (11,1,false),none,none,none,none],none,some 240⟩),
 (160,⟨some 12,some true,some [.string ⟨#[]⟩,.int .i64 0,.slice none 0 0,.slice none 0 0,.int .i64 0,.slice none 0 0,.string ⟨#[]⟩,.slice none 0 0,.slice none 0 0,.slice none 0 0,.slice none 0 0,.slice none 0 0],some [(0,6),(6,4),(10,1),(11,1)],[some (0,6,true),some (6,4,true),some (10,1,false),some (11,1,false),none,none,none,none],none,some 240⟩),
 (163,⟨some 3,some true,some [.int .i64 0,.slice none 0 0,.slice none 0 0],some [(0,1),(1,1),(2,1)],[some (0,1,false),some (1,1,false),some (2,1,false),none,none,none,none,none],none,some 56⟩),
 (164,⟨some 3,some true,some [.int .i64 0,.slice none 0 0,.slice none 0 0],some [(0,1),(1,1),(2,1)],[some (0,1,false),some (1,1,false),some (2,1,false),none,none,none,none,none],none,some 56⟩),
 (175,⟨some 1,some false,some [.pointer none],none,n8,none,some 8⟩),
 (177,⟨some 1,some false,some [.slice none 0 0],none,n8,some 187,some 24⟩),
 (178,⟨some 1,some false,some [.slice none 0 0],none,n8,some 135,some 24⟩),
 (179,⟨some 1,some false,some [.map none],none,n8,none,some 8⟩),
 (180,⟨some 3,some true,some [.slice none 0 0,.slice none 0 0,.map none],some [(0,1),(1,1),(2,1)],[some (0,1,false),some (1,1,false),some (2,1,false),none,none,none,none,none],none,some 56⟩),
 (181,⟨some 3,some true,some [.slice none 0 0,.slice none 0 0,.map none],some [(0,1),(1,1),(2,1)],[some (0,1,false),some (1,1,false),some (2,1,false),none,none,none,none,none],none,some 56⟩),
 (182,⟨some 2,some true,some [.int .i64 0,.int .i64 0],some [(0,1),(1,1)],[some (0,1,false),some (1,1,false),none,none,none,none,none,none],none,some 16⟩),
 (183,⟨some 2,some true,some [.int .i64 0,.int .i64 0],some [(0,1),(1,1)],[some (0,1,false),some (1,1,false),none,none,none,none,none,none],none,some 16⟩),
 (184,⟨some 1,some false,some [.slice none 0 0],none,n8,some 183,some 24⟩),
 (186,⟨some 2,some true,some [.slice none 0 0,.slice none 0 0],some [(0,1),(1,1)],[some (0,1,false),some (1,1,false),none,none,none,none,none,none],none,some 48⟩),
 (187,⟨some 2,some true,some [.slice none 0 0,.slice none 0 0],some [(0,1),(1,1)],[some (0,1,false),some (1,1,false),none,none,none,none,none,none],none,some 48⟩),
 (192,⟨some 4,some true,some [.int .i64 0,.int .i64 0,.int .i64 0,.int .i64 0],some [(0,1),(1,1),(2,1),(3,1)],[some (0,1,false),some (1,1,false),some (2,1,false),some (3,1,false),none,none,none,none],none,some 32⟩),
 (193,⟨some 4,some true,some [.int .i64 0,.int .i64 0,.int .i64 0,.int .i64 0],some [(0,1),(1,1),(2,1),(3,1)],[some (0,1,false),some (1,1,false),some (2,1,false),some (3,1,false),none,none,none,none],none,some 32⟩),
 (208,⟨some 1,some false,some [.int .i64 0],none,n8,none,some 8⟩),
 (216,⟨some 1,some false,some [.int .u32 0],none,n8,none,some 4⟩),
 (218,⟨some 1,some false,some [.int .u64 0],none,n8,none,some 8⟩),
 (228,⟨some 1,some false,some [.map none],none,n8,none,some 8⟩),
 (242,⟨some 1,some false,some [.map none],none,n8,none,some 8⟩),
 (245,⟨some 1,some false,some [.map none],none,n8,none,some 8⟩),
 (257,⟨some 1,some false,some [.map none],none,n8,none,some 8⟩),
 (265,⟨some 1,some false,some [.int .u64 0],none,n8,none,some 8⟩),
 (269,⟨some 1,some false,some [.pointer none],none,n8,none,some 8⟩),
 (276,⟨some 1,some false,some [.map none],none,n8,none,some 8⟩),
 (289,⟨some 1,some false,some [.slice none 0 0],none,n8,some 134,some 24⟩),
 (294,⟨some 1,some false,some [.pointer none],none,n8,none,some 8⟩),
 (300,⟨some 1,some false,some [.map none],none,n8,none,some 8⟩),
 (303,⟨some 1,some false,some [.slice none 0 0],none,n8,some 137,some 24⟩),
 (332,⟨some 4,some true,some [.pointer none,.pointer none,.pointer none,.string ⟨#[]⟩],some [(0,1),(1,1),(2,1),(3,1)],[some (0,1,false),some (1,1,false),some (2,1,false),some (3,1,false),none,none,none,none],none,some 40⟩),
 (333,⟨some 4,some true,some [.pointer none,.pointer none,.pointer none,.string ⟨#[]⟩],some [(0,1),(1,1),(2,1),(3,1)],[some (0,1,false),some (1,1,false),some (2,1,false),some (3,1,false),none,none,none,none],none,some 40⟩),
 (337,⟨some 1,some false,some [.int .u8 0],none,n8,none,some 1⟩),
 (338,⟨some 1,some false,some [.int .u8 0],none,n8,none,some 1⟩),
 (340,⟨some 1,some false,some [.pointer none],none,n8,none,some 8⟩),
 (341,⟨some 1,some false,some [.int .i32 0],none,n8,none,some 4⟩),
 (342,⟨some 1,some false,some [.int .i32 0],none,n8,none,some 4⟩),
 (343,⟨some 11,some true,some [.int .u64 0,.int .u64 0,.int .u32 0,.int .u8 0,.int .u8 0,.int .u8 0,.int .u8 0,.nilFunc,.pointer none,.int .i32 0,.int .i32 0],some [(0,1),(1,1),(2,1),(3,1),(4,1),(5,1),(6,1),(7,1),(8,1),(9,1),(10,1)],[some (0,1,false),some (1,1,false),some (2,1,false),some (3,1,false),some (4,1,false),some (5,1,false),some (6,1,false),some (7,1,false)],none,some 48⟩),
 (344,⟨some 11,some true,some [.int .u64 0,.int .u64 0,.int .u32 0,.int .u8 0,.int .u8 0,.int .u8 0,.int .u8 0,.nilFunc,.pointer none,.int .i32 0,.int .i32 0],some [(0,1),(1,1),(2,1),(3,1),(4,1),(5,1),(6,1),(7,1),(8,1),(9,1),(10,1)],[some (0,1,false),some (1,1,false),some (2,1,false),some (3,1,false),some (4,1,false),some (5,1,false),some (6,1,false),some (7,1,false)],none,some 48⟩)]
theorem tb:eX Tryz.prog XN:=⟨acL,mixed⟩
open Go.We
abbrev Vx:=dF 4 Tryz.func247
theorem nb {n:Nat}{q:Bool}(hn:n≤1099511627776):xH Tryz.prog 247 [int n,bool q] 134 (br 4 (b9 (n+1) (Em q))):=by
 refine nt Vx (aah J) fun w0 M0 aa=>?_
 refine c4 [1007,4] [0,1,5] [5] ?_;refine Gh 5 aa J J J ?_;refine gz [5] [0,1,5,6] [5] ?_;refine lr (fun zl zo zm zs=>∃i:Nat,zm=n+1-i∧(i≤n+1)∧zs=eJ 25 [(6,vvw (int i))] zl [(5,.nar 134 (br 4 ((List.range i).map fun i=>fZ (n+1) (Em q i))) none)] zo) ?_ ?_;exact⟨_,0,rfl,aan _,rfl⟩;rintro zm zs ⟨i,rfl,aY,rfl⟩;refine wS [3008] [0,1,5,6,10] [5] ?_ ?_<;>intro h1;refine wZ [8,5000] ?_;refine oS J (qN J J J J Tryz.underlying134 Yh Yi J J J acK acK acK aa) J ?_;refine wA [8] [0,1,5,6,7,16,17,18] [5,15] ?_;refine oP J (aE J Tryz.underlying134 kc J J J (by rw[abo];omega)) ?_;refine oS J (ay J J J kc J J (M8 acK) J J (.inl J) J (aah J) aa) J ?_;refine wA [5] [0,1,6,20,21] [5,15] ?_;refine oS J (JJ J J J J J J Tryz.underlying289 Se J J aa) J ?_;refine wA [0] [0,1,6,20,22] [5,22] ?_;refine oS J (JK J J J J J Tryz.underlying289 Se J J J J (Nat.succ_pos _) (by rw[cA,aai,aaA];simp only[aam,aat];omega) (by rw[cA,aai,aaA];simp only[aam,aat];omega) aa) J ?_;refine wA [6,9002] [0,1,5,6] [5] ?_;refine⟨_,⟨i+1,rfl,acK,?_⟩,acK⟩;rw[P4 _ n q acK];rfl;refine wZ [13] ?_;refine xI J J ?_;obtain rfl:i=n+1:=acK;rfl
abbrev Vy:=dF 4 Tryz.func248
theorem CA {n:Nat}{a b:Nat→Nat→Bool}(hn:n≤1099511627776):xH Tryz.prog 248 [qj (b9 (n+1) a),qj (b9 (n+1) b)] 134 (br 4 (b9 (n+1) (Ux (n+1) a b))):=by
 refine nt Vy (aah J) fun w0 M0 aa=>?_
 have hla:=cG (n+1) a;have hlb:=cG (n+1) b;refine AD [8,5000] ?_;refine oP J (du (a':=(n:Int)) (qJ J J J acK) acK) ?_;refine wA [0] [0,1,11] [] ?_;refine oS J (mg J J J J J J (nb (n:=n) (q:=false) hn) aa) J ?_;refine wA [10] [0,1,5,6] [12] ?_;refine lp (fun zm zs=>∃i:Nat,zm=(n+1)-i∧(i≤(n+1))∧zs=⟨65,[(0,vvz (qj (b9 (n+1) a))),(1,vvz (qj (b9 (n+1) b))),(5,.nst 12),(6,vvw (int i))],[(12,.nar 134 (br 4 (b9 (n+1) (J0 (n+1) a b i))) none)]⟩) ?_ ?_;refine⟨_,0,rfl,aan _,?_⟩;rw[show b9 (n+1) (Em false)=b9 (n+1) (J0 (n+1) a b 0) from iZ fun i j _ _=>by unfold Em J0;simp];try rfl
 rintro zm zs ⟨i,rfl,aY,rfl⟩;refine wS [5,3003] [0,1,5,6,16] [12] ?_ ?_<;>intro h1;refine wA [6] [0,1,5,6] [12] ?_;refine qP 12 200 aa J J J (wT (N:=(n+1)) (f:=J0 (n+1) a b i) (i:=i) acK) ?_;refine gz [6] [0,1,5,6,7] [12,200] ?_;refine lp (fun zm zs=>∃k:Nat,zm=(n+1)-k∧(i≤k)∧(k≤(n+1))∧zs=⟨65,[(0,vvz (qj (b9 (n+1) a))),(1,vvz (qj (b9 (n+1) b))),(5,.nst 12),(6,vvw (int i)),(7,vvw (int k))],[(12,.nar 134 (br 4 (b9 (n+1) (J0 (n+1) a b i))) (some (i,.arr 200))),(200,.arr 4 ((fZ (n+1) (oV a b i k)).map bool))]⟩) ?_ ?_;refine⟨_,i,rfl,aak _,acK,?_⟩;rw[show fZ (n+1) (J0 (n+1) a b i i)=fZ (n+1) (oV a b i i) from iv fun l _=>by rw[JY];unfold J0;rw[decide_eq_false (Nat.lt_irrefl i)];rfl];try rfl
 rintro zm zs ⟨k,rfl,fu,gi,rfl⟩;refine wS [5,3003] [0,1,5,6,7,23] [12,200] ?_ ?_<;>intro h2;refine wA [12] [0,1,5,6,7,8] [12,200] ?_;refine lp (fun zm zs=>∃j:Nat,zm=(n+1)-j∧(k≤j)∧(j≤(n+1))∧zs=⟨65,[(0,vvz (qj (b9 (n+1) a))),(1,vvz (qj (b9 (n+1) b))),(5,.nst 12),(6,vvw (int i)),(7,vvw (int k)),(8,vvw (int j))],[(12,.nar 134 (br 4 (b9 (n+1) (J0 (n+1) a b i))) (some (i,.arr 200))),(200,.arr 4 ((fZ (n+1) (Dc a b i k j)).map bool))]⟩) ?_ ?_;refine⟨_,k,rfl,aak _,acK,?_⟩;rw[show fZ (n+1) (oV a b i k)=fZ (n+1) (Dc a b i k k) from iv fun l _=>(JZ a b i k l).symm];try rfl
 rintro zm zs ⟨j,rfl,A8,Z7,rfl⟩;have Z8:((b9 (n+1) a).getD i default).getD k default=a i k:=by rw[kM acK,fC acK]
 refine wS [5,4002] [0,1,5,6,7,8,31] [12,200] ?_ ?_<;>intro h3';refine wA [2,2] [0,1,5,6,7,8,31,35,36] [12,200] ?_;refine oP J (dS J Tryz.underlying134 kc J J (by(try simp only[abC]);rw[kM acK,bH];omega) (fun _=>rfl)) ?_;refine wS [3004] [0,1,5,6,7,8,39] [12,200] ?_ ?_<;>intro h4;refine wA [2005,2] [0,1,5,6,7,8,42,43] [12,200] ?_;refine oD J J J (da J Tryz.underlying289 na J J J (by rw[cA,cG];omega)) ?_;refine oD J J J (db J km J J) ?_;refine wA [3] [0,1,5,6,7,8,45,46,47,48] [12,200] ?_;refine oD J J J (da J Tryz.underlying289 na J J J (by rw[cA,cG];omega)) ?_;refine oD J J J (db J km J J) ?_;refine wA [1] [0,1,5,6,7,8,45,46,50,51] [12,200] ?_;refine oD J J J (aE J Tryz.underlying134 kc J J J (by rw[aai,bH];omega)) ?_;refine oD J J J (fh J Sc J J (iC (by rw[bH];omega)) J) ?_;refine wS [7001] [0,1,5,6,7,8,45,46,54] [12,200] ?_ ?_<;>intro h5';refine wA [8] [0,1,5,6,7,8,45,46,62] [12,200] ?_;refine oD J J J (aE J Tryz.underlying134 kc J J J (by rw[aai,bH];omega)) ?_;refine cT acL ?_;refine dE J (ay J J J kc J J (iC (by rw[bH];omega)) J J (.inl J) J (aah J) aa) ?_;refine fe ?_;refine iS [4,9002] [0,1,5,6,7,8] [12,200] ?_;refine⟨_,⟨j+1,rfl,acK,acK,?_⟩,acK⟩;rw [← j6 (g := Dc a b i k j) (v := true) (g' := Dc a b i k (j + 1)) (j := j) acK fun l hl => by
     rw[En acK (Z8.symm.trans acN),show Dc a b i k j j=true from(fC (N:=n+1) acK).symm.trans acN];rfl]
 try rfl
 refine wA [6002,2] [0,1,5,6,7,8,45,46,54,58,59] [12,200] ?_;refine oD J J J (dS J Tryz.underlying134 kc J J (by(try simp only[abC]);rw[kM acK,bH];omega) (fun _=>rfl)) ?_;refine wA [2] [0,1,5,6,7,8,45,46,62] [12,200] ?_;refine oD J J J (aE J Tryz.underlying134 kc J J J (by rw[aai,bH];omega)) ?_;refine cT acL ?_;refine dE J (ay J J J kc J J (iC (by rw[bH];omega)) J J (.inl J) J (aah J) aa) ?_;refine fe ?_;refine iS [4,9002] [0,1,5,6,7,8] [12,200] ?_;refine⟨_,⟨j+1,rfl,acK,acK,?_⟩,acK⟩;have e:((b9 (n+1) b).getD k default).getD j default=b k j:=by rw[kM acK,fC acK]
 rw [← j6 (g := Dc a b i k j) (v := ((b9 (n + 1) b).getD k default).getD j default) (g' := Dc a b i k (j + 1)) (j := j) acK fun l hl => by
     rw[e,En acK (Z8.symm.trans acN),show Dc a b i k j j=false from(fC (N:=n+1) acK).symm.trans acN];rfl]
 try rfl
 refine wA [9,9002] [0,1,5,6,7] [12,200] ?_;rotate_left;refine wA [19,9002] [0,1,5,6,7] [12,200] ?_;rotate_left;refine wA [7] [0,1,5,6] [12,200] ?_;obtain rfl:k=(n+1):=acK;refine kI 12 200 aa J J (by rw[cA,cG];omega) J ?_;refine gz [2,9002] [0,1,5,6] [12] ?_;refine⟨_,⟨i+1,rfl,acK,?_⟩,acK⟩;rw [← rf (f := J0 (n + 1) a b i) (g := oV a b i (n + 1)) (i := i) acK (f' := J0 (n + 1) a b (i + 1)) fun k l hk hl => by
     unfold J0;by_cases q:k=i
     · subst q;rw[if_pos rfl,decide_eq_true acK];rfl
     · rw[if_neg q,show decide (k<i+1)=decide (k<i) from decide_eq_decide.2 acK]]
 try rfl
 refine wZ [13] ?_;refine xI J J ?_;obtain rfl:i=(n+1):=acK;rw[show b9 (n+1) (J0 (n+1) a b (n+1))=b9 (n+1) (Ux (n+1) a b) from iZ fun k l hk _=>by unfold J0;rw[decide_eq_true hk];rfl]
 all_goals
   refine⟨_,⟨k+1,rfl,acK,acK,?_⟩,acK⟩;rw[show fZ (n+1) (Dc a b i k j)=fZ (n+1) (oV a b i (k+1)) from iv fun l hl=>P5 acK (by first|exact .inl acK|(refine .inr ?_;simp_all))];try rfl
end Go.Proofs.YtlapahnodhmcpaaGreat
