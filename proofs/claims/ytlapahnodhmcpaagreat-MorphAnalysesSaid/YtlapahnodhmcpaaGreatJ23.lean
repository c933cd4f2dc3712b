/-
  Part of the proof.
-/
import Derived.Test.YtlapahnodhmcpaaGreatJ0
import Derived.Test.YtlapahnodhmcpaaGreatJ10
import Derived.Test.YtlapahnodhmcpaaGreatRows
import Derived.Test.YtlapahnodhmcpaaGreatJ16
import Derived.Test.YtlapahnodhmcpaaGreatJ19
import Derived.Test.YtlapahnodhmcpaaGreatJ6
set_option linter.unusedVariables false
set_option linter.unusedSectionVars false
set_option linter.unusedSimpArgs false
set_option maxRecDepth 100000
set_option maxHeartbeats 40000000
namespace Go.Proofs.YtlapahnodhmcpaaGreat
open Go.Am
theorem mixed:Tryz.prog.follows .mixedOrders=true:=acf
theorem y3:bW Tryz.prog 3=some 1:=acf
theorem PL:bn Tryz.prog 3=some false:=acf
theorem Ux:iS Tryz.prog 3 1 8=true:=acf
theorem Xs:zeroOf Tryz.prog 3=some [.int .i64 0]:=acf
theorem j4:bW Tryz.prog 4=some 1:=acf
theorem Rp:bn Tryz.prog 4=some false:=acf
theorem Xt:iS Tryz.prog 4 1 1=true:=acf
theorem Xu:zeroOf Tryz.prog 4=some [.bool false]:=acf
theorem ZP:iS Tryz.prog 5 1 1=true:=acf
theorem Xv:bW Tryz.prog 9=some 1:=acf
theorem Uy:bn Tryz.prog 9=some false:=acf
theorem Uz:iS Tryz.prog 9 1 16=true:=acf
theorem BP:bW Tryz.prog 22=some 1:=acf
theorem F5:bn Tryz.prog 22=some false:=acf
theorem tc:iS Tryz.prog 22 1 24=true:=acf
theorem Xw:(Tryz.prog.info? 22).bind (·.zero)=some (.slice none 0 0):=acf
theorem UA:zeroOf Tryz.prog 22=some [.slice none 0 0]:=acf
theorem Xx:bW Tryz.prog 25=some 1:=acf
theorem PM:bn Tryz.prog 25=some false:=acf
theorem PN:bn Tryz.prog 26=some false:=acf
theorem UB:bW Tryz.prog 27=some 1:=acf
theorem Xy:bn Tryz.prog 27=some false:=acf
theorem l8:bW Tryz.prog 29=some 4:=acf
theorem pS:bn Tryz.prog 29=some true:=acf
theorem Xz:zeroOf Tryz.prog 29=some [.slice none 0 0,.slice none 0 0,.slice none 0 0,.slice none 0 0]:=acf
theorem XA:placesOf Tryz.prog 29=some [(0,1),(1,1),(2,1),(3,1)]:=acf
theorem F6:ew Tryz.prog 29 1=some (1,0+1,false):=acf
theorem BQ:ew Tryz.prog 29 2=some (2,0+1,false):=acf
theorem XB:bW Tryz.prog 30=some 1:=acf
theorem XC:bn Tryz.prog 30=some false:=acf
theorem XD:bW Tryz.prog 35=some 1:=acf
theorem y4:bn Tryz.prog 35=some false:=acf
theorem XE:bW Tryz.prog 39=some 1:=acf
theorem S8:bn Tryz.prog 39=some false:=acf
theorem Nc:bW Tryz.prog 41=some 6:=acf
theorem Nd:bn Tryz.prog 41=some true:=acf
theorem UC:zeroOf Tryz.prog 41=some [.slice none 0 0,.slice none 0 0,.slice none 0 0,.slice none 0 0,.slice none 0 0,.slice none 0 0]:=acf
theorem UD:placesOf Tryz.prog 41=some [(0,4),(4,1),(5,1)]:=acf
theorem UE:bW Tryz.prog 46=some 1:=acf
theorem UF:bn Tryz.prog 46=some false:=acf
theorem S9:iS Tryz.prog 46 1 24=true:=acf
theorem UG:bW Tryz.prog 50=some 1:=acf
theorem JB:bn Tryz.prog 50=some false:=acf
theorem XF:bW Tryz.prog 52=some 1:=acf
theorem XG:bn Tryz.prog 52=some false:=acf
theorem F7:bW Tryz.prog 64=some 4:=acf
theorem PO:bn Tryz.prog 64=some true:=acf
theorem BR:zeroOf Tryz.prog 64=some [.string ⟨#[]⟩,.slice none 0 0,.slice none 0 0,.slice none 0 0]:=acf
theorem DY:placesOf Tryz.prog 64=some [(0,1),(1,1),(2,1),(3,1)]:=acf
theorem F8:ew Tryz.prog 64 1=some (1,0+1,false):=acf
theorem F9:ew Tryz.prog 64 2=some (2,0+1,false):=acf
theorem Ng:ew Tryz.prog 64 3=some (3,0+1,false):=acf
theorem JC:bW Tryz.prog 69=some 5:=acf
theorem UH:iS Tryz.prog 69 5 96=true:=acf
theorem XH:zeroOf Tryz.prog 69=some [.int .i64 0,.string ⟨#[]⟩,.slice none 0 0,.slice none 0 0,.slice none 0 0]:=acf
theorem XI:placesOf Tryz.prog 69=some [(0,1),(1,4)]:=acf
theorem UI:bW Tryz.prog 72=some 2:=acf
theorem PQ:iS Tryz.prog 72 2 40=true:=acf
theorem Nh:zeroOf Tryz.prog 72=some [.slice none 0 0,.string ⟨#[]⟩]:=acf
theorem Ta:placesOf Tryz.prog 72=some [(0,1),(1,1)]:=acf
theorem Tb:ew Tryz.prog 72 0=some (0,0+1,false):=acf
theorem Tc:ew Tryz.prog 72 1=some (1,0+1,false):=acf
theorem BS:bW Tryz.prog 85=some 1:=acf
theorem JD:bn Tryz.prog 85=some false:=acf
theorem bX:bW Tryz.prog 87=some 3:=acf
theorem iC:bn Tryz.prog 87=some true:=acf
theorem jr:iS Tryz.prog 87 3 56=true:=acf
theorem oI:zeroOf Tryz.prog 87=some [.int .i64 0,.slice none 0 0,.slice none 0 0]:=acf
theorem Ga:placesOf Tryz.prog 87=some [(0,1),(1,1),(2,1)]:=acf
theorem UJ:bW Tryz.prog 89=some 8:=acf
theorem XJ:bn Tryz.prog 89=some true:=acf
theorem UK:iS Tryz.prog 89 8 152=true:=acf
theorem Td:ew Tryz.prog 89 0=some (0,0+1,false):=acf
theorem PR:bW Tryz.prog 95=some 1:=acf
theorem JE:bn Tryz.prog 95=some false:=acf
theorem JF:bW Tryz.prog 97=some 6:=acf
theorem Te:bn Tryz.prog 97=some true:=acf
theorem PT:iS Tryz.prog 97 6 104=true:=acf
theorem Ni:zeroOf Tryz.prog 97=some [.string ⟨#[]⟩,.int .i64 0,.slice none 0 0,.slice none 0 0,.int .i64 0,.slice none 0 0]:=acf
theorem PU:placesOf Tryz.prog 97=some [(0,1),(1,3),(4,1),(5,1)]:=acf
theorem Nj:ew Tryz.prog 97 0=some (0,0+1,false):=acf
theorem Tf:ew Tryz.prog 97 2=some (4,0+1,false):=acf
theorem uz:ew Tryz.prog 97 3=some (5,0+1,false):=acf
theorem HK:bn Tryz.prog 100=some false:=acf
theorem UL:zeroOf Tryz.prog 102=some [.slice none 0 0,.slice none 0 0,.map none]:=acf
theorem UM:placesOf Tryz.prog 102=some [(0,1),(1,1),(2,1)]:=acf
theorem PV:ew Tryz.prog 102 0=some (0,0+1,false):=acf
theorem BU:ew Tryz.prog 102 1=some (1,0+1,false):=acf
theorem wk:ew Tryz.prog 102 2=some (2,0+1,false):=acf
theorem Rq:bW Tryz.prog 107=some 2:=acf
theorem Rr:bn Tryz.prog 107=some true:=acf
theorem Rs:iS Tryz.prog 107 2 16=true:=acf
theorem wm:ew Tryz.prog 107 0=some (0,0+1,false):=acf
theorem BV:ew Tryz.prog 107 1=some (1,0+1,false):=acf
theorem Nk:(Tryz.prog.info? 109).bind (·.zero)=some (.slice none 0 0):=acf
theorem HL:bW Tryz.prog 112=some 4:=acf
theorem Rt:bn Tryz.prog 112=some true:=acf
theorem vn:iS Tryz.prog 112 4 88=true:=acf
theorem xY:zeroOf Tryz.prog 112=some [.string ⟨#[]⟩,.slice none 0 0,.slice none 0 0,.slice none 0 0]:=acf
theorem xZ:placesOf Tryz.prog 112=some [(0,1),(1,1),(2,1),(3,1)]:=acf
theorem PW:ew Tryz.prog 112 0=some (0,0+1,false):=acf
theorem UN:iS Tryz.prog 122 2 40=true:=acf
theorem UO:bW Tryz.prog 132=some 2:=acf
theorem Ru:zeroOf Tryz.prog 132=some [.int .i64 0,.slice none 0 0]:=acf
theorem UP:placesOf Tryz.prog 132=some [(0,1),(1,1)]:=acf
theorem HN:ew Tryz.prog 132 0=some (0,0+1,false):=acf
theorem mM:bW Tryz.prog 134=some 1:=acf
theorem ke:bn Tryz.prog 134=some false:=acf
theorem Rv:iS Tryz.prog 134 1 24=true:=acf
theorem UQ:bW Tryz.prog 143=some 5:=acf
theorem PX:ew Tryz.prog 143 1=some (1,0+1,false):=acf
theorem Rw:bW Tryz.prog 160=some 12:=acf
theorem UR:bn Tryz.prog 160=some true:=acf
theorem nH:zeroOf Tryz.prog 160=some [.string ⟨#[]⟩,.int .i64 0,.slice none 0 0,.slice none 0 0,.int .i64 0,.slice none 0 0,.string ⟨#[]⟩,.slice none 0 0,.slice none 0 0,.slice none 0 0,.slice none 0 0,.slice none 0 0]:=acf
theorem o4:placesOf Tryz.prog 160=some [(0,6),(6,4),(10,1),(11,1)]:=acf
theorem PY:ew Tryz.prog 160 0=some (0,5+1,true):=acf
theorem PZ:ew Tryz.prog 160 2=some (10,0+1,false):=acf
theorem Ry:bW Tryz.prog 259=some 1:=acf
theorem l9:bn Tryz.prog 259=some false:=acf
def n8:List (Option (Nat×Nat×Bool)):=[none,none,none,none,none,none,none,none]
def WW:List (Nat×Cv):=[(2,⟨some 1,some false,some [.int .i64 0],none,n8,none,some 8⟩),
 (3,⟨some 1,some false,some [.int .i64 0],none,n8,none,some 8⟩),
 (4,⟨some 1,some false,some [.bool false],none,n8,none,some 1⟩),
 (5,⟨some 1,some false,some [.int .u8 0],none,n8,none,some 1⟩),
 (6,⟨some 1,some false,some [.int .u8 0],none,n8,none,some 1⟩),
 (7,⟨some 4,some true,some [.int .i64 0,.int .i64 0,.bool false,.int .u8 0],some [(0,1),(1,1),(2,1),(3,1)],[some (0,1,false),some (1,1,false),some (2,1,false),some (3,1,false),none,none,none,none],none,some 24⟩),
 (8,⟨some 4,some true,some [.int .i64 0,.int .i64 0,.bool false,.int .u8 0],some [(0,1),(1,1),(2,1),(3,1)],[some (0,1,false),some (1,1,false),some (2,1,false),some (3,1,false),none,none,none,none],none,some 24⟩),
 (9,⟨some 1,some false,some [.string ⟨#[]⟩],none,n8,none,some 16⟩),
 (10,⟨some 1,some false,some [.string ⟨#[]⟩],none,n8,none,some 16⟩),
 (11,⟨some 1,some false,some [.string ⟨#[]⟩],none,n8,none,some 16⟩),
 (12,⟨some 1,some false,some [.int .u64 0],none,n8,none,some 8⟩),
 (13,⟨some 2,some true,some [.string ⟨#[]⟩,.int .u64 0],some [(0,1),(1,1)],[some (0,1,false),some (1,1,false),none,none,none,none,none,none],none,some 24⟩),
 (14,⟨some 2,some true,some [.string ⟨#[]⟩,.int .u64 0],some [(0,1),(1,1)],[some (0,1,false),some (1,1,false),none,none,none,none,none,none],none,some 24⟩),
 (15,⟨some 1,some false,some [.pointer none],none,n8,none,some 8⟩),
 (16,⟨some 1,some false,some [.pointer none],none,n8,none,some 8⟩),
 (17,⟨some 1,some false,some [.pointer none],none,n8,none,some 8⟩),
 (18,⟨some 1,some true,some [.pointer none],some [(0,1)],[some (0,1,false),none,none,none,none,none,none,none],none,some 8⟩),
 (19,⟨some 1,some true,some [.pointer none],some [(0,1)],[some (0,1,false),none,none,none,none,none,none,none],none,some 8⟩),
 (21,⟨some 1,some false,some [.int .i32 0],none,n8,none,some 4⟩),
 (22,⟨some 1,some false,some [.slice none 0 0],none,n8,some 3,some 24⟩),
 (23,⟨some 1,some false,some [.slice none 0 0],none,n8,some 143,some 24⟩),
 (24,⟨some 1,some false,some [.slice none 0 0],none,n8,some 122,some 24⟩),
 (25,⟨some 1,some false,some [.slice none 0 0],none,n8,some 89,some 24⟩),
 (26,⟨some 1,some false,some [.slice none 0 0],none,n8,some 97,some 24⟩),
 (27,⟨some 1,some false,some [.slice none 0 0],none,n8,some 9,some 24⟩),
 (28,⟨some 4,some true,some [.slice none 0 0,.slice none 0 0,.slice none 0 0,.slice none 0 0],some [(0,1),(1,1),(2,1),(3,1)],[some (0,1,false),some (1,1,false),some (2,1,false),some (3,1,false),none,none,none,none],none,some 96⟩),
 (29,⟨some 4,some true,some [.slice none 0 0,.slice none 0 0,.slice none 0 0,.slice none 0 0],some [(0,1),(1,1),(2,1),(3,1)],[some (0,1,false),some (1,1,false),some (2,1,false),some (3,1,false),none,none,none,none],none,some 96⟩),
 (30,⟨some 1,some false,some [.slice none 0 0],none,n8,some 72,some 24⟩),
 (34,⟨some 1,some false,some [.slice none 0 0],none,n8,some 30,some 24⟩),
 (35,⟨some 1,some false,some [.pointer none],none,n8,none,some 8⟩),
 (36,⟨some 1,some false,some [.int .i64 0],none,n8,none,some 8⟩),
 (39,⟨some 1,some false,some [.slice none 0 0],none,n8,some 46,some 24⟩),
 (40,⟨some 6,some true,some [.slice none 0 0,.slice none 0 0,.slice none 0 0,.slice none 0 0,.slice none 0 0,.slice none 0 0],some [(0,4),(4,1),(5,1)],[some (0,4,true),some (4,1,false),some (5,1,false),none,none,none,none,none],none,some 144⟩),
 (41,⟨some 6,some true,some [.slice none 0 0,.slice none 0 0,.slice none 0 0,.slice none 0 0,.slice none 0 0,.slice none 0 0],some [(0,4),(4,1),(5,1)],[some (0,4,true),some (4,1,false),some (5,1,false),none,none,none,none,none],none,some 144⟩),
 (46,⟨some 1,some false,some [.slice none 0 0],none,n8,some 64,some 24⟩),
 (52,⟨some 1,some false,some [.slice none 0 0],none,n8,some 22,some 24⟩),
 (55,⟨some 1,some false,some [.slice none 0 0],none,n8,some 69,some 24⟩),
 (63,⟨some 4,some true,some [.string ⟨#[]⟩,.slice none 0 0,.slice none 0 0,.slice none 0 0],some [(0,1),(1,1),(2,1),(3,1)],[some (0,1,false),some (1,1,false),some (2,1,false),some (3,1,false),none,none,none,none],none,some 88⟩),
 (64,⟨some 4,some true,some [.string ⟨#[]⟩,.slice none 0 0,.slice none 0 0,.slice none 0 0],some [(0,1),(1,1),(2,1),(3,1)],[some (0,1,false),some (1,1,false),some (2,1,false),some (3,1,false),none,none,none,none],none,some 88⟩),
 (68,⟨some 5,some true,some [.int .i64 0,.string ⟨#[]⟩,.slice none 0 0,.slice none 0 0,.slice none 0 0],some [(0,1),(1,4)],[some (0,1,false),some (1,4,true),none,none,none,none,none,none],none,some 96⟩),
 (69,⟨some 5,some true,some [.int .i64 0,.string ⟨#[]⟩,.slice none 0 0,.slice none 0 0,.slice none 0 0],some [(0,1),(1,4)],[some (0,1,false),some (1,4,true),none,none,none,none,none,none],none,some 96⟩),
 (71,⟨some 2,some true,some [.slice none 0 0,.string ⟨#[]⟩],some [(0,1),(1,1)],[some (0,1,false),some (1,1,false),none,none,none,none,none,none],none,some 40⟩),
 (72,⟨some 2,some true,some [.slice none 0 0,.string ⟨#[]⟩],some [(0,1),(1,1)],[some (0,1,false),some (1,1,false),none,none,none,none,none,none],none,some 40⟩),
 (78,⟨some 1,some false,some [.slice none 0 0],none,n8,some 29,some 24⟩),
 (84,⟨some 1,some false,some [.slice none 0 0],none,n8,some 132,some 24⟩),
 (85,⟨some 1,some false,some [.slice none 0 0],none,n8,some 87,some 24⟩),
 (86,⟨some 3,some true,some [.int .i64 0,.slice none 0 0,.slice none 0 0],some [(0,1),(1,1),(2,1)],[some (0,1,false),some (1,1,false),some (2,1,false),none,none,none,none,none],none,some 56⟩),
 (87,⟨some 3,some true,some [.int .i64 0,.slice none 0 0,.slice none 0 0],some [(0,1),(1,1),(2,1)],[some (0,1,false),some (1,1,false),some (2,1,false),none,none,none,none,none],none,some 56⟩),
 (88,⟨some 8,some true,some [.string ⟨#[]⟩,.slice none 0 0,.int .i64 0,.slice none 0 0,.slice none 0 0,.int .i64 0,.slice none 0 0,.slice none 0 0],some [(0,1),(1,1),(2,3),(5,3)],[some (0,1,false),some (1,1,false),some (2,3,true),some (5,3,true),none,none,none,none],none,some 152⟩),
 (89,⟨some 8,some true,some [.string ⟨#[]⟩,.slice none 0 0,.int .i64 0,.slice none 0 0,.slice none 0 0,.int .i64 0,.slice none 0 0,.slice none 0 0],some [(0,1),(1,1),(2,3),(5,3)],[some (0,1,false),some (1,1,false),some (2,3,true),some (5,3,true),none,none,none,none],none,some 152⟩),
 (95,⟨some 1,some false,some [.slice none 0 0],none,n8,some 112,some 24⟩),
 (96,⟨some 6,some true,some [.string ⟨#[]⟩,.int .i64 0,.slice none 0 0,.slice none 0 0,.int .i64 0,.slice none 0 0],some [(0,1),(1,3),(4,1),(5,1)],[some (0,1,false),some (1,3,true),some (4,1,false),some (5,1,false),none,none,none,none],none,some 104⟩),
 (97,⟨some 6,some true,some [.string ⟨#[]⟩,.int .i64 0,.slice none 0 0,.slice none 0 0,.int .i64 0,.slice none 0 0],some [(0,1),(1,3),(4,1),(5,1)],[some (0,1,false),some (1,3,true),some (4,1,false),some (5,1,false),none,none,none,none],none,some 104⟩),
 (100,⟨some 1,some false,some [.map none],none,n8,none,some 8⟩),
 (101,⟨some 3,some true,some [.slice none 0 0,.slice none 0 0,.map none],some [(0,1),(1,1),(2,1)],[some (0,1,false),some (1,1,false),some (2,1,false),none,none,none,none,none],none,some 56⟩),
 (102,⟨some 3,some true,some [.slice none 0 0,.slice none 0 0,.map none],some [(0,1),(1,1),(2,1)],[some (0,1,false),some (1,1,false),some (2,1,false),none,none,none,none,none],none,some 56⟩),
 (106,⟨some 2,some true,some [.int .i64 0,.int .i64 0],some [(0,1),(1,1)],[some (0,1,false),some (1,1,false),none,none,none,none,none,none],none,some 16⟩),
 (107,⟨some 2,some true,some [.int .i64 0,.int .i64 0],some [(0,1),(1,1)],[some (0,1,false),some (1,1,false),none,none,none,none,none,none],none,some 16⟩),
 (109,⟨some 1,some false,some [.slice none 0 0],none,n8,some 107,some 24⟩),
 (111,⟨some 4,some true,some [.string ⟨#[]⟩,.slice none 0 0,.slice none 0 0,.slice none 0 0],some [(0,1),(1,1),(2,1),(3,1)],[some (0,1,false),some (1,1,false),some (2,1,false),some (3,1,false),none,none,none,none],none,some 88⟩),
 (112,⟨some 4,some true,some [.string ⟨#[]⟩,.slice none 0 0,.slice none 0 0,.slice none 0 0],some [(0,1),(1,1),(2,1),(3,1)],[some (0,1,false),some (1,1,false),some (2,1,false),some (3,1,false),none,none,none,none],none,some 88⟩),
 (121,⟨some 2,some true,some [.string ⟨#[]⟩,.slice none 0 0],some [(0,1),(1,1)],[some (0,1,false),some (1,1,false),none,none,none,none,none,none],none,some 40⟩),
 (122,⟨some 2,some true,some [.string ⟨#[]⟩,.slice none 0 0],some [(0,1),(1,1)],[some (0,1,false),some (1,1,false),none,none,none,none,none,none],none,some 40⟩),
 (131,⟨some 2,some true,some [.int .i64 0,.slice none 0 0],some [(0,1),(1,1)],[some (0,1,false),some (1,1,false),none,none,none,none,none,none],none,some 32⟩),
 (132,⟨some 2,some true,some [.int .i64 0,.slice none 0 0],some [(0,1),(1,1)],[some (0,1,false),some (1,1,false),none,none,none,none,none,none],none,some 32⟩),
 (134,⟨some 1,some false,some [.slice none 0 0],none,n8,some 4,some 24⟩),
 (135,⟨some 1,some false,some [.slice none 0 0],none,n8,some 193,some 24⟩),
 (136,⟨some 2,some true,some [.slice none 0 0,.slice none 0 0],some [(0,1),(1,1)],[some (0,1,false),some (1,1,false),none,none,none,none,none,none],none,some 48⟩),
 (137,⟨some 2,some true,some [.slice none 0 0,.slice none 0 0],some [(0,1),(1,1)],[some (0,1,false),some (1,1,false),none,none,none,none,none,none],none,some 48⟩),
 (142,⟨some 5,some true,some [.string ⟨#[]⟩,.int .i64 0,.int .i64 0,.int .i64 0,.int .i64 0],some [(0,1),(1,1),(2,1),(3,1),(4,1)],[some (0,1,false),some (1,1,false),some (2,1,false),some (3,1,false),some (4,1,false),none,none,none],none,some 48⟩),
 (143,⟨some 5,some true,some [.string ⟨#[]⟩,.int .i64 0,.int .i64 0,.int .i64 0,.int .i64 0],some [(0,1),(1,1),(2,1),(3,1),(4,1)],[some (0,1,false),some (1,1,false),some (2,1,false),some (3,1,false),some (4,1,false),none,none,none],none,some 48⟩),
 (149,⟨some 1,some false,some [.slice none 0 0],none,n8,some 5,some 24⟩),
 (154,⟨some 1,some false,some [.int .u64 0],none,n8,none,some 8⟩),
 (159,⟨some 12,some true,some [.string ⟨#[]⟩,.int .i64 0,.slice none 0 0,.slice none 0 0,.int .i64 0,.slice none 0 0,.string ⟨#[]⟩,.slice none 0 0,.slice none 0 0,.slice none 0 0,.slice none 0 0,.slice none 0 0],some [(0,6),(6,4),(10,1),(11,1)],[some (0,6,true),some (6,4,true),some (10,1,false),some (11,1,false),none,none,none,none],none,some 240⟩),
 (160,⟨some 12,some true,some [.string ⟨#[]⟩,.int .i64 0,.slice none 0 0,.slice none 0 0,.int .i64 0,.slice none 0 0,.string ⟨#[]⟩,.slice none 0 0,.slice none 0 0,.slice none 0 0,.slice none 0 0,.slice none 0 0],some [(0,6),(6,4),(10,1),(11,1)],[some (0,6,true),some (6,4,true),some (10,1,false),some (11,1,false),none,none,none,none],none,some 240⟩),
 (163,⟨some 3,some true,some [.int .i64 0,.slice none 0 0,.slice none 0 0],some [(0,1),(1,1),(2,1)],[some (0,1,false),some (1,1,false),some (2,1,false),none,none,none,none,none],none,some 56⟩),
 (164,⟨some 3,some true,some [.int .i64 0,.slice none 0 0,.slice none 0 0],some [(0,1),(1,1),(2,1)],[some (0,1,false),some (1,1,false),some (2,1,false),none,none,none,none,none],none,some 56⟩),
 (175,⟨some 1,some false,some [.pointer none],none,n8,none,some 8⟩),
 (177,⟨some 1,some false,some [.slice none 0 0],none,n8,some 187,some 24⟩),
 (178,⟨some 1,some false,some [.slice none 0 0],none,n8,some 135,some 24⟩),
 (179,⟨some 1,some false,some [.map none],none,n8,none,some 8⟩),
 (180,⟨some 3,some true,some [.slice none 0 0,.slice none 0 0,.map none],some [(0,1),(1,1),(2,1)],[some (0,1,false),some (1,1,false),some (2,1,false),none,none,none,none,none],none,some 56⟩),
 (181,⟨some 3,some true,some [.slice none 0 0,.slice none 0 0,.map none],some [(0,1),(1,1),(2,1)],[some (0,1,false),some (1,1,false),some (2,1,false),none,none,none,none,none],none,some 56⟩),
 (182,⟨some 2,some true,some [.int .i64 0,.int .i64 0],some [(0,1),(1,1)],[some (0,1,false),some (1,1,false),none,none,none,none,none,none],none,some 16⟩),
 (183,⟨some 2,some true,some [.int .i64 0,.int .i64 0],some [(0,1),(1,1)],[some (0,1,false),some (1,1,false),none,none,none,none,none,none],none,some 16⟩),
 (184,⟨some 1,some false,some [.slice none 0 0],none,n8,some 183,some 24⟩),
 (186,⟨some 2,some true,some [.slice none 0 0,.slice none 0 0],some [(0,1),(1,1)],[some (0,1,false),some (1,1,false),none,none,none,none,none,none],none,some 48⟩),
 (187,⟨some 2,some true,some [.slice none 0 0,.slice none 0 0],some [(0,1),(1,1)],[some (0,1,false),some (1,1,false),none,none,none,none,none,none],none,some 48⟩),
 (192,⟨some 4,some true,some [.int .i64 0,.int .i64 0,.int .i64 0,.int .i64 0],some [(0,1),(1,1),(2,1),(3,1)],[some (0,1,false),some (1,1,false),some (2,1,false),some (3,1,false),none,none,none,none],none,some 32⟩),
 (193,⟨some 4,some true,some [.int .i64 0,.int .i64 0,.int .i64 0,.int .i64 0],some [(0,1),(1,1),(2,1),(3,1)],[some (0,1,false),some (1,1,false),some (2,1,false),some (3,1,false),none,none,none,none],none,some 32⟩),
 (208,⟨some 1,some false,some [.int .i64 0],none,n8,none,some 8⟩),
 (216,⟨some 1,some false,some [.int .u32 0],none,n8,none,some 4⟩),
 (218,⟨some 1,some false,some [.int .u64 0],none,n8,none,some 8⟩),
 (228,⟨some 1,some false,some [.map none],none,n8,none,some 8⟩),
 (242,⟨some 1,some false,some [.map none],none,n8,none,some 8⟩),
 (245,⟨some 1,some false,some [.map none],none,n8,none,some 8⟩),
 (257,⟨some 1,some false,some [.map none],none,n8,none,some 8⟩),
 (265,⟨some 1,some false,some [.int .u64 0],none,n8,none,some 8⟩),
 (269,⟨some 1,some false,some [.pointer none],none,n8,none,some 8⟩),
 (276,⟨some 1,some false,some [.map none],none,n8,none,some 8⟩),
 (289,⟨some 1,some false,some [.slice none 0 0],none,n8,some 134,some 24⟩),
 (294,⟨some 1,some false,some [.pointer none],none,n8,none,some 8⟩),
 (300,⟨some 1,some false,some [.map none],none,n8,none,some 8⟩),
 (303,⟨some 1,some false,some [.slice none 0 0],none,n8,some 137,some 24⟩),
 (332,⟨some 4,some true,some [.pointer none,.pointer none,.pointer none,.string ⟨#[]⟩],some [(0,1),(1,1),(2,1),(3,1)],[some (0,1,false),some (1,1,false),some (2,1,false),some (3,1,false),none,none,none,none],none,some 40⟩),
 (333,⟨some 4,some true,some [.pointer none,.pointer none,.pointer none,.string ⟨#[]⟩],some [(0,1),(1,1),(2,1),(3,1)],[some (0,1,false),some (1,1,false),some (2,1,false),some (3,1,false),none,none,none,none],none,some 40⟩),
 (337,⟨some 1,some false,some [.int .u8 0],none,n8,none,some 1⟩),
 (338,⟨some 1,some false,some [.int .u8 0],none,n8,none,some 1⟩),
 (340,⟨some 1,some false,some [.pointer none],none,n8,none,some 8⟩),
 (341,⟨some 1,some false,some [.int .i32 0],none,n8,none,some 4⟩),
 (342,⟨some 1,some false,some [.int .i32 0],none,n8,none,some 4⟩),
 (343,⟨some 11,some true,some [.int .u64 0,.int .u64 0,.int .u32 0,.int .u8 0,.int .u8 0,.int .u8 0,.int .u8 0,.nilFunc,.pointer none,.int .i32 0,.int .i32 0],some [(0,1),(1,1),(2,1),(3,1),(4,1),(5,1),(6,1),(7,1),(8,1),(9,1),(10,1)],[some (0,1,false),some (1,1,false),some (2,1,false),some (3,1,false),some (4,1,false),some (5,1,false),some (6,1,false),some (7,1,false)],none,some 48⟩),
 (344,⟨some 11,some true,some [.int .u64 0,.int .u64 0,.int .u32 0,.int .u8 0,.int .u8 0,.int .u8 0,.int .u8 0,.nilFunc,.pointer none,.int .i32 0,.int .i32 0],some [(0,1),(1,1),(2,1),(3,1),(4,1),(5,1),(6,1),(7,1),(8,1),(9,1),(10,1)],[some (0,1,false),some (1,1,false),some (2,1,false),some (3,1,false),some (4,1,false),some (5,1,false),some (6,1,false),some (7,1,false)],none,some 48⟩)]
theorem tb:fh Tryz.prog WW:=⟨acf,mixed⟩
open Go.We
abbrev US:=dU 4 Tryz.func247
theorem mN {n:Nat}{q:Bool}(hn:n≤1099511627776):xb Tryz.prog 247 [int n,bool q] 134 (br 4 (b8 (n+1) (DD q))):=by
 refine nb US (ZZ J) fun w0 M0 aa=>?_
 refine c6 [1007,4] [0,1,5] [5] ?_
 refine Ft 5 aa J J J ?_
 refine gS [5] [0,1,5,6] [5] ?_
 refine lp (fun zm zs=>∃i:Nat,zm=n+1-i∧(i≤n+1)∧zs=⟨25,[(0,vvz (int n)),(1,vvz (bool q)),(5,.nst 5),(6,vvw (int i))],[(5,.nar 134 (br 4 ((List.range i).map fun i=>fM (n+1) (DD q i))) none)]⟩) ?_ ?_
 exact⟨_,0,rfl,Z5 _,rfl⟩
 rintro zm zs ⟨i,rfl,aZ,rfl⟩
 refine wS [3008] [0,1,5,6,10] [5] ?_ ?_<;>intro h1
 refine wZ [8,5000] ?_
 refine oS J (ql J J J J Tryz.underlying134 Xt Xu J J J ace ace ace aa) J ?_
 refine wA [8] [0,1,5,6,7,16,17,18] [5,15] ?_
 refine oP J (aD J Tryz.underlying134 j4 J J J (by rw[List.length_replicate];omega)) ?_
 refine oS J (ay J J J j4 J J (Ml ace) J J (.inl J) J (ZZ J) aa) J ?_
 refine wA [5] [0,1,6,20,21] [5,15] ?_
 refine oS J (I0 J J J J J J Tryz.underlying289 Rv J J aa) J ?_
 refine wA [0] [0,1,6,20,22] [5,22] ?_
 refine oS J (I1 J J J J J Tryz.underlying289 Rv J J J J (Nat.succ_pos _) (by rw[cB,Z0,aai];simp only[Z2,Z9];omega) (by rw[cB,Z0,aai];simp only[Z2,Z9];omega) aa) J ?_
 refine wA [6,9002] [0,1,5,6] [5] ?_
 refine⟨_,⟨i+1,rfl,ace,?_⟩,ace⟩
 rw[Pc _ n q ace];rfl
 refine wZ [13] ?_
 refine xc J J ?_
 obtain rfl:i=n+1:=ace
 rfl
abbrev UT:=dU 4 Tryz.func248
theorem BW {n:Nat}{a b:Nat→Nat→Bool}(hn:n≤1099511627776):xb Tryz.prog 248 [pN (b8 (n+1) a),pN (b8 (n+1) b)] 134 (br 4 (b8 (n+1) (TQ (n+1) a b))):=by
 refine nb UT (ZZ J) fun w0 M0 aa=>?_
 have hla:=cG (n+1) a
 have hlb:=cG (n+1) b
 refine zM [8,5000] ?_
 refine oP J (dF (a':=(n:Int)) (qh J J J ace) ace) ?_
 refine wA [0] [0,1,11] [] ?_
 refine oS J (lS J J J J J J (mN (n:=n) (q:=false) hn) aa) J ?_
 refine wA [10] [0,1,5,6] [12] ?_
 refine lp (fun zm zs=>∃i:Nat,zm=(n+1)-i∧(i≤(n+1))∧zs=⟨65,[(0,vvz (pN (b8 (n+1) a))),(1,vvz (pN (b8 (n+1) b))),(5,.nst 12),(6,vvw (int i))],[(12,.nar 134 (br 4 (b8 (n+1) (Jh (n+1) a b i))) none)]⟩) ?_ ?_
 refine⟨_,0,rfl,Z5 _,?_⟩
 rw[show b8 (n+1) (DD false)=b8 (n+1) (Jh (n+1) a b 0) from iY fun i j _ _=>by unfold DD Jh;simp];try rfl
 rintro zm zs ⟨i,rfl,aZ,rfl⟩
 refine wS [5,3003] [0,1,5,6,16] [12] ?_ ?_<;>intro h1
 refine wA [6] [0,1,5,6] [12] ?_
 refine qn 12 200 aa J J J (wg (N:=(n+1)) (f:=Jh (n+1) a b i) (i:=i) ace) ?_
 refine gS [6] [0,1,5,6,7] [12,200] ?_
 refine lp (fun zm zs=>∃k:Nat,zm=(n+1)-k∧(i≤k)∧(k≤(n+1))∧zs=⟨65,[(0,vvz (pN (b8 (n+1) a))),(1,vvz (pN (b8 (n+1) b))),(5,.nst 12),(6,vvw (int i)),(7,vvw (int k))],[(12,.nar 134 (br 4 (b8 (n+1) (Jh (n+1) a b i))) (some (i,.arr 200))),(200,.arr 4 ((fM (n+1) (oz a b i k)).map bool))]⟩) ?_ ?_
 refine⟨_,i,rfl,Z1 _,ace,?_⟩
 rw[show fM (n+1) (Jh (n+1) a b i i)=fM (n+1) (oz a b i i) from ij fun l _=>by rw[Jf];unfold Jh;rw[decide_eq_false (Nat.lt_irrefl i)];rfl];try rfl
 rintro zm zs ⟨k,rfl,fU,fW,rfl⟩
 refine wS [5,3003] [0,1,5,6,7,23] [12,200] ?_ ?_<;>intro h2
 refine wA [12] [0,1,5,6,7,8] [12,200] ?_
 refine lp (fun zm zs=>∃j:Nat,zm=(n+1)-j∧(k≤j)∧(j≤(n+1))∧zs=⟨65,[(0,vvz (pN (b8 (n+1) a))),(1,vvz (pN (b8 (n+1) b))),(5,.nst 12),(6,vvw (int i)),(7,vvw (int k)),(8,vvw (int j))],[(12,.nar 134 (br 4 (b8 (n+1) (Jh (n+1) a b i))) (some (i,.arr 200))),(200,.arr 4 ((fM (n+1) (Cy a b i k j)).map bool))]⟩) ?_ ?_
 refine⟨_,k,rfl,Z1 _,ace,?_⟩
 rw[show fM (n+1) (oz a b i k)=fM (n+1) (Cy a b i k k) from ij fun l _=>(Jg a b i k l).symm];try rfl
 rintro zm zs ⟨j,rfl,Nl,Y6,rfl⟩
 have Y7:((b8 (n+1) a).getD i default).getD k default=a i k:=by rw[kE ace,fp ace]
 refine wS [5,4002] [0,1,5,6,7,8,31] [12,200] ?_ ?_<;>intro h3'
 refine wA [2,2] [0,1,5,6,7,8,31,35,36] [12,200] ?_
 refine oP J (ee J Tryz.underlying134 j4 J J (by(try simp only[abl]);rw[kE ace,bH];omega) (fun _=>rfl)) ?_
 refine wS [3004] [0,1,5,6,7,8,39] [12,200] ?_ ?_<;>intro h4
 refine wA [2005,2] [0,1,5,6,7,8,42,43] [12,200] ?_
 refine oD J J J (c9 J Tryz.underlying289 mM J J J (by rw[cB,cG];omega)) ?_
 refine oD J J J (da J ke J J) ?_
 refine wA [3] [0,1,5,6,7,8,45,46,47,48] [12,200] ?_
 refine oD J J J (c9 J Tryz.underlying289 mM J J J (by rw[cB,cG];omega)) ?_
 refine oD J J J (da J ke J J) ?_
 refine wA [1] [0,1,5,6,7,8,45,46,50,51] [12,200] ?_
 refine oD J J J (aD J Tryz.underlying134 j4 J J J (by rw[Z0,bH];omega)) ?_
 refine oD J J J (e9 J Rp J J (ix (by rw[bH];omega)) J) ?_
 refine wS [7001] [0,1,5,6,7,8,45,46,54] [12,200] ?_ ?_<;>intro h5'
 refine wA [8] [0,1,5,6,7,8,45,46,62] [12,200] ?_
 refine oD J J J (aD J Tryz.underlying134 j4 J J J (by rw[Z0,bH];omega)) ?_
 refine c7 acf ?_
 refine ea J (ay J J J j4 J J (ix (by rw[bH];omega)) J J (.inl J) J (ZZ J) aa) ?_
 refine fZ ?_
 refine jl [4,9002] [0,1,5,6,7,8] [12,200] ?_
 refine⟨_,⟨j+1,rfl,ace,ace,?_⟩,ace⟩
 rw [← jZ (g := Cy a b i k j) (v := true) (g' := Cy a b i k (j + 1)) (j := j) ace fun l hl => by
     rw[DE ace (Y7.symm.trans ach),show Cy a b i k j j=true from(fp (N:=n+1) ace).symm.trans ach];rfl]
 try rfl
 refine wA [6002,2] [0,1,5,6,7,8,45,46,54,58,59] [12,200] ?_
 refine oD J J J (ee J Tryz.underlying134 j4 J J (by(try simp only[abl]);rw[kE ace,bH];omega) (fun _=>rfl)) ?_
 refine wA [2] [0,1,5,6,7,8,45,46,62] [12,200] ?_
 refine oD J J J (aD J Tryz.underlying134 j4 J J J (by rw[Z0,bH];omega)) ?_
 refine c7 acf ?_
 refine ea J (ay J J J j4 J J (ix (by rw[bH];omega)) J J (.inl J) J (ZZ J) aa) ?_
 refine fZ ?_
 refine jl [4,9002] [0,1,5,6,7,8] [12,200] ?_
 refine⟨_,⟨j+1,rfl,ace,ace,?_⟩,ace⟩
 have e:((b8 (n+1) b).getD k default).getD j default=b k j:=by rw[kE ace,fp ace]
 rw [← jZ (g := Cy a b i k j) (v := ((b8 (n + 1) b).getD k default).getD j default) (g' := Cy a b i k (j + 1)) (j := j) ace fun l hl => by
     rw[e,DE ace (Y7.symm.trans ach),show Cy a b i k j j=false from(fp (N:=n+1) ace).symm.trans ach];rfl]
 try rfl
 refine wA [9,9002] [0,1,5,6,7] [12,200] ?_;rotate_left
 refine wA [19,9002] [0,1,5,6,7] [12,200] ?_;rotate_left
 refine wA [7] [0,1,5,6] [12,200] ?_
 obtain rfl:k=(n+1):=ace
 refine kB 12 200 aa J J (by rw[cB,cG];omega) J ?_
 refine gS [2,9002] [0,1,5,6] [12] ?_
 refine⟨_,⟨i+1,rfl,ace,?_⟩,ace⟩
 rw [← qE (f := Jh (n + 1) a b i) (g := oz a b i (n + 1)) (i := i) ace (f' := Jh (n + 1) a b (i + 1)) fun k l hk hl => by
     unfold Jh
     by_cases q:k=i
     · subst q;rw[if_pos rfl,decide_eq_true ace];rfl
     · rw[if_neg q,show decide (k<i+1)=decide (k<i) from decide_eq_decide.2 ace]]
 try rfl
 refine wZ [13] ?_
 refine xc J J ?_
 obtain rfl:i=(n+1):=ace
 rw[show b8 (n+1) (Jh (n+1) a b (n+1))=b8 (n+1) (TQ (n+1) a b) from iY fun k l hk _=>by unfold Jh;rw[decide_eq_true hk];rfl]
 all_goals
   refine⟨_,⟨k+1,rfl,ace,ace,?_⟩,ace⟩
   rw[show fM (n+1) (Cy a b i k j)=fM (n+1) (oz a b i (k+1)) from ij fun l hl=>Pd ace (by first|exact .inl ace|(refine .inr ?_;simp_all))];try rfl
end Go.Proofs.YtlapahnodhmcpaaGreat
