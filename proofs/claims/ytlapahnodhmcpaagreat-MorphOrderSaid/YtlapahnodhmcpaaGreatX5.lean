/-
  Part of the proof.
-/
import Derived.Test.YtlapahnodhmcpaaGreatX4
set_option linter.unusedVariables false
set_option linter.unusedSectionVars false
set_option linter.unusedSimpArgs false
set_option maxRecDepth 100000
set_option maxHeartbeats 40000000
namespace Go.Proofs.YtlapahnodhmcpaaGreat
open Go.Am
theorem mixed:Tryz.prog.follows .mixedOrders=true:=adi
theorem w6:bX Tryz.prog 3=some 1:=adi
theorem SD:bo Tryz.prog 3=some false:=adi
theorem Vi:iE Tryz.prog 3 1 8=true:=adi
theorem Yn:zeroOf Tryz.prog 3=some [.int .i64 0]:=adi
theorem j7:bX Tryz.prog 4=some 1:=adi
theorem SE:bo Tryz.prog 4=some false:=adi
theorem Y4:iE Tryz.prog 4 1 1=true:=adi
theorem Y5:zeroOf Tryz.prog 4=some [.bool false]:=adi
theorem el5:iE Tryz.prog 5 1 1=true:=adi
theorem SF:bX Tryz.prog 9=some 1:=adi
theorem ag9:bo Tryz.prog 9=some false:=adi
theorem V0:iE Tryz.prog 9 1 16=true:=adi
theorem CE:bX Tryz.prog 22=some 1:=adi
theorem KH:bo Tryz.prog 22=some false:=adi
theorem uV:iE Tryz.prog 22 1 24=true:=adi
theorem Y6:(Tryz.prog.info? 22).bind (·.zero)=some (.slice none 0 0):=adi
theorem V1:zeroOf Tryz.prog 22=some [.slice none 0 0]:=adi
theorem V2:bX Tryz.prog 24=some 1:=adi
theorem V3:bX Tryz.prog 25=some 1:=adi
theorem Y7:bo Tryz.prog 25=some false:=adi
theorem wo:bo Tryz.prog 26=some false:=adi
theorem V4:bX Tryz.prog 27=some 1:=adi
theorem Y8:bo Tryz.prog 27=some false:=adi
theorem jd:bX Tryz.prog 29=some 4:=adi
theorem lb:bo Tryz.prog 29=some true:=adi
theorem V5:zeroOf Tryz.prog 29=some [.slice none 0 0,.slice none 0 0,.slice none 0 0,.slice none 0 0]:=adi
theorem V6:placesOf Tryz.prog 29=some [(0,1),(1,1),(2,1),(3,1)]:=adi
theorem Oi:iT Tryz.prog 29 0=some (0,0+1,false):=adi
theorem Uk:iT Tryz.prog 29 1=some (1,0+1,false):=adi
theorem Y9:bX Tryz.prog 30=some 1:=adi
theorem Za:bo Tryz.prog 30=some false:=adi
theorem Zb:bX Tryz.prog 35=some 1:=adi
theorem zO:bo Tryz.prog 35=some false:=adi
theorem Zc:bX Tryz.prog 39=some 1:=adi
theorem Zd:bo Tryz.prog 39=some false:=adi
theorem QW:bX Tryz.prog 41=some 6:=adi
theorem QX:bo Tryz.prog 41=some true:=adi
theorem V7:zeroOf Tryz.prog 41=some [.slice none 0 0,.slice none 0 0,.slice none 0 0,.slice none 0 0,.slice none 0 0,.slice none 0 0]:=adi
theorem V8:placesOf Tryz.prog 41=some [(0,4),(4,1),(5,1)]:=adi
theorem V9:bX Tryz.prog 46=some 1:=adi
theorem Wa:iE Tryz.prog 46 1 24=true:=adi
theorem Wd:bX Tryz.prog 50=some 1:=adi
theorem KI:bo Tryz.prog 50=some false:=adi
theorem Ze:bX Tryz.prog 52=some 1:=adi
theorem Zf:bo Tryz.prog 52=some false:=adi
theorem He:bX Tryz.prog 64=some 4:=adi
theorem QY:bo Tryz.prog 64=some true:=adi
theorem CF:zeroOf Tryz.prog 64=some [.string ⟨#[]⟩,.slice none 0 0,.slice none 0 0,.slice none 0 0]:=adi
theorem EV:placesOf Tryz.prog 64=some [(0,1),(1,1),(2,1),(3,1)]:=adi
theorem KJ:bX Tryz.prog 69=some 5:=adi
theorem Wg:iE Tryz.prog 69 5 96=true:=adi
theorem Wh:bX Tryz.prog 72=some 2:=adi
theorem QZ:iE Tryz.prog 72 2 40=true:=adi
theorem Wi:zeroOf Tryz.prog 72=some [.slice none 0 0,.string ⟨#[]⟩]:=adi
theorem Wj:bX Tryz.prog 84=some 1:=adi
theorem CG:bX Tryz.prog 85=some 1:=adi
theorem KK:bo Tryz.prog 85=some false:=adi
theorem bY:bX Tryz.prog 87=some 3:=adi
theorem je:bo Tryz.prog 87=some true:=adi
theorem jz:iE Tryz.prog 87 3 56=true:=adi
theorem my:zeroOf Tryz.prog 87=some [.int .i64 0,.slice none 0 0,.slice none 0 0]:=adi
theorem yA:placesOf Tryz.prog 87=some [(0,1),(1,1),(2,1)]:=adi
theorem Hf:bX Tryz.prog 89=some 8:=adi
theorem Zg:bo Tryz.prog 89=some true:=adi
theorem Ul:iE Tryz.prog 89 8 152=true:=adi
theorem Zh:zeroOf Tryz.prog 89=some [.string ⟨#[]⟩,.slice none 0 0,.int .i64 0,.slice none 0 0,.slice none 0 0,.int .i64 0,.slice none 0 0,.slice none 0 0]:=adi
theorem Zi:placesOf Tryz.prog 89=some [(0,1),(1,1),(2,3),(5,3)]:=adi
theorem Oj:iT Tryz.prog 89 0=some (0,0+1,false):=adi
theorem Ol:iT Tryz.prog 89 1=some (1,0+1,false):=adi
theorem Um:iT Tryz.prog 89 2=some (2,2+1,true):=adi
theorem Hg:bX Tryz.prog 95=some 1:=adi
theorem EW:bo Tryz.prog 95=some false:=adi
theorem rm:bX Tryz.prog 97=some 6:=adi
theorem Un:bo Tryz.prog 97=some true:=adi
theorem Om:iE Tryz.prog 97 6 104=true:=adi
theorem Q0:zeroOf Tryz.prog 97=some [.string ⟨#[]⟩,.int .i64 0,.slice none 0 0,.slice none 0 0,.int .i64 0,.slice none 0 0]:=adi
theorem Uo:placesOf Tryz.prog 97=some [(0,1),(1,3),(4,1),(5,1)]:=adi
theorem Up:iT Tryz.prog 97 0=some (0,0+1,false):=adi
theorem Uq:iT Tryz.prog 97 1=some (1,2+1,true):=adi
theorem Ur:iT Tryz.prog 97 2=some (4,0+1,false):=adi
theorem sq:iT Tryz.prog 97 3=some (5,0+1,false):=adi
theorem IN:bo Tryz.prog 100=some false:=adi
theorem Wk:zeroOf Tryz.prog 102=some [.slice none 0 0,.slice none 0 0,.map none]:=adi
theorem Wl:placesOf Tryz.prog 102=some [(0,1),(1,1),(2,1)]:=adi
theorem Wm:iE Tryz.prog 107 2 16=true:=adi
theorem On:(Tryz.prog.info? 109).bind (·.zero)=some (.slice none 0 0):=adi
theorem IP:bX Tryz.prog 112=some 4:=adi
theorem SH:bo Tryz.prog 112=some true:=adi
theorem rH:iE Tryz.prog 112 4 88=true:=adi
theorem A8:zeroOf Tryz.prog 112=some [.string ⟨#[]⟩,.slice none 0 0,.slice none 0 0,.slice none 0 0]:=adi
theorem A9:placesOf Tryz.prog 112=some [(0,1),(1,1),(2,1),(3,1)]:=adi
theorem IQ:iE Tryz.prog 122 2 40=true:=adi
theorem Wn:bX Tryz.prog 132=some 2:=adi
theorem Oo:zeroOf Tryz.prog 132=some [.int .i64 0,.slice none 0 0]:=adi
theorem SI:placesOf Tryz.prog 132=some [(0,1),(1,1)]:=adi
theorem IS:iT Tryz.prog 132 0=some (0,0+1,false):=adi
theorem na:bX Tryz.prog 134=some 1:=adi
theorem ki:bo Tryz.prog 134=some false:=adi
theorem SJ:iE Tryz.prog 134 1 24=true:=adi
theorem Wo:bX Tryz.prog 143=some 5:=adi
theorem Q1:iT Tryz.prog 143 1=some (1,0+1,false):=adi
theorem SK:bX Tryz.prog 160=some 12:=adi
theorem Wp:bo Tryz.prog 160=some true:=adi
theorem nY:zeroOf Tryz.prog 160=some [.string ⟨#[]⟩,.int .i64 0,.slice none 0 0,.slice none 0 0,.int .i64 0,.slice none 0 0,.string ⟨#[]⟩,.slice none 0 0,.slice none 0 0,.slice none 0 0,.slice none 0 0,.slice none 0 0]:=adi
theorem pq:placesOf Tryz.prog 160=some [(0,6),(6,4),(10,1),(11,1)]:=adi
theorem SL:bX Tryz.prog 259=some 1:=adi
theorem mz:bo Tryz.prog 259=some false:=adi
def n8:List (Option (Nat×Nat×Bool)):=[none,none,none,none,none,none,none,none]
def YA:List (Nat×Dm):=[(2,⟨some 1,some false,some [.int .i64 0],none,n8,none,some 8⟩),
 (3,⟨some 1,some false,some [.int .i64 0],none,n8,none,some 8⟩),
 (4,⟨some 1,some false,some [.bool false],none,n8,none,some 1⟩),
 (5,⟨some 1,some false,some [.int .u8 0],none,n8,none,some 1⟩),
 (6,⟨some 1,some false,some [.int .u8 0],none,n8,none,some 1⟩),
 (7,⟨some 4,some true,some [.int .i64 0,.int .i64 0,.bool false,.int .u8 0],some [(0,1),(1,1),(2,1),(3,1)],[some (0,1,false),some (1,1,false),some (2,1,false),some (3,1,false),none,none,none,none],none,some 24⟩),
 (8,⟨some 4,some true,some [.int .i64 0,.int .i64 0,.bool false,.int .u8 0],some [(0,1),(1,1),(2,1),(3,1)],[some (0,1,false),some (1,1,false),some (2,1,false),some (3,1,false),none,none,none,none],none,some 24⟩),
 (9,⟨some 1,some false,some [.string ⟨#[]⟩],none,n8,none,some 16⟩),
 (10,⟨some 1,some false,some [.string ⟨#[]⟩],none,n8,none,some 16⟩),
 (11,⟨some 1,some false,some [.string ⟨#[]⟩],none,n8,none,some 16⟩),
 (12,⟨some 1,some false,some [.int .u64 0],none,n8,none,some 8⟩),
 (13,⟨some 2,some true,some [.string ⟨#[]⟩,.int .u64 0],some [(0,1),(1,1)],[some (0,1,false),some (1,1,false),none,none,none,none,none,none],none,some 24⟩),
 (14,⟨some 2,some true,some [.string ⟨#[]⟩,.int .u64 0],some [(0,1),(1,1)],[some (0,1,false),some (1,1,false),none,none,none,none,none,none],none,some 24⟩),
 (15,⟨some 1,some false,some [.pointer none],none,n8,none,some 8⟩),
 (16,⟨some 1,some false,some [.pointer none],none,n8,none,some 8⟩),
 (17,⟨some 1,some false,some [.pointer none],none,n8,none,some 8⟩),
 (18,⟨some 1,some true,some [.pointer none],some [(0,1)],[some (0,1,false),none,none,none,none,none,none,none],none,some 8⟩),
 (19,⟨some 1,some true,some [.pointer none],some [(0,1)],[some (0,1,false),none,none,none,none,none,none,none],none,some 8⟩),
 (21,⟨some 1,some false,some [.int .i32 0],none,n8,none,some 4⟩),
 (22,⟨some 1,some false,some [.slice none 0 0],none,n8,some 3,some 24⟩),
 (23,⟨some 1,some false,some [.slice none 0 0],none,n8,some 143,some 24⟩),
 (24,⟨some 1,some false,some [.slice none 0 0],none,n8,some 122,some 24⟩),
 (25,⟨some 1,some false,some [.slice none 0 0],none,n8,some 89,some 24⟩),
 (26,⟨some 1,some false,some [.slice none 0 0],none,n8,some 97,some 24⟩),
 (27,⟨some 1,some false,some [.slice none 0 0],none,n8,some 9,some 24⟩),
 (28,⟨some 4,some true,some [.slice none 0 0,.slice none 0 0,.slice none 0 0,.slice none 0 0],some [(0,1),(1,1),(2,1),(3,1)],[some (0,1,false),some (1,1,false),some (2,1,false),some (3,1,false),none,none,none,none],none,some 96⟩),
 (29,⟨some 4,some true,some [.slice none 0 0,.slice none 0 0,.slice none 0 0,.slice none 0 0],some [(0,1),(1,1),(2,1),(3,1)],[some (0,1,false),some (1,1,false),some (2,1,false),some (3,1,false),none,none,none,none],none,some 96⟩),
 (30,⟨some 1,some false,some [.slice none 0 0],none,n8,some 72,some 24⟩),
 (34,⟨some 1,some false,some [.slice none 0 0],none,n8,some 30,some 24⟩),
 (35,⟨some 1,some false,some [.pointer none],none,n8,none,some 8⟩),
 (36,⟨some 1,some false,some [.int .i64 0],none,n8,none,some 8⟩),
 (39,⟨some 1,some false,some [.slice none 0 0],none,n8,some 46,some 24⟩),
 (40,⟨some 6,some true,some [.slice none 0 0,.slice none 0 0,.slice none 0 0,.slice none 0 0,.slice none 0 0,.slice none 0 0],some [(0,4),(4,1),(5,1)],[some (0,4,true),some (4,1,false),some (5,1,false),none,none,none,none,none],none,some 144⟩),
 (41,⟨some 6,some true,some [.slice none 0 0,.slice none 0 0,.slice none 0 0,.slice none 0 0,.slice none 0 0,.slice none 0 0],some [(0,4),(4,1),(5,1)],[some (0,4,true),some (4,1,false),some (5,1,false),none,none,none,none,none],none,some 144⟩),
 (46,⟨some 1,some false,some [.slice none 0 0],none,n8,some 64,some 24⟩),
 (52,⟨some 1,some false,some [.slice none 0 0],none,n8,some 22,some 24⟩),
 (55,⟨some 1,some false,some [.slice none 0 0],none,n8,some 69,some 24⟩),
 (63,⟨some 4,some true,some [.string ⟨#[]⟩,.slice none 0 0,.slice none 0 0,.slice none 0 0],some [(0,1),(1,1),(2,1),(3,1)],[some (0,1,false),some (1,1,false),some (2,1,false),some (3,1,false),none,none,none,none],none,some 88⟩),
 (64,⟨some 4,some true,some [.string ⟨#[]⟩,.slice none 0 0,.slice none 0 0,.slice none 0 0],some [(0,1),(1,1),(2,1),(3,1)],[some (0,1,false),some (1,1,false),some (2,1,false),some (3,1,false),none,none,none,none],none,some 88⟩),
 (68,⟨some 5,some true,some [.int .i64 0,.string ⟨#[]⟩,.slice none 0 0,.slice none 0 0,.slice none 0 0],some [(0,1),(1,4)],[some (0,1,false),some (1,4,true),none,none,none,none,none,none],none,some 96⟩),
 (69,⟨some 5,some true,some [.int .i64 0,.string ⟨#[]⟩,.slice none 0 0,.slice none 0 0,.slice none 0 0],some [(0,1),(1,4)],[some (0,1,false),some (1,4,true),none,none,none,none,none,none],none,some 96⟩),
 (71,⟨some 2,some true,some [.slice none 0 0,.string ⟨#[]⟩],some [(0,1),(1,1)],[some (0,1,false),some (1,1,false),none,none,none,none,none,none],none,some 40⟩),
 (72,⟨some 2,some true,some [.slice none 0 0,.string ⟨#[]⟩],some [(0,1),(1,1)],[some (0,1,false),some (1,1,false),none,none,none,none,none,none],none,some 40⟩),
 (78,⟨some 1,some false,some [.slice none 0 0],none,n8,some 29,some 24⟩),
 (84,⟨some 1,some false,some [.slice none 0 0],none,n8,some 132,some 24⟩),
 (85,⟨some 1,some false,some [.slice none 0 0],none,n8,some 87,some 24⟩),
 (86,⟨some 3,some true,some [.int .i64 0,.slice none 0 0,.slice none 0 0],some [(0,1),(1,1),(2,1)],[some (0,1,false),some (1,1,false),some (2,1,false),none,none,none,none,none],none,some 56⟩),
 (87,⟨some 3,some true,some [.int .i64 0,.slice none 0 0,.slice none 0 0],some [(0,1),(1,1),(2,1)],[some (0,1,false),some (1,1,false),some (2,1,false),none,none,none,none,none],none,some 56⟩),
 (88,⟨some 8,some true,some [.string ⟨#[]⟩,.slice none 0 0,.int .i64 0,.slice none 0 0,.slice none 0 0,.int .i64 0,.slice none 0 0,.slice none 0 0],some [(0,1),(1,1),(2,3),(5,3)],[some (0,1,false),some (1,1,false),some (2,3,true),some (5,3,true),none,none,none,none],none,some 152⟩),
 (89,⟨some 8,some true,some [.string ⟨#[]⟩,.slice none 0 0,.int .i64 0,.slice none 0 0,.slice none 0 0,.int .i64 0,.slice none 0 0,.slice none 0 0],some [(0,1),(1,1),(2,3),(5,3)],[some (0,1,false),some (1,1,false),some (2,3,true),some (5,3,true),none,none,none,none],none,some 152⟩),
 (95,⟨some 1,some false,some [.slice none 0 0],none,n8,some 112,some 24⟩),
 (96,⟨some 6,some true,some [.string ⟨#[]⟩,.int .i64 0,.slice none 0 0,.slice none 0 0,.int .i64 0,.slice none 0 0],some [(0,1),(1,3),(4,1),(5,1)],[some (0,1,false),some (1,3,true),some (4,1,false),some (5,1,false),none,none,none,none],none,some 104⟩),
 (97,⟨some 6,some true,some [.string ⟨#[]⟩,.int .i64 0,.slice none 0 0,.slice none 0 0,.int .i64 0,.slice none 0 0],some [(0,1),(1,3),(4,1),(5,1)],[some (0,1,false),some (1,3,true),some (4,1,false),some (5,1,false),none,none,none,none],none,some 104⟩),
 (100,⟨some 1,some false,some [.map none],none,n8,none,some 8⟩),
 (101,⟨some 3,some true,some [.slice none 0 0,.slice none 0 0,.map none],some [(0,1),(1,1),(2,1)],[some (0,1,false),some (1,1,false),some (2,1,false),none,none,none,none,none],none,some 56⟩),
 (102,⟨some 3,some true,some [.slice none 0 0,.slice none 0 0,.map none],some [(0,1),(1,1),(2,1)],[some (0,1,false),some (1,1,false),some (2,1,false),none,none,none,none,none],none,some 56⟩),
 (106,⟨some 2,some true,some [.int .i64 0,.int .i64 0],some [(0,1),(1,1)],[some (0,1,false),some (1,1,false),none,none,none,none,none,none],none,some 16⟩),
 (107,⟨some 2,some true,some [.int .i64 0,.int .i64 0],some [(0,1),(1,1)],[some (0,1,false),some (1,1,false),none,none,none,none,none,none],none,some 16⟩),
 (109,⟨some 1,some false,some [.slice none 0 0],none,n8,some 107,some 24⟩),
 (111,⟨some 4,some true,some [.string ⟨#[]⟩,.slice none 0 0,.slice none 0 0,.slice none 0 0],some [(0,1),(1,1),(2,1),(3,1)],[some (0,1,false),some (1,1,false),some (2,1,false),some (3,1,false),none,none,none,none],none,some 88⟩),
 (112,⟨some 4,some true,some [.string ⟨#[]⟩,.slice none 0 0,.slice none 0 0,.slice none 0 0],some [(0,1),(1,1),(2,1),(3,1)],[some (0,1,false),some (1,1,false),some (2,1,false),some (3,1,false),none,none,none,none],none,some 88⟩),
 (121,⟨some 2,some true,some [.string ⟨#[]⟩,.slice none 0 0],some [(0,1),(1,1)],[some (0,1,false),some (1,1,false),none,none,none,none,none,none],none,some 40⟩),
 (122,⟨some 2,some true,some [.string ⟨#[]⟩,.slice none 0 0],some [(0,1),(1,1)],[some (0,1,false),some (1,1,false),none,none,none,none,none,none],none,some 40⟩),
 (131,⟨some 2,some true,some [.int .i64 0,.slice none 0 0],some [(0,1),(1,1)],[some (0,1,false),some (1,1,false),none,none,none,none,none,none],none,some 32⟩),
 (132,⟨some 2,some true,some [.int .i64 0,.slice none 0 0],some [(0,1),(1,1)],[some (0,1,false),some (1,1,false),none,none,none,none,none,none],none,some 32⟩),
 (134,⟨some 1,some false,some [.slice none 0 0],none,n8,some 4,some 24⟩),
 (135,⟨some 1,some false,some [.slice none 0 0],none,n8,some 193,some 24⟩),
 (136,⟨some 2,some true,some [.slice none 0 0,.slice none 0 0],some [(0,1),(1,1)],[some (0,1,false),some (1,1,false),none,none,none,none,none,none],none,some 48⟩),
 (137,⟨some 2,some true,some [.slice none 0 0,.slice none 0 0],some [(0,1),(1,1)],[some (0,1,false),some (1,1,false),none,none,none,none,none,none],none,some 48⟩),
 (142,⟨some 5,some true,some [.string ⟨#[]⟩,.int .i64 0,.int .i64 0,.int .i64 0,.int .i64 0],some [(0,1),(1,1),(2,1),(3,1),(4,1)],[some (0,1,false),some (1,1,false),some (2,1,false),some (3,1,false),some (4,1,false),none,none,none],none,some 48⟩),
 (143,⟨some 5,some true,some [.string ⟨#[]⟩,.int .i64 0,.int .i64 0,.int .i64 0,.int .i64 0],some [(0,1),(1,1),(2,1),(3,1),(4,1)],[some (0,1,false),some (1,1,false),some (2,1,false),some (3,1,false),some (4,1,false),none,none,none],none,some 48⟩),
 (149,⟨some 1,some false,some [.slice none 0 0],none,n8,some 5,some 24⟩),
 (154,⟨some 1,some false,some [.int .u64 0],none,n8,none,some 8⟩),
 (159,⟨some 12,some true,some [.string ⟨#[]⟩,.int .i64 0,.slice none 0 0,.slice none 0 0,.int .i64 0,.slice none 0 0,.string ⟨#[]⟩,.slice none 0 0,.slice none 0 0,.slice none 0 0,.slice none 0 0,.slice none 0 0],some [(0,6),(6,4),(10,1),(11,1)],[some (0,6,true),some (6,4,true),some (10,1,false),some (11,1,false),none,none,none,none],none,some 240⟩),
 (160,⟨some 12,some true,some [.string ⟨#[]⟩,.int .i64 0,.slice none 0 0,.slice none 0 0,.int .i64 0,.slice none 0 0,.string ⟨#[]⟩,.slice none 0 0,.slice none 0 0,.slice none 0 0,.slice none 0 0,.slice none 0 0],some [(0,6),(6,4),(10,1),(11,1)],[some (0,6,true),some (6,4,true),some (10,1,false),some (11,1,false),none,none,none,none],none,some 240⟩),
 (163,⟨some 3,some true,some [.int .i64 0,.slice none 0 0,.slice none 0 0],some [(0,1),(1,1),(2,1)],[some (0,1,false),some (1,1,false),some (2,1,false),none,none,none,none,none],none,some 56⟩),
 (164,⟨some 3,some true,some [.int .i64 0,.slice none 0 0,.slice none 0 0],some [(0,1),(1,1),(2,1)],[some (0,1,false),some (1,1,false),some (2,1,false),none,none,none,none,none],none,some 56⟩),
 (175,⟨some 1,some false,some [.pointer none],none,n8,none,some 8⟩),
 (177,⟨some 1,some false,some [.slice none 0 0],none,n8,some 187,some 24⟩),
 (178,⟨some 1,some false,some [.slice none 0 0],none,n8,some 135,some 24⟩),
 (179,⟨some 1,some false,some [.map none],none,n8,none,some 8⟩),
 (180,⟨some 3,some true,some [.slice none 0 0,.slice none 0 0,.map none],some [(0,1),(1,1),(2,1)],[some (0,1,false),some (1,1,false),some (2,1,false),none,none,none,none,none],none,some 56⟩),
 (181,⟨some 3,some true,some [.slice none 0 0,.slice none 0 0,.map none],some [(0,1),(1,1),(2,1)],[some (0,1,false),some (1,1,false),some (2,1,false),none,none,none,none,none],none,some 56⟩),
 (182,⟨some 2,some true,some [.int .i64 0,.int .i64 0],some [(0,1),(1,1)],[some (0,1,false),some (1,1,false),none,none,none,none,none,none],none,some 16⟩),
 (183,⟨some 2,some true,some [.int .i64 0,.int .i64 0],some [(0,1),(1,1)],[some (0,1,false),some (1,1,false),none,none,none,none,none,none],none,some 16⟩),
 (184,⟨some 1,some false,some [.slice none 0 0],none,n8,some 183,some 24⟩),
 (186,⟨some 2,some true,some [.slice none 0 0,.slice none 0 0],some [(0,1),(1,1)],[some (0,1,false),some (1,1,false),none,none,none,none,none,none],none,some 48⟩),
 (187,⟨some 2,some true,some [.slice none 0 0,.slice none 0 0],some [(0,1),(1,1)],[some (0,1,false),some (1,1,false),none,none,none,none,none,none],none,some 48⟩),
 (192,⟨some 4,some true,some [.int .i64 0,.int .i64 0,.int .i64 0,.int .i64 0],some [(0,1),(1,1),(2,1),(3,1)],[some (0,1,false),some (1,1,false),some (2,1,false),some (3,1,false),none,none,none,none],none,some 32⟩),
 (193,⟨some 4,some true,some [.int .i64 0,.int .i64 0,.int .i64 0,.int .i64 0],some [(0,1),(1,1),(2,1),(3,1)],[some (0,1,false),some (1,1,false),some (2,1,false),some (3,1,false),none,none,none,none],none,some 32⟩),
 (208,⟨some 1,some false,some [.int .i64 0],none,n8,none,some 8⟩),
 (216,⟨some 1,some false,some [.int .u32 0],none,n8,none,some 4⟩),
 (218,⟨some 1,some false,some [.int .u64 0],none,n8,none,some 8⟩),
 (228,⟨some 1,some false,some [.map none],none,n8,none,some 8⟩),
 (242,⟨some 1,some false,some [.map none],none,n8,none,some 8⟩),
 (245,⟨some 1,some false,some [.map none],none,n8,none,some 8⟩),
 (257,⟨some 1,some false,some [.map none],none,n8,none,some 8⟩),
 (265,⟨some 1,some false,some [.int .u64 0],none,n8,none,some 8⟩),
 (269,⟨some 1,some false,some [.pointer none],none,n8,none,some 8⟩),
 (276,⟨some 1,some false,some [.map none],none,n8,none,some 8⟩),
 (289,⟨some 1,some false,some [.slice none 0 0],none,n8,some 134,some 24⟩),
 (294,⟨some 1,some false,some [.pointer none],none,n8,none,some 8⟩),
 (300,⟨some 1,some false,some [.map none],none,n8,none,some 8⟩),
 (303,⟨some 1,some false,some [.slice none 0 0],none,n8,some 137,some 24⟩),
 (332,⟨some 4,some true,some [.pointer none,.pointer none,.pointer none,.string ⟨#[]⟩],some [(0,1),(1,1),(2,1),(3,1)],[some (0,1,false),some (1,1,false),some (2,1,false),some (3,1,false),none,none,none,none],none,some 40⟩),
 (333,⟨some 4,some true,some [.pointer none,.pointer none,.pointer none,.string ⟨#[]⟩],some [(0,1),(1,1),(2,1),(3,1)],[some (0,1,false),some (1,1,false),some (2,1,false),some (3,1,false),none,none,none,none],none,some 40⟩),
 (337,⟨some 1,some false,some [.int .u8 0],none,n8,none,some 1⟩),
 (338,⟨some 1,some false,some [.int .u8 0],none,n8,none,some 1⟩),
 (340,⟨some 1,some false,some [.pointer none],none,n8,none,some 8⟩),
 (341,⟨some 1,some false,some [.int .i32 0],none,n8,none,some 4⟩),
 (342,⟨some 1,some false,some [.int .i32 0],none,n8,none,some 4⟩),
 (343,⟨some 11,some true,some [.int .u64 0,.int .u64 0,.int .u32 0,.int .u8 0,.int .u8 0,.int .u8 0,.int .u8 0,.nilFunc,.pointer none,.int .i32 0,.int .i32 0],some [(0,1),(1,1),(2,1),(3,1),(4,1),(5,1),(6,1),(7,1),(8,1),(9,1),(10,1)],[some (0,1,false),some (1,1,false),some (2,1,false),some (3,1,false),some (4,1,false),some (5,1,false),some (6,1,false),some (7,1,false)],none,some 48⟩),
 (344,⟨some 11,some true,some [.int .u64 0,.int .u64 0,.int .u32 0,.int .u8 0,.int .u8 0,.int .u8 0,.int .u8 0,.nilFunc,.pointer none,.int .i32 0,.int .i32 0],some [(0,1),(1,1),(2,1),(3,1),(4,1),(5,1),(6,1),(7,1),(8,1),(9,1),(10,1)],[some (0,1,false),some (1,1,false),some (2,1,false),some (3,1,false),some (4,1,false),some (5,1,false),some (6,1,false),some (7,1,false)],none,some 48⟩)]
theorem tb:fa Tryz.prog YA:=⟨adi,mixed⟩
open Go.We
abbrev Wq:=dT 4 Tryz.func247
theorem nb {n:Nat}{q:Bool}(hn:n≤1099511627776):xK Tryz.prog 247 [int n,bool q] 134 (br 4 (cd (n+1) (Ez q))):=by
 refine nu Wq (aaz J) fun w0 M0 ae=>?_
 refine db [1007,4] [0,1,5] [5] ?_;refine GA 5 ae J J J ?_;refine gV [5] [0,1,5,6] [5] ?_;refine lr (fun zl zo zm zs=>∃i:Nat,zm=n+1-i∧(i≤n+1)∧zs=eV 25 [(6,vvw (int i))] zl [(5,.nar 134 (br 4 ((List.range i).map fun i=>ga (n+1) (Ez q i))) none)] zo) ?_ ?_;exact⟨_,0,rfl,aaG _,rfl⟩;rintro zm zs ⟨i,rfl,aY,rfl⟩;refine wS [3008] [0,1,5,6,10] [5] ?_ ?_<;>intro h1;refine wZ [8,5000] ?_;refine oS J (qC J J J J Tryz.underlying134 Y4 Y5 J J J adh adh adh ae) J ?_;refine wA [8] [0,1,5,6,7,16,17,18] [5,15] ?_;refine oP J (ah J Tryz.underlying134 j7 J J J (by rw[acU];omega)) ?_;refine oS J (aj J J J j7 J J (Ns adh) J J (.inl J) J (aaz J) ae) J ?_;refine wA [5] [0,1,6,20,21] [5,15] ?_;refine oS J (J3 J J J J J J Tryz.underlying289 SJ J J ae) J ?_;refine wA [0] [0,1,6,20,22] [5,22] ?_;refine oS J (J4 J J J J J Tryz.underlying289 SJ J J J J (Nat.succ_pos _) (by rw[cH,aaA,aa1];simp only[aaE,aaL];omega) (by rw[cH,aaA,aa1];simp only[aaE,aaL];omega) ae) J ?_;refine wA [6,9002] [0,1,5,6] [5] ?_;refine⟨_,⟨i+1,rfl,adh,?_⟩,adh⟩;rw[Qq _ n q adh];rfl;refine wZ [13] ?_;refine xL J J ?_;obtain rfl:i=n+1:=adh;rfl
abbrev Wr:=dT 4 Tryz.func248
theorem CH {n:Nat}{a b:Nat→Nat→Bool}(hn:n≤1099511627776):xK Tryz.prog 248 [qa (cd (n+1) a),qa (cd (n+1) b)] 134 (br 4 (cd (n+1) (Vg (n+1) a b))):=by
 refine nu Wr (aaz J) fun w0 M0 ae=>?_
 have hla:=cM (n+1) a;have hlb:=cM (n+1) b;refine AD [8,5000] ?_;refine oP J (c9 (a':=(n:Int)) (qy J J J adh) adh) ?_;refine wA [0] [0,1,11] [] ?_;refine oS J (mf J J J J J J (nb (n:=n) (q:=false) hn) ae) J ?_;refine wA [10] [0,1,5,6] [12] ?_;refine lp (fun zm zs=>∃i:Nat,zm=(n+1)-i∧(i≤(n+1))∧zs=⟨65,[(0,vvz (qa (cd (n+1) a))),(1,vvz (qa (cd (n+1) b))),(5,.nst 12),(6,vvw (int i))],[(12,.nar 134 (br 4 (cd (n+1) (Kk (n+1) a b i))) none)]⟩) ?_ ?_;refine⟨_,0,rfl,aaG _,?_⟩;rw[show cd (n+1) (Ez false)=cd (n+1) (Kk (n+1) a b 0) from jc fun i j _ _=>by unfold Ez Kk;simp];try rfl
 rintro zm zs ⟨i,rfl,aY,rfl⟩;refine wS [5,3003] [0,1,5,6,16] [12] ?_ ?_<;>intro h1;refine wA [6] [0,1,5,6] [12] ?_;refine qE 12 200 ae J J J (wW (N:=(n+1)) (f:=Kk (n+1) a b i) (i:=i) adh) ?_;refine gV [6] [0,1,5,6,7] [12,200] ?_;refine lp (fun zm zs=>∃k:Nat,zm=(n+1)-k∧(i≤k)∧(k≤(n+1))∧zs=⟨65,[(0,vvz (qa (cd (n+1) a))),(1,vvz (qa (cd (n+1) b))),(5,.nst 12),(6,vvw (int i)),(7,vvw (int k))],[(12,.nar 134 (br 4 (cd (n+1) (Kk (n+1) a b i))) (some (i,.arr 200))),(200,.arr 4 ((ga (n+1) (oV a b i k)).map bool))]⟩) ?_ ?_;refine⟨_,i,rfl,aaD _,adh,?_⟩;rw[show ga (n+1) (Kk (n+1) a b i i)=ga (n+1) (oV a b i i) from ix fun l _=>by rw[Ki];unfold Kk;rw[decide_eq_false (Nat.lt_irrefl i)];rfl];try rfl
 rintro zm zs ⟨k,rfl,gi,gj,rfl⟩;refine wS [5,3003] [0,1,5,6,7,23] [12,200] ?_ ?_<;>intro h2;refine wA [12] [0,1,5,6,7,8] [12,200] ?_;refine lp (fun zm zs=>∃j:Nat,zm=(n+1)-j∧(k≤j)∧(j≤(n+1))∧zs=⟨65,[(0,vvz (qa (cd (n+1) a))),(1,vvz (qa (cd (n+1) b))),(5,.nst 12),(6,vvw (int i)),(7,vvw (int k)),(8,vvw (int j))],[(12,.nar 134 (br 4 (cd (n+1) (Kk (n+1) a b i))) (some (i,.arr 200))),(200,.arr 4 ((ga (n+1) (Dp a b i k j)).map bool))]⟩) ?_ ?_;refine⟨_,k,rfl,aaD _,adh,?_⟩;rw[show ga (n+1) (oV a b i k)=ga (n+1) (Dp a b i k k) from ix fun l _=>(Kj a b i k l).symm];try rfl
 rintro zm zs ⟨j,rfl,IT,aaN,rfl⟩;have hAk:((cd (n+1) a).getD i default).getD k default=a i k:=by rw[kK adh,fE adh]
 refine wS [5,4002] [0,1,5,6,7,8,31] [12,200] ?_ ?_<;>intro h3';refine wA [2,2] [0,1,5,6,7,8,31,35,36] [12,200] ?_;refine oP J (dh J Tryz.underlying134 j7 J J (by(try simp only[acb]);rw[kK adh,bJ];omega) (fun _=>rfl)) ?_;refine wS [3004] [0,1,5,6,7,8,39] [12,200] ?_ ?_<;>intro h4;refine wA [2005,2] [0,1,5,6,7,8,42,43] [12,200] ?_;refine oD J J J (dm J Tryz.underlying289 na J J J (by rw[cH,cM];omega)) ?_;refine oD J J J (dn J ki J J) ?_;refine wA [3] [0,1,5,6,7,8,45,46,47,48] [12,200] ?_;refine oD J J J (dm J Tryz.underlying289 na J J J (by rw[cH,cM];omega)) ?_;refine oD J J J (dn J ki J J) ?_;refine wA [1] [0,1,5,6,7,8,45,46,50,51] [12,200] ?_;refine oD J J J (ah J Tryz.underlying134 j7 J J J (by rw[aaA,bJ];omega)) ?_;refine oD J J J (c3 J SE J J (e9 (by rw[bJ];omega)) J) ?_;refine wS [7001] [0,1,5,6,7,8,45,46,54] [12,200] ?_ ?_<;>intro h5';refine wA [8] [0,1,5,6,7,8,45,46,62] [12,200] ?_;refine oD J J J (ah J Tryz.underlying134 j7 J J J (by rw[aaA,bJ];omega)) ?_;refine b8 adi ?_;refine cB J (aj J J J j7 J J (e9 (by rw[bJ];omega)) J J (.inl J) J (aaz J) ae) ?_;refine dN ?_;refine hZ [4,9002] [0,1,5,6,7,8] [12,200] ?_;refine⟨_,⟨j+1,rfl,adh,adh,?_⟩,adh⟩;rw [← j3 (g := Dp a b i k j) (v := true) (g' := Dp a b i k (j + 1)) (j := j) adh fun l hl => by
     rw[EA adh (hAk.symm.trans adk),show Dp a b i k j j=true from(fE (N:=n+1) adh).symm.trans adk];rfl]
 try rfl
 refine wA [6002,2] [0,1,5,6,7,8,45,46,54,58,59] [12,200] ?_;refine oD J J J (dh J Tryz.underlying134 j7 J J (by(try simp only[acb]);rw[kK adh,bJ];omega) (fun _=>rfl)) ?_;refine wA [2] [0,1,5,6,7,8,45,46,62] [12,200] ?_;refine oD J J J (ah J Tryz.underlying134 j7 J J J (by rw[aaA,bJ];omega)) ?_;refine b8 adi ?_;refine cB J (aj J J J j7 J J (e9 (by rw[bJ];omega)) J J (.inl J) J (aaz J) ae) ?_;refine dN ?_;refine hZ [4,9002] [0,1,5,6,7,8] [12,200] ?_;refine⟨_,⟨j+1,rfl,adh,adh,?_⟩,adh⟩;have e:((cd (n+1) b).getD k default).getD j default=b k j:=by rw[kK adh,fE adh]
 rw [← j3 (g := Dp a b i k j) (v := ((cd (n + 1) b).getD k default).getD j default) (g' := Dp a b i k (j + 1)) (j := j) adh fun l hl => by
     rw[e,EA adh (hAk.symm.trans adk),show Dp a b i k j j=false from(fE (N:=n+1) adh).symm.trans adk];rfl]
 try rfl
 refine wA [9,9002] [0,1,5,6,7] [12,200] ?_;rotate_left;refine wA [19,9002] [0,1,5,6,7] [12,200] ?_;rotate_left;refine wA [7] [0,1,5,6] [12,200] ?_;obtain rfl:k=(n+1):=adh;refine kH 12 200 ae J J (by rw[cH,cM];omega) J ?_;refine gV [2,9002] [0,1,5,6] [12] ?_;refine⟨_,⟨i+1,rfl,adh,?_⟩,adh⟩;rw [← qV (f := Kk (n + 1) a b i) (g := oV a b i (n + 1)) (i := i) adh (f' := Kk (n + 1) a b (i + 1)) fun k l hk hl => by
     unfold Kk;by_cases q:k=i
     · subst q;rw[if_pos rfl,decide_eq_true adh];rfl
     · rw[if_neg q,show decide (k<i+1)=decide (k<i) from decide_eq_decide.2 adh]]
 try rfl
 refine wZ [13] ?_;refine xL J J ?_;obtain rfl:i=(n+1):=adh;rw[show cd (n+1) (Kk (n+1) a b (n+1))=cd (n+1) (Vg (n+1) a b) from jc fun k l hk _=>by unfold Kk;rw[decide_eq_true hk];rfl]
 all_goals
   refine⟨_,⟨k+1,rfl,adh,adh,?_⟩,adh⟩;rw[show ga (n+1) (Dp a b i k j)=ga (n+1) (oV a b i (k+1)) from ix fun l hl=>Qr adh (by first|exact .inl adh|(refine .inr ?_;simp_all))];try rfl
open Go.Wb
abbrev Ws:=dT 4 Tryz.func222
theorem Hh {w:List Int}(hw:w.length≤1099511627776):∀(z:Nat)(r:Rx),r.size≤z→z≤1099511627776→aT r=true→xK Tryz.prog 222 [rx r,ints w] 134 (br 4 (cd (w.length+1) (rj w r))):=by
 intro z
 induction z with
 | zero=>intro a hr _ _;have:=size_pos a;omega
 | succ z ih =>
 intro r hr hz hv;have hkl:=ek r;have hsl:=eJ r;obtain⟨hk1,hk5,hk0⟩:=qW hv;have hx:∀m,m<r.kids.length→au Tryz.prog 222 [rx (r.kids.getD m default),ints w] (.p (qa (cd (w.length+1) (eL w r m)))):=fun m hm=>by
   have h:=(ih _ (abI (abj (il hm) hr)) adh (G3 hv hm)).data na;rwa [ym] at h
 rw[fy r];refine nu Ws (aaz J) fun w0 M0 ae=>?_
 refine db [2,3] [1,2] [] ?_;refine ct (fun zs=>zs=⟨192,[(1,vvz (ints w)),(2,vvz (wi r)),(5,.nst 30)],[(30,.nar 134 (br 4 (cd (w.length+1) (Ez (qF r)))) none)]⟩) ?_ ?_;refine wS [2,4004] [1,2,16,20] [] ?_ ?_<;>intro h1';refine wA [9] [1,2,16,29] [] ?_;refine oS J (mf J J J J J J (nb (n:=w.length) hw) ae) J ?_;refine wA [10002] [1,2,5] [30] ?_;rw[YT adh];try rfl
 refine wS [4005] [1,2,16,25] [] ?_ ?_<;>intro h2';refine wA [4] [1,2,16,29] [] ?_;refine oS J (mf J J J J J J (nb (n:=w.length) hw) ae) J ?_;refine wA [10002] [1,2,5] [30] ?_;rw[YU adh];try rfl
 refine wA [4] [1,2,16,29] [] ?_;refine oS J (mf J J J J J J (nb (n:=w.length) hw) ae) J ?_;refine wA [10002] [1,2,5] [30] ?_;rw[YV adh adh];try rfl
 rintro zs ⟨rfl⟩;refine ct (fun zs=>zs=⟨192,[(1,vvz (ints w)),(2,vvz (wi r)),(5,.nst 30)],[(30,.nar 134 (br 4 (cd (w.length+1) (KF w r 0))) none)]⟩) ?_ ?_;refine wA [6] [1,2,5,6] [30] ?_;refine lp (fun zm zs=>∃i:Nat,zm=w.length-i∧(i≤w.length)∧(r.kind≠2→i=0)∧zs=⟨192,[(1,vvz (ints w)),(2,vvz (wi r)),(5,.nst 30),(6,vvw (int i))],[(30,.nar 134 (br 4 (cd (w.length+1) (f0 w r i))) none)]⟩) ?_ ?_;refine⟨_,0,rfl,aaG _,fun _=>rfl,?_⟩;rw[NI];try rfl
 rintro zm zs ⟨i,rfl,aY,ax,rfl⟩;refine wS [5,4002] [1,2,5,6,35] [30] ?_ ?_<;>intro h3';refine wS [3006] [1,2,5,6,39] [30] ?_ ?_<;>intro h4;refine wA [6] [1,2,5,6] [30] ?_;have hk2:r.kind=2:=adh;refine qE 30 200 ae J J J (wW (N:=(w.length+1)) (f:=f0 w r i) (i:=i) adh) ?_;refine gV [5] [1,2,5,6,7] [30,200] ?_;refine lp (fun zm zs=>∃k:Nat,zm=r.syms.length-k∧(k≤r.syms.length)∧zs=⟨192,[(1,vvz (ints w)),(2,vvz (wi r)),(5,.nst 30),(6,vvw (int i)),(7,vvw (int k))],[(30,.nar 134 (br 4 (cd (w.length+1) (f0 w r i))) (some (i,.arr 200))),(200,.arr 4 ((ga (w.length+1) (EG w r.syms i k)).map bool))]⟩) ?_ ?_;refine⟨_,0,rfl,aaG _,?_⟩;rw[show ga (w.length+1) (f0 w r i i)=ga (w.length+1) (EG w r.syms i 0) from ix fun l _=>by rw[Ct hk2,NG,Kq]];try rfl
 rintro zm zs ⟨k,rfl,gi,rfl⟩;refine wS [6,3003] [1,2,5,6,7,46] [30,200] ?_ ?_<;>intro h5;refine wA [2005,2] [1,2,5,6,7,49,50] [30,200] ?_;refine oD J J J (dm J Tryz.underlying289 na J J J (by rw[cH,cM];omega)) ?_;refine oD J J J (dn J ki J J) ?_;refine wA [6001,2] [1,2,5,6,7,52,54,55,56] [30,200] ?_;refine oD J J J (dm J Tryz.underlying289 na J J J (by rw[cH,cM];omega)) ?_;refine oD J J J (dn J ki J J) ?_;refine wZ [6001,5000] ?_;refine oD J J J (ah J Tryz.underlying134 j7 J J J (by rw[aaA,bJ];omega)) ?_;refine oD J J J (c3 J SE J J (e9 (by rw[bJ];omega)) J) ?_;refine wS [7001] [1,2,5,6,7,52,54,63] [30,200] ?_ ?_<;>intro h6';refine wA [11] [1,2,5,6,7,52,54,74] [30,200] ?_;refine oD J J J (ah J Tryz.underlying134 j7 J J J (by rw[aaA,bJ];omega)) ?_;refine b8 adi ?_;refine cB J (aj J J J j7 J J (e9 (by rw[bJ];omega)) J J (.inl J) J (aaz J) ae) ?_;refine dN ?_;refine hZ [4,9002] [1,2,5,6,7] [30,200] ?_;refine⟨_,⟨k+1,rfl,adh,?_⟩,adh⟩;rw [← j3 (N := (w.length + 1)) (g := EG w r.syms i k) (v := true) (g' := EG w r.syms i (k + 1)) (j := i + 1) adh fun l hl => by
     rw[EH adh,show EG w r.syms i k (i+1)=true from(fE (N:=(w.length+1)) adh).symm.trans adk];rfl]
 try rfl
 refine wA [6003,6003,3] [1,2,5,6,7,52,54,74] [30,200] ?_;refine oD J J J (ah J Tryz.underlying134 j7 J J J (by rw[aaA,bJ];omega)) ?_;refine b8 adi ?_;refine cB J (aj J J J j7 J J (e9 (by rw[bJ];omega)) J J (.inl J) J (aaz J) ae) ?_;refine dN ?_;refine hZ [4,9002] [1,2,5,6,7] [30,200] ?_;refine⟨_,⟨k+1,rfl,adh,?_⟩,adh⟩;rw [← j3 (N := (w.length + 1)) (g := EG w r.syms i k) (v := decide (r.syms.getD k default = w.getD i default)) (g' := EG w r.syms i (k + 1)) (j := i + 1) adh fun l hl => by
     rw[EH adh,show EG w r.syms i k (i+1)=false from(fE (N:=(w.length+1)) adh).symm.trans adk];rfl]
 try rfl
 refine wA [7] [1,2,5,6] [30,200] ?_;obtain rfl:k=r.syms.length:=adh;refine kH 30 200 ae J J (by rw[cH,cM];omega) J ?_;refine gV [2,9002] [1,2,5,6] [30] ?_;refine⟨_,⟨i+1,rfl,adh,fun q=>absurd hk2 q,?_⟩,adh⟩;rw [qV (N := (w.length + 1)) (f := f0 w r i) (g := EG w r.syms i r.syms.length) (i := i) (f' := f0 w r (i + 1)) adh fun k l hk hl => by
     rw[Ct hk2,Ct hk2,NH,Qz (aaD _)]]
 try rfl
 refine wA [10005] [1,2,5] [30] ?_;rotate_left;refine wA [10011] [1,2,5] [30] ?_;rotate_left;rintro zs ⟨rfl⟩;refine wA [7] [1,2,5,8] [30] ?_;refine lr (fun zl zo zm zs=>∃m:Nat,zm=r.kids.length-m∧(m≤r.kids.length)∧zs=eV 192 [(8,vvw (int m))] zl [(30,.nar 134 (br 4 (cd (w.length+1) (KF w r m))) none)] zo) ?_ ?_;exact⟨_,0,rfl,aaG _,rfl⟩;rintro zm zs ⟨m,rfl,IT,rfl⟩;refine wS [6,3003] [1,2,5,8,80] [30] ?_ ?_<;>intro h7;refine wA [10,2] [1,2,5,8,87,88] [30] ?_;refine oC J J J J (hx m adh) ?_;refine wA [3] [1,2,5,8,9] [30] ?_;refine ct (fun zs=>zs=⟨192,[(1,vvz (ints w)),(2,vvz (wi r)),(5,.nst 30),(8,vvw (int m)),(9,vvw (qa (cd (w.length+1) (eL w r m))))],[(30,.nar 134 (br 4 (cd (w.length+1) (f1 w r m))) none)]⟩) ?_ ?_;refine wS [3007] [1,2,5,8,9,92] [30] ?_ ?_<;>intro h8;refine wA [1] [1,2,5,8,9] [30] ?_;refine GC 5 ae J J J na ?_;refine aD 192 [(1,_),(2,_),(5,_),(8,_),(9,_)] [] ae J ⟨.inl J,.inl J,.inr ⟨_,_,rfl,rfl,rfl⟩,.inl J,.inl J,trivial⟩ trivial ?_;rw[ym];refine gV [3] [1,2,8,9,93,94] [] ?_;refine oS J (mf J J J J J J (CH (n:=w.length) (a:=KF w r m) (b:=(eL w r m)) hw) ae) J ?_;refine wA [1] [1,2,5,8,9] [95] ?_;refine Qe 5 30 ae J J J J ?_;refine Yj [10001] [1,2,5,8,9] [30] ?_;rw[YW adh adh];try rfl
 refine wA [10002] [1,2,5,8,9] [30] ?_;rw[VQ adh];try rfl
 rintro zs ⟨rfl⟩;refine ct (fun zs=>zs=⟨192,[(1,vvz (ints w)),(2,vvz (wi r)),(5,.nst 30),(8,vvw (int m)),(9,vvw (qa (cd (w.length+1) (eL w r m))))],[(30,.nar 134 (br 4 (cd (w.length+1) (f2 w r m))) none)]⟩) ?_ ?_;refine wA [6] [1,2,5,8,9,10] [30] ?_;have hm:m<r.kids.length:=adh;refine lp (fun zm zs=>∃i:Nat,zm=(w.length+1)-i∧(i≤(w.length+1))∧(r.kind≠4→i=0)∧zs=⟨192,[(1,vvz (ints w)),(2,vvz (wi r)),(5,.nst 30),(8,vvw (int m)),(9,vvw (qa (cd (w.length+1) (eL w r m)))),(10,vvw (int i))],[(30,.nar 134 (br 4 (cd (w.length+1) (a4 w r m i))) none)]⟩) ?_ ?_;refine⟨_,0,rfl,aaG _,fun _=>rfl,?_⟩;rw[NJ];try rfl
 rintro zm zs ⟨i,rfl,SM,aaP,rfl⟩;have hrl:(br 4 (cd (w.length+1) (a4 w r m i))).length=(w.length+1):=by rw[cH,cM]
 refine wS [5,4002] [1,2,5,8,9,10,100] [30] ?_ ?_<;>intro h9';refine wS [3006] [1,2,5,8,9,10,104] [30] ?_ ?_<;>intro h10;refine wA [6] [1,2,5,8,9,10] [30] ?_;have hk4:r.kind=4:=adh;refine qE 30 200 ae J J J (wW (N:=(w.length+1)) (f:=a4 w r m i) (i:=i) adh) ?_;refine gV [5] [1,2,5,8,9,10,11] [30,200] ?_;refine lp (fun zm zs=>∃k:Nat,zm=(w.length+1)-k∧(k≤(w.length+1))∧zs=⟨192,[(1,vvz (ints w)),(2,vvz (wi r)),(5,.nst 30),(8,vvw (int m)),(9,vvw (qa (cd (w.length+1) (eL w r m)))),(10,vvw (int i)),(11,vvw (int k))],[(30,.nar 134 (br 4 (cd (w.length+1) (a4 w r m i))) (some (i,.arr 200))),(200,.arr 4 ((ga (w.length+1) (ED (KF w r m) (eL w r m) i k)).map bool))]⟩) ?_ ?_;refine⟨_,0,rfl,aaG _,?_⟩;rw[show ga (w.length+1) (a4 w r m i i)=ga (w.length+1) (ED (KF w r m) (eL w r m) i 0) from ix fun l _=>by rw[wX hk4,Nz,Km]];try rfl
 rintro zm zs ⟨k,rfl,Ba,rfl⟩;have hrl2:(br 4 (cd (w.length+1) (a4 w r m i))).length=(w.length+1):=by rw[cH,cM]
 refine wS [5,3003] [1,2,5,8,9,10,11,110] [30,200] ?_ ?_<;>intro h11;refine wA [2005,2] [1,2,5,8,9,10,11,113,114] [30,200] ?_;refine oD J J J (dm J Tryz.underlying289 na J J J (by rw[cH,cM];omega)) ?_;refine oD J J J (dn J ki J J) ?_;refine wA [3] [1,2,5,8,9,10,11,116,117,118,119] [30,200] ?_;refine oD J J J (dm J Tryz.underlying289 na J J J (by rw[cH,cM];omega)) ?_;refine oD J J J (dn J ki J J) ?_;refine wA [1] [1,2,5,8,9,10,11,116,117,121,122] [30,200] ?_;refine oD J J J (ah J Tryz.underlying134 j7 J J J (by rw[aaA,bJ];omega)) ?_;refine oD J J J (c3 J SE J J (e9 (by rw[bJ];omega)) J) ?_;refine wS [7001] [1,2,5,8,9,10,11,116,117,125] [30,200] ?_ ?_<;>intro h12';refine wA [8] [1,2,5,8,9,10,11,116,117,133] [30,200] ?_;refine oD J J J (ah J Tryz.underlying134 j7 J J J (by rw[aaA,bJ];omega)) ?_;refine b8 adi ?_;refine cB J (aj J J J j7 J J (e9 (by rw[bJ];omega)) J J (.inl J) J (aaz J) ae) ?_;refine dN ?_;refine hZ [4,9002] [1,2,5,8,9,10,11] [30,200] ?_;refine⟨_,⟨k+1,rfl,adh,?_⟩,adh⟩;rw [← j3 (N := (w.length + 1)) (g := ED (KF w r m) (eL w r m) i k) (v := true) (g' := ED (KF w r m) (eL w r m) i (k + 1)) (j := k) adh fun l hl => by
     rw[EE,show ED (KF w r m) (eL w r m) i k k=true from(fE (N:=(w.length+1)) adh).symm.trans adk];rfl]
 try rfl
 refine wA [2] [1,2,5,8,9,10,11,116,117,125,126,127] [30,200] ?_;refine oD J J J (dh J Tryz.underlying289 na J J (by rw[cM];omega) (fun _=>rfl)) ?_;refine wA [2] [1,2,5,8,9,10,11,116,117,125,129,130] [30,200] ?_;refine oD J J J (dh J Tryz.underlying134 j7 J J (by(try simp only[acb]);rw[kK adh,bJ];omega) (fun _=>rfl)) ?_;refine wA [2] [1,2,5,8,9,10,11,116,117,133] [30,200] ?_;refine oD J J J (ah J Tryz.underlying134 j7 J J J (by rw[aaA,bJ];omega)) ?_;refine b8 adi ?_;refine cB J (aj J J J j7 J J (e9 (by rw[bJ];omega)) J J (.inl J) J (aaz J) ae) ?_;refine dN ?_;refine hZ [4,9002] [1,2,5,8,9,10,11] [30,200] ?_;refine⟨_,⟨k+1,rfl,adh,?_⟩,adh⟩;have e:((cd (w.length+1) (eL w r m)).getD i default).getD k default=(eL w r m) i k:=by rw[kK adh,fE adh]
 rw [← j3 (N := (w.length + 1)) (g := ED (KF w r m) (eL w r m) i k) (v := ((cd (w.length + 1) (eL w r m)).getD i default).getD k default) (g' := ED (KF w r m) (eL w r m) i (k + 1)) (j := k) adh fun l hl => by
     rw[e,EE,show ED (KF w r m) (eL w r m) i k k=false from(fE (N:=(w.length+1)) adh).symm.trans adk];rfl]
 try rfl
 refine wA [7] [1,2,5,8,9,10] [30,200] ?_;obtain rfl:k=(w.length+1):=adh;refine kH 30 200 ae J J (by rw[cH,cM];omega) J ?_;refine gV [2,9002] [1,2,5,8,9,10] [30] ?_;refine⟨_,⟨i+1,rfl,adh,fun q=>absurd hk4 q,?_⟩,adh⟩;rw [qV (N := (w.length + 1)) (f := a4 w r m i) (g := ED (KF w r m) (eL w r m) i (w.length + 1)) (i := i) (f' := a4 w r m (i + 1)) adh fun k l hk hl => by
     rw[wX hk4,wX hk4,NA,Qv hl]]
 try rfl
 refine wA [10005] [1,2,5,8,9] [30] ?_;rotate_left;refine wA [10011] [1,2,5,8,9] [30] ?_;rotate_left;rintro zs ⟨rfl⟩;have hm:m<r.kids.length:=adh;refine wA [6] [1,2,5,8,9,12] [30] ?_;refine lp (fun zm zs=>∃i:Nat,zm=(w.length+1)-i∧(i≤(w.length+1))∧(r.kind≠5→i=0)∧zs=⟨192,[(1,vvz (ints w)),(2,vvz (wi r)),(5,.nst 30),(8,vvw (int m)),(9,vvw (qa (cd (w.length+1) (eL w r m)))),(12,vvw (int i))],[(30,.nar 134 (br 4 (cd (w.length+1) (a6 w r m i))) none)]⟩) ?_ ?_;refine⟨_,0,rfl,aaG _,fun _=>rfl,?_⟩;rw[NK hk5 hm];try rfl
 rintro zm zs ⟨i,rfl,aaQ,aaR,rfl⟩;have hrl:(br 4 (cd (w.length+1) (a6 w r m i))).length=(w.length+1):=by rw[cH,cM]
 refine wS [5,4002] [1,2,5,8,9,12,139] [30] ?_ ?_<;>intro h13';refine wS [3006] [1,2,5,8,9,12,143] [30] ?_ ?_<;>intro h14;refine wA [6] [1,2,5,8,9,12] [30] ?_;have hk55:r.kind=5:=adh;refine qE 30 200 ae J J J (wW (N:=(w.length+1)) (f:=a6 w r m i) (i:=i) adh) ?_;refine gV [6] [1,2,5,8,9,12,13] [30,200] ?_;refine lp (fun zm zs=>∃k:Nat,zm=(w.length+1)-k∧(i≤k)∧(k≤(w.length+1))∧zs=⟨192,[(1,vvz (ints w)),(2,vvz (wi r)),(5,.nst 30),(8,vvw (int m)),(9,vvw (qa (cd (w.length+1) (eL w r m)))),(12,vvw (int i)),(13,vvw (int k))],[(30,.nar 134 (br 4 (cd (w.length+1) (a6 w r m i))) (some (i,.arr 200))),(200,.arr 4 ((ga (w.length+1) (qb (eL w r m) i k)).map bool))]⟩) ?_ ?_;refine⟨_,i,rfl,aaD _,adh,?_⟩;rw[show ga (w.length+1) (a6 w r m i i)=ga (w.length+1) (qb (eL w r m) i i) from ix fun l _=>by rw[wY hk55,ND,Sr (aaD i)]];try rfl
 rintro zm zs ⟨k,rfl,aaS,aaT,rfl⟩;have hrl2:(br 4 (cd (w.length+1) (a6 w r m i))).length=(w.length+1):=by rw[cH,cM]
 refine wS [5,3003] [1,2,5,8,9,12,13,150] [30,200] ?_ ?_<;>intro h15;refine wA [12] [1,2,5,8,9,12,13,14] [30,200] ?_;refine lp (fun zm zs=>∃j:Nat,zm=(w.length+1)-j∧(k≤j)∧(j≤(w.length+1))∧zs=⟨192,[(1,vvz (ints w)),(2,vvz (wi r)),(5,.nst 30),(8,vvw (int m)),(9,vvw (qa (cd (w.length+1) (eL w r m)))),(12,vvw (int i)),(13,vvw (int k)),(14,vvw (int j))],[(30,.nar 134 (br 4 (cd (w.length+1) (a6 w r m i))) (some (i,.arr 200))),(200,.arr 4 ((ga (w.length+1) (zw (eL w r m) i k j)).map bool))]⟩) ?_ ?_;refine⟨_,k,rfl,aaD _,adh,?_⟩;rw[show ga (w.length+1) (qb (eL w r m) i k)=ga (w.length+1) (zw (eL w r m) i k k) from ix fun l _=>Ko.symm];try rfl
 rintro zm zs ⟨j,rfl,aaU,aaV,rfl⟩;have hrl3:(br 4 (cd (w.length+1) (a6 w r m i))).length=(w.length+1):=by rw[cH,cM]
 refine wS [5,4002] [1,2,5,8,9,12,13,14,158] [30,200] ?_ ?_<;>intro h16';refine wA [2] [1,2,5,8,9,12,13,14,158,159,160] [30,200] ?_;refine oP J (dm J Tryz.underlying289 na J J J (by rw[cH,cM];omega)) ?_;refine oP J (dn J ki J J) ?_;refine wA [1] [1,2,5,8,9,12,13,14,158,162,163] [30,200] ?_;refine oP J (ah J Tryz.underlying134 j7 J J J (by rw[aaA,bJ];omega)) ?_;refine oP J (c3 J SE J J (e9 (by rw[bJ];omega)) J) ?_;refine wS [3003] [1,2,5,8,9,12,13,14,166] [30,200] ?_ ?_<;>intro h17;refine wA [2005,2] [1,2,5,8,9,12,13,14,169,170] [30,200] ?_;refine oD J J J (dm J Tryz.underlying289 na J J J (by rw[cH,cM];omega)) ?_;refine oD J J J (dn J ki J J) ?_;refine wA [3] [1,2,5,8,9,12,13,14,172,173,174,175] [30,200] ?_;refine oD J J J (dm J Tryz.underlying289 na J J J (by rw[cH,cM];omega)) ?_;refine oD J J J (dn J ki J J) ?_;refine wA [1] [1,2,5,8,9,12,13,14,172,173,177,178] [30,200] ?_;refine oD J J J (ah J Tryz.underlying134 j7 J J J (by rw[aaA,bJ];omega)) ?_;refine oD J J J (c3 J SE J J (e9 (by rw[bJ];omega)) J) ?_;refine wS [7001] [1,2,5,8,9,12,13,14,172,173,181] [30,200] ?_ ?_<;>intro h18';refine wA [8] [1,2,5,8,9,12,13,14,172,173,189] [30,200] ?_;refine oD J J J (ah J Tryz.underlying134 j7 J J J (by rw[aaA,bJ];omega)) ?_;refine b8 adi ?_;refine cB J (aj J J J j7 J J (e9 (by rw[bJ];omega)) J J (.inl J) J (aaz J) ae) ?_;refine dN ?_;refine hZ [4,9002] [1,2,5,8,9,12,13,14] [30,200] ?_;refine⟨_,⟨j+1,rfl,adh,adh,?_⟩,adh⟩;have ha:qb (eL w r m) i k k=true:=NC.symm.trans ((fE (N:=(w.length+1)) (g:=zw (eL w r m) i k j) (j:=k) adh).symm.trans adk);rw [← j3 (N := (w.length + 1)) (g := zw (eL w r m) i k j) (v := true) (g' := zw (eL w r m) i k (j + 1)) (j := j) adh fun l hl => by
     rw[EF adh ha,show zw (eL w r m) i k j j=true from(fE (N:=(w.length+1)) adh).symm.trans adk];rfl]
 try rfl
 refine wA [2] [1,2,5,8,9,12,13,14,172,173,181,182,183] [30,200] ?_;refine oD J J J (dh J Tryz.underlying289 na J J (by rw[cM];omega) (fun _=>rfl)) ?_;refine wA [2] [1,2,5,8,9,12,13,14,172,173,181,185,186] [30,200] ?_;refine oD J J J (dh J Tryz.underlying134 j7 J J (by(try simp only[acb]);rw[kK adh,bJ];omega) (fun _=>rfl)) ?_;refine wA [2] [1,2,5,8,9,12,13,14,172,173,189] [30,200] ?_;refine oD J J J (ah J Tryz.underlying134 j7 J J J (by rw[aaA,bJ];omega)) ?_;refine b8 adi ?_;refine cB J (aj J J J j7 J J (e9 (by rw[bJ];omega)) J J (.inl J) J (aaz J) ae) ?_;refine dN ?_;refine hZ [4,9002] [1,2,5,8,9,12,13,14] [30,200] ?_;refine⟨_,⟨j+1,rfl,adh,adh,?_⟩,adh⟩;have ha:qb (eL w r m) i k k=true:=NC.symm.trans ((fE (N:=(w.length+1)) (g:=zw (eL w r m) i k j) (j:=k) adh).symm.trans adk);have e:((cd (w.length+1) (eL w r m)).getD k default).getD j default=(eL w r m) k j:=by rw[kK adh,fE adh]
 rw [← j3 (N := (w.length + 1)) (g := zw (eL w r m) i k j) (v := ((cd (w.length + 1) (eL w r m)).getD k default).getD j default) (g' := zw (eL w r m) i k (j + 1)) (j := j) adh fun l hl => by
     rw[e,EF adh ha,show zw (eL w r m) i k j j=false from(fE (N:=(w.length+1)) adh).symm.trans adk];rfl]
 try rfl
 refine wA [9,9002] [1,2,5,8,9,12,13] [30,200] ?_;rotate_left;refine wA [19,9002] [1,2,5,8,9,12,13] [30,200] ?_;rotate_left;refine wA [7] [1,2,5,8,9,12] [30,200] ?_;obtain rfl:k=(w.length+1):=adh;refine kH 30 200 ae J J (by rw[cH,cM];omega) J ?_;refine gV [2,9002] [1,2,5,8,9,12] [30] ?_;refine⟨_,⟨i+1,rfl,adh,fun q=>absurd hk55 q,?_⟩,adh⟩;rw [qV (N := (w.length + 1)) (f := a6 w r m i) (g := qb (eL w r m) i (w.length + 1)) (i := i) (f' := a6 w r m (i + 1)) adh fun k l hk hl => by
     rw[wY hk55,wY hk55,NF]]
 try rfl
 refine wA [9,9002] [1,2,5,8] [30] ?_;rotate_left;refine wA [15,9002] [1,2,5,8] [30] ?_;rotate_left;refine wZ [13] ?_;refine xL J J ?_;obtain rfl:m=r.kids.length:=adh;rw[TW hv]
 all_goals first
  | (
    rw[TT hk1 adk (fun q=>by omega)];try rfl;done)
  | (
    rw[TU hm adk (fun q=>by omega)];try rfl;done)
  | (
    refine⟨_,⟨k+1,rfl,adh,adh,?_⟩,adh⟩;rw[show ga (w.length+1) (zw (eL w r m) i k j)=ga (w.length+1) (qb (eL w r m) i (k+1)) from ix fun l hl=>Qx adh (by first|exact .inl adh|exact .inr (NC.symm.trans ((fE (N:=(w.length+1)) adh).symm.trans adk)))];try rfl;done)
  | (
    refine⟨_,⟨m+1,rfl,adh,?_⟩,adh⟩;rw[TV hv hm adk (fun q=>by omega)];try rfl;done)
abbrev Wt:=dT 4 Tryz.func231
theorem cW {a b:Int}:au Tryz.prog 231 [int a,int b] (.p (int (bS a b))):=by
 refine cF Wt fun w0 M0 ae=>?_
 refine pO [3013] [0,1,7] [] ?_ ?_<;>intro h1;refine wZ [8008] ?_;rotate_left;refine wS [3011] [10] [] ?_ ?_<;>intro h2;refine wZ [8008] ?_;rotate_left;refine wZ [8009] ?_;rotate_left
 all_goals
  unfold bS;(repeat' split)<;>first|rfl|omega
abbrev Wu:=dT 2 Tryz.func197
theorem EX {l:List Int}(hl:l.length≤9223372036854775807):au Tryz.prog 197 [ints l] (.p (bool (jV l))):=by
 refine cF Wu fun w0 M0 ae=>?_
 refine db [9,4] [0,5,6,7] [] ?_;refine lr (fun zl zo zm zs=>∃k:Nat,zm=l.length-k∧(k≤l.length)∧(∀j,j<k→wj l j)∧zs=eV 35 [(5,vvz (ints l)),(6,vvw (int l.length)),(7,vvw (int k))] zl [] zo) ?_ ?_;exact⟨_,0,rfl,aaG _,fun j hj=>absurd hj adh,rfl⟩;rintro zm zs ⟨k,rfl,aY,ax,rfl⟩;refine wS [3006] [0,5,6,7,8] [] ?_ ?_<;>intro h1;refine wS [8,4010] [0,3,4,5,6,7,14] [] ?_ ?_<;>intro h2';refine wZ [8030] ?_;rotate_left;refine wS [4004] [0,3,4,5,6,7,18] [] ?_ ?_<;>intro h3';refine wZ [8026] ?_;rotate_left;refine wS [4003] [0,3,4,5,6,7,18,21] [] ?_ ?_<;>intro h4';refine wS [3,0,3006] [0,5,6,7,30] [] ?_ ?_<;>intro h5;refine wZ [8012] ?_;rotate_left;refine wA [5,9002] [0,5,6,7] [] ?_;rotate_left;refine wA [16,9002] [0,5,6,7] [] ?_;rotate_left;refine wZ [9,8005] ?_;rw[AE (fun j hj=>ax j adh)];exact congrArg (fun b=>RV.p (bool b)) (decide_eq_decide.2 adh)
 all_goals first
  | (
    rw[←Eb (l:=l) (k:=k) adh (fun q=>by obtain⟨q1,q2,q3⟩:=q;omega)];done)
  | (
    exact⟨_,⟨k+1,rfl,adh,cc ax ⟨adh,adh,fun _=>adh⟩,rfl⟩,adh⟩;done)
abbrev Wv:=dT 2 Tryz.func136
theorem KL {l:List Int}(hl:l.length≤9223372036854775807):au Tryz.prog 136 [ints l] (.p (bool (jV l))):=by
 refine cF Wv fun w0 M0 ae=>?_
 refine db [12] [0,3] [] ?_;refine lr (fun zl zo zm zs=>∃k:Nat,zm=l.length-k∧(k≤l.length)∧(∀j,j<k→wj l j)∧zs=eV 41 [(3,vvw (int k))] zl [] zo) ?_ ?_;exact⟨_,0,rfl,aaG _,fun j hj=>absurd hj adh,rfl⟩;rintro zm zs ⟨k,rfl,aY,ax,rfl⟩;refine wS [5,3003] [0,3,7] [] ?_ ?_<;>intro h1;refine wS [2006,6002,7003] [0,3,15] [] ?_ ?_<;>intro h2';refine wZ [8036] ?_;rotate_left;refine wS [6002,7004] [0,3,22] [] ?_ ?_<;>intro h3';refine wZ [8029] ?_;rotate_left;refine wS [7003] [0,3,22,25] [] ?_ ?_<;>intro h4';refine wS [6002,6003,6000,3006] [0,3,37] [] ?_ ?_<;>intro h5;refine wZ [8012] ?_;rotate_left;refine wA [6,9002] [0,3] [] ?_;rotate_left;refine wA [20,9002] [0,3] [] ?_;rotate_left;refine wZ [9,8005] ?_;rw[AE (fun j hj=>ax j adh)];exact congrArg (fun b=>RV.p (bool b)) (decide_eq_decide.2 adh)
 all_goals first
  | (
    rw[←Eb (l:=l) (k:=k) adh (fun q=>by obtain⟨q1,q2,q3⟩:=q;omega)];done)
  | (
    exact⟨_,⟨k+1,rfl,adh,cc ax ⟨adh,adh,fun _=>adh⟩,rfl⟩,adh⟩;done)
end Go.Proofs.YtlapahnodhmcpaaGreat
