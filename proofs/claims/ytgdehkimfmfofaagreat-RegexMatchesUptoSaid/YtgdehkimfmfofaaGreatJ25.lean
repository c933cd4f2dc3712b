/-
  Contracts of small functions on lists of numbers.
-/
import Derived.Test.YtgdehkimfmfofaaGreatJ12
import Derived.Test.YtgdehkimfmfofaaGreatRows
import Derived.Test.YtgdehkimfmfofaaGreatJ13
import Derived.Test.YtgdehkimfmfofaaGreatJ10
import Derived.Test.YtgdehkimfmfofaaGreatJ15
set_option linter.unusedVariables false
set_option linter.unusedSectionVars false
set_option linter.unusedSimpArgs false
namespace Go.Proofs.YtgdehkimfmfofaaGreat
open Go.Am
theorem mixed:Tryz.prog.follows .mixedOrders=true:=by kernel_rfl
theorem sz3:szOf Tryz.prog 3=some 1:=by kernel_rfl
theorem ag3:isAggOf Tryz.prog 3=some false:=by kernel_rfl
theorem el3:elOk Tryz.prog 3 1 8=true:=by kernel_rfl
theorem ze3:zeroOf Tryz.prog 3=some [.int .i64 0]:=by kernel_rfl
theorem sz4:szOf Tryz.prog 4=some 1:=by kernel_rfl
theorem ag4:isAggOf Tryz.prog 4=some false:=by kernel_rfl
theorem el4:elOk Tryz.prog 4 1 1=true:=by kernel_rfl
theorem ze4:zeroOf Tryz.prog 4=some [.bool false]:=by kernel_rfl
theorem sz9:szOf Tryz.prog 9=some 1:=by kernel_rfl
theorem ag9:isAggOf Tryz.prog 9=some false:=by kernel_rfl
theorem el9:elOk Tryz.prog 9 1 16=true:=by kernel_rfl
theorem sz22:szOf Tryz.prog 22=some 1:=by kernel_rfl
theorem ag22:isAggOf Tryz.prog 22=some false:=by kernel_rfl
theorem sz23:szOf Tryz.prog 23=some 1:=by kernel_rfl
theorem ag23:isAggOf Tryz.prog 23=some false:=by kernel_rfl
theorem sz25:szOf Tryz.prog 25=some 3:=by kernel_rfl
theorem ag25:isAggOf Tryz.prog 25=some true:=by kernel_rfl
theorem el25:elOk Tryz.prog 25 3 56=true:=by kernel_rfl
theorem ze25:zeroOf Tryz.prog 25=some [.int .i64 0,.slice none 0 0,.slice none 0 0]:=by kernel_rfl
theorem pl25:placesOf Tryz.prog 25=some [(0,1),(1,1),(2,1)]:=by kernel_rfl
theorem fd25_0:fldOf Tryz.prog 25 0=some (0,0+1,false):=by kernel_rfl
theorem fd25_1:fldOf Tryz.prog 25 1=some (1,0+1,false):=by kernel_rfl
theorem fd25_2:fldOf Tryz.prog 25 2=some (2,0+1,false):=by kernel_rfl
theorem ag39:isAggOf Tryz.prog 39=some false:=by kernel_rfl
theorem sz66:szOf Tryz.prog 66=some 1:=by kernel_rfl
theorem ag66:isAggOf Tryz.prog 66=some false:=by kernel_rfl
theorem el66:elOk Tryz.prog 66 1 24=true:=by kernel_rfl
theorem fd73_1:fldOf Tryz.prog 73 1=some (1,0+1,false):=by kernel_rfl
theorem sz76:szOf Tryz.prog 76=some 5:=by kernel_rfl
theorem el76:elOk Tryz.prog 76 5 72=true:=by kernel_rfl
theorem sz83:szOf Tryz.prog 83=some 5:=by kernel_rfl
theorem el83:elOk Tryz.prog 83 5 48=true:=by kernel_rfl
theorem fd83_0:fldOf Tryz.prog 83 0=some (0,0+1,false):=by kernel_rfl
theorem fd83_1:fldOf Tryz.prog 83 1=some (1,0+1,false):=by kernel_rfl
theorem fd83_2:fldOf Tryz.prog 83 2=some (2,0+1,false):=by kernel_rfl
theorem fd83_3:fldOf Tryz.prog 83 3=some (3,0+1,false):=by kernel_rfl
theorem fd83_4:fldOf Tryz.prog 83 4=some (4,0+1,false):=by kernel_rfl
theorem sz106:szOf Tryz.prog 106=some 2:=by kernel_rfl
theorem fd106_1:fldOf Tryz.prog 106 1=some (1,0+1,false):=by kernel_rfl
def n8:List (Option (Nat×Nat×Bool)):=[none,none,none,none,none,none,none,none]
def tab:List (Nat×TyF):=[(2,⟨some 1,some false,some [.int .i64 0],none,n8⟩),
 (3,⟨some 1,some false,some [.int .i64 0],none,n8⟩),
 (4,⟨some 1,some false,some [.bool false],none,n8⟩),
 (5,⟨some 1,some false,some [.int .u8 0],none,n8⟩),
 (6,⟨some 1,some false,some [.int .u8 0],none,n8⟩),
 (7,⟨some 4,some true,some [.int .i64 0,.int .i64 0,.bool false,.int .u8 0],some [(0,1),(1,1),(2,1),(3,1)],[some (0,1,false),some (1,1,false),some (2,1,false),some (3,1,false),none,none,none,none]⟩),
 (8,⟨some 4,some true,some [.int .i64 0,.int .i64 0,.bool false,.int .u8 0],some [(0,1),(1,1),(2,1),(3,1)],[some (0,1,false),some (1,1,false),some (2,1,false),some (3,1,false),none,none,none,none]⟩),
 (9,⟨some 1,some false,some [.string ⟨#[]⟩],none,n8⟩),
 (10,⟨some 1,some false,some [.string ⟨#[]⟩],none,n8⟩),
 (11,⟨some 1,some false,some [.string ⟨#[]⟩],none,n8⟩),
 (12,⟨some 1,some false,some [.int .u64 0],none,n8⟩),
 (13,⟨some 2,some true,some [.string ⟨#[]⟩,.int .u64 0],some [(0,1),(1,1)],[some (0,1,false),some (1,1,false),none,none,none,none,none,none]⟩),
 (14,⟨some 2,some true,some [.string ⟨#[]⟩,.int .u64 0],some [(0,1),(1,1)],[some (0,1,false),some (1,1,false),none,none,none,none,none,none]⟩),
 (21,⟨some 1,some false,some [.int .i32 0],none,n8⟩),
 (22,⟨some 1,some false,some [.slice none 0 0],none,n8⟩),
 (23,⟨some 1,some false,some [.slice none 0 0],none,n8⟩),
 (24,⟨some 3,some true,some [.int .i64 0,.slice none 0 0,.slice none 0 0],some [(0,1),(1,1),(2,1)],[some (0,1,false),some (1,1,false),some (2,1,false),none,none,none,none,none]⟩),
 (25,⟨some 3,some true,some [.int .i64 0,.slice none 0 0,.slice none 0 0],some [(0,1),(1,1),(2,1)],[some (0,1,false),some (1,1,false),some (2,1,false),none,none,none,none,none]⟩),
 (39,⟨some 1,some false,some [.slice none 0 0],none,n8⟩),
 (40,⟨some 1,some false,some [.slice none 0 0],none,n8⟩),
 (45,⟨some 1,some false,some [.slice none 0 0],none,n8⟩),
 (55,⟨some 1,some false,some [.slice none 0 0],none,n8⟩),
 (56,⟨some 1,some false,some [.int .i64 0],none,n8⟩),
 (66,⟨some 1,some false,some [.slice none 0 0],none,n8⟩),
 (67,⟨some 1,some false,some [.slice none 0 0],none,n8⟩),
 (70,⟨some 1,some false,some [.slice none 0 0],none,n8⟩),
 (72,⟨some 2,some true,some [.slice none 0 0,.int .i64 0],some [(0,1),(1,1)],[some (0,1,false),some (1,1,false),none,none,none,none,none,none]⟩),
 (73,⟨some 2,some true,some [.slice none 0 0,.int .i64 0],some [(0,1),(1,1)],[some (0,1,false),some (1,1,false),none,none,none,none,none,none]⟩),
 (75,⟨some 5,some true,some [.int .u8 0,.int .i64 0,.slice none 0 0,.slice none 0 0,.int .i64 0],some [(0,1),(1,3),(4,1)],[some (0,1,false),some (1,3,true),some (4,1,false),none,none,none,none,none]⟩),
 (76,⟨some 5,some true,some [.int .u8 0,.int .i64 0,.slice none 0 0,.slice none 0 0,.int .i64 0],some [(0,1),(1,3),(4,1)],[some (0,1,false),some (1,3,true),some (4,1,false),none,none,none,none,none]⟩),
 (78,⟨some 5,some true,some [.string ⟨#[]⟩,.slice none 0 0,.slice none 0 0,.int .i64 0,.int .i64 0],some [(0,1),(1,1),(2,1),(3,1),(4,1)],[some (0,1,false),some (1,1,false),some (2,1,false),some (3,1,false),some (4,1,false),none,none,none]⟩),
 (79,⟨some 5,some true,some [.string ⟨#[]⟩,.slice none 0 0,.slice none 0 0,.int .i64 0,.int .i64 0],some [(0,1),(1,1),(2,1),(3,1),(4,1)],[some (0,1,false),some (1,1,false),some (2,1,false),some (3,1,false),some (4,1,false),none,none,none]⟩),
 (82,⟨some 5,some true,some [.string ⟨#[]⟩,.int .i64 0,.int .i64 0,.int .i64 0,.int .i64 0],some [(0,1),(1,1),(2,1),(3,1),(4,1)],[some (0,1,false),some (1,1,false),some (2,1,false),some (3,1,false),some (4,1,false),none,none,none]⟩),
 (83,⟨some 5,some true,some [.string ⟨#[]⟩,.int .i64 0,.int .i64 0,.int .i64 0,.int .i64 0],some [(0,1),(1,1),(2,1),(3,1),(4,1)],[some (0,1,false),some (1,1,false),some (2,1,false),some (3,1,false),some (4,1,false),none,none,none]⟩),
 (88,⟨some 1,some false,some [.map none],none,n8⟩),
 (105,⟨some 2,some true,some [.string ⟨#[]⟩,.slice none 0 0],some [(0,1),(1,1)],[some (0,1,false),some (1,1,false),none,none,none,none,none,none]⟩),
 (106,⟨some 2,some true,some [.string ⟨#[]⟩,.slice none 0 0],some [(0,1),(1,1)],[some (0,1,false),some (1,1,false),none,none,none,none,none,none]⟩),
 (111,⟨some 1,some false,some [.slice none 0 0],none,n8⟩),
 (121,⟨some 1,some false,some [.int .u64 0],none,n8⟩),
 (129,⟨some 1,some false,some [.int .u64 0],none,n8⟩),
 (152,⟨some 1,some false,some [.int .i64 0],none,n8⟩),
 (159,⟨some 1,some false,some [.int .u32 0],none,n8⟩),
 (168,⟨some 1,some false,some [.int .u64 0],none,n8⟩),
 (188,⟨some 1,some false,some [.int .u8 0],none,n8⟩),
 (189,⟨some 1,some false,some [.int .u8 0],none,n8⟩),
 (191,⟨some 1,some false,some [.int .i32 0],none,n8⟩),
 (192,⟨some 1,some false,some [.int .i32 0],none,n8⟩)]
theorem tb:TabOk Tryz.prog tab:=by unfold TabOk;kernel_rfl
end Go.Proofs.YtgdehkimfmfofaaGreat

namespace Go.Proofs.YtgdehkimfmfofaaGreat
open Go.Am Go.Wb

theorem fn75:Fn1 Tryz.prog 75 Tryz.f75.ntmps 4 (Tryz.f75.body.getD .skip):=⟨Tryz.f75,Tryz.func75,rfl,rfl,rfl,by kernel_rfl⟩
set_option maxRecDepth 100000 in
set_option maxHeartbeats 1000000 in
theorem orderI_call {a b:Int}:CallF Tryz.prog 75 [int a,int b] (.p (int (orderI a b))):=by
  refine callF_of_code fn75 (Nat.le_of_ble_eq_true rfl) fun w0 M0 hM0=>?_
  refine xC tb hM0 13 [0,1,7] [] rfl ?_
  refine spC 7 rfl ?_ ?_<;>intro h1<;>try simp only [dq] at h1
  refine xA tb hM0 8 [] [] rfl ?_
  refine end_ret rfl ?_;rotate_left
  refine xA tb hM0 11 [10] [] rfl ?_
  refine spC 10 rfl ?_ ?_<;>intro h2<;>try simp only [dq] at h2
  refine xA tb hM0 8 [] [] rfl ?_
  refine end_ret rfl ?_;rotate_left
  refine xA tb hM0 9 [] [] rfl ?_
  refine end_ret rfl ?_;rotate_left
  all_goals
    unfold orderI;(repeat' split)<;>first|rfl|omega

theorem fn44:Fn1 Tryz.prog 44 Tryz.f44.ntmps 2 (Tryz.f44.body.getD .skip):=⟨Tryz.f44,Tryz.func44,rfl,rfl,rfl,by kernel_rfl⟩
set_option maxRecDepth 100000 in
set_option maxHeartbeats 1000000 in
theorem set_call {l:List Int} (hl:l.length≤9223372036854775807):CallF Tryz.prog 44 [ints l] (.p (bool (setOk l))):=by
  refine callF_of_code fn44 (Nat.le_of_ble_eq_true rfl) fun w0 M0 hM0=>?_
  refine xC tb hM0 9 [0,5] [] rfl ?_
  refine oP rfl (pure_lenm rfl Tryz.underlying22 rfl) ?_
  refine xA tb hM0 4 [0,5,6,7] [] rfl ?_
  refine lp (fun zm zs=>∃ k:Nat,zm=l.length-k∧(k≤l.length)∧(∀ j,j<k→okAt l j)∧zs=⟨35,[(0,.v .mx (ints l)),(5,.v .mx (ints l)),(6,.v .pl (int l.length)),(7,.v .pl (int k))],[]⟩) ?_ ?_
  exact ⟨_,0,rfl,Nat.zero_le _,fun j hj=>absurd hj (by omega),rfl⟩
  rintro zm zs ⟨k,rfl,hL1_0,hL1_1,rfl⟩
  refine xA tb hM0 6 [0,5,6,7,8] [] rfl ?_
  refine spC 8 rfl ?_ ?_<;>intro h1<;>try simp only [dq] at h1
  refine xA tb hM0 8 [0,5,6,7,9] [] rfl ?_
  refine oP rfl (pure_ix rfl Tryz.underlying22 sz3 rfl rfl (by omega) (fun _=>rfl)) ?_
  refine xA tb hM0 10 [0,3,4,5,6,7,14] [] rfl ?_
  refine spO 14 rfl ?_ ?_<;>intro h2'<;>try simp only [dq] at h2'
  refine xA tb hM0 30 [] [] rfl ?_
  refine end_ret rfl ?_;rotate_left
  refine xA tb hM0 4 [0,3,4,5,6,7,18] [] rfl ?_
  refine spO 18 rfl ?_ ?_<;>intro h3'<;>try simp only [dq] at h3'
  refine xA tb hM0 26 [] [] rfl ?_
  refine end_ret rfl ?_;rotate_left
  refine xA tb hM0 3 [0,3,4,5,6,7,18,21] [] rfl ?_
  refine spO 21 rfl ?_ ?_<;>intro h4'<;>try simp only [dq] at h4'
  refine xA tb hM0 3 [0,5,6,7,18,21,22,23,24] [] rfl ?_
  refine oP rfl (pure_subi rfl rfl rfl (by omega)) ?_
  refine oP rfl (pure_ix rfl Tryz.underlying22 sz3 rfl rfl (by omega) (fun _=>rfl)) ?_
  refine xA tb hM0 6 [0,5,6,7,30] [] rfl ?_
  refine spC 30 rfl ?_ ?_<;>intro h5<;>try simp only [dq] at h5
  refine xA tb hM0 12 [] [] rfl ?_
  refine end_ret rfl ?_;rotate_left
  refine xA tb hM0 5 [0,5,6,7] [] rfl ?_
  refine oP rfl (pure_addi rfl rfl rfl (by omega)) ?_
  refine xA tb hM0 2 [0,5,6,7] [] rfl ?_
  refine nx ?_;rotate_left
  refine xA tb hM0 16 [0,5,6,7] [] rfl ?_
  refine oP rfl (pure_addi rfl rfl rfl (by omega)) ?_
  refine xA tb hM0 2 [0,5,6,7] [] rfl ?_
  refine nx ?_;rotate_left
  refine xA tb hM0 9 [32] [] rfl ?_
  refine oP rfl (pure_lenm rfl Tryz.underlying22 rfl) ?_
  refine xA tb hM0 5 [] [] rfl ?_
  refine end_ret rfl ?_
  rw [setOk_end (fun j hj=>hL1_1 j (by omega))];exact congrArg (fun b=>RV.p (bool b)) (decide_eq_decide.2 (by omega))
  all_goals first
   | (
     rw [← setOk_no (l:=l) (k:=k) (by omega) (fun q=>by obtain ⟨q1,q2,q3⟩:=q;omega)];done)
   | (
     exact ⟨_,⟨k+1,rfl,by omega,all_step hL1_1 ⟨by omega,by omega,fun _=>by omega⟩,rfl⟩,by omega⟩;done)

theorem fn47:Fn1 Tryz.prog 47 Tryz.f47.ntmps 2 (Tryz.f47.body.getD .skip):=⟨Tryz.f47,Tryz.func47,rfl,rfl,rfl,by kernel_rfl⟩
set_option maxRecDepth 100000 in
set_option maxHeartbeats 1000000 in
theorem rset_call {l:List Int} (hl:l.length≤9223372036854775807):CallF Tryz.prog 47 [ints l] (.p (bool (setOk l))):=by
  refine callF_of_code fn47 (Nat.le_of_ble_eq_true rfl) fun w0 M0 hM0=>?_
  refine xC tb hM0 12 [0,3] [] rfl ?_
  refine lp (fun zm zs=>∃ k:Nat,zm=l.length-k∧(k≤l.length)∧(∀ j,j<k→okAt l j)∧zs=⟨41,[(0,.v .mx (ints l)),(3,.v .pl (int k))],[]⟩) ?_ ?_
  exact ⟨_,0,rfl,Nat.zero_le _,fun j hj=>absurd hj (by omega),rfl⟩
  rintro zm zs ⟨k,rfl,hL1_0,hL1_1,rfl⟩
  refine xA tb hM0 5 [0,3,4,5] [] rfl ?_
  refine oP rfl (pure_lenm rfl Tryz.underlying22 rfl) ?_
  refine xA tb hM0 3 [0,3,7] [] rfl ?_
  refine spC 7 rfl ?_ ?_<;>intro h1<;>try simp only [dq] at h1
  refine xA tb hM0 6 [0,3] [] rfl ?_
  refine code_draw mixed (by kernel_rfl) _ rfl ?_
  refine dl_pure rfl rfl rfl (pure_move rfl rfl) ?_
  refine dl_pure rfl rfl rfl (pure_move rfl rfl) ?_
  refine dl_pure rfl rfl rfl (pure_ix rfl Tryz.underlying22 sz3 rfl rfl (by omega) (fun _=>rfl)) ?_
  refine dl_pure rfl rfl rfl (pure_load rfl ag3 rfl rfl) ?_
  refine dl_pure rfl rfl rfl (pure_lss rfl rfl rfl) ?_
  refine dl_pure rfl rfl rfl (pure_move rfl rfl) ?_
  refine dl_guard rfl (fun h2=>?_) (fun h2=>?_)
  have h2':=h2;try simp only [dq] at h2'
  refine dl_skip_g rfl rfl h2 rfl rfl ?_
  refine dpk 41 [(0,_),(3,_),(15,_),(16,_)] [] rfl rfl rfl ?_
  refine dl_skip_g rfl rfl h2 rfl rfl ?_
  refine dl_skip_g rfl rfl h2 rfl rfl ?_
  refine dl_skip_g rfl rfl h2 rfl rfl ?_
  refine dl_skip_g rfl rfl h2 rfl rfl ?_
  refine dl_pure rfl rfl rfl (pure_pick_t rfl rfl h2 rfl) ?_
  refine dl_pure rfl rfl rfl (pure_move rfl rfl) ?_
  refine dl_skip_g rfl rfl rfl rfl rfl ?_
  refine dpk 41 [(0,_),(3,_),(22,_),(23,_)] [] rfl rfl rfl ?_
  refine dl_skip_g rfl rfl rfl rfl rfl ?_
  refine dl_skip_g rfl rfl rfl rfl rfl ?_
  refine dl_skip_u rfl rfl rfl ?_
  refine dl_skip_u rfl rfl rfl ?_
  refine dl_skip_u rfl rfl rfl ?_
  refine dl_skip_u rfl rfl rfl ?_
  refine dl_skip_u rfl rfl rfl ?_
  refine dpk 41 [(0,_),(3,_),(22,_),(25,_),(29,_),(30,_)] [] rfl rfl rfl ?_
  refine dl_skip_u rfl rfl rfl ?_
  refine dl_skip_u rfl rfl rfl ?_
  refine dl_skip_u rfl rfl rfl ?_
  refine dl_skip_u rfl rfl rfl ?_
  refine dl_skip_u rfl rfl rfl ?_
  refine dl_skip_g rfl rfl rfl rfl rfl ?_
  refine dl_pure rfl rfl rfl (pure_pick_t rfl rfl rfl rfl) ?_
  refine dl_nil ?_
  refine xD tb hM0 13 [] [] rfl ?_
  refine end_ret rfl ?_;rotate_left
  have h2':=h2;try simp only [dq] at h2'
  refine dl_pure_g rfl rfl h2 rfl rfl (pure_move rfl rfl) ?_
  refine dpk 41 [(0,_),(3,_),(15,_),(16,_)] [] rfl rfl rfl ?_
  refine dl_pure_g rfl rfl h2 rfl rfl (pure_move rfl rfl) ?_
  refine dl_pure_g rfl rfl h2 rfl rfl (pure_ix rfl Tryz.underlying22 sz3 rfl rfl (by omega) (fun _=>rfl)) ?_
  refine dl_pure_g rfl rfl h2 rfl rfl (pure_load rfl ag3 rfl rfl) ?_
  refine dl_pure_g rfl rfl h2 rfl rfl (pure_geq rfl rfl rfl) ?_
  refine dl_pure rfl rfl rfl (pure_pick_f rfl rfl h2 rfl) ?_
  refine dl_pure rfl rfl rfl (pure_move rfl rfl) ?_
  refine dl_guard rfl (fun h3=>?_) (fun h3=>?_)
  have h3':=h3;try simp only [dq] at h3'
  refine dl_skip_g rfl rfl h3 rfl rfl ?_
  refine dpk 41 [(0,_),(3,_),(22,_),(23,_)] [] rfl rfl rfl ?_
  refine dl_skip_g rfl rfl h3 rfl rfl ?_
  refine dl_skip_g rfl rfl h3 rfl rfl ?_
  refine dl_skip_u rfl rfl rfl ?_
  refine dl_skip_u rfl rfl rfl ?_
  refine dl_skip_u rfl rfl rfl ?_
  refine dl_skip_u rfl rfl rfl ?_
  refine dl_skip_u rfl rfl rfl ?_
  refine dpk 41 [(0,_),(3,_),(22,_),(25,_),(29,_),(30,_)] [] rfl rfl rfl ?_
  refine dl_skip_u rfl rfl rfl ?_
  refine dl_skip_u rfl rfl rfl ?_
  refine dl_skip_u rfl rfl rfl ?_
  refine dl_skip_u rfl rfl rfl ?_
  refine dl_skip_u rfl rfl rfl ?_
  refine dl_skip_g rfl rfl h3 rfl rfl ?_
  refine dl_pure rfl rfl rfl (pure_pick_t rfl rfl h3 rfl) ?_
  refine dl_nil ?_
  refine xD tb hM0 13 [] [] rfl ?_
  refine end_ret rfl ?_;rotate_left
  have h3':=h3;try simp only [dq] at h3'
  refine dl_pure_g rfl rfl h3 rfl rfl (pure_move rfl rfl) ?_
  refine dpk 41 [(0,_),(3,_),(22,_),(23,_)] [] rfl rfl rfl ?_
  refine dl_pure_g rfl rfl h3 rfl rfl (pure_gtr rfl rfl rfl) ?_
  refine dl_pure_g rfl rfl h3 rfl rfl (pure_move rfl rfl) ?_
  refine dl_guard rfl (fun h4=>?_) (fun h4=>?_)
  have h4':=h4;try simp only [dq] at h4'
  refine dl_pure_g rfl rfl h4 rfl rfl (pure_move rfl rfl) ?_
  refine dl_pure_g rfl rfl h4 rfl rfl (pure_move rfl rfl) ?_
  refine dl_pure_g rfl rfl h4 rfl rfl (pure_ix rfl Tryz.underlying22 sz3 rfl rfl (by omega) (fun _=>rfl)) ?_
  refine dl_pure_g rfl rfl h4 rfl rfl (pure_load rfl ag3 rfl rfl) ?_
  refine dl_pure_g rfl rfl h4 rfl rfl (pure_move rfl rfl) ?_
  refine dpk 41 [(0,_),(3,_),(22,_),(25,_),(29,_),(30,_)] [] rfl rfl rfl ?_
  refine dl_pure_g rfl rfl h4 rfl rfl (pure_move rfl rfl) ?_
  refine dl_pure_g rfl rfl h4 rfl rfl (pure_subi rfl rfl rfl (by omega)) ?_
  refine dl_pure_g rfl rfl h4 rfl rfl (pure_ix rfl Tryz.underlying22 sz3 rfl rfl (by omega) (fun _=>rfl)) ?_
  refine dl_pure_g rfl rfl h4 rfl rfl (pure_load rfl ag3 rfl rfl) ?_
  refine dl_pure_g rfl rfl h4 rfl rfl (pure_leq rfl rfl rfl) ?_
  refine dl_pure_g rfl rfl h3 rfl rfl (pure_pick_t rfl rfl h4 rfl) ?_
  refine dl_pure rfl rfl rfl (pure_pick_f rfl rfl h3 rfl) ?_
  refine dl_nil ?_
  refine xD tb hM0 1 [0,3,37] [] rfl ?_
  refine spC 37 rfl ?_ ?_<;>intro h5<;>try simp only [dq] at h5
  refine xA tb hM0 12 [] [] rfl ?_
  refine end_ret rfl ?_;rotate_left
  refine xA tb hM0 6 [0,8] [] rfl ?_
  refine oP rfl (pure_addi rfl rfl rfl (by omega)) ?_
  refine xA tb hM0 2 [0,3] [] rfl ?_
  refine nx ?_;rotate_left
  have h4':=h4;try simp only [dq] at h4'
  refine dl_skip_g rfl rfl h4 rfl rfl ?_
  refine dl_skip_g rfl rfl h4 rfl rfl ?_
  refine dl_skip_g rfl rfl h4 rfl rfl ?_
  refine dl_skip_g rfl rfl h4 rfl rfl ?_
  refine dl_skip_g rfl rfl h4 rfl rfl ?_
  refine dpk 41 [(0,_),(3,_),(22,_),(25,_),(29,_),(30,_)] [] rfl rfl rfl ?_
  refine dl_skip_g rfl rfl h4 rfl rfl ?_
  refine dl_skip_g rfl rfl h4 rfl rfl ?_
  refine dl_skip_g rfl rfl h4 rfl rfl ?_
  refine dl_skip_g rfl rfl h4 rfl rfl ?_
  refine dl_skip_g rfl rfl h4 rfl rfl ?_
  refine dl_pure_g rfl rfl h3 rfl rfl (pure_pick_f rfl rfl h4 rfl) ?_
  refine dl_pure rfl rfl rfl (pure_pick_f rfl rfl h3 rfl) ?_
  refine dl_nil ?_
  refine xD tb hM0 7 [0,8] [] rfl ?_
  refine oP rfl (pure_addi rfl rfl rfl (by omega)) ?_
  refine xA tb hM0 2 [0,3] [] rfl ?_
  refine nx ?_;rotate_left
  refine xA tb hM0 9 [38] [] rfl ?_
  refine oP rfl (pure_lenm rfl Tryz.underlying22 rfl) ?_
  refine xA tb hM0 5 [] [] rfl ?_
  refine end_ret rfl ?_
  rw [setOk_end (fun j hj=>hL1_1 j (by omega))];exact congrArg (fun b=>RV.p (bool b)) (decide_eq_decide.2 (by omega))
  all_goals first
   | (
     rw [← setOk_no (l:=l) (k:=k) (by omega) (fun q=>by obtain ⟨q1,q2,q3⟩:=q;omega)];done)
   | (
     exact ⟨_,⟨k+1,rfl,by omega,all_step hL1_1 ⟨by omega,by omega,fun _=>by omega⟩,rfl⟩,by omega⟩;done)
end Go.Proofs.YtgdehkimfmfofaaGreat

namespace Go.Proofs.YtgdehkimfmfofaaGreat
open Go.Am Go.Wb

theorem src_avs {P:Program} {w0:Fr} {M0:Nat→Prop} {s:St} {y:Operand} {l:List Rx} (hy:Am.viewAt s.ev s.o y=some (.pl,.sl (Rx.avs l))):Src P w0 M0 s y 3 (l.map rx):=by
  rw [avs_eq] at hy;exact src_plm hy (fun _=>rfl)

theorem fn54:FnC Tryz.prog 54 Tryz.f54.ntmps 2 25 3 (Tryz.f54.body.getD .skip):=⟨Tryz.f54,Tryz.func54,rfl,rfl,rfl,by kernel_rfl,ag25,sz25⟩
set_option maxRecDepth 100000 in
set_option maxHeartbeats 1000000 in
theorem one_call (s:List Int):CallN Tryz.prog 54 [ints s] (.p (rx (.mk 2 s []))):=by
  refine callN_of_codeC fn54 (Nat.le_of_ble_eq_true rfl) fun w0 M0 hM0=>?_
  refine xC tb hM0 13 [] [] rfl ?_
  refine endC_ret rfl ?_
  rfl

theorem fn40:FnC Tryz.prog 40 Tryz.f40.ntmps 4 25 3 (Tryz.f40.body.getD .skip):=⟨Tryz.f40,Tryz.func40,rfl,rfl,rfl,by kernel_rfl,ag25,sz25⟩
set_option maxRecDepth 100000 in
set_option maxHeartbeats 1000000 in
theorem of_call (k:Int) (l:List Rx):CallN Tryz.prog 40 [int k,rxs l] (.p (rx (.mk k [] l))):=by
  refine callN_of_codeC fn40 (Nat.le_of_ble_eq_true rfl) fun w0 M0 hM0=>?_
  refine xC tb hM0 14 [] [] rfl ?_
  refine endC_ret rfl ?_
  rw [rx_mk];rfl

theorem fn77:FnC Tryz.prog 77 Tryz.f77.ntmps 2 25 3 (Tryz.f77.body.getD .skip):=⟨Tryz.f77,Tryz.func77,rfl,rfl,rfl,by kernel_rfl,ag25,sz25⟩
set_option maxRecDepth 100000 in
set_option maxHeartbeats 4000000 in
theorem seq_call {l:List Rx} (hs:Rx.sizes l≤1099511627776):CallN Tryz.prog 77 [rxs l] (.p (rx (seqN l))):=by
  have hl:=sizes_len l
  refine callN_of_codeC fn77 (Nat.le_of_ble_eq_true rfl) fun w0 M0 hM0=>?_
  refine xC tb hM0 7 [0,2] [2] rfl ?_
  refine oS rfl (step_nil rfl rfl rfl rfl rfl 25 hM0) rfl ?_
  refine xA tb hM0 6 [2,3,6] [2,3] rfl ?_
  refine oP rfl (pure_lenm rfl Tryz.underlying23 rfl) ?_
  refine xA tb hM0 4 [2,3,6,7,8] [2,3] rfl ?_
  refine lp (fun zm zs=>∃ i:Nat,zm=l.length-i∧(i≤l.length)∧(∀ j,j<i→(l.getD j default).kind≠0)∧zs=⟨42,[(2,.pbox 2 0),(3,.own 3),(6,.v .pl (rxs l)),(7,.v .pl (int l.length)),(8,.v .pl (int i))],[(2,.box 25 [.v .pl (.sc (.int .i64 0)),.v .pl (.sc (.slice none 0 0)),.v .pl (.sc (.slice none 0 0))]),(3,.arr 25 ((seqL (l.take i)).map rx))]⟩) ?_ ?_
  exact ⟨_,0,rfl,Nat.zero_le _,fun j hj=>absurd hj (by omega),rfl⟩
  rintro zm zs ⟨i,rfl,hL1_0,hL1_1,rfl⟩
  have hroom:=fun h=>seqL_room (l:=l) (i:=i) h
  refine xA tb hM0 6 [2,3,6,7,8,9] [2,3] rfl ?_
  refine spC 9 rfl ?_ ?_<;>intro h1<;>try simp only [dq] at h1
  refine xA tb hM0 7 [2,3,6,7,8] [2,3] rfl ?_
  refine oP rfl (pure_ix rfl Tryz.underlying23 sz25 rfl rfl (by omega) (fun _=>rfl)) ?_
  refine xA tb hM0 18 [2,3,5,6,7,8,13,18] [2,3,5] rfl ?_
  refine spC 18 rfl ?_ ?_<;>intro h2<;>try simp only [dq] at h2
  refine xA tb hM0 14 [] [] rfl ?_
  refine endC_ret rfl ?_;rotate_left
  refine xA tb hM0 7 [2,3,5,6,7,8,13,21] [2,3,5] rfl ?_
  refine spC 21 rfl ?_ ?_<;>intro h3<;>try simp only [dq] at h3
  refine xA tb hM0 6 [2,3,6,7,8] [2,3] rfl ?_
  refine oP rfl (pure_addi rfl rfl rfl (by omega)) ?_
  refine xA tb hM0 2 [2,3,6,7,8] [2,3] rfl ?_
  refine nx ?_;rotate_left
  refine xA tb hM0 7 [2,3,5,6,7,8,23] [2,3,5] rfl ?_
  refine spC 23 rfl ?_ ?_<;>intro h4<;>try simp only [dq] at h4
  refine xA tb hM0 1 [2,3,5,6,7,8] [2,3,5] rfl ?_
  have hr:=hroom (by omega)
  refine xA tb hM0 4 [2,6,7,8,25,27] [2,3] rfl ?_
  refine oS rfl (step_append rfl rfl rfl rfl Tryz.underlying23 el25 rfl rfl hM0 (src_avs (l:=(l.getD i default).kids) rfl) (by first|(simp only [ll];omega)|omega) (by first|(simp only [ll];omega)|omega)) rfl ?_
  refine xA tb hM0 6 [2,3,6,7,8] [2,3] rfl ?_
  refine oP rfl (pure_addi rfl rfl rfl (by omega)) ?_
  refine xA tb hM0 2 [2,3,6,7,8] [2,3] rfl ?_
  refine nx ?_;rotate_left
  refine xA tb hM0 1 [2,3,5,6,7,8] [2,3,5] rfl ?_
  have hr:=hroom (by omega)
  refine xA tb hM0 3 [2,6,7,8,14,15] [2,3] rfl ?_
  refine oP rfl (pure_lit rfl Tryz.underlying23 el25 rfl rfl rfl rfl hM0) ?_
  refine oS rfl (step_append rfl rfl rfl rfl Tryz.underlying23 el25 rfl rfl hM0 (src_pl rfl (one_len (by rfl))) (by first|(simp only [ll];omega)|omega) (by first|(simp only [ll];omega)|omega)) rfl ?_
  refine xA tb hM0 6 [2,3,6,7,8] [2,3] rfl ?_
  refine oP rfl (pure_addi rfl rfl rfl (by omega)) ?_
  refine xA tb hM0 2 [2,3,6,7,8] [2,3] rfl ?_
  refine nx ?_;rotate_left
  refine xA tb hM0 10 [2,3,30] [2,3] rfl ?_
  refine oP rfl (pure_lenm rfl Tryz.underlying23 rfl) ?_
  refine xA tb hM0 9 [2,3,31,32] [2,3] rfl ?_
  refine spC 32 rfl ?_ ?_<;>intro h5<;>try simp only [dq] at h5
  refine xA tb hM0 10 [] [] rfl ?_
  refine endC_ret rfl ?_;rotate_left
  refine xA tb hM0 7 [2,3,35] [2,3] rfl ?_
  refine spC 35 rfl ?_ ?_<;>intro h6<;>try simp only [dq] at h6
  refine xA tb hM0 4 [2,37] [2,3] rfl ?_
  refine oP rfl (pure_index_own rfl Tryz.underlying23 sz25 rfl rfl rfl (by first|(simp only [ll];omega)|omega)) ?_
  refine oP rfl (pure_load_pel_agg rfl ag25 sz25 rfl rfl sz25 (mget (by first|(simp only [ll];omega)|omega))) ?_
  refine xA tb hM0 6 [] [] rfl ?_
  refine endC_ret rfl ?_;rotate_left
  refine xA tb hM0 5 [2,3] [2,3] rfl ?_
  refine code_frz 42 [(2,_),(3,_)] [(2,_)] hM0 rfl ⟨.inl rfl,.inr ⟨_,_,rfl,rfl,rfl⟩,trivial⟩ ⟨rfl,trivial⟩ ?_
  refine xK tb hM0 7 [] [] rfl ?_
  refine endC_ret rfl ?_;rotate_left
  all_goals first
   | (
     first|(rw [seqN_none (i:=i) (by omega) (by omega)];rfl)|(rw [seqN_some (fun j hj=>hL1_1 j (by omega))];rw [show seqL l=seqL (l.take i) by rw [List.take_of_length_le (by omega)]];first|(rw [seqE_0 (by omega)];rfl)|(rw [seqE_1 (by omega)];rfl)|(rw [seqE_2 (by omega) (by omega),rx_mk];rfl));done)
   | (
     exact ⟨_,⟨i+1,rfl,by omega,all_step hL1_1 (by omega),by rw [seqL_succ (by omega)];first|(rw [seqF_1 (by omega),List.append_nil];rfl)|(rw [seqF_3 (by omega),List.map_append];rfl)|(rw [seqF_x (by omega) (by omega),List.map_append];rfl)⟩,by omega⟩;done)
end Go.Proofs.YtgdehkimfmfofaaGreat

namespace Go.Proofs.YtgdehkimfmfofaaGreat
open Go.Am Go.Wc

theorem fn57:Fn1 Tryz.prog 57 Tryz.f57.ntmps 4 (Tryz.f57.body.getD .skip):=⟨Tryz.f57,Tryz.func57,rfl,rfl,rfl,by kernel_rfl⟩
set_option maxRecDepth 100000 in
set_option maxHeartbeats 1000000 in
theorem around_call {n most:Int} (hn:I64 n) (hm:0<most):CallF Tryz.prog 57 [int n,int most] (.p (int (around n most))):=by
  obtain ⟨hn1,hn2⟩:=hn
  refine callF_of_code fn57 (Nat.le_of_ble_eq_true rfl) fun w0 M0 hM0=>?_
  refine xC tb hM0 12 [0,1,6] [] rfl ?_
  refine spC 6 rfl ?_ ?_<;>intro h1<;>try simp only [dq] at h1
  refine xA tb hM0 3 [1,7] [] rfl ?_
  refine oP rfl (pure_addi rfl rfl rfl (by omega)) ?_
  refine oP rfl (pure_neg rfl rfl (by omega)) ?_
  refine xA tb hM0 7 [10,11] [] rfl ?_
  refine oP rfl (pure_remn rfl rfl rfl (by omega)) ?_
  refine xA tb hM0 4 [] [] rfl ?_
  refine end_ret rfl ?_;rotate_left
  refine xA tb hM0 7 [10,11] [] rfl ?_
  refine oP rfl (pure_remn rfl rfl rfl (by omega)) ?_
  refine xA tb hM0 4 [] [] rfl ?_
  refine end_ret rfl ?_;rotate_left
  all_goals
    unfold around;first|rw [if_pos (by assumption)]|rw [if_neg (by assumption)]
end Go.Proofs.YtgdehkimfmfofaaGreat

