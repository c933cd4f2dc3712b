/-
  Contracts: the search over numbers;the least word.
-/
import Derived.Test.YtjimlkpfmbachaaGreatJ10
import Derived.Test.YtjimlkpfmbachaaGreatRows
import Derived.Test.YtjimlkpfmbachaaGreatJ11
import Derived.Test.YtjimlkpfmbachaaGreatJ13
import Derived.Test.YtjimlkpfmbachaaGreatJ14
import Derived.Test.YtjimlkpfmbachaaGreatJ15
set_option linter.unusedVariables false
set_option linter.unusedSectionVars false
set_option linter.unusedSimpArgs false
namespace Go.Proofs.YtjimlkpfmbachaaGreat
open Go.Am
theorem mixed:Tryz.prog.follows .mixedOrders=true:=by kernel_rfl
theorem sz3:szOf Tryz.prog 3=some 1:=by kernel_rfl
theorem ag3:isAggOf Tryz.prog 3=some false:=by kernel_rfl
theorem el3:elOk Tryz.prog 3 1 8=true:=by kernel_rfl
theorem zv3:(Tryz.prog.info? 3).bind (·.zero)=some (.int .i64 0):=by kernel_rfl
theorem ze3:zeroOf Tryz.prog 3=some [.int .i64 0]:=by kernel_rfl
theorem sz4:szOf Tryz.prog 4=some 1:=by kernel_rfl
theorem ag4:isAggOf Tryz.prog 4=some false:=by kernel_rfl
theorem el4:elOk Tryz.prog 4 1 1=true:=by kernel_rfl
theorem zv4:(Tryz.prog.info? 4).bind (·.zero)=some (.bool false):=by kernel_rfl
theorem ze4:zeroOf Tryz.prog 4=some [.bool false]:=by kernel_rfl
theorem sz5:szOf Tryz.prog 5=some 1:=by kernel_rfl
theorem ag5:isAggOf Tryz.prog 5=some false:=by kernel_rfl
theorem el5:elOk Tryz.prog 5 1 1=true:=by kernel_rfl
theorem ze5:zeroOf Tryz.prog 5=some [.int .u8 0]:=by kernel_rfl
theorem sz9:szOf Tryz.prog 9=some 1:=by kernel_rfl
theorem ag9:isAggOf Tryz.prog 9=some false:=by kernel_rfl
theorem el9:elOk Tryz.prog 9 1 16=true:=by kernel_rfl
theorem sz22:szOf Tryz.prog 22=some 1:=by kernel_rfl
theorem ag22:isAggOf Tryz.prog 22=some false:=by kernel_rfl
theorem el22:elOk Tryz.prog 22 1 24=true:=by kernel_rfl
theorem sz23:szOf Tryz.prog 23=some 1:=by kernel_rfl
theorem ag23:isAggOf Tryz.prog 23=some false:=by kernel_rfl
theorem sz25:szOf Tryz.prog 25=some 3:=by kernel_rfl
theorem ag25:isAggOf Tryz.prog 25=some true:=by kernel_rfl
theorem el25:elOk Tryz.prog 25 3 56=true:=by kernel_rfl
theorem ze25:zeroOf Tryz.prog 25=some [.int .i64 0,.slice none 0 0,.slice none 0 0]:=by kernel_rfl
theorem pl25:placesOf Tryz.prog 25=some [(0,1),(1,1),(2,1)]:=by kernel_rfl
theorem fd25_0:fldOf Tryz.prog 25 0=some (0,0+1,false):=by kernel_rfl
theorem fd25_1:fldOf Tryz.prog 25 1=some (1,0+1,false):=by kernel_rfl
theorem fd25_2:fldOf Tryz.prog 25 2=some (2,0+1,false):=by kernel_rfl
theorem sz28:szOf Tryz.prog 28=some 1:=by kernel_rfl
theorem ag28:isAggOf Tryz.prog 28=some false:=by kernel_rfl
theorem sz29:szOf Tryz.prog 29=some 1:=by kernel_rfl
theorem ag29:isAggOf Tryz.prog 29=some false:=by kernel_rfl
theorem el29:elOk Tryz.prog 29 1 24=true:=by kernel_rfl
theorem sz31:szOf Tryz.prog 31=some 3:=by kernel_rfl
theorem ag31:isAggOf Tryz.prog 31=some true:=by kernel_rfl
theorem ze31:zeroOf Tryz.prog 31=some [.int .i64 0,.slice none 0 0,.slice none 0 0]:=by kernel_rfl
theorem pl31:placesOf Tryz.prog 31=some [(0,1),(1,1),(2,1)]:=by kernel_rfl
theorem fd31_0:fldOf Tryz.prog 31 0=some (0,0+1,false):=by kernel_rfl
theorem fd31_1:fldOf Tryz.prog 31 1=some (1,0+1,false):=by kernel_rfl
theorem fd31_2:fldOf Tryz.prog 31 2=some (2,0+1,false):=by kernel_rfl
theorem sz45:szOf Tryz.prog 45=some 1:=by kernel_rfl
theorem ag45:isAggOf Tryz.prog 45=some false:=by kernel_rfl
theorem el45:elOk Tryz.prog 45 1 8=true:=by kernel_rfl
theorem ze45:zeroOf Tryz.prog 45=some [.int .u64 0]:=by kernel_rfl
theorem sz58:szOf Tryz.prog 58=some 1:=by kernel_rfl
theorem ag58:isAggOf Tryz.prog 58=some false:=by kernel_rfl
theorem sz62:szOf Tryz.prog 62=some 1:=by kernel_rfl
theorem ag62:isAggOf Tryz.prog 62=some false:=by kernel_rfl
theorem sz74:szOf Tryz.prog 74=some 2:=by kernel_rfl
theorem ag74:isAggOf Tryz.prog 74=some true:=by kernel_rfl
theorem el74:elOk Tryz.prog 74 2 16=true:=by kernel_rfl
theorem ze74:zeroOf Tryz.prog 74=some [.int .i64 0,.int .i64 0]:=by kernel_rfl
theorem ag81:isAggOf Tryz.prog 81=some false:=by kernel_rfl
theorem sz83:szOf Tryz.prog 83=some 1:=by kernel_rfl
theorem ag83:isAggOf Tryz.prog 83=some false:=by kernel_rfl
theorem sz84:szOf Tryz.prog 84=some 1:=by kernel_rfl
theorem ag84:isAggOf Tryz.prog 84=some false:=by kernel_rfl
theorem sz103:szOf Tryz.prog 103=some 3:=by kernel_rfl
theorem el103:elOk Tryz.prog 103 3 24=true:=by kernel_rfl
theorem fd103_0:fldOf Tryz.prog 103 0=some (0,0+1,false):=by kernel_rfl
theorem fd103_1:fldOf Tryz.prog 103 1=some (1,0+1,false):=by kernel_rfl
theorem fd103_2:fldOf Tryz.prog 103 2=some (2,0+1,false):=by kernel_rfl
theorem sz108:szOf Tryz.prog 108=some 4:=by kernel_rfl
theorem el108:elOk Tryz.prog 108 4 32=true:=by kernel_rfl
theorem fd108_0:fldOf Tryz.prog 108 0=some (0,1+1,true):=by kernel_rfl
theorem fd108_1:fldOf Tryz.prog 108 1=some (2,0+1,false):=by kernel_rfl
theorem fd108_2:fldOf Tryz.prog 108 2=some (3,0+1,false):=by kernel_rfl
def n8:List (Option (Nat×Nat×Bool)):=[none,none,none,none,none,none,none,none]
def tab:List (Nat×TyF):=[(2,⟨some 1,some false,some [.int .i64 0],none,n8⟩),
 (3,⟨some 1,some false,some [.int .i64 0],none,n8⟩),
 (4,⟨some 1,some false,some [.bool false],none,n8⟩),
 (5,⟨some 1,some false,some [.int .u8 0],none,n8⟩),
 (6,⟨some 1,some false,some [.int .u8 0],none,n8⟩),
 (7,⟨some 4,some true,some [.int .i64 0,.int .i64 0,.bool false,.int .u8 0],some [(0,1),(1,1),(2,1),(3,1)],[some (0,1,false),some (1,1,false),some (2,1,false),some (3,1,false),none,none,none,none]⟩),
 (8,⟨some 4,some true,some [.int .i64 0,.int .i64 0,.bool false,.int .u8 0],some [(0,1),(1,1),(2,1),(3,1)],[some (0,1,false),some (1,1,false),some (2,1,false),some (3,1,false),none,none,none,none]⟩),
 (9,⟨some 1,some false,some [.string ⟨#[]⟩],none,n8⟩),
 (10,⟨some 1,some false,some [.string ⟨#[]⟩],none,n8⟩),
 (11,⟨some 1,some false,some [.string ⟨#[]⟩],none,n8⟩),
 (12,⟨some 1,some false,some [.int .u64 0],none,n8⟩),
 (13,⟨some 2,some true,some [.string ⟨#[]⟩,.int .u64 0],some [(0,1),(1,1)],[some (0,1,false),some (1,1,false),none,none,none,none,none,none]⟩),
 (14,⟨some 2,some true,some [.string ⟨#[]⟩,.int .u64 0],some [(0,1),(1,1)],[some (0,1,false),some (1,1,false),none,none,none,none,none,none]⟩),
 (21,⟨some 1,some false,some [.int .i32 0],none,n8⟩),
 (22,⟨some 1,some false,some [.slice none 0 0],none,n8⟩),
 (23,⟨some 1,some false,some [.slice none 0 0],none,n8⟩),
 (24,⟨some 3,some true,some [.int .i64 0,.slice none 0 0,.slice none 0 0],some [(0,1),(1,1),(2,1)],[some (0,1,false),some (1,1,false),some (2,1,false),none,none,none,none,none]⟩),
 (25,⟨some 3,some true,some [.int .i64 0,.slice none 0 0,.slice none 0 0],some [(0,1),(1,1),(2,1)],[some (0,1,false),some (1,1,false),some (2,1,false),none,none,none,none,none]⟩),
 (28,⟨some 1,some false,some [.slice none 0 0],none,n8⟩),
 (29,⟨some 1,some false,some [.slice none 0 0],none,n8⟩),
 (30,⟨some 3,some true,some [.int .i64 0,.slice none 0 0,.slice none 0 0],some [(0,1),(1,1),(2,1)],[some (0,1,false),some (1,1,false),some (2,1,false),none,none,none,none,none]⟩),
 (31,⟨some 3,some true,some [.int .i64 0,.slice none 0 0,.slice none 0 0],some [(0,1),(1,1),(2,1)],[some (0,1,false),some (1,1,false),some (2,1,false),none,none,none,none,none]⟩),
 (32,⟨some 1,some false,some [.int .i64 0],none,n8⟩),
 (40,⟨some 1,some false,some [.slice none 0 0],none,n8⟩),
 (45,⟨some 1,some false,some [.int .u64 0],none,n8⟩),
 (58,⟨some 1,some false,some [.map none],none,n8⟩),
 (60,⟨some 1,some false,some [.slice none 0 0],none,n8⟩),
 (73,⟨some 2,some true,some [.int .i64 0,.int .i64 0],none,n8⟩),
 (74,⟨some 2,some true,some [.int .i64 0,.int .i64 0],none,n8⟩),
 (79,⟨some 1,some false,some [.slice none 0 0],none,n8⟩),
 (85,⟨some 1,some false,some [.slice none 0 0],none,n8⟩),
 (97,⟨some 1,some false,some [.map none],none,n8⟩),
 (98,⟨some 1,some false,some [.slice none 0 0],none,n8⟩),
 (101,⟨some 1,some false,some [.map none],none,n8⟩),
 (102,⟨some 3,some true,some [.int .i64 0,.int .i64 0,.int .i64 0],some [(0,1),(1,1),(2,1)],[some (0,1,false),some (1,1,false),some (2,1,false),none,none,none,none,none]⟩),
 (103,⟨some 3,some true,some [.int .i64 0,.int .i64 0,.int .i64 0],some [(0,1),(1,1),(2,1)],[some (0,1,false),some (1,1,false),some (2,1,false),none,none,none,none,none]⟩),
 (104,⟨some 1,some false,some [.slice none 0 0],none,n8⟩),
 (106,⟨some 1,some false,some [.map none],none,n8⟩),
 (107,⟨some 4,some true,some [.int .i64 0,.int .i64 0,.int .i64 0,.int .i64 0],some [(0,2),(2,1),(3,1)],[some (0,2,true),some (2,1,false),some (3,1,false),none,none,none,none,none]⟩),
 (108,⟨some 4,some true,some [.int .i64 0,.int .i64 0,.int .i64 0,.int .i64 0],some [(0,2),(2,1),(3,1)],[some (0,2,true),some (2,1,false),some (3,1,false),none,none,none,none,none]⟩),
 (109,⟨some 1,some false,some [.slice none 0 0],none,n8⟩),
 (111,⟨some 1,some false,some [.map none],none,n8⟩),
 (118,⟨some 1,some false,some [.int .u64 0],none,n8⟩),
 (122,⟨some 1,some false,some [.map none],none,n8⟩),
 (123,⟨some 1,some false,some [.slice none 0 0],none,n8⟩),
 (137,⟨some 1,some false,some [.int .i64 0],none,n8⟩),
 (144,⟨some 1,some false,some [.int .u32 0],none,n8⟩),
 (151,⟨some 1,some false,some [.int .u64 0],none,n8⟩),
 (170,⟨some 1,some false,some [.int .u8 0],none,n8⟩),
 (171,⟨some 1,some false,some [.int .u8 0],none,n8⟩),
 (174,⟨some 1,some false,some [.int .i32 0],none,n8⟩),
 (175,⟨some 1,some false,some [.int .i32 0],none,n8⟩)]
theorem tb:TabOk Tryz.prog tab:=by unfold TabOk;kernel_rfl
end Go.Proofs.YtjimlkpfmbachaaGreat

namespace Go.Proofs.YtjimlkpfmbachaaGreat
open Go.Am Go.Wc

theorem fn9:Fn1 Tryz.prog 9 Tryz.f9.ntmps 4 (Tryz.f9.body.getD .skip):=⟨Tryz.f9,Tryz.func9,rfl,rfl,rfl,by kernel_rfl⟩
set_option maxRecDepth 100000 in
set_option maxHeartbeats 1000000 in
theorem around_call {n most:Int} (hn:I64 n) (hm:0<most):CallF Tryz.prog 9 [int n,int most] (.p (int (around n most))):=by
  obtain ⟨hn1,hn2⟩:=hn
  refine callF_of_code fn9 (Nat.le_of_ble_eq_true rfl) fun w0 M0 hM0=>?_
  refine xC tb hM0 12 [0,1,6] [] rfl ?_
  refine spC 6 rfl ?_ ?_<;>intro h1<;>try simp only [dq] at h1
  refine xA tb hM0 3 [1,7] [] rfl ?_
  refine oP rfl (pure_addi rfl rfl rfl (by omega)) ?_
  refine oP rfl (pure_neg rfl rfl (by omega)) ?_
  refine xA tb hM0 7 [10,11] [] rfl ?_
  refine oP rfl (pure_remn rfl rfl rfl (by omega)) ?_
  refine xA tb hM0 4 [] [] rfl ?_
  refine end_ret rfl ?_;rotate_left
  refine xA tb hM0 7 [10,11] [] rfl ?_
  refine oP rfl (pure_remn rfl rfl rfl (by omega)) ?_
  refine xA tb hM0 4 [] [] rfl ?_
  refine end_ret rfl ?_;rotate_left
  all_goals
    unfold around;first|rw [if_pos (by assumption)]|rw [if_neg (by assumption)]
theorem fn54:Fn1 Tryz.prog 54 Tryz.f54.ntmps 6 (Tryz.f54.body.getD .skip):=⟨Tryz.f54,Tryz.func54,rfl,rfl,rfl,by kernel_rfl⟩
set_option maxRecDepth 100000 in
set_option maxHeartbeats 1000000 in
theorem at_call {l:List Int} {i most:Int} (hl:I64s l) (hm:0<most):CallF Tryz.prog 54 [ints l,int i,int most] (.p (int (atL l i most))):=by
  have hl':=hl.get i.toNat
  refine callF_of_code fn54 (Nat.le_of_ble_eq_true rfl) fun w0 M0 hM0=>?_
  refine xC tb hM0 11 [0,1,2,9] [] rfl ?_
  refine spO 9 rfl ?_ ?_<;>intro h1'<;>try simp only [dq] at h1'
  refine xA tb hM0 15 [] [] rfl ?_
  refine end_ret rfl ?_;rotate_left
  refine xA tb hM0 2 [0,1,2,9,10,11] [] rfl ?_
  refine oP rfl (pure_lenm rfl Tryz.underlying22 rfl) ?_
  refine xA tb hM0 4 [0,1,2,14] [] rfl ?_
  refine spC 14 rfl ?_ ?_<;>intro h2<;>try simp only [dq] at h2
  refine xA tb hM0 8 [] [] rfl ?_
  refine end_ret rfl ?_;rotate_left
  refine xA tb hM0 7 [2,15,16] [] rfl ?_
  refine oP rfl (pure_ix rfl Tryz.underlying22 sz3 rfl rfl (by omega) (fun _=>rfl)) ?_
  refine xA tb hM0 2 [18,19] [] rfl ?_
  refine oP rfl (pure_call rfl rfl rfl (around_call (by assumption) (by omega)) hM0) ?_
  refine xA tb hM0 4 [] [] rfl ?_
  refine end_ret rfl ?_;rotate_left
  all_goals
    unfold atL;first|(rw [if_pos (by omega)])|(rw [if_neg (by omega)])
end Go.Proofs.YtjimlkpfmbachaaGreat

namespace Go.Proofs.YtjimlkpfmbachaaGreat
open Go.Am Go.Wc Go.Wd
theorem fn20:Fn1 Tryz.prog 20 Tryz.f20.ntmps 4 (Tryz.f20.body.getD .skip):=⟨Tryz.f20,Tryz.func20,rfl,rfl,rfl,by kernel_rfl⟩
set_option maxRecDepth 100000 in
set_option maxHeartbeats 1000000 in
theorem sameInts_call {a b:List Int} (ha:a.length≤4611686018427387904):CallF Tryz.prog 20 [ints a,ints b] (.p (bool (decide (a=b)))):=by
  refine callF_of_code fn20 (Nat.le_of_ble_eq_true rfl) fun w0 M0 hM0=>?_
  refine xC tb hM0 9 [0,1,6] [] rfl ?_
  refine oP rfl (pure_lenm rfl Tryz.underlying22 rfl) ?_
  refine xA tb hM0 1 [0,1,7,8] [] rfl ?_
  refine oP rfl (pure_lenm rfl Tryz.underlying22 rfl) ?_
  refine xA tb hM0 3 [0,1,10] [] rfl ?_
  refine spC 10 rfl ?_ ?_<;>intro h1<;>try simp only [dq] at h1
  refine xA tb hM0 8 [] [] rfl ?_
  refine end_ret rfl ?_
  rw [decide_eq_false];intro he;subst he;exact h1 rfl
  refine xA tb hM0 10 [0,1,5] [] rfl ?_
  refine lp (fun zm zs=>∃ k:Nat,zm=a.length-k∧(k≤a.length)∧(a.take k=b.take k)∧zs=⟨26,[(0,.v .mx (ints a)),(1,.v .mx (ints b)),(5,.v .pl (int k))],[]⟩) ?_ ?_
  exact ⟨_,0,rfl,Nat.zero_le _,rfl,rfl⟩
  rintro zm zs ⟨k,rfl,hL1_0,hL1_1,rfl⟩
  refine xA tb hM0 5 [0,1,5,11,12] [] rfl ?_
  refine oP rfl (pure_lenm rfl Tryz.underlying22 rfl) ?_
  refine xA tb hM0 3 [0,1,5,14] [] rfl ?_
  refine spC 14 rfl ?_ ?_<;>intro h2<;>try simp only [dq] at h2
  refine xA tb hM0 6 [0,1,5] [] rfl ?_
  refine code_draw mixed (by kernel_rfl) _ rfl ?_
  refine dl_pure rfl rfl rfl (pure_move rfl rfl) ?_
  refine dl_pure rfl rfl rfl (pure_move rfl rfl) ?_
  refine dl_pure rfl rfl rfl (pure_ix rfl Tryz.underlying22 sz3 rfl rfl (by omega) (fun _=>rfl)) ?_
  refine dl_pure rfl rfl rfl (pure_load rfl ag3 rfl rfl) ?_
  refine dl_pure rfl rfl rfl (pure_move rfl rfl) ?_
  refine dl_pure rfl rfl rfl (pure_move rfl rfl) ?_
  refine dl_pure rfl rfl rfl (pure_ix rfl Tryz.underlying22 sz3 rfl rfl (by omega) (fun _=>rfl)) ?_
  refine dl_pure rfl rfl rfl (pure_load rfl ag3 rfl rfl) ?_
  refine dl_pure rfl rfl rfl (pure_neq rfl rfl rfl) ?_
  refine dl_nil ?_
  refine xD tb hM0 1 [0,1,5,25] [] rfl ?_
  refine spC 25 rfl ?_ ?_<;>intro h3<;>try simp only [dq] at h3
  refine xA tb hM0 12 [] [] rfl ?_
  refine end_ret rfl ?_
  rw [decide_eq_false];intro he;subst he;exact h3 rfl
  refine xA tb hM0 6 [0,1,15] [] rfl ?_
  refine oP rfl (pure_addi rfl rfl rfl (by omega)) ?_
  refine xA tb hM0 2 [0,1,5] [] rfl ?_
  refine nx ?_
  exact ⟨_,⟨k+1,rfl,by omega,by rw [take_succ (by omega),take_succ (by omega),hL1_1,h3],rfl⟩,by omega⟩
  refine xA tb hM0 12 [] [] rfl ?_
  refine end_ret rfl ?_
  rw [decide_eq_true];have h:=hL1_1;rw [List.take_of_length_le (by omega),List.take_of_length_le (by omega)] at h;exact h
theorem fn12:Fn1 Tryz.prog 12 Tryz.f12.ntmps 4 (Tryz.f12.body.getD .skip):=⟨Tryz.f12,Tryz.func12,rfl,rfl,rfl,by kernel_rfl⟩
set_option maxRecDepth 100000 in
set_option maxHeartbeats 4000000 in
theorem dsame_call {a b : Dfa} (hn : a.next.length ≤ 1099511627776) (hf : a.fin.length ≤ 1099511627776) (hl : ∀ r ∈ a.next, r.length ≤ 4611686018427387904) : CallF Tryz.prog 12 [dfa a, dfa b] (.p (bool (decide (a = b)))) := by
  have hla:∀ i,(a.next.getD i default).length≤4611686018427387904:=fun i=>by
    rw [List.getD_eq_getElem?_getD]
    cases hk:a.next[i]? with
    | none=>exact Nat.zero_le _
    | some r=>exact hl r (List.mem_of_getElem? hk)
  refine callF_of_code fn12 (Nat.le_of_ble_eq_true rfl) fun w0 M0 hM0=>?_
  refine xC tb hM0 2 [0,1] [] rfl ?_
  refine oP rfl (pure_box rfl rfl rfl hM0) ?_
  refine oP rfl (pure_box rfl rfl rfl hM0) ?_
  refine xA tb hM0 12 [2,3,12] [] rfl ?_
  refine spO 12 rfl ?_ ?_<;>intro h1'<;>try simp only [dq] at h1'
  ·skip
   refine xA tb hM0 27 [] [] rfl ?_
   refine end_ret rfl ?_
   first
     | (rw [decide_eq_false (p:=a=b) (fun e=>by subst e;omega)];first|done|rfl)
     | (rw [same_all (by omega) (by omega) (by omega) (fun j hj=>hL1_1 j (by omega)) (fun j hj=>hL2_1 j (by omega))];first|done|rfl)
     | (rw [same_row (i:=i)];simp_all;done)
     | (rw [same_fin (i:=i)];intro q;rw [q] at h7;simp at h7;done)
  ·skip
   refine xA tb hM0 2 [2,3,12,14] [] rfl ?_
   refine oP rfl (pure_lenm rfl Tryz.underlying28 rfl) ?_
   refine xA tb hM0 2 [2,3,12,15,17] [] rfl ?_
   refine oP rfl (pure_lenm rfl Tryz.underlying28 rfl) ?_
   refine xA tb hM0 3 [2,3,21] [] rfl ?_
   refine spO 21 rfl ?_ ?_<;>intro h2'<;>try simp only [dq] at h2'
   ·skip
    refine xA tb hM0 18 [] [] rfl ?_
    refine end_ret rfl ?_
    first
      | (rw [decide_eq_false (p:=a=b) (fun e=>by subst e;omega)];first|done|rfl)
      | (rw [same_all (by omega) (by omega) (by omega) (fun j hj=>hL1_1 j (by omega)) (fun j hj=>hL2_1 j (by omega))];first|done|rfl)
      | (rw [same_row (i:=i)];simp_all;done)
      | (rw [same_fin (i:=i)];intro q;rw [q] at h7;simp at h7;done)
   ·skip
    refine xA tb hM0 2 [2,3,21,23] [] rfl ?_
    refine oP rfl (pure_lenm rfl Tryz.underlying29 rfl) ?_
    refine xA tb hM0 2 [2,3,21,24,26] [] rfl ?_
    refine oP rfl (pure_lenm rfl Tryz.underlying29 rfl) ?_
    refine xA tb hM0 4 [2,3,29] [] rfl ?_
    refine spC 29 rfl ?_ ?_<;>intro h3<;>try simp only [dq] at h3
    ·skip
     refine xA tb hM0 8 [] [] rfl ?_
     refine end_ret rfl ?_
     first
       | (rw [decide_eq_false (p:=a=b) (fun e=>by subst e;omega)];first|done|rfl)
       | (rw [same_all (by omega) (by omega) (by omega) (fun j hj=>hL1_1 j (by omega)) (fun j hj=>hL2_1 j (by omega))];first|done|rfl)
       | (rw [same_row (i:=i)];simp_all;done)
       | (rw [same_fin (i:=i)];intro q;rw [q] at h7;simp at h7;done)
    ·skip
     refine xA tb hM0 10 [2,3,5] [] rfl ?_
     refine lp (fun zm zs=>∃ i:Nat,zm=a.next.length-i∧(i≤a.next.length)∧(∀ j,j<i→a.next.getD j default=b.next.getD j default)∧zs=⟨67,[(2,.v .mx (dpc a)),(3,.v .mx (dpc b)),(5,.v .pl (int i))],[]⟩) ?_ ?_
     ·exact ⟨_,0,rfl,Nat.zero_le _,fun j hj=>absurd hj (Nat.not_lt_zero j),rfl⟩
     ·rintro zm zs ⟨i,rfl,hL1_0,hL1_1,rfl⟩
      refine xA tb hM0 6 [2,3,5,30,32] [] rfl ?_
      refine oP rfl (pure_lenm rfl Tryz.underlying28 rfl) ?_
      refine xA tb hM0 3 [2,3,5,34] [] rfl ?_
      refine spC 34 rfl ?_ ?_<;>intro h4<;>try simp only [dq] at h4
      ·skip
       refine xA tb hM0 6 [2,3,5] [] rfl ?_
       refine code_draw mixed (by kernel_rfl) _ rfl ?_
       refine dl_pure rfl rfl rfl (pure_field rfl fd31_1 rfl) ?_
       refine dl_pure rfl rfl rfl (pure_load rfl ag28 rfl rfl) ?_
       refine dl_pure rfl rfl rfl (pure_move rfl rfl) ?_
       refine dl_pure rfl rfl rfl (pure_ix rfl Tryz.underlying28 sz22 rfl rfl (by omega) (fun _=>rfl)) ?_
       refine dl_pure rfl rfl rfl (pure_load rfl ag22 rfl rfl) ?_
       refine dl_pure rfl rfl rfl (pure_field rfl fd31_1 rfl) ?_
       refine dl_pure rfl rfl rfl (pure_load rfl ag28 rfl rfl) ?_
       refine dpk 67 [(2,_),(3,_),(5,_),(41,_),(43,_)] [] rfl rfl rfl ?_
       refine dl_pure rfl rfl rfl (pure_move rfl rfl) ?_
       refine dl_pure rfl rfl rfl (pure_ix rfl Tryz.underlying28 sz22 rfl rfl (by omega) (fun _=>rfl)) ?_
       refine dl_pure rfl rfl rfl (pure_load rfl ag22 rfl rfl) ?_
       refine dl_pure rfl rfl rfl (pure_call rfl rfl rfl (sameInts_call (hla _)) hM0) ?_
       refine dl_pure rfl rfl rfl (pure_not rfl rfl) ?_
       refine dl_nil ?_
       refine xD tb hM0 1 [2,3,5,48] [] rfl ?_
       refine spC 48 rfl ?_ ?_<;>intro h5<;>try simp only [dq] at h5
       ·skip
        refine xA tb hM0 12 [] [] rfl ?_
        refine end_ret rfl ?_
        first
          | (rw [decide_eq_false (p:=a=b) (fun e=>by subst e;omega)];first|done|rfl)
          | (rw [same_all (by omega) (by omega) (by omega) (fun j hj=>hL1_1 j (by omega)) (fun j hj=>hL2_1 j (by omega))];first|done|rfl)
          | (rw [same_row (i:=i)];simp_all;done)
          | (rw [same_fin (i:=i)];intro q;rw [q] at h7;simp at h7;done)
       ·skip
        refine xA tb hM0 6 [2,3,35] [] rfl ?_
        refine oP rfl (pure_addi rfl rfl rfl (by omega)) ?_
        refine xA tb hM0 2 [2,3,5] [] rfl ?_
        refine nx ?_
        exact ⟨_,⟨i+1,rfl,by omega,upto_step hL1_1 (by simp_all),rfl⟩,by omega⟩
      ·skip
       refine xA tb hM0 13 [2,3,6] [] rfl ?_
       refine lp (fun zm zs=>∃ i:Nat,zm=a.fin.length-i∧(i≤a.fin.length)∧(∀ j,j<i→a.fin.getD j default=b.fin.getD j default)∧zs=⟨67,[(2,.v .mx (dpc a)),(3,.v .mx (dpc b)),(6,.v .pl (int i))],[]⟩) ?_ ?_
       ·exact ⟨_,0,rfl,Nat.zero_le _,fun j hj=>absurd hj (Nat.not_lt_zero j),rfl⟩
       ·rintro zm zs ⟨i,rfl,hL2_0,hL2_1,rfl⟩
        refine xA tb hM0 6 [2,3,6,49,51] [] rfl ?_
        refine oP rfl (pure_lenm rfl Tryz.underlying29 rfl) ?_
        refine xA tb hM0 3 [2,3,6,53] [] rfl ?_
        refine spC 53 rfl ?_ ?_<;>intro h6<;>try simp only [dq] at h6
        ·skip
         refine xA tb hM0 6 [2,3,6] [] rfl ?_
         refine code_draw mixed (by kernel_rfl) _ rfl ?_
         refine dl_pure rfl rfl rfl (pure_field rfl fd31_2 rfl) ?_
         refine dl_pure rfl rfl rfl (pure_load rfl ag29 rfl rfl) ?_
         refine dl_pure rfl rfl rfl (pure_move rfl rfl) ?_
         refine dl_pure rfl rfl rfl (pure_ix rfl Tryz.underlying29 sz4 rfl rfl (by omega) (fun _=>rfl)) ?_
         refine dl_pure rfl rfl rfl (pure_load rfl ag4 rfl rfl) ?_
         refine dl_pure rfl rfl rfl (pure_field rfl fd31_2 rfl) ?_
         refine dl_pure rfl rfl rfl (pure_load rfl ag29 rfl rfl) ?_
         refine dpk 67 [(2,_),(3,_),(6,_),(60,_),(62,_)] [] rfl rfl rfl ?_
         refine dl_pure rfl rfl rfl (pure_move rfl rfl) ?_
         refine dl_pure rfl rfl rfl (pure_ix rfl Tryz.underlying29 sz4 rfl rfl (by omega) (fun _=>rfl)) ?_
         refine dl_pure rfl rfl rfl (pure_load rfl ag4 rfl rfl) ?_
         refine dl_pure rfl rfl rfl (pure_bne Tryz.underlying4 rfl rfl rfl) ?_
         refine dl_nil ?_
         refine xD tb hM0 1 [2,3,6,66] [] rfl ?_
         refine spC 66 rfl ?_ ?_<;>intro h7<;>try simp only [dq] at h7
         ·skip
          refine xA tb hM0 12 [] [] rfl ?_
          refine end_ret rfl ?_
          first
            | (rw [decide_eq_false (p:=a=b) (fun e=>by subst e;omega)];first|done|rfl)
            | (rw [same_all (by omega) (by omega) (by omega) (fun j hj=>hL1_1 j (by omega)) (fun j hj=>hL2_1 j (by omega))];first|done|rfl)
            | (rw [same_row (i:=i)];simp_all;done)
            | (rw [same_fin (i:=i)];intro q;rw [q] at h7;simp at h7;done)
         ·skip
          refine xA tb hM0 6 [2,3,54] [] rfl ?_
          refine oP rfl (pure_addi rfl rfl rfl (by omega)) ?_
          refine xA tb hM0 2 [2,3,6] [] rfl ?_
          refine nx ?_
          exact ⟨_,⟨i+1,rfl,by omega,upto_step hL2_1 (by simp_all),rfl⟩,by omega⟩
        ·skip
         refine xA tb hM0 12 [] [] rfl ?_
         refine end_ret rfl ?_
         first
           | (rw [decide_eq_false (p:=a=b) (fun e=>by subst e;omega)];first|done|rfl)
           | (rw [same_all (by omega) (by omega) (by omega) (fun j hj=>hL1_1 j (by omega)) (fun j hj=>hL2_1 j (by omega))];first|done|rfl)
           | (rw [same_row (i:=i)];simp_all;done)
           | (rw [same_fin (i:=i)];intro q;rw [q] at h7;simp at h7;done)
end Go.Proofs.YtjimlkpfmbachaaGreat

namespace Go.Proofs.YtjimlkpfmbachaaGreat
open Go.Am Go.Wc Go.Wb Go.Wd
theorem fn101:Fn1 Tryz.prog 101 Tryz.f101.ntmps 4 (Tryz.f101.body.getD .skip):=⟨Tryz.f101,Tryz.func101,rfl,rfl,rfl,by kernel_rfl⟩
set_option maxRecDepth 100000 in
set_option maxHeartbeats 1000000 in
theorem idxI_call {l:List Int} {p:Int→Bool} {g:FuncId} {caps:List AV} (hl:l.length≤1099511627776) (hf:∀ x∈l,CallF Tryz.prog g ([int x]++caps) (.p (bool (p x)))):CallF Tryz.prog 101 [ints l,.clo g caps] (.p (int (idxF p l))):=by
  refine callF_of_code fn101 (Nat.le_of_ble_eq_true rfl) fun w0 M0 hM0=>?_
  refine xC tb hM0 9 [0,1,6] [] rfl ?_
  refine oP rfl (pure_lenm rfl Tryz.underlying22 rfl) ?_
  refine xA tb hM0 4 [0,1,7,8] [] rfl ?_
  refine lp (fun zm zs=>∃ k:Nat,zm=l.length-k∧(k≤l.length)∧(∀ j,j<k→p (l.getD j default)=false)∧zs=⟨19,[(0,.v .mx (ints l)),(1,.v .mx (.clo g caps)),(7,.v .pl (int l.length)),(8,.v .pl (int k))],[]⟩) ?_ ?_
  exact ⟨_,0,rfl,Nat.zero_le _,fun j hj=>absurd hj (by omega),rfl⟩
  rintro zm zs ⟨k,rfl,hL1_0,hL1_1,rfl⟩
  refine xA tb hM0 6 [0,1,7,8,9] [] rfl ?_
  refine spC 9 rfl ?_ ?_<;>intro h1<;>try simp only [dq] at h1
  refine xA tb hM0 16 [0,1,5,7,8,11,12,13] [] rfl ?_
  refine oP rfl (pure_ix rfl Tryz.underlying22 sz3 rfl rfl (by omega) (fun _=>rfl)) ?_
  refine xA tb hM0 1 [0,1,5,7,8,11,15] [] rfl ?_
  refine oP rfl (pure_call rfl rfl rfl (hf _ (el_mem (by omega))) hM0) ?_
  refine xA tb hM0 2 [0,1,5,7,8,16] [] rfl ?_
  refine spC 16 rfl ?_ ?_<;>intro h2<;>try simp only [dq] at h2
  refine xA tb hM0 13 [] [] rfl ?_
  refine end_ret rfl ?_
  rw [← idxF_hit (p:=p) (l:=l) (k:=k) (by omega) hL1_1 (by simp_all)]
  refine xA tb hM0 5 [0,1,7,8] [] rfl ?_
  refine oP rfl (pure_addi rfl rfl rfl (by omega)) ?_
  refine xA tb hM0 2 [0,1,7,8] [] rfl ?_
  refine nx ?_
  exact ⟨_,⟨k+1,rfl,by omega,all_step hL1_1 (by simp_all),rfl⟩,by omega⟩
  refine xA tb hM0 12 [] [] rfl ?_
  refine end_ret rfl ?_
  rw [← idxF_none (p:=p) (l:=l) (fun j hj=>hL1_1 j (by omega))]
theorem fn80:Fn1 Tryz.prog 80 Tryz.f80.ntmps 4 (Tryz.f80.body.getD .skip):=⟨Tryz.f80,Tryz.func80,rfl,rfl,rfl,by kernel_rfl⟩
set_option maxRecDepth 100000 in
set_option maxHeartbeats 1000000 in
theorem hasI_call {l:List Int} {p:Int→Bool} {g:FuncId} {caps:List AV} (hl:l.length≤1099511627776) (hf:∀ x∈l,CallF Tryz.prog g ([int x]++caps) (.p (bool (p x)))):CallF Tryz.prog 80 [ints l,.clo g caps] (.p (bool (l.any p))):=by
  refine callF_of_code fn80 (Nat.le_of_ble_eq_true rfl) fun w0 M0 hM0=>?_
  refine xC tb hM0 9 [5,6] [] rfl ?_
  refine oP rfl (pure_call rfl rfl rfl (idxI_call hl hf) hM0) ?_
  refine xA tb hM0 5 [] [] rfl ?_
  refine end_ret rfl ?_
  rw [idxF_ge]
theorem fn81:Fn1 Tryz.prog 81 Tryz.f81.ntmps 3 (Tryz.f81.body.getD .skip):=⟨Tryz.f81,Tryz.func81,rfl,rfl,rfl,by kernel_rfl⟩
set_option maxRecDepth 100000 in
set_option maxHeartbeats 1000000 in
theorem valid1_call {n:Nat} {k:Int}:CallF Tryz.prog 81 ([int k]++[.pc [int n] 0]) (.p (bool (pOut n k))):=by
  refine callF_of_code fn81 (Nat.le_of_ble_eq_true rfl) fun w0 M0 hM0=>?_
  refine xC tb hM0 10 [0,1,6] [] rfl ?_
  refine spO 6 rfl ?_ ?_<;>intro h1'<;>try simp only [dq] at h1'
  refine xA tb hM0 8 [] [] rfl ?_
  refine end_ret rfl ?_;rotate_left
  refine xA tb hM0 8 [] [] rfl ?_
  refine end_ret rfl ?_;rotate_left
  all_goals
    unfold pOut
    first
      | (rw [decide_eq_true (p:=k<0) (by omega)];first|done|rfl)
      | (rw [decide_eq_false (p:=k<0) (by omega)];first|done|rfl)
theorem fn35:Fn1 Tryz.prog 35 Tryz.f35.ntmps 2 (Tryz.f35.body.getD .skip):=⟨Tryz.f35,Tryz.func35,rfl,rfl,rfl,by kernel_rfl⟩
set_option maxRecDepth 100000 in
set_option maxHeartbeats 4000000 in
theorem validD_call {d:Dfa}:CallF Tryz.prog 35 [dfa d] (.p (bool (validD d))):=by
  refine callF_of_code fn35 (Nat.le_of_ble_eq_true rfl) fun w0 M0 hM0=>?_
  refine xC tb hM0 2 [0] [] rfl ?_
  refine oP rfl (pure_box rfl rfl rfl hM0) ?_
  refine xA tb hM0 7 [1,7] [] rfl ?_
  refine oP rfl (pure_lenm rfl Tryz.underlying28 rfl) ?_
  refine xA tb hM0 11 [1,3,12] [3] rfl ?_
  refine spO 12 rfl ?_ ?_<;>intro h1'<;>try simp only [dq] at h1'
  refine xA tb hM0 29 [] [] rfl ?_
  refine end_ret rfl ?_;rotate_left
  refine xA tb hM0 5 [1,3,17] [3] rfl ?_
  refine spO 17 rfl ?_ ?_<;>intro h2'<;>try simp only [dq] at h2'
  refine xA tb hM0 24 [] [] rfl ?_
  refine end_ret rfl ?_;rotate_left
  refine xA tb hM0 4 [1,3,21] [3] rfl ?_
  refine spO 21 rfl ?_ ?_<;>intro h3'<;>try simp only [dq] at h3'
  refine xA tb hM0 20 [] [] rfl ?_
  refine end_ret rfl ?_;rotate_left
  refine xA tb hM0 4 [1,3,25] [3] rfl ?_
  refine spO 25 rfl ?_ ?_<;>intro h4'<;>try simp only [dq] at h4'
  refine xA tb hM0 16 [] [] rfl ?_
  refine end_ret rfl ?_;rotate_left
  refine xA tb hM0 2 [1,3,25,27] [3] rfl ?_
  refine oP rfl (pure_lenm rfl Tryz.underlying29 rfl) ?_
  refine xA tb hM0 5 [1,3,31] [3] rfl ?_
  refine spC 31 rfl ?_ ?_<;>intro h5<;>try simp only [dq] at h5
  refine xA tb hM0 8 [] [] rfl ?_
  refine end_ret rfl ?_;rotate_left
  refine xA tb hM0 5 [1,3] [3] rfl ?_
  refine code_frz 50 [(1,_),(3,_)] [] hM0 rfl ⟨.inl rfl,.inr ⟨_,_,rfl,rfl,rfl⟩,trivial⟩ trivial ?_
  refine xK tb hM0 3 [1,3,33] [] rfl ?_
  refine oP rfl (pure_lenm rfl Tryz.underlying28 rfl) ?_
  refine xA tb hM0 4 [1,3,33,34,35] [] rfl ?_
  refine lp (fun zm zs=>∃ i:Nat,zm=d.next.length-i∧(i≤d.next.length)∧(∀ j,j<i→okRow d.next.length d.size (d.next.getD j default))∧zs=⟨50,[(1,.v .mx (dpc d)),(3,.v .pl (.pc [int d.next.length] 0)),(33,.v .mx (rowsA d.next)),(34,.v .pl (int d.next.length)),(35,.v .pl (int i))],[]⟩) ?_ ?_
  exact ⟨_,0,rfl,Nat.zero_le _,fun j hj=>absurd hj (Nat.not_lt_zero j),rfl⟩
  rintro zm zs ⟨i,rfl,hL1_0,hL1_1,rfl⟩
  refine xA tb hM0 6 [1,3,33,34,35,36] [] rfl ?_
  refine spC 36 rfl ?_ ?_<;>intro h6<;>try simp only [dq] at h6
  refine xA tb hM0 7 [1,3,33,34,35] [] rfl ?_
  refine oP rfl (pure_ix rfl Tryz.underlying28 sz22 rfl rfl (by omega) (fun _=>rfl)) ?_
  refine xA tb hM0 7 [1,3,5,33,34,35,39] [] rfl ?_
  refine oP rfl (pure_lenm rfl Tryz.underlying22 rfl) ?_
  refine xA tb hM0 4 [1,3,5,33,34,35,44] [] rfl ?_
  refine spO 44 rfl ?_ ?_<;>intro h7'<;>try simp only [dq] at h7'
  refine xA tb hM0 18 [] [] rfl ?_
  refine end_ret rfl ?_;rotate_left
  refine xA tb hM0 1 [1,3,33,34,35,44,45] [] rfl ?_
  refine oP rfl (pure_func rfl rfl) ?_
  refine oP rfl (pure_call rfl rfl rfl (hasI_call (p:=pOut d.next.length) (by omega) (fun x hx=>valid1_call)) hM0) ?_
  refine xA tb hM0 3 [1,3,33,34,35,48] [] rfl ?_
  refine spC 48 rfl ?_ ?_<;>intro h8<;>try simp only [dq] at h8
  refine xA tb hM0 12 [] [] rfl ?_
  refine end_ret rfl ?_;rotate_left
  refine xA tb hM0 5 [1,3,33,34,35] [] rfl ?_
  refine oP rfl (pure_addi rfl rfl rfl (by omega)) ?_
  refine xA tb hM0 2 [1,3,33,34,35] [] rfl ?_
  refine nx ?_
  exact ⟨_,⟨i+1,rfl,by omega,upto_step hL1_1 (okRow_any (by omega) (by assumption)),rfl⟩,by omega⟩
  refine xA tb hM0 12 [] [] rfl ?_
  refine end_ret rfl ?_;rotate_left
  all_goals
    first
      | (rw [vd_head (d:=d) (by show ¬ (_∧_);omega)];first|done|rfl)
      | (rw [vd_len (i:=i) (by omega) (by omega)];first|done|rfl)
      | (rw [vd_any (i:=i) (by omega) (by assumption)];first|done|rfl)
      | (rw [vd_all (d:=d) (by show (_∧_);omega) (fun j hj=>hL1_1 j (by omega))];first|done|rfl)
theorem fn36:Fn1 Tryz.prog 36 Tryz.f36.ntmps 2 (Tryz.f36.body.getD .skip):=⟨Tryz.f36,Tryz.func36,rfl,rfl,rfl,by kernel_rfl⟩
set_option maxRecDepth 100000 in
set_option maxHeartbeats 4000000 in
theorem rvalidD_call {d:Dfa}:CallF Tryz.prog 36 [dfa d] (.p (bool (validD d))):=by
  refine callF_of_code fn36 (Nat.le_of_ble_eq_true rfl) fun w0 M0 hM0=>?_
  refine xC tb hM0 2 [0] [] rfl ?_
  refine oP rfl (pure_box rfl rfl rfl hM0) ?_
  refine xA tb hM0 7 [1,7] [] rfl ?_
  refine oP rfl (pure_lenm rfl Tryz.underlying28 rfl) ?_
  refine xA tb hM0 10 [1,3,12] [] rfl ?_
  refine spO 12 rfl ?_ ?_<;>intro h1'<;>try simp only [dq] at h1'
  refine xA tb hM0 29 [] [] rfl ?_
  refine end_ret rfl ?_;rotate_left
  refine xA tb hM0 5 [1,3,17] [] rfl ?_
  refine spO 17 rfl ?_ ?_<;>intro h2'<;>try simp only [dq] at h2'
  refine xA tb hM0 24 [] [] rfl ?_
  refine end_ret rfl ?_;rotate_left
  refine xA tb hM0 4 [1,3,21] [] rfl ?_
  refine spO 21 rfl ?_ ?_<;>intro h3'<;>try simp only [dq] at h3'
  refine xA tb hM0 20 [] [] rfl ?_
  refine end_ret rfl ?_;rotate_left
  refine xA tb hM0 4 [1,3,25] [] rfl ?_
  refine spO 25 rfl ?_ ?_<;>intro h4'<;>try simp only [dq] at h4'
  refine xA tb hM0 16 [] [] rfl ?_
  refine end_ret rfl ?_;rotate_left
  refine xA tb hM0 2 [1,3,25,27] [] rfl ?_
  refine oP rfl (pure_lenm rfl Tryz.underlying29 rfl) ?_
  refine xA tb hM0 5 [1,3,31] [] rfl ?_
  refine spC 31 rfl ?_ ?_<;>intro h5<;>try simp only [dq] at h5
  refine xA tb hM0 8 [] [] rfl ?_
  refine end_ret rfl ?_;rotate_left
  refine xA tb hM0 10 [1,3,4] [] rfl ?_
  refine lp (fun zm zs=>∃ i:Nat,zm=d.next.length-i∧(i≤d.next.length)∧(∀ j,j<i→okRow d.next.length d.size (d.next.getD j default))∧zs=⟨73,[(1,.v .mx (dpc d)),(3,.v .pl (int d.next.length)),(4,.v .pl (int i))],[]⟩) ?_ ?_
  exact ⟨_,0,rfl,Nat.zero_le _,fun j hj=>absurd hj (Nat.not_lt_zero j),rfl⟩
  rintro zm zs ⟨i,rfl,hL1_0,hL1_1,rfl⟩
  refine xA tb hM0 8 [1,3,4,34] [] rfl ?_
  refine spC 34 rfl ?_ ?_<;>intro h6<;>try simp only [dq] at h6
  refine xA tb hM0 7 [1,3,4] [] rfl ?_
  refine code_draw mixed (by kernel_rfl) _ rfl ?_
  refine dl_pure rfl rfl rfl (pure_field rfl fd31_1 rfl) ?_
  refine dl_pure rfl rfl rfl (pure_load rfl ag28 rfl rfl) ?_
  refine dl_pure rfl rfl rfl (pure_move rfl rfl) ?_
  refine dl_pure rfl rfl rfl (pure_ix rfl Tryz.underlying28 sz22 rfl rfl (by omega) (fun _=>rfl)) ?_
  refine dl_pure rfl rfl rfl (pure_load rfl ag22 rfl rfl) ?_
  refine dl_pure rfl rfl rfl (pure_lenm rfl Tryz.underlying22 rfl) ?_
  refine dl_pure rfl rfl rfl (pure_field rfl fd31_0 rfl) ?_
  refine dl_pure rfl rfl rfl (pure_load rfl ag3 rfl rfl) ?_
  refine dl_pure rfl rfl rfl (pure_neq rfl rfl rfl) ?_
  refine dl_nil ?_
  refine xD tb hM0 1 [1,3,4,45] [] rfl ?_
  refine spC 45 rfl ?_ ?_<;>intro h7<;>try simp only [dq] at h7
  refine xA tb hM0 13 [] [] rfl ?_
  refine end_ret rfl ?_;rotate_left
  refine xA tb hM0 9 [1,3,4,5] [] rfl ?_
  refine lp (fun zm zs=>∃ k:Nat,zm=(d.next.getD i default).length-k∧(k≤(d.next.getD i default).length)∧(∀ j,j<k→0≤(d.next.getD i default).getD j default∧(d.next.getD i default).getD j default<d.next.length)∧zs=⟨73,[(1,.v .mx (dpc d)),(3,.v .pl (int d.next.length)),(4,.v .pl (int i)),(5,.v .pl (int k))],[]⟩) ?_ ?_
  exact ⟨_,0,rfl,Nat.zero_le _,fun j hj=>absurd hj (Nat.not_lt_zero j),rfl⟩
  rintro zm zs ⟨k,rfl,hL2_0,hL2_1,rfl⟩
  refine xA tb hM0 9 [1,3,4,5,49] [] rfl ?_
  refine spC 49 rfl ?_ ?_<;>intro h8<;>try simp only [dq] at h8
  refine xA tb hM0 10 [1,3,4,5,53,54] [] rfl ?_
  refine oP rfl (pure_ix rfl Tryz.underlying28 sz22 rfl rfl (by omega) (fun _=>rfl)) ?_
  refine xA tb hM0 2 [1,3,4,5,56,57] [] rfl ?_
  refine oP rfl (pure_ix rfl Tryz.underlying22 sz3 rfl rfl (by omega) (fun _=>rfl)) ?_
  refine xA tb hM0 3 [1,3,4,5,61] [] rfl ?_
  refine spO 61 rfl ?_ ?_<;>intro h9'<;>try simp only [dq] at h9'
  refine xA tb hM0 29 [] [] rfl ?_
  refine end_ret rfl ?_;rotate_left
  refine xA tb hM0 3 [1,3,4,5,61,63,64] [] rfl ?_
  refine oP rfl (pure_ix rfl Tryz.underlying28 sz22 rfl rfl (by omega) (fun _=>rfl)) ?_
  refine xA tb hM0 2 [1,3,4,5,61,66,67] [] rfl ?_
  refine oP rfl (pure_ix rfl Tryz.underlying22 sz3 rfl rfl (by omega) (fun _=>rfl)) ?_
  refine xA tb hM0 6 [1,3,4,5,72] [] rfl ?_
  refine spC 72 rfl ?_ ?_<;>intro h10<;>try simp only [dq] at h10
  refine xA tb hM0 16 [] [] rfl ?_
  refine end_ret rfl ?_;rotate_left
  refine xA tb hM0 6 [1,3,4,50] [] rfl ?_
  refine oP rfl (pure_addi rfl rfl rfl (by omega)) ?_
  refine xA tb hM0 2 [1,3,4,5] [] rfl ?_
  refine nx ?_
  exact ⟨_,⟨k+1,rfl,by omega,upto_step hL2_1 ⟨by omega,by omega⟩,rfl⟩,by omega⟩
  refine xA tb hM0 9 [1,3,35] [] rfl ?_
  refine oP rfl (pure_addi rfl rfl rfl (by omega)) ?_
  refine xA tb hM0 2 [1,3,4] [] rfl ?_
  refine nx ?_
  exact ⟨_,⟨i+1,rfl,by omega,upto_step hL1_1 (okRow_of (by omega) (fun j hj=>hL2_1 j (by omega))),rfl⟩,by omega⟩
  refine xA tb hM0 12 [] [] rfl ?_
  refine end_ret rfl ?_;rotate_left
  all_goals
    first
      | (rw [vd_head (d:=d) (by show ¬ (_∧_);omega)];first|done|rfl)
      | (rw [vd_all (d:=d) (by show (_∧_);omega) (fun j hj=>hL1_1 j (by omega))];first|done|rfl)
      | (rw [vd_len (i:=i) (by omega) (by omega)];first|done|rfl)
      | (rw [vd_at (i:=i) (k:=k) (by omega) (by omega) (by omega)];first|done|rfl)
theorem fn89:Fn1 Tryz.prog 89 Tryz.f89.ntmps 4 (Tryz.f89.body.getD .skip):=⟨Tryz.f89,Tryz.func89,rfl,rfl,rfl,by kernel_rfl⟩
set_option maxRecDepth 100000 in
set_option maxHeartbeats 1000000 in
theorem keyN_call {n:Int}:CallF Tryz.prog 89 [.sc (.slice none 0 0),int n] (.fresh 5 ((kbI n).map byteI)):=by
  refine callF_of_code fn89 (Nat.le_of_ble_eq_true rfl) fun w0 M0 hM0=>?_
  refine xC tb hM0 9 [1,5,6] [] rfl ?_
  refine oP rfl (pure_conv rfl Tryz.underlying3 Tryz.underlying5 rfl) ?_
  refine xA tb hM0 1 [1,5,7,8] [] rfl ?_
  refine oP rfl (pure_shr rfl rfl rfl (by omega)) ?_
  refine oP rfl (pure_conv rfl Tryz.underlying3 Tryz.underlying5 rfl) ?_
  refine xA tb hM0 1 [5,7,10,11] [] rfl ?_
  refine oP rfl (pure_shr rfl rfl rfl (by omega)) ?_
  refine oP rfl (pure_conv rfl Tryz.underlying3 Tryz.underlying5 rfl) ?_
  refine xA tb hM0 0 [5,7,10,13] [] rfl ?_
  refine oP rfl (pure_lit rfl Tryz.underlying60 el5 rfl rfl rfl rfl hM0) ?_
  refine oS rfl (step_append_nil rfl rfl rfl rfl Tryz.underlying60 el5 rfl hM0 (src_pl rfl (fun y hy=>by simp only [List.mem_cons,List.not_mem_nil,or_false] at hy;rcases hy with rfl|rfl|rfl<;>rfl)) (by simp only [List.length_cons,List.length_nil];omega) (by simp only [List.length_cons,List.length_nil];omega)) rfl ?_
  refine xA tb hM0 4 [] [] rfl ?_
  refine end_ret rfl ?_
  rw [← kb_eq];rfl
set_option maxRecDepth 100000 in
set_option maxHeartbeats 1000000 in
theorem keyO_call {b:List Int} {n:Int} (hb:b.length≤1099511627776):CallO Tryz.prog 89 [.own 0,.v .pl (int n)] [(0,.arr 5 (b.map byteI))] (.own 0) [(0,.arr 5 ((b++kbI n).map byteI))]:=by
  refine callO_of_code fn89 (Nat.le_of_ble_eq_true rfl) fun w0 M0 hM0=>?_
  refine xC tb hM0 9 [1,5,6] [0] rfl ?_
  refine oP rfl (pure_conv rfl Tryz.underlying3 Tryz.underlying5 rfl) ?_
  refine xA tb hM0 1 [1,5,7,8] [0] rfl ?_
  refine oP rfl (pure_shr rfl rfl rfl (by omega)) ?_
  refine oP rfl (pure_conv rfl Tryz.underlying3 Tryz.underlying5 rfl) ?_
  refine xA tb hM0 1 [5,7,10,11] [0] rfl ?_
  refine oP rfl (pure_shr rfl rfl rfl (by omega)) ?_
  refine oP rfl (pure_conv rfl Tryz.underlying3 Tryz.underlying5 rfl) ?_
  refine xA tb hM0 0 [5,7,10,13] [0] rfl ?_
  refine oP rfl (pure_lit rfl Tryz.underlying60 el5 rfl rfl rfl rfl hM0) ?_
  refine oS rfl (step_append rfl rfl rfl rfl Tryz.underlying60 el5 rfl rfl hM0 (src_pl rfl (fun y hy=>by simp only [List.mem_cons,List.not_mem_nil,or_false] at hy;rcases hy with rfl|rfl|rfl<;>rfl)) (by simp only [List.length_map,List.length_cons,List.length_nil];omega) (by simp only [List.length_map,List.length_cons,List.length_nil];omega)) rfl ?_
  refine xA tb hM0 4 [] [] rfl ?_
  refine endO_ret (o1:=[(0,_)]) rfl ⟨rfl,trivial⟩ ?_
  refine ⟨rfl,?_⟩
  rw [← kb_eq,List.map_append];rfl
end Go.Proofs.YtjimlkpfmbachaaGreat

namespace Go.Proofs.YtjimlkpfmbachaaGreat
open Go.Am Go.Wc Go.Wb Go.Wd
theorem revsI:RevI Tryz.prog 97 :=
  ⟨⟨Tryz.f97, Tryz.func97, by kernel_rfl, by kernel_rfl⟩,
   fun p cap w=>AnyG.slices_Reverse_int_empty Tryz.revI p cap w,
   fun blk off cap zs w hH hblk hsz=>(AnyG.slices_Reverse_int Tryz.revI blk off cap zs w hH (by omega)).mono fun e w' ⟨h1,n,h2⟩=>⟨h1,n,#[],by rw [h2,grow_none]⟩⟩
theorem fn55:Fn2 Tryz.prog 55 Tryz.f55.ntmps 8 9 (Tryz.f55.body.getD .skip):=⟨Tryz.f55,Tryz.func55,rfl,rfl,rfl,by kernel_rfl⟩
set_option maxRecDepth 100000 in
set_option maxHeartbeats 8000000 in
theorem searchI_call {next:Nat→Nat→Nat} {good:Nat→Bool} {size start N:Nat} {sz:Int} {U:List Nat} {g h:FuncId} {cg ch:List AV} (hsz:1≤size∧size≤64) (hU:∀ x∈U,∀ s,s<size→next x s∈U) (h0:start∈U) (hN:U.length≤N) (hB:U.length≤4194304) (hz:(size:Int)=sz)
    (hg:∀ x∈U,∀ s,s<size→CallF Tryz.prog g ([natI x,natI s]++cg) (.p (natI (next x s)))) (hh:∀ x∈U,CallF Tryz.prog h ([natI x]++ch) (.p (bool (good x)))) :
    CallF Tryz.prog 55 [natI start,int sz,.clo g cg,.clo h ch] (.p (.tup [resW (seekW next size good (N+1) 0 [(start,[])]),bool (seekW next size good (N+1) 0 [(start,[])]).isSome])):=by
  subst hz
  refine callF_of_code2 fn55 (Nat.le_of_ble_eq_true rfl) fun w0 M0 hM0=>?_
  refine xC tb hM0 8 [0,1,2,3] [] rfl ?_
  refine oS rfl (step_map rfl rfl rfl rfl rfl Tryz.underlying101 (fun q hq=>by cases hq<;>exact ⟨_,_,rfl⟩) hM0) rfl ?_
  refine xA tb hM0 1 [0,1,2,3,17,18] [17] rfl ?_
  refine oS rfl (step_insert rfl (step_put rfl rfl rfl Tryz.underlying101 Tryz.underlying3 rfl rfl rfl rfl rfl (fun q hq=>by cases hq) hM0)) rfl ?_
  refine xA tb hM0 8 [1,2,3,10,21] [17] rfl ?_
  refine oS rfl (step_lit rfl rfl rfl rfl Tryz.underlying104 el103 rfl rfl rfl rfl hM0) rfl ?_
  refine xA tb hM0 10 [1,2,3,10,11,12] [17,22] rfl ?_
  refine lp (fun zm zs=>∃ (T:List (Stp Nat)) (P:List (Pth Nat)) (i:Nat),zm=N+1-i∧(Sr next size start U good N T P i)∧zs=⟨85,[(1,.v .mx (natI size)),(2,.v .mx (.clo g cg)),(3,.v .mx (.clo h ch)),(10,.omap 17),(11,.own 22),(12,.v .pl (int i))],[(17,.mp (ksW kvN P) (vsW P.length)),(22,.arr 103 (T.map stpN))]⟩) ?_ ?_
  refine ⟨_,[(start,-1,0)],[(start,[])],0,rfl,sr_start h0,?_⟩
  rfl
  rintro zm zs ⟨T,P,i,rfl,hL1_0,rfl⟩
  have hSr:=hL1_0
  have hle:=hSr.le
  have htl:=hSr.tr.len
  have hpl:=sk_len hSr.sk
  refine xA tb hM0 5 [1,2,3,10,11,12,23,24] [17,22] rfl ?_
  refine oP rfl (pure_lenm rfl Tryz.underlying104 rfl) ?_
  refine xA tb hM0 3 [1,2,3,10,11,12,26] [17,22] rfl ?_
  refine spC 26 rfl ?_ ?_<;>intro h1<;>try simp only [dq] at h1
  refine xA tb hM0 7 [1,2,3,10,11,12] [17,22] rfl ?_
  have hi:i<P.length:=by omega
  have hxU:(P.getD i default).1∈U:=hSr.sk.sub _ (el_mem hi)
  refine xA tb hM0 4 [1,2,3,10,11,12,29,30,31] [17,22] rfl ?_
  refine oP rfl (pure_index_own rfl Tryz.underlying104 sz103 rfl rfl rfl (by rw [List.length_map];omega)) ?_
  refine oP rfl (pure_field_pel rfl fd103_0 rfl rfl) ?_
  refine xA tb hM0 0 [1,2,3,10,11,12,29,33] [17,22] rfl ?_
  refine oP rfl (pure_load_pel rfl ag3 rfl rfl (mget (by omega)) rfl) ?_
  refine oP rfl (pure_call rfl rfl rfl (by have e:(T.getD (i:Int).toNat default).1=(P.getD i default).1:=hSr.tr.key i hi;rw [e];exact hh _ hxU) hM0) ?_
  refine xA tb hM0 2 [1,2,3,10,11,12,35] [17,22] rfl ?_
  refine spC 35 rfl ?_ ?_<;>intro h2<;>try simp only [dq] at h2
  have hgd:good (P.getD i default).1=true:=by assumption
  have hres:=hSr.hit hN hi hgd
  refine xA tb hM0 3 [11,12] [22] rfl ?_
  refine oS rfl (step_nil rfl rfl rfl rfl rfl 3 hM0) rfl ?_
  refine xA tb hM0 10 [11,13,14] [13,22] rfl ?_
  refine lp (fun zm zs=>∃ (at_:Nat) (ws:List Nat),zm=i+at_∧(at_≤i)∧(ws.length+at_≤i)∧((P.getD i default).2=(P.getD at_ default).2++ws.reverse)∧zs=⟨85,[(11,.own 22),(13,.own 13),(14,.v .pl (int at_))],[(13,.arr 3 ((natL ws).map int)),(22,.arr 103 (T.map stpN))]⟩) ?_ ?_
  exact ⟨_,i,[],rfl,Nat.le_refl _,by simp,by simp,rfl⟩
  rintro zm zs ⟨at_,ws,rfl,hL2_0,hL2_1,hL2_2,rfl⟩
  refine xA tb hM0 5 [11,13,14,37,38] [13,22] rfl ?_
  refine oP rfl (pure_index_own rfl Tryz.underlying104 sz103 rfl rfl rfl (by rw [List.length_map];omega)) ?_
  refine oP rfl (pure_field_pel rfl fd103_1 rfl rfl) ?_
  refine xA tb hM0 0 [11,13,14,40] [13,22] rfl ?_
  refine oP rfl (pure_load_pel rfl ag3 rfl rfl (mget (by omega)) rfl) ?_
  refine xA tb hM0 3 [11,13,14,42] [13,22] rfl ?_
  refine spC 42 rfl ?_ ?_<;>intro h3<;>try simp only [dq] at h3
  have hw:=hSr.tr.way at_ (by omega)
  obtain ⟨f,t,hf1,hf2,hf3,hf4⟩:∃ f s:Nat,f<at_∧(T.getD at_ default).2.1=(f:Int)∧(T.getD at_ default).2.2=(s:Int)∧(P.getD at_ default).2=(P.getD f default).2++[s]:=hw.resolve_left (fun q=>by omega)
  refine xA tb hM0 9 [11,14,48,49,50] [13,22] rfl ?_
  refine oP rfl (pure_index_own rfl Tryz.underlying104 sz103 rfl rfl rfl (by rw [List.length_map];omega)) ?_
  refine oP rfl (pure_field_pel rfl fd103_2 rfl rfl) ?_
  refine xA tb hM0 0 [11,14,48,52] [13,22] rfl ?_
  refine oP rfl (pure_load_pel rfl ag3 rfl rfl (mget (by omega)) rfl) ?_
  refine oP rfl (pure_lit rfl Tryz.underlying22 el3 rfl rfl rfl rfl hM0) ?_
  refine xA tb hM0 0 [11,14,48,54] [13,22] rfl ?_
  refine oS rfl (step_append rfl rfl rfl rfl Tryz.underlying22 el3 rfl rfl hM0 (src_pl rfl (one_len (by rfl))) (by simp only [List.length_map,List.length_cons,List.length_nil];omega) (by simp only [List.length_map,List.length_cons,List.length_nil];omega)) rfl ?_
  refine xA tb hM0 7 [11,13,43,44] [13,22] rfl ?_
  refine oP rfl (pure_index_own rfl Tryz.underlying104 sz103 rfl rfl rfl (by rw [List.length_map];omega)) ?_
  refine oP rfl (pure_field_pel rfl fd103_1 rfl rfl) ?_
  refine xA tb hM0 0 [11,13,46] [13,22] rfl ?_
  refine oP rfl (pure_load_pel rfl ag3 rfl rfl (mget (by omega)) rfl) ?_
  refine xA tb hM0 2 [11,13,14] [13,22] rfl ?_
  refine nx ?_
  refine ⟨_,⟨f,ws++[t],rfl,by omega,by simp only [List.length_append,List.length_cons,List.length_nil];omega,by rw [hL2_2,hf4];simp,?_⟩,by omega⟩
  rw [← hf2,natL_snoc,List.map_append,← hf3];rfl
  have hw2:(P.getD at_ default).2=[]:=(hSr.tr.way at_ (by omega)).elim (fun q=>q.2) (fun ⟨f,t,q1,q2,q3,q4⟩=>by omega)
  refine xA tb hM0 7 [13] [13] rfl ?_
  have hres2:(P.getD i default).2=ws.reverse:=by rw [hL2_2,hw2];rfl
  refine xA tb hM0 2 [13,56] [13] rfl ?_
  refine oS rfl (step_revI revsI rfl rfl rfl rfl rfl rfl sz3 (by rw [List.length_map];omega) hM0) rfl ?_
  refine xA tb hM0 16 [] [] rfl ?_
  refine end2_ret rfl rfl ?_
  rw [hres]
  refine ⟨?_,rfl⟩
  show AV.sl (((natL ws).reverse).map int)=nats (P.getD i default).2
  rw [hres2,show (natL ws).reverse=natL ws.reverse from List.map_reverse.symm,natL_nats]
  have hgd:good (P.getD i default).1=false:=by assumption
  refine xA tb hM0 10 [1,2,3,10,11,12,59,60] [17,22] rfl ?_
  refine lp (fun zm zs=>∃ (T2:List (Stp Nat)) (s:Nat),zm=size-s∧(s≤size)∧(Tr T2 (growW next (P.getD i default) P s))∧zs=⟨85,[(1,.v .mx (natI size)),(2,.v .mx (.clo g cg)),(3,.v .mx (.clo h ch)),(10,.omap 17),(11,.own 22),(12,.v .pl (int i)),(59,.v .mx (natI size)),(60,.v .pl (int s))],[(17,.mp (ksW kvN (growW next (P.getD i default) P s)) (vsW (growW next (P.getD i default) P s).length)),(22,.arr 103 (T2.map stpN))]⟩) ?_ ?_
  exact ⟨_,T,0,rfl,Nat.zero_le _,hSr.tr,rfl⟩
  rintro zm zs ⟨T2,s,rfl,hL3_0,hL3_1,rfl⟩
  have hgr:=hSr.grow hU hi hL3_0
  have hgl:=hgr.2.length_le
  have hgu:=hgr.1
  have htl2:=hL3_1.len
  have hPi:(growW next (P.getD i default) P s).getD i default=(P.getD i default):=pre_at hgr.2 hi
  have hT2:(T2.getD i default).1=(P.getD i default).1:=(hL3_1.key i (by omega)).trans (congrArg Prod.fst hPi)
  refine xA tb hM0 6 [1,2,3,10,11,12,59,60,61] [17,22] rfl ?_
  refine spC 61 rfl ?_ ?_<;>intro h4<;>try simp only [dq] at h4
  refine xA tb hM0 16 [1,2,3,10,11,12,15,59,60,63,64,65] [17,22] rfl ?_
  refine oP rfl (pure_index_own rfl Tryz.underlying104 sz103 rfl rfl rfl (by rw [List.length_map];omega)) ?_
  refine oP rfl (pure_field_pel rfl fd103_0 rfl rfl) ?_
  refine xA tb hM0 0 [1,2,3,10,11,12,15,59,60,63,67] [17,22] rfl ?_
  refine oP rfl (pure_load_pel rfl ag3 rfl rfl (mget (by omega)) rfl) ?_
  refine xA tb hM0 1 [1,2,3,10,11,12,15,59,60,63,68,69] [17,22] rfl ?_
  refine oP rfl (pure_call rfl rfl rfl (by have e:(T2.getD (i:Int).toNat default).1=(P.getD i default).1:=hT2;rw [e];exact hg _ hxU s (by omega)) hM0) ?_
  refine xA tb hM0 7 [1,2,3,10,11,12,15,16,59,60,71,72] [17,22] rfl ?_
  refine oP rfl (pure_scl (pure_mlook rfl Tryz.underlying101 Tryz.underlying3 zv4 rfl rfl rfl rfl (fun q hq=>by obtain ⟨_,_,rfl⟩:=List.mem_map.1 hq;rfl) (look_w (kv:=kvN) kvN_inj _ _))) ?_
  refine xA tb hM0 3 [1,2,3,10,11,12,15,16,59,60,74] [17,22] rfl ?_
  refine spC 74 rfl ?_ ?_<;>intro h5<;>try simp only [dq] at h5
  refine xA tb hM0 5 [1,2,3,10,11,12,15,16,59,60,75,76] [17,22] rfl ?_
  refine oS rfl (step_put rfl rfl rfl Tryz.underlying101 Tryz.underlying3 rfl rfl rfl rfl rfl (fun q hq=>by obtain ⟨_,_,rfl⟩:=List.mem_map.1 hq;rfl) hM0) rfl ?_
  refine xA tb hM0 8 [1,2,3,10,12,59,60,77,81] [17,22] rfl ?_
  refine oP rfl (pure_lit rfl Tryz.underlying104 el103 rfl rfl rfl rfl hM0) ?_
  refine oS rfl (step_append rfl rfl rfl rfl Tryz.underlying104 el103 rfl rfl hM0 (src_pl rfl (one_len (by rfl))) (by rw [List.length_map];simp only [List.length_cons,List.length_nil];omega) (by rw [List.length_map];simp only [List.length_cons,List.length_nil];omega)) rfl ?_
  refine xA tb hM0 5 [1,2,3,10,11,12,59,60] [17,22] rfl ?_
  refine oP rfl (pure_addi rfl rfl rfl (by omega)) ?_
  refine xA tb hM0 2 [1,2,3,10,11,12,59,60] [17,22] rfl ?_
  refine nx ?_
  have hnew:next (P.getD i default).1 s ∉ keysW (growW next (P.getD i default) P s):=by assumption
  have hsn:=hL3_1.snoc (k:=next (P.getD i default).1 s) (i:=i) (s:=s) (by omega)
  rw [hPi] at hsn
  refine ⟨_,⟨T2++[(next (P.getD i default).1 s,(i:Int),(s:Int))],s+1,rfl,by omega,by rw [growW_new hnew];exact hsn,?_⟩,by omega⟩
  rw [growW_new hnew,← put_kw (kv:=kvN) kvN_inj hnew,← put_vw (kv:=kvN) kvN_inj hnew,List.map_append];rfl
  refine xA tb hM0 5 [1,2,3,10,11,12,59,60] [17,22] rfl ?_
  refine oP rfl (pure_addi rfl rfl rfl (by omega)) ?_
  refine xA tb hM0 2 [1,2,3,10,11,12,59,60] [17,22] rfl ?_
  refine nx ?_
  have hold:next (P.getD i default).1 s∈keysW (growW next (P.getD i default) P s):=by assumption
  exact ⟨_,⟨T2,s+1,rfl,by omega,by rw [growW_old hold];exact hL3_1,by rw [growW_old hold];rfl⟩,by omega⟩
  refine xA tb hM0 7 [1,2,3,10,11,12] [17,22] rfl ?_
  obtain rfl:size=s:=by omega
  refine xA tb hM0 2 [1,2,3,10,11,27] [17,22] rfl ?_
  refine oP rfl (pure_addi rfl rfl rfl (by omega)) ?_
  refine xA tb hM0 2 [1,2,3,10,11,12] [17,22] rfl ?_
  refine nx ?_
  exact ⟨_,⟨T2,(growW next (P.getD i default) P size),i+1,rfl,hSr.step hU hN hi hgd hL3_1,rfl⟩,by omega⟩
  refine xA tb hM0 13 [] [] rfl ?_
  refine end2_ret rfl rfl ?_
  rw [hSr.miss (by omega)]
  exact ⟨rfl,rfl⟩
end Go.Proofs.YtjimlkpfmbachaaGreat

