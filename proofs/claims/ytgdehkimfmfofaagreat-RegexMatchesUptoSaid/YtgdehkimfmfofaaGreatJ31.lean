/-
  Contracts: the tokens of a pattern.
-/
import Derived.Test.YtgdehkimfmfofaaGreatJ25
import Derived.Test.YtgdehkimfmfofaaGreatJ15
import Derived.Test.YtgdehkimfmfofaaGreatJ18
import Derived.Test.YtgdehkimfmfofaaGreatJ12
import Derived.Test.YtgdehkimfmfofaaGreatJ30
import Derived.Test.YtgdehkimfmfofaaGreatJ29
set_option linter.unusedVariables false
set_option linter.unusedSectionVars false
set_option linter.unusedSimpArgs false
namespace Go.Proofs.YtgdehkimfmfofaaGreat
open Go.Am Go.Wb Go.Wc Go.Shelf Go.RowKit
theorem ixS_call {s:List UInt8} {c:UInt8}:CallF Tryz.prog 141 [sbytes s,sbytes [c]] (.p (int (Lib.indexByte s c))) :=
  callF_sc (zs:=[.string ⟨s.toArray⟩,.string ⟨[c].toArray⟩]) ⟨Tryz.f141,Tryz.func141,by kernel_rfl,by kernel_rfl⟩ fun w=>(Any.stringslite_Index_one Tryz.ixS ⟨s.toArray⟩ c w).mono fun e w' ⟨h1,h2⟩=>by
    subst h2
    exact ⟨_,h1,.refl _ _,.sc _ rfl⟩
theorem fn121:Fn1 Tryz.prog 121 Tryz.f121.ntmps 4 (Tryz.f121.body.getD .skip):=⟨Tryz.f121,Tryz.func121,rfl,rfl,rfl,by kernel_rfl⟩
set_option maxRecDepth 100000 in
theorem hpl_call {s t:List UInt8}:CallF Tryz.prog 121 [sbytes s,sbytes t] (.p (bool (preB s t))):=by
  refine callF_of_code fn121 (Nat.le_of_ble_eq_true rfl) fun w0 M0 hM0=>?_
  refine xC tb hM0 8 [0,1,5] [] rfl ?_
  refine oP rfl (pure_slen rfl Tryz.underlying9 rfl) ?_
  refine xA tb hM0 1 [0,1,6,7] [] rfl ?_
  refine oP rfl (pure_slen rfl Tryz.underlying9 rfl) ?_
  refine xA tb hM0 2 [0,1,10] [] rfl ?_
  refine spO 10 rfl ?_ ?_<;>intro h1'<;>try simp only [dq] at h1'
  refine xA tb hM0 2 [1,10,11,12] [] rfl ?_
  refine oP rfl (pure_slen rfl Tryz.underlying9 rfl) ?_
  refine oP rfl (pure_sslice_h rfl Tryz.underlying9 rfl rfl (by omega)) ?_
  refine xA tb hM0 1 [10,14,15] [] rfl ?_
  refine oP rfl (pure_seql rfl rfl rfl) ?_
  refine xA tb hM0 5 [] [] rfl ?_
  refine end_ret rfl ?_;rotate_left
  refine xA tb hM0 11 [] [] rfl ?_
  refine end_ret rfl ?_;rotate_left
  all_goals
    unfold preB
    first
      | (rw [decide_eq_true (p:=t.length≤s.length) (by omega),Bool.true_and];first|done|rfl)
      | (rw [decide_eq_false (p:=t.length≤s.length) (by omega),Bool.false_and];first|done|rfl)
theorem fn89:Fn1 Tryz.prog 89 Tryz.f89.ntmps 4 (Tryz.f89.body.getD .skip):=⟨Tryz.f89,Tryz.func89,rfl,rfl,rfl,by kernel_rfl⟩
set_option maxRecDepth 100000 in
theorem hp_call {s t:List UInt8}:CallF Tryz.prog 89 [sbytes s,sbytes t] (.p (bool (preB s t))):=by
  refine callF_of_code fn89 (Nat.le_of_ble_eq_true rfl) fun w0 M0 hM0=>?_
  refine xC tb hM0 9 [5,6] [] rfl ?_
  refine oP rfl (pure_call rfl rfl rfl (hpl_call) hM0) ?_
  refine xA tb hM0 4 [] [] rfl ?_
  refine end_ret rfl ?_
  rfl
theorem fn123:Fn3 Tryz.prog 123 Tryz.f123.ntmps 4 5 6 (Tryz.f123.body.getD .skip):=⟨Tryz.f123,Tryz.func123,rfl,rfl,rfl,by kernel_rfl⟩
set_option maxRecDepth 100000 in
theorem cutl_call {s:List UInt8} {c:UInt8} (hs:s.length≤1099511627776):CallF Tryz.prog 123 [sbytes s,sbytes [c]] (.p (.tup [sbytes (cutB s c),sbytes (cutA s c),bool (decide (0≤Lib.indexByte s c))])):=by
  have hix:=indexByte_lt (l:=s) (c:=c)
  refine callF_of_code3 fn123 (Nat.le_of_ble_eq_true rfl) fun w0 M0 hM0=>?_
  refine xC tb hM0 12 [0,1,8,9] [] rfl ?_
  refine oP rfl (pure_call rfl rfl rfl (ixS_call) hM0) ?_
  refine xA tb hM0 9 [0,1,7,12] [] rfl ?_
  refine spC 12 rfl ?_ ?_<;>intro h1<;>try simp only [dq] at h1
  refine xA tb hM0 2 [0,1,7] [] rfl ?_
  refine code_draw mixed (by kernel_rfl) _ rfl ?_
  refine dl_pure rfl rfl rfl (pure_move rfl rfl) ?_
  refine dl_pure rfl rfl rfl (pure_move rfl rfl) ?_
  refine dl_pure rfl rfl rfl (pure_sslice_h rfl Tryz.underlying9 rfl rfl (by omega)) ?_
  refine dl_pure rfl rfl rfl (pure_move rfl rfl) ?_
  refine dl_pure rfl rfl rfl (pure_move rfl rfl) ?_
  refine dl_pure rfl rfl rfl (pure_move rfl rfl) ?_
  refine dl_pure rfl rfl rfl (pure_slen rfl Tryz.underlying9 rfl) ?_
  refine dpk 23 [(15,_),(16,_),(17,_),(19,_)] [] rfl rfl rfl ?_
  refine dl_pure rfl rfl rfl (pure_addi rfl rfl rfl (by simp only [List.length_cons,List.length_nil];omega)) ?_
  refine dl_pure rfl rfl rfl (pure_sslice_l rfl Tryz.underlying9 rfl rfl (by simp only [List.length_cons,List.length_nil];omega)) ?_
  refine dl_pure rfl rfl rfl (pure_assign rfl rfl) ?_
  refine dl_pure rfl rfl rfl (pure_assign rfl rfl) ?_
  refine dl_pure rfl rfl rfl (pure_assign rfl rfl) ?_
  refine dl_nil ?_
  refine xD tb hM0 3 [] [] rfl ?_
  refine end3_ret rfl rfl rfl ?_;rotate_left
  refine xA tb hM0 12 [] [] rfl ?_
  refine end3_ret rfl rfl rfl ?_;rotate_left
  all_goals
    unfold cutB cutA
    first
      | (rw [if_pos (by omega),if_pos (by omega),decide_eq_true (by omega)];exact ⟨rfl,rfl,rfl⟩)
      | (rw [if_neg (by omega),if_neg (by omega),decide_eq_false (by omega)];exact ⟨rfl,rfl,rfl⟩)
theorem fn91:Fn3 Tryz.prog 91 Tryz.f91.ntmps 4 5 6 (Tryz.f91.body.getD .skip):=⟨Tryz.f91,Tryz.func91,rfl,rfl,rfl,by kernel_rfl⟩
set_option maxRecDepth 100000 in
theorem cut_call {s:List UInt8} {c:UInt8} (hs:s.length≤1099511627776):CallF Tryz.prog 91 [sbytes s,sbytes [c]] (.p (.tup [sbytes (cutB s c),sbytes (cutA s c),bool (decide (0≤Lib.indexByte s c))])):=by
  refine callF_of_code3 fn91 (Nat.le_of_ble_eq_true rfl) fun w0 M0 hM0=>?_
  refine xC tb hM0 11 [7,8] [] rfl ?_
  refine oP rfl (pure_call rfl rfl rfl (cutl_call hs) hM0) ?_
  refine xA tb hM0 9 [] [] rfl ?_
  refine end3_ret rfl rfl rfl ?_
  exact ⟨rfl,rfl,rfl⟩
theorem fn93:Fn1 Tryz.prog 93 Tryz.f93.ntmps 3 (Tryz.f93.body.getD .skip):=⟨Tryz.f93,Tryz.func93,rfl,rfl,rfl,by kernel_rfl⟩
set_option maxRecDepth 100000 in
theorem set3_call {x:SetT} {name:List UInt8}:CallO Tryz.prog 93 [.v .mx (setA x),.pbox 1000001 0] [(1000001,.box 9 [.v .pl (sbytes name)])] (.v .pl (bool (decide (x.name=name)))) [(1000001,.box 9 [.v .pl (sbytes name)])]:=by
  refine callO_of_code fn93 (Nat.le_of_ble_eq_true rfl) fun w0 M0 hM0=>?_
  refine xC tb hM0 2 [0,1] [1000001] rfl ?_
  refine oP rfl (pure_box rfl rfl rfl hM0) ?_
  refine xA tb hM0 8 [5,6] [1000001] rfl ?_
  refine oP rfl (pure_seql rfl rfl rfl) ?_
  refine xA tb hM0 4 [] [] rfl ?_
  refine endO_ret (o1:=[(1000001,_)]) rfl ⟨rfl,trivial⟩ ?_
  exact ⟨rfl,rfl⟩
theorem fn92:Fn1 Tryz.prog 92 Tryz.f92.ntmps 4 (Tryz.f92.body.getD .skip):=⟨Tryz.f92,Tryz.func92,rfl,rfl,rfl,by kernel_rfl⟩
set_option maxRecDepth 100000 in
set_option maxHeartbeats 2000000 in
theorem idxS_call {l:List SetT} {name:List UInt8} (hl:l.length≤9223372036854775807):CallO Tryz.prog 92 [.v .mx (setsA l),.fn 93 [.bx 1000001]] [(1000001,.box 9 [.v .pl (sbytes name)])]
    (.v .pl (int (idxF (fun x:SetT=>decide (x.name=name)) l))) [(1000001,.box 9 [.v .pl (sbytes name)])]:=by
  refine callO_of_code fn92 (Nat.le_of_ble_eq_true rfl) fun w0 M0 hM0=>?_
  refine xC tb hM0 9 [0,1,6] [1000001] rfl ?_
  refine oP rfl (pure_lenm rfl Tryz.underlying40 rfl) ?_
  refine xA tb hM0 4 [0,1,7,8] [1000001] rfl ?_
  refine lp (fun zm zs=>∃ k:Nat,zm=l.length-k∧(k≤l.length)∧(∀ j,j<k→decide ((l.getD j default).name=name)=false)∧zs=⟨19,[(0,.v .mx (setsA l)),(1,.fn 93 [.bx 1000001]),(7,.v .pl (int l.length)),(8,.v .pl (int k))],[(1000001,.box 9 [.v .pl (sbytes name)])]⟩) ?_ ?_
  exact ⟨_,0,rfl,Nat.zero_le _,fun j hj=>absurd hj (by omega),rfl⟩
  rintro zm zs ⟨k,rfl,hL1_0,hL1_1,rfl⟩
  refine xA tb hM0 6 [0,1,7,8,9] [1000001] rfl ?_
  refine spC 9 rfl ?_ ?_<;>intro h1<;>try simp only [dq] at h1
  refine xA tb hM0 16 [0,1,5,7,8,11,12,13] [1000001] rfl ?_
  refine oP rfl (pure_ix rfl Tryz.underlying40 sz106 rfl rfl (by omega) (fun _=>rfl)) ?_
  refine xA tb hM0 1 [0,1,5,7,8,11,15] [1000001] rfl ?_
  refine oS rfl (step_callO [(1000001,1000001)] rfl rfl rfl rfl rfl rfl rfl (set3_call (x:=l.getD k default)) ⟨.inl rfl,.inl rfl,trivial⟩ ⟨rfl,trivial⟩ rfl rfl rfl rfl rfl hM0) rfl ?_
  refine xA tb hM0 2 [0,1,5,7,8,16] [1000001] rfl ?_
  refine spC 16 rfl ?_ ?_<;>intro h2<;>try simp only [dq] at h2
  refine xA tb hM0 13 [] [] rfl ?_
  refine endO_ret (o1:=[(1000001,_)]) rfl ⟨rfl,trivial⟩ ?_
  rw [← idxF_hit (p:=fun x:SetT=>decide (x.name=name)) (l:=l) (k:=k) (by omega) hL1_1 (by simp_all)];exact ⟨rfl,rfl⟩
  refine xA tb hM0 5 [0,1,7,8] [1000001] rfl ?_
  refine oP rfl (pure_addi rfl rfl rfl (by omega)) ?_
  refine xA tb hM0 2 [0,1,7,8] [1000001] rfl ?_
  refine nx ?_
  exact ⟨_,⟨k+1,rfl,by omega,all_step hL1_1 (by simp_all),rfl⟩,by omega⟩
  refine xA tb hM0 12 [] [] rfl ?_
  refine endO_ret (o1:=[(1000001,_)]) rfl ⟨rfl,trivial⟩ ?_
  rw [← idxF_none (p:=fun x:SetT=>decide (x.name=name)) (l:=l) (fun j hj=>hL1_1 j (by omega))];exact ⟨rfl,rfl⟩
theorem fn88:FnC Tryz.prog 88 Tryz.f88.ntmps 2 25 3 (Tryz.f88.body.getD .skip):=⟨Tryz.f88,Tryz.func88,rfl,rfl,rfl,by kernel_rfl,ag25,sz25⟩
set_option maxRecDepth 100000 in
theorem tone_call (l:List Int):CallN Tryz.prog 88 [ints l] (.p (rx (oneR l))):=by
  refine callN_of_codeC fn88 (Nat.le_of_ble_eq_true rfl) fun w0 M0 hM0=>?_
  refine xC tb hM0 13 [] [] rfl ?_
  refine endC_ret rfl ?_
  rfl
abbrev outO (l:List Tok) (k:Int):List (Nat×Ob):=[(10,.arr 76 (l.map tok)),(1000001,.box 70 [.own 10]),(1000002,.box 3 [.v .pl (int k)])]
theorem fn87:Fn0 Tryz.prog 87 Tryz.f87.ntmps (Tryz.f87.body.getD .skip):=⟨Tryz.f87,Tryz.func87,rfl,rfl,rfl,by kernel_rfl⟩
set_option maxRecDepth 100000 in
set_option maxHeartbeats 2000000 in
theorem tput_call {l:List Tok} {x:Rx} {c k n:Int} (hl:l.length≤1099511627776) (hk:0≤k∧k≤1099511627776) (hn:0≤n∧n≤1099511627776) :
    CallO Tryz.prog 87 [.v .pl (.sc (.int .u8 c)),.v .pl (rx x),.v .pl (int n),.pbox 1000001 0,.pbox 1000002 0] (outO l k) (.v .pl (.tup [])) (outO (l++[⟨c,x,k⟩]) (k+n)):=by
  refine callO_of_code0 fn87 (Nat.le_of_ble_eq_true rfl) fun w0 M0 hM0=>?_
  refine xC tb hM0 2 [0,1,2,3,4] [10,1000001,1000002] rfl ?_
  refine oP rfl (pure_box rfl rfl rfl hM0) ?_
  refine xA tb hM0 9 [2,3,4,8,12] [10,1000001,1000002] rfl ?_
  refine oP rfl (pure_lit rfl Tryz.underlying70 el76 rfl rfl rfl rfl hM0) ?_
  refine oS rfl (step_append rfl rfl rfl rfl Tryz.underlying70 el76 rfl rfl hM0 (src_pl rfl (one_len (by rfl))) (by first|(simp only [ll];omega)|omega) (by first|(simp only [ll];omega)|omega)) rfl ?_
  refine xA tb hM0 6 [4,15,16] [10,1000001,1000002] rfl ?_
  refine oP rfl (pure_addi rfl rfl rfl (by omega)) ?_
  refine xA tb hM0 2 [] [] rfl ?_
  refine endO0_normal (o1:=[(10,_),(1000001,_),(1000002,_)]) ⟨rfl,rfl,rfl,trivial⟩ ?_
  unfold outO;rw [List.map_append];rfl
end Go.Proofs.YtgdehkimfmfofaaGreat

namespace Go.Proofs.YtgdehkimfmfofaaGreat
open Go.Am Go.Wb Go.Wc
theorem kid_mem' {α:Type} [Inhabited α] {l:List α} {i:Nat} (h:i<l.length):l.getD i default∈l:=by rw [getD_el h];exact List.getElem_mem h
theorem fn59:Fn1 Tryz.prog 59 Tryz.f59.ntmps 6 (Tryz.f59.body.getD .skip):=⟨Tryz.f59,Tryz.func59,rfl,rfl,rfl,by kernel_rfl⟩
set_option maxRecDepth 100000 in
set_option maxHeartbeats 16000000 in
theorem tokens_call {s:List UInt8} {a:List Letter} {sets:List SetT} (hs:s.length≤1099511627000) (ha:a.length≤1099511627776) (hset:sets.length≤9223372036854775807) (hsy:∀ x∈sets,x.syms.length≤9223372036854775807) :
    CallF Tryz.prog 59 [sbytes s,letters a,setsA sets] (.fresh 76 ((toksP a sets s).map tok)):=by
  refine callF_of_code fn59 (Nat.le_of_ble_eq_true rfl) fun w0 M0 hM0=>?_
  refine xC tb hM0 18 [0,1,2,7,8] [7,8] rfl ?_
  refine oP rfl (pure_fn rfl rfl) ?_
  refine xA tb hM0 4 [0,1,2,7,8,9] [7,8] rfl ?_
  refine code_nilown 7 0 1010 76 70 hM0 rfl rfl rfl rfl ?_
  refine xK tb hM0 6 [0,1,2,7,8,9,10] [7,8,1010] rfl ?_
  refine lp (fun zm zs=>∃ (k n:Nat) (acc:List Tok),zm=s.length-k∧(k≤s.length∧s.length-k≤n)∧(acc++tokN a sets s n k=toksP a sets s)∧(acc.length≤k)∧zs=⟨172,[(0,.v .mx (sbytes s)),(1,.v .mx (letters a)),(2,.v .mx (setsA sets)),(7,.pbox 7 0),(8,.pbox 8 0),(9,.fn 87 [.bx 7,.bx 8]),(10,.v .pl (.clo 88 []))],[(7,.box 70 [.own 1010]),(8,.box 3 [.v .pl (int k)]),(1010,.arr 76 (acc.map tok))]⟩) ?_ ?_
  exact ⟨_,0,s.length,[],rfl,⟨Nat.zero_le _,Nat.le_refl _⟩,rfl,Nat.le_refl _,rfl⟩
  rintro zm zs ⟨k,n,acc,rfl,hL1_0,hL1_1,hL1_2,rfl⟩
  obtain ⟨hk1,hk2⟩:=hL1_0
  have hbl:=bestN_le a (s.drop k) a.length
  have hdr:(s.drop k).length=s.length-k:=List.length_drop
  have hcd:(s.drop k).getD 0 default=s.getD k 0:=getD_dropk
  have e1:((k:Int)+1).toNat=k+1:=by omega
  have hcl:=cutB_le (s:=s.drop (k+1)) (c:=125)
  rw [List.length_drop] at hcl
  have hdd:(s.drop k).drop 1=s.drop (k+1):=by rw [List.drop_drop]
  have hnm:nameB (s.drop k)=cutB (s.drop (k+1)) 125:=by unfold nameB;rw [hdd]
  have hix:=indexByte_lt (l:=s.drop (k+1)) (c:=125)
  rw [List.length_drop] at hix
  have hcn:=fun h=>cutB_nil (s:=s.drop (k+1)) (c:=125) h
  have hil:=idxF_lt (p:=fun x:SetT=>decide (x.name=cutB (s.drop (k+1)) 125)) (l:=sets)
  refine xA tb hM0 5 [0,1,2,7,8,9,10,22,23] [7,8,1010] rfl ?_
  refine oP rfl (pure_slen rfl Tryz.underlying9 rfl) ?_
  refine xA tb hM0 3 [0,1,2,7,8,9,10,25] [7,8,1010] rfl ?_
  refine spC 25 rfl ?_ ?_<;>intro h1<;>try simp only [dq] at h1
  refine xA tb hM0 14 [0,1,2,7,8,9,10,11,12,26] [7,8,1010] rfl ?_
  refine oP rfl (pure_lenm rfl Tryz.underlying39 rfl) ?_
  refine xA tb hM0 4 [0,1,2,7,8,9,10,11,12,26,27,28] [7,8,1010] rfl ?_
  refine lp (fun zm zs=>∃ i:Nat,zm=a.length-i∧(i≤a.length)∧zs=⟨172,[(0,.v .mx (sbytes s)),(1,.v .mx (letters a)),(2,.v .mx (setsA sets)),(7,.pbox 7 0),(8,.pbox 8 0),(9,.fn 87 [.bx 7,.bx 8]),(10,.v .pl (.clo 88 [])),(11,.v .pl (int (bestN a (s.drop k) i).1)),(12,.v .pl (int (bestN a (s.drop k) i).2)),(26,.v .mx (letters a)),(27,.v .pl (int a.length)),(28,.v .pl (int i))],[(7,.box 70 [.own 1010]),(8,.box 3 [.v .pl (int k)]),(1010,.arr 76 (acc.map tok))]⟩) ?_ ?_
  exact ⟨_,0,rfl,Nat.zero_le _,rfl⟩
  rintro zm zs ⟨i,rfl,hL2_0,rfl⟩
  refine xA tb hM0 6 [0,1,2,7,8,9,10,11,12,26,27,28,29] [7,8,1010] rfl ?_
  refine spC 29 rfl ?_ ?_<;>intro h2<;>try simp only [dq] at h2
  refine xA tb hM0 8 [0,1,2,7,8,9,10,11,12,26,27,28,30] [7,8,1010] rfl ?_
  refine oP rfl (pure_ix rfl Tryz.underlying39 sz83 rfl rfl (by omega) (fun _=>rfl)) ?_
  refine xA tb hM0 7 [0,1,2,7,8,9,10,11,12,13,14,26,27,28] [7,8,14,1010] rfl ?_
  refine code_draw mixed (by kernel_rfl) _ rfl ?_
  refine dl_pure rfl rfl rfl (pure_field_box rfl fd83_0 rfl rfl) ?_
  refine dl_pure rfl rfl rfl (pure_load_box rfl ag9 rfl rfl rfl) ?_
  refine dl_pure rfl rfl rfl (pure_slen rfl Tryz.underlying9 rfl) ?_
  refine dl_pure rfl rfl rfl (pure_move rfl rfl) ?_
  refine dl_pure rfl rfl rfl (pure_gtr rfl rfl rfl) ?_
  refine dl_pure rfl rfl rfl (pure_move rfl rfl) ?_
  refine dl_guard rfl (fun h3=>?_) (fun h3=>?_)
  have h3':=h3;try simp only [dq] at h3'
  refine dl_pure_g rfl rfl h3 rfl rfl (pure_move rfl rfl) ?_
  refine dpk 172 [(0,_),(1,_),(2,_),(7,_),(8,_),(9,_),(10,_),(11,_),(12,_),(13,_),(14,_),(26,_),(27,_),(28,_),(38,_),(39,_)] [(7,_),(8,_),(14,_),(1010,_)] rfl rfl rfl ?_
  refine dl_pure_g rfl rfl h3 rfl rfl (pure_load_box rfl ag3 rfl rfl rfl) ?_
  refine dl_pure_g rfl rfl h3 rfl rfl (pure_sslice_l rfl Tryz.underlying9 rfl rfl (by omega)) ?_
  refine dl_pure_g rfl rfl h3 rfl rfl (pure_field_box rfl fd83_0 rfl rfl) ?_
  refine dl_pure_g rfl rfl h3 rfl rfl (pure_load_box rfl ag9 rfl rfl rfl) ?_
  refine dl_pure_g rfl rfl h3 rfl rfl (pure_call rfl rfl rfl (hp_call) hM0) ?_
  refine dl_pure rfl rfl rfl (pure_pick_t rfl rfl h3 rfl) ?_
  refine dl_nil ?_
  refine xD tb hM0 1 [0,1,2,7,8,9,10,11,12,13,14,26,27,28,45] [7,8,14,1010] rfl ?_
  refine spC 45 rfl ?_ ?_<;>intro h4<;>try simp only [dq] at h4
  refine xA tb hM0 1 [0,1,2,7,8,9,10,13,14,26,27,28] [7,8,14,1010] rfl ?_
  refine code_draw mixed (by kernel_rfl) _ rfl ?_
  refine dl_pure rfl rfl rfl (pure_move rfl rfl) ?_
  refine dl_pure rfl rfl rfl (pure_field_box rfl fd83_0 rfl rfl) ?_
  refine dl_pure rfl rfl rfl (pure_load_box rfl ag9 rfl rfl rfl) ?_
  refine dl_pure rfl rfl rfl (pure_slen rfl Tryz.underlying9 rfl) ?_
  refine dl_pure rfl rfl rfl (pure_assign rfl rfl) ?_
  refine dl_pure rfl rfl rfl (pure_assign rfl rfl) ?_
  refine dl_nil ?_
  refine xD tb hM0 3 [0,1,2,7,8,9,10,11,12,26,27,28] [7,8,1010] rfl ?_
  refine oP rfl (pure_addi rfl rfl rfl (by omega)) ?_
  refine xA tb hM0 2 [0,1,2,7,8,9,10,11,12,26,27,28] [7,8,1010] rfl ?_
  refine nx ?_;rotate_left
  refine xA tb hM0 5 [0,1,2,7,8,9,10,11,12,26,27,28] [7,8,1010] rfl ?_
  refine oP rfl (pure_addi rfl rfl rfl (by omega)) ?_
  refine xA tb hM0 2 [0,1,2,7,8,9,10,11,12,26,27,28] [7,8,1010] rfl ?_
  refine nx ?_;rotate_left
  have h3':=h3;try simp only [dq] at h3'
  refine dl_skip_g rfl rfl h3 rfl rfl ?_
  refine dpk 172 [(0,_),(1,_),(2,_),(7,_),(8,_),(9,_),(10,_),(11,_),(12,_),(13,_),(14,_),(26,_),(27,_),(28,_),(38,_),(39,_)] [(7,_),(8,_),(14,_),(1010,_)] rfl rfl rfl ?_
  refine dl_skip_g rfl rfl h3 rfl rfl ?_
  refine dl_skip_g rfl rfl h3 rfl rfl ?_
  refine dl_skip_g rfl rfl h3 rfl rfl ?_
  refine dl_skip_g rfl rfl h3 rfl rfl ?_
  refine dl_skip_g rfl rfl h3 rfl rfl ?_
  refine dl_pure rfl rfl rfl (pure_pick_f rfl rfl h3 rfl) ?_
  refine dl_nil ?_
  refine xD tb hM0 6 [0,1,2,7,8,9,10,11,12,26,27,28] [7,8,1010] rfl ?_
  refine oP rfl (pure_addi rfl rfl rfl (by omega)) ?_
  refine xA tb hM0 2 [0,1,2,7,8,9,10,11,12,26,27,28] [7,8,1010] rfl ?_
  refine nx ?_;rotate_left
  refine xA tb hM0 8 [0,1,2,7,8,9,10,11,12] [7,8,1010] rfl ?_
  obtain rfl:i=a.length:=by omega
  refine xA tb hM0 6 [0,1,2,7,8,9,10,11,12,106] [7,8,1010] rfl ?_
  refine spC 106 rfl ?_ ?_<;>intro h5<;>try simp only [dq] at h5
  refine xA tb hM0 5 [0,1,2,7,8,9,10,12,109,110,111] [7,8,1010] rfl ?_
  refine oP rfl (pure_lit rfl Tryz.underlying22 el3 rfl rfl rfl rfl hM0) ?_
  refine oP rfl (pure_callN rfl rfl rfl rfl (tone_call [((bestN a (s.drop k) a.length).1:Int)]) hM0) ?_
  refine xA tb hM0 1 [0,1,2,7,8,9,10,109,113,114] [7,8,1010] rfl ?_
  refine oS rfl (step_callO [(1000001,7),(1000002,8),(10,1010)] rfl rfl rfl rfl rfl rfl rfl (tput_call (l:=acc) (x:=oneR [((bestN a (s.drop k) a.length).1:Int)]) (c:=97) (k:=(k:Int)) (n:=((bestN a (s.drop k) a.length).2:Int)) (by omega) (by omega) (by omega)) ⟨.inl rfl,.inl rfl,.inl rfl,.inl rfl,.inl rfl,trivial⟩ ⟨rfl,rfl,rfl,trivial⟩ rfl rfl rfl rfl rfl hM0) rfl ?_
  refine xA tb hM0 3 [0,1,2,7,8,9,10] [7,8,1010] rfl ?_
  refine nx ?_;rotate_left
  refine xA tb hM0 5 [0,1,2,7,8,9,10,117,118] [7,8,1010] rfl ?_
  refine oP rfl (pure_sindex rfl Tryz.underlying9 rfl rfl (by omega)) ?_
  refine oP rfl (pure_eql rfl rfl rfl) ?_
  refine xA tb hM0 3 [0,1,2,7,8,9,10,116] [7,8,1010] rfl ?_
  refine spC 116 rfl ?_ ?_<;>intro h6<;>try simp only [dq] at h6
  refine xA tb hM0 3 [0,1,2,7,8,9,10] [7,8,1010] rfl ?_
  refine oS rfl (step_nil rfl rfl rfl rfl rfl 3 hM0) rfl ?_
  refine xA tb hM0 6 [0,1,2,7,8,9,10,15,121] [7,8,15,1010] rfl ?_
  refine oP rfl (pure_lenm rfl Tryz.underlying39 rfl) ?_
  refine xA tb hM0 4 [0,1,2,7,8,9,10,15,122,123] [7,8,15,1010] rfl ?_
  refine lp (fun zm zs=>∃ i:Nat,zm=a.length-i∧(i≤a.length)∧zs=⟨172,[(0,.v .mx (sbytes s)),(1,.v .mx (letters a)),(2,.v .mx (setsA sets)),(7,.pbox 7 0),(8,.pbox 8 0),(9,.fn 87 [.bx 7,.bx 8]),(10,.v .pl (.clo 88 [])),(15,.own 15),(122,.v .pl (int a.length)),(123,.v .pl (int i))],[(7,.box 70 [.own 1010]),(8,.box 3 [.v .pl (int k)]),(15,.arr 3 (((List.range i).map fun (q:Nat)=>(q:Int)).map int)),(1010,.arr 76 (acc.map tok))]⟩) ?_ ?_
  exact ⟨_,0,rfl,Nat.zero_le _,rfl⟩
  rintro zm zs ⟨i,rfl,hL3_0,rfl⟩
  refine xA tb hM0 6 [0,1,2,7,8,9,10,15,122,123,124] [7,8,15,1010] rfl ?_
  refine spC 124 rfl ?_ ?_<;>intro h7<;>try simp only [dq] at h7
  refine xA tb hM0 14 [0,1,2,7,8,9,10,122,123,126,127] [7,8,15,1010] rfl ?_
  refine oP rfl (pure_lit rfl Tryz.underlying22 el3 rfl rfl rfl rfl hM0) ?_
  refine oS rfl (step_append rfl rfl rfl rfl Tryz.underlying22 el3 rfl rfl hM0 (src_pl rfl (one_len (by rfl))) (by first|(simp only [ll];omega)|omega) (by first|(simp only [ll];omega)|omega)) rfl ?_
  refine xA tb hM0 5 [0,1,2,7,8,9,10,15,122,123] [7,8,15,1010] rfl ?_
  refine oP rfl (pure_addi rfl rfl rfl (by omega)) ?_
  refine xA tb hM0 2 [0,1,2,7,8,9,10,15,122,123] [7,8,15,1010] rfl ?_
  refine nx ?_
  exact ⟨_,⟨i+1,rfl,by omega,by rw [List.range_succ,List.map_append,List.map_append];rfl⟩,by omega⟩
  refine xA tb hM0 6 [0,1,2,7,8,9,10,15] [7,8,15,1010] rfl ?_
  refine code_frz 172 [(0,_),(1,_),(2,_),(7,_),(8,_),(9,_),(10,_),(15,_)] [(7,_),(8,_),(1010,_)] hM0 rfl ⟨.inl rfl,.inl rfl,.inl rfl,.inl rfl,.inl rfl,.inl rfl,.inl rfl,.inr ⟨_,_,rfl,rfl,rfl⟩,trivial⟩ ⟨rfl,rfl,rfl,trivial⟩ ?_
  obtain rfl:i=a.length:=by omega
  refine xK tb hM0 4 [0,1,2,7,8,9,10,131,132,133] [7,8,1010] rfl ?_
  refine oP rfl (pure_callN rfl rfl rfl rfl (tone_call ((List.range a.length).map fun (q:Nat)=>(q:Int))) hM0) ?_
  refine oS rfl (step_callO [(1000001,7),(1000002,8),(10,1010)] rfl rfl rfl rfl rfl rfl rfl (tput_call (l:=acc) (x:=oneR ((List.range a.length).map fun (q:Nat)=>(q:Int))) (c:=97) (k:=(k:Int)) (n:=1) (by omega) (by omega) (by omega)) ⟨.inl rfl,.inl rfl,.inl rfl,.inl rfl,.inl rfl,trivial⟩ ⟨rfl,rfl,rfl,trivial⟩ rfl rfl rfl rfl rfl hM0) rfl ?_
  refine xA tb hM0 3 [0,1,2,7,8,9,10] [7,8,1010] rfl ?_
  refine nx ?_;rotate_left
  refine xA tb hM0 5 [0,1,2,7,8,9,10,137,138] [7,8,1010] rfl ?_
  refine oP rfl (pure_sindex rfl Tryz.underlying9 rfl rfl (by omega)) ?_
  refine oP rfl (pure_eql rfl rfl rfl) ?_
  refine xA tb hM0 3 [0,1,2,7,8,9,10,136] [7,8,1010] rfl ?_
  refine spC 136 rfl ?_ ?_<;>intro h8<;>try simp only [dq] at h8
  refine xA tb hM0 4 [0,1,2,7,8,9,10,141,142] [7,8,1010] rfl ?_
  refine oP rfl (pure_lit rfl Tryz.underlying22 el3 rfl rfl rfl rfl hM0) ?_
  refine oP rfl (pure_callN rfl rfl rfl rfl (tone_call [63]) hM0) ?_
  refine xA tb hM0 0 [0,1,2,7,8,9,10,141,144] [7,8,1010] rfl ?_
  refine oS rfl (step_callO [(1000001,7),(1000002,8),(10,1010)] rfl rfl rfl rfl rfl rfl rfl (tput_call (l:=acc) (x:=oneR [63]) (c:=97) (k:=(k:Int)) (n:=1) (by omega) (by omega) (by omega)) ⟨.inl rfl,.inl rfl,.inl rfl,.inl rfl,.inl rfl,trivial⟩ ⟨rfl,rfl,rfl,trivial⟩ rfl rfl rfl rfl rfl hM0) rfl ?_
  refine xA tb hM0 3 [0,1,2,7,8,9,10] [7,8,1010] rfl ?_
  refine nx ?_;rotate_left
  refine xA tb hM0 5 [0,1,2,7,8,9,10,147,148] [7,8,1010] rfl ?_
  refine oP rfl (pure_sindex rfl Tryz.underlying9 rfl rfl (by omega)) ?_
  refine oP rfl (pure_eql rfl rfl rfl) ?_
  refine xA tb hM0 3 [0,1,2,7,8,9,10,146] [7,8,1010] rfl ?_
  refine spC 146 rfl ?_ ?_<;>intro h9<;>try simp only [dq] at h9
  refine xA tb hM0 4 [0,1,2,7,8,9,10,151,152] [7,8,1010] rfl ?_
  refine oP rfl (pure_lit rfl Tryz.underlying22 el3 rfl rfl rfl rfl hM0) ?_
  refine oP rfl (pure_callN rfl rfl rfl rfl (tone_call [62]) hM0) ?_
  refine xA tb hM0 0 [0,1,2,7,8,9,10,151,154] [7,8,1010] rfl ?_
  refine oS rfl (step_callO [(1000001,7),(1000002,8),(10,1010)] rfl rfl rfl rfl rfl rfl rfl (tput_call (l:=acc) (x:=oneR [62]) (c:=97) (k:=(k:Int)) (n:=1) (by omega) (by omega) (by omega)) ⟨.inl rfl,.inl rfl,.inl rfl,.inl rfl,.inl rfl,trivial⟩ ⟨rfl,rfl,rfl,trivial⟩ rfl rfl rfl rfl rfl hM0) rfl ?_
  refine xA tb hM0 3 [0,1,2,7,8,9,10] [7,8,1010] rfl ?_
  refine nx ?_;rotate_left
  refine xA tb hM0 5 [0,1,2,7,8,9,10,157,158] [7,8,1010] rfl ?_
  refine oP rfl (pure_sindex rfl Tryz.underlying9 rfl rfl (by omega)) ?_
  refine oP rfl (pure_call rfl rfl rfl (indexByte_call) hM0) ?_
  refine xA tb hM0 4 [0,1,2,7,8,9,10,156] [7,8,1010] rfl ?_
  refine spC 156 rfl ?_ ?_<;>intro h10<;>try simp only [dq] at h10
  refine xA tb hM0 5 [0,1,2,7,8,9,10,162,163,164] [7,8,1010] rfl ?_
  refine oP rfl (pure_sindex rfl Tryz.underlying9 rfl rfl (by omega)) ?_
  refine oP rfl (pure_norm (pure_build rfl pl25 ze25 rfl rfl rfl) rfl) ?_
  refine xA tb hM0 0 [0,1,2,7,8,9,10,162,165,166] [7,8,1010] rfl ?_
  refine oS rfl (step_callO [(1000001,7),(1000002,8),(10,1010)] rfl rfl rfl rfl rfl rfl rfl (tput_call (l:=acc) (x:=noneRx) (c:=((s.getD k 0).toNat:Int)) (k:=(k:Int)) (n:=1) (by omega) (by omega) (by omega)) ⟨.inl rfl,.inl rfl,.inl rfl,.inl rfl,.inl rfl,trivial⟩ ⟨rfl,rfl,rfl,trivial⟩ rfl rfl rfl rfl rfl hM0) rfl ?_
  refine xA tb hM0 3 [0,1,2,7,8,9,10] [7,8,1010] rfl ?_
  refine nx ?_;rotate_left
  refine xA tb hM0 5 [0,1,2,7,8,9,10,52,53] [7,8,1010] rfl ?_
  refine oP rfl (pure_addi rfl rfl rfl (by omega)) ?_
  refine oP rfl (pure_sslice_l rfl Tryz.underlying9 rfl rfl (by omega)) ?_
  refine xA tb hM0 0 [0,1,2,7,8,9,10,55] [7,8,1010] rfl ?_
  refine oP rfl (pure_call rfl rfl rfl (cut_call (by rw [List.length_drop];omega)) hM0) ?_
  refine xA tb hM0 13 [0,1,2,7,8,9,10,17,19,60] [7,8,17,1010] rfl ?_
  refine oP rfl (pure_fn rfl rfl) ?_
  refine oS rfl (step_callO [(1000001,17)] rfl rfl rfl rfl rfl rfl rfl (idxS_call (l:=sets) (name:=cutB (s.drop (k+1)) 125) (by omega)) ⟨.inl rfl,.inl rfl,trivial⟩ ⟨rfl,trivial⟩ rfl rfl rfl rfl rfl hM0) rfl ?_
  refine xA tb hM0 9 [0,1,2,7,8,9,10,17,19,20,64,65] [7,8,17,1010] rfl ?_
  refine oP rfl (pure_sindex rfl Tryz.underlying9 rfl rfl (by omega)) ?_
  refine oP rfl (pure_neq rfl rfl rfl) ?_
  refine xA tb hM0 1 [0,1,2,7,8,9,10,17,19,20,68] [7,8,17,1010] rfl ?_
  refine spO 68 rfl ?_ ?_<;>intro h11'<;>try simp only [dq] at h11'
  refine xA tb hM0 13 [7,102] [7,8,1010] rfl ?_
  refine oP rfl (pure_norm (pure_build rfl pl25 ze25 rfl rfl rfl) rfl) ?_
  refine oS rfl (step_callO [(1000001,7),(1000002,8),(10,1010)] rfl rfl rfl rfl rfl rfl rfl (tput_call (l:=acc) (x:=noneRx) (c:=0) (k:=(k:Int)) (n:=0) (by omega) (by omega) (by omega)) ⟨.inl rfl,.inl rfl,.inl rfl,.inl rfl,.inl rfl,trivial⟩ ⟨rfl,rfl,rfl,trivial⟩ rfl rfl rfl rfl rfl hM0) rfl ?_
  refine xA tb hM0 14 [] [] rfl ?_
  refine end_ret rfl ?_;rotate_left
  refine xA tb hM0 6 [0,1,2,7,8,9,10,17,20,63] [7,8,17,1010] rfl ?_
  refine spC 63 rfl ?_ ?_<;>intro h12<;>try simp only [dq] at h12
  refine xA tb hM0 7 [7,102] [7,8,1010] rfl ?_
  refine oP rfl (pure_norm (pure_build rfl pl25 ze25 rfl rfl rfl) rfl) ?_
  refine oS rfl (step_callO [(1000001,7),(1000002,8),(10,1010)] rfl rfl rfl rfl rfl rfl rfl (tput_call (l:=acc) (x:=noneRx) (c:=0) (k:=(k:Int)) (n:=0) (by omega) (by omega) (by omega)) ⟨.inl rfl,.inl rfl,.inl rfl,.inl rfl,.inl rfl,trivial⟩ ⟨rfl,rfl,rfl,trivial⟩ rfl rfl rfl rfl rfl hM0) rfl ?_
  refine xA tb hM0 14 [] [] rfl ?_
  refine end_ret rfl ?_;rotate_left
  refine xA tb hM0 4 [0,1,2,7,8,9,10,17,20,73] [7,8,17,1010] rfl ?_
  refine oP rfl (pure_seql rfl rfl rfl) ?_
  refine xA tb hM0 3 [0,1,2,7,8,9,10,17,20,72] [7,8,17,1010] rfl ?_
  refine spC 72 rfl ?_ ?_<;>intro h13<;>try simp only [dq] at h13
  refine xA tb hM0 4 [0,1,2,7,8,9,10,75] [7,8,1010] rfl ?_
  refine oP rfl (pure_norm (pure_build rfl pl25 ze25 rfl rfl rfl) rfl) ?_
  refine oS rfl (step_callO [(1000001,7),(1000002,8),(10,1010)] rfl rfl rfl rfl rfl rfl rfl (tput_call (l:=acc) (x:=noneRx) (c:=97) (k:=(k:Int)) (n:=2) (by omega) (by omega) (by omega)) ⟨.inl rfl,.inl rfl,.inl rfl,.inl rfl,.inl rfl,trivial⟩ ⟨rfl,rfl,rfl,trivial⟩ rfl rfl rfl rfl rfl hM0) rfl ?_
  refine xA tb hM0 7 [0,1,2,7,8,9,10] [7,8,1010] rfl ?_
  refine nx ?_;rotate_left
  refine xA tb hM0 6 [0,1,2,7,8,9,10,17,20,81] [7,8,17,1010] rfl ?_
  refine spO 81 rfl ?_ ?_<;>intro h14'<;>try simp only [dq] at h14'
  refine xA tb hM0 2 [0,1,2,7,8,9,10,17,20,81,82,83] [7,8,17,1010] rfl ?_
  refine oP rfl (pure_ix rfl Tryz.underlying40 sz106 rfl rfl (by omega) (fun _=>rfl)) ?_
  refine xA tb hM0 2 [0,1,2,7,8,9,10,17,20,81,86] [7,8,17,1010] rfl ?_
  refine oP rfl (pure_call rfl rfl rfl (set_call (hsy _ (kid_mem' (by omega)))) hM0) ?_
  refine xA tb hM0 4 [0,1,2,7,8,9,10,17,20,78] [7,8,17,1010] rfl ?_
  refine spC 78 rfl ?_ ?_<;>intro h15<;>try simp only [dq] at h15
  refine xA tb hM0 2 [0,1,2,7,8,9,10,17,20] [7,8,17,1010] rfl ?_
  refine code_draw mixed (by kernel_rfl) _ rfl ?_
  refine dl_pure rfl rfl rfl (pure_move rfl rfl) ?_
  refine dl_pure rfl rfl rfl (pure_move rfl rfl) ?_
  refine dl_pure rfl rfl rfl (pure_move rfl rfl) ?_
  refine dl_pure rfl rfl rfl (pure_move rfl rfl) ?_
  refine dl_pure rfl rfl rfl (pure_ix rfl Tryz.underlying40 sz106 rfl rfl (by omega) (fun _=>rfl)) ?_
  refine dl_pure rfl rfl rfl (pure_field rfl fd106_1 rfl) ?_
  refine dl_pure rfl rfl rfl (pure_load rfl ag22 rfl rfl) ?_
  refine dpk 172 [(0,_),(1,_),(2,_),(7,_),(8,_),(9,_),(10,_),(17,_),(89,_),(90,_),(95,_)] [(7,_),(8,_),(17,_),(1010,_)] rfl rfl rfl ?_
  refine dl_pure rfl rfl rfl (pure_call rfl rfl rfl (clone_call (by have:=setOk_len (s:=(sets.getD (idxF (fun x:SetT=>decide (x.name=cutB (s.drop (k+1)) 125)) sets).toNat default).syms) (by assumption);omega)) hM0) ?_
  refine dl_pure rfl rfl rfl (pure_callN rfl rfl rfl rfl (tone_call (sets.getD (idxF (fun x:SetT=>decide (x.name=cutB (s.drop (k+1)) 125)) sets).toNat default).syms) hM0) ?_
  refine dl_pure rfl rfl rfl (pure_load_box rfl ag9 rfl rfl rfl) ?_
  refine dl_pure rfl rfl rfl (pure_slen rfl Tryz.underlying9 rfl) ?_
  refine dl_pure rfl rfl rfl (pure_addi rfl rfl rfl (by omega)) ?_
  refine dl_tails (by kernel_rfl) ?_
  refine tl_step rfl (step_callO [(1000001,7),(1000002,8),(10,1010)] rfl rfl rfl rfl rfl rfl rfl (tput_call (l:=acc) (x:=oneR (sets.getD (idxF (fun x:SetT=>decide (x.name=cutB (s.drop (k+1)) 125)) sets).toNat default).syms) (c:=97) (k:=(k:Int)) (n:=(((cutB (s.drop (k+1)) 125).length:Nat):Int)+2) (by omega) (by omega) (by omega)) ⟨.inl rfl,.inl rfl,.inl rfl,.inl rfl,.inl rfl,trivial⟩ ⟨rfl,rfl,rfl,trivial⟩ rfl rfl rfl rfl rfl hM0) ?_
  refine tl_nil ?_
  refine xD tb hM0 6 [0,1,2,7,8,9,10] [7,8,1010] rfl ?_
  refine nx ?_;rotate_left
  refine xA tb hM0 7 [7,102] [7,8,1010] rfl ?_
  refine oP rfl (pure_norm (pure_build rfl pl25 ze25 rfl rfl rfl) rfl) ?_
  refine oS rfl (step_callO [(1000001,7),(1000002,8),(10,1010)] rfl rfl rfl rfl rfl rfl rfl (tput_call (l:=acc) (x:=noneRx) (c:=0) (k:=(k:Int)) (n:=0) (by omega) (by omega) (by omega)) ⟨.inl rfl,.inl rfl,.inl rfl,.inl rfl,.inl rfl,trivial⟩ ⟨rfl,rfl,rfl,trivial⟩ rfl rfl rfl rfl rfl hM0) rfl ?_
  refine xA tb hM0 14 [] [] rfl ?_
  refine end_ret rfl ?_;rotate_left
  refine xA tb hM0 17 [7,102] [7,8,1010] rfl ?_
  refine oP rfl (pure_norm (pure_build rfl pl25 ze25 rfl rfl rfl) rfl) ?_
  refine oS rfl (step_callO [(1000001,7),(1000002,8),(10,1010)] rfl rfl rfl rfl rfl rfl rfl (tput_call (l:=acc) (x:=noneRx) (c:=0) (k:=(k:Int)) (n:=0) (by omega) (by omega) (by omega)) ⟨.inl rfl,.inl rfl,.inl rfl,.inl rfl,.inl rfl,trivial⟩ ⟨rfl,rfl,rfl,trivial⟩ rfl rfl rfl rfl rfl hM0) rfl ?_
  refine xA tb hM0 14 [] [] rfl ?_
  refine end_ret rfl ?_;rotate_left
  refine xA tb hM0 9 [7,168] [7,8,1010] rfl ?_
  refine oP rfl (pure_norm (pure_build rfl pl25 ze25 rfl rfl rfl) rfl) ?_
  refine oS rfl (step_callO [(1000001,7),(1000002,8),(10,1010)] rfl rfl rfl rfl rfl rfl rfl (tput_call (l:=acc) (x:=noneRx) (c:=101) (k:=(k:Int)) (n:=0) (by omega) (by omega) (by omega)) ⟨.inl rfl,.inl rfl,.inl rfl,.inl rfl,.inl rfl,trivial⟩ ⟨rfl,rfl,rfl,trivial⟩ rfl rfl rfl rfl rfl hM0) rfl ?_
  refine xA tb hM0 9 [] [] rfl ?_
  refine end_ret rfl ?_;rotate_left
  all_goals first
   | (
     first
       | exact ⟨_,⟨i+1,rfl,by omega,by rw [bestN_yes (by omega) (by assumption)];rfl⟩,by omega⟩
       | exact ⟨_,⟨i+1,rfl,by omega,by rw [bestN_no (fun q=>by omega)];rfl⟩,by omega⟩
       | exact ⟨_,⟨i+1,rfl,by omega,by rw [bestN_no (fun q=>absurd (q.2.symm.trans (by assumption)) (by decide))];rfl⟩,by omega⟩;done)
   | (
     try simp only [e1] at *
     have fin:∀ {c:Int} {x:Rx} {m:Nat},tokAt a sets (s.drop k)=(c,x,m)→c≠0→0<m→_:=fun {c x m} h1 h2 h3=>tk_next (by omega) hk2 hL1_1 hL1_2 h1 h2 h3
     first
       | (obtain ⟨q1,q2,q3,q4⟩:=fin (tokAt_best (by omega)) (by decide) (by omega);exact ⟨_,⟨_,_,_,rfl,⟨q1,q2⟩,q3,q4,rfl⟩,by omega⟩)
       | (obtain ⟨q1,q2,q3,q4⟩:=fin (tokAt_dot (by omega) (by rw [hcd];omega)) (by decide) (by omega);exact ⟨_,⟨_,_,_,rfl,⟨q1,q2⟩,q3,q4,rfl⟩,by omega⟩)
       | (obtain ⟨q1,q2,q3,q4⟩:=fin (tokAt_minus (by omega) (by rw [hcd];omega) (by rw [hcd];omega)) (by decide) (by omega);exact ⟨_,⟨_,_,_,rfl,⟨q1,q2⟩,q3,q4,rfl⟩,by omega⟩)
       | (obtain ⟨q1,q2,q3,q4⟩:=fin (tokAt_hash (by omega) (by rw [hcd];omega) (by rw [hcd];omega) (by rw [hcd];omega)) (by decide) (by omega);exact ⟨_,⟨_,_,_,rfl,⟨q1,q2⟩,q3,q4,rfl⟩,by omega⟩)
       | (obtain ⟨q1,q2,q3,q4⟩:=fin (tokAt_mark (by omega) (by rw [hcd];omega) (by rw [hcd];omega) (by rw [hcd];omega) (by rw [hcd];omega)) (by rw [hcd];exact mark_ne (by omega)) (by omega);rw [hcd] at q3 q4;exact ⟨_,⟨_,_,_,rfl,⟨q1,q2⟩,q3,q4,rfl⟩,by omega⟩)
       | (have h0 := tokAt_rest (sets := sets) (a := a) (t := s.drop k) (by omega) (by rw [hcd]; omega) (by rw [hcd]; omega) (by rw [hcd]; omega) (by rw [hcd]; omega)
          rw [hdd,hnm,hcd,if_neg (by omega),if_pos (by assumption)] at h0
          obtain ⟨q1,q2,q3,q4⟩:=fin h0 (by decide) (by omega);exact ⟨_,⟨_,_,_,rfl,⟨q1,q2⟩,q3,q4,rfl⟩,by omega⟩)
       | (have h0 := tokAt_rest (sets := sets) (a := a) (t := s.drop k) (by omega) (by rw [hcd]; omega) (by rw [hcd]; omega) (by rw [hcd]; omega) (by rw [hcd]; omega)
          rw [hdd,hnm,hcd,if_neg (by omega),if_neg (by assumption),if_pos ⟨by omega,by assumption⟩] at h0
          obtain ⟨q1,q2,q3,q4⟩:=fin h0 (by decide) (by omega);exact ⟨_,⟨_,_,_,rfl,⟨q1,q2⟩,q3,q4,rfl⟩,by omega⟩);done)
   | (
     try simp only [e1] at *
     first
       | (rw [← tk_end (by omega) hL1_1];done)
       | (have h0 := tokAt_rest (sets := sets) (a := a) (t := s.drop k) (by omega) (by rw [hcd]; omega) (by rw [hcd]; omega) (by rw [hcd]; omega) (by rw [hcd]; omega)
          rw [hdd,hnm,hcd] at h0
          have h9:(tokAt a sets (s.drop k)).1=0:=by
            rw [h0]
            first
              | (rw [if_pos (by omega)];done)
              | (rw [if_neg (by omega),if_neg (by assumption),if_neg (fun q=>by omega)];done)
              | (rw [if_neg (by omega),if_neg (by assumption),if_neg (fun q=>absurd (q.2.symm.trans (by assumption)) (by decide))];done)
              | (rw [if_neg (by omega),if_neg (by assumption),if_neg (fun q=>by have q2:=q.2;simp_all)];done)
          rw [← tk_bad (by omega) hk2 hL1_1 h9];done);done)
end Go.Proofs.YtgdehkimfmfofaaGreat

