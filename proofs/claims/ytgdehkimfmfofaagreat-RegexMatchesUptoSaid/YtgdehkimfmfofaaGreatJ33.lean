/-
  Contracts: derivatives of expressions,and whether an expression accepts a word.
-/
import Derived.Test.YtgdehkimfmfofaaGreatJ28
import Derived.Test.YtgdehkimfmfofaaGreatJ29
import Derived.Test.YtgdehkimfmfofaaGreatJ15
set_option linter.unusedVariables false
set_option linter.unusedSectionVars false
set_option linter.unusedSimpArgs false
namespace Go.Proofs.YtgdehkimfmfofaaGreat
open Go.Am Go.Wb
theorem fn51:FnC Tryz.prog 51 Tryz.f51.ntmps 4 25 3 (Tryz.f51.body.getD .skip):=⟨Tryz.f51,Tryz.func51,rfl,rfl,rfl,by kernel_rfl,ag25,sz25⟩
set_option maxRecDepth 100000 in
set_option maxHeartbeats 4000000 in
theorem build_call (t:Bool):∀ (m:Nat) (r:Rx),r.size≤m→m≤137438953472→validR r=true→CallF Tryz.prog 51 [rx r,bool t] (.p (rx (buildR t r))):=by
  refine fun m=>Nat.strongRecOn m fun m ih=>?_
  intro r hm hmm hv
  have hl:=kids_len r
  have hsy:=syms_len r
  have hb:=sizes_build t r.kids
  have hse:=size_eq r
  have hK:∀ x∈r.kids.map (buildR t),Nf x:=fun x hx=>by
    obtain ⟨y,hy,rfl⟩:=List.mem_map.1 hx
    exact build_nf t y (valid_kids hv y hy)
  have h5l:r.kind=5→0<(r.kids.map (buildR t)).length:=fun h=>by rw [List.length_map,(valid_5 hv h).2];decide
  have kb:∀ i,i<r.kids.length→CallF Tryz.prog 51 [rx (r.kids.getD i default),bool t] (.p (rx (buildR t (r.kids.getD i default)))):=fun i hi =>
    ih _ (Nat.lt_of_lt_of_le (kid_lt hi) hm) _ (Nat.le_refl _) (by have:=kid_lt hi;omega) (valid_kids hv _ (kid_mem hi))
  rw [rx_eq r]
  refine callF_of_codeC fn51 (Nat.le_of_ble_eq_true rfl) fun w0 M0 hM0=>?_
  refine xC tb hM0 2 [0,1] [] rfl ?_
  refine oP rfl (pure_box rfl rfl rfl hM0) ?_
  refine xA tb hM0 5 [1,2,4] [4] rfl ?_
  refine oS rfl (step_nil rfl rfl rfl rfl rfl 25 hM0) rfl ?_
  refine xA tb hM0 7 [1,2,4,5,9] [4,5] rfl ?_
  refine oP rfl (pure_lenm rfl Tryz.underlying23 rfl) ?_
  refine xA tb hM0 4 [1,2,4,5,9,10,11] [4,5] rfl ?_
  refine lp (fun zm zs=>∃ i:Nat,zm=r.kids.length-i∧(i≤r.kids.length)∧zs=⟨47,[(1,.v .mx (bool t)),(2,.v .mx (rpc r)),(4,.pbox 4 0),(5,.own 5),(9,.v .mx (rxs r.kids)),(10,.v .pl (int r.kids.length)),(11,.v .pl (int i))],[(4,.box 25 [.v .pl (.sc (.int .i64 0)),.v .pl (.sc (.slice none 0 0)),.v .pl (.sc (.slice none 0 0))]),(5,.arr 25 (((r.kids.take i).map (buildR t)).map rx))]⟩) ?_ ?_
  exact ⟨_,0,rfl,Nat.zero_le _,rfl⟩
  rintro zm zs ⟨i,rfl,hL1_0,rfl⟩
  refine xA tb hM0 6 [1,2,4,5,9,10,11,12] [4,5] rfl ?_
  refine spC 12 rfl ?_ ?_<;>intro h1<;>try simp only [dq] at h1
  refine xA tb hM0 7 [1,2,4,5,9,10,11] [4,5] rfl ?_
  refine oP rfl (pure_ix rfl Tryz.underlying23 sz25 rfl rfl (by omega) (fun _=>rfl)) ?_
  refine xA tb hM0 9 [1,2,4,9,10,11,15,16,17] [4,5] rfl ?_
  refine oP rfl (pure_call rfl rfl rfl (kb _ (by omega)) hM0) ?_
  refine oP rfl (pure_lit rfl Tryz.underlying23 el25 rfl rfl rfl rfl hM0) ?_
  refine xA tb hM0 0 [1,2,4,9,10,11,15,19] [4,5] rfl ?_
  refine oS rfl (step_append rfl rfl rfl rfl Tryz.underlying23 el25 rfl rfl hM0 (src_pl rfl (one_len (by rfl))) (by first|(simp only [ll];omega)|omega) (by first|(simp only [ll];omega)|omega)) rfl ?_
  refine xA tb hM0 5 [1,2,4,5,9,10,11] [4,5] rfl ?_
  refine oP rfl (pure_addi rfl rfl rfl (by omega)) ?_
  refine xA tb hM0 2 [1,2,4,5,9,10,11] [4,5] rfl ?_
  refine nx ?_
  exact ⟨_,⟨i+1,rfl,by omega,by rw [take_succ' (by omega),List.map_append,List.map_append];rfl⟩,by omega⟩
  refine xA tb hM0 8 [1,2,4,5] [4,5] rfl ?_
  rw [show r.kids.take i=r.kids from List.take_of_length_le (by omega)]
  refine xA tb hM0 12 [1,2,4,5,23,24] [4,5] rfl ?_
  refine spC 24 rfl ?_ ?_<;>intro h2<;>try simp only [dq] at h2
  refine xA tb hM0 7 [4,5,26] [4,5] rfl ?_
  refine spC 26 rfl ?_ ?_<;>intro h3<;>try simp only [dq] at h3
  refine xA tb hM0 3 [4,5,27] [4,5] rfl ?_
  refine oS rfl (step_revK (cells:=rxc) revsR rfl rfl rfl rfl rfl rfl sz25 (by decide) (by rw [List.length_map];omega) hM0) rfl ?_
  refine xA tb hM0 3 [4,5] [4,5] rfl ?_
  refine code_frz 47 [(4,_),(5,_)] [(4,_)] hM0 rfl ⟨.inl rfl,.inr ⟨_,_,rfl,rfl,rfl⟩,trivial⟩ ⟨rfl,trivial⟩ ?_
  refine xK tb hM0 2 [4,29] [4] rfl ?_
  refine oP rfl (pure_callN rfl rfl rfl rfl (by first|exact seq_call (l:=(r.kids.map (buildR t)).reverse) (by rw [sizes_rev];omega)|exact seq_call (l:=r.kids.map (buildR t)) (by omega)) hM0) ?_
  refine xA tb hM0 6 [] [] rfl ?_
  refine endC_ret rfl ?_;rotate_left
  refine xA tb hM0 4 [4,5] [4,5] rfl ?_
  refine code_frz 47 [(4,_),(5,_)] [(4,_)] hM0 rfl ⟨.inl rfl,.inr ⟨_,_,rfl,rfl,rfl⟩,trivial⟩ ⟨rfl,trivial⟩ ?_
  refine xK tb hM0 2 [4,29] [4] rfl ?_
  refine oP rfl (pure_callN rfl rfl rfl rfl (by first|exact seq_call (l:=(r.kids.map (buildR t)).reverse) (by rw [sizes_rev];omega)|exact seq_call (l:=r.kids.map (buildR t)) (by omega)) hM0) ?_
  refine xA tb hM0 6 [] [] rfl ?_
  refine endC_ret rfl ?_;rotate_left
  refine xA tb hM0 7 [2,4,5,23,31] [4,5] rfl ?_
  refine spC 31 rfl ?_ ?_<;>intro h4<;>try simp only [dq] at h4
  refine xA tb hM0 2 [4,5] [4,5] rfl ?_
  refine code_frz 47 [(4,_),(5,_)] [(4,_)] hM0 rfl ⟨.inl rfl,.inr ⟨_,_,rfl,rfl,rfl⟩,trivial⟩ ⟨rfl,trivial⟩ ?_
  refine xK tb hM0 2 [4,33] [4] rfl ?_
  refine oP rfl (pure_callN rfl rfl rfl rfl (alt_call (l:=r.kids.map (buildR t)) (by omega)) hM0) ?_
  refine xA tb hM0 6 [] [] rfl ?_
  refine endC_ret rfl ?_;rotate_left
  refine xA tb hM0 7 [2,4,5,35] [4,5] rfl ?_
  refine spC 35 rfl ?_ ?_<;>intro h5<;>try simp only [dq] at h5
  refine xA tb hM0 2 [4,5] [4,5] rfl ?_
  refine code_frz 47 [(4,_),(5,_)] [(4,_)] hM0 rfl ⟨.inl rfl,.inr ⟨_,_,rfl,rfl,rfl⟩,trivial⟩ ⟨rfl,trivial⟩ ?_
  refine xK tb hM0 2 [4,37] [4] rfl ?_
  refine oP rfl (pure_ix rfl Tryz.underlying23 sz25 rfl rfl (by have:=h5l (by omega);omega) (fun _=>rfl)) ?_
  refine xA tb hM0 1 [4,39] [4] rfl ?_
  refine oP rfl (pure_callN rfl rfl rfl rfl (star_call (x:=(r.kids.map (buildR t)).getD 0 default) (fun h4=>by have:=((hK _ (kid_mem (h5l (by omega)))).k4 h4).2.1;omega)) hM0) ?_
  refine xA tb hM0 6 [] [] rfl ?_
  refine endC_ret rfl ?_;rotate_left
  refine xA tb hM0 5 [2,4] [4] rfl ?_
  refine code_draw mixed (by kernel_rfl) _ rfl ?_
  refine dl_pure rfl rfl rfl (pure_field rfl fd25_0 rfl) ?_
  refine dl_pure rfl rfl rfl (pure_load rfl ag3 rfl rfl) ?_
  refine dl_pure rfl rfl rfl (pure_field rfl fd25_1 rfl) ?_
  refine dl_pure rfl rfl rfl (pure_load rfl ag22 rfl rfl) ?_
  refine dl_pure rfl rfl rfl (pure_call rfl rfl rfl (clone_call (by omega)) hM0) ?_
  refine dl_pure rfl rfl rfl (pure_build rfl pl25 ze25 rfl rfl rfl) ?_
  refine dl_tails (by kernel_rfl) ?_
  refine tl_step rfl (step_store_box rfl rfl rfl sz25 rfl rfl rfl rfl (by decide) rfl rfl hM0) ?_
  refine tl_nil ?_
  refine xD tb hM0 2 [] [] rfl ?_
  refine endC_ret rfl ?_;rotate_left
  all_goals
    first
      | (rw [buildR_3y (by omega) (by assumption)];rfl)
      | (rw [buildR_3n (by omega) (by assumption)];rfl)
      | (rw [buildR_4 (by omega)];rfl)
      | (rw [buildR_5 (by omega)];rfl)
      | (rw [buildR_x (by omega) (by omega) (by omega),rx_mk];rfl)
theorem fn19:FnC Tryz.prog 19 Tryz.f19.ntmps 2 25 3 (Tryz.f19.body.getD .skip):=⟨Tryz.f19,Tryz.func19,rfl,rfl,rfl,by kernel_rfl,ag25,sz25⟩
set_option maxRecDepth 100000 in
set_option maxHeartbeats 1000000 in
theorem simple_call {r:Rx} (h:r.size≤137438953472):CallF Tryz.prog 19 [rx r] (.p (rx (if validR r then buildR false r else noneRx))):=by
  refine callF_of_codeC fn19 (Nat.le_of_ble_eq_true rfl) fun w0 M0 hM0=>?_
  refine xC tb hM0 2 [0] [] rfl ?_
  refine oP rfl (pure_box rfl rfl rfl hM0) ?_
  refine xA tb hM0 7 [1,2,3] [2] rfl ?_
  refine oP rfl (pure_call rfl rfl rfl (valid_call _ _ (Nat.le_refl _) (by omega)) hM0) ?_
  refine xA tb hM0 3 [1,2,5] [2] rfl ?_
  refine spC 5 rfl ?_ ?_<;>intro h1<;>try simp only [dq] at h1
  refine xA tb hM0 9 [] [] rfl ?_
  refine endC_ret rfl ?_;rotate_left
  refine xA tb hM0 6 [2,7] [2] rfl ?_
  refine oP rfl (pure_call rfl rfl rfl (build_call _ _ _ (Nat.le_refl _) (by omega) (by simpa using h1)) hM0) ?_
  refine xA tb hM0 4 [] [] rfl ?_
  refine endC_ret rfl ?_;rotate_left
  all_goals
    first|(rw [if_pos (by assumption)];rfl)|(rw [if_neg (by rw [h1];decide)];rfl)
theorem fn21:FnC Tryz.prog 21 Tryz.f21.ntmps 2 25 3 (Tryz.f21.body.getD .skip):=⟨Tryz.f21,Tryz.func21,rfl,rfl,rfl,by kernel_rfl,ag25,sz25⟩
set_option maxRecDepth 100000 in
set_option maxHeartbeats 1000000 in
theorem rev_call {r:Rx} (h:r.size≤137438953472):CallF Tryz.prog 21 [rx r] (.p (rx (if validR r then buildR true r else noneRx))):=by
  refine callF_of_codeC fn21 (Nat.le_of_ble_eq_true rfl) fun w0 M0 hM0=>?_
  refine xC tb hM0 2 [0] [] rfl ?_
  refine oP rfl (pure_box rfl rfl rfl hM0) ?_
  refine xA tb hM0 7 [1,2,3] [2] rfl ?_
  refine oP rfl (pure_call rfl rfl rfl (valid_call _ _ (Nat.le_refl _) (by omega)) hM0) ?_
  refine xA tb hM0 3 [1,2,5] [2] rfl ?_
  refine spC 5 rfl ?_ ?_<;>intro h1<;>try simp only [dq] at h1
  refine xA tb hM0 9 [] [] rfl ?_
  refine endC_ret rfl ?_;rotate_left
  refine xA tb hM0 6 [2,7] [2] rfl ?_
  refine oP rfl (pure_call rfl rfl rfl (build_call _ _ _ (Nat.le_refl _) (by omega) (by simpa using h1)) hM0) ?_
  refine xA tb hM0 4 [] [] rfl ?_
  refine endC_ret rfl ?_;rotate_left
  all_goals
    first|(rw [if_pos (by assumption)];rfl)|(rw [if_neg (by rw [h1];decide)];rfl)
end Go.Proofs.YtgdehkimfmfofaaGreat

namespace Go.Proofs.YtgdehkimfmfofaaGreat
open Go.Am Go.Wb
theorem fn120:Fn1 Tryz.prog 120 Tryz.f120.ntmps 2 (Tryz.f120.body.getD .skip):=⟨Tryz.f120,Tryz.func120,rfl,rfl,rfl,by kernel_rfl⟩
theorem isnanS_call {x:Int}:CallF Tryz.prog 120 [int x] (.p (bool false)):=by
  refine callF_of_code fn120 (Nat.le_of_ble_eq_true rfl) fun w0 M0 hM0=>?_
  refine xC tb hM0 14 [] [] rfl ?_
  refine end_ret rfl ?_
  rw [decide_eq_true rfl];rfl
theorem fn119:Fn1 Tryz.prog 119 Tryz.f119.ntmps 4 (Tryz.f119.body.getD .skip):=⟨Tryz.f119,Tryz.func119,rfl,rfl,rfl,by kernel_rfl⟩
set_option maxRecDepth 100000 in
theorem less_call {x y:Int}:CallF Tryz.prog 119 [int x,int y] (.p (bool (decide (x<y)))):=by
  refine callF_of_code fn119 (Nat.le_of_ble_eq_true rfl) fun w0 M0 hM0=>?_
  refine xC tb hM0 8 [0,1,5] [] rfl ?_
  refine oP rfl (pure_callb (b':=false) rfl rfl rfl (isnan_call) hM0 (rfl)) ?_
  refine xA tb hM0 14 [] [] rfl ?_
  refine end_ret rfl ?_
  rfl
theorem fn84:Fn2 Tryz.prog 84 Tryz.f84.ntmps 4 5 (Tryz.f84.body.getD .skip):=⟨Tryz.f84,Tryz.func84,rfl,rfl,rfl,by kernel_rfl⟩
set_option maxRecDepth 100000 in
set_option maxHeartbeats 2000000 in
theorem bs_call {s:List Int} {a:Int} (hs:Srt leI s) (hl:s.length≤1099511627776):CallF Tryz.prog 84 [ints s,int a] (.p (.tup [int (lbI a s),bool (decide (a∈s))])):=by
  refine callF_of_code2 fn84 (Nat.le_of_ble_eq_true rfl) fun w0 M0 hM0=>?_
  refine xC tb hM0 9 [0,1,10] [] rfl ?_
  refine oP rfl (pure_lenm rfl Tryz.underlying22 rfl) ?_
  refine xA tb hM0 12 [0,1,6,7,8] [] rfl ?_
  refine lp (fun zm zs=>∃ i j:Nat,zm=j-i∧(i≤j)∧(j≤s.length)∧(∀ k,k<i→s.getD k default<a)∧(∀ k,j≤k→k<s.length→a≤s.getD k default)∧zs=⟨54,[(0,.v .mx (ints s)),(1,.v .mx (int a)),(6,.v .pl (int s.length)),(7,.v .pl (int i)),(8,.v .pl (int j))],[]⟩) ?_ ?_
  exact ⟨_,0,s.length,rfl,Nat.zero_le _,Nat.le_refl _,fun k hk=>absurd hk (by omega),fun k hk hk2=>absurd hk (by omega),rfl⟩
  rintro zm zs ⟨i,j,rfl,hL1_0,hL1_1,hL1_2,hL1_3,rfl⟩
  refine xA tb hM0 8 [0,1,6,7,8,15] [] rfl ?_
  refine spC 15 rfl ?_ ?_<;>intro h1<;>try simp only [dq] at h1
  refine xA tb hM0 8 [0,1,6,7,8,16,17] [] rfl ?_
  refine oP rfl (pure_addi rfl rfl rfl (by omega)) ?_
  refine oP rfl (pure_conv rfl Tryz.underlying3 Tryz.underlying129 rfl) ?_
  refine xA tb hM0 0 [0,1,6,7,8,19] [] rfl ?_
  refine oP rfl (pure_shr rfl rfl rfl (by omega)) ?_
  refine oP rfl (pure_toi (a':=((i+j) / 2:Nat)) (pure_conv rfl Tryz.underlying129 Tryz.underlying3 rfl) (mid_eq (by omega))) ?_
  refine xA tb hM0 7 [0,1,6,7,8,9,22,23] [] rfl ?_
  refine oP rfl (pure_ix rfl Tryz.underlying22 sz3 rfl rfl (by omega) (fun _=>rfl)) ?_
  refine xA tb hM0 2 [0,1,6,7,8,9,25,26] [] rfl ?_
  refine oP rfl (pure_call rfl rfl rfl (less_call) hM0) ?_
  refine xA tb hM0 2 [0,1,6,7,8,9,27] [] rfl ?_
  refine spC 27 rfl ?_ ?_<;>intro h2<;>try simp only [dq] at h2
  refine xA tb hM0 3 [0,1,6,8,28] [] rfl ?_
  refine oP rfl (pure_addi rfl rfl rfl (by omega)) ?_
  refine xA tb hM0 3 [0,1,6,7,8] [] rfl ?_
  refine nx ?_
  refine ⟨_,⟨(i+j) / 2+1,j,rfl,by omega,hL1_1,fun k hk=>?_,hL1_3,by rw [show (((i+j) / 2:Nat):Int)+1=(((i+j) / 2+1:Nat):Int) by omega]⟩,by omega⟩
  rcases Nat.lt_or_ge k ((i+j) / 2) with q|q
  · have h5 := pair_getD hs q (by omega)
    have:=of_decide_eq_true h5.1
    omega
  · rw [show k=(i+j) / 2 by omega];assumption
  refine xA tb hM0 6 [0,1,6,7,8] [] rfl ?_
  refine nx ?_
  refine ⟨_,⟨i,(i+j) / 2,rfl,by omega,by omega,hL1_2,fun k hk hk2=>?_,rfl⟩,by omega⟩
  rcases Nat.eq_or_lt_of_le hk with q|q
  · rw [← q];omega
  · have h5 := pair_getD hs q hk2
    have:=of_decide_eq_true h5.1
    omega
  refine xA tb hM0 13 [0,1,7,31,35] [] rfl ?_
  refine spO 35 rfl ?_ ?_<;>intro h3'<;>try simp only [dq] at h3'
  refine xA tb hM0 2 [0,1,7,31,35,36,37] [] rfl ?_
  refine oP rfl (pure_ix rfl Tryz.underlying22 sz3 rfl rfl (by omega) (fun _=>rfl)) ?_
  refine xA tb hM0 4 [0,1,7,31,35,42] [] rfl ?_
  refine spO 42 rfl ?_ ?_<;>intro h4'<;>try simp only [dq] at h4'
  refine xA tb hM0 16 [] [] rfl ?_
  refine end2_ret rfl rfl ?_;rotate_left
  refine xA tb hM0 2 [1,31,35,42,43,44] [] rfl ?_
  refine oP rfl (pure_ix rfl Tryz.underlying22 sz3 rfl rfl (by omega) (fun _=>rfl)) ?_
  refine xA tb hM0 1 [1,31,35,42,46] [] rfl ?_
  refine oP rfl (pure_callb (b':=false) rfl rfl rfl (isnanS_call) hM0 (rfl)) ?_
  refine xA tb hM0 11 [] [] rfl ?_
  refine end2_ret rfl rfl ?_;rotate_left
  refine xA tb hM0 23 [] [] rfl ?_
  refine end2_ret rfl rfl ?_;rotate_left
  all_goals
    have hij:i=j:=by omega
    refine ⟨?_,?_⟩
    · exact congrArg (fun n:Nat=>int n) (lb_is (by omega) hL1_2 fun h=>hL1_3 _ (by omega) h)
    · first
      | (rw [decide_eq_true (p:=a∈s) (lb_yes (i:=i) (by omega) (by assumption))];first|done|rfl|(simp_all;done))
      | (rw [decide_eq_false (p:=a∈s) (lb_no hs hL1_2 (fun h=>hL1_3 _ (by omega) h) (fun h=>by first|assumption|omega))];first|done|rfl|(simp_all;done))
theorem fn55:FnC Tryz.prog 55 Tryz.f55.ntmps 4 25 3 (Tryz.f55.body.getD .skip):=⟨Tryz.f55,Tryz.func55,rfl,rfl,rfl,by kernel_rfl,ag25,sz25⟩
set_option maxRecDepth 100000 in
set_option maxHeartbeats 8000000 in
theorem derive_call (a:Int):∀ (m:Nat) (r:Rx),r.size≤m→m≤549755813888→dSz r≤549755813888→validR r=true→CallN Tryz.prog 55 [rx r,int a] (.p (rx (dR a r))):=by
  refine fun m=>Nat.strongRecOn m fun m ih=>?_
  intro r hm hmm hd hv
  have hl:=kids_len r
  have hsy:=syms_len r
  have hse:=size_eq r
  have hLs:=dL_sizes a r
  have h5l:r.kind=5→0<r.kids.length:=fun h=>by rw [(valid_5 hv h).2];decide
  have hset:r.kind=2→setOk r.syms=true:=fun h=>by rw [validR_2 h,Bool.and_eq_true] at hv;exact hv.2
  have kb:∀ i,i<r.kids.length→dSz (r.kids.getD i default)≤549755813888→CallN Tryz.prog 55 [rx (r.kids.getD i default),int a] (.p (rx (dR a (r.kids.getD i default)))):=fun i hi hd =>
    ih _ (Nat.lt_of_lt_of_le (kid_lt hi) hm) _ (Nat.le_refl _) (by have:=kid_lt hi;omega) hd (valid_kids hv _ (kid_mem hi))
  have e0:r.kind=5→rx ((r.kids.map (dR a)).getD 0 default)=rx (dR a (r.kids.getD 0 default)):=fun h=>by rw [getD_map (h5l h)]
  rw [rx_eq r]
  refine callN_of_codeC fn55 (Nat.le_of_ble_eq_true rfl) fun w0 M0 hM0=>?_
  refine xC tb hM0 2 [0,1] [] rfl ?_
  refine oP rfl (pure_box rfl rfl rfl hM0) ?_
  refine xA tb hM0 5 [1,2,4] [4] rfl ?_
  refine oS rfl (step_nil rfl rfl rfl rfl rfl 25 hM0) rfl ?_
  refine xA tb hM0 2 [1,2,4,5] [4,5] rfl ?_
  refine ct (fun zs=>(r.kind≠5∧(r.kind=2→¬ a∈r.syms))∧zs=⟨82,[(4,.pbox 4 0),(5,.own 5)],[(4,.box 25 [.v .pl (.sc (.int .i64 0)),.v .pl (.sc (.slice none 0 0)),.v .pl (.sc (.slice none 0 0))]),(5,.arr 25 ((dL a r).map rx))]⟩) ?_ ?_
  refine xA tb hM0 13 [1,2,4,5,13,14] [4,5] rfl ?_
  refine spC 14 rfl ?_ ?_<;>intro h1<;>try simp only [dq] at h1
  refine xA tb hM0 6 [4,5,18,19] [4,5] rfl ?_
  refine oP rfl (pure_call rfl rfl rfl (bs_call (setOk_iff.1 (hset (by omega))).2.1 (by omega)) hM0) ?_
  refine xA tb hM0 12 [4,5,23] [4,5] rfl ?_
  refine spC 23 rfl ?_ ?_<;>intro h2<;>try simp only [dq] at h2
  refine xA tb hM0 10 [] [] rfl ?_
  refine endC_ret rfl ?_;rotate_left
  refine xA tb hM0 3 [4,5] [4,5] rfl ?_
  refine cx ?_;rotate_left
  refine xA tb hM0 7 [1,2,4,5,13,25] [4,5] rfl ?_
  refine spC 25 rfl ?_ ?_<;>intro h3<;>try simp only [dq] at h3
  refine xA tb hM0 5 [1,4,5,28] [4,5] rfl ?_
  refine oP rfl (pure_lenm rfl Tryz.underlying23 rfl) ?_
  refine xA tb hM0 4 [1,4,5,28,29,30] [4,5] rfl ?_
  refine lp (fun zm zs=>∃ i:Nat,zm=r.kids.length-i∧(i≤r.kids.length)∧zs=⟨82,[(1,.v .pl (int a)),(4,.pbox 4 0),(5,.own 5),(28,.v .pl (rxs r.kids)),(29,.v .pl (int r.kids.length)),(30,.v .pl (int i))],[(4,.box 25 [.v .pl (.sc (.int .i64 0)),.v .pl (.sc (.slice none 0 0)),.v .pl (.sc (.slice none 0 0))]),(5,.arr 25 (((r.kids.take i).map (dR a)).map rx))]⟩) ?_ ?_
  exact ⟨_,0,rfl,Nat.zero_le _,rfl⟩
  rintro zm zs ⟨i,rfl,hL1_0,rfl⟩
  refine xA tb hM0 6 [1,4,5,28,29,30,31] [4,5] rfl ?_
  refine spC 31 rfl ?_ ?_<;>intro h4<;>try simp only [dq] at h4
  refine xA tb hM0 7 [1,4,5,28,29,30] [4,5] rfl ?_
  refine oP rfl (pure_ix rfl Tryz.underlying23 sz25 rfl rfl (by omega) (fun _=>rfl)) ?_
  refine xA tb hM0 9 [1,4,28,29,30,34,35,36] [4,5] rfl ?_
  refine oP rfl (pure_callN rfl rfl rfl rfl (kb _ (by omega) (by have:=dSz_4 (r:=r) (i:=i) (by omega) (by omega);omega)) hM0) ?_
  refine oP rfl (pure_lit rfl Tryz.underlying23 el25 rfl rfl rfl rfl hM0) ?_
  refine xA tb hM0 0 [1,4,28,29,30,34,38] [4,5] rfl ?_
  refine oS rfl (step_append rfl rfl rfl rfl Tryz.underlying23 el25 rfl rfl hM0 (src_pl rfl (one_len (by rfl))) (by first|(simp only [ll];omega)|omega) (by first|(simp only [ll];omega)|omega)) rfl ?_
  refine xA tb hM0 5 [1,4,5,28,29,30] [4,5] rfl ?_
  refine oP rfl (pure_addi rfl rfl rfl (by omega)) ?_
  refine xA tb hM0 2 [1,4,5,28,29,30] [4,5] rfl ?_
  refine nx ?_
  exact ⟨_,⟨i+1,rfl,by omega,by rw [take_succ' (by omega),List.map_append,List.map_append];rfl⟩,by omega⟩
  refine xA tb hM0 6 [4,5] [4,5] rfl ?_
  refine cx ?_;rotate_left
  refine xA tb hM0 7 [1,2,4,5,13,41] [4,5] rfl ?_
  refine spC 41 rfl ?_ ?_<;>intro h5<;>try simp only [dq] at h5
  refine xA tb hM0 5 [1,2,4,5,44] [4,5] rfl ?_
  refine oP rfl (pure_lenm rfl Tryz.underlying23 rfl) ?_
  refine xA tb hM0 4 [1,2,4,5,44,45,46] [4,5] rfl ?_
  refine lp (fun zm zs=>∃ i:Nat,zm=r.kids.length-i∧(i≤r.kids.length)∧(∀ j,j<i→accR (r.kids.getD j default)=true)∧zs=⟨82,[(1,.v .pl (int a)),(2,.v .pl (rpc r)),(4,.pbox 4 0),(5,.own 5),(44,.v .pl (rxs r.kids)),(45,.v .pl (int r.kids.length)),(46,.v .pl (int i))],[(4,.box 25 [.v .pl (.sc (.int .i64 0)),.v .pl (.sc (.slice none 0 0)),.v .pl (.sc (.slice none 0 0))]),(5,.arr 25 (((List.range i).map (dQ a r.kids)).map rx))]⟩) ?_ ?_
  exact ⟨_,0,rfl,Nat.zero_le _,fun j hj=>absurd hj (by omega),rfl⟩
  rintro zm zs ⟨i,rfl,hL2_0,hL2_1,rfl⟩
  have hd3:=fun h=>dSz_3 (r:=r) (i:=i) (by omega) h hL2_1
  have hks:=fun h:i<r.kids.length=>size_kid (kid_mem h)
  have htd:=sizes_take_le r.kids.reverse i
  have hsd:=sizes_sublist (List.drop_sublist (i+1) r.kids)
  have hz1:=size_seqN (r.kids.drop (i+1))
  have hz2:=dSz_spec a (r.kids.getD i default)
  refine xA tb hM0 6 [1,2,4,5,44,45,46,47] [4,5] rfl ?_
  refine spC 47 rfl ?_ ?_<;>intro h6<;>try simp only [dq] at h6
  refine xA tb hM0 8 [1,2,4,5,44,45,46,48] [4,5] rfl ?_
  refine oP rfl (pure_ix rfl Tryz.underlying23 sz25 rfl rfl (by omega) (fun _=>rfl)) ?_
  refine xA tb hM0 7 [1,2,4,5,10,11,44,45,46] [4,5,11] rfl ?_
  refine code_draw mixed (by kernel_rfl) _ rfl ?_
  refine dl_pure rfl rfl rfl (pure_move rfl rfl) ?_
  refine dl_pure rfl rfl rfl (pure_load_box_agg rfl ag25 sz25 rfl rfl rfl rfl) ?_
  refine dl_pure rfl rfl rfl (pure_move rfl rfl) ?_
  refine dl_pure rfl rfl rfl (pure_callN rfl rfl rfl rfl (kb _ (by omega) (by have:=hd3 (by omega);omega)) hM0) ?_
  refine dl_pure rfl rfl rfl (pure_field rfl fd25_2 rfl) ?_
  refine dl_pure rfl rfl rfl (pure_load rfl ag23 rfl rfl) ?_
  refine dl_pure rfl rfl rfl (pure_move rfl rfl) ?_
  refine dpk 82 [(1,_),(2,_),(4,_),(11,_),(44,_),(45,_),(46,_),(51,_),(54,_),(56,_),(57,_)] [(4,_),(5,_),(11,_)] rfl rfl rfl ?_
  refine dl_pure rfl rfl rfl (pure_addi rfl rfl rfl (by omega)) ?_
  refine dl_pure rfl rfl rfl (pure_slice_lm rfl Tryz.underlying23 sz25 rfl rfl (by first|(simp only [ll];omega)|omega) (fun _=>rfl)) ?_
  refine dl_pure rfl rfl rfl (pure_callN rfl rfl rfl rfl (seq_call (l:=r.kids.drop (i+1)) (by omega)) hM0) ?_
  refine dl_pure rfl rfl rfl (pure_lit rfl Tryz.underlying23 el25 rfl rfl rfl rfl hM0) ?_
  refine dl_pure rfl rfl rfl (pure_callN rfl rfl rfl rfl (seq_call (l:=[dR a (r.kids.getD i default),seqN (r.kids.drop (i+1))]) (by have:=hd3 (by omega);simp only [Rx.sizes];omega)) hM0) ?_
  refine dl_pure rfl rfl rfl (pure_lit rfl Tryz.underlying23 el25 rfl rfl rfl rfl hM0) ?_
  refine dl_tails (by kernel_rfl) ?_
  refine tl_step rfl (step_append rfl rfl rfl rfl Tryz.underlying23 el25 rfl rfl hM0 (src_pl rfl (one_len (by rfl))) (by first|(simp only [ll];omega)|omega) (by first|(simp only [ll];omega)|omega)) ?_
  refine tl_pure rfl rfl rfl (pure_assign rfl rfl) ?_
  refine tl_nil ?_
  refine xD tb hM0 4 [1,2,4,5,44,45,46,65] [4,5] rfl ?_
  refine oP rfl (pure_call rfl rfl rfl (empty_call _ _ (Nat.le_refl _) (by have:=hks (by omega);omega)) hM0) ?_
  refine xA tb hM0 3 [1,2,4,5,44,45,46,67] [4,5] rfl ?_
  refine spC 67 rfl ?_ ?_<;>intro h7<;>try simp only [dq] at h7
  refine xA tb hM0 7 [4,5] [4,5] rfl ?_
  refine cx ?_;rotate_left
  refine xA tb hM0 5 [1,2,4,5,44,45,46] [4,5] rfl ?_
  refine oP rfl (pure_addi rfl rfl rfl (by omega)) ?_
  refine xA tb hM0 2 [1,2,4,5,44,45,46] [4,5] rfl ?_
  refine nx ?_
  exact ⟨_,⟨i+1,rfl,by omega,all_step hL2_1 (by first|assumption|simpa using h5|(simp_all;done)),by rw [List.range_succ,List.map_append,List.map_append];rfl⟩,by omega⟩
  refine xA tb hM0 6 [4,5] [4,5] rfl ?_
  refine cx ?_;rotate_left
  refine xA tb hM0 7 [1,2,4,5,69] [4,5] rfl ?_
  refine spC 69 rfl ?_ ?_<;>intro h8<;>try simp only [dq] at h8
  refine xA tb hM0 2 [1,2,4] [4] rfl ?_
  refine code_draw mixed (by kernel_rfl) _ rfl ?_
  refine dl_pure rfl rfl rfl (pure_field rfl fd25_2 rfl) ?_
  refine dl_pure rfl rfl rfl (pure_load rfl ag23 rfl rfl) ?_
  refine dl_pure rfl rfl rfl (pure_ix rfl Tryz.underlying23 sz25 rfl rfl (by omega) (fun _=>rfl)) ?_
  refine dl_pure rfl rfl rfl (pure_load_agg rfl ag25 sz25 rfl (Nat.le_of_ble_eq_true rfl)) ?_
  refine dl_pure rfl rfl rfl (pure_move rfl rfl) ?_
  refine dl_pure rfl rfl rfl (pure_callN rfl rfl rfl rfl (kb 0 (by omega) (by have:=dSz_5 (r:=r) (by omega) (by omega);omega)) hM0) ?_
  refine dl_pure rfl rfl rfl (pure_load_agg rfl ag25 sz25 rfl (Nat.le_of_ble_eq_true rfl)) ?_
  refine dl_pure rfl rfl rfl (pure_lit rfl Tryz.underlying23 el25 rfl rfl rfl rfl hM0) ?_
  refine dl_pure rfl rfl rfl (pure_callN rfl rfl rfl rfl (by have h:=seq_call (l:=[dR a (r.kids.getD 0 default),r]) (by have:=dSz_5 (r:=r) (by omega) (by omega);have:=dSz_spec a (r.kids.getD 0 default);simp only [Rx.sizes];omega);rw [show rxs [dR a (r.kids.getD 0 default),r]=.sl [rx (dR a (r.kids.getD 0 default)),rx r] from rfl,rx_eq r] at h;exact h) hM0) ?_
  refine dl_tails (by kernel_rfl) ?_
  refine tl_step rfl (step_store_box rfl rfl rfl sz25 rfl rfl rfl rfl (by decide) rfl rfl hM0) ?_
  refine tl_nil ?_
  refine xD tb hM0 4 [] [] rfl ?_
  refine endC_ret rfl ?_;rotate_left
  refine xA tb hM0 3 [4,5] [4,5] rfl ?_
  refine cx ?_;rotate_left
  rintro zs ⟨hC22_0,rfl⟩
  refine xA tb hM0 1 [4,5] [4,5] rfl ?_
  refine code_frz 82 [(4,_),(5,_)] [(4,_)] hM0 rfl ⟨.inl rfl,.inr ⟨_,_,rfl,rfl,rfl⟩,trivial⟩ ⟨rfl,trivial⟩ ?_
  refine xK tb hM0 2 [4,80] [4] rfl ?_
  refine oP rfl (pure_callN rfl rfl rfl rfl (alt_call (l:=dL a r) (by omega)) hM0) ?_
  refine xA tb hM0 4 [] [] rfl ?_
  refine endC_ret rfl ?_;rotate_left
  all_goals first
   | (
     first|(rw [dR_2 (by omega) (by assumption)];rfl)|(rw [dR_5k (by omega) (h5l (by omega))];rfl)|(rw [dR_x hC22_0.1 hC22_0.2];rfl);done)
   | (
     refine ⟨⟨by omega,fun h=>by first|assumption|omega⟩,?_⟩
     first
       | (rw [dL_x (by omega) (by omega)];rfl)
       | (rw [dL_4 (by omega),List.take_of_length_le (by omega)];first|done|rfl)
       | (rw [dL_3 (by omega),dRq_end (i:=i) (by omega) hL2_1];done)
       | (rw [dL_3 (by omega),dRq_stop (i:=i) (by omega) hL2_1 (by assumption),List.range_succ,List.map_append,List.map_append];rfl);done)
end Go.Proofs.YtgdehkimfmfofaaGreat

namespace Go.Proofs.YtgdehkimfmfofaaGreat
open Go.Am Go.Wb
theorem simS_call {r:Rx} (h:r.size≤137438953472):CallF Tryz.prog 19 [rx r] (.p (rx (simR r))):=simple_call h
theorem revS_call {r:Rx} (h:r.size≤137438953472):CallF Tryz.prog 21 [rx r] (.p (rx (revR r))):=rev_call h
theorem fn24:FnC Tryz.prog 24 Tryz.f24.ntmps 4 25 3 (Tryz.f24.body.getD .skip):=⟨Tryz.f24,Tryz.func24,rfl,rfl,rfl,by kernel_rfl,ag25,sz25⟩
set_option maxRecDepth 100000 in
set_option maxHeartbeats 1000000 in
theorem Derive_call {r:Rx} {a:Int} (h:r.size≤137438953472) (hd:dSz (simR r)≤549755813888):CallN Tryz.prog 24 [rx r,int a] (.p (rx (dR a (simR r)))):=by
  refine callN_of_codeC fn24 (Nat.le_of_ble_eq_true rfl) fun w0 M0 hM0=>?_
  refine xC tb hM0 2 [0,1] [] rfl ?_
  refine oP rfl (pure_box rfl rfl rfl hM0) ?_
  refine xA tb hM0 6 [1,4,5] [4] rfl ?_
  refine oP rfl (pure_call rfl rfl rfl (simS_call (by omega)) hM0) ?_
  refine xA tb hM0 1 [4,6,7] [4] rfl ?_
  refine oP rfl (pure_callN rfl rfl rfl rfl (derive_call _ _ _ (Nat.le_refl _) (by have:=size_simR r;omega) (by omega) (nf_valid (simR_nf r))) hM0) ?_
  refine xA tb hM0 4 [] [] rfl ?_
  refine endC_ret rfl ?_
  rfl
theorem fn28:Fn1 Tryz.prog 28 Tryz.f28.ntmps 4 (Tryz.f28.body.getD .skip):=⟨Tryz.f28,Tryz.func28,rfl,rfl,rfl,by kernel_rfl⟩
set_option maxRecDepth 100000 in
set_option maxHeartbeats 1000000 in
theorem match_call {r:Rx} {w:List Int} (h:r.size≤137438953472) (hw:w.length≤1099511627776) (hM:∀ k,k≤w.length→(mtR r w k).size≤549755813888∧dSz (mtR r w k)≤549755813888) :
    CallF Tryz.prog 28 [rx r,ints w] (.p (bool (matchR r w))):=by
  refine callF_of_code fn28 (Nat.le_of_ble_eq_true rfl) fun w0 M0 hM0=>?_
  refine xC tb hM0 2 [0,1] [] rfl ?_
  refine oS rfl (step_box rfl rfl rfl rfl rfl rfl rfl (by decide) hM0) rfl ?_
  refine xA tb hM0 6 [1,2,7] [2] rfl ?_
  refine oP rfl (pure_call rfl rfl rfl (simS_call (by omega)) hM0) ?_
  refine xA tb hM0 7 [2,9] [2] rfl ?_
  refine oP rfl (pure_lenm rfl Tryz.underlying22 rfl) ?_
  refine xA tb hM0 4 [2,9,10,11] [2] rfl ?_
  refine lp (fun zm zs=>∃ k:Nat,zm=w.length-k∧(k≤w.length)∧zs=⟨21,[(2,.pbox 2 0),(9,.v .mx (ints w)),(10,.v .pl (int w.length)),(11,.v .pl (int k))],[(2,.box 25 [.v .pl (int (mtR r w k).kind),.v .pl (ints (mtR r w k).syms),.v .pl (.sl (Rx.avs (mtR r w k).kids))])]⟩) ?_ ?_
  exact ⟨_,0,rfl,Nat.zero_le _,rfl⟩
  rintro zm zs ⟨k,rfl,hL1_0,rfl⟩
  refine xA tb hM0 6 [2,9,10,11,12] [2] rfl ?_
  refine spC 12 rfl ?_ ?_<;>intro h1<;>try simp only [dq] at h1
  refine xA tb hM0 7 [2,9,10,11] [2] rfl ?_
  refine oP rfl (pure_ix rfl Tryz.underlying22 sz3 rfl rfl (by omega) (fun _=>rfl)) ?_
  refine xA tb hM0 7 [2,9,10,11,15,16] [2] rfl ?_
  refine oP rfl (pure_callN rfl rfl rfl rfl (derive_call _ _ _ (Nat.le_refl _) (hM k (by omega)).1 (hM k (by omega)).2 (nf_valid (mtR_nf r w k))) hM0) ?_
  refine xA tb hM0 5 [2,9,10,11] [2] rfl ?_
  refine oP rfl (pure_addi rfl rfl rfl (by omega)) ?_
  refine xA tb hM0 2 [2,9,10,11] [2] rfl ?_
  refine nx ?_
  exact ⟨_,⟨k+1,rfl,by omega,by rw [mtR_succ (by omega)];rfl⟩,by omega⟩
  refine xA tb hM0 9 [19] [] rfl ?_
  refine oP rfl (pure_call rfl rfl rfl (empty_call _ _ (Nat.le_refl _) (by have:=(hM k (by omega)).1;omega)) hM0) ?_
  refine xA tb hM0 4 [] [] rfl ?_
  refine end_ret rfl ?_
  rw [show k=w.length by omega];rfl
end Go.Proofs.YtgdehkimfmfofaaGreat

