/-
  Contracts: classes of states,as the program and as the reference makes them.
-/
import Derived.Test.YtjimlkpfmbachaaGreatJ24
set_option linter.unusedVariables false
set_option linter.unusedSectionVars false
set_option linter.unusedSimpArgs false
namespace Go.Proofs.YtjimlkpfmbachaaGreat
open Go.Am Go.Wc Go.Wb Go.Wd
theorem fn75:Fn1 Tryz.prog 75 Tryz.f75.ntmps 2 (Tryz.f75.body.getD .skip):=⟨Tryz.f75,Tryz.func75,rfl,rfl,rfl,by kernel_rfl⟩
set_option maxRecDepth 100000 in
set_option maxHeartbeats 8000000 in
theorem classes_call {d:Dfa} (hd:okD d):CallF Tryz.prog 75 [dfa d] (.p (nats (clsF d))):=by
  have hn:d.n=d.next.length:=rfl
  have hb:=hd.1
  have hkk:=kk hd
  refine callF_of_code fn75 (Nat.le_of_ble_eq_true rfl) fun w0 M0 hM0=>?_
  refine xC tb hM0 2 [0] [] rfl ?_
  refine oP rfl (pure_box rfl rfl rfl hM0) ?_
  refine xA tb hM0 7 [1,15] [] rfl ?_
  refine oP rfl (pure_lenm rfl Tryz.underlying28 rfl) ?_
  refine oS rfl (step_make rfl rfl rfl rfl Tryz.underlying22 el3 ze3 rfl rfl rfl (by omega) (by omega) (by omega) hM0) rfl ?_
  refine xA tb hM0 4 [1,3] [17] rfl ?_
  refine code_frz 84 [(1,_),(3,_)] [] hM0 rfl ⟨.inl rfl,.inr ⟨_,_,rfl,rfl,rfl⟩,trivial⟩ trivial ?_
  refine xK tb hM0 5 [1,3,4] [] rfl ?_
  refine lp (fun zm zs=>∃ (f c:Nat) (cl:List Nat),zm=f∧(clsF d=clsIt d f c cl)∧(d.n<f+c)∧(c≤d.n)∧(Cls d c cl)∧(∀ x∈cl,x<2048)∧zs=⟨84,[(1,.v .mx (dpc d)),(3,.v .pl (nats cl)),(4,.v .pl (int c))],[]⟩) ?_ ?_
  refine ⟨_,d.n+1,0,List.replicate d.n 0,rfl,rfl,by omega,Nat.zero_le _,cls_start hd,fun x hx=>by rw [(List.mem_replicate.1 hx).2];decide,?_⟩
  rw [nats,← rep_map];first|done|rfl
  rintro zm zs ⟨f,c,cl,rfl,hL1_0,hL1_1,hL1_2,hL1_3,hL1_4,rfl⟩
  have hcl:=hL1_3.len
  have hle:=hL1_3.le
  refine xA tb hM0 3 [1,3,4] [] rfl ?_
  refine oS rfl (step_map rfl rfl rfl rfl rfl Tryz.underlying97 (fun q hq=>by cases hq<;>exact ⟨_,_,rfl⟩) hM0) rfl ?_
  refine xA tb hM0 6 [1,3,4,5,19] [18] rfl ?_
  refine oP rfl (pure_lenm rfl Tryz.underlying22 rfl) ?_
  refine oS rfl (step_make rfl rfl rfl rfl Tryz.underlying22 el3 ze3 rfl rfl rfl (by first|(simp only [ll];omega)|omega) (by first|(simp only [ll];omega)|omega) (by first|(simp only [ll];omega)|omega) hM0) rfl ?_
  refine xA tb hM0 8 [1,3,4,5,6,23] [18,21] rfl ?_
  refine oP rfl (pure_lenm rfl Tryz.underlying28 rfl) ?_
  refine xA tb hM0 4 [1,3,4,5,6,23,24,25] [18,21] rfl ?_
  refine lp (fun zm zs=>∃ i:Nat,zm=d.next.length-i∧(i≤d.next.length)∧zs=⟨84,[(1,.v .mx (dpc d)),(3,.v .pl (nats cl)),(4,.v .pl (int c)),(5,.omap 18),(6,.own 21),(23,.v .mx (rowsA d.next)),(24,.v .pl (int d.next.length)),(25,.v .pl (int i))],[(18,.mp (ksC (fs d cl i)) (vsC (fs d cl i).length)),(21,.arr 3 ((nx d cl i).map natI))]⟩) ?_ ?_
  refine ⟨_,0,rfl,Nat.zero_le _,?_⟩
  rw [nx_zero,← rep_map,← hcl];first|done|rfl
  rintro zm zs ⟨i,rfl,hL2_0,rfl⟩
  refine xA tb hM0 6 [1,3,4,5,6,23,24,25,26] [18,21] rfl ?_
  refine spC 26 rfl ?_ ?_<;>intro h1<;>try simp only [dq] at h1
  refine xA tb hM0 8 [1,3,4,5,6,23,24,25,27] [18,21] rfl ?_
  refine oP rfl (pure_ix rfl Tryz.underlying28 sz22 rfl rfl (by omega) (fun _=>rfl)) ?_
  refine xA tb hM0 9 [1,3,4,5,6,7,8,23,24,25,30,31] [18,21] rfl ?_
  refine oP rfl (pure_ix rfl Tryz.underlying22 sz3 rfl rfl (by omega) (fun _=>rfl)) ?_
  refine xA tb hM0 1 [1,3,4,5,6,7,8,23,24,25,33] [18,21] rfl ?_
  refine oS rfl (step_call_ownX rfl rfl rfl rfl rfl rfl (keyN_call) hM0) rfl ?_
  refine xA tb hM0 3 [1,3,4,5,6,7,8,9,23,24,25] [18,21,34] rfl ?_
  refine ct (fun zs=>zs=⟨84,[(1,.v .mx (dpc d)),(3,.v .pl (nats cl)),(4,.v .pl (int c)),(5,.omap 18),(6,.own 21),(7,.v .pl (int i)),(8,.v .mx (ints (d.next.getD i default))),(9,.own 34),(23,.v .mx (rowsA d.next)),(24,.v .pl (int d.next.length)),(25,.v .pl (int i))],[(18,.mp (ksC (fs d cl i)) (vsC (fs d cl i).length)),(21,.arr 3 ((nx d cl i).map natI)),(34,.arr 5 ((bK d cl i 0).map byteI))]⟩) ?_ ?_
  refine xA tb hM0 5 [1,3,4,5,6,7,8,9,23,24,25,36,37] [18,21,34] rfl ?_
  refine oP rfl (pure_ix rfl Tryz.underlying29 sz4 rfl rfl (by omega) (fun _=>rfl)) ?_
  refine xA tb hM0 3 [1,3,4,5,6,7,8,9,23,24,25,39] [18,21,34] rfl ?_
  refine spC 39 rfl ?_ ?_<;>intro h2<;>try simp only [dq] at h2
  refine xA tb hM0 3 [1,3,4,5,6,7,8,23,24,25,40] [18,21,34] rfl ?_
  refine oP rfl (pure_lit rfl Tryz.underlying60 el5 rfl rfl rfl rfl hM0) ?_
  refine oS rfl (step_append rfl rfl rfl rfl Tryz.underlying60 el5 rfl rfl hM0 (src_pl rfl (one_len (by rfl))) (by simp only [List.length_map,kbI_len,List.length_cons,List.length_nil];omega) (by simp only [List.length_map,kbI_len,List.length_cons,List.length_nil];omega)) rfl ?_
  refine xA tb hM0 2 [1,3,4,5,6,7,8,9,23,24,25] [18,21,34] rfl ?_
  refine cx ?_
  rw [bK_t (by assumption),List.map_append];rfl
  refine xA tb hM0 2 [1,3,4,5,6,7,8,9,23,24,25] [18,21,34] rfl ?_
  refine cx ?_
  rw [bK_f (by assumption)];rfl
  rintro zs ⟨rfl⟩
  have hrow:=hd.row (i:=i) (by omega)
  have hrow1:=hrow.1
  refine xA tb hM0 4 [1,3,4,5,6,7,9,23,24,25,43] [18,21,34] rfl ?_
  refine oP rfl (pure_lenm rfl Tryz.underlying22 rfl) ?_
  refine xA tb hM0 4 [1,3,4,5,6,7,9,23,24,25,43,44,45] [18,21,34] rfl ?_
  refine lp (fun zm zs=>∃ j:Nat,zm=(d.next.getD i default).length-j∧(j≤(d.next.getD i default).length)∧zs=⟨84,[(1,.v .mx (dpc d)),(3,.v .pl (nats cl)),(4,.v .pl (int c)),(5,.omap 18),(6,.own 21),(7,.v .pl (int i)),(9,.own 34),(23,.v .mx (rowsA d.next)),(24,.v .pl (int d.next.length)),(25,.v .pl (int i)),(43,.v .mx (ints (d.next.getD i default))),(44,.v .pl (int (d.next.getD i default).length)),(45,.v .pl (int j))],[(18,.mp (ksC (fs d cl i)) (vsC (fs d cl i).length)),(21,.arr 3 ((nx d cl i).map natI)),(34,.arr 5 ((bK d cl i j).map byteI))]⟩) ?_ ?_
  exact ⟨_,0,rfl,Nat.zero_le _,rfl⟩
  rintro zm zs ⟨j,rfl,hL3_0,rfl⟩
  refine xA tb hM0 6 [1,3,4,5,6,7,9,23,24,25,43,44,45,46] [18,21,34] rfl ?_
  refine spC 46 rfl ?_ ?_<;>intro h3<;>try simp only [dq] at h3
  refine xA tb hM0 7 [1,3,4,5,6,7,9,23,24,25,43,44,45] [18,21,34] rfl ?_
  refine oP rfl (pure_ix rfl Tryz.underlying22 sz3 rfl rfl (by omega) (fun _=>rfl)) ?_
  refine xA tb hM0 8 [1,3,4,5,6,7,23,24,25,43,44,45,49,50,51] [18,21,34] rfl ?_
  refine oP rfl (pure_ix rfl Tryz.underlying22 sz3 rfl rfl (by have:=hd.cell (i:=i) (k:=j) (by omega) (by omega);omega) (fun _=>rfl)) ?_
  refine xA tb hM0 1 [1,3,4,5,6,7,23,24,25,43,44,45,49,53] [18,21,34] rfl ?_
  refine oS rfl (step_callO [(0,34)] rfl rfl rfl rfl rfl rfl rfl (keyO_call (by have:=bK_len (d:=d) cl i j;omega)) ⟨.inl rfl,.inl rfl,trivial⟩ ⟨rfl,trivial⟩ rfl rfl rfl rfl rfl hM0) rfl ?_
  refine xA tb hM0 5 [1,3,4,5,6,7,9,23,24,25,43,44,45] [18,21,34] rfl ?_
  refine oP rfl (pure_addi rfl rfl rfl (by omega)) ?_
  refine xA tb hM0 2 [1,3,4,5,6,7,9,23,24,25,43,44,45] [18,21,34] rfl ?_
  refine nx ?_
  refine ⟨_,⟨j+1,rfl,by omega,?_⟩,by omega⟩
  rw [bK_succ];rfl
  refine xA tb hM0 7 [1,3,4,5,6,7,9,23,24,25] [18,21,34] rfl ?_
  have hrow2:=hrow.1
  obtain rfl:j=d.k:=by omega
  refine xA tb hM0 3 [1,3,4,5,6,7,9,23,24,25,57,58] [18,21,34] rfl ?_
  refine oP rfl (pure_btosm rfl Tryz.underlying60 Tryz.underlying5 Tryz.underlying9 rfl) ?_
  refine oP rfl (pure_tupl (pure_mlook2 rfl Tryz.underlying97 Tryz.underlying9 zv3 rfl rfl rfl trivial (fun q hq=>by obtain ⟨_,_,rfl⟩:=List.mem_map.1 hq;trivial) (look_c (fun x hx=>Nat.lt_of_lt_of_le (hL1_4 x hx) (by decide))) (has_c (fun x hx=>Nat.lt_of_lt_of_le (hL1_4 x hx) (by decide))))) ?_
  refine xA tb hM0 7 [1,3,4,5,6,7,9,12,13,23,24,25] [18,21,34] rfl ?_
  refine ct (fun zs=>zs=⟨84,[(1,.v .mx (dpc d)),(3,.v .pl (nats cl)),(4,.v .pl (int c)),(5,.omap 18),(6,.own 21),(7,.v .pl (int i)),(12,.v .pl (natI ((clsStep d cl).getD i 0))),(23,.v .mx (rowsA d.next)),(24,.v .pl (int d.next.length)),(25,.v .pl (int i))],[(18,.mp (ksC (fs d cl (i+1))) (vsC (fs d cl (i+1)).length)),(21,.arr 3 ((nx d cl i).map natI))]⟩) ?_ ?_
  refine xA tb hM0 6 [1,3,4,5,6,7,9,12,23,24,25,64] [18,21,34] rfl ?_
  refine spC 64 rfl ?_ ?_<;>intro h4<;>try simp only [dq] at h4
  refine xA tb hM0 4 [1,3,4,5,6,7,9,23,24,25,65] [18,21,34] rfl ?_
  refine oP rfl (pure_mlen rfl Tryz.underlying97 rfl) ?_
  refine xA tb hM0 6 [1,3,4,5,6,7,12,23,24,25,67,68] [18,21,34] rfl ?_
  refine oP rfl (pure_btosm rfl Tryz.underlying60 Tryz.underlying5 Tryz.underlying9 rfl) ?_
  refine xA tb hM0 1 [1,3,4,5,6,7,12,23,24,25,67,69,70] [18,21] rfl ?_
  refine oS rfl (step_put rfl rfl rfl Tryz.underlying97 Tryz.underlying9 rfl rfl rfl rfl trivial (fun q hq=>by obtain ⟨_,_,rfl⟩:=List.mem_map.1 hq;trivial) hM0) rfl ?_
  refine xA tb hM0 1 [1,3,4,5,6,7,12,23,24,25] [18,21] rfl ?_
  refine cx ?_
  have e1:putK (ksC (fs d cl i)) (.string ⟨((bK d cl i d.k).map fun n=>UInt8.ofNat n.toNat).toArray⟩)=_:=put_kc (fun x hx=>Nat.lt_of_lt_of_le (hL1_4 x hx) (by decide)) (by omega) (by assumption)
  have e2:putV (ksC (fs d cl i)) (vsC (fs d cl i).length) (.string ⟨((bK d cl i d.k).map fun n=>UInt8.ofNat n.toNat).toArray⟩) (natI (fs d cl i).length)=_:=put_vc (fun x hx=>Nat.lt_of_lt_of_le (hL1_4 x hx) (by decide)) (by omega) (by assumption)
  have e3:(ksC (fs d cl i)).length=(fs d cl i).length:=List.length_map _
  rw [e1,e3,e2,step_new cl (by omega) (by assumption)]
  refine xA tb hM0 2 [1,3,4,5,6,7,12,23,24,25] [18,21] rfl ?_
  refine cx ?_
  rw [fs_old (by omega) (by assumption),step_old cl (by omega) (by assumption),if_pos (by assumption)]
  rintro zs ⟨rfl⟩
  have hnl:=nx_len (d:=d) cl (i:=i) (by omega)
  refine xA tb hM0 4 [1,3,4,5,6,23,24,25,71,72,73] [18,21] rfl ?_
  refine oP rfl (pure_index_own rfl Tryz.underlying22 sz3 rfl rfl rfl (by first|(simp only [ll];omega)|omega)) ?_
  refine oS rfl (step_store_pel rfl rfl rfl sz3 rfl rfl (mget (by first|(simp only [ll];omega)|omega)) rfl rfl (.inl rfl) rfl (Nat.le_of_ble_eq_true rfl) hM0) rfl ?_
  refine xA tb hM0 4 [1,3,4,5,6,23,24,25] [18,21] rfl ?_
  refine oP rfl (pure_addi rfl rfl rfl (by omega)) ?_
  refine xA tb hM0 2 [1,3,4,5,6,23,24,25] [18,21] rfl ?_
  refine nx ?_
  refine ⟨_,⟨i+1,rfl,by omega,?_⟩,by omega⟩
  rw [← nx_setI cl (i:=i) (v:=(clsStep d cl).getD i 0) (by omega) rfl];first|done|rfl
  refine xA tb hM0 8 [1,4,5,6] [18,21] rfl ?_
  obtain rfl:i=d.n:=by omega
  rw [nx_all,fs_all]
  refine xA tb hM0 2 [1,4,5,6,76] [18,21] rfl ?_
  refine oP rfl (pure_mlen rfl Tryz.underlying97 rfl) ?_
  refine xA tb hM0 4 [1,5,6,79] [18,21] rfl ?_
  refine spC 79 rfl ?_ ?_<;>intro h5<;>try simp only [dq] at h5
  refine xA tb hM0 2 [6] [21] rfl ?_
  refine code_frz 84 [(6,_)] [] hM0 rfl ⟨.inr ⟨_,_,rfl,rfl,rfl⟩,trivial⟩ trivial ?_
  refine xK tb hM0 10 [] [] rfl ?_
  refine end_ret rfl ?_
  rw [show (RV.p (.sl ((clsStep d cl).map natI)))=RV.p (nats (clsF d)) from by rw [cls_end hL1_0 hL1_1 hL1_2 (by unfold cnt;omega)]]
  refine xA tb hM0 6 [1,6,81] [18,21] rfl ?_
  refine oP rfl (pure_mlen rfl Tryz.underlying97 rfl) ?_
  refine xA tb hM0 3 [1,4,6] [21] rfl ?_
  refine code_frz 84 [(1,_),(4,_),(6,_)] [] hM0 rfl ⟨.inl rfl,.inl rfl,.inr ⟨_,_,rfl,rfl,rfl⟩,trivial⟩ trivial ?_
  refine xK tb hM0 5 [1,3,4] [] rfl ?_
  refine nx ?_
  obtain ⟨f2,rfl,e2⟩:=cls_fuel hL1_0 hL1_1 hL1_2 (fun q=>by unfold cnt at q;omega)
  exact ⟨_,⟨f2,cnt d cl,clsStep d cl,rfl,e2,by unfold cnt at *;omega,cnt_le cl,hL1_3.next hd,fun x hx=>by have:=step_lt cl x hx;omega,by simp only [ksC,List.length_map];rfl⟩,by omega⟩
theorem fn102:Fn1 Tryz.prog 102 Tryz.f102.ntmps 8 (Tryz.f102.body.getD .skip):=⟨Tryz.f102,Tryz.func102,rfl,rfl,rfl,by kernel_rfl⟩
set_option maxRecDepth 100000 in
set_option maxHeartbeats 4000000 in
theorem alike_call {d:Dfa} {cl:List Nat} {a b:Nat} (hd:okD d) (hl:cl.length=d.n) (ha:a<d.n) (hb:b<d.n):CallF Tryz.prog 102 [dfa d,nats cl,natI a,natI b] (.p (bool (decide (sig d cl a=sig d cl b)))):=by
  have hn:d.n=d.next.length:=rfl
  have hb:=hd.1
  have hkk:=kk hd
  have hra:=hd.row (i:=a) (by omega)
  have hrb:=hd.row (i:=b) (by omega)
  have hsa:=fun (j:Nat) (hj:(j:Int)<d.size)=>hd.cell (i:=a) (k:=j) (by omega) hj
  have hsb:=fun (j:Nat) (hj:(j:Int)<d.size)=>hd.cell (i:=b) (k:=j) (by omega) hj
  refine callF_of_code fn102 (Nat.le_of_ble_eq_true rfl) fun w0 M0 hM0=>?_
  refine xC tb hM0 2 [0,1,2,3] [] rfl ?_
  refine oP rfl (pure_box rfl rfl rfl hM0) ?_
  refine xA tb hM0 5 [1,2,3,4] [] rfl ?_
  refine code_draw mixed (by kernel_rfl) _ rfl ?_
  refine dl_pure rfl rfl rfl (pure_move rfl rfl) ?_
  refine dl_pure rfl rfl rfl (pure_move rfl rfl) ?_
  refine dl_pure rfl rfl rfl (pure_ix rfl Tryz.underlying22 sz3 rfl rfl (by omega) (fun _=>rfl)) ?_
  refine dl_pure rfl rfl rfl (pure_load rfl ag3 rfl rfl) ?_
  refine dl_pure rfl rfl rfl (pure_move rfl rfl) ?_
  refine dl_pure rfl rfl rfl (pure_move rfl rfl) ?_
  refine dl_pure rfl rfl rfl (pure_ix rfl Tryz.underlying22 sz3 rfl rfl (by omega) (fun _=>rfl)) ?_
  refine dpk 61 [(1,_),(2,_),(3,_),(4,_),(13,_),(16,_)] [] rfl rfl rfl ?_
  refine dl_pure rfl rfl rfl (pure_load rfl ag3 rfl rfl) ?_
  refine dl_pure rfl rfl rfl (pure_neq rfl rfl rfl) ?_
  refine dl_pure rfl rfl rfl (pure_move rfl rfl) ?_
  refine dl_guard rfl (fun h1=>?_) (fun h1=>?_)
  have h1':=h1;try simp only [dq] at h1'
  refine dl_skip_g rfl rfl h1 rfl rfl ?_
  refine dl_skip_g rfl rfl h1 rfl rfl ?_
  refine dl_skip_g rfl rfl h1 rfl rfl ?_
  refine dl_skip_g rfl rfl h1 rfl rfl ?_
  refine dpk 61 [(1,_),(2,_),(3,_),(4,_),(19,_),(23,_)] [] rfl rfl rfl ?_
  refine dl_skip_g rfl rfl h1 rfl rfl ?_
  refine dl_skip_g rfl rfl h1 rfl rfl ?_
  refine dl_skip_g rfl rfl h1 rfl rfl ?_
  refine dl_skip_g rfl rfl h1 rfl rfl ?_
  refine dl_skip_g rfl rfl h1 rfl rfl ?_
  refine dl_skip_g rfl rfl h1 rfl rfl ?_
  refine dl_skip_g rfl rfl h1 rfl rfl ?_
  refine dl_pure rfl rfl rfl (pure_pick_t rfl rfl h1 rfl) ?_
  refine dl_nil ?_
  refine xD tb hM0 9 [] [] rfl ?_
  refine end_ret rfl ?_;rotate_left
  have h1':=h1;try simp only [dq] at h1'
  refine dl_pure_g rfl rfl h1 rfl rfl (pure_field rfl fd31_2 rfl) ?_
  refine dl_pure_g rfl rfl h1 rfl rfl (pure_load rfl ag29 rfl rfl) ?_
  refine dl_pure_g rfl rfl h1 rfl rfl (pure_move rfl rfl) ?_
  refine dl_pure_g rfl rfl h1 rfl rfl (pure_ix rfl Tryz.underlying29 sz4 rfl rfl (by omega) (fun _=>rfl)) ?_
  refine dpk 61 [(1,_),(2,_),(3,_),(4,_),(19,_),(23,_)] [] rfl rfl rfl ?_
  refine dl_pure_g rfl rfl h1 rfl rfl (pure_load rfl ag4 rfl rfl) ?_
  refine dl_pure_g rfl rfl h1 rfl rfl (pure_field rfl fd31_2 rfl) ?_
  refine dl_pure_g rfl rfl h1 rfl rfl (pure_load rfl ag29 rfl rfl) ?_
  refine dl_pure_g rfl rfl h1 rfl rfl (pure_move rfl rfl) ?_
  refine dl_pure_g rfl rfl h1 rfl rfl (pure_ix rfl Tryz.underlying29 sz4 rfl rfl (by omega) (fun _=>rfl)) ?_
  refine dl_pure_g rfl rfl h1 rfl rfl (pure_load rfl ag4 rfl rfl) ?_
  refine dl_pure_g rfl rfl h1 rfl rfl (pure_bne Tryz.underlying4 rfl rfl rfl) ?_
  refine dl_pure rfl rfl rfl (pure_pick_f rfl rfl h1 rfl) ?_
  refine dl_nil ?_
  refine xD tb hM0 1 [1,2,3,4,31] [] rfl ?_
  refine spC 31 rfl ?_ ?_<;>intro h2<;>try simp only [dq] at h2
  refine xA tb hM0 8 [] [] rfl ?_
  refine end_ret rfl ?_;rotate_left
  refine xA tb hM0 10 [1,2,3,4,9] [] rfl ?_
  refine lp (fun zm zs=>∃ j:Nat,zm=d.k-j∧(j≤d.k)∧(∀ t,t<j→((cl.getD ((d.next.getD a default).getD t default).toNat default:Nat):Int)=(cl.getD ((d.next.getD b default).getD t default).toNat default:Nat))∧zs=⟨61,[(1,.v .mx (nats cl)),(2,.v .mx (natI a)),(3,.v .mx (natI b)),(4,.v .mx (dpc d)),(9,.v .pl (int j))],[]⟩) ?_ ?_
  exact ⟨_,0,rfl,Nat.zero_le _,fun t ht=>absurd ht (Nat.not_lt_zero t),rfl⟩
  rintro zm zs ⟨j,rfl,hL1_0,hL1_1,rfl⟩
  refine xA tb hM0 9 [1,2,3,4,9,35] [] rfl ?_
  refine spC 35 rfl ?_ ?_<;>intro h3<;>try simp only [dq] at h3
  refine xA tb hM0 6 [1,2,3,4,9] [] rfl ?_
  refine code_draw mixed (by kernel_rfl) _ rfl ?_
  refine dl_pure rfl rfl rfl (pure_move rfl rfl) ?_
  refine dl_pure rfl rfl rfl (pure_field rfl fd31_1 rfl) ?_
  refine dl_pure rfl rfl rfl (pure_load rfl ag28 rfl rfl) ?_
  refine dl_pure rfl rfl rfl (pure_move rfl rfl) ?_
  refine dl_pure rfl rfl rfl (pure_ix rfl Tryz.underlying28 sz22 rfl rfl (by omega) (fun _=>rfl)) ?_
  refine dl_pure rfl rfl rfl (pure_load rfl ag22 rfl rfl) ?_
  refine dl_pure rfl rfl rfl (pure_move rfl rfl) ?_
  refine dpk 61 [(1,_),(2,_),(3,_),(4,_),(9,_),(38,_),(43,_),(44,_)] [] rfl rfl rfl ?_
  refine dl_pure rfl rfl rfl (pure_ix rfl Tryz.underlying22 sz3 rfl rfl (by have:=hra.1;omega) (fun _=>rfl)) ?_
  refine dl_pure rfl rfl rfl (pure_load rfl ag3 rfl rfl) ?_
  refine dl_pure rfl rfl rfl (pure_ix rfl Tryz.underlying22 sz3 rfl rfl (by have:=hsa j (by omega);omega) (fun _=>rfl)) ?_
  refine dl_pure rfl rfl rfl (pure_load rfl ag3 rfl rfl) ?_
  refine dl_pure rfl rfl rfl (pure_move rfl rfl) ?_
  refine dl_pure rfl rfl rfl (pure_field rfl fd31_1 rfl) ?_
  refine dl_pure rfl rfl rfl (pure_load rfl ag28 rfl rfl) ?_
  refine dpk 61 [(1,_),(2,_),(3,_),(4,_),(9,_),(48,_),(49,_),(51,_)] [] rfl rfl rfl ?_
  refine dl_pure rfl rfl rfl (pure_move rfl rfl) ?_
  refine dl_pure rfl rfl rfl (pure_ix rfl Tryz.underlying28 sz22 rfl rfl (by omega) (fun _=>rfl)) ?_
  refine dl_pure rfl rfl rfl (pure_load rfl ag22 rfl rfl) ?_
  refine dl_pure rfl rfl rfl (pure_move rfl rfl) ?_
  refine dl_pure rfl rfl rfl (pure_ix rfl Tryz.underlying22 sz3 rfl rfl (by have:=hrb.1;omega) (fun _=>rfl)) ?_
  refine dl_pure rfl rfl rfl (pure_load rfl ag3 rfl rfl) ?_
  refine dl_pure rfl rfl rfl (pure_ix rfl Tryz.underlying22 sz3 rfl rfl (by have:=hsb j (by omega);omega) (fun _=>rfl)) ?_
  refine dl_pure rfl rfl rfl (pure_load rfl ag3 rfl rfl) ?_
  refine dl_pure rfl rfl rfl (pure_neq rfl rfl rfl) ?_
  refine dl_nil ?_
  refine xD tb hM0 1 [1,2,3,4,9,60] [] rfl ?_
  refine spC 60 rfl ?_ ?_<;>intro h4<;>try simp only [dq] at h4
  refine xA tb hM0 12 [] [] rfl ?_
  refine end_ret rfl ?_;rotate_left
  refine xA tb hM0 6 [1,2,3,4,36] [] rfl ?_
  refine oP rfl (pure_addi rfl rfl rfl (by omega)) ?_
  refine xA tb hM0 2 [1,2,3,4,9] [] rfl ?_
  refine nx ?_
  exact ⟨_,⟨j+1,rfl,by omega,upto_step hL1_1 (by assumption),rfl⟩,by omega⟩
  refine xA tb hM0 12 [] [] rfl ?_
  refine end_ret rfl ?_;rotate_left
  all_goals
    first
      | (rw [sigI_ne1 (d:=d) (cl:=cl) (a:=a) (b:=b) (by assumption)];first|done|rfl)
      | (rw [sigI_ne2 (d:=d) (cl:=cl) (a:=a) (b:=b) (by assumption)];first|done|rfl)
      | (rw [sigI_ne3 (d:=d) (cl:=cl) (a:=a) (b:=b) (j:=j) (by omega) (by assumption)];first|done|rfl)
      | (rw [sigI_eq (d:=d) (cl:=cl) (a:=a) (b:=b) (by assumption) (by assumption) (fun t ht=>hL1_1 t (by omega))];first|done|rfl)
theorem fn82:Fn1 Tryz.prog 82 Tryz.f82.ntmps 2 (Tryz.f82.body.getD .skip):=⟨Tryz.f82,Tryz.func82,rfl,rfl,rfl,by kernel_rfl⟩
set_option maxRecDepth 100000 in
set_option maxHeartbeats 8000000 in
theorem rclasses_call {d:Dfa} (hd:okD d):CallF Tryz.prog 82 [dfa d] (.p (nats (clsF d))):=by
  have hn:d.n=d.next.length:=rfl
  have hb:=hd.1
  have hkk:=kk hd
  refine callF_of_code fn82 (Nat.le_of_ble_eq_true rfl) fun w0 M0 hM0=>?_
  refine xC tb hM0 2 [0] [] rfl ?_
  refine oP rfl (pure_box rfl rfl rfl hM0) ?_
  refine xA tb hM0 7 [1,11] [] rfl ?_
  refine oP rfl (pure_lenm rfl Tryz.underlying28 rfl) ?_
  refine xA tb hM0 6 [1,3,13] [] rfl ?_
  refine oS rfl (step_make rfl rfl rfl rfl Tryz.underlying22 el3 ze3 rfl rfl rfl (by first|(simp only [ll];omega)|omega) (by first|(simp only [ll];omega)|omega) (by first|(simp only [ll];omega)|omega) hM0) rfl ?_
  refine xA tb hM0 4 [1,3,4] [14] rfl ?_
  refine code_frz 59 [(1,_),(3,_),(4,_)] [] hM0 rfl ⟨.inl rfl,.inl rfl,.inr ⟨_,_,rfl,rfl,rfl⟩,trivial⟩ trivial ?_
  refine xK tb hM0 5 [1,3,4,5] [] rfl ?_
  refine lp (fun zm zs=>∃ (f c:Nat) (cl:List Nat),zm=f∧(clsF d=clsIt d f c cl)∧(d.n<f+c)∧(c≤d.n)∧(Cls d c cl)∧(∀ x∈cl,x<2048)∧zs=⟨59,[(1,.v .mx (dpc d)),(3,.v .pl (int d.next.length)),(4,.v .pl (nats cl)),(5,.v .pl (int c))],[]⟩) ?_ ?_
  refine ⟨_,d.n+1,0,List.replicate d.n 0,rfl,rfl,by omega,Nat.zero_le _,cls_start hd,fun x hx=>by rw [(List.mem_replicate.1 hx).2];decide,?_⟩
  rw [nats,← rep_map];first|done|rfl
  rintro zm zs ⟨f,c,cl,rfl,hL1_0,hL1_1,hL1_2,hL1_3,hL1_4,rfl⟩
  have hcl:=hL1_3.len
  have hle:=hL1_3.le
  refine xA tb hM0 4 [1,3,4,5,15] [] rfl ?_
  refine oS rfl (step_make rfl rfl rfl rfl Tryz.underlying22 el3 ze3 rfl rfl rfl (by first|(simp only [ll];omega)|omega) (by first|(simp only [ll];omega)|omega) (by first|(simp only [ll];omega)|omega) hM0) rfl ?_
  refine xA tb hM0 5 [1,3,4,5,6] [16] rfl ?_
  refine oS rfl (step_nil rfl rfl rfl rfl rfl 3 hM0) rfl ?_
  refine xA tb hM0 9 [1,3,4,5,6,7,8] [7,16] rfl ?_
  refine lp (fun zm zs=>∃ i:Nat,zm=d.next.length-i∧(i≤d.next.length)∧zs=⟨59,[(1,.v .mx (dpc d)),(3,.v .pl (int d.next.length)),(4,.v .pl (nats cl)),(5,.v .pl (int c)),(6,.own 16),(7,.own 7),(8,.v .pl (int i))],[(7,.arr 3 ((reps d cl i).map natI)),(16,.arr 3 ((nx d cl i).map natI))]⟩) ?_ ?_
  refine ⟨_,0,rfl,Nat.zero_le _,?_⟩
  rw [nx_zero,← rep_map];first|done|rfl
  rintro zm zs ⟨i,rfl,hL2_0,rfl⟩
  have hrl:(reps d cl i).length≤i:=by rw [reps_len cl (by omega)];exact fs_len cl i
  have hnl:=nx_len (d:=d) cl (i:=i) (by omega)
  refine xA tb hM0 8 [1,3,4,5,6,7,8,19] [7,16] rfl ?_
  refine spC 19 rfl ?_ ?_<;>intro h1<;>try simp only [dq] at h1
  refine xA tb hM0 10 [1,3,4,5,6,7,8,9] [7,16] rfl ?_
  refine ct (fun zs=>∃ k:Nat,(k=idx (fs d cl i) (sig d cl i))∧(k≤(reps d cl i).length)∧zs=⟨59,[(1,.v .mx (dpc d)),(3,.v .pl (int d.next.length)),(4,.v .pl (nats cl)),(5,.v .pl (int c)),(6,.own 16),(7,.own 7),(8,.v .pl (int i)),(9,.v .pl (int k))],[(7,.arr 3 ((reps d cl i).map natI)),(16,.arr 3 ((nx d cl i).map natI))]⟩) ?_ ?_
  refine xA tb hM0 1 [1,3,4,5,6,7,8,9] [7,16] rfl ?_
  refine lp (fun zm zs=>∃ k:Nat,zm=(reps d cl i).length-k∧(k≤(reps d cl i).length)∧(∀ j,j<k→sig d cl ((reps d cl i).getD j default)≠sig d cl i)∧zs=⟨59,[(1,.v .mx (dpc d)),(3,.v .pl (int d.next.length)),(4,.v .pl (nats cl)),(5,.v .pl (int c)),(6,.own 16),(7,.own 7),(8,.v .pl (int i)),(9,.v .pl (int k))],[(7,.arr 3 ((reps d cl i).map natI)),(16,.arr 3 ((nx d cl i).map natI))]⟩) ?_ ?_
  exact ⟨_,0,rfl,Nat.zero_le _,fun t ht=>absurd ht (Nat.not_lt_zero t),rfl⟩
  rintro zm zs ⟨k,rfl,hL3_0,hL3_1,rfl⟩
  refine xA tb hM0 2 [1,3,4,5,6,7,8,9] [7,16] rfl ?_
  refine code_draw mixed (by kernel_rfl) _ rfl ?_
  refine dl_pure rfl rfl rfl (pure_move rfl rfl) ?_
  refine dl_pure rfl rfl rfl (pure_move rfl rfl) ?_
  refine dl_pure rfl rfl rfl (pure_lenm rfl Tryz.underlying22 rfl) ?_
  refine dl_pure rfl rfl rfl (pure_lss rfl rfl rfl) ?_
  refine dl_pure rfl rfl rfl (pure_move rfl rfl) ?_
  refine dl_guard rfl (fun h2=>?_) (fun h2=>?_)
  have h2':=h2;try simp only [dq] at h2'
  refine dl_pure_g rfl rfl h2 rfl rfl (pure_load_agg rfl ag31 sz31 rfl (Nat.le_of_ble_eq_true rfl)) ?_
  refine dl_pure_g rfl rfl h2 rfl rfl (pure_move rfl rfl) ?_
  refine dpk 59 [(1,_),(3,_),(4,_),(5,_),(6,_),(7,_),(8,_),(9,_),(26,_),(27,_),(28,_)] [(7,_),(16,_)] rfl rfl rfl ?_
  refine dl_pure_g rfl rfl h2 rfl rfl (pure_move rfl rfl) ?_
  refine dl_pure_g rfl rfl h2 rfl rfl (pure_move rfl rfl) ?_
  refine dl_pure_g rfl rfl h2 rfl rfl (pure_index_own rfl Tryz.underlying22 sz3 rfl rfl rfl (by first|(simp only [ll];omega)|omega)) ?_
  refine dl_pure_g rfl rfl h2 rfl rfl (pure_load_pel rfl ag3 rfl rfl (mget (by omega)) rfl) ?_
  refine dl_pure_g rfl rfl h2 rfl rfl (pure_move rfl rfl) ?_
  refine dl_pure_g rfl rfl h2 rfl rfl (pure_call rfl rfl rfl (alike_call hd hcl (Nat.lt_of_lt_of_le (reps_lt cl i _ (el_mem (by omega))) (by omega)) (by omega)) hM0) ?_
  refine dl_pure_g rfl rfl h2 rfl rfl (pure_not rfl rfl) ?_
  refine dl_pure rfl rfl rfl (pure_pick_t rfl rfl h2 rfl) ?_
  refine dl_nil ?_
  refine xD tb hM0 1 [1,3,4,5,6,7,8,9,36] [7,16] rfl ?_
  refine spC 36 rfl ?_ ?_<;>intro h3<;>try simp only [dq] at h3
  refine xA tb hM0 6 [1,3,4,5,6,7,8,37] [7,16] rfl ?_
  refine oP rfl (pure_addi rfl rfl rfl (by omega)) ?_
  refine xA tb hM0 3 [1,3,4,5,6,7,8,9] [7,16] rfl ?_
  refine nx ?_
  exact ⟨_,⟨k+1,rfl,by omega,upto_step hL3_1 (by assumption),rfl⟩,by omega⟩
  refine xA tb hM0 5 [1,3,4,5,6,7,8,9] [7,16] rfl ?_
  refine cx ?_;rotate_left
  have h2':=h2;try simp only [dq] at h2'
  refine dl_skip_g rfl rfl h2 rfl rfl ?_
  refine dl_skip_g rfl rfl h2 rfl rfl ?_
  refine dpk 59 [(1,_),(3,_),(4,_),(5,_),(6,_),(7,_),(8,_),(9,_),(26,_),(27,_),(28,_)] [(7,_),(16,_)] rfl rfl rfl ?_
  refine dl_skip_g rfl rfl h2 rfl rfl ?_
  refine dl_skip_g rfl rfl h2 rfl rfl ?_
  refine dl_skip_g rfl rfl h2 rfl rfl ?_
  refine dl_skip_g rfl rfl h2 rfl rfl ?_
  refine dl_skip_g rfl rfl h2 rfl rfl ?_
  refine dl_skip_g rfl rfl h2 rfl rfl ?_
  refine dl_skip_g rfl rfl h2 rfl rfl ?_
  refine dl_pure rfl rfl rfl (pure_pick_f rfl rfl h2 rfl) ?_
  refine dl_nil ?_
  refine xD tb hM0 6 [1,3,4,5,6,7,8,9] [7,16] rfl ?_
  refine cx ?_;rotate_left
  rintro zs ⟨k,hC12_0,hC12_1,rfl⟩
  refine ct (fun zs=>((clsStep d cl).getD i 0=k)∧zs=⟨59,[(1,.v .mx (dpc d)),(3,.v .pl (int d.next.length)),(4,.v .pl (nats cl)),(5,.v .pl (int c)),(6,.own 16),(7,.own 7),(8,.v .pl (int i)),(9,.v .pl (int k))],[(7,.arr 3 ((reps d cl (i+1)).map natI)),(16,.arr 3 ((nx d cl i).map natI))]⟩) ?_ ?_
  refine xA tb hM0 4 [1,3,4,5,6,7,8,9,39,40] [7,16] rfl ?_
  refine oP rfl (pure_lenm rfl Tryz.underlying22 rfl) ?_
  refine xA tb hM0 3 [1,3,4,5,6,7,8,9,42] [7,16] rfl ?_
  refine spC 42 rfl ?_ ?_<;>intro h4<;>try simp only [dq] at h4
  refine xA tb hM0 4 [1,3,4,5,6,8,9,43,44] [7,16] rfl ?_
  refine oP rfl (pure_lit rfl Tryz.underlying22 el3 rfl rfl rfl rfl hM0) ?_
  refine oS rfl (step_append rfl rfl rfl rfl Tryz.underlying22 el3 rfl rfl hM0 (src_pl rfl (one_len (by rfl))) (by first|(simp only [ll];omega)|omega) (by first|(simp only [ll];omega)|omega)) rfl ?_
  refine xA tb hM0 2 [1,3,4,5,6,7,8,9] [7,16] rfl ?_
  refine cx ?_
  obtain ⟨e1,e2⟩:=idx_isnew (d:=d) (by omega) hC12_0 (by omega)
  exact ⟨e2,by rw [e1,List.map_append];rfl⟩
  refine xA tb hM0 2 [1,3,4,5,6,7,8,9] [7,16] rfl ?_
  refine cx ?_
  obtain ⟨e1,e2⟩:=idx_isold (d:=d) (by omega) hC12_0 (by omega)
  exact ⟨e2,by rw [e1]⟩
  rintro zs ⟨hC14_0,rfl⟩
  refine xA tb hM0 4 [1,3,4,5,6,7,8,47,48,49] [7,16] rfl ?_
  refine oP rfl (pure_index_own rfl Tryz.underlying22 sz3 rfl rfl rfl (by first|(simp only [ll];omega)|omega)) ?_
  refine oS rfl (step_store_pel rfl rfl rfl sz3 rfl rfl (mget (by first|(simp only [ll];omega)|omega)) rfl rfl (.inl rfl) rfl (Nat.le_of_ble_eq_true rfl) hM0) rfl ?_
  refine xA tb hM0 5 [1,3,4,5,6,7,20] [7,16] rfl ?_
  refine oP rfl (pure_addi rfl rfl rfl (by omega)) ?_
  refine xA tb hM0 2 [1,3,4,5,6,7,8] [7,16] rfl ?_
  refine nx ?_
  refine ⟨_,⟨i+1,rfl,by omega,?_⟩,by omega⟩
  rw [← nx_setI cl (by omega) hC14_0];first|done|rfl
  refine xA tb hM0 8 [1,3,5,6,7] [7,16] rfl ?_
  obtain rfl:i=d.n:=by omega
  rw [nx_all]
  have hcnt:cnt d cl=(reps d cl d.n).length:=by unfold cnt;rw [← fs_all,reps_len cl (Nat.le_refl _)]
  refine xA tb hM0 2 [1,3,5,6,7,51] [7,16] rfl ?_
  refine oP rfl (pure_lenm rfl Tryz.underlying22 rfl) ?_
  refine xA tb hM0 4 [1,3,6,7,54] [7,16] rfl ?_
  refine spC 54 rfl ?_ ?_<;>intro h5<;>try simp only [dq] at h5
  refine xA tb hM0 2 [6] [16] rfl ?_
  refine code_frz 59 [(6,_)] [] hM0 rfl ⟨.inr ⟨_,_,rfl,rfl,rfl⟩,trivial⟩ trivial ?_
  refine xK tb hM0 10 [] [] rfl ?_
  refine end_ret rfl ?_
  rw [show (RV.p (.sl ((clsStep d cl).map natI)))=RV.p (nats (clsF d)) from by rw [cls_end hL1_0 hL1_1 hL1_2 (by rw [hcnt];omega)]]
  refine xA tb hM0 6 [1,3,6,56] [7,16] rfl ?_
  refine oP rfl (pure_lenm rfl Tryz.underlying22 rfl) ?_
  refine xA tb hM0 3 [1,3,5,6] [16] rfl ?_
  refine code_frz 59 [(1,_),(3,_),(5,_),(6,_)] [] hM0 rfl ⟨.inl rfl,.inl rfl,.inl rfl,.inr ⟨_,_,rfl,rfl,rfl⟩,trivial⟩ trivial ?_
  refine xK tb hM0 5 [1,3,4,5] [] rfl ?_
  refine nx ?_
  obtain ⟨f2,rfl,e2⟩:=cls_fuel hL1_0 hL1_1 hL1_2 (fun q=>by rw [hcnt] at q;omega)
  exact ⟨_,⟨f2,cnt d cl,clsStep d cl,rfl,e2,by omega,cnt_le cl,hL1_3.next hd,fun x hx=>by have:=step_lt cl x hx;omega,by rw [hcnt]⟩,by omega⟩
  all_goals
    first
      | exact ⟨k,(alike_miss (by omega) (by omega) hL3_1).symm,by omega,rfl⟩
      | exact ⟨k,(alike_hit (by omega) (by omega) hL3_1 (by assumption)).symm,by omega,rfl⟩
end Go.Proofs.YtjimlkpfmbachaaGreat

