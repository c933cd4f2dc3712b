/-
  Contracts: derivatives,and whether an expression accepts a word,for expressions of small width.
-/
import Derived.Test.YtgdehkimfmfofaaGreatJ29
import Derived.Test.YtgdehkimfmfofaaGreatJ36
import Derived.Test.YtgdehkimfmfofaaGreatJ33
set_option linter.unusedVariables false
set_option linter.unusedSectionVars false
set_option linter.unusedSimpArgs false
namespace Go.Proofs.YtgdehkimfmfofaaGreat
open Go.Am Go.Wb
set_option maxRecDepth 100000 in
set_option maxHeartbeats 1000000 in
theorem alt2_callW {x y:Rx} (hx:wd x≤1099511627776) (hy:wd y≤1099511627776):CallF Tryz.prog 117 [rx x,rx y] (.p (bool (eqR x y))):=by
  refine callF_of_code fn117 (Nat.le_of_ble_eq_true rfl) fun w0 M0 hM0=>?_
  refine xC tb hM0 2 [0,1] [] rfl ?_
  refine oP rfl (pure_box rfl rfl rfl hM0) ?_
  refine oP rfl (pure_box rfl rfl rfl hM0) ?_
  refine xA tb hM0 7 [5,6] [] rfl ?_
  refine oP rfl (pure_call rfl rfl rfl (compare_callW _ _ _ (Nat.le_refl _) hx hy) hM0) ?_
  refine xA tb hM0 5 [] [] rfl ?_
  refine end_ret rfl ?_
  rfl
set_option maxRecDepth 100000 in
set_option maxHeartbeats 8000000 in
theorem alt_callW {B:Nat} {l:List Rx} (hB:B≤549755813000) (hl:l.length≤1099511627776) (ho:LsOk B l):CallN Tryz.prog 78 [rxs l] (.p (rx (altN l))):=by
  obtain ⟨hS,hKl,hw⟩:=ho
  have hMl:=altM_len (altS l) (altK l)
  have hMs:∀ z∈altM (altS l) (altK l),wd z≤1099511627776:=fun z hz=>by have:=altM_wd hS hw z hz;omega
  have hDl:(altD l).length≤1099511627776:=by
    have h1:=cpt_len (eq:=eqR) (l:=sortR (altM (altS l) (altK l)))
    rw [sortR_len] at h1
    show (cpt _ _).length≤_
    omega
  have hSl:=sortI_len (altS l)
  refine callN_of_codeC fn78 (Nat.le_of_ble_eq_true rfl) fun w0 M0 hM0=>?_
  refine xC tb hM0 17 [0,2,3,4] [2,3,4] rfl ?_
  refine oP rfl (pure_fn rfl rfl) ?_
  refine xA tb hM0 5 [0,2,3,4,5] [2,3,4] rfl ?_
  refine code_nilown 3 0 11 25 23 hM0 rfl rfl rfl rfl ?_
  refine code_nilown 4 0 10 3 22 hM0 rfl rfl rfl rfl ?_
  refine xK tb hM0 2 [2,3,4,5,11] [2,3,4,10,11] rfl ?_
  refine oP rfl (pure_lenm rfl Tryz.underlying23 rfl) ?_
  refine xA tb hM0 4 [2,3,4,5,11,12,13] [2,3,4,10,11] rfl ?_
  refine lp (fun zm zs=>∃ i:Nat,zm=l.length-i∧(i≤l.length)∧zs=⟨81,[(2,.pbox 2 0),(3,.pbox 3 0),(4,.pbox 4 0),(5,.fn 111 [.bx 4,.bx 3]),(11,.v .pl (rxs l)),(12,.v .pl (int l.length)),(13,.v .pl (int i))],[(2,.box 25 [.v .pl (.sc (.int .i64 0)),.v .pl (.sc (.slice none 0 0)),.v .pl (.sc (.slice none 0 0))]),(3,.box 23 [.own 11]),(4,.box 22 [.own 10]),(10,.arr 3 ((putSs (altL (l.take i))).map int)),(11,.arr 25 ((putKs (altL (l.take i))).map rx))]⟩) ?_ ?_
  exact ⟨_,0,rfl,Nat.zero_le _,rfl⟩
  rintro zm zs ⟨i,rfl,hL1_0,rfl⟩
  have hb1:=alt_pre l i
  have hb5:=fun (h:i<l.length)=>(wd_le.1 (hw _ (kid_mem h))).1
  refine xA tb hM0 6 [2,3,4,5,11,12,13,14] [2,3,4,10,11] rfl ?_
  refine spC 14 rfl ?_ ?_<;>intro h1<;>try simp only [dq] at h1
  refine xA tb hM0 7 [2,3,4,5,11,12,13] [2,3,4,10,11] rfl ?_
  refine oP rfl (pure_ix rfl Tryz.underlying23 sz25 rfl rfl (by omega) (fun _=>rfl)) ?_
  refine xA tb hM0 13 [2,3,4,5,7,11,12,13,19] [2,3,4,7,10,11] rfl ?_
  refine spC 19 rfl ?_ ?_<;>intro h2<;>try simp only [dq] at h2
  refine xA tb hM0 5 [2,3,4,5,11,12,13,20,21] [2,3,4,10,11] rfl ?_
  refine oS rfl (step_callO [(1000001,4),(1000002,3)] rfl rfl rfl rfl rfl rfl rfl (put_call (x:=l.getD i default) (s:=putSs (altL (l.take i))) (k:=putKs (altL (l.take i))) (by have:=hb5 (by omega);omega) (by omega)) ⟨.inl rfl,.inl rfl,.inl rfl,trivial⟩ ⟨rfl,rfl,rfl,rfl,trivial⟩ rfl rfl rfl rfl rfl hM0) rfl ?_
  refine xA tb hM0 7 [2,3,4,5,11,12,13] [2,3,4,10,11] rfl ?_
  refine oP rfl (pure_addi rfl rfl rfl (by omega)) ?_
  refine xA tb hM0 2 [2,3,4,5,11,12,13] [2,3,4,10,11] rfl ?_
  refine nx ?_
  refine ⟨_,⟨i+1,rfl,by omega,?_⟩,by omega⟩
  rw [altL_succ (by omega),altF_x (by omega),putSs_app,putKs_app];rfl
  refine xA tb hM0 6 [2,3,4,5,11,12,13,23] [2,3,4,7,10,11] rfl ?_
  refine oP rfl (pure_avs (pure_load_box rfl ag23 rfl rfl rfl)) ?_
  refine oP rfl (pure_lenm rfl Tryz.underlying23 rfl) ?_
  refine xA tb hM0 4 [2,3,4,5,11,12,13,24,25,26] [2,3,4,10,11] rfl ?_
  refine lp (fun zm zs=>∃ j:Nat,zm=(l.getD i default).kids.length-j∧(j≤(l.getD i default).kids.length)∧zs=⟨81,[(2,.pbox 2 0),(3,.pbox 3 0),(4,.pbox 4 0),(5,.fn 111 [.bx 4,.bx 3]),(11,.v .pl (rxs l)),(12,.v .pl (int l.length)),(13,.v .pl (int i)),(24,.v .pl (rxs (l.getD i default).kids)),(25,.v .pl (int (l.getD i default).kids.length)),(26,.v .pl (int j))],[(2,.box 25 [.v .pl (.sc (.int .i64 0)),.v .pl (.sc (.slice none 0 0)),.v .pl (.sc (.slice none 0 0))]),(3,.box 23 [.own 11]),(4,.box 22 [.own 10]),(10,.arr 3 ((putSs (altL (l.take i)++(l.getD i default).kids.take j)).map int)),(11,.arr 25 ((putKs (altL (l.take i)++(l.getD i default).kids.take j)).map rx))]⟩) ?_ ?_
  refine ⟨_,0,rfl,Nat.zero_le _,?_⟩
  rw [List.take_zero,List.append_nil];rfl
  rintro zm zs ⟨j,rfl,hL2_0,rfl⟩
  have hc1:=alt_pre2 l (i:=i) (by omega) (by omega) j
  have hc4:=fun (h:j<(l.getD i default).kids.length)=>(wd_le.1 (wd_kid (hw _ (kid_mem (by omega))) (kid_mem h))).1
  have hc5:=hb5 (by omega)
  refine xA tb hM0 6 [2,3,4,5,11,12,13,24,25,26,27] [2,3,4,10,11] rfl ?_
  refine spC 27 rfl ?_ ?_<;>intro h3<;>try simp only [dq] at h3
  refine xA tb hM0 7 [2,3,4,5,11,12,13,24,25,26] [2,3,4,10,11] rfl ?_
  refine oP rfl (pure_ix rfl Tryz.underlying23 sz25 rfl rfl (by omega) (fun _=>rfl)) ?_
  refine xA tb hM0 8 [2,3,4,5,11,12,13,24,25,26,30,31] [2,3,4,10,11] rfl ?_
  refine oS rfl (step_callO [(1000001,4),(1000002,3)] rfl rfl rfl rfl rfl rfl rfl (put_call (x:=(l.getD i default).kids.getD j default) (s:=putSs (altL (l.take i)++(l.getD i default).kids.take j)) (k:=putKs (altL (l.take i)++(l.getD i default).kids.take j)) (by have:=hc4 (by omega);omega) (by omega)) ⟨.inl rfl,.inl rfl,.inl rfl,trivial⟩ ⟨rfl,rfl,rfl,rfl,trivial⟩ rfl rfl rfl rfl rfl hM0) rfl ?_
  refine xA tb hM0 4 [2,3,4,5,11,12,13,24,25,26] [2,3,4,10,11] rfl ?_
  refine oP rfl (pure_addi rfl rfl rfl (by omega)) ?_
  refine xA tb hM0 2 [2,3,4,5,11,12,13,24,25,26] [2,3,4,10,11] rfl ?_
  refine nx ?_
  refine ⟨_,⟨j+1,rfl,by omega,?_⟩,by omega⟩
  rw [putSs_kid (by omega),putKs_kid (by omega)];rfl
  refine xA tb hM0 8 [2,3,4,5,11,12,13] [2,3,4,10,11] rfl ?_
  refine oP rfl (pure_addi rfl rfl rfl (by omega)) ?_
  refine xA tb hM0 2 [2,3,4,5,11,12,13] [2,3,4,10,11] rfl ?_
  refine nx ?_
  refine ⟨_,⟨i+1,rfl,by omega,?_⟩,by omega⟩
  rw [altL_succ (by omega),altF_4 (by omega),show (l.getD i default).kids.take j=(l.getD i default).kids from List.take_of_length_le (by omega)];rfl
  refine xA tb hM0 6 [2,3,4] [2,3,4,10,11] rfl ?_
  refine ct (fun zs=>zs=⟨81,[(2,.pbox 2 0),(3,.pbox 3 0)],[(2,.box 25 [.v .pl (.sc (.int .i64 0)),.v .pl (.sc (.slice none 0 0)),.v .pl (.sc (.slice none 0 0))]),(3,.box 23 [.own 11]),(11,.arr 25 ((altM (altS l) (altK l)).map rx))]⟩) ?_ ?_
  refine xA tb hM0 1 [2,3,4] [2,3,4,10,11] rfl ?_
  rw [show l.take i=l from List.take_of_length_le (by omega)]
  refine xA tb hM0 2 [2,3,4,35] [2,3,4,10,11] rfl ?_
  refine oP rfl (pure_lenm rfl Tryz.underlying22 rfl) ?_
  refine xA tb hM0 3 [2,3,4,37] [2,3,4,10,11] rfl ?_
  refine spC 37 rfl ?_ ?_<;>intro h4<;>try simp only [dq] at h4
  refine xA tb hM0 4 [2,3,4,38] [2,3,4,10,11] rfl ?_
  refine oS rfl (step_sortZ sortsZ rfl rfl rfl rfl rfl rfl sz3 (by have h1:(putSs (altL l)).length≤B:=hS;omega) hM0) rfl ?_
  refine xA tb hM0 2 [2,3,4] [2,3,4,10,11] rfl ?_
  rw [sortI_merge]
  refine code_draw1 (n:=81) (o2:=[(2,.box 25 [.v .pl (.sc (.int .i64 0)),.v .pl (.sc (.slice none 0 0)),.v .pl (.sc (.slice none 0 0))]),(3,.box 23 [.own 11]),(11,.arr 25 ((altK l).map rx))]) 2 6 [(40,.own 11),(41,.own 10),(42,.v .pl (ints (cpt eqI (sortI (altS l))))),(43,.v .pl (rx (.mk 2 (cpt eqI (sortI (altS l))) []))),(44,.v .pl (int (altK l).length)),(45,.v .pl (.sl [.agg [int 0,.sc (.slice none 0 0),.sc (.slice none 0 0)]])),(2,.pbox 2 0),(3,.pbox 3 0),(4,.pbox 4 0)] mixed (by kernel_rfl) (by kernel_rfl) (by kernel_rfl) rfl (by kernel_rfl) (fun t d h=>h) rfl ?_ ?_ ?_ ?_ ?_
  · intro i hi
    rcases (by omega:i=0∨i=1∨i=2∨i=3∨i=4∨i=5) with rfl|rfl|rfl|rfl|rfl|rfl<;>exact ⟨_,_,rfl,rfl⟩
  · intro i o t d hi hia ho hd hG hn
    rcases (by omega:i=0∨i=1∨i=3∨i=4∨i=5) with rfl|rfl|rfl|rfl|rfl
    · injection (show some _ = some o from ho) with ho; subst ho; injection (show some _ = some t from hd) with hd; subst hd; injection (show some _ = some d from hG) with hG; subst hG
      exact pure_load_box rfl ag23 rfl rfl rfl
    · injection (show some _ = some o from ho) with ho; subst ho; injection (show some _ = some t from hd) with hd; subst hd; injection (show some _ = some d from hG) with hG; subst hG
      exact pure_load_box rfl ag22 rfl rfl rfl
    · exact absurd hn (by decide)
    · injection (show some _ = some o from ho) with ho; subst ho; injection (show some _ = some t from hd) with hd; subst hd; injection (show some _ = some d from hG) with hG; subst hG
      exact pure_lenm rfl Tryz.underlying23 rfl
    · injection (show some _ = some o from ho) with ho; subst ho; injection (show some _ = some t from hd) with hd; subst hd; injection (show some _ = some d from hG) with hG; subst hG
      exact pure_lit rfl Tryz.underlying23 el25 rfl rfl rfl rfl hM0
  · intro i o t d hi hia ho hd hG hn
    rcases (by omega:i=0∨i=1∨i=3∨i=4∨i=5) with rfl|rfl|rfl|rfl|rfl
    · injection (show some _ = some o from ho) with ho; subst ho; injection (show some _ = some t from hd) with hd; subst hd; injection (show some _ = some d from hG) with hG; subst hG
      exact pure_load_box rfl ag23 rfl rfl rfl
    · exact absurd hn (by decide)
    · injection (show some _ = some o from ho) with ho; subst ho; injection (show some _ = some t from hd) with hd; subst hd; injection (show some _ = some d from hG) with hG; subst hG
      exact pure_norm (pure_build rfl pl25 ze25 rfl rfl rfl) rfl
    · injection (show some _ = some o from ho) with ho; subst ho; injection (show some _ = some t from hd) with hd; subst hd; injection (show some _ = some d from hG) with hG; subst hG
      exact pure_lenm rfl Tryz.underlying23 rfl
    · injection (show some _ = some o from ho) with ho; subst ho; injection (show some _ = some t from hd) with hd; subst hd; injection (show some _ = some d from hG) with hG; subst hG
      exact pure_lit rfl Tryz.underlying23 el25 rfl rfl rfl rfl hM0
  · intro o X ho hXn hXG hXr
    have hX41:41∈looks _ o→X.lookup 41=some (.own 10):=fun h=>(hXr 41 h).trans rfl
    injection (show some _=some o from ho) with ho'
    obtain ⟨s',g1,g2⟩:=step_eat (o:=o) (f:=113) (ats:=#[22]) (n:=81) (X:=X) (o1:=[(2,.box 25 [.v .pl (.sc (.int .i64 0)),.v .pl (.sc (.slice none 0 0)),.v .pl (.sc (.slice none 0 0))]),(3,.box 23 [.own 11]),(4,.box 22 [.own 10]),(10,.arr 3 ((sortI (altS l)).map int)),(11,.arr 25 ((altK l).map rx))]) (o2:=[(2,.box 25 [.v .pl (.sc (.int .i64 0)),.v .pl (.sc (.slice none 0 0)),.v .pl (.sc (.slice none 0 0))]),(3,.box 23 [.own 11]),(11,.arr 25 ((altK l).map rx))]) (t:=42) (u:=41) (id:=10) (by rw [← ho'];rfl) (by rw [← ho'];rfl) rfl rfl (hX41 (by rw [← ho'];decide)) hXn rfl (compact_call (l:=sortI (altS l)) (by omega)) (fun t' d h hne=>all_safe (u:=41) (by rfl) (hXG t' d h) hne) rfl (HasA.out (o1:=[(2,.box 25 [.v .pl (.sc (.int .i64 0)),.v .pl (.sc (.slice none 0 0)),.v .pl (.sc (.slice none 0 0))]),(3,.box 23 [.own 11]),(4,.box 22 [.own 10]),(10,.arr 3 ((sortI (altS l)).map int)),(11,.arr 25 ((altK l).map rx))]) (o2:=[(2,.box 25 [.v .pl (.sc (.int .i64 0)),.v .pl (.sc (.slice none 0 0)),.v .pl (.sc (.slice none 0 0))]),(3,.box 23 [.own 11]),(11,.arr 25 ((altK l).map rx))]) ⟨⟨_,rfl,rfl⟩,⟨_,rfl,rfl⟩,⟨_,rfl,rfl⟩,trivial⟩) hM0
    exact ⟨42,_,s',by rw [← ho'];rfl,rfl,g1,g2⟩
  refine endL_of (n:=4) (by kernel_rfl) ?_
  refine ex_one (i:=6) (by kernel_rfl) rfl rfl (step_append rfl rfl rfl rfl Tryz.underlying23 el25 rfl rfl hM0 (src_pl rfl (one_len (by rfl))) (by first|(simp only [ll];omega)|omega) (by first|(simp only [ll];omega)|omega)) ?_
  refine ex_two (i:=7) (j:=9) (by kernel_rfl) rfl rfl rfl rfl (st_pure rfl rfl (pure_index_own rfl Tryz.underlying23 sz25 rfl rfl rfl (by first|(simp only [ll];omega)|omega))) (step_store_box_own rfl rfl rfl sz23 rfl rfl rfl rfl rfl hM0) ?_ ?_
  refine ex_two (i:=8) (j:=9) (by kernel_rfl) rfl rfl rfl rfl (step_store_pel rfl rfl rfl sz25 rfl rfl (get_lastm rx (altK l) _) rfl rfl (.inl rfl) rfl (Nat.le_of_ble_eq_true rfl) hM0) (step_store_box_own rfl rfl rfl sz23 rfl rfl rfl rfl rfl hM0) ?_ ?_
  refine ex_one (i:=9) (by kernel_rfl) rfl rfl (step_store_box_own rfl rfl rfl sz23 rfl rfl rfl rfl rfl hM0) ?_
  refine ex_end (by kernel_rfl) ?_
  refine xD tb hM0 0 [2,3] [2,3,11] rfl ?_
  refine cx ?_;rotate_left
  refine ex_one (i:=8) (by kernel_rfl) rfl rfl (step_store_pel rfl rfl rfl sz25 rfl rfl (get_lastm rx (altK l) _) rfl rfl (.inl rfl) rfl (Nat.le_of_ble_eq_true rfl) hM0) ?_
  refine ex_end (by kernel_rfl) ?_
  refine xD tb hM0 0 [2,3] [2,3,11] rfl ?_
  refine cx ?_;rotate_left
  refine ex_one (i:=7) (by kernel_rfl) rfl rfl (st_pure rfl rfl (pure_index_own rfl Tryz.underlying23 sz25 rfl rfl rfl (by first|(simp only [ll];omega)|omega))) ?_
  refine ex_one (i:=8) (by kernel_rfl) rfl rfl (step_store_pel rfl rfl rfl sz25 rfl rfl (get_lastm rx (altK l) _) rfl rfl (.inl rfl) rfl (Nat.le_of_ble_eq_true rfl) hM0) ?_
  refine ex_end (by kernel_rfl) ?_
  refine xD tb hM0 0 [2,3] [2,3,11] rfl ?_
  refine cx ?_;rotate_left
  refine xA tb hM0 2 [2,3] [2,3,11] rfl ?_
  refine cx ?_
  rw [altM_f (by show ¬ 0<(putSs (altL l)).length;omega)];rfl
  rintro zs ⟨rfl⟩
  refine xA tb hM0 3 [2,3,48] [2,3,11] rfl ?_
  refine oS rfl (step_sortK (cells:=rxc) (cf:=cmpR) (p:=fun z=>wd z≤1099511627776) sortsR rfl rfl rfl rfl rfl rfl rfl sz25 (by decide) hMs (fun a b ha hb=>compare_callW _ a b (Nat.le_refl _) ha hb) compare_callable (fun a _=>cmpR_irr a) (fun a b c _ _ _=>cmpR_trans a b c) (fun a b _ _=>cmpR_tot) (by omega) hM0) rfl ?_
  refine xA tb hM0 3 [2,3] [2,3,11] rfl ?_
  rw [sortR_merge]
  refine xA tb hM0 2 [2,3,50] [2,3,11] rfl ?_
  refine oS rfl (step_callO [(0,11)] rfl rfl rfl rfl rfl rfl rfl (compactF_call (eq:=eqR) (l:=sortR (altM (altS l) (altK l))) (by rw [sortR_len];omega) (fun x hx y hy=>alt2_callW (hMs _ (sortR_mem.1 hx)) (hMs _ (sortR_mem.1 hy)))) ⟨.inl rfl,.inl rfl,trivial⟩ ⟨rfl,trivial⟩ rfl rfl rfl rfl rfl hM0) rfl ?_
  refine ol_frz 81 [(2,_),(3,_),(51,_)] [(2,_),(3,_)] hM0 rfl ⟨.inl rfl,.inl rfl,.inr ⟨_,_,rfl,rfl,rfl⟩,trivial⟩ ⟨rfl,rfl,trivial⟩ ?_
  refine xO tb hM0 3 [2,3] [2,3] rfl ?_
  refine ct (fun zs=>zs=⟨81,[(2,.pbox 2 0),(3,.pbox 3 0)],[(2,.box 25 [.v .pl (.sc (.int .i64 0)),.v .pl (.sc (.slice none 0 0)),.v .pl (.sc (.slice none 0 0))]),(3,.box 23 [.v .pl (rxs (altC (altD l)))])]⟩) ?_ ?_
  refine xA tb hM0 3 [2,3,52] [2,3] rfl ?_
  refine oP rfl (pure_lenm rfl Tryz.underlying23 rfl) ?_
  refine xA tb hM0 2 [2,3,55] [2,3] rfl ?_
  refine spO 55 rfl ?_ ?_<;>intro h5'<;>try simp only [dq] at h5'
  refine xA tb hM0 1 [2,3,55,56] [2,3] rfl ?_
  refine oP rfl (pure_ix rfl Tryz.underlying23 sz25 rfl rfl (by omega) (fun _=>rfl)) ?_
  refine xA tb hM0 5 [2,3,62] [2,3] rfl ?_
  refine spO 62 rfl ?_ ?_<;>intro h6'<;>try simp only [dq] at h6'
  refine xA tb hM0 1 [2,3,62,63] [2,3] rfl ?_
  refine oP rfl (pure_slice_lm rfl Tryz.underlying23 sz25 rfl rfl (by first|(simp only [ll];omega)|omega) (fun _=>rfl)) ?_
  refine oP rfl (pure_call rfl rfl rfl (hasR_call (p:=accR) (l:=(altD l).drop 1) (by simp;omega) (fun x hx=>empty_callW _ _ (Nat.le_refl _) (hMs _ (altD_mem (List.mem_of_mem_drop hx))))) hM0) ?_
  refine xA tb hM0 3 [2,3,66] [2,3] rfl ?_
  refine spC 66 rfl ?_ ?_<;>intro h7<;>try simp only [dq] at h7
  refine xA tb hM0 3 [2,3,67] [2,3] rfl ?_
  refine oP rfl (pure_slice_lm rfl Tryz.underlying23 sz25 rfl rfl (by first|(simp only [ll];omega)|omega) (fun _=>rfl)) ?_
  refine xA tb hM0 2 [2,3] [2,3] rfl ?_
  refine cx ?_;rotate_left
  refine xA tb hM0 2 [2,3] [2,3] rfl ?_
  refine cx ?_;rotate_left
  refine xA tb hM0 8 [2,3] [2,3] rfl ?_
  refine cx ?_;rotate_left
  refine xA tb hM0 15 [2,3] [2,3] rfl ?_
  refine cx ?_;rotate_left
  rintro zs ⟨rfl⟩
  refine xA tb hM0 4 [2,3,69] [2,3] rfl ?_
  refine oP rfl (pure_lenm rfl Tryz.underlying23 rfl) ?_
  refine xA tb hM0 9 [2,3,70,71] [2,3] rfl ?_
  refine spC 71 rfl ?_ ?_<;>intro h8<;>try simp only [dq] at h8
  refine xA tb hM0 10 [] [] rfl ?_
  refine endC_ret rfl ?_;rotate_left
  refine xA tb hM0 7 [2,3,74] [2,3] rfl ?_
  refine spC 74 rfl ?_ ?_<;>intro h9<;>try simp only [dq] at h9
  refine xA tb hM0 4 [2,76] [2] rfl ?_
  refine oP rfl (pure_ix rfl Tryz.underlying23 sz25 rfl rfl (by omega) (fun _=>rfl)) ?_
  refine xA tb hM0 7 [] [] rfl ?_
  refine endC_ret rfl ?_;rotate_left
  refine xA tb hM0 12 [] [] rfl ?_
  refine endC_ret rfl ?_;rotate_left
  all_goals first
   | (
     have h4u:0<(altS l).length:=by show 0<(putSs (altL l)).length;omega
     rw [altM_t h4u,← set_last (z:=.agg [int 0,.sc (.slice none 0 0),.sc (.slice none 0 0)])];rfl;done)
   | (
     first
       | (rw [altC_t (k:=altD l) (by show 1<(cpt eqR (sortR (altM (altS l) (altK l)))).length;omega) h6' h7];rfl)
       | (rw [altC_f (k:=altD l) (fun q=>absurd q.1 (by show ¬ 1<(cpt eqR (sortR (altM (altS l) (altK l)))).length;omega))];rfl)
       | (rw [altC_f (k:=altD l) (fun q=>h6' q.2.1)];rfl)
       | (rw [altC_f (k:=altD l) (fun q=>by rw [q.2.2] at h7;cases h7)];rfl);done)
   | (
     first
       | (rw [show altN l=noneRx from altE_0 (k:=altC (altD l)) (by omega)];rfl)
       | (rw [show altN l=_ from altE_1 (k:=altC (altD l)) (by omega)];rfl)
       | (rw [show altN l=_ from altE_2 (k:=altC (altD l)) (by omega) (by omega),rx_mk];rfl);done)
end Go.Proofs.YtgdehkimfmfofaaGreat

namespace Go.Proofs.YtgdehkimfmfofaaGreat
open Go.Am Go.Wb
set_option maxRecDepth 100000 in
set_option maxHeartbeats 8000000 in
theorem derive_callW {B : Nat} (hB : B ≤ 274877906000) (a : Int) : ∀ (m : Nat) (r : Rx), r.size ≤ m → Nf r → wd r ≤ B → DOk B a r → CallN Tryz.prog 55 [rx r, int a] (.p (rx (dR a r))) := by
  refine fun m=>Nat.strongRecOn m fun m ih=>?_
  intro r hm hn hw hd
  have hv:=nf_valid hn
  have hl:=(wd_le.1 hw).1.2
  have hsy:=(wd_le.1 hw).1.1
  have h5l:r.kind=5→0<r.kids.length:=fun h=>by rw [(valid_5 hv h).2];decide
  have hset:r.kind=2→setOk r.syms=true:=fun h=>by rw [validR_2 h,Bool.and_eq_true] at hv;exact hv.2
  have hkw:∀ i,i<r.kids.length→wd (r.kids.getD i default)≤B:=fun i hi=>wd_kid hw (kid_mem hi)
  have hkn:∀ x∈r.kids,Nf x:=fun x hx=>hn.kid hx
  have kb:∀ i,i<r.kids.length→CallN Tryz.prog 55 [rx (r.kids.getD i default),int a] (.p (rx (dR a (r.kids.getD i default)))):=fun i hi =>
    ih _ (Nat.lt_of_lt_of_le (kid_lt hi) hm) _ (Nat.le_refl _) (hkn _ (kid_mem hi)) (hkw i hi) (hd.hk _ (kid_mem hi))
  have e0:r.kind=5→rx ((r.kids.map (dR a)).getD 0 default)=rx (dR a (r.kids.getD 0 default)):=fun h=>by rw [getD_map (h5l h)]
  have hs1:r.kind=3→∀ i,CallN Tryz.prog 77 [rxs (r.kids.drop (i+1))] (.p (rx (seqN (r.kids.drop (i+1))))):=fun h3 i =>
    seq_callB (B:=B) (by omega) (by rw [List.length_drop];omega) (by rw [seqL_drop hn h3,List.length_drop];omega) fun x hx=>wd_kid hw (List.mem_of_mem_drop hx)
  have hs2:r.kind=3→∀ i,i<r.kids.length→CallN Tryz.prog 77 [rxs [dR a (r.kids.getD i default),seqN (r.kids.drop (i+1))]] (.p (rx (dQ a r.kids i))):=fun h3 i hi=>by
    have h1:=hd.hs (.inl h3) _ (kid_mem hi)
    have h2:=seqF_seqN_len (r.kids.drop (i+1)) fun x hx=>hkn x (List.mem_of_mem_drop hx)
    have h4:wd (seqN (r.kids.drop (i+1)))≤B:=seqN_wd (by rw [seqL_drop hn h3,List.length_drop];omega) fun x hx=>wd_kid hw (List.mem_of_mem_drop hx)
    rw [seqL_drop hn h3,List.length_drop] at h2
    refine seq_callB (B:=B+B) (by omega) (by show 2≤_;omega) ?_ fun x hx=>?_
    · show (seqF _ ++ (seqF _ ++ [])).length ≤ _
      rw [List.append_nil,List.length_append];omega
    · rcases List.mem_cons.1 hx with rfl | hx
      · omega
      · rw [List.mem_singleton.1 hx];omega
  have hs3:r.kind=5→CallN Tryz.prog 77 [rxs [dR a (r.kids.getD 0 default),r]] (.p (rx (seqN [dR a (r.kids.getD 0 default),r]))):=fun h5=>by
    have h1:=hd.hs (.inr h5) _ (kid_mem (h5l h5))
    have:=h5l h5
    refine seq_callB (B:=B+B) (by omega) (by show 2≤_;omega) ?_ fun x hx=>?_
    · show (seqF _ ++ (seqF _ ++ [])).length ≤ _
      rw [List.append_nil,List.length_append,seqF_x (x:=r) (by omega) (by omega)]
      show _+1≤_
      omega
    · rcases List.mem_cons.1 hx with rfl | hx
      · omega
      · rw [List.mem_singleton.1 hx];omega
  have hal:CallN Tryz.prog 78 [rxs (dL a r)] (.p (rx (altN (dL a r)))):=by
    refine alt_callW (B:=B) (by omega) ?_ ?_
    · unfold dL
      split
      · rw [List.length_map];omega
      · split
        · have:=dRq_len a r.kids;omega
        · exact Nat.zero_le _
    · unfold dL
      split
      · exact hd.h4 ‹_›
      · split
        · exact hd.h3 ‹_›
        · exact ⟨Nat.zero_le _,Nat.zero_le _,fun x hx=>by cases hx⟩
  rw [rx_eq r]
  refine callN_of_codeC fn55 (Nat.le_of_ble_eq_true rfl) fun w0 M0 hM0=>?_
  refine xC tb hM0 2 [0,1] [] rfl ?_
  refine oP rfl (pure_box rfl rfl rfl hM0) ?_
  refine xA tb hM0 5 [1,2,4] [4] rfl ?_
  refine oS rfl (step_nil rfl rfl rfl rfl rfl 25 hM0) rfl ?_
  refine xA tb hM0 2 [1,2,4,5] [4,5] rfl ?_
  refine ct (fun zs=>(r.kind≠5∧(r.kind=2→¬ a∈r.syms))∧zs=⟨82,[(4,.pbox 4 0),(5,.own 5)],[(4,.box 25 [.v .pl (.sc (.int .i64 0)),.v .pl (.sc (.slice none 0 0)),.v .pl (.sc (.slice none 0 0))]),(5,.arr 25 ((dL a r).map rx))]⟩) ?_ ?_
  refine xA tb hM0 13 [1,2,4,5,13,14] [4,5] rfl ?_
  refine spC 14 rfl ?_ ?_<;>intro h1<;>try simp only [dq] at h1
  refine xA tb hM0 6 [4,5,18,19] [4,5] rfl ?_
  refine oP rfl (pure_call rfl rfl rfl (bs_call (setOk_iff.1 (hset (by omega))).2.1 (by omega)) hM0) ?_
  refine xA tb hM0 12 [4,5,23] [4,5] rfl ?_
  refine spC 23 rfl ?_ ?_<;>intro h2<;>try simp only [dq] at h2
  refine xA tb hM0 10 [] [] rfl ?_
  refine endC_ret rfl ?_;rotate_left
  refine xA tb hM0 3 [4,5] [4,5] rfl ?_
  refine cx ?_;rotate_left
  refine xA tb hM0 7 [1,2,4,5,13,25] [4,5] rfl ?_
  refine spC 25 rfl ?_ ?_<;>intro h3<;>try simp only [dq] at h3
  refine xA tb hM0 5 [1,4,5,28] [4,5] rfl ?_
  refine oP rfl (pure_lenm rfl Tryz.underlying23 rfl) ?_
  refine xA tb hM0 4 [1,4,5,28,29,30] [4,5] rfl ?_
  refine lp (fun zm zs=>∃ i:Nat,zm=r.kids.length-i∧(i≤r.kids.length)∧zs=⟨82,[(1,.v .pl (int a)),(4,.pbox 4 0),(5,.own 5),(28,.v .pl (rxs r.kids)),(29,.v .pl (int r.kids.length)),(30,.v .pl (int i))],[(4,.box 25 [.v .pl (.sc (.int .i64 0)),.v .pl (.sc (.slice none 0 0)),.v .pl (.sc (.slice none 0 0))]),(5,.arr 25 (((r.kids.take i).map (dR a)).map rx))]⟩) ?_ ?_
  exact ⟨_,0,rfl,Nat.zero_le _,rfl⟩
  rintro zm zs ⟨i,rfl,hL1_0,rfl⟩
  refine xA tb hM0 6 [1,4,5,28,29,30,31] [4,5] rfl ?_
  refine spC 31 rfl ?_ ?_<;>intro h4<;>try simp only [dq] at h4
  refine xA tb hM0 7 [1,4,5,28,29,30] [4,5] rfl ?_
  refine oP rfl (pure_ix rfl Tryz.underlying23 sz25 rfl rfl (by omega) (fun _=>rfl)) ?_
  refine xA tb hM0 9 [1,4,28,29,30,34,35,36] [4,5] rfl ?_
  refine oP rfl (pure_callN rfl rfl rfl rfl (kb _ (by omega)) hM0) ?_
  refine oP rfl (pure_lit rfl Tryz.underlying23 el25 rfl rfl rfl rfl hM0) ?_
  refine xA tb hM0 0 [1,4,28,29,30,34,38] [4,5] rfl ?_
  refine oS rfl (step_append rfl rfl rfl rfl Tryz.underlying23 el25 rfl rfl hM0 (src_pl rfl (one_len (by rfl))) (by first|(simp only [ll];omega)|omega) (by first|(simp only [ll];omega)|omega)) rfl ?_
  refine xA tb hM0 5 [1,4,5,28,29,30] [4,5] rfl ?_
  refine oP rfl (pure_addi rfl rfl rfl (by omega)) ?_
  refine xA tb hM0 2 [1,4,5,28,29,30] [4,5] rfl ?_
  refine nx ?_
  exact ⟨_,⟨i+1,rfl,by omega,by rw [take_succ' (by omega),List.map_append,List.map_append];rfl⟩,by omega⟩
  refine xA tb hM0 6 [4,5] [4,5] rfl ?_
  refine cx ?_;rotate_left
  refine xA tb hM0 7 [1,2,4,5,13,41] [4,5] rfl ?_
  refine spC 41 rfl ?_ ?_<;>intro h5<;>try simp only [dq] at h5
  refine xA tb hM0 5 [1,2,4,5,44] [4,5] rfl ?_
  refine oP rfl (pure_lenm rfl Tryz.underlying23 rfl) ?_
  refine xA tb hM0 4 [1,2,4,5,44,45,46] [4,5] rfl ?_
  refine lp (fun zm zs=>∃ i:Nat,zm=r.kids.length-i∧(i≤r.kids.length)∧(∀ j,j<i→accR (r.kids.getD j default)=true)∧zs=⟨82,[(1,.v .pl (int a)),(2,.v .pl (rpc r)),(4,.pbox 4 0),(5,.own 5),(44,.v .pl (rxs r.kids)),(45,.v .pl (int r.kids.length)),(46,.v .pl (int i))],[(4,.box 25 [.v .pl (.sc (.int .i64 0)),.v .pl (.sc (.slice none 0 0)),.v .pl (.sc (.slice none 0 0))]),(5,.arr 25 (((List.range i).map (dQ a r.kids)).map rx))]⟩) ?_ ?_
  exact ⟨_,0,rfl,Nat.zero_le _,fun j hj=>absurd hj (by omega),rfl⟩
  rintro zm zs ⟨i,rfl,hL2_0,hL2_1,rfl⟩
  skip
  refine xA tb hM0 6 [1,2,4,5,44,45,46,47] [4,5] rfl ?_
  refine spC 47 rfl ?_ ?_<;>intro h6<;>try simp only [dq] at h6
  refine xA tb hM0 8 [1,2,4,5,44,45,46,48] [4,5] rfl ?_
  refine oP rfl (pure_ix rfl Tryz.underlying23 sz25 rfl rfl (by omega) (fun _=>rfl)) ?_
  refine xA tb hM0 7 [1,2,4,5,10,11,44,45,46] [4,5,11] rfl ?_
  refine code_draw mixed (by kernel_rfl) _ rfl ?_
  refine dl_pure rfl rfl rfl (pure_move rfl rfl) ?_
  refine dl_pure rfl rfl rfl (pure_load_box_agg rfl ag25 sz25 rfl rfl rfl rfl) ?_
  refine dl_pure rfl rfl rfl (pure_move rfl rfl) ?_
  refine dl_pure rfl rfl rfl (pure_callN rfl rfl rfl rfl (kb _ (by omega)) hM0) ?_
  refine dl_pure rfl rfl rfl (pure_field rfl fd25_2 rfl) ?_
  refine dl_pure rfl rfl rfl (pure_load rfl ag23 rfl rfl) ?_
  refine dl_pure rfl rfl rfl (pure_move rfl rfl) ?_
  refine dpk 82 [(1,_),(2,_),(4,_),(11,_),(44,_),(45,_),(46,_),(51,_),(54,_),(56,_),(57,_)] [(4,_),(5,_),(11,_)] rfl rfl rfl ?_
  refine dl_pure rfl rfl rfl (pure_addi rfl rfl rfl (by omega)) ?_
  refine dl_pure rfl rfl rfl (pure_slice_lm rfl Tryz.underlying23 sz25 rfl rfl (by first|(simp only [ll];omega)|omega) (fun _=>rfl)) ?_
  refine dl_pure rfl rfl rfl (pure_callN rfl rfl rfl rfl (hs1 (by omega) i) hM0) ?_
  refine dl_pure rfl rfl rfl (pure_lit rfl Tryz.underlying23 el25 rfl rfl rfl rfl hM0) ?_
  refine dl_pure rfl rfl rfl (pure_callN rfl rfl rfl rfl (hs2 (by omega) i (by omega)) hM0) ?_
  refine dl_pure rfl rfl rfl (pure_lit rfl Tryz.underlying23 el25 rfl rfl rfl rfl hM0) ?_
  refine dl_tails (by kernel_rfl) ?_
  refine tl_step rfl (step_append rfl rfl rfl rfl Tryz.underlying23 el25 rfl rfl hM0 (src_pl rfl (one_len (by rfl))) (by first|(simp only [ll];omega)|omega) (by first|(simp only [ll];omega)|omega)) ?_
  refine tl_pure rfl rfl rfl (pure_assign rfl rfl) ?_
  refine tl_nil ?_
  refine xD tb hM0 4 [1,2,4,5,44,45,46,65] [4,5] rfl ?_
  refine oP rfl (pure_call rfl rfl rfl (empty_callW _ _ (Nat.le_refl _) (by have:=hkw i (by omega);omega)) hM0) ?_
  refine xA tb hM0 3 [1,2,4,5,44,45,46,67] [4,5] rfl ?_
  refine spC 67 rfl ?_ ?_<;>intro h7<;>try simp only [dq] at h7
  refine xA tb hM0 7 [4,5] [4,5] rfl ?_
  refine cx ?_;rotate_left
  refine xA tb hM0 5 [1,2,4,5,44,45,46] [4,5] rfl ?_
  refine oP rfl (pure_addi rfl rfl rfl (by omega)) ?_
  refine xA tb hM0 2 [1,2,4,5,44,45,46] [4,5] rfl ?_
  refine nx ?_
  exact ⟨_,⟨i+1,rfl,by omega,all_step hL2_1 (by first|assumption|simpa using h5|(simp_all;done)),by rw [List.range_succ,List.map_append,List.map_append];rfl⟩,by omega⟩
  refine xA tb hM0 6 [4,5] [4,5] rfl ?_
  refine cx ?_;rotate_left
  refine xA tb hM0 7 [1,2,4,5,69] [4,5] rfl ?_
  refine spC 69 rfl ?_ ?_<;>intro h8<;>try simp only [dq] at h8
  refine xA tb hM0 2 [1,2,4] [4] rfl ?_
  refine code_draw mixed (by kernel_rfl) _ rfl ?_
  refine dl_pure rfl rfl rfl (pure_field rfl fd25_2 rfl) ?_
  refine dl_pure rfl rfl rfl (pure_load rfl ag23 rfl rfl) ?_
  refine dl_pure rfl rfl rfl (pure_ix rfl Tryz.underlying23 sz25 rfl rfl (by omega) (fun _=>rfl)) ?_
  refine dl_pure rfl rfl rfl (pure_load_agg rfl ag25 sz25 rfl (Nat.le_of_ble_eq_true rfl)) ?_
  refine dl_pure rfl rfl rfl (pure_move rfl rfl) ?_
  refine dl_pure rfl rfl rfl (pure_callN rfl rfl rfl rfl (kb 0 (h5l (by omega))) hM0) ?_
  refine dl_pure rfl rfl rfl (pure_load_agg rfl ag25 sz25 rfl (Nat.le_of_ble_eq_true rfl)) ?_
  refine dl_pure rfl rfl rfl (pure_lit rfl Tryz.underlying23 el25 rfl rfl rfl rfl hM0) ?_
  refine dl_pure rfl rfl rfl (pure_callN rfl rfl rfl rfl (by have h:=hs3 (by omega);rw [show rxs [dR a (r.kids.getD 0 default),r]=.sl [rx (dR a (r.kids.getD 0 default)),rx r] from rfl,rx_eq r] at h;exact h) hM0) ?_
  refine dl_tails (by kernel_rfl) ?_
  refine tl_step rfl (step_store_box rfl rfl rfl sz25 rfl rfl rfl rfl (by decide) rfl rfl hM0) ?_
  refine tl_nil ?_
  refine xD tb hM0 4 [] [] rfl ?_
  refine endC_ret rfl ?_;rotate_left
  refine xA tb hM0 3 [4,5] [4,5] rfl ?_
  refine cx ?_;rotate_left
  rintro zs ⟨hC22_0,rfl⟩
  refine xA tb hM0 1 [4,5] [4,5] rfl ?_
  refine code_frz 82 [(4,_),(5,_)] [(4,_)] hM0 rfl ⟨.inl rfl,.inr ⟨_,_,rfl,rfl,rfl⟩,trivial⟩ ⟨rfl,trivial⟩ ?_
  refine xK tb hM0 2 [4,80] [4] rfl ?_
  refine oP rfl (pure_callN rfl rfl rfl rfl (hal) hM0) ?_
  refine xA tb hM0 4 [] [] rfl ?_
  refine endC_ret rfl ?_;rotate_left
  all_goals first
   | (
     first|(rw [dR_2 (by omega) (by assumption)];rfl)|(rw [dR_5k (by omega) (h5l (by omega))];rfl)|(rw [dR_x hC22_0.1 hC22_0.2];rfl);done)
   | (
     refine ⟨⟨by omega,fun h=>by first|assumption|omega⟩,?_⟩
     first
       | (rw [dL_x (by omega) (by omega)];rfl)
       | (rw [dL_4 (by omega),List.take_of_length_le (by omega)];first|done|rfl)
       | (rw [dL_3 (by omega),dRq_end (i:=i) (by omega) hL2_1];done)
       | (rw [dL_3 (by omega),dRq_stop (i:=i) (by omega) hL2_1 (by assumption),List.range_succ,List.map_append,List.map_append];rfl);done)
set_option maxRecDepth 100000 in
set_option maxHeartbeats 1000000 in
theorem match_callW {r:Rx} {w:List Int} {B:Nat} (hB:B≤274877906000) (h:r.size≤137438953472) (hw:w.length≤1099511627776) (hM:∀ k,k≤w.length→wd (mtR r w k)≤B∧∀ b,DOk B b (mtR r w k)) :
    CallF Tryz.prog 28 [rx r,ints w] (.p (bool (matchR r w))):=by
  refine callF_of_code fn28 (Nat.le_of_ble_eq_true rfl) fun w0 M0 hM0=>?_
  refine xC tb hM0 2 [0,1] [] rfl ?_
  refine oS rfl (step_box rfl rfl rfl rfl rfl rfl rfl (by decide) hM0) rfl ?_
  refine xA tb hM0 6 [1,2,7] [2] rfl ?_
  refine oP rfl (pure_call rfl rfl rfl (simS_call (by omega)) hM0) ?_
  refine xA tb hM0 7 [2,9] [2] rfl ?_
  refine oP rfl (pure_lenm rfl Tryz.underlying22 rfl) ?_
  refine xA tb hM0 4 [2,9,10,11] [2] rfl ?_
  refine lp (fun zm zs=>∃ k:Nat,zm=w.length-k∧(k≤w.length)∧zs=⟨21,[(2,.pbox 2 0),(9,.v .mx (ints w)),(10,.v .pl (int w.length)),(11,.v .pl (int k))],[(2,.box 25 [.v .pl (int (mtR r w k).kind),.v .pl (ints (mtR r w k).syms),.v .pl (.sl (Rx.avs (mtR r w k).kids))])]⟩) ?_ ?_
  exact ⟨_,0,rfl,Nat.zero_le _,rfl⟩
  rintro zm zs ⟨k,rfl,hL1_0,rfl⟩
  refine xA tb hM0 6 [2,9,10,11,12] [2] rfl ?_
  refine spC 12 rfl ?_ ?_<;>intro h1<;>try simp only [dq] at h1
  refine xA tb hM0 7 [2,9,10,11] [2] rfl ?_
  refine oP rfl (pure_ix rfl Tryz.underlying22 sz3 rfl rfl (by omega) (fun _=>rfl)) ?_
  refine xA tb hM0 7 [2,9,10,11,15,16] [2] rfl ?_
  refine oP rfl (pure_callN rfl rfl rfl rfl (derive_callW hB _ _ _ (Nat.le_refl _) (mtR_nf r w k) (hM k (by omega)).1 ((hM k (by omega)).2 _)) hM0) ?_
  refine xA tb hM0 5 [2,9,10,11] [2] rfl ?_
  refine oP rfl (pure_addi rfl rfl rfl (by omega)) ?_
  refine xA tb hM0 2 [2,9,10,11] [2] rfl ?_
  refine nx ?_
  exact ⟨_,⟨k+1,rfl,by omega,by rw [mtR_succ (by omega)];rfl⟩,by omega⟩
  refine xA tb hM0 9 [19] [] rfl ?_
  refine oP rfl (pure_call rfl rfl rfl (empty_callW _ _ (Nat.le_refl _) (by have:=(hM k (by omega)).1;omega)) hM0) ?_
  refine xA tb hM0 4 [] [] rfl ?_
  refine end_ret rfl ?_
  rw [show k=w.length by omega];rfl
theorem match_small {r:Rx} {w:List Int} {S N:Nat} (h:r.size≤137438953472) (hS:(simR r).size≤S) (hN:w.length≤N) (hw:N≤1099511627776) (hK:(2*S*(N+2)+66)*(2*S*(N+2)+66)≤274877906000) :
    CallF Tryz.prog 28 [rx r,ints w] (.p (bool (matchR r w))) :=
  match_callW (Nat.le_refl _) h (by omega) fun k hk=>by
    rw [show mtR r w k=Dv (simR r) (w.take k) from rfl]
    have h1:=fun b=>wide_Dv (S:=S) (N:=N) (K:=2*S*(N+2)+66) (B:=274877906000) (Nat.le_refl _) hK b (simR_nf r) hS (v:=w.take k) (by rw [List.length_take];omega)
    exact ⟨(h1 0).1,fun b=>(h1 b).2⟩
end Go.Proofs.YtgdehkimfmfofaaGreat

