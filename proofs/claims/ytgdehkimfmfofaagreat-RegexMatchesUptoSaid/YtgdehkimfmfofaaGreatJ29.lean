/-
  Contracts: normal forms of repetitions;copies and exchanges.
-/
import Derived.Test.YtgdehkimfmfofaaGreatJ13
import Derived.Test.YtgdehkimfmfofaaGreatJ28
import Derived.Test.YtgdehkimfmfofaaGreatJ25
import Derived.Test.YtgdehkimfmfofaaGreatJ14
import Derived.Test.YtgdehkimfmfofaaGreatJ10
import Derived.Test.YtgdehkimfmfofaaGreatJ11
set_option linter.unusedVariables false
set_option linter.unusedSectionVars false
set_option linter.unusedSimpArgs false
namespace Go.Proofs.YtgdehkimfmfofaaGreat
open Go.Am Go.Wb
theorem pure_avs {P:Program} {w0:Fr} {M0:Nat→Prop} {o:Oper} {ρ:Operand→Option SV} {ob:List (Nat×Ob)} {c:Cls} {l:List Rx} (h:Pure P w0 M0 o ρ ob (.v c (.sl (Rx.avs l)))):Pure P w0 M0 o ρ ob (.v c (rxs l)):=by
  rw [avs_eq] at h;exact h

theorem fn117:Fn1 Tryz.prog 117 Tryz.f117.ntmps 4 (Tryz.f117.body.getD .skip):=⟨Tryz.f117,Tryz.func117,rfl,rfl,rfl,by kernel_rfl⟩
set_option maxRecDepth 100000 in
set_option maxHeartbeats 1000000 in
theorem alt2_call {x y:Rx} (hx:x.size≤1099511627776) (hy:y.size≤1099511627776):CallF Tryz.prog 117 [rx x,rx y] (.p (bool (eqR x y))):=by
  refine callF_of_code fn117 (Nat.le_of_ble_eq_true rfl) fun w0 M0 hM0=>?_
  refine xC tb hM0 2 [0,1] [] rfl ?_
  refine oP rfl (pure_box rfl rfl rfl hM0) ?_
  refine oP rfl (pure_box rfl rfl rfl hM0) ?_
  refine xA tb hM0 7 [5,6] [] rfl ?_
  refine oP rfl (pure_call rfl rfl rfl (compare_call _ _ _ (Nat.le_refl _) hy hx) hM0) ?_
  refine xA tb hM0 5 [] [] rfl ?_
  refine end_ret rfl ?_
  rfl

theorem compare_callable:Callable Tryz.prog 115:=⟨Tryz.f115,Tryz.func115,by kernel_rfl,by kernel_rfl⟩
theorem fn78:FnC Tryz.prog 78 Tryz.f78.ntmps 2 25 3 (Tryz.f78.body.getD .skip):=⟨Tryz.f78,Tryz.func78,rfl,rfl,rfl,by kernel_rfl,ag25,sz25⟩
set_option maxRecDepth 100000 in
set_option maxHeartbeats 8000000 in
theorem alt_call {l:List Rx} (hs:Rx.sizes l≤549755813888):CallN Tryz.prog 78 [rxs l] (.p (rx (altN l))):=by
  have hl:=sizes_len l
  have hbd:=alt_bd l
  have hM:=altM_sizes (altS l) (altK l)
  have hMl:=sizes_len (altM (altS l) (altK l))
  have hKl:=sizes_len (altK l)
  have hMs:∀ z∈altM (altS l) (altK l),z.size≤1099511627776:=fun z hz=>by have:=size_mem hz;omega
  have hDl:(altD l).length≤1099511627776:=by
    have h1:=cpt_len (eq:=eqR) (l:=sortR (altM (altS l) (altK l)))
    rw [sortR_len] at h1
    show (cpt _ _).length≤_
    omega
  have hSl:=sortI_len (altS l)
  refine callN_of_codeC fn78 (Nat.le_of_ble_eq_true rfl) fun w0 M0 hM0=>?_
  refine xC tb hM0 17 [0,2,3,4] [2,3,4] rfl ?_
  refine oP rfl (pure_fn rfl rfl) ?_
  refine xA tb hM0 5 [0,2,3,4,5] [2,3,4] rfl ?_
  refine code_nilown 3 0 11 25 23 hM0 rfl rfl rfl rfl ?_
  refine code_nilown 4 0 10 3 22 hM0 rfl rfl rfl rfl ?_
  refine xK tb hM0 2 [2,3,4,5,11] [2,3,4,10,11] rfl ?_
  refine oP rfl (pure_lenm rfl Tryz.underlying23 rfl) ?_
  refine xA tb hM0 4 [2,3,4,5,11,12,13] [2,3,4,10,11] rfl ?_
  refine lp (fun zm zs=>∃ i:Nat,zm=l.length-i∧(i≤l.length)∧zs=⟨81,[(2,.pbox 2 0),(3,.pbox 3 0),(4,.pbox 4 0),(5,.fn 111 [.bx 4,.bx 3]),(11,.v .pl (rxs l)),(12,.v .pl (int l.length)),(13,.v .pl (int i))],[(2,.box 25 [.v .pl (.sc (.int .i64 0)),.v .pl (.sc (.slice none 0 0)),.v .pl (.sc (.slice none 0 0))]),(3,.box 23 [.own 11]),(4,.box 22 [.own 10]),(10,.arr 3 ((putSs (altL (l.take i))).map int)),(11,.arr 25 ((putKs (altL (l.take i))).map rx))]⟩) ?_ ?_
  exact ⟨_,0,rfl,Nat.zero_le _,rfl⟩
  rintro zm zs ⟨i,rfl,hL1_0,rfl⟩
  have hb1:=puts_bd (altL (l.take i))
  have hb2:=sizes_altL (l.take i)
  have hb3:=sizes_take_le l i
  have hb4:=sizes_len (putKs (altL (l.take i)))
  have hb5:=fun (h:i<l.length)=>size_mem (kid_mem h)
  have hb6:=syms_len (l.getD i default)
  have hb7:=sizes_take_drop l i
  have hb8:=fun (h:i<l.length)=>sizes_step h
  have hb10:=kids_len (l.getD i default)
  have hb9:=size_eq (l.getD i default)
  refine xA tb hM0 6 [2,3,4,5,11,12,13,14] [2,3,4,10,11] rfl ?_
  refine spC 14 rfl ?_ ?_<;>intro h1<;>try simp only [dq] at h1
  refine xA tb hM0 7 [2,3,4,5,11,12,13] [2,3,4,10,11] rfl ?_
  refine oP rfl (pure_ix rfl Tryz.underlying23 sz25 rfl rfl (by omega) (fun _=>rfl)) ?_
  refine xA tb hM0 13 [2,3,4,5,7,11,12,13,19] [2,3,4,7,10,11] rfl ?_
  refine spC 19 rfl ?_ ?_<;>intro h2<;>try simp only [dq] at h2
  refine xA tb hM0 5 [2,3,4,5,11,12,13,20,21] [2,3,4,10,11] rfl ?_
  refine oS rfl (step_callO [(1000001,4),(1000002,3)] rfl rfl rfl rfl rfl rfl rfl (put_call (x:=l.getD i default) (s:=putSs (altL (l.take i))) (k:=putKs (altL (l.take i))) (by omega) (by omega)) ⟨.inl rfl,.inl rfl,.inl rfl,trivial⟩ ⟨rfl,rfl,rfl,rfl,trivial⟩ rfl rfl rfl rfl rfl hM0) rfl ?_
  refine xA tb hM0 7 [2,3,4,5,11,12,13] [2,3,4,10,11] rfl ?_
  refine oP rfl (pure_addi rfl rfl rfl (by omega)) ?_
  refine xA tb hM0 2 [2,3,4,5,11,12,13] [2,3,4,10,11] rfl ?_
  refine nx ?_
  refine ⟨_,⟨i+1,rfl,by omega,?_⟩,by omega⟩
  rw [altL_succ (by omega),altF_x (by omega),putSs_app,putKs_app];rfl
  refine xA tb hM0 6 [2,3,4,5,11,12,13,23] [2,3,4,7,10,11] rfl ?_
  refine oP rfl (pure_avs (pure_load_box rfl ag23 rfl rfl rfl)) ?_
  refine oP rfl (pure_lenm rfl Tryz.underlying23 rfl) ?_
  refine xA tb hM0 4 [2,3,4,5,11,12,13,24,25,26] [2,3,4,10,11] rfl ?_
  refine lp (fun zm zs=>∃ j:Nat,zm=(l.getD i default).kids.length-j∧(j≤(l.getD i default).kids.length)∧zs=⟨81,[(2,.pbox 2 0),(3,.pbox 3 0),(4,.pbox 4 0),(5,.fn 111 [.bx 4,.bx 3]),(11,.v .pl (rxs l)),(12,.v .pl (int l.length)),(13,.v .pl (int i)),(24,.v .pl (rxs (l.getD i default).kids)),(25,.v .pl (int (l.getD i default).kids.length)),(26,.v .pl (int j))],[(2,.box 25 [.v .pl (.sc (.int .i64 0)),.v .pl (.sc (.slice none 0 0)),.v .pl (.sc (.slice none 0 0))]),(3,.box 23 [.own 11]),(4,.box 22 [.own 10]),(10,.arr 3 ((putSs (altL (l.take i)++(l.getD i default).kids.take j)).map int)),(11,.arr 25 ((putKs (altL (l.take i)++(l.getD i default).kids.take j)).map rx))]⟩) ?_ ?_
  refine ⟨_,0,rfl,Nat.zero_le _,?_⟩
  rw [List.take_zero,List.append_nil];rfl
  rintro zm zs ⟨j,rfl,hL2_0,rfl⟩
  have hc0:=hb5 (by omega)
  have hc8:=hb8 (by omega)
  have hc1:=puts_bd (altL (l.take i)++(l.getD i default).kids.take j)
  rw [sizes_append] at hc1
  have hc2:=sizes_take_le (l.getD i default).kids j
  have hc3:=sizes_len (putKs (altL (l.take i)++(l.getD i default).kids.take j))
  have hc4:=fun (h:j<(l.getD i default).kids.length)=>size_mem (kid_mem h)
  have hc5:=syms_len ((l.getD i default).kids.getD j default)
  refine xA tb hM0 6 [2,3,4,5,11,12,13,24,25,26,27] [2,3,4,10,11] rfl ?_
  refine spC 27 rfl ?_ ?_<;>intro h3<;>try simp only [dq] at h3
  refine xA tb hM0 7 [2,3,4,5,11,12,13,24,25,26] [2,3,4,10,11] rfl ?_
  refine oP rfl (pure_ix rfl Tryz.underlying23 sz25 rfl rfl (by omega) (fun _=>rfl)) ?_
  refine xA tb hM0 8 [2,3,4,5,11,12,13,24,25,26,30,31] [2,3,4,10,11] rfl ?_
  refine oS rfl (step_callO [(1000001,4),(1000002,3)] rfl rfl rfl rfl rfl rfl rfl (put_call (x:=(l.getD i default).kids.getD j default) (s:=putSs (altL (l.take i)++(l.getD i default).kids.take j)) (k:=putKs (altL (l.take i)++(l.getD i default).kids.take j)) (by omega) (by omega)) ⟨.inl rfl,.inl rfl,.inl rfl,trivial⟩ ⟨rfl,rfl,rfl,rfl,trivial⟩ rfl rfl rfl rfl rfl hM0) rfl ?_
  refine xA tb hM0 4 [2,3,4,5,11,12,13,24,25,26] [2,3,4,10,11] rfl ?_
  refine oP rfl (pure_addi rfl rfl rfl (by omega)) ?_
  refine xA tb hM0 2 [2,3,4,5,11,12,13,24,25,26] [2,3,4,10,11] rfl ?_
  refine nx ?_
  refine ⟨_,⟨j+1,rfl,by omega,?_⟩,by omega⟩
  rw [putSs_kid (by omega),putKs_kid (by omega)];rfl
  refine xA tb hM0 8 [2,3,4,5,11,12,13] [2,3,4,10,11] rfl ?_
  refine oP rfl (pure_addi rfl rfl rfl (by omega)) ?_
  refine xA tb hM0 2 [2,3,4,5,11,12,13] [2,3,4,10,11] rfl ?_
  refine nx ?_
  refine ⟨_,⟨i+1,rfl,by omega,?_⟩,by omega⟩
  rw [altL_succ (by omega),altF_4 (by omega),show (l.getD i default).kids.take j=(l.getD i default).kids from List.take_of_length_le (by omega)];rfl
  refine xA tb hM0 6 [2,3,4] [2,3,4,10,11] rfl ?_
  refine ct (fun zs=>zs=⟨81,[(2,.pbox 2 0),(3,.pbox 3 0)],[(2,.box 25 [.v .pl (.sc (.int .i64 0)),.v .pl (.sc (.slice none 0 0)),.v .pl (.sc (.slice none 0 0))]),(3,.box 23 [.own 11]),(11,.arr 25 ((altM (altS l) (altK l)).map rx))]⟩) ?_ ?_
  refine xA tb hM0 1 [2,3,4] [2,3,4,10,11] rfl ?_
  rw [show l.take i=l from List.take_of_length_le (by omega)]
  refine xA tb hM0 2 [2,3,4,35] [2,3,4,10,11] rfl ?_
  refine oP rfl (pure_lenm rfl Tryz.underlying22 rfl) ?_
  refine xA tb hM0 3 [2,3,4,37] [2,3,4,10,11] rfl ?_
  refine spC 37 rfl ?_ ?_<;>intro h4<;>try simp only [dq] at h4
  refine xA tb hM0 4 [2,3,4,38] [2,3,4,10,11] rfl ?_
  refine oS rfl (step_sortZ sortsZ rfl rfl rfl rfl rfl rfl sz3 (by have h1:=puts_bd (altL l);have h2:=sizes_altL l;omega) hM0) rfl ?_
  refine xA tb hM0 2 [2,3,4] [2,3,4,10,11] rfl ?_
  rw [sortI_merge]
  refine code_draw1 (n:=81) (o2:=[(2,.box 25 [.v .pl (.sc (.int .i64 0)),.v .pl (.sc (.slice none 0 0)),.v .pl (.sc (.slice none 0 0))]),(3,.box 23 [.own 11]),(11,.arr 25 ((altK l).map rx))]) 2 6 [(40,.own 11),(41,.own 10),(42,.v .pl (ints (cpt eqI (sortI (altS l))))),(43,.v .pl (rx (.mk 2 (cpt eqI (sortI (altS l))) []))),(44,.v .pl (int (altK l).length)),(45,.v .pl (.sl [.agg [int 0,.sc (.slice none 0 0),.sc (.slice none 0 0)]])),(2,.pbox 2 0),(3,.pbox 3 0),(4,.pbox 4 0)] mixed (by kernel_rfl) (by kernel_rfl) (by kernel_rfl) rfl (by kernel_rfl) (fun t d h=>h) rfl ?_ ?_ ?_ ?_ ?_
  · intro i hi
    rcases (by omega:i=0∨i=1∨i=2∨i=3∨i=4∨i=5) with rfl|rfl|rfl|rfl|rfl|rfl<;>exact ⟨_,_,rfl,rfl⟩
  · intro i o t d hi hia ho hd hG hn
    rcases (by omega:i=0∨i=1∨i=3∨i=4∨i=5) with rfl|rfl|rfl|rfl|rfl
    · injection (show some _ = some o from ho) with ho; subst ho; injection (show some _ = some t from hd) with hd; subst hd; injection (show some _ = some d from hG) with hG; subst hG
      exact pure_load_box rfl ag23 rfl rfl rfl
    · injection (show some _ = some o from ho) with ho; subst ho; injection (show some _ = some t from hd) with hd; subst hd; injection (show some _ = some d from hG) with hG; subst hG
      exact pure_load_box rfl ag22 rfl rfl rfl
    · exact absurd hn (by decide)
    · injection (show some _ = some o from ho) with ho; subst ho; injection (show some _ = some t from hd) with hd; subst hd; injection (show some _ = some d from hG) with hG; subst hG
      exact pure_lenm rfl Tryz.underlying23 rfl
    · injection (show some _ = some o from ho) with ho; subst ho; injection (show some _ = some t from hd) with hd; subst hd; injection (show some _ = some d from hG) with hG; subst hG
      exact pure_lit rfl Tryz.underlying23 el25 rfl rfl rfl rfl hM0
  · intro i o t d hi hia ho hd hG hn
    rcases (by omega:i=0∨i=1∨i=3∨i=4∨i=5) with rfl|rfl|rfl|rfl|rfl
    · injection (show some _ = some o from ho) with ho; subst ho; injection (show some _ = some t from hd) with hd; subst hd; injection (show some _ = some d from hG) with hG; subst hG
      exact pure_load_box rfl ag23 rfl rfl rfl
    · exact absurd hn (by decide)
    · injection (show some _ = some o from ho) with ho; subst ho; injection (show some _ = some t from hd) with hd; subst hd; injection (show some _ = some d from hG) with hG; subst hG
      exact pure_norm (pure_build rfl pl25 ze25 rfl rfl rfl) rfl
    · injection (show some _ = some o from ho) with ho; subst ho; injection (show some _ = some t from hd) with hd; subst hd; injection (show some _ = some d from hG) with hG; subst hG
      exact pure_lenm rfl Tryz.underlying23 rfl
    · injection (show some _ = some o from ho) with ho; subst ho; injection (show some _ = some t from hd) with hd; subst hd; injection (show some _ = some d from hG) with hG; subst hG
      exact pure_lit rfl Tryz.underlying23 el25 rfl rfl rfl rfl hM0
  · intro o X ho hXn hXG hXr
    have hX41:41∈looks _ o→X.lookup 41=some (.own 10):=fun h=>(hXr 41 h).trans rfl
    injection (show some _=some o from ho) with ho'
    obtain ⟨s',g1,g2⟩:=step_eat (o:=o) (f:=113) (ats:=#[22]) (n:=81) (X:=X) (o1:=[(2,.box 25 [.v .pl (.sc (.int .i64 0)),.v .pl (.sc (.slice none 0 0)),.v .pl (.sc (.slice none 0 0))]),(3,.box 23 [.own 11]),(4,.box 22 [.own 10]),(10,.arr 3 ((sortI (altS l)).map int)),(11,.arr 25 ((altK l).map rx))]) (o2:=[(2,.box 25 [.v .pl (.sc (.int .i64 0)),.v .pl (.sc (.slice none 0 0)),.v .pl (.sc (.slice none 0 0))]),(3,.box 23 [.own 11]),(11,.arr 25 ((altK l).map rx))]) (t:=42) (u:=41) (id:=10) (by rw [← ho'];rfl) (by rw [← ho'];rfl) rfl rfl (hX41 (by rw [← ho'];decide)) hXn rfl (compact_call (l:=sortI (altS l)) (by omega)) (fun t' d h hne=>all_safe (u:=41) (by rfl) (hXG t' d h) hne) rfl (HasA.out (o1:=[(2,.box 25 [.v .pl (.sc (.int .i64 0)),.v .pl (.sc (.slice none 0 0)),.v .pl (.sc (.slice none 0 0))]),(3,.box 23 [.own 11]),(4,.box 22 [.own 10]),(10,.arr 3 ((sortI (altS l)).map int)),(11,.arr 25 ((altK l).map rx))]) (o2:=[(2,.box 25 [.v .pl (.sc (.int .i64 0)),.v .pl (.sc (.slice none 0 0)),.v .pl (.sc (.slice none 0 0))]),(3,.box 23 [.own 11]),(11,.arr 25 ((altK l).map rx))]) ⟨⟨_,rfl,rfl⟩,⟨_,rfl,rfl⟩,⟨_,rfl,rfl⟩,trivial⟩) hM0
    exact ⟨42,_,s',by rw [← ho'];rfl,rfl,g1,g2⟩
  refine endL_of (n:=4) (by kernel_rfl) ?_
  refine ex_one (i:=6) (by kernel_rfl) rfl rfl (step_append rfl rfl rfl rfl Tryz.underlying23 el25 rfl rfl hM0 (src_pl rfl (one_len (by rfl))) (by first|(simp only [ll];omega)|omega) (by first|(simp only [ll];omega)|omega)) ?_
  refine ex_two (i:=7) (j:=9) (by kernel_rfl) rfl rfl rfl rfl (st_pure rfl rfl (pure_index_own rfl Tryz.underlying23 sz25 rfl rfl rfl (by first|(simp only [ll];omega)|omega))) (step_store_box_own rfl rfl rfl sz23 rfl rfl rfl rfl rfl hM0) ?_ ?_
  refine ex_two (i:=8) (j:=9) (by kernel_rfl) rfl rfl rfl rfl (step_store_pel rfl rfl rfl sz25 rfl rfl (get_lastm rx (altK l) _) rfl rfl (.inl rfl) rfl (Nat.le_of_ble_eq_true rfl) hM0) (step_store_box_own rfl rfl rfl sz23 rfl rfl rfl rfl rfl hM0) ?_ ?_
  refine ex_one (i:=9) (by kernel_rfl) rfl rfl (step_store_box_own rfl rfl rfl sz23 rfl rfl rfl rfl rfl hM0) ?_
  refine ex_end (by kernel_rfl) ?_
  refine xD tb hM0 0 [2,3] [2,3,11] rfl ?_
  refine cx ?_;rotate_left
  refine ex_one (i:=8) (by kernel_rfl) rfl rfl (step_store_pel rfl rfl rfl sz25 rfl rfl (get_lastm rx (altK l) _) rfl rfl (.inl rfl) rfl (Nat.le_of_ble_eq_true rfl) hM0) ?_
  refine ex_end (by kernel_rfl) ?_
  refine xD tb hM0 0 [2,3] [2,3,11] rfl ?_
  refine cx ?_;rotate_left
  refine ex_one (i:=7) (by kernel_rfl) rfl rfl (st_pure rfl rfl (pure_index_own rfl Tryz.underlying23 sz25 rfl rfl rfl (by first|(simp only [ll];omega)|omega))) ?_
  refine ex_one (i:=8) (by kernel_rfl) rfl rfl (step_store_pel rfl rfl rfl sz25 rfl rfl (get_lastm rx (altK l) _) rfl rfl (.inl rfl) rfl (Nat.le_of_ble_eq_true rfl) hM0) ?_
  refine ex_end (by kernel_rfl) ?_
  refine xD tb hM0 0 [2,3] [2,3,11] rfl ?_
  refine cx ?_;rotate_left
  refine xA tb hM0 2 [2,3] [2,3,11] rfl ?_
  refine cx ?_
  rw [altM_f (by show ¬ 0<(putSs (altL l)).length;omega)];rfl
  rintro zs ⟨rfl⟩
  refine xA tb hM0 3 [2,3,48] [2,3,11] rfl ?_
  refine oS rfl (step_sortK (cells:=rxc) (cf:=cmpR) (p:=fun z=>z.size≤1099511627776) sortsR rfl rfl rfl rfl rfl rfl rfl sz25 (by decide) hMs (fun a b ha hb=>compare_call _ a b (Nat.le_refl _) hb ha) compare_callable (fun a _=>cmpR_irr a) (fun a b c _ _ _=>cmpR_trans a b c) (fun a b _ _=>cmpR_tot) (by omega) hM0) rfl ?_
  refine xA tb hM0 3 [2,3] [2,3,11] rfl ?_
  rw [sortR_merge]
  refine xA tb hM0 2 [2,3,50] [2,3,11] rfl ?_
  refine oS rfl (step_callO [(0,11)] rfl rfl rfl rfl rfl rfl rfl (compactF_call (eq:=eqR) (l:=sortR (altM (altS l) (altK l))) (by rw [sortR_len];omega) (fun x hx y hy=>alt2_call (hMs _ (sortR_mem.1 hx)) (hMs _ (sortR_mem.1 hy)))) ⟨.inl rfl,.inl rfl,trivial⟩ ⟨rfl,trivial⟩ rfl rfl rfl rfl rfl hM0) rfl ?_
  refine ol_frz 81 [(2,_),(3,_),(51,_)] [(2,_),(3,_)] hM0 rfl ⟨.inl rfl,.inl rfl,.inr ⟨_,_,rfl,rfl,rfl⟩,trivial⟩ ⟨rfl,rfl,trivial⟩ ?_
  refine xO tb hM0 3 [2,3] [2,3] rfl ?_
  refine ct (fun zs=>zs=⟨81,[(2,.pbox 2 0),(3,.pbox 3 0)],[(2,.box 25 [.v .pl (.sc (.int .i64 0)),.v .pl (.sc (.slice none 0 0)),.v .pl (.sc (.slice none 0 0))]),(3,.box 23 [.v .pl (rxs (altC (altD l)))])]⟩) ?_ ?_
  refine xA tb hM0 3 [2,3,52] [2,3] rfl ?_
  refine oP rfl (pure_lenm rfl Tryz.underlying23 rfl) ?_
  refine xA tb hM0 2 [2,3,55] [2,3] rfl ?_
  refine spO 55 rfl ?_ ?_<;>intro h5'<;>try simp only [dq] at h5'
  refine xA tb hM0 1 [2,3,55,56] [2,3] rfl ?_
  refine oP rfl (pure_ix rfl Tryz.underlying23 sz25 rfl rfl (by omega) (fun _=>rfl)) ?_
  refine xA tb hM0 5 [2,3,62] [2,3] rfl ?_
  refine spO 62 rfl ?_ ?_<;>intro h6'<;>try simp only [dq] at h6'
  refine xA tb hM0 1 [2,3,62,63] [2,3] rfl ?_
  refine oP rfl (pure_slice_lm rfl Tryz.underlying23 sz25 rfl rfl (by first|(simp only [ll];omega)|omega) (fun _=>rfl)) ?_
  refine oP rfl (pure_call rfl rfl rfl (hasR_call (p:=accR) (l:=(altD l).drop 1) (by simp;omega) (fun x hx=>empty_call _ _ (Nat.le_refl _) (hMs _ (altD_mem (List.mem_of_mem_drop hx))))) hM0) ?_
  refine xA tb hM0 3 [2,3,66] [2,3] rfl ?_
  refine spC 66 rfl ?_ ?_<;>intro h7<;>try simp only [dq] at h7
  refine xA tb hM0 3 [2,3,67] [2,3] rfl ?_
  refine oP rfl (pure_slice_lm rfl Tryz.underlying23 sz25 rfl rfl (by first|(simp only [ll];omega)|omega) (fun _=>rfl)) ?_
  refine xA tb hM0 2 [2,3] [2,3] rfl ?_
  refine cx ?_;rotate_left
  refine xA tb hM0 2 [2,3] [2,3] rfl ?_
  refine cx ?_;rotate_left
  refine xA tb hM0 8 [2,3] [2,3] rfl ?_
  refine cx ?_;rotate_left
  refine xA tb hM0 15 [2,3] [2,3] rfl ?_
  refine cx ?_;rotate_left
  rintro zs ⟨rfl⟩
  refine xA tb hM0 4 [2,3,69] [2,3] rfl ?_
  refine oP rfl (pure_lenm rfl Tryz.underlying23 rfl) ?_
  refine xA tb hM0 9 [2,3,70,71] [2,3] rfl ?_
  refine spC 71 rfl ?_ ?_<;>intro h8<;>try simp only [dq] at h8
  refine xA tb hM0 10 [] [] rfl ?_
  refine endC_ret rfl ?_;rotate_left
  refine xA tb hM0 7 [2,3,74] [2,3] rfl ?_
  refine spC 74 rfl ?_ ?_<;>intro h9<;>try simp only [dq] at h9
  refine xA tb hM0 4 [2,76] [2] rfl ?_
  refine oP rfl (pure_ix rfl Tryz.underlying23 sz25 rfl rfl (by omega) (fun _=>rfl)) ?_
  refine xA tb hM0 7 [] [] rfl ?_
  refine endC_ret rfl ?_;rotate_left
  refine xA tb hM0 12 [] [] rfl ?_
  refine endC_ret rfl ?_;rotate_left
  all_goals first
   | (
     have h4u:0<(altS l).length:=by show 0<(putSs (altL l)).length;omega
     rw [altM_t h4u,← set_last (z:=.agg [int 0,.sc (.slice none 0 0),.sc (.slice none 0 0)])];rfl;done)
   | (
     first
       | (rw [altC_t (k:=altD l) (by show 1<(cpt eqR (sortR (altM (altS l) (altK l)))).length;omega) h6' h7];rfl)
       | (rw [altC_f (k:=altD l) (fun q=>absurd q.1 (by show ¬ 1<(cpt eqR (sortR (altM (altS l) (altK l)))).length;omega))];rfl)
       | (rw [altC_f (k:=altD l) (fun q=>h6' q.2.1)];rfl)
       | (rw [altC_f (k:=altD l) (fun q=>by rw [q.2.2] at h7;cases h7)];rfl);done)
   | (
     first
       | (rw [show altN l=noneRx from altE_0 (k:=altC (altD l)) (by omega)];rfl)
       | (rw [show altN l=_ from altE_1 (k:=altC (altD l)) (by omega)];rfl)
       | (rw [show altN l=_ from altE_2 (k:=altC (altD l)) (by omega) (by omega),rx_mk];rfl);done)
end Go.Proofs.YtgdehkimfmfofaaGreat

namespace Go.Proofs.YtgdehkimfmfofaaGreat
open Go.Am Go.Wb
theorem fn80:Fn1 Tryz.prog 80 Tryz.f80.ntmps 2 (Tryz.f80.body.getD .skip):=⟨Tryz.f80,Tryz.func80,rfl,rfl,rfl,by kernel_rfl⟩
set_option maxRecDepth 100000 in
theorem clone_nil {c:Nat}:CallF Tryz.prog 80 [.sc (.slice none 0 c)] (.fresh 3 []):=by
  refine callF_of_code fn80 (Nat.le_of_ble_eq_true rfl) fun w0 M0 hM0=>?_
  refine xC tb hM0 2 [0] [] rfl ?_
  refine oS rfl (step_nil rfl rfl rfl rfl rfl 3 hM0) rfl ?_
  refine xA tb hM0 6 [0,3] [] rfl ?_
  refine oP rfl (pure_eqsl rfl Tryz.underlying22 rfl rfl) ?_
  refine xA tb hM0 5 [] [] rfl ?_
  refine oS rfl (step_nil rfl rfl rfl rfl rfl 3 hM0) rfl ?_
  refine xA tb hM0 4 [] [] rfl ?_
  refine end_ret rfl ?_
  rfl
set_option maxRecDepth 100000 in
theorem clone_none {a:Addr} {c:Nat}:CallF Tryz.prog 80 [.sc (.slice (some a) 0 c)] (.fresh 3 []):=by
  refine callF_of_code fn80 (Nat.le_of_ble_eq_true rfl) fun w0 M0 hM0=>?_
  refine xC tb hM0 2 [0] [] rfl ?_
  refine oS rfl (step_nil rfl rfl rfl rfl rfl 3 hM0) rfl ?_
  refine xA tb hM0 6 [0,3] [] rfl ?_
  refine oP rfl (pure_eqsl rfl Tryz.underlying22 rfl rfl) ?_
  refine xA tb hM0 7 [0] [] rfl ?_
  refine oS rfl (step_lit0 rfl rfl rfl rfl rfl Tryz.underlying22 el3 hM0) rfl ?_
  refine xA tb hM0 1 [5,6] [5] rfl ?_
  refine oS rfl (step_append rfl rfl rfl rfl Tryz.underlying22 el3 rfl rfl hM0 (src_sc0 rfl) (by decide) (by decide)) rfl ?_
  refine xA tb hM0 4 [] [] rfl ?_
  refine end_ret rfl ?_
  rfl
set_option maxRecDepth 100000 in
theorem clone_some {l:List Int} (hl:l.length≤1099511627776) (h0:0<l.length):CallF Tryz.prog 80 [ints l] (.fresh 3 (l.map int)):=by
  refine callF_of_code fn80 (Nat.le_of_ble_eq_true rfl) fun w0 M0 hM0=>?_
  refine xC tb hM0 2 [0] [] rfl ?_
  refine oS rfl (step_nil rfl rfl rfl rfl rfl 3 hM0) rfl ?_
  refine xA tb hM0 6 [0,3] [] rfl ?_
  refine oP rfl (pure_eqsl_ne rfl Tryz.underlying22 rfl rfl (by simp only [List.length_map];exact h0)) ?_
  refine xA tb hM0 7 [0] [] rfl ?_
  refine oS rfl (step_lit0 rfl rfl rfl rfl rfl Tryz.underlying22 el3 hM0) rfl ?_
  refine xA tb hM0 1 [5,6] [5] rfl ?_
  refine oS rfl (step_append rfl rfl rfl rfl Tryz.underlying22 el3 rfl rfl hM0 (src_scm rfl (fun _=>⟨_,rfl⟩)) (by simp only [List.length_map,List.length_nil];omega) (by simp only [List.length_map,List.length_nil];omega)) rfl ?_
  refine xA tb hM0 4 [] [] rfl ?_
  refine end_ret rfl ?_
  rfl
theorem clone_call {l : List Int} (hl : l.length ≤ 1099511627776) : CallF Tryz.prog 80 [ints l] (.fresh 3 (l.map int)) := by
  rcases Nat.eq_zero_or_pos l.length with h|h
  · have hl0 : l = [] := List.eq_nil_of_length_eq_zero h
    subst hl0
    refine ⟨(clone_nil (c:=0)).1,fun w vs hv hr=>?_⟩
    match vs,hv with
    | [v], _ =>
      have h0:=hr 0 _ rfl
      simp only [List.getD_cons_zero] at h0
      generalize hq:ints []=q at h0
      cases h0 with
      | sl a n cap xs k cv hn hc hk hb hl2 hr2 =>
        simp only [ints,List.map_nil,AV.sl.injEq] at hq
        subst hq
        simp only [List.length_nil] at hn
        subst hn
        have one:∀ z:Value,z.oneCell'=true→∀ (j:Nat) d,[AV.sc z][j]?=some d→Rep w (fun _=>False) ([z].getD j undef) d:=fun z hz j d hd=>by
          match j with
          | 0=>simp at hd;subst hd;exact .sc _ hz
          | j+1=>simp at hd
        cases a with
        | none=>exact (clone_nil (c:=cap)).2 w [.slice none 0 cap] rfl (one _ rfl)
        | some ad=>exact (clone_none (a:=ad) (c:=cap)).2 w [.slice (some ad) 0 cap] rfl (one _ rfl)
      | _=>cases hq
  · exact clone_some hl h
theorem fn79:FnC Tryz.prog 79 Tryz.f79.ntmps 2 25 3 (Tryz.f79.body.getD .skip):=⟨Tryz.f79,Tryz.func79,rfl,rfl,rfl,by kernel_rfl,ag25,sz25⟩
set_option maxRecDepth 100000 in
set_option maxHeartbeats 2000000 in
theorem star_call {x:Rx} (h4:x.kind=4→0<x.kids.length):CallN Tryz.prog 79 [rx x] (.p (rx (starN x))):=by
  rw [rx_eq x]
  refine callN_of_codeC fn79 (Nat.le_of_ble_eq_true rfl) fun w0 M0 hM0=>?_
  refine xC tb hM0 2 [0] [] rfl ?_
  refine oS rfl (step_box rfl rfl rfl rfl rfl rfl rfl (by decide) hM0) rfl ?_
  refine xA tb hM0 18 [1,2,4,5] [1,2] rfl ?_
  refine spC 5 rfl ?_ ?_<;>intro h1<;>try simp only [dq] at h1
  refine xA tb hM0 13 [] [] rfl ?_
  refine endC_ret rfl ?_;rotate_left
  refine xA tb hM0 6 [1,2,4,5] [1,2] rfl ?_
  refine spC 5 rfl ?_ ?_<;>intro h2<;>try simp only [dq] at h2
  refine xA tb hM0 10 [] [] rfl ?_
  refine endC_ret rfl ?_;rotate_left
  refine xA tb hM0 7 [1,2,9] [1,2] rfl ?_
  refine spC 9 rfl ?_ ?_<;>intro h3<;>try simp only [dq] at h3
  refine xA tb hM0 10 [] [] rfl ?_
  refine endC_ret rfl ?_;rotate_left
  refine xA tb hM0 11 [1,2,15] [1,2] rfl ?_
  refine spO 15 rfl ?_ ?_<;>intro h4'<;>try simp only [dq] at h4'
  refine xA tb hM0 2 [1,2,15,17] [1,2] rfl ?_
  refine oP rfl (pure_ix rfl Tryz.underlying23 sz25 rfl rfl (by omega) (fun _=>rfl)) ?_
  refine xA tb hM0 6 [1,2,22] [1,2] rfl ?_
  refine spC 22 rfl ?_ ?_<;>intro h5<;>try simp only [dq] at h5
  refine xA tb hM0 5 [1,2,24] [1,2] rfl ?_
  refine oP rfl (pure_slice_lm rfl Tryz.underlying23 sz25 rfl rfl (by first|(simp only [ll];omega)|omega) (fun _=>rfl)) ?_
  refine xA tb hM0 8 [1,2,28] [1,2] rfl ?_
  refine oP rfl (pure_lenm rfl Tryz.underlying23 rfl) ?_
  refine xA tb hM0 3 [1,2,30] [1,2] rfl ?_
  refine spC 30 rfl ?_ ?_<;>intro h6<;>try simp only [dq] at h6
  refine xA tb hM0 4 [1,2,32] [1,2] rfl ?_
  refine oP rfl (pure_ix rfl Tryz.underlying23 sz25 rfl rfl (by omega) (fun _=>rfl)) ?_
  refine xA tb hM0 7 [2,35] [2] rfl ?_
  refine oP rfl (pure_lit rfl Tryz.underlying23 el25 rfl rfl rfl rfl hM0) ?_
  refine xA tb hM0 5 [] [] rfl ?_
  refine endC_ret rfl ?_;rotate_left
  refine xA tb hM0 6 [2,35] [2] rfl ?_
  refine oP rfl (pure_lit rfl Tryz.underlying23 el25 rfl rfl rfl rfl hM0) ?_
  refine xA tb hM0 5 [] [] rfl ?_
  refine endC_ret rfl ?_;rotate_left
  refine xA tb hM0 6 [2,35] [2] rfl ?_
  refine oP rfl (pure_lit rfl Tryz.underlying23 el25 rfl rfl rfl rfl hM0) ?_
  refine xA tb hM0 5 [] [] rfl ?_
  refine endC_ret rfl ?_;rotate_left
  refine xA tb hM0 15 [2,35] [2] rfl ?_
  refine oP rfl (pure_lit rfl Tryz.underlying23 el25 rfl rfl rfl rfl hM0) ?_
  refine xA tb hM0 5 [] [] rfl ?_
  refine endC_ret rfl ?_;rotate_left
  all_goals
    try simp only [Int.toNat_zero,Int.toNat_one,List.length_drop] at *
    first
      | (exfalso;omega)
      | (rw [starN_e (by omega)];rfl)
      | (rw [starN_5 (by omega),rx_eq x])
      | (rw [starN_x (by omega) (by omega),starB_n (by omega),rx_mk,rxs_one,rx_eq x];rfl)
      | (rw [starN_x (by omega) (by omega),starB_2 (by omega) (by omega),rx_mk,← getD_drop1];rfl)
      | (rw [starN_x (by omega) (by omega),starB_m (by omega) (by omega),rx_mk,rxs_one,rx_mk'];rfl)
end Go.Proofs.YtgdehkimfmfofaaGreat

