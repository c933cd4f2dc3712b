/-
  Contract: a set of states as a string.
-/
import Derived.Test.YtjimlkpfmbachaaGreatJ25
import Derived.Test.YtjimlkpfmbachaaGreatJ13
import Derived.Test.YtjimlkpfmbachaaGreatJ28
import Derived.Test.YtjimlkpfmbachaaGreatJ29
import Derived.Test.YtjimlkpfmbachaaGreatJ17
set_option linter.unusedVariables false
set_option linter.unusedSectionVars false
set_option linter.unusedSimpArgs false
namespace Go.Proofs.YtjimlkpfmbachaaGreat
open Go.Am Go.Wc Go.Wb Go.Wd
theorem fn37:FnC Tryz.prog 37 Tryz.f37.ntmps 2 31 3 (Tryz.f37.body.getD .skip):=⟨Tryz.f37,Tryz.func37,rfl,rfl,rfl,by kernel_rfl,ag31,sz31⟩
set_option maxRecDepth 100000 in
set_option maxHeartbeats 8000000 in
theorem rmin_call {d:Dfa}:CallF Tryz.prog 37 [dfa d] (.p (dfa (minZ d))):=by
  refine callF_of_codeC fn37 (Nat.le_of_ble_eq_true rfl) fun w0 M0 hM0=>?_
  refine xC tb hM0 2 [0] [] rfl ?_
  refine oP rfl (pure_box rfl rfl rfl hM0) ?_
  refine xA tb hM0 7 [1,2,12] [2] rfl ?_
  refine oP rfl (pure_call rfl rfl rfl (rvalidD_call) hM0) ?_
  refine xA tb hM0 3 [1,2,14] [2] rfl ?_
  refine spC 14 rfl ?_ ?_<;>intro h1<;>try simp only [dq] at h1
  refine xA tb hM0 3 [2] [2] rfl ?_
  refine oP rfl (pure_norm (pure_build rfl pl31 ze31 rfl rfl rfl) rfl) ?_
  refine xA tb hM0 5 [] [] rfl ?_
  refine endC_ret rfl ?_;rotate_left
  have hd:=valid_ok (d:=d) (by assumption)
  have hn:d.n=d.next.length:=rfl
  have hb:=hd.1
  have hkk:=kk hd
  have hcl:(clsF d).length=d.n:=(clsF_ok hd).1
  refine xA tb hM0 6 [1,2,16] [2] rfl ?_
  refine oP rfl (pure_call rfl rfl rfl (rclasses_call hd) hM0) ?_
  refine xA tb hM0 7 [1,2,3,19] [2] rfl ?_
  refine oP rfl (pure_lenm rfl Tryz.underlying28 rfl) ?_
  refine oS rfl (step_make rfl rfl rfl rfl Tryz.underlying22 el3 ze3 rfl rfl rfl (by omega) (by omega) (by omega) hM0) rfl ?_
  refine xA tb hM0 10 [1,2,3,4,5] [2,21] rfl ?_
  refine lp (fun zm zs=>∃ i:Nat,zm=d.n-i∧(i≤d.n)∧zs=⟨113,[(1,.v .mx (dpc d)),(2,.pbox 2 0),(3,.v .pl (nats (clsF d))),(4,.own 21),(5,.v .pl (int i))],[(2,.box 31 [.v .pl (.sc (.int .i64 0)),.v .pl (.sc (.slice none 0 0)),.v .pl (.sc (.slice none 0 0))]),(21,.arr 3 ((mo d.n i).map int))]⟩) ?_ ?_
  refine ⟨_,0,rfl,Nat.zero_le _,?_⟩
  rw [mo_zero,← rep_mapI];rfl
  rintro zm zs ⟨i,rfl,hL1_0,rfl⟩
  have hml:=mo_len (n:=d.n) (i:=i) (by omega)
  refine xA tb hM0 5 [1,2,3,4,5,22,23] [2,21] rfl ?_
  refine oP rfl (pure_lenm rfl Tryz.underlying22 rfl) ?_
  refine xA tb hM0 3 [1,2,3,4,5,25] [2,21] rfl ?_
  refine spC 25 rfl ?_ ?_<;>intro h2<;>try simp only [dq] at h2
  refine xA tb hM0 8 [1,2,3,4,5,28,29] [2,21] rfl ?_
  refine oP rfl (pure_index_own rfl Tryz.underlying22 sz3 rfl rfl rfl (by rw [List.length_map];omega)) ?_
  refine oS rfl (step_store_pel rfl rfl rfl sz3 rfl rfl (mget (by omega)) rfl rfl (.inl rfl) rfl (Nat.le_of_ble_eq_true rfl) hM0) rfl ?_
  refine xA tb hM0 5 [1,2,3,4,26] [2,21] rfl ?_
  refine oP rfl (pure_addi rfl rfl rfl (by omega)) ?_
  refine xA tb hM0 2 [1,2,3,4,5] [2,21] rfl ?_
  refine nx ?_
  refine ⟨_,⟨i+1,rfl,by omega,?_⟩,by omega⟩
  rw [← mo_set (by omega)];rfl
  refine xA tb hM0 7 [1,2,3,4] [2,21] rfl ?_
  obtain rfl:i=d.n:=by omega
  rw [mo_all]
  have hst:mstart d<d.n:=cls_lt hd _ (cl_mem hd (q:=0) (by omega))
  refine xA tb hM0 3 [1,2,3,4,31,32] [2,21] rfl ?_
  refine oP rfl (pure_ix rfl Tryz.underlying22 sz3 rfl rfl (by omega) (fun _=>rfl)) ?_
  refine xA tb hM0 1 [1,2,3,4,31,34] [2,21] rfl ?_
  refine oP rfl (pure_index_own rfl Tryz.underlying22 sz3 rfl rfl rfl (by exact ⟨Int.natCast_nonneg _,by rw [List.length_map,nm_len];exact Int.ofNat_lt.2 hst⟩)) ?_
  refine oS rfl (step_store_pel rfl rfl rfl sz3 rfl rfl (mget (by rw [nm_len];exact hst)) rfl rfl (.inl rfl) rfl (Nat.le_of_ble_eq_true rfl) hM0) rfl ?_
  refine xA tb hM0 4 [1,2,3,4] [2,21] rfl ?_
  refine oS rfl (step_lit rfl rfl rfl rfl Tryz.underlying22 el3 rfl rfl rfl rfl hM0) rfl ?_
  refine xA tb hM0 14 [1,2,3,4,6,7] [2,7,21,36] rfl ?_
  refine code_nilown 7 1 41 22 31 hM0 rfl rfl rfl rfl ?_
  refine code_nilown 7 2 42 4 31 hM0 rfl rfl rfl rfl ?_
  refine xK tb hM0 5 [1,2,3,4,6,7,8] [2,7,21,36,41,42] rfl ?_
  refine lp (fun zm zs=>∃ (l st:List Nat) (i:Nat),zm=d.n+1-i∧(Ex (mnext d) d.k (clsF d) (mstart d) d.n l i)∧(Rp d l st)∧zs=⟨113,[(1,.v .mx (dpc d)),(2,.pbox 2 0),(3,.v .pl (nats (clsF d))),(4,.own 21),(6,.own 36),(7,.pbox 7 0),(8,.v .pl (int i))],[(2,.box 31 [.v .pl (.sc (.int .i64 0)),.v .pl (.sc (.slice none 0 0)),.v .pl (.sc (.slice none 0 0))]),(7,.box 31 [.v .pl (int d.size),.own 41,.own 42]),(21,.arr 3 ((nm d.n l).map int)),(36,.arr 3 (st.map natI)),(41,.arr 22 ((rowsX (mnext d) d.k l (l.take i)).map ints)),(42,.arr 4 ((finX (mfin d) (l.take i)).map bool))]⟩) ?_ ?_
  refine ⟨_,[mstart d],[0],0,rfl,ex_start (cl_mem hd (q:=0) (by omega)),⟨rfl,fun q hq=>by rw [List.mem_singleton.1 hq];omega⟩,?_⟩
  rw [show nm d.n [mstart d]=nm d.n ([]++[mstart d]) from rfl,← nm_snocI (l:=[]) (c:=mstart d) hst (by simp)];rfl
  rintro zm zs ⟨l,st,i,rfl,hL2_0,hL2_1,rfl⟩
  have hle:=hL2_0.le
  have hrl:=hL2_1.len
  refine xA tb hM0 5 [1,2,3,4,6,7,8,40,41] [2,7,21,36,41,42] rfl ?_
  refine oP rfl (pure_lenm rfl Tryz.underlying22 rfl) ?_
  refine xA tb hM0 3 [1,2,3,4,6,7,8,43] [2,7,21,36,41,42] rfl ?_
  refine spC 43 rfl ?_ ?_<;>intro h3<;>try simp only [dq] at h3
  refine xA tb hM0 7 [1,2,3,4,6,7,8] [2,7,21,36,41,42] rfl ?_
  refine oS rfl (step_nil rfl rfl rfl rfl rfl 3 hM0) rfl ?_
  refine xA tb hM0 9 [1,2,3,4,6,7,8,9,10] [2,7,9,21,36,41,42] rfl ?_
  have hi:i<l.length:=by omega
  have hxU:=hL2_0.met.sub _ (el_mem hi)
  have hq:st.getD i default<d.next.length:=hL2_1.lt _ (el_mem (by omega))
  have hcx:(clsF d).getD (st.getD i default) 0=(l.getD i default):=hL2_1.at (by omega)
  refine lp (fun zm zs=>∃ (st2:List Nat) (s:Nat),zm=d.k-s∧(s≤d.k)∧(Rp d (grow (mnext d) (l.getD i default) l s) st2)∧(st <+: st2)∧zs=⟨113,[(1,.v .mx (dpc d)),(2,.pbox 2 0),(3,.v .pl (nats (clsF d))),(4,.own 21),(6,.own 36),(7,.pbox 7 0),(8,.v .pl (int i)),(9,.own 9),(10,.v .pl (int s))],[(2,.box 31 [.v .pl (.sc (.int .i64 0)),.v .pl (.sc (.slice none 0 0)),.v .pl (.sc (.slice none 0 0))]),(7,.box 31 [.v .pl (int d.size),.own 41,.own 42]),(9,.arr 3 ((rI (mnext d) (l.getD i default) l s).map int)),(21,.arr 3 ((nm d.n (grow (mnext d) (l.getD i default) l s)).map int)),(36,.arr 3 (st2.map natI)),(41,.arr 22 ((rowsX (mnext d) d.k l (l.take i)).map ints)),(42,.arr 4 ((finX (mfin d) (l.take i)).map bool))]⟩) ?_ ?_
  exact ⟨_,st,0,rfl,Nat.zero_le _,hL2_1,List.prefix_refl _,rfl⟩
  rintro zm zs ⟨st2,s,rfl,hL3_0,hL3_1,hL3_2,rfl⟩
  have hgl:=grow_le hL2_0.met (mnext_mem hd) hxU hL3_0
  have hrl2:=hL3_1.len
  have hat:st2.getD i default=st.getD i default:=pre_at hL3_2 (by omega)
  refine xA tb hM0 9 [1,2,3,4,6,7,8,9,10,49] [2,7,9,21,36,41,42] rfl ?_
  refine spC 49 rfl ?_ ?_<;>intro h4<;>try simp only [dq] at h4
  refine xA tb hM0 5 [1,2,3,4,6,7,8,9,10] [2,7,9,21,36,41,42] rfl ?_
  refine ct (fun zs=>zs=⟨113,[(1,.v .mx (dpc d)),(2,.pbox 2 0),(3,.v .pl (nats (clsF d))),(4,.own 21),(6,.own 36),(7,.pbox 7 0),(8,.v .pl (int i)),(9,.own 9),(10,.v .pl (int s)),(11,.v .mx (natI (d.stp (st.getD i default) s)))],[(2,.box 31 [.v .pl (.sc (.int .i64 0)),.v .pl (.sc (.slice none 0 0)),.v .pl (.sc (.slice none 0 0))]),(7,.box 31 [.v .pl (int d.size),.own 41,.own 42]),(9,.arr 3 ((rI (mnext d) (l.getD i default) l s).map int)),(21,.arr 3 ((nm d.n (grow (mnext d) (l.getD i default) l s)).map int)),(36,.arr 3 (st2.map natI)),(41,.arr 22 ((rowsX (mnext d) d.k l (l.take i)).map ints)),(42,.arr 4 ((finX (mfin d) (l.take i)).map bool))]⟩) ?_ ?_
  refine code_draw mixed (by kernel_rfl) _ rfl ?_
  refine dl_pure rfl rfl rfl (pure_field rfl fd31_1 rfl) ?_
  refine dl_pure rfl rfl rfl (pure_load rfl ag28 rfl rfl) ?_
  refine dl_pure rfl rfl rfl (pure_move rfl rfl) ?_
  refine dl_pure rfl rfl rfl (pure_move rfl rfl) ?_
  refine dl_pure rfl rfl rfl (pure_index_own rfl Tryz.underlying22 sz3 rfl rfl rfl (by rw [List.length_map];have:=hL3_2.length_le;omega)) ?_
  refine dl_pure rfl rfl rfl (pure_load_pel rfl ag3 rfl rfl (mget (by have:=hL3_2.length_le;omega)) rfl) ?_
  refine dl_pure rfl rfl rfl (pure_ix rfl Tryz.underlying28 sz22 rfl rfl (by rw [Int.toNat_natCast,hat];exact ⟨Int.natCast_nonneg _,Int.ofNat_lt.2 hq⟩) (fun _=>rfl)) ?_
  refine dpk 113 [(1,_),(2,_),(3,_),(4,_),(6,_),(7,_),(8,_),(9,_),(10,_),(58,_)] [(2,_),(7,_),(9,_),(21,_),(36,_),(41,_),(42,_)] rfl rfl rfl ?_
  refine dl_pure rfl rfl rfl (pure_load rfl ag22 rfl rfl) ?_
  refine dl_pure rfl rfl rfl (pure_move rfl rfl) ?_
  refine dl_pure rfl rfl rfl (pure_ix rfl Tryz.underlying22 sz3 rfl rfl (by rw [Int.toNat_natCast,hat];exact ⟨Int.natCast_nonneg _,Int.ofNat_lt.2 (show s<_ by have:=(hd.row hq).1;omega)⟩) (fun _=>rfl)) ?_
  refine dl_pure rfl rfl rfl (pure_load rfl ag3 rfl rfl) ?_
  refine dl_pure rfl rfl rfl (pure_assign rfl rfl) ?_
  refine dl_nil ?_
  refine xD tb hM0 0 [1,2,3,4,6,7,8,9,10,11] [2,7,9,21,36,41,42] rfl ?_
  refine cx ?_
  have e2:=hd.cellN (i:=st.getD i default) (k:=s) hq (by omega)
  exact (by simp only [Int.toNat_natCast];rw [hat,e2];first|done|rfl)
  rintro zs ⟨rfl⟩
  have hk:(d.stp (st.getD i default) s)<d.n:=hd.stp hq (by omega)
  have hkc:(clsF d).getD (d.stp (st.getD i default) s) default<d.n:=cls_lt hd _ (el_mem (l:=clsF d) (by omega))
  have hck:(clsF d).getD (d.stp (st.getD i default) s) default=mnext d (l.getD i default) s:=by rw [← hcx];exact (mnext_cl hd hq (by omega)).symm
  refine ct (fun zs=>∃ st3:List Nat,(Rp d (grow (mnext d) (l.getD i default) l (s+1)) st3)∧(st <+: st3)∧zs=⟨113,[(1,.v .mx (dpc d)),(2,.pbox 2 0),(3,.v .pl (nats (clsF d))),(4,.own 21),(6,.own 36),(7,.pbox 7 0),(8,.v .pl (int i)),(9,.own 9),(10,.v .pl (int s)),(11,.v .mx (natI (d.stp (st.getD i default) s)))],[(2,.box 31 [.v .pl (.sc (.int .i64 0)),.v .pl (.sc (.slice none 0 0)),.v .pl (.sc (.slice none 0 0))]),(7,.box 31 [.v .pl (int d.size),.own 41,.own 42]),(9,.arr 3 ((rI (mnext d) (l.getD i default) l s).map int)),(21,.arr 3 ((nm d.n (grow (mnext d) (l.getD i default) l (s+1))).map int)),(36,.arr 3 (st3.map natI)),(41,.arr 22 ((rowsX (mnext d) d.k l (l.take i)).map ints)),(42,.arr 4 ((finX (mfin d) (l.take i)).map bool))]⟩) ?_ ?_
  refine xA tb hM0 5 [1,2,3,4,6,7,8,9,10,11,63,64,65] [2,7,9,21,36,41,42] rfl ?_
  refine oP rfl (pure_ix rfl Tryz.underlying22 sz3 rfl rfl (by omega) (fun _=>rfl)) ?_
  refine xA tb hM0 1 [1,2,3,4,6,7,8,9,10,11,63,67] [2,7,9,21,36,41,42] rfl ?_
  refine oP rfl (pure_index_own rfl Tryz.underlying22 sz3 rfl rfl rfl (by exact ⟨Int.natCast_nonneg _,by rw [List.length_map,nm_len];exact Int.ofNat_lt.2 hkc⟩)) ?_
  refine oP rfl (pure_load_pel rfl ag3 rfl rfl (mget (by rw [nm_len];exact hkc)) rfl) ?_
  refine xA tb hM0 3 [1,2,3,4,6,7,8,9,10,11,70] [2,7,9,21,36,41,42] rfl ?_
  refine spC 70 rfl ?_ ?_<;>intro h5<;>try simp only [dq] at h5
  have hnew:=nm_neg (n:=d.n) (c:=(clsF d).getD (d.stp (st.getD i default) s) default) (l:=(grow (mnext d) (l.getD i default) l s)) (cls_lt hd _ (el_mem (l:=clsF d) (by omega))) (by assumption)
  rw [hck] at hnew
  refine xA tb hM0 6 [1,2,3,4,6,7,8,9,10,11,71,72,73] [2,7,9,21,36,41,42] rfl ?_
  refine oP rfl (pure_ix rfl Tryz.underlying22 sz3 rfl rfl (by omega) (fun _=>rfl)) ?_
  refine xA tb hM0 2 [1,2,3,4,6,7,8,9,10,11,71,75,76] [2,7,9,21,36,41,42] rfl ?_
  refine oP rfl (pure_lenm rfl Tryz.underlying22 rfl) ?_
  refine oP rfl (pure_index_own rfl Tryz.underlying22 sz3 rfl rfl rfl (by exact ⟨Int.natCast_nonneg _,by rw [List.length_map,nm_len];exact Int.ofNat_lt.2 hkc⟩)) ?_
  refine xA tb hM0 0 [1,2,3,4,6,7,8,9,10,11,77,78] [2,7,9,21,36,41,42] rfl ?_
  refine oS rfl (step_store_pel rfl rfl rfl sz3 rfl rfl (mget (by rw [nm_len];exact hkc)) rfl rfl (.inl rfl) rfl (Nat.le_of_ble_eq_true rfl) hM0) rfl ?_
  refine xA tb hM0 5 [1,2,3,4,7,8,9,10,11,79,80] [2,7,9,21,36,41,42] rfl ?_
  refine oP rfl (pure_lit rfl Tryz.underlying22 el3 rfl rfl rfl rfl hM0) ?_
  refine oS rfl (step_append rfl rfl rfl rfl Tryz.underlying22 el3 rfl rfl hM0 (src_pl rfl (one_len (by rfl))) (by rw [List.length_map];simp only [List.length_cons,List.length_nil];omega) (by rw [List.length_map];simp only [List.length_cons,List.length_nil];omega)) rfl ?_
  refine xA tb hM0 2 [1,2,3,4,6,7,8,9,10,11] [2,7,9,21,36,41,42] rfl ?_
  refine cx ?_
  refine ⟨st2++[(d.stp (st.getD i default) s)],by rw [grow_new hnew,← hck];exact hL3_1.snoc hk,hL3_2.trans (List.prefix_append _ _),?_⟩
  rw [grow_new hnew,← nm_snocI (by rw [← hck];exact hkc) hnew,← hL3_1.len,← hck,List.map_append];rfl
  have hold:=nm_pos (n:=d.n) (c:=(clsF d).getD (d.stp (st.getD i default) s) default) (l:=(grow (mnext d) (l.getD i default) l s)) (cls_lt hd _ (el_mem (l:=clsF d) (by omega))) (by omega)
  rw [hck] at hold
  refine xA tb hM0 2 [1,2,3,4,6,7,8,9,10,11] [2,7,9,21,36,41,42] rfl ?_
  refine cx ?_
  exact ⟨st2,by rw [grow_old hold];exact hL3_1,hL3_2,by rw [grow_old hold]⟩
  rintro zs ⟨st3,hC23_0,hC23_1,rfl⟩
  refine xA tb hM0 5 [1,2,3,4,6,7,8,10,83,84,85,86] [2,7,9,21,36,41,42] rfl ?_
  refine oP rfl (pure_ix rfl Tryz.underlying22 sz3 rfl rfl (by omega) (fun _=>rfl)) ?_
  refine xA tb hM0 1 [1,2,3,4,6,7,8,10,83,84,88] [2,7,9,21,36,41,42] rfl ?_
  refine oP rfl (pure_index_own rfl Tryz.underlying22 sz3 rfl rfl rfl (by exact ⟨Int.natCast_nonneg _,by rw [List.length_map,nm_len];exact Int.ofNat_lt.2 hkc⟩)) ?_
  refine oP rfl (pure_load_pel rfl ag3 rfl rfl (mget (by rw [nm_len];exact hkc)) rfl) ?_
  refine xA tb hM0 0 [1,2,3,4,6,7,8,10,83,90] [2,7,9,21,36,41,42] rfl ?_
  refine oP rfl (pure_lit rfl Tryz.underlying22 el3 rfl rfl rfl rfl hM0) ?_
  refine oS rfl (step_append rfl rfl rfl rfl Tryz.underlying22 el3 rfl rfl hM0 (src_pl rfl (one_len (by rfl))) (by rw [List.length_map,rI_len];simp only [List.length_cons,List.length_nil];omega) (by rw [List.length_map,rI_len];simp only [List.length_cons,List.length_nil];omega)) rfl ?_
  refine xA tb hM0 6 [1,2,3,4,6,7,8,9,50] [2,7,9,21,36,41,42] rfl ?_
  refine oP rfl (pure_addi rfl rfl rfl (by omega)) ?_
  refine xA tb hM0 2 [1,2,3,4,6,7,8,9,10] [2,7,9,21,36,41,42] rfl ?_
  refine nx ?_
  refine ⟨_,⟨st3,s+1,rfl,by omega,hC23_0,hC23_1,?_⟩,by omega⟩
  have e8:=nm_hit (n:=d.n) (l:=(grow (mnext d) (l.getD i default) l (s+1))) hkc (by rw [hck];exact (grow_mem _ _ _).2 (.inr ⟨s,by omega,rfl⟩))
  rw [hck] at e8
  rw [rI_succ,List.map_append,← e8,← hck];rfl
  refine xA tb hM0 7 [1,2,3,4,6,7,8,9] [2,7,9,21,36,41,42] rfl ?_
  refine code_frz 113 [(1,_),(2,_),(3,_),(4,_),(6,_),(7,_),(8,_),(9,_)] [(2,_),(7,_),(21,_),(36,_),(41,_),(42,_)] hM0 rfl ⟨.inl rfl,.inl rfl,.inl rfl,.inl rfl,.inl rfl,.inl rfl,.inl rfl,.inr ⟨_,_,rfl,rfl,rfl⟩,trivial⟩ ⟨rfl,rfl,rfl,rfl,rfl,rfl,trivial⟩ ?_
  obtain rfl:s=d.k:=by omega
  rw [rI_all]
  refine xK tb hM0 4 [1,2,3,4,6,7,8,94,95] [2,7,21,36,41,42] rfl ?_
  refine oP rfl (pure_lit rfl Tryz.underlying28 el22 rfl rfl rfl rfl hM0) ?_
  refine oS rfl (step_append rfl rfl rfl rfl Tryz.underlying28 el22 rfl rfl hM0 (src_pl rfl (one_len (by rfl))) (by rw [List.length_map,rows_len,List.length_take];simp only [List.length_cons,List.length_nil];omega) (by rw [List.length_map,rows_len,List.length_take];simp only [List.length_cons,List.length_nil];omega)) rfl ?_
  refine xA tb hM0 4 [1,2,3,4,6,7,8] [2,7,21,36,41,42] rfl ?_
  refine code_draw mixed (by kernel_rfl) _ rfl ?_
  refine dl_pure rfl rfl rfl (pure_field_box rfl fd31_2 rfl rfl) ?_
  refine dl_pure rfl rfl rfl (pure_load_box rfl ag29 rfl rfl rfl) ?_
  refine dl_pure rfl rfl rfl (pure_field rfl fd31_2 rfl) ?_
  refine dl_pure rfl rfl rfl (pure_load rfl ag29 rfl rfl) ?_
  refine dl_pure rfl rfl rfl (pure_move rfl rfl) ?_
  refine dl_pure rfl rfl rfl (pure_move rfl rfl) ?_
  refine dl_pure rfl rfl rfl (pure_index_own rfl Tryz.underlying22 sz3 rfl rfl rfl (by rw [List.length_map];have:=hL3_2.length_le;omega)) ?_
  refine dpk 113 [(1,_),(2,_),(3,_),(4,_),(6,_),(7,_),(8,_),(100,_),(102,_),(105,_)] [(2,_),(7,_),(21,_),(36,_),(41,_),(42,_)] rfl rfl rfl ?_
  refine dl_pure rfl rfl rfl (pure_load_pel rfl ag3 rfl rfl (mget (by have:=hL3_2.length_le;omega)) rfl) ?_
  refine dl_pure rfl rfl rfl (pure_ix rfl Tryz.underlying29 sz4 rfl rfl (by rw [Int.toNat_natCast,hat];exact ⟨Int.natCast_nonneg _,Int.ofNat_lt.2 (show st.getD i default<d.fin.length by omega)⟩) (fun _=>rfl)) ?_
  refine dl_pure rfl rfl rfl (pure_load rfl ag4 rfl rfl) ?_
  refine dl_pure rfl rfl rfl (pure_lit rfl Tryz.underlying29 el4 rfl rfl rfl rfl hM0) ?_
  refine dl_tails (by kernel_rfl) ?_
  refine tl_step rfl (step_append rfl rfl rfl rfl Tryz.underlying29 el4 rfl rfl hM0 (src_pl rfl (one_len (by rfl))) (by rw [List.length_map,fin_len,List.length_take];simp only [List.length_cons,List.length_nil];omega) (by rw [List.length_map,fin_len,List.length_take];simp only [List.length_cons,List.length_nil];omega)) ?_
  refine tl_pure rfl rfl rfl (pure_field_box rfl fd31_2 rfl rfl) ?_
  refine tl_step rfl (step_store_box_own rfl rfl rfl sz29 rfl rfl rfl rfl rfl hM0) ?_
  refine tl_nil ?_
  refine xD tb hM0 4 [1,2,3,4,6,7,44] [2,7,21,36,41,42] rfl ?_
  refine oP rfl (pure_addi rfl rfl rfl (by omega)) ?_
  refine xA tb hM0 2 [1,2,3,4,6,7,8] [2,7,21,36,41,42] rfl ?_
  refine nx ?_
  refine ⟨_,⟨(grow (mnext d) (l.getD i default) l d.k),st2,i+1,rfl,hL2_0.step (mnext_mem hd) (by omega) hi rfl,hL3_1,?_⟩,by omega⟩
  have e9:d.fin.getD (st2.getD i default) default=mfin d (l.getD i default):=by rw [hat,← hcx];exact (mfin_cl hd hq).symm
  rw [rows_step hL2_0.met hi rfl,fin_step hi rfl,List.map_append,List.map_append,← e9];rfl
  refine xA tb hM0 7 [2,7] [2,7,41,42] rfl ?_
  refine code_frz 113 [(2,_),(7,_)] [(2,_)] hM0 rfl ⟨.inl rfl,.inr ⟨_,_,rfl,rfl,rfl⟩,trivial⟩ ⟨rfl,trivial⟩ ?_
  have e1:l.take i=l:=List.take_of_length_le (by omega)
  have e2:=hL2_0.fin (by omega)
  rw [e1]
  refine xK tb hM0 6 [] [] rfl ?_
  refine endC_ret rfl ?_;rotate_left
  all_goals
    first
      | (rw [minZ_f (d:=d) (by assumption)];first|done|rfl)
      | (rw [minZ_t (d:=d) (by assumption),min_cells hd e2];first|done|rfl)
end Go.Proofs.YtjimlkpfmbachaaGreat

namespace Go.Proofs.YtjimlkpfmbachaaGreat
open Go.Am Go.Wc Go.Wb Go.Wd
theorem fn64:Fn1 Tryz.prog 64 Tryz.f64.ntmps 4 (Tryz.f64.body.getD .skip):=⟨Tryz.f64,Tryz.func64,rfl,rfl,rfl,by kernel_rfl⟩
set_option maxRecDepth 100000 in
set_option maxHeartbeats 2000000 in
theorem both1_call (x y:Bool):CallF Tryz.prog 64 ([bool x,bool y]++[]) (.p (bool (andB x y))):=by
  refine callF_of_code fn64 (Nat.le_of_ble_eq_true rfl) fun w0 M0 hM0=>?_
  refine xC tb hM0 9 [1,6] [] rfl ?_
  refine spO 6 rfl ?_ ?_<;>intro h1'<;>try simp only [dq] at h1'
  refine xA tb hM0 6 [] [] rfl ?_
  refine end_ret rfl ?_;rotate_left
  refine xA tb hM0 6 [] [] rfl ?_
  refine end_ret rfl ?_;rotate_left
  all_goals
    first|rfl|simp_all
theorem fn66:Fn1 Tryz.prog 66 Tryz.f66.ntmps 4 (Tryz.f66.body.getD .skip):=⟨Tryz.f66,Tryz.func66,rfl,rfl,rfl,by kernel_rfl⟩
set_option maxRecDepth 100000 in
set_option maxHeartbeats 2000000 in
theorem either1_call (x y:Bool):CallF Tryz.prog 66 ([bool x,bool y]++[]) (.p (bool (orB x y))):=by
  refine callF_of_code fn66 (Nat.le_of_ble_eq_true rfl) fun w0 M0 hM0=>?_
  refine xC tb hM0 9 [1,6] [] rfl ?_
  refine spO 6 rfl ?_ ?_<;>intro h1'<;>try simp only [dq] at h1'
  refine xA tb hM0 6 [] [] rfl ?_
  refine end_ret rfl ?_;rotate_left
  refine xA tb hM0 6 [] [] rfl ?_
  refine end_ret rfl ?_;rotate_left
  all_goals
    first|rfl|simp_all
theorem fn23:FnC2 Tryz.prog 23 Tryz.f23.ntmps 4 31 3 5 (Tryz.f23.body.getD .skip):=⟨Tryz.f23,Tryz.func23,rfl,rfl,rfl,by kernel_rfl,ag31,sz31⟩
set_option maxRecDepth 100000 in
set_option maxHeartbeats 2000000 in
theorem both_call {a b:Dfa} (hn:a.n*b.n≤2048):CallF Tryz.prog 23 [dfa a,dfa b] (.p (.tup [dfa (joinZ andB a b),int (joinE a b)])):=by
  refine callF_of_codeC2 fn23 (Nat.le_of_ble_eq_true rfl) fun w0 M0 hM0=>?_
  refine xC tb hM0 2 [0,1] [] rfl ?_
  refine oP rfl (pure_box rfl rfl rfl hM0) ?_
  refine oP rfl (pure_box rfl rfl rfl hM0) ?_
  refine xA tb hM0 8 [4,6,7] [4] rfl ?_
  refine oP rfl (pure_call rfl rfl rfl (join_call (f:=andB) (cq:=[]) both1_call hn) hM0) ?_
  refine xA tb hM0 7 [] [] rfl ?_
  refine endC2_ret rfl rfl ?_
  exact ⟨rfl,rfl⟩
theorem fn25:FnC2 Tryz.prog 25 Tryz.f25.ntmps 4 31 3 5 (Tryz.f25.body.getD .skip):=⟨Tryz.f25,Tryz.func25,rfl,rfl,rfl,by kernel_rfl,ag31,sz31⟩
set_option maxRecDepth 100000 in
set_option maxHeartbeats 2000000 in
theorem either_call {a b:Dfa} (hn:a.n*b.n≤2048):CallF Tryz.prog 25 [dfa a,dfa b] (.p (.tup [dfa (joinZ orB a b),int (joinE a b)])):=by
  refine callF_of_codeC2 fn25 (Nat.le_of_ble_eq_true rfl) fun w0 M0 hM0=>?_
  refine xC tb hM0 2 [0,1] [] rfl ?_
  refine oP rfl (pure_box rfl rfl rfl hM0) ?_
  refine oP rfl (pure_box rfl rfl rfl hM0) ?_
  refine xA tb hM0 8 [4,6,7] [4] rfl ?_
  refine oP rfl (pure_call rfl rfl rfl (join_call (f:=orB) (cq:=[]) either1_call hn) hM0) ?_
  refine xA tb hM0 7 [] [] rfl ?_
  refine endC2_ret rfl rfl ?_
  exact ⟨rfl,rfl⟩
theorem fn65:FnC2 Tryz.prog 65 Tryz.f65.ntmps 6 31 3 7 (Tryz.f65.body.getD .skip):=⟨Tryz.f65,Tryz.func65,rfl,rfl,rfl,by kernel_rfl,ag31,sz31⟩
set_option maxRecDepth 100000 in
set_option maxHeartbeats 4000000 in
theorem rjoined_call {a b:Dfa} {e:Bool} (hn:a.n*b.n≤2048):CallF Tryz.prog 65 [dfa a,dfa b,bool e] (.p (.tup [dfa (joinZ (ft e) a b),int (joinE a b)])):=by
  refine callF_of_codeC2 fn65 (Nat.le_of_ble_eq_true rfl) fun w0 M0 hM0=>?_
  refine xC tb hM0 2 [0,1,2] [] rfl ?_
  refine oP rfl (pure_box rfl rfl rfl hM0) ?_
  refine oP rfl (pure_box rfl rfl rfl hM0) ?_
  refine xA tb hM0 8 [2,3,4,6,10] [6] rfl ?_
  refine oP rfl (pure_call rfl rfl rfl (rvalidD_call (d:=a)) hM0) ?_
  refine xA tb hM0 2 [2,3,4,6,13] [6] rfl ?_
  refine spO 13 rfl ?_ ?_<;>intro h1'<;>try simp only [dq] at h1'
  refine xA tb hM0 23 [] [] rfl ?_
  refine endC2_ret rfl rfl ?_;rotate_left
  refine xA tb hM0 1 [2,3,4,6,13,14] [6] rfl ?_
  refine oP rfl (pure_call rfl rfl rfl (rvalidD_call (d:=b)) hM0) ?_
  refine xA tb hM0 3 [2,3,4,6,18] [6] rfl ?_
  refine spO 18 rfl ?_ ?_<;>intro h2'<;>try simp only [dq] at h2'
  refine xA tb hM0 18 [] [] rfl ?_
  refine endC2_ret rfl rfl ?_;rotate_left
  refine xA tb hM0 8 [2,3,4,6,24] [6] rfl ?_
  refine spC 24 rfl ?_ ?_<;>intro h3<;>try simp only [dq] at h3
  refine xA tb hM0 10 [] [] rfl ?_
  refine endC2_ret rfl rfl ?_;rotate_left
  have hda:=valid_ok (d:=a) (by assumption)
  have hdb:=valid_ok (d:=b) (by assumption)
  have hse:a.size=b.size:=by omega
  have hkk:a.k=b.k:=by unfold Dfa.k;rw [hse]
  refine xA tb hM0 8 [6,27,28,29] [6] rfl ?_
  refine oP rfl (pure_call rfl rfl rfl (rproduct_call (a:=a) (b:=b) (e:=e) hda hdb hkk hn) hM0) ?_
  refine xA tb hM0 12 [6,8,33] [6,8] rfl ?_
  refine oP rfl (pure_to (b':=false) (pure_not rfl rfl) (rfl)) ?_
  refine xA tb hM0 8 [6,36] [6] rfl ?_
  refine oP rfl (pure_call rfl rfl rfl (rmin_call (d:=prodP (ft e) a b)) hM0) ?_
  refine xA tb hM0 5 [] [] rfl ?_
  refine endC2_ret rfl rfl ?_;rotate_left
  all_goals
    first
      | (rw [joinZ_a (a:=a) (b:=b) (by assumption),joinE_a (a:=a) (b:=b) (by assumption)];exact ⟨rfl,rfl⟩)
      | (rw [joinZ_b (a:=a) (b:=b) (by assumption),joinE_b (a:=a) (b:=b) (by assumption)];exact ⟨rfl,rfl⟩)
      | (rw [joinZ_f (a:=a) (b:=b) (fun q=>by have:=q.2.2;omega),joinE_f (a:=a) (b:=b) (fun q=>by have:=q.2.2;omega)];exact ⟨rfl,rfl⟩)
      | (rw [joinZ_t (a:=a) (b:=b) (by assumption) (by assumption) hse,joinE_t (a:=a) (b:=b) (by assumption) (by assumption) hse,← join_min hda hdb hkk hn];exact ⟨rfl,rfl⟩)
theorem fn24:FnC2 Tryz.prog 24 Tryz.f24.ntmps 4 31 3 5 (Tryz.f24.body.getD .skip):=⟨Tryz.f24,Tryz.func24,rfl,rfl,rfl,by kernel_rfl,ag31,sz31⟩
set_option maxRecDepth 100000 in
set_option maxHeartbeats 2000000 in
theorem rboth_call {a b:Dfa} (hn:a.n*b.n≤2048):CallF Tryz.prog 24 [dfa a,dfa b] (.p (.tup [dfa (joinZ andB a b),int (joinE a b)])):=by
  refine callF_of_codeC2 fn24 (Nat.le_of_ble_eq_true rfl) fun w0 M0 hM0=>?_
  refine xC tb hM0 2 [0,1] [] rfl ?_
  refine oP rfl (pure_box rfl rfl rfl hM0) ?_
  refine oP rfl (pure_box rfl rfl rfl hM0) ?_
  refine xA tb hM0 8 [4,6,7] [4] rfl ?_
  refine oP rfl (pure_call rfl rfl rfl (rjoined_call (e:=false) hn) hM0) ?_
  refine xA tb hM0 7 [] [] rfl ?_
  refine endC2_ret rfl rfl ?_
  rw [ft_and];exact ⟨rfl,rfl⟩
theorem fn26:FnC2 Tryz.prog 26 Tryz.f26.ntmps 4 31 3 5 (Tryz.f26.body.getD .skip):=⟨Tryz.f26,Tryz.func26,rfl,rfl,rfl,by kernel_rfl,ag31,sz31⟩
set_option maxRecDepth 100000 in
set_option maxHeartbeats 2000000 in
theorem reither_call {a b:Dfa} (hn:a.n*b.n≤2048):CallF Tryz.prog 26 [dfa a,dfa b] (.p (.tup [dfa (joinZ orB a b),int (joinE a b)])):=by
  refine callF_of_codeC2 fn26 (Nat.le_of_ble_eq_true rfl) fun w0 M0 hM0=>?_
  refine xC tb hM0 2 [0,1] [] rfl ?_
  refine oP rfl (pure_box rfl rfl rfl hM0) ?_
  refine oP rfl (pure_box rfl rfl rfl hM0) ?_
  refine xA tb hM0 8 [4,6,7] [4] rfl ?_
  refine oP rfl (pure_call rfl rfl rfl (rjoined_call (e:=true) hn) hM0) ?_
  refine xA tb hM0 7 [] [] rfl ?_
  refine endC2_ret rfl rfl ?_
  rw [ft_or];exact ⟨rfl,rfl⟩
end Go.Proofs.YtjimlkpfmbachaaGreat

namespace Go.Proofs.YtjimlkpfmbachaaGreat
open Go.Am Go.Wc Go.Wb Go.Wd
theorem in_bit {n k:Nat} (x:Nat→Bool) (hk:k<n):decide (IntKind.wrap .u8 (((BitVec.ofInt 8 (((((bstr n x).getD (((k:Int) / 8).toNat) default).toNat:Nat):Int).fdiv (2 ^ (min (((k:Int) % 8).toNat) 8))) &&& BitVec.ofInt 8 1).toNat:Nat):Int)=1)=x k:=by
  rw [show ((k:Int) / 8).toNat=k / 8 by omega,show ((k:Int) % 8).toNat=k % 8 by omega,bstr_at x (by omega),and8 (byt_lt _) (by omega),byt_bit _ (by omega)]
  congr 1;omega
theorem fn69:Fn1 Tryz.prog 69 Tryz.f69.ntmps 3 (Tryz.f69.body.getD .skip):=⟨Tryz.f69,Tryz.func69,rfl,rfl,rfl,by kernel_rfl⟩
set_option maxRecDepth 100000 in
theorem rev3_call {d:Dfa} {k:Nat} (hk:k<d.fin.length):CallF Tryz.prog 69 ([natI k]++[dpc d]) (.p (bool (d.fn k))):=by
  refine callF_of_code fn69 (Nat.le_of_ble_eq_true rfl) fun w0 M0 hM0=>?_
  refine xC tb hM0 10 [5,6] [] rfl ?_
  refine oP rfl (pure_ix rfl Tryz.underlying29 sz4 rfl rfl (by exact ⟨Int.natCast_nonneg _,Int.ofNat_lt.2 hk⟩) (fun _=>rfl)) ?_
  refine xA tb hM0 5 [] [] rfl ?_
  refine end_ret rfl ?_
  rfl
theorem fn68:Fn1 Tryz.prog 68 Tryz.f68.ntmps 4 (Tryz.f68.body.getD .skip):=⟨Tryz.f68,Tryz.func68,rfl,rfl,rfl,by kernel_rfl⟩
set_option maxRecDepth 100000 in
theorem in_call {n k:Nat} (x:Nat→Bool) (hn:n≤4294967296) (hk:k<n):CallF Tryz.prog 68 ([.sc (setV n x),natI k]++[]) (.p (bool (x k))):=by
  refine callF_of_code fn68 (Nat.le_of_ble_eq_true rfl) fun w0 M0 hM0=>?_
  refine xC tb hM0 9 [1,5,6] [] rfl ?_
  refine oP rfl (pure_quon rfl rfl rfl (by omega)) ?_
  refine oP rfl (pure_sindex rfl Tryz.underlying9 rfl rfl (by rw [bstr_len];omega)) ?_
  refine xA tb hM0 1 [8,9] [] rfl ?_
  refine oP rfl (pure_remn rfl rfl rfl (by omega)) ?_
  refine oP rfl (pure_shr rfl rfl rfl (by omega)) ?_
  refine xA tb hM0 0 [11] [] rfl ?_
  refine oP rfl (pure_and rfl rfl rfl) ?_
  refine oP rfl (pure_eql rfl rfl rfl) ?_
  refine xA tb hM0 4 [] [] rfl ?_
  refine end_ret rfl ?_
  exact congrArg (fun b=>RV.p (bool b)) (in_bit x hk)
end Go.Proofs.YtjimlkpfmbachaaGreat

namespace Go.Proofs.YtjimlkpfmbachaaGreat
open Go.Am Go.Wc Go.Wb Go.Wd
theorem in_cell {d:Dfa} {k s:Nat} (x:Nat→Bool) (hd:okD d) (hn:d.n≤4294967296) (hk:k<d.next.length) (hs:s<d.k):CallF Tryz.prog 68 ([.sc (setV d.n x),int ((d.next.getD k default).getD s default)]++[]) (.p (bool (x (d.stp k s)))):=by
  have hkk:=kk hd
  have e:int ((d.next.getD k default).getD s default)=natI (d.stp k s):=congrArg int (hd.cellN hk (k:=s) (by omega))
  rw [e]
  exact in_call x hn (hd.stp hk hs)
theorem fn71:Fn1 Tryz.prog 71 Tryz.f71.ntmps 6 (Tryz.f71.body.getD .skip):=⟨Tryz.f71,Tryz.func71,rfl,rfl,rfl,by kernel_rfl⟩
set_option maxRecDepth 100000 in
theorem rev41_call {d:Dfa} {k s:Nat} (x:Nat→Bool) (hd:okD d) (hn:d.n≤4294967296) (hk:k<d.next.length) (hs:s<d.k):CallF Tryz.prog 71 ([natI k]++[.pc [.clo 68 []] 0,.pc [.sc (setV d.n x)] 0,dpc d,.pc [natI s] 0]) (.p (bool (x (d.stp k s)))):=by
  have hkk:=kk hd
  refine callF_of_code fn71 (Nat.le_of_ble_eq_true rfl) fun w0 M0 hM0=>?_
  refine xC tb hM0 6 [0,1,2,3,4] [] rfl ?_
  refine code_draw mixed (by kernel_rfl) _ rfl ?_
  refine dl_pure rfl rfl rfl (pure_load rfl ag84 rfl rfl) ?_
  refine dl_pure rfl rfl rfl (pure_load rfl ag9 rfl rfl) ?_
  refine dl_pure rfl rfl rfl (pure_field rfl fd31_1 rfl) ?_
  refine dl_pure rfl rfl rfl (pure_load rfl ag28 rfl rfl) ?_
  refine dl_pure rfl rfl rfl (pure_move rfl rfl) ?_
  refine dl_pure rfl rfl rfl (pure_ix rfl Tryz.underlying28 sz22 rfl rfl (by exact ⟨Int.natCast_nonneg _,Int.ofNat_lt.2 hk⟩) (fun _=>rfl)) ?_
  refine dl_pure rfl rfl rfl (pure_load rfl ag22 rfl rfl) ?_
  refine dpk 18 [(4,_),(7,_),(8,_),(13,_)] [] rfl rfl rfl ?_
  refine dl_pure rfl rfl rfl (pure_load rfl ag3 rfl rfl) ?_
  refine dl_pure rfl rfl rfl (pure_ix rfl Tryz.underlying22 sz3 rfl rfl (by exact ⟨Int.natCast_nonneg _,Int.ofNat_lt.2 (show s<_ by have:=(hd.row hk).1;omega)⟩) (fun _=>rfl)) ?_
  refine dl_pure rfl rfl rfl (pure_load rfl ag3 rfl rfl) ?_
  refine dl_pure rfl rfl rfl (pure_call rfl rfl rfl (in_cell x hd hn hk hs) hM0) ?_
  refine dl_pure rfl rfl rfl (pure_assign rfl rfl) ?_
  refine dl_nil ?_
  refine xD tb hM0 2 [] [] rfl ?_
  refine end_ret rfl ?_
  rfl
theorem fn72:Fn1 Tryz.prog 72 Tryz.f72.ntmps 3 (Tryz.f72.body.getD .skip):=⟨Tryz.f72,Tryz.func72,rfl,rfl,rfl,by kernel_rfl⟩
set_option maxRecDepth 100000 in
theorem rev5_call {n:Nat} (x:Nat→Bool) (hn:n≤4294967296) (h0:0<n):CallF Tryz.prog 72 ([.sc (setV n x)]++[.pc [.clo 68 []] 0]) (.p (bool (x 0))):=by
  refine callF_of_code fn72 (Nat.le_of_ble_eq_true rfl) fun w0 M0 hM0=>?_
  refine xC tb hM0 7 [0,1] [] rfl ?_
  refine oP rfl (pure_load rfl ag84 rfl rfl) ?_
  refine xA tb hM0 1 [4,5] [] rfl ?_
  refine oP rfl (pure_call rfl rfl rfl (in_call (n:=n) (k:=0) x hn h0) hM0) ?_
  refine xA tb hM0 4 [] [] rfl ?_
  refine end_ret rfl ?_
  rfl
end Go.Proofs.YtjimlkpfmbachaaGreat

namespace Go.Proofs.YtjimlkpfmbachaaGreat
open Go.Am Go.Wc Go.Wb Go.Wd
theorem set_step {n i:Nat} {x:Nat→Bool} (hi:i<n) (hx:x i=true):(((bts n (cut x i)).map fun b:Nat=>(b:Int)).map byteI).set ((i:Int) / 8).toNat (byteI (IntKind.wrap .u8 (((BitVec.ofInt 8 (((bts n (cut x i)).map fun b:Nat=>(b:Int)).getD ((i:Int) / 8).toNat default) ||| BitVec.ofInt 8 (IntKind.wrap .u8 (1*2 ^ (min ((i:Int) % 8).toNat 8)))).toNat:Nat):Int)))=((bts n (cut x (i+1))).map fun b:Nat=>(b:Int)).map byteI:=by
  have hb:i / 8<(bts n (cut x i)).length:=by rw [bts_len];omega
  have e:((bts n (cut x i)).map fun b:Nat=>(b:Int)).getD (i / 8) default=((byt fun t=>cut x i (8*(i / 8)+t):Nat):Int):=by
    rw [← bts_get (cut x i) (show i / 8<(n+7) / 8 by omega),List.getD_eq_getElem?_getD,List.getElem?_map,List.getElem?_eq_getElem hb,el_get hb];rfl
  have h2:2 ^ (i % 8)<256:=Nat.pow_lt_pow_right (n:=8) (by decide) (Nat.mod_lt _ (by decide))
  rw [show ((i:Int) / 8).toNat=i / 8 by omega,show ((i:Int) % 8).toNat=i % 8 by omega,shl8 (Nat.mod_lt _ (by decide)),e,or8 (byt_lt _) h2,← List.map_set,← List.map_set,cut_set hi hx]
theorem fn67:Fn1 Tryz.prog 67 Tryz.f67.ntmps 3 (Tryz.f67.body.getD .skip):=⟨Tryz.f67,Tryz.func67,rfl,rfl,rfl,by kernel_rfl⟩
set_option maxRecDepth 100000 in
set_option maxHeartbeats 4000000 in
theorem sset_call {n:Nat} {x:Nat→Bool} {g:FuncId} {cg:List AV} (hn:n≤4294967296) (hg:∀ k,k<n→CallF Tryz.prog g ([natI k]++cg) (.p (bool (x k)))):CallF Tryz.prog 67 ([.clo g cg]++[.pc [natI n] 0]) (.p (.sc (setV n (cut x n)))):=by
  refine callF_of_code fn67 (Nat.le_of_ble_eq_true rfl) fun w0 M0 hM0=>?_
  refine xC tb hM0 8 [0,1,6] [] rfl ?_
  refine oP rfl (pure_addi rfl rfl rfl (by omega)) ?_
  refine oP rfl (pure_quon rfl rfl rfl (by omega)) ?_
  refine xA tb hM0 0 [0,1,8] [] rfl ?_
  refine oS rfl (step_make rfl rfl rfl rfl Tryz.underlying60 el5 ze5 rfl rfl rfl (by omega) (by omega) (by omega) hM0) rfl ?_
  refine xA tb hM0 11 [0,4,10,11] [9] rfl ?_
  refine lp (fun zm zs=>∃ i:Nat,zm=n-i∧(i≤n)∧zs=⟨30,[(0,.v .mx (.clo g cg)),(4,.own 9),(10,.v .mx (natI n)),(11,.v .pl (int i))],[(9,.arr 5 (((bts n (cut x i)).map fun b:Nat=>(b:Int)).map byteI))]⟩) ?_ ?_
  refine ⟨_,0,rfl,Nat.zero_le _,?_⟩
  rw [cut_zero,List.map_replicate,List.map_replicate,show (((n:Int)+7) / 8).toNat=(n+7) / 8 by omega];rfl
  rintro zm zs ⟨i,rfl,hL1_0,rfl⟩
  refine xA tb hM0 6 [0,4,10,11,12] [9] rfl ?_
  refine spC 12 rfl ?_ ?_<;>intro h1<;>try simp only [dq] at h1
  refine xA tb hM0 15 [0,4,5,10,11,14,15] [9] rfl ?_
  refine oP rfl (pure_call rfl rfl rfl (hg i (by omega)) hM0) ?_
  refine xA tb hM0 2 [0,4,5,10,11,16] [9] rfl ?_
  refine spC 16 rfl ?_ ?_<;>intro h2<;>try simp only [dq] at h2
  refine xA tb hM0 1 [0,4,5,10,11] [9] rfl ?_
  refine code_draw mixed (by kernel_rfl) _ rfl ?_
  refine dl_pure rfl rfl rfl (pure_move rfl rfl) ?_
  refine dl_pure rfl rfl rfl (pure_move rfl rfl) ?_
  refine dl_pure rfl rfl rfl (pure_quon rfl rfl rfl (by omega)) ?_
  refine dl_pure rfl rfl rfl (pure_index_own rfl Tryz.underlying60 sz5 rfl rfl rfl (by rw [List.length_map,List.length_map,bts_len];omega)) ?_
  refine dl_pure rfl rfl rfl (pure_load_pel rfl ag5 rfl rfl (mget (by rw [List.length_map,bts_len];omega)) rfl) ?_
  refine dl_pure rfl rfl rfl (pure_move rfl rfl) ?_
  refine dl_pure rfl rfl rfl (pure_remn rfl rfl rfl (by omega)) ?_
  refine dpk 30 [(0,_),(4,_),(10,_),(11,_),(17,_),(19,_),(21,_),(23,_)] [(9,_)] rfl rfl rfl ?_
  refine dl_pure rfl rfl rfl (pure_shl rfl rfl rfl (by omega)) ?_
  refine dl_pure rfl rfl rfl (pure_or rfl rfl rfl) ?_
  refine dl_pure rfl rfl rfl (pure_index_own rfl Tryz.underlying60 sz5 rfl rfl rfl (by rw [List.length_map,List.length_map,bts_len];omega)) ?_
  refine dl_tails (by kernel_rfl) ?_
  refine tl_step rfl (step_store_pel rfl rfl rfl sz5 rfl rfl (mget (by rw [List.length_map,bts_len];omega)) rfl rfl (.inl rfl) rfl (Nat.le_of_ble_eq_true rfl) hM0) ?_
  refine tl_nil ?_
  refine xD tb hM0 3 [0,4,10,11] [9] rfl ?_
  refine oP rfl (pure_addi rfl rfl rfl (by omega)) ?_
  refine xA tb hM0 2 [0,4,10,11] [9] rfl ?_
  refine nx ?_
  refine ⟨_,⟨i+1,rfl,by omega,?_⟩,by omega⟩
  rw [← set_step (x:=x) (n:=n) (by omega) (by assumption)];rfl
  refine xA tb hM0 5 [0,4,10,11] [9] rfl ?_
  refine oP rfl (pure_addi rfl rfl rfl (by omega)) ?_
  refine xA tb hM0 2 [0,4,10,11] [9] rfl ?_
  refine nx ?_
  refine ⟨_,⟨i+1,rfl,by omega,?_⟩,by omega⟩
  rw [← cut_not (by assumption)];rfl
  refine xA tb hM0 9 [28] [9] rfl ?_
  refine oP rfl (pure_btosm rfl Tryz.underlying60 Tryz.underlying5 Tryz.underlying9 rfl) ?_
  refine xA tb hM0 4 [] [] rfl ?_
  refine end_ret rfl ?_
  have e:i=n:=by omega
  subst e
  refine congrArg (fun l:List UInt8=>RV.p (.sc (.string ⟨l.toArray⟩))) ?_
  unfold bstr
  rw [List.map_map];rfl
end Go.Proofs.YtjimlkpfmbachaaGreat

