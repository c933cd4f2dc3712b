/-
  Contracts: keys of expressions.
-/
import Derived.Test.YtjimlkpfmbachaaGreatJ17
import Derived.Test.YtjimlkpfmbachaaGreatJ30
import Derived.Test.YtjimlkpfmbachaaGreatJ24
import Derived.Test.YtjimlkpfmbachaaGreatJ16
set_option linter.unusedVariables false
set_option linter.unusedSectionVars false
set_option linter.unusedSimpArgs false
namespace Go.Proofs.YtjimlkpfmbachaaGreat
open Go.Am Go.Wc Go.Wb Go.Wd
theorem fn73:Fn1 Tryz.prog 73 Tryz.f73.ntmps 4 (Tryz.f73.body.getD .skip):=⟨Tryz.f73,Tryz.func73,rfl,rfl,rfl,by kernel_rfl⟩
set_option maxRecDepth 100000 in
set_option maxHeartbeats 2000000 in
theorem sameSet_call {a b:List Bool} (hab:a.length=b.length) (hl:a.length≤4611686018427387904):CallF Tryz.prog 73 [boolsA a,boolsA b] (.p (bool (decide (a=b)))):=by
  refine callF_of_code fn73 (Nat.le_of_ble_eq_true rfl) fun w0 M0 hM0=>?_
  refine xC tb hM0 12 [0,1,5] [] rfl ?_
  refine lp (fun zm zs=>∃ i:Nat,zm=a.length-i∧(i≤a.length)∧(∀ j,j<i→a.getD j default=b.getD j default)∧zs=⟨21,[(0,.v .mx (boolsA a)),(1,.v .mx (boolsA b)),(5,.v .pl (int i))],[]⟩) ?_ ?_
  exact ⟨_,0,rfl,Nat.zero_le _,fun j hj=>absurd hj (Nat.not_lt_zero j),rfl⟩
  rintro zm zs ⟨i,rfl,hL1_0,hL1_1,rfl⟩
  refine xA tb hM0 5 [0,1,5,6,7] [] rfl ?_
  refine oP rfl (pure_lenm rfl Tryz.underlying29 rfl) ?_
  refine xA tb hM0 3 [0,1,5,9] [] rfl ?_
  refine spC 9 rfl ?_ ?_<;>intro h1<;>try simp only [dq] at h1
  refine xA tb hM0 6 [0,1,5] [] rfl ?_
  refine code_draw mixed (by kernel_rfl) _ rfl ?_
  refine dl_pure rfl rfl rfl (pure_move rfl rfl) ?_
  refine dl_pure rfl rfl rfl (pure_move rfl rfl) ?_
  refine dl_pure rfl rfl rfl (pure_ix rfl Tryz.underlying29 sz4 rfl rfl (by omega) (fun _=>rfl)) ?_
  refine dl_pure rfl rfl rfl (pure_load rfl ag4 rfl rfl) ?_
  refine dl_pure rfl rfl rfl (pure_move rfl rfl) ?_
  refine dl_pure rfl rfl rfl (pure_move rfl rfl) ?_
  refine dl_pure rfl rfl rfl (pure_ix rfl Tryz.underlying29 sz4 rfl rfl (by omega) (fun _=>rfl)) ?_
  refine dl_pure rfl rfl rfl (pure_load rfl ag4 rfl rfl) ?_
  refine dl_pure rfl rfl rfl (pure_bne Tryz.underlying4 rfl rfl rfl) ?_
  refine dl_nil ?_
  refine xD tb hM0 1 [0,1,5,20] [] rfl ?_
  refine spC 20 rfl ?_ ?_<;>intro h2<;>try simp only [dq] at h2
  refine xA tb hM0 12 [] [] rfl ?_
  refine end_ret rfl ?_;rotate_left
  refine xA tb hM0 6 [0,1,10] [] rfl ?_
  refine oP rfl (pure_addi rfl rfl rfl (by omega)) ?_
  refine xA tb hM0 2 [0,1,5] [] rfl ?_
  refine nx ?_
  exact ⟨_,⟨i+1,rfl,by omega,upto_step hL1_1 (by simp_all),rfl⟩,by omega⟩
  refine xA tb hM0 12 [] [] rfl ?_
  refine end_ret rfl ?_;rotate_left
  all_goals
    first
      | (rw [decide_eq_true (p:=a=b) (same_ext hab (fun j hj=>hL1_1 j (by omega)))];first|done|rfl)
      | (rw [decide_eq_false (p:=a=b) (fun e=>by subst e;simp_all)];first|done|rfl)
theorem fn28:FnC2 Tryz.prog 28 Tryz.f28.ntmps 2 31 3 3 (Tryz.f28.body.getD .skip):=⟨Tryz.f28,Tryz.func28,rfl,rfl,rfl,by kernel_rfl,ag31,sz31⟩
set_option maxRecDepth 100000 in
set_option maxHeartbeats 8000000 in
theorem rreverse_call {d : Dfa} (hF : FewD d) : CallF Tryz.prog 28 [dfa d] (.p (.tup [dfa (revZ d), int (revE d)])) := by
  refine callF_of_codeC2 fn28 (Nat.le_of_ble_eq_true rfl) fun w0 M0 hM0=>?_
  refine xC tb hM0 2 [0] [] rfl ?_
  refine oP rfl (pure_box rfl rfl rfl hM0) ?_
  refine xA tb hM0 8 [1,2,13] [2] rfl ?_
  refine oP rfl (pure_call rfl rfl rfl (rvalidD_call (d:=d)) hM0) ?_
  refine xA tb hM0 3 [1,2,15] [2] rfl ?_
  refine spC 15 rfl ?_ ?_<;>intro h1<;>try simp only [dq] at h1
  ·skip
   refine xA tb hM0 3 [2] [2] rfl ?_
   refine oP rfl (pure_norm (pure_build rfl pl31 ze31 rfl rfl rfl) rfl) ?_
   refine xA tb hM0 6 [] [] rfl ?_
   refine endC2_ret rfl rfl ?_
   first
     | (rw [revZ_f (d:=d) (by assumption),revE_f (d:=d) (by assumption)];(first|exact ⟨rfl,rfl⟩|rfl))
     | (rw [revZ_t (d:=d) (by assumption),revE_t (d:=d) (by assumption),← rev_min hd hF,sub_cells (l:=l) hm (by rw [← hN];exact e2)];(first|exact ⟨rfl,rfl⟩|rfl))
  ·skip
   have hd:=valid_ok (d:=d) (by assumption)
   have hm:=(minP_ok hd).1
   obtain ⟨U0,hU0⟩:=hF hd
   obtain ⟨U,hU,hUl⟩:=hU0.lens hm.1.2.2
   have hbm:=hm.1
   have hkm:=kk hm
   have hnn:(minP d).n=(minP d).next.length:=rfl
   have hle2:=hU.le
   have hmin:CallF Tryz.prog 37 [dfa d] (.p (dfa (minP d))):=by
     have h:=rmin_call (d:=d)
     rwa [minZ_t (by assumption)] at h
   obtain ⟨N,hN⟩:∃ N,N=2 ^ (minP d).n:=⟨_,rfl⟩
   have hNU:U.length≤N:=by rw [hN];exact hU.le2
   refine xA tb hM0 6 [2,17] [2] rfl ?_
   refine oP rfl (pure_call rfl rfl rfl (hmin) hM0) ?_
   refine xA tb hM0 5 [2,4] [2,4] rfl ?_
   refine code_frz 114 [(2,_),(4,_)] [(2,_)] hM0 rfl ⟨.inl rfl,.inr ⟨_,_,rfl,rfl,rfl⟩,trivial⟩ ⟨rfl,trivial⟩ ?_
   refine xK tb hM0 3 [2,4,20] [2] rfl ?_
   refine oS rfl (step_lit rfl rfl rfl rfl Tryz.underlying85 el29 rfl rfl rfl rfl hM0) rfl ?_
   refine xA tb hM0 14 [2,4,5,6] [2,6,21] rfl ?_
   refine code_nilown 6 1 41 22 31 hM0 rfl rfl rfl rfl ?_
   refine code_nilown 6 2 42 4 31 hM0 rfl rfl rfl rfl ?_
   refine xK tb hM0 5 [2,4,5,6,7] [2,6,21,41,42] rfl ?_
   refine lp (fun zm zs=>∃ (l:List (List Bool)) (i:Nat),zm=N+1-i∧(Ex (snext (minP d)) (minP d).k U (minP d).fin N l i)∧zs=⟨114,[(2,.pbox 2 0),(4,.v .pl (dpc (minP d))),(5,.own 21),(6,.pbox 6 0),(7,.v .pl (int i))],[(2,.box 31 [.v .pl (.sc (.int .i64 0)),.v .pl (.sc (.slice none 0 0)),.v .pl (.sc (.slice none 0 0))]),(6,.box 31 [.v .pl (int (minP d).size),.own 41,.own 42]),(21,.arr 29 (l.map boolsA)),(41,.arr 22 ((rowsX (snext (minP d)) (minP d).k l (l.take i)).map ints)),(42,.arr 4 ((finX sfin (l.take i)).map bool))]⟩) ?_ ?_
   ·exact ⟨_,[(minP d).fin],0,rfl,ex_start hU.start,rfl⟩
   ·rintro zm zs ⟨l, i, rfl, hL1_0, rfl⟩
    have hle:=hL1_0.le
    refine xA tb hM0 5 [2,4,5,6,7,25,26] [2,6,21,41,42] rfl ?_
    refine oP rfl (pure_lenm rfl Tryz.underlying85 rfl) ?_
    refine xA tb hM0 3 [2,4,5,6,7,28] [2,6,21,41,42] rfl ?_
    refine spC 28 rfl ?_ ?_<;>intro h2<;>try simp only [dq] at h2
    ·skip
     refine xA tb hM0 7 [2,4,5,6,7] [2,6,21,41,42] rfl ?_
     refine oS rfl (step_nil rfl rfl rfl rfl rfl 3 hM0) rfl ?_
     refine xA tb hM0 9 [2,4,5,6,7,8,9] [2,6,8,21,41,42] rfl ?_
     have hi:i<l.length:=by omega
     have hxU:=hL1_0.met.sub _ (el_mem hi)
     refine lp (fun zm zs=>∃ s:Nat,zm=(minP d).k-s∧(s≤(minP d).k)∧zs=⟨114,[(2,.pbox 2 0),(4,.v .pl (dpc (minP d))),(5,.own 21),(6,.pbox 6 0),(7,.v .pl (int i)),(8,.own 8),(9,.v .pl (int s))],[(2,.box 31 [.v .pl (.sc (.int .i64 0)),.v .pl (.sc (.slice none 0 0)),.v .pl (.sc (.slice none 0 0))]),(6,.box 31 [.v .pl (int (minP d).size),.own 41,.own 42]),(8,.arr 3 ((rI (snext (minP d)) (l.getD i default) l s).map int)),(21,.arr 29 ((grow (snext (minP d)) (l.getD i default) l s).map boolsA)),(41,.arr 22 ((rowsX (snext (minP d)) (minP d).k l (l.take i)).map ints)),(42,.arr 4 ((finX sfin (l.take i)).map bool))]⟩) ?_ ?_
     ·exact ⟨_,0,rfl,Nat.zero_le _,rfl⟩
     ·rintro zm zs ⟨s, rfl, hL2_0, rfl⟩
      have hgl:=grow_le hL1_0.met hU.cl hxU hL2_0
      have hgl2:=grow_len (next:=(snext (minP d))) (x:=(l.getD i default)) (l:=l) s
      have hgm:∀ j,j<(grow (snext (minP d)) (l.getD i default) l s).length→((grow (snext (minP d)) (l.getD i default) l s).getD j default).length=(minP d).n:=fun j hj=>hUl _ (grow_sub hL1_0.met hU.cl hxU hL2_0 _ (el_mem hj))
      have hgx:((grow (snext (minP d)) (l.getD i default) l s).getD i default)=(l.getD i default):=grow_at s hi
      refine xA tb hM0 9 [2,4,5,6,7,8,9,34] [2,6,8,21,41,42] rfl ?_
      refine spC 34 rfl ?_ ?_<;>intro h3<;>try simp only [dq] at h3
      ·skip
       refine xA tb hM0 9 [2,4,5,6,7,8,9,38] [2,6,8,21,41,42] rfl ?_
       refine oP rfl (pure_lenm rfl Tryz.underlying28 rfl) ?_
       refine oS rfl (step_make rfl rfl rfl rfl Tryz.underlying29 el4 ze4 rfl rfl rfl (by first|(simp only [ll];omega)|omega) (by first|(simp only [ll];omega)|omega) (by first|(simp only [ll];omega)|omega) hM0) rfl ?_
       refine xA tb hM0 10 [2,4,5,6,7,8,9,10,11] [2,6,8,21,40,41,42] rfl ?_
       refine lp (fun zm zs=>∃ k:Nat,zm=(minP d).n-k∧(k≤(minP d).n)∧zs=⟨114,[(2,.pbox 2 0),(4,.v .pl (dpc (minP d))),(5,.own 21),(6,.pbox 6 0),(7,.v .pl (int i)),(8,.own 8),(9,.v .pl (int s)),(10,.own 40),(11,.v .pl (int k))],[(2,.box 31 [.v .pl (.sc (.int .i64 0)),.v .pl (.sc (.slice none 0 0)),.v .pl (.sc (.slice none 0 0))]),(6,.box 31 [.v .pl (int (minP d).size),.own 41,.own 42]),(8,.arr 3 ((rI (snext (minP d)) (l.getD i default) l s).map int)),(21,.arr 29 ((grow (snext (minP d)) (l.getD i default) l s).map boolsA)),(40,.arr 4 ((fillB (minP d) (l.getD i default) s k).map bool)),(41,.arr 22 ((rowsX (snext (minP d)) (minP d).k l (l.take i)).map ints)),(42,.arr 4 ((finX sfin (l.take i)).map bool))]⟩) ?_ ?_
       ·refine ⟨_,0,rfl,Nat.zero_le _,?_⟩
        rw [fillB_zero,← rep_bools];rfl
       ·rintro zm zs ⟨k, rfl, hL3_0, rfl⟩
        have hfl:=fillB_len (m:=(minP d)) (x:=(l.getD i default)) (s:=s) hL3_0
        refine xA tb hM0 5 [2,4,5,6,7,8,9,10,11,41,42] [2,6,8,21,40,41,42] rfl ?_
        refine oP rfl (pure_lenm rfl Tryz.underlying29 rfl) ?_
        refine xA tb hM0 3 [2,4,5,6,7,8,9,10,11,44] [2,6,8,21,40,41,42] rfl ?_
        refine spC 44 rfl ?_ ?_<;>intro h4<;>try simp only [dq] at h4
        ·skip
         refine xA tb hM0 5 [2,4,5,6,7,8,9,10,11] [2,6,8,21,40,41,42] rfl ?_
         refine code_draw mixed (by kernel_rfl) _ rfl ?_
         refine dl_pure rfl rfl rfl (pure_move rfl rfl) ?_
         refine dl_pure rfl rfl rfl (pure_move rfl rfl) ?_
         refine dl_pure rfl rfl rfl (pure_move rfl rfl) ?_
         refine dl_pure rfl rfl rfl (pure_move rfl rfl) ?_
         refine dl_pure rfl rfl rfl (pure_index_own rfl Tryz.underlying85 sz29 rfl rfl rfl (by rw [List.length_map];omega)) ?_
         refine dl_pure rfl rfl rfl (pure_load_pel rfl ag29 rfl rfl (mget (by omega)) rfl) ?_
         refine dl_pure rfl rfl rfl (pure_field rfl fd31_1 rfl) ?_
         refine dpk 114 [(2,_),(4,_),(5,_),(6,_),(7,_),(8,_),(9,_),(10,_),(11,_),(47,_),(48,_),(52,_),(53,_)] [(2,_),(6,_),(8,_),(21,_),(40,_),(41,_),(42,_)] rfl rfl rfl ?_
         refine dl_pure rfl rfl rfl (pure_load rfl ag28 rfl rfl) ?_
         refine dl_pure rfl rfl rfl (pure_move rfl rfl) ?_
         refine dl_pure rfl rfl rfl (pure_ix rfl Tryz.underlying28 sz22 rfl rfl (by exact ⟨Int.natCast_nonneg _,Int.ofNat_lt.2 (show k<_ by omega)⟩) (fun _=>rfl)) ?_
         refine dl_pure rfl rfl rfl (pure_load rfl ag22 rfl rfl) ?_
         refine dl_pure rfl rfl rfl (pure_move rfl rfl) ?_
         refine dl_pure rfl rfl rfl (pure_ix rfl Tryz.underlying22 sz3 rfl rfl (by exact ⟨Int.natCast_nonneg _,Int.ofNat_lt.2 (show s<_ by have:=(hm.row (i:=k) (by omega)).1;omega)⟩) (fun _=>rfl)) ?_
         refine dl_pure rfl rfl rfl (pure_toi (a':=(((minP d).stp k s:Nat):Int)) (pure_load rfl ag3 rfl rfl) (hm.cellN (by omega) (by omega))) ?_
         refine dpk 114 [(2,_),(4,_),(5,_),(6,_),(7,_),(8,_),(9,_),(10,_),(11,_),(47,_),(48,_),(52,_),(60,_)] [(2,_),(6,_),(8,_),(21,_),(40,_),(41,_),(42,_)] rfl rfl rfl ?_
         refine dl_pure rfl rfl rfl (pure_ix rfl Tryz.underlying29 sz4 rfl rfl (by exact ⟨Int.natCast_nonneg _,Int.ofNat_lt.2 (show _<List.length _ by simp only [Int.toNat_natCast];rw [hgm i (by omega)];exact hm.stp (by omega) (by omega))⟩) (fun _=>rfl)) ?_
         refine dl_pure rfl rfl rfl (pure_load rfl ag4 rfl rfl) ?_
         refine dl_pure rfl rfl rfl (pure_index_own rfl Tryz.underlying29 sz4 rfl rfl rfl (by rw [List.length_map,fillB_len (by omega)];omega)) ?_
         refine dl_tails (by kernel_rfl) ?_
         refine tl_step rfl (step_store_pel rfl rfl rfl sz4 rfl rfl (mget (by rw [fillB_len (by omega)];omega)) rfl rfl (.inl rfl) rfl (Nat.le_of_ble_eq_true rfl) hM0) ?_
         refine tl_nil ?_
         refine xD tb hM0 4 [2,4,5,6,7,8,9,10,45] [2,6,8,21,40,41,42] rfl ?_
         refine oP rfl (pure_addi rfl rfl rfl (by omega)) ?_
         refine xA tb hM0 2 [2,4,5,6,7,8,9,10,11] [2,6,8,21,40,41,42] rfl ?_
         refine nx ?_
         refine ⟨_,⟨k+1,rfl,by omega,?_⟩,by omega⟩
         rw [← fillB_set (by omega)]
         simp only [Int.toNat_natCast,hgx];rfl
        ·skip
         refine xA tb hM0 7 [2,4,5,6,7,8,9,10] [2,6,8,21,40,41,42] rfl ?_
         refine code_frz 114 [(2,_),(4,_),(5,_),(6,_),(7,_),(8,_),(9,_),(10,_)] [(2,_),(6,_),(8,_),(21,_),(41,_),(42,_)] hM0 rfl ⟨.inl rfl,.inl rfl,.inl rfl,.inl rfl,.inl rfl,.inl rfl,.inl rfl,.inr ⟨_,_,rfl,rfl,rfl⟩,trivial⟩ ⟨rfl,rfl,rfl,rfl,rfl,rfl,trivial⟩ ?_
         obtain rfl:k=(minP d).n:=by omega
         rw [fillB_all]
         refine xK tb hM0 6 [2,4,5,6,7,8,9,10,12] [2,6,8,21,41,42] rfl ?_
         refine lp (fun zm zs=>∃ k:Nat,zm=(grow (snext (minP d)) (l.getD i default) l s).length-k∧(k≤(grow (snext (minP d)) (l.getD i default) l s).length)∧(∀ j,j<k→(grow (snext (minP d)) (l.getD i default) l s).getD j default≠(snext (minP d) (l.getD i default) s))∧zs=⟨114,[(2,.pbox 2 0),(4,.v .pl (dpc (minP d))),(5,.own 21),(6,.pbox 6 0),(7,.v .pl (int i)),(8,.own 8),(9,.v .pl (int s)),(10,.v .pl (boolsA (snext (minP d) (l.getD i default) s))),(12,.v .pl (int k))],[(2,.box 31 [.v .pl (.sc (.int .i64 0)),.v .pl (.sc (.slice none 0 0)),.v .pl (.sc (.slice none 0 0))]),(6,.box 31 [.v .pl (int (minP d).size),.own 41,.own 42]),(8,.arr 3 ((rI (snext (minP d)) (l.getD i default) l s).map int)),(21,.arr 29 ((grow (snext (minP d)) (l.getD i default) l s).map boolsA)),(41,.arr 22 ((rowsX (snext (minP d)) (minP d).k l (l.take i)).map ints)),(42,.arr 4 ((finX sfin (l.take i)).map bool))]⟩) ?_ ?_
         ·exact ⟨_,0,rfl,Nat.zero_le _,fun j hj=>absurd hj (Nat.not_lt_zero j),rfl⟩
         ·rintro zm zs ⟨k,rfl,hL4_0,hL4_1,rfl⟩
          refine xA tb hM0 5 [2,4,5,6,7,8,9,10,12,64,65] [2,6,8,21,41,42] rfl ?_
          refine oP rfl (pure_lenm rfl Tryz.underlying85 rfl) ?_
          refine xA tb hM0 2 [2,4,5,6,7,8,9,10,12,68] [2,6,8,21,41,42] rfl ?_
          refine spO 68 rfl ?_ ?_<;>intro h5'<;>try simp only [dq] at h5'
          ·skip
           refine xA tb hM0 2 [2,4,5,6,7,8,9,10,12,68,69,70] [2,6,8,21,41,42] rfl ?_
           refine oP rfl (pure_index_own rfl Tryz.underlying85 sz29 rfl rfl rfl (by rw [List.length_map];omega)) ?_
           refine oP rfl (pure_load_pel rfl ag29 rfl rfl (mget (by omega)) rfl) ?_
           refine xA tb hM0 1 [2,4,5,6,7,8,9,10,12,68,72,73] [2,6,8,21,41,42] rfl ?_
           refine oP rfl (pure_call rfl rfl rfl (sameSet_call (a:=(grow (snext (minP d)) (l.getD i default) l s).getD k default) (b:=(snext (minP d) (l.getD i default) s)) ((hgm k (by omega)).trans (snext_len _ _ _).symm) (by rw [hgm k (by omega)];omega)) hM0) ?_
           refine xA tb hM0 4 [2,4,5,6,7,8,9,10,12,76] [2,6,8,21,41,42] rfl ?_
           refine spC 76 rfl ?_ ?_<;>intro h6<;>try simp only [dq] at h6
           ·skip
            refine xA tb hM0 6 [2,4,5,6,7,8,9,10,77] [2,6,8,21,41,42] rfl ?_
            refine oP rfl (pure_addi rfl rfl rfl (by omega)) ?_
            refine xA tb hM0 3 [2,4,5,6,7,8,9,10,12] [2,6,8,21,41,42] rfl ?_
            refine nx ?_
            exact ⟨_,⟨k+1,rfl,by omega,upto_step hL4_1 (by simp_all),rfl⟩,by omega⟩
           ·skip
            refine xA tb hM0 6 [2,4,5,6,7,8,9,10,12] [2,6,8,21,41,42] rfl ?_
            refine ct (fun zs=>zs=⟨114,[(2,.pbox 2 0),(4,.v .pl (dpc (minP d))),(5,.own 21),(6,.pbox 6 0),(7,.v .pl (int i)),(8,.own 8),(9,.v .pl (int s)),(12,.v .pl (natI (idx (grow (snext (minP d)) (l.getD i default) l (s+1)) (snext (minP d) (l.getD i default) s))))],[(2,.box 31 [.v .pl (.sc (.int .i64 0)),.v .pl (.sc (.slice none 0 0)),.v .pl (.sc (.slice none 0 0))]),(6,.box 31 [.v .pl (int (minP d).size),.own 41,.own 42]),(8,.arr 3 ((rI (snext (minP d)) (l.getD i default) l s).map int)),(21,.arr 29 ((grow (snext (minP d)) (l.getD i default) l (s+1)).map boolsA)),(41,.arr 22 ((rowsX (snext (minP d)) (minP d).k l (l.take i)).map ints)),(42,.arr 4 ((finX sfin (l.take i)).map bool))]⟩) ?_ ?_
            ·skip
             refine xA tb hM0 4 [2,4,5,6,7,8,9,10,12,79,80] [2,6,8,21,41,42] rfl ?_
             refine oP rfl (pure_lenm rfl Tryz.underlying85 rfl) ?_
             refine xA tb hM0 3 [2,4,5,6,7,8,9,10,12,82] [2,6,8,21,41,42] rfl ?_
             refine spC 82 rfl ?_ ?_<;>intro h7<;>try simp only [dq] at h7
             ·skip
              have hnew:(snext (minP d) (l.getD i default) s) ∉ (grow (snext (minP d)) (l.getD i default) l s):=at_new hL4_1 (by omega)
              refine xA tb hM0 4 [2,4,6,7,8,9,12,83,84] [2,6,8,21,41,42] rfl ?_
              refine oP rfl (pure_lit rfl Tryz.underlying85 el29 rfl rfl rfl rfl hM0) ?_
              refine oS rfl (step_append rfl rfl rfl rfl Tryz.underlying85 el29 rfl rfl hM0 (src_pl rfl (one_len (by rfl))) (by rw [List.length_map];simp only [List.length_cons,List.length_nil];omega) (by rw [List.length_map];simp only [List.length_cons,List.length_nil];omega)) rfl ?_
              refine xA tb hM0 2 [2,4,5,6,7,8,9,12] [2,6,8,21,41,42] rfl ?_
              refine cx ?_
              rw [grow_new hnew,idx_new hnew,List.map_append,show k=(grow (snext (minP d)) (l.getD i default) l s).length by omega];rfl
             ·skip
              have hold:(snext (minP d) (l.getD i default) s)∈(grow (snext (minP d)) (l.getD i default) l s)∧idx (grow (snext (minP d)) (l.getD i default) l s) (snext (minP d) (l.getD i default) s)=k:=by
                first
                | (exfalso;omega)
                | exact at_old hL4_1 (by omega) (by simp_all)
              refine xA tb hM0 2 [2,4,5,6,7,8,9,12] [2,6,8,21,41,42] rfl ?_
              refine cx ?_
              rw [grow_old hold.1,hold.2]
            ·rintro zs ⟨rfl⟩
             have hgl3:=grow_le hL1_0.met hU.cl hxU (show s+1≤(minP d).k by omega)
             refine xA tb hM0 4 [2,4,5,6,7,8,9,12,87] [2,6,8,21,41,42] rfl ?_
             refine oP rfl (pure_lenm rfl Tryz.underlying85 rfl) ?_
             refine oP rfl (pure_to (b':=false) (pure_gtr rfl rfl rfl) (decide_eq_false (by omega))) ?_
             refine xA tb hM0 8 [2,4,5,6,7,9,91,92] [2,6,8,21,41,42] rfl ?_
             refine oP rfl (pure_lit rfl Tryz.underlying22 el3 rfl rfl rfl rfl hM0) ?_
             refine oS rfl (step_append rfl rfl rfl rfl Tryz.underlying22 el3 rfl rfl hM0 (src_pl rfl (one_len (by rfl))) (by rw [List.length_map,rI_len];simp only [List.length_cons,List.length_nil];omega) (by rw [List.length_map,rI_len];simp only [List.length_cons,List.length_nil];omega)) rfl ?_
             refine xA tb hM0 6 [2,4,5,6,7,8,35] [2,6,8,21,41,42] rfl ?_
             refine oP rfl (pure_addi rfl rfl rfl (by omega)) ?_
             refine xA tb hM0 2 [2,4,5,6,7,8,9] [2,6,8,21,41,42] rfl ?_
             refine nx ?_
             refine ⟨_,⟨s+1,rfl,by omega,?_⟩,by omega⟩
             rw [rI_succ,List.map_append];rfl
          ·skip
           refine xA tb hM0 16 [2,4,5,6,7,8,9,10,12] [2,6,8,21,41,42] rfl ?_
           refine ct (fun zs=>zs=⟨114,[(2,.pbox 2 0),(4,.v .pl (dpc (minP d))),(5,.own 21),(6,.pbox 6 0),(7,.v .pl (int i)),(8,.own 8),(9,.v .pl (int s)),(12,.v .pl (natI (idx (grow (snext (minP d)) (l.getD i default) l (s+1)) (snext (minP d) (l.getD i default) s))))],[(2,.box 31 [.v .pl (.sc (.int .i64 0)),.v .pl (.sc (.slice none 0 0)),.v .pl (.sc (.slice none 0 0))]),(6,.box 31 [.v .pl (int (minP d).size),.own 41,.own 42]),(8,.arr 3 ((rI (snext (minP d)) (l.getD i default) l s).map int)),(21,.arr 29 ((grow (snext (minP d)) (l.getD i default) l (s+1)).map boolsA)),(41,.arr 22 ((rowsX (snext (minP d)) (minP d).k l (l.take i)).map ints)),(42,.arr 4 ((finX sfin (l.take i)).map bool))]⟩) ?_ ?_
           ·skip
            refine xA tb hM0 4 [2,4,5,6,7,8,9,10,12,79,80] [2,6,8,21,41,42] rfl ?_
            refine oP rfl (pure_lenm rfl Tryz.underlying85 rfl) ?_
            refine xA tb hM0 3 [2,4,5,6,7,8,9,10,12,82] [2,6,8,21,41,42] rfl ?_
            refine spC 82 rfl ?_ ?_<;>intro h8<;>try simp only [dq] at h8
            ·skip
             have hnew:(snext (minP d) (l.getD i default) s) ∉ (grow (snext (minP d)) (l.getD i default) l s):=at_new hL4_1 (by omega)
             refine xA tb hM0 4 [2,4,6,7,8,9,12,83,84] [2,6,8,21,41,42] rfl ?_
             refine oP rfl (pure_lit rfl Tryz.underlying85 el29 rfl rfl rfl rfl hM0) ?_
             refine oS rfl (step_append rfl rfl rfl rfl Tryz.underlying85 el29 rfl rfl hM0 (src_pl rfl (one_len (by rfl))) (by rw [List.length_map];simp only [List.length_cons,List.length_nil];omega) (by rw [List.length_map];simp only [List.length_cons,List.length_nil];omega)) rfl ?_
             refine xA tb hM0 2 [2,4,5,6,7,8,9,12] [2,6,8,21,41,42] rfl ?_
             refine cx ?_
             rw [grow_new hnew,idx_new hnew,List.map_append,show k=(grow (snext (minP d)) (l.getD i default) l s).length by omega];rfl
            ·skip
             have hold:(snext (minP d) (l.getD i default) s)∈(grow (snext (minP d)) (l.getD i default) l s)∧idx (grow (snext (minP d)) (l.getD i default) l s) (snext (minP d) (l.getD i default) s)=k:=by
               first
               | (exfalso;omega)
               | exact at_old hL4_1 (by omega) (by simp_all)
             refine xA tb hM0 2 [2,4,5,6,7,8,9,12] [2,6,8,21,41,42] rfl ?_
             refine cx ?_
             rw [grow_old hold.1,hold.2]
           ·rintro zs ⟨rfl⟩
            have hgl3:=grow_le hL1_0.met hU.cl hxU (show s+1≤(minP d).k by omega)
            refine xA tb hM0 4 [2,4,5,6,7,8,9,12,87] [2,6,8,21,41,42] rfl ?_
            refine oP rfl (pure_lenm rfl Tryz.underlying85 rfl) ?_
            refine oP rfl (pure_to (b':=false) (pure_gtr rfl rfl rfl) (decide_eq_false (by omega))) ?_
            refine xA tb hM0 8 [2,4,5,6,7,9,91,92] [2,6,8,21,41,42] rfl ?_
            refine oP rfl (pure_lit rfl Tryz.underlying22 el3 rfl rfl rfl rfl hM0) ?_
            refine oS rfl (step_append rfl rfl rfl rfl Tryz.underlying22 el3 rfl rfl hM0 (src_pl rfl (one_len (by rfl))) (by rw [List.length_map,rI_len];simp only [List.length_cons,List.length_nil];omega) (by rw [List.length_map,rI_len];simp only [List.length_cons,List.length_nil];omega)) rfl ?_
            refine xA tb hM0 6 [2,4,5,6,7,8,35] [2,6,8,21,41,42] rfl ?_
            refine oP rfl (pure_addi rfl rfl rfl (by omega)) ?_
            refine xA tb hM0 2 [2,4,5,6,7,8,9] [2,6,8,21,41,42] rfl ?_
            refine nx ?_
            refine ⟨_,⟨s+1,rfl,by omega,?_⟩,by omega⟩
            rw [rI_succ,List.map_append];rfl
      ·skip
       refine xA tb hM0 7 [2,4,5,6,7,8] [2,6,8,21,41,42] rfl ?_
       refine code_frz 114 [(2,_),(4,_),(5,_),(6,_),(7,_),(8,_)] [(2,_),(6,_),(21,_),(41,_),(42,_)] hM0 rfl ⟨.inl rfl,.inl rfl,.inl rfl,.inl rfl,.inl rfl,.inr ⟨_,_,rfl,rfl,rfl⟩,trivial⟩ ⟨rfl,rfl,rfl,rfl,rfl,trivial⟩ ?_
       obtain rfl:s=(minP d).k:=by omega
       rw [rI_all]
       have hgxk:((grow (snext (minP d)) (l.getD i default) l (minP d).k).getD i default)=(l.getD i default):=grow_at _ hi
       have hxG:=grow_sub hL1_0.met hU.cl hxU hL2_0 _ (el_mem (show i<(grow (snext (minP d)) (l.getD i default) l (minP d).k).length by omega))
       refine xK tb hM0 4 [2,4,5,6,7,96,97] [2,6,21,41,42] rfl ?_
       refine oP rfl (pure_lit rfl Tryz.underlying28 el22 rfl rfl rfl rfl hM0) ?_
       refine oS rfl (step_append rfl rfl rfl rfl Tryz.underlying28 el22 rfl rfl hM0 (src_pl rfl (one_len (by rfl))) (by rw [List.length_map,rows_len,List.length_take];simp only [List.length_cons,List.length_nil];omega) (by rw [List.length_map,rows_len,List.length_take];simp only [List.length_cons,List.length_nil];omega)) rfl ?_
       refine xA tb hM0 4 [2,4,5,6,7] [2,6,21,41,42] rfl ?_
       refine code_draw mixed (by kernel_rfl) _ rfl ?_
       refine dl_pure rfl rfl rfl (pure_field_box rfl fd31_2 rfl rfl) ?_
       refine dl_pure rfl rfl rfl (pure_load_box rfl ag29 rfl rfl rfl) ?_
       refine dl_pure rfl rfl rfl (pure_move rfl rfl) ?_
       refine dl_pure rfl rfl rfl (pure_move rfl rfl) ?_
       refine dl_pure rfl rfl rfl (pure_index_own rfl Tryz.underlying85 sz29 rfl rfl rfl (by rw [List.length_map];omega)) ?_
       refine dl_pure rfl rfl rfl (pure_load_pel rfl ag29 rfl rfl (mget (by omega)) rfl) ?_
       refine dl_pure rfl rfl rfl (pure_ix rfl Tryz.underlying29 sz4 rfl rfl (by simp only [Int.toNat_natCast];rw [hUl _ hxG];omega) (fun _=>rfl)) ?_
       refine dpk 114 [(2,_),(4,_),(5,_),(6,_),(7,_),(102,_),(107,_)] [(2,_),(6,_),(21,_),(41,_),(42,_)] rfl rfl rfl ?_
       refine dl_pure rfl rfl rfl (pure_load rfl ag4 rfl rfl) ?_
       refine dl_pure rfl rfl rfl (pure_lit rfl Tryz.underlying29 el4 rfl rfl rfl rfl hM0) ?_
       refine dl_tails (by kernel_rfl) ?_
       refine tl_step rfl (step_append rfl rfl rfl rfl Tryz.underlying29 el4 rfl rfl hM0 (src_pl rfl (one_len (by rfl))) (by rw [List.length_map,fin_len,List.length_take];simp only [List.length_cons,List.length_nil];omega) (by rw [List.length_map,fin_len,List.length_take];simp only [List.length_cons,List.length_nil];omega)) ?_
       refine tl_pure rfl rfl rfl (pure_field_box rfl fd31_2 rfl rfl) ?_
       refine tl_step rfl (step_store_box_own rfl rfl rfl sz29 rfl rfl rfl rfl rfl hM0) ?_
       refine tl_nil ?_
       refine xD tb hM0 4 [2,4,5,6,29] [2,6,21,41,42] rfl ?_
       refine oP rfl (pure_addi rfl rfl rfl (by omega)) ?_
       refine xA tb hM0 2 [2,4,5,6,7] [2,6,21,41,42] rfl ?_
       refine nx ?_
       refine ⟨_,⟨(grow (snext (minP d)) (l.getD i default) l (minP d).k),i+1,rfl,hL1_0.step hU.cl hNU hi rfl,?_⟩,by omega⟩
       simp only [Int.toNat_natCast,hgxk]
       rw [rows_step hL1_0.met hi rfl,fin_step hi rfl,List.map_append,List.map_append];rfl
    ·skip
     refine xA tb hM0 7 [2,6] [2,6,41,42] rfl ?_
     refine code_frz 114 [(2,_),(6,_)] [(2,_)] hM0 rfl ⟨.inl rfl,.inr ⟨_,_,rfl,rfl,rfl⟩,trivial⟩ ⟨rfl,trivial⟩ ?_
     have e1:l.take i=l:=List.take_of_length_le (by omega)
     have e2:=hL1_0.fin (by omega)
     rw [e1]
     refine xK tb hM0 2 [2,112] [2] rfl ?_
     refine oP rfl (pure_call rfl rfl rfl (rmin_call (d:=⟨(minP d).size,rowsX (snext (minP d)) (minP d).k l l,finX sfin l⟩)) hM0) ?_
     refine xA tb hM0 5 [] [] rfl ?_
     refine endC2_ret rfl rfl ?_
     first
       | (rw [revZ_f (d:=d) (by assumption),revE_f (d:=d) (by assumption)];(first|exact ⟨rfl,rfl⟩|rfl))
       | (rw [revZ_t (d:=d) (by assumption),revE_t (d:=d) (by assumption),← rev_min hd hF,sub_cells (l:=l) hm (by rw [← hN];exact e2)];(first|exact ⟨rfl,rfl⟩|rfl))
end Go.Proofs.YtjimlkpfmbachaaGreat

namespace Go.Proofs.YtjimlkpfmbachaaGreat
open Go.Am Go.Wc Go.Wb Go.Wd
theorem fn43:Fn1 Tryz.prog 43 Tryz.f43.ntmps 4 (Tryz.f43.body.getD .skip):=⟨Tryz.f43,Tryz.func43,rfl,rfl,rfl,by kernel_rfl⟩
set_option maxRecDepth 100000 in
set_option maxHeartbeats 8000000 in
theorem textO_call:∀ (m:Nat) (r:Rx) (b:List Int),r.size≤m→b.length+12*r.size≤1000000000000→CallO Tryz.prog 43 [.own 0,.v .pl (rx r)] [(0,.arr 5 (b.map byteI))] (.own 0) [(0,.arr 5 ((b++tx r).map byteI))]:=by
  intro m
  induction m with
  | zero=>intro r b hr;have:=size_pos r;omega
  | succ m ih =>
  intro r b hr hb
  have hkl:=kids_len r
  have hsl:=syms_len r
  have hse:=size_eq r
  rw [rx_eq r]
  refine callO_of_code fn43 (Nat.le_of_ble_eq_true rfl) fun w0 M0 hM0=>?_
  refine xC tb hM0 2 [0,1] [0] rfl ?_
  refine oP rfl (pure_box rfl rfl rfl hM0) ?_
  refine xA tb hM0 4 [0,3] [0] rfl ?_
  refine code_ren (t:=0) (t':=100) rfl rfl (fun u d hu=>all_lt (by rfl) hu) (fun u d hu hne=>all_key (by rfl) hu hne) (fun u d hu hne=>all_safe (u:=0) (by rfl) hu hne) ?_
  refine code_drawH (n:=44) (o1:=[(100,.arr 5 ((b).map byteI))]) (om:=[(12,.arr 5 ((b++kbI r.kind).map byteI))]) (on:=[(16,.arr 5 (((b++kbI r.kind)++kbI (r.syms.length:Int)).map byteI))]) (o2:=[(0,.arr 5 ((((b++kbI r.kind)++kbI (r.syms.length:Int))++kbI (r.kids.length:Int)).map byteI))]) 3 7 11 12 [(9,.own 100),(10,.v .pl (rpc r)),(11,.v .pl (int r.kind)),(12,.own 12),(13,.v .pl (.pc [int r.kind,ints r.syms,rxs r.kids] 1)),(14,.v .pl (ints r.syms)),(15,.v .pl (int r.syms.length)),(16,.own 16),(17,.v .pl (.pc [int r.kind,ints r.syms,rxs r.kids] 2)),(18,.v .pl (rxs r.kids)),(19,.v .pl (int r.kids.length)),(20,.own 0),(0,.own 100),(3,.v .pl (rpc r))] mixed (by kernel_rfl) (by kernel_rfl) (by kernel_rfl) (by kernel_rfl) rfl (by kernel_rfl) (by kernel_rfl) (by kernel_rfl) rfl (fun t z h=>h) rfl ?_ ?_ ?_ ?_ ?_ ?_
  · intro zi zt hzi hzd
    rcases (by omega:zi=0∨zi=1∨zi=2∨zi=3∨zi=4∨zi=5∨zi=6∨zi=7∨zi=8∨zi=9∨zi=10∨zi=11) with rfl|rfl|rfl|rfl|rfl|rfl|rfl|rfl|rfl|rfl|rfl|rfl<;>(injection (show some _=some zt from hzd) with hzd;subst hzd;exact ⟨_,rfl⟩)
  · intro zi zo zt zd hzi hza hzb hzc hzo hzd hzG ob
    rcases (by omega:zi=0∨zi=1∨zi=2∨zi=4∨zi=5∨zi=6∨zi=8∨zi=9∨zi=10) with rfl|rfl|rfl|rfl|rfl|rfl|rfl|rfl|rfl
    · injection (show some _ = some zo from hzo) with hzo; subst hzo; injection (show some _ = some zt from hzd) with hzd; subst hzd; injection (show some _ = some zd from hzG) with hzG; subst hzG
      exact pure_move rfl rfl
    · injection (show some _ = some zo from hzo) with hzo; subst hzo; injection (show some _ = some zt from hzd) with hzd; subst hzd; injection (show some _ = some zd from hzG) with hzG; subst hzG
      exact pure_field rfl fd25_0 rfl
    · injection (show some _ = some zo from hzo) with hzo; subst hzo; injection (show some _ = some zt from hzd) with hzd; subst hzd; injection (show some _ = some zd from hzG) with hzG; subst hzG
      exact pure_load rfl ag3 rfl rfl
    · injection (show some _ = some zo from hzo) with hzo; subst hzo; injection (show some _ = some zt from hzd) with hzd; subst hzd; injection (show some _ = some zd from hzG) with hzG; subst hzG
      exact pure_field rfl fd25_1 rfl
    · injection (show some _ = some zo from hzo) with hzo; subst hzo; injection (show some _ = some zt from hzd) with hzd; subst hzd; injection (show some _ = some zd from hzG) with hzG; subst hzG
      exact pure_load rfl ag22 rfl rfl
    · injection (show some _ = some zo from hzo) with hzo; subst hzo; injection (show some _ = some zt from hzd) with hzd; subst hzd; injection (show some _ = some zd from hzG) with hzG; subst hzG
      exact pure_lenm rfl Tryz.underlying22 rfl
    · injection (show some _ = some zo from hzo) with hzo; subst hzo; injection (show some _ = some zt from hzd) with hzd; subst hzd; injection (show some _ = some zd from hzG) with hzG; subst hzG
      exact pure_field rfl fd25_2 rfl
    · injection (show some _ = some zo from hzo) with hzo; subst hzo; injection (show some _ = some zt from hzd) with hzd; subst hzd; injection (show some _ = some zd from hzG) with hzG; subst hzG
      exact pure_load rfl ag23 rfl rfl
    · injection (show some _ = some zo from hzo) with hzo; subst hzo; injection (show some _ = some zt from hzd) with hzd; subst hzd; injection (show some _ = some zd from hzG) with hzG; subst hzG
      exact pure_lenm rfl Tryz.underlying23 rfl
  · intro zo X hzo hXn hXG hXr
    have hXu:9∈looks _ zo→X.lookup 9=some (.own 100):=fun h=>(hXr 9 h).trans rfl
    have hXv:11∈looks _ zo→X.lookup 11=some (.v .pl (int r.kind)):=fun h=>(hXr 11 h).trans rfl
    injection (show some _=some zo from hzo) with hzo'
    exact step_keyD (f:=89) (ats:=#[60,3]) (t':=12) (by rw [← hzo'];rfl) (by rw [← hzo'];rfl) rfl hXn (hXu (by rw [← hzo'];decide)) (hXv (by rw [← hzo'];decide)) (keyO_call (b:=b) (by omega)) rfl (fun u d hu=>all_lt (by rfl) (hXG u d hu)) (fun u d hu hne=>all_key (by rfl) (hXG u d hu) hne) hM0
  · intro zo X hzo hXn hXG hXr
    have hXu:12∈looks _ zo→X.lookup 12=some (.own 12):=fun h=>(hXr 12 h).trans rfl
    have hXv:15∈looks _ zo→X.lookup 15=some (.v .pl (int r.syms.length)):=fun h=>(hXr 15 h).trans rfl
    injection (show some _=some zo from hzo) with hzo'
    exact step_keyD (f:=89) (ats:=#[60,3]) (t':=16) (by rw [← hzo'];rfl) (by rw [← hzo'];rfl) rfl hXn (hXu (by rw [← hzo'];decide)) (hXv (by rw [← hzo'];decide)) (keyO_call (b:=b++kbI r.kind) (by rw [List.length_append,kbI_len];omega)) rfl (fun u d hu=>all_lt (by rfl) (hXG u d hu)) (fun u d hu hne=>all_key (by rfl) (hXG u d hu) hne) hM0
  · intro zo X hzo hXn hXG hXr
    have hXu:16∈looks _ zo→X.lookup 16=some (.own 16):=fun h=>(hXr 16 h).trans rfl
    have hXv:19∈looks _ zo→X.lookup 19=some (.v .pl (int r.kids.length)):=fun h=>(hXr 19 h).trans rfl
    injection (show some _=some zo from hzo) with hzo'
    exact step_keyD (f:=89) (ats:=#[60,3]) (t':=0) (by rw [← hzo'];rfl) (by rw [← hzo'];rfl) rfl hXn (hXu (by rw [← hzo'];decide)) (hXv (by rw [← hzo'];decide)) (keyO_call (b:=(b++kbI r.kind)++kbI (r.syms.length:Int)) (by rw [List.length_append,List.length_append,kbI_len,kbI_len];omega)) rfl (fun u d hu=>all_lt (by rfl) (hXG u d hu)) (fun u d hu hne=>all_key (by rfl) (hXG u d hu) hne) hM0
  refine endL_of (n:=1) (by kernel_rfl) ?_
  refine ex_one (i:=12) (by kernel_rfl) rfl rfl (st_pure rfl rfl (pure_assign rfl rfl)) ?_
  refine ex_end (by kernel_rfl) ?_
  refine xD tb hM0 6 [0,3,22] [0] rfl ?_
  refine oP rfl (pure_lenm rfl Tryz.underlying22 rfl) ?_
  refine xA tb hM0 4 [0,3,22,23,24] [0] rfl ?_
  refine lp (fun zm zs=>∃ i:Nat,zm=r.syms.length-i∧(i≤r.syms.length)∧zs=⟨44,[(0,.own 0),(3,.v .pl (rpc r)),(22,.v .pl (ints r.syms)),(23,.v .pl (int r.syms.length)),(24,.v .pl (int i))],[(0,.arr 5 ((b++tSyms r i).map byteI))]⟩) ?_ ?_
  refine ⟨_,0,rfl,Nat.zero_le _,?_⟩
  rw [tSyms_zero,tHead,← List.append_assoc,← List.append_assoc];rfl
  rintro zm zs ⟨i,rfl,hL1_0,rfl⟩
  refine xA tb hM0 6 [0,3,22,23,24,25] [0] rfl ?_
  refine spC 25 rfl ?_ ?_<;>intro h1<;>try simp only [dq] at h1
  refine xA tb hM0 7 [0,3,22,23,24] [0] rfl ?_
  refine oP rfl (pure_ix rfl Tryz.underlying22 sz3 rfl rfl (by omega) (fun _=>rfl)) ?_
  refine xA tb hM0 7 [3,22,23,24,28,29] [0] rfl ?_
  refine oS rfl (step_callO [(0,0)] rfl rfl rfl rfl rfl rfl rfl (keyO_call (by rw [List.length_append,tSyms_len (by omega)];omega)) ⟨.inl rfl,.inl rfl,trivial⟩ ⟨rfl,trivial⟩ rfl rfl rfl rfl rfl hM0) rfl ?_
  refine xA tb hM0 5 [0,3,22,23,24] [0] rfl ?_
  refine oP rfl (pure_addi rfl rfl rfl (by omega)) ?_
  refine xA tb hM0 2 [0,3,22,23,24] [0] rfl ?_
  refine nx ?_
  refine ⟨_,⟨i+1,rfl,by omega,?_⟩,by omega⟩
  rw [tSyms_succ (by omega),← List.append_assoc];rfl
  refine xA tb hM0 11 [0,33] [0] rfl ?_
  refine oP rfl (pure_lenm rfl Tryz.underlying23 rfl) ?_
  refine xA tb hM0 4 [0,33,34,35] [0] rfl ?_
  obtain rfl:i=r.syms.length:=by omega
  refine lp (fun zm zs=>∃ j:Nat,zm=r.kids.length-j∧(j≤r.kids.length)∧zs=⟨44,[(0,.own 0),(33,.v .pl (rxs r.kids)),(34,.v .pl (int r.kids.length)),(35,.v .pl (int j))],[(0,.arr 5 ((b++tKids r j).map byteI))]⟩) ?_ ?_
  refine ⟨_,0,rfl,Nat.zero_le _,?_⟩
  rw [tKids_zero];first|done|rfl
  rintro zm zs ⟨j,rfl,hL2_0,rfl⟩
  have hbk:j<r.kids.length→(b++tKids r j).length+12*(r.kids.getD j default).size≤1000000000000:=fun h=>by
    have h1:=txk_len h
    rw [List.length_append];omega
  refine xA tb hM0 6 [0,33,34,35,36] [0] rfl ?_
  refine spC 36 rfl ?_ ?_<;>intro h2<;>try simp only [dq] at h2
  refine xA tb hM0 7 [0,33,34,35] [0] rfl ?_
  refine oP rfl (pure_ix rfl Tryz.underlying23 sz25 rfl rfl (by omega) (fun _=>rfl)) ?_
  refine xA tb hM0 8 [33,34,35,39,40] [0] rfl ?_
  refine oS rfl (step_callO [(0,0)] rfl rfl rfl rfl rfl rfl rfl (ih (r.kids.getD j default) (b++tKids r j) (by have:=kid_lt (r:=r) (i:=j) (by omega);omega) (hbk (by omega))) ⟨.inl rfl,.inl rfl,trivial⟩ ⟨rfl,trivial⟩ rfl rfl rfl rfl rfl hM0) rfl ?_
  refine xA tb hM0 5 [0,33,34,35] [0] rfl ?_
  refine oP rfl (pure_addi rfl rfl rfl (by omega)) ?_
  refine xA tb hM0 2 [0,33,34,35] [0] rfl ?_
  refine nx ?_
  refine ⟨_,⟨j+1,rfl,by omega,?_⟩,by omega⟩
  rw [tKids_succ (by omega),← List.append_assoc];rfl
  refine xA tb hM0 13 [] [] rfl ?_
  refine endO_ret (o1:=[(0,_)]) rfl ⟨rfl,trivial⟩ ?_
  obtain rfl:j=r.kids.length:=by omega
  rw [tKids_all]
  exact ⟨rfl,rfl⟩
end Go.Proofs.YtjimlkpfmbachaaGreat

