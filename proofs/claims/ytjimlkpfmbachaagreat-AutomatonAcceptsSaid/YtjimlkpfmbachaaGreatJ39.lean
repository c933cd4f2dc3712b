/-
  For all automata,also with one part changed,and words,also with a symbol that is none,Valid and Accepts agree with the reference model;so do all functions for what is not valid (wordbooklaw08,AutomatonAccepts).
-/
import Derived.Test.YtjimlkpfmbachaaGreatJ37
import Derived.Test.YtjimlkpfmbachaaGreatJ38
import Derived.Test.YtjimlkpfmbachaaGreatJ23
import Derived.Test.YtjimlkpfmbachaaGreatJ28
set_option linter.unusedVariables false
set_option linter.unusedSectionVars false
set_option linter.unusedSimpArgs false
namespace Go.Proofs.YtjimlkpfmbachaaGreat
open Go.Am Go.Wc Go.Wb Go.Wd
theorem fn7:Fn1 Tryz.prog 7 Tryz.f7.ntmps 10 (Tryz.f7.body.getD .skip):=⟨Tryz.f7,Tryz.func7,rfl,rfl,rfl,by kernel_rfl⟩
set_option maxRecDepth 100000 in
set_option maxHeartbeats 8000000 in
theorem accepts_law {l m:List Int} {p q z:Int} (hl:I64s l) (hm:I64s m) (hp:I64 p) (hq:I64 q) (hz:I64 z):CallF Tryz.prog 7 [ints l,ints m,int p,int q,int z] (.p (bool true)):=by
  obtain ⟨A,hAe⟩:∃ A,A=dfaP l:=⟨_,rfl⟩
  have hA:okD A∧A.n≤7:=by rw [hAe];exact dfa_ok l
  have hsz:1≤A.size∧A.size≤64:=hA.1.1.1
  have hcall:CallF Tryz.prog 14 [ints l] (.p (dfa A)):=by rw [hAe];exact dfa_call hl
  have hvA:=ok_valid hA.1
  obtain ⟨B,hBe⟩:∃ B,B=spZ A p q z:=⟨_,rfl⟩
  have hBn:B.n≤7:=by rw [hBe];exact Nat.le_trans (spZ_n p q z) hA.2
  have hsp:CallF Tryz.prog 31 [dfa A,int p,int q,int z] (.p (dfa B)):=by rw [hBe];exact spoilt_call hA.1 hp hq hz
  obtain ⟨W,hWe⟩:∃ W,W=wordP m A.size:=⟨_,rfl⟩
  have hW:W.length≤10:=by rw [hWe];exact word_len _ _
  have hwd:CallF Tryz.prog 32 [ints m,int A.size] (.fresh 3 (W.map int)):=by rw [hWe];exact word_call hm hsz.1
  clear hAe hBe hWe
  have hAB:A.n*B.n≤2048:=Nat.le_trans (Nat.mul_le_mul hA.2 hBn) (by decide)
  have hBA:B.n*A.n≤2048:=Nat.le_trans (Nat.mul_le_mul hBn hA.2) (by decide)
  have hF:FewD B:=fewD_small (Nat.le_trans hBn (by decide))
  have hz1:=joinZ_ok (f:=andB) (a:=B) (b:=A) hBA
  have hz2:=joinZ_ok (f:=orB) (a:=A) (b:=B) hAB
  have hz3:=revZ_ok (d:=B) (Nat.le_trans hBn (by decide))
  have hz4:=minZ_ok B
  have hz5:=notZ_ok B
  have hl2:=differ_small (A:=A) (X:=B) hAB
  refine callF_of_code fn7 (Nat.le_of_ble_eq_true rfl) fun w0 M0 hM0=>?_
  refine xC tb hM0 8 [1,2,3,4,32] [] rfl ?_
  refine oP rfl (pure_call rfl rfl rfl (hcall) hM0) ?_
  refine xA tb hM0 5 [1,2,3,4,11] [11] rfl ?_
  refine code_frz 208 [(1,_),(2,_),(3,_),(4,_),(11,_)] [] hM0 rfl ⟨.inl rfl,.inl rfl,.inl rfl,.inl rfl,.inr ⟨_,_,rfl,rfl,rfl⟩,trivial⟩ trivial ?_
  refine xK tb hM0 5 [1,4,11,34,35,36,37] [] rfl ?_
  refine oP rfl (pure_call rfl rfl rfl (hsp) hM0) ?_
  refine xA tb hM0 5 [1,4,11,12] [12] rfl ?_
  refine code_frz 208 [(1,_),(4,_),(11,_),(12,_)] [] hM0 rfl ⟨.inl rfl,.inl rfl,.inl rfl,.inr ⟨_,_,rfl,rfl,rfl⟩,trivial⟩ trivial ?_
  refine xK tb hM0 4 [4,11,12,39,41] [] rfl ?_
  refine oP rfl (pure_call rfl rfl rfl (hwd) hM0) ?_
  refine xA tb hM0 4 [4,11,12,13] [] rfl ?_
  refine code_drawM (n:=208) 3 (fun p=>[1,3,6].getD p 0) (fun p=>[[],[(44,.arr 3 [])],[(46,.arr 3 (W.map int))],[]].getD p []) 11 [(43,.v .pl (ints W)),(44,.own 44),(45,.v .pl (ints W)),(46,.own 46),(47,.v .mx (int z)),(48,.v .pl (.sl [int z])),(49,.v .pl (.sl ((W.map int)++[int z]))),(50,.v .pl (.pc (dcells A) 0)),(51,.v .pl (int A.size)),(52,.v .pl (.sl [int A.size])),(53,.v .pl (.sl [int (-1)])),(4,.v .mx (int z)),(11,.v .pl (dpc A)),(12,.v .pl (dpc B)),(13,.v .pl (ints W))] mixed (by kernel_rfl) (by kernel_rfl) (by kernel_rfl) (by kernel_rfl) (fun t d h=>h) rfl ?_ ?_ ?_ ?_
  · intro zi zt hzi hzd
    rcases (by omega:zi=0∨zi=1∨zi=2∨zi=3∨zi=4∨zi=5∨zi=6∨zi=7∨zi=8∨zi=9∨zi=10) with rfl|rfl|rfl|rfl|rfl|rfl|rfl|rfl|rfl|rfl|rfl
    · injection (show some _=some zt from hzd) with hzd;subst hzd;exact ⟨_,rfl⟩
    · injection (show some _=some zt from hzd) with hzd;subst hzd;exact ⟨_,rfl⟩
    · injection (show some _=some zt from hzd) with hzd;subst hzd;exact ⟨_,rfl⟩
    · injection (show some _=some zt from hzd) with hzd;subst hzd;exact ⟨_,rfl⟩
    · injection (show some _=some zt from hzd) with hzd;subst hzd;exact ⟨_,rfl⟩
    · injection (show some _=some zt from hzd) with hzd;subst hzd;exact ⟨_,rfl⟩
    · injection (show some _=some zt from hzd) with hzd;subst hzd;exact ⟨_,rfl⟩
    · injection (show some _=some zt from hzd) with hzd;subst hzd;exact ⟨_,rfl⟩
    · injection (show some _=some zt from hzd) with hzd;subst hzd;exact ⟨_,rfl⟩
    · injection (show some _=some zt from hzd) with hzd;subst hzd;exact ⟨_,rfl⟩
    · injection (show some _=some zt from hzd) with hzd;subst hzd;exact ⟨_,rfl⟩
  · intro zp zi zo zt zd hzp hzi hze hzo hzd hzG hzb hza
    rcases (by omega:zi=0∨zi=1∨zi=2∨zi=3∨zi=4∨zi=5∨zi=6∨zi=7∨zi=8∨zi=9∨zi=10) with rfl|rfl|rfl|rfl|rfl|rfl|rfl|rfl|rfl|rfl|rfl
    · injection (show some _ = some zo from hzo) with hzo; subst hzo; injection (show some _ = some zt from hzd) with hzd; subst hzd; injection (show some _ = some zd from hzG) with hzG; subst hzG
      rcases (by omega:zp=0∨zp=1∨zp=2∨zp=3) with rfl|rfl|rfl|rfl
      · exact (pure_move rfl rfl)
      · exact (pure_move rfl rfl)
      · exact (pure_move rfl rfl)
      · exact (pure_move rfl rfl)
    · exact absurd hze (by decide)
    · injection (show some _ = some zo from hzo) with hzo; subst hzo; injection (show some _ = some zt from hzd) with hzd; subst hzd; injection (show some _ = some zd from hzG) with hzG; subst hzG
      rcases (by omega:zp=0∨zp=1∨zp=2∨zp=3) with rfl|rfl|rfl|rfl
      · exact (pure_move rfl rfl)
      · exact (pure_move rfl rfl)
      · exact absurd (hzb 1 (by decide)) (by decide)
      · exact absurd (hzb 1 (by decide)) (by decide)
    · exact absurd hze (by decide)
    · injection (show some _ = some zo from hzo) with hzo; subst hzo; injection (show some _ = some zt from hzd) with hzd; subst hzd; injection (show some _ = some zd from hzG) with hzG; subst hzG
      rcases (by omega:zp=0∨zp=1∨zp=2∨zp=3) with rfl|rfl|rfl|rfl
      · exact (pure_move rfl rfl)
      · exact (pure_move rfl rfl)
      · exact (pure_move rfl rfl)
      · exact absurd (hzb 2 (by decide)) (by decide)
    · injection (show some _ = some zo from hzo) with hzo; subst hzo; injection (show some _ = some zt from hzd) with hzd; subst hzd; injection (show some _ = some zd from hzG) with hzG; subst hzG
      rcases (by omega:zp=0∨zp=1∨zp=2∨zp=3) with rfl|rfl|rfl|rfl
      · exact (pure_lit rfl Tryz.underlying22 el3 rfl rfl rfl rfl hM0)
      · exact (pure_lit rfl Tryz.underlying22 el3 rfl rfl rfl rfl hM0)
      · exact (pure_lit rfl Tryz.underlying22 el3 rfl rfl rfl rfl hM0)
      · exact absurd (hzb 2 (by decide)) (by decide)
    · exact absurd hze (by decide)
    · injection (show some _ = some zo from hzo) with hzo; subst hzo; injection (show some _ = some zt from hzd) with hzd; subst hzd; injection (show some _ = some zd from hzG) with hzG; subst hzG
      rcases (by omega:zp=0∨zp=1∨zp=2∨zp=3) with rfl|rfl|rfl|rfl
      · exact (pure_field rfl fd31_0 rfl)
      · exact (pure_field rfl fd31_0 rfl)
      · exact (pure_field rfl fd31_0 rfl)
      · exact (pure_field rfl fd31_0 rfl)
    · injection (show some _ = some zo from hzo) with hzo; subst hzo; injection (show some _ = some zt from hzd) with hzd; subst hzd; injection (show some _ = some zd from hzG) with hzG; subst hzG
      rcases (by omega:zp=0∨zp=1∨zp=2∨zp=3) with rfl|rfl|rfl|rfl
      · exact (pure_load rfl ag3 rfl rfl)
      · exact (pure_load rfl ag3 rfl rfl)
      · exact (pure_load rfl ag3 rfl rfl)
      · exact (pure_load rfl ag3 rfl rfl)
    · injection (show some _ = some zo from hzo) with hzo; subst hzo; injection (show some _ = some zt from hzd) with hzd; subst hzd; injection (show some _ = some zd from hzG) with hzG; subst hzG
      rcases (by omega:zp=0∨zp=1∨zp=2∨zp=3) with rfl|rfl|rfl|rfl
      · exact (pure_lit rfl Tryz.underlying22 el3 rfl rfl rfl rfl hM0)
      · exact (pure_lit rfl Tryz.underlying22 el3 rfl rfl rfl rfl hM0)
      · exact (pure_lit rfl Tryz.underlying22 el3 rfl rfl rfl rfl hM0)
      · exact (pure_lit rfl Tryz.underlying22 el3 rfl rfl rfl rfl hM0)
    · injection (show some _ = some zo from hzo) with hzo; subst hzo; injection (show some _ = some zt from hzd) with hzd; subst hzd; injection (show some _ = some zd from hzG) with hzG; subst hzG
      rcases (by omega:zp=0∨zp=1∨zp=2∨zp=3) with rfl|rfl|rfl|rfl
      · exact (pure_lit rfl Tryz.underlying22 el3 rfl rfl rfl rfl hM0)
      · exact (pure_lit rfl Tryz.underlying22 el3 rfl rfl rfl rfl hM0)
      · exact (pure_lit rfl Tryz.underlying22 el3 rfl rfl rfl rfl hM0)
      · exact (pure_lit rfl Tryz.underlying22 el3 rfl rfl rfl rfl hM0)
  · intro zp zo X hzp hzo hXn hXG hXr
    rcases (by omega:zp=0∨zp=1∨zp=2) with rfl|rfl|rfl
    · skip
      injection (show some _=some zo from hzo) with hzo'
      exact stepN_lit0 (T:=22) (parts:=#[]) (t:=44) (by rw [← hzo'];rfl) rfl (by rw [← hzo'];rfl) rfl hXn Tryz.underlying22 el3 hXG rfl rfl rfl hM0
    · skip
      have hX44:44∈looks _ zo→X.lookup 44=some (.own 44):=fun h=>(hXr 44 h).trans rfl
      have hX45:45∈looks _ zo→X.lookup 45=some (.v .pl (ints W)):=fun h=>(hXr 45 h).trans rfl
      injection (show some _=some zo from hzo) with hzo'
      have hX44:=hX44 (by rw [← hzo'];decide)
      have hX45:=hX45 (by rw [← hzo'];decide)
      exact stepN_append (T:=22) (t:=46) (u:=44) (id:=44) (y:=.tmp 45) (by rw [← hzo'];rfl) (by rw [← hzo'];rfl) rfl hXn Tryz.underlying22 el3 hX44 rfl (src_scm (f:=int) (l:=W) (c:=.pl) (view_sl hX45) (fun _=>⟨_,rfl⟩)) (by (try simp only [List.length_map,List.length_cons,List.length_nil]);omega) (by (try simp only [List.length_map,List.length_cons,List.length_nil]);omega) rfl hXG rfl rfl rfl hM0
    · skip
      have hX46:46∈looks _ zo→X.lookup 46=some (.own 46):=fun h=>(hXr 46 h).trans rfl
      have hX48:48∈looks _ zo→X.lookup 48=some (.v .pl (.sl [int z])):=fun h=>(hXr 48 h).trans rfl
      injection (show some _=some zo from hzo) with hzo'
      have hX46:=hX46 (by rw [← hzo'];decide)
      have hX48:=hX48 (by rw [← hzo'];decide)
      exact stepN_appendF (T:=22) (t:=49) (u:=46) (id:=46) (y:=.tmp 48) (by rw [← hzo'];rfl) (by rw [← hzo'];rfl) rfl hXn Tryz.underlying22 el3 hX46 rfl (src_scm (f:=int) (l:=[z]) (c:=.pl) (view_sl hX48) (fun _=>⟨_,rfl⟩)) (by (try simp only [List.length_map,List.length_cons,List.length_nil]);omega) (by (try simp only [List.length_map,List.length_cons,List.length_nil]);omega) hXG rfl rfl hM0
  refine endL_of (n:=2) (by kernel_rfl) ?_
  refine ex_one (i:=11) (by kernel_rfl) rfl rfl (st_pure rfl rfl (pure_norms (pure_lit rfl Tryz.underlying28 el22 rfl rfl rfl rfl hM0) wl_norm)) ?_
  refine ex_one (i:=12) (by kernel_rfl) rfl rfl (st_pure rfl rfl (pure_assign rfl rfl)) ?_
  refine ex_end (by kernel_rfl) ?_
  refine xD tb hM0 8 [11,12,14,15] [] rfl ?_
  refine lp (fun zm zs=>∃ i:Nat,zm=5-i∧(i≤5)∧zs=⟨208,[(11,.v .pl (dpc A)),(12,.v .pl (dpc B)),(14,.v .pl (.sl ((wl W z A.size).map ints))),(15,.v .pl (int i))],[]⟩) ?_ ?_
  exact ⟨_,0,rfl,Nat.zero_le _,rfl⟩
  rintro zm zs ⟨i,rfl,hL1_0,rfl⟩
  have h55:((wl W z A.size)).length=5:=rfl
  have hwi:((wl W z A.size).getD i default).length≤4611686018427387904:=Nat.le_trans (wl_len hW) (by decide)
  refine xA tb hM0 5 [11,12,14,15,55,56] [] rfl ?_
  refine oP rfl (pure_lenm rfl Tryz.underlying28 rfl) ?_
  refine xA tb hM0 3 [11,12,14,15,58] [] rfl ?_
  refine spC 58 rfl ?_ ?_<;>intro h1<;>try simp only [dq] at h1
  refine xA tb hM0 6 [11,12,14,15] [] rfl ?_
  refine code_draw mixed (by kernel_rfl) _ rfl ?_
  refine dl_pure rfl rfl rfl (pure_load_agg rfl ag31 sz31 rfl (Nat.le_of_ble_eq_true rfl)) ?_
  refine dl_pure rfl rfl rfl (pure_move rfl rfl) ?_
  refine dl_pure rfl rfl rfl (pure_move rfl rfl) ?_
  refine dl_pure rfl rfl rfl (pure_ix (f:=ints) (l:=(wl W z A.size)) rfl Tryz.underlying28 sz22 rfl rfl (by omega) (fun _=>rfl)) ?_
  refine dl_pure rfl rfl rfl (pure_load rfl ag22 rfl rfl) ?_
  refine dl_pure rfl rfl rfl (pure_call rfl rfl rfl (acc_call (d:=A) (w:=(wl W z A.size).getD i default) hwi) hM0) ?_
  refine dl_pure rfl rfl rfl (pure_load_agg rfl ag31 sz31 rfl (Nat.le_of_ble_eq_true rfl)) ?_
  refine dpk 208 [(11,_),(12,_),(14,_),(15,_),(66,_),(67,_)] [] rfl rfl rfl ?_
  refine dl_pure rfl rfl rfl (pure_move rfl rfl) ?_
  refine dl_pure rfl rfl rfl (pure_move rfl rfl) ?_
  refine dl_pure rfl rfl rfl (pure_ix (f:=ints) (l:=(wl W z A.size)) rfl Tryz.underlying28 sz22 rfl rfl (by omega) (fun _=>rfl)) ?_
  refine dl_pure rfl rfl rfl (pure_load rfl ag22 rfl rfl) ?_
  refine dl_pure rfl rfl rfl (pure_call rfl rfl rfl (raccD_call (d:=A) (w:=(wl W z A.size).getD i default) hwi) hM0) ?_
  refine dl_pure rfl rfl rfl (pure_to (b':=false) (pure_bne Tryz.underlying4 rfl rfl rfl) (by simp)) ?_
  refine dl_pure rfl rfl rfl (pure_move rfl rfl) ?_
  refine dpk 208 [(11,_),(12,_),(14,_),(15,_),(74,_)] [] rfl rfl rfl ?_
  refine dl_pure_g rfl rfl rfl rfl rfl (pure_load_agg rfl ag31 sz31 rfl (Nat.le_of_ble_eq_true rfl)) ?_
  refine dl_pure_g rfl rfl rfl rfl rfl (pure_move rfl rfl) ?_
  refine dl_pure_g rfl rfl rfl rfl rfl (pure_move rfl rfl) ?_
  refine dl_pure_g rfl rfl rfl rfl rfl (pure_ix (f:=ints) (l:=(wl W z A.size)) rfl Tryz.underlying28 sz22 rfl rfl (by omega) (fun _=>rfl)) ?_
  refine dl_pure_g rfl rfl rfl rfl rfl (pure_load rfl ag22 rfl rfl) ?_
  refine dl_pure_g rfl rfl rfl rfl rfl (pure_call rfl rfl rfl (acc_call (d:=B) (w:=(wl W z A.size).getD i default) hwi) hM0) ?_
  refine dl_pure_g rfl rfl rfl rfl rfl (pure_load_agg rfl ag31 sz31 rfl (Nat.le_of_ble_eq_true rfl)) ?_
  refine dpk 208 [(11,_),(12,_),(14,_),(15,_),(74,_),(80,_),(81,_)] [] rfl rfl rfl ?_
  refine dl_pure_g rfl rfl rfl rfl rfl (pure_move rfl rfl) ?_
  refine dl_pure_g rfl rfl rfl rfl rfl (pure_move rfl rfl) ?_
  refine dl_pure_g rfl rfl rfl rfl rfl (pure_ix (f:=ints) (l:=(wl W z A.size)) rfl Tryz.underlying28 sz22 rfl rfl (by omega) (fun _=>rfl)) ?_
  refine dl_pure_g rfl rfl rfl rfl rfl (pure_load rfl ag22 rfl rfl) ?_
  refine dl_pure_g rfl rfl rfl rfl rfl (pure_call rfl rfl rfl (raccD_call (d:=B) (w:=(wl W z A.size).getD i default) hwi) hM0) ?_
  refine dl_pure_g rfl rfl rfl rfl rfl (pure_to (b':=false) (pure_bne Tryz.underlying4 rfl rfl rfl) (by simp)) ?_
  refine dl_pure rfl rfl rfl (pure_pick_f rfl rfl rfl rfl) ?_
  refine dl_nil ?_
  refine xD tb hM0 7 [11,12,14,59] [] rfl ?_
  refine oP rfl (pure_addi rfl rfl rfl (by omega)) ?_
  refine xA tb hM0 2 [11,12,14,15] [] rfl ?_
  refine nx ?_
  exact ⟨_,⟨i+1,rfl,by omega,rfl⟩,by omega⟩
  refine xA tb hM0 10 [11,12,90,91] [] rfl ?_
  refine oP rfl (pure_call rfl rfl rfl (both_call (a:=B) (b:=A) hBA) hM0) ?_
  refine xA tb hM0 9 [11,12,16,17] [16] rfl ?_
  refine code_frz 208 [(11,_),(12,_),(16,_),(17,_)] [] hM0 rfl ⟨.inl rfl,.inl rfl,.inr ⟨_,_,rfl,rfl,rfl⟩,.inl rfl,trivial⟩ trivial ?_
  refine xK tb hM0 3 [11,12,16,17,96,97] [] rfl ?_
  refine oP rfl (pure_call rfl rfl rfl (rboth_call (a:=B) (b:=A) hBA) hM0) ?_
  refine xA tb hM0 9 [11,12,16,17,18,19] [18] rfl ?_
  refine code_frz 208 [(11,_),(12,_),(16,_),(17,_),(18,_),(19,_)] [] hM0 rfl ⟨.inl rfl,.inl rfl,.inl rfl,.inl rfl,.inr ⟨_,_,rfl,rfl,rfl⟩,.inl rfl,trivial⟩ trivial ?_
  refine xK tb hM0 3 [11,12,16,17,18,19,102,103] [] rfl ?_
  refine oP rfl (pure_call rfl rfl rfl (either_call (a:=A) (b:=B) hAB) hM0) ?_
  refine xA tb hM0 9 [11,12,16,17,18,19,20,21] [20] rfl ?_
  refine code_frz 208 [(11,_),(12,_),(16,_),(17,_),(18,_),(19,_),(20,_),(21,_)] [] hM0 rfl ⟨.inl rfl,.inl rfl,.inl rfl,.inl rfl,.inl rfl,.inl rfl,.inr ⟨_,_,rfl,rfl,rfl⟩,.inl rfl,trivial⟩ trivial ?_
  refine xK tb hM0 3 [11,12,16,17,18,19,20,21,108,109] [] rfl ?_
  refine oP rfl (pure_call rfl rfl rfl (reither_call (a:=A) (b:=B) hAB) hM0) ?_
  refine xA tb hM0 9 [11,12,16,17,18,19,20,21,22,23] [22] rfl ?_
  refine code_frz 208 [(11,_),(12,_),(16,_),(17,_),(18,_),(19,_),(20,_),(21,_),(22,_),(23,_)] [] hM0 rfl ⟨.inl rfl,.inl rfl,.inl rfl,.inl rfl,.inl rfl,.inl rfl,.inl rfl,.inl rfl,.inr ⟨_,_,rfl,rfl,rfl⟩,.inl rfl,trivial⟩ trivial ?_
  refine xK tb hM0 2 [11,12,16,17,18,19,20,21,22,23,114] [] rfl ?_
  refine oP rfl (pure_call rfl rfl rfl (reverse_call (d:=B) hF) hM0) ?_
  refine xA tb hM0 9 [11,12,16,17,18,19,20,21,22,23,24,25] [24] rfl ?_
  refine code_frz 208 [(11,_),(12,_),(16,_),(17,_),(18,_),(19,_),(20,_),(21,_),(22,_),(23,_),(24,_),(25,_)] [] hM0 rfl ⟨.inl rfl,.inl rfl,.inl rfl,.inl rfl,.inl rfl,.inl rfl,.inl rfl,.inl rfl,.inl rfl,.inl rfl,.inr ⟨_,_,rfl,rfl,rfl⟩,.inl rfl,trivial⟩ trivial ?_
  refine xK tb hM0 2 [11,12,16,17,18,19,20,21,22,23,24,25,119] [] rfl ?_
  refine oP rfl (pure_call rfl rfl rfl (rreverse_call (d:=B) hF) hM0) ?_
  refine xA tb hM0 10 [11,12,16,17,18,19,20,21,22,23,24,25,26,27] [26] rfl ?_
  refine code_frz 208 [(11,_),(12,_),(16,_),(17,_),(18,_),(19,_),(20,_),(21,_),(22,_),(23,_),(24,_),(25,_),(26,_),(27,_)] [] hM0 rfl ⟨.inl rfl,.inl rfl,.inl rfl,.inl rfl,.inl rfl,.inl rfl,.inl rfl,.inl rfl,.inl rfl,.inl rfl,.inl rfl,.inl rfl,.inr ⟨_,_,rfl,rfl,rfl⟩,.inl rfl,trivial⟩ trivial ?_
  refine xK tb hM0 3 [11,12,16,18,20,21,22,23,24,25,26,27,123,124] [] rfl ?_
  refine oP rfl (pure_to (b':=false) (pure_neq rfl rfl rfl) (by simp)) ?_
  refine xA tb hM0 3 [11,12,16,18,20,22,24,25,26,27,126,127,128] [] rfl ?_
  refine oP rfl (pure_to (b':=false) (pure_neq rfl rfl rfl) (by simp)) ?_
  refine xA tb hM0 4 [11,12,16,18,20,22,24,26,131,132,133] [] rfl ?_
  refine oP rfl (pure_to (b':=false) (pure_neq rfl rfl rfl) (by simp)) ?_
  refine xA tb hM0 4 [11,12,20,22,24,26,136,137,138] [] rfl ?_
  refine oP rfl (pure_call rfl rfl rfl (sameD_call hz1) hM0) ?_
  refine xA tb hM0 5 [11,12,24,26,142,143,144] [] rfl ?_
  refine oP rfl (pure_call rfl rfl rfl (sameD_call hz2) hM0) ?_
  refine xA tb hM0 5 [11,12,148,149,150] [] rfl ?_
  refine oP rfl (pure_call rfl rfl rfl (sameD_call hz3) hM0) ?_
  refine xA tb hM0 11 [11,12,155,156] [] rfl ?_
  refine oP rfl (pure_call rfl rfl rfl (differ_call (a:=A) (b:=B) (Nat.le_trans hAB (by decide))) hM0) ?_
  refine xA tb hM0 11 [11,12,28,29,161,162] [] rfl ?_
  refine oP rfl (pure_call rfl rfl rfl (rdiffer_call (a:=A) (b:=B) hAB) hM0) ?_
  refine xA tb hM0 9 [11,12,28,29,30,31] [] rfl ?_
  refine code_draw mixed (by kernel_rfl) _ rfl ?_
  refine dl_pure rfl rfl rfl (pure_move rfl rfl) ?_
  refine dl_pure rfl rfl rfl (pure_move rfl rfl) ?_
  refine dl_pure rfl rfl rfl (pure_to (b':=false) (pure_bne Tryz.underlying4 rfl rfl rfl) (by simp)) ?_
  refine dl_pure rfl rfl rfl (pure_move rfl rfl) ?_
  refine dl_pure_g rfl rfl rfl rfl rfl (pure_move rfl rfl) ?_
  refine dl_pure_g rfl rfl rfl rfl rfl (pure_move rfl rfl) ?_
  refine dl_pure_g rfl rfl rfl rfl rfl (pure_call rfl rfl rfl (sameW_call (o:=differZ A B) hl2) hM0) ?_
  refine dpk 208 [(11,_),(12,_),(169,_),(172,_)] [] rfl rfl rfl ?_
  refine dl_pure_g rfl rfl rfl rfl rfl (pure_not rfl rfl) ?_
  refine dl_pure rfl rfl rfl (pure_pick_f rfl rfl rfl rfl) ?_
  refine dl_pure rfl rfl rfl (pure_move rfl rfl) ?_
  refine dl_pure_g rfl rfl rfl rfl rfl (pure_load_agg rfl ag31 sz31 rfl (Nat.le_of_ble_eq_true rfl)) ?_
  refine dl_pure_g rfl rfl rfl rfl rfl (pure_call rfl rfl rfl (countD_call (d:=B) (n:=2)) hM0) ?_
  refine dl_pure_g rfl rfl rfl rfl rfl (pure_load_agg rfl ag31 sz31 rfl (Nat.le_of_ble_eq_true rfl)) ?_
  refine dl_pure_g rfl rfl rfl rfl rfl (pure_call rfl rfl rfl (rcount_call (d:=B) (n:=2)) hM0) ?_
  refine dl_pure_g rfl rfl rfl rfl rfl (pure_to (b':=false) (pure_neq rfl rfl rfl) (by simp)) ?_
  refine dl_pure rfl rfl rfl (pure_pick_f rfl rfl rfl rfl) ?_
  refine dl_nil ?_
  refine xD tb hM0 5 [11,12] [] rfl ?_
  refine code_draw mixed (by kernel_rfl) _ rfl ?_
  refine dl_pure rfl rfl rfl (pure_load_agg rfl ag31 sz31 rfl (Nat.le_of_ble_eq_true rfl)) ?_
  refine dl_pure rfl rfl rfl (pure_callb (b':=true) rfl rfl rfl (validD_call (d:=A)) hM0 (hvA)) ?_
  refine dl_pure rfl rfl rfl (pure_move rfl rfl) ?_
  refine dl_pure_g rfl rfl rfl rfl rfl (pure_load_agg rfl ag31 sz31 rfl (Nat.le_of_ble_eq_true rfl)) ?_
  refine dl_pure_g rfl rfl rfl rfl rfl (pure_call rfl rfl rfl (validD_call (d:=B)) hM0) ?_
  refine dl_pure_g rfl rfl rfl rfl rfl (pure_load_agg rfl ag31 sz31 rfl (Nat.le_of_ble_eq_true rfl)) ?_
  refine dl_pure_g rfl rfl rfl rfl rfl (pure_call rfl rfl rfl (rvalidD_call (d:=B)) hM0) ?_
  refine dpk 208 [(12,_),(184,_),(186,_),(188,_)] [] rfl rfl rfl ?_
  refine dl_pure_g rfl rfl rfl rfl rfl (pure_to (b':=true) (pure_beq Tryz.underlying4 rfl rfl rfl) (by simp)) ?_
  refine dl_pure rfl rfl rfl (pure_pick_t rfl rfl rfl rfl) ?_
  refine dl_pure rfl rfl rfl (pure_move rfl rfl) ?_
  refine dl_pure_g rfl rfl rfl rfl rfl (pure_load_agg rfl ag31 sz31 rfl (Nat.le_of_ble_eq_true rfl)) ?_
  refine dl_pure_g rfl rfl rfl rfl rfl (pure_call rfl rfl rfl (min_call (d:=B)) hM0) ?_
  refine dl_pure_g rfl rfl rfl rfl rfl (pure_load_agg rfl ag31 sz31 rfl (Nat.le_of_ble_eq_true rfl)) ?_
  refine dl_pure_g rfl rfl rfl rfl rfl (pure_call rfl rfl rfl (rmin_call (d:=B)) hM0) ?_
  refine dpk 208 [(12,_),(191,_),(193,_),(195,_)] [] rfl rfl rfl ?_
  refine dl_pure_g rfl rfl rfl rfl rfl (pure_call rfl rfl rfl (sameD_call hz4) hM0) ?_
  refine dl_pure rfl rfl rfl (pure_pick_t rfl rfl rfl rfl) ?_
  refine dl_pure rfl rfl rfl (pure_move rfl rfl) ?_
  refine dl_pure_g rfl rfl rfl rfl rfl (pure_load_agg rfl ag31 sz31 rfl (Nat.le_of_ble_eq_true rfl)) ?_
  refine dl_pure_g rfl rfl rfl rfl rfl (pure_call rfl rfl rfl (not_call (d:=B)) hM0) ?_
  refine dl_pure_g rfl rfl rfl rfl rfl (pure_load_agg rfl ag31 sz31 rfl (Nat.le_of_ble_eq_true rfl)) ?_
  refine dl_pure_g rfl rfl rfl rfl rfl (pure_call rfl rfl rfl (rnot_call (d:=B)) hM0) ?_
  refine dpk 208 [(198,_),(200,_),(202,_)] [] rfl rfl rfl ?_
  refine dl_pure_g rfl rfl rfl rfl rfl (pure_call rfl rfl rfl (sameD_call hz5) hM0) ?_
  refine dl_pure rfl rfl rfl (pure_pick_t rfl rfl rfl rfl) ?_
  refine dl_pure rfl rfl rfl (pure_move rfl rfl) ?_
  refine dl_pure_g rfl rfl rfl rfl rfl (pure_call rfl rfl rfl (lives_call) hM0) ?_
  refine dl_pure rfl rfl rfl (pure_pick_t rfl rfl rfl rfl) ?_
  refine dl_pure rfl rfl rfl (pure_assign rfl rfl) ?_
  refine dl_nil ?_
  refine xD tb hM0 2 [] [] rfl ?_
  refine end_ret rfl ?_
  first|rfl|simp_all
/-! The statement AutomatonAcceptsSaid. -/
namespace automatonAccepts
open Go.ChangeShapes Go.WideShapes Go.ChangeAt Go.RowKit Go.Am
theorem own:ownKnob Tryz.prog.godebug=none:=by kernel_rfl
set_option maxRecDepth 100000 in
theorem lifted (os:Os) (started:os.Started) (H:Type) (enc:TypeId×Value→H) :
    ReturnsInHanded {} Tryz.checked os 7 .any (Rows.automatonAcceptsSpec.pre6 enc Tryz.prog Tryz.f7 Rows.automatonAcceptsRow.domain false) (Rows.automatonAcceptsSpec.post enc Tryz.prog Tryz.f7 false true false false):=by
  refine returnsInHanded_of_change (C:=Tryz.checked) own started (by kernel_rfl) Tryz.func7
    (ChangeSpec.witness6 (enc:=enc) (C:=Tryz.checked) false ⟨#[],#[.slice none 0 0,.slice none 0 0,.int .i64 0,.int .i64 0,.int .i64 0],[]⟩ 8 (by kernel_rfl) (by kernel_rfl) (by kernel_rfl) (by kernel_rfl)) ?_
  intro W base args ds gs before hval0 hW hcnd _
  have hval:∀ (j:Nat) t v,Tryz.f7.params[j]?=some t→args[j]?=some v→Value.okWide Tryz.prog W .any base t v:=hval0
  have hW':=hW
  obtain ⟨p,q,hA0,hV,rfl,hfz,hnd⟩:=hW
  have hA:DataW.TrodAll enc Tryz.prog W 0 (fun _=>true) true Tryz.f7.params.toList args.toList ds p:=hA0
  rw [Tryz.params7] at hA hval
  obtain ⟨v0,vs0,d0,ds0,p0,q0,hargs,rfl,rfl,h0,r0⟩:=trodAll_cons hA
  obtain ⟨v1,vs1,d1,ds1,p1,q1,rfl,rfl,rfl,h1,r1⟩:=trodAll_cons r0
  obtain ⟨v2,vs2,d2,ds2,p2,q2,rfl,rfl,rfl,h2,r2⟩:=trodAll_cons r1
  obtain ⟨v3,vs3,d3,ds3,p3,q3,rfl,rfl,rfl,h3,r3⟩:=trodAll_cons r2
  obtain ⟨v4,vs4,d4,ds4,p4,q4,rfl,rfl,rfl,h4,r4⟩:=trodAll_cons r3
  obtain ⟨rfl,rfl,rfl⟩:=trodAll_nil r4
  obtain rfl:args=#[v0,v1,v2,v3,v4]:=by cases args;simp_all
  obtain ⟨x0,y0,z0,e0⟩:=open_intsA Tryz.underlying22 Tryz.underlying3 sz3 (hval 0 22 v0 rfl rfl) h0
  obtain ⟨x1,y1,z1,e1⟩:=open_intsA Tryz.underlying22 Tryz.underlying3 sz3 (hval 1 22 v1 rfl rfl) h1
  obtain ⟨x2,y2,e2⟩:=open_intA Tryz.underlying3 (hval 2 3 v2 rfl rfl) h2
  obtain ⟨x3,y3,e3⟩:=open_intA Tryz.underlying3 (hval 3 3 v3 rfl rfl) h3
  obtain ⟨x4,y4,e4⟩:=open_intA Tryz.underlying3 (hval 4 3 v4 rfl rfl) h4
  have hcall:=(accepts_law y0 y1 y2 y3 y4).use (w:=W) (vs:=[v0,v1,v2,v3,v4]) ⟨e0,e1,e2,e3,e4,trivial⟩
  exact law_post (tb:=4) (by kernel_rfl) (by kernel_rfl) (by kernel_rfl) Tryz.underlying4 rfl rfl hW' hcall
theorem over:Rows.automatonAcceptsRow.holds Tryz.pinned (OpenSpec.ofChange Rows.automatonAcceptsSpec) :=
  OpenClaim.holds_of_wide 7 Tryz.f7 rfl rfl rfl rfl rfl rfl rfl ⟨rfl,rfl,rfl,rfl,rfl⟩ rfl rfl rfl rfl rfl (by kernel_rfl) Tryz.func7 (by kernel_rfl)
    (of_decide_eq_true (by kernel_rfl)) (by unfold Func.isWrapper;first|(rw [if_pos (by decide +kernel)];kernel_rfl)|(rw [if_neg (by decide +kernel)];exact ⟨rfl,rfl⟩))
    (fun os started H enc _=>lifted os started H enc)
end automatonAccepts
theorem automatonAccepts_holds:Rows.AutomatonAcceptsSaid:=automatonAccepts.over
end Go.Proofs.YtjimlkpfmbachaaGreat

