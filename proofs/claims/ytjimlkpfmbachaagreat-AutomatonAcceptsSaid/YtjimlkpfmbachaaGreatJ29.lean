/-
  Contracts: the reference's products;which word is ahead;differences.
-/
import Derived.Test.YtjimlkpfmbachaaGreatJ28
import Derived.Test.YtjimlkpfmbachaaGreatJ17
set_option linter.unusedVariables false
set_option linter.unusedSectionVars false
set_option linter.unusedSimpArgs false
namespace Go.Proofs.YtjimlkpfmbachaaGreat
open Go.Am Go.Wc Go.Wb Go.Wd
theorem fn62:Fn1 Tryz.prog 62 Tryz.f62.ntmps 4 (Tryz.f62.body.getD .skip):=⟨Tryz.f62,Tryz.func62,rfl,rfl,rfl,by kernel_rfl⟩
set_option maxRecDepth 100000 in
set_option maxHeartbeats 2000000 in
theorem ahead_call {v w:List Nat} (hv:v.length≤1099511627776) (hw:w.length≤1099511627776):CallF Tryz.prog 62 [nats v,nats w] (.p (bool (ahd v w))):=by
  refine callF_of_code fn62 (Nat.le_of_ble_eq_true rfl) fun w0 M0 hM0=>?_
  refine xC tb hM0 9 [0,1,6] [] rfl ?_
  refine oP rfl (pure_lenm rfl Tryz.underlying22 rfl) ?_
  refine xA tb hM0 1 [0,1,7,8] [] rfl ?_
  refine oP rfl (pure_lenm rfl Tryz.underlying22 rfl) ?_
  refine xA tb hM0 3 [0,1,10] [] rfl ?_
  refine spC 10 rfl ?_ ?_<;>intro h1<;>try simp only [dq] at h1
  refine xA tb hM0 4 [1,11] [] rfl ?_
  refine oP rfl (pure_lenm rfl Tryz.underlying22 rfl) ?_
  refine xA tb hM0 1 [12,13] [] rfl ?_
  refine oP rfl (pure_lenm rfl Tryz.underlying22 rfl) ?_
  refine xA tb hM0 6 [] [] rfl ?_
  refine end_ret rfl ?_;rotate_left
  have hvw:v.length=w.length:=by omega
  refine xA tb hM0 10 [0,1,5] [] rfl ?_
  refine lp (fun zm zs=>∃ i:Nat,zm=v.length-i∧(i≤v.length)∧(ahd v w=lexB (v.drop i) (w.drop i))∧zs=⟨40,[(0,.v .mx (nats v)),(1,.v .mx (nats w)),(5,.v .pl (int i))],[]⟩) ?_ ?_
  exact ⟨_,0,rfl,Nat.zero_le _,ahead_eq hvw,rfl⟩
  rintro zm zs ⟨i,rfl,hL1_0,hL1_1,rfl⟩
  refine xA tb hM0 5 [0,1,5,16,17] [] rfl ?_
  refine oP rfl (pure_lenm rfl Tryz.underlying22 rfl) ?_
  refine xA tb hM0 3 [0,1,5,19] [] rfl ?_
  refine spC 19 rfl ?_ ?_<;>intro h2<;>try simp only [dq] at h2
  refine xA tb hM0 6 [0,1,5] [] rfl ?_
  refine code_draw mixed (by kernel_rfl) _ rfl ?_
  refine dl_pure rfl rfl rfl (pure_move rfl rfl) ?_
  refine dl_pure rfl rfl rfl (pure_move rfl rfl) ?_
  refine dl_pure rfl rfl rfl (pure_ix rfl Tryz.underlying22 sz3 rfl rfl (by omega) (fun _=>rfl)) ?_
  refine dl_pure rfl rfl rfl (pure_load rfl ag3 rfl rfl) ?_
  refine dl_pure rfl rfl rfl (pure_move rfl rfl) ?_
  refine dl_pure rfl rfl rfl (pure_move rfl rfl) ?_
  refine dl_pure rfl rfl rfl (pure_ix rfl Tryz.underlying22 sz3 rfl rfl (by omega) (fun _=>rfl)) ?_
  refine dl_pure rfl rfl rfl (pure_load rfl ag3 rfl rfl) ?_
  refine dl_pure rfl rfl rfl (pure_neq rfl rfl rfl) ?_
  refine dl_nil ?_
  refine xD tb hM0 1 [0,1,5,30] [] rfl ?_
  refine spC 30 rfl ?_ ?_<;>intro h3<;>try simp only [dq] at h3
  refine xA tb hM0 2 [0,1,5] [] rfl ?_
  refine code_draw mixed (by kernel_rfl) _ rfl ?_
  refine dl_pure rfl rfl rfl (pure_move rfl rfl) ?_
  refine dl_pure rfl rfl rfl (pure_move rfl rfl) ?_
  refine dl_pure rfl rfl rfl (pure_ix rfl Tryz.underlying22 sz3 rfl rfl (by omega) (fun _=>rfl)) ?_
  refine dl_pure rfl rfl rfl (pure_load rfl ag3 rfl rfl) ?_
  refine dl_pure rfl rfl rfl (pure_move rfl rfl) ?_
  refine dl_pure rfl rfl rfl (pure_move rfl rfl) ?_
  refine dl_pure rfl rfl rfl (pure_ix rfl Tryz.underlying22 sz3 rfl rfl (by omega) (fun _=>rfl)) ?_
  refine dl_pure rfl rfl rfl (pure_load rfl ag3 rfl rfl) ?_
  refine dl_pure rfl rfl rfl (pure_lss rfl rfl rfl) ?_
  refine dl_pure rfl rfl rfl (pure_assign rfl rfl) ?_
  refine dl_nil ?_
  refine xD tb hM0 7 [] [] rfl ?_
  refine end_ret rfl ?_;rotate_left
  refine xA tb hM0 6 [0,1,20] [] rfl ?_
  refine oP rfl (pure_addi rfl rfl rfl (by omega)) ?_
  refine xA tb hM0 2 [0,1,5] [] rfl ?_
  refine nx ?_
  exact ⟨_,⟨i+1,rfl,by omega,ahead_next (by omega) (by omega) hL1_1 (by omega),rfl⟩,by omega⟩
  refine xA tb hM0 12 [] [] rfl ?_
  refine end_ret rfl ?_;rotate_left
  all_goals
    first
      | (rw [ahead_len (by omega)];first|done|rfl)
      | (rw [ahead_here (i:=i) (by omega) (by omega) hL1_1 (by omega)];first|done|rfl)
      | (rw [ahead_done (i:=i) (by omega) hL1_1];first|done|rfl)
theorem fn61:FnC2 Tryz.prog 61 Tryz.f61.ntmps 6 31 3 7 (Tryz.f61.body.getD .skip):=⟨Tryz.f61,Tryz.func61,rfl,rfl,rfl,by kernel_rfl,ag31,sz31⟩
set_option maxRecDepth 100000 in
set_option maxHeartbeats 8000000 in
theorem rproduct_call {a b:Dfa} {e:Bool} (ha:okD a) (hb:okD b) (hk:a.k=b.k) (hn:a.n*b.n≤2048):CallF Tryz.prog 61 [dfa a,dfa b,bool e] (.p (.tup [dfa (prodP (ft e) a b),bool true])):=by
  have han:a.n=a.next.length:=rfl
  have hbn:b.n=b.next.length:=rfl
  have hba:=ha.1
  have hbb:=hb.1
  have hka:=kk ha
  have hkb:=kk hb
  have hmul:((a.n*b.n:Nat):Int)=(a.next.length:Int)*(b.next.length:Int):=Int.natCast_mul _ _
  have hpos:0<a.n*b.n:=Nat.mul_pos (by omega) (by omega)
  refine callF_of_codeC2 fn61 (Nat.le_of_ble_eq_true rfl) fun w0 M0 hM0=>?_
  refine xC tb hM0 2 [0,1,2] [] rfl ?_
  refine oP rfl (pure_box rfl rfl rfl hM0) ?_
  refine oP rfl (pure_box rfl rfl rfl hM0) ?_
  refine xA tb hM0 8 [2,3,4,6,18] [6] rfl ?_
  refine oP rfl (pure_lenm rfl Tryz.underlying28 rfl) ?_
  refine xA tb hM0 2 [2,3,4,6,19,21] [6] rfl ?_
  refine oP rfl (pure_lenm rfl Tryz.underlying28 rfl) ?_
  refine oP rfl (pure_toi (a':=((a.n*b.n:Nat):Int)) (pure_muli rfl rfl rfl (by omega)) (hmul.symm)) ?_
  refine xA tb hM0 0 [2,3,4,6,23] [6] rfl ?_
  refine oS rfl (step_make rfl rfl rfl rfl Tryz.underlying22 el3 ze3 rfl rfl rfl (by omega) (by omega) (by omega) hM0) rfl ?_
  refine xA tb hM0 5 [2,3,4,6,8] [6,24] rfl ?_
  refine oS rfl (step_lit rfl rfl rfl rfl Tryz.underlying22 el3 rfl rfl rfl rfl hM0) rfl ?_
  refine xA tb hM0 6 [2,3,4,6,8,9,26] [6,24,25] rfl ?_
  refine oP rfl (pure_index_own rfl Tryz.underlying22 sz3 rfl rfl rfl (by rw [List.length_replicate];omega)) ?_
  refine oS rfl (step_store_pel rfl rfl rfl sz3 rfl rfl (rep_get (by omega)) rfl rfl (.inl rfl) rfl (Nat.le_of_ble_eq_true rfl) hM0) rfl ?_
  refine xA tb hM0 13 [2,3,4,6,8,9,10] [6,10,24,25] rfl ?_
  refine code_nilown 10 1 41 22 31 hM0 rfl rfl rfl rfl ?_
  refine code_nilown 10 2 42 4 31 hM0 rfl rfl rfl rfl ?_
  refine xK tb hM0 5 [2,3,4,6,8,9,10,11] [6,10,24,25,41,42] rfl ?_
  refine lp (fun zm zs=>∃ (l:List Nat) (i:Nat),zm=a.n*b.n+1-i∧(Ex (cnext a b) a.k (List.range (a.n*b.n)) 0 (a.n*b.n) l i)∧zs=⟨146,[(2,.v .mx (bool e)),(3,.v .mx (dpc a)),(4,.v .mx (dpc b)),(6,.pbox 6 0),(8,.own 24),(9,.own 25),(10,.pbox 10 0),(11,.v .pl (int i))],[(6,.box 31 [.v .pl (.sc (.int .i64 0)),.v .pl (.sc (.slice none 0 0)),.v .pl (.sc (.slice none 0 0))]),(10,.box 31 [.v .pl (int a.size),.own 41,.own 42]),(24,.arr 3 ((nz (a.n*b.n) l).map natI)),(25,.arr 3 (l.map natI)),(41,.arr 22 ((rowsX (cnext a b) a.k l (l.take i)).map ints)),(42,.arr 4 ((finX (cfin (ft e) a b) (l.take i)).map bool))]⟩) ?_ ?_
  refine ⟨_,[0],0,rfl,ex_start (List.mem_range.2 (by omega)),?_⟩
  rw [show nz (a.n*b.n) [0]=nz (a.n*b.n) ([]++[0]) from rfl,← nz_snocI (l:=[]) (c:=0) (by omega) (by simp),nz_nil,← rep_map];rfl
  rintro zm zs ⟨l,i,rfl,hL1_0,rfl⟩
  have hle:=hL1_0.le
  rw [List.length_range] at hle
  refine xA tb hM0 5 [2,3,4,6,8,9,10,11,31,32] [6,10,24,25,41,42] rfl ?_
  refine oP rfl (pure_lenm rfl Tryz.underlying22 rfl) ?_
  refine xA tb hM0 3 [2,3,4,6,8,9,10,11,34] [6,10,24,25,41,42] rfl ?_
  refine spC 34 rfl ?_ ?_<;>intro h1<;>try simp only [dq] at h1
  refine xA tb hM0 6 [2,3,4,6,8,9,10,11] [6,10,24,25,41,42] rfl ?_
  have hi:i<l.length:=by omega
  have hxU:=hL1_0.met.sub _ (el_mem hi)
  have hxr:=List.mem_range.1 hxU
  have hc:=cod_parts hxr
  refine code_draw mixed (by kernel_rfl) _ rfl ?_
  refine dl_pure rfl rfl rfl (pure_move rfl rfl) ?_
  refine dl_pure rfl rfl rfl (pure_move rfl rfl) ?_
  refine dl_pure rfl rfl rfl (pure_index_own rfl Tryz.underlying22 sz3 rfl rfl rfl (by first|(simp only [ll];omega)|omega)) ?_
  refine dl_pure rfl rfl rfl (pure_load_pel rfl ag3 rfl rfl (mget (by first|(simp only [ll];omega)|omega)) rfl) ?_
  refine dl_pure rfl rfl rfl (pure_field rfl fd31_1 rfl) ?_
  refine dl_pure rfl rfl rfl (pure_load rfl ag28 rfl rfl) ?_
  refine dl_pure rfl rfl rfl (pure_lenm rfl Tryz.underlying28 rfl) ?_
  refine dl_pure rfl rfl rfl (pure_toi (a':=((((l.getD i default) / b.n):Nat):Int)) (pure_quon rfl rfl rfl (by simp only [Int.toNat_natCast];omega)) ((Int.natCast_ediv _ _).symm)) ?_
  refine dl_pure rfl rfl rfl (pure_assign rfl rfl) ?_
  refine dl_nil ?_
  refine xD tb hM0 2 [2,3,4,6,8,9,10,11,12] [6,10,24,25,41,42] rfl ?_
  refine code_draw mixed (by kernel_rfl) _ rfl ?_
  refine dl_pure rfl rfl rfl (pure_move rfl rfl) ?_
  refine dl_pure rfl rfl rfl (pure_move rfl rfl) ?_
  refine dl_pure rfl rfl rfl (pure_index_own rfl Tryz.underlying22 sz3 rfl rfl rfl (by first|(simp only [ll];omega)|omega)) ?_
  refine dl_pure rfl rfl rfl (pure_load_pel rfl ag3 rfl rfl (mget (by first|(simp only [ll];omega)|omega)) rfl) ?_
  refine dl_pure rfl rfl rfl (pure_field rfl fd31_1 rfl) ?_
  refine dl_pure rfl rfl rfl (pure_load rfl ag28 rfl rfl) ?_
  refine dl_pure rfl rfl rfl (pure_lenm rfl Tryz.underlying28 rfl) ?_
  refine dl_pure rfl rfl rfl (pure_toi (a':=((((l.getD i default) % b.n):Nat):Int)) (pure_remn rfl rfl rfl (by simp only [Int.toNat_natCast];omega)) ((Int.natCast_emod _ _).symm)) ?_
  refine dl_pure rfl rfl rfl (pure_assign rfl rfl) ?_
  refine dl_nil ?_
  refine xD tb hM0 3 [2,3,4,6,8,9,10,11,12,13] [6,10,24,25,41,42] rfl ?_
  refine oS rfl (step_nil rfl rfl rfl rfl rfl 3 hM0) rfl ?_
  refine xA tb hM0 9 [2,3,4,6,8,9,10,11,12,13,14,15] [6,10,14,24,25,41,42] rfl ?_
  refine lp (fun zm zs=>∃ s:Nat,zm=a.k-s∧(s≤a.k)∧zs=⟨146,[(2,.v .mx (bool e)),(3,.v .mx (dpc a)),(4,.v .mx (dpc b)),(6,.pbox 6 0),(8,.own 24),(9,.own 25),(10,.pbox 10 0),(11,.v .pl (int i)),(12,.v .pl (natI ((l.getD i default) / b.n))),(13,.v .pl (natI ((l.getD i default) % b.n))),(14,.own 14),(15,.v .pl (int s))],[(6,.box 31 [.v .pl (.sc (.int .i64 0)),.v .pl (.sc (.slice none 0 0)),.v .pl (.sc (.slice none 0 0))]),(10,.box 31 [.v .pl (int a.size),.own 41,.own 42]),(14,.arr 3 ((rI (cnext a b) (l.getD i default) l s).map int)),(24,.arr 3 ((nz (a.n*b.n) (grow (cnext a b) (l.getD i default) l s)).map natI)),(25,.arr 3 ((grow (cnext a b) (l.getD i default) l s).map natI)),(41,.arr 22 ((rowsX (cnext a b) a.k l (l.take i)).map ints)),(42,.arr 4 ((finX (cfin (ft e) a b) (l.take i)).map bool))]⟩) ?_ ?_
  exact ⟨_,0,rfl,Nat.zero_le _,rfl⟩
  rintro zm zs ⟨s,rfl,hL2_0,rfl⟩
  have hgl:=grow_le hL1_0.met (cnext_lt ha hb hk) hxU hL2_0
  rw [List.length_range] at hgl
  refine xA tb hM0 9 [2,3,4,6,8,9,10,11,12,13,14,15,56] [6,10,14,24,25,41,42] rfl ?_
  refine spC 56 rfl ?_ ?_<;>intro h2<;>try simp only [dq] at h2
  refine xA tb hM0 5 [2,3,4,6,8,9,10,11,12,13,14,15] [6,10,14,24,25,41,42] rfl ?_
  refine ct (fun zs=>zs=⟨146,[(2,.v .mx (bool e)),(3,.v .mx (dpc a)),(4,.v .mx (dpc b)),(6,.pbox 6 0),(8,.own 24),(9,.own 25),(10,.pbox 10 0),(11,.v .pl (int i)),(12,.v .pl (natI ((l.getD i default) / b.n))),(13,.v .pl (natI ((l.getD i default) % b.n))),(14,.own 14),(15,.v .pl (int s)),(16,.v .pl (natI (cnext a b (l.getD i default) s)))],[(6,.box 31 [.v .pl (.sc (.int .i64 0)),.v .pl (.sc (.slice none 0 0)),.v .pl (.sc (.slice none 0 0))]),(10,.box 31 [.v .pl (int a.size),.own 41,.own 42]),(14,.arr 3 ((rI (cnext a b) (l.getD i default) l s).map int)),(24,.arr 3 ((nz (a.n*b.n) (grow (cnext a b) (l.getD i default) l s)).map natI)),(25,.arr 3 ((grow (cnext a b) (l.getD i default) l s).map natI)),(41,.arr 22 ((rowsX (cnext a b) a.k l (l.take i)).map ints)),(42,.arr 4 ((finX (cfin (ft e) a b) (l.take i)).map bool))]⟩) ?_ ?_
  have hA1:=ha.cellN hc.1 (k:=s) (by omega)
  have hB1:=hb.cellN hc.2 (k:=s) (by omega)
  have hm1:((a.stp ((l.getD i default) / b.n) s:Nat):Int)*(b.next.length:Int)=((a.stp ((l.getD i default) / b.n) s*b.n:Nat):Int):=(Int.natCast_mul _ _).symm
  have hlt:=cod_lt (ha.stp hc.1 (show s<a.k by omega)) (hb.stp hc.2 (show s<b.k by omega))
  refine code_draw mixed (by kernel_rfl) _ rfl ?_
  refine dl_pure rfl rfl rfl (pure_field rfl fd31_1 rfl) ?_
  refine dl_pure rfl rfl rfl (pure_load rfl ag28 rfl rfl) ?_
  refine dl_pure rfl rfl rfl (pure_move rfl rfl) ?_
  refine dl_pure rfl rfl rfl (pure_ix rfl Tryz.underlying28 sz22 rfl rfl (by exact ⟨Int.natCast_nonneg _,Int.ofNat_lt.2 hc.1⟩) (fun _=>rfl)) ?_
  refine dl_pure rfl rfl rfl (pure_load rfl ag22 rfl rfl) ?_
  refine dl_pure rfl rfl rfl (pure_move rfl rfl) ?_
  refine dl_pure rfl rfl rfl (pure_ix rfl Tryz.underlying22 sz3 rfl rfl (by exact ⟨Int.natCast_nonneg _,Int.ofNat_lt.2 (show s<_ by have:=(ha.row hc.1).1;omega)⟩) (fun _=>rfl)) ?_
  refine dpk 146 [(2,_),(3,_),(4,_),(6,_),(8,_),(9,_),(10,_),(11,_),(12,_),(13,_),(14,_),(15,_),(65,_)] [(6,_),(10,_),(14,_),(24,_),(25,_),(41,_),(42,_)] rfl rfl rfl ?_
  refine dl_pure rfl rfl rfl (pure_load rfl ag3 rfl rfl) ?_
  refine dl_pure rfl rfl rfl (pure_field rfl fd31_1 rfl) ?_
  refine dl_pure rfl rfl rfl (pure_load rfl ag28 rfl rfl) ?_
  refine dl_pure rfl rfl rfl (pure_lenm rfl Tryz.underlying28 rfl) ?_
  refine dl_pure rfl rfl rfl (pure_toi (a':=((a.stp ((l.getD i default) / b.n) s*b.n:Nat):Int)) (pure_muli rfl rfl rfl (by rw [hA1,hm1];omega)) (by rw [hA1];exact hm1)) ?_
  refine dl_pure rfl rfl rfl (pure_field rfl fd31_1 rfl) ?_
  refine dl_pure rfl rfl rfl (pure_load rfl ag28 rfl rfl) ?_
  refine dpk 146 [(2,_),(3,_),(4,_),(6,_),(8,_),(9,_),(10,_),(11,_),(12,_),(13,_),(14,_),(15,_),(70,_),(72,_)] [(6,_),(10,_),(14,_),(24,_),(25,_),(41,_),(42,_)] rfl rfl rfl ?_
  refine dl_pure rfl rfl rfl (pure_move rfl rfl) ?_
  refine dl_pure rfl rfl rfl (pure_ix rfl Tryz.underlying28 sz22 rfl rfl (by exact ⟨Int.natCast_nonneg _,Int.ofNat_lt.2 hc.2⟩) (fun _=>rfl)) ?_
  refine dl_pure rfl rfl rfl (pure_load rfl ag22 rfl rfl) ?_
  refine dl_pure rfl rfl rfl (pure_move rfl rfl) ?_
  refine dl_pure rfl rfl rfl (pure_ix rfl Tryz.underlying22 sz3 rfl rfl (by exact ⟨Int.natCast_nonneg _,Int.ofNat_lt.2 (show s<_ by have:=(hb.row hc.2).1;omega)⟩) (fun _=>rfl)) ?_
  refine dl_pure rfl rfl rfl (pure_load rfl ag3 rfl rfl) ?_
  refine dl_pure rfl rfl rfl (pure_toi (a':=(((cnext a b (l.getD i default) s):Nat):Int)) (pure_addi rfl rfl rfl (by rw [hB1];omega)) (by rw [hB1];exact (Int.natCast_add _ _).symm)) ?_
  refine dl_pure rfl rfl rfl (pure_assign rfl rfl) ?_
  refine dl_nil ?_
  refine xD tb hM0 0 [2,3,4,6,8,9,10,11,12,13,14,15,16] [6,10,14,24,25,41,42] rfl ?_
  refine cx ?_
  rfl
  rintro zs ⟨rfl⟩
  have hcl:(cnext a b (l.getD i default) s)<a.n*b.n:=List.mem_range.1 (cnext_lt ha hb hk _ hxU s (by omega))
  refine ct (fun zs=>zs=⟨146,[(2,.v .mx (bool e)),(3,.v .mx (dpc a)),(4,.v .mx (dpc b)),(6,.pbox 6 0),(8,.own 24),(9,.own 25),(10,.pbox 10 0),(11,.v .pl (int i)),(12,.v .pl (natI ((l.getD i default) / b.n))),(13,.v .pl (natI ((l.getD i default) % b.n))),(14,.own 14),(15,.v .pl (int s)),(16,.v .pl (natI (cnext a b (l.getD i default) s)))],[(6,.box 31 [.v .pl (.sc (.int .i64 0)),.v .pl (.sc (.slice none 0 0)),.v .pl (.sc (.slice none 0 0))]),(10,.box 31 [.v .pl (int a.size),.own 41,.own 42]),(14,.arr 3 ((rI (cnext a b) (l.getD i default) l s).map int)),(24,.arr 3 ((nz (a.n*b.n) (grow (cnext a b) (l.getD i default) l (s+1))).map natI)),(25,.arr 3 ((grow (cnext a b) (l.getD i default) l (s+1)).map natI)),(41,.arr 22 ((rowsX (cnext a b) a.k l (l.take i)).map ints)),(42,.arr 4 ((finX (cfin (ft e) a b) (l.take i)).map bool))]⟩) ?_ ?_
  refine xA tb hM0 4 [2,3,4,6,8,9,10,11,12,13,14,15,16,80,81] [6,10,14,24,25,41,42] rfl ?_
  refine oP rfl (pure_index_own rfl Tryz.underlying22 sz3 rfl rfl rfl (by exact ⟨Int.natCast_nonneg _,by rw [List.length_map,nz_len];exact Int.ofNat_lt.2 hcl⟩)) ?_
  refine oP rfl (pure_load_pel rfl ag3 rfl rfl (mget (by rw [nz_len];exact hcl)) rfl) ?_
  refine xA tb hM0 3 [2,3,4,6,8,9,10,11,12,13,14,15,16,84] [6,10,14,24,25,41,42] rfl ?_
  refine spC 84 rfl ?_ ?_<;>intro h3<;>try simp only [dq] at h3
  have hnew:=nz_new (n:=a.n*b.n) (c:=(cnext a b (l.getD i default) s)) (l:=(grow (cnext a b) (l.getD i default) l s)) hcl (by omega)
  refine xA tb hM0 5 [2,3,4,6,8,10,11,12,13,14,15,16,85,86] [6,10,14,24,25,41,42] rfl ?_
  refine oP rfl (pure_lit rfl Tryz.underlying22 el3 rfl rfl rfl rfl hM0) ?_
  refine oS rfl (step_append rfl rfl rfl rfl Tryz.underlying22 el3 rfl rfl hM0 (src_pl rfl (one_len (by rfl))) (by rw [List.length_map];simp only [List.length_cons,List.length_nil];omega) (by rw [List.length_map];simp only [List.length_cons,List.length_nil];omega)) rfl ?_
  refine xA tb hM0 7 [2,3,4,6,8,9,10,11,12,13,14,15,16,89,90,91] [6,10,14,24,25,41,42] rfl ?_
  refine oP rfl (pure_toi (a':=((((grow (cnext a b) (l.getD i default) l s)++[(cnext a b (l.getD i default) s)]).length:Nat):Int)) (pure_len rfl Tryz.underlying22 rfl) (by simp)) ?_
  refine oP rfl (pure_index_own rfl Tryz.underlying22 sz3 rfl rfl rfl (by exact ⟨Int.natCast_nonneg _,by rw [List.length_map,nz_len];exact Int.ofNat_lt.2 hcl⟩)) ?_
  refine xA tb hM0 0 [2,3,4,6,8,9,10,11,12,13,14,15,16,92,93] [6,10,14,24,25,41,42] rfl ?_
  refine oS rfl (step_store_pel rfl rfl rfl sz3 rfl rfl (mget (by rw [nz_len];exact hcl)) rfl rfl (.inl rfl) rfl (Nat.le_of_ble_eq_true rfl) hM0) rfl ?_
  refine xA tb hM0 1 [2,3,4,6,8,9,10,11,12,13,14,15,16] [6,10,14,24,25,41,42] rfl ?_
  refine cx ?_
  rw [grow_new hnew,← nz_snocI hcl hnew,List.map_append];rfl
  have hold:=nz_old (n:=a.n*b.n) (c:=(cnext a b (l.getD i default) s)) (l:=(grow (cnext a b) (l.getD i default) l s)) hcl (by omega)
  refine xA tb hM0 2 [2,3,4,6,8,9,10,11,12,13,14,15,16] [6,10,14,24,25,41,42] rfl ?_
  refine cx ?_
  rw [grow_old hold]
  rintro zs ⟨rfl⟩
  have hmem:(cnext a b (l.getD i default) s)∈(grow (cnext a b) (l.getD i default) l (s+1)):=(grow_mem _ _ _).2 (.inr ⟨s,by omega,rfl⟩)
  have hgl2:=grow_le hL1_0.met (cnext_lt ha hb hk) hxU (show s+1≤a.k by omega)
  rw [List.length_range] at hgl2
  refine xA tb hM0 4 [2,3,4,6,8,9,10,11,12,13,15,94,95,96] [6,10,14,24,25,41,42] rfl ?_
  refine oP rfl (pure_index_own rfl Tryz.underlying22 sz3 rfl rfl rfl (by exact ⟨Int.natCast_nonneg _,by rw [List.length_map,nz_len];exact Int.ofNat_lt.2 hcl⟩)) ?_
  refine oP rfl (pure_load_pel rfl ag3 rfl rfl (mget (by rw [nz_len];exact hcl)) rfl) ?_
  refine xA tb hM0 0 [2,3,4,6,8,9,10,11,12,13,15,94,98] [6,10,14,24,25,41,42] rfl ?_
  refine oP rfl (pure_toi (a':=((idx (grow (cnext a b) (l.getD i default) l (s+1)) (cnext a b (l.getD i default) s):Nat):Int)) (pure_subi rfl rfl rfl (by simp only [Int.toNat_natCast];rw [nz_hit hcl hmem];have:=idx_lt hmem;omega)) (by simp only [Int.toNat_natCast];rw [nz_hit hcl hmem];omega)) ?_
  refine oP rfl (pure_lit rfl Tryz.underlying22 el3 rfl rfl rfl rfl hM0) ?_
  refine xA tb hM0 0 [2,3,4,6,8,9,10,11,12,13,15,94,100] [6,10,14,24,25,41,42] rfl ?_
  refine oS rfl (step_append rfl rfl rfl rfl Tryz.underlying22 el3 rfl rfl hM0 (src_pl rfl (one_len (by rfl))) (by rw [List.length_map,rI_len];simp only [List.length_cons,List.length_nil];omega) (by rw [List.length_map,rI_len];simp only [List.length_cons,List.length_nil];omega)) rfl ?_
  refine xA tb hM0 6 [2,3,4,6,8,9,10,11,12,13,14,57] [6,10,14,24,25,41,42] rfl ?_
  refine oP rfl (pure_addi rfl rfl rfl (by omega)) ?_
  refine xA tb hM0 2 [2,3,4,6,8,9,10,11,12,13,14,15] [6,10,14,24,25,41,42] rfl ?_
  refine nx ?_
  refine ⟨_,⟨s+1,rfl,by omega,?_⟩,by omega⟩
  rw [rI_succ,List.map_append];rfl
  refine xA tb hM0 7 [2,3,4,6,8,9,10,11,12,13,14] [6,10,14,24,25,41,42] rfl ?_
  refine code_frz 146 [(2,_),(3,_),(4,_),(6,_),(8,_),(9,_),(10,_),(11,_),(12,_),(13,_),(14,_)] [(6,_),(10,_),(24,_),(25,_),(41,_),(42,_)] hM0 rfl ⟨.inl rfl,.inl rfl,.inl rfl,.inl rfl,.inl rfl,.inl rfl,.inl rfl,.inl rfl,.inl rfl,.inl rfl,.inr ⟨_,_,rfl,rfl,rfl⟩,trivial⟩ ⟨rfl,rfl,rfl,rfl,rfl,rfl,trivial⟩ ?_
  obtain rfl:s=a.k:=by omega
  rw [rI_all]
  refine xK tb hM0 4 [2,3,4,6,8,9,10,11,12,13,103,104] [6,10,24,25,41,42] rfl ?_
  refine oP rfl (pure_lit rfl Tryz.underlying28 el22 rfl rfl rfl rfl hM0) ?_
  refine oS rfl (step_append rfl rfl rfl rfl Tryz.underlying28 el22 rfl rfl hM0 (src_pl rfl (one_len (by rfl))) (by rw [List.length_map,rows_len,List.length_take];simp only [List.length_cons,List.length_nil];omega) (by rw [List.length_map,rows_len,List.length_take];simp only [List.length_cons,List.length_nil];omega)) rfl ?_
  refine xA tb hM0 4 [2,3,4,6,8,9,10,11,12,13] [6,10,24,25,41,42] rfl ?_
  refine code_draw mixed (by kernel_rfl) _ rfl ?_
  refine dl_pure rfl rfl rfl (pure_field_box rfl fd31_2 rfl rfl) ?_
  refine dl_pure rfl rfl rfl (pure_load_box rfl ag29 rfl rfl rfl) ?_
  refine dl_pure rfl rfl rfl (pure_field rfl fd31_2 rfl) ?_
  refine dl_pure rfl rfl rfl (pure_load rfl ag29 rfl rfl) ?_
  refine dl_pure rfl rfl rfl (pure_move rfl rfl) ?_
  refine dl_pure rfl rfl rfl (pure_ix rfl Tryz.underlying29 sz4 rfl rfl (by exact ⟨Int.natCast_nonneg _,Int.ofNat_lt.2 (show _<a.fin.length by omega)⟩) (fun _=>rfl)) ?_
  refine dl_pure rfl rfl rfl (pure_load rfl ag4 rfl rfl) ?_
  refine dpk 146 [(2,_),(3,_),(4,_),(6,_),(8,_),(9,_),(10,_),(11,_),(12,_),(13,_),(109,_),(114,_)] [(6,_),(10,_),(24,_),(25,_),(41,_),(42,_)] rfl rfl rfl ?_
  refine dl_pure rfl rfl rfl (pure_move rfl rfl) ?_
  refine dl_guard rfl (fun h4=>?_) (fun h4=>?_)
  have h4':=h4;try simp only [dq] at h4'
  refine dl_pure_g rfl rfl h4 rfl rfl (pure_field rfl fd31_2 rfl) ?_
  refine dl_pure_g rfl rfl h4 rfl rfl (pure_load rfl ag29 rfl rfl) ?_
  refine dl_pure_g rfl rfl h4 rfl rfl (pure_move rfl rfl) ?_
  refine dl_pure_g rfl rfl h4 rfl rfl (pure_ix rfl Tryz.underlying29 sz4 rfl rfl (by exact ⟨Int.natCast_nonneg _,Int.ofNat_lt.2 (show _<b.fin.length by omega)⟩) (fun _=>rfl)) ?_
  refine dl_pure_g rfl rfl h4 rfl rfl (pure_load rfl ag4 rfl rfl) ?_
  refine dl_pure rfl rfl rfl (pure_pick_t rfl rfl h4 rfl) ?_
  refine dpk 146 [(2,_),(3,_),(4,_),(6,_),(8,_),(9,_),(10,_),(11,_),(12,_),(13,_),(109,_),(121,_)] [(6,_),(10,_),(24,_),(25,_),(41,_),(42,_)] rfl rfl rfl ?_
  refine dl_pure rfl rfl rfl (pure_move rfl rfl) ?_
  refine dl_guard rfl (fun h5=>?_) (fun h5=>?_)
  have h5':=h5;try simp only [dq] at h5'
  refine dl_skip_g rfl rfl h5 rfl rfl ?_
  refine dl_skip_g rfl rfl h5 rfl rfl ?_
  refine dl_skip_u rfl rfl rfl ?_
  refine dl_skip_u rfl rfl rfl ?_
  refine dl_skip_u rfl rfl rfl ?_
  refine dl_skip_u rfl rfl rfl ?_
  refine dpk 146 [(2,_),(3,_),(4,_),(6,_),(8,_),(9,_),(10,_),(11,_),(13,_),(109,_),(122,_),(124,_),(128,_)] [(6,_),(10,_),(24,_),(25,_),(41,_),(42,_)] rfl rfl rfl ?_
  refine dl_skip_u rfl rfl rfl ?_
  refine dl_skip_u rfl rfl rfl ?_
  refine dl_skip_u rfl rfl rfl ?_
  refine dl_skip_u rfl rfl rfl ?_
  refine dl_skip_u rfl rfl rfl ?_
  refine dl_skip_u rfl rfl rfl ?_
  refine dl_skip_u rfl rfl rfl ?_
  refine dpk 146 [(2,_),(3,_),(4,_),(6,_),(8,_),(9,_),(10,_),(11,_),(109,_),(122,_),(124,_),(130,_),(135,_)] [(6,_),(10,_),(24,_),(25,_),(41,_),(42,_)] rfl rfl rfl ?_
  refine dl_skip_u rfl rfl rfl ?_
  refine dl_skip_g rfl rfl h5 rfl rfl ?_
  refine dl_pure rfl rfl rfl (pure_pick_t rfl rfl h5 rfl) ?_
  refine dl_pure rfl rfl rfl (pure_lit rfl Tryz.underlying29 el4 rfl rfl rfl rfl hM0) ?_
  refine dl_tails (by kernel_rfl) ?_
  refine tl_step rfl (step_append rfl rfl rfl rfl Tryz.underlying29 el4 rfl rfl hM0 (src_pl rfl (one_len (by rfl))) (by rw [List.length_map,fin_len,List.length_take];simp only [List.length_cons,List.length_nil];omega) (by rw [List.length_map,fin_len,List.length_take];simp only [List.length_cons,List.length_nil];omega)) ?_
  refine tl_pure rfl rfl rfl (pure_field_box rfl fd31_2 rfl rfl) ?_
  refine tl_step rfl (step_store_box_own rfl rfl rfl sz29 rfl rfl rfl rfl rfl hM0) ?_
  refine tl_nil ?_
  refine xD tb hM0 4 [2,3,4,6,8,9,10,35] [6,10,24,25,41,42] rfl ?_
  refine oP rfl (pure_addi rfl rfl rfl (by omega)) ?_
  refine xA tb hM0 2 [2,3,4,6,8,9,10,11] [6,10,24,25,41,42] rfl ?_
  refine nx ?_;rotate_left
  have h5':=h5;try simp only [dq] at h5'
  refine dl_pure_g rfl rfl h5 rfl rfl (pure_move rfl rfl) ?_
  refine dl_pure_g rfl rfl h5 rfl rfl (pure_move rfl rfl) ?_
  refine dl_guard rfl (fun h6=>?_) (fun h6=>?_)
  have h6':=h6;try simp only [dq] at h6'
  refine dl_pure_g rfl rfl h6 rfl rfl (pure_field rfl fd31_2 rfl) ?_
  refine dl_pure_g rfl rfl h6 rfl rfl (pure_load rfl ag29 rfl rfl) ?_
  refine dl_pure_g rfl rfl h6 rfl rfl (pure_move rfl rfl) ?_
  refine dl_pure_g rfl rfl h6 rfl rfl (pure_ix rfl Tryz.underlying29 sz4 rfl rfl (by exact ⟨Int.natCast_nonneg _,Int.ofNat_lt.2 (show _<a.fin.length by omega)⟩) (fun _=>rfl)) ?_
  refine dpk 146 [(2,_),(3,_),(4,_),(6,_),(8,_),(9,_),(10,_),(11,_),(13,_),(109,_),(122,_),(124,_),(128,_)] [(6,_),(10,_),(24,_),(25,_),(41,_),(42,_)] rfl rfl rfl ?_
  refine dl_pure_g rfl rfl h6 rfl rfl (pure_load rfl ag4 rfl rfl) ?_
  refine dl_pure_g rfl rfl h6 rfl rfl (pure_move rfl rfl) ?_
  refine dl_guard rfl (fun h7=>?_) (fun h7=>?_)
  have h7':=h7;try simp only [dq] at h7'
  refine dl_skip_g rfl rfl h7 rfl rfl ?_
  refine dl_skip_g rfl rfl h7 rfl rfl ?_
  refine dl_skip_g rfl rfl h7 rfl rfl ?_
  refine dl_skip_g rfl rfl h7 rfl rfl ?_
  refine dl_skip_g rfl rfl h7 rfl rfl ?_
  refine dpk 146 [(2,_),(3,_),(4,_),(6,_),(8,_),(9,_),(10,_),(11,_),(109,_),(122,_),(124,_),(130,_),(135,_)] [(6,_),(10,_),(24,_),(25,_),(41,_),(42,_)] rfl rfl rfl ?_
  refine dl_pure_g rfl rfl h6 rfl rfl (pure_pick_t rfl rfl h7 rfl) ?_
  refine dl_pure_g rfl rfl h5 rfl rfl (pure_pick_t rfl rfl h6 rfl) ?_
  refine dl_pure rfl rfl rfl (pure_pick_f rfl rfl h5 rfl) ?_
  refine dl_pure rfl rfl rfl (pure_lit rfl Tryz.underlying29 el4 rfl rfl rfl rfl hM0) ?_
  refine dl_tails (by kernel_rfl) ?_
  refine tl_step rfl (step_append rfl rfl rfl rfl Tryz.underlying29 el4 rfl rfl hM0 (src_pl rfl (one_len (by rfl))) (by rw [List.length_map,fin_len,List.length_take];simp only [List.length_cons,List.length_nil];omega) (by rw [List.length_map,fin_len,List.length_take];simp only [List.length_cons,List.length_nil];omega)) ?_
  refine tl_pure rfl rfl rfl (pure_field_box rfl fd31_2 rfl rfl) ?_
  refine tl_step rfl (step_store_box_own rfl rfl rfl sz29 rfl rfl rfl rfl rfl hM0) ?_
  refine tl_nil ?_
  refine xD tb hM0 4 [2,3,4,6,8,9,10,35] [6,10,24,25,41,42] rfl ?_
  refine oP rfl (pure_addi rfl rfl rfl (by omega)) ?_
  refine xA tb hM0 2 [2,3,4,6,8,9,10,11] [6,10,24,25,41,42] rfl ?_
  refine nx ?_;rotate_left
  have h7':=h7;try simp only [dq] at h7'
  refine dl_pure_g rfl rfl h7 rfl rfl (pure_field rfl fd31_2 rfl) ?_
  refine dl_pure_g rfl rfl h7 rfl rfl (pure_load rfl ag29 rfl rfl) ?_
  refine dl_pure_g rfl rfl h7 rfl rfl (pure_move rfl rfl) ?_
  refine dl_pure_g rfl rfl h7 rfl rfl (pure_ix rfl Tryz.underlying29 sz4 rfl rfl (by exact ⟨Int.natCast_nonneg _,Int.ofNat_lt.2 (show _<b.fin.length by omega)⟩) (fun _=>rfl)) ?_
  refine dl_pure_g rfl rfl h7 rfl rfl (pure_load rfl ag4 rfl rfl) ?_
  refine dpk 146 [(2,_),(3,_),(4,_),(6,_),(8,_),(9,_),(10,_),(11,_),(109,_),(122,_),(124,_),(130,_),(135,_)] [(6,_),(10,_),(24,_),(25,_),(41,_),(42,_)] rfl rfl rfl ?_
  refine dl_pure_g rfl rfl h6 rfl rfl (pure_pick_f rfl rfl h7 rfl) ?_
  refine dl_pure_g rfl rfl h5 rfl rfl (pure_pick_t rfl rfl h6 rfl) ?_
  refine dl_pure rfl rfl rfl (pure_pick_f rfl rfl h5 rfl) ?_
  refine dl_pure rfl rfl rfl (pure_lit rfl Tryz.underlying29 el4 rfl rfl rfl rfl hM0) ?_
  refine dl_tails (by kernel_rfl) ?_
  refine tl_step rfl (step_append rfl rfl rfl rfl Tryz.underlying29 el4 rfl rfl hM0 (src_pl rfl (one_len (by rfl))) (by rw [List.length_map,fin_len,List.length_take];simp only [List.length_cons,List.length_nil];omega) (by rw [List.length_map,fin_len,List.length_take];simp only [List.length_cons,List.length_nil];omega)) ?_
  refine tl_pure rfl rfl rfl (pure_field_box rfl fd31_2 rfl rfl) ?_
  refine tl_step rfl (step_store_box_own rfl rfl rfl sz29 rfl rfl rfl rfl rfl hM0) ?_
  refine tl_nil ?_
  refine xD tb hM0 4 [2,3,4,6,8,9,10,35] [6,10,24,25,41,42] rfl ?_
  refine oP rfl (pure_addi rfl rfl rfl (by omega)) ?_
  refine xA tb hM0 2 [2,3,4,6,8,9,10,11] [6,10,24,25,41,42] rfl ?_
  refine nx ?_;rotate_left
  have h6':=h6;try simp only [dq] at h6'
  refine dl_skip_g rfl rfl h6 rfl rfl ?_
  refine dl_skip_g rfl rfl h6 rfl rfl ?_
  refine dl_skip_g rfl rfl h6 rfl rfl ?_
  refine dl_skip_g rfl rfl h6 rfl rfl ?_
  refine dpk 146 [(2,_),(3,_),(4,_),(6,_),(8,_),(9,_),(10,_),(11,_),(13,_),(109,_),(122,_),(124,_),(128,_)] [(6,_),(10,_),(24,_),(25,_),(41,_),(42,_)] rfl rfl rfl ?_
  refine dl_skip_g rfl rfl h6 rfl rfl ?_
  refine dl_skip_g rfl rfl h6 rfl rfl ?_
  refine dl_skip_u rfl rfl rfl ?_
  refine dl_skip_u rfl rfl rfl ?_
  refine dl_skip_u rfl rfl rfl ?_
  refine dl_skip_u rfl rfl rfl ?_
  refine dl_skip_u rfl rfl rfl ?_
  refine dpk 146 [(2,_),(3,_),(4,_),(6,_),(8,_),(9,_),(10,_),(11,_),(109,_),(122,_),(124,_),(130,_),(135,_)] [(6,_),(10,_),(24,_),(25,_),(41,_),(42,_)] rfl rfl rfl ?_
  refine dl_skip_g rfl rfl h6 rfl rfl ?_
  refine dl_pure_g rfl rfl h5 rfl rfl (pure_pick_f rfl rfl h6 rfl) ?_
  refine dl_pure rfl rfl rfl (pure_pick_f rfl rfl h5 rfl) ?_
  refine dl_pure rfl rfl rfl (pure_lit rfl Tryz.underlying29 el4 rfl rfl rfl rfl hM0) ?_
  refine dl_tails (by kernel_rfl) ?_
  refine tl_step rfl (step_append rfl rfl rfl rfl Tryz.underlying29 el4 rfl rfl hM0 (src_pl rfl (one_len (by rfl))) (by rw [List.length_map,fin_len,List.length_take];simp only [List.length_cons,List.length_nil];omega) (by rw [List.length_map,fin_len,List.length_take];simp only [List.length_cons,List.length_nil];omega)) ?_
  refine tl_pure rfl rfl rfl (pure_field_box rfl fd31_2 rfl rfl) ?_
  refine tl_step rfl (step_store_box_own rfl rfl rfl sz29 rfl rfl rfl rfl rfl hM0) ?_
  refine tl_nil ?_
  refine xD tb hM0 4 [2,3,4,6,8,9,10,35] [6,10,24,25,41,42] rfl ?_
  refine oP rfl (pure_addi rfl rfl rfl (by omega)) ?_
  refine xA tb hM0 2 [2,3,4,6,8,9,10,11] [6,10,24,25,41,42] rfl ?_
  refine nx ?_;rotate_left
  have h4':=h4;try simp only [dq] at h4'
  refine dl_skip_g rfl rfl h4 rfl rfl ?_
  refine dl_skip_g rfl rfl h4 rfl rfl ?_
  refine dl_skip_g rfl rfl h4 rfl rfl ?_
  refine dl_skip_g rfl rfl h4 rfl rfl ?_
  refine dl_skip_g rfl rfl h4 rfl rfl ?_
  refine dl_pure rfl rfl rfl (pure_pick_f rfl rfl h4 rfl) ?_
  refine dpk 146 [(2,_),(3,_),(4,_),(6,_),(8,_),(9,_),(10,_),(11,_),(12,_),(13,_),(109,_),(121,_)] [(6,_),(10,_),(24,_),(25,_),(41,_),(42,_)] rfl rfl rfl ?_
  refine dl_pure rfl rfl rfl (pure_move rfl rfl) ?_
  refine dl_pure_g rfl rfl rfl rfl rfl (pure_move rfl rfl) ?_
  refine dl_pure_g rfl rfl rfl rfl rfl (pure_move rfl rfl) ?_
  refine dl_guard rfl (fun h8=>?_) (fun h8=>?_)
  have h8':=h8;try simp only [dq] at h8'
  refine dl_pure_g rfl rfl h8 rfl rfl (pure_field rfl fd31_2 rfl) ?_
  refine dl_pure_g rfl rfl h8 rfl rfl (pure_load rfl ag29 rfl rfl) ?_
  refine dl_pure_g rfl rfl h8 rfl rfl (pure_move rfl rfl) ?_
  refine dl_pure_g rfl rfl h8 rfl rfl (pure_ix rfl Tryz.underlying29 sz4 rfl rfl (by exact ⟨Int.natCast_nonneg _,Int.ofNat_lt.2 (show _<a.fin.length by omega)⟩) (fun _=>rfl)) ?_
  refine dpk 146 [(2,_),(3,_),(4,_),(6,_),(8,_),(9,_),(10,_),(11,_),(13,_),(109,_),(122,_),(124,_),(128,_)] [(6,_),(10,_),(24,_),(25,_),(41,_),(42,_)] rfl rfl rfl ?_
  refine dl_pure_g rfl rfl h8 rfl rfl (pure_load rfl ag4 rfl rfl) ?_
  refine dl_pure_g rfl rfl h8 rfl rfl (pure_move rfl rfl) ?_
  refine dl_guard rfl (fun h9=>?_) (fun h9=>?_)
  have h9':=h9;try simp only [dq] at h9'
  refine dl_skip_g rfl rfl h9 rfl rfl ?_
  refine dl_skip_g rfl rfl h9 rfl rfl ?_
  refine dl_skip_g rfl rfl h9 rfl rfl ?_
  refine dl_skip_g rfl rfl h9 rfl rfl ?_
  refine dl_skip_g rfl rfl h9 rfl rfl ?_
  refine dpk 146 [(2,_),(3,_),(4,_),(6,_),(8,_),(9,_),(10,_),(11,_),(109,_),(122,_),(124,_),(130,_),(135,_)] [(6,_),(10,_),(24,_),(25,_),(41,_),(42,_)] rfl rfl rfl ?_
  refine dl_pure_g rfl rfl h8 rfl rfl (pure_pick_t rfl rfl h9 rfl) ?_
  refine dl_pure_g rfl rfl rfl rfl rfl (pure_pick_t rfl rfl h8 rfl) ?_
  refine dl_pure rfl rfl rfl (pure_pick_f rfl rfl rfl rfl) ?_
  refine dl_pure rfl rfl rfl (pure_lit rfl Tryz.underlying29 el4 rfl rfl rfl rfl hM0) ?_
  refine dl_tails (by kernel_rfl) ?_
  refine tl_step rfl (step_append rfl rfl rfl rfl Tryz.underlying29 el4 rfl rfl hM0 (src_pl rfl (one_len (by rfl))) (by rw [List.length_map,fin_len,List.length_take];simp only [List.length_cons,List.length_nil];omega) (by rw [List.length_map,fin_len,List.length_take];simp only [List.length_cons,List.length_nil];omega)) ?_
  refine tl_pure rfl rfl rfl (pure_field_box rfl fd31_2 rfl rfl) ?_
  refine tl_step rfl (step_store_box_own rfl rfl rfl sz29 rfl rfl rfl rfl rfl hM0) ?_
  refine tl_nil ?_
  refine xD tb hM0 4 [2,3,4,6,8,9,10,35] [6,10,24,25,41,42] rfl ?_
  refine oP rfl (pure_addi rfl rfl rfl (by omega)) ?_
  refine xA tb hM0 2 [2,3,4,6,8,9,10,11] [6,10,24,25,41,42] rfl ?_
  refine nx ?_;rotate_left
  have h9':=h9;try simp only [dq] at h9'
  refine dl_pure_g rfl rfl h9 rfl rfl (pure_field rfl fd31_2 rfl) ?_
  refine dl_pure_g rfl rfl h9 rfl rfl (pure_load rfl ag29 rfl rfl) ?_
  refine dl_pure_g rfl rfl h9 rfl rfl (pure_move rfl rfl) ?_
  refine dl_pure_g rfl rfl h9 rfl rfl (pure_ix rfl Tryz.underlying29 sz4 rfl rfl (by exact ⟨Int.natCast_nonneg _,Int.ofNat_lt.2 (show _<b.fin.length by omega)⟩) (fun _=>rfl)) ?_
  refine dl_pure_g rfl rfl h9 rfl rfl (pure_load rfl ag4 rfl rfl) ?_
  refine dpk 146 [(2,_),(3,_),(4,_),(6,_),(8,_),(9,_),(10,_),(11,_),(109,_),(122,_),(124,_),(130,_),(135,_)] [(6,_),(10,_),(24,_),(25,_),(41,_),(42,_)] rfl rfl rfl ?_
  refine dl_pure_g rfl rfl h8 rfl rfl (pure_pick_f rfl rfl h9 rfl) ?_
  refine dl_pure_g rfl rfl rfl rfl rfl (pure_pick_t rfl rfl h8 rfl) ?_
  refine dl_pure rfl rfl rfl (pure_pick_f rfl rfl rfl rfl) ?_
  refine dl_pure rfl rfl rfl (pure_lit rfl Tryz.underlying29 el4 rfl rfl rfl rfl hM0) ?_
  refine dl_tails (by kernel_rfl) ?_
  refine tl_step rfl (step_append rfl rfl rfl rfl Tryz.underlying29 el4 rfl rfl hM0 (src_pl rfl (one_len (by rfl))) (by rw [List.length_map,fin_len,List.length_take];simp only [List.length_cons,List.length_nil];omega) (by rw [List.length_map,fin_len,List.length_take];simp only [List.length_cons,List.length_nil];omega)) ?_
  refine tl_pure rfl rfl rfl (pure_field_box rfl fd31_2 rfl rfl) ?_
  refine tl_step rfl (step_store_box_own rfl rfl rfl sz29 rfl rfl rfl rfl rfl hM0) ?_
  refine tl_nil ?_
  refine xD tb hM0 4 [2,3,4,6,8,9,10,35] [6,10,24,25,41,42] rfl ?_
  refine oP rfl (pure_addi rfl rfl rfl (by omega)) ?_
  refine xA tb hM0 2 [2,3,4,6,8,9,10,11] [6,10,24,25,41,42] rfl ?_
  refine nx ?_;rotate_left
  have h8':=h8;try simp only [dq] at h8'
  refine dl_skip_g rfl rfl h8 rfl rfl ?_
  refine dl_skip_g rfl rfl h8 rfl rfl ?_
  refine dl_skip_g rfl rfl h8 rfl rfl ?_
  refine dl_skip_g rfl rfl h8 rfl rfl ?_
  refine dpk 146 [(2,_),(3,_),(4,_),(6,_),(8,_),(9,_),(10,_),(11,_),(13,_),(109,_),(122,_),(124,_),(128,_)] [(6,_),(10,_),(24,_),(25,_),(41,_),(42,_)] rfl rfl rfl ?_
  refine dl_skip_g rfl rfl h8 rfl rfl ?_
  refine dl_skip_g rfl rfl h8 rfl rfl ?_
  refine dl_skip_u rfl rfl rfl ?_
  refine dl_skip_u rfl rfl rfl ?_
  refine dl_skip_u rfl rfl rfl ?_
  refine dl_skip_u rfl rfl rfl ?_
  refine dl_skip_u rfl rfl rfl ?_
  refine dpk 146 [(2,_),(3,_),(4,_),(6,_),(8,_),(9,_),(10,_),(11,_),(109,_),(122,_),(124,_),(130,_),(135,_)] [(6,_),(10,_),(24,_),(25,_),(41,_),(42,_)] rfl rfl rfl ?_
  refine dl_skip_g rfl rfl h8 rfl rfl ?_
  refine dl_pure_g rfl rfl rfl rfl rfl (pure_pick_f rfl rfl h8 rfl) ?_
  refine dl_pure rfl rfl rfl (pure_pick_f rfl rfl rfl rfl) ?_
  refine dl_pure rfl rfl rfl (pure_lit rfl Tryz.underlying29 el4 rfl rfl rfl rfl hM0) ?_
  refine dl_tails (by kernel_rfl) ?_
  refine tl_step rfl (step_append rfl rfl rfl rfl Tryz.underlying29 el4 rfl rfl hM0 (src_pl rfl (one_len (by rfl))) (by rw [List.length_map,fin_len,List.length_take];simp only [List.length_cons,List.length_nil];omega) (by rw [List.length_map,fin_len,List.length_take];simp only [List.length_cons,List.length_nil];omega)) ?_
  refine tl_pure rfl rfl rfl (pure_field_box rfl fd31_2 rfl rfl) ?_
  refine tl_step rfl (step_store_box_own rfl rfl rfl sz29 rfl rfl rfl rfl rfl hM0) ?_
  refine tl_nil ?_
  refine xD tb hM0 4 [2,3,4,6,8,9,10,35] [6,10,24,25,41,42] rfl ?_
  refine oP rfl (pure_addi rfl rfl rfl (by omega)) ?_
  refine xA tb hM0 2 [2,3,4,6,8,9,10,11] [6,10,24,25,41,42] rfl ?_
  refine nx ?_;rotate_left
  refine xA tb hM0 7 [6,9,10] [6,10,25,41,42] rfl ?_
  refine code_frz 146 [(6,_),(9,_),(10,_)] [(6,_),(25,_)] hM0 rfl ⟨.inl rfl,.inl rfl,.inr ⟨_,_,rfl,rfl,rfl⟩,trivial⟩ ⟨rfl,rfl,trivial⟩ ?_
  have e1:l.take i=l:=List.take_of_length_le (by omega)
  have e2:=hL1_0.fin (by omega)
  rw [e1]
  refine xK tb hM0 3 [6,142,143] [6,25] rfl ?_
  refine oP rfl (pure_lenm rfl Tryz.underlying22 rfl) ?_
  refine oP rfl (pure_to (b':=true) (pure_leq rfl rfl rfl) (decide_eq_true (by omega))) ?_
  refine xA tb hM0 5 [] [] rfl ?_
  refine endC2_ret rfl rfl ?_
  refine ⟨?_,rfl⟩
  rw [prod_cells ha hb hk e2];rfl
  all_goals
    refine ⟨_,⟨(grow (cnext a b) (l.getD i default) l a.k),i+1,rfl,hL1_0.step (cnext_lt ha hb hk) (by rw [List.length_range];exact Nat.le_refl _) hi rfl,?_⟩,by omega⟩
    rw [rows_step hL1_0.met hi rfl,fin_step hi rfl,List.map_append,List.map_append]
    first
      | (rw [cfin_1 (by assumption) (by assumption)];rfl)
      | (rw [cfin_2 (by assumption) (by assumption)];rfl)
      | (rw [cfin_3 (by assumption) (by assumption) (by assumption)];rfl)
      | (rw [cfin_4 (by assumption) (by assumption)];rfl)
      | (rw [cfin_5 (by assumption) (by assumption)];rfl)
end Go.Proofs.YtjimlkpfmbachaaGreat

