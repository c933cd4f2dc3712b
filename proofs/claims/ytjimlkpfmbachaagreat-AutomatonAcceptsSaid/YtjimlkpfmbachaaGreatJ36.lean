/-
  Contracts: complements;least words.
-/
import Derived.Test.YtjimlkpfmbachaaGreatJ35
import Derived.Test.YtjimlkpfmbachaaGreatJ24
import Derived.Test.YtjimlkpfmbachaaGreatJ27
import Derived.Test.YtjimlkpfmbachaaGreatJ30
import Derived.Test.YtjimlkpfmbachaaGreatJ15
set_option linter.unusedVariables false
set_option linter.unusedSectionVars false
set_option linter.unusedSimpArgs false
namespace Go.Proofs.YtjimlkpfmbachaaGreat
open Go.Am Go.Wc Go.Wb Go.Wd
theorem fn44:FnC2 Tryz.prog 44 Tryz.f44.ntmps 8 31 3 9 (Tryz.f44.body.getD .skip):=⟨Tryz.f44,Tryz.func44,rfl,rfl,rfl,by kernel_rfl,ag31,sz31⟩
set_option maxRecDepth 100000 in
set_option maxHeartbeats 8000000 in
theorem exploreO_call {next:Rx→Nat→Rx} {final:Rx→Bool} {size N:Nat} {start:Rx} {U:List Rx} (hsz:1≤size∧size≤64) (hU:∀ x∈U,∀ s,s<size→next x s∈U) (h0:start∈U) (hN:U.length≤N) (hB:U.length≤2048) (hI:∀ a∈U,∀ b∈U,kvR a=kvR b→a=b)
    (hg:∀ (μ:List Rx) (x:Rx) (s:Nat),x∈μ→(∀ y∈μ,y∈U)→s<size→CallO Tryz.prog 45 [.v .pl (encR x),.v .pl (natI s),.pbox 1000003 0,.pbox 1000001 0] (OO μ) (.v .pl (encR (next x s))) (OO (addK μ (next x s))))
    (hh:∀ (μ:List Rx) (x:Rx),x∈μ→(∀ y∈μ,y∈U)→CallO Tryz.prog 47 [.v .pl (encR x),.pbox 1000001 0] (OM μ) (.v .pl (bool (final x))) (OM μ)) :
    CallO Tryz.prog 44 [.v .pl (encR start),.v .mx (natI size),.fn 45 [.bx 1000003,.bx 1000001],.fn 47 [.bx 1000001]] (OO [start]) (.v .pl (.tup [dfa (mkD next size final (reach next size N start)),bool true])) (OO (reach next size N start)):=by
  refine callO_of_codeC2 fn44 (Nat.le_of_ble_eq_true rfl) fun w0 M0 hM0=>?_
  refine xC tb hM0 16 [0,1,2,3,8,10] [8,10,1000001,1000002,1000003] rfl ?_
  refine oS rfl (step_map rfl rfl rfl rfl rfl Tryz.underlying97 (fun q hq=>by cases hq<;>exact ⟨_,_,rfl⟩) hM0) rfl ?_
  refine xA tb hM0 1 [0,1,2,3,8,10,21,22] [8,10,21,1000001,1000002,1000003] rfl ?_
  refine oS rfl (step_insert rfl (step_put rfl rfl rfl Tryz.underlying97 Tryz.underlying9 rfl rfl rfl rfl trivial (fun q hq=>by cases hq) hM0)) rfl ?_
  refine xA tb hM0 7 [1,2,3,8,10,11,24] [8,10,21,1000001,1000002,1000003] rfl ?_
  refine oS rfl (step_lit rfl rfl rfl rfl Tryz.underlying98 el9 rfl rfl rfl rfl hM0) rfl ?_
  refine xA tb hM0 5 [1,2,3,8,10,11,12] [8,10,21,25,1000001,1000002,1000003] rfl ?_
  refine code_nilown 10 1 41 22 31 hM0 rfl rfl rfl rfl ?_
  refine code_nilown 10 2 42 4 31 hM0 rfl rfl rfl rfl ?_
  refine xK tb hM0 5 [1,2,3,8,10,11,12,13] [8,10,21,25,41,42,1000001,1000002,1000003] rfl ?_
  refine lp (fun zm zs=>∃ (l:List Rx) (i:Nat),zm=N+1-i∧(Ex next size U start N l i)∧zs=⟨89,[(1,.v .mx (natI size)),(2,.fn 45 [.bx 1000003,.bx 1000001]),(3,.fn 47 [.bx 1000001]),(8,.pbox 8 0),(10,.pbox 10 0),(11,.omap 21),(12,.own 25),(13,.v .pl (int i))],[(8,.box 31 [.v .pl (.sc (.int .i64 0)),.v .pl (.sc (.slice none 0 0)),.v .pl (.sc (.slice none 0 0))]),(10,.box 31 [.v .pl (natI size),.own 41,.own 42]),(21,.mp (l.map kvR) (vsC l.length)),(25,.arr 9 (l.map encR)),(41,.arr 22 ((rowsX next size l (l.take i)).map ints)),(42,.arr 4 ((finX final (l.take i)).map bool)),(1000001,.box 58 [.omap 1000002]),(1000002,.mp (l.map kvR) (l.map rx)),(1000003,.box 62 [.fn 41 [.bx 1000001]])]⟩) ?_ ?_
  refine ⟨_,[start],0,rfl,ex_start h0,?_⟩
  rfl
  rintro zm zs ⟨l,i,rfl,hL1_0,rfl⟩
  have hle:=hL1_0.le
  refine xA tb hM0 5 [1,2,3,8,10,11,12,13,26,27] [8,10,21,25,41,42,1000001,1000002,1000003] rfl ?_
  refine oP rfl (pure_lenm rfl Tryz.underlying98 rfl) ?_
  refine xA tb hM0 3 [1,2,3,8,10,11,12,13,29] [8,10,21,25,41,42,1000001,1000002,1000003] rfl ?_
  refine spC 29 rfl ?_ ?_<;>intro h1<;>try simp only [dq] at h1
  refine xA tb hM0 8 [1,2,3,8,10,11,12,13,32] [8,10,21,25,41,42,1000001,1000002,1000003] rfl ?_
  refine oS rfl (step_make rfl rfl rfl rfl Tryz.underlying22 el3 ze3 rfl rfl rfl (by omega) (by omega) (by omega) hM0) rfl ?_
  refine xA tb hM0 7 [1,2,3,8,10,11,12,13,14,34] [8,10,21,25,33,41,42,1000001,1000002,1000003] rfl ?_
  refine oP rfl (pure_toi (a':=(size:Int)) (pure_len rfl Tryz.underlying22 rfl) (by simp)) ?_
  refine xA tb hM0 4 [1,2,3,8,10,11,12,13,14,35,36] [8,10,21,25,33,41,42,1000001,1000002,1000003] rfl ?_
  have hi:i<l.length:=by omega
  have hxU:=hL1_0.met.sub _ (el_mem hi)
  refine lp (fun zm zs=>∃ s:Nat,zm=size-s∧(s≤size)∧zs=⟨89,[(1,.v .mx (natI size)),(2,.fn 45 [.bx 1000003,.bx 1000001]),(3,.fn 47 [.bx 1000001]),(8,.pbox 8 0),(10,.pbox 10 0),(11,.omap 21),(12,.own 25),(13,.v .pl (int i)),(14,.own 33),(35,.v .pl (natI size)),(36,.v .pl (int s))],[(8,.box 31 [.v .pl (.sc (.int .i64 0)),.v .pl (.sc (.slice none 0 0)),.v .pl (.sc (.slice none 0 0))]),(10,.box 31 [.v .pl (natI size),.own 41,.own 42]),(21,.mp ((grow next (l.getD i default) l s).map kvR) (vsC (grow next (l.getD i default) l s).length)),(25,.arr 9 ((grow next (l.getD i default) l s).map encR)),(33,.arr 3 ((rB next size (l.getD i default) l s).map int)),(41,.arr 22 ((rowsX next size l (l.take i)).map ints)),(42,.arr 4 ((finX final (l.take i)).map bool)),(1000001,.box 58 [.omap 1000002]),(1000002,.mp ((grow next (l.getD i default) l s).map kvR) ((grow next (l.getD i default) l s).map rx)),(1000003,.box 62 [.fn 41 [.bx 1000001]])]⟩) ?_ ?_
  refine ⟨_,0,rfl,Nat.zero_le _,?_⟩
  rw [rB_zero,← rep_mapI];rfl
  rintro zm zs ⟨s,rfl,hL2_0,rfl⟩
  have hgl:=grow_le hL1_0.met hU hxU hL2_0
  have hin:s<size→∀ b∈(grow next (l.getD i default) l s),kvR b=kvR (next (l.getD i default) s)→b=next (l.getD i default) s:=fun h b hb e=>hI b (grow_sub hL1_0.met hU hxU hL2_0 b hb) _ (hU _ hxU s h) e
  have hgx:(grow next (l.getD i default) l s).getD i default=(l.getD i default):=grow_at s hi
  have hgl3:=grow_len (next:=next) (x:=(l.getD i default)) (l:=l) s
  refine xA tb hM0 6 [1,2,3,8,10,11,12,13,14,35,36,37] [8,10,21,25,33,41,42,1000001,1000002,1000003] rfl ?_
  refine spC 37 rfl ?_ ?_<;>intro h2<;>try simp only [dq] at h2
  refine xA tb hM0 11 [1,2,3,8,10,11,12,13,14,15,35,36] [8,10,21,25,33,41,42,1000001,1000002,1000003] rfl ?_
  refine ct (fun zs=>zs=⟨89,[(1,.v .mx (natI size)),(2,.fn 45 [.bx 1000003,.bx 1000001]),(3,.fn 47 [.bx 1000001]),(8,.pbox 8 0),(10,.pbox 10 0),(11,.omap 21),(12,.own 25),(13,.v .pl (int i)),(14,.own 33),(15,.v .pl (int s)),(16,.v .pl (encR (next (l.getD i default) s))),(35,.v .pl (natI size)),(36,.v .pl (int s))],[(8,.box 31 [.v .pl (.sc (.int .i64 0)),.v .pl (.sc (.slice none 0 0)),.v .pl (.sc (.slice none 0 0))]),(10,.box 31 [.v .pl (natI size),.own 41,.own 42]),(21,.mp ((grow next (l.getD i default) l s).map kvR) (vsC (grow next (l.getD i default) l s).length)),(25,.arr 9 ((grow next (l.getD i default) l s).map encR)),(33,.arr 3 ((rB next size (l.getD i default) l s).map int)),(41,.arr 22 ((rowsX next size l (l.take i)).map ints)),(42,.arr 4 ((finX final (l.take i)).map bool)),(1000001,.box 58 [.omap 1000002]),(1000002,.mp ((grow next (l.getD i default) l (s+1)).map kvR) ((grow next (l.getD i default) l (s+1)).map rx)),(1000003,.box 62 [.fn 41 [.bx 1000001]])]⟩) ?_ ?_
  refine xA tb hM0 4 [1,2,3,8,10,11,12,13,14,15,35,36,39,40,41] [8,10,21,25,33,41,42,1000001,1000002,1000003] rfl ?_
  refine oP rfl (pure_index_own rfl Tryz.underlying98 sz9 rfl rfl rfl (by rw [List.length_map];have:=grow_len (next:=next) (x:=l.getD i default) (l:=l) s;omega)) ?_
  refine oP rfl (pure_load_pel rfl ag9 rfl rfl (mget (by have:=grow_len (next:=next) (x:=l.getD i default) (l:=l) s;omega)) rfl) ?_
  refine xA tb hM0 1 [1,2,3,8,10,11,12,13,14,15,35,36,39,43,44] [8,10,21,25,33,41,42,1000001,1000002,1000003] rfl ?_
  refine oS rfl (step_callO [(1000001,1000001),(1000002,1000002),(1000003,1000003)] rfl rfl rfl rfl rfl rfl rfl (hg (grow next (l.getD i default) l s) ((grow next (l.getD i default) l s).getD i default) s (el_mem (by omega)) (grow_sub hL1_0.met hU hxU hL2_0) (by omega)) ⟨.inl rfl,.inl rfl,.inl rfl,.inl rfl,trivial⟩ ⟨rfl,rfl,rfl,trivial⟩ rfl rfl rfl rfl rfl hM0) rfl ?_
  refine xA tb hM0 2 [1,2,3,8,10,11,12,13,14,15,16,35,36] [8,10,21,25,33,41,42,1000001,1000002,1000003] rfl ?_
  refine cx ?_
  exact (by rw [hgx];first|done|rfl)
  rintro zs ⟨rfl⟩
  refine xA tb hM0 4 [1,2,3,8,10,11,12,13,14,15,16,35,36,47,48] [8,10,21,25,33,41,42,1000001,1000002,1000003] rfl ?_
  refine oP rfl (pure_tupl (pure_mlook2 rfl Tryz.underlying97 Tryz.underlying9 zv3 rfl rfl rfl trivial (fun q hq=>by obtain ⟨_,_,rfl⟩:=List.mem_map.1 hq;trivial) (look_s (kv:=kvR) (hin (by omega))) (has_s (kv:=kvR) (hin (by omega))))) ?_
  refine xA tb hM0 7 [1,2,3,8,10,11,12,13,14,15,16,17,18,35,36] [8,10,21,25,33,41,42,1000001,1000002,1000003] rfl ?_
  refine ct (fun zs=>zs=⟨89,[(1,.v .mx (natI size)),(2,.fn 45 [.bx 1000003,.bx 1000001]),(3,.fn 47 [.bx 1000001]),(8,.pbox 8 0),(10,.pbox 10 0),(11,.omap 21),(12,.own 25),(13,.v .pl (int i)),(14,.own 33),(15,.v .pl (int s)),(17,.v .pl (natI (idx (grow next (l.getD i default) l (s+1)) (next (l.getD i default) s)))),(35,.v .pl (natI size)),(36,.v .pl (int s))],[(8,.box 31 [.v .pl (.sc (.int .i64 0)),.v .pl (.sc (.slice none 0 0)),.v .pl (.sc (.slice none 0 0))]),(10,.box 31 [.v .pl (natI size),.own 41,.own 42]),(21,.mp ((grow next (l.getD i default) l (s+1)).map kvR) (vsC (grow next (l.getD i default) l (s+1)).length)),(25,.arr 9 ((grow next (l.getD i default) l (s+1)).map encR)),(33,.arr 3 ((rB next size (l.getD i default) l s).map int)),(41,.arr 22 ((rowsX next size l (l.take i)).map ints)),(42,.arr 4 ((finX final (l.take i)).map bool)),(1000001,.box 58 [.omap 1000002]),(1000002,.mp ((grow next (l.getD i default) l (s+1)).map kvR) ((grow next (l.getD i default) l (s+1)).map rx)),(1000003,.box 62 [.fn 41 [.bx 1000001]])]⟩) ?_ ?_
  refine xA tb hM0 6 [1,2,3,8,10,11,12,13,14,15,16,17,35,36,53] [8,10,21,25,33,41,42,1000001,1000002,1000003] rfl ?_
  refine spC 53 rfl ?_ ?_<;>intro h3<;>try simp only [dq] at h3
  refine xA tb hM0 4 [1,2,3,8,10,11,12,13,14,15,16,35,36,54] [8,10,21,25,33,41,42,1000001,1000002,1000003] rfl ?_
  refine oP rfl (pure_lenm rfl Tryz.underlying98 rfl) ?_
  refine xA tb hM0 10 [1,2,3,8,10,11,12,13,14,15,16,17,35,36,57] [8,10,21,25,33,41,42,1000001,1000002,1000003] rfl ?_
  refine spC 57 rfl ?_ ?_<;>intro h4<;>try simp only [dq] at h4
  have hlt:=grow_lt (s:=s) hL1_0.met hU hxU (by omega) (by assumption)
  omega
  --done
  refine xA tb hM0 8 [1,2,3,8,10,11,12,13,14,15,16,17,35,36,59,60,61] [8,10,21,25,33,41,42,1000001,1000002,1000003] rfl ?_
  refine oS rfl (step_put rfl rfl rfl Tryz.underlying97 Tryz.underlying9 rfl rfl rfl rfl trivial (fun q hq=>by obtain ⟨_,_,rfl⟩:=List.mem_map.1 hq;trivial) hM0) rfl ?_
  refine xA tb hM0 5 [1,2,3,8,10,11,13,14,15,17,35,36,62,63] [8,10,21,25,33,41,42,1000001,1000002,1000003] rfl ?_
  refine oP rfl (pure_lit rfl Tryz.underlying98 el9 rfl rfl rfl rfl hM0) ?_
  refine oS rfl (step_append rfl rfl rfl rfl Tryz.underlying98 el9 rfl rfl hM0 (src_pl rfl (one_len (by rfl))) (by rw [List.length_map];simp only [List.length_cons,List.length_nil];omega) (by rw [List.length_map];simp only [List.length_cons,List.length_nil];omega)) rfl ?_
  refine xA tb hM0 2 [1,2,3,8,10,11,12,13,14,15,17,35,36] [8,10,21,25,33,41,42,1000001,1000002,1000003] rfl ?_
  refine cx ?_
  have q:=(by assumption:next (l.getD i default) s ∉ (grow next (l.getD i default) l s))
  rw [show (kvR (next (l.getD i default) s))=kvR (next (l.getD i default) s) from rfl,grow_new q,idx_new q,put_ks (kv:=kvR) (hin (by omega)) q,put_vs (kv:=kvR) (hin (by omega)) q,List.map_append (f:=encR)]
  rfl
  refine xA tb hM0 2 [1,2,3,8,10,11,12,13,14,15,17,35,36] [8,10,21,25,33,41,42,1000001,1000002,1000003] rfl ?_
  refine cx ?_
  rw [grow_old (by assumption),if_pos (by assumption)]
  rintro zs ⟨rfl⟩
  refine xA tb hM0 4 [1,2,3,8,10,11,12,13,14,35,36,66,67,68] [8,10,21,25,33,41,42,1000001,1000002,1000003] rfl ?_
  refine oP rfl (pure_index_own rfl Tryz.underlying22 sz3 rfl rfl rfl (by rw [List.length_map,rB_len (size:=size) (s:=s) (by omega)];omega)) ?_
  refine oS rfl (step_store_pel rfl rfl rfl sz3 rfl rfl (mget (by rw [rB_len (size:=size) (s:=s) (by omega)];omega)) rfl rfl (.inl rfl) rfl (Nat.le_of_ble_eq_true rfl) hM0) rfl ?_
  refine xA tb hM0 4 [1,2,3,8,10,11,12,13,14,35,36] [8,10,21,25,33,41,42,1000001,1000002,1000003] rfl ?_
  refine oP rfl (pure_addi rfl rfl rfl (by omega)) ?_
  refine xA tb hM0 2 [1,2,3,8,10,11,12,13,14,35,36] [8,10,21,25,33,41,42,1000001,1000002,1000003] rfl ?_
  refine nx ?_
  refine ⟨_,⟨s+1,rfl,by omega,?_⟩,by omega⟩
  rw [← rB_set (by omega)];rfl
  refine xA tb hM0 7 [1,2,3,8,10,11,12,13,14] [8,10,21,25,33,41,42,1000001,1000002,1000003] rfl ?_
  refine code_frz 89 [(1,_),(2,_),(3,_),(8,_),(10,_),(11,_),(12,_),(13,_),(14,_)] [(8,_),(10,_),(21,_),(25,_),(41,_),(42,_),(1000001,_),(1000002,_),(1000003,_)] hM0 rfl ⟨.inl rfl,.inl rfl,.inl rfl,.inl rfl,.inl rfl,.inl rfl,.inl rfl,.inl rfl,.inr ⟨_,_,rfl,rfl,rfl⟩,trivial⟩ ⟨rfl,rfl,rfl,rfl,rfl,rfl,rfl,rfl,rfl,trivial⟩ ?_
  obtain rfl:size=s:=by omega
  refine xK tb hM0 4 [1,2,3,8,10,11,12,13,72,73] [8,10,21,25,41,42,1000001,1000002,1000003] rfl ?_
  refine oP rfl (pure_lit rfl Tryz.underlying28 el22 rfl rfl rfl rfl hM0) ?_
  refine oS rfl (step_append rfl rfl rfl rfl Tryz.underlying28 el22 rfl rfl hM0 (src_pl rfl (one_len (by rfl))) (by rw [List.length_map,rows_len,List.length_take];simp only [List.length_cons,List.length_nil];omega) (by rw [List.length_map,rows_len,List.length_take];simp only [List.length_cons,List.length_nil];omega)) rfl ?_
  refine xA tb hM0 4 [1,2,3,8,10,11,12,13] [8,10,21,25,41,42,1000001,1000002,1000003] rfl ?_
  have hgl3:=grow_len (next:=next) (x:=(l.getD i default)) (l:=l) size
  refine code_draw1e (n:=89) 7 9 [(77,.pbox 10 2),(78,.own 42),(79,.fn 47 [.bx 1000001]),(80,.own 25),(81,.v .pl (int i)),(82,.pel 25 (i:Int).toNat 0),(83,.v .pl (encR ((grow next (l.getD i default) l size).getD i default))),(84,.v .pl (bool (final ((grow next (l.getD i default) l size).getD i default)))),(85,.v .pl (.sl [bool (final ((grow next (l.getD i default) l size).getD i default))])),(1,.v .mx (natI size)),(2,.fn 45 [.bx 1000003,.bx 1000001]),(3,.fn 47 [.bx 1000001]),(8,.pbox 8 0),(10,.pbox 10 0),(11,.omap 21),(12,.own 25),(13,.v .pl (int i))] mixed (by kernel_rfl) (by kernel_rfl) (by kernel_rfl) rfl (fun t z h=>h) rfl ?_ ?_ ?_ ?_
  · intro zi zt hzi hzd
    rcases (by omega:zi=0∨zi=1∨zi=2∨zi=3∨zi=4∨zi=5∨zi=6∨zi=7∨zi=8) with rfl|rfl|rfl|rfl|rfl|rfl|rfl|rfl|rfl<;>(injection (show some _=some zt from hzd) with hzd;subst hzd;exact ⟨_,rfl⟩)
  · intro zi zo zt zd hzi hza hzo hzd hzG
    rcases (by omega:zi=0∨zi=1∨zi=2∨zi=3∨zi=4∨zi=5∨zi=6∨zi=8) with rfl|rfl|rfl|rfl|rfl|rfl|rfl|rfl
    · injection (show some _ = some zo from hzo) with hzo; subst hzo; injection (show some _ = some zt from hzd) with hzd; subst hzd; injection (show some _ = some zd from hzG) with hzG; subst hzG
      exact pure_field_box rfl fd31_2 rfl rfl
    · injection (show some _ = some zo from hzo) with hzo; subst hzo; injection (show some _ = some zt from hzd) with hzd; subst hzd; injection (show some _ = some zd from hzG) with hzG; subst hzG
      exact pure_load_box rfl ag29 rfl rfl rfl
    · injection (show some _ = some zo from hzo) with hzo; subst hzo; injection (show some _ = some zt from hzd) with hzd; subst hzd; injection (show some _ = some zd from hzG) with hzG; subst hzG
      exact pure_move rfl rfl
    · injection (show some _ = some zo from hzo) with hzo; subst hzo; injection (show some _ = some zt from hzd) with hzd; subst hzd; injection (show some _ = some zd from hzG) with hzG; subst hzG
      exact pure_move rfl rfl
    · injection (show some _ = some zo from hzo) with hzo; subst hzo; injection (show some _ = some zt from hzd) with hzd; subst hzd; injection (show some _ = some zd from hzG) with hzG; subst hzG
      exact pure_move rfl rfl
    · injection (show some _ = some zo from hzo) with hzo; subst hzo; injection (show some _ = some zt from hzd) with hzd; subst hzd; injection (show some _ = some zd from hzG) with hzG; subst hzG
      exact pure_index_own rfl Tryz.underlying98 sz9 rfl rfl rfl (by rw [List.length_map];omega)
    · injection (show some _ = some zo from hzo) with hzo; subst hzo; injection (show some _ = some zt from hzd) with hzd; subst hzd; injection (show some _ = some zd from hzG) with hzG; subst hzG
      exact pure_load_pel rfl ag9 rfl rfl (mget (by omega)) rfl
    · injection (show some _ = some zo from hzo) with hzo; subst hzo; injection (show some _ = some zt from hzd) with hzd; subst hzd; injection (show some _ = some zd from hzG) with hzG; subst hzG
      exact pure_lit rfl Tryz.underlying29 el4 rfl rfl rfl rfl hM0
  · intro zo X' hzo hXn hXG hXr
    have hXu:79∈looks _ zo→X'.lookup 79=some (.fn 47 [.bx 1000001]):=fun h=>(hXr 79 h).trans rfl
    have hXv:83∈looks _ zo→X'.lookup 83=some (.v .pl (encR ((grow next (l.getD i default) l size).getD i default))):=fun h=>(hXr 83 h).trans rfl
    injection (show some _=some zo from hzo) with hzo'
    exact step_callOD (t:=84) (u:=79) (v:=83) (f:=47) (cp:=[.bx 1000001]) (cs:=[.pbox 1000001 0]) (ats:=#[9]) (by rw [← hzo'];rfl) (by rw [← hzo'];rfl) rfl hXn (hXu (by rw [← hzo'];decide)) (hXv (by rw [← hzo'];decide)) rfl (hh (grow next (l.getD i default) l size) ((grow next (l.getD i default) l size).getD i default) (el_mem (by omega)) (grow_sub hL1_0.met hU hxU (Nat.le_refl _))) (fun c hc=>by rw [List.mem_singleton.1 hc];rfl) ⟨rfl,rfl,trivial⟩ rfl rfl rfl rfl (fun t' z h hne=>all_safe (u:=84) (by rfl) (hXG t' z h) hne) rfl hM0
  refine endL_of (n:=3) (by kernel_rfl) ?_
  refine ex_one (i:=9) (by kernel_rfl) rfl rfl (step_append rfl rfl rfl rfl Tryz.underlying29 el4 rfl rfl hM0 (src_pl rfl (one_len (by rfl))) (by rw [List.length_map,fin_len,List.length_take];simp only [List.length_cons,List.length_nil];omega) (by rw [List.length_map,fin_len,List.length_take];simp only [List.length_cons,List.length_nil];omega)) ?_
  refine ex_one (i:=10) (by kernel_rfl) rfl rfl (st_pure rfl rfl (pure_field_box rfl fd31_2 rfl rfl)) ?_
  refine ex_one (i:=11) (by kernel_rfl) rfl rfl (step_store_box_own rfl rfl rfl sz29 rfl rfl rfl rfl rfl hM0) ?_
  refine ex_end (by kernel_rfl) ?_
  refine xD tb hM0 4 [1,2,3,8,10,11,12,30] [8,10,21,25,41,42,1000001,1000002,1000003] rfl ?_
  refine oP rfl (pure_addi rfl rfl rfl (by omega)) ?_
  refine xA tb hM0 2 [1,2,3,8,10,11,12,13] [8,10,21,25,41,42,1000001,1000002,1000003] rfl ?_
  refine nx ?_
  have e9:final ((grow next (l.getD i default) l size).getD i default)=final (l.getD i default):=by rw [grow_at (next:=next) size hi]
  refine ⟨_,⟨grow next (l.getD i default) l size,i+1,rfl,hL1_0.step hU hN hi rfl,?_⟩,by omega⟩
  rw [rows_step hL1_0.met hi rfl,fin_step hi rfl,List.map_append,List.map_append,← e9];rfl
  refine xA tb hM0 7 [8,10] [8,10,41,42,1000001,1000002,1000003] rfl ?_
  refine code_frz 89 [(8,_),(10,_)] [(8,_),(1000001,_),(1000002,_),(1000003,_)] hM0 rfl ⟨.inl rfl,.inr ⟨_,_,rfl,rfl,rfl⟩,trivial⟩ ⟨rfl,rfl,rfl,rfl,trivial⟩ ?_
  have e1:l.take i=l:=List.take_of_length_le (by omega)
  have e2:=hL1_0.fin (by omega)
  rw [e1]
  refine xK tb hM0 7 [] [] rfl ?_
  refine endOC2_ret (o1:=[(1000001,_),(1000002,_),(1000003,_)]) rfl rfl ⟨rfl,rfl,rfl,trivial⟩ ?_
  rw [e2]
  exact ⟨⟨rfl,rfl⟩,rfl⟩
end Go.Proofs.YtjimlkpfmbachaaGreat

namespace Go.Proofs.YtjimlkpfmbachaaGreat
open Go.Am Go.Wc Go.Wb Go.Wd
theorem fn74:Fn1 Tryz.prog 74 Tryz.f74.ntmps 2 (Tryz.f74.body.getD .skip):=⟨Tryz.f74,Tryz.func74,rfl,rfl,rfl,by kernel_rfl⟩
set_option maxRecDepth 100000 in
theorem cloneB_call {l:List Bool} (hl:l.length≤1099511627776) (h0:0<l.length):CallF Tryz.prog 74 [boolsA l] (.fresh 4 (l.map bool)):=by
  refine callF_of_code fn74 (Nat.le_of_ble_eq_true rfl) fun w0 M0 hM0=>?_
  refine xC tb hM0 2 [0] [] rfl ?_
  refine oS rfl (step_nil rfl rfl rfl rfl rfl 4 hM0) rfl ?_
  refine xA tb hM0 6 [0,3] [] rfl ?_
  refine oP rfl (pure_eqsl_ne rfl Tryz.underlying29 rfl rfl (by simp only [List.length_map];exact h0)) ?_
  refine xA tb hM0 7 [0] [] rfl ?_
  refine oS rfl (step_lit0 rfl rfl rfl rfl rfl Tryz.underlying29 el4 hM0) rfl ?_
  refine xA tb hM0 1 [5,6] [5] rfl ?_
  refine oS rfl (step_append rfl rfl rfl rfl Tryz.underlying29 el4 rfl rfl hM0 (src_scm rfl (fun _=>⟨_,rfl⟩)) (by simp only [List.length_map,List.length_nil];omega) (by simp only [List.length_map,List.length_nil];omega)) rfl ?_
  refine xA tb hM0 4 [] [] rfl ?_
  refine end_ret rfl ?_
  rfl
theorem fn29:FnC Tryz.prog 29 Tryz.f29.ntmps 2 31 3 (Tryz.f29.body.getD .skip):=⟨Tryz.f29,Tryz.func29,rfl,rfl,rfl,by kernel_rfl,ag31,sz31⟩
set_option maxRecDepth 100000 in
set_option maxHeartbeats 4000000 in
theorem not_call {d:Dfa}:CallF Tryz.prog 29 [dfa d] (.p (dfa (notZ d))):=by
  refine callF_of_codeC fn29 (Nat.le_of_ble_eq_true rfl) fun w0 M0 hM0=>?_
  refine xC tb hM0 2 [0] [] rfl ?_
  refine oS rfl (step_box rfl rfl rfl rfl rfl rfl rfl (by decide) hM0) rfl ?_
  refine xA tb hM0 7 [1,2,4] [1,2] rfl ?_
  refine oP rfl (pure_call rfl rfl rfl (validD_call) hM0) ?_
  refine xA tb hM0 3 [1,2,6] [1,2] rfl ?_
  refine spC 6 rfl ?_ ?_<;>intro h1<;>try simp only [dq] at h1
  refine xA tb hM0 3 [2] [2] rfl ?_
  refine oP rfl (pure_norm (pure_build rfl pl31 ze31 rfl rfl rfl) rfl) ?_
  refine xA tb hM0 5 [] [] rfl ?_
  refine endC_ret rfl ?_;rotate_left
  have hd:=valid_ok (d:=d) (by assumption)
  have hn:d.n=d.next.length:=rfl
  have hb:=hd.1
  have hkk:=kk hd
  refine xA tb hM0 7 [1,2,9] [1,2] rfl ?_
  refine oS rfl (step_call_own rfl rfl rfl rfl rfl rfl (cloneB_call (by omega) (by omega)) hM0) rfl ?_
  refine xA tb hM0 9 [1,2,13] [1,2,10] rfl ?_
  refine oP rfl (pure_lenm rfl Tryz.underlying29 rfl) ?_
  refine xA tb hM0 4 [1,2,14,15] [1,2,10] rfl ?_
  refine lp (fun zm zs=>∃ i:Nat,zm=d.fin.length-i∧(i≤d.fin.length)∧zs=⟨31,[(1,.pbox 1 0),(2,.pbox 2 0),(14,.v .pl (int d.fin.length)),(15,.v .pl (int i))],[(1,.box 31 [.v .mx (int d.size),.v .mx (rowsA d.next),.own 10]),(2,.box 31 [.v .pl (.sc (.int .i64 0)),.v .pl (.sc (.slice none 0 0)),.v .pl (.sc (.slice none 0 0))]),(10,.arr 4 ((ng d.fin i).map bool))]⟩) ?_ ?_
  refine ⟨_,0,rfl,Nat.zero_le _,?_⟩
  rw [ng_zero];rfl
  rintro zm zs ⟨i,rfl,hL1_0,rfl⟩
  refine xA tb hM0 6 [1,2,14,15,16] [1,2,10] rfl ?_
  refine spC 16 rfl ?_ ?_<;>intro h2<;>try simp only [dq] at h2
  refine xA tb hM0 11 [1,2,3,14,15] [1,2,10] rfl ?_
  refine code_draw mixed (by kernel_rfl) _ rfl ?_
  refine dl_pure rfl rfl rfl (pure_field_box rfl fd31_2 rfl rfl) ?_
  refine dl_pure rfl rfl rfl (pure_load_box rfl ag29 rfl rfl rfl) ?_
  refine dl_pure rfl rfl rfl (pure_move rfl rfl) ?_
  refine dl_pure rfl rfl rfl (pure_field_box rfl fd31_2 rfl rfl) ?_
  refine dl_pure rfl rfl rfl (pure_load_box rfl ag29 rfl rfl rfl) ?_
  refine dl_pure rfl rfl rfl (pure_move rfl rfl) ?_
  refine dl_pure rfl rfl rfl (pure_index_own rfl Tryz.underlying29 sz4 rfl rfl rfl (by rw [List.length_map,ng_len];omega)) ?_
  refine dpk 31 [(1,_),(2,_),(14,_),(15,_),(19,_),(20,_),(24,_)] [(1,_),(2,_),(10,_)] rfl rfl rfl ?_
  refine dl_pure rfl rfl rfl (pure_load_pel rfl ag4 rfl rfl (mget (by rw [ng_len];omega)) rfl) ?_
  refine dl_pure rfl rfl rfl (pure_not rfl rfl) ?_
  refine dl_pure rfl rfl rfl (pure_index_own rfl Tryz.underlying29 sz4 rfl rfl rfl (by rw [List.length_map,ng_len];omega)) ?_
  refine dl_tails (by kernel_rfl) ?_
  refine tl_step rfl (step_store_pel rfl rfl rfl sz4 rfl rfl (mget (by rw [ng_len];omega)) rfl rfl (.inl rfl) rfl (Nat.le_of_ble_eq_true rfl) hM0) ?_
  refine tl_nil ?_
  refine xD tb hM0 3 [1,2,14,15] [1,2,10] rfl ?_
  refine oP rfl (pure_addi rfl rfl rfl (by omega)) ?_
  refine xA tb hM0 2 [1,2,14,15] [1,2,10] rfl ?_
  refine nx ?_
  refine ⟨_,⟨i+1,rfl,by omega,?_⟩,by omega⟩
  rw [← ng_set (by omega)];rfl
  refine xA tb hM0 7 [1,2] [1,2,10] rfl ?_
  obtain rfl:i=d.fin.length:=by omega
  rw [ng_all]
  refine xA tb hM0 2 [2,29] [2] rfl ?_
  refine oP rfl (pure_call rfl rfl rfl (min_call (d:=flipD d)) hM0) ?_
  refine xA tb hM0 4 [] [] rfl ?_
  refine endC_ret rfl ?_;rotate_left
  all_goals
    first
      | (rw [notZ_f (d:=d) (by assumption)];first|done|rfl)
      | (rw [notZ_t (d:=d) (by assumption)];first|done|rfl)
theorem fn38:FnC Tryz.prog 38 Tryz.f38.ntmps 2 31 3 (Tryz.f38.body.getD .skip):=⟨Tryz.f38,Tryz.func38,rfl,rfl,rfl,by kernel_rfl,ag31,sz31⟩
set_option maxRecDepth 100000 in
set_option maxHeartbeats 4000000 in
theorem rnot_call {d:Dfa}:CallF Tryz.prog 38 [dfa d] (.p (dfa (notZ d))):=by
  refine callF_of_codeC fn38 (Nat.le_of_ble_eq_true rfl) fun w0 M0 hM0=>?_
  refine xC tb hM0 2 [0] [] rfl ?_
  refine oP rfl (pure_box rfl rfl rfl hM0) ?_
  refine xA tb hM0 7 [1,2,5] [2] rfl ?_
  refine oP rfl (pure_call rfl rfl rfl (rvalidD_call) hM0) ?_
  refine xA tb hM0 3 [1,2,7] [2] rfl ?_
  refine spC 7 rfl ?_ ?_<;>intro h1<;>try simp only [dq] at h1
  refine xA tb hM0 3 [2] [2] rfl ?_
  refine oP rfl (pure_norm (pure_build rfl pl31 ze31 rfl rfl rfl) rfl) ?_
  refine xA tb hM0 5 [] [] rfl ?_
  refine endC_ret rfl ?_;rotate_left
  have hd:=valid_ok (d:=d) (by assumption)
  have hn:d.n=d.next.length:=rfl
  have hb:=hd.1
  have hkk:=kk hd
  refine xA tb hM0 16 [1,2,3] [2,3] rfl ?_
  refine code_nilownC 3 2 42 4 31 hM0 rfl rfl rfl rfl ?_
  refine xK tb hM0 5 [1,2,3,4] [2,3,42] rfl ?_
  refine lp (fun zm zs=>∃ i:Nat,zm=d.fin.length-i∧(i≤d.fin.length)∧zs=⟨34,[(1,.v .mx (dpc d)),(2,.pbox 2 0),(3,.pbox 3 0),(4,.v .pl (int i))],[(2,.box 31 [.v .pl (.sc (.int .i64 0)),.v .pl (.sc (.slice none 0 0)),.v .pl (.sc (.slice none 0 0))]),(3,.box 31 [.v .mx (int d.size),.v .mx (rowsA d.next),.own 42]),(42,.arr 4 (((d.fin.take i).map fun b=>!b).map bool))]⟩) ?_ ?_
  exact ⟨_,0,rfl,Nat.zero_le _,rfl⟩
  rintro zm zs ⟨i,rfl,hL1_0,rfl⟩
  refine xA tb hM0 6 [1,2,3,4,14,16] [2,3,42] rfl ?_
  refine oP rfl (pure_lenm rfl Tryz.underlying29 rfl) ?_
  refine xA tb hM0 3 [1,2,3,4,18] [2,3,42] rfl ?_
  refine spC 18 rfl ?_ ?_<;>intro h2<;>try simp only [dq] at h2
  refine xA tb hM0 5 [1,2,3,4] [2,3,42] rfl ?_
  refine code_draw mixed (by kernel_rfl) _ rfl ?_
  refine dl_pure rfl rfl rfl (pure_field_box rfl fd31_2 rfl rfl) ?_
  refine dl_pure rfl rfl rfl (pure_load_box rfl ag29 rfl rfl rfl) ?_
  refine dl_pure rfl rfl rfl (pure_field rfl fd31_2 rfl) ?_
  refine dl_pure rfl rfl rfl (pure_load rfl ag29 rfl rfl) ?_
  refine dl_pure rfl rfl rfl (pure_move rfl rfl) ?_
  refine dl_pure rfl rfl rfl (pure_ix rfl Tryz.underlying29 sz4 rfl rfl (by omega) (fun _=>rfl)) ?_
  refine dl_pure rfl rfl rfl (pure_load rfl ag4 rfl rfl) ?_
  refine dpk 34 [(1,_),(2,_),(3,_),(4,_),(22,_),(27,_)] [(2,_),(3,_),(42,_)] rfl rfl rfl ?_
  refine dl_pure rfl rfl rfl (pure_not rfl rfl) ?_
  refine dl_pure rfl rfl rfl (pure_lit rfl Tryz.underlying29 el4 rfl rfl rfl rfl hM0) ?_
  refine dl_tails (by kernel_rfl) ?_
  refine tl_step rfl (step_append rfl rfl rfl rfl Tryz.underlying29 el4 rfl rfl hM0 (src_pl rfl (one_len (by rfl))) (by rw [List.length_map,List.length_map,List.length_take];simp only [List.length_cons,List.length_nil];omega) (by rw [List.length_map,List.length_map,List.length_take];simp only [List.length_cons,List.length_nil];omega)) ?_
  refine tl_pure rfl rfl rfl (pure_field_box rfl fd31_2 rfl rfl) ?_
  refine tl_step rfl (step_store_box_own rfl rfl rfl sz29 rfl rfl rfl rfl rfl hM0) ?_
  refine tl_nil ?_
  refine xD tb hM0 4 [1,2,3,19] [2,3,42] rfl ?_
  refine oP rfl (pure_addi rfl rfl rfl (by omega)) ?_
  refine xA tb hM0 2 [1,2,3,4] [2,3,42] rfl ?_
  refine nx ?_
  refine ⟨_,⟨i+1,rfl,by omega,?_⟩,by omega⟩
  rw [take_one (l:=d.fin) (i:=i) (by omega),List.map_append,List.map_append];rfl
  refine xA tb hM0 7 [2,3] [2,3,42] rfl ?_
  rw [take_all (l:=d.fin) (i:=i) (by omega)]
  refine xA tb hM0 2 [2,32] [2] rfl ?_
  refine oP rfl (pure_call rfl rfl rfl (rmin_call (d:=flipD d)) hM0) ?_
  refine xA tb hM0 4 [] [] rfl ?_
  refine endC_ret rfl ?_;rotate_left
  all_goals
    first
      | (rw [notZ_f (d:=d) (by assumption)];first|done|rfl)
      | (rw [notZ_t (d:=d) (by assumption)];first|done|rfl)
theorem fn56:Fn1 Tryz.prog 56 Tryz.f56.ntmps 5 (Tryz.f56.body.getD .skip):=⟨Tryz.f56,Tryz.func56,rfl,rfl,rfl,by kernel_rfl⟩
set_option maxRecDepth 100000 in
theorem least1_call {d:Dfa} {x s:Nat} (hd:okD d) (hx:x<d.next.length) (hs:s<d.k):CallF Tryz.prog 56 ([natI x,natI s]++[dpc d]) (.p (natI (d.stp x s))):=by
  have hkk:=kk hd
  have hrow:=(hd.row hx).1
  refine callF_of_code fn56 (Nat.le_of_ble_eq_true rfl) fun w0 M0 hM0=>?_
  refine xC tb hM0 10 [1,7,8] [] rfl ?_
  refine oP rfl (pure_ix rfl Tryz.underlying28 sz22 rfl rfl (by omega) (fun _=>rfl)) ?_
  refine xA tb hM0 2 [10,11] [] rfl ?_
  refine oP rfl (pure_ix rfl Tryz.underlying22 sz3 rfl rfl (by exact ⟨Int.natCast_nonneg _,Int.ofNat_lt.2 (show s<(d.next.getD x default).length by omega)⟩) (fun _=>rfl)) ?_
  refine xA tb hM0 5 [] [] rfl ?_
  refine end_ret rfl ?_
  have e:=hd.cellN hx (k:=s) (by omega)
  exact (by rw [show RV.p (natI (d.stp x s))=RV.p (int ((d.next.getD x default).getD s default)) from by rw [e]];first|done|rfl)
theorem fn57:Fn1 Tryz.prog 57 Tryz.f57.ntmps 3 (Tryz.f57.body.getD .skip):=⟨Tryz.f57,Tryz.func57,rfl,rfl,rfl,by kernel_rfl⟩
set_option maxRecDepth 100000 in
theorem least2_call {d:Dfa} {x:Nat} (hx:x<d.fin.length):CallF Tryz.prog 57 ([natI x]++[dpc d]) (.p (bool (d.fn x))):=by
  refine callF_of_code fn57 (Nat.le_of_ble_eq_true rfl) fun w0 M0 hM0=>?_
  refine xC tb hM0 10 [5,6] [] rfl ?_
  refine oP rfl (pure_ix rfl Tryz.underlying29 sz4 rfl rfl (by omega) (fun _=>rfl)) ?_
  refine xA tb hM0 5 [] [] rfl ?_
  refine end_ret rfl ?_
  rfl
theorem fn16:Fn2 Tryz.prog 16 Tryz.f16.ntmps 2 3 (Tryz.f16.body.getD .skip):=⟨Tryz.f16,Tryz.func16,rfl,rfl,rfl,by kernel_rfl⟩
set_option maxRecDepth 100000 in
set_option maxHeartbeats 4000000 in
theorem least_call {d:Dfa}:CallF Tryz.prog 16 [dfa d] (.p (.tup [resW (leastZ d),bool (leastZ d).isSome])):=by
  refine callF_of_code2 fn16 (Nat.le_of_ble_eq_true rfl) fun w0 M0 hM0=>?_
  refine xC tb hM0 2 [0] [] rfl ?_
  refine oP rfl (pure_box rfl rfl rfl hM0) ?_
  refine xA tb hM0 8 [1,4] [] rfl ?_
  refine oP rfl (pure_call rfl rfl rfl (validD_call) hM0) ?_
  refine xA tb hM0 3 [1,6] [] rfl ?_
  refine spC 6 rfl ?_ ?_<;>intro h1<;>try simp only [dq] at h1
  refine xA tb hM0 9 [] [] rfl ?_
  refine end2_ret rfl rfl ?_;rotate_left
  have hd:=valid_ok (d:=d) (by assumption)
  have hn:d.n=d.next.length:=rfl
  have hb:=hd.1
  have hkk:=kk hd
  refine xA tb hM0 7 [1,8] [] rfl ?_
  refine oP rfl (pure_func rfl rfl) ?_
  refine oP rfl (pure_func rfl rfl) ?_
  refine xA tb hM0 0 [8,9,10] [] rfl ?_
  refine oP rfl (pure_call rfl rfl rfl (searchI_call (U:=List.range d.n) (next:=d.stp) (good:=d.fn) (size:=d.k) (N:=d.n) (start:=0) ⟨by omega,by omega⟩ (stpD_mem hd) (List.mem_range.2 (by omega)) (by rw [List.length_range];exact Nat.le_refl _) (by rw [List.length_range];omega) hkk.1 (fun x hx s hs=>least1_call hd (List.mem_range.1 hx) hs) (fun x hx=>least2_call (by have:=List.mem_range.1 hx;omega))) hM0) ?_
  refine xA tb hM0 7 [] [] rfl ?_
  refine end2_ret rfl rfl ?_;rotate_left
  all_goals
    first
      | (rw [leastZ_f (d:=d) (by assumption)];exact ⟨rfl,rfl⟩)
      | (rw [leastZ_t (d:=d) (by assumption)];exact ⟨rfl,rfl⟩)
end Go.Proofs.YtjimlkpfmbachaaGreat

