/-
  Contracts: reversals.
-/
import Derived.Test.YtjimlkpfmbachaaGreatJ30
import Derived.Test.YtjimlkpfmbachaaGreatJ17
import Derived.Test.YtjimlkpfmbachaaGreatJ19
import Derived.Test.YtjimlkpfmbachaaGreatJ27
set_option linter.unusedVariables false
set_option linter.unusedSectionVars false
set_option linter.unusedSimpArgs false
namespace Go.Proofs.YtjimlkpfmbachaaGreat
open Go.Am Go.Wc Go.Wb Go.Wd
theorem fn70:Fn1 Tryz.prog 70 Tryz.f70.ntmps 7 (Tryz.f70.body.getD .skip):=⟨Tryz.f70,Tryz.func70,rfl,rfl,rfl,by kernel_rfl⟩
set_option maxRecDepth 100000 in
set_option maxHeartbeats 2000000 in
theorem rev4_call {d:Dfa} {s:Nat} {x:List Bool} (hd:okD d) (hx:x.length=d.n) (hs:s<d.k):CallF Tryz.prog 70 ([.sc (kvB x),natI s]++[.pc [.clo 67 [.pc [natI d.n] 0]] 0,.pc [.clo 68 []] 0,dpc d]) (.p (.sc (kvB (snext d x s)))):=by
  have hn:d.n≤4294967296:=Nat.le_trans hd.1.2.1.2 (by decide)
  rw [kvB_at hx,← kvB_next]
  refine callF_of_code fn70 (Nat.le_of_ble_eq_true rfl) fun w0 M0 hM0=>?_
  refine xC tb hM0 2 [0,1,2,3,4] [] rfl ?_
  refine oP rfl (pure_box rfl rfl rfl hM0) ?_
  refine oP rfl (pure_box rfl rfl rfl hM0) ?_
  refine xA tb hM0 5 [2,3,4,5,6] [] rfl ?_
  refine oP rfl (pure_load rfl ag83 rfl rfl) ?_
  refine oP rfl (pure_func rfl rfl) ?_
  refine xA tb hM0 0 [8,9] [] rfl ?_
  refine oP rfl (pure_call rfl rfl rfl (sset_call (n:=d.n) (x:=fun k=>x.getD (d.stp k s) false) hn (fun k hk=>rev41_call (fun k=>x.getD k false) hd hn hk hs)) hM0) ?_
  refine xA tb hM0 4 [] [] rfl ?_
  refine end_ret rfl ?_
  rfl
theorem fn44:FnC2 Tryz.prog 44 Tryz.f44.ntmps 8 31 3 9 (Tryz.f44.body.getD .skip):=⟨Tryz.f44,Tryz.func44,rfl,rfl,rfl,by kernel_rfl,ag31,sz31⟩
set_option maxRecDepth 100000 in
set_option maxHeartbeats 8000000 in
theorem exploreB_call {next:List Bool→Nat→List Bool} {final:List Bool→Bool} {size N:Nat} {start:List Bool} {sz:Int} {U:List (List Bool)} {g h:FuncId} {cg ch:List AV} (hsz:1≤size∧size≤64) (hU:∀ x∈U,∀ s,s<size→next x s∈U) (h0:start∈U) (hN:U.length≤N) (hB:U.length≤2048) (hz:(size:Int)=sz) (hI:∀ a∈U,∀ b∈U,kvB a=kvB b→a=b)
    (hg:∀ x∈U,∀ s,s<size→CallF Tryz.prog g ([encB x,natI s]++cg) (.p (encB (next x s)))) (hh:∀ x∈U,CallF Tryz.prog h ([encB x]++ch) (.p (bool (final x)))) :
    CallF Tryz.prog 44 [encB start,int sz,.clo g cg,.clo h ch] (.p (.tup [dfa (mkD next size final (reach next size N start)),bool true])):=by
  subst hz
  refine callF_of_codeC2 fn44 (Nat.le_of_ble_eq_true rfl) fun w0 M0 hM0=>?_
  refine xC tb hM0 16 [0,1,2,3,8,10] [8,10] rfl ?_
  refine oS rfl (step_map rfl rfl rfl rfl rfl Tryz.underlying97 (fun q hq=>by cases hq<;>exact ⟨_,_,rfl⟩) hM0) rfl ?_
  refine xA tb hM0 1 [0,1,2,3,8,10,21,22] [8,10,21] rfl ?_
  refine oS rfl (step_insert rfl (step_put rfl rfl rfl Tryz.underlying97 Tryz.underlying9 rfl rfl rfl rfl trivial (fun q hq=>by cases hq) hM0)) rfl ?_
  refine xA tb hM0 7 [1,2,3,8,10,11,24] [8,10,21] rfl ?_
  refine oS rfl (step_lit rfl rfl rfl rfl Tryz.underlying98 el9 rfl rfl rfl rfl hM0) rfl ?_
  refine xA tb hM0 5 [1,2,3,8,10,11,12] [8,10,21,25] rfl ?_
  refine code_nilown 10 1 41 22 31 hM0 rfl rfl rfl rfl ?_
  refine code_nilown 10 2 42 4 31 hM0 rfl rfl rfl rfl ?_
  refine xK tb hM0 5 [1,2,3,8,10,11,12,13] [8,10,21,25,41,42] rfl ?_
  refine lp (fun zm zs=>∃ (l:List (List Bool)) (i:Nat),zm=N+1-i∧(Ex next size U start N l i)∧zs=⟨89,[(1,.v .mx (natI size)),(2,.v .mx (.clo g cg)),(3,.v .mx (.clo h ch)),(8,.pbox 8 0),(10,.pbox 10 0),(11,.omap 21),(12,.own 25),(13,.v .pl (int i))],[(8,.box 31 [.v .pl (.sc (.int .i64 0)),.v .pl (.sc (.slice none 0 0)),.v .pl (.sc (.slice none 0 0))]),(10,.box 31 [.v .pl (natI size),.own 41,.own 42]),(21,.mp (l.map kvB) (vsC l.length)),(25,.arr 9 (l.map encB)),(41,.arr 22 ((rowsX next size l (l.take i)).map ints)),(42,.arr 4 ((finX final (l.take i)).map bool))]⟩) ?_ ?_
  refine ⟨_,[start],0,rfl,ex_start h0,?_⟩
  rw [← put_k0,← put_v0 (kv:=kvB) start];rfl
  rintro zm zs ⟨l,i,rfl,hL1_0,rfl⟩
  have hle:=hL1_0.le
  refine xA tb hM0 5 [1,2,3,8,10,11,12,13,26,27] [8,10,21,25,41,42] rfl ?_
  refine oP rfl (pure_lenm rfl Tryz.underlying98 rfl) ?_
  refine xA tb hM0 3 [1,2,3,8,10,11,12,13,29] [8,10,21,25,41,42] rfl ?_
  refine spC 29 rfl ?_ ?_<;>intro h1<;>try simp only [dq] at h1
  refine xA tb hM0 8 [1,2,3,8,10,11,12,13,32] [8,10,21,25,41,42] rfl ?_
  refine oS rfl (step_make rfl rfl rfl rfl Tryz.underlying22 el3 ze3 rfl rfl rfl (by omega) (by omega) (by omega) hM0) rfl ?_
  refine xA tb hM0 7 [1,2,3,8,10,11,12,13,14,34] [8,10,21,25,33,41,42] rfl ?_
  refine oP rfl (pure_toi (a':=(size:Int)) (pure_len rfl Tryz.underlying22 rfl) (by simp)) ?_
  refine xA tb hM0 4 [1,2,3,8,10,11,12,13,14,35,36] [8,10,21,25,33,41,42] rfl ?_
  have hi:i<l.length:=by omega
  have hxU:=hL1_0.met.sub _ (el_mem hi)
  refine lp (fun zm zs=>∃ s:Nat,zm=size-s∧(s≤size)∧zs=⟨89,[(1,.v .mx (natI size)),(2,.v .mx (.clo g cg)),(3,.v .mx (.clo h ch)),(8,.pbox 8 0),(10,.pbox 10 0),(11,.omap 21),(12,.own 25),(13,.v .pl (int i)),(14,.own 33),(35,.v .pl (natI size)),(36,.v .pl (int s))],[(8,.box 31 [.v .pl (.sc (.int .i64 0)),.v .pl (.sc (.slice none 0 0)),.v .pl (.sc (.slice none 0 0))]),(10,.box 31 [.v .pl (natI size),.own 41,.own 42]),(21,.mp ((grow next (l.getD i default) l s).map kvB) (vsC (grow next (l.getD i default) l s).length)),(25,.arr 9 ((grow next (l.getD i default) l s).map encB)),(33,.arr 3 ((rB next size (l.getD i default) l s).map int)),(41,.arr 22 ((rowsX next size l (l.take i)).map ints)),(42,.arr 4 ((finX final (l.take i)).map bool))]⟩) ?_ ?_
  refine ⟨_,0,rfl,Nat.zero_le _,?_⟩
  rw [rB_zero,← rep_mapI];rfl
  rintro zm zs ⟨s,rfl,hL2_0,rfl⟩
  have hgl:=grow_le hL1_0.met hU hxU hL2_0
  have hin:s<size→∀ b∈(grow next (l.getD i default) l s),kvB b=kvB (next (l.getD i default) s)→b=next (l.getD i default) s:=fun h b hb e=>hI b (grow_sub hL1_0.met hU hxU hL2_0 b hb) _ (hU _ hxU s h) e
  refine xA tb hM0 6 [1,2,3,8,10,11,12,13,14,35,36,37] [8,10,21,25,33,41,42] rfl ?_
  refine spC 37 rfl ?_ ?_<;>intro h2<;>try simp only [dq] at h2
  refine xA tb hM0 16 [1,2,3,8,10,11,12,13,14,15,35,36,39,40,41] [8,10,21,25,33,41,42] rfl ?_
  refine oP rfl (pure_index_own rfl Tryz.underlying98 sz9 rfl rfl rfl (by rw [List.length_map];have:=grow_len (next:=next) (x:=l.getD i default) (l:=l) s;omega)) ?_
  refine oP rfl (pure_load_pel rfl ag9 rfl rfl (mget (by have:=grow_len (next:=next) (x:=l.getD i default) (l:=l) s;omega)) rfl) ?_
  refine xA tb hM0 1 [1,2,3,8,10,11,12,13,14,15,35,36,39,43,44] [8,10,21,25,33,41,42] rfl ?_
  refine oP rfl (pure_call rfl rfl rfl (by have e:(grow next (l.getD i default) l s).getD (i:Int).toNat default=l.getD i default:=grow_at s hi;rw [e];exact hg _ hxU s (by omega)) hM0) ?_
  refine xA tb hM0 7 [1,2,3,8,10,11,12,13,14,15,16,35,36,47,48] [8,10,21,25,33,41,42] rfl ?_
  refine oP rfl (pure_tupl (pure_mlook2 rfl Tryz.underlying97 Tryz.underlying9 zv3 rfl rfl rfl trivial (fun q hq=>by obtain ⟨_,_,rfl⟩:=List.mem_map.1 hq;trivial) (look_s (kv:=kvB) (hin (by omega))) (has_s (kv:=kvB) (hin (by omega))))) ?_
  refine xA tb hM0 7 [1,2,3,8,10,11,12,13,14,15,16,17,18,35,36] [8,10,21,25,33,41,42] rfl ?_
  refine ct (fun zs=>zs=⟨89,[(1,.v .mx (natI size)),(2,.v .mx (.clo g cg)),(3,.v .mx (.clo h ch)),(8,.pbox 8 0),(10,.pbox 10 0),(11,.omap 21),(12,.own 25),(13,.v .pl (int i)),(14,.own 33),(15,.v .pl (int s)),(17,.v .pl (natI (idx (grow next (l.getD i default) l (s+1)) (next (l.getD i default) s)))),(35,.v .pl (natI size)),(36,.v .pl (int s))],[(8,.box 31 [.v .pl (.sc (.int .i64 0)),.v .pl (.sc (.slice none 0 0)),.v .pl (.sc (.slice none 0 0))]),(10,.box 31 [.v .pl (natI size),.own 41,.own 42]),(21,.mp ((grow next (l.getD i default) l (s+1)).map kvB) (vsC (grow next (l.getD i default) l (s+1)).length)),(25,.arr 9 ((grow next (l.getD i default) l (s+1)).map encB)),(33,.arr 3 ((rB next size (l.getD i default) l s).map int)),(41,.arr 22 ((rowsX next size l (l.take i)).map ints)),(42,.arr 4 ((finX final (l.take i)).map bool))]⟩) ?_ ?_
  refine xA tb hM0 6 [1,2,3,8,10,11,12,13,14,15,16,17,35,36,53] [8,10,21,25,33,41,42] rfl ?_
  refine spC 53 rfl ?_ ?_<;>intro h3<;>try simp only [dq] at h3
  refine xA tb hM0 4 [1,2,3,8,10,11,12,13,14,15,16,35,36,54] [8,10,21,25,33,41,42] rfl ?_
  refine oP rfl (pure_lenm rfl Tryz.underlying98 rfl) ?_
  refine xA tb hM0 10 [1,2,3,8,10,11,12,13,14,15,16,17,35,36,57] [8,10,21,25,33,41,42] rfl ?_
  refine spC 57 rfl ?_ ?_<;>intro h4<;>try simp only [dq] at h4
  have hlt:=grow_lt (s:=s) hL1_0.met hU hxU (by omega) (by assumption)
  omega
  --done
  refine xA tb hM0 8 [1,2,3,8,10,11,12,13,14,15,16,17,35,36,59,60,61] [8,10,21,25,33,41,42] rfl ?_
  refine oS rfl (step_put rfl rfl rfl Tryz.underlying97 Tryz.underlying9 rfl rfl rfl rfl trivial (fun q hq=>by obtain ⟨_,_,rfl⟩:=List.mem_map.1 hq;trivial) hM0) rfl ?_
  refine xA tb hM0 5 [1,2,3,8,10,11,13,14,15,17,35,36,62,63] [8,10,21,25,33,41,42] rfl ?_
  refine oP rfl (pure_lit rfl Tryz.underlying98 el9 rfl rfl rfl rfl hM0) ?_
  refine oS rfl (step_append rfl rfl rfl rfl Tryz.underlying98 el9 rfl rfl hM0 (src_pl rfl (one_len (by rfl))) (by rw [List.length_map];simp only [List.length_cons,List.length_nil];omega) (by rw [List.length_map];simp only [List.length_cons,List.length_nil];omega)) rfl ?_
  refine xA tb hM0 2 [1,2,3,8,10,11,12,13,14,15,17,35,36] [8,10,21,25,33,41,42] rfl ?_
  refine cx ?_
  have q:=(by assumption:next (l.getD i default) s ∉ (grow next (l.getD i default) l s))
  rw [show (kvB (next (l.getD i default) s))=kvB (next (l.getD i default) s) from rfl,grow_new q,idx_new q,put_ks (kv:=kvB) (hin (by omega)) q,put_vs (kv:=kvB) (hin (by omega)) q,List.map_append (f:=encB)]
  rfl
  refine xA tb hM0 2 [1,2,3,8,10,11,12,13,14,15,17,35,36] [8,10,21,25,33,41,42] rfl ?_
  refine cx ?_
  rw [grow_old (by assumption),if_pos (by assumption)]
  rintro zs ⟨rfl⟩
  refine xA tb hM0 4 [1,2,3,8,10,11,12,13,14,35,36,66,67,68] [8,10,21,25,33,41,42] rfl ?_
  refine oP rfl (pure_index_own rfl Tryz.underlying22 sz3 rfl rfl rfl (by rw [List.length_map,rB_len (size:=size) (s:=s) (by omega)];omega)) ?_
  refine oS rfl (step_store_pel rfl rfl rfl sz3 rfl rfl (mget (by rw [rB_len (size:=size) (s:=s) (by omega)];omega)) rfl rfl (.inl rfl) rfl (Nat.le_of_ble_eq_true rfl) hM0) rfl ?_
  refine xA tb hM0 4 [1,2,3,8,10,11,12,13,14,35,36] [8,10,21,25,33,41,42] rfl ?_
  refine oP rfl (pure_addi rfl rfl rfl (by omega)) ?_
  refine xA tb hM0 2 [1,2,3,8,10,11,12,13,14,35,36] [8,10,21,25,33,41,42] rfl ?_
  refine nx ?_
  refine ⟨_,⟨s+1,rfl,by omega,?_⟩,by omega⟩
  rw [← rB_set (by omega)];rfl
  refine xA tb hM0 7 [1,2,3,8,10,11,12,13,14] [8,10,21,25,33,41,42] rfl ?_
  refine code_frz 89 [(1,_),(2,_),(3,_),(8,_),(10,_),(11,_),(12,_),(13,_),(14,_)] [(8,_),(10,_),(21,_),(25,_),(41,_),(42,_)] hM0 rfl ⟨.inl rfl,.inl rfl,.inl rfl,.inl rfl,.inl rfl,.inl rfl,.inl rfl,.inl rfl,.inr ⟨_,_,rfl,rfl,rfl⟩,trivial⟩ ⟨rfl,rfl,rfl,rfl,rfl,rfl,trivial⟩ ?_
  obtain rfl:size=s:=by omega
  refine xK tb hM0 4 [1,2,3,8,10,11,12,13,72,73] [8,10,21,25,41,42] rfl ?_
  refine oP rfl (pure_lit rfl Tryz.underlying28 el22 rfl rfl rfl rfl hM0) ?_
  refine oS rfl (step_append rfl rfl rfl rfl Tryz.underlying28 el22 rfl rfl hM0 (src_pl rfl (one_len (by rfl))) (by rw [List.length_map,rows_len,List.length_take];simp only [List.length_cons,List.length_nil];omega) (by rw [List.length_map,rows_len,List.length_take];simp only [List.length_cons,List.length_nil];omega)) rfl ?_
  refine xA tb hM0 4 [1,2,3,8,10,11,12,13] [8,10,21,25,41,42] rfl ?_
  refine code_draw mixed (by kernel_rfl) _ rfl ?_
  refine dl_pure rfl rfl rfl (pure_field_box rfl fd31_2 rfl rfl) ?_
  refine dl_pure rfl rfl rfl (pure_load_box rfl ag29 rfl rfl rfl) ?_
  refine dl_pure rfl rfl rfl (pure_move rfl rfl) ?_
  refine dl_pure rfl rfl rfl (pure_move rfl rfl) ?_
  refine dl_pure rfl rfl rfl (pure_move rfl rfl) ?_
  refine dl_pure rfl rfl rfl (pure_index_own rfl Tryz.underlying98 sz9 rfl rfl rfl (by rw [List.length_map];have:=grow_len (next:=next) (x:=l.getD i default) (l:=l) size;omega)) ?_
  refine dl_pure rfl rfl rfl (pure_load_pel rfl ag9 rfl rfl (mget (by have:=grow_len (next:=next) (x:=l.getD i default) (l:=l) size;omega)) rfl) ?_
  refine dpk 89 [(1,_),(2,_),(3,_),(8,_),(10,_),(11,_),(12,_),(13,_),(78,_),(79,_),(83,_)] [(8,_),(10,_),(21,_),(25,_),(41,_),(42,_)] rfl rfl rfl ?_
  refine dl_pure rfl rfl rfl (pure_call rfl rfl rfl (by have e:(grow next (l.getD i default) l size).getD (i:Int).toNat default=l.getD i default:=grow_at size hi;rw [e];exact hh _ hxU) hM0) ?_
  refine dl_pure rfl rfl rfl (pure_lit rfl Tryz.underlying29 el4 rfl rfl rfl rfl hM0) ?_
  refine dl_tails (by kernel_rfl) ?_
  refine tl_step rfl (step_append rfl rfl rfl rfl Tryz.underlying29 el4 rfl rfl hM0 (src_pl rfl (one_len (by rfl))) (by rw [List.length_map,fin_len,List.length_take];simp only [List.length_cons,List.length_nil];omega) (by rw [List.length_map,fin_len,List.length_take];simp only [List.length_cons,List.length_nil];omega)) ?_
  refine tl_pure rfl rfl rfl (pure_field_box rfl fd31_2 rfl rfl) ?_
  refine tl_step rfl (step_store_box_own rfl rfl rfl sz29 rfl rfl rfl rfl rfl hM0) ?_
  refine tl_nil ?_
  refine xD tb hM0 4 [1,2,3,8,10,11,12,30] [8,10,21,25,41,42] rfl ?_
  refine oP rfl (pure_addi rfl rfl rfl (by omega)) ?_
  refine xA tb hM0 2 [1,2,3,8,10,11,12,13] [8,10,21,25,41,42] rfl ?_
  refine nx ?_
  refine ⟨_,⟨grow next (l.getD i default) l size,i+1,rfl,hL1_0.step hU hN hi rfl,?_⟩,by omega⟩
  rw [rows_step hL1_0.met hi rfl,fin_step hi rfl,List.map_append,List.map_append];rfl
  refine xA tb hM0 7 [8,10] [8,10,41,42] rfl ?_
  refine code_frz 89 [(8,_),(10,_)] [(8,_)] hM0 rfl ⟨.inl rfl,.inr ⟨_,_,rfl,rfl,rfl⟩,trivial⟩ ⟨rfl,trivial⟩ ?_
  have e1:l.take i=l:=List.take_of_length_le (by omega)
  have e2:=hL1_0.fin (by omega)
  rw [e1]
  refine xK tb hM0 7 [] [] rfl ?_
  refine endC2_ret rfl rfl ?_
  refine ⟨?_,rfl⟩
  rw [e2];rfl
end Go.Proofs.YtjimlkpfmbachaaGreat

namespace Go.Proofs.YtjimlkpfmbachaaGreat
open Go.Am Go.Wc Go.Wb Go.Wd
theorem ze83:zeroOf Tryz.prog 83=some [.nilFunc]:=by kernel_rfl
theorem ze84:zeroOf Tryz.prog 84=some [.nilFunc]:=by kernel_rfl
theorem fn27:FnC2 Tryz.prog 27 Tryz.f27.ntmps 2 31 3 3 (Tryz.f27.body.getD .skip):=⟨Tryz.f27,Tryz.func27,rfl,rfl,rfl,by kernel_rfl,ag31,sz31⟩
set_option maxRecDepth 100000 in
set_option maxHeartbeats 4000000 in
theorem reverse_call {d:Dfa} (hF:FewD d):CallF Tryz.prog 27 [dfa d] (.p (.tup [dfa (revZ d),int (revE d)])):=by
  refine callF_of_codeC2 fn27 (Nat.le_of_ble_eq_true rfl) fun w0 M0 hM0=>?_
  refine xC tb hM0 2 [0] [] rfl ?_
  refine oS rfl (step_box rfl rfl rfl rfl rfl rfl rfl (by decide) hM0) rfl ?_
  refine xA tb hM0 8 [1,2,9] [1,2] rfl ?_
  refine oP rfl (pure_call rfl rfl rfl (validD_call (d:=d)) hM0) ?_
  refine xA tb hM0 3 [1,2,11] [1,2] rfl ?_
  refine spC 11 rfl ?_ ?_<;>intro h1<;>try simp only [dq] at h1
  refine xA tb hM0 3 [2] [2] rfl ?_
  refine oP rfl (pure_norm (pure_build rfl pl31 ze31 rfl rfl rfl) rfl) ?_
  refine xA tb hM0 6 [] [] rfl ?_
  refine endC2_ret rfl rfl ?_;rotate_left
  have hd:=valid_ok (d:=d) (by assumption)
  have hm:=(minP_ok hd).1
  obtain ⟨U0,hU0⟩:=hF hd
  obtain ⟨U,hU,hUl⟩:=hU0.lens hm.1.2.2
  have hbm:=hm.1
  have hkm:=kk hm
  have hn:(minP d).n≤4294967296:=Nat.le_trans hm.1.2.1.2 (by decide)
  have hnn:(minP d).n=(minP d).next.length:=rfl
  have hset:CallF Tryz.prog 67 ([.clo 69 [dpc (minP d)]]++[.pc [natI (minP d).n] 0]) (.p (encB (minP d).fin)):=by
    show CallF _ _ _ (.p (.sc (kvB (minP d).fin)))
    rw [← kvB_fin (n:=(minP d).n) hm.1.2.2]
    exact sset_call (x:=fun k=>(minP d).fin.getD k default) hn (fun k hk=>rev3_call (by have:=hm.1.2.2;omega))
  have hmin:CallF Tryz.prog 30 [dfa d] (.p (dfa (minP d))):=by
    have h:=min_call (d:=d)
    rwa [minZ_t (by assumption)] at h
  refine xA tb hM0 6 [1,2,13] [1,2] rfl ?_
  refine oP rfl (pure_call rfl rfl rfl (hmin) hM0) ?_
  refine xA tb hM0 7 [1,2,16] [1,2] rfl ?_
  refine oP rfl (pure_lenm rfl Tryz.underlying28 rfl) ?_
  refine xA tb hM0 5 [1,2,4] [1,2,4] rfl ?_
  refine code_frz 35 [(1,_),(2,_),(4,_)] [(2,_)] hM0 rfl ⟨.inr ⟨_,_,rfl,rfl,rfl⟩,.inl rfl,.inr ⟨_,_,rfl,rfl,rfl⟩,trivial⟩ ⟨rfl,trivial⟩ ?_
  refine xK tb hM0 1 [1,2,4] [2] rfl ?_
  refine oP rfl (pure_func rfl rfl) ?_
  refine oS rfl (step_alloc rfl rfl rfl rfl rfl ze83 rfl hM0) rfl ?_
  refine xA tb hM0 0 [1,2,5,18] [2,5] rfl ?_
  refine oS rfl (step_store_box rfl rfl rfl sz83 rfl rfl rfl rfl (by decide) rfl rfl hM0) rfl ?_
  refine xA tb hM0 3 [1,2,5] [2,5] rfl ?_
  refine code_frz 35 [(1,_),(2,_),(5,_)] [(2,_)] hM0 rfl ⟨.inl rfl,.inl rfl,.inr ⟨_,_,rfl,rfl,rfl⟩,trivial⟩ ⟨rfl,trivial⟩ ?_
  refine xK tb hM0 1 [1,2,5] [2] rfl ?_
  refine oS rfl (step_alloc rfl rfl rfl rfl rfl ze84 rfl hM0) rfl ?_
  refine xA tb hM0 0 [1,2,5,6] [2,6] rfl ?_
  refine oS rfl (step_store_box rfl rfl rfl sz84 rfl rfl rfl rfl (by decide) rfl rfl hM0) rfl ?_
  refine xA tb hM0 3 [1,2,5,6] [2,6] rfl ?_
  refine code_frz 35 [(1,_),(2,_),(5,_),(6,_)] [(2,_)] hM0 rfl ⟨.inl rfl,.inl rfl,.inl rfl,.inr ⟨_,_,rfl,rfl,rfl⟩,trivial⟩ ⟨rfl,trivial⟩ ?_
  refine code_drawE (n:=35) (om:=[(2,.box 31 [.v .pl (.sc (.int .i64 0)),.v .pl (.sc (.slice none 0 0)),.v .pl (.sc (.slice none 0 0))]),(7,.box 31 [.v .pl (.sc (.int .i64 0)),.v .pl (.sc (.slice none 0 0)),.v .pl (.sc (.slice none 0 0))])]) (o2:=[(2,.box 31 [.v .pl (.sc (.int .i64 0)),.v .pl (.sc (.slice none 0 0)),.v .pl (.sc (.slice none 0 0))]),(7,.box 31 [.v .pl (int ((subD (minP d))).size),.v .pl (rowsA ((subD (minP d))).next),.v .pl (boolsA ((subD (minP d))).fin)])]) 11 12 14 [(20,.v .pl (.clo 67 [.pc [natI (minP d).n] 0])),(21,.v .pl (.clo 69 [dpc (minP d)])),(22,.v .pl (encB (minP d).fin)),(23,.v .pl (.pc (dcells (minP d)) 0)),(24,.v .pl (int (minP d).size)),(25,.v .pl (.clo 70 [.pc [.clo 67 [.pc [natI (minP d).n] 0]] 0,.pc [.clo 68 []] 0,dpc (minP d)])),(26,.v .pl (.clo 72 [.pc [.clo 68 []] 0])),(27,.v .pl (.tup [dfa (subD (minP d)),bool true])),(19,.v .pl (.tup [dfa (subD (minP d)),bool true])),(28,.v .pl (dfa (subD (minP d)))),(29,.v .pl (bool true)),(7,.pbox 7 0),(8,.v .pl (bool true)),(1,.v .pl (dpc (minP d))),(2,.pbox 2 0),(5,.v .pl (.pc [.clo 67 [.pc [natI (minP d).n] 0]] 0)),(6,.v .pl (.pc [.clo 68 []] 0))] mixed (by kernel_rfl) (by kernel_rfl) (by kernel_rfl) (by kernel_rfl) rfl (by kernel_rfl) rfl (fun t z h=>h) rfl ?_ ?_ ?_ ?_ ?_ ?_ ?_
  · intro zi zt hzi hzd
    rcases (by omega:zi=0∨zi=1∨zi=2∨zi=3∨zi=4∨zi=5∨zi=6∨zi=7∨zi=8∨zi=9∨zi=10∨zi=11∨zi=12∨zi=13) with rfl|rfl|rfl|rfl|rfl|rfl|rfl|rfl|rfl|rfl|rfl|rfl|rfl|rfl
    · injection (show some _=some zt from hzd) with hzd;subst hzd;exact ⟨_,rfl⟩
    · injection (show some _=some zt from hzd) with hzd;subst hzd;exact ⟨_,rfl⟩
    · injection (show some _=some zt from hzd) with hzd;subst hzd;exact ⟨_,rfl⟩
    · injection (show some _=some zt from hzd) with hzd;subst hzd;exact ⟨_,rfl⟩
    · injection (show some _=some zt from hzd) with hzd;subst hzd;exact ⟨_,rfl⟩
    · injection (show some _=some zt from hzd) with hzd;subst hzd;exact ⟨_,rfl⟩
    · injection (show some _=some zt from hzd) with hzd;subst hzd;exact ⟨_,rfl⟩
    · injection (show some _=some zt from hzd) with hzd;subst hzd;exact ⟨_,rfl⟩
    · injection (show some _=some zt from hzd) with hzd;subst hzd;exact ⟨_,rfl⟩
    · injection (show some _=some zt from hzd) with hzd;subst hzd;exact ⟨_,rfl⟩
    · injection (show some _=some zt from hzd) with hzd;subst hzd;exact ⟨_,rfl⟩
    · injection (show some _=some zt from hzd) with hzd;subst hzd;exact ⟨_,rfl⟩
    · cases (show (none:Option Nat)=some zt from hzd)
    · injection (show some _=some zt from hzd) with hzd;subst hzd;exact ⟨_,rfl⟩
  · intro zi zo zt zd hzi hzia hzib hzo hzd hzG hzn
    rcases (by omega:zi=0∨zi=1∨zi=2∨zi=3∨zi=4∨zi=5∨zi=6∨zi=7∨zi=8∨zi=9∨zi=10∨zi=13) with rfl|rfl|rfl|rfl|rfl|rfl|rfl|rfl|rfl|rfl|rfl|rfl
    · injection (show some _ = some zo from hzo) with hzo; subst hzo; injection (show some _ = some zt from hzd) with hzd; subst hzd; injection (show some _ = some zd from hzG) with hzG; subst hzG
      exact (pure_load rfl ag83 rfl rfl)
    · injection (show some _ = some zo from hzo) with hzo; subst hzo; injection (show some _ = some zt from hzd) with hzd; subst hzd; injection (show some _ = some zd from hzG) with hzG; subst hzG
      exact (pure_func rfl rfl)
    · injection (show some _ = some zo from hzo) with hzo; subst hzo; injection (show some _ = some zt from hzd) with hzd; subst hzd; injection (show some _ = some zd from hzG) with hzG; subst hzG
      exact (pure_call rfl rfl rfl (hset) hM0)
    · injection (show some _ = some zo from hzo) with hzo; subst hzo; injection (show some _ = some zt from hzd) with hzd; subst hzd; injection (show some _ = some zd from hzG) with hzG; subst hzG
      exact (pure_field rfl fd31_0 rfl)
    · injection (show some _ = some zo from hzo) with hzo; subst hzo; injection (show some _ = some zt from hzd) with hzd; subst hzd; injection (show some _ = some zd from hzG) with hzG; subst hzG
      exact (pure_load rfl ag3 rfl rfl)
    · injection (show some _ = some zo from hzo) with hzo; subst hzo; injection (show some _ = some zt from hzd) with hzd; subst hzd; injection (show some _ = some zd from hzG) with hzG; subst hzG
      exact (pure_func rfl rfl)
    · injection (show some _ = some zo from hzo) with hzo; subst hzo; injection (show some _ = some zt from hzd) with hzd; subst hzd; injection (show some _ = some zd from hzG) with hzG; subst hzG
      exact (pure_func rfl rfl)
    · injection (show some _ = some zo from hzo) with hzo; subst hzo; injection (show some _ = some zt from hzd) with hzd; subst hzd; injection (show some _ = some zd from hzG) with hzG; subst hzG
      exact (pure_callD rfl rfl rfl (exploreB_call (U:=U) (next:=snext (minP d)) (final:=sfin) (size:=(minP d).k) (N:=2 ^ (minP d).n) (start:=(minP d).fin) ⟨by omega,by omega⟩ hU.cl hU.start hU.le2 hU.le hkm.1 (fun a ha b hb=>kvB_inj ((hUl a ha).trans (hUl b hb).symm)) (fun x hx s hs=>rev4_call hm (hUl x hx) hs) (fun x hx=>by rw [show encB x=.sc (setV (minP d).n fun k=>x.getD k false) from congrArg AV.sc (kvB_at (hUl x hx))];exact rev5_call (fun k=>x.getD k false) hn (by omega))) hM0)
    · injection (show some _ = some zo from hzo) with hzo; subst hzo; injection (show some _ = some zt from hzd) with hzd; subst hzd; injection (show some _ = some zd from hzG) with hzG; subst hzG
      exact (pure_move rfl rfl)
    · injection (show some _ = some zo from hzo) with hzo; subst hzo; injection (show some _ = some zt from hzd) with hzd; subst hzd; injection (show some _ = some zd from hzG) with hzG; subst hzG
      exact (pure_extract rfl rfl rfl)
    · injection (show some _ = some zo from hzo) with hzo; subst hzo; injection (show some _ = some zt from hzd) with hzd; subst hzd; injection (show some _ = some zd from hzG) with hzG; subst hzG
      exact (pure_extract rfl rfl rfl)
    · first|exact absurd hzn (by decide)
  · intro zi zo zt zd hzi hzia hzib hzo hzd hzG hzn hzn2
    rcases (by omega:zi=0∨zi=1∨zi=2∨zi=3∨zi=4∨zi=5∨zi=6∨zi=7∨zi=8∨zi=9∨zi=10∨zi=13) with rfl|rfl|rfl|rfl|rfl|rfl|rfl|rfl|rfl|rfl|rfl|rfl
    · injection (show some _ = some zo from hzo) with hzo; subst hzo; injection (show some _ = some zt from hzd) with hzd; subst hzd; injection (show some _ = some zd from hzG) with hzG; subst hzG
      exact (pure_load rfl ag83 rfl rfl)
    · injection (show some _ = some zo from hzo) with hzo; subst hzo; injection (show some _ = some zt from hzd) with hzd; subst hzd; injection (show some _ = some zd from hzG) with hzG; subst hzG
      exact (pure_func rfl rfl)
    · injection (show some _ = some zo from hzo) with hzo; subst hzo; injection (show some _ = some zt from hzd) with hzd; subst hzd; injection (show some _ = some zd from hzG) with hzG; subst hzG
      exact (pure_call rfl rfl rfl (hset) hM0)
    · injection (show some _ = some zo from hzo) with hzo; subst hzo; injection (show some _ = some zt from hzd) with hzd; subst hzd; injection (show some _ = some zd from hzG) with hzG; subst hzG
      exact (pure_field rfl fd31_0 rfl)
    · injection (show some _ = some zo from hzo) with hzo; subst hzo; injection (show some _ = some zt from hzd) with hzd; subst hzd; injection (show some _ = some zd from hzG) with hzG; subst hzG
      exact (pure_load rfl ag3 rfl rfl)
    · injection (show some _ = some zo from hzo) with hzo; subst hzo; injection (show some _ = some zt from hzd) with hzd; subst hzd; injection (show some _ = some zd from hzG) with hzG; subst hzG
      exact (pure_func rfl rfl)
    · injection (show some _ = some zo from hzo) with hzo; subst hzo; injection (show some _ = some zt from hzd) with hzd; subst hzd; injection (show some _ = some zd from hzG) with hzG; subst hzG
      exact (pure_func rfl rfl)
    · injection (show some _ = some zo from hzo) with hzo; subst hzo; injection (show some _ = some zt from hzd) with hzd; subst hzd; injection (show some _ = some zd from hzG) with hzG; subst hzG
      exact (pure_callD rfl rfl rfl (exploreB_call (U:=U) (next:=snext (minP d)) (final:=sfin) (size:=(minP d).k) (N:=2 ^ (minP d).n) (start:=(minP d).fin) ⟨by omega,by omega⟩ hU.cl hU.start hU.le2 hU.le hkm.1 (fun a ha b hb=>kvB_inj ((hUl a ha).trans (hUl b hb).symm)) (fun x hx s hs=>rev4_call hm (hUl x hx) hs) (fun x hx=>by rw [show encB x=.sc (setV (minP d).n fun k=>x.getD k false) from congrArg AV.sc (kvB_at (hUl x hx))];exact rev5_call (fun k=>x.getD k false) hn (by omega))) hM0)
    · injection (show some _ = some zo from hzo) with hzo; subst hzo; injection (show some _ = some zt from hzd) with hzd; subst hzd; injection (show some _ = some zd from hzG) with hzG; subst hzG
      exact (pure_move rfl rfl)
    · injection (show some _ = some zo from hzo) with hzo; subst hzo; injection (show some _ = some zt from hzd) with hzd; subst hzd; injection (show some _ = some zd from hzG) with hzG; subst hzG
      exact (pure_extract rfl rfl rfl)
    · injection (show some _ = some zo from hzo) with hzo; subst hzo; injection (show some _ = some zt from hzd) with hzd; subst hzd; injection (show some _ = some zd from hzG) with hzG; subst hzG
      exact (pure_extract rfl rfl rfl)
    · first|exact absurd hzn (by decide)|exact absurd hzn2 (by decide)
  · intro zi zo zt zd hzi hzia hzib hzo hzd hzG hzn
    rcases (by omega:zi=0∨zi=1∨zi=2∨zi=3∨zi=4∨zi=5∨zi=6∨zi=7∨zi=8∨zi=9∨zi=10∨zi=13) with rfl|rfl|rfl|rfl|rfl|rfl|rfl|rfl|rfl|rfl|rfl|rfl
    · first|exact absurd hzn (by decide)
    · first|exact absurd hzn (by decide)
    · first|exact absurd hzn (by decide)
    · first|exact absurd hzn (by decide)
    · first|exact absurd hzn (by decide)
    · first|exact absurd hzn (by decide)
    · first|exact absurd hzn (by decide)
    · first|exact absurd hzn (by decide)
    · first|exact absurd hzn (by decide)
    · first|exact absurd hzn (by decide)
    · injection (show some _ = some zo from hzo) with hzo; subst hzo; injection (show some _ = some zt from hzd) with hzd; subst hzd; injection (show some _ = some zd from hzG) with hzG; subst hzG
      exact (pure_extract rfl rfl rfl)
    · injection (show some _ = some zo from hzo) with hzo; subst hzo; injection (show some _ = some zt from hzd) with hzd; subst hzd; injection (show some _ = some zd from hzG) with hzG; subst hzG
      exact (pure_assign rfl rfl)
  · intro zo X hzo hXn hXG hXr
    injection (show some _=some zo from hzo) with hzo'
    exact step_allocD (t:=7) (by rw [← hzo'];rfl) (by rw [← hzo'];rfl) rfl rfl hXn ze31 rfl rfl (fun t' z h hne=>all_stays (by rfl) (hXG t' z h) hne) rfl hM0
  · intro zo X hzo hXn hXG hXr
    have hXu:7∈looks _ zo→X.lookup 7=some (.pbox 7 0):=fun h=>(hXr 7 h).trans rfl
    have hXv:28∈looks _ zo→X.lookup 28=some (.v .pl (dfa (subD (minP d)))):=fun h=>(hXr 28 h).trans rfl
    injection (show some _=some zo from hzo) with hzo'
    exact step_storeE (by rw [← hzo'];rfl) (step_storeD (u:=7) (v:=28) (id:=7) (by rw [← hzo'];rfl) (by rw [← hzo'];rfl) hXn sz31 (hXu (by rw [← hzo'];decide)) rfl (hXv (by rw [← hzo'];decide)) rfl (by decide) rfl rfl (fun t' z h=>all_stays0 (by rfl) (hXG t' z h)) rfl hM0)
  refine endL_of (n:=0) (by kernel_rfl) ?_
  refine ex_end (by kernel_rfl) ?_
  refine xD tb hM0 5 [2,7,30] [2,7] rfl ?_
  refine oP rfl (pure_to (b':=false) (pure_not rfl rfl) (rfl)) ?_
  refine xA tb hM0 8 [2,33] [2] rfl ?_
  refine oP rfl (pure_call rfl rfl rfl (min_call (d:=(subD (minP d)))) hM0) ?_
  refine xA tb hM0 5 [] [] rfl ?_
  refine endC2_ret rfl rfl ?_;rotate_left
  all_goals
    first
      | (rw [revZ_f (d:=d) (by assumption),revE_f (d:=d) (by assumption)];exact ⟨rfl,rfl⟩)
      | (rw [revZ_t (d:=d) (by assumption),revE_t (d:=d) (by assumption),← rev_min hd hF];exact ⟨rfl,rfl⟩)
end Go.Proofs.YtjimlkpfmbachaaGreat

