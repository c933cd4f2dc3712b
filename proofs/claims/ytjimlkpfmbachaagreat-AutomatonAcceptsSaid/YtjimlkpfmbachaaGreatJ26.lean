/-
  Contracts: what is reached from a pair of states;the least word that tells two automata apart.
-/
import Derived.Test.YtjimlkpfmbachaaGreatJ25
import Derived.Test.YtjimlkpfmbachaaGreatJ13
import Derived.Test.YtjimlkpfmbachaaGreatJ24
import Derived.Test.YtjimlkpfmbachaaGreatJ15
import Derived.Test.YtjimlkpfmbachaaGreatJ16
set_option linter.unusedVariables false
set_option linter.unusedSectionVars false
set_option linter.unusedSimpArgs false
namespace Go.Proofs.YtjimlkpfmbachaaGreat
open Go.Am Go.Wc Go.Wb Go.Wd
theorem fn76:FnC2 Tryz.prog 76 Tryz.f76.ntmps 8 31 3 9 (Tryz.f76.body.getD .skip):=⟨Tryz.f76,Tryz.func76,rfl,rfl,rfl,by kernel_rfl,ag31,sz31⟩
set_option maxRecDepth 100000 in
set_option maxHeartbeats 8000000 in
theorem exploreI_call {next:Nat→Nat→Nat} {final:Nat→Bool} {size start N:Nat} {sz:Int} {U:List Nat} {g h:FuncId} {cg ch:List AV} (hsz:1≤size∧size≤64) (hU:∀ x∈U,∀ s,s<size→next x s∈U) (h0:start∈U) (hN:U.length≤N) (hB:U.length≤2048) (hz:(size:Int)=sz)
    (hg:∀ x∈U,∀ s,s<size→CallF Tryz.prog g ([natI x,natI s]++cg) (.p (natI (next x s)))) (hh:∀ x∈U,CallF Tryz.prog h ([natI x]++ch) (.p (bool (final x)))) :
    CallF Tryz.prog 76 [natI start,int sz,.clo g cg,.clo h ch] (.p (.tup [dfa (mkD next size final (reach next size N start)),bool true])):=by
  subst hz
  refine callF_of_codeC2 fn76 (Nat.le_of_ble_eq_true rfl) fun w0 M0 hM0=>?_
  refine xC tb hM0 16 [0,1,2,3,8,10] [8,10] rfl ?_
  refine oS rfl (step_map rfl rfl rfl rfl rfl Tryz.underlying111 (fun q hq=>by cases hq<;>exact ⟨_,_,rfl⟩) hM0) rfl ?_
  refine xA tb hM0 1 [0,1,2,3,8,10,21,22] [8,10,21] rfl ?_
  refine oS rfl (step_insert rfl (step_put rfl rfl rfl Tryz.underlying111 Tryz.underlying3 rfl rfl rfl rfl rfl (fun q hq=>by cases hq) hM0)) rfl ?_
  refine xA tb hM0 7 [1,2,3,8,10,11,24] [8,10,21] rfl ?_
  refine oS rfl (step_lit rfl rfl rfl rfl Tryz.underlying22 el3 rfl rfl rfl rfl hM0) rfl ?_
  refine xA tb hM0 5 [1,2,3,8,10,11,12] [8,10,21,25] rfl ?_
  refine code_nilown 10 1 41 22 31 hM0 rfl rfl rfl rfl ?_
  refine code_nilown 10 2 42 4 31 hM0 rfl rfl rfl rfl ?_
  refine xK tb hM0 5 [1,2,3,8,10,11,12,13] [8,10,21,25,41,42] rfl ?_
  refine lp (fun zm zs=>∃ (l:List Nat) (i:Nat),zm=N+1-i∧(Ex next size U start N l i)∧zs=⟨89,[(1,.v .mx (natI size)),(2,.v .mx (.clo g cg)),(3,.v .mx (.clo h ch)),(8,.pbox 8 0),(10,.pbox 10 0),(11,.omap 21),(12,.own 25),(13,.v .pl (int i))],[(8,.box 31 [.v .pl (.sc (.int .i64 0)),.v .pl (.sc (.slice none 0 0)),.v .pl (.sc (.slice none 0 0))]),(10,.box 31 [.v .pl (natI size),.own 41,.own 42]),(21,.mp (l.map kvN) (vsC l.length)),(25,.arr 3 (l.map natI)),(41,.arr 22 ((rowsX next size l (l.take i)).map ints)),(42,.arr 4 ((finX final (l.take i)).map bool))]⟩) ?_ ?_
  refine ⟨_,[start],0,rfl,ex_start h0,?_⟩
  rw [← put_k0,← put_v0 (kv:=kvN) start];rfl
  rintro zm zs ⟨l,i,rfl,hL1_0,rfl⟩
  have hle:=hL1_0.le
  refine xA tb hM0 5 [1,2,3,8,10,11,12,13,26,27] [8,10,21,25,41,42] rfl ?_
  refine oP rfl (pure_lenm rfl Tryz.underlying22 rfl) ?_
  refine xA tb hM0 3 [1,2,3,8,10,11,12,13,29] [8,10,21,25,41,42] rfl ?_
  refine spC 29 rfl ?_ ?_<;>intro h1<;>try simp only [dq] at h1
  refine xA tb hM0 8 [1,2,3,8,10,11,12,13,32] [8,10,21,25,41,42] rfl ?_
  refine oS rfl (step_make rfl rfl rfl rfl Tryz.underlying22 el3 ze3 rfl rfl rfl (by omega) (by omega) (by omega) hM0) rfl ?_
  refine xA tb hM0 7 [1,2,3,8,10,11,12,13,14,34] [8,10,21,25,33,41,42] rfl ?_
  refine oP rfl (pure_toi (a':=(size:Int)) (pure_len rfl Tryz.underlying22 rfl) (by simp)) ?_
  refine xA tb hM0 4 [1,2,3,8,10,11,12,13,14,35,36] [8,10,21,25,33,41,42] rfl ?_
  have hi:i<l.length:=by omega
  have hxU:=hL1_0.met.sub _ (el_mem hi)
  refine lp (fun zm zs=>∃ s:Nat,zm=size-s∧(s≤size)∧zs=⟨89,[(1,.v .mx (natI size)),(2,.v .mx (.clo g cg)),(3,.v .mx (.clo h ch)),(8,.pbox 8 0),(10,.pbox 10 0),(11,.omap 21),(12,.own 25),(13,.v .pl (int i)),(14,.own 33),(35,.v .pl (natI size)),(36,.v .pl (int s))],[(8,.box 31 [.v .pl (.sc (.int .i64 0)),.v .pl (.sc (.slice none 0 0)),.v .pl (.sc (.slice none 0 0))]),(10,.box 31 [.v .pl (natI size),.own 41,.own 42]),(21,.mp ((grow next (l.getD i default) l s).map kvN) (vsC (grow next (l.getD i default) l s).length)),(25,.arr 3 ((grow next (l.getD i default) l s).map natI)),(33,.arr 3 ((rB next size (l.getD i default) l s).map int)),(41,.arr 22 ((rowsX next size l (l.take i)).map ints)),(42,.arr 4 ((finX final (l.take i)).map bool))]⟩) ?_ ?_
  refine ⟨_,0,rfl,Nat.zero_le _,?_⟩
  rw [rB_zero,← rep_mapI];rfl
  rintro zm zs ⟨s,rfl,hL2_0,rfl⟩
  have hgl:=grow_le hL1_0.met hU hxU hL2_0
  refine xA tb hM0 6 [1,2,3,8,10,11,12,13,14,35,36,37] [8,10,21,25,33,41,42] rfl ?_
  refine spC 37 rfl ?_ ?_<;>intro h2<;>try simp only [dq] at h2
  refine xA tb hM0 16 [1,2,3,8,10,11,12,13,14,15,35,36,39,40,41] [8,10,21,25,33,41,42] rfl ?_
  refine oP rfl (pure_index_own rfl Tryz.underlying22 sz3 rfl rfl rfl (by rw [List.length_map];have:=grow_len (next:=next) (x:=l.getD i default) (l:=l) s;omega)) ?_
  refine oP rfl (pure_load_pel rfl ag3 rfl rfl (mget (by have:=grow_len (next:=next) (x:=l.getD i default) (l:=l) s;omega)) rfl) ?_
  refine xA tb hM0 1 [1,2,3,8,10,11,12,13,14,15,35,36,39,43,44] [8,10,21,25,33,41,42] rfl ?_
  refine oP rfl (pure_call rfl rfl rfl (by have e:(grow next (l.getD i default) l s).getD (i:Int).toNat default=l.getD i default:=grow_at s hi;rw [e];exact hg _ hxU s (by omega)) hM0) ?_
  refine xA tb hM0 7 [1,2,3,8,10,11,12,13,14,15,16,35,36,47,48] [8,10,21,25,33,41,42] rfl ?_
  refine oP rfl (pure_tupl (pure_mlook2 rfl Tryz.underlying111 Tryz.underlying3 zv3 rfl rfl rfl rfl (fun q hq=>by obtain ⟨_,_,rfl⟩:=List.mem_map.1 hq;rfl) (look_x (kv:=kvN) kvN_inj _ _) (has_x (kv:=kvN) kvN_inj _ _))) ?_
  refine xA tb hM0 7 [1,2,3,8,10,11,12,13,14,15,16,17,18,35,36] [8,10,21,25,33,41,42] rfl ?_
  refine ct (fun zs=>zs=⟨89,[(1,.v .mx (natI size)),(2,.v .mx (.clo g cg)),(3,.v .mx (.clo h ch)),(8,.pbox 8 0),(10,.pbox 10 0),(11,.omap 21),(12,.own 25),(13,.v .pl (int i)),(14,.own 33),(15,.v .pl (int s)),(17,.v .pl (natI (idx (grow next (l.getD i default) l (s+1)) (next (l.getD i default) s)))),(35,.v .pl (natI size)),(36,.v .pl (int s))],[(8,.box 31 [.v .pl (.sc (.int .i64 0)),.v .pl (.sc (.slice none 0 0)),.v .pl (.sc (.slice none 0 0))]),(10,.box 31 [.v .pl (natI size),.own 41,.own 42]),(21,.mp ((grow next (l.getD i default) l (s+1)).map kvN) (vsC (grow next (l.getD i default) l (s+1)).length)),(25,.arr 3 ((grow next (l.getD i default) l (s+1)).map natI)),(33,.arr 3 ((rB next size (l.getD i default) l s).map int)),(41,.arr 22 ((rowsX next size l (l.take i)).map ints)),(42,.arr 4 ((finX final (l.take i)).map bool))]⟩) ?_ ?_
  refine xA tb hM0 6 [1,2,3,8,10,11,12,13,14,15,16,17,35,36,53] [8,10,21,25,33,41,42] rfl ?_
  refine spC 53 rfl ?_ ?_<;>intro h3<;>try simp only [dq] at h3
  refine xA tb hM0 4 [1,2,3,8,10,11,12,13,14,15,16,35,36,54] [8,10,21,25,33,41,42] rfl ?_
  refine oP rfl (pure_lenm rfl Tryz.underlying22 rfl) ?_
  refine xA tb hM0 10 [1,2,3,8,10,11,12,13,14,15,16,17,35,36,57] [8,10,21,25,33,41,42] rfl ?_
  refine spC 57 rfl ?_ ?_<;>intro h4<;>try simp only [dq] at h4
  have hlt:=grow_lt (s:=s) hL1_0.met hU hxU (by omega) (by assumption)
  omega
  --done
  refine xA tb hM0 8 [1,2,3,8,10,11,12,13,14,15,16,17,35,36,59,60,61] [8,10,21,25,33,41,42] rfl ?_
  refine oS rfl (step_put rfl rfl rfl Tryz.underlying111 Tryz.underlying3 rfl rfl rfl rfl rfl (fun q hq=>by obtain ⟨_,_,rfl⟩:=List.mem_map.1 hq;rfl) hM0) rfl ?_
  refine xA tb hM0 5 [1,2,3,8,10,11,13,14,15,17,35,36,62,63] [8,10,21,25,33,41,42] rfl ?_
  refine oP rfl (pure_lit rfl Tryz.underlying22 el3 rfl rfl rfl rfl hM0) ?_
  refine oS rfl (step_append rfl rfl rfl rfl Tryz.underlying22 el3 rfl rfl hM0 (src_pl rfl (one_len (by rfl))) (by rw [List.length_map];simp only [List.length_cons,List.length_nil];omega) (by rw [List.length_map];simp only [List.length_cons,List.length_nil];omega)) rfl ?_
  refine xA tb hM0 2 [1,2,3,8,10,11,12,13,14,15,17,35,36] [8,10,21,25,33,41,42] rfl ?_
  refine cx ?_
  have q:=(by assumption:next (l.getD i default) s ∉ (grow next (l.getD i default) l s))
  rw [show (Value.int .i64 (next (l.getD i default) s:Nat))=kvN (next (l.getD i default) s) from rfl,grow_new q,idx_new q,put_kx (kv:=kvN) kvN_inj q,put_vx (kv:=kvN) kvN_inj q,List.map_append (f:=natI)]
  rfl
  refine xA tb hM0 2 [1,2,3,8,10,11,12,13,14,15,17,35,36] [8,10,21,25,33,41,42] rfl ?_
  refine cx ?_
  rw [grow_old (by assumption),if_pos (by assumption)]
  rintro zs ⟨rfl⟩
  refine xA tb hM0 4 [1,2,3,8,10,11,12,13,14,35,36,66,67,68] [8,10,21,25,33,41,42] rfl ?_
  refine oP rfl (pure_index_own rfl Tryz.underlying22 sz3 rfl rfl rfl (by rw [List.length_map,rB_len (size:=size) (s:=s) (by omega)];omega)) ?_
  refine oS rfl (step_store_pel rfl rfl rfl sz3 rfl rfl (mget (by rw [rB_len (size:=size) (s:=s) (by omega)];omega)) rfl rfl (.inl rfl) rfl (Nat.le_of_ble_eq_true rfl) hM0) rfl ?_
  refine xA tb hM0 4 [1,2,3,8,10,11,12,13,14,35,36] [8,10,21,25,33,41,42] rfl ?_
  refine oP rfl (pure_addi rfl rfl rfl (by omega)) ?_
  refine xA tb hM0 2 [1,2,3,8,10,11,12,13,14,35,36] [8,10,21,25,33,41,42] rfl ?_
  refine nx ?_
  refine ⟨_,⟨s+1,rfl,by omega,?_⟩,by omega⟩
  rw [← rB_set (by omega)];rfl
  refine xA tb hM0 7 [1,2,3,8,10,11,12,13,14] [8,10,21,25,33,41,42] rfl ?_
  refine code_frz 89 [(1,_),(2,_),(3,_),(8,_),(10,_),(11,_),(12,_),(13,_),(14,_)] [(8,_),(10,_),(21,_),(25,_),(41,_),(42,_)] hM0 rfl ⟨.inl rfl,.inl rfl,.inl rfl,.inl rfl,.inl rfl,.inl rfl,.inl rfl,.inl rfl,.inr ⟨_,_,rfl,rfl,rfl⟩,trivial⟩ ⟨rfl,rfl,rfl,rfl,rfl,rfl,trivial⟩ ?_
  obtain rfl:size=s:=by omega
  refine xK tb hM0 4 [1,2,3,8,10,11,12,13,72,73] [8,10,21,25,41,42] rfl ?_
  refine oP rfl (pure_lit rfl Tryz.underlying28 el22 rfl rfl rfl rfl hM0) ?_
  refine oS rfl (step_append rfl rfl rfl rfl Tryz.underlying28 el22 rfl rfl hM0 (src_pl rfl (one_len (by rfl))) (by rw [List.length_map,rows_len,List.length_take];simp only [List.length_cons,List.length_nil];omega) (by rw [List.length_map,rows_len,List.length_take];simp only [List.length_cons,List.length_nil];omega)) rfl ?_
  refine xA tb hM0 4 [1,2,3,8,10,11,12,13] [8,10,21,25,41,42] rfl ?_
  refine code_draw mixed (by kernel_rfl) _ rfl ?_
  refine dl_pure rfl rfl rfl (pure_field_box rfl fd31_2 rfl rfl) ?_
  refine dl_pure rfl rfl rfl (pure_load_box rfl ag29 rfl rfl rfl) ?_
  refine dl_pure rfl rfl rfl (pure_move rfl rfl) ?_
  refine dl_pure rfl rfl rfl (pure_move rfl rfl) ?_
  refine dl_pure rfl rfl rfl (pure_move rfl rfl) ?_
  refine dl_pure rfl rfl rfl (pure_index_own rfl Tryz.underlying22 sz3 rfl rfl rfl (by rw [List.length_map];have:=grow_len (next:=next) (x:=l.getD i default) (l:=l) size;omega)) ?_
  refine dl_pure rfl rfl rfl (pure_load_pel rfl ag3 rfl rfl (mget (by have:=grow_len (next:=next) (x:=l.getD i default) (l:=l) size;omega)) rfl) ?_
  refine dpk 89 [(1,_),(2,_),(3,_),(8,_),(10,_),(11,_),(12,_),(13,_),(78,_),(79,_),(83,_)] [(8,_),(10,_),(21,_),(25,_),(41,_),(42,_)] rfl rfl rfl ?_
  refine dl_pure rfl rfl rfl (pure_call rfl rfl rfl (by have e:(grow next (l.getD i default) l size).getD (i:Int).toNat default=l.getD i default:=grow_at size hi;rw [e];exact hh _ hxU) hM0) ?_
  refine dl_pure rfl rfl rfl (pure_lit rfl Tryz.underlying29 el4 rfl rfl rfl rfl hM0) ?_
  refine dl_tails (by kernel_rfl) ?_
  refine tl_step rfl (step_append rfl rfl rfl rfl Tryz.underlying29 el4 rfl rfl hM0 (src_pl rfl (one_len (by rfl))) (by rw [List.length_map,fin_len,List.length_take];simp only [List.length_cons,List.length_nil];omega) (by rw [List.length_map,fin_len,List.length_take];simp only [List.length_cons,List.length_nil];omega)) ?_
  refine tl_pure rfl rfl rfl (pure_field_box rfl fd31_2 rfl rfl) ?_
  refine tl_step rfl (step_store_box_own rfl rfl rfl sz29 rfl rfl rfl rfl rfl hM0) ?_
  refine tl_nil ?_
  refine xD tb hM0 4 [1,2,3,8,10,11,12,30] [8,10,21,25,41,42] rfl ?_
  refine oP rfl (pure_addi rfl rfl rfl (by omega)) ?_
  refine xA tb hM0 2 [1,2,3,8,10,11,12,13] [8,10,21,25,41,42] rfl ?_
  refine nx ?_
  refine ⟨_,⟨grow next (l.getD i default) l size,i+1,rfl,hL1_0.step hU hN hi rfl,?_⟩,by omega⟩
  rw [rows_step hL1_0.met hi rfl,fin_step hi rfl,List.map_append,List.map_append];rfl
  refine xA tb hM0 7 [8,10] [8,10,41,42] rfl ?_
  refine code_frz 89 [(8,_),(10,_)] [(8,_)] hM0 rfl ⟨.inl rfl,.inr ⟨_,_,rfl,rfl,rfl⟩,trivial⟩ ⟨rfl,trivial⟩ ?_
  have e1:l.take i=l:=List.take_of_length_le (by omega)
  have e2:=hL1_0.fin (by omega)
  rw [e1]
  refine xK tb hM0 7 [] [] rfl ?_
  refine endC2_ret rfl rfl ?_
  refine ⟨?_,rfl⟩
  rw [e2];rfl
end Go.Proofs.YtjimlkpfmbachaaGreat

namespace Go.Proofs.YtjimlkpfmbachaaGreat
open Go.Am Go.Wc Go.Wb Go.Wd
theorem keyed74:Maps.Keyed Tryz.prog 74:=.of_law (deep_law_laid (P:=Tryz.prog) (m:=2) (by kernel_rfl) (by omega) (of_decide_eq_true (by kernel_rfl)) (by kernel_rfl) (by kernel_rfl))
theorem pk_ok {x:Nat×Nat} (h:smallP x):∃ l,keyOf Tryz.prog 74 (kvP x)=some l :=
  keyOf_pair (n:=Tryz.prog.types.size-1) Tryz.underlying74 Tryz.underlying3 sz74 sz3 (by kernel_rfl) (by kernel_rfl)
    (by have:=h.1;simp only [Lit.wf,Bool.and_eq_true,decide_eq_true_eq];exact ⟨Int.le_trans (by decide) (Int.natCast_nonneg _),by show (x.1:Int)≤9223372036854775807;omega⟩) (by have:=h.2;simp only [Lit.wf,Bool.and_eq_true,decide_eq_true_eq];exact ⟨Int.le_trans (by decide) (Int.natCast_nonneg _),by show (x.2:Int)≤9223372036854775807;omega⟩)
theorem fn58:Fn2 Tryz.prog 58 Tryz.f58.ntmps 8 9 (Tryz.f58.body.getD .skip):=⟨Tryz.f58,Tryz.func58,rfl,rfl,rfl,by kernel_rfl⟩
set_option maxRecDepth 100000 in
set_option maxHeartbeats 8000000 in
theorem searchP_call {next:Nat×Nat→Nat→Nat×Nat} {good:Nat×Nat→Bool} {size N:Nat} {start:Nat×Nat} {sz:Int} {U:List (Nat×Nat)} {g h:FuncId} {cg ch:List AV} (hsz:1≤size∧size≤64) (hU:∀ x∈U,∀ s,s<size→next x s∈U) (h0:start∈U) (hN:U.length≤N) (hB:U.length≤4194304) (hz:(size:Int)=sz) (hS:∀ x∈U,smallP x)
    (hg:∀ x∈U,∀ s,s<size→CallF Tryz.prog g ([pairI x,natI s]++cg) (.p (pairI (next x s)))) (hh:∀ x∈U,CallF Tryz.prog h ([pairI x]++ch) (.p (bool (good x)))) :
    CallF Tryz.prog 58 [pairI start,int sz,.clo g cg,.clo h ch] (.p (.tup [resW (seekW next size good (N+1) 0 [(start,[])]),bool (seekW next size good (N+1) 0 [(start,[])]).isSome])):=by
  subst hz
  refine callF_of_code2 fn58 (Nat.le_of_ble_eq_true rfl) fun w0 M0 hM0=>?_
  refine xC tb hM0 2 [0,1,2,3] [] rfl ?_
  refine oP rfl (pure_box rfl rfl rfl hM0) ?_
  refine xA tb hM0 6 [1,2,3,4] [] rfl ?_
  refine oS rfl (step_map rfl rfl rfl rfl rfl Tryz.underlying106 (fun q hq=>by cases hq<;>exact ⟨_,_,rfl⟩) hM0) rfl ?_
  refine xA tb hM0 1 [1,2,3,4,17,18] [17] rfl ?_
  refine oS rfl (step_insert rfl (step_putK keyed74 rfl rfl rfl Tryz.underlying106 rfl rfl rfl rfl ((pk_ok (hS _ h0)).choose_spec) (fun q hq=>by cases hq) (List.nodup_nil) hM0)) rfl ?_
  refine xA tb hM0 6 [1,2,3,4,10] [17] rfl ?_
  refine oP rfl (pure_aggl (pure_load_agg rfl ag74 sz74 rfl (Nat.le_of_ble_eq_true rfl)) rfl) ?_
  refine xA tb hM0 1 [1,2,3,10,21] [17] rfl ?_
  refine oS rfl (step_lit rfl rfl rfl rfl Tryz.underlying109 el108 rfl rfl rfl rfl hM0) rfl ?_
  refine xA tb hM0 10 [1,2,3,10,11,12] [17,22] rfl ?_
  refine lp (fun zm zs=>∃ (T:List (Stp (Nat×Nat))) (P:List (Pth (Nat×Nat))) (i:Nat),zm=N+1-i∧(Sr next size start U good N T P i)∧zs=⟨85,[(1,.v .mx (natI size)),(2,.v .mx (.clo g cg)),(3,.v .mx (.clo h ch)),(10,.omap 17),(11,.own 22),(12,.v .pl (int i))],[(17,.mp (ksW kvP P) (vsW P.length)),(22,.arr 108 (T.map stpP))]⟩) ?_ ?_
  refine ⟨_,[(start,-1,0)],[(start,[])],0,rfl,sr_start h0,?_⟩
  rfl
  rintro zm zs ⟨T,P,i,rfl,hL1_0,rfl⟩
  have hSr:=hL1_0
  have hle:=hSr.le
  have htl:=hSr.tr.len
  have hpl:=sk_len hSr.sk
  refine xA tb hM0 5 [1,2,3,10,11,12,23,24] [17,22] rfl ?_
  refine oP rfl (pure_lenm rfl Tryz.underlying109 rfl) ?_
  refine xA tb hM0 3 [1,2,3,10,11,12,26] [17,22] rfl ?_
  refine spC 26 rfl ?_ ?_<;>intro h1<;>try simp only [dq] at h1
  refine xA tb hM0 7 [1,2,3,10,11,12] [17,22] rfl ?_
  have hi:i<P.length:=by omega
  have hxU:(P.getD i default).1∈U:=hSr.sk.sub _ (el_mem hi)
  refine xA tb hM0 4 [1,2,3,10,11,12,29,30,31] [17,22] rfl ?_
  refine oP rfl (pure_index_own rfl Tryz.underlying109 sz108 rfl rfl rfl (by rw [List.length_map];omega)) ?_
  refine oP rfl (pure_field_pel rfl fd108_0 rfl rfl) ?_
  refine xA tb hM0 0 [1,2,3,10,11,12,29,33] [17,22] rfl ?_
  refine oP rfl (pure_load_pel_part rfl ag74 sz74 rfl rfl sz108 (by decide) (mget (by omega))) ?_
  refine oP rfl (pure_call rfl rfl rfl (by have e:(T.getD (i:Int).toNat default).1=(P.getD i default).1:=hSr.tr.key i hi;show CallF _ _ ([pairI (T.getD (i:Int).toNat default).1]++ch) _;rw [e];exact hh _ hxU) hM0) ?_
  refine xA tb hM0 2 [1,2,3,10,11,12,35] [17,22] rfl ?_
  refine spC 35 rfl ?_ ?_<;>intro h2<;>try simp only [dq] at h2
  have hgd:good (P.getD i default).1=true:=by assumption
  have hres:=hSr.hit hN hi hgd
  refine xA tb hM0 3 [11,12] [22] rfl ?_
  refine oS rfl (step_nil rfl rfl rfl rfl rfl 3 hM0) rfl ?_
  refine xA tb hM0 10 [11,13,14] [13,22] rfl ?_
  refine lp (fun zm zs=>∃ (at_:Nat) (ws:List Nat),zm=i+at_∧(at_≤i)∧(ws.length+at_≤i)∧((P.getD i default).2=(P.getD at_ default).2++ws.reverse)∧zs=⟨85,[(11,.own 22),(13,.own 13),(14,.v .pl (int at_))],[(13,.arr 3 ((natL ws).map int)),(22,.arr 108 (T.map stpP))]⟩) ?_ ?_
  exact ⟨_,i,[],rfl,Nat.le_refl _,by simp,by simp,rfl⟩
  rintro zm zs ⟨at_,ws,rfl,hL2_0,hL2_1,hL2_2,rfl⟩
  refine xA tb hM0 5 [11,13,14,37,38] [13,22] rfl ?_
  refine oP rfl (pure_index_own rfl Tryz.underlying109 sz108 rfl rfl rfl (by rw [List.length_map];omega)) ?_
  refine oP rfl (pure_field_pel rfl fd108_1 rfl rfl) ?_
  refine xA tb hM0 0 [11,13,14,40] [13,22] rfl ?_
  refine oP rfl (pure_load_pel rfl ag3 rfl rfl (mget (by omega)) rfl) ?_
  refine xA tb hM0 3 [11,13,14,42] [13,22] rfl ?_
  refine spC 42 rfl ?_ ?_<;>intro h3<;>try simp only [dq] at h3
  have hw:=hSr.tr.way at_ (by omega)
  obtain ⟨f,t,hf1,hf2,hf3,hf4⟩:∃ f s:Nat,f<at_∧(T.getD at_ default).2.1=(f:Int)∧(T.getD at_ default).2.2=(s:Int)∧(P.getD at_ default).2=(P.getD f default).2++[s]:=hw.resolve_left (fun q=>by omega)
  refine xA tb hM0 9 [11,14,48,49,50] [13,22] rfl ?_
  refine oP rfl (pure_index_own rfl Tryz.underlying109 sz108 rfl rfl rfl (by rw [List.length_map];omega)) ?_
  refine oP rfl (pure_field_pel rfl fd108_2 rfl rfl) ?_
  refine xA tb hM0 0 [11,14,48,52] [13,22] rfl ?_
  refine oP rfl (pure_load_pel rfl ag3 rfl rfl (mget (by omega)) rfl) ?_
  refine oP rfl (pure_lit rfl Tryz.underlying22 el3 rfl rfl rfl rfl hM0) ?_
  refine xA tb hM0 0 [11,14,48,54] [13,22] rfl ?_
  refine oS rfl (step_append rfl rfl rfl rfl Tryz.underlying22 el3 rfl rfl hM0 (src_pl rfl (one_len (by rfl))) (by simp only [List.length_map,List.length_cons,List.length_nil];omega) (by simp only [List.length_map,List.length_cons,List.length_nil];omega)) rfl ?_
  refine xA tb hM0 7 [11,13,43,44] [13,22] rfl ?_
  refine oP rfl (pure_index_own rfl Tryz.underlying109 sz108 rfl rfl rfl (by rw [List.length_map];omega)) ?_
  refine oP rfl (pure_field_pel rfl fd108_1 rfl rfl) ?_
  refine xA tb hM0 0 [11,13,46] [13,22] rfl ?_
  refine oP rfl (pure_load_pel rfl ag3 rfl rfl (mget (by omega)) rfl) ?_
  refine xA tb hM0 2 [11,13,14] [13,22] rfl ?_
  refine nx ?_
  refine ⟨_,⟨f,ws++[t],rfl,by omega,by simp only [List.length_append,List.length_cons,List.length_nil];omega,by rw [hL2_2,hf4];simp,?_⟩,by omega⟩
  rw [← hf2,natL_snoc,List.map_append,← hf3];rfl
  have hw2:(P.getD at_ default).2=[]:=(hSr.tr.way at_ (by omega)).elim (fun q=>q.2) (fun ⟨f,t,q1,q2,q3,q4⟩=>by omega)
  refine xA tb hM0 7 [13] [13] rfl ?_
  have hres2:(P.getD i default).2=ws.reverse:=by rw [hL2_2,hw2];rfl
  refine xA tb hM0 2 [13,56] [13] rfl ?_
  refine oS rfl (step_revI revsI rfl rfl rfl rfl rfl rfl sz3 (by rw [List.length_map];omega) hM0) rfl ?_
  refine xA tb hM0 16 [] [] rfl ?_
  refine end2_ret rfl rfl ?_
  rw [hres]
  refine ⟨?_,rfl⟩
  show AV.sl (((natL ws).reverse).map int)=nats (P.getD i default).2
  rw [hres2,show (natL ws).reverse=natL ws.reverse from List.map_reverse.symm,natL_nats]
  have hgd:good (P.getD i default).1=false:=by assumption
  refine xA tb hM0 10 [1,2,3,10,11,12,59,60] [17,22] rfl ?_
  refine lp (fun zm zs=>∃ (T2:List (Stp (Nat×Nat))) (s:Nat),zm=size-s∧(s≤size)∧(Tr T2 (growW next (P.getD i default) P s))∧zs=⟨85,[(1,.v .mx (natI size)),(2,.v .mx (.clo g cg)),(3,.v .mx (.clo h ch)),(10,.omap 17),(11,.own 22),(12,.v .pl (int i)),(59,.v .mx (natI size)),(60,.v .pl (int s))],[(17,.mp (ksW kvP (growW next (P.getD i default) P s)) (vsW (growW next (P.getD i default) P s).length)),(22,.arr 108 (T2.map stpP))]⟩) ?_ ?_
  exact ⟨_,T,0,rfl,Nat.zero_le _,hSr.tr,rfl⟩
  rintro zm zs ⟨T2,s,rfl,hL3_0,hL3_1,rfl⟩
  have hgr:=hSr.grow hU hi hL3_0
  have hgl:=hgr.2.length_le
  have hgu:=hgr.1
  have htl2:=hL3_1.len
  have hPi:(growW next (P.getD i default) P s).getD i default=(P.getD i default):=pre_at hgr.2 hi
  have hT2:(T2.getD i default).1=(P.getD i default).1:=(hL3_1.key i (by omega)).trans (congrArg Prod.fst hPi)
  have hsk:=(hSr.sk.grow hU (pth_get hi) s hL3_0).1
  have hnd2:=hsk.nodup
  have hsb:∀ z∈keysW (growW next (P.getD i default) P s),z∈U:=fun z hz=>by obtain ⟨p,hp,rfl⟩:=List.mem_map.1 hz;exact hsk.sub p hp
  have hkn:s<size→∃ l,keyOf Tryz.prog 74 (kvP (next (P.getD i default).1 s))=some l:=fun h=>pk_ok (hS _ (hU _ hxU s h))
  refine xA tb hM0 6 [1,2,3,10,11,12,59,60,61] [17,22] rfl ?_
  refine spC 61 rfl ?_ ?_<;>intro h4<;>try simp only [dq] at h4
  refine xA tb hM0 16 [1,2,3,10,11,12,15,59,60,63,64,65] [17,22] rfl ?_
  refine oP rfl (pure_index_own rfl Tryz.underlying109 sz108 rfl rfl rfl (by rw [List.length_map];omega)) ?_
  refine oP rfl (pure_field_pel rfl fd108_0 rfl rfl) ?_
  refine xA tb hM0 0 [1,2,3,10,11,12,15,59,60,63,67] [17,22] rfl ?_
  refine oP rfl (pure_load_pel_part rfl ag74 sz74 rfl rfl sz108 (by decide) (mget (by omega))) ?_
  refine xA tb hM0 1 [1,2,3,10,11,12,15,59,60,63,68,69] [17,22] rfl ?_
  refine oP rfl (pure_call rfl rfl rfl (by have e:(T2.getD (i:Int).toNat default).1=(P.getD i default).1:=hT2;show CallF _ _ ([pairI (T2.getD (i:Int).toNat default).1,natI s]++cg) _;rw [e];exact hg _ hxU s (by omega)) hM0) ?_
  refine xA tb hM0 8 [1,2,3,10,11,12,15,16,59,60,71,72] [16,17,22] rfl ?_
  refine oP rfl (pure_scl (pure_mlookK keyed74 rfl Tryz.underlying106 zv4 rfl rfl rfl (hkn (by omega)).choose_spec (fun q hq=>by obtain ⟨z,hz,rfl⟩:=List.mem_map.1 hq;exact pk_ok (hS z (hsb z hz))) (nodup_kv kvP_inj hnd2) (look_w (kv:=kvP) kvP_inj _ _))) ?_
  refine xA tb hM0 3 [1,2,3,10,11,12,15,16,59,60,74] [16,17,22] rfl ?_
  refine spC 74 rfl ?_ ?_<;>intro h5<;>try simp only [dq] at h5
  refine xA tb hM0 5 [1,2,3,10,11,12,15,16,59,60,75,76] [16,17,22] rfl ?_
  refine oS rfl (step_putK keyed74 rfl rfl rfl Tryz.underlying106 rfl rfl rfl rfl ((hkn (by omega)).choose_spec) (fun q hq=>by obtain ⟨z,hz,rfl⟩:=List.mem_map.1 hq;exact pk_ok (hS z (hsb z hz))) (nodup_kv kvP_inj hnd2) hM0) rfl ?_
  refine xA tb hM0 8 [1,2,3,10,12,59,60,77,81] [17,22] rfl ?_
  refine oP rfl (pure_lit rfl Tryz.underlying109 el108 rfl rfl rfl rfl hM0) ?_
  refine oS rfl (step_append rfl rfl rfl rfl Tryz.underlying109 el108 rfl rfl hM0 (src_pl rfl (one_len (by rfl))) (by rw [List.length_map];simp only [List.length_cons,List.length_nil];omega) (by rw [List.length_map];simp only [List.length_cons,List.length_nil];omega)) rfl ?_
  refine xA tb hM0 5 [1,2,3,10,11,12,59,60] [17,22] rfl ?_
  refine oP rfl (pure_addi rfl rfl rfl (by omega)) ?_
  refine xA tb hM0 2 [1,2,3,10,11,12,59,60] [17,22] rfl ?_
  refine nx ?_
  have hnew:next (P.getD i default).1 s ∉ keysW (growW next (P.getD i default) P s):=by assumption
  have hsn:=hL3_1.snoc (k:=next (P.getD i default).1 s) (i:=i) (s:=s) (by omega)
  rw [hPi] at hsn
  refine ⟨_,⟨T2++[(next (P.getD i default).1 s,(i:Int),(s:Int))],s+1,rfl,by omega,by rw [growW_new hnew];exact hsn,?_⟩,by omega⟩
  rw [growW_new hnew,← put_kw (kv:=kvP) kvP_inj hnew,← put_vw (kv:=kvP) kvP_inj hnew,List.map_append];rfl
  refine xA tb hM0 5 [1,2,3,10,11,12,59,60] [17,22] rfl ?_
  refine oP rfl (pure_addi rfl rfl rfl (by omega)) ?_
  refine xA tb hM0 2 [1,2,3,10,11,12,59,60] [17,22] rfl ?_
  refine nx ?_
  have hold:next (P.getD i default).1 s∈keysW (growW next (P.getD i default) P s):=by assumption
  exact ⟨_,⟨T2,s+1,rfl,by omega,by rw [growW_old hold];exact hL3_1,by rw [growW_old hold];rfl⟩,by omega⟩
  refine xA tb hM0 7 [1,2,3,10,11,12] [17,22] rfl ?_
  obtain rfl:size=s:=by omega
  refine xA tb hM0 2 [1,2,3,10,11,27] [17,22] rfl ?_
  refine oP rfl (pure_addi rfl rfl rfl (by omega)) ?_
  refine xA tb hM0 2 [1,2,3,10,11,12] [17,22] rfl ?_
  refine nx ?_
  exact ⟨_,⟨T2,(growW next (P.getD i default) P size),i+1,rfl,hSr.step hU hN hi hgd hL3_1,rfl⟩,by omega⟩
  refine xA tb hM0 13 [] [] rfl ?_
  refine end2_ret rfl rfl ?_
  rw [hSr.miss (by omega)]
  exact ⟨rfl,rfl⟩
end Go.Proofs.YtjimlkpfmbachaaGreat

namespace Go.Proofs.YtjimlkpfmbachaaGreat
open Go.Am Go.Wc Go.Wb Go.Wd
theorem fn98:FnC Tryz.prog 98 Tryz.f98.ntmps 6 74 2 (Tryz.f98.body.getD .skip):=⟨Tryz.f98,Tryz.func98,rfl,rfl,rfl,by kernel_rfl,ag74,sz74⟩
set_option maxRecDepth 100000 in
set_option maxHeartbeats 2000000 in
theorem steps1_call {a b:Dfa} {x:Nat×Nat} {s:Nat} (ha:okD a) (hb:okD b) (hk:a.size=b.size) (hx:x.1<a.next.length∧x.2<b.next.length) (hs:s<a.k):CallF Tryz.prog 98 ([pairI x,natI s]++[dpc a,dpc b]) (.p (pairI (pnext a b x s))):=by
  have hka:=kk ha
  have hkb:=kk hb
  have hra:=(ha.row hx.1).1
  have hrb:=(hb.row hx.2).1
  refine callF_of_codeC fn98 (Nat.le_of_ble_eq_true rfl) fun w0 M0 hM0=>?_
  refine xC tb hM0 2 [0,1,2,3] [] rfl ?_
  refine oP rfl (pure_box rfl rfl rfl hM0) ?_
  refine xA tb hM0 4 [1,2,3,4,6] [6] rfl ?_
  refine code_draw mixed (by kernel_rfl) _ rfl ?_
  refine dl_pure rfl rfl rfl (pure_field rfl fd31_1 rfl) ?_
  refine dl_pure rfl rfl rfl (pure_load rfl ag28 rfl rfl) ?_
  refine dl_pure rfl rfl rfl (pure_index_pc rfl Tryz.underlying74 sz3 rfl rfl (by decide)) ?_
  refine dl_pure rfl rfl rfl (pure_load rfl ag3 rfl rfl) ?_
  refine dl_pure rfl rfl rfl (pure_ix rfl Tryz.underlying28 sz22 rfl rfl (by exact ⟨Int.natCast_nonneg _,Int.ofNat_lt.2 hx.1⟩) (fun _=>rfl)) ?_
  refine dl_pure rfl rfl rfl (pure_load rfl ag22 rfl rfl) ?_
  refine dl_pure rfl rfl rfl (pure_move rfl rfl) ?_
  refine dpk 26 [(1,_),(3,_),(4,_),(6,_),(12,_),(13,_)] [(6,_)] rfl rfl rfl ?_
  refine dl_pure rfl rfl rfl (pure_ix rfl Tryz.underlying22 sz3 rfl rfl (by exact ⟨Int.natCast_nonneg _,Int.ofNat_lt.2 (show s<_ by omega)⟩) (fun _=>rfl)) ?_
  refine dl_pure rfl rfl rfl (pure_load rfl ag3 rfl rfl) ?_
  refine dl_pure rfl rfl rfl (pure_field rfl fd31_1 rfl) ?_
  refine dl_pure rfl rfl rfl (pure_load rfl ag28 rfl rfl) ?_
  refine dl_pure rfl rfl rfl (pure_index_pc rfl Tryz.underlying74 sz3 rfl rfl (by decide)) ?_
  refine dl_pure rfl rfl rfl (pure_load rfl ag3 rfl rfl) ?_
  refine dl_pure rfl rfl rfl (pure_ix rfl Tryz.underlying28 sz22 rfl rfl (by exact ⟨Int.natCast_nonneg _,Int.ofNat_lt.2 hx.2⟩) (fun _=>rfl)) ?_
  refine dpk 26 [(1,_),(6,_),(15,_),(20,_)] [(6,_)] rfl rfl rfl ?_
  refine dl_pure rfl rfl rfl (pure_load rfl ag22 rfl rfl) ?_
  refine dl_pure rfl rfl rfl (pure_move rfl rfl) ?_
  refine dl_pure rfl rfl rfl (pure_ix rfl Tryz.underlying22 sz3 rfl rfl (by exact ⟨Int.natCast_nonneg _,Int.ofNat_lt.2 (show s<_ by omega)⟩) (fun _=>rfl)) ?_
  refine dl_pure rfl rfl rfl (pure_load rfl ag3 rfl rfl) ?_
  refine dl_pure rfl rfl rfl (pure_build2 rfl Tryz.underlying74 sz3 ze74 rfl rfl rfl rfl) ?_
  refine dl_tails (by kernel_rfl) ?_
  refine tl_step rfl (step_store_box rfl rfl rfl sz74 rfl rfl rfl rfl (by decide) rfl rfl hM0) ?_
  refine tl_nil ?_
  refine xD tb hM0 2 [] [] rfl ?_
  refine endC_ret rfl ?_
  have e1:=ha.cellN hx.1 (k:=s) (by omega)
  have e2:=hb.cellN hx.2 (k:=s) (by omega)
  have e3:pairI (pnext a b x s)=.agg [int ((a.next.getD x.1 default).getD s default),int ((b.next.getD x.2 default).getD s default)]:=by rw [e1,e2];rfl
  exact (by rw [e3];first|done|rfl)
theorem fn59:Fn1 Tryz.prog 59 Tryz.f59.ntmps 4 (Tryz.f59.body.getD .skip):=⟨Tryz.f59,Tryz.func59,rfl,rfl,rfl,by kernel_rfl⟩
set_option maxRecDepth 100000 in
theorem steps_call {a b:Dfa}:CallN Tryz.prog 59 [dfa a,dfa b] (.p (.clo 98 [dpc a,dpc b])):=by
  refine callN_of_code fn59 (Nat.le_of_ble_eq_true rfl) fun w0 M0 hM0=>?_
  refine xC tb hM0 2 [0,1] [] rfl ?_
  refine oP rfl (pure_box rfl rfl rfl hM0) ?_
  refine oP rfl (pure_box rfl rfl rfl hM0) ?_
  refine xA tb hM0 5 [2,3] [] rfl ?_
  refine oP rfl (pure_func rfl rfl) ?_
  refine xA tb hM0 4 [] [] rfl ?_
  refine end_ret rfl ?_
  rfl
theorem fn60:Fn1 Tryz.prog 60 Tryz.f60.ntmps 4 (Tryz.f60.body.getD .skip):=⟨Tryz.f60,Tryz.func60,rfl,rfl,rfl,by kernel_rfl⟩
set_option maxRecDepth 100000 in
set_option maxHeartbeats 2000000 in
theorem differ1_call {a b:Dfa} {x:Nat×Nat} (hx:x.1<a.fin.length∧x.2<b.fin.length):CallF Tryz.prog 60 ([pairI x]++[dpc a,dpc b]) (.p (bool (dgood a b x))):=by
  refine callF_of_code fn60 (Nat.le_of_ble_eq_true rfl) fun w0 M0 hM0=>?_
  refine xC tb hM0 2 [0,1,2] [] rfl ?_
  refine oP rfl (pure_box rfl rfl rfl hM0) ?_
  refine xA tb hM0 4 [1,2,3] [] rfl ?_
  refine code_draw mixed (by kernel_rfl) _ rfl ?_
  refine dl_pure rfl rfl rfl (pure_field rfl fd31_2 rfl) ?_
  refine dl_pure rfl rfl rfl (pure_load rfl ag29 rfl rfl) ?_
  refine dl_pure rfl rfl rfl (pure_index_pc rfl Tryz.underlying74 sz3 rfl rfl (by decide)) ?_
  refine dl_pure rfl rfl rfl (pure_load rfl ag3 rfl rfl) ?_
  refine dl_pure rfl rfl rfl (pure_ix rfl Tryz.underlying29 sz4 rfl rfl (by exact ⟨Int.natCast_nonneg _,Int.ofNat_lt.2 hx.1⟩) (fun _=>rfl)) ?_
  refine dl_pure rfl rfl rfl (pure_load rfl ag4 rfl rfl) ?_
  refine dl_pure rfl rfl rfl (pure_field rfl fd31_2 rfl) ?_
  refine dpk 18 [(3,_),(10,_),(11,_)] [] rfl rfl rfl ?_
  refine dl_pure rfl rfl rfl (pure_load rfl ag29 rfl rfl) ?_
  refine dl_pure rfl rfl rfl (pure_index_pc rfl Tryz.underlying74 sz3 rfl rfl (by decide)) ?_
  refine dl_pure rfl rfl rfl (pure_load rfl ag3 rfl rfl) ?_
  refine dl_pure rfl rfl rfl (pure_ix rfl Tryz.underlying29 sz4 rfl rfl (by exact ⟨Int.natCast_nonneg _,Int.ofNat_lt.2 hx.2⟩) (fun _=>rfl)) ?_
  refine dl_pure rfl rfl rfl (pure_load rfl ag4 rfl rfl) ?_
  refine dl_pure rfl rfl rfl (pure_bne Tryz.underlying4 rfl rfl rfl) ?_
  refine dl_pure rfl rfl rfl (pure_assign rfl rfl) ?_
  refine dl_nil ?_
  refine xD tb hM0 2 [] [] rfl ?_
  refine end_ret rfl ?_
  rfl
theorem fn18:Fn2 Tryz.prog 18 Tryz.f18.ntmps 4 5 (Tryz.f18.body.getD .skip):=⟨Tryz.f18,Tryz.func18,rfl,rfl,rfl,by kernel_rfl⟩
set_option maxRecDepth 100000 in
set_option maxHeartbeats 4000000 in
theorem differ_call {a b:Dfa} (hn:a.next.length*b.next.length≤4194304):CallF Tryz.prog 18 [dfa a,dfa b] (.p (.tup [resW (differZ a b),bool (differZ a b).isSome])):=by
  refine callF_of_code2 fn18 (Nat.le_of_ble_eq_true rfl) fun w0 M0 hM0=>?_
  refine xC tb hM0 2 [0,1] [] rfl ?_
  refine oP rfl (pure_box rfl rfl rfl hM0) ?_
  refine oP rfl (pure_box rfl rfl rfl hM0) ?_
  refine xA tb hM0 8 [2,3,6] [] rfl ?_
  refine oP rfl (pure_call rfl rfl rfl (validD_call (d:=a)) hM0) ?_
  refine xA tb hM0 2 [2,3,9] [] rfl ?_
  refine spO 9 rfl ?_ ?_<;>intro h1'<;>try simp only [dq] at h1'
  refine xA tb hM0 22 [] [] rfl ?_
  refine end2_ret rfl rfl ?_;rotate_left
  refine xA tb hM0 1 [2,3,9,10] [] rfl ?_
  refine oP rfl (pure_call rfl rfl rfl (validD_call (d:=b)) hM0) ?_
  refine xA tb hM0 3 [2,3,14] [] rfl ?_
  refine spO 14 rfl ?_ ?_<;>intro h2'<;>try simp only [dq] at h2'
  refine xA tb hM0 17 [] [] rfl ?_
  refine end2_ret rfl rfl ?_;rotate_left
  refine xA tb hM0 8 [2,3,20] [] rfl ?_
  refine spC 20 rfl ?_ ?_<;>intro h3<;>try simp only [dq] at h3
  refine xA tb hM0 9 [] [] rfl ?_
  refine end2_ret rfl rfl ?_;rotate_left
  have hda:=valid_ok (d:=a) (by assumption)
  have hdb:=valid_ok (d:=b) (by assumption)
  have hba:=hda.1
  have hbb:=hdb.1
  have hka:=kk hda
  have hkb:=kk hdb
  have hna:a.n=a.next.length:=rfl
  have hnb:b.n=b.next.length:=rfl
  have hse:a.size=b.size:=by omega
  have hkk:a.k=b.k:=by omega
  refine xA tb hM0 4 [2,3] [] rfl ?_
  refine code_draw mixed (by kernel_rfl) _ rfl ?_
  refine dl_pure rfl rfl rfl (pure_build0 rfl Tryz.underlying74 sz3 ze74 rfl rfl) ?_
  refine dl_pure rfl rfl rfl (pure_field rfl fd31_0 rfl) ?_
  refine dl_pure rfl rfl rfl (pure_load rfl ag3 rfl rfl) ?_
  refine dl_pure rfl rfl rfl (pure_load_agg rfl ag31 sz31 rfl (Nat.le_of_ble_eq_true rfl)) ?_
  refine dl_pure rfl rfl rfl (pure_load_agg rfl ag31 sz31 rfl (Nat.le_of_ble_eq_true rfl)) ?_
  refine dl_pure rfl rfl rfl (pure_callN rfl rfl rfl rfl (steps_call) hM0) ?_
  refine dl_pure rfl rfl rfl (pure_func rfl rfl) ?_
  refine dpk 31 [(21,_),(23,_),(26,_),(27,_)] [] rfl rfl rfl ?_
  refine dl_pure rfl rfl rfl (pure_call rfl rfl rfl (searchP_call (U:=pairs a.n b.n) (next:=pnext a b) (good:=dgood a b) (size:=a.k) (N:=a.n*b.n) (start:=(0,0)) ⟨by omega,by omega⟩ (pnext_mem hda hdb hkk) (pairs_mem.2 ⟨by omega,by omega⟩) (by rw [pairs_len];exact Nat.le_refl _) (by rw [pairs_len];exact hn) hka.1 (fun x hx=>by have h:=pairs_mem.1 (show (x.1,x.2)∈_ from hx);exact ⟨by have:=h.1;omega,by have:=h.2;omega⟩) (fun x hx s hs=>by have h:=pairs_mem.1 (show (x.1,x.2)∈_ from hx);exact steps1_call hda hdb hse h hs) (fun x hx=>by have h:=pairs_mem.1 (show (x.1,x.2)∈_ from hx);exact differ1_call ⟨by have:=h.1;omega,by have:=h.2;omega⟩)) hM0) ?_
  refine dl_pure rfl rfl rfl (pure_extract rfl rfl rfl) ?_
  refine dl_pure rfl rfl rfl (pure_extract rfl rfl rfl) ?_
  refine dl_pure rfl rfl rfl (pure_assign rfl rfl) ?_
  refine dl_pure rfl rfl rfl (pure_assign rfl rfl) ?_
  refine dl_nil ?_
  refine xD tb hM0 2 [] [] rfl ?_
  refine end2_ret rfl rfl ?_;rotate_left
  all_goals
    first
      | (rw [differZ_a (a:=a) (b:=b) (by assumption)];exact ⟨rfl,rfl⟩)
      | (rw [differZ_b (a:=a) (b:=b) (by assumption)];exact ⟨rfl,rfl⟩)
      | (rw [differZ_f (a:=a) (b:=b) (fun q=>by have:=q.2.2;omega)];exact ⟨rfl,rfl⟩)
      | (rw [differZ_t (a:=a) (b:=b) (by assumption) (by assumption) hse];exact ⟨rfl,rfl⟩)
end Go.Proofs.YtjimlkpfmbachaaGreat

