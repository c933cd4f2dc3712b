/-
  Contracts: the least automaton,as the program and as the reference makes it.
-/
import Derived.Test.YtjimlkpfmbachaaGreatJ26
import Derived.Test.YtjimlkpfmbachaaGreatJ17
import Derived.Test.YtjimlkpfmbachaaGreatJ13
set_option linter.unusedVariables false
set_option linter.unusedSectionVars false
set_option linter.unusedSimpArgs false
namespace Go.Proofs.YtjimlkpfmbachaaGreat
open Go.Am Go.Wc Go.Wb Go.Wd
theorem fn99:FnC2 Tryz.prog 99 Tryz.f99.ntmps 8 31 3 9 (Tryz.f99.body.getD .skip):=⟨Tryz.f99,Tryz.func99,rfl,rfl,rfl,by kernel_rfl,ag31,sz31⟩
set_option maxRecDepth 100000 in
set_option maxHeartbeats 8000000 in
theorem exploreP_call {next:Nat×Nat→Nat→Nat×Nat} {final:Nat×Nat→Bool} {size N:Nat} {start:Nat×Nat} {sz:Int} {U:List (Nat×Nat)} {g h:FuncId} {cg ch:List AV} (hsz:1≤size∧size≤64) (hU:∀ x∈U,∀ s,s<size→next x s∈U) (h0:start∈U) (hN:U.length≤N) (hB:U.length≤2048) (hz:(size:Int)=sz) (hS:∀ x∈U,smallP x)
    (hg:∀ x∈U,∀ s,s<size→CallF Tryz.prog g ([pairI x,natI s]++cg) (.p (pairI (next x s)))) (hh:∀ x∈U,CallF Tryz.prog h ([pairI x]++ch) (.p (bool (final x)))) :
    CallF Tryz.prog 99 [pairI start,int sz,.clo g cg,.clo h ch] (.p (.tup [dfa (mkD next size final (reach next size N start)),bool true])):=by
  subst hz
  refine callF_of_codeC2 fn99 (Nat.le_of_ble_eq_true rfl) fun w0 M0 hM0=>?_
  refine xC tb hM0 2 [0,1,2,3] [] rfl ?_
  refine oP rfl (pure_box rfl rfl rfl hM0) ?_
  refine xA tb hM0 14 [1,2,3,4,8,10] [8,10] rfl ?_
  refine oS rfl (step_map rfl rfl rfl rfl rfl Tryz.underlying122 (fun q hq=>by cases hq<;>exact ⟨_,_,rfl⟩) hM0) rfl ?_
  refine xA tb hM0 0 [1,2,3,4,8,10,21] [8,10,21] rfl ?_
  refine oP rfl (pure_aggl (pure_load_agg rfl ag74 sz74 rfl (Nat.le_of_ble_eq_true rfl)) rfl) ?_
  refine oS rfl (step_insert rfl (step_putK keyed74 rfl rfl rfl Tryz.underlying122 rfl rfl rfl rfl ((pk_ok (hS _ h0)).choose_spec) (fun q hq=>by cases hq) (List.nodup_nil) hM0)) rfl ?_
  refine xA tb hM0 6 [1,2,3,4,8,10,11] [8,10,21] rfl ?_
  refine oP rfl (pure_aggl (pure_load_agg rfl ag74 sz74 rfl (Nat.le_of_ble_eq_true rfl)) rfl) ?_
  refine oS rfl (step_lit rfl rfl rfl rfl Tryz.underlying123 el74 rfl rfl rfl rfl hM0) rfl ?_
  refine xA tb hM0 5 [1,2,3,8,10,11,12] [8,10,21,25] rfl ?_
  refine code_nilown 10 1 41 22 31 hM0 rfl rfl rfl rfl ?_
  refine code_nilown 10 2 42 4 31 hM0 rfl rfl rfl rfl ?_
  refine xK tb hM0 5 [1,2,3,8,10,11,12,13] [8,10,21,25,41,42] rfl ?_
  refine lp (fun zm zs=>∃ (l:List (Nat×Nat)) (i:Nat),zm=N+1-i∧(Ex next size U start N l i)∧zs=⟨89,[(1,.v .mx (natI size)),(2,.v .mx (.clo g cg)),(3,.v .mx (.clo h ch)),(8,.pbox 8 0),(10,.pbox 10 0),(11,.omap 21),(12,.own 25),(13,.v .pl (int i))],[(8,.box 31 [.v .pl (.sc (.int .i64 0)),.v .pl (.sc (.slice none 0 0)),.v .pl (.sc (.slice none 0 0))]),(10,.box 31 [.v .pl (natI size),.own 41,.own 42]),(21,.mp (l.map kvP) (vsC l.length)),(25,.arr 74 (l.map pairI)),(41,.arr 22 ((rowsX next size l (l.take i)).map ints)),(42,.arr 4 ((finX final (l.take i)).map bool))]⟩) ?_ ?_
  refine ⟨_,[start],0,rfl,ex_start h0,?_⟩
  rw [← put_k0,← put_v0 (kv:=kvP) start];rfl
  rintro zm zs ⟨l,i,rfl,hL1_0,rfl⟩
  have hle:=hL1_0.le
  refine xA tb hM0 5 [1,2,3,8,10,11,12,13,26,27] [8,10,21,25,41,42] rfl ?_
  refine oP rfl (pure_lenm rfl Tryz.underlying123 rfl) ?_
  refine xA tb hM0 3 [1,2,3,8,10,11,12,13,29] [8,10,21,25,41,42] rfl ?_
  refine spC 29 rfl ?_ ?_<;>intro h1<;>try simp only [dq] at h1
  refine xA tb hM0 8 [1,2,3,8,10,11,12,13,32] [8,10,21,25,41,42] rfl ?_
  refine oS rfl (step_make rfl rfl rfl rfl Tryz.underlying22 el3 ze3 rfl rfl rfl (by omega) (by omega) (by omega) hM0) rfl ?_
  refine xA tb hM0 7 [1,2,3,8,10,11,12,13,14,34] [8,10,21,25,33,41,42] rfl ?_
  refine oP rfl (pure_toi (a':=(size:Int)) (pure_len rfl Tryz.underlying22 rfl) (by simp)) ?_
  refine xA tb hM0 4 [1,2,3,8,10,11,12,13,14,35,36] [8,10,21,25,33,41,42] rfl ?_
  have hi:i<l.length:=by omega
  have hxU:=hL1_0.met.sub _ (el_mem hi)
  refine lp (fun zm zs=>∃ s:Nat,zm=size-s∧(s≤size)∧zs=⟨89,[(1,.v .mx (natI size)),(2,.v .mx (.clo g cg)),(3,.v .mx (.clo h ch)),(8,.pbox 8 0),(10,.pbox 10 0),(11,.omap 21),(12,.own 25),(13,.v .pl (int i)),(14,.own 33),(35,.v .pl (natI size)),(36,.v .pl (int s))],[(8,.box 31 [.v .pl (.sc (.int .i64 0)),.v .pl (.sc (.slice none 0 0)),.v .pl (.sc (.slice none 0 0))]),(10,.box 31 [.v .pl (natI size),.own 41,.own 42]),(21,.mp ((grow next (l.getD i default) l s).map kvP) (vsC (grow next (l.getD i default) l s).length)),(25,.arr 74 ((grow next (l.getD i default) l s).map pairI)),(33,.arr 3 ((rB next size (l.getD i default) l s).map int)),(41,.arr 22 ((rowsX next size l (l.take i)).map ints)),(42,.arr 4 ((finX final (l.take i)).map bool))]⟩) ?_ ?_
  refine ⟨_,0,rfl,Nat.zero_le _,?_⟩
  rw [rB_zero,← rep_mapI];rfl
  rintro zm zs ⟨s,rfl,hL2_0,rfl⟩
  have hgl:=grow_le hL1_0.met hU hxU hL2_0
  have hsb:∀ z∈(grow next (l.getD i default) l s),z∈U:=grow_sub hL1_0.met hU hxU hL2_0
  have hnd2:((grow next (l.getD i default) l s).map kvP).Nodup:=nodup_kv kvP_inj (grow_nodup _ hL1_0.met.nodup s)
  have hkn:s<size→∃ q,keyOf Tryz.prog 74 (kvP (next (l.getD i default) s))=some q:=fun h=>pk_ok (hS _ (hU _ hxU s h))
  refine xA tb hM0 6 [1,2,3,8,10,11,12,13,14,35,36,37] [8,10,21,25,33,41,42] rfl ?_
  refine spC 37 rfl ?_ ?_<;>intro h2<;>try simp only [dq] at h2
  refine xA tb hM0 16 [1,2,3,8,10,11,12,13,14,15,35,36,39,40,41] [8,10,21,25,33,41,42] rfl ?_
  refine oP rfl (pure_index_own rfl Tryz.underlying123 sz74 rfl rfl rfl (by rw [List.length_map];have:=grow_len (next:=next) (x:=l.getD i default) (l:=l) s;omega)) ?_
  refine oP rfl (pure_load_pel_agg rfl ag74 sz74 rfl rfl sz74 (mget (by have:=grow_len (next:=next) (x:=l.getD i default) (l:=l) s;omega))) ?_
  refine xA tb hM0 1 [1,2,3,8,10,11,12,13,14,15,35,36,39,43,44] [8,10,21,25,33,41,42] rfl ?_
  refine oP rfl (pure_call rfl rfl rfl (by have e:(grow next (l.getD i default) l s).getD (i:Int).toNat default=l.getD i default:=grow_at s hi;rw [e];exact hg _ hxU s (by omega)) hM0) ?_
  refine xA tb hM0 8 [1,2,3,8,10,11,12,13,14,15,16,35,36,47,48] [8,10,16,21,25,33,41,42] rfl ?_
  refine oP rfl (pure_tupl (pure_mlookK2 keyed74 rfl Tryz.underlying122 zv3 rfl rfl rfl ((hkn (by omega)).choose_spec) (fun q hq=>by obtain ⟨z,hz,rfl⟩:=List.mem_map.1 hq;exact pk_ok (hS z (hsb z hz))) (hnd2) ((look_x (kv:=kvP) kvP_inj _ _)) ((has_x (kv:=kvP) kvP_inj _ _)))) ?_
  refine xA tb hM0 7 [1,2,3,8,10,11,12,13,14,15,16,17,18,35,36] [8,10,16,21,25,33,41,42] rfl ?_
  refine ct (fun zs=>zs=⟨89,[(1,.v .mx (natI size)),(2,.v .mx (.clo g cg)),(3,.v .mx (.clo h ch)),(8,.pbox 8 0),(10,.pbox 10 0),(11,.omap 21),(12,.own 25),(13,.v .pl (int i)),(14,.own 33),(15,.v .pl (int s)),(17,.v .pl (natI (idx (grow next (l.getD i default) l (s+1)) (next (l.getD i default) s)))),(35,.v .pl (natI size)),(36,.v .pl (int s))],[(8,.box 31 [.v .pl (.sc (.int .i64 0)),.v .pl (.sc (.slice none 0 0)),.v .pl (.sc (.slice none 0 0))]),(10,.box 31 [.v .pl (natI size),.own 41,.own 42]),(21,.mp ((grow next (l.getD i default) l (s+1)).map kvP) (vsC (grow next (l.getD i default) l (s+1)).length)),(25,.arr 74 ((grow next (l.getD i default) l (s+1)).map pairI)),(33,.arr 3 ((rB next size (l.getD i default) l s).map int)),(41,.arr 22 ((rowsX next size l (l.take i)).map ints)),(42,.arr 4 ((finX final (l.take i)).map bool))]⟩) ?_ ?_
  refine xA tb hM0 6 [1,2,3,8,10,11,12,13,14,15,16,17,35,36,53] [8,10,16,21,25,33,41,42] rfl ?_
  refine spC 53 rfl ?_ ?_<;>intro h3<;>try simp only [dq] at h3
  refine xA tb hM0 4 [1,2,3,8,10,11,12,13,14,15,16,35,36,54] [8,10,16,21,25,33,41,42] rfl ?_
  refine oP rfl (pure_lenm rfl Tryz.underlying123 rfl) ?_
  refine xA tb hM0 10 [1,2,3,8,10,11,12,13,14,15,16,17,35,36,57] [8,10,16,21,25,33,41,42] rfl ?_
  refine spC 57 rfl ?_ ?_<;>intro h4<;>try simp only [dq] at h4
  have hlt:=grow_lt (s:=s) hL1_0.met hU hxU (by omega) (by assumption)
  omega
  --done
  refine xA tb hM0 8 [1,2,3,8,10,11,12,13,14,15,16,17,35,36,59,60,61] [8,10,16,21,25,33,41,42] rfl ?_
  refine oS rfl (step_putK keyed74 rfl rfl rfl Tryz.underlying122 rfl rfl rfl rfl ((hkn (by omega)).choose_spec) (fun q hq=>by obtain ⟨z,hz,rfl⟩:=List.mem_map.1 hq;exact pk_ok (hS z (hsb z hz))) (hnd2) hM0) rfl ?_
  refine xA tb hM0 5 [1,2,3,8,10,11,13,14,15,17,35,36,62,63] [8,10,21,25,33,41,42] rfl ?_
  refine oP rfl (pure_lit rfl Tryz.underlying123 el74 rfl rfl rfl rfl hM0) ?_
  refine oS rfl (step_append rfl rfl rfl rfl Tryz.underlying123 el74 rfl rfl hM0 (src_pl rfl (one_len (by rfl))) (by rw [List.length_map];simp only [List.length_cons,List.length_nil];omega) (by rw [List.length_map];simp only [List.length_cons,List.length_nil];omega)) rfl ?_
  refine xA tb hM0 2 [1,2,3,8,10,11,12,13,14,15,17,35,36] [8,10,21,25,33,41,42] rfl ?_
  refine cx ?_
  have q:=(by assumption:next (l.getD i default) s ∉ (grow next (l.getD i default) l s))
  rw [show (Value.agg #[Value.int .i64 ((next (l.getD i default) s).1:Nat),Value.int .i64 ((next (l.getD i default) s).2:Nat)])=kvP (next (l.getD i default) s) from rfl,grow_new q,idx_new q,put_kx (kv:=kvP) kvP_inj q,put_vx (kv:=kvP) kvP_inj q,List.map_append (f:=pairI)]
  rfl
  refine xA tb hM0 2 [1,2,3,8,10,11,12,13,14,15,17,35,36] [8,10,21,25,33,41,42] rfl ?_
  refine cx ?_
  rw [grow_old (by assumption),if_pos (by assumption)]
  rintro zs ⟨rfl⟩
  refine xA tb hM0 4 [1,2,3,8,10,11,12,13,14,35,36,66,67,68] [8,10,21,25,33,41,42] rfl ?_
  refine oP rfl (pure_index_own rfl Tryz.underlying22 sz3 rfl rfl rfl (by rw [List.length_map,rB_len (size:=size) (s:=s) (by omega)];omega)) ?_
  refine oS rfl (step_store_pel rfl rfl rfl sz3 rfl rfl (mget (by rw [rB_len (size:=size) (s:=s) (by omega)];omega)) rfl rfl (.inl rfl) rfl (Nat.le_of_ble_eq_true rfl) hM0) rfl ?_
  refine xA tb hM0 4 [1,2,3,8,10,11,12,13,14,35,36] [8,10,21,25,33,41,42] rfl ?_
  refine oP rfl (pure_addi rfl rfl rfl (by omega)) ?_
  refine xA tb hM0 2 [1,2,3,8,10,11,12,13,14,35,36] [8,10,21,25,33,41,42] rfl ?_
  refine nx ?_
  refine ⟨_,⟨s+1,rfl,by omega,?_⟩,by omega⟩
  rw [← rB_set (by omega)];rfl
  refine xA tb hM0 7 [1,2,3,8,10,11,12,13,14] [8,10,21,25,33,41,42] rfl ?_
  refine code_frz 89 [(1,_),(2,_),(3,_),(8,_),(10,_),(11,_),(12,_),(13,_),(14,_)] [(8,_),(10,_),(21,_),(25,_),(41,_),(42,_)] hM0 rfl ⟨.inl rfl,.inl rfl,.inl rfl,.inl rfl,.inl rfl,.inl rfl,.inl rfl,.inl rfl,.inr ⟨_,_,rfl,rfl,rfl⟩,trivial⟩ ⟨rfl,rfl,rfl,rfl,rfl,rfl,trivial⟩ ?_
  obtain rfl:size=s:=by omega
  refine xK tb hM0 4 [1,2,3,8,10,11,12,13,72,73] [8,10,21,25,41,42] rfl ?_
  refine oP rfl (pure_lit rfl Tryz.underlying28 el22 rfl rfl rfl rfl hM0) ?_
  refine oS rfl (step_append rfl rfl rfl rfl Tryz.underlying28 el22 rfl rfl hM0 (src_pl rfl (one_len (by rfl))) (by rw [List.length_map,rows_len,List.length_take];simp only [List.length_cons,List.length_nil];omega) (by rw [List.length_map,rows_len,List.length_take];simp only [List.length_cons,List.length_nil];omega)) rfl ?_
  refine xA tb hM0 4 [1,2,3,8,10,11,12,13] [8,10,21,25,41,42] rfl ?_
  refine code_draw mixed (by kernel_rfl) _ rfl ?_
  refine dl_pure rfl rfl rfl (pure_field_box rfl fd31_2 rfl rfl) ?_
  refine dl_pure rfl rfl rfl (pure_load_box rfl ag29 rfl rfl rfl) ?_
  refine dl_pure rfl rfl rfl (pure_move rfl rfl) ?_
  refine dl_pure rfl rfl rfl (pure_move rfl rfl) ?_
  refine dl_pure rfl rfl rfl (pure_move rfl rfl) ?_
  refine dl_pure rfl rfl rfl (pure_index_own rfl Tryz.underlying123 sz74 rfl rfl rfl (by rw [List.length_map];have:=grow_len (next:=next) (x:=l.getD i default) (l:=l) size;omega)) ?_
  refine dl_pure rfl rfl rfl (pure_load_pel_agg rfl ag74 sz74 rfl rfl sz74 (mget (by have:=grow_len (next:=next) (x:=l.getD i default) (l:=l) size;omega))) ?_
  refine dpk 89 [(1,_),(2,_),(3,_),(8,_),(10,_),(11,_),(12,_),(13,_),(78,_),(79,_),(83,_)] [(8,_),(10,_),(21,_),(25,_),(41,_),(42,_)] rfl rfl rfl ?_
  refine dl_pure rfl rfl rfl (pure_call rfl rfl rfl (by have e:(grow next (l.getD i default) l size).getD (i:Int).toNat default=l.getD i default:=grow_at size hi;rw [e];exact hh _ hxU) hM0) ?_
  refine dl_pure rfl rfl rfl (pure_lit rfl Tryz.underlying29 el4 rfl rfl rfl rfl hM0) ?_
  refine dl_tails (by kernel_rfl) ?_
  refine tl_step rfl (step_append rfl rfl rfl rfl Tryz.underlying29 el4 rfl rfl hM0 (src_pl rfl (one_len (by rfl))) (by rw [List.length_map,fin_len,List.length_take];simp only [List.length_cons,List.length_nil];omega) (by rw [List.length_map,fin_len,List.length_take];simp only [List.length_cons,List.length_nil];omega)) ?_
  refine tl_pure rfl rfl rfl (pure_field_box rfl fd31_2 rfl rfl) ?_
  refine tl_step rfl (step_store_box_own rfl rfl rfl sz29 rfl rfl rfl rfl rfl hM0) ?_
  refine tl_nil ?_
  refine xD tb hM0 4 [1,2,3,8,10,11,12,30] [8,10,21,25,41,42] rfl ?_
  refine oP rfl (pure_addi rfl rfl rfl (by omega)) ?_
  refine xA tb hM0 2 [1,2,3,8,10,11,12,13] [8,10,21,25,41,42] rfl ?_
  refine nx ?_
  refine ⟨_,⟨grow next (l.getD i default) l size,i+1,rfl,hL1_0.step hU hN hi rfl,?_⟩,by omega⟩
  rw [rows_step hL1_0.met hi rfl,fin_step hi rfl,List.map_append,List.map_append];rfl
  refine xA tb hM0 7 [8,10] [8,10,41,42] rfl ?_
  refine code_frz 89 [(8,_),(10,_)] [(8,_)] hM0 rfl ⟨.inl rfl,.inr ⟨_,_,rfl,rfl,rfl⟩,trivial⟩ ⟨rfl,trivial⟩ ?_
  have e1:l.take i=l:=List.take_of_length_le (by omega)
  have e2:=hL1_0.fin (by omega)
  rw [e1]
  refine xK tb hM0 7 [] [] rfl ?_
  refine endC2_ret rfl rfl ?_
  refine ⟨?_,rfl⟩
  rw [e2];rfl
end Go.Proofs.YtjimlkpfmbachaaGreat

namespace Go.Proofs.YtjimlkpfmbachaaGreat
open Go.Am Go.Wc Go.Wb Go.Wd
theorem fn77:Fn1 Tryz.prog 77 Tryz.f77.ntmps 7 (Tryz.f77.body.getD .skip):=⟨Tryz.f77,Tryz.func77,rfl,rfl,rfl,by kernel_rfl⟩
set_option maxRecDepth 100000 in
set_option maxHeartbeats 2000000 in
theorem min1_call {d:Dfa} {x s:Nat} (hd:okD d) (hx:x∈clsF d) (hs:s<d.k):CallF Tryz.prog 77 ([natI x,natI s]++[.pc [nats (clsF d)] 0,dpc d,.pc [nats (fl d.n (clsF d) 0)] 0]) (.p (natI (mnext d x s))):=by
  have hcl:(clsF d).length=d.n:=(clsF_ok hd).1
  have hkk:=kk hd
  have hF:(fl d.n (clsF d) 0).getD x default=idx (clsF d) x:=first_get hd hx
  have hF2:(fl d.n (clsF d) 0).getD x default<d.next.length:=by rw [hF];exact (cl_idx hd hx).1
  have hF3:s<(d.next.getD ((fl d.n (clsF d) 0).getD x default) default).length:=by have:=(hd.row hF2).1;omega
  have hF4:0≤(d.next.getD ((fl d.n (clsF d) 0).getD x default) default).getD s default∧(d.next.getD ((fl d.n (clsF d) 0).getD x default) default).getD s default<((clsF d).length:Int):=by rw [hcl];exact hd.cell hF2 (by omega)
  have hx2:=cls_lt hd x hx
  refine callF_of_code fn77 (Nat.le_of_ble_eq_true rfl) fun w0 M0 hM0=>?_
  refine xC tb hM0 6 [0,1,2,3,4] [] rfl ?_
  refine code_draw mixed (by kernel_rfl) _ rfl ?_
  refine dl_pure rfl rfl rfl (pure_load rfl ag22 rfl rfl) ?_
  refine dl_pure rfl rfl rfl (pure_field rfl fd31_1 rfl) ?_
  refine dl_pure rfl rfl rfl (pure_load rfl ag28 rfl rfl) ?_
  refine dl_pure rfl rfl rfl (pure_load rfl ag22 rfl rfl) ?_
  refine dl_pure rfl rfl rfl (pure_move rfl rfl) ?_
  refine dl_pure rfl rfl rfl (pure_ix rfl Tryz.underlying22 sz3 rfl rfl (by rw [fl_len];omega) (fun _=>rfl)) ?_
  refine dl_pure rfl rfl rfl (pure_load rfl ag3 rfl rfl) ?_
  refine dpk 22 [(1,_),(8,_),(10,_),(14,_)] [] rfl rfl rfl ?_
  refine dl_pure rfl rfl rfl (pure_ix rfl Tryz.underlying28 sz22 rfl rfl (by exact ⟨Int.natCast_nonneg _,Int.ofNat_lt.2 hF2⟩) (fun _=>rfl)) ?_
  refine dl_pure rfl rfl rfl (pure_load rfl ag22 rfl rfl) ?_
  refine dl_pure rfl rfl rfl (pure_move rfl rfl) ?_
  refine dl_pure rfl rfl rfl (pure_ix rfl Tryz.underlying22 sz3 rfl rfl (by exact ⟨Int.natCast_nonneg _,Int.ofNat_lt.2 hF3⟩) (fun _=>rfl)) ?_
  refine dl_pure rfl rfl rfl (pure_load rfl ag3 rfl rfl) ?_
  refine dl_pure rfl rfl rfl (pure_ix rfl Tryz.underlying22 sz3 rfl rfl (hF4) (fun _=>rfl)) ?_
  refine dl_pure rfl rfl rfl (pure_load rfl ag3 rfl rfl) ?_
  refine dl_pure rfl rfl rfl (pure_assign rfl rfl) ?_
  refine dl_nil ?_
  refine xD tb hM0 2 [] [] rfl ?_
  refine end_ret rfl ?_
  have e:mnext d x s=(clsF d).getD ((d.next.getD ((fl d.n (clsF d) 0).getD x default) default).getD s default).toNat default:=by unfold mnext Dfa.stp;rw [← hF];rfl
  exact (by rw [e];first|done|rfl)
theorem fn78:Fn1 Tryz.prog 78 Tryz.f78.ntmps 4 (Tryz.f78.body.getD .skip):=⟨Tryz.f78,Tryz.func78,rfl,rfl,rfl,by kernel_rfl⟩
set_option maxRecDepth 100000 in
set_option maxHeartbeats 2000000 in
theorem min2_call {d:Dfa} {x:Nat} (hd:okD d) (hx:x∈clsF d):CallF Tryz.prog 78 ([natI x]++[dpc d,.pc [nats (fl d.n (clsF d) 0)] 0]) (.p (bool (mfin d x))):=by
  have hcl:(clsF d).length=d.n:=(clsF_ok hd).1
  have hF:(fl d.n (clsF d) 0).getD x default=idx (clsF d) x:=first_get hd hx
  have hF2:(fl d.n (clsF d) 0).getD x default<d.fin.length:=by rw [hF,hd.1.2.2];exact (cl_idx hd hx).1
  have hx2:=cls_lt hd x hx
  refine callF_of_code fn78 (Nat.le_of_ble_eq_true rfl) fun w0 M0 hM0=>?_
  refine xC tb hM0 6 [0,1,2] [] rfl ?_
  refine code_draw mixed (by kernel_rfl) _ rfl ?_
  refine dl_pure rfl rfl rfl (pure_field rfl fd31_2 rfl) ?_
  refine dl_pure rfl rfl rfl (pure_load rfl ag29 rfl rfl) ?_
  refine dl_pure rfl rfl rfl (pure_load rfl ag22 rfl rfl) ?_
  refine dl_pure rfl rfl rfl (pure_move rfl rfl) ?_
  refine dl_pure rfl rfl rfl (pure_ix rfl Tryz.underlying22 sz3 rfl rfl (by rw [fl_len];omega) (fun _=>rfl)) ?_
  refine dl_pure rfl rfl rfl (pure_load rfl ag3 rfl rfl) ?_
  refine dl_pure rfl rfl rfl (pure_ix rfl Tryz.underlying29 sz4 rfl rfl (by exact ⟨Int.natCast_nonneg _,Int.ofNat_lt.2 hF2⟩) (fun _=>rfl)) ?_
  refine dl_pure rfl rfl rfl (pure_load rfl ag4 rfl rfl) ?_
  refine dl_pure rfl rfl rfl (pure_assign rfl rfl) ?_
  refine dl_nil ?_
  refine xD tb hM0 2 [] [] rfl ?_
  refine end_ret rfl ?_
  have e:mfin d x=d.fin.getD ((fl d.n (clsF d) 0).getD x default) default:=by unfold mfin Dfa.fn;rw [← hF]
  exact (by rw [e];first|done|rfl)
theorem fn30:FnC Tryz.prog 30 Tryz.f30.ntmps 2 31 3 (Tryz.f30.body.getD .skip):=⟨Tryz.f30,Tryz.func30,rfl,rfl,rfl,by kernel_rfl,ag31,sz31⟩
set_option maxRecDepth 100000 in
set_option maxHeartbeats 8000000 in
theorem min_call {d:Dfa}:CallF Tryz.prog 30 [dfa d] (.p (dfa (minZ d))):=by
  refine callF_of_codeC fn30 (Nat.le_of_ble_eq_true rfl) fun w0 M0 hM0=>?_
  refine xC tb hM0 2 [0] [] rfl ?_
  refine oP rfl (pure_box rfl rfl rfl hM0) ?_
  refine xA tb hM0 7 [1,2,8] [2] rfl ?_
  refine oP rfl (pure_call rfl rfl rfl (validD_call) hM0) ?_
  refine xA tb hM0 3 [1,2,10] [2] rfl ?_
  refine spC 10 rfl ?_ ?_<;>intro h1<;>try simp only [dq] at h1
  refine xA tb hM0 3 [2] [2] rfl ?_
  refine oP rfl (pure_norm (pure_build rfl pl31 ze31 rfl rfl rfl) rfl) ?_
  refine xA tb hM0 5 [] [] rfl ?_
  refine endC_ret rfl ?_;rotate_left
  have hd:=valid_ok (d:=d) (by assumption)
  have hn:d.n=d.next.length:=rfl
  have hb:=hd.1
  have hkk:=kk hd
  have hcl:(clsF d).length=d.n:=(clsF_ok hd).1
  refine xA tb hM0 6 [1,2,12] [2] rfl ?_
  refine oP rfl (pure_call rfl rfl rfl (classes_call hd) hM0) ?_
  refine xA tb hM0 7 [1,2,3,14] [2,3] rfl ?_
  refine oP rfl (pure_lenm rfl Tryz.underlying22 rfl) ?_
  refine oS rfl (step_make rfl rfl rfl rfl Tryz.underlying22 el3 ze3 rfl rfl rfl (by omega) (by omega) (by omega) hM0) rfl ?_
  refine xA tb hM0 8 [1,2,3,4,17] [2,3,4,16] rfl ?_
  refine oP rfl (pure_lenm rfl Tryz.underlying22 rfl) ?_
  refine oP rfl (pure_subi rfl rfl rfl (by omega)) ?_
  refine xA tb hM0 4 [1,2,3,4,5] [2,3,4,16] rfl ?_
  refine lp (fun zm zs=>∃ q:Nat,zm=q+d.n∧(q≤(clsF d).length)∧zs=⟨43,[(1,.v .mx (dpc d)),(2,.pbox 2 0),(3,.pbox 3 0),(4,.pbox 4 0),(5,.v .pl (int ((q:Int)-1)))],[(2,.box 31 [.v .pl (.sc (.int .i64 0)),.v .pl (.sc (.slice none 0 0)),.v .pl (.sc (.slice none 0 0))]),(3,.box 22 [.v .pl (nats (clsF d))]),(4,.box 22 [.own 16]),(16,.arr 3 ((fl d.n ((clsF d).drop q) q).map natI))]⟩) ?_ ?_
  refine ⟨_,(clsF d).length,rfl,Nat.le_refl _,?_⟩
  rw [fl_start,← rep_map,← hcl];rfl
  rintro zm zs ⟨q,rfl,hL1_0,rfl⟩
  refine xA tb hM0 7 [1,2,3,4,5,21] [2,3,4,16] rfl ?_
  refine spC 21 rfl ?_ ?_<;>intro h2<;>try simp only [dq] at h2
  obtain ⟨q2,rfl⟩:∃ q2,q=q2+1:=⟨q-1,by omega⟩
  rw [show ((q2+1:Nat):Int)-1=(q2:Int) from by omega]
  refine xA tb hM0 5 [1,2,3,4,5] [2,3,4,16] rfl ?_
  refine code_draw mixed (by kernel_rfl) _ rfl ?_
  refine dl_pure rfl rfl rfl (pure_load_box rfl ag22 rfl rfl rfl) ?_
  refine dl_pure rfl rfl rfl (pure_load_box rfl ag22 rfl rfl rfl) ?_
  refine dl_pure rfl rfl rfl (pure_move rfl rfl) ?_
  refine dl_pure rfl rfl rfl (pure_ix rfl Tryz.underlying22 sz3 rfl rfl (by omega) (fun _=>rfl)) ?_
  refine dl_pure rfl rfl rfl (pure_load rfl ag3 rfl rfl) ?_
  refine dl_pure rfl rfl rfl (pure_move rfl rfl) ?_
  refine dl_pure rfl rfl rfl (pure_index_own rfl Tryz.underlying22 sz3 rfl rfl rfl (by have h9:=cls_lt hd _ (el_mem (l:=clsF d) (i:=q2) (by omega));exact ⟨Int.natCast_nonneg _,by rw [List.length_map,fl_len];exact Int.ofNat_lt.2 h9⟩)) ?_
  refine dl_tails (by kernel_rfl) ?_
  refine tl_step rfl (step_store_pel rfl rfl rfl sz3 rfl rfl (mget (by rw [fl_len];exact cls_lt hd _ (el_mem (l:=clsF d) (i:=q2) (by omega)))) rfl rfl (.inl rfl) rfl (Nat.le_of_ble_eq_true rfl) hM0) ?_
  refine tl_nil ?_
  refine xD tb hM0 4 [1,2,3,4,22] [2,3,4,16] rfl ?_
  refine oP rfl (pure_subi rfl rfl rfl (by omega)) ?_
  refine xA tb hM0 2 [1,2,3,4,5] [2,3,4,16] rfl ?_
  refine nx ?_
  refine ⟨_,⟨q2,rfl,by omega,?_⟩,by omega⟩
  rw [← fl_stepI (n:=d.n) (cl:=clsF d) (q:=q2) (by omega)];rfl
  refine xA tb hM0 7 [1,2,3,4] [2,3,4,16] rfl ?_
  refine code_frz 43 [(1,_),(2,_),(3,_),(4,_)] [(2,_)] hM0 rfl ⟨.inl rfl,.inl rfl,.inr ⟨_,_,rfl,rfl,rfl⟩,.inr ⟨_,_,rfl,rfl,rfl⟩,trivial⟩ ⟨rfl,trivial⟩ ?_
  obtain rfl:q=0:=by omega
  rw [List.drop_zero]
  refine code_drawE (n:=43) (om:=[(2,.box 31 [.v .pl (.sc (.int .i64 0)),.v .pl (.sc (.slice none 0 0)),.v .pl (.sc (.slice none 0 0))]),(6,.box 31 [.v .pl (.sc (.int .i64 0)),.v .pl (.sc (.slice none 0 0)),.v .pl (.sc (.slice none 0 0))])]) (o2:=[(2,.box 31 [.v .pl (.sc (.int .i64 0)),.v .pl (.sc (.slice none 0 0)),.v .pl (.sc (.slice none 0 0))]),(6,.box 31 [.v .pl (int (minP d).size),.v .pl (rowsA (minP d).next),.v .pl (boolsA (minP d).fin)])]) 11 12 14 [(32,.v .pl (nats (clsF d))),(33,.v .pl (.pc [natI ((clsF d).getD 0 default)] 0)),(34,.v .pl (natI (mstart d))),(35,.v .mx (.pc (dcells d) 0)),(36,.v .mx (int d.size)),(37,.v .mx (.clo 77 [.pc [nats (clsF d)] 0,dpc d,.pc [nats (fl d.n (clsF d) 0)] 0])),(38,.v .mx (.clo 78 [dpc d,.pc [nats (fl d.n (clsF d) 0)] 0])),(39,.v .pl (.tup [dfa (minP d),bool true])),(31,.v .pl (.tup [dfa (minP d),bool true])),(40,.v .pl (dfa (minP d))),(41,.v .pl (bool true)),(6,.pbox 6 0),(7,.v .pl (bool true)),(1,.v .mx (dpc d)),(2,.pbox 2 0),(3,.v .pl (.pc [nats (clsF d)] 0)),(4,.v .pl (.pc [nats (fl d.n (clsF d) 0)] 0))] mixed (by kernel_rfl) (by kernel_rfl) (by kernel_rfl) (by kernel_rfl) rfl (by kernel_rfl) rfl (fun t z h=>h) rfl ?_ ?_ ?_ ?_ ?_ ?_ ?_
  · intro zi zt hzi hzd
    rcases (by omega:zi=0∨zi=1∨zi=2∨zi=3∨zi=4∨zi=5∨zi=6∨zi=7∨zi=8∨zi=9∨zi=10∨zi=11∨zi=12∨zi=13) with rfl|rfl|rfl|rfl|rfl|rfl|rfl|rfl|rfl|rfl|rfl|rfl|rfl|rfl
    · injection (show some _=some zt from hzd) with hzd;subst hzd;exact ⟨_,rfl⟩
    · injection (show some _=some zt from hzd) with hzd;subst hzd;exact ⟨_,rfl⟩
    · injection (show some _=some zt from hzd) with hzd;subst hzd;exact ⟨_,rfl⟩
    · injection (show some _=some zt from hzd) with hzd;subst hzd;exact ⟨_,rfl⟩
    · injection (show some _=some zt from hzd) with hzd;subst hzd;exact ⟨_,rfl⟩
    · injection (show some _=some zt from hzd) with hzd;subst hzd;exact ⟨_,rfl⟩
    · injection (show some _=some zt from hzd) with hzd;subst hzd;exact ⟨_,rfl⟩
    · injection (show some _=some zt from hzd) with hzd;subst hzd;exact ⟨_,rfl⟩
    · injection (show some _=some zt from hzd) with hzd;subst hzd;exact ⟨_,rfl⟩
    · injection (show some _=some zt from hzd) with hzd;subst hzd;exact ⟨_,rfl⟩
    · injection (show some _=some zt from hzd) with hzd;subst hzd;exact ⟨_,rfl⟩
    · injection (show some _=some zt from hzd) with hzd;subst hzd;exact ⟨_,rfl⟩
    · cases (show (none:Option Nat)=some zt from hzd)
    · injection (show some _=some zt from hzd) with hzd;subst hzd;exact ⟨_,rfl⟩
  · intro zi zo zt zd hzi hzia hzib hzo hzd hzG hzn
    rcases (by omega:zi=0∨zi=1∨zi=2∨zi=3∨zi=4∨zi=5∨zi=6∨zi=7∨zi=8∨zi=9∨zi=10∨zi=13) with rfl|rfl|rfl|rfl|rfl|rfl|rfl|rfl|rfl|rfl|rfl|rfl
    · injection (show some _ = some zo from hzo) with hzo; subst hzo; injection (show some _ = some zt from hzd) with hzd; subst hzd; injection (show some _ = some zd from hzG) with hzG; subst hzG
      exact (pure_load rfl ag22 rfl rfl)
    · injection (show some _ = some zo from hzo) with hzo; subst hzo; injection (show some _ = some zt from hzd) with hzd; subst hzd; injection (show some _ = some zd from hzG) with hzG; subst hzG
      exact (pure_ix (f:=natI) (l:=clsF d) rfl Tryz.underlying22 sz3 rfl rfl (by omega) (fun _=>rfl))
    · injection (show some _ = some zo from hzo) with hzo; subst hzo; injection (show some _ = some zt from hzd) with hzd; subst hzd; injection (show some _ = some zd from hzG) with hzG; subst hzG
      exact (pure_load rfl ag3 rfl rfl)
    · injection (show some _ = some zo from hzo) with hzo; subst hzo; injection (show some _ = some zt from hzd) with hzd; subst hzd; injection (show some _ = some zd from hzG) with hzG; subst hzG
      exact (pure_field rfl fd31_0 rfl)
    · injection (show some _ = some zo from hzo) with hzo; subst hzo; injection (show some _ = some zt from hzd) with hzd; subst hzd; injection (show some _ = some zd from hzG) with hzG; subst hzG
      exact (pure_load rfl ag3 rfl rfl)
    · injection (show some _ = some zo from hzo) with hzo; subst hzo; injection (show some _ = some zt from hzd) with hzd; subst hzd; injection (show some _ = some zd from hzG) with hzG; subst hzG
      exact (pure_func rfl rfl)
    · injection (show some _ = some zo from hzo) with hzo; subst hzo; injection (show some _ = some zt from hzd) with hzd; subst hzd; injection (show some _ = some zd from hzG) with hzG; subst hzG
      exact (pure_func rfl rfl)
    · injection (show some _ = some zo from hzo) with hzo; subst hzo; injection (show some _ = some zt from hzd) with hzd; subst hzd; injection (show some _ = some zd from hzG) with hzG; subst hzG
      exact (pure_callD rfl rfl rfl (exploreI_call (U:=clsF d) (next:=mnext d) (final:=mfin d) (size:=d.k) (N:=d.n) (start:=mstart d) ⟨by omega,by omega⟩ (mnext_mem hd) (cl_mem hd (q:=0) (by omega)) (by omega) (by omega) hkk.1 (fun x hx s hs=>min1_call hd hx hs) (fun x hx=>min2_call hd hx)) hM0)
    · injection (show some _ = some zo from hzo) with hzo; subst hzo; injection (show some _ = some zt from hzd) with hzd; subst hzd; injection (show some _ = some zd from hzG) with hzG; subst hzG
      exact (pure_move rfl rfl)
    · injection (show some _ = some zo from hzo) with hzo; subst hzo; injection (show some _ = some zt from hzd) with hzd; subst hzd; injection (show some _ = some zd from hzG) with hzG; subst hzG
      exact (pure_extract rfl rfl rfl)
    · injection (show some _ = some zo from hzo) with hzo; subst hzo; injection (show some _ = some zt from hzd) with hzd; subst hzd; injection (show some _ = some zd from hzG) with hzG; subst hzG
      exact (pure_extract rfl rfl rfl)
    · first|exact absurd hzn (by decide)
  · intro zi zo zt zd hzi hzia hzib hzo hzd hzG hzn hzn2
    rcases (by omega:zi=0∨zi=1∨zi=2∨zi=3∨zi=4∨zi=5∨zi=6∨zi=7∨zi=8∨zi=9∨zi=10∨zi=13) with rfl|rfl|rfl|rfl|rfl|rfl|rfl|rfl|rfl|rfl|rfl|rfl
    · injection (show some _ = some zo from hzo) with hzo; subst hzo; injection (show some _ = some zt from hzd) with hzd; subst hzd; injection (show some _ = some zd from hzG) with hzG; subst hzG
      exact (pure_load rfl ag22 rfl rfl)
    · injection (show some _ = some zo from hzo) with hzo; subst hzo; injection (show some _ = some zt from hzd) with hzd; subst hzd; injection (show some _ = some zd from hzG) with hzG; subst hzG
      exact (pure_ix (f:=natI) (l:=clsF d) rfl Tryz.underlying22 sz3 rfl rfl (by omega) (fun _=>rfl))
    · injection (show some _ = some zo from hzo) with hzo; subst hzo; injection (show some _ = some zt from hzd) with hzd; subst hzd; injection (show some _ = some zd from hzG) with hzG; subst hzG
      exact (pure_load rfl ag3 rfl rfl)
    · injection (show some _ = some zo from hzo) with hzo; subst hzo; injection (show some _ = some zt from hzd) with hzd; subst hzd; injection (show some _ = some zd from hzG) with hzG; subst hzG
      exact (pure_field rfl fd31_0 rfl)
    · injection (show some _ = some zo from hzo) with hzo; subst hzo; injection (show some _ = some zt from hzd) with hzd; subst hzd; injection (show some _ = some zd from hzG) with hzG; subst hzG
      exact (pure_load rfl ag3 rfl rfl)
    · injection (show some _ = some zo from hzo) with hzo; subst hzo; injection (show some _ = some zt from hzd) with hzd; subst hzd; injection (show some _ = some zd from hzG) with hzG; subst hzG
      exact (pure_func rfl rfl)
    · injection (show some _ = some zo from hzo) with hzo; subst hzo; injection (show some _ = some zt from hzd) with hzd; subst hzd; injection (show some _ = some zd from hzG) with hzG; subst hzG
      exact (pure_func rfl rfl)
    · injection (show some _ = some zo from hzo) with hzo; subst hzo; injection (show some _ = some zt from hzd) with hzd; subst hzd; injection (show some _ = some zd from hzG) with hzG; subst hzG
      exact (pure_callD rfl rfl rfl (exploreI_call (U:=clsF d) (next:=mnext d) (final:=mfin d) (size:=d.k) (N:=d.n) (start:=mstart d) ⟨by omega,by omega⟩ (mnext_mem hd) (cl_mem hd (q:=0) (by omega)) (by omega) (by omega) hkk.1 (fun x hx s hs=>min1_call hd hx hs) (fun x hx=>min2_call hd hx)) hM0)
    · injection (show some _ = some zo from hzo) with hzo; subst hzo; injection (show some _ = some zt from hzd) with hzd; subst hzd; injection (show some _ = some zd from hzG) with hzG; subst hzG
      exact (pure_move rfl rfl)
    · injection (show some _ = some zo from hzo) with hzo; subst hzo; injection (show some _ = some zt from hzd) with hzd; subst hzd; injection (show some _ = some zd from hzG) with hzG; subst hzG
      exact (pure_extract rfl rfl rfl)
    · injection (show some _ = some zo from hzo) with hzo; subst hzo; injection (show some _ = some zt from hzd) with hzd; subst hzd; injection (show some _ = some zd from hzG) with hzG; subst hzG
      exact (pure_extract rfl rfl rfl)
    · first|exact absurd hzn (by decide)|exact absurd hzn2 (by decide)
  · intro zi zo zt zd hzi hzia hzib hzo hzd hzG hzn
    rcases (by omega:zi=0∨zi=1∨zi=2∨zi=3∨zi=4∨zi=5∨zi=6∨zi=7∨zi=8∨zi=9∨zi=10∨zi=13) with rfl|rfl|rfl|rfl|rfl|rfl|rfl|rfl|rfl|rfl|rfl|rfl
    · first|exact absurd hzn (by decide)
    · first|exact absurd hzn (by decide)
    · first|exact absurd hzn (by decide)
    · first|exact absurd hzn (by decide)
    · first|exact absurd hzn (by decide)
    · first|exact absurd hzn (by decide)
    · first|exact absurd hzn (by decide)
    · first|exact absurd hzn (by decide)
    · first|exact absurd hzn (by decide)
    · first|exact absurd hzn (by decide)
    · injection (show some _ = some zo from hzo) with hzo; subst hzo; injection (show some _ = some zt from hzd) with hzd; subst hzd; injection (show some _ = some zd from hzG) with hzG; subst hzG
      exact (pure_extract rfl rfl rfl)
    · injection (show some _ = some zo from hzo) with hzo; subst hzo; injection (show some _ = some zt from hzd) with hzd; subst hzd; injection (show some _ = some zd from hzG) with hzG; subst hzG
      exact (pure_assign rfl rfl)
  · intro zo X hzo hXn hXG hXr
    injection (show some _=some zo from hzo) with hzo'
    exact step_allocD (t:=6) (by rw [← hzo'];rfl) (by rw [← hzo'];rfl) rfl rfl hXn ze31 rfl rfl (fun t' z h hne=>all_stays (by rfl) (hXG t' z h) hne) rfl hM0
  · intro zo X hzo hXn hXG hXr
    have hXu:6∈looks _ zo→X.lookup 6=some (.pbox 6 0):=fun h=>(hXr 6 h).trans rfl
    have hXv:40∈looks _ zo→X.lookup 40=some (.v .pl (dfa (minP d))):=fun h=>(hXr 40 h).trans rfl
    injection (show some _=some zo from hzo) with hzo'
    exact step_storeE (by rw [← hzo'];rfl) (step_storeD (u:=6) (v:=40) (id:=6) (by rw [← hzo'];rfl) (by rw [← hzo'];rfl) hXn sz31 (hXu (by rw [← hzo'];decide)) rfl (hXv (by rw [← hzo'];decide)) rfl (by decide) rfl rfl (fun t' z h=>all_stays0 (by rfl) (hXG t' z h)) rfl hM0)
  refine endL_of (n:=0) (by kernel_rfl) ?_
  refine ex_end (by kernel_rfl) ?_
  refine xD tb hM0 8 [] [] rfl ?_
  refine endC_ret rfl ?_;rotate_left
  all_goals
    first
      | (rw [minZ_f (d:=d) (by assumption)];first|done|rfl)
      | (rw [minZ_t (d:=d) (by assumption)];first|done|rfl)
end Go.Proofs.YtjimlkpfmbachaaGreat

