/-
  Contracts: printing a normal form;printing an expression.
-/
import Derived.Test.YtgdehkimfmfofaaGreatJ34
set_option linter.unusedVariables false
set_option linter.unusedSectionVars false
set_option linter.unusedSimpArgs false
namespace Go.Proofs.YtgdehkimfmfofaaGreat
open Go.Am Go.Wb Go.Wc
theorem longT {a:List Letter} {last:Int} (h:0≤last) (h2:a.any (longB a last)=true):longR a last=true:=(long_is h).trans h2
theorem longF1 {a:List Letter} {last:Int} (h:¬ 0≤last):longR a last=false:=long_no h
theorem longF2 {a:List Letter} {last:Int} (h2:a.any (longB a last)=false):longR a last=false:=by
  by_cases h:0≤last
  · exact (long_is h).trans h2
  · exact long_no h
theorem fn67:Fn1 Tryz.prog 67 Tryz.f67.ntmps 4 (Tryz.f67.body.getD .skip):=⟨Tryz.f67,Tryz.func67,rfl,rfl,rfl,by kernel_rfl⟩
set_option maxRecDepth 100000 in
set_option maxHeartbeats 16000000 in
theorem text_call {a:List Letter} (ha:a.length≤1099511627776) (hT:∀ x∈a,x.text.length≤4):∀ (m:Nat) (r:Rx),r.size≤m→m≤1099511627776→Nf r→knownR a r=true→CallW Tryz.prog 67 [rx r,letters a] (.p (sbytes (textR a r))):=by
  refine fun m=>Nat.strongRecOn m fun m ih=>?_
  intro r hm hmm hnf hkn
  have hl:=kids_len r
  have hsy:=syms_len r
  have hse:=size_eq r
  have hnfk:=nf_kids hnf
  have hsym:=nf_syms hnf hkn
  have h5l:r.kind=5→0<r.kids.length:=fun h=>by rw [(valid_5 (nf_valid hnf) h).2];decide
  have kb:∀ x∈r.kids,CallW Tryz.prog 67 [rx x,letters a] (.p (sbytes (textR a x))):=fun x hx =>
    ih _ (Nat.lt_of_lt_of_le (size_kid hx) hm) _ (Nat.le_refl _) (by have:=size_kid hx;omega) (hnfk x hx) (known_kids hkn x hx)
  have kb2:∀ x∈r.kids,∀ y∈x.kids,CallW Tryz.prog 67 [rx y,letters a] (.p (sbytes (textR a y))):=fun x hx y hy =>
    ih _ (Nat.lt_of_lt_of_le (Nat.lt_trans (size_kid hy) (size_kid hx)) hm) _ (Nat.le_refl _) (by have:=size_kid hx;have:=size_kid hy;omega) (nf_kids (hnfk x hx) y hy) (known_kids (known_kids hkn x hx) y hy)
  have kbl:∀ x∈r.kids,(textR a x).length≤4611686018427387904:=fun x hx=>by have:=text_len hT x;have:=size_kid hx;omega
  have hjl:(joinB (r.syms.map (letterT a))).length≤140737488355328:=by
    have h1:=join_len (l:=r.syms.map (letterT a)) (n:=4) fun x hx=>by
      obtain ⟨y,_,rfl⟩:=List.mem_map.1 hx;exact letter_len hT y
    rw [List.length_map] at h1;omega
  have hjk:(joinB (r.kids.map (textR a))).length≤140737488355328:=by
    have:=joins_len r.kids fun x _=>text_len hT x
    omega
  have hpk:=fun h:0<r.kids.length=>part_len (r.kids.getD 0 default) true (textR a (r.kids.getD 0 default))
  have hpk2:=fun h:0<r.kids.length=>kbl _ (kid_mem h)
  rw [rx_eq r]
  refine callW_of_codeS fn67 (Nat.le_of_ble_eq_true rfl) fun w0 M0 hM0 hdr=>?_
  refine xC tb hM0 2 [0,1] [] rfl ?_
  refine oP rfl (pure_box rfl rfl rfl hM0) ?_
  refine oP rfl (pure_box rfl rfl rfl hM0) ?_
  refine xA tb hM0 17 [2,3,17,18] [] rfl ?_
  refine spC 18 rfl ?_ ?_<;>intro h1<;>try simp only [dq] at h1
  refine xA tb hM0 9 [] [] rfl ?_
  refine end_ret rfl ?_;rotate_left
  refine xA tb hM0 7 [2,3,17,20] [] rfl ?_
  refine spC 20 rfl ?_ ?_<;>intro h2<;>try simp only [dq] at h2
  refine xA tb hM0 9 [] [] rfl ?_
  refine end_ret rfl ?_;rotate_left
  refine xA tb hM0 7 [2,3,17,22] [] rfl ?_
  refine spC 22 rfl ?_ ?_<;>intro h3<;>try simp only [dq] at h3
  refine xA tb hM0 3 [2,3] [] rfl ?_
  refine code_draw mixed (by kernel_rfl) _ rfl ?_
  refine dl_pure rfl rfl rfl (pure_field rfl fd25_1 rfl) ?_
  refine dl_pure rfl rfl rfl (pure_load rfl ag22 rfl rfl) ?_
  refine dl_pure rfl rfl rfl (pure_lenm rfl Tryz.underlying22 rfl) ?_
  refine dl_pure rfl rfl rfl (pure_load rfl ag39 rfl rfl) ?_
  refine dl_pure rfl rfl rfl (pure_lenm rfl Tryz.underlying39 rfl) ?_
  refine dl_pure rfl rfl rfl (pure_eql rfl rfl rfl) ?_
  refine dl_pure rfl rfl rfl (pure_move rfl rfl) ?_
  refine dpk 172 [(2,_),(3,_),(30,_)] [] rfl rfl rfl ?_
  refine dl_guard rfl (fun h4=>?_) (fun h4=>?_)
  have h4':=h4;try simp only [dq] at h4'
  refine dpk 172 [(2,_),(3,_),(30,_)] [] rfl rfl rfl ?_
  refine dl_pure_g rfl rfl h4 rfl rfl (pure_load rfl ag39 rfl rfl) ?_
  refine dl_pure_g rfl rfl h4 rfl rfl (pure_lenm rfl Tryz.underlying39 rfl) ?_
  refine dl_pure_g rfl rfl h4 rfl rfl (pure_gtr rfl rfl rfl) ?_
  refine dl_pure rfl rfl rfl (pure_pick_t rfl rfl h4 rfl) ?_
  refine dl_pure rfl rfl rfl (pure_move rfl rfl) ?_
  refine dl_guard rfl (fun h5=>?_) (fun h5=>?_)
  have h5':=h5;try simp only [dq] at h5'
  refine dl_pure_g rfl rfl h5 rfl rfl (pure_field rfl fd25_1 rfl) ?_
  refine dl_pure_g rfl rfl h5 rfl rfl (pure_load rfl ag22 rfl rfl) ?_
  refine dpk 172 [(2,_),(3,_),(35,_),(37,_)] [] rfl rfl rfl ?_
  refine dl_pure_g rfl rfl h5 rfl rfl (pure_load rfl ag39 rfl rfl) ?_
  refine dl_pure_g rfl rfl h5 rfl rfl (pure_lenm rfl Tryz.underlying39 rfl) ?_
  refine dl_pure_g rfl rfl h5 rfl rfl (pure_subi rfl rfl rfl (by omega)) ?_
  refine dl_pure_g rfl rfl h5 rfl rfl (pure_ix rfl Tryz.underlying22 sz3 rfl rfl (by omega) (fun _=>rfl)) ?_
  refine dl_pure_g rfl rfl h5 rfl rfl (pure_load rfl ag3 rfl rfl) ?_
  refine dl_pure_g rfl rfl h5 rfl rfl (pure_load rfl ag39 rfl rfl) ?_
  refine dl_pure_g rfl rfl h5 rfl rfl (pure_lenm rfl Tryz.underlying39 rfl) ?_
  refine dl_pure_g rfl rfl h5 rfl rfl (pure_subi rfl rfl rfl (by omega)) ?_
  refine dl_pure_g rfl rfl h5 rfl rfl (pure_eql rfl rfl rfl) ?_
  refine dl_pure rfl rfl rfl (pure_pick_t rfl rfl h5 rfl) ?_
  refine dl_nil ?_
  refine xD tb hM0 1 [2,3,47] [] rfl ?_
  refine spC 47 rfl ?_ ?_<;>intro h6<;>try simp only [dq] at h6
  refine xA tb hM0 10 [] [] rfl ?_
  refine end_ret rfl ?_;rotate_left
  refine xA tb hM0 5 [2,3] [] rfl ?_
  refine oS rfl (step_nil rfl rfl rfl rfl rfl 9 hM0) rfl ?_
  refine xA tb hM0 7 [3,5,49] [5] rfl ?_
  refine oP rfl (pure_lenm rfl Tryz.underlying22 rfl) ?_
  refine xA tb hM0 4 [3,5,49,50,51] [5] rfl ?_
  refine lp (fun zm zs=>∃ i:Nat,zm=r.syms.length-i∧(i≤r.syms.length)∧zs=⟨172,[(3,.v .pl (.pc [letters a] 0)),(5,.own 5),(49,.v .pl (ints r.syms)),(50,.v .pl (int r.syms.length)),(51,.v .pl (int i))],[(5,.arr 9 (((r.syms.take i).map (letterT a)).map sbytes))]⟩) ?_ ?_
  exact ⟨_,0,rfl,Nat.zero_le _,rfl⟩
  rintro zm zs ⟨i,rfl,hL1_0,rfl⟩
  refine xA tb hM0 6 [3,5,49,50,51,52] [5] rfl ?_
  refine spC 52 rfl ?_ ?_<;>intro h7<;>try simp only [dq] at h7
  refine xA tb hM0 7 [3,5,49,50,51] [5] rfl ?_
  refine oP rfl (pure_ix rfl Tryz.underlying22 sz3 rfl rfl (by omega) (fun _=>rfl)) ?_
  refine xA tb hM0 8 [3,49,50,51,55,56,57] [5] rfl ?_
  refine oP rfl (pure_call rfl rfl rfl (letter_call (hsym _ (kid_memI (by omega)))) hM0) ?_
  refine oP rfl (pure_lit rfl Tryz.underlying111 el9 rfl rfl rfl rfl hM0) ?_
  refine xA tb hM0 0 [3,49,50,51,55,59] [5] rfl ?_
  refine oS rfl (step_append rfl rfl rfl rfl Tryz.underlying111 el9 rfl rfl hM0 (src_pl rfl (one_len (by rfl))) (by first|(simp only [ll];omega)|omega) (by first|(simp only [ll];omega)|omega)) rfl ?_
  refine xA tb hM0 5 [3,5,49,50,51] [5] rfl ?_
  refine oP rfl (pure_addi rfl rfl rfl (by omega)) ?_
  refine xA tb hM0 2 [3,5,49,50,51] [5] rfl ?_
  refine nx ?_;rotate_left
  refine xA tb hM0 8 [5] [5] rfl ?_
  rw [show r.syms.take i=r.syms from List.take_of_length_le (by omega)]
  refine xA tb hM0 2 [5,62] [5] rfl ?_
  refine oP rfl (pure_lenm rfl Tryz.underlying111 rfl) ?_
  refine xA tb hM0 3 [5,64] [5] rfl ?_
  refine spC 64 rfl ?_ ?_<;>intro h8<;>try simp only [dq] at h8
  refine xA tb hM0 4 [65] [5] rfl ?_
  refine oP rfl (pure_index_own rfl Tryz.underlying111 sz9 rfl rfl rfl (by simp only [List.length_map];omega)) ?_
  refine oP rfl (pure_load_pel rfl ag9 rfl rfl (mget (by first|(simp only [ll];omega)|omega)) rfl) ?_
  refine xA tb hM0 7 [] [] rfl ?_
  refine end_ret rfl ?_;rotate_left
  refine xA tb hM0 4 [5] [5] rfl ?_
  refine code_frz 172 [(5,_)] [] hM0 rfl ⟨.inr ⟨_,_,rfl,rfl,rfl⟩,trivial⟩ trivial ?_
  refine xK tb hM0 2 [68] [] rfl ?_
  refine oP rfl (pure_callW hdr rfl rfl rfl (join_call (l:=r.syms.map (letterT a)) (by rw [List.length_map];omega) hjl) hM0) ?_
  refine oP rfl (pure_sadd rfl rfl rfl (by simp only [List.length_cons,List.length_nil];omega)) ?_
  refine xA tb hM0 0 [70] [] rfl ?_
  refine oP rfl (pure_sadd rfl rfl rfl (by simp only [List.length_append,List.length_cons,List.length_nil];omega)) ?_
  refine xA tb hM0 6 [] [] rfl ?_
  refine end_ret rfl ?_;rotate_left
  have h5':=h5;try simp only [dq] at h5'
  refine dl_skip_g rfl rfl h5 rfl rfl ?_
  refine dl_skip_g rfl rfl h5 rfl rfl ?_
  refine dpk 172 [(2,_),(3,_),(35,_),(37,_)] [] rfl rfl rfl ?_
  refine dl_skip_g rfl rfl h5 rfl rfl ?_
  refine dl_skip_g rfl rfl h5 rfl rfl ?_
  refine dl_skip_g rfl rfl h5 rfl rfl ?_
  refine dl_skip_g rfl rfl h5 rfl rfl ?_
  refine dl_skip_g rfl rfl h5 rfl rfl ?_
  refine dl_skip_g rfl rfl h5 rfl rfl ?_
  refine dl_skip_g rfl rfl h5 rfl rfl ?_
  refine dl_skip_g rfl rfl h5 rfl rfl ?_
  refine dl_skip_g rfl rfl h5 rfl rfl ?_
  refine dl_pure rfl rfl rfl (pure_pick_f rfl rfl h5 rfl) ?_
  refine dl_nil ?_
  refine xD tb hM0 6 [2,3] [] rfl ?_
  refine oS rfl (step_nil rfl rfl rfl rfl rfl 9 hM0) rfl ?_
  refine xA tb hM0 7 [3,5,49] [5] rfl ?_
  refine oP rfl (pure_lenm rfl Tryz.underlying22 rfl) ?_
  refine xA tb hM0 4 [3,5,49,50,51] [5] rfl ?_
  refine lp (fun zm zs=>∃ i:Nat,zm=r.syms.length-i∧(i≤r.syms.length)∧zs=⟨172,[(3,.v .pl (.pc [letters a] 0)),(5,.own 5),(49,.v .pl (ints r.syms)),(50,.v .pl (int r.syms.length)),(51,.v .pl (int i))],[(5,.arr 9 (((r.syms.take i).map (letterT a)).map sbytes))]⟩) ?_ ?_
  exact ⟨_,0,rfl,Nat.zero_le _,rfl⟩
  rintro zm zs ⟨i,rfl,hL1_0,rfl⟩
  refine xA tb hM0 6 [3,5,49,50,51,52] [5] rfl ?_
  refine spC 52 rfl ?_ ?_<;>intro h9<;>try simp only [dq] at h9
  refine xA tb hM0 7 [3,5,49,50,51] [5] rfl ?_
  refine oP rfl (pure_ix rfl Tryz.underlying22 sz3 rfl rfl (by omega) (fun _=>rfl)) ?_
  refine xA tb hM0 8 [3,49,50,51,55,56,57] [5] rfl ?_
  refine oP rfl (pure_call rfl rfl rfl (letter_call (hsym _ (kid_memI (by omega)))) hM0) ?_
  refine oP rfl (pure_lit rfl Tryz.underlying111 el9 rfl rfl rfl rfl hM0) ?_
  refine xA tb hM0 0 [3,49,50,51,55,59] [5] rfl ?_
  refine oS rfl (step_append rfl rfl rfl rfl Tryz.underlying111 el9 rfl rfl hM0 (src_pl rfl (one_len (by rfl))) (by first|(simp only [ll];omega)|omega) (by first|(simp only [ll];omega)|omega)) rfl ?_
  refine xA tb hM0 5 [3,5,49,50,51] [5] rfl ?_
  refine oP rfl (pure_addi rfl rfl rfl (by omega)) ?_
  refine xA tb hM0 2 [3,5,49,50,51] [5] rfl ?_
  refine nx ?_;rotate_left
  refine xA tb hM0 8 [5] [5] rfl ?_
  rw [show r.syms.take i=r.syms from List.take_of_length_le (by omega)]
  refine xA tb hM0 2 [5,62] [5] rfl ?_
  refine oP rfl (pure_lenm rfl Tryz.underlying111 rfl) ?_
  refine xA tb hM0 3 [5,64] [5] rfl ?_
  refine spC 64 rfl ?_ ?_<;>intro h10<;>try simp only [dq] at h10
  refine xA tb hM0 4 [65] [5] rfl ?_
  refine oP rfl (pure_index_own rfl Tryz.underlying111 sz9 rfl rfl rfl (by simp only [List.length_map];omega)) ?_
  refine oP rfl (pure_load_pel rfl ag9 rfl rfl (mget (by first|(simp only [ll];omega)|omega)) rfl) ?_
  refine xA tb hM0 7 [] [] rfl ?_
  refine end_ret rfl ?_;rotate_left
  refine xA tb hM0 4 [5] [5] rfl ?_
  refine code_frz 172 [(5,_)] [] hM0 rfl ⟨.inr ⟨_,_,rfl,rfl,rfl⟩,trivial⟩ trivial ?_
  refine xK tb hM0 2 [68] [] rfl ?_
  refine oP rfl (pure_callW hdr rfl rfl rfl (join_call (l:=r.syms.map (letterT a)) (by rw [List.length_map];omega) hjl) hM0) ?_
  refine oP rfl (pure_sadd rfl rfl rfl (by simp only [List.length_cons,List.length_nil];omega)) ?_
  refine xA tb hM0 0 [70] [] rfl ?_
  refine oP rfl (pure_sadd rfl rfl rfl (by simp only [List.length_append,List.length_cons,List.length_nil];omega)) ?_
  refine xA tb hM0 6 [] [] rfl ?_
  refine end_ret rfl ?_;rotate_left
  have h4':=h4;try simp only [dq] at h4'
  refine dpk 172 [(2,_),(3,_),(30,_)] [] rfl rfl rfl ?_
  refine dl_skip_g rfl rfl h4 rfl rfl ?_
  refine dl_skip_g rfl rfl h4 rfl rfl ?_
  refine dl_skip_g rfl rfl h4 rfl rfl ?_
  refine dl_pure rfl rfl rfl (pure_pick_f rfl rfl h4 rfl) ?_
  refine dl_pure rfl rfl rfl (pure_move rfl rfl) ?_
  refine dl_skip_g rfl rfl rfl rfl rfl ?_
  refine dl_skip_g rfl rfl rfl rfl rfl ?_
  refine dpk 172 [(2,_),(3,_),(35,_),(37,_)] [] rfl rfl rfl ?_
  refine dl_skip_g rfl rfl rfl rfl rfl ?_
  refine dl_skip_g rfl rfl rfl rfl rfl ?_
  refine dl_skip_g rfl rfl rfl rfl rfl ?_
  refine dl_skip_g rfl rfl rfl rfl rfl ?_
  refine dl_skip_g rfl rfl rfl rfl rfl ?_
  refine dl_skip_g rfl rfl rfl rfl rfl ?_
  refine dl_skip_g rfl rfl rfl rfl rfl ?_
  refine dl_skip_g rfl rfl rfl rfl rfl ?_
  refine dl_skip_g rfl rfl rfl rfl rfl ?_
  refine dl_pure rfl rfl rfl (pure_pick_f rfl rfl rfl rfl) ?_
  refine dl_nil ?_
  refine xD tb hM0 6 [2,3] [] rfl ?_
  refine oS rfl (step_nil rfl rfl rfl rfl rfl 9 hM0) rfl ?_
  refine xA tb hM0 7 [3,5,49] [5] rfl ?_
  refine oP rfl (pure_lenm rfl Tryz.underlying22 rfl) ?_
  refine xA tb hM0 4 [3,5,49,50,51] [5] rfl ?_
  refine lp (fun zm zs=>∃ i:Nat,zm=r.syms.length-i∧(i≤r.syms.length)∧zs=⟨172,[(3,.v .pl (.pc [letters a] 0)),(5,.own 5),(49,.v .pl (ints r.syms)),(50,.v .pl (int r.syms.length)),(51,.v .pl (int i))],[(5,.arr 9 (((r.syms.take i).map (letterT a)).map sbytes))]⟩) ?_ ?_
  exact ⟨_,0,rfl,Nat.zero_le _,rfl⟩
  rintro zm zs ⟨i,rfl,hL1_0,rfl⟩
  refine xA tb hM0 6 [3,5,49,50,51,52] [5] rfl ?_
  refine spC 52 rfl ?_ ?_<;>intro h11<;>try simp only [dq] at h11
  refine xA tb hM0 7 [3,5,49,50,51] [5] rfl ?_
  refine oP rfl (pure_ix rfl Tryz.underlying22 sz3 rfl rfl (by omega) (fun _=>rfl)) ?_
  refine xA tb hM0 8 [3,49,50,51,55,56,57] [5] rfl ?_
  refine oP rfl (pure_call rfl rfl rfl (letter_call (hsym _ (kid_memI (by omega)))) hM0) ?_
  refine oP rfl (pure_lit rfl Tryz.underlying111 el9 rfl rfl rfl rfl hM0) ?_
  refine xA tb hM0 0 [3,49,50,51,55,59] [5] rfl ?_
  refine oS rfl (step_append rfl rfl rfl rfl Tryz.underlying111 el9 rfl rfl hM0 (src_pl rfl (one_len (by rfl))) (by first|(simp only [ll];omega)|omega) (by first|(simp only [ll];omega)|omega)) rfl ?_
  refine xA tb hM0 5 [3,5,49,50,51] [5] rfl ?_
  refine oP rfl (pure_addi rfl rfl rfl (by omega)) ?_
  refine xA tb hM0 2 [3,5,49,50,51] [5] rfl ?_
  refine nx ?_;rotate_left
  refine xA tb hM0 8 [5] [5] rfl ?_
  rw [show r.syms.take i=r.syms from List.take_of_length_le (by omega)]
  refine xA tb hM0 2 [5,62] [5] rfl ?_
  refine oP rfl (pure_lenm rfl Tryz.underlying111 rfl) ?_
  refine xA tb hM0 3 [5,64] [5] rfl ?_
  refine spC 64 rfl ?_ ?_<;>intro h12<;>try simp only [dq] at h12
  refine xA tb hM0 4 [65] [5] rfl ?_
  refine oP rfl (pure_index_own rfl Tryz.underlying111 sz9 rfl rfl rfl (by simp only [List.length_map];omega)) ?_
  refine oP rfl (pure_load_pel rfl ag9 rfl rfl (mget (by first|(simp only [ll];omega)|omega)) rfl) ?_
  refine xA tb hM0 7 [] [] rfl ?_
  refine end_ret rfl ?_;rotate_left
  refine xA tb hM0 4 [5] [5] rfl ?_
  refine code_frz 172 [(5,_)] [] hM0 rfl ⟨.inr ⟨_,_,rfl,rfl,rfl⟩,trivial⟩ trivial ?_
  refine xK tb hM0 2 [68] [] rfl ?_
  refine oP rfl (pure_callW hdr rfl rfl rfl (join_call (l:=r.syms.map (letterT a)) (by rw [List.length_map];omega) hjl) hM0) ?_
  refine oP rfl (pure_sadd rfl rfl rfl (by simp only [List.length_cons,List.length_nil];omega)) ?_
  refine xA tb hM0 0 [70] [] rfl ?_
  refine oP rfl (pure_sadd rfl rfl rfl (by simp only [List.length_append,List.length_cons,List.length_nil];omega)) ?_
  refine xA tb hM0 6 [] [] rfl ?_
  refine end_ret rfl ?_;rotate_left
  refine xA tb hM0 7 [2,3,17,72] [] rfl ?_
  refine spC 72 rfl ?_ ?_<;>intro h13<;>try simp only [dq] at h13
  refine xA tb hM0 3 [2,3] [] rfl ?_
  refine oS rfl (step_nil rfl rfl rfl rfl rfl 9 hM0) rfl ?_
  refine xA tb hM0 7 [3,8,75] [8] rfl ?_
  refine oP rfl (pure_lenm rfl Tryz.underlying23 rfl) ?_
  refine xA tb hM0 4 [3,8,75,76,77] [8] rfl ?_
  refine lp (fun zm zs=>∃ i:Nat,zm=r.kids.length-i∧(i≤r.kids.length)∧zs=⟨172,[(3,.v .pl (.pc [letters a] 0)),(8,.own 8),(75,.v .pl (rxs r.kids)),(76,.v .pl (int r.kids.length)),(77,.v .pl (int i))],[(8,.arr 9 (((r.kids.take i).map (textR a)).map sbytes))]⟩) ?_ ?_
  exact ⟨_,0,rfl,Nat.zero_le _,rfl⟩
  rintro zm zs ⟨i,rfl,hL2_0,rfl⟩
  refine xA tb hM0 6 [3,8,75,76,77,78] [8] rfl ?_
  refine spC 78 rfl ?_ ?_<;>intro h14<;>try simp only [dq] at h14
  refine xA tb hM0 7 [3,8,75,76,77] [8] rfl ?_
  refine oP rfl (pure_ix rfl Tryz.underlying23 sz25 rfl rfl (by omega) (fun _=>rfl)) ?_
  refine xA tb hM0 9 [3,75,76,77,81,82,83] [8] rfl ?_
  refine oP rfl (pure_callW hdr rfl rfl rfl (kb _ (kid_mem (by omega))) hM0) ?_
  refine oP rfl (pure_lit rfl Tryz.underlying111 el9 rfl rfl rfl rfl hM0) ?_
  refine xA tb hM0 0 [3,75,76,77,81,85] [8] rfl ?_
  refine oS rfl (step_append rfl rfl rfl rfl Tryz.underlying111 el9 rfl rfl hM0 (src_pl rfl (one_len (by rfl))) (by first|(simp only [ll];omega)|omega) (by first|(simp only [ll];omega)|omega)) rfl ?_
  refine xA tb hM0 5 [3,8,75,76,77] [8] rfl ?_
  refine oP rfl (pure_addi rfl rfl rfl (by omega)) ?_
  refine xA tb hM0 2 [3,8,75,76,77] [8] rfl ?_
  refine nx ?_;rotate_left
  refine xA tb hM0 7 [8] [8] rfl ?_
  refine code_frz 172 [(8,_)] [] hM0 rfl ⟨.inr ⟨_,_,rfl,rfl,rfl⟩,trivial⟩ trivial ?_
  rw [show r.kids.take i=r.kids from List.take_of_length_le (by omega)]
  refine xK tb hM0 2 [88] [] rfl ?_
  refine oP rfl (pure_callW hdr rfl rfl rfl (join_call (l:=r.kids.map (textR a)) (by rw [List.length_map];omega) hjk) hM0) ?_
  refine xA tb hM0 6 [] [] rfl ?_
  refine end_ret rfl ?_;rotate_left
  refine xA tb hM0 7 [2,3,90] [] rfl ?_
  refine spC 90 rfl ?_ ?_<;>intro h15<;>try simp only [dq] at h15
  refine xA tb hM0 2 [2,3] [] rfl ?_
  refine code_draw mixed (by kernel_rfl) _ rfl ?_
  refine dl_pure rfl rfl rfl (pure_field rfl fd25_2 rfl) ?_
  refine dl_pure rfl rfl rfl (pure_load rfl ag23 rfl rfl) ?_
  refine dl_pure rfl rfl rfl (pure_ix rfl Tryz.underlying23 sz25 rfl rfl (by have:=h5l (by omega);omega) (fun _=>rfl)) ?_
  refine dl_pure rfl rfl rfl (pure_load_agg rfl ag25 sz25 rfl (Nat.le_of_ble_eq_true rfl)) ?_
  refine dl_pure rfl rfl rfl (pure_load rfl ag39 rfl rfl) ?_
  refine dl_pure rfl rfl rfl (pure_callW hdr rfl rfl rfl (part_call (a:=a) (by omega) (kb (r.kids.getD 0 default) (kid_mem (h5l (by omega)))) (kbl (r.kids.getD 0 default) (kid_mem (h5l (by omega))))) hM0) ?_
  refine dl_pure rfl rfl rfl (pure_sadd rfl rfl rfl (by simp only [List.length_append,List.length_cons,List.length_nil];omega)) ?_
  refine dl_pure rfl rfl rfl (pure_assign rfl rfl) ?_
  refine dl_nil ?_
  refine xD tb hM0 4 [] [] rfl ?_
  refine end_ret rfl ?_;rotate_left
  refine xA tb hM0 5 [2,3] [] rfl ?_
  have hkk:=hnf.kinds
  have h3k:r.kind=3:=by omega
  refine xA tb hM0 9 [2,3,11,100] [] rfl ?_
  refine oP rfl (pure_lenm rfl Tryz.underlying23 rfl) ?_
  refine xA tb hM0 4 [2,3,11,100,101,102] [] rfl ?_
  refine lp (fun zm zs=>∃ (i:Nat) (u:List UInt8),zm=r.kids.length-i∧(i≤r.kids.length)∧(u++textQ a (prevB a r.kids i) (r.kids.drop i)=textR a r)∧zs=⟨172,[(2,.v .pl (rpc r)),(3,.v .pl (.pc [letters a] 0)),(11,.v .pl (sbytes u)),(100,.v .pl (rxs r.kids)),(101,.v .pl (int r.kids.length)),(102,.v .pl (int i))],[]⟩) ?_ ?_
  exact ⟨_,0,[],rfl,Nat.zero_le _,(textR_3 h3k).symm,rfl⟩
  rintro zm zs ⟨i,u,rfl,hL3_0,hL3_1,rfl⟩
  have hul:u.length≤8*r.size:=by have h1:=text_len hT r;rw [← hL3_1,List.length_append] at h1;omega
  have hnk:=fun h:i<r.kids.length=>hnfk _ (kid_mem h)
  have hbr:=fun h:i<r.kids.length=>bare_range (a:=a) (hnk h)
  have hpr:=fun h:i<r.kids.length=>prev_range (a:=a) hnfk h
  have htl:=text_len hT (r.kids.getD i default)
  have hkl:=fun h:i<r.kids.length=>kid_lt h
  have hx5:i<r.kids.length→(r.kids.getD i default).kind=5→0<(r.kids.getD i default).kids.length:=fun h h5=>by rw [(valid_5 (nf_valid (hnk h)) h5).2];decide
  have hpl:=part_len (r.kids.getD i default) false (textR a (r.kids.getD i default))
  have bX:CallF Tryz.prog 102 [.agg [int (r.kids.getD i default).kind,ints (r.kids.getD i default).syms,rxs (r.kids.getD i default).kids],letters a] (.p (int (bareR a (r.kids.getD i default)))):=by
    have h1:=bare_call (a:=a) (r:=r.kids.getD i default) ha
    rwa [rx_eq (r.kids.getD i default)] at h1
  have kbX:i<r.kids.length→CallW Tryz.prog 67 [.agg [int (r.kids.getD i default).kind,ints (r.kids.getD i default).syms,rxs (r.kids.getD i default).kids],letters a] (.p (sbytes (textR a (r.kids.getD i default)))):=fun h=>by
    have h1:=kb _ (kid_mem h)
    rwa [rx_eq (r.kids.getD i default)] at h1
  have pX:i<r.kids.length→CallW Tryz.prog 101 [.agg [int (r.kids.getD i default).kind,ints (r.kids.getD i default).syms,rxs (r.kids.getD i default).kids],letters a,bool false] (.p (sbytes (partT (r.kids.getD i default) false (textR a (r.kids.getD i default))))):=fun h=>by
    have h1:=part_call (a:=a) (rep:=false) ha (kb _ (kid_mem h)) (kbl _ (kid_mem h))
    rwa [rx_eq (r.kids.getD i default)] at h1
  have hgl:=fun h:0<(r.kids.getD i default).kids.length=>text_len hT ((r.kids.getD i default).kids.getD 0 default)
  have hgk:=fun h:0<(r.kids.getD i default).kids.length=>kid_lt h
  refine xA tb hM0 6 [2,3,11,100,101,102,103] [] rfl ?_
  refine spC 103 rfl ?_ ?_<;>intro h16<;>try simp only [dq] at h16
  refine xA tb hM0 8 [2,3,11,100,101,102,104] [] rfl ?_
  refine oP rfl (pure_ix rfl Tryz.underlying23 sz25 rfl rfl (by omega) (fun _=>rfl)) ?_
  refine xA tb hM0 12 [2,3,11,12,13,14,100,101,102] [13,14] rfl ?_
  refine ct (fun zs=>zs=⟨172,[(2,.v .pl (rpc r)),(3,.v .pl (.pc [letters a] 0)),(11,.v .pl (sbytes u)),(13,.pbox 13 0),(14,.pbox 14 0),(100,.v .pl (rxs r.kids)),(101,.v .pl (int r.kids.length)),(102,.v .pl (int i))],[(13,.box 25 [.v .pl (int ((r.kids.getD i default)).kind),.v .pl (ints ((r.kids.getD i default)).syms),.v .pl (rxs ((r.kids.getD i default)).kids)]),(14,.box 3 [.v .pl (int (prevB a r.kids i))])]⟩) ?_ ?_
  refine xA tb hM0 6 [2,3,11,12,13,14,100,101,102,108] [13,14] rfl ?_
  refine spC 108 rfl ?_ ?_<;>intro h17<;>try simp only [dq] at h17
  refine xA tb hM0 1 [2,3,11,12,13,14,100,101,102] [13,14] rfl ?_
  refine code_draw mixed (by kernel_rfl) _ rfl ?_
  refine dl_pure rfl rfl rfl (pure_field rfl fd25_2 rfl) ?_
  refine dl_pure rfl rfl rfl (pure_load rfl ag23 rfl rfl) ?_
  refine dl_pure rfl rfl rfl (pure_move rfl rfl) ?_
  refine dl_pure rfl rfl rfl (pure_subi rfl rfl rfl (by omega)) ?_
  refine dl_pure rfl rfl rfl (pure_ix rfl Tryz.underlying23 sz25 rfl rfl (by omega) (fun _=>rfl)) ?_
  refine dl_pure rfl rfl rfl (pure_load_agg rfl ag25 sz25 rfl (Nat.le_of_ble_eq_true rfl)) ?_
  refine dl_pure rfl rfl rfl (pure_load rfl ag39 rfl rfl) ?_
  refine dl_pure rfl rfl rfl (pure_call rfl rfl rfl (bare_call (by omega)) hM0) ?_
  refine dl_tails (by kernel_rfl) ?_
  refine tl_step rfl (step_store_box rfl rfl rfl sz3 rfl rfl rfl rfl (by decide) rfl rfl hM0) ?_
  refine tl_nil ?_
  refine xD tb hM0 0 [2,3,11,13,14,100,101,102] [13,14] rfl ?_
  refine cx ?_;rotate_left
  refine xA tb hM0 2 [2,3,11,13,14,100,101,102] [13,14] rfl ?_
  refine cx ?_;rotate_left
  rintro zs ⟨rfl⟩
  refine xA tb hM0 5 [2,3,11,13,14,100,101,102,119] [13,14] rfl ?_
  refine spO 119 rfl ?_ ?_<;>intro h18'<;>try simp only [dq] at h18'
  refine xA tb hM0 1 [2,3,11,13,14,100,101,102,119,120] [13,14] rfl ?_
  refine oP rfl (pure_fn rfl rfl) ?_
  refine oS rfl (step_callO [(1000001,14)] rfl rfl rfl rfl rfl rfl rfl (hasL_call (l:=a) (by omega) (by omega)) ⟨.inl rfl,.inl rfl,trivial⟩ ⟨rfl,trivial⟩ rfl rfl rfl rfl rfl hM0) rfl ?_
  refine xA tb hM0 9 [2,3,11,13,15,100,101,102,131] [13] rfl ?_
  refine spO 131 rfl ?_ ?_<;>intro h19'<;>try simp only [dq] at h19'
  refine xA tb hM0 2 [2,3,11,13,15,100,101,102,131,132,133] [13] rfl ?_
  refine oP rfl (pure_call rfl rfl rfl (bX) hM0) ?_
  refine xA tb hM0 5 [2,3,11,13,15,100,101,102,129] [13] rfl ?_
  refine spC 129 rfl ?_ ?_<;>intro h20<;>try simp only [dq] at h20
  refine xA tb hM0 5 [2,3,100,101,102,137,138,139] [] rfl ?_
  refine oP rfl (pure_callW hdr rfl rfl rfl (kbX (by omega)) hM0) ?_
  refine oP rfl (pure_sadd rfl rfl rfl (by simp only [List.length_append,List.length_cons,List.length_nil];omega)) ?_
  refine xA tb hM0 0 [2,3,100,101,102,137,141] [] rfl ?_
  refine oP rfl (pure_sadd rfl rfl rfl (by simp only [List.length_append,List.length_cons,List.length_nil];omega)) ?_
  refine oP rfl (pure_sadd rfl rfl rfl (by simp only [List.length_append,List.length_cons,List.length_nil];omega)) ?_
  refine xA tb hM0 6 [2,3,11,100,101,102] [] rfl ?_
  refine oP rfl (pure_addi rfl rfl rfl (by omega)) ?_
  refine xA tb hM0 2 [2,3,11,100,101,102] [] rfl ?_
  refine nx ?_;rotate_left
  refine xA tb hM0 2 [2,3,11,13,15,100,101,102] [13] rfl ?_
  refine code_draw mixed (by kernel_rfl) _ rfl ?_
  refine dl_pure rfl rfl rfl (pure_move rfl rfl) ?_
  refine dl_pure rfl rfl rfl (pure_move rfl rfl) ?_
  refine dl_guard rfl (fun h21=>?_) (fun h21=>?_)
  have h21':=h21;try simp only [dq] at h21'
  refine dl_pure_g rfl rfl h21 rfl rfl (pure_field_box rfl fd25_0 rfl rfl) ?_
  refine dl_pure_g rfl rfl h21 rfl rfl (pure_load_box rfl ag3 rfl rfl rfl) ?_
  refine dl_pure_g rfl rfl h21 rfl rfl (pure_eql rfl rfl rfl) ?_
  refine dl_pure rfl rfl rfl (pure_pick_t rfl rfl h21 rfl) ?_
  refine dl_pure rfl rfl rfl (pure_move rfl rfl) ?_
  refine dpk 172 [(2,_),(3,_),(11,_),(13,_),(100,_),(101,_),(102,_),(151,_)] [(13,_)] rfl rfl rfl ?_
  refine dl_guard rfl (fun h22=>?_) (fun h22=>?_)
  have h22':=h22;try simp only [dq] at h22'
  refine dpk 172 [(2,_),(3,_),(11,_),(13,_),(100,_),(101,_),(102,_),(151,_)] [(13,_)] rfl rfl rfl ?_
  refine dl_pure_g rfl rfl h22 rfl rfl (pure_field_box rfl fd25_2 rfl rfl) ?_
  refine dl_pure_g rfl rfl h22 rfl rfl (pure_load_box rfl ag23 rfl rfl rfl) ?_
  refine dl_pure_g rfl rfl h22 rfl rfl (pure_ix rfl Tryz.underlying23 sz25 rfl rfl (by have:=hx5 (by omega) (by omega);omega) (fun _=>rfl)) ?_
  refine dl_pure_g rfl rfl h22 rfl rfl (pure_load_agg rfl ag25 sz25 rfl (Nat.le_of_ble_eq_true rfl)) ?_
  refine dl_pure_g rfl rfl h22 rfl rfl (pure_load rfl ag39 rfl rfl) ?_
  refine dl_pure_g rfl rfl h22 rfl rfl (pure_call rfl rfl rfl (bare_call (by omega)) hM0) ?_
  refine dl_pure_g rfl rfl h22 rfl rfl (pure_geq rfl rfl rfl) ?_
  refine dl_pure rfl rfl rfl (pure_pick_t rfl rfl h22 rfl) ?_
  refine dl_pure rfl rfl rfl (pure_assign rfl rfl) ?_
  refine dl_nil ?_
  refine xD tb hM0 1 [2,3,11,13,100,101,102,144] [13] rfl ?_
  refine spC 144 rfl ?_ ?_<;>intro h23<;>try simp only [dq] at h23
  refine xA tb hM0 1 [2,3,11,13,100,101,102] [13] rfl ?_
  refine code_draw mixed (by kernel_rfl) _ rfl ?_
  refine dl_pure rfl rfl rfl (pure_move rfl rfl) ?_
  refine dl_pure rfl rfl rfl (pure_field_box rfl fd25_2 rfl rfl) ?_
  refine dl_pure rfl rfl rfl (pure_load_box rfl ag23 rfl rfl rfl) ?_
  refine dl_pure rfl rfl rfl (pure_ix rfl Tryz.underlying23 sz25 rfl rfl (by have:=hx5 (by omega) (by omega);omega) (fun _=>rfl)) ?_
  refine dl_pure rfl rfl rfl (pure_load_agg rfl ag25 sz25 rfl (Nat.le_of_ble_eq_true rfl)) ?_
  refine dl_pure rfl rfl rfl (pure_load rfl ag39 rfl rfl) ?_
  refine dl_pure rfl rfl rfl (pure_callW hdr rfl rfl rfl (kb2 _ (kid_mem (by omega)) _ (kid_mem (hx5 (by omega) (by omega)))) hM0) ?_
  refine dpk 172 [(2,_),(3,_),(100,_),(101,_),(102,_),(160,_),(166,_)] [(13,_)] rfl rfl rfl ?_
  refine dl_pure rfl rfl rfl (pure_sadd rfl rfl rfl (by simp only [List.length_append,List.length_cons,List.length_nil];omega)) ?_
  refine dl_pure rfl rfl rfl (pure_sadd rfl rfl rfl (by simp only [List.length_append,List.length_cons,List.length_nil];omega)) ?_
  refine dl_pure rfl rfl rfl (pure_sadd rfl rfl rfl (by simp only [List.length_append,List.length_cons,List.length_nil];omega)) ?_
  refine dl_pure rfl rfl rfl (pure_assign rfl rfl) ?_
  refine dl_nil ?_
  refine xD tb hM0 4 [2,3,11,100,101,102] [] rfl ?_
  refine oP rfl (pure_addi rfl rfl rfl (by omega)) ?_
  refine xA tb hM0 2 [2,3,11,100,101,102] [] rfl ?_
  refine nx ?_;rotate_left
  refine xA tb hM0 5 [2,3,100,101,102,124,125,126] [] rfl ?_
  refine oP rfl (pure_callW hdr rfl rfl rfl (pX (by omega)) hM0) ?_
  refine oP rfl (pure_sadd rfl rfl rfl (by omega)) ?_
  refine xA tb hM0 6 [2,3,11,100,101,102] [] rfl ?_
  refine oP rfl (pure_addi rfl rfl rfl (by omega)) ?_
  refine xA tb hM0 2 [2,3,11,100,101,102] [] rfl ?_
  refine nx ?_;rotate_left
  have h22':=h22;try simp only [dq] at h22'
  refine dpk 172 [(2,_),(3,_),(11,_),(13,_),(100,_),(101,_),(102,_),(151,_)] [(13,_)] rfl rfl rfl ?_
  refine dl_skip_g rfl rfl h22 rfl rfl ?_
  refine dl_skip_g rfl rfl h22 rfl rfl ?_
  refine dl_skip_g rfl rfl h22 rfl rfl ?_
  refine dl_skip_g rfl rfl h22 rfl rfl ?_
  refine dl_skip_g rfl rfl h22 rfl rfl ?_
  refine dl_skip_g rfl rfl h22 rfl rfl ?_
  refine dl_skip_g rfl rfl h22 rfl rfl ?_
  refine dl_pure rfl rfl rfl (pure_pick_f rfl rfl h22 rfl) ?_
  refine dl_pure rfl rfl rfl (pure_assign rfl rfl) ?_
  refine dl_nil ?_
  refine xD tb hM0 6 [2,3,100,101,102,124,125,126] [] rfl ?_
  refine oP rfl (pure_callW hdr rfl rfl rfl (pX (by omega)) hM0) ?_
  refine oP rfl (pure_sadd rfl rfl rfl (by omega)) ?_
  refine xA tb hM0 6 [2,3,11,100,101,102] [] rfl ?_
  refine oP rfl (pure_addi rfl rfl rfl (by omega)) ?_
  refine xA tb hM0 2 [2,3,11,100,101,102] [] rfl ?_
  refine nx ?_;rotate_left
  have h21':=h21;try simp only [dq] at h21'
  refine dl_skip_g rfl rfl h21 rfl rfl ?_
  refine dl_skip_g rfl rfl h21 rfl rfl ?_
  refine dl_skip_g rfl rfl h21 rfl rfl ?_
  refine dl_pure rfl rfl rfl (pure_pick_f rfl rfl h21 rfl) ?_
  refine dl_pure rfl rfl rfl (pure_move rfl rfl) ?_
  refine dpk 172 [(2,_),(3,_),(11,_),(13,_),(100,_),(101,_),(102,_),(151,_)] [(13,_)] rfl rfl rfl ?_
  refine dl_skip_g rfl rfl rfl rfl rfl ?_
  refine dl_skip_g rfl rfl rfl rfl rfl ?_
  refine dl_skip_g rfl rfl rfl rfl rfl ?_
  refine dl_skip_g rfl rfl rfl rfl rfl ?_
  refine dl_skip_g rfl rfl rfl rfl rfl ?_
  refine dl_skip_g rfl rfl rfl rfl rfl ?_
  refine dl_skip_g rfl rfl rfl rfl rfl ?_
  refine dl_pure rfl rfl rfl (pure_pick_f rfl rfl rfl rfl) ?_
  refine dl_pure rfl rfl rfl (pure_assign rfl rfl) ?_
  refine dl_nil ?_
  refine xD tb hM0 6 [2,3,100,101,102,124,125,126] [] rfl ?_
  refine oP rfl (pure_callW hdr rfl rfl rfl (pX (by omega)) hM0) ?_
  refine oP rfl (pure_sadd rfl rfl rfl (by omega)) ?_
  refine xA tb hM0 6 [2,3,11,100,101,102] [] rfl ?_
  refine oP rfl (pure_addi rfl rfl rfl (by omega)) ?_
  refine xA tb hM0 2 [2,3,11,100,101,102] [] rfl ?_
  refine nx ?_;rotate_left
  refine xA tb hM0 10 [2,3,11,13,15,100,101,102] [13] rfl ?_
  refine code_draw mixed (by kernel_rfl) _ rfl ?_
  refine dl_pure rfl rfl rfl (pure_move rfl rfl) ?_
  refine dl_pure rfl rfl rfl (pure_move rfl rfl) ?_
  refine dl_guard rfl (fun h24=>?_) (fun h24=>?_)
  have h24':=h24;try simp only [dq] at h24'
  refine dl_pure_g rfl rfl h24 rfl rfl (pure_field_box rfl fd25_0 rfl rfl) ?_
  refine dl_pure_g rfl rfl h24 rfl rfl (pure_load_box rfl ag3 rfl rfl rfl) ?_
  refine dl_pure_g rfl rfl h24 rfl rfl (pure_eql rfl rfl rfl) ?_
  refine dl_pure rfl rfl rfl (pure_pick_t rfl rfl h24 rfl) ?_
  refine dl_pure rfl rfl rfl (pure_move rfl rfl) ?_
  refine dpk 172 [(2,_),(3,_),(11,_),(13,_),(100,_),(101,_),(102,_),(151,_)] [(13,_)] rfl rfl rfl ?_
  refine dl_guard rfl (fun h25=>?_) (fun h25=>?_)
  have h25':=h25;try simp only [dq] at h25'
  refine dpk 172 [(2,_),(3,_),(11,_),(13,_),(100,_),(101,_),(102,_),(151,_)] [(13,_)] rfl rfl rfl ?_
  refine dl_pure_g rfl rfl h25 rfl rfl (pure_field_box rfl fd25_2 rfl rfl) ?_
  refine dl_pure_g rfl rfl h25 rfl rfl (pure_load_box rfl ag23 rfl rfl rfl) ?_
  refine dl_pure_g rfl rfl h25 rfl rfl (pure_ix rfl Tryz.underlying23 sz25 rfl rfl (by have:=hx5 (by omega) (by omega);omega) (fun _=>rfl)) ?_
  refine dl_pure_g rfl rfl h25 rfl rfl (pure_load_agg rfl ag25 sz25 rfl (Nat.le_of_ble_eq_true rfl)) ?_
  refine dl_pure_g rfl rfl h25 rfl rfl (pure_load rfl ag39 rfl rfl) ?_
  refine dl_pure_g rfl rfl h25 rfl rfl (pure_call rfl rfl rfl (bare_call (by omega)) hM0) ?_
  refine dl_pure_g rfl rfl h25 rfl rfl (pure_geq rfl rfl rfl) ?_
  refine dl_pure rfl rfl rfl (pure_pick_t rfl rfl h25 rfl) ?_
  refine dl_pure rfl rfl rfl (pure_assign rfl rfl) ?_
  refine dl_nil ?_
  refine xD tb hM0 1 [2,3,11,13,100,101,102,144] [13] rfl ?_
  refine spC 144 rfl ?_ ?_<;>intro h26<;>try simp only [dq] at h26
  refine xA tb hM0 1 [2,3,11,13,100,101,102] [13] rfl ?_
  refine code_draw mixed (by kernel_rfl) _ rfl ?_
  refine dl_pure rfl rfl rfl (pure_move rfl rfl) ?_
  refine dl_pure rfl rfl rfl (pure_field_box rfl fd25_2 rfl rfl) ?_
  refine dl_pure rfl rfl rfl (pure_load_box rfl ag23 rfl rfl rfl) ?_
  refine dl_pure rfl rfl rfl (pure_ix rfl Tryz.underlying23 sz25 rfl rfl (by have:=hx5 (by omega) (by omega);omega) (fun _=>rfl)) ?_
  refine dl_pure rfl rfl rfl (pure_load_agg rfl ag25 sz25 rfl (Nat.le_of_ble_eq_true rfl)) ?_
  refine dl_pure rfl rfl rfl (pure_load rfl ag39 rfl rfl) ?_
  refine dl_pure rfl rfl rfl (pure_callW hdr rfl rfl rfl (kb2 _ (kid_mem (by omega)) _ (kid_mem (hx5 (by omega) (by omega)))) hM0) ?_
  refine dpk 172 [(2,_),(3,_),(100,_),(101,_),(102,_),(160,_),(166,_)] [(13,_)] rfl rfl rfl ?_
  refine dl_pure rfl rfl rfl (pure_sadd rfl rfl rfl (by simp only [List.length_append,List.length_cons,List.length_nil];omega)) ?_
  refine dl_pure rfl rfl rfl (pure_sadd rfl rfl rfl (by simp only [List.length_append,List.length_cons,List.length_nil];omega)) ?_
  refine dl_pure rfl rfl rfl (pure_sadd rfl rfl rfl (by simp only [List.length_append,List.length_cons,List.length_nil];omega)) ?_
  refine dl_pure rfl rfl rfl (pure_assign rfl rfl) ?_
  refine dl_nil ?_
  refine xD tb hM0 4 [2,3,11,100,101,102] [] rfl ?_
  refine oP rfl (pure_addi rfl rfl rfl (by omega)) ?_
  refine xA tb hM0 2 [2,3,11,100,101,102] [] rfl ?_
  refine nx ?_;rotate_left
  refine xA tb hM0 5 [2,3,100,101,102,124,125,126] [] rfl ?_
  refine oP rfl (pure_callW hdr rfl rfl rfl (pX (by omega)) hM0) ?_
  refine oP rfl (pure_sadd rfl rfl rfl (by omega)) ?_
  refine xA tb hM0 6 [2,3,11,100,101,102] [] rfl ?_
  refine oP rfl (pure_addi rfl rfl rfl (by omega)) ?_
  refine xA tb hM0 2 [2,3,11,100,101,102] [] rfl ?_
  refine nx ?_;rotate_left
  have h25':=h25;try simp only [dq] at h25'
  refine dpk 172 [(2,_),(3,_),(11,_),(13,_),(100,_),(101,_),(102,_),(151,_)] [(13,_)] rfl rfl rfl ?_
  refine dl_skip_g rfl rfl h25 rfl rfl ?_
  refine dl_skip_g rfl rfl h25 rfl rfl ?_
  refine dl_skip_g rfl rfl h25 rfl rfl ?_
  refine dl_skip_g rfl rfl h25 rfl rfl ?_
  refine dl_skip_g rfl rfl h25 rfl rfl ?_
  refine dl_skip_g rfl rfl h25 rfl rfl ?_
  refine dl_skip_g rfl rfl h25 rfl rfl ?_
  refine dl_pure rfl rfl rfl (pure_pick_f rfl rfl h25 rfl) ?_
  refine dl_pure rfl rfl rfl (pure_assign rfl rfl) ?_
  refine dl_nil ?_
  refine xD tb hM0 6 [2,3,100,101,102,124,125,126] [] rfl ?_
  refine oP rfl (pure_callW hdr rfl rfl rfl (pX (by omega)) hM0) ?_
  refine oP rfl (pure_sadd rfl rfl rfl (by omega)) ?_
  refine xA tb hM0 6 [2,3,11,100,101,102] [] rfl ?_
  refine oP rfl (pure_addi rfl rfl rfl (by omega)) ?_
  refine xA tb hM0 2 [2,3,11,100,101,102] [] rfl ?_
  refine nx ?_;rotate_left
  have h24':=h24;try simp only [dq] at h24'
  refine dl_skip_g rfl rfl h24 rfl rfl ?_
  refine dl_skip_g rfl rfl h24 rfl rfl ?_
  refine dl_skip_g rfl rfl h24 rfl rfl ?_
  refine dl_pure rfl rfl rfl (pure_pick_f rfl rfl h24 rfl) ?_
  refine dl_pure rfl rfl rfl (pure_move rfl rfl) ?_
  refine dpk 172 [(2,_),(3,_),(11,_),(13,_),(100,_),(101,_),(102,_),(151,_)] [(13,_)] rfl rfl rfl ?_
  refine dl_skip_g rfl rfl rfl rfl rfl ?_
  refine dl_skip_g rfl rfl rfl rfl rfl ?_
  refine dl_skip_g rfl rfl rfl rfl rfl ?_
  refine dl_skip_g rfl rfl rfl rfl rfl ?_
  refine dl_skip_g rfl rfl rfl rfl rfl ?_
  refine dl_skip_g rfl rfl rfl rfl rfl ?_
  refine dl_skip_g rfl rfl rfl rfl rfl ?_
  refine dl_pure rfl rfl rfl (pure_pick_f rfl rfl rfl rfl) ?_
  refine dl_pure rfl rfl rfl (pure_assign rfl rfl) ?_
  refine dl_nil ?_
  refine xD tb hM0 6 [2,3,100,101,102,124,125,126] [] rfl ?_
  refine oP rfl (pure_callW hdr rfl rfl rfl (pX (by omega)) hM0) ?_
  refine oP rfl (pure_sadd rfl rfl rfl (by omega)) ?_
  refine xA tb hM0 6 [2,3,11,100,101,102] [] rfl ?_
  refine oP rfl (pure_addi rfl rfl rfl (by omega)) ?_
  refine xA tb hM0 2 [2,3,11,100,101,102] [] rfl ?_
  refine nx ?_;rotate_left
  refine xA tb hM0 22 [2,3,11,13,15,100,101,102] [13] rfl ?_
  refine code_draw mixed (by kernel_rfl) _ rfl ?_
  refine dl_pure rfl rfl rfl (pure_move rfl rfl) ?_
  refine dl_pure rfl rfl rfl (pure_move rfl rfl) ?_
  refine dl_skip_g rfl rfl rfl rfl rfl ?_
  refine dl_skip_g rfl rfl rfl rfl rfl ?_
  refine dl_skip_g rfl rfl rfl rfl rfl ?_
  refine dl_pure rfl rfl rfl (pure_pick_f rfl rfl rfl rfl) ?_
  refine dl_pure rfl rfl rfl (pure_move rfl rfl) ?_
  refine dpk 172 [(2,_),(3,_),(11,_),(13,_),(100,_),(101,_),(102,_),(151,_)] [(13,_)] rfl rfl rfl ?_
  refine dl_skip_g rfl rfl rfl rfl rfl ?_
  refine dl_skip_g rfl rfl rfl rfl rfl ?_
  refine dl_skip_g rfl rfl rfl rfl rfl ?_
  refine dl_skip_g rfl rfl rfl rfl rfl ?_
  refine dl_skip_g rfl rfl rfl rfl rfl ?_
  refine dl_skip_g rfl rfl rfl rfl rfl ?_
  refine dl_skip_g rfl rfl rfl rfl rfl ?_
  refine dl_pure rfl rfl rfl (pure_pick_f rfl rfl rfl rfl) ?_
  refine dl_pure rfl rfl rfl (pure_assign rfl rfl) ?_
  refine dl_nil ?_
  refine xD tb hM0 6 [2,3,100,101,102,124,125,126] [] rfl ?_
  refine oP rfl (pure_callW hdr rfl rfl rfl (pX (by omega)) hM0) ?_
  refine oP rfl (pure_sadd rfl rfl rfl (by omega)) ?_
  refine xA tb hM0 6 [2,3,11,100,101,102] [] rfl ?_
  refine oP rfl (pure_addi rfl rfl rfl (by omega)) ?_
  refine xA tb hM0 2 [2,3,11,100,101,102] [] rfl ?_
  refine nx ?_;rotate_left
  refine xA tb hM0 13 [] [] rfl ?_
  refine end_ret rfl ?_;rotate_left
  all_goals first
   | (
     have ea:((a.length:Int)-1).toNat=a.length-1:=by omega
     try simp only [Int.toNat_zero,ea] at *
     first
       | (rw [textR_0 (by omega)];first|done|rfl)
       | (rw [textR_1 (by omega)];first|done|rfl)
       | (rw [textR_2 (by omega),setT_dot (by omega) (by omega) (by omega)];first|done|rfl)
       | (rw [textR_2 (by omega),setT_one (fun q=>by omega) (by omega),getD_map (f:=letterT a) (by omega)];first|done|rfl)
       | (rw [textR_2 (by omega),setT_many (fun q=>by omega) (by omega)];first|done|rfl)
       | (rw [textR_4 (by omega)];first|done|rfl)
       | (rw [textR_5 (by omega) (h5l (by omega))];first|done|rfl)
       | (rw [textQ_end (by omega),List.append_nil] at hL3_1;rw [hL3_1];first|done|rfl);done)
   | (
     exact ⟨_,⟨i+1,rfl,by omega,by rw [take_succ' (by omega),List.map_append,List.map_append];rfl⟩,by omega⟩;done)
   | (
     have er:rxs (r.kids.getD i default).kids=.sl (Rx.avs (r.kids.getD i default).kids):=by rw [avs_eq]
     have ei:((i:Int)-1).toNat=i-1:=by omega
     first
       | (rw [show prevB a r.kids i=bareR a (r.kids.getD (i-1) default) from if_pos (by omega),er,← ei];first|done|rfl)
       | (rw [show prevB a r.kids i=-1 from if_neg (by omega),er];first|done|rfl);done)
   | (
     have hst:=textQ_step (a:=a) (l:=r.kids) (i:=i) (by omega)
     have fin:∀ t,pieceT a (prevB a r.kids i) (r.kids.getD i default) (textR a (r.kids.getD i default)) (((r.kids.getD i default).kids.map (textR a)).getD 0 default)=t→u++t++textQ a (prevB a r.kids (i+1)) (r.kids.drop (i+1))=textR a r:=fun t h=>by rw [← hL3_1,hst,h,List.append_assoc]
     try simp only [Int.toNat_zero] at *
     first
       | exact absurd ((by assumption:a.any (longB a (prevB a r.kids i))=true).symm.trans (by assumption:a.any (longB a (prevB a r.kids i))=false)) (by decide)
       | (exfalso;omega)
       | exact ⟨_,⟨i+1,_,rfl,by omega,fin _ (piece_1 (longT (by omega) (by assumption)) (by omega)),rfl⟩,by omega⟩
       | exact ⟨_,⟨i+1,_,rfl,by omega,fin _ (by rw [getD_map (hx5 (by omega) (by omega))];exact piece_2 (longT (by omega) (by assumption)) (by omega) (by omega) (by omega)),rfl⟩,by omega⟩
       | exact ⟨_,⟨i+1,_,rfl,by omega,fin _ (piece_3 (fun q=>by
           have q1:=q.1
           have q2:=q.2
           first
             | (exfalso;omega)
             | (rw [longF1 (by omega)] at q1;cases q1)
             | (rw [longF2 (by assumption)] at q1;cases q1)) (fun q=>by
           have q1:=q.1
           have q2:=q.2
           first
             | (exfalso;omega)
             | (rw [longF1 (by omega)] at q1;cases q1)
             | (rw [longF2 (by assumption)] at q1;cases q1))),rfl⟩,by omega⟩;done)
theorem fn35:Fn1 Tryz.prog 35 Tryz.f35.ntmps 4 (Tryz.f35.body.getD .skip):=⟨Tryz.f35,Tryz.func35,rfl,rfl,rfl,by kernel_rfl⟩
set_option maxRecDepth 100000 in
set_option maxHeartbeats 2000000 in
theorem print_call {a:List Letter} {r:Rx} (hr:r.size≤137438953472) (ha:a.length≤1099511627776) (ht:∀ x∈a,x.text.length≤9223372036854775807):CallW Tryz.prog 35 [rx r,letters a] (.p (sbytes (printP a r))):=by
  have hT:=fun h:validA a=true=>validA_txt h
  refine callW_of_code fn35 (Nat.le_of_ble_eq_true rfl) fun w0 M0 hM0 hdr=>?_
  refine xC tb hM0 2 [0,1] [] rfl ?_
  refine oP rfl (pure_box rfl rfl rfl hM0) ?_
  refine xA tb hM0 6 [1,2,6] [] rfl ?_
  refine oP rfl (pure_call rfl rfl rfl (simS_call (by omega)) hM0) ?_
  refine xA tb hM0 8 [1,5,8] [5] rfl ?_
  refine oP rfl (pure_call rfl rfl rfl (valid_call _ _ (Nat.le_refl _) (by omega)) hM0) ?_
  refine xA tb hM0 2 [1,5,11] [5] rfl ?_
  refine spO 11 rfl ?_ ?_<;>intro h1'<;>try simp only [dq] at h1'
  refine xA tb hM0 20 [] [] rfl ?_
  refine end_ret rfl ?_;rotate_left
  refine xA tb hM0 1 [1,5,11,12] [5] rfl ?_
  refine oP rfl (pure_call rfl rfl rfl (validA_call ha ht) hM0) ?_
  refine xA tb hM0 3 [1,5,16] [5] rfl ?_
  refine spO 16 rfl ?_ ?_<;>intro h2'<;>try simp only [dq] at h2'
  refine xA tb hM0 15 [] [] rfl ?_
  refine end_ret rfl ?_;rotate_left
  refine xA tb hM0 2 [1,5,16,17,18] [5] rfl ?_
  refine oP rfl (pure_call rfl rfl rfl (known_call _ _ (Nat.le_refl _) (by have:=size_simR r;omega)) hM0) ?_
  refine xA tb hM0 4 [1,5,21] [5] rfl ?_
  refine spC 21 rfl ?_ ?_<;>intro h3<;>try simp only [dq] at h3
  refine xA tb hM0 8 [] [] rfl ?_
  refine end_ret rfl ?_;rotate_left
  refine xA tb hM0 7 [22,23] [] rfl ?_
  refine oP rfl (pure_callW hdr rfl rfl rfl (text_call ha (hT (by assumption)) _ _ (Nat.le_refl _) (by have:=size_simR r;omega) (simR_nf r) (by assumption)) hM0) ?_
  refine xA tb hM0 4 [] [] rfl ?_
  refine end_ret rfl ?_;rotate_left
  all_goals
    unfold printP
    first|(rw [if_pos ⟨by assumption,by assumption,by assumption⟩];first|done|rfl)|(rw [if_neg (fun q=>by have q1:=q.1;have q2:=q.2.1;have q3:=q.2.2;simp_all)];first|done|rfl)
end Go.Proofs.YtgdehkimfmfofaaGreat

