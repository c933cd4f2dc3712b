/-
  Contracts: valid expressions made of numbers;words;symbols.
-/
import Derived.Test.YtgdehkimfmfofaaGreatJ25
import Derived.Test.YtgdehkimfmfofaaGreatJ15
import Derived.Test.YtgdehkimfmfofaaGreatJ11
set_option linter.unusedVariables false
set_option linter.unusedSectionVars false
set_option linter.unusedSimpArgs false
namespace Go.Proofs.YtgdehkimfmfofaaGreat
open Go.Am Go.Wb Go.Wc
theorem fn30:Fn1 Tryz.prog 30 Tryz.f30.ntmps 6 (Tryz.f30.body.getD .skip):=⟨Tryz.f30,Tryz.func30,rfl,rfl,rfl,by kernel_rfl⟩
set_option maxRecDepth 100000 in
set_option maxHeartbeats 1000000 in
theorem word_call {l:List Int} {most long:Int} (h64:I64s l) (hm:0<most) (hl:l.length≤9223372036854775807) (hlo:0≤long∧long≤1000):CallF Tryz.prog 30 [ints l,int most,int long] (.fresh 3 ((wordP l most long).map int)):=by
  refine callF_of_code fn30 (Nat.le_of_ble_eq_true rfl) fun w0 M0 hM0=>?_
  refine xC tb hM0 7 [0,1,2] [] rfl ?_
  refine oS rfl (step_nil rfl rfl rfl rfl rfl 3 hM0) rfl ?_
  refine xA tb hM0 9 [0,1,2,7,8] [7] rfl ?_
  refine lp (fun zm zs=>∃ i:Nat,zm=l.length-i∧(i≤l.length)∧((i:Int)≤long)∧zs=⟨30,[(0,.v .mx (ints l)),(1,.v .mx (int most)),(2,.v .mx (int long)),(7,.own 7),(8,.v .pl (int i))],[(7,.arr 3 (((l.take i).map fun x=>around x most).map int))]⟩) ?_ ?_
  exact ⟨_,0,rfl,Nat.zero_le _,by omega,rfl⟩
  rintro zm zs ⟨i,rfl,hL1_0,hL1_1,rfl⟩
  refine xA tb hM0 5 [0,1,2,7,8,9,10] [7] rfl ?_
  refine oP rfl (pure_lenm rfl Tryz.underlying22 rfl) ?_
  refine xA tb hM0 2 [0,1,2,7,8,13] [7] rfl ?_
  refine spO 13 rfl ?_ ?_<;>intro h1'<;>try simp only [dq] at h1'
  refine xA tb hM0 6 [0,1,2,7,8,17] [7] rfl ?_
  refine spC 17 rfl ?_ ?_<;>intro h2<;>try simp only [dq] at h2
  refine xA tb hM0 9 [0,1,2,8,20,21,22] [7] rfl ?_
  refine oP rfl (pure_ix rfl Tryz.underlying22 sz3 rfl rfl (by omega) (fun _=>rfl)) ?_
  refine xA tb hM0 2 [0,1,2,8,20,24,25] [7] rfl ?_
  refine oP rfl (pure_call rfl rfl rfl (around_call (h64.get i) hm) hM0) ?_
  refine oP rfl (pure_lit rfl Tryz.underlying22 el3 rfl rfl rfl rfl hM0) ?_
  refine xA tb hM0 0 [0,1,2,8,20,27] [7] rfl ?_
  refine oS rfl (step_append rfl rfl rfl rfl Tryz.underlying22 el3 rfl rfl hM0 (src_pl rfl (one_len (by rfl))) (by first|(simp only [ll];omega)|omega) (by first|(simp only [ll];omega)|omega)) rfl ?_
  refine xA tb hM0 6 [0,1,2,7,18] [7] rfl ?_
  refine oP rfl (pure_addi rfl rfl rfl (by omega)) ?_
  refine xA tb hM0 2 [0,1,2,7,8] [7] rfl ?_
  refine nx ?_
  exact ⟨_,⟨i+1,rfl,by omega,by omega,by rw [take_succ' (by omega),List.map_append,List.map_append];rfl⟩,by omega⟩
  refine xA tb hM0 13 [] [] rfl ?_
  refine end_ret rfl ?_;rotate_left
  refine xA tb hM0 19 [] [] rfl ?_
  refine end_ret rfl ?_;rotate_left
  all_goals
    rw [show wordP l most long=(l.take i).map fun x=>around x most by unfold wordP;first|(rw [show long.toNat=i by omega];done)|(rw [List.take_of_length_le (i:=i) (by omega),List.take_of_length_le (i:=long.toNat) (by omega)];done)]
theorem fn37:FnC Tryz.prog 37 Tryz.f37.ntmps 4 25 3 (Tryz.f37.body.getD .skip):=⟨Tryz.f37,Tryz.func37,rfl,rfl,rfl,by kernel_rfl,ag25,sz25⟩
set_option maxRecDepth 100000 in
set_option maxHeartbeats 8000000 in
theorem shaped_call {l:List Int} {most:Int} (h64:I64s l) (hm:0<most) (hm2:most≤1000) (hl:l.length≤9223372036854775807):CallF Tryz.prog 37 [ints l,int most] (.p (rx (shapedP l most))):=by
  refine callF_of_codeC fn37 (Nat.le_of_ble_eq_true rfl) fun w0 M0 hM0=>?_
  refine xC tb hM0 7 [0,1,4] [4] rfl ?_
  refine oS rfl (step_nil rfl rfl rfl rfl rfl 25 hM0) rfl ?_
  refine xA tb hM0 9 [0,1,4,5,6] [4,5] rfl ?_
  refine lp (fun zm zs=>∃ i:Nat,zm=l.length-i∧(i≤l.length)∧(i≤16)∧zs=⟨182,[(0,.v .mx (ints l)),(1,.v .mx (int most)),(4,.pbox 4 0),(5,.own 5),(6,.v .pl (int i))],[(4,.box 25 [.v .pl (.sc (.int .i64 0)),.v .pl (.sc (.slice none 0 0)),.v .pl (.sc (.slice none 0 0))]),(5,.arr 25 ((shpN most l i).map rx))]⟩) ?_ ?_
  exact ⟨_,0,rfl,Nat.zero_le _,by omega,rfl⟩
  rintro zm zs ⟨i,rfl,hL1_0,hL1_1,rfl⟩
  have hal:=around_lt (n:=l.getD i default) (most:=1048576) (by decide)
  have hsl:=shpN_len most l i
  have hq:=Int.ediv_nonneg (a:=(around (l.getD i default) 1048576) / 8) (b:=most) (by omega) (by omega)
  generalize hst:shpN most l i=st at *
  have e1:((st.length:Int)-1).toNat=st.length-1:=by omega
  have e2:((st.length:Int)-2).toNat=st.length-2:=by omega
  refine xA tb hM0 5 [0,1,4,5,6,12,13] [4,5] rfl ?_
  refine oP rfl (pure_lenm rfl Tryz.underlying22 rfl) ?_
  refine xA tb hM0 2 [0,1,4,5,6,16] [4,5] rfl ?_
  refine spO 16 rfl ?_ ?_<;>intro h1'<;>try simp only [dq] at h1'
  refine xA tb hM0 5 [0,1,4,5,6,19] [4,5] rfl ?_
  refine spC 19 rfl ?_ ?_<;>intro h2<;>try simp only [dq] at h2
  refine xA tb hM0 9 [0,1,4,5,6,22,23] [4,5] rfl ?_
  refine oP rfl (pure_ix rfl Tryz.underlying22 sz3 rfl rfl (by omega) (fun _=>rfl)) ?_
  refine xA tb hM0 1 [0,1,4,5,6,25] [4,5] rfl ?_
  refine oP rfl (pure_call rfl rfl rfl (around_call (h64.get i) (by decide)) hM0) ?_
  refine xA tb hM0 6 [0,1,4,5,6,7,27] [4,5] rfl ?_
  refine oP rfl (pure_quon rfl rfl rfl (by omega)) ?_
  refine xA tb hM0 6 [0,1,4,5,6,7,8,29] [4,5] rfl ?_
  refine oP rfl (pure_lenm rfl Tryz.underlying23 rfl) ?_
  refine xA tb hM0 6 [0,1,4,5,6,7,8,9,31] [4,5] rfl ?_
  refine oP rfl (pure_remn rfl rfl rfl (by omega)) ?_
  refine xA tb hM0 3 [0,1,4,5,6,7,8,9,33] [4,5] rfl ?_
  refine spC 33 rfl ?_ ?_<;>intro h3<;>try simp only [dq] at h3
  refine xA tb hM0 5 [0,1,4,6,34,35,36] [4,5] rfl ?_
  refine oP rfl (pure_remn rfl rfl rfl (by omega)) ?_
  refine oP rfl (pure_lit rfl Tryz.underlying22 el3 rfl rfl rfl rfl hM0) ?_
  refine xA tb hM0 0 [0,1,4,6,34,38] [4,5] rfl ?_
  refine oP rfl (pure_callN rfl rfl rfl rfl (one_call [(around (l.getD i default) 1048576) / 8 % most]) hM0) ?_
  refine oP rfl (pure_lit rfl Tryz.underlying23 el25 rfl rfl rfl rfl hM0) ?_
  refine xA tb hM0 0 [0,1,4,6,34,40] [4,5] rfl ?_
  refine oS rfl (step_append rfl rfl rfl rfl Tryz.underlying23 el25 rfl rfl hM0 (src_pl rfl (one_len (by rfl))) (by first|(simp only [ll];omega)|omega) (by first|(simp only [ll];omega)|omega)) rfl ?_
  refine xA tb hM0 6 [0,1,4,5,20] [4,5] rfl ?_
  refine oP rfl (pure_addi rfl rfl rfl (by omega)) ?_
  refine xA tb hM0 2 [0,1,4,5,6] [4,5] rfl ?_
  refine nx ?_;rotate_left
  refine xA tb hM0 4 [0,1,4,5,6,7,8,9,42] [4,5] rfl ?_
  refine oP rfl (pure_remn rfl rfl rfl (by omega)) ?_
  refine xA tb hM0 3 [0,1,4,5,6,7,8,9,44] [4,5] rfl ?_
  refine spC 44 rfl ?_ ?_<;>intro h4<;>try simp only [dq] at h4
  refine xA tb hM0 5 [0,1,4,5,6,8,45,46] [4,5] rfl ?_
  refine oP rfl (pure_remn rfl rfl rfl (by omega)) ?_
  refine xA tb hM0 7 [0,1,4,5,6,10,48,49] [4,5] rfl ?_
  refine oP rfl (pure_quon rfl rfl rfl (by omega)) ?_
  refine xA tb hM0 1 [0,1,4,5,6,10,50,51] [4,5] rfl ?_
  refine oP rfl (pure_remn rfl rfl rfl (by omega)) ?_
  refine xA tb hM0 10 [0,1,4,5,6,10,11,55] [4,5] rfl ?_
  refine spC 55 rfl ?_ ?_<;>intro h5<;>try simp only [dq] at h5
  refine xA tb hM0 4 [0,1,4,6,56,57] [4,5] rfl ?_
  refine oP rfl (pure_lit rfl Tryz.underlying22 el3 rfl rfl rfl rfl hM0) ?_
  refine oP rfl (pure_callN rfl rfl rfl rfl (one_call [(around (l.getD i default) 1048576) / 8 % most]) hM0) ?_
  refine xA tb hM0 0 [0,1,4,6,56,59] [4,5] rfl ?_
  refine oP rfl (pure_lit rfl Tryz.underlying23 el25 rfl rfl rfl rfl hM0) ?_
  refine oS rfl (step_append rfl rfl rfl rfl Tryz.underlying23 el25 rfl rfl hM0 (src_pl rfl (one_len (by rfl))) (by first|(simp only [ll];omega)|omega) (by first|(simp only [ll];omega)|omega)) rfl ?_
  refine xA tb hM0 6 [0,1,4,5,20] [4,5] rfl ?_
  refine oP rfl (pure_addi rfl rfl rfl (by omega)) ?_
  refine xA tb hM0 2 [0,1,4,5,6] [4,5] rfl ?_
  refine nx ?_;rotate_left
  refine xA tb hM0 5 [0,1,4,6,10,11,62,63,64] [4,5] rfl ?_
  refine oP rfl (pure_min rfl rfl rfl) ?_
  refine xA tb hM0 2 [0,1,4,6,62,65,66,67] [4,5] rfl ?_
  refine oP rfl (pure_max rfl rfl rfl) ?_
  refine oP rfl (pure_lit rfl Tryz.underlying22 el3 rfl rfl rfl rfl hM0) ?_
  refine xA tb hM0 0 [0,1,4,6,62,69] [4,5] rfl ?_
  refine oP rfl (pure_callN rfl rfl rfl rfl (one_call [minI ((around (l.getD i default) 1048576) / 8 % most) ((around (l.getD i default) 1048576) / 8 / most % most),maxI ((around (l.getD i default) 1048576) / 8 % most) ((around (l.getD i default) 1048576) / 8 / most % most)]) hM0) ?_
  refine oP rfl (pure_lit rfl Tryz.underlying23 el25 rfl rfl rfl rfl hM0) ?_
  refine xA tb hM0 0 [0,1,4,6,62,71] [4,5] rfl ?_
  refine oS rfl (step_append rfl rfl rfl rfl Tryz.underlying23 el25 rfl rfl hM0 (src_pl rfl (one_len (by rfl))) (by first|(simp only [ll];omega)|omega) (by first|(simp only [ll];omega)|omega)) rfl ?_
  refine xA tb hM0 6 [0,1,4,5,20] [4,5] rfl ?_
  refine oP rfl (pure_addi rfl rfl rfl (by omega)) ?_
  refine xA tb hM0 2 [0,1,4,5,6] [4,5] rfl ?_
  refine nx ?_;rotate_left
  refine xA tb hM0 1 [0,1,4,5,6,7,8,9] [4,5] rfl ?_
  refine ct (fun zs=>zs=⟨182,[(0,.v .mx (ints l)),(1,.v .mx (int most)),(4,.pbox 4 0),(5,.own 5),(6,.v .pl (int i)),(7,.v .pl (int (around (l.getD i default) 1048576))),(8,.v .pl (int ((around (l.getD i default) 1048576) / 8))),(9,.v .pl (int st.length)),(79,.v .pl (bool (decide ((around (l.getD i default) 1048576) % 8=3∧0<(st.length:Int)))))],[(4,.box 25 [.v .pl (.sc (.int .i64 0)),.v .pl (.sc (.slice none 0 0)),.v .pl (.sc (.slice none 0 0))]),(5,.arr 25 (st.map rx))]⟩) ?_ ?_
  refine xA tb hM0 2 [0,1,4,5,6,7,8,9,73] [4,5] rfl ?_
  refine oP rfl (pure_remn rfl rfl rfl (by omega)) ?_
  refine xA tb hM0 2 [0,1,4,5,6,7,8,9,76] [4,5] rfl ?_
  refine spO 76 rfl ?_ ?_<;>intro h6'<;>try simp only [dq] at h6'
  refine xA tb hM0 4 [0,1,4,5,6,7,8,9,79] [4,5] rfl ?_
  refine cx ?_;rotate_left
  refine xA tb hM0 4 [0,1,4,5,6,7,8,9,79] [4,5] rfl ?_
  refine cx ?_;rotate_left
  rintro zs ⟨rfl⟩
  refine spC 79 rfl ?_ ?_<;>intro h7<;>try simp only [dq] at h7
  refine xA tb hM0 4 [0,1,4,5,6,9,80,81] [4,5] rfl ?_
  refine oP rfl (pure_subi rfl rfl rfl (by omega)) ?_
  refine xA tb hM0 2 [0,1,4,5,6,80,82,83,84] [4,5] rfl ?_
  refine oP rfl (pure_subi rfl rfl rfl (by omega)) ?_
  refine oP rfl (pure_index_own rfl Tryz.underlying23 sz25 rfl rfl rfl (by first|(simp only [ll];omega)|omega)) ?_
  refine xA tb hM0 0 [0,1,4,5,6,80,82,86] [4,5] rfl ?_
  refine oP rfl (pure_load_pel_agg rfl ag25 sz25 rfl rfl sz25 (mget (by first|(simp only [ll];omega)|omega))) ?_
  refine oP rfl (pure_lit rfl Tryz.underlying23 el25 rfl rfl rfl rfl hM0) ?_
  refine xA tb hM0 0 [0,1,4,5,6,80,82,88] [4,5] rfl ?_
  refine oP rfl (pure_callN rfl rfl rfl rfl (of_call 5 [st.getD ((st.length:Int)-1).toNat default]) hM0) ?_
  refine oP rfl (pure_index_own rfl Tryz.underlying23 sz25 rfl rfl rfl (by first|(simp only [ll];omega)|omega)) ?_
  refine xA tb hM0 0 [0,1,4,5,6,89,90] [4,5] rfl ?_
  refine oS rfl (step_store_pel rfl rfl rfl sz25 rfl rfl (mget (by first|(simp only [ll];omega)|omega)) rfl rfl (.inl rfl) rfl (Nat.le_of_ble_eq_true rfl) hM0) rfl ?_
  refine xA tb hM0 5 [0,1,4,5,20] [4,5] rfl ?_
  refine oP rfl (pure_addi rfl rfl rfl (by omega)) ?_
  refine xA tb hM0 2 [0,1,4,5,6] [4,5] rfl ?_
  refine nx ?_;rotate_left
  refine xA tb hM0 1 [0,1,4,5,6,7,8,9] [4,5] rfl ?_
  refine ct (fun zs=>zs=⟨182,[(0,.v .mx (ints l)),(1,.v .mx (int most)),(4,.pbox 4 0),(5,.own 5),(6,.v .pl (int i)),(7,.v .pl (int (around (l.getD i default) 1048576))),(8,.v .pl (int ((around (l.getD i default) 1048576) / 8))),(9,.v .pl (int st.length)),(97,.v .pl (bool (decide ((around (l.getD i default) 1048576) % 8=4∧1<(st.length:Int)))))],[(4,.box 25 [.v .pl (.sc (.int .i64 0)),.v .pl (.sc (.slice none 0 0)),.v .pl (.sc (.slice none 0 0))]),(5,.arr 25 (st.map rx))]⟩) ?_ ?_
  refine xA tb hM0 2 [0,1,4,5,6,7,8,9,91] [4,5] rfl ?_
  refine oP rfl (pure_remn rfl rfl rfl (by omega)) ?_
  refine xA tb hM0 2 [0,1,4,5,6,7,8,9,94] [4,5] rfl ?_
  refine spO 94 rfl ?_ ?_<;>intro h8'<;>try simp only [dq] at h8'
  refine xA tb hM0 4 [0,1,4,5,6,7,8,9,97] [4,5] rfl ?_
  refine cx ?_;rotate_left
  refine xA tb hM0 4 [0,1,4,5,6,7,8,9,97] [4,5] rfl ?_
  refine cx ?_;rotate_left
  rintro zs ⟨rfl⟩
  refine spC 97 rfl ?_ ?_<;>intro h9<;>try simp only [dq] at h9
  refine xA tb hM0 2 [0,1,4,5,6,9] [4,5] rfl ?_
  refine code_draw mixed (by kernel_rfl) _ rfl ?_
  refine dl_pure rfl rfl rfl (pure_move rfl rfl) ?_
  refine dl_pure rfl rfl rfl (pure_move rfl rfl) ?_
  refine dl_pure rfl rfl rfl (pure_subi rfl rfl rfl (by omega)) ?_
  refine dl_pure rfl rfl rfl (pure_move rfl rfl) ?_
  refine dl_pure rfl rfl rfl (pure_move rfl rfl) ?_
  refine dl_pure rfl rfl rfl (pure_subi rfl rfl rfl (by omega)) ?_
  refine dl_pure rfl rfl rfl (pure_index_own rfl Tryz.underlying23 sz25 rfl rfl rfl (by first|(simp only [ll];omega)|omega)) ?_
  refine dpk 182 [(0,_),(1,_),(4,_),(5,_),(6,_),(9,_),(98,_),(100,_),(104,_)] [(4,_),(5,_)] rfl rfl rfl ?_
  refine dl_pure rfl rfl rfl (pure_load_pel_agg rfl ag25 sz25 rfl rfl sz25 (mget (by first|(simp only [ll];omega)|omega))) ?_
  refine dl_pure rfl rfl rfl (pure_move rfl rfl) ?_
  refine dl_pure rfl rfl rfl (pure_move rfl rfl) ?_
  refine dl_pure rfl rfl rfl (pure_subi rfl rfl rfl (by omega)) ?_
  refine dl_pure rfl rfl rfl (pure_index_own rfl Tryz.underlying23 sz25 rfl rfl rfl (by first|(simp only [ll];omega)|omega)) ?_
  refine dl_pure rfl rfl rfl (pure_load_pel_agg rfl ag25 sz25 rfl rfl sz25 (mget (by first|(simp only [ll];omega)|omega))) ?_
  refine dl_pure rfl rfl rfl (pure_lit rfl Tryz.underlying23 el25 rfl rfl rfl rfl hM0) ?_
  refine dl_pure rfl rfl rfl (pure_callN rfl rfl rfl rfl (of_call 3 [st.getD ((st.length:Int)-2).toNat default,st.getD ((st.length:Int)-1).toNat default]) hM0) ?_
  refine dl_pure rfl rfl rfl (pure_index_own rfl Tryz.underlying23 sz25 rfl rfl rfl (by first|(simp only [ll];omega)|omega)) ?_
  refine dl_tails (by kernel_rfl) ?_
  refine tl_step rfl (step_store_pel rfl rfl rfl sz25 rfl rfl (mget (by first|(simp only [ll];omega)|omega)) rfl rfl (.inl rfl) rfl (Nat.le_of_ble_eq_true rfl) hM0) ?_
  refine tl_nil ?_
  refine xD tb hM0 4 [0,1,4,6,114,115] [4,5] rfl ?_
  refine oP rfl (pure_subi rfl rfl rfl (by omega)) ?_
  refine oP rfl (pure_slice_own rfl Tryz.underlying23 sz25 rfl rfl rfl (by first|(simp only [ll];omega)|omega)) ?_
  refine ol_trunc 117 rfl rfl hM0 rfl ?_
  refine xO tb hM0 6 [0,1,4,5,20] [4,5] rfl ?_
  refine oP rfl (pure_addi rfl rfl rfl (by omega)) ?_
  refine xA tb hM0 2 [0,1,4,5,6] [4,5] rfl ?_
  refine nx ?_;rotate_left
  refine xA tb hM0 1 [0,1,4,5,6,7,8,9] [4,5] rfl ?_
  refine ct (fun zs=>zs=⟨182,[(0,.v .mx (ints l)),(1,.v .mx (int most)),(4,.pbox 4 0),(5,.own 5),(6,.v .pl (int i)),(7,.v .pl (int (around (l.getD i default) 1048576))),(8,.v .pl (int ((around (l.getD i default) 1048576) / 8))),(9,.v .pl (int st.length)),(124,.v .pl (bool (decide ((around (l.getD i default) 1048576) % 8=5∧1<(st.length:Int)))))],[(4,.box 25 [.v .pl (.sc (.int .i64 0)),.v .pl (.sc (.slice none 0 0)),.v .pl (.sc (.slice none 0 0))]),(5,.arr 25 (st.map rx))]⟩) ?_ ?_
  refine xA tb hM0 2 [0,1,4,5,6,7,8,9,118] [4,5] rfl ?_
  refine oP rfl (pure_remn rfl rfl rfl (by omega)) ?_
  refine xA tb hM0 2 [0,1,4,5,6,7,8,9,121] [4,5] rfl ?_
  refine spO 121 rfl ?_ ?_<;>intro h10'<;>try simp only [dq] at h10'
  refine xA tb hM0 4 [0,1,4,5,6,7,8,9,124] [4,5] rfl ?_
  refine cx ?_;rotate_left
  refine xA tb hM0 4 [0,1,4,5,6,7,8,9,124] [4,5] rfl ?_
  refine cx ?_;rotate_left
  rintro zs ⟨rfl⟩
  refine spC 124 rfl ?_ ?_<;>intro h11<;>try simp only [dq] at h11
  refine xA tb hM0 2 [0,1,4,5,6,9] [4,5] rfl ?_
  refine code_draw mixed (by kernel_rfl) _ rfl ?_
  refine dl_pure rfl rfl rfl (pure_move rfl rfl) ?_
  refine dl_pure rfl rfl rfl (pure_move rfl rfl) ?_
  refine dl_pure rfl rfl rfl (pure_subi rfl rfl rfl (by omega)) ?_
  refine dl_pure rfl rfl rfl (pure_move rfl rfl) ?_
  refine dl_pure rfl rfl rfl (pure_move rfl rfl) ?_
  refine dl_pure rfl rfl rfl (pure_subi rfl rfl rfl (by omega)) ?_
  refine dl_pure rfl rfl rfl (pure_index_own rfl Tryz.underlying23 sz25 rfl rfl rfl (by first|(simp only [ll];omega)|omega)) ?_
  refine dpk 182 [(0,_),(1,_),(4,_),(5,_),(6,_),(9,_),(125,_),(127,_),(131,_)] [(4,_),(5,_)] rfl rfl rfl ?_
  refine dl_pure rfl rfl rfl (pure_load_pel_agg rfl ag25 sz25 rfl rfl sz25 (mget (by first|(simp only [ll];omega)|omega))) ?_
  refine dl_pure rfl rfl rfl (pure_move rfl rfl) ?_
  refine dl_pure rfl rfl rfl (pure_move rfl rfl) ?_
  refine dl_pure rfl rfl rfl (pure_subi rfl rfl rfl (by omega)) ?_
  refine dl_pure rfl rfl rfl (pure_index_own rfl Tryz.underlying23 sz25 rfl rfl rfl (by first|(simp only [ll];omega)|omega)) ?_
  refine dl_pure rfl rfl rfl (pure_load_pel_agg rfl ag25 sz25 rfl rfl sz25 (mget (by first|(simp only [ll];omega)|omega))) ?_
  refine dl_pure rfl rfl rfl (pure_lit rfl Tryz.underlying23 el25 rfl rfl rfl rfl hM0) ?_
  refine dl_pure rfl rfl rfl (pure_callN rfl rfl rfl rfl (of_call 4 [st.getD ((st.length:Int)-2).toNat default,st.getD ((st.length:Int)-1).toNat default]) hM0) ?_
  refine dl_pure rfl rfl rfl (pure_index_own rfl Tryz.underlying23 sz25 rfl rfl rfl (by first|(simp only [ll];omega)|omega)) ?_
  refine dl_tails (by kernel_rfl) ?_
  refine tl_step rfl (step_store_pel rfl rfl rfl sz25 rfl rfl (mget (by first|(simp only [ll];omega)|omega)) rfl rfl (.inl rfl) rfl (Nat.le_of_ble_eq_true rfl) hM0) ?_
  refine tl_nil ?_
  refine xD tb hM0 4 [0,1,4,6,141,142] [4,5] rfl ?_
  refine oP rfl (pure_subi rfl rfl rfl (by omega)) ?_
  refine oP rfl (pure_slice_own rfl Tryz.underlying23 sz25 rfl rfl rfl (by first|(simp only [ll];omega)|omega)) ?_
  refine ol_trunc 144 rfl rfl hM0 rfl ?_
  refine xO tb hM0 6 [0,1,4,5,20] [4,5] rfl ?_
  refine oP rfl (pure_addi rfl rfl rfl (by omega)) ?_
  refine xA tb hM0 2 [0,1,4,5,6] [4,5] rfl ?_
  refine nx ?_;rotate_left
  refine xA tb hM0 1 [0,1,4,5,6,7,8,9] [4,5] rfl ?_
  refine ct (fun zs=>zs=⟨182,[(0,.v .mx (ints l)),(1,.v .mx (int most)),(4,.pbox 4 0),(5,.own 5),(6,.v .pl (int i)),(7,.v .pl (int (around (l.getD i default) 1048576))),(8,.v .pl (int ((around (l.getD i default) 1048576) / 8))),(9,.v .pl (int st.length)),(151,.v .pl (bool (decide ((around (l.getD i default) 1048576) % 8=6∧0<(st.length:Int)))))],[(4,.box 25 [.v .pl (.sc (.int .i64 0)),.v .pl (.sc (.slice none 0 0)),.v .pl (.sc (.slice none 0 0))]),(5,.arr 25 (st.map rx))]⟩) ?_ ?_
  refine xA tb hM0 2 [0,1,4,5,6,7,8,9,145] [4,5] rfl ?_
  refine oP rfl (pure_remn rfl rfl rfl (by omega)) ?_
  refine xA tb hM0 2 [0,1,4,5,6,7,8,9,148] [4,5] rfl ?_
  refine spO 148 rfl ?_ ?_<;>intro h12'<;>try simp only [dq] at h12'
  refine xA tb hM0 4 [0,1,4,5,6,7,8,9,151] [4,5] rfl ?_
  refine cx ?_;rotate_left
  refine xA tb hM0 4 [0,1,4,5,6,7,8,9,151] [4,5] rfl ?_
  refine cx ?_;rotate_left
  rintro zs ⟨rfl⟩
  refine spC 151 rfl ?_ ?_<;>intro h13<;>try simp only [dq] at h13
  refine xA tb hM0 4 [0,1,4,5,6,9,152,153] [4,5] rfl ?_
  refine oP rfl (pure_subi rfl rfl rfl (by omega)) ?_
  refine oP rfl (pure_norm (pure_build rfl pl25 ze25 rfl rfl rfl) rfl) ?_
  refine xA tb hM0 2 [0,1,4,5,6,152,154,155,156,157] [4,5] rfl ?_
  refine oP rfl (pure_subi rfl rfl rfl (by omega)) ?_
  refine oP rfl (pure_index_own rfl Tryz.underlying23 sz25 rfl rfl rfl (by first|(simp only [ll];omega)|omega)) ?_
  refine xA tb hM0 0 [0,1,4,5,6,152,154,155,159] [4,5] rfl ?_
  refine oP rfl (pure_load_pel_agg rfl ag25 sz25 rfl rfl sz25 (mget (by first|(simp only [ll];omega)|omega))) ?_
  refine oP rfl (pure_lit rfl Tryz.underlying23 el25 rfl rfl rfl rfl hM0) ?_
  refine xA tb hM0 0 [0,1,4,5,6,152,154,161] [4,5] rfl ?_
  refine oP rfl (pure_callN rfl rfl rfl rfl (of_call 4 [emptyRx,st.getD ((st.length:Int)-1).toNat default]) hM0) ?_
  refine oP rfl (pure_index_own rfl Tryz.underlying23 sz25 rfl rfl rfl (by first|(simp only [ll];omega)|omega)) ?_
  refine xA tb hM0 0 [0,1,4,5,6,162,163] [4,5] rfl ?_
  refine oS rfl (step_store_pel rfl rfl rfl sz25 rfl rfl (mget (by first|(simp only [ll];omega)|omega)) rfl rfl (.inl rfl) rfl (Nat.le_of_ble_eq_true rfl) hM0) rfl ?_
  refine xA tb hM0 5 [0,1,4,5,20] [4,5] rfl ?_
  refine oP rfl (pure_addi rfl rfl rfl (by omega)) ?_
  refine xA tb hM0 2 [0,1,4,5,6] [4,5] rfl ?_
  refine nx ?_;rotate_left
  refine xA tb hM0 4 [0,1,4,5,6,8,164] [4,5] rfl ?_
  refine oP rfl (pure_remn rfl rfl rfl (by omega)) ?_
  refine xA tb hM0 3 [0,1,4,5,6,8,166] [4,5] rfl ?_
  refine spC 166 rfl ?_ ?_<;>intro h14<;>try simp only [dq] at h14
  refine xA tb hM0 4 [0,1,4,6,167,168] [4,5] rfl ?_
  refine oP rfl (pure_remn rfl rfl rfl (by omega)) ?_
  refine oP rfl (pure_min rfl rfl rfl) ?_
  refine xA tb hM0 0 [0,1,4,6,167,170] [4,5] rfl ?_
  refine oP rfl (pure_norm (pure_build rfl pl25 ze25 rfl rfl rfl) rfl) ?_
  refine oP rfl (pure_lit rfl Tryz.underlying23 el25 rfl rfl rfl rfl hM0) ?_
  refine xA tb hM0 0 [0,1,4,6,167,172] [4,5] rfl ?_
  refine oS rfl (step_append rfl rfl rfl rfl Tryz.underlying23 el25 rfl rfl hM0 (src_pl rfl (one_len (by rfl))) (by first|(simp only [ll];omega)|omega) (by first|(simp only [ll];omega)|omega)) rfl ?_
  refine xA tb hM0 6 [0,1,4,5,20] [4,5] rfl ?_
  refine oP rfl (pure_addi rfl rfl rfl (by omega)) ?_
  refine xA tb hM0 2 [0,1,4,5,6] [4,5] rfl ?_
  refine nx ?_;rotate_left
  refine xA tb hM0 6 [0,1,4,5,20] [4,5] rfl ?_
  refine oP rfl (pure_addi rfl rfl rfl (by omega)) ?_
  refine xA tb hM0 2 [0,1,4,5,6] [4,5] rfl ?_
  refine nx ?_;rotate_left
  refine xA tb hM0 8 [4,5] [4,5] rfl ?_
  have hl16:i=l.length∨i=16:=by omega
  refine xA tb hM0 2 [4,5,174] [4,5] rfl ?_
  refine oP rfl (pure_lenm rfl Tryz.underlying23 rfl) ?_
  refine xA tb hM0 3 [4,5,176] [4,5] rfl ?_
  refine spC 176 rfl ?_ ?_<;>intro h15<;>try simp only [dq] at h15
  refine xA tb hM0 2 [4,5] [4,5] rfl ?_
  refine code_frz 182 [(4,_),(5,_)] [(4,_)] hM0 rfl ⟨.inl rfl,.inr ⟨_,_,rfl,rfl,rfl⟩,trivial⟩ ⟨rfl,trivial⟩ ?_
  refine xK tb hM0 2 [4,177] [4] rfl ?_
  refine oP rfl (pure_ix rfl Tryz.underlying23 sz25 rfl rfl (by omega) (fun _=>rfl)) ?_
  refine xA tb hM0 6 [] [] rfl ?_
  refine endC_ret rfl ?_;rotate_left
  refine xA tb hM0 4 [4,5] [4,5] rfl ?_
  refine code_frz 182 [(4,_),(5,_)] [(4,_)] hM0 rfl ⟨.inl rfl,.inr ⟨_,_,rfl,rfl,rfl⟩,trivial⟩ ⟨rfl,trivial⟩ ?_
  refine xK tb hM0 2 [4,180] [4] rfl ?_
  refine oP rfl (pure_callN rfl rfl rfl rfl (of_call 3 st) hM0) ?_
  refine xA tb hM0 4 [] [] rfl ?_
  refine endC_ret rfl ?_;rotate_left
  refine xA tb hM0 13 [4,5] [4,5] rfl ?_
  have hl16:i=l.length∨i=16:=by omega
  refine xA tb hM0 2 [4,5,174] [4,5] rfl ?_
  refine oP rfl (pure_lenm rfl Tryz.underlying23 rfl) ?_
  refine xA tb hM0 3 [4,5,176] [4,5] rfl ?_
  refine spC 176 rfl ?_ ?_<;>intro h16<;>try simp only [dq] at h16
  refine xA tb hM0 2 [4,5] [4,5] rfl ?_
  refine code_frz 182 [(4,_),(5,_)] [(4,_)] hM0 rfl ⟨.inl rfl,.inr ⟨_,_,rfl,rfl,rfl⟩,trivial⟩ ⟨rfl,trivial⟩ ?_
  refine xK tb hM0 2 [4,177] [4] rfl ?_
  refine oP rfl (pure_ix rfl Tryz.underlying23 sz25 rfl rfl (by omega) (fun _=>rfl)) ?_
  refine xA tb hM0 6 [] [] rfl ?_
  refine endC_ret rfl ?_;rotate_left
  refine xA tb hM0 4 [4,5] [4,5] rfl ?_
  refine code_frz 182 [(4,_),(5,_)] [(4,_)] hM0 rfl ⟨.inl rfl,.inr ⟨_,_,rfl,rfl,rfl⟩,trivial⟩ ⟨rfl,trivial⟩ ?_
  refine xK tb hM0 2 [4,180] [4] rfl ?_
  refine oP rfl (pure_callN rfl rfl rfl rfl (of_call 3 st) hM0) ?_
  refine xA tb hM0 4 [] [] rfl ?_
  refine endC_ret rfl ?_;rotate_left
  all_goals first
   | (
     refine ⟨_,⟨i+1,rfl,by omega,by omega,?_⟩,by omega⟩
     rw [shpN,hst]
     first
       | (rw [shpF_01 (by omega),List.map_append];rfl)
       | (rw [shpF_2a (by omega) (by omega) (by assumption),List.map_append];rfl)
       | (rw [shpF_2b (by omega) (by omega) (by assumption),List.map_append];rfl)
       | (rw [shpF_3 (by omega) (by omega),List.map_set,← e1];rfl)
       | (rw [shpF_4 (by omega) (by omega),List.map_take,List.map_set,← e1,← e2];rfl)
       | (rw [shpF_5 (by omega) (by omega),List.map_take,List.map_set,← e1,← e2];rfl)
       | (rw [shpF_6 (by omega) (by omega),List.map_set,← e1];rfl)
       | (rw [shpF_7 (by omega),List.map_append];rfl)
       | (rw [shpF_x (by omega) (by omega) (by omega) (by omega) (by omega) (by omega) (by omega)];rfl);done)
   | (
     first
       | (rw [decide_eq_false (p:=(around (l.getD i default) 1048576) % 8=3∧0<(st.length:Int)) (by omega)];first|done|rfl)
       | (rw [show decide ((around (l.getD i default) 1048576) % 8=3∧0<(st.length:Int))=decide (0<(st.length:Int)) from decide_eq_decide.2 (by omega)];first|done|rfl);done)
   | (
     first
       | (rw [decide_eq_false (p:=(around (l.getD i default) 1048576) % 8=4∧1<(st.length:Int)) (by omega)];first|done|rfl)
       | (rw [show decide ((around (l.getD i default) 1048576) % 8=4∧1<(st.length:Int))=decide (1<(st.length:Int)) from decide_eq_decide.2 (by omega)];first|done|rfl);done)
   | (
     first
       | (rw [decide_eq_false (p:=(around (l.getD i default) 1048576) % 8=5∧1<(st.length:Int)) (by omega)];first|done|rfl)
       | (rw [show decide ((around (l.getD i default) 1048576) % 8=5∧1<(st.length:Int))=decide (1<(st.length:Int)) from decide_eq_decide.2 (by omega)];first|done|rfl);done)
   | (
     first
       | (rw [decide_eq_false (p:=(around (l.getD i default) 1048576) % 8=6∧0<(st.length:Int)) (by omega)];first|done|rfl)
       | (rw [show decide ((around (l.getD i default) 1048576) % 8=6∧0<(st.length:Int))=decide (0<(st.length:Int)) from decide_eq_decide.2 (by omega)];first|done|rfl);done)
   | (
     rw [show shapedP l most=shpE st from by unfold shapedP;rw [show min l.length 16=i by omega,hst]]
     unfold shpE
     first
       | (rw [if_pos (by omega)];rfl)
       | (rw [if_neg (by omega)];rfl);done)
end Go.Proofs.YtgdehkimfmfofaaGreat

