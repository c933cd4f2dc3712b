/-
  Contracts that ask for the width of expressions,not for their size: the empty word,order,sequences.
-/
import Derived.Test.YtgdehkimfmfofaaGreatJ32
import Derived.Test.YtgdehkimfmfofaaGreatJ35
import Derived.Test.YtgdehkimfmfofaaGreatJ27
import Derived.Test.YtgdehkimfmfofaaGreatJ18
import Derived.Test.YtgdehkimfmfofaaGreatJ26
import Derived.Test.YtgdehkimfmfofaaGreatJ25
import Derived.Test.YtgdehkimfmfofaaGreatJ15
import Derived.Test.YtgdehkimfmfofaaGreatJ28
import Derived.Test.YtgdehkimfmfofaaGreatJ20
set_option linter.unusedVariables false
set_option linter.unusedSectionVars false
set_option linter.unusedSimpArgs false
namespace Go.Proofs.YtgdehkimfmfofaaGreat
open Go.Am Go.Wb Go.Wc
theorem fn53:Fn1 Tryz.prog 53 Tryz.f53.ntmps 0 (Tryz.f53.body.getD .skip):=⟨Tryz.f53,Tryz.func53,rfl,rfl,rfl,by kernel_rfl⟩
set_option maxRecDepth 100000 in
theorem abc_call:CallF Tryz.prog 53 [] (.p (letters abcL)):=by
  refine callF_of_code fn53 (Nat.le_of_ble_eq_true rfl) fun w0 M0 hM0=>?_
  refine xC tb hM0 10 [1,2,3] [] rfl ?_
  refine oP rfl (pure_lit rfl Tryz.underlying39 el83 rfl rfl rfl rfl hM0) ?_
  refine xA tb hM0 4 [] [] rfl ?_
  refine end_ret rfl ?_
  rfl
theorem lvp {s:List UInt8} (hs:s.length≤100):CallF Tryz.prog 32 [sbytes s,letters abcL,.sl []] (.p (.tup [rx (parseP abcL [] s).1,int (parseP abcL [] s).2])) :=
  parse_call (sets:=[]) (by omega) (by decide) (by decide) (by decide) (by decide)
theorem lvp1:CallF Tryz.prog 32 [sbytes [97,40,98,124,99,41,42],letters abcL,.sl []] (.p (.tup [rx xL,int (-1)])):=by
  have h:=lvp (s:=[97,40,98,124,99,41,42]) (by decide)
  rw [liv1] at h;exact h
theorem lvp2:CallF Tryz.prog 32 [sbytes [97,41],letters abcL,.sl []] (.p (.tup [rx (parseP abcL [] [97,41]).1,int 1])):=by
  have h:=lvp (s:=[97,41]) (by decide)
  rw [liv2] at h;exact h
theorem lvp3:CallF Tryz.prog 32 [sbytes [40,97],letters abcL,.sl []] (.p (.tup [rx (parseP abcL [] [40,97]).1,int 2])):=by
  have h:=lvp (s:=[40,97]) (by decide)
  rw [liv3] at h;exact h
theorem lvp4:CallF Tryz.prog 32 [sbytes [97,42,98,124,42],letters abcL,.sl []] (.p (.tup [rx (parseP abcL [] [97,42,98,124,42]).1,int 4])):=by
  have h:=lvp (s:=[97,42,98,124,42]) (by decide)
  rw [liv4] at h;exact h
theorem lv_print:CallW Tryz.prog 35 [rx xL,letters abcL] (.p (sbytes [97,40,98,124,99,41,42])):=by
  have h:=print_call (a:=abcL) (r:=xL) (by decide) (by decide) (by decide)
  rw [liv5] at h;exact h
theorem lv_d0:CallN Tryz.prog 24 [rx xL,int 0] (.p (rx restL)):=by
  have h:=Derive_call (r:=xL) (a:=0) (by decide) (by decide +kernel)
  rw [liv6] at h;exact h
theorem lv_d1:CallN Tryz.prog 24 [rx xL,int 1] (.p (rx noneRx)):=by
  have h:=Derive_call (r:=xL) (a:=1) (by decide) (by decide +kernel)
  rw [liv7] at h;exact h
theorem lv_s:CallF Tryz.prog 19 [rx (.mk 4 [] [emptyRx,restL])] (.p (rx restL)):=by
  have h:=simS_call (r:=.mk 4 [] [emptyRx,restL]) (by decide)
  rw [liv8] at h;exact h
theorem lv_r:CallF Tryz.prog 21 [rx xL] (.p (rx zL)):=by
  have h:=revS_call (r:=xL) (by decide)
  rw [liv9] at h;exact h
theorem lv_m1:CallF Tryz.prog 28 [rx xL,ints [0,1,2,1]] (.p (bool true)):=by
  have h:=match_call (r:=xL) (w:=[0,1,2,1]) (by decide) (by decide) (by decide +kernel)
  rw [liv10] at h;exact h
theorem lv_m2:CallF Tryz.prog 28 [rx xL,ints [1]] (.p (bool false)):=by
  have h:=match_call (r:=xL) (w:=[1]) (by decide) (by decide) (by decide +kernel)
  rw [liv11] at h;exact h
theorem fn23:Fn1 Tryz.prog 23 Tryz.f23.ntmps 0 (Tryz.f23.body.getD .skip):=⟨Tryz.f23,Tryz.func23,rfl,rfl,rfl,by kernel_rfl⟩
set_option maxRecDepth 100000 in
set_option maxHeartbeats 8000000 in
theorem lives_call:CallW Tryz.prog 23 [] (.p (bool true)):=by
  refine callW_of_code fn23 (Nat.le_of_ble_eq_true rfl) fun w0 M0 hM0 hdr=>?_
  refine xC tb hM0 7 [] [] rfl ?_
  refine oP rfl (pure_call rfl rfl rfl (abc_call) hM0) ?_
  refine xA tb hM0 6 [1,15] [] rfl ?_
  refine oP rfl (pure_call rfl rfl rfl (lvp1) hM0) ?_
  refine xA tb hM0 10 [1,2,3] [2] rfl ?_
  refine oP rfl (pure_lit rfl Tryz.underlying22 el3 rfl rfl rfl rfl hM0) ?_
  refine oP rfl (pure_callN rfl rfl rfl rfl (one_call [1,2]) hM0) ?_
  refine xA tb hM0 0 [1,2,3,20] [2] rfl ?_
  refine oP rfl (pure_lit rfl Tryz.underlying23 el25 rfl rfl rfl rfl hM0) ?_
  refine oP rfl (pure_callN rfl rfl rfl rfl (of_call 5 [oneR [1,2]]) hM0) ?_
  refine xA tb hM0 6 [1,2,3,4] [2,4] rfl ?_
  refine code_draw mixed (by kernel_rfl) _ rfl ?_
  refine dl_pure rfl rfl rfl (pure_move rfl rfl) ?_
  refine dl_pure rfl rfl rfl (pure_to (b':=false) (pure_neq rfl rfl rfl) (by decide)) ?_
  refine dl_pure rfl rfl rfl (pure_move rfl rfl) ?_
  refine dl_pure_g rfl rfl rfl rfl rfl (pure_load_box_agg rfl ag25 sz25 rfl rfl rfl rfl) ?_
  refine dl_pure_g rfl rfl rfl rfl rfl (pure_lit rfl Tryz.underlying22 el3 rfl rfl rfl rfl hM0) ?_
  refine dl_pure_g rfl rfl rfl rfl rfl (pure_callN rfl rfl rfl rfl (one_call [0]) hM0) ?_
  refine dl_pure_g rfl rfl rfl rfl rfl (pure_load_box_agg rfl ag25 sz25 rfl rfl rfl rfl) ?_
  refine dpk 123 [(1,_),(2,_),(4,_),(25,_),(26,_),(28,_),(29,_)] [(2,_),(4,_)] rfl rfl rfl ?_
  refine dl_pure_g rfl rfl rfl rfl rfl (pure_lit rfl Tryz.underlying23 el25 rfl rfl rfl rfl hM0) ?_
  refine dl_pure_g rfl rfl rfl rfl rfl (pure_callN rfl rfl rfl rfl (of_call 3 [oneR [0],restL]) hM0) ?_
  refine dl_pure_g rfl rfl rfl rfl rfl (pure_callb (b':=true) rfl rfl rfl (same_call (a:=xL) (b:=xL) (by decide) (by decide)) hM0 (by kernel_rfl)) ?_
  refine dl_pure_g rfl rfl rfl rfl rfl (pure_not rfl rfl) ?_
  refine dl_pure rfl rfl rfl (pure_pick_f rfl rfl rfl rfl) ?_
  refine dl_nil ?_
  refine xD tb hM0 7 [1,2,4,36] [2,4] rfl ?_
  refine oP rfl (pure_call rfl rfl rfl (lvp2) hM0) ?_
  refine xA tb hM0 11 [1,2,4,6,41] [2,4] rfl ?_
  refine oP rfl (pure_call rfl rfl rfl (lvp3) hM0) ?_
  refine xA tb hM0 11 [1,2,4,6,8,46] [2,4] rfl ?_
  refine oP rfl (pure_call rfl rfl rfl (lvp4) hM0) ?_
  refine xA tb hM0 12 [1,2,4,8,10,50] [2,4] rfl ?_
  refine oP rfl (pure_to (b':=false) (pure_neq rfl rfl rfl) (by decide)) ?_
  refine xA tb hM0 2 [1,2,4,10,52,53] [2,4] rfl ?_
  refine oP rfl (pure_to (b':=false) (pure_neq rfl rfl rfl) (by decide)) ?_
  refine xA tb hM0 3 [1,2,4,56,57] [2,4] rfl ?_
  refine oP rfl (pure_to (b':=false) (pure_neq rfl rfl rfl) (by decide)) ?_
  refine xA tb hM0 4 [2,4,60,61,62] [2,4] rfl ?_
  refine oP rfl (pure_callW hdr rfl rfl rfl (lv_print) hM0) ?_
  refine oP rfl (pure_to (b':=false) (pure_sneq rfl rfl rfl) (by decide)) ?_
  refine xA tb hM0 3 [2,4,66,67] [2,4] rfl ?_
  refine oP rfl (pure_callb (b':=true) rfl rfl rfl (valid_call _ xL (Nat.le_refl _) (by decide)) hM0 (liv12)) ?_
  refine xA tb hM0 4 [2,4,71,72] [2,4] rfl ?_
  refine oP rfl (pure_callb (b':=false) rfl rfl rfl (Empty_call (r:=xL) (by decide)) hM0 (by kernel_rfl)) ?_
  refine xA tb hM0 3 [2,4,75,76] [2,4] rfl ?_
  refine oP rfl (pure_callb (b':=true) rfl rfl rfl (Empty_call (r:=restL) (by decide)) hM0 (by kernel_rfl)) ?_
  refine xA tb hM0 9 [2,4] [2,4] rfl ?_
  refine code_draw mixed (by kernel_rfl) _ rfl ?_
  refine dl_pure rfl rfl rfl (pure_load_box_agg rfl ag25 sz25 rfl rfl rfl rfl) ?_
  refine dl_pure rfl rfl rfl (pure_callN rfl rfl rfl rfl (lv_d0) hM0) ?_
  refine dl_pure rfl rfl rfl (pure_load_box_agg rfl ag25 sz25 rfl rfl rfl rfl) ?_
  refine dl_pure rfl rfl rfl (pure_callb (b':=true) rfl rfl rfl (same_call (a:=restL) (b:=restL) (by decide) (by decide)) hM0 (by kernel_rfl)) ?_
  refine dl_pure rfl rfl rfl (pure_not rfl rfl) ?_
  refine dl_pure rfl rfl rfl (pure_move rfl rfl) ?_
  refine dl_pure_g rfl rfl rfl rfl rfl (pure_load_box_agg rfl ag25 sz25 rfl rfl rfl rfl) ?_
  refine dpk 123 [(2,_),(4,_),(85,_),(86,_)] [(2,_),(4,_)] rfl rfl rfl ?_
  refine dl_pure_g rfl rfl rfl rfl rfl (pure_callN rfl rfl rfl rfl (lv_d1) hM0) ?_
  refine dl_pure_g rfl rfl rfl rfl rfl (pure_fieldv rfl fd25_0 rfl rfl) ?_
  refine dl_pure_g rfl rfl rfl rfl rfl (pure_to (b':=false) (pure_neq rfl rfl rfl) (by decide)) ?_
  refine dl_pure rfl rfl rfl (pure_pick_f rfl rfl rfl rfl) ?_
  refine dl_nil ?_
  refine xD tb hM0 6 [2,4] [2,4] rfl ?_
  refine oP rfl (pure_norm (pure_build rfl pl25 ze25 rfl rfl rfl) rfl) ?_
  refine xA tb hM0 1 [2,4,91,92] [2,4] rfl ?_
  refine oP rfl (pure_lit rfl Tryz.underlying23 el25 rfl rfl rfl rfl hM0) ?_
  refine oP rfl (pure_callN rfl rfl rfl rfl (of_call 4 [emptyRx,restL]) hM0) ?_
  refine xA tb hM0 0 [2,4,94] [2,4] rfl ?_
  refine oP rfl (pure_call rfl rfl rfl (lv_s) hM0) ?_
  refine xA tb hM0 7 [2,4,11,96] [2,4,11] rfl ?_
  refine oP rfl (pure_call rfl rfl rfl (lv_r) hM0) ?_
  refine xA tb hM0 8 [2,12,98,99] [2,12] rfl ?_
  refine oP rfl (pure_callb (b':=true) rfl rfl rfl (same_call (a:=restL) (b:=restL) (by decide) (by decide)) hM0 (by kernel_rfl)) ?_
  refine xA tb hM0 2 [2,12,101,102] [2,12] rfl ?_
  refine oP rfl (pure_lit rfl Tryz.underlying22 el3 rfl rfl rfl rfl hM0) ?_
  refine oP rfl (pure_callb (b':=true) rfl rfl rfl (lv_m1) hM0 (rfl)) ?_
  refine xA tb hM0 3 [12,106,107] [12] rfl ?_
  refine oP rfl (pure_lit rfl Tryz.underlying22 el3 rfl rfl rfl rfl hM0) ?_
  refine oP rfl (pure_callb (b':=false) rfl rfl rfl (lv_m2) hM0 (rfl)) ?_
  refine xA tb hM0 5 [12,112,114] [12] rfl ?_
  refine oP rfl (pure_to (b':=true) (pure_eql rfl rfl rfl) (by decide)) ?_
  refine xA tb hM0 4 [117,119] [] rfl ?_
  refine oP rfl (pure_len rfl Tryz.underlying23 rfl) ?_
  refine oP rfl (pure_to (b':=true) (pure_eql rfl rfl rfl) (by decide)) ?_
  refine xA tb hM0 5 [] [] rfl ?_
  refine end_ret rfl ?_
  rfl
end Go.Proofs.YtgdehkimfmfofaaGreat

namespace Go.Proofs.YtgdehkimfmfofaaGreat
open Go.Am Go.Wb Go.Wc
theorem fn12:FnC Tryz.prog 12 Tryz.f12.ntmps 2 25 3 (Tryz.f12.body.getD .skip):=⟨Tryz.f12,Tryz.func12,rfl,rfl,rfl,by kernel_rfl,ag25,sz25⟩
set_option maxRecDepth 100000 in
theorem regex_call {l:List Int} (h64:I64s l) (hl:l.length≤9223372036854775807):CallF Tryz.prog 12 [ints l] (.p (rx (shapedP l 3))):=by
  refine callF_of_codeC fn12 (Nat.le_of_ble_eq_true rfl) fun w0 M0 hM0=>?_
  refine xC tb hM0 8 [2,3] [2] rfl ?_
  refine oP rfl (pure_call rfl rfl rfl (shaped_call h64 (by decide) (by decide) hl) hM0) ?_
  refine xA tb hM0 4 [] [] rfl ?_
  refine endC_ret rfl ?_
  rfl
end Go.Proofs.YtgdehkimfmfofaaGreat

namespace Go.Proofs.YtgdehkimfmfofaaGreat
open Go.Am Go.Wb

theorem fn13:Fn1 Tryz.prog 13 Tryz.f13.ntmps 4 (Tryz.f13.body.getD .skip):=⟨Tryz.f13,Tryz.func13,rfl,rfl,rfl,by kernel_rfl⟩
set_option maxRecDepth 100000 in
set_option maxHeartbeats 1000000 in
theorem nodes_call {most:Int} (h0:0≤most) (h1m:most≤1000):∀ (m:Nat) (r:Rx),r.size≤m→m≤1048576→CallF Tryz.prog 13 [rx r,int most] (.p (int (nodesV most r))):=by
  intro m
  induction m with
  | zero=>intro r hr _;have:=size_pos r;omega
  | succ m ih =>
  intro r hr hm
  have hkl:=kids_len r
  rw [rx_eq r]
  refine callF_of_code fn13 (Nat.le_of_ble_eq_true rfl) fun w0 M0 hM0=>?_
  refine xC tb hM0 2 [0,1] [] rfl ?_
  refine oP rfl (pure_box rfl rfl rfl hM0) ?_
  refine xA tb hM0 15 [1,2,5,6] [] rfl ?_
  refine lp (fun zm zs=>∃ (i:Nat) (n:Int),zm=r.kids.length-i∧(i≤r.kids.length)∧(nodesV most r=nodesG most n (r.kids.drop i))∧(1≤n)∧(n+Rx.sizes (r.kids.drop i)≤r.size)∧zs=⟨29,[(1,.v .mx (int most)),(2,.v .mx (rpc r)),(5,.v .pl (int n)),(6,.v .pl (int i))],[]⟩) ?_ ?_
  exact ⟨_,0,1,rfl,Nat.zero_le _,nodesV_eq _ _,Int.le_refl _,by rw [size_eq,List.drop_zero];omega,rfl⟩
  rintro zm zs ⟨i,n,rfl,hL1_0,hL1_1,hL1_2,hL1_3,rfl⟩
  have hss:=fun h=>sizes_step (l:=r.kids) (i:=i) h
  have hkb:=nodesV_bd most (r.kids.getD i default)
  refine xA tb hM0 6 [1,2,5,6,7,9] [] rfl ?_
  refine oP rfl (pure_lenm rfl Tryz.underlying23 rfl) ?_
  refine xA tb hM0 2 [1,2,5,6,12] [] rfl ?_
  refine spO 12 rfl ?_ ?_<;>intro h1'<;>try simp only [dq] at h1'
  refine xA tb hM0 6 [1,2,5,6,16] [] rfl ?_
  refine spC 16 rfl ?_ ?_<;>intro h2<;>try simp only [dq] at h2
  refine xA tb hM0 10 [1,2,6,19,21,22] [] rfl ?_
  refine oP rfl (pure_ix rfl Tryz.underlying23 sz25 rfl rfl (by omega) (fun _=>rfl)) ?_
  refine xA tb hM0 2 [1,2,6,19,24,25] [] rfl ?_
  refine oP rfl (pure_call rfl rfl rfl (ih _ (Nat.le_of_lt_succ (Nat.lt_of_lt_of_le (kid_lt (by omega)) hr)) (by omega)) hM0) ?_
  refine oP rfl (pure_addi rfl rfl rfl (by have:=hss (by omega);omega)) ?_
  refine xA tb hM0 6 [1,2,5,17] [] rfl ?_
  refine oP rfl (pure_addi rfl rfl rfl (by omega)) ?_
  refine xA tb hM0 2 [1,2,5,6] [] rfl ?_
  refine nx ?_
  exact ⟨_,⟨i+1,_,rfl,by omega,hL1_1.trans (nodesG_step (by omega) (by omega)),by omega,by have:=hss (by omega);omega,rfl⟩,by omega⟩
  refine xA tb hM0 13 [] [] rfl ?_
  refine end_ret rfl ?_;rotate_left
  refine xA tb hM0 19 [] [] rfl ?_
  refine end_ret rfl ?_;rotate_left
  all_goals
    rw [hL1_1,nodesG_end (by omega)]
end Go.Proofs.YtgdehkimfmfofaaGreat

namespace Go.Proofs.YtgdehkimfmfofaaGreat
open Go.Am Go.Wb
end Go.Proofs.YtgdehkimfmfofaaGreat

namespace Go.Proofs.YtgdehkimfmfofaaGreat
open Go.Am Go.Wb
end Go.Proofs.YtgdehkimfmfofaaGreat

namespace Go.Proofs.YtgdehkimfmfofaaGreat
open Go.Am Go.Wb
end Go.Proofs.YtgdehkimfmfofaaGreat

namespace Go.Proofs.YtgdehkimfmfofaaGreat
open Go.Am Go.Wb
set_option maxRecDepth 100000 in
set_option maxHeartbeats 4000000 in
theorem empty_callW:∀ (m:Nat) (r:Rx),r.size≤m→wd r≤1099511627776→CallF Tryz.prog 48 [rx r] (.p (bool (accR r))):=by
  intro m
  induction m with
  | zero=>intro a hr _;have:=size_pos a;omega
  | succ m ih =>
  intro r hr hm
  have hkl:=(wd_le.1 hm).1.2
  have hsl:=(wd_le.1 hm).1.1
  rw [rx_eq r]
  refine callF_of_code fn48 (Nat.le_of_ble_eq_true rfl) fun w0 M0 hM0=>?_
  refine xC tb hM0 2 [0] [] rfl ?_
  refine oP rfl (pure_box rfl rfl rfl hM0) ?_
  refine xA tb hM0 18 [1,4,5] [] rfl ?_
  refine spC 5 rfl ?_ ?_<;>intro h1<;>try simp only [dq] at h1
  refine xA tb hM0 12 [] [] rfl ?_
  refine end_ret rfl ?_;rotate_left
  refine xA tb hM0 6 [1,4,5] [] rfl ?_
  refine spC 5 rfl ?_ ?_<;>intro h2<;>try simp only [dq] at h2
  refine xA tb hM0 9 [] [] rfl ?_
  refine end_ret rfl ?_;rotate_left
  refine xA tb hM0 7 [1,4,8] [] rfl ?_
  refine spC 8 rfl ?_ ?_<;>intro h3<;>try simp only [dq] at h3
  refine xA tb hM0 5 [11] [] rfl ?_
  refine oP rfl (pure_call rfl rfl rfl (hasR_call (p:=fun x=>!accR x) (by omega) (fun x hx=>emptyN_call (ih _ (Nat.le_of_lt_succ (Nat.lt_of_lt_of_le (size_kid hx) hr)) (wd_kid hm hx)))) hM0) ?_
  refine xA tb hM0 7 [] [] rfl ?_
  refine end_ret rfl ?_;rotate_left
  refine xA tb hM0 7 [1,14] [] rfl ?_
  refine spC 14 rfl ?_ ?_<;>intro h4<;>try simp only [dq] at h4
  refine xA tb hM0 5 [17] [] rfl ?_
  refine oP rfl (pure_call rfl rfl rfl (hasR_call (p:=accR) (by omega) (fun x hx=>(ih _ (Nat.le_of_lt_succ (Nat.lt_of_lt_of_le (size_kid hx) hr)) (wd_kid hm hx)))) hM0) ?_
  refine xA tb hM0 6 [] [] rfl ?_
  refine end_ret rfl ?_;rotate_left
  refine xA tb hM0 10 [] [] rfl ?_
  refine end_ret rfl ?_;rotate_left
  all_goals
    rw [accR_eq];first|(rw [if_pos (by omega),all_not_any];done)|(rw [if_neg (by omega),if_pos (by omega)];done)|(rw [if_neg (by omega),if_neg (by omega)];simp_all;done)|(rw [if_neg (by omega),if_neg (by omega),decide_eq_false (by omega)];done)
set_option maxRecDepth 100000 in
set_option maxHeartbeats 4000000 in
theorem compare_callW:∀ (m:Nat) (a b:Rx),a.size≤m→wd a≤1099511627776→wd b≤1099511627776→CallF Tryz.prog 115 [rx a,rx b] (.p (int (cmpR a b))):=by
  intro m
  induction m with
  | zero=>intro a b hr _ _;have:=size_pos a;omega
  | succ m ih =>
  intro a b ha hwa hwb
  have hka:=(wd_le.1 hwa).1.2
  have hsa:=(wd_le.1 hwa).1.1
  have hkb:=(wd_le.1 hwb).1.2
  have hsb:=(wd_le.1 hwb).1.1
  rw [rx_eq a,rx_eq b]
  refine callF_of_code fn115 (Nat.le_of_ble_eq_true rfl) fun w0 M0 hM0=>?_
  refine xC tb hM0 2 [0,1] [] rfl ?_
  refine oP rfl (pure_box rfl rfl rfl hM0) ?_
  refine oP rfl (pure_box rfl rfl rfl hM0) ?_
  refine xA tb hM0 4 [2,3] [] rfl ?_
  refine code_draw mixed (by kernel_rfl) _ rfl ?_
  refine dl_pure rfl rfl rfl (pure_field rfl fd25_0 rfl) ?_
  refine dl_pure rfl rfl rfl (pure_load rfl ag3 rfl rfl) ?_
  refine dl_pure rfl rfl rfl (pure_field rfl fd25_0 rfl) ?_
  refine dl_pure rfl rfl rfl (pure_load rfl ag3 rfl rfl) ?_
  refine dl_pure rfl rfl rfl (pure_call rfl rfl rfl (cmp_call) hM0) ?_
  refine dl_pure rfl rfl rfl (pure_field rfl fd25_1 rfl) ?_
  refine dl_pure rfl rfl rfl (pure_load rfl ag22 rfl rfl) ?_
  refine dpk 22 [(2,_),(3,_),(9,_),(11,_)] [] rfl rfl rfl ?_
  refine dl_pure rfl rfl rfl (pure_field rfl fd25_1 rfl) ?_
  refine dl_pure rfl rfl rfl (pure_load rfl ag22 rfl rfl) ?_
  refine dl_pure rfl rfl rfl (pure_call rfl rfl rfl (scompare_call (by omega) (by omega)) hM0) ?_
  refine dl_pure rfl rfl rfl (pure_field rfl fd25_2 rfl) ?_
  refine dl_pure rfl rfl rfl (pure_load rfl ag23 rfl rfl) ?_
  refine dl_pure rfl rfl rfl (pure_field rfl fd25_2 rfl) ?_
  refine dl_pure rfl rfl rfl (pure_load rfl ag23 rfl rfl) ?_
  refine dpk 22 [(9,_),(14,_),(16,_),(18,_)] [] rfl rfl rfl ?_
  refine dl_pure rfl rfl rfl (pure_call rfl rfl rfl (cfun_call (by omega) (by omega) (fun x hx y hy=>ih x y (Nat.le_of_lt_succ (Nat.lt_of_lt_of_le (size_kid hx) ha)) (wd_kid hwa hx) (wd_kid hwb hy))) hM0) ?_
  refine dl_pure rfl rfl rfl (pure_lit rfl Tryz.underlying22 el3 rfl rfl rfl rfl hM0) ?_
  refine dl_pure rfl rfl rfl (pure_call rfl rfl rfl (or_call (l:=[orderI a.kind b.kind,orderL a.syms b.syms,cmpRs a.kids b.kids]) (by simp)) hM0) ?_
  refine dl_pure rfl rfl rfl (pure_assign rfl rfl) ?_
  refine dl_nil ?_
  refine xD tb hM0 2 [] [] rfl ?_
  refine end_ret rfl ?_
  rw [cmpR_or]
set_option maxRecDepth 100000 in
set_option maxHeartbeats 4000000 in
theorem seq_callW {l:List Rx} (hl:l.length≤1099511627776) (hs:∀ i,i<l.length→(seqL (l.take i)).length+(l.getD i default).kids.length+1≤1099511627776):CallN Tryz.prog 77 [rxs l] (.p (rx (seqN l))):=by
  refine callN_of_codeC fn77 (Nat.le_of_ble_eq_true rfl) fun w0 M0 hM0=>?_
  refine xC tb hM0 7 [0,2] [2] rfl ?_
  refine oS rfl (step_nil rfl rfl rfl rfl rfl 25 hM0) rfl ?_
  refine xA tb hM0 6 [2,3,6] [2,3] rfl ?_
  refine oP rfl (pure_lenm rfl Tryz.underlying23 rfl) ?_
  refine xA tb hM0 4 [2,3,6,7,8] [2,3] rfl ?_
  refine lp (fun zm zs=>∃ i:Nat,zm=l.length-i∧(i≤l.length)∧(∀ j,j<i→(l.getD j default).kind≠0)∧zs=⟨42,[(2,.pbox 2 0),(3,.own 3),(6,.v .pl (rxs l)),(7,.v .pl (int l.length)),(8,.v .pl (int i))],[(2,.box 25 [.v .pl (.sc (.int .i64 0)),.v .pl (.sc (.slice none 0 0)),.v .pl (.sc (.slice none 0 0))]),(3,.arr 25 ((seqL (l.take i)).map rx))]⟩) ?_ ?_
  exact ⟨_,0,rfl,Nat.zero_le _,fun j hj=>absurd hj (by omega),rfl⟩
  rintro zm zs ⟨i,rfl,hL1_0,hL1_1,rfl⟩
  have hroom:=hs i
  refine xA tb hM0 6 [2,3,6,7,8,9] [2,3] rfl ?_
  refine spC 9 rfl ?_ ?_<;>intro h1<;>try simp only [dq] at h1
  refine xA tb hM0 7 [2,3,6,7,8] [2,3] rfl ?_
  refine oP rfl (pure_ix rfl Tryz.underlying23 sz25 rfl rfl (by omega) (fun _=>rfl)) ?_
  refine xA tb hM0 18 [2,3,5,6,7,8,13,18] [2,3,5] rfl ?_
  refine spC 18 rfl ?_ ?_<;>intro h2<;>try simp only [dq] at h2
  refine xA tb hM0 14 [] [] rfl ?_
  refine endC_ret rfl ?_;rotate_left
  refine xA tb hM0 7 [2,3,5,6,7,8,13,21] [2,3,5] rfl ?_
  refine spC 21 rfl ?_ ?_<;>intro h3<;>try simp only [dq] at h3
  refine xA tb hM0 6 [2,3,6,7,8] [2,3] rfl ?_
  refine oP rfl (pure_addi rfl rfl rfl (by omega)) ?_
  refine xA tb hM0 2 [2,3,6,7,8] [2,3] rfl ?_
  refine nx ?_;rotate_left
  refine xA tb hM0 7 [2,3,5,6,7,8,23] [2,3,5] rfl ?_
  refine spC 23 rfl ?_ ?_<;>intro h4<;>try simp only [dq] at h4
  refine xA tb hM0 1 [2,3,5,6,7,8] [2,3,5] rfl ?_
  have hr:=hroom (by omega)
  refine xA tb hM0 4 [2,6,7,8,25,27] [2,3] rfl ?_
  refine oS rfl (step_append rfl rfl rfl rfl Tryz.underlying23 el25 rfl rfl hM0 (src_avs (l:=(l.getD i default).kids) rfl) (by first|(simp only [ll];omega)|omega) (by first|(simp only [ll];omega)|omega)) rfl ?_
  refine xA tb hM0 6 [2,3,6,7,8] [2,3] rfl ?_
  refine oP rfl (pure_addi rfl rfl rfl (by omega)) ?_
  refine xA tb hM0 2 [2,3,6,7,8] [2,3] rfl ?_
  refine nx ?_;rotate_left
  refine xA tb hM0 1 [2,3,5,6,7,8] [2,3,5] rfl ?_
  have hr:=hroom (by omega)
  refine xA tb hM0 3 [2,6,7,8,14,15] [2,3] rfl ?_
  refine oP rfl (pure_lit rfl Tryz.underlying23 el25 rfl rfl rfl rfl hM0) ?_
  refine oS rfl (step_append rfl rfl rfl rfl Tryz.underlying23 el25 rfl rfl hM0 (src_pl rfl (one_len (by rfl))) (by first|(simp only [ll];omega)|omega) (by first|(simp only [ll];omega)|omega)) rfl ?_
  refine xA tb hM0 6 [2,3,6,7,8] [2,3] rfl ?_
  refine oP rfl (pure_addi rfl rfl rfl (by omega)) ?_
  refine xA tb hM0 2 [2,3,6,7,8] [2,3] rfl ?_
  refine nx ?_;rotate_left
  refine xA tb hM0 10 [2,3,30] [2,3] rfl ?_
  refine oP rfl (pure_lenm rfl Tryz.underlying23 rfl) ?_
  refine xA tb hM0 9 [2,3,31,32] [2,3] rfl ?_
  refine spC 32 rfl ?_ ?_<;>intro h5<;>try simp only [dq] at h5
  refine xA tb hM0 10 [] [] rfl ?_
  refine endC_ret rfl ?_;rotate_left
  refine xA tb hM0 7 [2,3,35] [2,3] rfl ?_
  refine spC 35 rfl ?_ ?_<;>intro h6<;>try simp only [dq] at h6
  refine xA tb hM0 4 [2,37] [2,3] rfl ?_
  refine oP rfl (pure_index_own rfl Tryz.underlying23 sz25 rfl rfl rfl (by first|(simp only [ll];omega)|omega)) ?_
  refine oP rfl (pure_load_pel_agg rfl ag25 sz25 rfl rfl sz25 (mget (by first|(simp only [ll];omega)|omega))) ?_
  refine xA tb hM0 6 [] [] rfl ?_
  refine endC_ret rfl ?_;rotate_left
  refine xA tb hM0 5 [2,3] [2,3] rfl ?_
  refine code_frz 42 [(2,_),(3,_)] [(2,_)] hM0 rfl ⟨.inl rfl,.inr ⟨_,_,rfl,rfl,rfl⟩,trivial⟩ ⟨rfl,trivial⟩ ?_
  refine xK tb hM0 7 [] [] rfl ?_
  refine endC_ret rfl ?_;rotate_left
  all_goals first
   | (
     first|(rw [seqN_none (i:=i) (by omega) (by omega)];rfl)|(rw [seqN_some (fun j hj=>hL1_1 j (by omega))];rw [show seqL l=seqL (l.take i) by rw [List.take_of_length_le (by omega)]];first|(rw [seqE_0 (by omega)];rfl)|(rw [seqE_1 (by omega)];rfl)|(rw [seqE_2 (by omega) (by omega),rx_mk];rfl));done)
   | (
     exact ⟨_,⟨i+1,rfl,by omega,all_step hL1_1 (by omega),by rw [seqL_succ (by omega)];first|(rw [seqF_1 (by omega),List.append_nil];rfl)|(rw [seqF_3 (by omega),List.map_append];rfl)|(rw [seqF_x (by omega) (by omega),List.map_append];rfl)⟩,by omega⟩;done)
theorem seq_callB {B:Nat} {l:List Rx} (hB:B≤549755813000) (hl:l.length≤B) (h:(seqL l).length≤B) (hw:∀ x∈l,wd x≤B):CallN Tryz.prog 77 [rxs l] (.p (rx (seqN l))) :=
  seq_callW (by omega) fun i hi=>by have:=seq_room h hw i hi;omega
end Go.Proofs.YtgdehkimfmfofaaGreat

