/-
  Contracts of the program's alphabets.
-/
import Derived.Test.YtgdehkimfmfofaaGreatJ29
import Derived.Test.YtgdehkimfmfofaaGreatJ17
import Derived.Test.YtgdehkimfmfofaaGreatJ12
import Derived.Test.YtgdehkimfmfofaaGreatJ25
import Derived.Test.YtgdehkimfmfofaaGreatJ18
import Derived.Test.YtgdehkimfmfofaaGreatJ15
import Derived.Shelf.Small.Strs
set_option linter.unusedVariables false
set_option linter.unusedSectionVars false
set_option linter.unusedSimpArgs false
namespace Go.Proofs.YtgdehkimfmfofaaGreat
open Go.Am Go.Wb
abbrev psO (s:PS):List (Nat×Ob):=[(1000001,.box 73 [.v .pl (toks s.l),.v .pl (int s.bad)])]
theorem fn61:Fn0 Tryz.prog 61 Tryz.f61.ntmps (Tryz.f61.body.getD .skip):=⟨Tryz.f61,Tryz.func61,rfl,rfl,rfl,by kernel_rfl⟩
set_option maxRecDepth 100000 in
theorem fail_call {s:PS} (h0:0<s.l.length):CallO Tryz.prog 61 [.pbox 1000001 0] (psO s) (.v .pl (.tup [])) (psO s.fail):=by
  refine callO_of_code0 fn61 (Nat.le_of_ble_eq_true rfl) fun w0 M0 hM0=>?_
  refine xC tb hM0 9 [0,6] [1000001] rfl ?_
  refine spC 6 rfl ?_ ?_<;>intro h1<;>try simp only [dq] at h1
  refine xA tb hM0 7 [7,11] [1000001] rfl ?_
  refine oP rfl (pure_ix rfl Tryz.underlying70 sz76 rfl rfl (by omega) (fun _=>rfl)) ?_
  refine xA tb hM0 6 [] [] rfl ?_
  refine endO0_normal (o1:=[(1000001,_)]) ⟨rfl,trivial⟩ ?_;rotate_left
  refine xA tb hM0 2 [] [] rfl ?_
  refine endO0_normal (o1:=[(1000001,_)]) ⟨rfl,trivial⟩ ?_;rotate_left
  all_goals
    first
      | (unfold PS.fail;rw [if_pos (by omega)];first|done|rfl)
      | (unfold PS.fail;rw [if_neg (by omega)];first|done|rfl)
abbrev PostC (n:Nat):Prop:=∀ s:PS,s.l.length≤n→endT s.l→(s.hd=97∨s.hd=40)→s.bad<0→TokOk s.l→wtT s.l≤274877906944 →
  CallO Tryz.prog 124 [.pbox 1000001 0] (psO s) (.v .pl (rx (pPost n s).1)) (psO (pPost n s).2)
abbrev SeqC (n:Nat):Prop:=∀ s:PS,s.l.length≤n→endT s.l→TokOk s.l→wtT s.l≤274877906944 →
  CallO Tryz.prog 94 [.pbox 1000001 0] (psO s) (.v .pl (rx (pSeq (pPost n) s).1)) (psO (pSeq (pPost n) s).2)
abbrev AltC (n:Nat):Prop:=∀ s:PS,s.l.length≤n→endT s.l→TokOk s.l→wtT s.l≤274877906944 →
  CallO Tryz.prog 60 [.pbox 1000001 0] (psO s) (.v .pl (rx (pAlt (pSeq (pPost n)) s).1)) (psO (pAlt (pSeq (pPost n)) s).2)
theorem fn94:FnC Tryz.prog 94 Tryz.f94.ntmps 2 25 3 (Tryz.f94.body.getD .skip):=⟨Tryz.f94,Tryz.func94,rfl,rfl,rfl,by kernel_rfl,ag25,sz25⟩
set_option maxRecDepth 100000 in
set_option maxHeartbeats 4000000 in
theorem pseq_call {n:Nat} (hP:PostC n):SeqC n:=by
  intro s hn he ha hw
  refine callO_of_codeC fn94 (Nat.le_of_ble_eq_true rfl) fun w0 M0 hM0=>?_
  refine xC tb hM0 7 [0,2] [2,1000001] rfl ?_
  refine oS rfl (step_nil rfl rfl rfl rfl rfl 25 hM0) rfl ?_
  refine xA tb hM0 4 [0,2,3] [2,3,1000001] rfl ?_
  refine lp (fun zm zs=>∃ (z:PS) (k:Nat) (acc:List Rx),zm=z.l.length∧(endT z.l∧z.l.length≤k∧z.l.length≤n∧TokOk z.l)∧(Rx.sizes acc+wtT z.l≤wtT s.l)∧((acc++(seqLp (pPost n) k z).1,(seqLp (pPost n) k z).2)=seqLp (pPost n) s.l.length s)∧zs=⟨36,[(0,.pbox 1000001 0),(2,.pbox 2 0),(3,.own 3)],[(2,.box 25 [.v .pl (.sc (.int .i64 0)),.v .pl (.sc (.slice none 0 0)),.v .pl (.sc (.slice none 0 0))]),(3,.arr 25 (acc.map rx)),(1000001,.box 73 [.v .pl (toks (z).l),.v .pl (int (z).bad)])]⟩) ?_ ?_
  exact ⟨_,s,s.l.length,[],rfl,⟨he,Nat.le_refl _,hn,ha⟩,by rw [show Rx.sizes []=0 from rfl];omega,rfl,rfl⟩
  rintro zm zs ⟨z,k,acc,rfl,hL1_0,hL1_1,hL1_2,rfl⟩
  obtain ⟨hz1,hz2,hz3,hz4⟩:=hL1_0
  have hz0:=hz1.1
  have hpo:=fun h=>pPost_ok n z hz3 hz1 h hz4
  have hsl:=sizes_len acc
  refine xA tb hM0 9 [0,2,3,9] [2,3,1000001] rfl ?_
  refine spO 9 rfl ?_ ?_<;>intro h1'<;>try simp only [dq] at h1'
  refine xA tb hM0 4 [0,2,3,9,13] [2,3,1000001] rfl ?_
  refine oP rfl (pure_ix rfl Tryz.underlying70 sz76 rfl rfl (by omega) (fun _=>rfl)) ?_
  refine xA tb hM0 2 [0,2,3,9,16] [2,3,1000001] rfl ?_
  refine oP rfl (pure_eql rfl rfl rfl) ?_
  refine xA tb hM0 1 [0,2,3,9,18] [2,3,1000001] rfl ?_
  refine spO 18 rfl ?_ ?_<;>intro h2'<;>try simp only [dq] at h2'
  refine xA tb hM0 19 [0,2,29,30] [2,3,1000001] rfl ?_
  refine oS rfl (step_callO [(1000001,1000001)] rfl rfl rfl rfl rfl rfl rfl (hP z hz3 hz1 (by unfold PS.hd;omega) (by omega) hz4 (by omega)) ⟨.inl rfl,trivial⟩ ⟨rfl,trivial⟩ rfl rfl rfl rfl rfl hM0) rfl ?_
  refine xA tb hM0 0 [0,2,29,31] [2,3,1000001] rfl ?_
  refine oP rfl (pure_lit rfl Tryz.underlying23 el25 rfl rfl rfl rfl hM0) ?_
  refine oS rfl (step_append rfl rfl rfl rfl Tryz.underlying23 el25 rfl rfl hM0 (src_pl rfl (one_len (by rfl))) (by first|(simp only [ll];omega)|omega) (by first|(simp only [ll];omega)|omega)) rfl ?_
  refine xA tb hM0 3 [0,2,3] [2,3,1000001] rfl ?_
  refine nx ?_;rotate_left
  refine xA tb hM0 4 [0,2,3,9,18,22] [2,3,1000001] rfl ?_
  refine oP rfl (pure_ix rfl Tryz.underlying70 sz76 rfl rfl (by omega) (fun _=>rfl)) ?_
  refine xA tb hM0 2 [0,2,3,9,18,25] [2,3,1000001] rfl ?_
  refine oP rfl (pure_eql rfl rfl rfl) ?_
  refine xA tb hM0 4 [0,2,3,28] [2,3,1000001] rfl ?_
  refine spC 28 rfl ?_ ?_<;>intro h3<;>try simp only [dq] at h3
  refine xA tb hM0 7 [0,2,29,30] [2,3,1000001] rfl ?_
  refine oS rfl (step_callO [(1000001,1000001)] rfl rfl rfl rfl rfl rfl rfl (hP z hz3 hz1 (by unfold PS.hd;omega) (by omega) hz4 (by omega)) ⟨.inl rfl,trivial⟩ ⟨rfl,trivial⟩ rfl rfl rfl rfl rfl hM0) rfl ?_
  refine xA tb hM0 0 [0,2,29,31] [2,3,1000001] rfl ?_
  refine oP rfl (pure_lit rfl Tryz.underlying23 el25 rfl rfl rfl rfl hM0) ?_
  refine oS rfl (step_append rfl rfl rfl rfl Tryz.underlying23 el25 rfl rfl hM0 (src_pl rfl (one_len (by rfl))) (by first|(simp only [ll];omega)|omega) (by first|(simp only [ll];omega)|omega)) rfl ?_
  refine xA tb hM0 3 [0,2,3] [2,3,1000001] rfl ?_
  refine nx ?_;rotate_left
  refine xA tb hM0 7 [2,3] [2,3,1000001] rfl ?_
  refine code_frz 36 [(2,_),(3,_)] [(2,_),(1000001,_)] hM0 rfl ⟨.inl rfl,.inr ⟨_,_,rfl,rfl,rfl⟩,trivial⟩ ⟨rfl,rfl,trivial⟩ ?_
  refine xK tb hM0 2 [2,34] [2,1000001] rfl ?_
  refine oP rfl (pure_callN rfl rfl rfl rfl (seq_call (l:=acc) (by omega)) hM0) ?_
  refine xA tb hM0 4 [] [] rfl ?_
  refine endOC_ret (o1:=[(1000001,_)]) rfl ⟨rfl,trivial⟩ ?_;rotate_left
  refine xA tb hM0 28 [2,3] [2,3,1000001] rfl ?_
  refine code_frz 36 [(2,_),(3,_)] [(2,_),(1000001,_)] hM0 rfl ⟨.inl rfl,.inr ⟨_,_,rfl,rfl,rfl⟩,trivial⟩ ⟨rfl,rfl,trivial⟩ ?_
  refine xK tb hM0 2 [2,34] [2,1000001] rfl ?_
  refine oP rfl (pure_callN rfl rfl rfl rfl (seq_call (l:=acc) (by omega)) hM0) ?_
  refine xA tb hM0 4 [] [] rfl ?_
  refine endOC_ret (o1:=[(1000001,_)]) rfl ⟨rfl,trivial⟩ ?_;rotate_left
  all_goals first
   | (
     have hk:z.hd=97∨z.hd=40:=by unfold PS.hd;omega
     obtain ⟨g1,g2,g3,g4,g5⟩:=hpo hk
     obtain ⟨k,rfl⟩:∃ k',k=k'+1:=⟨k-1,by omega⟩
     refine ⟨_,⟨(pPost n z).2,k,acc++[(pPost n z).1],rfl,⟨g1,by omega,by omega,hz4.sub g5⟩,by rw [sizes_append,Rx.sizes,Rx.sizes];omega,?_,?_⟩,by omega⟩
     · rw [← hL1_2,seqLp_step ⟨by omega,hk⟩,List.append_assoc];rfl
     · rw [List.map_append];rfl;done)
   | (
     have hs0:seqLp (pPost n) k z=([],z):=seqLp_stop (by unfold PS.hd;omega)
     rw [hs0,List.append_nil] at hL1_2
     rw [pSeq_is hL1_2];exact ⟨rfl,rfl⟩;done)
theorem fn60:FnC Tryz.prog 60 Tryz.f60.ntmps 2 25 3 (Tryz.f60.body.getD .skip):=⟨Tryz.f60,Tryz.func60,rfl,rfl,rfl,by kernel_rfl,ag25,sz25⟩
set_option maxRecDepth 100000 in
set_option maxHeartbeats 4000000 in
theorem palt_call {n:Nat} (hS:SeqC n):AltC n:=by
  intro s hn he ha hw
  obtain ⟨g1,g2,g3,g4,g5⟩:=pSeq_ok (pPost_ok n) s hn he ha
  refine callO_of_codeC fn60 (Nat.le_of_ble_eq_true rfl) fun w0 M0 hM0=>?_
  refine xC tb hM0 8 [0,2,4] [2,1000001] rfl ?_
  refine oS rfl (step_callO [(1000001,1000001)] rfl rfl rfl rfl rfl rfl rfl (hS s hn he ha hw) ⟨.inl rfl,trivial⟩ ⟨rfl,trivial⟩ rfl rfl rfl rfl rfl hM0) rfl ?_
  refine xA tb hM0 0 [0,2,5] [2,1000001] rfl ?_
  refine oS rfl (step_lit rfl rfl rfl rfl Tryz.underlying23 el25 rfl rfl rfl rfl hM0) rfl ?_
  refine xA tb hM0 5 [0,2,3] [2,6,1000001] rfl ?_
  refine lp (fun zm zs=>∃ (z:PS) (k:Nat) (acc:List Rx),zm=z.l.length∧(endT z.l∧z.l.length≤k∧z.l.length≤n∧TokOk z.l)∧(Rx.sizes acc+wtT z.l≤wtT s.l+1)∧((acc++(altLp (pSeq (pPost n)) k z).1,(altLp (pSeq (pPost n)) k z).2)=((pSeq (pPost n) s).1 :: (altLp (pSeq (pPost n)) (pSeq (pPost n) s).2.l.length (pSeq (pPost n) s).2).1,(altLp (pSeq (pPost n)) (pSeq (pPost n) s).2.l.length (pSeq (pPost n) s).2).2))∧zs=⟨37,[(0,.pbox 1000001 0),(2,.pbox 2 0),(3,.own 6)],[(2,.box 25 [.v .pl (.sc (.int .i64 0)),.v .pl (.sc (.slice none 0 0)),.v .pl (.sc (.slice none 0 0))]),(6,.arr 25 (acc.map rx)),(1000001,.box 73 [.v .pl (toks (z).l),.v .pl (int (z).bad)])]⟩) ?_ ?_
  exact ⟨_,(pSeq (pPost n) s).2,_,[(pSeq (pPost n) s).1],rfl,⟨g1,Nat.le_refl _,by omega,ha.sub g5⟩,by rw [Rx.sizes,Rx.sizes];omega,rfl,rfl⟩
  rintro zm zs ⟨z,k,acc,rfl,hL1_0,hL1_1,hL1_2,rfl⟩
  obtain ⟨hz1,hz2,hz3,hz4⟩:=hL1_0
  have hz0:=hz1.1
  have hsl:=sizes_len acc
  have hwz:=wt_adv hz1.1
  have hadv:=fun h=>endT_adv hz1 h
  have hsub:∀ t∈z.adv.l,t∈z.l:=fun t ht=>List.mem_of_mem_drop ht
  refine xA tb hM0 9 [0,2,3,12] [2,6,1000001] rfl ?_
  refine spO 12 rfl ?_ ?_<;>intro h1'<;>try simp only [dq] at h1'
  refine xA tb hM0 4 [0,2,3,12,16] [2,6,1000001] rfl ?_
  refine oP rfl (pure_ix rfl Tryz.underlying70 sz76 rfl rfl (by omega) (fun _=>rfl)) ?_
  refine xA tb hM0 2 [0,2,3,12,19] [2,6,1000001] rfl ?_
  refine oP rfl (pure_eql rfl rfl rfl) ?_
  refine xA tb hM0 3 [0,2,3,21] [2,6,1000001] rfl ?_
  refine spC 21 rfl ?_ ?_<;>intro h2<;>try simp only [dq] at h2
  refine xA tb hM0 11 [0,2,3,22,26] [2,6,1000001] rfl ?_
  refine oP rfl (pure_slice_lm rfl Tryz.underlying70 sz76 rfl rfl (by first|(simp only [ll];omega)|omega) (fun _=>rfl)) ?_
  refine xA tb hM0 8 [0,2,30,31] [2,6,1000001] rfl ?_
  refine oS rfl (step_callO [(1000001,1000001)] rfl rfl rfl rfl rfl rfl rfl (hS z.adv (by have:=(hadv (by unfold PS.hd;omega)).2;omega) (hadv (by unfold PS.hd;omega)).1 (hz4.sub hsub) (by omega)) ⟨.inl rfl,trivial⟩ ⟨rfl,trivial⟩ rfl rfl rfl rfl rfl hM0) rfl ?_
  refine xA tb hM0 0 [0,2,30,32] [2,6,1000001] rfl ?_
  refine oP rfl (pure_lit rfl Tryz.underlying23 el25 rfl rfl rfl rfl hM0) ?_
  refine oS rfl (step_append rfl rfl rfl rfl Tryz.underlying23 el25 rfl rfl hM0 (src_pl rfl (one_len (by rfl))) (by first|(simp only [ll];omega)|omega) (by first|(simp only [ll];omega)|omega)) rfl ?_
  refine xA tb hM0 3 [0,2,3] [2,6,1000001] rfl ?_
  refine nx ?_
  have hk:z.hd=124:=by unfold PS.hd;omega
  obtain ⟨a1,a2⟩:=hadv (by omega)
  obtain ⟨c1,c2,c3,c4,c5⟩:=pSeq_ok (pPost_ok n) z.adv (by omega) a1 (hz4.sub hsub)
  obtain ⟨k,rfl⟩:∃ k',k=k'+1:=⟨k-1,by omega⟩
  refine ⟨_,⟨(pSeq (pPost n) z.adv).2,k,acc++[(pSeq (pPost n) z.adv).1],rfl,⟨c1,by omega,by omega,hz4.sub fun t ht=>hsub t (c5 t ht)⟩,by rw [sizes_append,Rx.sizes,Rx.sizes];omega,?_,?_⟩,by omega⟩
  · rw [← hL1_2,altLp_step ⟨by omega,hk⟩,List.append_assoc];rfl
  · rw [List.map_append];rfl
  refine xA tb hM0 7 [2,3] [2,6,1000001] rfl ?_
  refine code_frz 37 [(2,_),(3,_)] [(2,_),(1000001,_)] hM0 rfl ⟨.inl rfl,.inr ⟨_,_,rfl,rfl,rfl⟩,trivial⟩ ⟨rfl,rfl,trivial⟩ ?_
  refine xK tb hM0 2 [2,35] [2,1000001] rfl ?_
  refine oP rfl (pure_callN rfl rfl rfl rfl (alt_call (l:=acc) (by omega)) hM0) ?_
  refine xA tb hM0 4 [] [] rfl ?_
  refine endOC_ret (o1:=[(1000001,_)]) rfl ⟨rfl,trivial⟩ ?_;rotate_left
  refine xA tb hM0 18 [2,3] [2,6,1000001] rfl ?_
  refine code_frz 37 [(2,_),(3,_)] [(2,_),(1000001,_)] hM0 rfl ⟨.inl rfl,.inr ⟨_,_,rfl,rfl,rfl⟩,trivial⟩ ⟨rfl,rfl,trivial⟩ ?_
  refine xK tb hM0 2 [2,35] [2,1000001] rfl ?_
  refine oP rfl (pure_callN rfl rfl rfl rfl (alt_call (l:=acc) (by omega)) hM0) ?_
  refine xA tb hM0 4 [] [] rfl ?_
  refine endOC_ret (o1:=[(1000001,_)]) rfl ⟨rfl,trivial⟩ ?_;rotate_left
  all_goals
    have hs0:altLp (pSeq (pPost n)) k z=([],z):=altLp_stop (by unfold PS.hd;omega)
    rw [hs0,List.append_nil] at hL1_2
    rw [pAlt_is hL1_2];exact ⟨rfl,rfl⟩
theorem fn124:FnC Tryz.prog 124 Tryz.f124.ntmps 2 25 3 (Tryz.f124.body.getD .skip):=⟨Tryz.f124,Tryz.func124,rfl,rfl,rfl,by kernel_rfl,ag25,sz25⟩
set_option maxRecDepth 100000 in
set_option maxHeartbeats 4000000 in
theorem ppost_call {n:Nat} (hA:AltC n):PostC (n+1):=by
  intro s hn he hk hbad ha hw
  obtain ⟨f1,f2⟩:=endT_adv he (by omega)
  have f0:=he.1
  have f3:∀ t∈s.adv.l,t∈s.l:=fun t ht=>List.mem_of_mem_drop ht
  have hwa:=wt_adv he.1
  have hAo:=fun h:s.adv.l.length≤n=>pAlt_ok (pSeq_ok (pPost_ok n)) s.adv h f1 (ha.sub f3)
  refine callO_of_codeC fn124 (Nat.le_of_ble_eq_true rfl) fun w0 M0 hM0=>?_
  refine xC tb hM0 11 [0,2,8] [2,1000001] rfl ?_
  refine oP rfl (pure_ix rfl Tryz.underlying70 sz76 rfl rfl (by omega) (fun _=>rfl)) ?_
  refine xA tb hM0 12 [0,2,3,11,15] [2,3,1000001] rfl ?_
  refine oP rfl (pure_slice_lm rfl Tryz.underlying70 sz76 rfl rfl (by first|(simp only [ll];omega)|omega) (fun _=>rfl)) ?_
  refine xA tb hM0 13 [0,2,3,4] [2,3,4,1000001] rfl ?_
  refine ct (fun zs=>∃ (z:PS) (x:Rx),(endT z.l∧TokOk z.l)∧(x.size+wtT z.l≤wtT s.l)∧(Nf x)∧(starLp z.l.length z x=pPost (n+1) s)∧zs=⟨98,[(0,.pbox 1000001 0),(2,.pbox 2 0),(4,.pbox 4 0)],[(2,.box 25 [.v .pl (.sc (.int .i64 0)),.v .pl (.sc (.slice none 0 0)),.v .pl (.sc (.slice none 0 0))]),(4,.box 25 [.v .pl (int (x).kind),.v .pl (ints (x).syms),.v .pl (.sl (Rx.avs (x).kids))]),(1000001,.box 73 [.v .pl (toks (z).l),.v .pl (int (z).bad)])]⟩) ?_ ?_
  refine xA tb hM0 4 [0,2,4,22] [2,4,1000001] rfl ?_
  refine oP rfl (pure_eql rfl rfl rfl) ?_
  refine xA tb hM0 2 [0,2,4,23] [2,4,1000001] rfl ?_
  refine spC 23 rfl ?_ ?_<;>intro h1<;>try simp only [dq] at h1
  refine xA tb hM0 4 [0,2,4,24] [2,4,1000001] rfl ?_
  refine oS rfl (step_callO [(1000001,1000001)] rfl rfl rfl rfl rfl rfl rfl (hA s.adv (by omega) f1 (ha.sub f3) (by omega)) ⟨.inl rfl,trivial⟩ ⟨rfl,trivial⟩ rfl rfl rfl rfl rfl hM0) rfl ?_
  refine xA tb hM0 3 [0,2,4] [2,4,1000001] rfl ?_
  refine ct (fun zs=>zs=⟨98,[(0,.pbox 1000001 0),(2,.pbox 2 0),(4,.pbox 4 0)],[(2,.box 25 [.v .pl (.sc (.int .i64 0)),.v .pl (.sc (.slice none 0 0)),.v .pl (.sc (.slice none 0 0))]),(4,.box 25 [.v .pl (int ((pAlt (pSeq (pPost n)) s.adv).1).kind),.v .pl (ints ((pAlt (pSeq (pPost n)) s.adv).1).syms),.v .pl (.sl (Rx.avs ((pAlt (pSeq (pPost n)) s.adv).1).kids))]),(1000001,.box 73 [.v .pl (toks (closeP (pAlt (pSeq (pPost n)) s.adv).2).l),.v .pl (int (closeP (pAlt (pSeq (pPost n)) s.adv).2).bad)])]⟩) ?_ ?_
  refine xA tb hM0 1 [0,2,4] [2,4,1000001] rfl ?_
  obtain ⟨g1,g2,g3,g4,g5⟩:=hAo (by omega)
  have g0:=g1.1
  refine xA tb hM0 7 [0,2,4,31] [2,4,1000001] rfl ?_
  refine spO 31 rfl ?_ ?_<;>intro h2'<;>try simp only [dq] at h2'
  refine xA tb hM0 4 [0,2,4,31,35] [2,4,1000001] rfl ?_
  refine oP rfl (pure_ix rfl Tryz.underlying70 sz76 rfl rfl (by omega) (fun _=>rfl)) ?_
  refine xA tb hM0 2 [0,2,4,31,38] [2,4,1000001] rfl ?_
  refine oP rfl (pure_neq rfl rfl rfl) ?_
  refine xA tb hM0 3 [0,2,4,40] [2,4,1000001] rfl ?_
  refine spC 40 rfl ?_ ?_<;>intro h3<;>try simp only [dq] at h3
  refine xA tb hM0 3 [0,2,4,41] [2,4,1000001] rfl ?_
  refine oS rfl (step_callO [(1000001,1000001)] rfl rfl rfl rfl rfl rfl rfl (fail_call (s:=(pAlt (pSeq (pPost n)) s.adv).2) g0) ⟨.inl rfl,trivial⟩ ⟨rfl,trivial⟩ rfl rfl rfl rfl rfl hM0) rfl ?_
  refine xA tb hM0 1 [0,2,4] [2,4,1000001] rfl ?_
  refine cx ?_;rotate_left
  refine xA tb hM0 2 [0,2,4] [2,4,1000001] rfl ?_
  refine cx ?_;rotate_left
  refine xA tb hM0 13 [0,2,4] [2,4,1000001] rfl ?_
  refine cx ?_;rotate_left
  rintro zs ⟨rfl⟩
  obtain ⟨g1,g2,g3,g4,g5⟩:=hAo (by omega)
  have g0:=g1.1
  have hcl:=closeP_l (pAlt (pSeq (pPost n)) s.adv).2
  have hcb:=fun h=>closeP_bad (s:=(pAlt (pSeq (pPost n)) s.adv).2) h (fun t ht=>ha.pos t (f3 t (g5 t ht))) g1
  have hcll:(closeP (pAlt (pSeq (pPost n)) s.adv).2).l.length=(pAlt (pSeq (pPost n)) s.adv).2.l.length:=by rw [hcl]
  refine xA tb hM0 10 [0,2,4,47] [2,4,1000001] rfl ?_
  refine spC 47 rfl ?_ ?_<;>intro h4<;>try simp only [dq] at h4
  refine xA tb hM0 10 [] [] rfl ?_
  refine endOC_ret (o1:=[(1000001,_)]) rfl ⟨rfl,trivial⟩ ?_
  rw [pPost_40e (by unfold PS.hd;omega) h4];exact ⟨rfl,rfl⟩
  refine xA tb hM0 9 [0,2,4,49,53] [2,4,1000001] rfl ?_
  refine oP rfl (pure_slice_lm rfl Tryz.underlying70 sz76 rfl rfl (by first|(simp only [ll];omega)|omega) (fun _=>rfl)) ?_
  refine xA tb hM0 4 [0,2,4] [2,4,1000001] rfl ?_
  refine cx ?_
  have h40:s.hd=40:=by unfold PS.hd;omega
  obtain ⟨e2,h41⟩:=hcb (by omega)
  obtain ⟨k1,k2⟩:=endT_adv g1 (by omega)
  have hw2:=wt_adv g1.1
  exact ⟨(closeP (pAlt (pSeq (pPost n)) s.adv).2).adv,(pAlt (pSeq (pPost n)) s.adv).1,⟨by rw [e2];exact k1,by rw [e2];exact ha.sub fun t ht=>f3 t (g5 t (List.mem_of_mem_drop ht))⟩,by rw [e2];omega,g4,(pPost_40 h40 (by omega)).symm,rfl⟩
  refine xA tb hM0 2 [0,2,4] [2,4,1000001] rfl ?_
  refine cx ?_
  exact ⟨s.adv,(s.l.getD 0 default).atom,⟨f1,ha.sub f3⟩,by omega,ha.nf _ (by rw [getD_el f0];exact List.getElem_mem f0),(pPost_x (by unfold PS.hd;omega)).symm,rfl⟩
  rintro zs ⟨z,x,hC11_0,hC11_1,hC11_2,hC11_3,rfl⟩
  refine xA tb hM0 2 [0,2,4] [2,4,1000001] rfl ?_
  refine lp (fun zm zs=>∃ (z:PS) (k:Nat) (x:Rx),zm=z.l.length∧(endT z.l∧z.l.length≤k∧TokOk z.l)∧(x.size+wtT z.l≤wtT s.l)∧(Nf x)∧(starLp k z x=pPost (n+1) s)∧zs=⟨98,[(0,.pbox 1000001 0),(2,.pbox 2 0),(4,.pbox 4 0)],[(2,.box 25 [.v .pl (.sc (.int .i64 0)),.v .pl (.sc (.slice none 0 0)),.v .pl (.sc (.slice none 0 0))]),(4,.box 25 [.v .pl (int (x).kind),.v .pl (ints (x).syms),.v .pl (.sl (Rx.avs (x).kids))]),(1000001,.box 73 [.v .pl (toks (z).l),.v .pl (int (z).bad)])]⟩) ?_ ?_
  exact ⟨_,z,z.l.length,x,rfl,⟨hC11_0.1,Nat.le_refl _,hC11_0.2⟩,hC11_1,hC11_2,hC11_3,rfl⟩
  rintro zm zs ⟨z,k,x,rfl,hL1_0,hL1_1,hL1_2,hL1_3,rfl⟩
  obtain ⟨hz1,hz2,hz3⟩:=hL1_0
  have hz0:=hz1.1
  have hwz:=wt_adv hz1.1
  have hadv:=fun h=>endT_adv hz1 h
  have hsub:∀ t∈z.adv.l,t∈z.l:=fun t ht=>List.mem_of_mem_drop ht
  have hxo:=size_opt x
  have hxs:=size_starN x
  refine xA tb hM0 7 [0,2,4,60] [2,4,1000001] rfl ?_
  refine oP rfl (pure_ix rfl Tryz.underlying70 sz76 rfl rfl (by omega) (fun _=>rfl)) ?_
  refine xA tb hM0 2 [0,2,4,63] [2,4,1000001] rfl ?_
  refine oP rfl (pure_eql rfl rfl rfl) ?_
  refine xA tb hM0 1 [0,2,4,65] [2,4,1000001] rfl ?_
  refine spO 65 rfl ?_ ?_<;>intro h5'<;>try simp only [dq] at h5'
  refine xA tb hM0 22 [0,2,4,86] [2,4,1000001] rfl ?_
  refine oP rfl (pure_ix rfl Tryz.underlying70 sz76 rfl rfl (by omega) (fun _=>rfl)) ?_
  refine xA tb hM0 2 [0,2,4,89] [2,4,1000001] rfl ?_
  refine oP rfl (pure_eql rfl rfl rfl) ?_
  refine xA tb hM0 2 [0,2,4,90] [2,4,1000001] rfl ?_
  refine spC 90 rfl ?_ ?_<;>intro h6<;>try simp only [dq] at h6
  refine xA tb hM0 3 [0,2,4,91] [2,4,1000001] rfl ?_
  refine oP rfl (pure_callN rfl rfl rfl rfl (star_call (x:=x) (fun h4=>by have:=(hL1_2.k4 h4).2.1;omega)) hM0) ?_
  refine xA tb hM0 10 [0,2,4,75,79] [2,4,1000001] rfl ?_
  refine oP rfl (pure_slice_lm rfl Tryz.underlying70 sz76 rfl rfl (by first|(simp only [ll];omega)|omega) (fun _=>rfl)) ?_
  refine xA tb hM0 4 [0,2,4] [2,4,1000001] rfl ?_
  refine nx ?_
  obtain ⟨a1,a2⟩:=hadv (by unfold PS.hd;omega)
  obtain ⟨k,rfl⟩:∃ k',k=k'+1:=⟨k-1,by omega⟩
  exact ⟨_,⟨z.adv,k,starN x,rfl,⟨a1,by omega,hz3.sub hsub⟩,by omega,starN_nf hL1_2,by rw [← hL1_3,starLp_star (by unfold PS.hd;omega)],rfl⟩,by omega⟩
  refine xA tb hM0 2 [0,2,4] [2,4,1000001] rfl ?_
  refine oP rfl (pure_norm (pure_build rfl pl25 ze25 rfl rfl rfl) rfl) ?_
  refine xA tb hM0 1 [0,2,4,93,94] [2,4,1000001] rfl ?_
  refine oP rfl (pure_lit rfl Tryz.underlying23 el25 rfl rfl rfl rfl hM0) ?_
  refine oP rfl (pure_callN rfl rfl rfl rfl (alt_call (l:=[emptyRx,x]) (by simp only [Rx.sizes,size_mk,List.length_nil];omega)) hM0) ?_
  refine xA tb hM0 10 [0,2,4,75,79] [2,4,1000001] rfl ?_
  refine oP rfl (pure_slice_lm rfl Tryz.underlying70 sz76 rfl rfl (by first|(simp only [ll];omega)|omega) (fun _=>rfl)) ?_
  refine xA tb hM0 4 [0,2,4] [2,4,1000001] rfl ?_
  refine nx ?_
  omega
  refine xA tb hM0 4 [0,2,4,65,69] [2,4,1000001] rfl ?_
  refine oP rfl (pure_ix rfl Tryz.underlying70 sz76 rfl rfl (by omega) (fun _=>rfl)) ?_
  refine xA tb hM0 2 [0,2,4,65,72] [2,4,1000001] rfl ?_
  refine oP rfl (pure_eql rfl rfl rfl) ?_
  refine xA tb hM0 3 [0,2,4,74] [2,4,1000001] rfl ?_
  refine spC 74 rfl ?_ ?_<;>intro h7<;>try simp only [dq] at h7
  refine xA tb hM0 11 [0,2,4,86] [2,4,1000001] rfl ?_
  refine oP rfl (pure_ix rfl Tryz.underlying70 sz76 rfl rfl (by omega) (fun _=>rfl)) ?_
  refine xA tb hM0 2 [0,2,4,89] [2,4,1000001] rfl ?_
  refine oP rfl (pure_eql rfl rfl rfl) ?_
  refine xA tb hM0 2 [0,2,4,90] [2,4,1000001] rfl ?_
  refine spC 90 rfl ?_ ?_<;>intro h8<;>try simp only [dq] at h8
  refine xA tb hM0 3 [0,2,4,91] [2,4,1000001] rfl ?_
  refine oP rfl (pure_callN rfl rfl rfl rfl (star_call (x:=x) (fun h4=>by have:=(hL1_2.k4 h4).2.1;omega)) hM0) ?_
  refine xA tb hM0 10 [0,2,4,75,79] [2,4,1000001] rfl ?_
  refine oP rfl (pure_slice_lm rfl Tryz.underlying70 sz76 rfl rfl (by first|(simp only [ll];omega)|omega) (fun _=>rfl)) ?_
  refine xA tb hM0 4 [0,2,4] [2,4,1000001] rfl ?_
  refine nx ?_
  omega
  refine xA tb hM0 2 [0,2,4] [2,4,1000001] rfl ?_
  refine oP rfl (pure_norm (pure_build rfl pl25 ze25 rfl rfl rfl) rfl) ?_
  refine xA tb hM0 1 [0,2,4,93,94] [2,4,1000001] rfl ?_
  refine oP rfl (pure_lit rfl Tryz.underlying23 el25 rfl rfl rfl rfl hM0) ?_
  refine oP rfl (pure_callN rfl rfl rfl rfl (alt_call (l:=[emptyRx,x]) (by simp only [Rx.sizes,size_mk,List.length_nil];omega)) hM0) ?_
  refine xA tb hM0 10 [0,2,4,75,79] [2,4,1000001] rfl ?_
  refine oP rfl (pure_slice_lm rfl Tryz.underlying70 sz76 rfl rfl (by first|(simp only [ll];omega)|omega) (fun _=>rfl)) ?_
  refine xA tb hM0 4 [0,2,4] [2,4,1000001] rfl ?_
  refine nx ?_
  obtain ⟨a1,a2⟩:=hadv (by unfold PS.hd;omega)
  obtain ⟨k,rfl⟩:∃ k',k=k'+1:=⟨k-1,by omega⟩
  exact ⟨_,⟨z.adv,k,altN [emptyRx,x],rfl,⟨a1,by omega,hz3.sub hsub⟩,by omega,altN_nf (fun y hy=>by
    rcases List.mem_cons.1 hy with rfl|hy
    · exact .empty
    · rw [List.mem_singleton.1 hy];exact hL1_2),by rw [← hL1_3,starLp_opt (by unfold PS.hd;omega)],rfl⟩,by omega⟩
  refine xA tb hM0 13 [] [] rfl ?_
  refine endOC_ret (o1:=[(1000001,_)]) rfl ⟨rfl,trivial⟩ ?_
  rw [← hL1_3,starLp_stop (by unfold PS.hd;omega) (by unfold PS.hd;omega)];exact ⟨rfl,rfl⟩
  all_goals
    first
      | (rw [show closeP (pAlt (pSeq (pPost n)) s.adv).2=(pAlt (pSeq (pPost n)) s.adv).2.fail from if_pos ⟨by omega,by unfold PS.hd;omega⟩];rfl)
      | (rw [show closeP (pAlt (pSeq (pPost n)) s.adv).2=(pAlt (pSeq (pPost n)) s.adv).2 from if_neg (fun q=>by have q2:=q.2;unfold PS.hd at q2;omega)];first|done|rfl)
theorem post_calls:∀ n,PostC n
  | 0=>fun s hn he _ _ _ _=>by have:=he.1;omega
  | n+1=>ppost_call (palt_call (pseq_call (post_calls n)))
theorem alt_calls (n:Nat):AltC n:=palt_call (pseq_call (post_calls n))
end Go.Proofs.YtgdehkimfmfofaaGreat

namespace Go.Proofs.YtgdehkimfmfofaaGreat
open Go.Am Go.Wc Go.Shelf Go.RowKit

theorem callF_sc {P : Program} {f : FuncId} (hc : Callable P f) {zs : List Value} {r : RV} (h : ∀ w : World, Calls P f zs.toArray w fun e w' => ∃ v, e = .returned v ∧ Am.Below w.heap.size w w' ∧ RVok P w' (fun b => b < w.heap.size) (fun b => b < w.heap.size) v r) : CallF P f (zs.map .sc) r :=
  ⟨hc,fun w vs hv hr=>by
    have:vs=zs:=by
      apply List.ext_getElem
      · simpa using hv
      · intro j h1 h2
        have:=hr j (.sc zs[j]) (by simp [List.getElem?_eq_getElem h2])
        rw [List.getD_eq_getElem?_getD,List.getElem?_eq_getElem h1,Option.getD_some] at this
        generalize vs[j]=u at this ⊢
        generalize zs[j]=u' at this ⊢
        cases this;rfl
    subst this
    exact h w⟩
theorem indexByte_call {s:List UInt8} {c:UInt8}:CallF Tryz.prog 90 [sbytes s,byte c] (.p (int (Lib.indexByte s c))) :=
  callF_sc (zs:=[.string ⟨s.toArray⟩,.int .u8 c.toNat]) ⟨Tryz.f90,Tryz.func90,by kernel_rfl,by kernel_rfl⟩ fun w=>(Any.strings_IndexByte Tryz.ixB ⟨s.toArray⟩ c.toNat w).mono fun e w' ⟨h1,h2⟩=>by
    subst h2
    refine ⟨_,h1,.refl _ _,?_⟩
    have e1:((c.toNat:Int).toNat.toUInt8)=c:=by simp
    rw [e1]
    exact .sc _ rfl
theorem fn109:Fn1 Tryz.prog 109 Tryz.f109.ntmps 6 (Tryz.f109.body.getD .skip):=⟨Tryz.f109,Tryz.func109,rfl,rfl,rfl,by kernel_rfl⟩
set_option maxRecDepth 100000 in
theorem within_call {n low high:Int}:CallF Tryz.prog 109 [int n,int low,int high] (.p (bool (decide (low≤n)&&decide (n≤high)))):=by
  refine callF_of_code fn109 (Nat.le_of_ble_eq_true rfl) fun w0 M0 hM0=>?_
  refine xC tb hM0 11 [0,2,10] [] rfl ?_
  refine spO 10 rfl ?_ ?_<;>intro h1'<;>try simp only [dq] at h1'
  refine xA tb hM0 8 [] [] rfl ?_
  refine end_ret rfl ?_;rotate_left
  refine xA tb hM0 8 [] [] rfl ?_
  refine end_ret rfl ?_;rotate_left
  all_goals
    simp_all<;>(intros;omega)
theorem fn110:Fn1 Tryz.prog 110 Tryz.f110.ntmps 2 (Tryz.f110.body.getD .skip):=⟨Tryz.f110,Tryz.func110,rfl,rfl,rfl,by kernel_rfl⟩
set_option maxRecDepth 100000 in
set_option maxHeartbeats 2000000 in
theorem aplain_call {s:List UInt8} (hs:s.length≤9223372036854775807):CallF Tryz.prog 110 [sbytes s] (.p (bool (plainT s))):=by
  refine callF_of_code fn110 (Nat.le_of_ble_eq_true rfl) fun w0 M0 hM0=>?_
  refine xC tb hM0 9 [0,4] [] rfl ?_
  refine oP rfl (pure_slen rfl Tryz.underlying9 rfl) ?_
  refine xA tb hM0 4 [0,5,6] [] rfl ?_
  refine lp (fun zm zs=>∃ k:Nat,zm=s.length-k∧(k≤s.length)∧((s.take k).all (fun c=>!resB c)=true)∧zs=⟨28,[(0,.v .mx (sbytes s)),(5,.v .pl (int s.length)),(6,.v .pl (int k))],[]⟩) ?_ ?_
  exact ⟨_,0,rfl,Nat.zero_le _,rfl,rfl⟩
  rintro zm zs ⟨k,rfl,hL1_0,hL1_1,rfl⟩
  refine xA tb hM0 6 [0,5,6,7] [] rfl ?_
  refine spC 7 rfl ?_ ?_<;>intro h1<;>try simp only [dq] at h1
  refine xA tb hM0 11 [0,3,5,6] [] rfl ?_
  refine ct (fun zs=>∃ z:Bool,(resB (s.getD k 0)=z)∧zs=⟨28,[(0,.v .mx (sbytes s)),(5,.v .pl (int s.length)),(6,.v .pl (int k)),(19,.v .pl (bool z))],[]⟩) ?_ ?_
  refine xA tb hM0 3 [0,3,5,6,9,10] [] rfl ?_
  refine oP rfl (pure_sindex rfl Tryz.underlying9 rfl rfl (by omega)) ?_
  refine oP rfl (pure_lss rfl rfl rfl) ?_
  refine xA tb hM0 1 [0,3,5,6,13] [] rfl ?_
  refine spO 13 rfl ?_ ?_<;>intro h2'<;>try simp only [dq] at h2'
  refine xA tb hM0 7 [0,5,6,19] [] rfl ?_
  refine cx ?_
  exact ⟨_,resB_lt h2',rfl⟩
  refine xA tb hM0 2 [0,5,6,13,14,15] [] rfl ?_
  refine oP rfl (pure_sindex rfl Tryz.underlying9 rfl rfl (by omega)) ?_
  refine oP rfl (pure_call rfl rfl rfl (indexByte_call) hM0) ?_
  refine xA tb hM0 3 [0,5,6,19] [] rfl ?_
  refine cx ?_
  exact ⟨_,resB_ib h2',rfl⟩
  rintro zs ⟨z,hC5_0,rfl⟩
  refine spC 19 rfl ?_ ?_<;>intro h3<;>try simp only [dq] at h3
  refine xA tb hM0 12 [] [] rfl ?_
  refine end_ret rfl ?_
  rw [plainT_hit (k:=k) (by omega) (by rw [hC5_0];assumption)]
  refine xA tb hM0 5 [0,5,6] [] rfl ?_
  refine oP rfl (pure_addi rfl rfl rfl (by omega)) ?_
  refine xA tb hM0 2 [0,5,6] [] rfl ?_
  refine nx ?_
  exact ⟨_,⟨k+1,rfl,by omega,plainT_step (by omega) hL1_1 (by rw [hC5_0];assumption),rfl⟩,by omega⟩
  refine xA tb hM0 9 [0,21] [] rfl ?_
  refine oP rfl (pure_sneq rfl rfl rfl) ?_
  refine xA tb hM0 1 [0,23] [] rfl ?_
  refine spO 23 rfl ?_ ?_<;>intro h4'<;>try simp only [dq] at h4'
  refine xA tb hM0 1 [23,24] [] rfl ?_
  refine oP rfl (pure_slen rfl Tryz.underlying9 rfl) ?_
  refine xA tb hM0 6 [] [] rfl ?_
  refine end_ret rfl ?_
  rw [plainT_end (k:=k) (by omega) hL1_1,decide_eq_true (p:=1≤s.length) (by cases s with|nil=>exact absurd rfl (by assumption)|cons x y=>simp),Bool.true_and];congr 4;apply propext;omega
  refine xA tb hM0 8 [] [] rfl ?_
  refine end_ret rfl ?_
  rw [plainT_end (k:=k) (by omega) hL1_1];subst h4';rfl
end Go.Proofs.YtgdehkimfmfofaaGreat

