/-
  Contracts: joining strings;letters,sets of one letter;what can be printed.
-/
import Derived.Test.YtgdehkimfmfofaaGreatJ31
import Derived.Test.YtgdehkimfmfofaaGreatJ27
import Derived.Test.YtgdehkimfmfofaaGreatJ18
import Derived.Test.YtgdehkimfmfofaaGreatJ32
import Derived.Test.YtgdehkimfmfofaaGreatJ33
import Derived.Test.YtgdehkimfmfofaaGreatJ12
set_option linter.unusedVariables false
set_option linter.unusedSectionVars false
set_option linter.unusedSimpArgs false
namespace Go.Proofs.YtgdehkimfmfofaaGreat
open Go.Am Go.Wb Go.Wc
theorem callW_of_codeS {P:Program} {f n t:Nat} {c:Code} (hf:Fn1 P f n t c) {ds:List AV} {z:Value} (hn:ds.length≤n)
    (h:∀ (w0:Fr) (M0:Nat→Prop),(∀ b,M0 b→b<w0.w.heap.size)→¬ w0.dr→CodeOk P w0 M0 c (St.enter n .pl ds) (endQ t (.p (.sc z)))):CallW P f ds (.p (.sc z)) :=
  ⟨hf.callable,fun w vs hv hr=>(calls_of_code (D:=False) (M0:=fun _=>False) (cl:=.pl) hf hn vs hv (fun j d hd=>(hr j d hd).weak fun b hb=>Or.elim hb id id) (h (Fr.allD False w) (fun _=>False) (fun _ hb=>hb.elim) (fun h=>h))).mono fun e w' ⟨v,he,hb,hrv⟩=>⟨v,he,hb,by
    have h1:Rep w' (fun _=>False) v (.sc z):=hrv
    cases h1 with
    | sc _ hv=>exact .sc _ hv⟩⟩
theorem kid_memI {l:List Int} {i:Nat} (h:i<l.length):l.getD i default∈l:=by rw [getD_el h];exact List.getElem_mem h
theorem join_call {l : List (List UInt8)} (hl : l.length ≤ 140737488355328) (hlen : (joinB l).length ≤ 140737488355328) : CallW Tryz.prog 100 [.sl (l.map sbytes), sbytes [124]] (.p (sbytes (joinB l))) := by
  refine ⟨⟨Tryz.f100,Tryz.func100,by kernel_rfl,by kernel_rfl⟩,fun w vs hv hr=>?_⟩
  match vs,hv with
  | [v, u], _ =>
    have h0:=hr 0 _ rfl
    have h1:=hr 1 _ rfl
    simp only [List.getD_cons_zero,List.getD_cons_succ] at h0 h1
    generalize hq:AV.sl (l.map sbytes)=q at h0
    generalize hq':sbytes [124]=q' at h1
    cases h1 with
    | sc u hu =>
      injection hq' with hu'
      subst hu'
      cases h0 with
      | sl a n cap xs k cv hn hc hk hb hl2 hr2 =>
        injection hq with hxs
        subst hxs
        rw [List.length_map] at hn
        rcases Nat.eq_zero_or_pos l.length with h0|h0
        · have e : l = [] := List.eq_nil_of_length_eq_zero h0
          subst e;subst hn
          exact (Any.strings_Join_none Tryz.lays156 Tryz.Builder_Extra_156 a cap ⟨[124].toArray⟩ w).mono fun e w' ⟨g1,g2⟩=>by
            subst g2;exact ⟨_,g1,.refl _ _,.sc _ rfl⟩
        · obtain ⟨b, o, rfl, _, hbk, hcell⟩ := hb (by omega)
          have hk1:k=1:=by
            have:=hk (sbytes (l.getD 0 default)) (List.mem_map_of_mem (by rw [getD_el h0];exact List.getElem_mem h0))
            exact this.symm
          subst hk1
          have hfl:∀ j,j<l.length→(flat (l.map sbytes))[j]?=some (sbytes (l.getD j default)):=fun j hj=>by
            have:=flat_get (xs:=l.map sbytes) (k:=1) j (sbytes (l.getD j default)) hk (by rw [List.getElem?_map,List.getElem?_eq_getElem hj,getD_el hj];rfl) 0 (by decide)
            rw [Nat.mul_one] at this
            exact this.trans rfl
          have hcs:∀ j (hj:j<l.length),cv j=.string ⟨(l.getD j default).toArray⟩:=fun j hj=>by
            have:=hr2 j _ (hfl j hj)
            generalize cv j=q at this
            cases this;rfl
          subst hn
          have hx:=Any.strings_Join Tryz.lays156 Tryz.Builder_Extra_156 b o cap (l.map fun x=>⟨x.toArray⟩) ⟨[124].toArray⟩ w (fun j x hx=>by
            rw [List.getElem?_map] at hx
            rcases Nat.lt_or_ge j l.length with hj|hj
            · rw [List.getElem?_eq_getElem hj] at hx
              simp only [Option.map_some,Option.some.injEq] at hx
              rw [hcell j (by omega),hcs j hj,← hx,getD_el hj]
            · rw [List.getElem?_eq_none hj] at hx;cases hx) hbk (by simpa using hl) (by simpa using hc) (by
            simp only [List.map_map]
            have e:(l.map ((fun x:ByteArray=>x.data.toList) ∘ fun x=>⟨x.toArray⟩))=l:=by
              rw [List.map_congr_left (g:=id) (fun x _=>by simp),List.map_id]
            rw [e];exact hlen)
          rw [List.length_map] at hx
          refine hx.mono fun e w' ⟨g1,g2⟩=>⟨_,g1,⟨g2,fun h=>h.elim⟩,?_⟩
          have e:((l.map fun x=>(⟨x.toArray⟩:ByteArray)).map fun x=>x.data.toList)=l:=by
            rw [List.map_map,List.map_congr_left (g:=id) (fun x _=>by simp),List.map_id]
          rw [e]
          exact .sc _ rfl
      | _=>cases hq
    | _=>cases hq'
set_option maxRecDepth 100000 in
set_option maxHeartbeats 1000000 in
theorem idxRC_call {l:List Rx} {p:Rx→Bool} {g:FuncId} {caps:List AV} (hl:l.length≤1099511627776) (hf:∀ x∈l,CallF Tryz.prog g ([rx x]++caps) (.p (bool (p x)))):CallF Tryz.prog 73 [rxs l,.clo g caps] (.p (int (idxF p l))):=by
  refine callF_of_code fn73 (Nat.le_of_ble_eq_true rfl) fun w0 M0 hM0=>?_
  refine xC tb hM0 9 [0,1,6] [] rfl ?_
  refine oP rfl (pure_lenm rfl Tryz.underlying23 rfl) ?_
  refine xA tb hM0 4 [0,1,7,8] [] rfl ?_
  refine lp (fun zm zs=>∃ k:Nat,zm=l.length-k∧(k≤l.length)∧(∀ j,j<k→p (l.getD j default)=false)∧zs=⟨19,[(0,.v .mx (rxs l)),(1,.v .mx (.clo g caps)),(7,.v .pl (int l.length)),(8,.v .pl (int k))],[]⟩) ?_ ?_
  exact ⟨_,0,rfl,Nat.zero_le _,fun j hj=>absurd hj (by omega),rfl⟩
  rintro zm zs ⟨k,rfl,hL1_0,hL1_1,rfl⟩
  refine xA tb hM0 6 [0,1,7,8,9] [] rfl ?_
  refine spC 9 rfl ?_ ?_<;>intro h1<;>try simp only [dq] at h1
  refine xA tb hM0 16 [0,1,5,7,8,11,12,13] [] rfl ?_
  refine oP rfl (pure_ix rfl Tryz.underlying23 sz25 rfl rfl (by omega) (fun _=>rfl)) ?_
  refine xA tb hM0 1 [0,1,5,7,8,11,15] [] rfl ?_
  refine oP rfl (pure_call rfl rfl rfl (hf _ (kid_mem (by omega))) hM0) ?_
  refine xA tb hM0 2 [0,1,5,7,8,16] [] rfl ?_
  refine spC 16 rfl ?_ ?_<;>intro h2<;>try simp only [dq] at h2
  refine xA tb hM0 13 [] [] rfl ?_
  refine end_ret rfl ?_
  rw [← idxF_hit (p:=p) (l:=l) (k:=k) (by omega) hL1_1 (by simp_all)]
  refine xA tb hM0 5 [0,1,7,8] [] rfl ?_
  refine oP rfl (pure_addi rfl rfl rfl (by omega)) ?_
  refine xA tb hM0 2 [0,1,7,8] [] rfl ?_
  refine nx ?_
  exact ⟨_,⟨k+1,rfl,by omega,all_step hL1_1 (by simp_all),rfl⟩,by omega⟩
  refine xA tb hM0 12 [] [] rfl ?_
  refine end_ret rfl ?_
  rw [← idxF_none (p:=p) (l:=l) (fun j hj=>hL1_1 j (by omega))]
set_option maxRecDepth 100000 in
theorem hasRC_call {l:List Rx} {p:Rx→Bool} {g:FuncId} {caps:List AV} (hl:l.length≤1099511627776) (hf:∀ x∈l,CallF Tryz.prog g ([rx x]++caps) (.p (bool (p x)))):CallF Tryz.prog 45 [rxs l,.clo g caps] (.p (bool (l.any p))):=by
  refine callF_of_code fn45 (Nat.le_of_ble_eq_true rfl) fun w0 M0 hM0=>?_
  refine xC tb hM0 9 [5,6] [] rfl ?_
  refine oP rfl (pure_call rfl rfl rfl (idxRC_call hl hf) hM0) ?_
  refine xA tb hM0 5 [] [] rfl ?_
  refine end_ret rfl ?_
  rw [idxF_ge]
theorem fn99:Fn1 Tryz.prog 99 Tryz.f99.ntmps 4 (Tryz.f99.body.getD .skip):=⟨Tryz.f99,Tryz.func99,rfl,rfl,rfl,by kernel_rfl⟩
set_option maxRecDepth 100000 in
theorem letter_call {a:List Letter} {n:Int} (h:0≤n∧(n<a.length∨n=63∨n=62)):CallF Tryz.prog 99 [int n,letters a] (.p (sbytes (letterT a n))):=by
  refine callF_of_code fn99 (Nat.le_of_ble_eq_true rfl) fun w0 M0 hM0=>?_
  refine xC tb hM0 18 [0,1,5,6] [] rfl ?_
  refine spC 6 rfl ?_ ?_<;>intro h1<;>try simp only [dq] at h1
  refine xA tb hM0 9 [] [] rfl ?_
  refine end_ret rfl ?_;rotate_left
  refine xA tb hM0 7 [0,1,8] [] rfl ?_
  refine spC 8 rfl ?_ ?_<;>intro h2<;>try simp only [dq] at h2
  refine xA tb hM0 9 [] [] rfl ?_
  refine end_ret rfl ?_;rotate_left
  refine xA tb hM0 8 [10,11] [] rfl ?_
  refine oP rfl (pure_ix rfl Tryz.underlying39 sz83 rfl rfl (by omega) (fun _=>rfl)) ?_
  refine xA tb hM0 6 [] [] rfl ?_
  refine end_ret rfl ?_;rotate_left
  all_goals
    unfold letterT;first|(rw [if_pos (by omega)];first|done|rfl)|(rw [if_neg (by omega),if_pos (by omega)];first|done|rfl)|(rw [if_neg (by omega),if_neg (by omega)];first|done|rfl)
theorem fn102:Fn1 Tryz.prog 102 Tryz.f102.ntmps 4 (Tryz.f102.body.getD .skip):=⟨Tryz.f102,Tryz.func102,rfl,rfl,rfl,by kernel_rfl⟩
set_option maxRecDepth 100000 in
set_option maxHeartbeats 1000000 in
theorem bare_call {a:List Letter} {r:Rx} (ha:a.length≤1099511627776):CallF Tryz.prog 102 [rx r,letters a] (.p (int (bareR a r))):=by
  rw [rx_eq r]
  refine callF_of_code fn102 (Nat.le_of_ble_eq_true rfl) fun w0 M0 hM0=>?_
  refine xC tb hM0 2 [0,1] [] rfl ?_
  refine oP rfl (pure_box rfl rfl rfl hM0) ?_
  refine xA tb hM0 10 [1,2,8] [] rfl ?_
  refine spO 8 rfl ?_ ?_<;>intro h1'<;>try simp only [dq] at h1'
  refine xA tb hM0 2 [1,2,8,10] [] rfl ?_
  refine oP rfl (pure_lenm rfl Tryz.underlying22 rfl) ?_
  refine xA tb hM0 3 [1,2,14] [] rfl ?_
  refine spO 14 rfl ?_ ?_<;>intro h2'<;>try simp only [dq] at h2'
  refine xA tb hM0 2 [1,2,14,16] [] rfl ?_
  refine oP rfl (pure_ix rfl Tryz.underlying22 sz3 rfl rfl (by omega) (fun _=>rfl)) ?_
  refine xA tb hM0 2 [2,14,18,19] [] rfl ?_
  refine oP rfl (pure_lenm rfl Tryz.underlying39 rfl) ?_
  refine xA tb hM0 4 [2,22] [] rfl ?_
  refine spC 22 rfl ?_ ?_<;>intro h3<;>try simp only [dq] at h3
  refine xA tb hM0 5 [24] [] rfl ?_
  refine oP rfl (pure_ix rfl Tryz.underlying22 sz3 rfl rfl (by omega) (fun _=>rfl)) ?_
  refine xA tb hM0 6 [] [] rfl ?_
  refine end_ret rfl ?_;rotate_left
  refine xA tb hM0 9 [] [] rfl ?_
  refine end_ret rfl ?_;rotate_left
  refine xA tb hM0 19 [] [] rfl ?_
  refine end_ret rfl ?_;rotate_left
  refine xA tb hM0 25 [] [] rfl ?_
  refine end_ret rfl ?_;rotate_left
  all_goals
    try simp only [Int.toNat_zero] at *
    unfold bareR;first|(rw [if_pos ⟨by omega,by omega,by omega⟩];first|done|rfl)|(rw [if_neg (fun q=>by omega)];first|done|rfl)
theorem fn98:Fn1 Tryz.prog 98 Tryz.f98.ntmps 3 (Tryz.f98.body.getD .skip):=⟨Tryz.f98,Tryz.func98,rfl,rfl,rfl,by kernel_rfl⟩
set_option maxRecDepth 100000 in
theorem knownN_call {a:List Letter} {x:Rx} (h:CallF Tryz.prog 66 [rx x,letters a] (.p (bool (knownR a x)))):CallF Tryz.prog 98 ([rx x]++[.pc [letters a] 0]) (.p (bool (!knownR a x))):=by
  refine callF_of_code fn98 (Nat.le_of_ble_eq_true rfl) fun w0 M0 hM0=>?_
  refine xC tb hM0 2 [0,1] [] rfl ?_
  refine oP rfl (pure_box rfl rfl rfl hM0) ?_
  refine xA tb hM0 7 [4,5] [] rfl ?_
  refine oP rfl (pure_call rfl rfl rfl (h) hM0) ?_
  refine xA tb hM0 5 [] [] rfl ?_
  refine end_ret rfl ?_
  rfl
theorem fn66:Fn1 Tryz.prog 66 Tryz.f66.ntmps 4 (Tryz.f66.body.getD .skip):=⟨Tryz.f66,Tryz.func66,rfl,rfl,rfl,by kernel_rfl⟩
set_option maxRecDepth 100000 in
set_option maxHeartbeats 2000000 in
theorem known_call {a:List Letter}:∀ (m:Nat) (r:Rx),r.size≤m→m≤1099511627776→CallF Tryz.prog 66 [rx r,letters a] (.p (bool (knownR a r))):=by
  refine fun m=>Nat.strongRecOn m fun m ih=>?_
  intro r hm hmm
  have hl:=kids_len r
  have hsy:=syms_len r
  rw [rx_eq r]
  refine callF_of_code fn66 (Nat.le_of_ble_eq_true rfl) fun w0 M0 hM0=>?_
  refine xC tb hM0 2 [0,1] [] rfl ?_
  refine oP rfl (pure_box rfl rfl rfl hM0) ?_
  refine oP rfl (pure_box rfl rfl rfl hM0) ?_
  refine xA tb hM0 8 [2,3,8] [] rfl ?_
  refine oP rfl (pure_lenm rfl Tryz.underlying22 rfl) ?_
  refine xA tb hM0 4 [2,3,8,9,10] [] rfl ?_
  refine lp (fun zm zs=>∃ i:Nat,zm=r.syms.length-i∧(i≤r.syms.length)∧(∀ j,j<i→symK a (r.syms.getD j default)=true)∧zs=⟨32,[(2,.v .mx (rpc r)),(3,.v .mx (.pc [letters a] 0)),(8,.v .mx (ints r.syms)),(9,.v .pl (int r.syms.length)),(10,.v .pl (int i))],[]⟩) ?_ ?_
  exact ⟨_,0,rfl,Nat.zero_le _,fun j hj=>absurd hj (by omega),rfl⟩
  rintro zm zs ⟨i,rfl,hL1_0,hL1_1,rfl⟩
  refine xA tb hM0 6 [2,3,8,9,10,11] [] rfl ?_
  refine spC 11 rfl ?_ ?_<;>intro h1<;>try simp only [dq] at h1
  refine xA tb hM0 7 [2,3,8,9,10] [] rfl ?_
  refine oP rfl (pure_ix rfl Tryz.underlying22 sz3 rfl rfl (by omega) (fun _=>rfl)) ?_
  refine xA tb hM0 8 [2,3,6,8,9,10,14,15] [] rfl ?_
  refine oP rfl (pure_lenm rfl Tryz.underlying39 rfl) ?_
  refine xA tb hM0 2 [2,3,6,8,9,10,18] [] rfl ?_
  refine spO 18 rfl ?_ ?_<;>intro h2'<;>try simp only [dq] at h2'
  refine xA tb hM0 4 [2,3,6,8,9,10,22] [] rfl ?_
  refine spO 22 rfl ?_ ?_<;>intro h3'<;>try simp only [dq] at h3'
  refine xA tb hM0 5 [2,3,8,9,10,25] [] rfl ?_
  refine spC 25 rfl ?_ ?_<;>intro h4<;>try simp only [dq] at h4
  refine xA tb hM0 12 [] [] rfl ?_
  refine end_ret rfl ?_;rotate_left
  refine xA tb hM0 5 [2,3,8,9,10] [] rfl ?_
  refine oP rfl (pure_addi rfl rfl rfl (by omega)) ?_
  refine xA tb hM0 2 [2,3,8,9,10] [] rfl ?_
  refine nx ?_;rotate_left
  refine xA tb hM0 10 [2,3,8,9,10] [] rfl ?_
  refine oP rfl (pure_addi rfl rfl rfl (by omega)) ?_
  refine xA tb hM0 2 [2,3,8,9,10] [] rfl ?_
  refine nx ?_;rotate_left
  refine xA tb hM0 14 [2,3,8,9,10] [] rfl ?_
  refine oP rfl (pure_addi rfl rfl rfl (by omega)) ?_
  refine xA tb hM0 2 [2,3,8,9,10] [] rfl ?_
  refine nx ?_;rotate_left
  refine xA tb hM0 10 [3,28] [] rfl ?_
  refine oP rfl (pure_func rfl rfl) ?_
  refine oP rfl (pure_call rfl rfl rfl (hasRC_call (p:=fun x=>!knownR a x) (by omega) (fun x hx=>knownN_call (ih _ (Nat.lt_of_lt_of_le (size_kid hx) hm) _ (Nat.le_refl _) (by have:=size_kid hx;omega)))) hM0) ?_
  refine xA tb hM0 5 [] [] rfl ?_
  refine end_ret rfl ?_;rotate_left
  all_goals first
   | (
     first|(rw [knownR_no (i:=i) (by omega) (by unfold symK;simp_all)];done)|(rw [knownR_yes (fun j hj=>hL1_1 j (by omega))];done);done)
   | (
     refine ⟨_,⟨i+1,rfl,by omega,all_step hL1_1 (by unfold symK;simp_all;try omega),rfl⟩,by omega⟩;done)
def longB (a:List Letter) (last:Int) (y:Letter):Bool:=decide ((a.getD last.toNat default).text.length<y.text.length)&&preB y.text (a.getD last.toNat default).text
abbrev lastO (last:Int):List (Nat×Ob):=[(1000001,.box 3 [.v .pl (int last)])]
theorem fn104:Fn1 Tryz.prog 104 Tryz.f104.ntmps 4 (Tryz.f104.body.getD .skip):=⟨Tryz.f104,Tryz.func104,rfl,rfl,rfl,by kernel_rfl⟩
set_option maxRecDepth 100000 in
set_option maxHeartbeats 2000000 in
theorem longN_call {a:List Letter} {last:Int} {y:Letter} (hr:0≤last∧last<a.length):CallO Tryz.prog 104 [.v .mx (letter y),.v .pl (.pc [letters a] 0),.pbox 1000001 0] (lastO last) (.v .pl (bool (longB a last y))) (lastO last):=by
  refine callO_of_code fn104 (Nat.le_of_ble_eq_true rfl) fun w0 M0 hM0=>?_
  refine xC tb hM0 2 [0,1,2] [1000001] rfl ?_
  refine oP rfl (pure_box rfl rfl rfl hM0) ?_
  refine xA tb hM0 4 [1,2,3] [1000001] rfl ?_
  refine code_draw mixed (by kernel_rfl) _ rfl ?_
  refine dl_pure rfl rfl rfl (pure_field rfl fd83_0 rfl) ?_
  refine dl_pure rfl rfl rfl (pure_load rfl ag9 rfl rfl) ?_
  refine dl_pure rfl rfl rfl (pure_slen rfl Tryz.underlying9 rfl) ?_
  refine dl_pure rfl rfl rfl (pure_load rfl ag39 rfl rfl) ?_
  refine dl_pure rfl rfl rfl (pure_load_box rfl ag3 rfl rfl rfl) ?_
  refine dl_pure rfl rfl rfl (pure_ix rfl Tryz.underlying39 sz83 rfl rfl (by omega) (fun _=>rfl)) ?_
  refine dl_pure rfl rfl rfl (pure_field rfl fd83_0 rfl) ?_
  refine dpk 25 [(1,_),(2,_),(3,_),(7,_),(11,_)] [(1000001,_)] rfl rfl rfl ?_
  refine dl_pure rfl rfl rfl (pure_load rfl ag9 rfl rfl) ?_
  refine dl_pure rfl rfl rfl (pure_slen rfl Tryz.underlying9 rfl) ?_
  refine dl_pure rfl rfl rfl (pure_gtr rfl rfl rfl) ?_
  refine dl_pure rfl rfl rfl (pure_move rfl rfl) ?_
  refine dl_guard rfl (fun h1=>?_) (fun h1=>?_)
  have h1':=h1;try simp only [dq] at h1'
  refine dl_pure_g rfl rfl h1 rfl rfl (pure_field rfl fd83_0 rfl) ?_
  refine dl_pure_g rfl rfl h1 rfl rfl (pure_load rfl ag9 rfl rfl) ?_
  refine dl_pure_g rfl rfl h1 rfl rfl (pure_load rfl ag39 rfl rfl) ?_
  refine dpk 25 [(2,_),(15,_),(17,_),(18,_)] [(1000001,_)] rfl rfl rfl ?_
  refine dl_pure_g rfl rfl h1 rfl rfl (pure_load_box rfl ag3 rfl rfl rfl) ?_
  refine dl_pure_g rfl rfl h1 rfl rfl (pure_ix rfl Tryz.underlying39 sz83 rfl rfl (by omega) (fun _=>rfl)) ?_
  refine dl_pure_g rfl rfl h1 rfl rfl (pure_field rfl fd83_0 rfl) ?_
  refine dl_pure_g rfl rfl h1 rfl rfl (pure_load rfl ag9 rfl rfl) ?_
  refine dl_pure_g rfl rfl h1 rfl rfl (pure_call rfl rfl rfl (hp_call) hM0) ?_
  refine dl_pure rfl rfl rfl (pure_pick_t rfl rfl h1 rfl) ?_
  refine dl_pure rfl rfl rfl (pure_assign rfl rfl) ?_
  refine dl_nil ?_
  refine xD tb hM0 2 [] [] rfl ?_
  refine endO_ret (o1:=[(1000001,_)]) rfl ⟨rfl,trivial⟩ ?_;rotate_left
  have h1':=h1;try simp only [dq] at h1'
  refine dl_skip_g rfl rfl h1 rfl rfl ?_
  refine dl_skip_g rfl rfl h1 rfl rfl ?_
  refine dl_skip_g rfl rfl h1 rfl rfl ?_
  refine dpk 25 [(2,_),(15,_),(17,_),(18,_)] [(1000001,_)] rfl rfl rfl ?_
  refine dl_skip_g rfl rfl h1 rfl rfl ?_
  refine dl_skip_g rfl rfl h1 rfl rfl ?_
  refine dl_skip_g rfl rfl h1 rfl rfl ?_
  refine dl_skip_g rfl rfl h1 rfl rfl ?_
  refine dl_skip_g rfl rfl h1 rfl rfl ?_
  refine dl_pure rfl rfl rfl (pure_pick_f rfl rfl h1 rfl) ?_
  refine dl_pure rfl rfl rfl (pure_assign rfl rfl) ?_
  refine dl_nil ?_
  refine xD tb hM0 2 [] [] rfl ?_
  refine endO_ret (o1:=[(1000001,_)]) rfl ⟨rfl,trivial⟩ ?_;rotate_left
  all_goals
    refine ⟨?_,rfl⟩
    unfold longB
    first|(rw [decide_eq_true (by omega),Bool.true_and];first|done|rfl)|(rw [decide_eq_false (by omega),Bool.false_and];first|done|rfl)
theorem fn131:Fn1 Tryz.prog 131 Tryz.f131.ntmps 4 (Tryz.f131.body.getD .skip):=⟨Tryz.f131,Tryz.func131,rfl,rfl,rfl,by kernel_rfl⟩
set_option maxRecDepth 100000 in
set_option maxHeartbeats 2000000 in
theorem idxL_call {a l:List Letter} {last:Int} (hl:l.length≤1099511627776) (hr:0≤last∧last<a.length):CallO Tryz.prog 131 [.v .pl (letters l),.fn 104 [.pl (.pc [letters a] 0),.bx 1000001]] (lastO last) (.v .pl (int (idxF (longB a last) l))) (lastO last):=by
  refine callO_of_code fn131 (Nat.le_of_ble_eq_true rfl) fun w0 M0 hM0=>?_
  refine xC tb hM0 9 [0,1,6] [1000001] rfl ?_
  refine oP rfl (pure_lenm rfl Tryz.underlying39 rfl) ?_
  refine xA tb hM0 4 [0,1,7,8] [1000001] rfl ?_
  refine lp (fun zm zs=>∃ k:Nat,zm=l.length-k∧(k≤l.length)∧(∀ j,j<k→longB a last (l.getD j default)=false)∧zs=⟨19,[(0,.v .pl (letters l)),(1,.fn 104 [.pl (.pc [letters a] 0),.bx 1000001]),(7,.v .pl (int l.length)),(8,.v .pl (int k))],[(1000001,.box 3 [.v .pl (int last)])]⟩) ?_ ?_
  exact ⟨_,0,rfl,Nat.zero_le _,fun j hj=>absurd hj (by omega),rfl⟩
  rintro zm zs ⟨k,rfl,hL1_0,hL1_1,rfl⟩
  refine xA tb hM0 6 [0,1,7,8,9] [1000001] rfl ?_
  refine spC 9 rfl ?_ ?_<;>intro h1<;>try simp only [dq] at h1
  refine xA tb hM0 16 [0,1,5,7,8,11,12,13] [1000001] rfl ?_
  refine oP rfl (pure_ix rfl Tryz.underlying39 sz83 rfl rfl (by omega) (fun _=>rfl)) ?_
  refine xA tb hM0 1 [0,1,5,7,8,11,15] [1000001] rfl ?_
  refine oS rfl (step_callO [(1000001,1000001)] rfl rfl rfl rfl rfl rfl rfl (longN_call (y:=l.getD k default) hr) ⟨.inr (.inl ⟨_,rfl,rfl⟩),.inl rfl,.inl rfl,trivial⟩ ⟨rfl,trivial⟩ rfl rfl rfl rfl rfl hM0) rfl ?_
  refine xA tb hM0 2 [0,1,5,7,8,16] [1000001] rfl ?_
  refine spC 16 rfl ?_ ?_<;>intro h2<;>try simp only [dq] at h2
  refine xA tb hM0 13 [] [] rfl ?_
  refine endO_ret (o1:=[(1000001,_)]) rfl ⟨rfl,trivial⟩ ?_
  rw [← idxF_hit (p:=longB a last) (l:=l) (k:=k) (by omega) hL1_1 (by simp_all)];exact ⟨rfl,rfl⟩
  refine xA tb hM0 5 [0,1,7,8] [1000001] rfl ?_
  refine oP rfl (pure_addi rfl rfl rfl (by omega)) ?_
  refine xA tb hM0 2 [0,1,7,8] [1000001] rfl ?_
  refine nx ?_
  exact ⟨_,⟨k+1,rfl,by omega,all_step hL1_1 (by simp_all),rfl⟩,by omega⟩
  refine xA tb hM0 12 [] [] rfl ?_
  refine endO_ret (o1:=[(1000001,_)]) rfl ⟨rfl,trivial⟩ ?_
  rw [← idxF_none (p:=longB a last) (l:=l) (fun j hj=>hL1_1 j (by omega))];exact ⟨rfl,rfl⟩
theorem fn103:Fn1 Tryz.prog 103 Tryz.f103.ntmps 4 (Tryz.f103.body.getD .skip):=⟨Tryz.f103,Tryz.func103,rfl,rfl,rfl,by kernel_rfl⟩
set_option maxRecDepth 100000 in
theorem hasL_call {a l:List Letter} {last:Int} (hl:l.length≤1099511627776) (hr:0≤last∧last<a.length):CallO Tryz.prog 103 [.v .pl (letters l),.fn 104 [.pl (.pc [letters a] 0),.bx 1000001]] (lastO last) (.v .pl (bool (l.any (longB a last)))) (lastO last):=by
  refine callO_of_code fn103 (Nat.le_of_ble_eq_true rfl) fun w0 M0 hM0=>?_
  refine xC tb hM0 9 [5,6] [1000001] rfl ?_
  refine oS rfl (step_callO [(1000001,1000001)] rfl rfl rfl rfl rfl rfl rfl (idxL_call (l:=l) hl hr) ⟨.inl rfl,.inl rfl,trivial⟩ ⟨rfl,trivial⟩ rfl rfl rfl rfl rfl hM0) rfl ?_
  refine xA tb hM0 5 [] [] rfl ?_
  refine endO_ret (o1:=[(1000001,_)]) rfl ⟨rfl,trivial⟩ ?_
  rw [idxF_ge];exact ⟨rfl,rfl⟩
theorem fn101:Fn1 Tryz.prog 101 Tryz.f101.ntmps 6 (Tryz.f101.body.getD .skip):=⟨Tryz.f101,Tryz.func101,rfl,rfl,rfl,by kernel_rfl⟩
set_option maxRecDepth 100000 in
set_option maxHeartbeats 1000000 in
theorem part_call {a:List Letter} {r:Rx} {rep:Bool} {t:List UInt8} (ha:a.length≤1099511627776) (h:CallW Tryz.prog 67 [rx r,letters a] (.p (sbytes t))) (ht:t.length≤4611686018427387904):CallW Tryz.prog 101 [rx r,letters a,bool rep] (.p (sbytes (partT r rep t))):=by
  refine callW_of_code fn101 (Nat.le_of_ble_eq_true rfl) fun w0 M0 hM0 hdr=>?_
  refine xC tb hM0 2 [0,1,2] [] rfl ?_
  refine oP rfl (pure_box rfl rfl rfl hM0) ?_
  refine xA tb hM0 7 [2,3,8,9] [] rfl ?_
  refine oP rfl (pure_callW hdr rfl rfl rfl (h) hM0) ?_
  refine xA tb hM0 10 [2,3,7,14] [] rfl ?_
  refine spO 14 rfl ?_ ?_<;>intro h1'<;>try simp only [dq] at h1'
  refine xA tb hM0 13 [22] [] rfl ?_
  refine oP rfl (pure_sadd rfl rfl rfl (by simp only [List.length_cons,List.length_nil];omega)) ?_
  refine oP rfl (pure_sadd rfl rfl rfl (by simp only [List.length_append,List.length_cons,List.length_nil];omega)) ?_
  refine xA tb hM0 5 [] [] rfl ?_
  refine end_ret rfl ?_;rotate_left
  refine xA tb hM0 4 [2,7,14,18] [] rfl ?_
  refine spO 18 rfl ?_ ?_<;>intro h2'<;>try simp only [dq] at h2'
  refine xA tb hM0 5 [7,21] [] rfl ?_
  refine spC 21 rfl ?_ ?_<;>intro h3<;>try simp only [dq] at h3
  refine xA tb hM0 4 [22] [] rfl ?_
  refine oP rfl (pure_sadd rfl rfl rfl (by simp only [List.length_cons,List.length_nil];omega)) ?_
  refine oP rfl (pure_sadd rfl rfl rfl (by simp only [List.length_append,List.length_cons,List.length_nil];omega)) ?_
  refine xA tb hM0 5 [] [] rfl ?_
  refine end_ret rfl ?_;rotate_left
  refine xA tb hM0 10 [] [] rfl ?_
  refine end_ret rfl ?_;rotate_left
  refine xA tb hM0 15 [] [] rfl ?_
  refine end_ret rfl ?_;rotate_left
  all_goals
    unfold partT;first|(rw [if_pos (.inl (by omega))];first|done|rfl)|(rw [if_pos (.inr ⟨by omega,by assumption⟩)];first|done|rfl)|(rw [if_neg (fun q=>q.elim (fun q=>by omega) (fun q=>by first|omega|(have q2:=q.2;simp_all)))];first|done|rfl)
end Go.Proofs.YtgdehkimfmfofaaGreat

