/-
  Contract: between which offsets a word an expression has a word.
-/
import Derived.Test.YtgdehkimfmfofaaGreatJ25
import Derived.Test.YtgdehkimfmfofaaGreatJ23
import Derived.Test.YtgdehkimfmfofaaGreatJ8
set_option linter.unusedVariables false
set_option linter.unusedSectionVars false
set_option linter.unusedSimpArgs false
namespace Go.Proofs.YtgdehkimfmfofaaGreat
open Go.Am Go.We
theorem fn85:Fn1 Tryz.prog 85 Tryz.f85.ntmps 4 (Tryz.f85.body.getD .skip):=⟨Tryz.f85,Tryz.func85,rfl,rfl,rfl,by kernel_rfl⟩
set_option maxRecDepth 100000 in
set_option maxHeartbeats 2000000 in
theorem square_call {n:Nat} {q:Bool} (hn:n≤1099511627776):CallM Tryz.prog 85 [int n,bool q] 66 (rowsC 4 (matF (n+1) (sqF q))):=by
  refine callM_of_code fn85 (Nat.le_of_ble_eq_true rfl) fun w0 M0 hM0=>?_
  refine xC tb hM0 7 [0,1] [] rfl ?_
  refine oS rfl (step_nil rfl rfl rfl rfl rfl 66 hM0) rfl ?_
  refine xA tb hM0 4 [0,1,5] [5] rfl ?_
  refine code_nestS 5 hM0 rfl rfl rfl ?_
  refine xK tb hM0 5 [0,1,5,6] [5] rfl ?_
  refine lp (fun zm zs=>∃ i:Nat,zm=n+1-i∧(i≤n+1)∧zs=⟨25,[(0,.v .mx (int n)),(1,.v .mx (bool q)),(5,.nst 5),(6,.v .pl (int i))],[(5,.nar 66 (rowsC 4 ((List.range i).map fun i=>rowF (n+1) (sqF q i))) none)]⟩) ?_ ?_
  exact ⟨_,0,rfl,Nat.zero_le _,rfl⟩
  rintro zm zs ⟨i,rfl,hL1_0,rfl⟩
  refine xA tb hM0 8 [0,1,5,6,10] [5] rfl ?_
  refine spC 10 rfl ?_ ?_<;>intro h1<;>try simp only [dq] at h1
  refine xA tb hM0 8 [0,1,5,6,13] [5] rfl ?_
  refine oP rfl (pure_addi rfl rfl rfl (by omega)) ?_
  refine oS rfl (step_make rfl rfl rfl rfl Tryz.underlying66 el4 ze4 rfl rfl rfl (by omega) (by omega) (by omega) hM0) rfl ?_
  refine xA tb hM0 8 [0,1,5,6,7,16,17,18] [5,15] rfl ?_
  refine oP rfl (pure_index_own rfl Tryz.underlying66 sz4 rfl rfl rfl (by rw [List.length_replicate];omega)) ?_
  refine oS rfl (step_store_pel rfl rfl rfl sz4 rfl rfl (repl_get (by omega)) rfl rfl (.inl rfl) rfl (Nat.le_of_ble_eq_true rfl) hM0) rfl ?_
  refine xA tb hM0 5 [0,1,6,20,21] [5,15] rfl ?_
  refine oS rfl (step_litN rfl rfl rfl rfl rfl rfl Tryz.underlying67 el66 rfl rfl hM0) rfl ?_
  refine xA tb hM0 0 [0,1,6,20,22] [5,22] rfl ?_
  refine oS rfl (step_appN rfl rfl rfl rfl rfl Tryz.underlying67 el66 rfl rfl rfl rfl (Nat.succ_pos _) (by rw [rowsC_len,List.length_map,List.length_range];simp only [List.length_cons,List.length_nil];omega) (by rw [rowsC_len,List.length_map,List.length_range];simp only [List.length_cons,List.length_nil];omega) hM0) rfl ?_
  refine xA tb hM0 6 [0,1,5,11] [5] rfl ?_
  refine oP rfl (pure_addi rfl rfl rfl (by omega)) ?_
  refine xA tb hM0 2 [0,1,5,6] [5] rfl ?_
  refine nx ?_
  refine ⟨_,⟨i+1,rfl,by omega,?_⟩,by omega⟩
  rw [sq_step _ n q (by omega)];rfl
  refine xA tb hM0 13 [] [] rfl ?_
  refine endM_ret rfl rfl ?_
  obtain rfl:i=n+1:=by omega
  rfl
end Go.Proofs.YtgdehkimfmfofaaGreat

namespace Go.Proofs.YtgdehkimfmfofaaGreat
open Go.Am Go.We
theorem fn86:Fn1 Tryz.prog 86 Tryz.f86.ntmps 4 (Tryz.f86.body.getD .skip):=⟨Tryz.f86,Tryz.func86,rfl,rfl,rfl,by kernel_rfl⟩
set_option maxRecDepth 100000 in
set_option maxHeartbeats 4000000 in
theorem product_call {n:Nat} {a b:Nat→Nat→Bool} (hn:n≤1099511627776):CallM Tryz.prog 86 [matA (matF (n+1) a),matA (matF (n+1) b)] 66 (rowsC 4 (matF (n+1) (prF (n+1) a b))):=by
  refine callM_of_code fn86 (Nat.le_of_ble_eq_true rfl) fun w0 M0 hM0=>?_
  have hla:=matF_len (n+1) a
  have hlb:=matF_len (n+1) b
  refine xC tb hM0 8 [0,1,9] [] rfl ?_
  refine oP rfl (pure_lenm rfl Tryz.underlying67 rfl) ?_
  refine oP rfl (pure_toi (a':=(n:Int)) (pure_subi rfl rfl rfl (by omega)) (by omega)) ?_
  refine xA tb hM0 0 [0,1,11] [] rfl ?_
  refine oS rfl (step_callM rfl rfl rfl rfl rfl rfl (square_call (n:=n) (q:=false) hn) hM0) rfl ?_
  refine xA tb hM0 10 [0,1,5,6] [12] rfl ?_
  refine lp (fun zm zs=>∃ i:Nat,zm=(n+1)-i∧(i≤(n+1))∧zs=⟨65,[(0,.v .mx (matA (matF (n+1) a))),(1,.v .mx (matA (matF (n+1) b))),(5,.nst 12),(6,.v .pl (int i))],[(12,.nar 66 (rowsC 4 (matF (n+1) (prI (n+1) a b i))) none)]⟩) ?_ ?_
  refine ⟨_,0,rfl,Nat.zero_le _,?_⟩
  rw [show matF (n+1) (sqF false)=matF (n+1) (prI (n+1) a b 0) from matF_ext fun i j _ _=>by unfold sqF prI;simp];try rfl
  rintro zm zs ⟨i,rfl,hL1_0,rfl⟩
  refine xA tb hM0 5 [0,1,5,6,13,14] [12] rfl ?_
  refine oP rfl (pure_lenm rfl Tryz.underlying67 rfl) ?_
  refine xA tb hM0 3 [0,1,5,6,16] [12] rfl ?_
  refine spC 16 rfl ?_ ?_<;>intro h1<;>try simp only [dq] at h1
  refine xA tb hM0 6 [0,1,5,6] [12] rfl ?_
  refine code_lend 12 200 hM0 rfl rfl rfl (rowC_at (N:=(n+1)) (f:=prI (n+1) a b i) (i:=i) (by omega)) ?_
  refine xK tb hM0 6 [0,1,5,6,7] [12,200] rfl ?_
  refine lp (fun zm zs=>∃ k:Nat,zm=(n+1)-k∧(i≤k)∧(k≤(n+1))∧zs=⟨65,[(0,.v .mx (matA (matF (n+1) a))),(1,.v .mx (matA (matF (n+1) b))),(5,.nst 12),(6,.v .pl (int i)),(7,.v .pl (int k))],[(12,.nar 66 (rowsC 4 (matF (n+1) (prI (n+1) a b i))) (some (i,.arr 200))),(200,.arr 4 ((rowF (n+1) (prK a b i k)).map bool))]⟩) ?_ ?_
  refine ⟨_,i,rfl,Nat.le_refl _,by omega,?_⟩
  rw [show rowF (n+1) (prI (n+1) a b i i)=rowF (n+1) (prK a b i i) from rowF_ext fun l _=>by rw [prK_start];unfold prI;rw [decide_eq_false (Nat.lt_irrefl i)];rfl];try rfl
  rintro zm zs ⟨k,rfl,hL2_0,hL2_1,rfl⟩
  refine xA tb hM0 5 [0,1,5,6,7,20,21] [12,200] rfl ?_
  refine oP rfl (pure_lenm rfl Tryz.underlying67 rfl) ?_
  refine xA tb hM0 3 [0,1,5,6,7,23] [12,200] rfl ?_
  refine spC 23 rfl ?_ ?_<;>intro h2<;>try simp only [dq] at h2
  refine xA tb hM0 12 [0,1,5,6,7,8] [12,200] rfl ?_
  refine lp (fun zm zs=>∃ j:Nat,zm=(n+1)-j∧(k≤j)∧(j≤(n+1))∧zs=⟨65,[(0,.v .mx (matA (matF (n+1) a))),(1,.v .mx (matA (matF (n+1) b))),(5,.nst 12),(6,.v .pl (int i)),(7,.v .pl (int k)),(8,.v .pl (int j))],[(12,.nar 66 (rowsC 4 (matF (n+1) (prI (n+1) a b i))) (some (i,.arr 200))),(200,.arr 4 ((rowF (n+1) (prJ a b i k j)).map bool))]⟩) ?_ ?_
  refine ⟨_,k,rfl,Nat.le_refl _,by omega,?_⟩
  rw [show rowF (n+1) (prK a b i k)=rowF (n+1) (prJ a b i k k) from rowF_ext fun l _=>(prJ_start a b i k l).symm];try rfl
  rintro zm zs ⟨j,rfl,hL3_0,hL3_1,rfl⟩
  have hAk:((matF (n+1) a).getD i default).getD k default=a i k:=by rw [matF_at (by omega),rowF_at (by omega)]
  refine xA tb hM0 5 [0,1,5,6,7,8,27,28] [12,200] rfl ?_
  refine oP rfl (pure_lenm rfl Tryz.underlying67 rfl) ?_
  refine xA tb hM0 2 [0,1,5,6,7,8,31] [12,200] rfl ?_
  refine spO 31 rfl ?_ ?_<;>intro h3'<;>try simp only [dq] at h3'
  refine xA tb hM0 2 [0,1,5,6,7,8,31,32,33] [12,200] rfl ?_
  refine oP rfl (pure_ix rfl Tryz.underlying67 sz66 rfl rfl (by omega) (fun _=>rfl)) ?_
  refine xA tb hM0 2 [0,1,5,6,7,8,31,35,36] [12,200] rfl ?_
  refine oP rfl (pure_ix rfl Tryz.underlying66 sz4 rfl rfl (by (try simp only [Int.toNat_natCast]);rw [matF_at (by omega),rowF_len];omega) (fun _=>rfl)) ?_
  refine xA tb hM0 4 [0,1,5,6,7,8,39] [12,200] rfl ?_
  refine spC 39 rfl ?_ ?_<;>intro h4<;>try simp only [dq] at h4
  refine xA tb hM0 5 [0,1,5,6,7,8] [12,200] rfl ?_
  refine code_draw mixed (by kernel_rfl) _ rfl ?_
  refine dl_pure rfl rfl rfl (pure_move rfl rfl) ?_
  refine dl_pure rfl rfl rfl (pure_move rfl rfl) ?_
  refine dl_pure rfl rfl rfl (pure_index_nst rfl Tryz.underlying67 sz66 rfl rfl rfl (by rw [rowsC_len,matF_len];omega)) ?_
  refine dl_pure rfl rfl rfl (pure_load_lent rfl ag66 rfl rfl) ?_
  refine dl_pure rfl rfl rfl (pure_move rfl rfl) ?_
  refine dl_pure rfl rfl rfl (pure_move rfl rfl) ?_
  refine dl_pure rfl rfl rfl (pure_move rfl rfl) ?_
  refine dpk 65 [(0,_),(1,_),(5,_),(6,_),(7,_),(8,_),(45,_),(46,_),(47,_),(48,_)] [(12,_),(200,_)] rfl rfl rfl ?_
  refine dl_pure rfl rfl rfl (pure_index_nst rfl Tryz.underlying67 sz66 rfl rfl rfl (by rw [rowsC_len,matF_len];omega)) ?_
  refine dl_pure rfl rfl rfl (pure_load_lent rfl ag66 rfl rfl) ?_
  refine dl_pure rfl rfl rfl (pure_move rfl rfl) ?_
  refine dl_pure rfl rfl rfl (pure_index_own rfl Tryz.underlying66 sz4 rfl rfl rfl (by rw [List.length_map,rowF_len];omega)) ?_
  refine dl_pure rfl rfl rfl (pure_load_pel rfl ag4 rfl rfl (mget (by rw [rowF_len];omega)) rfl) ?_
  refine dl_pure rfl rfl rfl (pure_move rfl rfl) ?_
  refine dl_guard rfl (fun h5=>?_) (fun h5=>?_)
  have h5':=h5;try simp only [dq] at h5'
  refine dl_skip_g rfl rfl h5 rfl rfl ?_
  refine dpk 65 [(0,_),(1,_),(5,_),(6,_),(7,_),(8,_),(45,_),(46,_),(54,_),(55,_)] [(12,_),(200,_)] rfl rfl rfl ?_
  refine dl_skip_g rfl rfl h5 rfl rfl ?_
  refine dl_skip_g rfl rfl h5 rfl rfl ?_
  refine dl_skip_g rfl rfl h5 rfl rfl ?_
  refine dl_skip_g rfl rfl h5 rfl rfl ?_
  refine dl_skip_g rfl rfl h5 rfl rfl ?_
  refine dl_skip_g rfl rfl h5 rfl rfl ?_
  refine dl_pure rfl rfl rfl (pure_pick_t rfl rfl h5 rfl) ?_
  refine dl_pure rfl rfl rfl (pure_index_own rfl Tryz.underlying66 sz4 rfl rfl rfl (by rw [List.length_map,rowF_len];omega)) ?_
  refine dl_tails (by kernel_rfl) ?_
  refine tl_step rfl (step_store_pel rfl rfl rfl sz4 rfl rfl (mget (by rw [rowF_len];omega)) rfl rfl (.inl rfl) rfl (Nat.le_of_ble_eq_true rfl) hM0) ?_
  refine tl_nil ?_
  refine xD tb hM0 4 [0,1,5,6,7,40] [12,200] rfl ?_
  refine oP rfl (pure_addi rfl rfl rfl (by omega)) ?_
  refine xA tb hM0 2 [0,1,5,6,7,8] [12,200] rfl ?_
  refine nx ?_
  refine ⟨_,⟨j+1,rfl,by omega,by omega,?_⟩,by omega⟩
  rw [← rowF_set (g := prJ a b i k j) (v := true) (g' := prJ a b i k (j + 1)) (j := j) (by omega) fun l hl => by
      rw [prJ_step (by omega) (hAk.symm.trans (by assumption)),show prJ a b i k j j=true from (rowF_at (N:=n+1) (by omega)).symm.trans (by assumption)];rfl]
  try rfl
  have h5':=h5;try simp only [dq] at h5'
  refine dl_pure_g rfl rfl h5 rfl rfl (pure_move rfl rfl) ?_
  refine dpk 65 [(0,_),(1,_),(5,_),(6,_),(7,_),(8,_),(45,_),(46,_),(54,_),(55,_)] [(12,_),(200,_)] rfl rfl rfl ?_
  refine dl_pure_g rfl rfl h5 rfl rfl (pure_move rfl rfl) ?_
  refine dl_pure_g rfl rfl h5 rfl rfl (pure_ix rfl Tryz.underlying67 sz66 rfl rfl (by omega) (fun _=>rfl)) ?_
  refine dl_pure_g rfl rfl h5 rfl rfl (pure_load rfl ag66 rfl rfl) ?_
  refine dl_pure_g rfl rfl h5 rfl rfl (pure_move rfl rfl) ?_
  refine dl_pure_g rfl rfl h5 rfl rfl (pure_ix rfl Tryz.underlying66 sz4 rfl rfl (by (try simp only [Int.toNat_natCast]);rw [matF_at (by omega),rowF_len];omega) (fun _=>rfl)) ?_
  refine dl_pure_g rfl rfl h5 rfl rfl (pure_load rfl ag4 rfl rfl) ?_
  refine dl_pure rfl rfl rfl (pure_pick_f rfl rfl h5 rfl) ?_
  refine dl_pure rfl rfl rfl (pure_index_own rfl Tryz.underlying66 sz4 rfl rfl rfl (by rw [List.length_map,rowF_len];omega)) ?_
  refine dl_tails (by kernel_rfl) ?_
  refine tl_step rfl (step_store_pel rfl rfl rfl sz4 rfl rfl (mget (by rw [rowF_len];omega)) rfl rfl (.inl rfl) rfl (Nat.le_of_ble_eq_true rfl) hM0) ?_
  refine tl_nil ?_
  refine xD tb hM0 4 [0,1,5,6,7,40] [12,200] rfl ?_
  refine oP rfl (pure_addi rfl rfl rfl (by omega)) ?_
  refine xA tb hM0 2 [0,1,5,6,7,8] [12,200] rfl ?_
  refine nx ?_
  refine ⟨_,⟨j+1,rfl,by omega,by omega,?_⟩,by omega⟩
  have e:((matF (n+1) b).getD k default).getD j default=b k j:=by rw [matF_at (by omega),rowF_at (by omega)]
  rw [← rowF_set (g := prJ a b i k j) (v := ((matF (n + 1) b).getD k default).getD j default) (g' := prJ a b i k (j + 1)) (j := j) (by omega) fun l hl => by
      rw [e,prJ_step (by omega) (hAk.symm.trans (by assumption)),show prJ a b i k j j=false from (rowF_at (N:=n+1) (by omega)).symm.trans (by assumption)];rfl]
  try rfl
  refine xA tb hM0 9 [0,1,5,6,24] [12,200] rfl ?_
  refine oP rfl (pure_addi rfl rfl rfl (by omega)) ?_
  refine xA tb hM0 2 [0,1,5,6,7] [12,200] rfl ?_
  refine nx ?_;rotate_left
  refine xA tb hM0 19 [0,1,5,6,24] [12,200] rfl ?_
  refine oP rfl (pure_addi rfl rfl rfl (by omega)) ?_
  refine xA tb hM0 2 [0,1,5,6,7] [12,200] rfl ?_
  refine nx ?_;rotate_left
  refine xA tb hM0 7 [0,1,5,6] [12,200] rfl ?_
  obtain rfl:k=(n+1):=by omega
  refine code_giveback 12 200 hM0 rfl rfl (by rw [rowsC_len,matF_len];omega) rfl ?_
  refine xK tb hM0 2 [0,1,5,17] [12] rfl ?_
  refine oP rfl (pure_addi rfl rfl rfl (by omega)) ?_
  refine xA tb hM0 2 [0,1,5,6] [12] rfl ?_
  refine nx ?_
  refine ⟨_,⟨i+1,rfl,by omega,?_⟩,by omega⟩
  rw [← rowsC_set (f := prI (n + 1) a b i) (g := prK a b i (n + 1)) (i := i) (by omega) (f' := prI (n + 1) a b (i + 1)) fun k l hk hl => by
      unfold prI
      by_cases q:k=i
      · subst q;rw [if_pos rfl,decide_eq_true (by omega)];rfl
      · rw [if_neg q,show decide (k<i+1)=decide (k<i) from decide_eq_decide.2 (by omega)]]
  try rfl
  refine xA tb hM0 13 [] [] rfl ?_
  refine endM_ret rfl rfl ?_
  obtain rfl:i=(n+1):=by omega
  rw [show matF (n+1) (prI (n+1) a b (n+1))=matF (n+1) (prF (n+1) a b) from matF_ext fun k l hk _=>by unfold prI;rw [decide_eq_true hk];rfl]
  all_goals
    refine ⟨_,⟨k+1,rfl,by omega,by omega,?_⟩,by omega⟩
    rw [show rowF (n+1) (prJ a b i k j)=rowF (n+1) (prK a b i (k+1)) from rowF_ext fun l hl=>prJ_end (by omega) (by first|exact .inl (by omega)|(refine .inr ?_;simp_all))];try rfl
end Go.Proofs.YtgdehkimfmfofaaGreat

namespace Go.Proofs.YtgdehkimfmfofaaGreat
open Go.Am Go.We Go.Wb
theorem fn58:Fn1 Tryz.prog 58 Tryz.f58.ntmps 4 (Tryz.f58.body.getD .skip):=⟨Tryz.f58,Tryz.func58,rfl,rfl,rfl,by kernel_rfl⟩
set_option maxRecDepth 100000 in
set_option maxHeartbeats 16000000 in
theorem parts_call {w:List Int} (hw:w.length≤1099511627776):∀ (z:Nat) (r:Rx),r.size≤z→z≤1099511627776→validR r=true→CallM Tryz.prog 58 [rx r,ints w] 66 (rowsC 4 (matF (w.length+1) (semF w r))):=by
  intro z
  induction z with
  | zero=>intro a hr _ _;have:=size_pos a;omega
  | succ z ih =>
  intro r hr hz hv
  have hkl:=kids_len r
  have hsl:=syms_len r
  obtain ⟨hk1,hk5,hk0⟩:=validR_wf hv
  have hx:∀ m,m<r.kids.length→CallF Tryz.prog 58 [rx (r.kids.getD m default),ints w] (.p (matA (matF (w.length+1) (kidF w r m)))):=fun m hm=>by
    have h:=(ih _ (Nat.le_of_lt_succ (Nat.lt_of_lt_of_le (kid_lt hm) hr)) (by omega) (validR_kid hv hm)).data sz66
    rwa [rowsC_av] at h
  rw [rx_eq r]
  refine callM_of_code fn58 (Nat.le_of_ble_eq_true rfl) fun w0 M0 hM0=>?_
  refine xC tb hM0 2 [0,1] [] rfl ?_
  refine oP rfl (pure_box rfl rfl rfl hM0) ?_
  refine xA tb hM0 3 [1,2] [] rfl ?_
  refine ct (fun zs=>zs=⟨192,[(1,.v .mx (ints w)),(2,.v .mx (rpc r)),(5,.nst 30)],[(30,.nar 66 (rowsC 4 (matF (w.length+1) (sqF (qF r)))) none)]⟩) ?_ ?_
  refine xA tb hM0 2 [1,2,15] [] rfl ?_
  refine oP rfl (pure_lenm rfl Tryz.underlying22 rfl) ?_
  refine xA tb hM0 4 [1,2,16,20] [] rfl ?_
  refine spO 20 rfl ?_ ?_<;>intro h1'<;>try simp only [dq] at h1'
  refine xA tb hM0 9 [1,2,16,29] [] rfl ?_
  refine oS rfl (step_callM rfl rfl rfl rfl rfl rfl (square_call (n:=w.length) hw) hM0) rfl ?_
  refine xA tb hM0 2 [1,2,5] [30] rfl ?_
  refine cx ?_
  rw [qF_1 (by omega)];try rfl
  refine xA tb hM0 5 [1,2,16,25] [] rfl ?_
  refine spO 25 rfl ?_ ?_<;>intro h2'<;>try simp only [dq] at h2'
  refine xA tb hM0 4 [1,2,16,29] [] rfl ?_
  refine oS rfl (step_callM rfl rfl rfl rfl rfl rfl (square_call (n:=w.length) hw) hM0) rfl ?_
  refine xA tb hM0 2 [1,2,5] [30] rfl ?_
  refine cx ?_
  rw [qF_3 (by omega)];try rfl
  refine xA tb hM0 4 [1,2,16,29] [] rfl ?_
  refine oS rfl (step_callM rfl rfl rfl rfl rfl rfl (square_call (n:=w.length) hw) hM0) rfl ?_
  refine xA tb hM0 2 [1,2,5] [30] rfl ?_
  refine cx ?_
  rw [qF_n (by omega) (by omega)];try rfl
  rintro zs ⟨rfl⟩
  refine ct (fun zs=>zs=⟨192,[(1,.v .mx (ints w)),(2,.v .mx (rpc r)),(5,.nst 30)],[(30,.nar 66 (rowsC 4 (matF (w.length+1) (KF w r 0))) none)]⟩) ?_ ?_
  refine xA tb hM0 6 [1,2,5,6] [30] rfl ?_
  refine lp (fun zm zs=>∃ i:Nat,zm=w.length-i∧(i≤w.length)∧(r.kind≠2→i=0)∧zs=⟨192,[(1,.v .mx (ints w)),(2,.v .mx (rpc r)),(5,.nst 30),(6,.v .pl (int i))],[(30,.nar 66 (rowsC 4 (matF (w.length+1) (f0 w r i))) none)]⟩) ?_ ?_
  refine ⟨_,0,rfl,Nat.zero_le _,fun _=>rfl,?_⟩
  rw [f0_start];try rfl
  rintro zm zs ⟨i,rfl,hL1_0,hL1_1,rfl⟩
  refine xA tb hM0 5 [1,2,5,6,31,32] [30] rfl ?_
  refine oP rfl (pure_lenm rfl Tryz.underlying22 rfl) ?_
  refine xA tb hM0 2 [1,2,5,6,35] [30] rfl ?_
  refine spO 35 rfl ?_ ?_<;>intro h3'<;>try simp only [dq] at h3'
  refine xA tb hM0 6 [1,2,5,6,39] [30] rfl ?_
  refine spC 39 rfl ?_ ?_<;>intro h4<;>try simp only [dq] at h4
  refine xA tb hM0 6 [1,2,5,6] [30] rfl ?_
  have hk2:r.kind=2:=by omega
  refine code_lend 30 200 hM0 rfl rfl rfl (rowC_at (N:=(w.length+1)) (f:=f0 w r i) (i:=i) (by omega)) ?_
  refine xK tb hM0 5 [1,2,5,6,7] [30,200] rfl ?_
  refine lp (fun zm zs=>∃ k:Nat,zm=r.syms.length-k∧(k≤r.syms.length)∧zs=⟨192,[(1,.v .mx (ints w)),(2,.v .mx (rpc r)),(5,.nst 30),(6,.v .pl (int i)),(7,.v .pl (int k))],[(30,.nar 66 (rowsC 4 (matF (w.length+1) (f0 w r i))) (some (i,.arr 200))),(200,.arr 4 ((rowF (w.length+1) (seJ w r.syms i k)).map bool))]⟩) ?_ ?_
  refine ⟨_,0,rfl,Nat.zero_le _,?_⟩
  rw [show rowF (w.length+1) (f0 w r i i)=rowF (w.length+1) (seJ w r.syms i 0) from rowF_ext fun l _=>by rw [f0_two hk2,seI_here,seJ_start]];try rfl
  rintro zm zs ⟨k,rfl,hL2_0,rfl⟩
  refine xA tb hM0 6 [1,2,5,6,7,42,44] [30,200] rfl ?_
  refine oP rfl (pure_lenm rfl Tryz.underlying22 rfl) ?_
  refine xA tb hM0 3 [1,2,5,6,7,46] [30,200] rfl ?_
  refine spC 46 rfl ?_ ?_<;>intro h5<;>try simp only [dq] at h5
  refine xA tb hM0 5 [1,2,5,6,7] [30,200] rfl ?_
  refine code_draw mixed (by kernel_rfl) _ rfl ?_
  refine dl_pure rfl rfl rfl (pure_move rfl rfl) ?_
  refine dl_pure rfl rfl rfl (pure_move rfl rfl) ?_
  refine dl_pure rfl rfl rfl (pure_index_nst rfl Tryz.underlying67 sz66 rfl rfl rfl (by rw [rowsC_len,matF_len];omega)) ?_
  refine dl_pure rfl rfl rfl (pure_load_lent rfl ag66 rfl rfl) ?_
  refine dl_pure rfl rfl rfl (pure_move rfl rfl) ?_
  refine dl_pure rfl rfl rfl (pure_addi rfl rfl rfl (by omega)) ?_
  refine dl_pure rfl rfl rfl (pure_move rfl rfl) ?_
  refine dpk 192 [(1,_),(2,_),(5,_),(6,_),(7,_),(52,_),(54,_),(55,_)] [(30,_),(200,_)] rfl rfl rfl ?_
  refine dl_pure rfl rfl rfl (pure_move rfl rfl) ?_
  refine dl_pure rfl rfl rfl (pure_index_nst rfl Tryz.underlying67 sz66 rfl rfl rfl (by rw [rowsC_len,matF_len];omega)) ?_
  refine dl_pure rfl rfl rfl (pure_load_lent rfl ag66 rfl rfl) ?_
  refine dl_pure rfl rfl rfl (pure_move rfl rfl) ?_
  refine dl_pure rfl rfl rfl (pure_addi rfl rfl rfl (by omega)) ?_
  refine dl_pure rfl rfl rfl (pure_index_own rfl Tryz.underlying66 sz4 rfl rfl rfl (by rw [List.length_map,rowF_len];omega)) ?_
  refine dl_pure rfl rfl rfl (pure_load_pel rfl ag4 rfl rfl (mget (by rw [rowF_len];omega)) rfl) ?_
  refine dpk 192 [(1,_),(2,_),(5,_),(6,_),(7,_),(52,_),(54,_),(62,_)] [(30,_),(200,_)] rfl rfl rfl ?_
  refine dl_pure rfl rfl rfl (pure_move rfl rfl) ?_
  refine dl_guard rfl (fun h6=>?_) (fun h6=>?_)
  have h6':=h6;try simp only [dq] at h6'
  refine dl_skip_g rfl rfl h6 rfl rfl ?_
  refine dl_skip_g rfl rfl h6 rfl rfl ?_
  refine dl_skip_g rfl rfl h6 rfl rfl ?_
  refine dl_skip_g rfl rfl h6 rfl rfl ?_
  refine dl_skip_g rfl rfl h6 rfl rfl ?_
  refine dl_skip_g rfl rfl h6 rfl rfl ?_
  refine dpk 192 [(1,_),(2,_),(5,_),(6,_),(7,_),(52,_),(54,_),(63,_),(68,_),(69,_)] [(30,_),(200,_)] rfl rfl rfl ?_
  refine dl_skip_g rfl rfl h6 rfl rfl ?_
  refine dl_skip_g rfl rfl h6 rfl rfl ?_
  refine dl_skip_g rfl rfl h6 rfl rfl ?_
  refine dl_skip_g rfl rfl h6 rfl rfl ?_
  refine dl_pure rfl rfl rfl (pure_pick_t rfl rfl h6 rfl) ?_
  refine dl_pure rfl rfl rfl (pure_index_own rfl Tryz.underlying66 sz4 rfl rfl rfl (by rw [List.length_map,rowF_len];omega)) ?_
  refine dl_tails (by kernel_rfl) ?_
  refine tl_step rfl (step_store_pel rfl rfl rfl sz4 rfl rfl (mget (by rw [rowF_len];omega)) rfl rfl (.inl rfl) rfl (Nat.le_of_ble_eq_true rfl) hM0) ?_
  refine tl_nil ?_
  refine xD tb hM0 4 [1,2,5,6,47] [30,200] rfl ?_
  refine oP rfl (pure_addi rfl rfl rfl (by omega)) ?_
  refine xA tb hM0 2 [1,2,5,6,7] [30,200] rfl ?_
  refine nx ?_
  refine ⟨_,⟨k+1,rfl,by omega,?_⟩,by omega⟩
  rw [← rowF_set (N := (w.length + 1)) (g := seJ w r.syms i k) (v := true) (g' := seJ w r.syms i (k + 1)) (j := i + 1) (by omega) fun l hl => by
      rw [seJ_step (by omega),show seJ w r.syms i k (i+1)=true from (rowF_at (N:=(w.length+1)) (by omega)).symm.trans (by assumption)];rfl]
  try rfl
  have h6':=h6;try simp only [dq] at h6'
  refine dl_pure_g rfl rfl h6 rfl rfl (pure_field rfl fd25_1 rfl) ?_
  refine dl_pure_g rfl rfl h6 rfl rfl (pure_load rfl ag22 rfl rfl) ?_
  refine dl_pure_g rfl rfl h6 rfl rfl (pure_move rfl rfl) ?_
  refine dl_pure_g rfl rfl h6 rfl rfl (pure_ix rfl Tryz.underlying22 sz3 rfl rfl (by omega) (fun _=>rfl)) ?_
  refine dl_pure_g rfl rfl h6 rfl rfl (pure_load rfl ag3 rfl rfl) ?_
  refine dl_pure_g rfl rfl h6 rfl rfl (pure_move rfl rfl) ?_
  refine dpk 192 [(1,_),(2,_),(5,_),(6,_),(7,_),(52,_),(54,_),(63,_),(68,_),(69,_)] [(30,_),(200,_)] rfl rfl rfl ?_
  refine dl_pure_g rfl rfl h6 rfl rfl (pure_move rfl rfl) ?_
  refine dl_pure_g rfl rfl h6 rfl rfl (pure_ix rfl Tryz.underlying22 sz3 rfl rfl (by omega) (fun _=>rfl)) ?_
  refine dl_pure_g rfl rfl h6 rfl rfl (pure_load rfl ag3 rfl rfl) ?_
  refine dl_pure_g rfl rfl h6 rfl rfl (pure_eql rfl rfl rfl) ?_
  refine dl_pure rfl rfl rfl (pure_pick_f rfl rfl h6 rfl) ?_
  refine dl_pure rfl rfl rfl (pure_index_own rfl Tryz.underlying66 sz4 rfl rfl rfl (by rw [List.length_map,rowF_len];omega)) ?_
  refine dl_tails (by kernel_rfl) ?_
  refine tl_step rfl (step_store_pel rfl rfl rfl sz4 rfl rfl (mget (by rw [rowF_len];omega)) rfl rfl (.inl rfl) rfl (Nat.le_of_ble_eq_true rfl) hM0) ?_
  refine tl_nil ?_
  refine xD tb hM0 4 [1,2,5,6,47] [30,200] rfl ?_
  refine oP rfl (pure_addi rfl rfl rfl (by omega)) ?_
  refine xA tb hM0 2 [1,2,5,6,7] [30,200] rfl ?_
  refine nx ?_
  refine ⟨_,⟨k+1,rfl,by omega,?_⟩,by omega⟩
  rw [← rowF_set (N := (w.length + 1)) (g := seJ w r.syms i k) (v := decide (r.syms.getD k default = w.getD i default)) (g' := seJ w r.syms i (k + 1)) (j := i + 1) (by omega) fun l hl => by
      rw [seJ_step (by omega),show seJ w r.syms i k (i+1)=false from (rowF_at (N:=(w.length+1)) (by omega)).symm.trans (by assumption)];rfl]
  try rfl
  refine xA tb hM0 7 [1,2,5,6] [30,200] rfl ?_
  obtain rfl:k=r.syms.length:=by omega
  refine code_giveback 30 200 hM0 rfl rfl (by rw [rowsC_len,matF_len];omega) rfl ?_
  refine xK tb hM0 2 [1,2,5,40] [30] rfl ?_
  refine oP rfl (pure_addi rfl rfl rfl (by omega)) ?_
  refine xA tb hM0 2 [1,2,5,6] [30] rfl ?_
  refine nx ?_
  refine ⟨_,⟨i+1,rfl,by omega,fun q=>absurd hk2 q,?_⟩,by omega⟩
  rw [rowsC_set (N := (w.length + 1)) (f := f0 w r i) (g := seJ w r.syms i r.syms.length) (i := i) (f' := f0 w r (i + 1)) (by omega) fun k l hk hl => by
      rw [f0_two hk2,f0_two hk2,seI_step,seJ_end (Nat.le_refl _)]]
  try rfl
  refine xA tb hM0 5 [1,2,5] [30] rfl ?_
  refine cx ?_;rotate_left
  refine xA tb hM0 11 [1,2,5] [30] rfl ?_
  refine cx ?_;rotate_left
  rintro zs ⟨rfl⟩
  refine xA tb hM0 7 [1,2,5,8] [30] rfl ?_
  refine lp (fun zm zs=>∃ m:Nat,zm=r.kids.length-m∧(m≤r.kids.length)∧zs=⟨192,[(1,.v .mx (ints w)),(2,.v .mx (rpc r)),(5,.nst 30),(8,.v .pl (int m))],[(30,.nar 66 (rowsC 4 (matF (w.length+1) (KF w r m))) none)]⟩) ?_ ?_
  exact ⟨_,0,rfl,Nat.zero_le _,rfl⟩
  rintro zm zs ⟨m,rfl,hL3_0,rfl⟩
  refine xA tb hM0 6 [1,2,5,8,76,78] [30] rfl ?_
  refine oP rfl (pure_lenm rfl Tryz.underlying23 rfl) ?_
  refine xA tb hM0 3 [1,2,5,8,80] [30] rfl ?_
  refine spC 80 rfl ?_ ?_<;>intro h7<;>try simp only [dq] at h7
  refine xA tb hM0 10 [1,2,5,8,84,85] [30] rfl ?_
  refine oP rfl (pure_ix rfl Tryz.underlying23 sz25 rfl rfl (by omega) (fun _=>rfl)) ?_
  refine xA tb hM0 2 [1,2,5,8,87,88] [30] rfl ?_
  refine oP rfl (pure_call rfl rfl rfl (hx m (by omega)) hM0) ?_
  refine xA tb hM0 3 [1,2,5,8,9] [30] rfl ?_
  refine ct (fun zs=>zs=⟨192,[(1,.v .mx (ints w)),(2,.v .mx (rpc r)),(5,.nst 30),(8,.v .pl (int m)),(9,.v .pl (matA (matF (w.length+1) (kidF w r m))))],[(30,.nar 66 (rowsC 4 (matF (w.length+1) (f1 w r m))) none)]⟩) ?_ ?_
  refine xA tb hM0 7 [1,2,5,8,9,92] [30] rfl ?_
  refine spC 92 rfl ?_ ?_<;>intro h8<;>try simp only [dq] at h8
  refine xA tb hM0 1 [1,2,5,8,9] [30] rfl ?_
  refine code_flatS 5 hM0 rfl rfl rfl sz66 ?_
  refine code_frz 192 [(1,_),(2,_),(5,_),(8,_),(9,_)] [] hM0 rfl ⟨.inl rfl,.inl rfl,.inr ⟨_,_,rfl,rfl,rfl⟩,.inl rfl,.inl rfl,trivial⟩ trivial ?_
  rw [rowsC_av]
  refine xK tb hM0 3 [1,2,8,9,93,94] [] rfl ?_
  refine oS rfl (step_callM rfl rfl rfl rfl rfl rfl (product_call (n:=w.length) (a:=KF w r m) (b:=(kidF w r m)) hw) hM0) rfl ?_
  refine xA tb hM0 1 [1,2,5,8,9] [95] rfl ?_
  refine ol_renN 5 30 hM0 rfl rfl rfl rfl ?_
  refine xO tb hM0 1 [1,2,5,8,9] [30] rfl ?_
  refine cx ?_
  rw [f1_q (by omega) (by omega)];try rfl
  refine xA tb hM0 2 [1,2,5,8,9] [30] rfl ?_
  refine cx ?_
  rw [f1_n (by omega)];try rfl
  rintro zs ⟨rfl⟩
  refine ct (fun zs=>zs=⟨192,[(1,.v .mx (ints w)),(2,.v .mx (rpc r)),(5,.nst 30),(8,.v .pl (int m)),(9,.v .pl (matA (matF (w.length+1) (kidF w r m))))],[(30,.nar 66 (rowsC 4 (matF (w.length+1) (f2 w r m))) none)]⟩) ?_ ?_
  refine xA tb hM0 6 [1,2,5,8,9,10] [30] rfl ?_
  have hm:m<r.kids.length:=by omega
  refine lp (fun zm zs=>∃ i:Nat,zm=(w.length+1)-i∧(i≤(w.length+1))∧(r.kind≠4→i=0)∧zs=⟨192,[(1,.v .mx (ints w)),(2,.v .mx (rpc r)),(5,.nst 30),(8,.v .pl (int m)),(9,.v .pl (matA (matF (w.length+1) (kidF w r m)))),(10,.v .pl (int i))],[(30,.nar 66 (rowsC 4 (matF (w.length+1) (a4 w r m i))) none)]⟩) ?_ ?_
  refine ⟨_,0,rfl,Nat.zero_le _,fun _=>rfl,?_⟩
  rw [a4_start];try rfl
  rintro zm zs ⟨i,rfl,hL4_0,hL4_1,rfl⟩
  have hrl:(rowsC 4 (matF (w.length+1) (a4 w r m i))).length=(w.length+1):=by rw [rowsC_len,matF_len]
  refine xA tb hM0 5 [1,2,5,8,9,10,96,97] [30] rfl ?_
  refine oP rfl (pure_len_nst rfl Tryz.underlying67 sz66 rfl rfl) ?_
  refine xA tb hM0 2 [1,2,5,8,9,10,100] [30] rfl ?_
  refine spO 100 rfl ?_ ?_<;>intro h9'<;>try simp only [dq] at h9'
  refine xA tb hM0 6 [1,2,5,8,9,10,104] [30] rfl ?_
  refine spC 104 rfl ?_ ?_<;>intro h10<;>try simp only [dq] at h10
  refine xA tb hM0 6 [1,2,5,8,9,10] [30] rfl ?_
  have hk4:r.kind=4:=by omega
  refine code_lend 30 200 hM0 rfl rfl rfl (rowC_at (N:=(w.length+1)) (f:=a4 w r m i) (i:=i) (by omega)) ?_
  refine xK tb hM0 5 [1,2,5,8,9,10,11] [30,200] rfl ?_
  refine lp (fun zm zs=>∃ k:Nat,zm=(w.length+1)-k∧(k≤(w.length+1))∧zs=⟨192,[(1,.v .mx (ints w)),(2,.v .mx (rpc r)),(5,.nst 30),(8,.v .pl (int m)),(9,.v .pl (matA (matF (w.length+1) (kidF w r m)))),(10,.v .pl (int i)),(11,.v .pl (int k))],[(30,.nar 66 (rowsC 4 (matF (w.length+1) (a4 w r m i))) (some (i,.arr 200))),(200,.arr 4 ((rowF (w.length+1) (alJ (KF w r m) (kidF w r m) i k)).map bool))]⟩) ?_ ?_
  refine ⟨_,0,rfl,Nat.zero_le _,?_⟩
  rw [show rowF (w.length+1) (a4 w r m i i)=rowF (w.length+1) (alJ (KF w r m) (kidF w r m) i 0) from rowF_ext fun l _=>by rw [a4_four hk4,alI_here,alJ_start]];try rfl
  rintro zm zs ⟨k,rfl,hL5_0,rfl⟩
  have hrl2:(rowsC 4 (matF (w.length+1) (a4 w r m i))).length=(w.length+1):=by rw [rowsC_len,matF_len]
  refine xA tb hM0 5 [1,2,5,8,9,10,11,107,108] [30,200] rfl ?_
  refine oP rfl (pure_len_nst rfl Tryz.underlying67 sz66 rfl rfl) ?_
  refine xA tb hM0 3 [1,2,5,8,9,10,11,110] [30,200] rfl ?_
  refine spC 110 rfl ?_ ?_<;>intro h11<;>try simp only [dq] at h11
  refine xA tb hM0 5 [1,2,5,8,9,10,11] [30,200] rfl ?_
  refine code_draw mixed (by kernel_rfl) _ rfl ?_
  refine dl_pure rfl rfl rfl (pure_move rfl rfl) ?_
  refine dl_pure rfl rfl rfl (pure_move rfl rfl) ?_
  refine dl_pure rfl rfl rfl (pure_index_nst rfl Tryz.underlying67 sz66 rfl rfl rfl (by rw [rowsC_len,matF_len];omega)) ?_
  refine dl_pure rfl rfl rfl (pure_load_lent rfl ag66 rfl rfl) ?_
  refine dl_pure rfl rfl rfl (pure_move rfl rfl) ?_
  refine dl_pure rfl rfl rfl (pure_move rfl rfl) ?_
  refine dl_pure rfl rfl rfl (pure_move rfl rfl) ?_
  refine dpk 192 [(1,_),(2,_),(5,_),(8,_),(9,_),(10,_),(11,_),(116,_),(117,_),(118,_),(119,_)] [(30,_),(200,_)] rfl rfl rfl ?_
  refine dl_pure rfl rfl rfl (pure_index_nst rfl Tryz.underlying67 sz66 rfl rfl rfl (by rw [rowsC_len,matF_len];omega)) ?_
  refine dl_pure rfl rfl rfl (pure_load_lent rfl ag66 rfl rfl) ?_
  refine dl_pure rfl rfl rfl (pure_move rfl rfl) ?_
  refine dl_pure rfl rfl rfl (pure_index_own rfl Tryz.underlying66 sz4 rfl rfl rfl (by rw [List.length_map,rowF_len];omega)) ?_
  refine dl_pure rfl rfl rfl (pure_load_pel rfl ag4 rfl rfl (mget (by rw [rowF_len];omega)) rfl) ?_
  refine dl_pure rfl rfl rfl (pure_move rfl rfl) ?_
  refine dl_guard rfl (fun h12=>?_) (fun h12=>?_)
  have h12':=h12;try simp only [dq] at h12'
  refine dl_skip_g rfl rfl h12 rfl rfl ?_
  refine dpk 192 [(1,_),(2,_),(5,_),(8,_),(9,_),(10,_),(11,_),(116,_),(117,_),(125,_),(126,_)] [(30,_),(200,_)] rfl rfl rfl ?_
  refine dl_skip_g rfl rfl h12 rfl rfl ?_
  refine dl_skip_g rfl rfl h12 rfl rfl ?_
  refine dl_skip_g rfl rfl h12 rfl rfl ?_
  refine dl_skip_g rfl rfl h12 rfl rfl ?_
  refine dl_skip_g rfl rfl h12 rfl rfl ?_
  refine dl_skip_g rfl rfl h12 rfl rfl ?_
  refine dl_pure rfl rfl rfl (pure_pick_t rfl rfl h12 rfl) ?_
  refine dl_pure rfl rfl rfl (pure_index_own rfl Tryz.underlying66 sz4 rfl rfl rfl (by rw [List.length_map,rowF_len];omega)) ?_
  refine dl_tails (by kernel_rfl) ?_
  refine tl_step rfl (step_store_pel rfl rfl rfl sz4 rfl rfl (mget (by rw [rowF_len];omega)) rfl rfl (.inl rfl) rfl (Nat.le_of_ble_eq_true rfl) hM0) ?_
  refine tl_nil ?_
  refine xD tb hM0 4 [1,2,5,8,9,10,111] [30,200] rfl ?_
  refine oP rfl (pure_addi rfl rfl rfl (by omega)) ?_
  refine xA tb hM0 2 [1,2,5,8,9,10,11] [30,200] rfl ?_
  refine nx ?_
  refine ⟨_,⟨k+1,rfl,by omega,?_⟩,by omega⟩
  rw [← rowF_set (N := (w.length + 1)) (g := alJ (KF w r m) (kidF w r m) i k) (v := true) (g' := alJ (KF w r m) (kidF w r m) i (k + 1)) (j := k) (by omega) fun l hl => by
      rw [alJ_step,show alJ (KF w r m) (kidF w r m) i k k=true from (rowF_at (N:=(w.length+1)) (by omega)).symm.trans (by assumption)];rfl]
  try rfl
  have h12':=h12;try simp only [dq] at h12'
  refine dl_pure_g rfl rfl h12 rfl rfl (pure_move rfl rfl) ?_
  refine dpk 192 [(1,_),(2,_),(5,_),(8,_),(9,_),(10,_),(11,_),(116,_),(117,_),(125,_),(126,_)] [(30,_),(200,_)] rfl rfl rfl ?_
  refine dl_pure_g rfl rfl h12 rfl rfl (pure_move rfl rfl) ?_
  refine dl_pure_g rfl rfl h12 rfl rfl (pure_ix rfl Tryz.underlying67 sz66 rfl rfl (by rw [matF_len];omega) (fun _=>rfl)) ?_
  refine dl_pure_g rfl rfl h12 rfl rfl (pure_load rfl ag66 rfl rfl) ?_
  refine dl_pure_g rfl rfl h12 rfl rfl (pure_move rfl rfl) ?_
  refine dl_pure_g rfl rfl h12 rfl rfl (pure_ix rfl Tryz.underlying66 sz4 rfl rfl (by (try simp only [Int.toNat_natCast]);rw [matF_at (by omega),rowF_len];omega) (fun _=>rfl)) ?_
  refine dl_pure_g rfl rfl h12 rfl rfl (pure_load rfl ag4 rfl rfl) ?_
  refine dl_pure rfl rfl rfl (pure_pick_f rfl rfl h12 rfl) ?_
  refine dl_pure rfl rfl rfl (pure_index_own rfl Tryz.underlying66 sz4 rfl rfl rfl (by rw [List.length_map,rowF_len];omega)) ?_
  refine dl_tails (by kernel_rfl) ?_
  refine tl_step rfl (step_store_pel rfl rfl rfl sz4 rfl rfl (mget (by rw [rowF_len];omega)) rfl rfl (.inl rfl) rfl (Nat.le_of_ble_eq_true rfl) hM0) ?_
  refine tl_nil ?_
  refine xD tb hM0 4 [1,2,5,8,9,10,111] [30,200] rfl ?_
  refine oP rfl (pure_addi rfl rfl rfl (by omega)) ?_
  refine xA tb hM0 2 [1,2,5,8,9,10,11] [30,200] rfl ?_
  refine nx ?_
  refine ⟨_,⟨k+1,rfl,by omega,?_⟩,by omega⟩
  have e:((matF (w.length+1) (kidF w r m)).getD i default).getD k default=(kidF w r m) i k:=by rw [matF_at (by omega),rowF_at (by omega)]
  rw [← rowF_set (N := (w.length + 1)) (g := alJ (KF w r m) (kidF w r m) i k) (v := ((matF (w.length + 1) (kidF w r m)).getD i default).getD k default) (g' := alJ (KF w r m) (kidF w r m) i (k + 1)) (j := k) (by omega) fun l hl => by
      rw [e,alJ_step,show alJ (KF w r m) (kidF w r m) i k k=false from (rowF_at (N:=(w.length+1)) (by omega)).symm.trans (by assumption)];rfl]
  try rfl
  refine xA tb hM0 7 [1,2,5,8,9,10] [30,200] rfl ?_
  obtain rfl:k=(w.length+1):=by omega
  refine code_giveback 30 200 hM0 rfl rfl (by rw [rowsC_len,matF_len];omega) rfl ?_
  refine xK tb hM0 2 [1,2,5,8,9,105] [30] rfl ?_
  refine oP rfl (pure_addi rfl rfl rfl (by omega)) ?_
  refine xA tb hM0 2 [1,2,5,8,9,10] [30] rfl ?_
  refine nx ?_
  refine ⟨_,⟨i+1,rfl,by omega,fun q=>absurd hk4 q,?_⟩,by omega⟩
  rw [rowsC_set (N := (w.length + 1)) (f := a4 w r m i) (g := alJ (KF w r m) (kidF w r m) i (w.length + 1)) (i := i) (f' := a4 w r m (i + 1)) (by omega) fun k l hk hl => by
      rw [a4_four hk4,a4_four hk4,alI_step,alJ_end hl]]
  try rfl
  refine xA tb hM0 5 [1,2,5,8,9] [30] rfl ?_
  refine cx ?_;rotate_left
  refine xA tb hM0 11 [1,2,5,8,9] [30] rfl ?_
  refine cx ?_;rotate_left
  rintro zs ⟨rfl⟩
  have hm:m<r.kids.length:=by omega
  refine xA tb hM0 6 [1,2,5,8,9,12] [30] rfl ?_
  refine lp (fun zm zs=>∃ i:Nat,zm=(w.length+1)-i∧(i≤(w.length+1))∧(r.kind≠5→i=0)∧zs=⟨192,[(1,.v .mx (ints w)),(2,.v .mx (rpc r)),(5,.nst 30),(8,.v .pl (int m)),(9,.v .pl (matA (matF (w.length+1) (kidF w r m)))),(12,.v .pl (int i))],[(30,.nar 66 (rowsC 4 (matF (w.length+1) (a6 w r m i))) none)]⟩) ?_ ?_
  refine ⟨_,0,rfl,Nat.zero_le _,fun _=>rfl,?_⟩
  rw [a6_start hk5 hm];try rfl
  rintro zm zs ⟨i,rfl,hL6_0,hL6_1,rfl⟩
  have hrl:(rowsC 4 (matF (w.length+1) (a6 w r m i))).length=(w.length+1):=by rw [rowsC_len,matF_len]
  refine xA tb hM0 5 [1,2,5,8,9,12,135,136] [30] rfl ?_
  refine oP rfl (pure_len_nst rfl Tryz.underlying67 sz66 rfl rfl) ?_
  refine xA tb hM0 2 [1,2,5,8,9,12,139] [30] rfl ?_
  refine spO 139 rfl ?_ ?_<;>intro h13'<;>try simp only [dq] at h13'
  refine xA tb hM0 6 [1,2,5,8,9,12,143] [30] rfl ?_
  refine spC 143 rfl ?_ ?_<;>intro h14<;>try simp only [dq] at h14
  refine xA tb hM0 6 [1,2,5,8,9,12] [30] rfl ?_
  have hk55:r.kind=5:=by omega
  refine code_lend 30 200 hM0 rfl rfl rfl (rowC_at (N:=(w.length+1)) (f:=a6 w r m i) (i:=i) (by omega)) ?_
  refine xK tb hM0 6 [1,2,5,8,9,12,13] [30,200] rfl ?_
  refine lp (fun zm zs=>∃ k:Nat,zm=(w.length+1)-k∧(i≤k)∧(k≤(w.length+1))∧zs=⟨192,[(1,.v .mx (ints w)),(2,.v .mx (rpc r)),(5,.nst 30),(8,.v .pl (int m)),(9,.v .pl (matA (matF (w.length+1) (kidF w r m)))),(12,.v .pl (int i)),(13,.v .pl (int k))],[(30,.nar 66 (rowsC 4 (matF (w.length+1) (a6 w r m i))) (some (i,.arr 200))),(200,.arr 4 ((rowF (w.length+1) (stR (kidF w r m) i k)).map bool))]⟩) ?_ ?_
  refine ⟨_,i,rfl,Nat.le_refl _,by omega,?_⟩
  rw [show rowF (w.length+1) (a6 w r m i i)=rowF (w.length+1) (stR (kidF w r m) i i) from rowF_ext fun l _=>by rw [a6_five hk55,stI_here,stR_i (Nat.le_refl i)]];try rfl
  rintro zm zs ⟨k,rfl,hL7_0,hL7_1,rfl⟩
  have hrl2:(rowsC 4 (matF (w.length+1) (a6 w r m i))).length=(w.length+1):=by rw [rowsC_len,matF_len]
  refine xA tb hM0 5 [1,2,5,8,9,12,13,147,148] [30,200] rfl ?_
  refine oP rfl (pure_len_nst rfl Tryz.underlying67 sz66 rfl rfl) ?_
  refine xA tb hM0 3 [1,2,5,8,9,12,13,150] [30,200] rfl ?_
  refine spC 150 rfl ?_ ?_<;>intro h15<;>try simp only [dq] at h15
  refine xA tb hM0 12 [1,2,5,8,9,12,13,14] [30,200] rfl ?_
  refine lp (fun zm zs=>∃ j:Nat,zm=(w.length+1)-j∧(k≤j)∧(j≤(w.length+1))∧zs=⟨192,[(1,.v .mx (ints w)),(2,.v .mx (rpc r)),(5,.nst 30),(8,.v .pl (int m)),(9,.v .pl (matA (matF (w.length+1) (kidF w r m)))),(12,.v .pl (int i)),(13,.v .pl (int k)),(14,.v .pl (int j))],[(30,.nar 66 (rowsC 4 (matF (w.length+1) (a6 w r m i))) (some (i,.arr 200))),(200,.arr 4 ((rowF (w.length+1) (stJ (kidF w r m) i k j)).map bool))]⟩) ?_ ?_
  refine ⟨_,k,rfl,Nat.le_refl _,by omega,?_⟩
  rw [show rowF (w.length+1) (stR (kidF w r m) i k)=rowF (w.length+1) (stJ (kidF w r m) i k k) from rowF_ext fun l _=>stJ_start.symm];try rfl
  rintro zm zs ⟨j,rfl,hL8_0,hL8_1,rfl⟩
  have hrl3:(rowsC 4 (matF (w.length+1) (a6 w r m i))).length=(w.length+1):=by rw [rowsC_len,matF_len]
  refine xA tb hM0 5 [1,2,5,8,9,12,13,14,154,155] [30,200] rfl ?_
  refine oP rfl (pure_len_nst rfl Tryz.underlying67 sz66 rfl rfl) ?_
  refine xA tb hM0 2 [1,2,5,8,9,12,13,14,158] [30,200] rfl ?_
  refine spO 158 rfl ?_ ?_<;>intro h16'<;>try simp only [dq] at h16'
  refine xA tb hM0 2 [1,2,5,8,9,12,13,14,158,159,160] [30,200] rfl ?_
  refine oP rfl (pure_index_nst rfl Tryz.underlying67 sz66 rfl rfl rfl (by rw [rowsC_len,matF_len];omega)) ?_
  refine oP rfl (pure_load_lent rfl ag66 rfl rfl) ?_
  refine xA tb hM0 1 [1,2,5,8,9,12,13,14,158,162,163] [30,200] rfl ?_
  refine oP rfl (pure_index_own rfl Tryz.underlying66 sz4 rfl rfl rfl (by rw [List.length_map,rowF_len];omega)) ?_
  refine oP rfl (pure_load_pel rfl ag4 rfl rfl (mget (by rw [rowF_len];omega)) rfl) ?_
  refine xA tb hM0 3 [1,2,5,8,9,12,13,14,166] [30,200] rfl ?_
  refine spC 166 rfl ?_ ?_<;>intro h17<;>try simp only [dq] at h17
  refine xA tb hM0 5 [1,2,5,8,9,12,13,14] [30,200] rfl ?_
  refine code_draw mixed (by kernel_rfl) _ rfl ?_
  refine dl_pure rfl rfl rfl (pure_move rfl rfl) ?_
  refine dl_pure rfl rfl rfl (pure_move rfl rfl) ?_
  refine dl_pure rfl rfl rfl (pure_index_nst rfl Tryz.underlying67 sz66 rfl rfl rfl (by rw [rowsC_len,matF_len];omega)) ?_
  refine dl_pure rfl rfl rfl (pure_load_lent rfl ag66 rfl rfl) ?_
  refine dl_pure rfl rfl rfl (pure_move rfl rfl) ?_
  refine dl_pure rfl rfl rfl (pure_move rfl rfl) ?_
  refine dl_pure rfl rfl rfl (pure_move rfl rfl) ?_
  refine dpk 192 [(1,_),(2,_),(5,_),(8,_),(9,_),(12,_),(13,_),(14,_),(172,_),(173,_),(174,_),(175,_)] [(30,_),(200,_)] rfl rfl rfl ?_
  refine dl_pure rfl rfl rfl (pure_index_nst rfl Tryz.underlying67 sz66 rfl rfl rfl (by rw [rowsC_len,matF_len];omega)) ?_
  refine dl_pure rfl rfl rfl (pure_load_lent rfl ag66 rfl rfl) ?_
  refine dl_pure rfl rfl rfl (pure_move rfl rfl) ?_
  refine dl_pure rfl rfl rfl (pure_index_own rfl Tryz.underlying66 sz4 rfl rfl rfl (by rw [List.length_map,rowF_len];omega)) ?_
  refine dl_pure rfl rfl rfl (pure_load_pel rfl ag4 rfl rfl (mget (by rw [rowF_len];omega)) rfl) ?_
  refine dl_pure rfl rfl rfl (pure_move rfl rfl) ?_
  refine dl_guard rfl (fun h18=>?_) (fun h18=>?_)
  have h18':=h18;try simp only [dq] at h18'
  refine dl_skip_g rfl rfl h18 rfl rfl ?_
  refine dpk 192 [(1,_),(2,_),(5,_),(8,_),(9,_),(12,_),(13,_),(14,_),(172,_),(173,_),(181,_),(182,_)] [(30,_),(200,_)] rfl rfl rfl ?_
  refine dl_skip_g rfl rfl h18 rfl rfl ?_
  refine dl_skip_g rfl rfl h18 rfl rfl ?_
  refine dl_skip_g rfl rfl h18 rfl rfl ?_
  refine dl_skip_g rfl rfl h18 rfl rfl ?_
  refine dl_skip_g rfl rfl h18 rfl rfl ?_
  refine dl_skip_g rfl rfl h18 rfl rfl ?_
  refine dl_pure rfl rfl rfl (pure_pick_t rfl rfl h18 rfl) ?_
  refine dl_pure rfl rfl rfl (pure_index_own rfl Tryz.underlying66 sz4 rfl rfl rfl (by rw [List.length_map,rowF_len];omega)) ?_
  refine dl_tails (by kernel_rfl) ?_
  refine tl_step rfl (step_store_pel rfl rfl rfl sz4 rfl rfl (mget (by rw [rowF_len];omega)) rfl rfl (.inl rfl) rfl (Nat.le_of_ble_eq_true rfl) hM0) ?_
  refine tl_nil ?_
  refine xD tb hM0 4 [1,2,5,8,9,12,13,167] [30,200] rfl ?_
  refine oP rfl (pure_addi rfl rfl rfl (by omega)) ?_
  refine xA tb hM0 2 [1,2,5,8,9,12,13,14] [30,200] rfl ?_
  refine nx ?_
  refine ⟨_,⟨j+1,rfl,by omega,by omega,?_⟩,by omega⟩
  have ha:stR (kidF w r m) i k k=true:=stJ_k.symm.trans ((rowF_at (N:=(w.length+1)) (g:=stJ (kidF w r m) i k j) (j:=k) (by omega)).symm.trans (by assumption))
  rw [← rowF_set (N := (w.length + 1)) (g := stJ (kidF w r m) i k j) (v := true) (g' := stJ (kidF w r m) i k (j + 1)) (j := j) (by omega) fun l hl => by
      rw [stJ_step (by omega) ha,show stJ (kidF w r m) i k j j=true from (rowF_at (N:=(w.length+1)) (by omega)).symm.trans (by assumption)];rfl]
  try rfl
  have h18':=h18;try simp only [dq] at h18'
  refine dl_pure_g rfl rfl h18 rfl rfl (pure_move rfl rfl) ?_
  refine dpk 192 [(1,_),(2,_),(5,_),(8,_),(9,_),(12,_),(13,_),(14,_),(172,_),(173,_),(181,_),(182,_)] [(30,_),(200,_)] rfl rfl rfl ?_
  refine dl_pure_g rfl rfl h18 rfl rfl (pure_move rfl rfl) ?_
  refine dl_pure_g rfl rfl h18 rfl rfl (pure_ix rfl Tryz.underlying67 sz66 rfl rfl (by rw [matF_len];omega) (fun _=>rfl)) ?_
  refine dl_pure_g rfl rfl h18 rfl rfl (pure_load rfl ag66 rfl rfl) ?_
  refine dl_pure_g rfl rfl h18 rfl rfl (pure_move rfl rfl) ?_
  refine dl_pure_g rfl rfl h18 rfl rfl (pure_ix rfl Tryz.underlying66 sz4 rfl rfl (by (try simp only [Int.toNat_natCast]);rw [matF_at (by omega),rowF_len];omega) (fun _=>rfl)) ?_
  refine dl_pure_g rfl rfl h18 rfl rfl (pure_load rfl ag4 rfl rfl) ?_
  refine dl_pure rfl rfl rfl (pure_pick_f rfl rfl h18 rfl) ?_
  refine dl_pure rfl rfl rfl (pure_index_own rfl Tryz.underlying66 sz4 rfl rfl rfl (by rw [List.length_map,rowF_len];omega)) ?_
  refine dl_tails (by kernel_rfl) ?_
  refine tl_step rfl (step_store_pel rfl rfl rfl sz4 rfl rfl (mget (by rw [rowF_len];omega)) rfl rfl (.inl rfl) rfl (Nat.le_of_ble_eq_true rfl) hM0) ?_
  refine tl_nil ?_
  refine xD tb hM0 4 [1,2,5,8,9,12,13,167] [30,200] rfl ?_
  refine oP rfl (pure_addi rfl rfl rfl (by omega)) ?_
  refine xA tb hM0 2 [1,2,5,8,9,12,13,14] [30,200] rfl ?_
  refine nx ?_
  refine ⟨_,⟨j+1,rfl,by omega,by omega,?_⟩,by omega⟩
  have ha:stR (kidF w r m) i k k=true:=stJ_k.symm.trans ((rowF_at (N:=(w.length+1)) (g:=stJ (kidF w r m) i k j) (j:=k) (by omega)).symm.trans (by assumption))
  have e:((matF (w.length+1) (kidF w r m)).getD k default).getD j default=(kidF w r m) k j:=by rw [matF_at (by omega),rowF_at (by omega)]
  rw [← rowF_set (N := (w.length + 1)) (g := stJ (kidF w r m) i k j) (v := ((matF (w.length + 1) (kidF w r m)).getD k default).getD j default) (g' := stJ (kidF w r m) i k (j + 1)) (j := j) (by omega) fun l hl => by
      rw [e,stJ_step (by omega) ha,show stJ (kidF w r m) i k j j=false from (rowF_at (N:=(w.length+1)) (by omega)).symm.trans (by assumption)];rfl]
  try rfl
  refine xA tb hM0 9 [1,2,5,8,9,12,151] [30,200] rfl ?_
  refine oP rfl (pure_addi rfl rfl rfl (by omega)) ?_
  refine xA tb hM0 2 [1,2,5,8,9,12,13] [30,200] rfl ?_
  refine nx ?_;rotate_left
  refine xA tb hM0 19 [1,2,5,8,9,12,151] [30,200] rfl ?_
  refine oP rfl (pure_addi rfl rfl rfl (by omega)) ?_
  refine xA tb hM0 2 [1,2,5,8,9,12,13] [30,200] rfl ?_
  refine nx ?_;rotate_left
  refine xA tb hM0 7 [1,2,5,8,9,12] [30,200] rfl ?_
  obtain rfl:k=(w.length+1):=by omega
  refine code_giveback 30 200 hM0 rfl rfl (by rw [rowsC_len,matF_len];omega) rfl ?_
  refine xK tb hM0 2 [1,2,5,8,9,144] [30] rfl ?_
  refine oP rfl (pure_addi rfl rfl rfl (by omega)) ?_
  refine xA tb hM0 2 [1,2,5,8,9,12] [30] rfl ?_
  refine nx ?_
  refine ⟨_,⟨i+1,rfl,by omega,fun q=>absurd hk55 q,?_⟩,by omega⟩
  rw [rowsC_set (N := (w.length + 1)) (f := a6 w r m i) (g := stR (kidF w r m) i (w.length + 1)) (i := i) (f' := a6 w r m (i + 1)) (by omega) fun k l hk hl => by
      rw [a6_five hk55,a6_five hk55,stI_step]]
  try rfl
  refine xA tb hM0 9 [1,2,5,81] [30] rfl ?_
  refine oP rfl (pure_addi rfl rfl rfl (by omega)) ?_
  refine xA tb hM0 2 [1,2,5,8] [30] rfl ?_
  refine nx ?_;rotate_left
  refine xA tb hM0 15 [1,2,5,81] [30] rfl ?_
  refine oP rfl (pure_addi rfl rfl rfl (by omega)) ?_
  refine xA tb hM0 2 [1,2,5,8] [30] rfl ?_
  refine nx ?_;rotate_left
  refine xA tb hM0 13 [] [] rfl ?_
  refine endM_ret rfl rfl ?_
  obtain rfl:m=r.kids.length:=by omega
  rw [KF_all hv]
  all_goals first
   | (
     rw [f0_end hk1 (by assumption) (fun q=>by omega)];try rfl;done)
   | (
     rw [a4_end hm (by assumption) (fun q=>by omega)];try rfl;done)
   | (
     refine ⟨_,⟨k+1,rfl,by omega,by omega,?_⟩,by omega⟩
     rw [show rowF (w.length+1) (stJ (kidF w r m) i k j)=rowF (w.length+1) (stR (kidF w r m) i (k+1)) from rowF_ext fun l hl=>stJ_end (by omega) (by first|exact .inl (by omega)|exact .inr (stJ_k.symm.trans ((rowF_at (N:=(w.length+1)) (by omega)).symm.trans (by assumption))))];try rfl;done)
   | (
     refine ⟨_,⟨m+1,rfl,by omega,?_⟩,by omega⟩
     rw [a6_end hv hm (by assumption) (fun q=>by omega)];try rfl;done)
end Go.Proofs.YtgdehkimfmfofaaGreat

