/-
  For all pairs of automata,also of different sizes,Both,Either and Reverse agree with the reference model (wordbooklaw08,AutomatonJoins).
-/
import Derived.Test.YtjimlkpfmbachaaGreatJ24
import Derived.Test.YtjimlkpfmbachaaGreatJ15
import Derived.Test.YtjimlkpfmbachaaGreatJ36
import Derived.Test.YtjimlkpfmbachaaGreatJ27
import Derived.Test.YtjimlkpfmbachaaGreatJ20
import Derived.Test.YtjimlkpfmbachaaGreatJ31
import Derived.Test.YtjimlkpfmbachaaGreatJ32
import Derived.Test.YtjimlkpfmbachaaGreatJ30
set_option linter.unusedVariables false
set_option linter.unusedSectionVars false
set_option linter.unusedSimpArgs false
namespace Go.Proofs.YtjimlkpfmbachaaGreat
open Go.Am Go.Wc Go.Wb Go.Wd
theorem fn21:Fn1 Tryz.prog 21 Tryz.f21.ntmps 4 (Tryz.f21.body.getD .skip):=⟨Tryz.f21,Tryz.func21,rfl,rfl,rfl,by kernel_rfl⟩
set_option maxRecDepth 100000 in
set_option maxHeartbeats 8000000 in
theorem countD_call {d:Dfa} {n:Int}:CallF Tryz.prog 21 [dfa d,int n] (.p (u64I (countZ d n))):=by
  refine callF_of_code fn21 (Nat.le_of_ble_eq_true rfl) fun w0 M0 hM0=>?_
  refine xC tb hM0 2 [0,1] [] rfl ?_
  refine oP rfl (pure_box rfl rfl rfl hM0) ?_
  refine xA tb hM0 7 [1,2,14] [] rfl ?_
  refine oP rfl (pure_call rfl rfl rfl (validD_call) hM0) ?_
  refine xA tb hM0 2 [1,2,17] [] rfl ?_
  refine spO 17 rfl ?_ ?_<;>intro h1'<;>try simp only [dq] at h1'
  refine xA tb hM0 17 [] [] rfl ?_
  refine end_ret rfl ?_;rotate_left
  refine xA tb hM0 4 [1,2,21] [] rfl ?_
  refine spO 21 rfl ?_ ?_<;>intro h2'<;>try simp only [dq] at h2'
  refine xA tb hM0 13 [] [] rfl ?_
  refine end_ret rfl ?_;rotate_left
  refine xA tb hM0 5 [1,2,24] [] rfl ?_
  refine spC 24 rfl ?_ ?_<;>intro h3<;>try simp only [dq] at h3
  refine xA tb hM0 8 [] [] rfl ?_
  refine end_ret rfl ?_;rotate_left
  have hd:=valid_ok (d:=d) (by assumption)
  have hn:d.n=d.next.length:=rfl
  have hb:=hd.1
  have hkk:=kk hd
  have hfn:d.fin.length=d.n:=hb.2.2
  refine xA tb hM0 7 [1,2,26] [] rfl ?_
  refine oP rfl (pure_lenm rfl Tryz.underlying28 rfl) ?_
  refine oS rfl (step_make rfl rfl rfl rfl Tryz.underlying79 el45 ze45 rfl rfl rfl (by omega) (by omega) (by omega) hM0) rfl ?_
  refine xA tb hM0 6 [1,2,5,29] [28] rfl ?_
  refine oP rfl (pure_index_own rfl Tryz.underlying79 sz45 rfl rfl rfl (by rw [List.length_replicate];omega)) ?_
  refine oS rfl (step_store_pel rfl rfl rfl sz45 rfl rfl (rep_get (by omega)) rfl rfl (.inl rfl) rfl (Nat.le_of_ble_eq_true rfl) hM0) rfl ?_
  refine xA tb hM0 4 [1,2,5] [28] rfl ?_
  refine code_frz 82 [(1,_),(2,_),(5,_)] [] hM0 rfl ⟨.inl rfl,.inl rfl,.inr ⟨_,_,rfl,rfl,rfl⟩,trivial⟩ trivial ?_
  refine xK tb hM0 6 [2,5,31,32] [] rfl ?_
  refine lp (fun zm zs=>∃ t:Nat,zm=n.toNat-t∧((t:Int)≤n)∧zs=⟨82,[(2,.v .mx (dpc d)),(5,.v .pl (.sl (((cVec d t)).map u64I))),(31,.v .mx (int n)),(32,.v .pl (int t))],[]⟩) ?_ ?_
  refine ⟨_,0,rfl,by omega,?_⟩
  rw [← cVec_0,← rep_mapU];rfl
  rintro zm zs ⟨t,rfl,hL1_0,rfl⟩
  have hcv:=cVec_len (d:=d) t
  refine xA tb hM0 6 [2,5,31,32,33] [] rfl ?_
  refine spC 33 rfl ?_ ?_<;>intro h4<;>try simp only [dq] at h4
  refine xA tb hM0 8 [2,5,31,32,34] [] rfl ?_
  refine oP rfl (pure_lenm rfl Tryz.underlying79 rfl) ?_
  refine oS rfl (step_make rfl rfl rfl rfl Tryz.underlying79 el45 ze45 rfl rfl rfl (by omega) (by omega) (by omega) hM0) rfl ?_
  refine xA tb hM0 8 [2,5,6,31,32,38] [36] rfl ?_
  refine oP rfl (pure_lenm rfl Tryz.underlying28 rfl) ?_
  refine xA tb hM0 4 [2,5,6,31,32,38,39,40] [36] rfl ?_
  refine lp (fun zm zs=>∃ i:Nat,zm=d.next.length-i∧(i≤d.next.length)∧zs=⟨82,[(2,.v .mx (dpc d)),(5,.v .pl (.sl (((cVec d t)).map u64I))),(6,.own 36),(31,.v .mx (int n)),(32,.v .pl (int t)),(38,.v .mx (rowsA d.next)),(39,.v .pl (int d.next.length)),(40,.v .pl (int i))],[(36,.arr 45 ((cStepN d (cVec d t) i).map u64I))]⟩) ?_ ?_
  refine ⟨_,0,rfl,Nat.zero_le _,?_⟩
  rw [cStepN,← rep_mapU,← hcv];rfl
  rintro zm zs ⟨i,rfl,hL2_0,rfl⟩
  have hcs:=cStepN_len (d:=d) (cVec d t) i
  refine xA tb hM0 6 [2,5,6,31,32,38,39,40,41] [36] rfl ?_
  refine spC 41 rfl ?_ ?_<;>intro h5<;>try simp only [dq] at h5
  refine xA tb hM0 8 [2,5,6,31,32,38,39,40,42] [36] rfl ?_
  refine oP rfl (pure_ix rfl Tryz.underlying28 sz22 rfl rfl (by omega) (fun _=>rfl)) ?_
  refine xA tb hM0 8 [2,5,6,7,31,32,38,39,40,45] [36] rfl ?_
  refine oP rfl (pure_lenm rfl Tryz.underlying22 rfl) ?_
  refine xA tb hM0 4 [2,5,6,7,31,32,38,39,40,45,46,47] [36] rfl ?_
  have hi:i<d.next.length:=by omega
  have hrow:=(hd.row hi).1
  refine lp (fun zm zs=>∃ s:Nat,zm=(d.next.getD i default).length-s∧(s≤(d.next.getD i default).length)∧zs=⟨82,[(2,.v .mx (dpc d)),(5,.v .pl (.sl (((cVec d t)).map u64I))),(6,.own 36),(7,.v .pl (int i)),(31,.v .mx (int n)),(32,.v .pl (int t)),(38,.v .mx (rowsA d.next)),(39,.v .pl (int d.next.length)),(40,.v .pl (int i)),(45,.v .mx (ints (d.next.getD i default))),(46,.v .pl (int (d.next.getD i default).length)),(47,.v .pl (int s))],[(36,.arr 45 ((cRow d ((cVec d t).getD i default) i (cStepN d (cVec d t) i) s).map u64I))]⟩) ?_ ?_
  exact ⟨_,0,rfl,Nat.zero_le _,rfl⟩
  rintro zm zs ⟨s,rfl,hL3_0,rfl⟩
  have hcl3:=cRow_len (d:=d) ((cVec d t).getD i default) i (cStepN d (cVec d t) i) s
  rw [hcs] at hcl3
  refine xA tb hM0 6 [2,5,6,7,31,32,38,39,40,45,46,47,48] [36] rfl ?_
  refine spC 48 rfl ?_ ?_<;>intro h6<;>try simp only [dq] at h6
  refine xA tb hM0 5 [2,5,6,7,31,32,38,39,40,45,46,47] [36] rfl ?_
  refine ct (fun zs=>zs=⟨82,[(2,.v .mx (dpc d)),(5,.v .pl (.sl (((cVec d t)).map u64I))),(6,.own 36),(7,.v .pl (int i)),(10,.v .mx (natI (d.stp i s))),(31,.v .mx (int n)),(32,.v .pl (int t)),(38,.v .mx (rowsA d.next)),(39,.v .pl (int d.next.length)),(40,.v .pl (int i)),(45,.v .mx (ints (d.next.getD i default))),(46,.v .pl (int (d.next.getD i default).length)),(47,.v .pl (int s))],[(36,.arr 45 ((cRow d ((cVec d t).getD i default) i (cStepN d (cVec d t) i) s).map u64I))]⟩) ?_ ?_
  refine xA tb hM0 1 [2,5,6,7,31,32,38,39,40,45,46,47] [36] rfl ?_
  refine oP rfl (pure_ix rfl Tryz.underlying22 sz3 rfl rfl (by omega) (fun _=>rfl)) ?_
  refine xA tb hM0 3 [2,5,6,7,10,31,32,38,39,40,45,46,47] [36] rfl ?_
  refine cx ?_
  have hst:=hd.cellN hi (k:=s) (by omega)
  exact (by (try simp only [Int.toNat_natCast]);rw [hst];first|done|rfl)
  rintro zs ⟨rfl⟩
  have hsl:d.stp i s<d.n:=hd.stp hi (by omega)
  refine code_draw mixed (by kernel_rfl) _ rfl ?_
  refine dl_pure rfl rfl rfl (pure_move rfl rfl) ?_
  refine dl_pure rfl rfl rfl (pure_move rfl rfl) ?_
  refine dl_pure rfl rfl rfl (pure_index_own rfl Tryz.underlying79 sz45 rfl rfl rfl (by exact ⟨Int.natCast_nonneg _,by rw [List.length_map,hcl3];exact Int.ofNat_lt.2 hsl⟩)) ?_
  refine dl_pure rfl rfl rfl (pure_load_pel rfl ag45 rfl rfl (mget (by rw [hcl3];exact hsl)) rfl) ?_
  refine dl_pure rfl rfl rfl (pure_move rfl rfl) ?_
  refine dl_pure rfl rfl rfl (pure_move rfl rfl) ?_
  refine dl_pure rfl rfl rfl (pure_ix rfl Tryz.underlying79 sz45 rfl rfl (by omega) (fun _=>rfl)) ?_
  refine dpk 82 [(2,_),(5,_),(6,_),(7,_),(31,_),(32,_),(38,_),(39,_),(40,_),(45,_),(46,_),(47,_),(51,_),(52,_),(54,_),(57,_)] [(36,_)] rfl rfl rfl ?_
  refine dl_pure rfl rfl rfl (pure_load rfl ag45 rfl rfl) ?_
  refine dl_pure rfl rfl rfl (pure_add rfl rfl rfl) ?_
  refine dl_pure rfl rfl rfl (pure_index_own rfl Tryz.underlying79 sz45 rfl rfl rfl (by exact ⟨Int.natCast_nonneg _,by rw [List.length_map,hcl3];exact Int.ofNat_lt.2 hsl⟩)) ?_
  refine dl_tails (by kernel_rfl) ?_
  refine tl_step rfl (step_store_pel rfl rfl rfl sz45 rfl rfl (mget (by rw [hcl3];exact hsl)) rfl rfl (.inl rfl) rfl (Nat.le_of_ble_eq_true rfl) hM0) ?_
  refine tl_nil ?_
  refine xD tb hM0 3 [2,5,6,7,31,32,38,39,40,45,46,47] [36] rfl ?_
  refine oP rfl (pure_addi rfl rfl rfl (by omega)) ?_
  refine xA tb hM0 2 [2,5,6,7,31,32,38,39,40,45,46,47] [36] rfl ?_
  refine nx ?_
  refine ⟨_,⟨s+1,rfl,by omega,?_⟩,by omega⟩
  rw [cRow,addAt_map];rfl
  refine xA tb hM0 8 [2,5,6,31,32,38,39,40] [36] rfl ?_
  refine oP rfl (pure_addi rfl rfl rfl (by omega)) ?_
  refine xA tb hM0 2 [2,5,6,31,32,38,39,40] [36] rfl ?_
  refine nx ?_
  obtain rfl:s=d.k:=by omega
  exact ⟨_,⟨i+1,rfl,by omega,rfl⟩,by omega⟩
  refine xA tb hM0 6 [2,6,31,32] [36] rfl ?_
  refine code_frz 82 [(2,_),(6,_),(31,_),(32,_)] [] hM0 rfl ⟨.inl rfl,.inr ⟨_,_,rfl,rfl,rfl⟩,.inl rfl,.inl rfl,trivial⟩ trivial ?_
  obtain rfl:i=d.n:=by omega
  refine xK tb hM0 7 [2,5,31,32] [] rfl ?_
  refine oP rfl (pure_addi rfl rfl rfl (by omega)) ?_
  refine xA tb hM0 2 [2,5,31,32] [] rfl ?_
  refine nx ?_
  exact ⟨_,⟨t+1,rfl,by omega,rfl⟩,by omega⟩
  refine xA tb hM0 7 [2,5] [] rfl ?_
  obtain rfl:t=n.toNat:=by omega
  refine xA tb hM0 9 [5,11,66] [] rfl ?_
  refine oP rfl (pure_lenm rfl Tryz.underlying29 rfl) ?_
  refine xA tb hM0 4 [5,11,66,67,68] [] rfl ?_
  refine lp (fun zm zs=>∃ i:Nat,zm=d.fin.length-i∧(i≤d.fin.length)∧zs=⟨82,[(5,.v .pl (.sl ((cVec d n.toNat).map u64I))),(11,.v .pl (u64I (cSum d (cVec d n.toNat) i))),(66,.v .mx (boolsA d.fin)),(67,.v .pl (int d.fin.length)),(68,.v .pl (int i))],[]⟩) ?_ ?_
  exact ⟨_,0,rfl,Nat.zero_le _,rfl⟩
  rintro zm zs ⟨i,rfl,hL4_0,rfl⟩
  refine xA tb hM0 6 [5,11,66,67,68,69] [] rfl ?_
  refine spC 69 rfl ?_ ?_<;>intro h7<;>try simp only [dq] at h7
  refine xA tb hM0 8 [5,11,66,67,68,70] [] rfl ?_
  refine oP rfl (pure_ix rfl Tryz.underlying29 sz4 rfl rfl (by omega) (fun _=>rfl)) ?_
  refine xA tb hM0 10 [5,11,12,66,67,68,73] [] rfl ?_
  refine spC 73 rfl ?_ ?_<;>intro h8<;>try simp only [dq] at h8
  refine xA tb hM0 5 [5,66,67,68,74,75,76] [] rfl ?_
  refine oP rfl (pure_ix rfl Tryz.underlying79 sz45 rfl rfl (by omega) (fun _=>rfl)) ?_
  refine xA tb hM0 1 [5,66,67,68,74,78] [] rfl ?_
  refine oP rfl (pure_add rfl rfl rfl) ?_
  refine xA tb hM0 5 [5,11,66,67,68] [] rfl ?_
  refine oP rfl (pure_addi rfl rfl rfl (by omega)) ?_
  refine xA tb hM0 2 [5,11,66,67,68] [] rfl ?_
  refine nx ?_
  refine ⟨_,⟨i+1,rfl,by omega,?_⟩,by omega⟩
  rw [cSum_t (d:=d) (i:=i) (v:=cVec d n.toNat) (by assumption)];rfl
  refine xA tb hM0 5 [5,11,66,67,68] [] rfl ?_
  refine oP rfl (pure_addi rfl rfl rfl (by omega)) ?_
  refine xA tb hM0 2 [5,11,66,67,68] [] rfl ?_
  refine nx ?_
  refine ⟨_,⟨i+1,rfl,by omega,?_⟩,by omega⟩
  rw [cSum_f (d:=d) (i:=i) (v:=cVec d n.toNat) (by assumption)];rfl
  refine xA tb hM0 7 [11] [] rfl ?_
  obtain rfl:i=d.fin.length:=by omega
  refine xA tb hM0 6 [] [] rfl ?_
  refine end_ret rfl ?_;rotate_left
  all_goals
    first
      | (rw [countZ_v (d:=d) (by assumption)];first|done|rfl)
      | (rw [countZ_f (d:=d) (n:=n) (fun q=>by omega)];first|done|rfl)
      | (rw [countZ_t (d:=d) (n:=n) (by assumption) (by omega) (by omega),countP,← hfn];first|done|rfl)
theorem fn22:Fn1 Tryz.prog 22 Tryz.f22.ntmps 4 (Tryz.f22.body.getD .skip):=⟨Tryz.f22,Tryz.func22,rfl,rfl,rfl,by kernel_rfl⟩
set_option maxRecDepth 100000 in
set_option maxHeartbeats 8000000 in
theorem rcount_call {d:Dfa} {n:Int}:CallF Tryz.prog 22 [dfa d,int n] (.p (u64I (countZ d n))):=by
  refine callF_of_code fn22 (Nat.le_of_ble_eq_true rfl) fun w0 M0 hM0=>?_
  refine xC tb hM0 2 [0,1] [] rfl ?_
  refine oP rfl (pure_box rfl rfl rfl hM0) ?_
  refine xA tb hM0 7 [1,2,12] [] rfl ?_
  refine oP rfl (pure_call rfl rfl rfl (rvalidD_call) hM0) ?_
  refine xA tb hM0 2 [1,2,15] [] rfl ?_
  refine spO 15 rfl ?_ ?_<;>intro h1'<;>try simp only [dq] at h1'
  refine xA tb hM0 17 [] [] rfl ?_
  refine end_ret rfl ?_;rotate_left
  refine xA tb hM0 4 [1,2,19] [] rfl ?_
  refine spO 19 rfl ?_ ?_<;>intro h2'<;>try simp only [dq] at h2'
  refine xA tb hM0 13 [] [] rfl ?_
  refine end_ret rfl ?_;rotate_left
  refine xA tb hM0 5 [1,2,22] [] rfl ?_
  refine spC 22 rfl ?_ ?_<;>intro h3<;>try simp only [dq] at h3
  refine xA tb hM0 8 [] [] rfl ?_
  refine end_ret rfl ?_;rotate_left
  have hd:=valid_ok (d:=d) (by assumption)
  have hn:d.n=d.next.length:=rfl
  have hb:=hd.1
  have hkk:=kk hd
  have hfn:d.fin.length=d.n:=hb.2.2
  refine xA tb hM0 7 [1,2,24] [] rfl ?_
  refine oP rfl (pure_lenm rfl Tryz.underlying28 rfl) ?_
  refine oS rfl (step_make rfl rfl rfl rfl Tryz.underlying79 el45 ze45 rfl rfl rfl (by omega) (by omega) (by omega) hM0) rfl ?_
  refine xA tb hM0 6 [1,2,5,27] [26] rfl ?_
  refine oP rfl (pure_index_own rfl Tryz.underlying79 sz45 rfl rfl rfl (by rw [List.length_replicate];omega)) ?_
  refine oS rfl (step_store_pel rfl rfl rfl sz45 rfl rfl (rep_get (by omega)) rfl rfl (.inl rfl) rfl (Nat.le_of_ble_eq_true rfl) hM0) rfl ?_
  refine xA tb hM0 4 [1,2,5] [26] rfl ?_
  refine code_frz 94 [(1,_),(2,_),(5,_)] [] hM0 rfl ⟨.inl rfl,.inl rfl,.inr ⟨_,_,rfl,rfl,rfl⟩,trivial⟩ trivial ?_
  refine xK tb hM0 5 [1,2,5,6] [] rfl ?_
  refine lp (fun zm zs=>∃ t:Nat,zm=n.toNat-t∧((t:Int)≤n)∧zs=⟨94,[(1,.v .mx (int n)),(2,.v .mx (dpc d)),(5,.v .pl (.sl (((cVec d t)).map u64I))),(6,.v .pl (int t))],[]⟩) ?_ ?_
  refine ⟨_,0,rfl,by omega,?_⟩
  rw [← cVec_0,← rep_mapU];rfl
  rintro zm zs ⟨t,rfl,hL1_0,rfl⟩
  have hcv:=cVec_len (d:=d) t
  refine xA tb hM0 8 [1,2,5,6,31] [] rfl ?_
  refine spC 31 rfl ?_ ?_<;>intro h4<;>try simp only [dq] at h4
  refine xA tb hM0 8 [1,2,5,6,34] [] rfl ?_
  refine oP rfl (pure_lenm rfl Tryz.underlying79 rfl) ?_
  refine oS rfl (step_make rfl rfl rfl rfl Tryz.underlying79 el45 ze45 rfl rfl rfl (by omega) (by omega) (by omega) hM0) rfl ?_
  refine xA tb hM0 10 [1,2,5,6,7,8] [36] rfl ?_
  refine lp (fun zm zs=>∃ i:Nat,zm=d.next.length-i∧(i≤d.next.length)∧zs=⟨94,[(1,.v .mx (int n)),(2,.v .mx (dpc d)),(5,.v .pl (.sl (((cVec d t)).map u64I))),(6,.v .pl (int t)),(7,.own 36),(8,.v .pl (int i))],[(36,.arr 45 ((cStepN d (cVec d t) i).map u64I))]⟩) ?_ ?_
  refine ⟨_,0,rfl,Nat.zero_le _,?_⟩
  rw [cStepN,← rep_mapU,← hcv];rfl
  rintro zm zs ⟨i,rfl,hL2_0,rfl⟩
  have hcs:=cStepN_len (d:=d) (cVec d t) i
  refine xA tb hM0 5 [1,2,5,6,7,8,37,38] [36] rfl ?_
  refine oP rfl (pure_lenm rfl Tryz.underlying79 rfl) ?_
  refine xA tb hM0 3 [1,2,5,6,7,8,40] [36] rfl ?_
  refine spC 40 rfl ?_ ?_<;>intro h5<;>try simp only [dq] at h5
  refine xA tb hM0 11 [1,2,5,6,7,8,9] [36] rfl ?_
  have hi:i<d.next.length:=by omega
  have hrow:=(hd.row hi).1
  refine lp (fun zm zs=>∃ s:Nat,zm=d.k-s∧(s≤d.k)∧zs=⟨94,[(1,.v .mx (int n)),(2,.v .mx (dpc d)),(5,.v .pl (.sl (((cVec d t)).map u64I))),(6,.v .pl (int t)),(7,.own 36),(8,.v .pl (int i)),(9,.v .pl (int s))],[(36,.arr 45 ((cRow d ((cVec d t).getD i default) i (cStepN d (cVec d t) i) s).map u64I))]⟩) ?_ ?_
  exact ⟨_,0,rfl,Nat.zero_le _,rfl⟩
  rintro zm zs ⟨s,rfl,hL3_0,rfl⟩
  have hcl3:=cRow_len (d:=d) ((cVec d t).getD i default) i (cStepN d (cVec d t) i) s
  rw [hcs] at hcl3
  refine xA tb hM0 9 [1,2,5,6,7,8,9,46] [36] rfl ?_
  refine spC 46 rfl ?_ ?_<;>intro h6<;>try simp only [dq] at h6
  refine xA tb hM0 5 [1,2,5,6,7,8,9] [36] rfl ?_
  have hst:=hd.cellN hi (k:=s) (by omega)
  have hsl:d.stp i s<d.n:=hd.stp hi (by omega)
  refine code_draw mixed (by kernel_rfl) _ rfl ?_
  refine dl_pure rfl rfl rfl (pure_move rfl rfl) ?_
  refine dl_pure rfl rfl rfl (pure_field rfl fd31_1 rfl) ?_
  refine dl_pure rfl rfl rfl (pure_load rfl ag28 rfl rfl) ?_
  refine dl_pure rfl rfl rfl (pure_move rfl rfl) ?_
  refine dl_pure rfl rfl rfl (pure_ix rfl Tryz.underlying28 sz22 rfl rfl (by omega) (fun _=>rfl)) ?_
  refine dl_pure rfl rfl rfl (pure_load rfl ag22 rfl rfl) ?_
  refine dl_pure rfl rfl rfl (pure_move rfl rfl) ?_
  refine dpk 94 [(1,_),(2,_),(5,_),(6,_),(7,_),(8,_),(9,_),(49,_),(54,_),(55,_)] [(36,_)] rfl rfl rfl ?_
  refine dl_pure rfl rfl rfl (pure_ix rfl Tryz.underlying22 sz3 rfl rfl (by omega) (fun _=>rfl)) ?_
  refine dl_pure rfl rfl rfl (pure_load rfl ag3 rfl rfl) ?_
  refine dl_pure rfl rfl rfl (pure_move rfl rfl) ?_
  refine dl_pure rfl rfl rfl (pure_field rfl fd31_1 rfl) ?_
  refine dl_pure rfl rfl rfl (pure_load rfl ag28 rfl rfl) ?_
  refine dl_pure rfl rfl rfl (pure_move rfl rfl) ?_
  refine dl_pure rfl rfl rfl (pure_ix rfl Tryz.underlying28 sz22 rfl rfl (by omega) (fun _=>rfl)) ?_
  refine dpk 94 [(1,_),(2,_),(5,_),(6,_),(7,_),(8,_),(9,_),(49,_),(57,_),(58,_),(62,_)] [(36,_)] rfl rfl rfl ?_
  refine dl_pure rfl rfl rfl (pure_load rfl ag22 rfl rfl) ?_
  refine dl_pure rfl rfl rfl (pure_move rfl rfl) ?_
  refine dl_pure rfl rfl rfl (pure_ix rfl Tryz.underlying22 sz3 rfl rfl (by omega) (fun _=>rfl)) ?_
  refine dl_pure rfl rfl rfl (pure_load rfl ag3 rfl rfl) ?_
  refine dl_pure rfl rfl rfl (pure_index_own rfl Tryz.underlying79 sz45 rfl rfl rfl (by (try simp only [Int.toNat_natCast]);rw [hst];exact ⟨Int.natCast_nonneg _,by rw [List.length_map,hcl3];exact Int.ofNat_lt.2 hsl⟩)) ?_
  refine dl_pure rfl rfl rfl (pure_load_pel rfl ag45 rfl rfl (mget (by (try simp only [Int.toNat_natCast]);rw [hst,Int.toNat_natCast,hcl3];exact hsl)) rfl) ?_
  refine dl_pure rfl rfl rfl (pure_move rfl rfl) ?_
  refine dpk 94 [(1,_),(2,_),(5,_),(6,_),(7,_),(8,_),(9,_),(49,_),(57,_),(68,_),(69,_)] [(36,_)] rfl rfl rfl ?_
  refine dl_pure rfl rfl rfl (pure_move rfl rfl) ?_
  refine dl_pure rfl rfl rfl (pure_ix rfl Tryz.underlying79 sz45 rfl rfl (by omega) (fun _=>rfl)) ?_
  refine dl_pure rfl rfl rfl (pure_load rfl ag45 rfl rfl) ?_
  refine dl_pure rfl rfl rfl (pure_add rfl rfl rfl) ?_
  refine dl_pure rfl rfl rfl (pure_index_own rfl Tryz.underlying79 sz45 rfl rfl rfl (by (try simp only [Int.toNat_natCast]);rw [hst];exact ⟨Int.natCast_nonneg _,by rw [List.length_map,hcl3];exact Int.ofNat_lt.2 hsl⟩)) ?_
  refine dl_tails (by kernel_rfl) ?_
  refine tl_step rfl (step_store_pel rfl rfl rfl sz45 rfl rfl (mget (by (try simp only [Int.toNat_natCast]);rw [hst,Int.toNat_natCast,hcl3];exact hsl)) rfl rfl (.inl rfl) rfl (Nat.le_of_ble_eq_true rfl) hM0) ?_
  refine tl_nil ?_
  refine xD tb hM0 4 [1,2,5,6,7,8,47] [36] rfl ?_
  refine oP rfl (pure_addi rfl rfl rfl (by omega)) ?_
  refine xA tb hM0 2 [1,2,5,6,7,8,9] [36] rfl ?_
  refine nx ?_
  refine ⟨_,⟨s+1,rfl,by omega,?_⟩,by omega⟩
  rw [cRow,addAt_map];rfl
  refine xA tb hM0 9 [1,2,5,6,7,41] [36] rfl ?_
  refine oP rfl (pure_addi rfl rfl rfl (by omega)) ?_
  refine xA tb hM0 2 [1,2,5,6,7,8] [36] rfl ?_
  refine nx ?_
  obtain rfl:s=d.k:=by omega
  exact ⟨_,⟨i+1,rfl,by omega,rfl⟩,by omega⟩
  refine xA tb hM0 6 [1,2,6,7] [36] rfl ?_
  refine code_frz 94 [(1,_),(2,_),(6,_),(7,_)] [] hM0 rfl ⟨.inl rfl,.inl rfl,.inl rfl,.inr ⟨_,_,rfl,rfl,rfl⟩,trivial⟩ trivial ?_
  obtain rfl:i=d.n:=by omega
  refine xK tb hM0 8 [1,2,5,32] [] rfl ?_
  refine oP rfl (pure_addi rfl rfl rfl (by omega)) ?_
  refine xA tb hM0 2 [1,2,5,6] [] rfl ?_
  refine nx ?_
  exact ⟨_,⟨t+1,rfl,by omega,rfl⟩,by omega⟩
  refine xA tb hM0 7 [2,5] [] rfl ?_
  obtain rfl:t=n.toNat:=by omega
  refine xA tb hM0 11 [2,5,10,11] [] rfl ?_
  refine lp (fun zm zs=>∃ i:Nat,zm=d.fin.length-i∧(i≤d.fin.length)∧zs=⟨94,[(2,.v .mx (dpc d)),(5,.v .pl (.sl ((cVec d n.toNat).map u64I))),(10,.v .pl (u64I (cSum d (cVec d n.toNat) i))),(11,.v .pl (int i))],[]⟩) ?_ ?_
  exact ⟨_,0,rfl,Nat.zero_le _,rfl⟩
  rintro zm zs ⟨i,rfl,hL4_0,rfl⟩
  refine xA tb hM0 5 [2,5,10,11,76,77] [] rfl ?_
  refine oP rfl (pure_lenm rfl Tryz.underlying79 rfl) ?_
  refine xA tb hM0 3 [2,5,10,11,79] [] rfl ?_
  refine spC 79 rfl ?_ ?_<;>intro h7<;>try simp only [dq] at h7
  refine xA tb hM0 10 [2,5,10,11,83,84] [] rfl ?_
  refine oP rfl (pure_ix rfl Tryz.underlying29 sz4 rfl rfl (by omega) (fun _=>rfl)) ?_
  refine xA tb hM0 3 [2,5,10,11,86] [] rfl ?_
  refine spC 86 rfl ?_ ?_<;>intro h8<;>try simp only [dq] at h8
  refine xA tb hM0 5 [2,5,11,87,88,89] [] rfl ?_
  refine oP rfl (pure_ix rfl Tryz.underlying79 sz45 rfl rfl (by omega) (fun _=>rfl)) ?_
  refine xA tb hM0 1 [2,5,11,87,91] [] rfl ?_
  refine oP rfl (pure_add rfl rfl rfl) ?_
  refine xA tb hM0 6 [2,5,10,80] [] rfl ?_
  refine oP rfl (pure_addi rfl rfl rfl (by omega)) ?_
  refine xA tb hM0 2 [2,5,10,11] [] rfl ?_
  refine nx ?_
  refine ⟨_,⟨i+1,rfl,by omega,?_⟩,by omega⟩
  rw [cSum_t (d:=d) (i:=i) (v:=cVec d n.toNat) (by assumption)];rfl
  refine xA tb hM0 6 [2,5,10,80] [] rfl ?_
  refine oP rfl (pure_addi rfl rfl rfl (by omega)) ?_
  refine xA tb hM0 2 [2,5,10,11] [] rfl ?_
  refine nx ?_
  refine ⟨_,⟨i+1,rfl,by omega,?_⟩,by omega⟩
  rw [cSum_f (d:=d) (i:=i) (v:=cVec d n.toNat) (by assumption)];rfl
  refine xA tb hM0 7 [10] [] rfl ?_
  obtain rfl:i=d.fin.length:=by omega
  refine xA tb hM0 6 [] [] rfl ?_
  refine end_ret rfl ?_;rotate_left
  all_goals
    first
      | (rw [countZ_v (d:=d) (by assumption)];first|done|rfl)
      | (rw [countZ_f (d:=d) (n:=n) (fun q=>by omega)];first|done|rfl)
      | (rw [countZ_t (d:=d) (n:=n) (by assumption) (by omega) (by omega),countP,← hfn];first|done|rfl)
end Go.Proofs.YtjimlkpfmbachaaGreat

namespace Go.Proofs.YtjimlkpfmbachaaGreat
open Go.Am Go.Wc Go.Wb Go.Wd
theorem fn33:Fn1 Tryz.prog 33 Tryz.f33.ntmps 4 (Tryz.f33.body.getD .skip):=⟨Tryz.f33,Tryz.func33,rfl,rfl,rfl,by kernel_rfl⟩
set_option maxRecDepth 100000 in
set_option maxHeartbeats 4000000 in
theorem acc_call {d:Dfa} {w:List Int} (hw:w.length≤4611686018427387904):CallF Tryz.prog 33 [dfa d,ints w] (.p (bool (accI d w))):=by
  refine callF_of_code fn33 (Nat.le_of_ble_eq_true rfl) fun w0 M0 hM0=>?_
  refine xC tb hM0 2 [0,1] [] rfl ?_
  refine oP rfl (pure_box rfl rfl rfl hM0) ?_
  refine xA tb hM0 7 [1,2,8] [] rfl ?_
  refine oP rfl (pure_call rfl rfl rfl (validD_call) hM0) ?_
  refine xA tb hM0 3 [1,2,10] [] rfl ?_
  refine spC 10 rfl ?_ ?_<;>intro h1<;>try simp only [dq] at h1
  refine xA tb hM0 8 [] [] rfl ?_
  refine end_ret rfl ?_;rotate_left
  have hd:=valid_ok (d:=d) (by assumption)
  have hn:d.n=d.next.length:=rfl
  have hb:=hd.1
  have hkk:=kk hd
  refine xA tb hM0 12 [2,5,11] [] rfl ?_
  refine oP rfl (pure_lenm rfl Tryz.underlying22 rfl) ?_
  refine xA tb hM0 4 [2,5,11,12,13] [] rfl ?_
  refine lp (fun zm zs=>∃ i:Nat,zm=w.length-i∧(i≤w.length)∧(∀ j,j<i→0≤w.getD j default∧w.getD j default<d.size)∧zs=⟨39,[(2,.v .mx (dpc d)),(5,.v .pl (natI (d.run 0 (toN (w.take i))))),(11,.v .mx (ints w)),(12,.v .pl (int w.length)),(13,.v .pl (int i))],[]⟩) ?_ ?_
  exact ⟨_,0,rfl,Nat.zero_le _,fun j hj=>absurd hj (Nat.not_lt_zero j),rfl⟩
  rintro zm zs ⟨i,rfl,hL1_0,hL1_1,rfl⟩
  have hrn:(d.run 0 (toN (w.take i)))<d.next.length:=run_lt hd (by omega) hL1_0 hL1_1
  refine xA tb hM0 6 [2,5,11,12,13,14] [] rfl ?_
  refine spC 14 rfl ?_ ?_<;>intro h2<;>try simp only [dq] at h2
  refine xA tb hM0 7 [2,5,11,12,13] [] rfl ?_
  refine oP rfl (pure_ix rfl Tryz.underlying22 sz3 rfl rfl (by omega) (fun _=>rfl)) ?_
  refine xA tb hM0 10 [2,5,7,11,12,13,19] [] rfl ?_
  refine spO 19 rfl ?_ ?_<;>intro h3'<;>try simp only [dq] at h3'
  refine xA tb hM0 20 [] [] rfl ?_
  refine end_ret rfl ?_;rotate_left
  refine xA tb hM0 7 [2,5,7,11,12,13,24] [] rfl ?_
  refine spC 24 rfl ?_ ?_<;>intro h4<;>try simp only [dq] at h4
  refine xA tb hM0 13 [] [] rfl ?_
  refine end_ret rfl ?_;rotate_left
  refine xA tb hM0 7 [2,7,11,12,13,26,27] [] rfl ?_
  refine oP rfl (pure_ix rfl Tryz.underlying28 sz22 rfl rfl (by exact ⟨Int.natCast_nonneg _,Int.ofNat_lt.2 hrn⟩) (fun _=>rfl)) ?_
  refine xA tb hM0 2 [2,11,12,13,29,30] [] rfl ?_
  refine oP rfl (pure_ix rfl Tryz.underlying22 sz3 rfl rfl (by have h9:=(hd.row hrn).1;refine ⟨by omega,?_⟩;show w.getD i default<((d.next.getD (d.run 0 (toN (w.take i))) default).length:Int);omega) (fun _=>rfl)) ?_
  refine oP rfl (pure_scl (pure_load rfl ag3 rfl rfl)) ?_
  refine xA tb hM0 5 [2,5,11,12,13] [] rfl ?_
  refine oP rfl (pure_addi rfl rfl rfl (by omega)) ?_
  refine xA tb hM0 2 [2,5,11,12,13] [] rfl ?_
  refine nx ?_
  have hc:=hd.cellN (i:=(d.run 0 (toN (w.take i)))) (k:=(w.getD i default).toNat) hrn (by omega)
  have hc2:natI (d.stp (d.run 0 (toN (w.take i))) (w.getD i default).toNat)=int ((d.next.getD (d.run 0 (toN (w.take i))) default).getD (w.getD i default).toNat default):=congrArg int hc.symm
  refine ⟨_,⟨i+1,rfl,by omega,upto_step hL1_1 ⟨by omega,by omega⟩,?_⟩,by omega⟩
  rw [run_step (by omega),hc2];rfl
  refine xA tb hM0 11 [35,36] [] rfl ?_
  refine oP rfl (pure_ix rfl Tryz.underlying29 sz4 rfl rfl (by exact ⟨Int.natCast_nonneg _,Int.ofNat_lt.2 (by rw [hb.2.2];exact hrn)⟩) (fun _=>rfl)) ?_
  refine xA tb hM0 5 [] [] rfl ?_
  refine end_ret rfl ?_;rotate_left
  all_goals
    first
      | (rw [accI_v (d:=d) (by assumption)];first|done|rfl)
      | (rw [accI_w (d:=d) (okW_bad (i:=i) (by omega) (by omega))];first|done|rfl)
      | (obtain rfl : i = w.length := by omega
         exact (by rw [accI_t (d:=d) (by assumption) (okW_all hL1_1)];(try simp only [List.take_length]);first|done|rfl))
theorem fn79:Fn1 Tryz.prog 79 Tryz.f79.ntmps 6 (Tryz.f79.body.getD .skip):=⟨Tryz.f79,Tryz.func79,rfl,rfl,rfl,by kernel_rfl⟩
set_option maxRecDepth 100000 in
set_option maxHeartbeats 4000000 in
theorem end_call {d:Dfa} {q:Nat} {w:List Int} (hd:okD d) (hq:q<d.n) (hw:w.length≤4611686018427387904):CallF Tryz.prog 79 [dfa d,natI q,ints w] (.p (int (endI d q w))):=by
  have hn:d.n=d.next.length:=rfl
  refine callF_of_code fn79 (Nat.le_of_ble_eq_true rfl) fun w0 M0 hM0=>?_
  refine xC tb hM0 2 [0,1,2] [] rfl ?_
  refine oP rfl (pure_box rfl rfl rfl hM0) ?_
  refine xA tb hM0 10 [1,2,3,7] [] rfl ?_
  refine lp (fun zm zs=>∃ i:Nat,zm=w.length-i∧(i≤w.length)∧(∀ j,j<i→0≤w.getD j default∧w.getD j default<d.size)∧zs=⟨40,[(1,.v .mx (natI (d.run q (toN (w.take i))))),(2,.v .mx (ints w)),(3,.v .mx (dpc d)),(7,.v .pl (int i))],[]⟩) ?_ ?_
  exact ⟨_,0,rfl,Nat.zero_le _,fun j hj=>absurd hj (Nat.not_lt_zero j),rfl⟩
  rintro zm zs ⟨i,rfl,hL1_0,hL1_1,rfl⟩
  have hrn:(d.run q (toN (w.take i)))<d.next.length:=run_lt hd hq hL1_0 hL1_1
  refine xA tb hM0 5 [1,2,3,7,8,9] [] rfl ?_
  refine oP rfl (pure_lenm rfl Tryz.underlying22 rfl) ?_
  refine xA tb hM0 3 [1,2,3,7,11] [] rfl ?_
  refine spC 11 rfl ?_ ?_<;>intro h1<;>try simp only [dq] at h1
  refine xA tb hM0 7 [1,2,3,7] [] rfl ?_
  refine code_draw mixed (by kernel_rfl) _ rfl ?_
  refine dl_pure rfl rfl rfl (pure_move rfl rfl) ?_
  refine dl_pure rfl rfl rfl (pure_move rfl rfl) ?_
  refine dl_pure rfl rfl rfl (pure_ix rfl Tryz.underlying22 sz3 rfl rfl (by omega) (fun _=>rfl)) ?_
  refine dl_pure rfl rfl rfl (pure_load rfl ag3 rfl rfl) ?_
  refine dl_pure rfl rfl rfl (pure_lss rfl rfl rfl) ?_
  refine dl_pure rfl rfl rfl (pure_move rfl rfl) ?_
  refine dl_guard rfl (fun h2=>?_) (fun h2=>?_)
  have h2':=h2;try simp only [dq] at h2'
  refine dl_skip_g rfl rfl h2 rfl rfl ?_
  refine dpk 40 [(1,_),(2,_),(3,_),(7,_),(19,_),(20,_)] [] rfl rfl rfl ?_
  refine dl_skip_g rfl rfl h2 rfl rfl ?_
  refine dl_skip_g rfl rfl h2 rfl rfl ?_
  refine dl_skip_g rfl rfl h2 rfl rfl ?_
  refine dl_skip_g rfl rfl h2 rfl rfl ?_
  refine dl_skip_g rfl rfl h2 rfl rfl ?_
  refine dl_skip_g rfl rfl h2 rfl rfl ?_
  refine dl_pure rfl rfl rfl (pure_pick_t rfl rfl h2 rfl) ?_
  refine dl_nil ?_
  refine xD tb hM0 14 [] [] rfl ?_
  refine end_ret rfl ?_;rotate_left
  have h2':=h2;try simp only [dq] at h2'
  refine dl_pure_g rfl rfl h2 rfl rfl (pure_move rfl rfl) ?_
  refine dpk 40 [(1,_),(2,_),(3,_),(7,_),(19,_),(20,_)] [] rfl rfl rfl ?_
  refine dl_pure_g rfl rfl h2 rfl rfl (pure_move rfl rfl) ?_
  refine dl_pure_g rfl rfl h2 rfl rfl (pure_ix rfl Tryz.underlying22 sz3 rfl rfl (by omega) (fun _=>rfl)) ?_
  refine dl_pure_g rfl rfl h2 rfl rfl (pure_load rfl ag3 rfl rfl) ?_
  refine dl_pure_g rfl rfl h2 rfl rfl (pure_field rfl fd31_0 rfl) ?_
  refine dl_pure_g rfl rfl h2 rfl rfl (pure_load rfl ag3 rfl rfl) ?_
  refine dl_pure_g rfl rfl h2 rfl rfl (pure_geq rfl rfl rfl) ?_
  refine dl_pure rfl rfl rfl (pure_pick_f rfl rfl h2 rfl) ?_
  refine dl_nil ?_
  refine xD tb hM0 1 [1,2,3,7,27] [] rfl ?_
  refine spC 27 rfl ?_ ?_<;>intro h3<;>try simp only [dq] at h3
  refine xA tb hM0 13 [] [] rfl ?_
  refine end_ret rfl ?_;rotate_left
  refine xA tb hM0 3 [1,2,3,7] [] rfl ?_
  refine code_draw mixed (by kernel_rfl) _ rfl ?_
  refine dl_pure rfl rfl rfl (pure_field rfl fd31_1 rfl) ?_
  refine dl_pure rfl rfl rfl (pure_load rfl ag28 rfl rfl) ?_
  refine dl_pure rfl rfl rfl (pure_move rfl rfl) ?_
  refine dl_pure rfl rfl rfl (pure_ix rfl Tryz.underlying28 sz22 rfl rfl (by exact ⟨Int.natCast_nonneg _,Int.ofNat_lt.2 hrn⟩) (fun _=>rfl)) ?_
  refine dl_pure rfl rfl rfl (pure_load rfl ag22 rfl rfl) ?_
  refine dl_pure rfl rfl rfl (pure_move rfl rfl) ?_
  refine dl_pure rfl rfl rfl (pure_move rfl rfl) ?_
  refine dpk 40 [(2,_),(3,_),(7,_),(32,_),(33,_),(34,_)] [] rfl rfl rfl ?_
  refine dl_pure rfl rfl rfl (pure_ix rfl Tryz.underlying22 sz3 rfl rfl (by omega) (fun _=>rfl)) ?_
  refine dl_pure rfl rfl rfl (pure_load rfl ag3 rfl rfl) ?_
  refine dl_pure rfl rfl rfl (pure_ix rfl Tryz.underlying22 sz3 rfl rfl (by have h9:=(hd.row hrn).1;refine ⟨by omega,?_⟩;show w.getD i default<((d.next.getD (d.run q (toN (w.take i))) default).length:Int);omega) (fun _=>rfl)) ?_
  refine dl_pure rfl rfl rfl (pure_load rfl ag3 rfl rfl) ?_
  refine dl_pure rfl rfl rfl (pure_assign rfl rfl) ?_
  refine dl_nil ?_
  refine xD tb hM0 4 [1,2,3,12] [] rfl ?_
  refine oP rfl (pure_addi rfl rfl rfl (by omega)) ?_
  refine xA tb hM0 2 [1,2,3,7] [] rfl ?_
  refine nx ?_
  have hc:=hd.cellN (i:=(d.run q (toN (w.take i)))) (k:=(w.getD i default).toNat) hrn (by omega)
  have hc2:natI (d.stp (d.run q (toN (w.take i))) (w.getD i default).toNat)=int ((d.next.getD (d.run q (toN (w.take i))) default).getD (w.getD i default).toNat default):=congrArg int hc.symm
  refine ⟨_,⟨i+1,rfl,by omega,upto_step hL1_1 ⟨by omega,by omega⟩,?_⟩,by omega⟩
  rw [run_step (by omega),hc2];rfl
  refine xA tb hM0 13 [] [] rfl ?_
  refine end_ret rfl ?_;rotate_left
  all_goals
    first
      | (rw [endI_f (d:=d) (okW_bad (i:=i) (by omega) (by omega))];first|done|rfl)
      | (obtain rfl : i = w.length := by omega
         exact (by rw [endI_t (d:=d) (okW_all hL1_1)];(try simp only [List.take_length]);first|done|rfl))
theorem fn34:Fn1 Tryz.prog 34 Tryz.f34.ntmps 4 (Tryz.f34.body.getD .skip):=⟨Tryz.f34,Tryz.func34,rfl,rfl,rfl,by kernel_rfl⟩
set_option maxRecDepth 100000 in
set_option maxHeartbeats 4000000 in
theorem raccD_call {d:Dfa} {w:List Int} (hw:w.length≤4611686018427387904):CallF Tryz.prog 34 [dfa d,ints w] (.p (bool (accI d w))):=by
  refine callF_of_code fn34 (Nat.le_of_ble_eq_true rfl) fun w0 M0 hM0=>?_
  refine xC tb hM0 2 [0,1] [] rfl ?_
  refine oP rfl (pure_box rfl rfl rfl hM0) ?_
  refine xA tb hM0 7 [1,2,6] [] rfl ?_
  refine oP rfl (pure_call rfl rfl rfl (rvalidD_call) hM0) ?_
  refine xA tb hM0 3 [1,2,8] [] rfl ?_
  refine spC 8 rfl ?_ ?_<;>intro h1<;>try simp only [dq] at h1
  refine xA tb hM0 8 [] [] rfl ?_
  refine end_ret rfl ?_;rotate_left
  have hd:=valid_ok (d:=d) (by assumption)
  have hn:d.n=d.next.length:=rfl
  have hb:=hd.1
  have hkk:=kk hd
  refine xA tb hM0 7 [2,9,10] [] rfl ?_
  refine oP rfl (pure_call rfl rfl rfl (end_call (q:=0) hd (by omega) hw) hM0) ?_
  refine xA tb hM0 8 [2,5,14] [] rfl ?_
  refine spO 14 rfl ?_ ?_<;>intro h2'<;>try simp only [dq] at h2'
  have hen:=okW_end (d:=d) (q:=0) (w:=w) (by omega)
  have hrn:d.run 0 (toN w)<d.n:=by have:=run_lt hd (q:=0) (i:=w.length) (w:=w) (by omega) (Nat.le_refl _) (fun j hj=>hen.1 _ (el_mem hj));rwa [List.take_length] at this
  refine xA tb hM0 3 [14,16,17] [] rfl ?_
  refine oP rfl (pure_ix rfl Tryz.underlying29 sz4 rfl rfl (by rw [hen.2];exact ⟨Int.natCast_nonneg _,Int.ofNat_lt.2 (by rw [hb.2.2];exact hrn)⟩) (fun _=>rfl)) ?_
  refine xA tb hM0 6 [] [] rfl ?_
  refine end_ret rfl ?_;rotate_left
  refine xA tb hM0 10 [] [] rfl ?_
  refine end_ret rfl ?_;rotate_left
  all_goals
    first
      | (rw [accI_v (d:=d) (by assumption)];first|done|rfl)
      | (rw [accI_w (d:=d) (okW_neg (q:=0) (by omega))];first|done|rfl)
      | (exact (by rw [accI_t (d:=d) (by assumption) hen.1];(try simp only [hen.2]);first|done|rfl))
theorem fn15:FnC Tryz.prog 15 Tryz.f15.ntmps 4 31 3 (Tryz.f15.body.getD .skip):=⟨Tryz.f15,Tryz.func15,rfl,rfl,rfl,by kernel_rfl,ag31,sz31⟩
set_option maxRecDepth 100000 in
set_option maxHeartbeats 4000000 in
theorem sized_call {l:List Int} {size:Int} (hl:I64s l) (hs:1≤size∧size≤64):CallF Tryz.prog 15 [ints l,int size] (.p (dfa (sizedP l size))):=by
  have hg:=gN_lt l
  refine callF_of_codeC fn15 (Nat.le_of_ble_eq_true rfl) fun w0 M0 hM0=>?_
  refine xC tb hM0 8 [0,1,4,10] [4] rfl ?_
  refine oP rfl (pure_call rfl rfl rfl (at_call hl (by omega)) hM0) ?_
  refine oP rfl (pure_addi rfl rfl rfl (by have:=gN_lt l;unfold gN at this;omega)) ?_
  refine xA tb hM0 13 [0,1,4,5,6] [4,6] rfl ?_
  refine code_nilownC 6 1 41 22 31 hM0 rfl rfl rfl rfl ?_
  refine code_nilownC 6 2 42 4 31 hM0 rfl rfl rfl rfl ?_
  refine xK tb hM0 5 [0,1,4,5,6,7] [4,6,41,42] rfl ?_
  refine lp (fun zm zs=>∃ i:Nat,zm=(gN l).toNat-i∧((i:Int)≤gN l)∧zs=⟨54,[(0,.v .mx (ints l)),(1,.v .mx (int size)),(4,.pbox 4 0),(5,.v .pl (int (gN l))),(6,.pbox 6 0),(7,.v .pl (int i))],[(4,.box 31 [.v .pl (.sc (.int .i64 0)),.v .pl (.sc (.slice none 0 0)),.v .pl (.sc (.slice none 0 0))]),(6,.box 31 [.v .pl (int size),.own 41,.own 42]),(41,.arr 22 (((List.range i).map (gRow l size (gN l))).map ints)),(42,.arr 4 (((List.range i).map (gFin l)).map bool))]⟩) ?_ ?_
  exact ⟨_,0,rfl,by omega,rfl⟩
  rintro zm zs ⟨i,rfl,hL1_0,rfl⟩
  refine xA tb hM0 8 [0,1,4,5,6,7,17] [4,6,41,42] rfl ?_
  refine spC 17 rfl ?_ ?_<;>intro h1<;>try simp only [dq] at h1
  refine xA tb hM0 7 [0,1,4,5,6,7] [4,6,41,42] rfl ?_
  refine oS rfl (step_nil rfl rfl rfl rfl rfl 3 hM0) rfl ?_
  refine xA tb hM0 9 [0,1,4,5,6,7,8,9] [4,6,8,41,42] rfl ?_
  have hmu:-9223372036854775808≤size*(i:Int)∧size*(i:Int)≤9223372036854775807:=by
    have h1:0≤size*(i:Int):=Int.mul_nonneg (by omega) (by omega)
    have h2:size*(i:Int)≤64*(i:Int):=Int.mul_le_mul_of_nonneg_right (by omega) (by omega)
    omega
  have hmu1:0≤size*(i:Int):=Int.mul_nonneg (by omega) (by omega)
  have hmu2:size*(i:Int)≤64*(i:Int):=Int.mul_le_mul_of_nonneg_right (by omega) (by omega)
  refine lp (fun zm zs=>∃ s:Nat,zm=size.toNat-s∧((s:Int)≤size)∧zs=⟨54,[(0,.v .mx (ints l)),(1,.v .mx (int size)),(4,.pbox 4 0),(5,.v .pl (int (gN l))),(6,.pbox 6 0),(7,.v .pl (int i)),(8,.own 8),(9,.v .pl (int s))],[(4,.box 31 [.v .pl (.sc (.int .i64 0)),.v .pl (.sc (.slice none 0 0)),.v .pl (.sc (.slice none 0 0))]),(6,.box 31 [.v .pl (int size),.own 41,.own 42]),(8,.arr 3 (((List.range s).map fun s:Nat=>atL l (9+size*(i:Int)+(s:Int)) (gN l)).map int)),(41,.arr 22 (((List.range i).map (gRow l size (gN l))).map ints)),(42,.arr 4 (((List.range i).map (gFin l)).map bool))]⟩) ?_ ?_
  exact ⟨_,0,rfl,by omega,rfl⟩
  rintro zm zs ⟨s,rfl,hL2_0,rfl⟩
  refine xA tb hM0 8 [0,1,4,5,6,7,8,9,22] [4,6,8,41,42] rfl ?_
  refine spC 22 rfl ?_ ?_<;>intro h2<;>try simp only [dq] at h2
  refine xA tb hM0 10 [0,1,4,5,6,7,9,25,26,27,28] [4,6,8,41,42] rfl ?_
  refine oP rfl (pure_muli rfl rfl rfl (hmu)) ?_
  refine oP rfl (pure_addi rfl rfl rfl (by omega)) ?_
  refine xA tb hM0 1 [0,1,4,5,6,7,9,25,26,30,31] [4,6,8,41,42] rfl ?_
  refine oP rfl (pure_addi rfl rfl rfl (by omega)) ?_
  refine xA tb hM0 1 [0,1,4,5,6,7,9,25,26,32,33] [4,6,8,41,42] rfl ?_
  refine oP rfl (pure_call rfl rfl rfl (at_call hl (by omega)) hM0) ?_
  refine oP rfl (pure_lit rfl Tryz.underlying22 el3 rfl rfl rfl rfl hM0) ?_
  refine xA tb hM0 0 [0,1,4,5,6,7,9,25,35] [4,6,8,41,42] rfl ?_
  refine oS rfl (step_append rfl rfl rfl rfl Tryz.underlying22 el3 rfl rfl hM0 (src_pl rfl (one_len (by rfl))) (by rw [List.length_map,List.length_map,List.length_range];simp only [List.length_cons,List.length_nil];omega) (by rw [List.length_map,List.length_map,List.length_range];simp only [List.length_cons,List.length_nil];omega)) rfl ?_
  refine xA tb hM0 6 [0,1,4,5,6,7,8,23] [4,6,8,41,42] rfl ?_
  refine oP rfl (pure_addi rfl rfl rfl (by omega)) ?_
  refine xA tb hM0 2 [0,1,4,5,6,7,8,9] [4,6,8,41,42] rfl ?_
  refine nx ?_
  refine ⟨_,⟨s+1,rfl,by omega,?_⟩,by omega⟩
  rw [range_one,List.map_append];rfl
  refine xA tb hM0 7 [0,1,4,5,6,7,8] [4,6,8,41,42] rfl ?_
  refine code_frz 54 [(0,_),(1,_),(4,_),(5,_),(6,_),(7,_),(8,_)] [(4,_),(6,_),(41,_),(42,_)] hM0 rfl ⟨.inl rfl,.inl rfl,.inl rfl,.inl rfl,.inl rfl,.inl rfl,.inr ⟨_,_,rfl,rfl,rfl⟩,trivial⟩ ⟨rfl,rfl,rfl,rfl,trivial⟩ ?_
  obtain rfl:s=size.toNat:=by omega
  refine xK tb hM0 4 [0,1,4,5,6,7,38,39] [4,6,41,42] rfl ?_
  refine oP rfl (pure_lit rfl Tryz.underlying28 el22 rfl rfl rfl rfl hM0) ?_
  refine oS rfl (step_append rfl rfl rfl rfl Tryz.underlying28 el22 rfl rfl hM0 (src_pl rfl (one_len (by rfl))) (by rw [List.length_map,List.length_map,List.length_range];simp only [List.length_cons,List.length_nil];omega) (by rw [List.length_map,List.length_map,List.length_range];simp only [List.length_cons,List.length_nil];omega)) rfl ?_
  refine xA tb hM0 4 [0,1,4,5,6,7] [4,6,41,42] rfl ?_
  refine code_draw mixed (by kernel_rfl) _ rfl ?_
  refine dl_pure rfl rfl rfl (pure_field_box rfl fd31_2 rfl rfl) ?_
  refine dl_pure rfl rfl rfl (pure_load_box rfl ag29 rfl rfl rfl) ?_
  refine dl_pure rfl rfl rfl (pure_move rfl rfl) ?_
  refine dl_pure rfl rfl rfl (pure_move rfl rfl) ?_
  refine dl_pure rfl rfl rfl (pure_addi rfl rfl rfl (by omega)) ?_
  refine dl_pure rfl rfl rfl (pure_call rfl rfl rfl (at_call hl (by omega)) hM0) ?_
  refine dl_pure rfl rfl rfl (pure_eql rfl rfl rfl) ?_
  refine dpk 54 [(0,_),(1,_),(4,_),(5,_),(6,_),(7,_),(44,_),(49,_)] [(4,_),(6,_),(41,_),(42,_)] rfl rfl rfl ?_
  refine dl_pure rfl rfl rfl (pure_lit rfl Tryz.underlying29 el4 rfl rfl rfl rfl hM0) ?_
  refine dl_tails (by kernel_rfl) ?_
  refine tl_step rfl (step_append rfl rfl rfl rfl Tryz.underlying29 el4 rfl rfl hM0 (src_pl rfl (one_len (by rfl))) (by rw [List.length_map,List.length_map,List.length_range];simp only [List.length_cons,List.length_nil];omega) (by rw [List.length_map,List.length_map,List.length_range];simp only [List.length_cons,List.length_nil];omega)) ?_
  refine tl_pure rfl rfl rfl (pure_field_box rfl fd31_2 rfl rfl) ?_
  refine tl_step rfl (step_store_box_own rfl rfl rfl sz29 rfl rfl rfl rfl rfl hM0) ?_
  refine tl_nil ?_
  refine xD tb hM0 4 [0,1,4,5,6,18] [4,6,41,42] rfl ?_
  refine oP rfl (pure_addi rfl rfl rfl (by omega)) ?_
  refine xA tb hM0 2 [0,1,4,5,6,7] [4,6,41,42] rfl ?_
  refine nx ?_
  refine ⟨_,⟨i+1,rfl,by omega,?_⟩,by omega⟩
  rw [range_one,range_one,List.map_append,List.map_append];rfl
  refine xA tb hM0 7 [4,6] [4,6,41,42] rfl ?_
  refine code_frz 54 [(4,_),(6,_)] [(4,_)] hM0 rfl ⟨.inl rfl,.inr ⟨_,_,rfl,rfl,rfl⟩,trivial⟩ ⟨rfl,trivial⟩ ?_
  obtain rfl:i=(gN l).toNat:=by omega
  refine xK tb hM0 6 [] [] rfl ?_
  refine endC_ret rfl ?_
  rfl
theorem fn14:FnC Tryz.prog 14 Tryz.f14.ntmps 2 31 3 (Tryz.f14.body.getD .skip):=⟨Tryz.f14,Tryz.func14,rfl,rfl,rfl,by kernel_rfl,ag31,sz31⟩
set_option maxRecDepth 100000 in
theorem dfa_call {l:List Int} (hl:I64s l):CallF Tryz.prog 14 [ints l] (.p (dfa (dfaP l))):=by
  have h3:=atL_lt (l:=l) (i:=0) (most:=3) (by omega)
  refine callF_of_codeC fn14 (Nat.le_of_ble_eq_true rfl) fun w0 M0 hM0=>?_
  refine xC tb hM0 9 [2,3,4] [2] rfl ?_
  refine oP rfl (pure_call rfl rfl rfl (at_call hl (by omega)) hM0) ?_
  refine oP rfl (pure_addi rfl rfl rfl (by omega)) ?_
  refine xA tb hM0 0 [2,3,6] [2] rfl ?_
  refine oP rfl (pure_call rfl rfl rfl (sized_call (size:=1+atL l 0 3) hl (by omega)) hM0) ?_
  refine xA tb hM0 4 [] [] rfl ?_
  refine endC_ret rfl ?_
  rfl
end Go.Proofs.YtjimlkpfmbachaaGreat

namespace Go.Proofs.YtjimlkpfmbachaaGreat
open Go.Am Go.Wc Go.Wb Go.Wd
theorem ze62:zeroOf Tryz.prog 62=some [.nilFunc]:=by kernel_rfl
theorem fn10:FnC2 Tryz.prog 10 Tryz.f10.ntmps 4 31 3 5 (Tryz.f10.body.getD .skip):=⟨Tryz.f10,Tryz.func10,rfl,rfl,rfl,by kernel_rfl,ag31,sz31⟩
set_option maxRecDepth 100000 in
set_option maxHeartbeats 4000000 in
theorem of_call8 {r:Rx} {size N:Nat} {U:List Rx} (hv:validR r=true) (hr:r.size≤137438953472) (hsz:1≤size∧size≤64) (hU:∀ x∈U,∀ s,s<size→nxR x s∈U) (h0:simR r∈U) (hN:U.length≤N) (hB:U.length≤2048) (hI:∀ a∈U,∀ b∈U,kvR a=kvR b→a=b)
    (hS:∀ x∈U,x.size≤80000000000∧dSz (simR x)≤549755813888∧∀ s,s<size→(dR ((s:Nat):Int) (simR x)).size≤137438953472) :
    CallF Tryz.prog 10 [rx r,natI size] (.p (.tup [dfa (minZ (mkD nxR size fnR (reach nxR size N (simR r)))),int 0])):=by
  have hg:∀ (μ:List Rx) (x:Rx) (s:Nat),x∈μ→(∀ y∈μ,y∈U)→s<size→CallO Tryz.prog 45 [.v .pl (encR x),.v .pl (natI s),.pbox 1000003 0,.pbox 1000001 0] (OO μ) (.v .pl (encR (nxR x s))) (OO (addK μ (nxR x s))):=fun μ x s hx hμ hs=>by
    have h1:=hS x (hμ x hx)
    exact of2_call hx (fun b hb=>hI b (hμ b hb) x (hμ x hx)) (by omega) h1.2.1 (h1.2.2 s hs) (hS _ (hU x (hμ x hx) s hs)).1 (fun b hb=>hI b (hμ b hb) _ (hU x (hμ x hx) s hs))
  have hh:∀ (μ:List Rx) (x:Rx),x∈μ→(∀ y∈μ,y∈U)→CallO Tryz.prog 47 [.v .pl (encR x),.pbox 1000001 0] (OM μ) (.v .pl (bool (fnR x))) (OM μ):=fun μ x hx hμ=>by
    have h1:=hS x (hμ x hx)
    exact of3_call hx (fun b hb=>hI b (hμ b hb) x (hμ x hx)) (by omega)
  have hs0:=(hS _ h0).1
  refine callF_of_codeC2 fn10 (Nat.le_of_ble_eq_true rfl) fun w0 M0 hM0=>?_
  refine xC tb hM0 2 [0,1] [] rfl ?_
  refine oP rfl (pure_box rfl rfl rfl hM0) ?_
  refine xA tb hM0 8 [1,2,4,10] [4] rfl ?_
  refine oP rfl (pure_to (b':=false) (pure_lss rfl rfl rfl) (decide_eq_false (by omega))) ?_
  refine xA tb hM0 2 [1,2,4,12,13] [4] rfl ?_
  refine oP rfl (pure_to (b':=false) (pure_gtr rfl rfl rfl) (decide_eq_false (by omega))) ?_
  refine xA tb hM0 3 [1,2,4,16,17] [4] rfl ?_
  refine oP rfl (pure_callb (b':=true) rfl rfl rfl (valid_call _ r (Nat.le_refl _) (by omega)) hM0 (hv)) ?_
  refine xA tb hM0 9 [1,2,4] [4] rfl ?_
  refine oS rfl (step_map rfl rfl rfl rfl rfl Tryz.underlying58 (fun q hq=>by cases hq<;>exact ⟨_,_,rfl⟩) hM0) rfl ?_
  refine xA tb hM0 1 [1,2,4,6,22] [4,6,22] rfl ?_
  refine oS rfl (step_store_box_sv rfl rfl rfl sz58 rfl rfl rfl rfl rfl (one_omap rfl rfl) rfl hM0) rfl ?_
  refine xA tb hM0 4 [1,2,4,6] [4,6,22] rfl ?_
  refine oP rfl (pure_fn rfl rfl) ?_
  refine oS rfl (step_alloc rfl rfl rfl rfl rfl ze62 rfl hM0) rfl ?_
  refine xA tb hM0 0 [1,2,4,6,7,23] [4,6,7,22] rfl ?_
  refine oS rfl (step_store_box_sv rfl rfl rfl sz62 rfl rfl rfl rfl rfl (one_fn rfl) rfl hM0) rfl ?_
  refine xA tb hM0 4 [1,2,4,6,7] [4,6,7,22] rfl ?_
  refine oP rfl (pure_load_box rfl ag62 rfl rfl rfl) ?_
  refine xA tb hM0 1 [1,4,6,7,25,26] [4,6,7,22] rfl ?_
  refine oS rfl (step_callO [(1000001,6),(1000002,22)] rfl rfl rfl rfl rfl rfl rfl (of1_call (μ:=[]) (r:=r) hr hs0 (fun b hb=>by cases hb)) ⟨.inl rfl,.inl rfl,trivial⟩ ⟨rfl,rfl,trivial⟩ rfl rfl rfl rfl rfl hM0) rfl ?_
  refine xA tb hM0 1 [4,6,7,27,28] [4,6,7,22] rfl ?_
  refine oP rfl (pure_fn rfl rfl) ?_
  refine oP rfl (pure_fn rfl rfl) ?_
  refine xA tb hM0 0 [4,27,28,29,30] [4,6,7,22] rfl ?_
  refine oS rfl (step_callO [(1000001,6),(1000002,22),(1000003,7)] rfl rfl rfl rfl rfl rfl rfl (exploreO_call (next:=nxR) (final:=fnR) (size:=size) (N:=N) (start:=simR r) (U:=U) hsz hU h0 hN hB hI hg hh) ⟨.inl rfl,.inl rfl,.inl rfl,.inl rfl,trivial⟩ ⟨rfl,rfl,rfl,trivial⟩ rfl rfl rfl rfl rfl hM0) rfl ?_
  refine xA tb hM0 12 [4,8,34] [4,8] rfl ?_
  refine oP rfl (pure_to (b':=false) (pure_not rfl rfl) (rfl)) ?_
  refine xA tb hM0 8 [4,37] [4] rfl ?_
  refine oP rfl (pure_call rfl rfl rfl (min_call (d:=mkD nxR size fnR (reach nxR size N (simR r)))) hM0) ?_
  refine xA tb hM0 5 [] [] rfl ?_
  refine endC2_ret rfl rfl ?_
  exact ⟨rfl,rfl⟩
theorem lv_ofc:CallF Tryz.prog 10 [rx lvR,int 2] (.p (.tup [dfa lvD,int 0])):=by
  have h:=of_call8 (r:=lvR) (size:=2) (N:=3) (U:=lvU) lv_valid (by decide +kernel) (by omega) lv_closed lv_start (by decide +kernel) (by have:=lv_len;omega) lv_inj (fun x hx=>by
    have h1:=lv_size x hx
    exact ⟨by omega,by omega,fun s hs=>by have:=h1.2.2 s hs;omega⟩)
  rw [lv_of] at h
  exact h
theorem lv_leastc:CallF Tryz.prog 16 [dfa lvD] (.p (.tup [ints [1],bool true])):=by
  have h:=least_call (d:=lvD)
  rw [lv_least] at h
  exact h
theorem lv_notc:CallF Tryz.prog 29 [dfa lvD] (.p (dfa lvN)):=by
  have h:=not_call (d:=lvD)
  rw [lv_not] at h
  exact h
theorem lv_notc2:CallF Tryz.prog 29 [dfa lvN] (.p (dfa lvD)):=by
  have h:=not_call (d:=lvN)
  rw [lv_not2] at h
  exact h
theorem lv_countc:CallF Tryz.prog 21 [dfa lvD,int 3] (.p (u64I 4)):=by
  have h:=countD_call (d:=lvD) (n:=3)
  rw [lv_count] at h
  exact h
theorem lv_accc:CallF Tryz.prog 33 [dfa lvD,ints [1,0,1]] (.p (bool true)):=by
  have h:=acc_call (d:=lvD) (w:=[1,0,1]) (by decide)
  rw [lv_acc] at h
  exact h
theorem fn13:Fn1 Tryz.prog 13 Tryz.f13.ntmps 0 (Tryz.f13.body.getD .skip):=⟨Tryz.f13,Tryz.func13,rfl,rfl,rfl,by kernel_rfl⟩
set_option maxRecDepth 100000 in
set_option maxHeartbeats 4000000 in
theorem lives_call:CallF Tryz.prog 13 [] (.p (bool true)):=by
  refine callF_of_code fn13 (Nat.le_of_ble_eq_true rfl) fun w0 M0 hM0=>?_
  refine xC tb hM0 7 [] [] rfl ?_
  refine oP rfl (pure_lit rfl Tryz.underlying22 el3 rfl rfl rfl rfl hM0) ?_
  refine oP rfl (pure_norm (pure_build rfl pl25 ze25 rfl rfl rfl) rfl) ?_
  refine xA tb hM0 0 [11] [] rfl ?_
  refine oP rfl (pure_lit rfl Tryz.underlying23 el25 rfl rfl rfl rfl hM0) ?_
  refine oP rfl (pure_norm (pure_build rfl pl25 ze25 rfl rfl rfl) rfl) ?_
  refine xA tb hM0 7 [14] [] rfl ?_
  refine oP rfl (pure_lit rfl Tryz.underlying22 el3 rfl rfl rfl rfl hM0) ?_
  refine oP rfl (pure_norm (pure_build rfl pl25 ze25 rfl rfl rfl) rfl) ?_
  refine xA tb hM0 0 [14,16] [] rfl ?_
  refine oP rfl (pure_lit rfl Tryz.underlying23 el25 rfl rfl rfl rfl hM0) ?_
  refine oP rfl (pure_norm (pure_build rfl pl25 ze25 rfl rfl rfl) rfl) ?_
  refine xA tb hM0 7 [20] [] rfl ?_
  refine oP rfl (pure_call rfl rfl rfl (lv_ofc) hM0) ?_
  refine xA tb hM0 11 [3,4,25] [3] rfl ?_
  refine oP rfl (pure_call rfl rfl rfl (lv_leastc) hM0) ?_
  refine xA tb hM0 10 [3,4,5,6,30] [3] rfl ?_
  refine oP rfl (pure_call rfl rfl rfl (lv_notc) hM0) ?_
  refine oP rfl (pure_call rfl rfl rfl (lv_notc2) hM0) ?_
  refine xA tb hM0 0 [3,4,5,6,32] [3] rfl ?_
  refine oP rfl (pure_call rfl rfl rfl (lv_leastc) hM0) ?_
  refine xA tb hM0 9 [3,4,5,6,8] [3] rfl ?_
  refine oP rfl (pure_lit rfl Tryz.underlying22 el3 rfl rfl rfl rfl hM0) ?_
  refine oP rfl (pure_lit rfl Tryz.underlying22 el3 rfl rfl rfl rfl hM0) ?_
  refine xA tb hM0 0 [3,4,5,6,8,36,37] [3] rfl ?_
  refine oP rfl (pure_lit rfl Tryz.underlying28 el22 rfl rfl rfl rfl hM0) ?_
  refine oP rfl (pure_lit rfl Tryz.underlying29 el4 rfl rfl rfl rfl hM0) ?_
  refine xA tb hM0 0 [3,4,5,6,8,38,39] [3] rfl ?_
  refine oP rfl (pure_build rfl pl31 ze31 rfl rfl rfl) ?_
  refine xA tb hM0 7 [3,5,6,8,9,41] [3,9] rfl ?_
  refine oP rfl (pure_to (b':=true) (pure_eql rfl rfl rfl) (rfl)) ?_
  refine xA tb hM0 3 [3,5,6,8,43,44,45] [3] rfl ?_
  refine oP rfl (pure_callb (b':=true) rfl rfl rfl (dsame_call (a:=lvD) (b:=lvD) (by decide) (by decide) (by decide)) hM0 (by decide +kernel)) ?_
  refine xA tb hM0 5 [3,5,8,51] [3] rfl ?_
  refine spO 51 rfl ?_ ?_<;>intro h1'<;>try simp only [dq] at h1'
  refine xA tb hM0 3 [3,5,54] [3] rfl ?_
  refine spO 54 rfl ?_ ?_<;>intro h2'<;>try simp only [dq] at h2'
  refine xA tb hM0 1 [3,54,55] [3] rfl ?_
  refine oP rfl (pure_lit rfl Tryz.underlying22 el3 rfl rfl rfl rfl hM0) ?_
  refine oP rfl (pure_callb (b':=true) rfl rfl rfl (sameInts_call (a:=[1]) (b:=[1]) (by decide)) hM0 (by decide +kernel)) ?_
  refine xA tb hM0 3 [3,59,60] [3] rfl ?_
  refine oP rfl (pure_call rfl rfl rfl (lv_countc) hM0) ?_
  refine oP rfl (pure_to (b':=true) (pure_eql rfl rfl rfl) (rfl)) ?_
  refine xA tb hM0 3 [64,65] [] rfl ?_
  refine oP rfl (pure_lit rfl Tryz.underlying22 el3 rfl rfl rfl rfl hM0) ?_
  refine oP rfl (pure_callb (b':=true) rfl rfl rfl (lv_accc) hM0 (rfl)) ?_
  refine xA tb hM0 5 [] [] rfl ?_
  refine end_ret rfl ?_;rotate_left
  refine xA tb hM0 18 [] [] rfl ?_
  refine end_ret rfl ?_;rotate_left
  refine xA tb hM0 21 [] [] rfl ?_
  refine end_ret rfl ?_;rotate_left
  all_goals
    first
      | rfl
      | exact absurd (by assumption:true=false) (by decide)
      | simp_all
end Go.Proofs.YtjimlkpfmbachaaGreat

namespace Go.Proofs.YtjimlkpfmbachaaGreat
open Go.Am Go.Wc Go.Wb Go.Wd
theorem sameD_call {z:Dfa} (h:okD z∨z=zeroD):CallF Tryz.prog 12 [dfa z,dfa z] (.p (bool true)):=by
  have hb:z.next.length≤2048∧z.fin.length≤2048∧∀ r∈z.next,r.length≤64:=by
    rcases h with h|rfl
    · have := h.1
      exact ⟨by omega,by omega,fun r hr=>by have:=(h.2 r hr).1;omega⟩
    · exact ⟨by decide,by decide,fun r hr=>by cases hr⟩
  have q:=dsame_call (a:=z) (b:=z) (by omega) (by omega) (fun r hr=>by have:=hb.2.2 r hr;omega)
  rwa [decide_eq_true rfl] at q
theorem joinZ_ok {f:Bool→Bool→Bool} {a b:Dfa} (hn:a.n*b.n≤2048):okD (joinZ f a b)∨joinZ f a b=zeroD:=by
  by_cases h:validD a=true∧validD b=true∧a.size=b.size
  · rw [joinZ_t h.1 h.2.1 h.2.2]
    have hk:a.k=b.k:=by unfold Dfa.k;rw [h.2.2]
    exact .inl (join_ok (valid_ok h.1) (valid_ok h.2.1) hk hn).1
  · exact .inr (joinZ_f h)
theorem revZ_ok {d:Dfa} (hn:d.n≤11):okD (revZ d)∨revZ d=zeroD:=by
  by_cases h:validD d=true
  · rw [revZ_t h];exact .inl (rev_ok (valid_ok h) hn).1
  · exact .inr (revZ_f (by simpa using h))
/-! The statement AutomatonJoinsSaid. -/
namespace automatonJoins
open Go.ChangeShapes Go.WideShapes Go.ChangeAt Go.RowKit Go.Am
end automatonJoins
end Go.Proofs.YtjimlkpfmbachaaGreat

