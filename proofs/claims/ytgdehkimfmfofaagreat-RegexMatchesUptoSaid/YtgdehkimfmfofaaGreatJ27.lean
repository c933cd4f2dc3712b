/-
  Contracts: the reference's accepts.
-/
import Derived.Test.YtgdehkimfmfofaaGreatJ25
set_option linter.unusedVariables false
set_option linter.unusedSectionVars false
set_option linter.unusedSimpArgs false
namespace Go.Proofs.YtgdehkimfmfofaaGreat
open Go.Am Go.Wb

theorem fn50:Fn1 Tryz.prog 50 Tryz.f50.ntmps 4 (Tryz.f50.body.getD .skip):=⟨Tryz.f50,Tryz.func50,rfl,rfl,rfl,by kernel_rfl⟩
set_option maxRecDepth 100000 in
set_option maxHeartbeats 4000000 in
theorem rcompare_call:∀ (m:Nat) (a b:Rx),a.size≤m→m≤1099511627776→b.size≤1099511627776→CallF Tryz.prog 50 [rx a,rx b] (.p (int (cmpR a b))):=by
  intro m
  induction m with
  | zero=>intro a _ hr _ _;have:=size_pos a;omega
  | succ m ih =>
  intro a b hr hm hbs
  have hkl:=kids_len a
  have hkl2:=kids_len b
  have hsl:=syms_len a
  have hsl2:=syms_len b
  rw [rx_eq a,rx_eq b]
  refine callF_of_code fn50 (Nat.le_of_ble_eq_true rfl) fun w0 M0 hM0=>?_
  refine xC tb hM0 2 [0,1] [] rfl ?_
  refine oP rfl (pure_box rfl rfl rfl hM0) ?_
  refine oP rfl (pure_box rfl rfl rfl hM0) ?_
  refine xA tb hM0 9 [2,3,9,11] [] rfl ?_
  refine oP rfl (pure_call rfl rfl rfl (orderI_call) hM0) ?_
  refine xA tb hM0 10 [2,3,5,6] [] rfl ?_
  refine lp (fun zm zs=>∃ (i:Nat) (c:Int),zm=a.syms.length-i∧(i≤a.syms.length)∧(i≤b.syms.length)∧(thn (orderI a.kind b.kind) (orderL a.syms b.syms)=thn c (orderL (a.syms.drop i) (b.syms.drop i)))∧zs=⟨90,[(2,.v .mx (rpc a)),(3,.v .mx (rpc b)),(5,.v .pl (int c)),(6,.v .pl (int i))],[]⟩) ?_ ?_
  exact ⟨_,0,_,rfl,Nat.zero_le _,Nat.zero_le _,rfl,rfl⟩
  rintro zm zs ⟨i,c,rfl,hL1_0,hL1_1,hL1_2,rfl⟩
  refine xA tb hM0 6 [2,3,5,6,13,15] [] rfl ?_
  refine oP rfl (pure_lenm rfl Tryz.underlying22 rfl) ?_
  refine xA tb hM0 2 [2,3,5,6,18] [] rfl ?_
  refine spO 18 rfl ?_ ?_<;>intro h1'<;>try simp only [dq] at h1'
  refine xA tb hM0 3 [2,3,5,6,18,19,21] [] rfl ?_
  refine oP rfl (pure_lenm rfl Tryz.underlying22 rfl) ?_
  refine xA tb hM0 3 [2,3,5,6,25] [] rfl ?_
  refine spO 25 rfl ?_ ?_<;>intro h2'<;>try simp only [dq] at h2'
  refine xA tb hM0 5 [2,3,5,6,28] [] rfl ?_
  refine spC 28 rfl ?_ ?_<;>intro h3<;>try simp only [dq] at h3
  refine xA tb hM0 5 [2,3,6] [] rfl ?_
  refine code_draw mixed (by kernel_rfl) _ rfl ?_
  refine dl_pure rfl rfl rfl (pure_field rfl fd25_1 rfl) ?_
  refine dl_pure rfl rfl rfl (pure_load rfl ag22 rfl rfl) ?_
  refine dl_pure rfl rfl rfl (pure_move rfl rfl) ?_
  refine dl_pure rfl rfl rfl (pure_ix rfl Tryz.underlying22 sz3 rfl rfl (by omega) (fun _=>rfl)) ?_
  refine dl_pure rfl rfl rfl (pure_load rfl ag3 rfl rfl) ?_
  refine dl_pure rfl rfl rfl (pure_field rfl fd25_1 rfl) ?_
  refine dl_pure rfl rfl rfl (pure_load rfl ag22 rfl rfl) ?_
  refine dpk 90 [(2,_),(3,_),(6,_),(35,_),(37,_)] [] rfl rfl rfl ?_
  refine dl_pure rfl rfl rfl (pure_move rfl rfl) ?_
  refine dl_pure rfl rfl rfl (pure_ix rfl Tryz.underlying22 sz3 rfl rfl (by omega) (fun _=>rfl)) ?_
  refine dl_pure rfl rfl rfl (pure_load rfl ag3 rfl rfl) ?_
  refine dl_pure rfl rfl rfl (pure_call rfl rfl rfl (orderI_call) hM0) ?_
  refine dl_pure rfl rfl rfl (pure_assign rfl rfl) ?_
  refine dl_nil ?_
  refine xD tb hM0 4 [2,3,5,29] [] rfl ?_
  refine oP rfl (pure_addi rfl rfl rfl (by omega)) ?_
  refine xA tb hM0 2 [2,3,5,6] [] rfl ?_
  refine nx ?_
  exact ⟨_,⟨i+1,_,rfl,by omega,by omega,thn_ordS hL1_2 (by omega) (by omega) (by omega),rfl⟩,by omega⟩
  refine xA tb hM0 6 [2,3,5] [] rfl ?_
  refine ct (fun zs=>∃ z:Int,(z=thn (orderI a.kind b.kind) (orderL a.syms b.syms))∧zs=⟨90,[(2,.v .mx (rpc a)),(3,.v .mx (rpc b)),(5,.v .pl (int z))],[]⟩) ?_ ?_
  refine xA tb hM0 6 [2,3,5,43] [] rfl ?_
  refine spC 43 rfl ?_ ?_<;>intro h4<;>try simp only [dq] at h4
  refine xA tb hM0 4 [2,3,45] [] rfl ?_
  refine oP rfl (pure_lenm rfl Tryz.underlying22 rfl) ?_
  refine xA tb hM0 2 [2,3,46,48] [] rfl ?_
  refine oP rfl (pure_lenm rfl Tryz.underlying22 rfl) ?_
  refine oP rfl (pure_call rfl rfl rfl (orderI_call) hM0) ?_
  refine xA tb hM0 2 [2,3,5] [] rfl ?_
  refine cx ?_;rotate_left
  refine xA tb hM0 2 [2,3,5] [] rfl ?_
  refine cx ?_;rotate_left
  rintro zs ⟨z,hC8_0,rfl⟩
  refine xA tb hM0 7 [2,3,5,7] [] rfl ?_
  refine lp (fun zm zs=>∃ (i:Nat) (c:Int),zm=a.kids.length-i∧(i≤a.kids.length)∧(i≤b.kids.length)∧(cmpR a b=thn c (cmpRs (a.kids.drop i) (b.kids.drop i)))∧zs=⟨90,[(2,.v .mx (rpc a)),(3,.v .mx (rpc b)),(5,.v .pl (int c)),(7,.v .pl (int i))],[]⟩) ?_ ?_
  exact ⟨_,0,_,rfl,Nat.zero_le _,Nat.zero_le _,by rw [hC8_0];exact cmpR_eq a b,rfl⟩
  rintro zm zs ⟨i,c,rfl,hL2_0,hL2_1,hL2_2,rfl⟩
  refine xA tb hM0 6 [2,3,5,7,51,53] [] rfl ?_
  refine oP rfl (pure_lenm rfl Tryz.underlying23 rfl) ?_
  refine xA tb hM0 2 [2,3,5,7,56] [] rfl ?_
  refine spO 56 rfl ?_ ?_<;>intro h5'<;>try simp only [dq] at h5'
  refine xA tb hM0 3 [2,3,5,7,56,57,59] [] rfl ?_
  refine oP rfl (pure_lenm rfl Tryz.underlying23 rfl) ?_
  refine xA tb hM0 3 [2,3,5,7,63] [] rfl ?_
  refine spO 63 rfl ?_ ?_<;>intro h6'<;>try simp only [dq] at h6'
  refine xA tb hM0 5 [2,3,5,7,66] [] rfl ?_
  refine spC 66 rfl ?_ ?_<;>intro h7<;>try simp only [dq] at h7
  refine xA tb hM0 5 [2,3,7] [] rfl ?_
  refine code_draw mixed (by kernel_rfl) _ rfl ?_
  refine dl_pure rfl rfl rfl (pure_field rfl fd25_2 rfl) ?_
  refine dl_pure rfl rfl rfl (pure_load rfl ag23 rfl rfl) ?_
  refine dl_pure rfl rfl rfl (pure_move rfl rfl) ?_
  refine dl_pure rfl rfl rfl (pure_ix rfl Tryz.underlying23 sz25 rfl rfl (by omega) (fun _=>rfl)) ?_
  refine dl_pure rfl rfl rfl (pure_load_agg rfl ag25 sz25 rfl (Nat.le_of_ble_eq_true rfl)) ?_
  refine dl_pure rfl rfl rfl (pure_field rfl fd25_2 rfl) ?_
  refine dl_pure rfl rfl rfl (pure_load rfl ag23 rfl rfl) ?_
  refine dpk 90 [(2,_),(3,_),(7,_),(73,_),(75,_)] [] rfl rfl rfl ?_
  refine dl_pure rfl rfl rfl (pure_move rfl rfl) ?_
  refine dl_pure rfl rfl rfl (pure_ix rfl Tryz.underlying23 sz25 rfl rfl (by omega) (fun _=>rfl)) ?_
  refine dl_pure rfl rfl rfl (pure_load_agg rfl ag25 sz25 rfl (Nat.le_of_ble_eq_true rfl)) ?_
  refine dl_pure rfl rfl rfl (pure_call rfl rfl rfl (ih _ _ (Nat.le_of_lt_succ (Nat.lt_of_lt_of_le (kid_lt (by omega)) hr)) (by omega) (Nat.le_trans (Nat.le_of_lt (kid_lt (by omega))) hbs)) hM0) ?_
  refine dl_pure rfl rfl rfl (pure_assign rfl rfl) ?_
  refine dl_nil ?_
  refine xD tb hM0 4 [2,3,5,67] [] rfl ?_
  refine oP rfl (pure_addi rfl rfl rfl (by omega)) ?_
  refine xA tb hM0 2 [2,3,5,7] [] rfl ?_
  refine nx ?_;rotate_left
  refine xA tb hM0 13 [2,3,5,81] [] rfl ?_
  refine spC 81 rfl ?_ ?_<;>intro h8<;>try simp only [dq] at h8
  refine xA tb hM0 4 [3,83] [] rfl ?_
  refine oP rfl (pure_lenm rfl Tryz.underlying23 rfl) ?_
  refine xA tb hM0 2 [84,86] [] rfl ?_
  refine oP rfl (pure_lenm rfl Tryz.underlying23 rfl) ?_
  refine oP rfl (pure_call rfl rfl rfl (orderI_call) hM0) ?_
  refine xA tb hM0 10 [] [] rfl ?_
  refine end_ret rfl ?_;rotate_left
  refine xA tb hM0 10 [] [] rfl ?_
  refine end_ret rfl ?_;rotate_left
  refine xA tb hM0 18 [2,3,5,81] [] rfl ?_
  refine spC 81 rfl ?_ ?_<;>intro h9<;>try simp only [dq] at h9
  refine xA tb hM0 4 [3,83] [] rfl ?_
  refine oP rfl (pure_lenm rfl Tryz.underlying23 rfl) ?_
  refine xA tb hM0 2 [84,86] [] rfl ?_
  refine oP rfl (pure_lenm rfl Tryz.underlying23 rfl) ?_
  refine oP rfl (pure_call rfl rfl rfl (orderI_call) hM0) ?_
  refine xA tb hM0 10 [] [] rfl ?_
  refine end_ret rfl ?_;rotate_left
  refine xA tb hM0 10 [] [] rfl ?_
  refine end_ret rfl ?_;rotate_left
  refine xA tb hM0 25 [2,3,5,81] [] rfl ?_
  refine spC 81 rfl ?_ ?_<;>intro h10<;>try simp only [dq] at h10
  refine xA tb hM0 4 [3,83] [] rfl ?_
  refine oP rfl (pure_lenm rfl Tryz.underlying23 rfl) ?_
  refine xA tb hM0 2 [84,86] [] rfl ?_
  refine oP rfl (pure_lenm rfl Tryz.underlying23 rfl) ?_
  refine oP rfl (pure_call rfl rfl rfl (orderI_call) hM0) ?_
  refine xA tb hM0 10 [] [] rfl ?_
  refine end_ret rfl ?_;rotate_left
  refine xA tb hM0 10 [] [] rfl ?_
  refine end_ret rfl ?_;rotate_left
  refine xA tb hM0 11 [2,3,5] [] rfl ?_
  refine ct (fun zs=>∃ z:Int,(z=thn (orderI a.kind b.kind) (orderL a.syms b.syms))∧zs=⟨90,[(2,.v .mx (rpc a)),(3,.v .mx (rpc b)),(5,.v .pl (int z))],[]⟩) ?_ ?_
  refine xA tb hM0 6 [2,3,5,43] [] rfl ?_
  refine spC 43 rfl ?_ ?_<;>intro h11<;>try simp only [dq] at h11
  refine xA tb hM0 4 [2,3,45] [] rfl ?_
  refine oP rfl (pure_lenm rfl Tryz.underlying22 rfl) ?_
  refine xA tb hM0 2 [2,3,46,48] [] rfl ?_
  refine oP rfl (pure_lenm rfl Tryz.underlying22 rfl) ?_
  refine oP rfl (pure_call rfl rfl rfl (orderI_call) hM0) ?_
  refine xA tb hM0 2 [2,3,5] [] rfl ?_
  refine cx ?_;rotate_left
  refine xA tb hM0 2 [2,3,5] [] rfl ?_
  refine cx ?_;rotate_left
  rintro zs ⟨z,hC8_0,rfl⟩
  refine xA tb hM0 7 [2,3,5,7] [] rfl ?_
  refine lp (fun zm zs=>∃ (i:Nat) (c:Int),zm=a.kids.length-i∧(i≤a.kids.length)∧(i≤b.kids.length)∧(cmpR a b=thn c (cmpRs (a.kids.drop i) (b.kids.drop i)))∧zs=⟨90,[(2,.v .mx (rpc a)),(3,.v .mx (rpc b)),(5,.v .pl (int c)),(7,.v .pl (int i))],[]⟩) ?_ ?_
  exact ⟨_,0,_,rfl,Nat.zero_le _,Nat.zero_le _,by rw [hC8_0];exact cmpR_eq a b,rfl⟩
  rintro zm zs ⟨i,c,rfl,hL2_0,hL2_1,hL2_2,rfl⟩
  refine xA tb hM0 6 [2,3,5,7,51,53] [] rfl ?_
  refine oP rfl (pure_lenm rfl Tryz.underlying23 rfl) ?_
  refine xA tb hM0 2 [2,3,5,7,56] [] rfl ?_
  refine spO 56 rfl ?_ ?_<;>intro h12'<;>try simp only [dq] at h12'
  refine xA tb hM0 3 [2,3,5,7,56,57,59] [] rfl ?_
  refine oP rfl (pure_lenm rfl Tryz.underlying23 rfl) ?_
  refine xA tb hM0 3 [2,3,5,7,63] [] rfl ?_
  refine spO 63 rfl ?_ ?_<;>intro h13'<;>try simp only [dq] at h13'
  refine xA tb hM0 5 [2,3,5,7,66] [] rfl ?_
  refine spC 66 rfl ?_ ?_<;>intro h14<;>try simp only [dq] at h14
  refine xA tb hM0 5 [2,3,7] [] rfl ?_
  refine code_draw mixed (by kernel_rfl) _ rfl ?_
  refine dl_pure rfl rfl rfl (pure_field rfl fd25_2 rfl) ?_
  refine dl_pure rfl rfl rfl (pure_load rfl ag23 rfl rfl) ?_
  refine dl_pure rfl rfl rfl (pure_move rfl rfl) ?_
  refine dl_pure rfl rfl rfl (pure_ix rfl Tryz.underlying23 sz25 rfl rfl (by omega) (fun _=>rfl)) ?_
  refine dl_pure rfl rfl rfl (pure_load_agg rfl ag25 sz25 rfl (Nat.le_of_ble_eq_true rfl)) ?_
  refine dl_pure rfl rfl rfl (pure_field rfl fd25_2 rfl) ?_
  refine dl_pure rfl rfl rfl (pure_load rfl ag23 rfl rfl) ?_
  refine dpk 90 [(2,_),(3,_),(7,_),(73,_),(75,_)] [] rfl rfl rfl ?_
  refine dl_pure rfl rfl rfl (pure_move rfl rfl) ?_
  refine dl_pure rfl rfl rfl (pure_ix rfl Tryz.underlying23 sz25 rfl rfl (by omega) (fun _=>rfl)) ?_
  refine dl_pure rfl rfl rfl (pure_load_agg rfl ag25 sz25 rfl (Nat.le_of_ble_eq_true rfl)) ?_
  refine dl_pure rfl rfl rfl (pure_call rfl rfl rfl (ih _ _ (Nat.le_of_lt_succ (Nat.lt_of_lt_of_le (kid_lt (by omega)) hr)) (by omega) (Nat.le_trans (Nat.le_of_lt (kid_lt (by omega))) hbs)) hM0) ?_
  refine dl_pure rfl rfl rfl (pure_assign rfl rfl) ?_
  refine dl_nil ?_
  refine xD tb hM0 4 [2,3,5,67] [] rfl ?_
  refine oP rfl (pure_addi rfl rfl rfl (by omega)) ?_
  refine xA tb hM0 2 [2,3,5,7] [] rfl ?_
  refine nx ?_;rotate_left
  refine xA tb hM0 13 [2,3,5,81] [] rfl ?_
  refine spC 81 rfl ?_ ?_<;>intro h15<;>try simp only [dq] at h15
  refine xA tb hM0 4 [3,83] [] rfl ?_
  refine oP rfl (pure_lenm rfl Tryz.underlying23 rfl) ?_
  refine xA tb hM0 2 [84,86] [] rfl ?_
  refine oP rfl (pure_lenm rfl Tryz.underlying23 rfl) ?_
  refine oP rfl (pure_call rfl rfl rfl (orderI_call) hM0) ?_
  refine xA tb hM0 10 [] [] rfl ?_
  refine end_ret rfl ?_;rotate_left
  refine xA tb hM0 10 [] [] rfl ?_
  refine end_ret rfl ?_;rotate_left
  refine xA tb hM0 18 [2,3,5,81] [] rfl ?_
  refine spC 81 rfl ?_ ?_<;>intro h16<;>try simp only [dq] at h16
  refine xA tb hM0 4 [3,83] [] rfl ?_
  refine oP rfl (pure_lenm rfl Tryz.underlying23 rfl) ?_
  refine xA tb hM0 2 [84,86] [] rfl ?_
  refine oP rfl (pure_lenm rfl Tryz.underlying23 rfl) ?_
  refine oP rfl (pure_call rfl rfl rfl (orderI_call) hM0) ?_
  refine xA tb hM0 10 [] [] rfl ?_
  refine end_ret rfl ?_;rotate_left
  refine xA tb hM0 10 [] [] rfl ?_
  refine end_ret rfl ?_;rotate_left
  refine xA tb hM0 25 [2,3,5,81] [] rfl ?_
  refine spC 81 rfl ?_ ?_<;>intro h17<;>try simp only [dq] at h17
  refine xA tb hM0 4 [3,83] [] rfl ?_
  refine oP rfl (pure_lenm rfl Tryz.underlying23 rfl) ?_
  refine xA tb hM0 2 [84,86] [] rfl ?_
  refine oP rfl (pure_lenm rfl Tryz.underlying23 rfl) ?_
  refine oP rfl (pure_call rfl rfl rfl (orderI_call) hM0) ?_
  refine xA tb hM0 10 [] [] rfl ?_
  refine end_ret rfl ?_;rotate_left
  refine xA tb hM0 10 [] [] rfl ?_
  refine end_ret rfl ?_;rotate_left
  refine xA tb hM0 18 [2,3,5] [] rfl ?_
  refine ct (fun zs=>∃ z:Int,(z=thn (orderI a.kind b.kind) (orderL a.syms b.syms))∧zs=⟨90,[(2,.v .mx (rpc a)),(3,.v .mx (rpc b)),(5,.v .pl (int z))],[]⟩) ?_ ?_
  refine xA tb hM0 6 [2,3,5,43] [] rfl ?_
  refine spC 43 rfl ?_ ?_<;>intro h18<;>try simp only [dq] at h18
  refine xA tb hM0 4 [2,3,45] [] rfl ?_
  refine oP rfl (pure_lenm rfl Tryz.underlying22 rfl) ?_
  refine xA tb hM0 2 [2,3,46,48] [] rfl ?_
  refine oP rfl (pure_lenm rfl Tryz.underlying22 rfl) ?_
  refine oP rfl (pure_call rfl rfl rfl (orderI_call) hM0) ?_
  refine xA tb hM0 2 [2,3,5] [] rfl ?_
  refine cx ?_;rotate_left
  refine xA tb hM0 2 [2,3,5] [] rfl ?_
  refine cx ?_;rotate_left
  rintro zs ⟨z,hC8_0,rfl⟩
  refine xA tb hM0 7 [2,3,5,7] [] rfl ?_
  refine lp (fun zm zs=>∃ (i:Nat) (c:Int),zm=a.kids.length-i∧(i≤a.kids.length)∧(i≤b.kids.length)∧(cmpR a b=thn c (cmpRs (a.kids.drop i) (b.kids.drop i)))∧zs=⟨90,[(2,.v .mx (rpc a)),(3,.v .mx (rpc b)),(5,.v .pl (int c)),(7,.v .pl (int i))],[]⟩) ?_ ?_
  exact ⟨_,0,_,rfl,Nat.zero_le _,Nat.zero_le _,by rw [hC8_0];exact cmpR_eq a b,rfl⟩
  rintro zm zs ⟨i,c,rfl,hL2_0,hL2_1,hL2_2,rfl⟩
  refine xA tb hM0 6 [2,3,5,7,51,53] [] rfl ?_
  refine oP rfl (pure_lenm rfl Tryz.underlying23 rfl) ?_
  refine xA tb hM0 2 [2,3,5,7,56] [] rfl ?_
  refine spO 56 rfl ?_ ?_<;>intro h19'<;>try simp only [dq] at h19'
  refine xA tb hM0 3 [2,3,5,7,56,57,59] [] rfl ?_
  refine oP rfl (pure_lenm rfl Tryz.underlying23 rfl) ?_
  refine xA tb hM0 3 [2,3,5,7,63] [] rfl ?_
  refine spO 63 rfl ?_ ?_<;>intro h20'<;>try simp only [dq] at h20'
  refine xA tb hM0 5 [2,3,5,7,66] [] rfl ?_
  refine spC 66 rfl ?_ ?_<;>intro h21<;>try simp only [dq] at h21
  refine xA tb hM0 5 [2,3,7] [] rfl ?_
  refine code_draw mixed (by kernel_rfl) _ rfl ?_
  refine dl_pure rfl rfl rfl (pure_field rfl fd25_2 rfl) ?_
  refine dl_pure rfl rfl rfl (pure_load rfl ag23 rfl rfl) ?_
  refine dl_pure rfl rfl rfl (pure_move rfl rfl) ?_
  refine dl_pure rfl rfl rfl (pure_ix rfl Tryz.underlying23 sz25 rfl rfl (by omega) (fun _=>rfl)) ?_
  refine dl_pure rfl rfl rfl (pure_load_agg rfl ag25 sz25 rfl (Nat.le_of_ble_eq_true rfl)) ?_
  refine dl_pure rfl rfl rfl (pure_field rfl fd25_2 rfl) ?_
  refine dl_pure rfl rfl rfl (pure_load rfl ag23 rfl rfl) ?_
  refine dpk 90 [(2,_),(3,_),(7,_),(73,_),(75,_)] [] rfl rfl rfl ?_
  refine dl_pure rfl rfl rfl (pure_move rfl rfl) ?_
  refine dl_pure rfl rfl rfl (pure_ix rfl Tryz.underlying23 sz25 rfl rfl (by omega) (fun _=>rfl)) ?_
  refine dl_pure rfl rfl rfl (pure_load_agg rfl ag25 sz25 rfl (Nat.le_of_ble_eq_true rfl)) ?_
  refine dl_pure rfl rfl rfl (pure_call rfl rfl rfl (ih _ _ (Nat.le_of_lt_succ (Nat.lt_of_lt_of_le (kid_lt (by omega)) hr)) (by omega) (Nat.le_trans (Nat.le_of_lt (kid_lt (by omega))) hbs)) hM0) ?_
  refine dl_pure rfl rfl rfl (pure_assign rfl rfl) ?_
  refine dl_nil ?_
  refine xD tb hM0 4 [2,3,5,67] [] rfl ?_
  refine oP rfl (pure_addi rfl rfl rfl (by omega)) ?_
  refine xA tb hM0 2 [2,3,5,7] [] rfl ?_
  refine nx ?_;rotate_left
  refine xA tb hM0 13 [2,3,5,81] [] rfl ?_
  refine spC 81 rfl ?_ ?_<;>intro h22<;>try simp only [dq] at h22
  refine xA tb hM0 4 [3,83] [] rfl ?_
  refine oP rfl (pure_lenm rfl Tryz.underlying23 rfl) ?_
  refine xA tb hM0 2 [84,86] [] rfl ?_
  refine oP rfl (pure_lenm rfl Tryz.underlying23 rfl) ?_
  refine oP rfl (pure_call rfl rfl rfl (orderI_call) hM0) ?_
  refine xA tb hM0 10 [] [] rfl ?_
  refine end_ret rfl ?_;rotate_left
  refine xA tb hM0 10 [] [] rfl ?_
  refine end_ret rfl ?_;rotate_left
  refine xA tb hM0 18 [2,3,5,81] [] rfl ?_
  refine spC 81 rfl ?_ ?_<;>intro h23<;>try simp only [dq] at h23
  refine xA tb hM0 4 [3,83] [] rfl ?_
  refine oP rfl (pure_lenm rfl Tryz.underlying23 rfl) ?_
  refine xA tb hM0 2 [84,86] [] rfl ?_
  refine oP rfl (pure_lenm rfl Tryz.underlying23 rfl) ?_
  refine oP rfl (pure_call rfl rfl rfl (orderI_call) hM0) ?_
  refine xA tb hM0 10 [] [] rfl ?_
  refine end_ret rfl ?_;rotate_left
  refine xA tb hM0 10 [] [] rfl ?_
  refine end_ret rfl ?_;rotate_left
  refine xA tb hM0 25 [2,3,5,81] [] rfl ?_
  refine spC 81 rfl ?_ ?_<;>intro h24<;>try simp only [dq] at h24
  refine xA tb hM0 4 [3,83] [] rfl ?_
  refine oP rfl (pure_lenm rfl Tryz.underlying23 rfl) ?_
  refine xA tb hM0 2 [84,86] [] rfl ?_
  refine oP rfl (pure_lenm rfl Tryz.underlying23 rfl) ?_
  refine oP rfl (pure_call rfl rfl rfl (orderI_call) hM0) ?_
  refine xA tb hM0 10 [] [] rfl ?_
  refine end_ret rfl ?_;rotate_left
  refine xA tb hM0 10 [] [] rfl ?_
  refine end_ret rfl ?_;rotate_left
  all_goals first
   | (
     first|(exfalso;omega)|exact ⟨_,thn_end hL1_2 (by omega),rfl⟩|exact ⟨_,thn_ord hL1_2 (by omega) hL1_0 hL1_1 (by omega),rfl⟩;done)
   | (
     exact ⟨_,⟨i+1,_,rfl,by omega,by omega,thn_cmpS hL2_2 (by omega) (by omega) (by omega),rfl⟩,by omega⟩;done)
   | (
     first|(exfalso;omega)|exact congrArg (fun z=>RV.p (int z)) (thn_end hL2_2 (by omega))|exact congrArg (fun z=>RV.p (int z)) (thn_cmp hL2_2 (by omega) hL2_0 hL2_1 (by omega));done)
end Go.Proofs.YtgdehkimfmfofaaGreat

namespace Go.Proofs.YtgdehkimfmfofaaGreat
open Go.Am Go.Wb

theorem fn18:Fn1 Tryz.prog 18 Tryz.f18.ntmps 4 (Tryz.f18.body.getD .skip):=⟨Tryz.f18,Tryz.func18,rfl,rfl,rfl,by kernel_rfl⟩
set_option maxRecDepth 100000 in
set_option maxHeartbeats 1000000 in
theorem same_call {a b:Rx} (ha:a.size≤1099511627776) (hb:b.size≤1099511627776):CallF Tryz.prog 18 [rx a,rx b] (.p (bool (decide (cmpR a b=0)))):=by
  refine callF_of_code fn18 (Nat.le_of_ble_eq_true rfl) fun w0 M0 hM0=>?_
  refine xC tb hM0 2 [0,1] [] rfl ?_
  refine oP rfl (pure_box rfl rfl rfl hM0) ?_
  refine oP rfl (pure_box rfl rfl rfl hM0) ?_
  refine xA tb hM0 7 [5,6] [] rfl ?_
  refine oP rfl (pure_call rfl rfl rfl (rcompare_call _ _ _ ha (Nat.le_refl _) hb) hM0) ?_
  refine xA tb hM0 5 [] [] rfl ?_
  refine end_ret rfl ?_
  rfl

theorem fn15:Fn1 Tryz.prog 15 Tryz.f15.ntmps 2 (Tryz.f15.body.getD .skip):=⟨Tryz.f15,Tryz.func15,rfl,rfl,rfl,by kernel_rfl⟩
set_option maxRecDepth 100000 in
set_option maxHeartbeats 4000000 in
theorem rvalid_call:∀ (m:Nat) (r:Rx),r.size≤m→m≤1099511627776→CallF Tryz.prog 15 [rx r] (.p (bool (validR r))):=by
  intro m
  induction m with
  | zero=>intro a hr _;have:=size_pos a;omega
  | succ m ih =>
  intro r hr hm
  have hkl:=kids_len r
  have hsl:=syms_len r
  rw [rx_eq r]
  refine callF_of_code fn15 (Nat.le_of_ble_eq_true rfl) fun w0 M0 hM0=>?_
  refine xC tb hM0 2 [0] [] rfl ?_
  refine oP rfl (pure_box rfl rfl rfl hM0) ?_
  refine xA tb hM0 10 [1,7] [] rfl ?_
  refine spO 7 rfl ?_ ?_<;>intro h1'<;>try simp only [dq] at h1'
  refine xA tb hM0 14 [] [] rfl ?_
  refine end_ret rfl ?_;rotate_left
  refine xA tb hM0 6 [1,11] [] rfl ?_
  refine spC 11 rfl ?_ ?_<;>intro h2<;>try simp only [dq] at h2
  refine xA tb hM0 8 [] [] rfl ?_
  refine end_ret rfl ?_;rotate_left
  refine xA tb hM0 11 [1,14] [] rfl ?_
  refine spC 14 rfl ?_ ?_<;>intro h3<;>try simp only [dq] at h3
  refine xA tb hM0 5 [1,16] [] rfl ?_
  refine oP rfl (pure_call rfl rfl rfl (rset_call (by omega)) hM0) ?_
  refine xA tb hM0 1 [1,18] [] rfl ?_
  refine spO 18 rfl ?_ ?_<;>intro h4'<;>try simp only [dq] at h4'
  refine xA tb hM0 2 [18,20] [] rfl ?_
  refine oP rfl (pure_lenm rfl Tryz.underlying23 rfl) ?_
  refine xA tb hM0 7 [] [] rfl ?_
  refine end_ret rfl ?_;rotate_left
  refine xA tb hM0 10 [] [] rfl ?_
  refine end_ret rfl ?_;rotate_left
  refine xA tb hM0 3 [1] [] rfl ?_
  refine ct (fun zs=>∃ z:Nat,(validR r=validRs r.kids)∧zs=⟨64,[(1,.v .mx (rpc r))],[]⟩) ?_ ?_
  refine xA tb hM0 4 [1,25] [] rfl ?_
  refine oP rfl (pure_lenm rfl Tryz.underlying22 rfl) ?_
  refine xA tb hM0 2 [1,28] [] rfl ?_
  refine spO 28 rfl ?_ ?_<;>intro h5'<;>try simp only [dq] at h5'
  refine xA tb hM0 31 [] [] rfl ?_
  refine end_ret rfl ?_;rotate_left
  refine xA tb hM0 4 [1,28,32] [] rfl ?_
  refine spO 32 rfl ?_ ?_<;>intro h6'<;>try simp only [dq] at h6'
  refine xA tb hM0 2 [1,28,32,34] [] rfl ?_
  refine oP rfl (pure_lenm rfl Tryz.underlying23 rfl) ?_
  refine xA tb hM0 4 [1,39] [] rfl ?_
  refine spO 39 rfl ?_ ?_<;>intro h7'<;>try simp only [dq] at h7'
  refine xA tb hM0 20 [] [] rfl ?_
  refine end_ret rfl ?_;rotate_left
  refine xA tb hM0 4 [1,39,43] [] rfl ?_
  refine spO 43 rfl ?_ ?_<;>intro h8'<;>try simp only [dq] at h8'
  refine xA tb hM0 2 [1,39,43,45] [] rfl ?_
  refine oP rfl (pure_lenm rfl Tryz.underlying23 rfl) ?_
  refine xA tb hM0 5 [1,49] [] rfl ?_
  refine spC 49 rfl ?_ ?_<;>intro h9<;>try simp only [dq] at h9
  refine xA tb hM0 8 [] [] rfl ?_
  refine end_ret rfl ?_;rotate_left
  refine xA tb hM0 2 [1] [] rfl ?_
  refine cx ?_;rotate_left
  refine xA tb hM0 10 [1] [] rfl ?_
  refine cx ?_;rotate_left
  refine xA tb hM0 11 [1,39,43] [] rfl ?_
  refine spO 43 rfl ?_ ?_<;>intro h10'<;>try simp only [dq] at h10'
  refine xA tb hM0 2 [1,39,43,45] [] rfl ?_
  refine oP rfl (pure_lenm rfl Tryz.underlying23 rfl) ?_
  refine xA tb hM0 5 [1,49] [] rfl ?_
  refine spC 49 rfl ?_ ?_<;>intro h11<;>try simp only [dq] at h11
  refine xA tb hM0 8 [] [] rfl ?_
  refine end_ret rfl ?_;rotate_left
  refine xA tb hM0 2 [1] [] rfl ?_
  refine cx ?_;rotate_left
  refine xA tb hM0 10 [1] [] rfl ?_
  refine cx ?_;rotate_left
  rintro zs ⟨z,hC7_0,rfl⟩
  refine xA tb hM0 7 [1,3] [] rfl ?_
  refine lp (fun zm zs=>∃ i:Nat,zm=r.kids.length-i∧(i≤r.kids.length)∧(∀ j,j<i→validR (r.kids.getD j default)=true)∧zs=⟨64,[(1,.v .mx (rpc r)),(3,.v .pl (int i))],[]⟩) ?_ ?_
  exact ⟨_,0,rfl,Nat.zero_le _,fun j hj=>absurd hj (by omega),rfl⟩
  rintro zm zs ⟨i,rfl,hL1_0,hL1_1,rfl⟩
  refine xA tb hM0 6 [1,3,50,52] [] rfl ?_
  refine oP rfl (pure_lenm rfl Tryz.underlying23 rfl) ?_
  refine xA tb hM0 3 [1,3,54] [] rfl ?_
  refine spC 54 rfl ?_ ?_<;>intro h12<;>try simp only [dq] at h12
  refine xA tb hM0 10 [1,3,58,59] [] rfl ?_
  refine oP rfl (pure_ix rfl Tryz.underlying23 sz25 rfl rfl (by omega) (fun _=>rfl)) ?_
  refine xA tb hM0 1 [1,3,61] [] rfl ?_
  refine oP rfl (pure_call rfl rfl rfl (ih _ (Nat.le_of_lt_succ (Nat.lt_of_lt_of_le (kid_lt (by omega)) hr)) (by omega)) hM0) ?_
  refine xA tb hM0 3 [1,3,63] [] rfl ?_
  refine spC 63 rfl ?_ ?_<;>intro h13<;>try simp only [dq] at h13
  refine xA tb hM0 12 [] [] rfl ?_
  refine end_ret rfl ?_;rotate_left
  refine xA tb hM0 6 [1,55] [] rfl ?_
  refine oP rfl (pure_addi rfl rfl rfl (by omega)) ?_
  refine xA tb hM0 2 [1,3] [] rfl ?_
  refine nx ?_
  exact ⟨_,⟨i+1,rfl,by omega,all_step hL1_1 (by simp_all),rfl⟩,by omega⟩
  refine xA tb hM0 12 [] [] rfl ?_
  refine end_ret rfl ?_;rotate_left
  all_goals first
   | (
     first|rw [hC7_0,validRs_no (i:=i) (by omega) (by simp_all)]|rw [hC7_0,validRs_end (fun j hj=>hL1_1 j (by omega))]|(rw [validR_eq,if_pos (by omega)];done)|(rw [validR_eq,if_neg (by omega),if_pos (by omega)];simp_all;done)|(rw [validR_eq,if_neg (by omega),if_neg (by omega),if_pos (by omega)];done);done)
   | (
     exact ⟨0,by rw [validR_eq,if_neg (by omega),if_neg (by omega),if_neg (by omega)],rfl⟩;done)
end Go.Proofs.YtgdehkimfmfofaaGreat

namespace Go.Proofs.YtgdehkimfmfofaaGreat
open Go.Am Go.Wb

theorem fn73:Fn1 Tryz.prog 73 Tryz.f73.ntmps 4 (Tryz.f73.body.getD .skip):=⟨Tryz.f73,Tryz.func73,rfl,rfl,rfl,by kernel_rfl⟩
set_option maxRecDepth 100000 in
set_option maxHeartbeats 1000000 in
theorem idxR_call {l:List Rx} {p:Rx→Bool} {g:FuncId} (hl:l.length≤1099511627776) (hf:∀ x∈l,CallF Tryz.prog g [rx x] (.p (bool (p x)))):CallF Tryz.prog 73 [rxs l,.clo g []] (.p (int (idxF p l))):=by
  refine callF_of_code fn73 (Nat.le_of_ble_eq_true rfl) fun w0 M0 hM0=>?_
  refine xC tb hM0 9 [0,1,6] [] rfl ?_
  refine oP rfl (pure_lenm rfl Tryz.underlying23 rfl) ?_
  refine xA tb hM0 4 [0,1,7,8] [] rfl ?_
  refine lp (fun zm zs=>∃ k:Nat,zm=l.length-k∧(k≤l.length)∧(∀ j,j<k→p (l.getD j default)=false)∧zs=⟨19,[(0,.v .mx (rxs l)),(1,.v .mx (.clo g [])),(7,.v .pl (int l.length)),(8,.v .pl (int k))],[]⟩) ?_ ?_
  exact ⟨_,0,rfl,Nat.zero_le _,fun j hj=>absurd hj (by omega),rfl⟩
  rintro zm zs ⟨k,rfl,hL1_0,hL1_1,rfl⟩
  refine xA tb hM0 6 [0,1,7,8,9] [] rfl ?_
  refine spC 9 rfl ?_ ?_<;>intro h1<;>try simp only [dq] at h1
  refine xA tb hM0 16 [0,1,5,7,8,11,12,13] [] rfl ?_
  refine oP rfl (pure_ix rfl Tryz.underlying23 sz25 rfl rfl (by omega) (fun _=>rfl)) ?_
  refine xA tb hM0 1 [0,1,5,7,8,11,15] [] rfl ?_
  refine oP rfl (pure_call rfl rfl rfl (hf _ (kid_mem (by omega))) hM0) ?_
  refine xA tb hM0 2 [0,1,5,7,8,16] [] rfl ?_
  refine spC 16 rfl ?_ ?_<;>intro h2<;>try simp only [dq] at h2
  refine xA tb hM0 13 [] [] rfl ?_
  refine end_ret rfl ?_
  rw [← idxF_hit (p:=p) (l:=l) (k:=k) (by omega) hL1_1 (by simp_all)]
  refine xA tb hM0 5 [0,1,7,8] [] rfl ?_
  refine oP rfl (pure_addi rfl rfl rfl (by omega)) ?_
  refine xA tb hM0 2 [0,1,7,8] [] rfl ?_
  refine nx ?_
  exact ⟨_,⟨k+1,rfl,by omega,all_step hL1_1 (by simp_all),rfl⟩,by omega⟩
  refine xA tb hM0 12 [] [] rfl ?_
  refine end_ret rfl ?_
  rw [← idxF_none (p:=p) (l:=l) (fun j hj=>hL1_1 j (by omega))]

theorem fn45:Fn1 Tryz.prog 45 Tryz.f45.ntmps 4 (Tryz.f45.body.getD .skip):=⟨Tryz.f45,Tryz.func45,rfl,rfl,rfl,by kernel_rfl⟩
set_option maxRecDepth 100000 in
set_option maxHeartbeats 1000000 in
theorem hasR_call {l:List Rx} {p:Rx→Bool} {g:FuncId} (hl:l.length≤1099511627776) (hf:∀ x∈l,CallF Tryz.prog g [rx x] (.p (bool (p x)))):CallF Tryz.prog 45 [rxs l,.clo g []] (.p (bool (l.any p))):=by
  refine callF_of_code fn45 (Nat.le_of_ble_eq_true rfl) fun w0 M0 hM0=>?_
  refine xC tb hM0 9 [5,6] [] rfl ?_
  refine oP rfl (pure_call rfl rfl rfl (idxR_call hl hf) hM0) ?_
  refine xA tb hM0 5 [] [] rfl ?_
  refine end_ret rfl ?_
  rw [idxF_ge]
end Go.Proofs.YtgdehkimfmfofaaGreat

namespace Go.Proofs.YtgdehkimfmfofaaGreat
open Go.Am Go.Wb

end Go.Proofs.YtgdehkimfmfofaaGreat

