/-
  Contracts: sorting integers,sorting and reversing expressions.
-/
import Derived.Test.YtgdehkimfmfofaaGreatJ27
import Derived.Test.YtgdehkimfmfofaaGreatJ25
import Derived.Test.YtgdehkimfmfofaaGreatJ13
import Derived.Test.YtgdehkimfmfofaaGreatJ10
import Derived.Test.YtgdehkimfmfofaaGreatJ11
import Derived.Test.YtgdehkimfmfofaaGreatJ15
import Derived.Test.YtgdehkimfmfofaaGreatJ16
import Derived.Test.YtgdehkimfmfofaaGreatJ17
set_option linter.unusedVariables false
set_option linter.unusedSectionVars false
set_option linter.unusedSimpArgs false
namespace Go.Proofs.YtgdehkimfmfofaaGreat
open Go.Am Go.Wb

theorem fn46:Fn1 Tryz.prog 46 Tryz.f46.ntmps 2 (Tryz.f46.body.getD .skip):=⟨Tryz.f46,Tryz.func46,rfl,rfl,rfl,by kernel_rfl⟩
set_option maxRecDepth 100000 in
set_option maxHeartbeats 4000000 in
theorem validN_call {x:Rx} (h:CallF Tryz.prog 14 [rx x] (.p (bool (validR x)))):CallF Tryz.prog 46 [rx x] (.p (bool (!validR x))):=by
  refine callF_of_code fn46 (Nat.le_of_ble_eq_true rfl) fun w0 M0 hM0=>?_
  refine xC tb hM0 2 [0] [] rfl ?_
  refine oP rfl (pure_box rfl rfl rfl hM0) ?_
  refine xA tb hM0 6 [3] [] rfl ?_
  refine oP rfl (pure_call rfl rfl rfl (h) hM0) ?_
  refine xA tb hM0 5 [] [] rfl ?_
  refine end_ret rfl ?_
  rfl

theorem fn14:Fn1 Tryz.prog 14 Tryz.f14.ntmps 2 (Tryz.f14.body.getD .skip):=⟨Tryz.f14,Tryz.func14,rfl,rfl,rfl,by kernel_rfl⟩
set_option maxRecDepth 100000 in
set_option maxHeartbeats 4000000 in
theorem valid_call:∀ (m:Nat) (r:Rx),r.size≤m→m≤1099511627776→CallF Tryz.prog 14 [rx r] (.p (bool (validR r))):=by
  intro m
  induction m with
  | zero=>intro a hr _;have:=size_pos a;omega
  | succ m ih =>
  intro r hr hm
  have hkl:=kids_len r
  have hsl:=syms_len r
  rw [rx_eq r]
  refine callF_of_code fn14 (Nat.le_of_ble_eq_true rfl) fun w0 M0 hM0=>?_
  refine xC tb hM0 2 [0] [] rfl ?_
  refine oP rfl (pure_box rfl rfl rfl hM0) ?_
  refine xA tb hM0 18 [1,4,5] [] rfl ?_
  refine spC 5 rfl ?_ ?_<;>intro h1<;>try simp only [dq] at h1
  refine xA tb hM0 8 [1,9] [] rfl ?_
  refine oP rfl (pure_lenm rfl Tryz.underlying22 rfl) ?_
  refine xA tb hM0 2 [1,12] [] rfl ?_
  refine spO 12 rfl ?_ ?_<;>intro h2'<;>try simp only [dq] at h2'
  refine xA tb hM0 2 [12,14] [] rfl ?_
  refine oP rfl (pure_lenm rfl Tryz.underlying23 rfl) ?_
  refine xA tb hM0 8 [] [] rfl ?_
  refine end_ret rfl ?_;rotate_left
  refine xA tb hM0 11 [] [] rfl ?_
  refine end_ret rfl ?_;rotate_left
  refine xA tb hM0 6 [1,4,5] [] rfl ?_
  refine spC 5 rfl ?_ ?_<;>intro h3<;>try simp only [dq] at h3
  refine xA tb hM0 5 [1,9] [] rfl ?_
  refine oP rfl (pure_lenm rfl Tryz.underlying22 rfl) ?_
  refine xA tb hM0 2 [1,12] [] rfl ?_
  refine spO 12 rfl ?_ ?_<;>intro h4'<;>try simp only [dq] at h4'
  refine xA tb hM0 2 [12,14] [] rfl ?_
  refine oP rfl (pure_lenm rfl Tryz.underlying23 rfl) ?_
  refine xA tb hM0 8 [] [] rfl ?_
  refine end_ret rfl ?_;rotate_left
  refine xA tb hM0 11 [] [] rfl ?_
  refine end_ret rfl ?_;rotate_left
  refine xA tb hM0 7 [1,4,18] [] rfl ?_
  refine spC 18 rfl ?_ ?_<;>intro h5<;>try simp only [dq] at h5
  refine xA tb hM0 5 [1,21] [] rfl ?_
  refine oP rfl (pure_lenm rfl Tryz.underlying23 rfl) ?_
  refine xA tb hM0 2 [1,24] [] rfl ?_
  refine spO 24 rfl ?_ ?_<;>intro h6'<;>try simp only [dq] at h6'
  refine xA tb hM0 2 [24,26] [] rfl ?_
  refine oP rfl (pure_call rfl rfl rfl (set_call (by omega)) hM0) ?_
  refine xA tb hM0 7 [] [] rfl ?_
  refine end_ret rfl ?_;rotate_left
  refine xA tb hM0 10 [] [] rfl ?_
  refine end_ret rfl ?_;rotate_left
  refine xA tb hM0 7 [1,4,29] [] rfl ?_
  refine spC 29 rfl ?_ ?_<;>intro h7<;>try simp only [dq] at h7
  refine xA tb hM0 5 [1,32] [] rfl ?_
  refine oP rfl (pure_lenm rfl Tryz.underlying22 rfl) ?_
  refine xA tb hM0 2 [1,35] [] rfl ?_
  refine spO 35 rfl ?_ ?_<;>intro h8'<;>try simp only [dq] at h8'
  refine xA tb hM0 2 [1,35,37] [] rfl ?_
  refine oP rfl (pure_lenm rfl Tryz.underlying23 rfl) ?_
  refine xA tb hM0 3 [1,41] [] rfl ?_
  refine spO 41 rfl ?_ ?_<;>intro h9'<;>try simp only [dq] at h9'
  refine xA tb hM0 2 [41,43] [] rfl ?_
  refine oP rfl (pure_ix rfl Tryz.underlying23 sz25 rfl rfl (by omega) (fun _=>rfl)) ?_
  refine xA tb hM0 1 [41,45] [] rfl ?_
  refine oP rfl (pure_call rfl rfl rfl (ih _ (Nat.le_of_lt_succ (Nat.lt_of_lt_of_le (kid_lt (by omega)) hr)) (by omega)) hM0) ?_
  refine xA tb hM0 7 [] [] rfl ?_
  refine end_ret rfl ?_;rotate_left
  refine xA tb hM0 12 [] [] rfl ?_
  refine end_ret rfl ?_;rotate_left
  refine xA tb hM0 18 [] [] rfl ?_
  refine end_ret rfl ?_;rotate_left
  refine xA tb hM0 8 [1,4,48] [] rfl ?_
  refine spC 48 rfl ?_ ?_<;>intro h10<;>try simp only [dq] at h10
  refine xA tb hM0 8 [1,52] [] rfl ?_
  refine oP rfl (pure_lenm rfl Tryz.underlying22 rfl) ?_
  refine xA tb hM0 2 [1,55] [] rfl ?_
  refine spO 55 rfl ?_ ?_<;>intro h11'<;>try simp only [dq] at h11'
  refine xA tb hM0 2 [55,57] [] rfl ?_
  refine oP rfl (pure_call rfl rfl rfl (hasR_call (p:=fun x=>!validR x) (by omega) (fun x hx=>validN_call (ih _ (Nat.le_of_lt_succ (Nat.lt_of_lt_of_le (size_kid hx) hr)) (by omega)))) hM0) ?_
  refine xA tb hM0 8 [] [] rfl ?_
  refine end_ret rfl ?_;rotate_left
  refine xA tb hM0 11 [] [] rfl ?_
  refine end_ret rfl ?_;rotate_left
  refine xA tb hM0 6 [1,48] [] rfl ?_
  refine spC 48 rfl ?_ ?_<;>intro h12<;>try simp only [dq] at h12
  refine xA tb hM0 5 [1,52] [] rfl ?_
  refine oP rfl (pure_lenm rfl Tryz.underlying22 rfl) ?_
  refine xA tb hM0 2 [1,55] [] rfl ?_
  refine spO 55 rfl ?_ ?_<;>intro h13'<;>try simp only [dq] at h13'
  refine xA tb hM0 2 [55,57] [] rfl ?_
  refine oP rfl (pure_call rfl rfl rfl (hasR_call (p:=fun x=>!validR x) (by omega) (fun x hx=>validN_call (ih _ (Nat.le_of_lt_succ (Nat.lt_of_lt_of_le (size_kid hx) hr)) (by omega)))) hM0) ?_
  refine xA tb hM0 8 [] [] rfl ?_
  refine end_ret rfl ?_;rotate_left
  refine xA tb hM0 11 [] [] rfl ?_
  refine end_ret rfl ?_;rotate_left
  refine xA tb hM0 10 [] [] rfl ?_
  refine end_ret rfl ?_;rotate_left
  all_goals
    first|(rw [validR_01 (r:=r) (by omega)];simp_all;done)|(rw [validR_2 (r:=r) (by omega)];simp_all;done)|(rw [validR_5 (r:=r) (by omega),decide_eq_true (p:=r.syms.length=0) (by omega),decide_eq_true (p:=r.kids.length=1) (by omega)];first|rfl|(simp_all;done))|(rw [validR_5 (r:=r) (by omega),decide_eq_false (p:=r.kids.length=1) (by omega),Bool.false_and,Bool.and_false];first|done|rfl|(simp_all;done))|(rw [validR_5 (r:=r) (by omega),decide_eq_false (p:=r.syms.length=0) (by omega),Bool.false_and];first|done|rfl|(simp_all;done))|(rw [validR_34 (r:=r) (by omega)];simp_all;done)|(rw [validR_no (r:=r) (by omega)];done)

theorem fn74:Fn1 Tryz.prog 74 Tryz.f74.ntmps 2 (Tryz.f74.body.getD .skip):=⟨Tryz.f74,Tryz.func74,rfl,rfl,rfl,by kernel_rfl⟩
set_option maxRecDepth 100000 in
set_option maxHeartbeats 4000000 in
theorem emptyN_call {x:Rx} (h:CallF Tryz.prog 48 [rx x] (.p (bool (accR x)))):CallF Tryz.prog 74 [rx x] (.p (bool (!accR x))):=by
  refine callF_of_code fn74 (Nat.le_of_ble_eq_true rfl) fun w0 M0 hM0=>?_
  refine xC tb hM0 2 [0] [] rfl ?_
  refine oP rfl (pure_box rfl rfl rfl hM0) ?_
  refine xA tb hM0 6 [3] [] rfl ?_
  refine oP rfl (pure_call rfl rfl rfl (h) hM0) ?_
  refine xA tb hM0 5 [] [] rfl ?_
  refine end_ret rfl ?_
  rfl

theorem fn48:Fn1 Tryz.prog 48 Tryz.f48.ntmps 2 (Tryz.f48.body.getD .skip):=⟨Tryz.f48,Tryz.func48,rfl,rfl,rfl,by kernel_rfl⟩
set_option maxRecDepth 100000 in
set_option maxHeartbeats 4000000 in
theorem empty_call:∀ (m:Nat) (r:Rx),r.size≤m→m≤1099511627776→CallF Tryz.prog 48 [rx r] (.p (bool (accR r))):=by
  intro m
  induction m with
  | zero=>intro a hr _;have:=size_pos a;omega
  | succ m ih =>
  intro r hr hm
  have hkl:=kids_len r
  have hsl:=syms_len r
  rw [rx_eq r]
  refine callF_of_code fn48 (Nat.le_of_ble_eq_true rfl) fun w0 M0 hM0=>?_
  refine xC tb hM0 2 [0] [] rfl ?_
  refine oP rfl (pure_box rfl rfl rfl hM0) ?_
  refine xA tb hM0 18 [1,4,5] [] rfl ?_
  refine spC 5 rfl ?_ ?_<;>intro h1<;>try simp only [dq] at h1
  refine xA tb hM0 12 [] [] rfl ?_
  refine end_ret rfl ?_;rotate_left
  refine xA tb hM0 6 [1,4,5] [] rfl ?_
  refine spC 5 rfl ?_ ?_<;>intro h2<;>try simp only [dq] at h2
  refine xA tb hM0 9 [] [] rfl ?_
  refine end_ret rfl ?_;rotate_left
  refine xA tb hM0 7 [1,4,8] [] rfl ?_
  refine spC 8 rfl ?_ ?_<;>intro h3<;>try simp only [dq] at h3
  refine xA tb hM0 5 [11] [] rfl ?_
  refine oP rfl (pure_call rfl rfl rfl (hasR_call (p:=fun x=>!accR x) (by omega) (fun x hx=>emptyN_call (ih _ (Nat.le_of_lt_succ (Nat.lt_of_lt_of_le (size_kid hx) hr)) (by omega)))) hM0) ?_
  refine xA tb hM0 7 [] [] rfl ?_
  refine end_ret rfl ?_;rotate_left
  refine xA tb hM0 7 [1,14] [] rfl ?_
  refine spC 14 rfl ?_ ?_<;>intro h4<;>try simp only [dq] at h4
  refine xA tb hM0 5 [17] [] rfl ?_
  refine oP rfl (pure_call rfl rfl rfl (hasR_call (p:=accR) (by omega) (fun x hx=>(ih _ (Nat.le_of_lt_succ (Nat.lt_of_lt_of_le (size_kid hx) hr)) (by omega)))) hM0) ?_
  refine xA tb hM0 6 [] [] rfl ?_
  refine end_ret rfl ?_;rotate_left
  refine xA tb hM0 10 [] [] rfl ?_
  refine end_ret rfl ?_;rotate_left
  all_goals
    rw [accR_eq];first|(rw [if_pos (by omega),all_not_any];done)|(rw [if_neg (by omega),if_pos (by omega)];done)|(rw [if_neg (by omega),if_neg (by omega)];simp_all;done)|(rw [if_neg (by omega),if_neg (by omega),decide_eq_false (by omega)];done)

theorem fn16:Fn1 Tryz.prog 16 Tryz.f16.ntmps 2 (Tryz.f16.body.getD .skip):=⟨Tryz.f16,Tryz.func16,rfl,rfl,rfl,by kernel_rfl⟩
set_option maxRecDepth 100000 in
set_option maxHeartbeats 4000000 in
theorem Empty_call {r:Rx} (h:r.size≤1099511627776):CallF Tryz.prog 16 [rx r] (.p (bool (validR r&&accR r))):=by
  refine callF_of_code fn16 (Nat.le_of_ble_eq_true rfl) fun w0 M0 hM0=>?_
  refine xC tb hM0 2 [0] [] rfl ?_
  refine oP rfl (pure_box rfl rfl rfl hM0) ?_
  refine xA tb hM0 6 [1,3] [] rfl ?_
  refine oP rfl (pure_call rfl rfl rfl (valid_call _ _ (Nat.le_refl _) h) hM0) ?_
  refine xA tb hM0 1 [1,5] [] rfl ?_
  refine spO 5 rfl ?_ ?_<;>intro h1'<;>try simp only [dq] at h1'
  refine xA tb hM0 1 [5,6] [] rfl ?_
  refine oP rfl (pure_call rfl rfl rfl (empty_call _ _ (Nat.le_refl _) h) hM0) ?_
  refine xA tb hM0 5 [] [] rfl ?_
  refine end_ret rfl ?_
  simp_all
  refine xA tb hM0 7 [] [] rfl ?_
  refine end_ret rfl ?_
  simp_all

end Go.Proofs.YtgdehkimfmfofaaGreat

namespace Go.Proofs.YtgdehkimfmfofaaGreat
open Go.Am Go.Wb

theorem fn139:Fn1 Tryz.prog 139 Tryz.f139.ntmps 2 (Tryz.f139.body.getD .skip):=⟨Tryz.f139,Tryz.func139,rfl,rfl,rfl,by kernel_rfl⟩
theorem isnan_call {x:Int}:CallF Tryz.prog 139 [int x] (.p (bool false)):=by
  refine callF_of_code fn139 (Nat.le_of_ble_eq_true rfl) fun w0 M0 hM0=>?_
  refine xC tb hM0 14 [] [] rfl ?_
  refine end_ret rfl ?_
  rw [decide_eq_true rfl];rfl

theorem fn136:Fn1 Tryz.prog 136 Tryz.f136.ntmps 4 (Tryz.f136.body.getD .skip):=⟨Tryz.f136,Tryz.func136,rfl,rfl,rfl,by kernel_rfl⟩
theorem cmp_call {x y:Int}:CallF Tryz.prog 136 [int x,int y] (.p (int (orderI x y))):=by
  refine callF_of_code fn136 (Nat.le_of_ble_eq_true rfl) fun w0 M0 hM0=>?_
  refine xC tb hM0 8 [0,1,7] [] rfl ?_
  refine oP rfl (pure_call rfl rfl rfl (isnan_call) hM0) ?_
  refine xA tb hM0 6 [0,1,5,9] [] rfl ?_
  refine oP rfl (pure_call rfl rfl rfl (isnan_call) hM0) ?_
  refine xA tb hM0 9 [0,1,6,11] [] rfl ?_
  refine spC 11 rfl ?_ ?_<;>intro h1<;>try simp only [dq] at h1
  cases h1 --done
  refine xA tb hM0 9 [0,1,13] [] rfl ?_
  refine spC 13 rfl ?_ ?_<;>intro h2<;>try simp only [dq] at h2
  cases h2 --done
  refine xA tb hM0 11 [0,1,16] [] rfl ?_
  refine spC 16 rfl ?_ ?_<;>intro h3<;>try simp only [dq] at h3
  refine xA tb hM0 8 [] [] rfl ?_
  refine end_ret rfl ?_;rotate_left
  refine xA tb hM0 11 [19] [] rfl ?_
  refine spC 19 rfl ?_ ?_<;>intro h4<;>try simp only [dq] at h4
  refine xA tb hM0 8 [] [] rfl ?_
  refine end_ret rfl ?_;rotate_left
  refine xA tb hM0 9 [] [] rfl ?_
  refine end_ret rfl ?_;rotate_left
  all_goals
    unfold orderI;first|rw [if_pos (by assumption)]|(rw [if_neg (by assumption),if_pos (by omega)];done)|(rw [if_neg (by assumption),if_neg (by omega)];done)

theorem fn135:Fn1 Tryz.prog 135 Tryz.f135.ntmps 2 (Tryz.f135.body.getD .skip):=⟨Tryz.f135,Tryz.func135,rfl,rfl,rfl,by kernel_rfl⟩
set_option maxRecDepth 100000 in
set_option maxHeartbeats 1000000 in
theorem or_call {l:List Int} (hl:l.length≤1099511627776):CallF Tryz.prog 135 [ints l] (.p (int (orI l))):=by
  refine callF_of_code fn135 (Nat.le_of_ble_eq_true rfl) fun w0 M0 hM0=>?_
  refine xC tb hM0 14 [3,6] [] rfl ?_
  refine oP rfl (pure_lenm rfl Tryz.underlying22 rfl) ?_
  refine xA tb hM0 4 [3,6,7,8] [] rfl ?_
  refine lp (fun zm zs=>∃ k:Nat,zm=l.length-k∧(k≤l.length)∧(orI l=orI (l.drop k))∧zs=⟨18,[(3,.v .pl (int 0)),(6,.v .mx (ints l)),(7,.v .pl (int l.length)),(8,.v .pl (int k))],[]⟩) ?_ ?_
  exact ⟨_,0,rfl,Nat.zero_le _,rfl,rfl⟩
  rintro zm zs ⟨k,rfl,hL1_0,hL1_1,rfl⟩
  refine xA tb hM0 6 [3,6,7,8,9] [] rfl ?_
  refine spC 9 rfl ?_ ?_<;>intro h1<;>try simp only [dq] at h1
  refine xA tb hM0 7 [3,6,7,8] [] rfl ?_
  refine oP rfl (pure_ix rfl Tryz.underlying22 sz3 rfl rfl (by omega) (fun _=>rfl)) ?_
  refine xA tb hM0 11 [3,5,6,7,8,14] [] rfl ?_
  refine spC 14 rfl ?_ ?_<;>intro h2<;>try simp only [dq] at h2
  refine xA tb hM0 13 [] [] rfl ?_
  refine end_ret rfl ?_
  rw [hL1_1,orI_step (by omega),thn_ne (by assumption)]
  refine xA tb hM0 5 [3,6,7,8] [] rfl ?_
  refine oP rfl (pure_addi rfl rfl rfl (by omega)) ?_
  refine xA tb hM0 2 [3,6,7,8] [] rfl ?_
  refine nx ?_
  exact ⟨_,⟨k+1,rfl,by omega,by rw [hL1_1,orI_step (by omega),thn_zero (by omega)],rfl⟩,by omega⟩
  refine xA tb hM0 13 [] [] rfl ?_
  refine end_ret rfl ?_
  rw [hL1_1,List.drop_of_length_le (by omega)];rfl

theorem fn137:Fn1 Tryz.prog 137 Tryz.f137.ntmps 4 (Tryz.f137.body.getD .skip):=⟨Tryz.f137,Tryz.func137,rfl,rfl,rfl,by kernel_rfl⟩
set_option maxRecDepth 100000 in
set_option maxHeartbeats 1000000 in
theorem scompare_call {a b:List Int} (ha:a.length≤1099511627776) (hb:b.length≤1099511627776):CallF Tryz.prog 137 [ints a,ints b] (.p (int (orderL a b))):=by
  refine callF_of_code fn137 (Nat.le_of_ble_eq_true rfl) fun w0 M0 hM0=>?_
  refine xC tb hM0 9 [0,1,9] [] rfl ?_
  refine oP rfl (pure_lenm rfl Tryz.underlying22 rfl) ?_
  refine xA tb hM0 4 [0,1,9,10,11] [] rfl ?_
  refine lp (fun zm zs=>∃ k:Nat,zm=a.length-k∧(k≤a.length)∧(k≤b.length)∧(orderL a b=orderL (a.drop k) (b.drop k))∧zs=⟨36,[(0,.v .mx (ints a)),(1,.v .mx (ints b)),(9,.v .mx (ints a)),(10,.v .pl (int a.length)),(11,.v .pl (int k))],[]⟩) ?_ ?_
  exact ⟨_,0,rfl,Nat.zero_le _,Nat.zero_le _,rfl,rfl⟩
  rintro zm zs ⟨k,rfl,hL1_0,hL1_1,hL1_2,rfl⟩
  refine xA tb hM0 6 [0,1,9,10,11,12] [] rfl ?_
  refine spC 12 rfl ?_ ?_<;>intro h1<;>try simp only [dq] at h1
  refine xA tb hM0 8 [0,1,9,10,11,13] [] rfl ?_
  refine oP rfl (pure_ix rfl Tryz.underlying22 sz3 rfl rfl (by omega) (fun _=>rfl)) ?_
  refine xA tb hM0 10 [0,1,5,6,9,10,11,16,17] [] rfl ?_
  refine oP rfl (pure_lenm rfl Tryz.underlying22 rfl) ?_
  refine xA tb hM0 3 [0,1,5,6,9,10,11,19] [] rfl ?_
  refine spC 19 rfl ?_ ?_<;>intro h2<;>try simp only [dq] at h2
  refine xA tb hM0 13 [] [] rfl ?_
  refine end_ret rfl ?_;rotate_left
  refine xA tb hM0 7 [0,1,6,9,10,11,20,21] [] rfl ?_
  refine oP rfl (pure_ix rfl Tryz.underlying22 sz3 rfl rfl (by omega) (fun _=>rfl)) ?_
  refine xA tb hM0 8 [0,1,9,10,11,24,25] [] rfl ?_
  refine oP rfl (pure_call rfl rfl rfl (cmp_call) hM0) ?_
  refine xA tb hM0 9 [0,1,8,9,10,11,28] [] rfl ?_
  refine spC 28 rfl ?_ ?_<;>intro h3<;>try simp only [dq] at h3
  refine xA tb hM0 13 [] [] rfl ?_
  refine end_ret rfl ?_;rotate_left
  refine xA tb hM0 5 [0,1,9,10,11] [] rfl ?_
  refine oP rfl (pure_addi rfl rfl rfl (by omega)) ?_
  refine xA tb hM0 2 [0,1,9,10,11] [] rfl ?_
  refine nx ?_
  exact ⟨_,⟨k+1,rfl,by omega,by omega,by rw [hL1_2,orderL_step (by omega) (by omega),thn_zero (by omega)],rfl⟩,by omega⟩
  refine xA tb hM0 10 [1,31] [] rfl ?_
  refine oP rfl (pure_lenm rfl Tryz.underlying22 rfl) ?_
  refine xA tb hM0 1 [32,33] [] rfl ?_
  refine oP rfl (pure_lenm rfl Tryz.underlying22 rfl) ?_
  refine xA tb hM0 3 [35] [] rfl ?_
  refine spC 35 rfl ?_ ?_<;>intro h4<;>try simp only [dq] at h4
  refine xA tb hM0 8 [] [] rfl ?_
  refine end_ret rfl ?_;rotate_left
  refine xA tb hM0 9 [] [] rfl ?_
  refine end_ret rfl ?_;rotate_left
  all_goals
    rw [hL1_2];first|(rw [orderL_end (by omega) (by omega) (by omega),orderI_gt (by omega)];done)|(rw [orderL_step (by omega) (by omega),thn_ne (by assumption)];done)|(rw [orderL_end (by omega) (by omega) (by omega),orderI_lt (by omega)];done)|(rw [orderL_end (by omega) (by omega) (by omega),show a.length=b.length by omega,orderI_nn])

theorem fn138:Fn1 Tryz.prog 138 Tryz.f138.ntmps 6 (Tryz.f138.body.getD .skip):=⟨Tryz.f138,Tryz.func138,rfl,rfl,rfl,by kernel_rfl⟩
set_option maxRecDepth 100000 in
set_option maxHeartbeats 1000000 in
theorem cfun_call {a b:List Rx} {g:FuncId} (ha:a.length≤1099511627776) (hb:b.length≤1099511627776) (hf:∀ x∈a,∀ y∈b,CallF Tryz.prog g [rx x,rx y] (.p (int (cmpR x y)))) :
    CallF Tryz.prog 138 [rxs a,rxs b,.clo g []] (.p (int (cmpRs a b))):=by
  refine callF_of_code fn138 (Nat.le_of_ble_eq_true rfl) fun w0 M0 hM0=>?_
  refine xC tb hM0 9 [0,1,2,11] [] rfl ?_
  refine oP rfl (pure_lenm rfl Tryz.underlying23 rfl) ?_
  refine xA tb hM0 4 [0,1,2,11,12,13] [] rfl ?_
  refine lp (fun zm zs=>∃ k:Nat,zm=a.length-k∧(k≤a.length)∧(k≤b.length)∧(cmpRs a b=cmpRs (a.drop k) (b.drop k))∧zs=⟨39,[(0,.v .mx (rxs a)),(1,.v .mx (rxs b)),(2,.v .mx (.clo g [])),(11,.v .mx (rxs a)),(12,.v .pl (int a.length)),(13,.v .pl (int k))],[]⟩) ?_ ?_
  exact ⟨_,0,rfl,Nat.zero_le _,Nat.zero_le _,rfl,rfl⟩
  rintro zm zs ⟨k,rfl,hL1_0,hL1_1,hL1_2,rfl⟩
  refine xA tb hM0 6 [0,1,2,11,12,13,14] [] rfl ?_
  refine spC 14 rfl ?_ ?_<;>intro h1<;>try simp only [dq] at h1
  refine xA tb hM0 8 [0,1,2,11,12,13,15] [] rfl ?_
  refine oP rfl (pure_ix rfl Tryz.underlying23 sz25 rfl rfl (by omega) (fun _=>rfl)) ?_
  refine xA tb hM0 11 [0,1,2,7,8,11,12,13,18,19] [8] rfl ?_
  refine oP rfl (pure_lenm rfl Tryz.underlying23 rfl) ?_
  refine xA tb hM0 3 [0,1,2,7,8,11,12,13,21] [8] rfl ?_
  refine spC 21 rfl ?_ ?_<;>intro h2<;>try simp only [dq] at h2
  refine xA tb hM0 13 [] [] rfl ?_
  refine end_ret rfl ?_;rotate_left
  refine xA tb hM0 7 [0,1,2,8,11,12,13,22,23] [8] rfl ?_
  refine oP rfl (pure_ix rfl Tryz.underlying23 sz25 rfl rfl (by omega) (fun _=>rfl)) ?_
  refine xA tb hM0 10 [0,1,2,11,12,13,26,27,28] [] rfl ?_
  refine oP rfl (pure_call rfl rfl rfl (hf _ (kid_mem (by omega)) _ (kid_mem (by omega))) hM0) ?_
  refine xA tb hM0 9 [0,1,2,10,11,12,13,31] [] rfl ?_
  refine spC 31 rfl ?_ ?_<;>intro h3<;>try simp only [dq] at h3
  refine xA tb hM0 13 [] [] rfl ?_
  refine end_ret rfl ?_;rotate_left
  refine xA tb hM0 5 [0,1,2,11,12,13] [] rfl ?_
  refine oP rfl (pure_addi rfl rfl rfl (by omega)) ?_
  refine xA tb hM0 2 [0,1,2,11,12,13] [] rfl ?_
  refine nx ?_
  exact ⟨_,⟨k+1,rfl,by omega,by omega,by rw [hL1_2,cmpRs_step (by omega) (by omega),thn_zero (by omega)],rfl⟩,by omega⟩
  refine xA tb hM0 10 [1,34] [] rfl ?_
  refine oP rfl (pure_lenm rfl Tryz.underlying23 rfl) ?_
  refine xA tb hM0 1 [35,36] [] rfl ?_
  refine oP rfl (pure_lenm rfl Tryz.underlying23 rfl) ?_
  refine xA tb hM0 3 [38] [] rfl ?_
  refine spC 38 rfl ?_ ?_<;>intro h4<;>try simp only [dq] at h4
  refine xA tb hM0 8 [] [] rfl ?_
  refine end_ret rfl ?_;rotate_left
  refine xA tb hM0 9 [] [] rfl ?_
  refine end_ret rfl ?_;rotate_left
  all_goals
    rw [hL1_2];first|(rw [cmpRs_end (by omega) (by omega) (by omega),orderI_gt (by omega)];done)|(rw [cmpRs_step (by omega) (by omega),thn_ne (by assumption)];done)|(rw [cmpRs_end (by omega) (by omega) (by omega),orderI_lt (by omega)];done)|(rw [cmpRs_end (by omega) (by omega) (by omega),show a.length=b.length by omega,orderI_nn])

theorem fn115:Fn1 Tryz.prog 115 Tryz.f115.ntmps 4 (Tryz.f115.body.getD .skip):=⟨Tryz.f115,Tryz.func115,rfl,rfl,rfl,by kernel_rfl⟩
set_option maxRecDepth 100000 in
set_option maxHeartbeats 4000000 in
theorem compare_call:∀ (m:Nat) (a b:Rx),a.size≤m→b.size≤1099511627776→m≤1099511627776→CallF Tryz.prog 115 [rx a,rx b] (.p (int (cmpR a b))):=by
  intro m
  induction m with
  | zero=>intro a b hr _ _;have:=size_pos a;omega
  | succ m ih =>
  intro a b ha hb hm
  have hka:=kids_len a
  have hsa:=syms_len a
  have hkb:=kids_len b
  have hsb:=syms_len b
  rw [rx_eq a,rx_eq b]
  refine callF_of_code fn115 (Nat.le_of_ble_eq_true rfl) fun w0 M0 hM0=>?_
  refine xC tb hM0 2 [0,1] [] rfl ?_
  refine oP rfl (pure_box rfl rfl rfl hM0) ?_
  refine oP rfl (pure_box rfl rfl rfl hM0) ?_
  refine xA tb hM0 4 [2,3] [] rfl ?_
  refine code_draw mixed (by kernel_rfl) _ rfl ?_
  refine dl_pure rfl rfl rfl (pure_field rfl fd25_0 rfl) ?_
  refine dl_pure rfl rfl rfl (pure_load rfl ag3 rfl rfl) ?_
  refine dl_pure rfl rfl rfl (pure_field rfl fd25_0 rfl) ?_
  refine dl_pure rfl rfl rfl (pure_load rfl ag3 rfl rfl) ?_
  refine dl_pure rfl rfl rfl (pure_call rfl rfl rfl (cmp_call) hM0) ?_
  refine dl_pure rfl rfl rfl (pure_field rfl fd25_1 rfl) ?_
  refine dl_pure rfl rfl rfl (pure_load rfl ag22 rfl rfl) ?_
  refine dpk 22 [(2,_),(3,_),(9,_),(11,_)] [] rfl rfl rfl ?_
  refine dl_pure rfl rfl rfl (pure_field rfl fd25_1 rfl) ?_
  refine dl_pure rfl rfl rfl (pure_load rfl ag22 rfl rfl) ?_
  refine dl_pure rfl rfl rfl (pure_call rfl rfl rfl (scompare_call (by omega) (by omega)) hM0) ?_
  refine dl_pure rfl rfl rfl (pure_field rfl fd25_2 rfl) ?_
  refine dl_pure rfl rfl rfl (pure_load rfl ag23 rfl rfl) ?_
  refine dl_pure rfl rfl rfl (pure_field rfl fd25_2 rfl) ?_
  refine dl_pure rfl rfl rfl (pure_load rfl ag23 rfl rfl) ?_
  refine dpk 22 [(9,_),(14,_),(16,_),(18,_)] [] rfl rfl rfl ?_
  refine dl_pure rfl rfl rfl (pure_call rfl rfl rfl (cfun_call (by omega) (by omega) (fun x hx y hy=>ih x y (Nat.le_of_lt_succ (Nat.lt_of_lt_of_le (size_kid hx) ha)) (Nat.le_trans (Nat.le_of_lt (size_kid hy)) hb) (by omega))) hM0) ?_
  refine dl_pure rfl rfl rfl (pure_lit rfl Tryz.underlying22 el3 rfl rfl rfl rfl hM0) ?_
  refine dl_pure rfl rfl rfl (pure_call rfl rfl rfl (or_call (l:=[orderI a.kind b.kind,orderL a.syms b.syms,cmpRs a.kids b.kids]) (by simp)) hM0) ?_
  refine dl_pure rfl rfl rfl (pure_assign rfl rfl) ?_
  refine dl_nil ?_
  refine xD tb hM0 2 [] [] rfl ?_
  refine end_ret rfl ?_
  rw [cmpR_or]
end Go.Proofs.YtgdehkimfmfofaaGreat

namespace Go.Proofs.YtgdehkimfmfofaaGreat
open Go.Am Go.Wb

theorem fn113:Fn1 Tryz.prog 113 Tryz.f113.ntmps 2 (Tryz.f113.body.getD .skip):=⟨Tryz.f113,Tryz.func113,rfl,rfl,rfl,by kernel_rfl⟩
set_option maxRecDepth 100000 in
set_option maxHeartbeats 4000000 in
theorem compact_call {l:List Int} (hl:l.length≤1099511627776):CallO Tryz.prog 113 [.own 0] [(0,.arr 3 (l.map int))] (.own 0) [(0,.arr 3 ((cpt (fun x y=>decide (x=y)) l).map int))]:=by
  refine callO_of_code fn113 (Nat.le_of_ble_eq_true rfl) fun w0 M0 hM0=>?_
  refine xC tb hM0 9 [0,6] [0] rfl ?_
  refine oP rfl (pure_lenm rfl Tryz.underlying22 rfl) ?_
  refine xA tb hM0 3 [0,8] [0] rfl ?_
  refine spC 8 rfl ?_ ?_<;>intro h1<;>try simp only [dq] at h1
  refine xA tb hM0 9 [] [] rfl ?_
  refine endO_ret (o1:=[(0,_)]) rfl ⟨rfl,trivial⟩ ?_
  rw [cpt_short (by omega)];exact ⟨rfl,rfl⟩
  refine xA tb hM0 10 [0,3] [0] rfl ?_
  refine lp (fun zm zs=>∃ q:Nat,zm=l.length-q∧(1≤q)∧(q≤l.length)∧(cptN (fun x y=>decide (x=y)) l q=l.take q)∧zs=⟨61,[(0,.own 0),(3,.v .pl (int q))],[(0,.arr 3 (l.map int))]⟩) ?_ ?_
  exact ⟨_,1,rfl,Nat.le_refl _,by omega,by rw [cptN_one,take_succ' (by omega)];rfl,rfl⟩
  rintro zm zs ⟨q,rfl,hL1_0,hL1_1,hL1_2,rfl⟩
  have e0:((q:Int)-1).toNat=q-1:=by omega
  refine xA tb hM0 5 [0,3,10,11] [0] rfl ?_
  refine oP rfl (pure_lenm rfl Tryz.underlying22 rfl) ?_
  refine xA tb hM0 3 [0,3,13] [0] rfl ?_
  refine spC 13 rfl ?_ ?_<;>intro h2<;>try simp only [dq] at h2
  refine xA tb hM0 6 [0,3] [0] rfl ?_
  refine code_draw mixed (by kernel_rfl) _ rfl ?_
  refine dl_pure rfl rfl rfl (pure_move rfl rfl) ?_
  refine dl_pure rfl rfl rfl (pure_move rfl rfl) ?_
  refine dl_pure rfl rfl rfl (pure_index_own rfl Tryz.underlying22 sz3 rfl rfl rfl (by first|(simp only [ll];omega)|omega)) ?_
  refine dl_pure rfl rfl rfl (pure_load_pel rfl ag3 rfl rfl (mget (by first|(simp only [ll];omega)|omega)) rfl) ?_
  refine dl_pure rfl rfl rfl (pure_move rfl rfl) ?_
  refine dl_pure rfl rfl rfl (pure_move rfl rfl) ?_
  refine dl_pure rfl rfl rfl (pure_subi rfl rfl rfl (by omega)) ?_
  refine dl_pure rfl rfl rfl (pure_index_own rfl Tryz.underlying22 sz3 rfl rfl rfl (by first|(simp only [ll];omega)|omega)) ?_
  refine dl_pure rfl rfl rfl (pure_load_pel rfl ag3 rfl rfl (mget (by first|(simp only [ll];omega)|omega)) rfl) ?_
  refine dl_pure rfl rfl rfl (pure_eql rfl rfl rfl) ?_
  refine dl_nil ?_
  refine xD tb hM0 1 [0,3,25] [0] rfl ?_
  refine spC 25 rfl ?_ ?_<;>intro h3<;>try simp only [dq] at h3
  refine xA tb hM0 5 [0,3,26,27] [0] rfl ?_
  refine oP rfl (pure_slice_ownl rfl Tryz.underlying22 sz3 rfl rfl rfl (by first|(simp only [ll];omega)|omega)) ?_
  refine xA tb hM0 10 [0,3,4,5] [0] rfl ?_
  refine lp (fun zm zs=>∃ (ys:List Int) (k j:Nat),zm=l.length-q-j∧(1≤j)∧(q+j≤l.length)∧(ys.length=l.length)∧(cptN (fun x y=>decide (x=y)) l (q+j)=ys.take k)∧(k+1≤q+j)∧(∀ i,q+j≤i+1→ys.getD i default=l.getD i default)∧zs=⟨61,[(0,.own 0),(3,.v .pl (int k)),(4,.vsl 0 q ((l.map int).length-q)),(5,.v .pl (int j))],[(0,.arr 3 (ys.map int))]⟩) ?_ ?_
  rw [e0] at h3
  exact ⟨_,l,q,1,rfl,Nat.le_refl _,by omega,rfl,(cptN_dup (by omega) (decide_eq_true h3)).trans hL1_2,Nat.le_refl _,fun i _=>rfl,rfl⟩
  rintro zm zs ⟨ys,k,j,rfl,hL2_0,hL2_1,hL2_2,hL2_3,hL2_4,hL2_5,rfl⟩
  refine xA tb hM0 5 [0,3,4,5,29,30] [0] rfl ?_
  refine oP rfl (pure_len_vsl rfl Tryz.underlying22 rfl rfl) ?_
  refine xA tb hM0 3 [0,3,4,5,32] [0] rfl ?_
  refine spC 32 rfl ?_ ?_<;>intro h4<;>try simp only [dq] at h4
  refine xA tb hM0 6 [0,3,4,5] [0] rfl ?_
  refine code_draw mixed (by kernel_rfl) _ rfl ?_
  refine dl_pure rfl rfl rfl (pure_move rfl rfl) ?_
  refine dl_pure rfl rfl rfl (pure_move rfl rfl) ?_
  refine dl_pure rfl rfl rfl (pure_index_vsl rfl Tryz.underlying22 sz3 rfl rfl rfl (by first|(simp only [ll];omega)|omega)) ?_
  refine dl_pure rfl rfl rfl (pure_load_pel rfl ag3 rfl rfl (mget (by first|(simp only [ll];omega)|omega)) rfl) ?_
  refine dl_pure rfl rfl rfl (pure_move rfl rfl) ?_
  refine dl_pure rfl rfl rfl (pure_move rfl rfl) ?_
  refine dl_pure rfl rfl rfl (pure_subi rfl rfl rfl (by omega)) ?_
  refine dl_pure rfl rfl rfl (pure_index_vsl rfl Tryz.underlying22 sz3 rfl rfl rfl (by first|(simp only [ll];omega)|omega)) ?_
  refine dl_pure rfl rfl rfl (pure_load_pel rfl ag3 rfl rfl (mget (by first|(simp only [ll];omega)|omega)) rfl) ?_
  refine dl_pure rfl rfl rfl (pure_neq rfl rfl rfl) ?_
  refine dl_nil ?_
  refine xD tb hM0 1 [0,3,4,5,44] [0] rfl ?_
  refine spC 44 rfl ?_ ?_<;>intro h5<;>try simp only [dq] at h5
  refine xA tb hM0 7 [0,3,4,5,45,46,47,48] [0] rfl ?_
  refine oP rfl (pure_index_vsl rfl Tryz.underlying22 sz3 rfl rfl rfl (by first|(simp only [ll];omega)|omega)) ?_
  refine oP rfl (pure_load_pel rfl ag3 rfl rfl (mget (by first|(simp only [ll];omega)|omega)) rfl) ?_
  refine xA tb hM0 0 [0,3,4,5,45,46,50] [0] rfl ?_
  refine oP rfl (pure_index_own rfl Tryz.underlying22 sz3 rfl rfl rfl (by first|(simp only [ll];omega)|omega)) ?_
  refine oS rfl (step_store_pel rfl rfl rfl sz3 rfl rfl (mget (by first|(simp only [ll];omega)|omega)) rfl rfl (.inl rfl) rfl (Nat.le_of_ble_eq_true rfl) hM0) rfl ?_
  refine xA tb hM0 4 [0,4,5,52] [0] rfl ?_
  refine oP rfl (pure_addi rfl rfl rfl (by omega)) ?_
  refine xA tb hM0 6 [0,3,4,33] [0] rfl ?_
  refine oP rfl (pure_addi rfl rfl rfl (by omega)) ?_
  refine xA tb hM0 2 [0,3,4,5] [0] rfl ?_
  refine nx ?_
  have e1:((j:Int)-1).toNat=j-1:=by omega
  rw [e1,hL2_5 (q+j) (by omega),hL2_5 (q+(j-1)) (by omega)] at h5
  refine ⟨_,⟨ys.set k (l.getD (q+j) default),k+1,j+1,rfl,by omega,by omega,by simpa using hL2_2,cpt_put (by omega) hL2_3 ?_,by omega,fun i hi=>?_,?_⟩,by omega⟩
  · rw [show q + j - 1 = q + (j - 1) by omega]
    exact decide_eq_false h5
  · rw [getD_set_ne' (by omega)];exact hL2_5 i (by omega)
  · rw [List.map_set,← hL2_5 (q+j) (by omega)];rfl
  refine xA tb hM0 6 [0,3,4,33] [0] rfl ?_
  refine oP rfl (pure_addi rfl rfl rfl (by omega)) ?_
  refine xA tb hM0 2 [0,3,4,5] [0] rfl ?_
  refine nx ?_
  have e1:((j:Int)-1).toNat=j-1:=by omega
  rw [e1,hL2_5 (q+j) (by omega),hL2_5 (q+(j-1)) (by omega)] at h5
  refine ⟨_,⟨ys,k,j+1,rfl,by omega,by omega,hL2_2,cpt_skip (by omega) hL2_3 ?_,by omega,fun i hi=>hL2_5 i (by omega),rfl⟩,by omega⟩
  rw [show q+j-1=q+(j-1) by omega]
  exact decide_eq_true h5
  refine xA tb hM0 10 [0,3,54,55] [0] rfl ?_
  refine oP rfl (pure_slice_ownl rfl Tryz.underlying22 sz3 rfl rfl rfl (by first|(simp only [ll];omega)|omega)) ?_
  refine oS rfl (step_clear_vsl (zv:=int 0) rfl rfl rfl Tryz.underlying22 sz3 rfl rfl ze3 (by decide) rfl rfl hM0) rfl ?_
  refine xA tb hM0 6 [57,58] [0] rfl ?_
  refine oP rfl (pure_slice_own rfl Tryz.underlying22 sz3 rfl rfl rfl (by first|(simp only [ll];omega)|omega)) ?_
  refine ol_trunc 59 rfl rfl hM0 rfl ?_
  refine xO tb hM0 9 [] [] rfl ?_
  refine endO_ret (o1:=[(0,_)]) rfl ⟨rfl,trivial⟩ ?_
  refine ⟨rfl,?_⟩
  rw [← cpt_fin (f:=int) (k:=k) (n:=q+j) (by omega) (by omega) hL2_3];rfl
  refine xA tb hM0 6 [0,14] [0] rfl ?_
  refine oP rfl (pure_addi rfl rfl rfl (by omega)) ?_
  refine xA tb hM0 2 [0,3] [0] rfl ?_
  refine nx ?_
  rw [e0] at h3
  exact ⟨_,⟨q+1,rfl,by omega,by omega,cptN_take (by omega) hL1_2 (decide_eq_false h3),rfl⟩,by omega⟩
  refine xA tb hM0 13 [] [] rfl ?_
  refine endO_ret (o1:=[(0,_)]) rfl ⟨rfl,trivial⟩ ?_
  rw [cpt_all (n:=q) (by omega) hL1_2];exact ⟨rfl,rfl⟩

theorem fn116:Fn1 Tryz.prog 116 Tryz.f116.ntmps 4 (Tryz.f116.body.getD .skip):=⟨Tryz.f116,Tryz.func116,rfl,rfl,rfl,by kernel_rfl⟩
set_option maxRecDepth 100000 in
set_option maxHeartbeats 4000000 in
theorem compactF_call {l:List Rx} {eq:Rx→Rx→Bool} {g:FuncId} (hl:l.length≤1099511627776) (hf:∀ x∈l,∀ y∈l,CallF Tryz.prog g [rx x,rx y] (.p (bool (eq x y)))) :
    CallO Tryz.prog 116 [.own 0,.v .pl (.clo g [])] [(0,.arr 25 (l.map rx))] (.own 0) [(0,.arr 25 ((cpt eq l).map rx))]:=by
  refine callO_of_code fn116 (Nat.le_of_ble_eq_true rfl) fun w0 M0 hM0=>?_
  refine xC tb hM0 9 [0,1,8] [0] rfl ?_
  refine oP rfl (pure_lenm rfl Tryz.underlying23 rfl) ?_
  refine xA tb hM0 3 [0,1,10] [0] rfl ?_
  refine spC 10 rfl ?_ ?_<;>intro h1<;>try simp only [dq] at h1
  refine xA tb hM0 9 [] [] rfl ?_
  refine endO_ret (o1:=[(0,_)]) rfl ⟨rfl,trivial⟩ ?_
  rw [cpt_short (by omega)];exact ⟨rfl,rfl⟩
  refine xA tb hM0 10 [0,1,5] [0] rfl ?_
  refine lp (fun zm zs=>∃ q:Nat,zm=l.length-q∧(1≤q)∧(q≤l.length)∧(cptN (eq) l q=l.take q)∧zs=⟨66,[(0,.own 0),(1,.v .pl (.clo g [])),(5,.v .pl (int q))],[(0,.arr 25 (l.map rx))]⟩) ?_ ?_
  exact ⟨_,1,rfl,Nat.le_refl _,by omega,by rw [cptN_one,take_succ' (by omega)];rfl,rfl⟩
  rintro zm zs ⟨q,rfl,hL1_0,hL1_1,hL1_2,rfl⟩
  have e0:((q:Int)-1).toNat=q-1:=by omega
  refine xA tb hM0 5 [0,1,5,12,13] [0] rfl ?_
  refine oP rfl (pure_lenm rfl Tryz.underlying23 rfl) ?_
  refine xA tb hM0 3 [0,1,5,15] [0] rfl ?_
  refine spC 15 rfl ?_ ?_<;>intro h2<;>try simp only [dq] at h2
  refine xA tb hM0 6 [0,1,5] [0] rfl ?_
  refine code_draw mixed (by kernel_rfl) _ rfl ?_
  refine dl_pure rfl rfl rfl (pure_move rfl rfl) ?_
  refine dl_pure rfl rfl rfl (pure_move rfl rfl) ?_
  refine dl_pure rfl rfl rfl (pure_move rfl rfl) ?_
  refine dl_pure rfl rfl rfl (pure_index_own rfl Tryz.underlying23 sz25 rfl rfl rfl (by first|(simp only [ll];omega)|omega)) ?_
  refine dl_pure rfl rfl rfl (pure_load_pel_agg rfl ag25 sz25 rfl rfl sz25 (mget (by first|(simp only [ll];omega)|omega))) ?_
  refine dl_pure rfl rfl rfl (pure_move rfl rfl) ?_
  refine dl_pure rfl rfl rfl (pure_move rfl rfl) ?_
  refine dpk 66 [(0,_),(1,_),(5,_),(18,_),(22,_),(23,_),(24,_)] [(0,_)] rfl rfl rfl ?_
  refine dl_pure rfl rfl rfl (pure_subi rfl rfl rfl (by omega)) ?_
  refine dl_pure rfl rfl rfl (pure_index_own rfl Tryz.underlying23 sz25 rfl rfl rfl (by first|(simp only [ll];omega)|omega)) ?_
  refine dl_pure rfl rfl rfl (pure_load_pel_agg rfl ag25 sz25 rfl rfl sz25 (mget (by first|(simp only [ll];omega)|omega))) ?_
  refine dl_pure rfl rfl rfl (pure_call rfl rfl rfl (hf _ (kid_mem (by omega)) _ (kid_mem (by omega))) hM0) ?_
  refine dl_nil ?_
  refine xD tb hM0 1 [0,1,5,28] [0] rfl ?_
  refine spC 28 rfl ?_ ?_<;>intro h3<;>try simp only [dq] at h3
  refine xA tb hM0 5 [0,1,5,29,30] [0] rfl ?_
  refine oP rfl (pure_slice_ownl rfl Tryz.underlying23 sz25 rfl rfl rfl (by first|(simp only [ll];omega)|omega)) ?_
  refine xA tb hM0 10 [0,1,5,6,7] [0] rfl ?_
  refine lp (fun zm zs=>∃ (ys:List Rx) (k j:Nat),zm=l.length-q-j∧(1≤j)∧(q+j≤l.length)∧(ys.length=l.length)∧(cptN (eq) l (q+j)=ys.take k)∧(k+1≤q+j)∧(∀ i,q+j≤i+1→ys.getD i default=l.getD i default)∧(∀ x∈ys,x∈l)∧zs=⟨66,[(0,.own 0),(1,.v .pl (.clo g [])),(5,.v .pl (int k)),(6,.vsl 0 q ((l.map rx).length-q)),(7,.v .pl (int j))],[(0,.arr 25 (ys.map rx))]⟩) ?_ ?_
  rw [e0] at h3
  exact ⟨_,l,q,1,rfl,Nat.le_refl _,by omega,rfl,(cptN_dup (by omega) (h3)).trans hL1_2,Nat.le_refl _,fun i _=>rfl,fun x hx=>hx,rfl⟩
  rintro zm zs ⟨ys,k,j,rfl,hL2_0,hL2_1,hL2_2,hL2_3,hL2_4,hL2_5,hL2_6,rfl⟩
  refine xA tb hM0 5 [0,1,5,6,7,32,33] [0] rfl ?_
  refine oP rfl (pure_len_vsl rfl Tryz.underlying23 rfl rfl) ?_
  refine xA tb hM0 3 [0,1,5,6,7,35] [0] rfl ?_
  refine spC 35 rfl ?_ ?_<;>intro h4<;>try simp only [dq] at h4
  refine xA tb hM0 6 [0,1,5,6,7] [0] rfl ?_
  refine code_draw mixed (by kernel_rfl) _ rfl ?_
  refine dl_pure rfl rfl rfl (pure_move rfl rfl) ?_
  refine dl_pure rfl rfl rfl (pure_move rfl rfl) ?_
  refine dl_pure rfl rfl rfl (pure_move rfl rfl) ?_
  refine dl_pure rfl rfl rfl (pure_index_vsl rfl Tryz.underlying23 sz25 rfl rfl rfl (by first|(simp only [ll];omega)|omega)) ?_
  refine dl_pure rfl rfl rfl (pure_load_pel_agg rfl ag25 sz25 rfl rfl sz25 (mget (by first|(simp only [ll];omega)|omega))) ?_
  refine dl_pure rfl rfl rfl (pure_move rfl rfl) ?_
  refine dl_pure rfl rfl rfl (pure_move rfl rfl) ?_
  refine dpk 66 [(0,_),(1,_),(5,_),(6,_),(7,_),(38,_),(42,_),(43,_),(44,_)] [(0,_)] rfl rfl rfl ?_
  refine dl_pure rfl rfl rfl (pure_subi rfl rfl rfl (by omega)) ?_
  refine dl_pure rfl rfl rfl (pure_index_vsl rfl Tryz.underlying23 sz25 rfl rfl rfl (by first|(simp only [ll];omega)|omega)) ?_
  refine dl_pure rfl rfl rfl (pure_load_pel_agg rfl ag25 sz25 rfl rfl sz25 (mget (by first|(simp only [ll];omega)|omega))) ?_
  refine dl_pure rfl rfl rfl (pure_call rfl rfl rfl (hf _ (hL2_6 _ (kid_mem (by omega))) _ (hL2_6 _ (kid_mem (by omega)))) hM0) ?_
  refine dl_pure rfl rfl rfl (pure_not rfl rfl) ?_
  refine dl_nil ?_
  refine xD tb hM0 1 [0,1,5,6,7,49] [0] rfl ?_
  refine spC 49 rfl ?_ ?_<;>intro h5<;>try simp only [dq] at h5
  refine xA tb hM0 7 [0,1,5,6,7,50,51,52,53] [0] rfl ?_
  refine oP rfl (pure_index_vsl rfl Tryz.underlying23 sz25 rfl rfl rfl (by first|(simp only [ll];omega)|omega)) ?_
  refine oP rfl (pure_load_pel_agg rfl ag25 sz25 rfl rfl sz25 (mget (by first|(simp only [ll];omega)|omega))) ?_
  refine xA tb hM0 0 [0,1,5,6,7,50,51,55] [0] rfl ?_
  refine oP rfl (pure_index_own rfl Tryz.underlying23 sz25 rfl rfl rfl (by first|(simp only [ll];omega)|omega)) ?_
  refine oS rfl (step_store_pel rfl rfl rfl sz25 rfl rfl (mget (by first|(simp only [ll];omega)|omega)) rfl rfl (.inl rfl) rfl (Nat.le_of_ble_eq_true rfl) hM0) rfl ?_
  refine xA tb hM0 4 [0,1,6,7,57] [0] rfl ?_
  refine oP rfl (pure_addi rfl rfl rfl (by omega)) ?_
  refine xA tb hM0 6 [0,1,5,6,36] [0] rfl ?_
  refine oP rfl (pure_addi rfl rfl rfl (by omega)) ?_
  refine xA tb hM0 2 [0,1,5,6,7] [0] rfl ?_
  refine nx ?_
  have e1:((j:Int)-1).toNat=j-1:=by omega
  rw [e1,hL2_5 (q+j) (by omega),hL2_5 (q+(j-1)) (by omega)] at h5
  refine ⟨_,⟨ys.set k (l.getD (q+j) default),k+1,j+1,rfl,by omega,by omega,by simpa using hL2_2,cpt_put (by omega) hL2_3 ?_,by omega,fun i hi=>?_,fun x hx=>?_,?_⟩,by omega⟩
  · rw [show q + j - 1 = q + (j - 1) by omega]
    exact h5
  · rw [getD_set_ne' (by omega)];exact hL2_5 i (by omega)
  · rcases List.mem_or_eq_of_mem_set hx with hx | rfl
    · exact hL2_6 x hx
    · exact kid_mem (by omega)
  · rw [List.map_set,← hL2_5 (q+j) (by omega)];rfl
  refine xA tb hM0 6 [0,1,5,6,36] [0] rfl ?_
  refine oP rfl (pure_addi rfl rfl rfl (by omega)) ?_
  refine xA tb hM0 2 [0,1,5,6,7] [0] rfl ?_
  refine nx ?_
  have e1:((j:Int)-1).toNat=j-1:=by omega
  rw [e1,hL2_5 (q+j) (by omega),hL2_5 (q+(j-1)) (by omega)] at h5
  refine ⟨_,⟨ys,k,j+1,rfl,by omega,by omega,hL2_2,cpt_skip (by omega) hL2_3 ?_,by omega,fun i hi=>hL2_5 i (by omega),hL2_6,rfl⟩,by omega⟩
  rw [show q+j-1=q+(j-1) by omega]
  exact h5
  refine xA tb hM0 10 [0,5,59,60] [0] rfl ?_
  refine oP rfl (pure_slice_ownl rfl Tryz.underlying23 sz25 rfl rfl rfl (by first|(simp only [ll];omega)|omega)) ?_
  refine oS rfl (step_clear_vsl (zv:=.agg [int 0,.sc (.slice none 0 0),.sc (.slice none 0 0)]) rfl rfl rfl Tryz.underlying23 sz25 rfl rfl ze25 (by decide) rfl rfl hM0) rfl ?_
  refine xA tb hM0 6 [62,63] [0] rfl ?_
  refine oP rfl (pure_slice_own rfl Tryz.underlying23 sz25 rfl rfl rfl (by first|(simp only [ll];omega)|omega)) ?_
  refine ol_trunc 64 rfl rfl hM0 rfl ?_
  refine xO tb hM0 9 [] [] rfl ?_
  refine endO_ret (o1:=[(0,_)]) rfl ⟨rfl,trivial⟩ ?_
  refine ⟨rfl,?_⟩
  rw [← cpt_fin (f:=rx) (k:=k) (n:=q+j) (by omega) (by omega) hL2_3];rfl
  refine xA tb hM0 6 [0,1,16] [0] rfl ?_
  refine oP rfl (pure_addi rfl rfl rfl (by omega)) ?_
  refine xA tb hM0 2 [0,1,5] [0] rfl ?_
  refine nx ?_
  rw [e0] at h3
  exact ⟨_,⟨q+1,rfl,by omega,by omega,cptN_take (by omega) hL1_2 (h3),rfl⟩,by omega⟩
  refine xA tb hM0 13 [] [] rfl ?_
  refine endO_ret (o1:=[(0,_)]) rfl ⟨rfl,trivial⟩ ?_
  rw [cpt_all (n:=q) (by omega) hL1_2];exact ⟨rfl,rfl⟩
end Go.Proofs.YtgdehkimfmfofaaGreat

namespace Go.Proofs.YtgdehkimfmfofaaGreat
open Go.Am Go.Wb

abbrev putO (s:List Int) (k:List Rx):List (Nat×Ob):=[(10,.arr 3 (s.map int)),(11,.arr 25 (k.map rx)),(1000001,.box 22 [.own 10]),(1000002,.box 23 [.own 11])]
theorem fn111:Fn0 Tryz.prog 111 Tryz.f111.ntmps (Tryz.f111.body.getD .skip):=⟨Tryz.f111,Tryz.func111,rfl,rfl,rfl,by kernel_rfl⟩
set_option maxRecDepth 100000 in
set_option maxHeartbeats 4000000 in
theorem put_call {x:Rx} {s:List Int} {k:List Rx} (hs:s.length+x.syms.length≤1099511627776) (hk:k.length≤1099511627776) :
    CallO Tryz.prog 111 [.v .pl (rx x),.pbox 1000001 0,.pbox 1000002 0] (putO s k) (.v .pl (.tup [])) (putO (putS s x) (putK k x)):=by
  rw [rx_eq x]
  refine callO_of_code0 fn111 (Nat.le_of_ble_eq_true rfl) fun w0 M0 hM0=>?_
  refine xC tb hM0 2 [0,1,2] [10,11,1000001,1000002] rfl ?_
  refine oP rfl (pure_box rfl rfl rfl hM0) ?_
  refine xA tb hM0 15 [1,2,3,5,12] [10,11,1000001,1000002] rfl ?_
  refine spC 12 rfl ?_ ?_<;>intro h1<;>try simp only [dq] at h1
  refine xA tb hM0 3 [] [] rfl ?_
  refine endO0_normal (o1:=[(10,_),(11,_),(1000001,_),(1000002,_)]) ⟨rfl,rfl,rfl,rfl,trivial⟩ ?_
  rw [putS_x (by omega),putK_0 (by omega)]
  refine xA tb hM0 7 [1,2,3,14] [10,11,1000001,1000002] rfl ?_
  refine spC 14 rfl ?_ ?_<;>intro h2<;>try simp only [dq] at h2
  refine xA tb hM0 5 [1,16,18] [10,11,1000001,1000002] rfl ?_
  refine oS rfl (step_append rfl rfl rfl rfl Tryz.underlying22 el3 rfl rfl hM0 (src_scm rfl (fun _=>⟨_,rfl⟩)) (by first|(simp only [ll];omega)|omega) (by first|(simp only [ll];omega)|omega)) rfl ?_
  refine xA tb hM0 3 [] [] rfl ?_
  refine endO0_normal (o1:=[(10,_),(11,_),(1000001,_),(1000002,_)]) ⟨rfl,rfl,rfl,rfl,trivial⟩ ?_
  rw [putS_2 (by omega),putK_0 (by omega)];unfold putO;rw [List.map_append];try rfl
  refine xA tb hM0 1 [2,3] [10,11,1000001,1000002] rfl ?_
  refine code_draw mixed (by kernel_rfl) _ rfl ?_
  refine dl_pure rfl rfl rfl (pure_load_box rfl ag23 rfl rfl rfl) ?_
  refine dl_pure rfl rfl rfl (pure_load_agg rfl ag25 sz25 rfl (Nat.le_of_ble_eq_true rfl)) ?_
  refine dl_pure rfl rfl rfl (pure_lenm rfl Tryz.underlying23 rfl) ?_
  refine dl_pure rfl rfl rfl (pure_lit rfl Tryz.underlying23 el25 rfl rfl rfl rfl hM0) ?_
  refine dl_ends (by kernel_rfl) (endL_of (n:=4) (by kernel_rfl) ?_)
  refine ex_one (i:=4) (by kernel_rfl) rfl rfl (step_append rfl rfl rfl rfl Tryz.underlying23 el25 rfl rfl hM0 (src_pl rfl (one_len (by rfl))) (by first|(simp only [ll];omega)|omega) (by first|(simp only [ll];omega)|omega)) ?_
  refine ex_two (i:=5) (j:=7) (by kernel_rfl) rfl rfl rfl rfl (st_pure rfl rfl (pure_index_own rfl Tryz.underlying23 sz25 rfl rfl rfl (by first|(simp only [ll];omega)|omega))) (step_store_box_own rfl rfl rfl sz23 rfl rfl rfl rfl rfl hM0) ?_ ?_
  refine ex_two (i:=6) (j:=7) (by kernel_rfl) rfl rfl rfl rfl (step_store_pel rfl rfl rfl sz25 rfl rfl (get_lastm rx k _) rfl rfl (.inl rfl) rfl (Nat.le_of_ble_eq_true rfl) hM0) (step_store_box_own rfl rfl rfl sz23 rfl rfl rfl rfl rfl hM0) ?_ ?_
  refine ex_one (i:=7) (by kernel_rfl) rfl rfl (step_store_box_own rfl rfl rfl sz23 rfl rfl rfl rfl rfl hM0) ?_
  refine ex_end (by kernel_rfl) ?_
  refine xD tb hM0 1 [] [] rfl ?_
  refine endO0_normal (o1:=[(10,_),(11,_),(1000001,_),(1000002,_)]) ⟨rfl,rfl,rfl,rfl,trivial⟩ ?_;rotate_left
  refine ex_one (i:=6) (by kernel_rfl) rfl rfl (step_store_pel rfl rfl rfl sz25 rfl rfl (get_lastm rx k _) rfl rfl (.inl rfl) rfl (Nat.le_of_ble_eq_true rfl) hM0) ?_
  refine ex_end (by kernel_rfl) ?_
  refine xD tb hM0 1 [] [] rfl ?_
  refine endO0_normal (o1:=[(10,_),(11,_),(1000001,_),(1000002,_)]) ⟨rfl,rfl,rfl,rfl,trivial⟩ ?_;rotate_left
  refine ex_one (i:=5) (by kernel_rfl) rfl rfl (st_pure rfl rfl (pure_index_own rfl Tryz.underlying23 sz25 rfl rfl rfl (by first|(simp only [ll];omega)|omega))) ?_
  refine ex_one (i:=6) (by kernel_rfl) rfl rfl (step_store_pel rfl rfl rfl sz25 rfl rfl (get_lastm rx k _) rfl rfl (.inl rfl) rfl (Nat.le_of_ble_eq_true rfl) hM0) ?_
  refine ex_end (by kernel_rfl) ?_
  refine xD tb hM0 1 [] [] rfl ?_
  refine endO0_normal (o1:=[(10,_),(11,_),(1000001,_),(1000002,_)]) ⟨rfl,rfl,rfl,rfl,trivial⟩ ?_;rotate_left
  all_goals
    rw [putS_x (by omega),putK_x (by omega)];unfold putO;rw [← set_last (z:=.agg [int 0,.sc (.slice none 0 0),.sc (.slice none 0 0)]),rx_eq x];rfl
end Go.Proofs.YtgdehkimfmfofaaGreat

namespace Go.Proofs.YtgdehkimfmfofaaGreat
open Go.Am Go.Wb
theorem sortsR:SortsK Tryz.prog 114 3 :=
  ⟨⟨Tryz.f114, Tryz.func114, by kernel_rfl, by kernel_rfl⟩,
   fun p cap fv w=>AnyF.slices_SortFunc_none { Tryz.sortR with } p cap fv w,
   fun enc hk h1 cf hO g cb blk off cap d w eg hcmp hH hblk hsz=>AnyQ.slices_SortFunc Tryz.sortR 3 (fun w=>run_isAggOf ag25 w) (fun w=>run_size sz25 w) enc hk h1 cf hO g cb blk off cap d w eg hcmp hH hblk hsz⟩
theorem sortsZ:SortsZ Tryz.prog 112 :=
  ⟨⟨Tryz.f112, Tryz.func112, by kernel_rfl, by kernel_rfl⟩,
   fun p cap w=>AnyM.slices_Sort_int_none Tryz.sortZ p cap w,
   fun blk off cap zs w hH hblk hsz=>AnyM.slices_Sort_int Tryz.sortZ blk off cap zs w hH hblk hsz⟩
theorem revsR:RevK Tryz.prog 76 3 :=
  ⟨⟨Tryz.f76, Tryz.func76, by kernel_rfl, by kernel_rfl⟩,
   fun p cap w=>AnyQ.slices_Reverse_empty Tryz.revR p cap w,
   fun enc hk h1 blk off cap d w hH hsz=>AnyQ.slices_Reverse Tryz.revR 3 (fun w=>run_isAggOf ag25 w) (fun w=>run_size sz25 w) enc hk h1 blk off cap d w hH hsz⟩
end Go.Proofs.YtgdehkimfmfofaaGreat

