/-
  Contract: reading a pattern.
-/
import Derived.Test.YtgdehkimfmfofaaGreatJ30
import Derived.Test.YtgdehkimfmfofaaGreatJ31
import Derived.Test.YtgdehkimfmfofaaGreatJ18
set_option linter.unusedVariables false
set_option linter.unusedSectionVars false
set_option linter.unusedSimpArgs false
namespace Go.Proofs.YtgdehkimfmfofaaGreat
open Go.Am Go.Wc
theorem fn72:Fn1 Tryz.prog 72 Tryz.f72.ntmps 2 (Tryz.f72.body.getD .skip):=⟨Tryz.f72,Tryz.func72,rfl,rfl,rfl,by kernel_rfl⟩
set_option maxRecDepth 100000 in
set_option maxHeartbeats 4000000 in
theorem index_call {a:List Letter} (ha:a.length≤1099511627776) (ht:∀ x∈a,x.text.length≤9223372036854775807):CallF Tryz.prog 72 [letters a] (.p (indexAV a)):=by
  have htx:∀ i:Nat,(a.getD i default).text.length≤9223372036854775807:=fun i=>by
    rw [List.getD_eq_getElem?_getD]
    cases hx:a[i]? with
    | none=>exact Nat.zero_le _
    | some x=>exact ht x (List.mem_of_getElem? hx)
  refine callF_of_code fn72 (Nat.le_of_ble_eq_true rfl) fun w0 M0 hM0=>?_
  refine xC tb hM0 9 [0,6] [] rfl ?_
  refine oP rfl (pure_lenm rfl Tryz.underlying39 rfl) ?_
  refine oP rfl (pure_call rfl rfl rfl (within_call) hM0) ?_
  refine xA tb hM0 3 [0,9] [] rfl ?_
  refine spC 9 rfl ?_ ?_<;>intro h1<;>try simp only [dq] at h1
  refine xA tb hM0 8 [] [] rfl ?_
  refine end_ret rfl ?_
  rw [indexAV_bad (validA_size (by simp at h1;omega))]
  refine xA tb hM0 6 [0,10] [] rfl ?_
  refine oP rfl (pure_lenm rfl Tryz.underlying39 rfl) ?_
  refine oS rfl (step_map rfl rfl rfl rfl rfl Tryz.underlying88 (fun q hq=>by cases hq<;>exact ⟨_,_,rfl⟩) hM0) rfl ?_
  refine xA tb hM0 7 [0,3,13] [12] rfl ?_
  refine oP rfl (pure_lenm rfl Tryz.underlying39 rfl) ?_
  refine xA tb hM0 4 [0,3,13,14,15] [12] rfl ?_
  refine lp (fun zm zs=>∃ i:Nat,zm=a.length-i∧(i≤a.length)∧(∀ j,j<i→ok1P a (a.getD j default)∧ok2P (a.getD j default) j)∧zs=⟨85,[(0,.v .mx (letters a)),(3,.omap 12),(13,.v .mx (letters a)),(14,.v .pl (int a.length)),(15,.v .pl (int i))],[(12,.mp (ixK a i) (ixV a i))]⟩) ?_ ?_
  exact ⟨_,0,rfl,Nat.zero_le _,fun j hj=>absurd hj (by omega),rfl⟩
  rintro zm zs ⟨i,rfl,hL1_0,hL1_1,rfl⟩
  refine xA tb hM0 6 [0,3,13,14,15,16] [12] rfl ?_
  refine spC 16 rfl ?_ ?_<;>intro h2<;>try simp only [dq] at h2
  refine xA tb hM0 8 [0,3,13,14,15,17] [12] rfl ?_
  refine oP rfl (pure_ix rfl Tryz.underlying39 sz83 rfl rfl (by omega) (fun _=>rfl)) ?_
  refine xA tb hM0 7 [0,3,4,5,13,14,15] [5,12] rfl ?_
  refine ct (fun zs=>∃ z:Bool,(z=true→¬ ok1P a (a.getD i default))∧(z=false→ok1P a (a.getD i default))∧zs=⟨85,[(0,.v .mx (letters a)),(3,.omap 12),(4,.v .pl (int i)),(5,.pbox 5 0),(13,.v .mx (letters a)),(14,.v .pl (int a.length)),(15,.v .pl (int i)),(61,.v .pl (bool z))],[(5,.box 83 (lcells .mx (a.getD i default))),(12,.mp (ixK a i) (ixV a i))]⟩) ?_ ?_
  refine code_draw mixed (by kernel_rfl) _ rfl ?_
  refine dl_pure rfl rfl rfl (pure_field_box rfl fd83_0 rfl rfl) ?_
  refine dl_pure rfl rfl rfl (pure_load_box rfl ag9 rfl rfl rfl) ?_
  refine dl_pure rfl rfl rfl (pure_call rfl rfl rfl (aplain_call (htx _)) hM0) ?_
  refine dl_pure rfl rfl rfl (pure_not rfl rfl) ?_
  refine dl_pure rfl rfl rfl (pure_move rfl rfl) ?_
  refine dl_guard rfl (fun h3=>?_) (fun h3=>?_)
  have h3':=h3;try simp only [dq] at h3'
  refine dl_skip_g rfl rfl h3 rfl rfl ?_
  refine dl_skip_g rfl rfl h3 rfl rfl ?_
  refine dpk 85 [(0,_),(3,_),(4,_),(5,_),(13,_),(14,_),(15,_),(24,_),(26,_)] [(5,_),(12,_)] rfl rfl rfl ?_
  refine dl_skip_g rfl rfl h3 rfl rfl ?_
  refine dl_skip_g rfl rfl h3 rfl rfl ?_
  refine dl_skip_g rfl rfl h3 rfl rfl ?_
  refine dl_skip_g rfl rfl h3 rfl rfl ?_
  refine dl_skip_g rfl rfl h3 rfl rfl ?_
  refine dl_pure rfl rfl rfl (pure_pick_t rfl rfl h3 rfl) ?_
  refine dl_pure rfl rfl rfl (pure_move rfl rfl) ?_
  refine dpk 85 [(0,_),(3,_),(4,_),(5,_),(13,_),(14,_),(15,_),(33,_)] [(5,_),(12,_)] rfl rfl rfl ?_
  refine dl_skip_g rfl rfl rfl rfl rfl ?_
  refine dl_skip_g rfl rfl rfl rfl rfl ?_
  refine dl_skip_g rfl rfl rfl rfl rfl ?_
  refine dl_skip_g rfl rfl rfl rfl rfl ?_
  refine dl_skip_g rfl rfl rfl rfl rfl ?_
  refine dl_skip_g rfl rfl rfl rfl rfl ?_
  refine dl_skip_g rfl rfl rfl rfl rfl ?_
  refine dpk 85 [(0,_),(3,_),(4,_),(5,_),(13,_),(14,_),(15,_),(33,_),(39,_),(40,_)] [(5,_),(12,_)] rfl rfl rfl ?_
  refine dl_skip_g rfl rfl rfl rfl rfl ?_
  refine dl_skip_g rfl rfl rfl rfl rfl ?_
  refine dl_pure rfl rfl rfl (pure_pick_t rfl rfl rfl rfl) ?_
  refine dl_pure rfl rfl rfl (pure_move rfl rfl) ?_
  refine dl_skip_g rfl rfl rfl rfl rfl ?_
  refine dl_skip_g rfl rfl rfl rfl rfl ?_
  refine dl_skip_g rfl rfl rfl rfl rfl ?_
  refine dpk 85 [(0,_),(3,_),(4,_),(5,_),(13,_),(14,_),(15,_),(44,_),(47,_)] [(5,_),(12,_)] rfl rfl rfl ?_
  refine dl_skip_g rfl rfl rfl rfl rfl ?_
  refine dl_pure rfl rfl rfl (pure_pick_t rfl rfl rfl rfl) ?_
  refine dl_pure rfl rfl rfl (pure_move rfl rfl) ?_
  refine dl_skip_g rfl rfl rfl rfl rfl ?_
  refine dl_skip_g rfl rfl rfl rfl rfl ?_
  refine dl_skip_g rfl rfl rfl rfl rfl ?_
  refine dl_skip_g rfl rfl rfl rfl rfl ?_
  refine dpk 85 [(0,_),(3,_),(4,_),(5,_),(13,_),(14,_),(15,_),(50,_),(54,_)] [(5,_),(12,_)] rfl rfl rfl ?_
  refine dl_pure rfl rfl rfl (pure_pick_t rfl rfl rfl rfl) ?_
  refine dl_pure rfl rfl rfl (pure_move rfl rfl) ?_
  refine dl_skip_g rfl rfl rfl rfl rfl ?_
  refine dl_skip_g rfl rfl rfl rfl rfl ?_
  refine dl_skip_g rfl rfl rfl rfl rfl ?_
  refine dl_skip_g rfl rfl rfl rfl rfl ?_
  refine dl_pure rfl rfl rfl (pure_pick_t rfl rfl rfl rfl) ?_
  refine dl_nil ?_
  refine xD tb hM0 0 [0,3,4,5,13,14,15,61] [5,12] rfl ?_
  refine cx ?_;rotate_left
  have h3':=h3;try simp only [dq] at h3'
  refine dl_pure_g rfl rfl h3 rfl rfl (pure_field_box rfl fd83_1 rfl rfl) ?_
  refine dl_pure_g rfl rfl h3 rfl rfl (pure_load_box rfl ag3 rfl rfl rfl) ?_
  refine dpk 85 [(0,_),(3,_),(4,_),(5,_),(13,_),(14,_),(15,_),(24,_),(26,_)] [(5,_),(12,_)] rfl rfl rfl ?_
  refine dl_pure_g rfl rfl h3 rfl rfl (pure_move rfl rfl) ?_
  refine dl_pure_g rfl rfl h3 rfl rfl (pure_lenm rfl Tryz.underlying39 rfl) ?_
  refine dl_pure_g rfl rfl h3 rfl rfl (pure_subi rfl rfl rfl (by omega)) ?_
  refine dl_pure_g rfl rfl h3 rfl rfl (pure_call rfl rfl rfl (within_call) hM0) ?_
  refine dl_pure_g rfl rfl h3 rfl rfl (pure_not rfl rfl) ?_
  refine dl_pure rfl rfl rfl (pure_pick_f rfl rfl h3 rfl) ?_
  refine dl_pure rfl rfl rfl (pure_move rfl rfl) ?_
  refine dpk 85 [(0,_),(3,_),(4,_),(5,_),(13,_),(14,_),(15,_),(33,_)] [(5,_),(12,_)] rfl rfl rfl ?_
  refine dl_guard rfl (fun h4=>?_) (fun h4=>?_)
  have h4':=h4;try simp only [dq] at h4'
  refine dpk 85 [(0,_),(3,_),(4,_),(5,_),(13,_),(14,_),(15,_),(33,_)] [(5,_),(12,_)] rfl rfl rfl ?_
  refine dl_skip_g rfl rfl h4 rfl rfl ?_
  refine dl_skip_g rfl rfl h4 rfl rfl ?_
  refine dl_skip_g rfl rfl h4 rfl rfl ?_
  refine dl_skip_g rfl rfl h4 rfl rfl ?_
  refine dl_skip_g rfl rfl h4 rfl rfl ?_
  refine dl_skip_g rfl rfl h4 rfl rfl ?_
  refine dl_skip_g rfl rfl h4 rfl rfl ?_
  refine dpk 85 [(0,_),(3,_),(4,_),(5,_),(13,_),(14,_),(15,_),(33,_),(39,_),(40,_)] [(5,_),(12,_)] rfl rfl rfl ?_
  refine dl_skip_g rfl rfl h4 rfl rfl ?_
  refine dl_skip_g rfl rfl h4 rfl rfl ?_
  refine dl_pure rfl rfl rfl (pure_pick_t rfl rfl h4 rfl) ?_
  refine dl_pure rfl rfl rfl (pure_move rfl rfl) ?_
  refine dl_skip_g rfl rfl rfl rfl rfl ?_
  refine dl_skip_g rfl rfl rfl rfl rfl ?_
  refine dl_skip_g rfl rfl rfl rfl rfl ?_
  refine dpk 85 [(0,_),(3,_),(4,_),(5,_),(13,_),(14,_),(15,_),(44,_),(47,_)] [(5,_),(12,_)] rfl rfl rfl ?_
  refine dl_skip_g rfl rfl rfl rfl rfl ?_
  refine dl_pure rfl rfl rfl (pure_pick_t rfl rfl rfl rfl) ?_
  refine dl_pure rfl rfl rfl (pure_move rfl rfl) ?_
  refine dl_skip_g rfl rfl rfl rfl rfl ?_
  refine dl_skip_g rfl rfl rfl rfl rfl ?_
  refine dl_skip_g rfl rfl rfl rfl rfl ?_
  refine dl_skip_g rfl rfl rfl rfl rfl ?_
  refine dpk 85 [(0,_),(3,_),(4,_),(5,_),(13,_),(14,_),(15,_),(50,_),(54,_)] [(5,_),(12,_)] rfl rfl rfl ?_
  refine dl_pure rfl rfl rfl (pure_pick_t rfl rfl rfl rfl) ?_
  refine dl_pure rfl rfl rfl (pure_move rfl rfl) ?_
  refine dl_skip_g rfl rfl rfl rfl rfl ?_
  refine dl_skip_g rfl rfl rfl rfl rfl ?_
  refine dl_skip_g rfl rfl rfl rfl rfl ?_
  refine dl_skip_g rfl rfl rfl rfl rfl ?_
  refine dl_pure rfl rfl rfl (pure_pick_t rfl rfl rfl rfl) ?_
  refine dl_nil ?_
  refine xD tb hM0 0 [0,3,4,5,13,14,15,61] [5,12] rfl ?_
  refine cx ?_;rotate_left
  have h4':=h4;try simp only [dq] at h4'
  refine dpk 85 [(0,_),(3,_),(4,_),(5,_),(13,_),(14,_),(15,_),(33,_)] [(5,_),(12,_)] rfl rfl rfl ?_
  refine dl_pure_g rfl rfl h4 rfl rfl (pure_move rfl rfl) ?_
  refine dl_pure_g rfl rfl h4 rfl rfl (pure_field_box rfl fd83_1 rfl rfl) ?_
  refine dl_pure_g rfl rfl h4 rfl rfl (pure_load_box rfl ag3 rfl rfl rfl) ?_
  refine dl_pure_g rfl rfl h4 rfl rfl (pure_ix rfl Tryz.underlying39 sz83 rfl rfl (by omega) (fun _=>rfl)) ?_
  refine dl_pure_g rfl rfl h4 rfl rfl (pure_field rfl fd83_1 rfl) ?_
  refine dl_pure_g rfl rfl h4 rfl rfl (pure_load rfl ag3 rfl rfl) ?_
  refine dl_pure_g rfl rfl h4 rfl rfl (pure_field_box rfl fd83_1 rfl rfl) ?_
  refine dpk 85 [(0,_),(3,_),(4,_),(5,_),(13,_),(14,_),(15,_),(33,_),(39,_),(40,_)] [(5,_),(12,_)] rfl rfl rfl ?_
  refine dl_pure_g rfl rfl h4 rfl rfl (pure_load_box rfl ag3 rfl rfl rfl) ?_
  refine dl_pure_g rfl rfl h4 rfl rfl (pure_neq rfl rfl rfl) ?_
  refine dl_pure rfl rfl rfl (pure_pick_f rfl rfl h4 rfl) ?_
  refine dl_pure rfl rfl rfl (pure_move rfl rfl) ?_
  refine dl_guard rfl (fun h5=>?_) (fun h5=>?_)
  have h5':=h5;try simp only [dq] at h5'
  refine dl_skip_g rfl rfl h5 rfl rfl ?_
  refine dl_skip_g rfl rfl h5 rfl rfl ?_
  refine dl_skip_g rfl rfl h5 rfl rfl ?_
  refine dpk 85 [(0,_),(3,_),(4,_),(5,_),(13,_),(14,_),(15,_),(44,_),(47,_)] [(5,_),(12,_)] rfl rfl rfl ?_
  refine dl_skip_g rfl rfl h5 rfl rfl ?_
  refine dl_pure rfl rfl rfl (pure_pick_t rfl rfl h5 rfl) ?_
  refine dl_pure rfl rfl rfl (pure_move rfl rfl) ?_
  refine dl_skip_g rfl rfl rfl rfl rfl ?_
  refine dl_skip_g rfl rfl rfl rfl rfl ?_
  refine dl_skip_g rfl rfl rfl rfl rfl ?_
  refine dl_skip_g rfl rfl rfl rfl rfl ?_
  refine dpk 85 [(0,_),(3,_),(4,_),(5,_),(13,_),(14,_),(15,_),(50,_),(54,_)] [(5,_),(12,_)] rfl rfl rfl ?_
  refine dl_pure rfl rfl rfl (pure_pick_t rfl rfl rfl rfl) ?_
  refine dl_pure rfl rfl rfl (pure_move rfl rfl) ?_
  refine dl_skip_g rfl rfl rfl rfl rfl ?_
  refine dl_skip_g rfl rfl rfl rfl rfl ?_
  refine dl_skip_g rfl rfl rfl rfl rfl ?_
  refine dl_skip_g rfl rfl rfl rfl rfl ?_
  refine dl_pure rfl rfl rfl (pure_pick_t rfl rfl rfl rfl) ?_
  refine dl_nil ?_
  refine xD tb hM0 0 [0,3,4,5,13,14,15,61] [5,12] rfl ?_
  refine cx ?_;rotate_left
  have h5':=h5;try simp only [dq] at h5'
  refine dl_pure_g rfl rfl h5 rfl rfl (pure_field_box rfl fd83_2 rfl rfl) ?_
  refine dl_pure_g rfl rfl h5 rfl rfl (pure_load_box rfl ag3 rfl rfl rfl) ?_
  refine dl_pure_g rfl rfl h5 rfl rfl (pure_call rfl rfl rfl (within_call) hM0) ?_
  refine dpk 85 [(0,_),(3,_),(4,_),(5,_),(13,_),(14,_),(15,_),(44,_),(47,_)] [(5,_),(12,_)] rfl rfl rfl ?_
  refine dl_pure_g rfl rfl h5 rfl rfl (pure_not rfl rfl) ?_
  refine dl_pure rfl rfl rfl (pure_pick_f rfl rfl h5 rfl) ?_
  refine dl_pure rfl rfl rfl (pure_move rfl rfl) ?_
  refine dl_guard rfl (fun h6=>?_) (fun h6=>?_)
  have h6':=h6;try simp only [dq] at h6'
  refine dl_skip_g rfl rfl h6 rfl rfl ?_
  refine dl_skip_g rfl rfl h6 rfl rfl ?_
  refine dl_skip_g rfl rfl h6 rfl rfl ?_
  refine dl_skip_g rfl rfl h6 rfl rfl ?_
  refine dpk 85 [(0,_),(3,_),(4,_),(5,_),(13,_),(14,_),(15,_),(50,_),(54,_)] [(5,_),(12,_)] rfl rfl rfl ?_
  refine dl_pure rfl rfl rfl (pure_pick_t rfl rfl h6 rfl) ?_
  refine dl_pure rfl rfl rfl (pure_move rfl rfl) ?_
  refine dl_skip_g rfl rfl rfl rfl rfl ?_
  refine dl_skip_g rfl rfl rfl rfl rfl ?_
  refine dl_skip_g rfl rfl rfl rfl rfl ?_
  refine dl_skip_g rfl rfl rfl rfl rfl ?_
  refine dl_pure rfl rfl rfl (pure_pick_t rfl rfl rfl rfl) ?_
  refine dl_nil ?_
  refine xD tb hM0 0 [0,3,4,5,13,14,15,61] [5,12] rfl ?_
  refine cx ?_;rotate_left
  have h6':=h6;try simp only [dq] at h6'
  refine dl_pure_g rfl rfl h6 rfl rfl (pure_field_box rfl fd83_3 rfl rfl) ?_
  refine dl_pure_g rfl rfl h6 rfl rfl (pure_load_box rfl ag3 rfl rfl rfl) ?_
  refine dl_pure_g rfl rfl h6 rfl rfl (pure_call rfl rfl rfl (within_call) hM0) ?_
  refine dl_pure_g rfl rfl h6 rfl rfl (pure_not rfl rfl) ?_
  refine dpk 85 [(0,_),(3,_),(4,_),(5,_),(13,_),(14,_),(15,_),(50,_),(54,_)] [(5,_),(12,_)] rfl rfl rfl ?_
  refine dl_pure rfl rfl rfl (pure_pick_f rfl rfl h6 rfl) ?_
  refine dl_pure rfl rfl rfl (pure_move rfl rfl) ?_
  refine dl_guard rfl (fun h7=>?_) (fun h7=>?_)
  have h7':=h7;try simp only [dq] at h7'
  refine dl_skip_g rfl rfl h7 rfl rfl ?_
  refine dl_skip_g rfl rfl h7 rfl rfl ?_
  refine dl_skip_g rfl rfl h7 rfl rfl ?_
  refine dl_skip_g rfl rfl h7 rfl rfl ?_
  refine dl_pure rfl rfl rfl (pure_pick_t rfl rfl h7 rfl) ?_
  refine dl_nil ?_
  refine xD tb hM0 0 [0,3,4,5,13,14,15,61] [5,12] rfl ?_
  refine cx ?_;rotate_left
  have h7':=h7;try simp only [dq] at h7'
  refine dl_pure_g rfl rfl h7 rfl rfl (pure_field_box rfl fd83_4 rfl rfl) ?_
  refine dl_pure_g rfl rfl h7 rfl rfl (pure_load_box rfl ag3 rfl rfl rfl) ?_
  refine dl_pure_g rfl rfl h7 rfl rfl (pure_call rfl rfl rfl (within_call) hM0) ?_
  refine dl_pure_g rfl rfl h7 rfl rfl (pure_not rfl rfl) ?_
  refine dl_pure rfl rfl rfl (pure_pick_f rfl rfl h7 rfl) ?_
  refine dl_nil ?_
  refine xD tb hM0 0 [0,3,4,5,13,14,15,61] [5,12] rfl ?_
  refine cx ?_
  refine ⟨_,fun hz q=>?_,fun hz=>?_,rfl⟩
  · obtain ⟨q1, q2, q3, q4, q5, q6, q7, q8, q9, q10⟩ := q
    simp only [Bool.not_eq_true',Bool.and_eq_false_iff,decide_eq_false_iff_not] at hz;omega
  · simp only [Bool.not_eq_false',Bool.and_eq_true,decide_eq_true_eq] at hz;exact ⟨by simp_all,by omega,by omega,by omega,by omega,by omega,by omega,by omega,by omega,by omega⟩
  rintro zs ⟨z,hC8_0,hC8_1,rfl⟩
  refine spC 61 rfl ?_ ?_<;>intro h8<;>try simp only [dq] at h8
  refine xA tb hM0 13 [] [] rfl ?_
  refine end_ret rfl ?_
  rw [indexAV_bad (validA_bad1 (i:=i) (by omega) (hC8_0 (by assumption)))]
  obtain ⟨o1,o2,o3,o4,o5,o6,o7,o8,o9,o10⟩:=hC8_1 (by assumption)
  refine xA tb hM0 4 [0,3,4,5,13,14,15] [5,12] rfl ?_
  refine ct (fun zs=>∃ z:Bool,(z=true→¬ ok2P (a.getD i default) i)∧(z=false→ok2P (a.getD i default) i)∧zs=⟨85,[(0,.v .mx (letters a)),(3,.omap 12),(4,.v .pl (int i)),(5,.pbox 5 0),(13,.v .mx (letters a)),(14,.v .pl (int a.length)),(15,.v .pl (int i)),(73,.v .pl (bool z))],[(5,.box 83 (lcells .mx (a.getD i default))),(12,.mp (ixK a i) (ixV a i))]⟩) ?_ ?_
  refine xA tb hM0 6 [0,3,4,5,13,14,15,66] [5,12] rfl ?_
  refine spO 66 rfl ?_ ?_<;>intro h9'<;>try simp only [dq] at h9'
  refine xA tb hM0 4 [0,3,4,5,13,14,15,66,68,70] [5,12] rfl ?_
  refine oP rfl (pure_addi rfl rfl rfl (by omega)) ?_
  refine xA tb hM0 3 [0,3,4,5,13,14,15,73] [5,12] rfl ?_
  refine cx ?_
  refine ⟨_,fun hz q=>?_,fun hz=>?_,rfl⟩
  · have q1:=q (by omega);simp only [decide_eq_true_eq] at hz;omega
  · simp only [decide_eq_false_iff_not] at hz;intro _;omega
  refine xA tb hM0 8 [0,3,4,5,13,14,15,73] [5,12] rfl ?_
  refine cx ?_
  refine ⟨false,fun hz=>(by cases hz),fun _ q=>?_,rfl⟩
  omega
  rintro zs ⟨z2,hC10_0,hC10_1,rfl⟩
  refine spC 73 rfl ?_ ?_<;>intro h10<;>try simp only [dq] at h10
  refine xA tb hM0 13 [] [] rfl ?_
  refine end_ret rfl ?_
  rw [indexAV_bad (validA_bad2 (i:=i) (by omega) (hC10_0 (by assumption)))]
  refine xA tb hM0 8 [0,3,13,14,15,74,76,77] [12] rfl ?_
  refine oS rfl (step_put rfl rfl rfl Tryz.underlying88 Tryz.underlying9 rfl rfl rfl rfl trivial (ixK_isKey a i) hM0) rfl ?_
  refine xA tb hM0 4 [0,3,13,14,15] [12] rfl ?_
  refine oP rfl (pure_addi rfl rfl rfl (by omega)) ?_
  refine xA tb hM0 2 [0,3,13,14,15] [12] rfl ?_
  refine nx ?_
  exact ⟨_,⟨i+1,rfl,by omega,lt_step hL1_1 ⟨hC8_1 (by assumption),hC10_1 (by assumption)⟩,rfl⟩,by omega⟩
  refine xA tb hM0 10 [0,3,79] [12] rfl ?_
  refine oP rfl (pure_mlen rfl Tryz.underlying88 rfl) ?_
  refine xA tb hM0 1 [3,80,81] [12] rfl ?_
  refine oP rfl (pure_lenm rfl Tryz.underlying39 rfl) ?_
  refine xA tb hM0 3 [3,83] [12] rfl ?_
  refine spC 83 rfl ?_ ?_<;>intro h11<;>try simp only [dq] at h11
  refine xA tb hM0 8 [] [] rfl ?_
  refine end_ret rfl ?_
  have hi:i=a.length:=by omega
  rw [indexAV_bad (validA_dup (i:=i) hi (by subst hi;omega))]
  refine xA tb hM0 10 [] [] rfl ?_
  refine end_ret rfl ?_
  have hi:i=a.length:=by omega
  rw [indexAV_good (i:=i) (by omega) hi hL1_1 (by subst hi;omega)]
  all_goals
    refine ⟨true,fun _ q=>?_,fun hz=>(by cases hz),rfl⟩
    obtain ⟨q1,q2,q3,q4,q5,q6,q7,q8,q9,q10⟩:=q
    first|omega|simp_all
end Go.Proofs.YtgdehkimfmfofaaGreat

namespace Go.Proofs.YtgdehkimfmfofaaGreat
open Go.Am Go.Wc
theorem fn43:Fn1 Tryz.prog 43 Tryz.f43.ntmps 2 (Tryz.f43.body.getD .skip):=⟨Tryz.f43,Tryz.func43,rfl,rfl,rfl,by kernel_rfl⟩
set_option maxRecDepth 100000 in
theorem validA_call0 {a:List Letter} (hi:CallF Tryz.prog 72 [letters a] (.p (.sc (.map none)))):CallF Tryz.prog 43 [letters a] (.p (bool false)):=by
  refine callF_of_code fn43 (Nat.le_of_ble_eq_true rfl) fun w0 M0 hM0=>?_
  refine xC tb hM0 8 [3] [] rfl ?_
  refine oP rfl (pure_call rfl rfl rfl (hi) hM0) ?_
  refine oP rfl (by first|exact pure_neq_mnil rfl Tryz.underlying88 rfl rfl|exact pure_neq_mnil0 rfl Tryz.underlying88 rfl rfl) ?_
  refine xA tb hM0 4 [] [] rfl ?_
  refine end_ret rfl ?_
  rfl
set_option maxRecDepth 100000 in
theorem validA_call1 {a:List Letter} {ks:List Value} {vs:List AV} (hi:CallF Tryz.prog 72 [letters a] (.p (.mp ks vs))):CallF Tryz.prog 43 [letters a] (.p (bool true)):=by
  refine callF_of_code fn43 (Nat.le_of_ble_eq_true rfl) fun w0 M0 hM0=>?_
  refine xC tb hM0 8 [3] [] rfl ?_
  refine oP rfl (pure_call rfl rfl rfl (hi) hM0) ?_
  refine oP rfl (by first|exact pure_neq_mnil rfl Tryz.underlying88 rfl rfl|exact pure_neq_mnil0 rfl Tryz.underlying88 rfl rfl) ?_
  refine xA tb hM0 4 [] [] rfl ?_
  refine end_ret rfl ?_
  rfl
theorem validA_call {a:List Letter} (ha:a.length≤1099511627776) (ht:∀ x∈a,x.text.length≤9223372036854775807):CallF Tryz.prog 43 [letters a] (.p (bool (validA a))):=by
  have hi:=index_call ha ht
  unfold indexAV at hi
  cases hv:validA a
  · rw [hv, if_neg (by simp)] at hi
    exact validA_call0 hi
  · rw [hv, if_pos rfl] at hi
    exact validA_call1 hi
end Go.Proofs.YtgdehkimfmfofaaGreat

namespace Go.Proofs.YtgdehkimfmfofaaGreat
open Go.Am Go.Wb Go.Wc
theorem fn32:FnC2 Tryz.prog 32 Tryz.f32.ntmps 6 25 3 7 (Tryz.f32.body.getD .skip):=⟨Tryz.f32,Tryz.func32,rfl,rfl,rfl,by kernel_rfl,ag25,sz25⟩
set_option maxRecDepth 100000 in
set_option maxHeartbeats 16000000 in
theorem parse_call {s:List UInt8} {a:List Letter} {sets:List SetT} (hs:s.length≤9223372036854775807) (ha:a.length≤1099511627776) (ht:∀ x∈a,x.text.length≤9223372036854775807) (hset:sets.length≤9223372036854775807) (hsy:∀ x∈sets,x.syms.length≤9223372036854775807) :
    CallF Tryz.prog 32 [sbytes s,letters a,setsA sets] (.p (.tup [rx (parseP a sets s).1,int (parseP a sets s).2])):=by
  have hT:=fun h:validA a=true∧s.length≤1024=>toksP_ok (a:=a) (sets:=sets) (s:=s) h.1 h.2
  refine callF_of_codeC2 fn32 (Nat.le_of_ble_eq_true rfl) fun w0 M0 hM0=>?_
  refine xC tb hM0 10 [0,1,2,6,10] [6] rfl ?_
  refine oP rfl (pure_call rfl rfl rfl (validA_call ha ht) hM0) ?_
  refine xA tb hM0 3 [0,1,2,6,12] [6] rfl ?_
  refine spC 12 rfl ?_ ?_<;>intro h1<;>try simp only [dq] at h1
  refine xA tb hM0 10 [] [] rfl ?_
  refine endC2_ret rfl rfl ?_;rotate_left
  refine xA tb hM0 7 [0,1,2,6,14] [6] rfl ?_
  refine oP rfl (pure_slen rfl Tryz.underlying9 rfl) ?_
  refine xA tb hM0 3 [0,1,2,6,16] [6] rfl ?_
  refine spC 16 rfl ?_ ?_<;>intro h2<;>try simp only [dq] at h2
  refine xA tb hM0 10 [] [] rfl ?_
  refine endC2_ret rfl rfl ?_;rotate_left
  refine xA tb hM0 8 [6,18,19,20] [6] rfl ?_
  refine oP rfl (pure_call rfl rfl rfl (tokens_call (by omega) (by omega) hset hsy) hM0) ?_
  refine xA tb hM0 1 [6,22] [6] rfl ?_
  refine oS rfl (step_box rfl rfl rfl rfl rfl rfl rfl (by decide) hM0) rfl ?_
  refine xA tb hM0 4 [6,8] [6,23] rfl ?_
  obtain ⟨he,hok,hw⟩:=hT ⟨by assumption,by omega⟩
  obtain ⟨g1,g2,g3,g4,g5⟩:=pAlt_ok (pSeq_ok (pPost_ok _)) (⟨(toksP a sets s),-1⟩:PS) (Nat.le_refl _) he hok
  have g0:=g1.1
  refine xA tb hM0 2 [6,8,24] [6,23] rfl ?_
  refine oS rfl (step_callO [(1000001,23)] rfl rfl rfl rfl rfl rfl rfl (alt_calls _ (⟨(toksP a sets s),-1⟩:PS) (Nat.le_refl _) he hok hw) ⟨.inl rfl,trivial⟩ ⟨rfl,trivial⟩ rfl rfl rfl rfl rfl hM0) rfl ?_
  refine xA tb hM0 4 [6,8,9] [6,9,23] rfl ?_
  refine ct (fun zs=>zs=⟨54,[(6,.pbox 6 0),(8,.pbox 23 0),(9,.pbox 9 0)],[(6,.box 25 [.v .pl (.sc (.int .i64 0)),.v .pl (.sc (.slice none 0 0)),.v .pl (.sc (.slice none 0 0))]),(9,.box 25 [.v .pl (int ((pAlt (pSeq (pPost (toksP a sets s).length)) (⟨(toksP a sets s),-1⟩:PS)).1).kind),.v .pl (ints ((pAlt (pSeq (pPost (toksP a sets s).length)) (⟨(toksP a sets s),-1⟩:PS)).1).syms),.v .pl (.sl (Rx.avs ((pAlt (pSeq (pPost (toksP a sets s).length)) (⟨(toksP a sets s),-1⟩:PS)).1).kids))]),(23,.box 73 [.v .pl (toks (finP (pAlt (pSeq (pPost (toksP a sets s).length)) (⟨(toksP a sets s),-1⟩:PS)).2).l),.v .pl (int (finP (pAlt (pSeq (pPost (toksP a sets s).length)) (⟨(toksP a sets s),-1⟩:PS)).2).bad)])]⟩) ?_ ?_
  refine xA tb hM0 8 [6,8,9,31] [6,9,23] rfl ?_
  refine spO 31 rfl ?_ ?_<;>intro h3'<;>try simp only [dq] at h3'
  refine xA tb hM0 4 [6,8,9,31,35] [6,9,23] rfl ?_
  refine oP rfl (pure_ix rfl Tryz.underlying70 sz76 rfl rfl (by omega) (fun _=>rfl)) ?_
  refine xA tb hM0 2 [6,8,9,31,38] [6,9,23] rfl ?_
  refine oP rfl (pure_neq rfl rfl rfl) ?_
  refine xA tb hM0 3 [6,8,9,40] [6,9,23] rfl ?_
  refine spC 40 rfl ?_ ?_<;>intro h4<;>try simp only [dq] at h4
  refine xA tb hM0 3 [6,8,9,41] [6,9,23] rfl ?_
  refine oS rfl (step_callO [(1000001,23)] rfl rfl rfl rfl rfl rfl rfl (fail_call (s:=(pAlt (pSeq (pPost (toksP a sets s).length)) (⟨(toksP a sets s),-1⟩:PS)).2) g0) ⟨.inl rfl,trivial⟩ ⟨rfl,trivial⟩ rfl rfl rfl rfl rfl hM0) rfl ?_
  refine xA tb hM0 1 [6,8,9] [6,9,23] rfl ?_
  refine cx ?_;rotate_left
  refine xA tb hM0 2 [6,8,9] [6,9,23] rfl ?_
  refine cx ?_;rotate_left
  refine xA tb hM0 13 [6,8,9] [6,9,23] rfl ?_
  refine cx ?_;rotate_left
  rintro zs ⟨rfl⟩
  refine xA tb hM0 10 [6,8,9,47] [6,9,23] rfl ?_
  refine spC 47 rfl ?_ ?_<;>intro h5<;>try simp only [dq] at h5
  refine xA tb hM0 2 [6,8] [6,23] rfl ?_
  refine code_draw mixed (by kernel_rfl) _ rfl ?_
  refine dl_ends (by kernel_rfl) (endL_of (n:=7) (by kernel_rfl) ?_)
  refine ex_two (i:=0) (j:=1) (by kernel_rfl) rfl rfl rfl rfl (st_pure rfl rfl (pure_build rfl pl25 ze25 rfl rfl rfl)) (st_pure rfl rfl (pure_move rfl rfl)) ?_ ?_
  refine ex_two (i:=1) (j:=5) (by kernel_rfl) rfl rfl rfl rfl (st_pure rfl rfl (pure_move rfl rfl)) (step_store_box rfl rfl rfl sz25 rfl rfl rfl rfl (by decide) rfl rfl hM0) ?_ ?_
  refine ex_two (i:=2) (j:=5) (by kernel_rfl) rfl rfl rfl rfl (st_pure rfl rfl (pure_nilbox rfl rfl rfl)) (step_store_box rfl rfl rfl sz25 rfl rfl rfl rfl (by decide) rfl rfl hM0) ?_ ?_
  refine ex_two (i:=3) (j:=5) (by kernel_rfl) rfl rfl rfl rfl (st_pure rfl rfl (pure_field_box rfl fd73_1 rfl rfl)) (step_store_box rfl rfl rfl sz25 rfl rfl rfl rfl (by decide) rfl rfl hM0) ?_ ?_
  refine ex_two (i:=4) (j:=5) (by kernel_rfl) rfl rfl rfl rfl (st_pure rfl rfl (pure_load_box rfl ag3 rfl rfl rfl)) (step_store_box rfl rfl rfl sz25 rfl rfl rfl rfl (by decide) rfl rfl hM0) ?_ ?_
  refine ex_one (i:=5) (by kernel_rfl) rfl rfl (step_store_box rfl rfl rfl sz25 rfl rfl rfl rfl (by decide) rfl rfl hM0) ?_
  refine ex_one (i:=6) (by kernel_rfl) rfl rfl (st_pure rfl rfl (pure_assign rfl rfl)) ?_
  refine ex_end (by kernel_rfl) ?_
  refine xD tb hM0 3 [] [] rfl ?_
  refine endC2_ret rfl rfl ?_;rotate_left
  refine ex_one (i:=4) (by kernel_rfl) rfl rfl (st_pure rfl rfl (pure_load_box rfl ag3 rfl rfl rfl)) ?_
  refine ex_one (i:=6) (by kernel_rfl) rfl rfl (st_pure rfl rfl (pure_assign rfl rfl)) ?_
  refine ex_end (by kernel_rfl) ?_
  refine xD tb hM0 3 [] [] rfl ?_
  refine endC2_ret rfl rfl ?_;rotate_left
  refine ex_one (i:=3) (by kernel_rfl) rfl rfl (st_pure rfl rfl (pure_field_box rfl fd73_1 rfl rfl)) ?_
  refine ex_one (i:=4) (by kernel_rfl) rfl rfl (st_pure rfl rfl (pure_load_box rfl ag3 rfl rfl rfl)) ?_
  refine ex_one (i:=6) (by kernel_rfl) rfl rfl (st_pure rfl rfl (pure_assign rfl rfl)) ?_
  refine ex_end (by kernel_rfl) ?_
  refine xD tb hM0 3 [] [] rfl ?_
  refine endC2_ret rfl rfl ?_;rotate_left
  refine ex_one (i:=2) (by kernel_rfl) rfl rfl (st_pure rfl rfl (pure_nilbox rfl rfl rfl)) ?_
  refine ex_one (i:=3) (by kernel_rfl) rfl rfl (st_pure rfl rfl (pure_field_box rfl fd73_1 rfl rfl)) ?_
  refine ex_one (i:=4) (by kernel_rfl) rfl rfl (st_pure rfl rfl (pure_load_box rfl ag3 rfl rfl rfl)) ?_
  refine ex_one (i:=6) (by kernel_rfl) rfl rfl (st_pure rfl rfl (pure_assign rfl rfl)) ?_
  refine ex_end (by kernel_rfl) ?_
  refine xD tb hM0 3 [] [] rfl ?_
  refine endC2_ret rfl rfl ?_;rotate_left
  refine ex_one (i:=1) (by kernel_rfl) rfl rfl (st_pure rfl rfl (pure_move rfl rfl)) ?_
  refine ex_one (i:=2) (by kernel_rfl) rfl rfl (st_pure rfl rfl (pure_nilbox rfl rfl rfl)) ?_
  refine ex_one (i:=3) (by kernel_rfl) rfl rfl (st_pure rfl rfl (pure_field_box rfl fd73_1 rfl rfl)) ?_
  refine ex_one (i:=4) (by kernel_rfl) rfl rfl (st_pure rfl rfl (pure_load_box rfl ag3 rfl rfl rfl)) ?_
  refine ex_one (i:=6) (by kernel_rfl) rfl rfl (st_pure rfl rfl (pure_assign rfl rfl)) ?_
  refine ex_end (by kernel_rfl) ?_
  refine xD tb hM0 3 [] [] rfl ?_
  refine endC2_ret rfl rfl ?_;rotate_left
  refine ex_two (i:=0) (j:=2) (by kernel_rfl) rfl rfl rfl rfl (st_pure rfl rfl (pure_build rfl pl25 ze25 rfl rfl rfl)) (st_pure rfl rfl (pure_nilbox rfl rfl rfl)) ?_ ?_
  refine ex_two (i:=2) (j:=5) (by kernel_rfl) rfl rfl rfl rfl (st_pure rfl rfl (pure_nilbox rfl rfl rfl)) (step_store_box rfl rfl rfl sz25 rfl rfl rfl rfl (by decide) rfl rfl hM0) ?_ ?_
  refine ex_two (i:=3) (j:=5) (by kernel_rfl) rfl rfl rfl rfl (st_pure rfl rfl (pure_field_box rfl fd73_1 rfl rfl)) (step_store_box rfl rfl rfl sz25 rfl rfl rfl rfl (by decide) rfl rfl hM0) ?_ ?_
  refine ex_two (i:=4) (j:=5) (by kernel_rfl) rfl rfl rfl rfl (st_pure rfl rfl (pure_load_box rfl ag3 rfl rfl rfl)) (step_store_box rfl rfl rfl sz25 rfl rfl rfl rfl (by decide) rfl rfl hM0) ?_ ?_
  refine ex_one (i:=5) (by kernel_rfl) rfl rfl (step_store_box rfl rfl rfl sz25 rfl rfl rfl rfl (by decide) rfl rfl hM0) ?_
  refine ex_one (i:=6) (by kernel_rfl) rfl rfl (st_pure rfl rfl (pure_assign rfl rfl)) ?_
  refine ex_end (by kernel_rfl) ?_
  refine xD tb hM0 3 [] [] rfl ?_
  refine endC2_ret rfl rfl ?_;rotate_left
  refine ex_one (i:=4) (by kernel_rfl) rfl rfl (st_pure rfl rfl (pure_load_box rfl ag3 rfl rfl rfl)) ?_
  refine ex_one (i:=6) (by kernel_rfl) rfl rfl (st_pure rfl rfl (pure_assign rfl rfl)) ?_
  refine ex_end (by kernel_rfl) ?_
  refine xD tb hM0 3 [] [] rfl ?_
  refine endC2_ret rfl rfl ?_;rotate_left
  refine ex_one (i:=3) (by kernel_rfl) rfl rfl (st_pure rfl rfl (pure_field_box rfl fd73_1 rfl rfl)) ?_
  refine ex_one (i:=4) (by kernel_rfl) rfl rfl (st_pure rfl rfl (pure_load_box rfl ag3 rfl rfl rfl)) ?_
  refine ex_one (i:=6) (by kernel_rfl) rfl rfl (st_pure rfl rfl (pure_assign rfl rfl)) ?_
  refine ex_end (by kernel_rfl) ?_
  refine xD tb hM0 3 [] [] rfl ?_
  refine endC2_ret rfl rfl ?_;rotate_left
  refine ex_one (i:=2) (by kernel_rfl) rfl rfl (st_pure rfl rfl (pure_nilbox rfl rfl rfl)) ?_
  refine ex_one (i:=3) (by kernel_rfl) rfl rfl (st_pure rfl rfl (pure_field_box rfl fd73_1 rfl rfl)) ?_
  refine ex_one (i:=4) (by kernel_rfl) rfl rfl (st_pure rfl rfl (pure_load_box rfl ag3 rfl rfl rfl)) ?_
  refine ex_one (i:=6) (by kernel_rfl) rfl rfl (st_pure rfl rfl (pure_assign rfl rfl)) ?_
  refine ex_end (by kernel_rfl) ?_
  refine xD tb hM0 3 [] [] rfl ?_
  refine endC2_ret rfl rfl ?_;rotate_left
  refine ex_two (i:=0) (j:=3) (by kernel_rfl) rfl rfl rfl rfl (st_pure rfl rfl (pure_build rfl pl25 ze25 rfl rfl rfl)) (st_pure rfl rfl (pure_field_box rfl fd73_1 rfl rfl)) ?_ ?_
  refine ex_two (i:=3) (j:=5) (by kernel_rfl) rfl rfl rfl rfl (st_pure rfl rfl (pure_field_box rfl fd73_1 rfl rfl)) (step_store_box rfl rfl rfl sz25 rfl rfl rfl rfl (by decide) rfl rfl hM0) ?_ ?_
  refine ex_two (i:=4) (j:=5) (by kernel_rfl) rfl rfl rfl rfl (st_pure rfl rfl (pure_load_box rfl ag3 rfl rfl rfl)) (step_store_box rfl rfl rfl sz25 rfl rfl rfl rfl (by decide) rfl rfl hM0) ?_ ?_
  refine ex_one (i:=5) (by kernel_rfl) rfl rfl (step_store_box rfl rfl rfl sz25 rfl rfl rfl rfl (by decide) rfl rfl hM0) ?_
  refine ex_one (i:=6) (by kernel_rfl) rfl rfl (st_pure rfl rfl (pure_assign rfl rfl)) ?_
  refine ex_end (by kernel_rfl) ?_
  refine xD tb hM0 3 [] [] rfl ?_
  refine endC2_ret rfl rfl ?_;rotate_left
  refine ex_one (i:=4) (by kernel_rfl) rfl rfl (st_pure rfl rfl (pure_load_box rfl ag3 rfl rfl rfl)) ?_
  refine ex_one (i:=6) (by kernel_rfl) rfl rfl (st_pure rfl rfl (pure_assign rfl rfl)) ?_
  refine ex_end (by kernel_rfl) ?_
  refine xD tb hM0 3 [] [] rfl ?_
  refine endC2_ret rfl rfl ?_;rotate_left
  refine ex_one (i:=3) (by kernel_rfl) rfl rfl (st_pure rfl rfl (pure_field_box rfl fd73_1 rfl rfl)) ?_
  refine ex_one (i:=4) (by kernel_rfl) rfl rfl (st_pure rfl rfl (pure_load_box rfl ag3 rfl rfl rfl)) ?_
  refine ex_one (i:=6) (by kernel_rfl) rfl rfl (st_pure rfl rfl (pure_assign rfl rfl)) ?_
  refine ex_end (by kernel_rfl) ?_
  refine xD tb hM0 3 [] [] rfl ?_
  refine endC2_ret rfl rfl ?_;rotate_left
  refine ex_two (i:=0) (j:=4) (by kernel_rfl) rfl rfl rfl rfl (st_pure rfl rfl (pure_build rfl pl25 ze25 rfl rfl rfl)) (st_pure rfl rfl (pure_load_box rfl ag3 rfl rfl rfl)) ?_ ?_
  refine ex_two (i:=4) (j:=5) (by kernel_rfl) rfl rfl rfl rfl (st_pure rfl rfl (pure_load_box rfl ag3 rfl rfl rfl)) (step_store_box rfl rfl rfl sz25 rfl rfl rfl rfl (by decide) rfl rfl hM0) ?_ ?_
  refine ex_one (i:=5) (by kernel_rfl) rfl rfl (step_store_box rfl rfl rfl sz25 rfl rfl rfl rfl (by decide) rfl rfl hM0) ?_
  refine ex_one (i:=6) (by kernel_rfl) rfl rfl (st_pure rfl rfl (pure_assign rfl rfl)) ?_
  refine ex_end (by kernel_rfl) ?_
  refine xD tb hM0 3 [] [] rfl ?_
  refine endC2_ret rfl rfl ?_;rotate_left
  refine ex_one (i:=4) (by kernel_rfl) rfl rfl (st_pure rfl rfl (pure_load_box rfl ag3 rfl rfl rfl)) ?_
  refine ex_one (i:=6) (by kernel_rfl) rfl rfl (st_pure rfl rfl (pure_assign rfl rfl)) ?_
  refine ex_end (by kernel_rfl) ?_
  refine xD tb hM0 3 [] [] rfl ?_
  refine endC2_ret rfl rfl ?_;rotate_left
  refine ex_one (i:=0) (by kernel_rfl) rfl rfl (st_pure rfl rfl (pure_build rfl pl25 ze25 rfl rfl rfl)) ?_
  refine ex_one (i:=5) (by kernel_rfl) rfl rfl (step_store_box rfl rfl rfl sz25 rfl rfl rfl rfl (by decide) rfl rfl hM0) ?_
  refine ex_one (i:=6) (by kernel_rfl) rfl rfl (st_pure rfl rfl (pure_assign rfl rfl)) ?_
  refine ex_end (by kernel_rfl) ?_
  refine xD tb hM0 3 [] [] rfl ?_
  refine endC2_ret rfl rfl ?_;rotate_left
  refine xA tb hM0 11 [] [] rfl ?_
  refine endC2_ret rfl rfl ?_;rotate_left
  all_goals first
   | (
     unfold parseP
     first
       | (rw [if_pos (by assumption)];exact ⟨rfl,rfl⟩)
       | (rw [if_neg (by rw [h1];decide),if_pos (by omega)];exact ⟨rfl,rfl⟩)
       | (rw [if_neg (by rw [h1];decide),if_neg (by omega),pTop_bad (by omega)];exact ⟨rfl,rfl⟩)
       | (rw [if_neg (by rw [h1];decide),if_neg (by omega),pTop_ok (by omega)];exact ⟨rfl,rfl⟩);done)
   | (
     first
       | (rw [show finP (pAlt (pSeq (pPost (toksP a sets s).length)) (⟨(toksP a sets s),-1⟩:PS)).2=(pAlt (pSeq (pPost (toksP a sets s).length)) (⟨(toksP a sets s),-1⟩:PS)).2.fail from if_pos ⟨by omega,by unfold PS.hd;omega⟩];rfl)
       | (rw [show finP (pAlt (pSeq (pPost (toksP a sets s).length)) (⟨(toksP a sets s),-1⟩:PS)).2=(pAlt (pSeq (pPost (toksP a sets s).length)) (⟨(toksP a sets s),-1⟩:PS)).2 from if_neg (fun q=>by have q2:=q.2;unfold PS.hd at q2;omega)];first|done|rfl);done)
end Go.Proofs.YtgdehkimfmfofaaGreat

