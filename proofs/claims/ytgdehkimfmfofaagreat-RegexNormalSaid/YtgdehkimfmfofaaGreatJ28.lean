/-
  Contract: the normal form of alternatives, as the program makes it.
-/
import Derived.Test.YtgdehkimfmfofaaGreatJ12
import Derived.Test.YtgdehkimfmfofaaGreatJ25
import Derived.Test.YtgdehkimfmfofaaGreatJ26
import Derived.Test.YtgdehkimfmfofaaGreatJ27
set_option linter.unusedVariables false
set_option linter.unusedSimpArgs false
namespace Go.Proofs.YtgdehkimfmfofaaGreat
open Go.Am Go.Wb
set_option linter.unusedVariables false
set_option linter.unusedSimpArgs false
theorem pure_avs {P : Program} {w0 : Fr} {M0 : Nat → Prop} {o : Oper} {ρ : Operand → Option SV} {ob : List (Nat × Ob)} {c : Cls} {l : List Rx} (h : Pure P w0 M0 o ρ ob (.v c (.sl (Rx.avs l)))) : Pure P w0 M0 o ρ ob (.v c (rxs l)) := by
  rw [avs_eq] at h; exact h

theorem fn117 : Fn1 Tryz.prog 117 Tryz.f117.ntmps 4 (Tryz.f117.body.getD .skip) := ⟨Tryz.f117, Tryz.func117, rfl, rfl, rfl, by kernel_rfl⟩
set_option maxRecDepth 100000 in
set_option maxHeartbeats 1000000 in
theorem alt2_call {x y : Rx} (hx : x.size ≤ 1099511627776) (hy : y.size ≤ 1099511627776) : CallF Tryz.prog 117 [rx x, rx y] (.p (bool (eqR x y))) := by
  refine callF_of_code fn117 (Nat.le_of_ble_eq_true rfl) fun w0 M0 hM0 => ?_
  refine code_seq ?_
  refine code_ops _ rfl ?_
  refine ol_pure rfl rfl rfl (pure_box rfl rfl rfl hM0) ?_
  refine ol_pure rfl rfl rfl (pure_box rfl rfl rfl hM0) ?_
  refine ol_pure rfl rfl rfl (pure_assign rfl rfl) ?_
  refine ol_nil ?_
  refine spk 9 [(2,_),(3,_)] [] rfl rfl rfl ?_
  refine code_seq ?_
  refine code_ops _ rfl ?_
  refine ol_pure rfl rfl rfl (pure_load_agg rfl ag25 sz25 rfl (Nat.le_of_ble_eq_true rfl)) ?_
  refine ol_pure rfl rfl rfl (pure_load_agg rfl ag25 sz25 rfl (Nat.le_of_ble_eq_true rfl)) ?_
  refine ol_pure rfl rfl rfl (pure_call rfl rfl rfl (compare_call _ _ _ (Nat.le_refl _) hy hx) hM0) ?_
  refine ol_pure rfl rfl rfl (pure_eql rfl rfl rfl) ?_
  refine ol_pure rfl rfl rfl (pure_assign rfl rfl) ?_
  refine ol_nil ?_
  refine spk 9 [(4,_)] [] rfl rfl rfl ?_
  refine code_ret ?_
  refine end_ret rfl ?_
  rfl

theorem compare_callable : Callable Tryz.prog 115 := ⟨Tryz.f115, Tryz.func115, by kernel_rfl, by kernel_rfl⟩
theorem fn78 : FnC Tryz.prog 78 Tryz.f78.ntmps 2 25 3 (Tryz.f78.body.getD .skip) := ⟨Tryz.f78, Tryz.func78, rfl, rfl, rfl, by kernel_rfl, ag25, sz25⟩
set_option maxRecDepth 100000 in
set_option maxHeartbeats 8000000 in
theorem alt_call {l : List Rx} (hs : Rx.sizes l ≤ 549755813888) : CallN Tryz.prog 78 [rxs l] (.p (rx (altN l))) := by
  have hl := sizes_len l
  have hbd := alt_bd l
  have hM := altM_sizes (altS l) (altK l)
  have hMl := sizes_len (altM (altS l) (altK l))
  have hKl := sizes_len (altK l)
  have hMs : ∀ z ∈ altM (altS l) (altK l), z.size ≤ 1099511627776 := fun z hz => by have := size_mem hz; omega
  have hDl : (altD l).length ≤ 1099511627776 := by
    have h1 := cpt_len (eq := eqR) (l := sortR (altM (altS l) (altK l)))
    rw [sortR_len] at h1
    show (cpt _ _).length ≤ _
    omega
  have hSl := sortI_len (altS l)
  refine callN_of_codeC fn78 (Nat.le_of_ble_eq_true rfl) fun w0 M0 hM0 => ?_
  refine code_seq ?_
  refine code_ops _ rfl ?_
  refine ol_step rfl (step_alloc rfl rfl rfl rfl rfl ze25 rfl hM0) ?_
  refine ol_nil ?_
  refine spk 81 [(0,_),(2,_)] [(2,_)] rfl rfl rfl ?_
  refine code_seq ?_
  refine code_ops _ rfl ?_
  refine ol_step rfl (step_alloc rfl rfl rfl rfl rfl ze23 rfl hM0) ?_
  refine ol_nil ?_
  refine spk 81 [(0,_),(2,_),(3,_)] [(2,_),(3,_)] rfl rfl rfl ?_
  refine code_seq ?_
  refine code_ops _ rfl ?_
  refine ol_step rfl (step_alloc rfl rfl rfl rfl rfl ze22 rfl hM0) ?_
  refine ol_nil ?_
  refine spk 81 [(0,_),(2,_),(3,_),(4,_)] [(2,_),(3,_),(4,_)] rfl rfl rfl ?_
  refine code_seq ?_
  refine code_ops _ rfl ?_
  refine ol_pure rfl rfl rfl (pure_fn rfl rfl) ?_
  refine ol_pure rfl rfl rfl (pure_assign rfl rfl) ?_
  refine ol_nil ?_
  refine spk 81 [(0,_),(2,_),(3,_),(4,_),(5,_)] [(2,_),(3,_),(4,_)] rfl rfl rfl ?_
  refine code_seq ?_
  refine code_seq ?_
  refine code_nilown 3 0 11 25 23 hM0 rfl rfl rfl rfl ?_
  refine code_nilown 4 0 10 3 22 hM0 rfl rfl rfl rfl ?_
  refine code_ops _ rfl ?_
  refine ol_pure rfl rfl rfl (pure_move rfl rfl) ?_
  refine ol_pure rfl rfl rfl (pure_lenm rfl Tryz.underlying23 rfl) ?_
  refine ol_pure rfl rfl rfl (pure_move rfl rfl) ?_
  refine ol_nil ?_
  refine spk 81 [(2,_),(3,_),(4,_),(5,_),(11,_),(12,_),(13,_)] [(2,_),(3,_),(4,_),(10,_),(11,_)] rfl rfl rfl ?_
  refine code_block ?_
  refine code_loopM (fun zm zs => ∃ i : Nat, zm = l.length - i ∧ (i ≤ l.length) ∧ zs = ⟨81, [(2, .pbox 2 0), (3, .pbox 3 0), (4, .pbox 4 0), (5, .fn 111 [.bx 4, .bx 3]), (11, .v .pl (rxs l)), (12, .v .pl (int l.length)), (13, .v .pl (int i))], [(2, .box 25 [.v .pl (.sc (.int .i64 0)), .v .pl (.sc (.slice none 0 0)), .v .pl (.sc (.slice none 0 0))]), (3, .box 23 [.own 11]), (4, .box 22 [.own 10]), (10, .arr 3 ((putSs (altL (l.take i))).map int)), (11, .arr 25 ((putKs (altL (l.take i))).map rx))]⟩) (loop_init (n := 81) (l := [(2, _), (3, _), (4, _), (5, _), (11, _), (12, _), (13, _)]) (o' := [(2, _), (3, _), (4, _), (10, _), (11, _)]) rfl ⟨rfl, rfl, rfl, rfl, rfl, rfl, rfl, trivial⟩ ⟨rfl, rfl, rfl, rfl, rfl, trivial⟩ ?_) ?_
  ·exact ⟨_, 0, rfl, Nat.zero_le _, rfl⟩
  ·rintro zm zs ⟨i, rfl, hL1_0, rfl⟩
   have hb1 := puts_bd (altL (l.take i))
   have hb2 := sizes_altL (l.take i)
   have hb3 := sizes_take_le l i
   have hb4 := sizes_len (putKs (altL (l.take i)))
   have hb5 := fun (h : i < l.length) => size_mem (kid_mem h)
   have hb6 := syms_len (l.getD i default)
   have hb7 := sizes_take_drop l i
   have hb8 := fun (h : i < l.length) => sizes_step h
   have hb10 := kids_len (l.getD i default)
   have hb9 := size_eq (l.getD i default)
   refine code_seq ?_
   refine code_ops _ rfl ?_
   refine ol_pure rfl rfl rfl (pure_lss rfl rfl rfl) ?_
   refine ol_nil ?_
   refine spk 81 [(2,_),(3,_),(4,_),(5,_),(11,_),(12,_),(13,_),(14,_)] [(2,_),(3,_),(4,_),(10,_),(11,_)] rfl rfl rfl ?_
   refine code_seq ?_
   refine code_cond rfl (fun h1 => ?_) (fun h1 => ?_)
   ·try simp only [dq] at h1
    refine code_skip ?_
    refine spk 81 [(2,_),(3,_),(4,_),(5,_),(11,_),(12,_),(13,_)] [(2,_),(3,_),(4,_),(10,_),(11,_)] rfl rfl rfl ?_
    refine code_seq ?_
    refine code_block ?_
    refine code_seq ?_
    refine code_ops _ rfl ?_
    first | refine ol_pure rfl rfl rfl (pure_indexn rfl Tryz.underlying23 sz25 rfl rfl (by omega) (fun _ => rfl)) ?_ | refine ol_pure rfl rfl rfl (pure_indexm rfl Tryz.underlying23 sz25 rfl rfl (by omega) (fun _ => rfl)) ?_
    refine ol_pure rfl rfl rfl (pure_load_agg rfl ag25 sz25 rfl (Nat.le_of_ble_eq_true rfl)) ?_
    refine ol_step rfl (step_alloc rfl rfl rfl rfl rfl ze25 rfl hM0) ?_
    refine ol_step rfl (step_store_box rfl rfl rfl sz25 rfl rfl rfl rfl (by decide) rfl rfl hM0) ?_
    refine ol_nil ?_
    refine spk 81 [(2,_),(3,_),(4,_),(5,_),(7,_),(11,_),(12,_),(13,_)] [(2,_),(3,_),(4,_),(7,_),(10,_),(11,_)] rfl rfl rfl ?_
    refine code_seq ?_
    refine code_seq ?_
    refine code_ops _ rfl ?_
    refine ol_pure rfl rfl rfl (pure_field_box rfl fd25_0 rfl rfl) ?_
    refine ol_pure rfl rfl rfl (pure_load_box rfl ag3 rfl rfl rfl) ?_
    refine ol_pure rfl rfl rfl (pure_neq rfl rfl rfl) ?_
    refine ol_nil ?_
    refine spk 81 [(2,_),(3,_),(4,_),(5,_),(7,_),(11,_),(12,_),(13,_),(19,_)] [(2,_),(3,_),(4,_),(7,_),(10,_),(11,_)] rfl rfl rfl ?_
    refine code_cond rfl (fun h2 => ?_) (fun h2 => ?_)
    ·try simp only [dq] at h2
     refine code_seq ?_
     refine code_ops _ rfl ?_
     refine ol_pure rfl rfl rfl (pure_move rfl rfl) ?_
     refine ol_pure rfl rfl rfl (pure_load_box_agg rfl ag25 sz25 rfl rfl rfl rfl) ?_
     refine ol_step rfl (step_callO [(1000001, 4), (1000002, 3)] rfl rfl rfl rfl rfl rfl rfl (put_call (x := l.getD i default) (s := putSs (altL (l.take i))) (k := putKs (altL (l.take i))) (by omega) (by omega)) ⟨.inl rfl, .inl rfl, .inl rfl, trivial⟩ ⟨rfl, rfl, rfl, rfl, trivial⟩ rfl rfl rfl rfl rfl hM0) ?_
     refine ol_nil ?_
     refine spk 81 [(2,_),(3,_),(4,_),(5,_),(11,_),(12,_),(13,_)] [(2,_),(3,_),(4,_),(10,_),(11,_)] rfl rfl rfl ?_
     refine code_exit ?_
     refine seqQ_exit ?_
     refine blockQ_same ?_
     refine spk 81 [(2,_),(3,_),(4,_),(5,_),(11,_),(12,_),(13,_)] [(2,_),(3,_),(4,_),(10,_),(11,_)] rfl rfl rfl ?_
     refine code_ops _ rfl ?_
     refine ol_pure rfl rfl rfl (pure_addi rfl rfl rfl (by omega)) ?_
     refine ol_pure rfl rfl rfl (pure_move rfl rfl) ?_
     refine ol_nil ?_
     refine loop_next (n := 81) (l := [(2, _), (3, _), (4, _), (5, _), (11, _), (12, _), (13, _)]) (o' := [(2, _), (3, _), (4, _), (10, _), (11, _)]) rfl ⟨rfl, rfl, rfl, rfl, rfl, rfl, rfl, trivial⟩ ⟨rfl, rfl, rfl, rfl, rfl, trivial⟩ ?_
     refine ⟨_, ⟨i + 1, rfl, by omega, ?_⟩, by omega⟩
     rw [altL_succ (by omega), altF_x (by omega), putSs_app, putKs_app]; rfl
    ·try simp only [dq] at h2
     refine code_skip ?_
     refine spk 81 [(2,_),(3,_),(4,_),(5,_),(7,_),(11,_),(12,_),(13,_)] [(2,_),(3,_),(4,_),(7,_),(10,_),(11,_)] rfl rfl rfl ?_
     refine code_seq ?_
     refine code_ops _ rfl ?_
     refine ol_pure rfl rfl rfl (pure_field_box rfl fd25_2 rfl rfl) ?_
     refine ol_pure rfl rfl rfl (pure_avs (pure_load_box rfl ag23 rfl rfl rfl)) ?_
     refine ol_pure rfl rfl rfl (pure_lenm rfl Tryz.underlying23 rfl) ?_
     refine ol_pure rfl rfl rfl (pure_move rfl rfl) ?_
     refine ol_nil ?_
     refine spk 81 [(2,_),(3,_),(4,_),(5,_),(11,_),(12,_),(13,_),(24,_),(25,_),(26,_)] [(2,_),(3,_),(4,_),(10,_),(11,_)] rfl rfl rfl ?_
     refine code_block ?_
     refine code_loopM (fun zm zs => ∃ j : Nat, zm = (l.getD i default).kids.length - j ∧ (j ≤ (l.getD i default).kids.length) ∧ zs = ⟨81, [(2, .pbox 2 0), (3, .pbox 3 0), (4, .pbox 4 0), (5, .fn 111 [.bx 4, .bx 3]), (11, .v .pl (rxs l)), (12, .v .pl (int l.length)), (13, .v .pl (int i)), (24, .v .pl (rxs (l.getD i default).kids)), (25, .v .pl (int (l.getD i default).kids.length)), (26, .v .pl (int j))], [(2, .box 25 [.v .pl (.sc (.int .i64 0)), .v .pl (.sc (.slice none 0 0)), .v .pl (.sc (.slice none 0 0))]), (3, .box 23 [.own 11]), (4, .box 22 [.own 10]), (10, .arr 3 ((putSs (altL (l.take i) ++ (l.getD i default).kids.take j)).map int)), (11, .arr 25 ((putKs (altL (l.take i) ++ (l.getD i default).kids.take j)).map rx))]⟩) (loop_init (n := 81) (l := [(2, _), (3, _), (4, _), (5, _), (11, _), (12, _), (13, _), (24, _), (25, _), (26, _)]) (o' := [(2, _), (3, _), (4, _), (10, _), (11, _)]) rfl ⟨rfl, rfl, rfl, rfl, rfl, rfl, rfl, rfl, rfl, rfl, trivial⟩ ⟨rfl, rfl, rfl, rfl, rfl, trivial⟩ ?_) ?_
     ·refine ⟨_, 0, rfl, Nat.zero_le _, ?_⟩
      rw [List.take_zero, List.append_nil]; rfl
     ·rintro zm zs ⟨j, rfl, hL2_0, rfl⟩
      have hc0 := hb5 (by omega)
      have hc8 := hb8 (by omega)
      have hc1 := puts_bd (altL (l.take i) ++ (l.getD i default).kids.take j)
      rw [sizes_append] at hc1
      have hc2 := sizes_take_le (l.getD i default).kids j
      have hc3 := sizes_len (putKs (altL (l.take i) ++ (l.getD i default).kids.take j))
      have hc4 := fun (h : j < (l.getD i default).kids.length) => size_mem (kid_mem h)
      have hc5 := syms_len ((l.getD i default).kids.getD j default)
      refine code_seq ?_
      refine code_ops _ rfl ?_
      refine ol_pure rfl rfl rfl (pure_lss rfl rfl rfl) ?_
      refine ol_nil ?_
      refine spk 81 [(2,_),(3,_),(4,_),(5,_),(11,_),(12,_),(13,_),(24,_),(25,_),(26,_),(27,_)] [(2,_),(3,_),(4,_),(10,_),(11,_)] rfl rfl rfl ?_
      refine code_seq ?_
      refine code_cond rfl (fun h3 => ?_) (fun h3 => ?_)
      ·try simp only [dq] at h3
       refine code_skip ?_
       refine spk 81 [(2,_),(3,_),(4,_),(5,_),(11,_),(12,_),(13,_),(24,_),(25,_),(26,_)] [(2,_),(3,_),(4,_),(10,_),(11,_)] rfl rfl rfl ?_
       refine code_seq ?_
       refine code_block ?_
       refine code_seq ?_
       refine code_ops _ rfl ?_
       first | refine ol_pure rfl rfl rfl (pure_indexn rfl Tryz.underlying23 sz25 rfl rfl (by omega) (fun _ => rfl)) ?_ | refine ol_pure rfl rfl rfl (pure_indexm rfl Tryz.underlying23 sz25 rfl rfl (by omega) (fun _ => rfl)) ?_
       refine ol_pure rfl rfl rfl (pure_load_agg rfl ag25 sz25 rfl (Nat.le_of_ble_eq_true rfl)) ?_
       refine ol_step rfl (step_alloc rfl rfl rfl rfl rfl ze25 rfl hM0) ?_
       refine ol_step rfl (step_store_box rfl rfl rfl sz25 rfl rfl rfl rfl (by decide) rfl rfl hM0) ?_
       refine ol_nil ?_
       refine spk 81 [(2,_),(3,_),(4,_),(5,_),(9,_),(11,_),(12,_),(13,_),(24,_),(25,_),(26,_)] [(2,_),(3,_),(4,_),(9,_),(10,_),(11,_)] rfl rfl rfl ?_
       refine code_ops _ rfl ?_
       refine ol_pure rfl rfl rfl (pure_move rfl rfl) ?_
       refine ol_pure rfl rfl rfl (pure_load_box_agg rfl ag25 sz25 rfl rfl rfl rfl) ?_
       refine ol_step rfl (step_callO [(1000001, 4), (1000002, 3)] rfl rfl rfl rfl rfl rfl rfl (put_call (x := (l.getD i default).kids.getD j default) (s := putSs (altL (l.take i) ++ (l.getD i default).kids.take j)) (k := putKs (altL (l.take i) ++ (l.getD i default).kids.take j)) (by omega) (by omega)) ⟨.inl rfl, .inl rfl, .inl rfl, trivial⟩ ⟨rfl, rfl, rfl, rfl, trivial⟩ rfl rfl rfl rfl rfl hM0) ?_
       refine ol_nil ?_
       refine blockQ_normal ?_
       refine spk 81 [(2,_),(3,_),(4,_),(5,_),(11,_),(12,_),(13,_),(24,_),(25,_),(26,_)] [(2,_),(3,_),(4,_),(10,_),(11,_)] rfl rfl rfl ?_
       refine code_ops _ rfl ?_
       refine ol_pure rfl rfl rfl (pure_addi rfl rfl rfl (by omega)) ?_
       refine ol_pure rfl rfl rfl (pure_move rfl rfl) ?_
       refine ol_nil ?_
       refine loop_next (n := 81) (l := [(2, _), (3, _), (4, _), (5, _), (11, _), (12, _), (13, _), (24, _), (25, _), (26, _)]) (o' := [(2, _), (3, _), (4, _), (10, _), (11, _)]) rfl ⟨rfl, rfl, rfl, rfl, rfl, rfl, rfl, rfl, rfl, rfl, trivial⟩ ⟨rfl, rfl, rfl, rfl, rfl, trivial⟩ ?_
       refine ⟨_, ⟨j + 1, rfl, by omega, ?_⟩, by omega⟩
       rw [putSs_kid (by omega), putKs_kid (by omega)]; rfl
      ·try simp only [dq] at h3
       refine code_exit ?_
       refine seqQ_exit ?_
       refine loopM_exit ?_
       refine blockQ_same ?_
       refine blockQ_normal ?_
       refine spk 81 [(2,_),(3,_),(4,_),(5,_),(11,_),(12,_),(13,_)] [(2,_),(3,_),(4,_),(10,_),(11,_)] rfl rfl rfl ?_
       refine code_ops _ rfl ?_
       refine ol_pure rfl rfl rfl (pure_addi rfl rfl rfl (by omega)) ?_
       refine ol_pure rfl rfl rfl (pure_move rfl rfl) ?_
       refine ol_nil ?_
       refine loop_next (n := 81) (l := [(2, _), (3, _), (4, _), (5, _), (11, _), (12, _), (13, _)]) (o' := [(2, _), (3, _), (4, _), (10, _), (11, _)]) rfl ⟨rfl, rfl, rfl, rfl, rfl, rfl, rfl, trivial⟩ ⟨rfl, rfl, rfl, rfl, rfl, trivial⟩ ?_
       refine ⟨_, ⟨i + 1, rfl, by omega, ?_⟩, by omega⟩
       rw [altL_succ (by omega), altF_4 (by omega), show (l.getD i default).kids.take j = (l.getD i default).kids from List.take_of_length_le (by omega)]; rfl
   ·try simp only [dq] at h1
    refine code_exit ?_
    refine seqQ_exit ?_
    refine loopM_exit ?_
    refine blockQ_same ?_
    refine spk 81 [(2,_),(3,_),(4,_)] [(2,_),(3,_),(4,_),(10,_),(11,_)] rfl rfl rfl ?_
    refine code_cut (fun zs => zs = ⟨81, [(2, .pbox 2 0), (3, .pbox 3 0)], [(2, .box 25 [.v .pl (.sc (.int .i64 0)), .v .pl (.sc (.slice none 0 0)), .v .pl (.sc (.slice none 0 0))]), (3, .box 23 [.own 11]), (11, .arr 25 ((altM (altS l) (altK l)).map rx))]⟩) ?_ ?_
    ·skip
     refine code_seq ?_
     rw [show l.take i = l from List.take_of_length_le (by omega)]
     refine code_ops _ rfl ?_
     refine ol_pure rfl rfl rfl (pure_load_box rfl ag22 rfl rfl rfl) ?_
     refine ol_pure rfl rfl rfl (pure_lenm rfl Tryz.underlying22 rfl) ?_
     refine ol_pure rfl rfl rfl (pure_gtr rfl rfl rfl) ?_
     refine ol_nil ?_
     refine spk 81 [(2,_),(3,_),(4,_),(37,_)] [(2,_),(3,_),(4,_),(10,_),(11,_)] rfl rfl rfl ?_
     refine code_cond rfl (fun h4 => ?_) (fun h4 => ?_)
     ·try simp only [dq] at h4
      refine code_seq ?_
      refine code_ops _ rfl ?_
      refine ol_pure rfl rfl rfl (pure_load_box rfl ag22 rfl rfl rfl) ?_
      refine ol_step rfl (step_sortZ sortsZ rfl rfl rfl rfl rfl rfl sz3 (by have h1 := puts_bd (altL l); have h2 := sizes_altL l; omega) hM0) ?_
      refine ol_nil ?_
      refine spk 81 [(2,_),(3,_),(4,_)] [(2,_),(3,_),(4,_),(10,_),(11,_)] rfl rfl rfl ?_
      rw [sortI_merge]
      refine code_draw1 (n := 81) (o2 := [(2, .box 25 [.v .pl (.sc (.int .i64 0)), .v .pl (.sc (.slice none 0 0)), .v .pl (.sc (.slice none 0 0))]), (3, .box 23 [.own 11]), (11, .arr 25 ((altK l).map rx))]) 2 6 [(40, .own 11), (41, .own 10), (42, .v .pl (ints (cpt eqI (sortI (altS l))))), (43, .v .pl (rx (.mk 2 (cpt eqI (sortI (altS l))) []))), (44, .v .pl (int (altK l).length)), (45, .v .pl (.sl [.agg [int 0, .sc (.slice none 0 0), .sc (.slice none 0 0)]])), (2, .pbox 2 0), (3, .pbox 3 0), (4, .pbox 4 0)] mixed (by kernel_rfl) (by kernel_rfl) (by kernel_rfl) rfl (by kernel_rfl) (fun t d h => h) rfl ?_ ?_ ?_ ?_ ?_
      · intro i hi
        rcases (by omega : i = 0 ∨ i = 1 ∨ i = 2 ∨ i = 3 ∨ i = 4 ∨ i = 5) with rfl | rfl | rfl | rfl | rfl | rfl <;> exact ⟨_, _, rfl, rfl⟩
      · intro i o t d hi hia ho hd hG hn
        rcases (by omega : i = 0 ∨ i = 1 ∨ i = 3 ∨ i = 4 ∨ i = 5) with rfl | rfl | rfl | rfl | rfl
        · injection (show some _ = some o from ho) with ho; subst ho; injection (show some _ = some t from hd) with hd; subst hd; injection (show some _ = some d from hG) with hG; subst hG
          exact pure_load_box rfl ag23 rfl rfl rfl
        · injection (show some _ = some o from ho) with ho; subst ho; injection (show some _ = some t from hd) with hd; subst hd; injection (show some _ = some d from hG) with hG; subst hG
          exact pure_load_box rfl ag22 rfl rfl rfl
        · exact absurd hn (by decide)
        · injection (show some _ = some o from ho) with ho; subst ho; injection (show some _ = some t from hd) with hd; subst hd; injection (show some _ = some d from hG) with hG; subst hG
          exact pure_lenm rfl Tryz.underlying23 rfl
        · injection (show some _ = some o from ho) with ho; subst ho; injection (show some _ = some t from hd) with hd; subst hd; injection (show some _ = some d from hG) with hG; subst hG
          exact pure_lit rfl Tryz.underlying23 el25 rfl rfl rfl rfl hM0
      · intro i o t d hi hia ho hd hG hn
        rcases (by omega : i = 0 ∨ i = 1 ∨ i = 3 ∨ i = 4 ∨ i = 5) with rfl | rfl | rfl | rfl | rfl
        · injection (show some _ = some o from ho) with ho; subst ho; injection (show some _ = some t from hd) with hd; subst hd; injection (show some _ = some d from hG) with hG; subst hG
          exact pure_load_box rfl ag23 rfl rfl rfl
        · exact absurd hn (by decide)
        · injection (show some _ = some o from ho) with ho; subst ho; injection (show some _ = some t from hd) with hd; subst hd; injection (show some _ = some d from hG) with hG; subst hG
          exact pure_norm (pure_build rfl pl25 ze25 rfl rfl rfl) rfl
        · injection (show some _ = some o from ho) with ho; subst ho; injection (show some _ = some t from hd) with hd; subst hd; injection (show some _ = some d from hG) with hG; subst hG
          exact pure_lenm rfl Tryz.underlying23 rfl
        · injection (show some _ = some o from ho) with ho; subst ho; injection (show some _ = some t from hd) with hd; subst hd; injection (show some _ = some d from hG) with hG; subst hG
          exact pure_lit rfl Tryz.underlying23 el25 rfl rfl rfl rfl hM0
      · intro o X ho hXn hXG hXr
        have hX41 : 41 ∈ looks _ o → X.lookup 41 = some (.own 10) := fun h => (hXr 41 h).trans rfl
        injection (show some _ = some o from ho) with ho'
        obtain ⟨s', g1, g2⟩ := step_eat (o := o) (f := 113) (ats := #[22]) (n := 81) (X := X) (o1 := [(2, .box 25 [.v .pl (.sc (.int .i64 0)), .v .pl (.sc (.slice none 0 0)), .v .pl (.sc (.slice none 0 0))]), (3, .box 23 [.own 11]), (4, .box 22 [.own 10]), (10, .arr 3 ((sortI (altS l)).map int)), (11, .arr 25 ((altK l).map rx))]) (o2 := [(2, .box 25 [.v .pl (.sc (.int .i64 0)), .v .pl (.sc (.slice none 0 0)), .v .pl (.sc (.slice none 0 0))]), (3, .box 23 [.own 11]), (11, .arr 25 ((altK l).map rx))]) (t := 42) (u := 41) (id := 10) (by rw [← ho']; rfl) (by rw [← ho']; rfl) rfl rfl (hX41 (by rw [← ho']; decide)) hXn rfl (compact_call (l := sortI (altS l)) (by omega)) (fun t' d h hne => all_safe (u := 41) (by rfl) (hXG t' d h) hne) rfl (HasA.out (o1 := [(2, .box 25 [.v .pl (.sc (.int .i64 0)), .v .pl (.sc (.slice none 0 0)), .v .pl (.sc (.slice none 0 0))]), (3, .box 23 [.own 11]), (4, .box 22 [.own 10]), (10, .arr 3 ((sortI (altS l)).map int)), (11, .arr 25 ((altK l).map rx))]) (o2 := [(2, .box 25 [.v .pl (.sc (.int .i64 0)), .v .pl (.sc (.slice none 0 0)), .v .pl (.sc (.slice none 0 0))]), (3, .box 23 [.own 11]), (11, .arr 25 ((altK l).map rx))]) ⟨⟨_, rfl, rfl⟩, ⟨_, rfl, rfl⟩, ⟨_, rfl, rfl⟩, trivial⟩) hM0
        exact ⟨42, _, s', by rw [← ho']; rfl, rfl, g1, g2⟩
      refine endL_of (n := 4) (by kernel_rfl) ?_
      refine ex_one (i := 6) (by kernel_rfl) rfl rfl (step_append rfl rfl rfl rfl Tryz.underlying23 el25 rfl rfl hM0 (src_pl rfl (one_len (by rfl))) (by first | (simp only [ll]; omega) | omega) (by first | (simp only [ll]; omega) | omega)) ?_
      refine ex_two (i := 7) (j := 9) (by kernel_rfl) rfl rfl rfl rfl (st_pure rfl rfl (pure_index_own rfl Tryz.underlying23 sz25 rfl rfl rfl (by first | (simp only [ll]; omega) | omega))) (step_store_box_own rfl rfl rfl sz23 rfl rfl rfl rfl rfl hM0) ?_ ?_
      ·skip
       refine ex_two (i := 8) (j := 9) (by kernel_rfl) rfl rfl rfl rfl (step_store_pel rfl rfl rfl sz25 rfl rfl (get_lastm rx (altK l) _) rfl rfl (.inl rfl) rfl (Nat.le_of_ble_eq_true rfl) hM0) (step_store_box_own rfl rfl rfl sz23 rfl rfl rfl rfl rfl hM0) ?_ ?_
       ·skip
        refine ex_one (i := 9) (by kernel_rfl) rfl rfl (step_store_box_own rfl rfl rfl sz23 rfl rfl rfl rfl rfl hM0) ?_
        refine ex_end (by kernel_rfl) ?_
        refine cut_next (n := 81) (l := [(2, _), (3, _)]) (o' := [(2, _), (3, _), (11, _)]) rfl ⟨rfl, rfl, trivial⟩ ⟨rfl, rfl, rfl, trivial⟩ ?_
        have h4u : 0 < (altS l).length := by show 0 < (putSs (altL l)).length; omega
        rw [altM_t h4u, ← set_last (z := .agg [int 0, .sc (.slice none 0 0), .sc (.slice none 0 0)])]; rfl
       ·skip
        refine ex_one (i := 8) (by kernel_rfl) rfl rfl (step_store_pel rfl rfl rfl sz25 rfl rfl (get_lastm rx (altK l) _) rfl rfl (.inl rfl) rfl (Nat.le_of_ble_eq_true rfl) hM0) ?_
        refine ex_end (by kernel_rfl) ?_
        refine cut_next (n := 81) (l := [(2, _), (3, _)]) (o' := [(2, _), (3, _), (11, _)]) rfl ⟨rfl, rfl, trivial⟩ ⟨rfl, rfl, rfl, trivial⟩ ?_
        have h4u : 0 < (altS l).length := by show 0 < (putSs (altL l)).length; omega
        rw [altM_t h4u, ← set_last (z := .agg [int 0, .sc (.slice none 0 0), .sc (.slice none 0 0)])]; rfl
      ·skip
       refine ex_one (i := 7) (by kernel_rfl) rfl rfl (st_pure rfl rfl (pure_index_own rfl Tryz.underlying23 sz25 rfl rfl rfl (by first | (simp only [ll]; omega) | omega))) ?_
       refine ex_one (i := 8) (by kernel_rfl) rfl rfl (step_store_pel rfl rfl rfl sz25 rfl rfl (get_lastm rx (altK l) _) rfl rfl (.inl rfl) rfl (Nat.le_of_ble_eq_true rfl) hM0) ?_
       refine ex_end (by kernel_rfl) ?_
       refine cut_next (n := 81) (l := [(2, _), (3, _)]) (o' := [(2, _), (3, _), (11, _)]) rfl ⟨rfl, rfl, trivial⟩ ⟨rfl, rfl, rfl, trivial⟩ ?_
       have h4u : 0 < (altS l).length := by show 0 < (putSs (altL l)).length; omega
       rw [altM_t h4u, ← set_last (z := .agg [int 0, .sc (.slice none 0 0), .sc (.slice none 0 0)])]; rfl
     ·try simp only [dq] at h4
      refine code_skip ?_
      refine cut_next (n := 81) (l := [(2, _), (3, _)]) (o' := [(2, _), (3, _), (11, _)]) rfl ⟨rfl, rfl, trivial⟩ ⟨rfl, rfl, rfl, trivial⟩ ?_
      rw [altM_f (by show ¬ 0 < (putSs (altL l)).length; omega)]; rfl
    ·rintro zs ⟨rfl⟩
     refine code_seq ?_
     refine code_ops _ rfl ?_
     refine ol_pure rfl rfl rfl (pure_load_box rfl ag23 rfl rfl rfl) ?_
     refine ol_step rfl (step_sortK (cells := rxc) (cf := cmpR) (p := fun z => z.size ≤ 1099511627776) sortsR rfl rfl rfl rfl rfl rfl rfl sz25 (by decide) hMs (fun a b ha hb => compare_call _ a b (Nat.le_refl _) hb ha) compare_callable (fun a _ => cmpR_irr a) (fun a b c _ _ _ => cmpR_trans a b c) (fun a b _ _ => cmpR_tot) (by omega) hM0) ?_
     refine ol_nil ?_
     refine spk 81 [(2,_),(3,_)] [(2,_),(3,_),(11,_)] rfl rfl rfl ?_
     refine code_seq ?_
     rw [sortR_merge]
     refine code_ops _ rfl ?_
     refine ol_pure rfl rfl rfl (pure_load_box rfl ag23 rfl rfl rfl) ?_
     refine ol_step rfl (step_callO [(0, 11)] rfl rfl rfl rfl rfl rfl rfl (compactF_call (eq := eqR) (l := sortR (altM (altS l) (altK l))) (by rw [sortR_len]; omega) (fun x hx y hy => alt2_call (hMs _ (sortR_mem.1 hx)) (hMs _ (sortR_mem.1 hy)))) ⟨.inl rfl, .inl rfl, trivial⟩ ⟨rfl, trivial⟩ rfl rfl rfl rfl rfl hM0) ?_
     refine ol_frz 81 [(2, _), (3, _), (51, _)] [(2, _), (3, _)] hM0 rfl ⟨.inl rfl, .inl rfl, .inr ⟨_, _, rfl, rfl, rfl⟩, trivial⟩ ⟨rfl, rfl, trivial⟩ ?_
     refine ol_step rfl (step_store_box rfl rfl rfl sz23 rfl rfl rfl rfl (by decide) rfl rfl hM0) ?_
     refine ol_nil ?_
     refine spk 81 [(2,_),(3,_)] [(2,_),(3,_)] rfl rfl rfl ?_
     refine code_cut (fun zs => zs = ⟨81, [(2, .pbox 2 0), (3, .pbox 3 0)], [(2, .box 25 [.v .pl (.sc (.int .i64 0)), .v .pl (.sc (.slice none 0 0)), .v .pl (.sc (.slice none 0 0))]), (3, .box 23 [.v .pl (rxs (altC (altD l)))])]⟩) ?_ ?_
     ·skip
      refine code_seq ?_
      refine code_ops _ rfl ?_
      refine ol_pure rfl rfl rfl (pure_load_box rfl ag23 rfl rfl rfl) ?_
      refine ol_pure rfl rfl rfl (pure_lenm rfl Tryz.underlying23 rfl) ?_
      refine ol_pure rfl rfl rfl (pure_gtr rfl rfl rfl) ?_
      refine ol_pure rfl rfl rfl (pure_move rfl rfl) ?_
      refine ol_guard rfl (fun h5 => ?_) (fun h5 => ?_)
      ·have h5' := h5; try simp only [dq] at h5'
       refine ol_pure_g rfl rfl h5 rfl rfl (pure_load_box rfl ag23 rfl rfl rfl) ?_
       first | refine ol_pure_g rfl rfl h5 rfl rfl (pure_indexn rfl Tryz.underlying23 sz25 rfl rfl (by omega) (fun _ => rfl)) ?_ | refine ol_pure_g rfl rfl h5 rfl rfl (pure_indexm rfl Tryz.underlying23 sz25 rfl rfl (by omega) (fun _ => rfl)) ?_
       refine ol_pure_g rfl rfl h5 rfl rfl (pure_field rfl fd25_0 rfl) ?_
       refine opk 81 [(2,_),(3,_),(55,_),(58,_)] [(2,_),(3,_)] rfl rfl rfl ?_
       refine ol_pure_g rfl rfl h5 rfl rfl (pure_load rfl ag3 rfl rfl) ?_
       refine ol_pure_g rfl rfl h5 rfl rfl (pure_eql rfl rfl rfl) ?_
       refine ol_pure rfl rfl rfl (pure_pick_t rfl rfl h5 rfl) ?_
       refine ol_pure rfl rfl rfl (pure_move rfl rfl) ?_
       refine ol_guard rfl (fun h6 => ?_) (fun h6 => ?_)
       ·have h6' := h6; try simp only [dq] at h6'
        refine ol_pure_g rfl rfl h6 rfl rfl (pure_load_box rfl ag23 rfl rfl rfl) ?_
        refine ol_pure_g rfl rfl h6 rfl rfl (pure_slice_lm rfl Tryz.underlying23 sz25 rfl rfl (by first | (simp only [ll]; omega) | omega) (fun _ => rfl)) ?_
        refine ol_pure_g rfl rfl h6 rfl rfl (pure_call rfl rfl rfl (hasR_call (p := accR) (l := (altD l).drop 1) (by simp; omega) (fun x hx => empty_call _ _ (Nat.le_refl _) (hMs _ (altD_mem (List.mem_of_mem_drop hx))))) hM0) ?_
        refine ol_pure rfl rfl rfl (pure_pick_t rfl rfl h6 rfl) ?_
        refine ol_nil ?_
        refine spk 81 [(2,_),(3,_),(66,_)] [(2,_),(3,_)] rfl rfl rfl ?_
        refine code_cond rfl (fun h7 => ?_) (fun h7 => ?_)
        ·try simp only [dq] at h7
         refine code_ops _ rfl ?_
         refine ol_pure rfl rfl rfl (pure_load_box rfl ag23 rfl rfl rfl) ?_
         refine ol_pure rfl rfl rfl (pure_slice_lm rfl Tryz.underlying23 sz25 rfl rfl (by first | (simp only [ll]; omega) | omega) (fun _ => rfl)) ?_
         refine ol_step rfl (step_store_box rfl rfl rfl sz23 rfl rfl rfl rfl (by decide) rfl rfl hM0) ?_
         refine ol_nil ?_
         refine cut_next (n := 81) (l := [(2, _), (3, _)]) (o' := [(2, _), (3, _)]) rfl ⟨rfl, rfl, trivial⟩ ⟨rfl, rfl, trivial⟩ ?_
         first
           | (rw [altC_t (k := altD l) (by show 1 < (cpt eqR (sortR (altM (altS l) (altK l)))).length; omega) h6' h7]; rfl)
           | (rw [altC_f (k := altD l) (fun q => absurd q.1 (by show ¬ 1 < (cpt eqR (sortR (altM (altS l) (altK l)))).length; omega))]; rfl)
           | (rw [altC_f (k := altD l) (fun q => h6' q.2.1)]; rfl)
           | (rw [altC_f (k := altD l) (fun q => by rw [q.2.2] at h7; cases h7)]; rfl)
        ·try simp only [dq] at h7
         refine code_skip ?_
         refine cut_next (n := 81) (l := [(2, _), (3, _)]) (o' := [(2, _), (3, _)]) rfl ⟨rfl, rfl, trivial⟩ ⟨rfl, rfl, trivial⟩ ?_
         first
           | (rw [altC_t (k := altD l) (by show 1 < (cpt eqR (sortR (altM (altS l) (altK l)))).length; omega) h6' h7]; rfl)
           | (rw [altC_f (k := altD l) (fun q => absurd q.1 (by show ¬ 1 < (cpt eqR (sortR (altM (altS l) (altK l)))).length; omega))]; rfl)
           | (rw [altC_f (k := altD l) (fun q => h6' q.2.1)]; rfl)
           | (rw [altC_f (k := altD l) (fun q => by rw [q.2.2] at h7; cases h7)]; rfl)
       ·have h6' := h6; try simp only [dq] at h6'
        refine ol_skip_g rfl rfl h6 rfl rfl ?_
        refine ol_skip_g rfl rfl h6 rfl rfl ?_
        refine ol_skip_g rfl rfl h6 rfl rfl ?_
        refine ol_pure rfl rfl rfl (pure_pick_f rfl rfl h6 rfl) ?_
        refine ol_nil ?_
        refine spk 81 [(2,_),(3,_),(66,_)] [(2,_),(3,_)] rfl rfl rfl ?_
        refine code_cond_f rfl ?_
        refine code_skip ?_
        refine cut_next (n := 81) (l := [(2, _), (3, _)]) (o' := [(2, _), (3, _)]) rfl ⟨rfl, rfl, trivial⟩ ⟨rfl, rfl, trivial⟩ ?_
        first
          | (rw [altC_t (k := altD l) (by show 1 < (cpt eqR (sortR (altM (altS l) (altK l)))).length; omega) h6' h7]; rfl)
          | (rw [altC_f (k := altD l) (fun q => absurd q.1 (by show ¬ 1 < (cpt eqR (sortR (altM (altS l) (altK l)))).length; omega))]; rfl)
          | (rw [altC_f (k := altD l) (fun q => h6' q.2.1)]; rfl)
          | (rw [altC_f (k := altD l) (fun q => by rw [q.2.2] at h7; cases h7)]; rfl)
      ·have h5' := h5; try simp only [dq] at h5'
       refine ol_skip_g rfl rfl h5 rfl rfl ?_
       refine ol_skip_g rfl rfl h5 rfl rfl ?_
       refine ol_skip_g rfl rfl h5 rfl rfl ?_
       refine opk 81 [(2,_),(3,_),(55,_),(58,_)] [(2,_),(3,_)] rfl rfl rfl ?_
       refine ol_skip_g rfl rfl h5 rfl rfl ?_
       refine ol_skip_g rfl rfl h5 rfl rfl ?_
       refine ol_pure rfl rfl rfl (pure_pick_f rfl rfl h5 rfl) ?_
       refine ol_pure rfl rfl rfl (pure_move rfl rfl) ?_
       refine ol_skip_g rfl rfl rfl rfl rfl ?_
       refine ol_skip_g rfl rfl rfl rfl rfl ?_
       refine ol_skip_g rfl rfl rfl rfl rfl ?_
       refine ol_pure rfl rfl rfl (pure_pick_f rfl rfl rfl rfl) ?_
       refine ol_nil ?_
       refine spk 81 [(2,_),(3,_),(66,_)] [(2,_),(3,_)] rfl rfl rfl ?_
       refine code_cond_f rfl ?_
       refine code_skip ?_
       refine cut_next (n := 81) (l := [(2, _), (3, _)]) (o' := [(2, _), (3, _)]) rfl ⟨rfl, rfl, trivial⟩ ⟨rfl, rfl, trivial⟩ ?_
       first
         | (rw [altC_t (k := altD l) (by show 1 < (cpt eqR (sortR (altM (altS l) (altK l)))).length; omega) h6' h7]; rfl)
         | (rw [altC_f (k := altD l) (fun q => absurd q.1 (by show ¬ 1 < (cpt eqR (sortR (altM (altS l) (altK l)))).length; omega))]; rfl)
         | (rw [altC_f (k := altD l) (fun q => h6' q.2.1)]; rfl)
         | (rw [altC_f (k := altD l) (fun q => by rw [q.2.2] at h7; cases h7)]; rfl)
     ·rintro zs ⟨rfl⟩
      refine code_seq ?_
      refine code_seq ?_
      refine code_ops _ rfl ?_
      refine ol_pure rfl rfl rfl (pure_load_box rfl ag23 rfl rfl rfl) ?_
      refine ol_pure rfl rfl rfl (pure_lenm rfl Tryz.underlying23 rfl) ?_
      refine ol_nil ?_
      refine spk 81 [(2,_),(3,_),(70,_)] [(2,_),(3,_)] rfl rfl rfl ?_
      refine code_block ?_
      refine code_seq ?_
      refine code_ops _ rfl ?_
      refine ol_pure rfl rfl rfl (pure_eql rfl rfl rfl) ?_
      refine ol_pure rfl rfl rfl (pure_assign rfl rfl) ?_
      refine ol_nil ?_
      refine spk 81 [(2,_),(3,_),(70,_),(71,_)] [(2,_),(3,_)] rfl rfl rfl ?_
      refine code_cond rfl (fun h8 => ?_) (fun h8 => ?_)
      ·try simp only [dq] at h8
       refine code_seq ?_
       refine code_ops _ rfl ?_
       refine ol_pure rfl rfl rfl (pure_build rfl pl25 ze25 rfl rfl rfl) ?_
       refine ol_step rfl (step_store_box rfl rfl rfl sz25 rfl rfl rfl rfl (by decide) rfl rfl hM0) ?_
       refine ol_nil ?_
       refine spk 81 [(2,_)] [(2,_)] rfl rfl rfl ?_
       refine code_ret ?_
       refine blockQ_ret ?_
       refine seqQ_ret ?_
       refine endC_ret rfl ?_
       first
         | (rw [show altN l = noneRx from altE_0 (k := altC (altD l)) (by omega)]; rfl)
         | (rw [show altN l = _ from altE_1 (k := altC (altD l)) (by omega)]; rfl)
         | (rw [show altN l = _ from altE_2 (k := altC (altD l)) (by omega) (by omega), rx_mk]; rfl)
      ·try simp only [dq] at h8
       refine code_seq ?_
       refine code_ops _ rfl ?_
       refine ol_pure rfl rfl rfl (pure_eql rfl rfl rfl) ?_
       refine ol_pure rfl rfl rfl (pure_assign rfl rfl) ?_
       refine ol_nil ?_
       refine spk 81 [(2,_),(3,_),(74,_)] [(2,_),(3,_)] rfl rfl rfl ?_
       refine code_cond rfl (fun h9 => ?_) (fun h9 => ?_)
       ·try simp only [dq] at h9
        refine code_seq ?_
        refine code_ops _ rfl ?_
        refine ol_pure rfl rfl rfl (pure_load_box rfl ag23 rfl rfl rfl) ?_
        first | refine ol_pure rfl rfl rfl (pure_indexn rfl Tryz.underlying23 sz25 rfl rfl (by omega) (fun _ => rfl)) ?_ | refine ol_pure rfl rfl rfl (pure_indexm rfl Tryz.underlying23 sz25 rfl rfl (by omega) (fun _ => rfl)) ?_
        refine ol_pure rfl rfl rfl (pure_load_agg rfl ag25 sz25 rfl (Nat.le_of_ble_eq_true rfl)) ?_
        refine ol_step rfl (step_store_box rfl rfl rfl sz25 rfl rfl rfl rfl (by decide) rfl rfl hM0) ?_
        refine ol_nil ?_
        refine spk 81 [(2,_)] [(2,_)] rfl rfl rfl ?_
        refine code_ret ?_
        refine blockQ_ret ?_
        refine seqQ_ret ?_
        refine endC_ret rfl ?_
        first
          | (rw [show altN l = noneRx from altE_0 (k := altC (altD l)) (by omega)]; rfl)
          | (rw [show altN l = _ from altE_1 (k := altC (altD l)) (by omega)]; rfl)
          | (rw [show altN l = _ from altE_2 (k := altC (altD l)) (by omega) (by omega), rx_mk]; rfl)
       ·try simp only [dq] at h9
        refine code_skip ?_
        refine blockQ_normal ?_
        refine spk 81 [(2,_),(3,_)] [(2,_),(3,_)] rfl rfl rfl ?_
        refine code_seq ?_
        refine code_ops _ rfl ?_
        refine ol_pure rfl rfl rfl (pure_load_box rfl ag23 rfl rfl rfl) ?_
        refine ol_pure rfl rfl rfl (pure_build rfl pl25 ze25 rfl rfl rfl) ?_
        refine ol_step rfl (step_store_box rfl rfl rfl sz25 rfl rfl rfl rfl (by decide) rfl rfl hM0) ?_
        refine ol_nil ?_
        refine spk 81 [(2,_)] [(2,_)] rfl rfl rfl ?_
        refine code_ret ?_
        refine endC_ret rfl ?_
        first
          | (rw [show altN l = noneRx from altE_0 (k := altC (altD l)) (by omega)]; rfl)
          | (rw [show altN l = _ from altE_1 (k := altC (altD l)) (by omega)]; rfl)
          | (rw [show altN l = _ from altE_2 (k := altC (altD l)) (by omega) (by omega), rx_mk]; rfl)
end Go.Proofs.YtgdehkimfmfofaaGreat

