/-
  Contract: reading a pattern.
-/
import Derived.Test.YtgdehkimfmfofaaGreatJ30
import Derived.Test.YtgdehkimfmfofaaGreatJ32
import Derived.Test.YtgdehkimfmfofaaGreatJ33
import Derived.Test.YtgdehkimfmfofaaGreatJ18
set_option linter.unusedVariables false
set_option linter.unusedSimpArgs false
namespace Go.Proofs.YtgdehkimfmfofaaGreat
open Go.Am Go.Wb Go.Wc
set_option linter.unusedVariables false
set_option linter.unusedSimpArgs false
theorem fn32 : FnC2 Tryz.prog 32 Tryz.f32.ntmps 6 25 3 7 (Tryz.f32.body.getD .skip) := ⟨Tryz.f32, Tryz.func32, rfl, rfl, rfl, by kernel_rfl, ag25, sz25⟩
set_option maxRecDepth 100000 in
set_option maxHeartbeats 16000000 in
theorem parse_call {s : List UInt8} {a : List Letter} {sets : List SetT} (hs : s.length ≤ 9223372036854775807) (ha : a.length ≤ 1099511627776) (ht : ∀ x ∈ a, x.text.length ≤ 1099511627776) (hset : sets.length ≤ 1099511627776) (hsy : ∀ x ∈ sets, x.syms.length ≤ 1099511627776) :
    CallF Tryz.prog 32 [sbytes s, letters a, setsA sets] (.p (.tup [rx (parseP a sets s).1, int (parseP a sets s).2])) := by
  have hT := fun h : validA a = true ∧ s.length ≤ 1024 => toksP_ok (a := a) (sets := sets) (s := s) h.1 h.2
  refine callF_of_codeC2 fn32 (Nat.le_of_ble_eq_true rfl) fun w0 M0 hM0 => ?_
  refine code_seq ?_
  refine code_ops _ rfl ?_
  refine ol_step rfl (step_alloc rfl rfl rfl rfl rfl ze25 rfl hM0) ?_
  refine ol_pure rfl rfl rfl (pure_assign rfl rfl) ?_
  refine ol_nil ?_
  refine spk 54 [(0,_),(1,_),(2,_),(6,_)] [(6,_)] rfl rfl rfl ?_
  refine code_seq ?_
  refine code_seq ?_
  refine code_ops _ rfl ?_
  refine ol_pure rfl rfl rfl (pure_move rfl rfl) ?_
  refine ol_pure rfl rfl rfl (pure_call rfl rfl rfl (validA_call ha ht) hM0) ?_
  refine ol_pure rfl rfl rfl (pure_not rfl rfl) ?_
  refine ol_nil ?_
  refine spk 54 [(0,_),(1,_),(2,_),(6,_),(12,_)] [(6,_)] rfl rfl rfl ?_
  refine code_cond rfl (fun h1 => ?_) (fun h1 => ?_)
  ·try simp only [dq] at h1
   refine code_seq ?_
   refine code_ops _ rfl ?_
   refine ol_pure rfl rfl rfl (pure_build rfl pl25 ze25 rfl rfl rfl) ?_
   refine ol_step rfl (step_store_box rfl rfl rfl sz25 rfl rfl rfl rfl (by decide) rfl rfl hM0) ?_
   refine ol_pure rfl rfl rfl (pure_assign rfl rfl) ?_
   refine ol_nil ?_
   refine spk 54 [(6,_),(7,_)] [(6,_)] rfl rfl rfl ?_
   refine code_ret ?_
   refine seqQ_ret ?_
   refine endC2_ret rfl rfl ?_
   unfold parseP
   first
     | (rw [if_pos (by assumption)]; exact ⟨rfl, rfl⟩)
     | (rw [if_neg (by rw [h1]; decide), if_pos (by omega)]; exact ⟨rfl, rfl⟩)
     | (rw [if_neg (by rw [h1]; decide), if_neg (by omega), pTop_bad (by omega)]; exact ⟨rfl, rfl⟩)
     | (rw [if_neg (by rw [h1]; decide), if_neg (by omega), pTop_ok (by omega)]; exact ⟨rfl, rfl⟩)
  ·try simp only [dq] at h1
   refine code_skip ?_
   refine spk 54 [(0,_),(1,_),(2,_),(6,_)] [(6,_)] rfl rfl rfl ?_
   refine code_seq ?_
   refine code_seq ?_
   refine code_ops _ rfl ?_
   refine ol_pure rfl rfl rfl (pure_move rfl rfl) ?_
   refine ol_pure rfl rfl rfl (pure_slen rfl Tryz.underlying9 rfl) ?_
   refine ol_pure rfl rfl rfl (pure_gtr rfl rfl rfl) ?_
   refine ol_nil ?_
   refine spk 54 [(0,_),(1,_),(2,_),(6,_),(16,_)] [(6,_)] rfl rfl rfl ?_
   refine code_cond rfl (fun h2 => ?_) (fun h2 => ?_)
   ·try simp only [dq] at h2
    refine code_seq ?_
    refine code_ops _ rfl ?_
    refine ol_pure rfl rfl rfl (pure_build rfl pl25 ze25 rfl rfl rfl) ?_
    refine ol_step rfl (step_store_box rfl rfl rfl sz25 rfl rfl rfl rfl (by decide) rfl rfl hM0) ?_
    refine ol_pure rfl rfl rfl (pure_assign rfl rfl) ?_
    refine ol_nil ?_
    refine spk 54 [(6,_),(7,_)] [(6,_)] rfl rfl rfl ?_
    refine code_ret ?_
    refine seqQ_ret ?_
    refine endC2_ret rfl rfl ?_
    unfold parseP
    first
      | (rw [if_pos (by assumption)]; exact ⟨rfl, rfl⟩)
      | (rw [if_neg (by rw [h1]; decide), if_pos (by omega)]; exact ⟨rfl, rfl⟩)
      | (rw [if_neg (by rw [h1]; decide), if_neg (by omega), pTop_bad (by omega)]; exact ⟨rfl, rfl⟩)
      | (rw [if_neg (by rw [h1]; decide), if_neg (by omega), pTop_ok (by omega)]; exact ⟨rfl, rfl⟩)
   ·try simp only [dq] at h2
    refine code_skip ?_
    refine spk 54 [(0,_),(1,_),(2,_),(6,_)] [(6,_)] rfl rfl rfl ?_
    refine code_seq ?_
    refine code_ops _ rfl ?_
    refine ol_pure rfl rfl rfl (pure_move rfl rfl) ?_
    refine ol_pure rfl rfl rfl (pure_move rfl rfl) ?_
    refine ol_pure rfl rfl rfl (pure_move rfl rfl) ?_
    refine ol_pure rfl rfl rfl (pure_call rfl rfl rfl (tokens_call (by omega) (by omega) hset hsy) hM0) ?_
    refine ol_pure rfl rfl rfl (pure_build rfl pl73 ze73 rfl rfl rfl) ?_
    refine ol_step rfl (step_box rfl rfl rfl rfl rfl rfl rfl (by decide) hM0) ?_
    refine ol_pure rfl rfl rfl (pure_assign rfl rfl) ?_
    refine ol_nil ?_
    refine spk 54 [(6,_),(8,_)] [(6,_),(23,_)] rfl rfl rfl ?_
    refine code_seq ?_
    obtain ⟨he, hok, hw⟩ := hT ⟨by assumption, by omega⟩
    obtain ⟨g1, g2, g3, g4, g5⟩ := pAlt_ok (pSeq_ok (pPost_ok _)) (⟨(toksP a sets s), -1⟩ : PS) (Nat.le_refl _) he hok
    have g0 := g1.1
    refine code_ops _ rfl ?_
    refine ol_pure rfl rfl rfl (pure_move rfl rfl) ?_
    refine ol_step rfl (step_callO [(1000001, 23)] rfl rfl rfl rfl rfl rfl rfl (alt_calls _ (⟨(toksP a sets s), -1⟩ : PS) (Nat.le_refl _) he hok hw) ⟨.inl rfl, trivial⟩ ⟨rfl, trivial⟩ rfl rfl rfl rfl rfl hM0) ?_
    refine ol_step rfl (step_alloc rfl rfl rfl rfl rfl ze25 rfl hM0) ?_
    refine ol_step rfl (step_store_box rfl rfl rfl sz25 rfl rfl rfl rfl (by decide) rfl rfl hM0) ?_
    refine ol_nil ?_
    refine spk 54 [(6,_),(8,_),(9,_)] [(6,_),(9,_),(23,_)] rfl rfl rfl ?_
    refine code_cut (fun zs => zs = ⟨54, [(6, .pbox 6 0), (8, .pbox 23 0), (9, .pbox 9 0)], [(6, .box 25 [.v .pl (.sc (.int .i64 0)), .v .pl (.sc (.slice none 0 0)), .v .pl (.sc (.slice none 0 0))]), (9, .box 25 [.v .pl (int ((pAlt (pSeq (pPost (toksP a sets s).length)) (⟨(toksP a sets s), -1⟩ : PS)).1).kind), .v .pl (ints ((pAlt (pSeq (pPost (toksP a sets s).length)) (⟨(toksP a sets s), -1⟩ : PS)).1).syms), .v .pl (.sl (Rx.avs ((pAlt (pSeq (pPost (toksP a sets s).length)) (⟨(toksP a sets s), -1⟩ : PS)).1).kids))]), (23, .box 73 [.v .pl (toks (finP (pAlt (pSeq (pPost (toksP a sets s).length)) (⟨(toksP a sets s), -1⟩ : PS)).2).l), .v .pl (int (finP (pAlt (pSeq (pPost (toksP a sets s).length)) (⟨(toksP a sets s), -1⟩ : PS)).2).bad)])]⟩) ?_ ?_
    ·skip
     refine code_seq ?_
     refine code_ops _ rfl ?_
     refine ol_pure rfl rfl rfl (pure_move rfl rfl) ?_
     refine ol_pure rfl rfl rfl (pure_nilbox rfl rfl rfl) ?_
     refine ol_pure rfl rfl rfl (pure_field_box rfl fd73_1 rfl rfl) ?_
     refine ol_pure rfl rfl rfl (pure_load_box rfl ag3 rfl rfl rfl) ?_
     refine ol_pure rfl rfl rfl (pure_lss rfl rfl rfl) ?_
     refine ol_pure rfl rfl rfl (pure_move rfl rfl) ?_
     refine ol_guard rfl (fun h3 => ?_) (fun h3 => ?_)
     ·have h3' := h3; try simp only [dq] at h3'
      refine ol_pure_g rfl rfl h3 rfl rfl (pure_move rfl rfl) ?_
      refine opk 54 [(6,_),(8,_),(9,_),(31,_),(32,_)] [(6,_),(9,_),(23,_)] rfl rfl rfl ?_
      refine ol_pure_g rfl rfl h3 rfl rfl (pure_nilbox rfl rfl rfl) ?_
      refine ol_pure_g rfl rfl h3 rfl rfl (pure_field_box rfl fd73_0 rfl rfl) ?_
      refine ol_pure_g rfl rfl h3 rfl rfl (pure_load_box rfl ag70 rfl rfl rfl) ?_
      first | refine ol_pure_g rfl rfl h3 rfl rfl (pure_indexn rfl Tryz.underlying70 sz76 rfl rfl (by omega) (fun _ => rfl)) ?_ | refine ol_pure_g rfl rfl h3 rfl rfl (pure_indexm rfl Tryz.underlying70 sz76 rfl rfl (by omega) (fun _ => rfl)) ?_
      refine ol_pure_g rfl rfl h3 rfl rfl (pure_field rfl fd76_0 rfl) ?_
      refine ol_pure_g rfl rfl h3 rfl rfl (pure_load rfl ag5 rfl rfl) ?_
      refine ol_pure_g rfl rfl h3 rfl rfl (pure_neq rfl rfl rfl) ?_
      refine ol_pure rfl rfl rfl (pure_pick_t rfl rfl h3 rfl) ?_
      refine ol_nil ?_
      refine spk 54 [(6,_),(8,_),(9,_),(40,_)] [(6,_),(9,_),(23,_)] rfl rfl rfl ?_
      refine code_cond rfl (fun h4 => ?_) (fun h4 => ?_)
      ·try simp only [dq] at h4
       refine code_ops _ rfl ?_
       refine ol_pure rfl rfl rfl (pure_move rfl rfl) ?_
       refine ol_step rfl (step_callO [(1000001, 23)] rfl rfl rfl rfl rfl rfl rfl (fail_call (s := (pAlt (pSeq (pPost (toksP a sets s).length)) (⟨(toksP a sets s), -1⟩ : PS)).2) g0) ⟨.inl rfl, trivial⟩ ⟨rfl, trivial⟩ rfl rfl rfl rfl rfl hM0) ?_
       refine ol_nil ?_
       refine cut_next (n := 54) (l := [(6, _), (8, _), (9, _)]) (o' := [(6, _), (9, _), (23, _)]) rfl ⟨rfl, rfl, rfl, trivial⟩ ⟨rfl, rfl, rfl, trivial⟩ ?_
       first
         | (rw [show finP (pAlt (pSeq (pPost (toksP a sets s).length)) (⟨(toksP a sets s), -1⟩ : PS)).2 = (pAlt (pSeq (pPost (toksP a sets s).length)) (⟨(toksP a sets s), -1⟩ : PS)).2.fail from if_pos ⟨by omega, by unfold PS.hd; omega⟩]; rfl)
         | (rw [show finP (pAlt (pSeq (pPost (toksP a sets s).length)) (⟨(toksP a sets s), -1⟩ : PS)).2 = (pAlt (pSeq (pPost (toksP a sets s).length)) (⟨(toksP a sets s), -1⟩ : PS)).2 from if_neg (fun q => by have q2 := q.2; unfold PS.hd at q2; omega)]; rfl)
      ·try simp only [dq] at h4
       refine code_skip ?_
       refine cut_next (n := 54) (l := [(6, _), (8, _), (9, _)]) (o' := [(6, _), (9, _), (23, _)]) rfl ⟨rfl, rfl, rfl, trivial⟩ ⟨rfl, rfl, rfl, trivial⟩ ?_
       first
         | (rw [show finP (pAlt (pSeq (pPost (toksP a sets s).length)) (⟨(toksP a sets s), -1⟩ : PS)).2 = (pAlt (pSeq (pPost (toksP a sets s).length)) (⟨(toksP a sets s), -1⟩ : PS)).2.fail from if_pos ⟨by omega, by unfold PS.hd; omega⟩]; rfl)
         | (rw [show finP (pAlt (pSeq (pPost (toksP a sets s).length)) (⟨(toksP a sets s), -1⟩ : PS)).2 = (pAlt (pSeq (pPost (toksP a sets s).length)) (⟨(toksP a sets s), -1⟩ : PS)).2 from if_neg (fun q => by have q2 := q.2; unfold PS.hd at q2; omega)]; rfl)
     ·have h3' := h3; try simp only [dq] at h3'
      refine ol_skip_g rfl rfl h3 rfl rfl ?_
      refine opk 54 [(6,_),(8,_),(9,_),(31,_),(32,_)] [(6,_),(9,_),(23,_)] rfl rfl rfl ?_
      refine ol_skip_g rfl rfl h3 rfl rfl ?_
      refine ol_skip_g rfl rfl h3 rfl rfl ?_
      refine ol_skip_g rfl rfl h3 rfl rfl ?_
      refine ol_skip_g rfl rfl h3 rfl rfl ?_
      refine ol_skip_g rfl rfl h3 rfl rfl ?_
      refine ol_skip_g rfl rfl h3 rfl rfl ?_
      refine ol_skip_g rfl rfl h3 rfl rfl ?_
      refine ol_pure rfl rfl rfl (pure_pick_f rfl rfl h3 rfl) ?_
      refine ol_nil ?_
      refine spk 54 [(6,_),(8,_),(9,_),(40,_)] [(6,_),(9,_),(23,_)] rfl rfl rfl ?_
      refine code_cond_f rfl ?_
      refine code_skip ?_
      refine cut_next (n := 54) (l := [(6, _), (8, _), (9, _)]) (o' := [(6, _), (9, _), (23, _)]) rfl ⟨rfl, rfl, rfl, trivial⟩ ⟨rfl, rfl, rfl, trivial⟩ ?_
      first
        | (rw [show finP (pAlt (pSeq (pPost (toksP a sets s).length)) (⟨(toksP a sets s), -1⟩ : PS)).2 = (pAlt (pSeq (pPost (toksP a sets s).length)) (⟨(toksP a sets s), -1⟩ : PS)).2.fail from if_pos ⟨by omega, by unfold PS.hd; omega⟩]; rfl)
        | (rw [show finP (pAlt (pSeq (pPost (toksP a sets s).length)) (⟨(toksP a sets s), -1⟩ : PS)).2 = (pAlt (pSeq (pPost (toksP a sets s).length)) (⟨(toksP a sets s), -1⟩ : PS)).2 from if_neg (fun q => by have q2 := q.2; unfold PS.hd at q2; omega)]; rfl)
    ·rintro zs ⟨rfl⟩
     refine code_seq ?_
     refine code_seq ?_
     refine code_ops _ rfl ?_
     refine ol_pure rfl rfl rfl (pure_move rfl rfl) ?_
     refine ol_pure rfl rfl rfl (pure_nilbox rfl rfl rfl) ?_
     refine ol_pure rfl rfl rfl (pure_field_box rfl fd73_1 rfl rfl) ?_
     refine ol_pure rfl rfl rfl (pure_load_box rfl ag3 rfl rfl rfl) ?_
     refine ol_pure rfl rfl rfl (pure_geq rfl rfl rfl) ?_
     refine ol_nil ?_
     refine spk 54 [(6,_),(8,_),(9,_),(47,_)] [(6,_),(9,_),(23,_)] rfl rfl rfl ?_
     refine code_cond rfl (fun h5 => ?_) (fun h5 => ?_)
     ·try simp only [dq] at h5
      refine code_seq ?_
      refine code_draw mixed (by kernel_rfl) _ rfl ?_
      refine dl_ends (by kernel_rfl) (endL_of (n := 7) (by kernel_rfl) ?_)
      refine ex_two (i := 0) (j := 1) (by kernel_rfl) rfl rfl rfl rfl (st_pure rfl rfl (pure_build rfl pl25 ze25 rfl rfl rfl)) (st_pure rfl rfl (pure_move rfl rfl)) ?_ ?_
      ·skip
       refine ex_two (i := 1) (j := 5) (by kernel_rfl) rfl rfl rfl rfl (st_pure rfl rfl (pure_move rfl rfl)) (step_store_box rfl rfl rfl sz25 rfl rfl rfl rfl (by decide) rfl rfl hM0) ?_ ?_
       ·skip
        refine ex_two (i := 2) (j := 5) (by kernel_rfl) rfl rfl rfl rfl (st_pure rfl rfl (pure_nilbox rfl rfl rfl)) (step_store_box rfl rfl rfl sz25 rfl rfl rfl rfl (by decide) rfl rfl hM0) ?_ ?_
        ·skip
         refine ex_two (i := 3) (j := 5) (by kernel_rfl) rfl rfl rfl rfl (st_pure rfl rfl (pure_field_box rfl fd73_1 rfl rfl)) (step_store_box rfl rfl rfl sz25 rfl rfl rfl rfl (by decide) rfl rfl hM0) ?_ ?_
         ·skip
          refine ex_two (i := 4) (j := 5) (by kernel_rfl) rfl rfl rfl rfl (st_pure rfl rfl (pure_load_box rfl ag3 rfl rfl rfl)) (step_store_box rfl rfl rfl sz25 rfl rfl rfl rfl (by decide) rfl rfl hM0) ?_ ?_
          ·skip
           refine ex_one (i := 5) (by kernel_rfl) rfl rfl (step_store_box rfl rfl rfl sz25 rfl rfl rfl rfl (by decide) rfl rfl hM0) ?_
           refine ex_one (i := 6) (by kernel_rfl) rfl rfl (st_pure rfl rfl (pure_assign rfl rfl)) ?_
           refine ex_end (by kernel_rfl) ?_
           refine spk 54 [(6,_),(7,_)] [(6,_)] rfl rfl rfl ?_
           refine code_ret ?_
           refine seqQ_ret ?_
           refine endC2_ret rfl rfl ?_
           unfold parseP
           first
             | (rw [if_pos (by assumption)]; exact ⟨rfl, rfl⟩)
             | (rw [if_neg (by rw [h1]; decide), if_pos (by omega)]; exact ⟨rfl, rfl⟩)
             | (rw [if_neg (by rw [h1]; decide), if_neg (by omega), pTop_bad (by omega)]; exact ⟨rfl, rfl⟩)
             | (rw [if_neg (by rw [h1]; decide), if_neg (by omega), pTop_ok (by omega)]; exact ⟨rfl, rfl⟩)
          ·skip
           refine ex_one (i := 4) (by kernel_rfl) rfl rfl (st_pure rfl rfl (pure_load_box rfl ag3 rfl rfl rfl)) ?_
           refine ex_one (i := 6) (by kernel_rfl) rfl rfl (st_pure rfl rfl (pure_assign rfl rfl)) ?_
           refine ex_end (by kernel_rfl) ?_
           refine spk 54 [(6,_),(7,_)] [(6,_)] rfl rfl rfl ?_
           refine code_ret ?_
           refine seqQ_ret ?_
           refine endC2_ret rfl rfl ?_
           unfold parseP
           first
             | (rw [if_pos (by assumption)]; exact ⟨rfl, rfl⟩)
             | (rw [if_neg (by rw [h1]; decide), if_pos (by omega)]; exact ⟨rfl, rfl⟩)
             | (rw [if_neg (by rw [h1]; decide), if_neg (by omega), pTop_bad (by omega)]; exact ⟨rfl, rfl⟩)
             | (rw [if_neg (by rw [h1]; decide), if_neg (by omega), pTop_ok (by omega)]; exact ⟨rfl, rfl⟩)
         ·skip
          refine ex_one (i := 3) (by kernel_rfl) rfl rfl (st_pure rfl rfl (pure_field_box rfl fd73_1 rfl rfl)) ?_
          refine ex_one (i := 4) (by kernel_rfl) rfl rfl (st_pure rfl rfl (pure_load_box rfl ag3 rfl rfl rfl)) ?_
          refine ex_one (i := 6) (by kernel_rfl) rfl rfl (st_pure rfl rfl (pure_assign rfl rfl)) ?_
          refine ex_end (by kernel_rfl) ?_
          refine spk 54 [(6,_),(7,_)] [(6,_)] rfl rfl rfl ?_
          refine code_ret ?_
          refine seqQ_ret ?_
          refine endC2_ret rfl rfl ?_
          unfold parseP
          first
            | (rw [if_pos (by assumption)]; exact ⟨rfl, rfl⟩)
            | (rw [if_neg (by rw [h1]; decide), if_pos (by omega)]; exact ⟨rfl, rfl⟩)
            | (rw [if_neg (by rw [h1]; decide), if_neg (by omega), pTop_bad (by omega)]; exact ⟨rfl, rfl⟩)
            | (rw [if_neg (by rw [h1]; decide), if_neg (by omega), pTop_ok (by omega)]; exact ⟨rfl, rfl⟩)
        ·skip
         refine ex_one (i := 2) (by kernel_rfl) rfl rfl (st_pure rfl rfl (pure_nilbox rfl rfl rfl)) ?_
         refine ex_one (i := 3) (by kernel_rfl) rfl rfl (st_pure rfl rfl (pure_field_box rfl fd73_1 rfl rfl)) ?_
         refine ex_one (i := 4) (by kernel_rfl) rfl rfl (st_pure rfl rfl (pure_load_box rfl ag3 rfl rfl rfl)) ?_
         refine ex_one (i := 6) (by kernel_rfl) rfl rfl (st_pure rfl rfl (pure_assign rfl rfl)) ?_
         refine ex_end (by kernel_rfl) ?_
         refine spk 54 [(6,_),(7,_)] [(6,_)] rfl rfl rfl ?_
         refine code_ret ?_
         refine seqQ_ret ?_
         refine endC2_ret rfl rfl ?_
         unfold parseP
         first
           | (rw [if_pos (by assumption)]; exact ⟨rfl, rfl⟩)
           | (rw [if_neg (by rw [h1]; decide), if_pos (by omega)]; exact ⟨rfl, rfl⟩)
           | (rw [if_neg (by rw [h1]; decide), if_neg (by omega), pTop_bad (by omega)]; exact ⟨rfl, rfl⟩)
           | (rw [if_neg (by rw [h1]; decide), if_neg (by omega), pTop_ok (by omega)]; exact ⟨rfl, rfl⟩)
       ·skip
        refine ex_one (i := 1) (by kernel_rfl) rfl rfl (st_pure rfl rfl (pure_move rfl rfl)) ?_
        refine ex_one (i := 2) (by kernel_rfl) rfl rfl (st_pure rfl rfl (pure_nilbox rfl rfl rfl)) ?_
        refine ex_one (i := 3) (by kernel_rfl) rfl rfl (st_pure rfl rfl (pure_field_box rfl fd73_1 rfl rfl)) ?_
        refine ex_one (i := 4) (by kernel_rfl) rfl rfl (st_pure rfl rfl (pure_load_box rfl ag3 rfl rfl rfl)) ?_
        refine ex_one (i := 6) (by kernel_rfl) rfl rfl (st_pure rfl rfl (pure_assign rfl rfl)) ?_
        refine ex_end (by kernel_rfl) ?_
        refine spk 54 [(6,_),(7,_)] [(6,_)] rfl rfl rfl ?_
        refine code_ret ?_
        refine seqQ_ret ?_
        refine endC2_ret rfl rfl ?_
        unfold parseP
        first
          | (rw [if_pos (by assumption)]; exact ⟨rfl, rfl⟩)
          | (rw [if_neg (by rw [h1]; decide), if_pos (by omega)]; exact ⟨rfl, rfl⟩)
          | (rw [if_neg (by rw [h1]; decide), if_neg (by omega), pTop_bad (by omega)]; exact ⟨rfl, rfl⟩)
          | (rw [if_neg (by rw [h1]; decide), if_neg (by omega), pTop_ok (by omega)]; exact ⟨rfl, rfl⟩)
      ·skip
       refine ex_two (i := 0) (j := 2) (by kernel_rfl) rfl rfl rfl rfl (st_pure rfl rfl (pure_build rfl pl25 ze25 rfl rfl rfl)) (st_pure rfl rfl (pure_nilbox rfl rfl rfl)) ?_ ?_
       ·skip
        refine ex_two (i := 2) (j := 5) (by kernel_rfl) rfl rfl rfl rfl (st_pure rfl rfl (pure_nilbox rfl rfl rfl)) (step_store_box rfl rfl rfl sz25 rfl rfl rfl rfl (by decide) rfl rfl hM0) ?_ ?_
        ·skip
         refine ex_two (i := 3) (j := 5) (by kernel_rfl) rfl rfl rfl rfl (st_pure rfl rfl (pure_field_box rfl fd73_1 rfl rfl)) (step_store_box rfl rfl rfl sz25 rfl rfl rfl rfl (by decide) rfl rfl hM0) ?_ ?_
         ·skip
          refine ex_two (i := 4) (j := 5) (by kernel_rfl) rfl rfl rfl rfl (st_pure rfl rfl (pure_load_box rfl ag3 rfl rfl rfl)) (step_store_box rfl rfl rfl sz25 rfl rfl rfl rfl (by decide) rfl rfl hM0) ?_ ?_
          ·skip
           refine ex_one (i := 5) (by kernel_rfl) rfl rfl (step_store_box rfl rfl rfl sz25 rfl rfl rfl rfl (by decide) rfl rfl hM0) ?_
           refine ex_one (i := 6) (by kernel_rfl) rfl rfl (st_pure rfl rfl (pure_assign rfl rfl)) ?_
           refine ex_end (by kernel_rfl) ?_
           refine spk 54 [(6,_),(7,_)] [(6,_)] rfl rfl rfl ?_
           refine code_ret ?_
           refine seqQ_ret ?_
           refine endC2_ret rfl rfl ?_
           unfold parseP
           first
             | (rw [if_pos (by assumption)]; exact ⟨rfl, rfl⟩)
             | (rw [if_neg (by rw [h1]; decide), if_pos (by omega)]; exact ⟨rfl, rfl⟩)
             | (rw [if_neg (by rw [h1]; decide), if_neg (by omega), pTop_bad (by omega)]; exact ⟨rfl, rfl⟩)
             | (rw [if_neg (by rw [h1]; decide), if_neg (by omega), pTop_ok (by omega)]; exact ⟨rfl, rfl⟩)
          ·skip
           refine ex_one (i := 4) (by kernel_rfl) rfl rfl (st_pure rfl rfl (pure_load_box rfl ag3 rfl rfl rfl)) ?_
           refine ex_one (i := 6) (by kernel_rfl) rfl rfl (st_pure rfl rfl (pure_assign rfl rfl)) ?_
           refine ex_end (by kernel_rfl) ?_
           refine spk 54 [(6,_),(7,_)] [(6,_)] rfl rfl rfl ?_
           refine code_ret ?_
           refine seqQ_ret ?_
           refine endC2_ret rfl rfl ?_
           unfold parseP
           first
             | (rw [if_pos (by assumption)]; exact ⟨rfl, rfl⟩)
             | (rw [if_neg (by rw [h1]; decide), if_pos (by omega)]; exact ⟨rfl, rfl⟩)
             | (rw [if_neg (by rw [h1]; decide), if_neg (by omega), pTop_bad (by omega)]; exact ⟨rfl, rfl⟩)
             | (rw [if_neg (by rw [h1]; decide), if_neg (by omega), pTop_ok (by omega)]; exact ⟨rfl, rfl⟩)
         ·skip
          refine ex_one (i := 3) (by kernel_rfl) rfl rfl (st_pure rfl rfl (pure_field_box rfl fd73_1 rfl rfl)) ?_
          refine ex_one (i := 4) (by kernel_rfl) rfl rfl (st_pure rfl rfl (pure_load_box rfl ag3 rfl rfl rfl)) ?_
          refine ex_one (i := 6) (by kernel_rfl) rfl rfl (st_pure rfl rfl (pure_assign rfl rfl)) ?_
          refine ex_end (by kernel_rfl) ?_
          refine spk 54 [(6,_),(7,_)] [(6,_)] rfl rfl rfl ?_
          refine code_ret ?_
          refine seqQ_ret ?_
          refine endC2_ret rfl rfl ?_
          unfold parseP
          first
            | (rw [if_pos (by assumption)]; exact ⟨rfl, rfl⟩)
            | (rw [if_neg (by rw [h1]; decide), if_pos (by omega)]; exact ⟨rfl, rfl⟩)
            | (rw [if_neg (by rw [h1]; decide), if_neg (by omega), pTop_bad (by omega)]; exact ⟨rfl, rfl⟩)
            | (rw [if_neg (by rw [h1]; decide), if_neg (by omega), pTop_ok (by omega)]; exact ⟨rfl, rfl⟩)
        ·skip
         refine ex_one (i := 2) (by kernel_rfl) rfl rfl (st_pure rfl rfl (pure_nilbox rfl rfl rfl)) ?_
         refine ex_one (i := 3) (by kernel_rfl) rfl rfl (st_pure rfl rfl (pure_field_box rfl fd73_1 rfl rfl)) ?_
         refine ex_one (i := 4) (by kernel_rfl) rfl rfl (st_pure rfl rfl (pure_load_box rfl ag3 rfl rfl rfl)) ?_
         refine ex_one (i := 6) (by kernel_rfl) rfl rfl (st_pure rfl rfl (pure_assign rfl rfl)) ?_
         refine ex_end (by kernel_rfl) ?_
         refine spk 54 [(6,_),(7,_)] [(6,_)] rfl rfl rfl ?_
         refine code_ret ?_
         refine seqQ_ret ?_
         refine endC2_ret rfl rfl ?_
         unfold parseP
         first
           | (rw [if_pos (by assumption)]; exact ⟨rfl, rfl⟩)
           | (rw [if_neg (by rw [h1]; decide), if_pos (by omega)]; exact ⟨rfl, rfl⟩)
           | (rw [if_neg (by rw [h1]; decide), if_neg (by omega), pTop_bad (by omega)]; exact ⟨rfl, rfl⟩)
           | (rw [if_neg (by rw [h1]; decide), if_neg (by omega), pTop_ok (by omega)]; exact ⟨rfl, rfl⟩)
       ·skip
        refine ex_two (i := 0) (j := 3) (by kernel_rfl) rfl rfl rfl rfl (st_pure rfl rfl (pure_build rfl pl25 ze25 rfl rfl rfl)) (st_pure rfl rfl (pure_field_box rfl fd73_1 rfl rfl)) ?_ ?_
        ·skip
         refine ex_two (i := 3) (j := 5) (by kernel_rfl) rfl rfl rfl rfl (st_pure rfl rfl (pure_field_box rfl fd73_1 rfl rfl)) (step_store_box rfl rfl rfl sz25 rfl rfl rfl rfl (by decide) rfl rfl hM0) ?_ ?_
         ·skip
          refine ex_two (i := 4) (j := 5) (by kernel_rfl) rfl rfl rfl rfl (st_pure rfl rfl (pure_load_box rfl ag3 rfl rfl rfl)) (step_store_box rfl rfl rfl sz25 rfl rfl rfl rfl (by decide) rfl rfl hM0) ?_ ?_
          ·skip
           refine ex_one (i := 5) (by kernel_rfl) rfl rfl (step_store_box rfl rfl rfl sz25 rfl rfl rfl rfl (by decide) rfl rfl hM0) ?_
           refine ex_one (i := 6) (by kernel_rfl) rfl rfl (st_pure rfl rfl (pure_assign rfl rfl)) ?_
           refine ex_end (by kernel_rfl) ?_
           refine spk 54 [(6,_),(7,_)] [(6,_)] rfl rfl rfl ?_
           refine code_ret ?_
           refine seqQ_ret ?_
           refine endC2_ret rfl rfl ?_
           unfold parseP
           first
             | (rw [if_pos (by assumption)]; exact ⟨rfl, rfl⟩)
             | (rw [if_neg (by rw [h1]; decide), if_pos (by omega)]; exact ⟨rfl, rfl⟩)
             | (rw [if_neg (by rw [h1]; decide), if_neg (by omega), pTop_bad (by omega)]; exact ⟨rfl, rfl⟩)
             | (rw [if_neg (by rw [h1]; decide), if_neg (by omega), pTop_ok (by omega)]; exact ⟨rfl, rfl⟩)
          ·skip
           refine ex_one (i := 4) (by kernel_rfl) rfl rfl (st_pure rfl rfl (pure_load_box rfl ag3 rfl rfl rfl)) ?_
           refine ex_one (i := 6) (by kernel_rfl) rfl rfl (st_pure rfl rfl (pure_assign rfl rfl)) ?_
           refine ex_end (by kernel_rfl) ?_
           refine spk 54 [(6,_),(7,_)] [(6,_)] rfl rfl rfl ?_
           refine code_ret ?_
           refine seqQ_ret ?_
           refine endC2_ret rfl rfl ?_
           unfold parseP
           first
             | (rw [if_pos (by assumption)]; exact ⟨rfl, rfl⟩)
             | (rw [if_neg (by rw [h1]; decide), if_pos (by omega)]; exact ⟨rfl, rfl⟩)
             | (rw [if_neg (by rw [h1]; decide), if_neg (by omega), pTop_bad (by omega)]; exact ⟨rfl, rfl⟩)
             | (rw [if_neg (by rw [h1]; decide), if_neg (by omega), pTop_ok (by omega)]; exact ⟨rfl, rfl⟩)
         ·skip
          refine ex_one (i := 3) (by kernel_rfl) rfl rfl (st_pure rfl rfl (pure_field_box rfl fd73_1 rfl rfl)) ?_
          refine ex_one (i := 4) (by kernel_rfl) rfl rfl (st_pure rfl rfl (pure_load_box rfl ag3 rfl rfl rfl)) ?_
          refine ex_one (i := 6) (by kernel_rfl) rfl rfl (st_pure rfl rfl (pure_assign rfl rfl)) ?_
          refine ex_end (by kernel_rfl) ?_
          refine spk 54 [(6,_),(7,_)] [(6,_)] rfl rfl rfl ?_
          refine code_ret ?_
          refine seqQ_ret ?_
          refine endC2_ret rfl rfl ?_
          unfold parseP
          first
            | (rw [if_pos (by assumption)]; exact ⟨rfl, rfl⟩)
            | (rw [if_neg (by rw [h1]; decide), if_pos (by omega)]; exact ⟨rfl, rfl⟩)
            | (rw [if_neg (by rw [h1]; decide), if_neg (by omega), pTop_bad (by omega)]; exact ⟨rfl, rfl⟩)
            | (rw [if_neg (by rw [h1]; decide), if_neg (by omega), pTop_ok (by omega)]; exact ⟨rfl, rfl⟩)
        ·skip
         refine ex_two (i := 0) (j := 4) (by kernel_rfl) rfl rfl rfl rfl (st_pure rfl rfl (pure_build rfl pl25 ze25 rfl rfl rfl)) (st_pure rfl rfl (pure_load_box rfl ag3 rfl rfl rfl)) ?_ ?_
         ·skip
          refine ex_two (i := 4) (j := 5) (by kernel_rfl) rfl rfl rfl rfl (st_pure rfl rfl (pure_load_box rfl ag3 rfl rfl rfl)) (step_store_box rfl rfl rfl sz25 rfl rfl rfl rfl (by decide) rfl rfl hM0) ?_ ?_
          ·skip
           refine ex_one (i := 5) (by kernel_rfl) rfl rfl (step_store_box rfl rfl rfl sz25 rfl rfl rfl rfl (by decide) rfl rfl hM0) ?_
           refine ex_one (i := 6) (by kernel_rfl) rfl rfl (st_pure rfl rfl (pure_assign rfl rfl)) ?_
           refine ex_end (by kernel_rfl) ?_
           refine spk 54 [(6,_),(7,_)] [(6,_)] rfl rfl rfl ?_
           refine code_ret ?_
           refine seqQ_ret ?_
           refine endC2_ret rfl rfl ?_
           unfold parseP
           first
             | (rw [if_pos (by assumption)]; exact ⟨rfl, rfl⟩)
             | (rw [if_neg (by rw [h1]; decide), if_pos (by omega)]; exact ⟨rfl, rfl⟩)
             | (rw [if_neg (by rw [h1]; decide), if_neg (by omega), pTop_bad (by omega)]; exact ⟨rfl, rfl⟩)
             | (rw [if_neg (by rw [h1]; decide), if_neg (by omega), pTop_ok (by omega)]; exact ⟨rfl, rfl⟩)
          ·skip
           refine ex_one (i := 4) (by kernel_rfl) rfl rfl (st_pure rfl rfl (pure_load_box rfl ag3 rfl rfl rfl)) ?_
           refine ex_one (i := 6) (by kernel_rfl) rfl rfl (st_pure rfl rfl (pure_assign rfl rfl)) ?_
           refine ex_end (by kernel_rfl) ?_
           refine spk 54 [(6,_),(7,_)] [(6,_)] rfl rfl rfl ?_
           refine code_ret ?_
           refine seqQ_ret ?_
           refine endC2_ret rfl rfl ?_
           unfold parseP
           first
             | (rw [if_pos (by assumption)]; exact ⟨rfl, rfl⟩)
             | (rw [if_neg (by rw [h1]; decide), if_pos (by omega)]; exact ⟨rfl, rfl⟩)
             | (rw [if_neg (by rw [h1]; decide), if_neg (by omega), pTop_bad (by omega)]; exact ⟨rfl, rfl⟩)
             | (rw [if_neg (by rw [h1]; decide), if_neg (by omega), pTop_ok (by omega)]; exact ⟨rfl, rfl⟩)
         ·skip
          refine ex_one (i := 0) (by kernel_rfl) rfl rfl (st_pure rfl rfl (pure_build rfl pl25 ze25 rfl rfl rfl)) ?_
          refine ex_one (i := 5) (by kernel_rfl) rfl rfl (step_store_box rfl rfl rfl sz25 rfl rfl rfl rfl (by decide) rfl rfl hM0) ?_
          refine ex_one (i := 6) (by kernel_rfl) rfl rfl (st_pure rfl rfl (pure_assign rfl rfl)) ?_
          refine ex_end (by kernel_rfl) ?_
          refine spk 54 [(6,_),(7,_)] [(6,_)] rfl rfl rfl ?_
          refine code_ret ?_
          refine seqQ_ret ?_
          refine endC2_ret rfl rfl ?_
          unfold parseP
          first
            | (rw [if_pos (by assumption)]; exact ⟨rfl, rfl⟩)
            | (rw [if_neg (by rw [h1]; decide), if_pos (by omega)]; exact ⟨rfl, rfl⟩)
            | (rw [if_neg (by rw [h1]; decide), if_neg (by omega), pTop_bad (by omega)]; exact ⟨rfl, rfl⟩)
            | (rw [if_neg (by rw [h1]; decide), if_neg (by omega), pTop_ok (by omega)]; exact ⟨rfl, rfl⟩)
     ·try simp only [dq] at h5
      refine code_skip ?_
      refine spk 54 [(6,_),(9,_)] [(6,_),(9,_)] rfl rfl rfl ?_
      refine code_seq ?_
      refine code_ops _ rfl ?_
      refine ol_pure rfl rfl rfl (pure_load_box_agg rfl ag25 sz25 rfl rfl rfl rfl) ?_
      refine ol_step rfl (step_store_box rfl rfl rfl sz25 rfl rfl rfl rfl (by decide) rfl rfl hM0) ?_
      refine ol_pure rfl rfl rfl (pure_assign rfl rfl) ?_
      refine ol_nil ?_
      refine spk 54 [(6,_),(7,_)] [(6,_)] rfl rfl rfl ?_
      refine code_ret ?_
      refine endC2_ret rfl rfl ?_
      unfold parseP
      first
        | (rw [if_pos (by assumption)]; exact ⟨rfl, rfl⟩)
        | (rw [if_neg (by rw [h1]; decide), if_pos (by omega)]; exact ⟨rfl, rfl⟩)
        | (rw [if_neg (by rw [h1]; decide), if_neg (by omega), pTop_bad (by omega)]; exact ⟨rfl, rfl⟩)
        | (rw [if_neg (by rw [h1]; decide), if_neg (by omega), pTop_ok (by omega)]; exact ⟨rfl, rfl⟩)
end Go.Proofs.YtgdehkimfmfofaaGreat

