/- For all strings, numbers, letters and named sets, the law RegexReads answers true: Parse returns the normal form, or the offset of the error, that the reference returns; no condition. -/
import Derived.Test.YtgdehkimfmfofaaGreatJ37
import Derived.Test.YtgdehkimfmfofaaGreatJ38
import Derived.Test.YtgdehkimfmfofaaGreatJ30
import Derived.Test.YtgdehkimfmfofaaGreatJ24
import Derived.Test.YtgdehkimfmfofaaGreatJ22
import Derived.Test.YtgdehkimfmfofaaGreatJ34
import Derived.Test.YtgdehkimfmfofaaGreatJ23
import Derived.Test.YtgdehkimfmfofaaGreatJ32
import Derived.Test.YtgdehkimfmfofaaGreatRows
import Derived.Test.YtgdehkimfmfofaaGreatJ8
set_option linter.unusedVariables false
set_option linter.unusedSimpArgs false
namespace Go.Proofs.YtgdehkimfmfofaaGreat
open Go.Am Go.Wb Go.Wc
set_option linter.unusedVariables false
set_option linter.unusedSimpArgs false
theorem fn33 : FnC2 Tryz.prog 33 Tryz.f33.ntmps 6 25 3 7 (Tryz.f33.body.getD .skip) := ⟨Tryz.f33, Tryz.func33, rfl, rfl, rfl, by kernel_rfl, ag25, sz25⟩
set_option maxRecDepth 100000 in
set_option maxHeartbeats 16000000 in
theorem rparse_call0 {s : List UInt8} {a : List Letter} {sets : List SetT} (hs : s.length ≤ 9223372036854775807) (ha : a.length ≤ 1099511627776) (ht : ∀ x ∈ a, x.text.length ≤ 9223372036854775807) (hset : sets.length ≤ 9223372036854775807) (hsy : ∀ x ∈ sets, x.syms.length ≤ 9223372036854775807) :
    CallN Tryz.prog 33 [sbytes s, letters a, setsA sets] (.p (.tup [rx (rParseP a sets s).1, int (rParseP a sets s).2])) := by
  have hT := fun h : validA a = true => rTop_ok (a := a) (sets := sets) (S := s) (validA_bd h)
  refine callN_of_codeC2 fn33 (Nat.le_of_ble_eq_true rfl) fun w0 M0 hM0 => ?_
  refine xC tb hM0 10 [0,1,2,6,10] [6] rfl ?_
  refine oP rfl (pure_call rfl rfl rfl (rvalidA_call ha ht) hM0) ?_
  refine xA tb hM0 3 [0,1,2,6,12] [6] rfl ?_
  refine spC 12 rfl ?_ ?_ <;> intro h1 <;> try simp only [dq] at h1
  ·skip
   refine xA tb hM0 10 [] [] rfl ?_
   refine endC2_ret rfl rfl ?_
   unfold rParseP
   first
     | (rw [if_pos (by assumption)]; exact ⟨rfl, rfl⟩)
     | (rw [if_neg (by rw [h1]; decide), if_pos (by omega)]; exact ⟨rfl, rfl⟩)
     | (rw [if_neg (by rw [h1]; decide), if_neg (by omega), if_pos (by omega)]; exact ⟨rfl, rfl⟩)
     | (rw [if_neg (by rw [h1]; decide), if_neg (by omega), if_neg (by omega)]; exact ⟨rfl, rfl⟩)
  ·skip
   refine xA tb hM0 7 [0,1,2,6,14] [6] rfl ?_
   refine oP rfl (pure_slen rfl Tryz.underlying9 rfl) ?_
   refine xA tb hM0 3 [0,1,2,6,16] [6] rfl ?_
   refine spC 16 rfl ?_ ?_ <;> intro h2 <;> try simp only [dq] at h2
   ·skip
    refine xA tb hM0 10 [] [] rfl ?_
    refine endC2_ret rfl rfl ?_
    unfold rParseP
    first
      | (rw [if_pos (by assumption)]; exact ⟨rfl, rfl⟩)
      | (rw [if_neg (by rw [h1]; decide), if_pos (by omega)]; exact ⟨rfl, rfl⟩)
      | (rw [if_neg (by rw [h1]; decide), if_neg (by omega), if_pos (by omega)]; exact ⟨rfl, rfl⟩)
      | (rw [if_neg (by rw [h1]; decide), if_neg (by omega), if_neg (by omega)]; exact ⟨rfl, rfl⟩)
   ·skip
    refine xA tb hM0 9 [0,6,21] [6] rfl ?_
    refine oS rfl (step_box rfl rfl rfl rfl rfl rfl rfl (by decide) hM0) rfl ?_
    refine xA tb hM0 6 [0,6,8,23] [6,22] rfl ?_
    refine oS rfl (step_callO [(1000001, 22)] rfl rfl rfl rfl rfl rfl rfl (ralt_top (S := s) (a := a) (sets := sets) (by omega) (by assumption) hset hsy) ⟨.inl rfl, trivial⟩ ⟨rfl, trivial⟩ rfl rfl rfl rfl rfl hM0) rfl ?_
    refine xA tb hM0 4 [0,6,8,9] [6,9,22] rfl ?_
    refine ct (fun zs => zs = ⟨58, [(6, .pbox 6 0), (8, .pbox 22 0), (9, .pbox 9 0)], [(6, .box 25 [.v .pl (.sc (.int .i64 0)), .v .pl (.sc (.slice none 0 0)), .v .pl (.sc (.slice none 0 0))]), (9, .box 25 [.v .pl (int ((rTop a sets s).1).kind), .v .pl (ints ((rTop a sets s).1).syms), .v .pl (.sl (Rx.avs ((rTop a sets s).1).kids))]), (22, .box 79 [.v .pl (sbytes s), .v .pl (letters a), .v .pl (setsA sets), .v .pl (int (rFin s (rTop a sets s).2).k), .v .pl (int (rFin s (rTop a sets s).2).bad)])]⟩) ?_ ?_
    ·skip
     refine xA tb hM0 1 [0,6,8,9] [6,9,22] rfl ?_
     obtain ⟨g1, g2⟩ := hT (by assumption)
     refine xA tb hM0 7 [0,6,8,9,30] [6,9,22] rfl ?_
     refine spO 30 rfl ?_ ?_ <;> intro h3' <;> try simp only [dq] at h3'
     ·skip
      refine xA tb hM0 5 [6,8,9,30,34,35] [6,9,22] rfl ?_
      refine oP rfl (pure_slen rfl Tryz.underlying9 rfl) ?_
      refine xA tb hM0 4 [6,8,9,38] [6,9,22] rfl ?_
      refine spC 38 rfl ?_ ?_ <;> intro h4 <;> try simp only [dq] at h4
      ·skip
       refine xA tb hM0 11 [6,8,9] [6,9,22] rfl ?_
       refine cx ?_
       first
         | (rw [show rFin s (rTop a sets s).2 = ⟨(rTop a sets s).2.k, (rTop a sets s).2.k⟩ from if_pos ⟨by omega, by omega⟩]; rfl)
         | (rw [show rFin s (rTop a sets s).2 = (rTop a sets s).2 from if_neg (fun q => by have q2 := q.2; omega)]; first | done | rfl)
      ·skip
       refine xA tb hM0 2 [6,8,9] [6,9,22] rfl ?_
       refine cx ?_
       first
         | (rw [show rFin s (rTop a sets s).2 = ⟨(rTop a sets s).2.k, (rTop a sets s).2.k⟩ from if_pos ⟨by omega, by omega⟩]; rfl)
         | (rw [show rFin s (rTop a sets s).2 = (rTop a sets s).2 from if_neg (fun q => by have q2 := q.2; omega)]; first | done | rfl)
     ·skip
      refine xA tb hM0 12 [6,8,9] [6,9,22] rfl ?_
      refine cx ?_
      first
        | (rw [show rFin s (rTop a sets s).2 = ⟨(rTop a sets s).2.k, (rTop a sets s).2.k⟩ from if_pos ⟨by omega, by omega⟩]; rfl)
        | (rw [show rFin s (rTop a sets s).2 = (rTop a sets s).2 from if_neg (fun q => by have q2 := q.2; omega)]; first | done | rfl)
    ·rintro zs ⟨rfl⟩
     refine xA tb hM0 10 [6,8,9,50] [6,9,22] rfl ?_
     refine spC 50 rfl ?_ ?_ <;> intro h5 <;> try simp only [dq] at h5
     ·skip
      refine xA tb hM0 2 [6,8] [6,22] rfl ?_
      refine code_draw mixed (by kernel_rfl) _ rfl ?_
      refine dl_ends (by kernel_rfl) (endL_of (n := 7) (by kernel_rfl) ?_)
      refine ex_two (i := 0) (j := 1) (by kernel_rfl) rfl rfl rfl rfl (st_pure rfl rfl (pure_build rfl pl25 ze25 rfl rfl rfl)) (st_pure rfl rfl (pure_move rfl rfl)) ?_ ?_
      ·skip
       refine ex_two (i := 1) (j := 5) (by kernel_rfl) rfl rfl rfl rfl (st_pure rfl rfl (pure_move rfl rfl)) (step_store_box rfl rfl rfl sz25 rfl rfl rfl rfl (by decide) rfl rfl hM0) ?_ ?_
       ·skip
        refine ex_two (i := 2) (j := 5) (by kernel_rfl) rfl rfl rfl rfl (st_pure rfl rfl (pure_nilbox rfl rfl rfl)) (step_store_box rfl rfl rfl sz25 rfl rfl rfl rfl (by decide) rfl rfl hM0) ?_ ?_
        ·skip
         refine ex_two (i := 3) (j := 5) (by kernel_rfl) rfl rfl rfl rfl (st_pure rfl rfl (pure_field_box rfl fd79_4 rfl rfl)) (step_store_box rfl rfl rfl sz25 rfl rfl rfl rfl (by decide) rfl rfl hM0) ?_ ?_
         ·skip
          refine ex_two (i := 4) (j := 5) (by kernel_rfl) rfl rfl rfl rfl (st_pure rfl rfl (pure_load_box rfl ag3 rfl rfl rfl)) (step_store_box rfl rfl rfl sz25 rfl rfl rfl rfl (by decide) rfl rfl hM0) ?_ ?_
          ·skip
           refine ex_one (i := 5) (by kernel_rfl) rfl rfl (step_store_box rfl rfl rfl sz25 rfl rfl rfl rfl (by decide) rfl rfl hM0) ?_
           refine ex_one (i := 6) (by kernel_rfl) rfl rfl (st_pure rfl rfl (pure_assign rfl rfl)) ?_
           refine ex_end (by kernel_rfl) ?_
           refine xD tb hM0 3 [] [] rfl ?_
           refine endC2_ret rfl rfl ?_
           unfold rParseP
           first
             | (rw [if_pos (by assumption)]; exact ⟨rfl, rfl⟩)
             | (rw [if_neg (by rw [h1]; decide), if_pos (by omega)]; exact ⟨rfl, rfl⟩)
             | (rw [if_neg (by rw [h1]; decide), if_neg (by omega), if_pos (by omega)]; exact ⟨rfl, rfl⟩)
             | (rw [if_neg (by rw [h1]; decide), if_neg (by omega), if_neg (by omega)]; exact ⟨rfl, rfl⟩)
          ·skip
           refine ex_one (i := 4) (by kernel_rfl) rfl rfl (st_pure rfl rfl (pure_load_box rfl ag3 rfl rfl rfl)) ?_
           refine ex_one (i := 6) (by kernel_rfl) rfl rfl (st_pure rfl rfl (pure_assign rfl rfl)) ?_
           refine ex_end (by kernel_rfl) ?_
           refine xD tb hM0 3 [] [] rfl ?_
           refine endC2_ret rfl rfl ?_
           unfold rParseP
           first
             | (rw [if_pos (by assumption)]; exact ⟨rfl, rfl⟩)
             | (rw [if_neg (by rw [h1]; decide), if_pos (by omega)]; exact ⟨rfl, rfl⟩)
             | (rw [if_neg (by rw [h1]; decide), if_neg (by omega), if_pos (by omega)]; exact ⟨rfl, rfl⟩)
             | (rw [if_neg (by rw [h1]; decide), if_neg (by omega), if_neg (by omega)]; exact ⟨rfl, rfl⟩)
         ·skip
          refine ex_one (i := 3) (by kernel_rfl) rfl rfl (st_pure rfl rfl (pure_field_box rfl fd79_4 rfl rfl)) ?_
          refine ex_one (i := 4) (by kernel_rfl) rfl rfl (st_pure rfl rfl (pure_load_box rfl ag3 rfl rfl rfl)) ?_
          refine ex_one (i := 6) (by kernel_rfl) rfl rfl (st_pure rfl rfl (pure_assign rfl rfl)) ?_
          refine ex_end (by kernel_rfl) ?_
          refine xD tb hM0 3 [] [] rfl ?_
          refine endC2_ret rfl rfl ?_
          unfold rParseP
          first
            | (rw [if_pos (by assumption)]; exact ⟨rfl, rfl⟩)
            | (rw [if_neg (by rw [h1]; decide), if_pos (by omega)]; exact ⟨rfl, rfl⟩)
            | (rw [if_neg (by rw [h1]; decide), if_neg (by omega), if_pos (by omega)]; exact ⟨rfl, rfl⟩)
            | (rw [if_neg (by rw [h1]; decide), if_neg (by omega), if_neg (by omega)]; exact ⟨rfl, rfl⟩)
        ·skip
         refine ex_one (i := 2) (by kernel_rfl) rfl rfl (st_pure rfl rfl (pure_nilbox rfl rfl rfl)) ?_
         refine ex_one (i := 3) (by kernel_rfl) rfl rfl (st_pure rfl rfl (pure_field_box rfl fd79_4 rfl rfl)) ?_
         refine ex_one (i := 4) (by kernel_rfl) rfl rfl (st_pure rfl rfl (pure_load_box rfl ag3 rfl rfl rfl)) ?_
         refine ex_one (i := 6) (by kernel_rfl) rfl rfl (st_pure rfl rfl (pure_assign rfl rfl)) ?_
         refine ex_end (by kernel_rfl) ?_
         refine xD tb hM0 3 [] [] rfl ?_
         refine endC2_ret rfl rfl ?_
         unfold rParseP
         first
           | (rw [if_pos (by assumption)]; exact ⟨rfl, rfl⟩)
           | (rw [if_neg (by rw [h1]; decide), if_pos (by omega)]; exact ⟨rfl, rfl⟩)
           | (rw [if_neg (by rw [h1]; decide), if_neg (by omega), if_pos (by omega)]; exact ⟨rfl, rfl⟩)
           | (rw [if_neg (by rw [h1]; decide), if_neg (by omega), if_neg (by omega)]; exact ⟨rfl, rfl⟩)
       ·skip
        refine ex_one (i := 1) (by kernel_rfl) rfl rfl (st_pure rfl rfl (pure_move rfl rfl)) ?_
        refine ex_one (i := 2) (by kernel_rfl) rfl rfl (st_pure rfl rfl (pure_nilbox rfl rfl rfl)) ?_
        refine ex_one (i := 3) (by kernel_rfl) rfl rfl (st_pure rfl rfl (pure_field_box rfl fd79_4 rfl rfl)) ?_
        refine ex_one (i := 4) (by kernel_rfl) rfl rfl (st_pure rfl rfl (pure_load_box rfl ag3 rfl rfl rfl)) ?_
        refine ex_one (i := 6) (by kernel_rfl) rfl rfl (st_pure rfl rfl (pure_assign rfl rfl)) ?_
        refine ex_end (by kernel_rfl) ?_
        refine xD tb hM0 3 [] [] rfl ?_
        refine endC2_ret rfl rfl ?_
        unfold rParseP
        first
          | (rw [if_pos (by assumption)]; exact ⟨rfl, rfl⟩)
          | (rw [if_neg (by rw [h1]; decide), if_pos (by omega)]; exact ⟨rfl, rfl⟩)
          | (rw [if_neg (by rw [h1]; decide), if_neg (by omega), if_pos (by omega)]; exact ⟨rfl, rfl⟩)
          | (rw [if_neg (by rw [h1]; decide), if_neg (by omega), if_neg (by omega)]; exact ⟨rfl, rfl⟩)
      ·skip
       refine ex_two (i := 0) (j := 2) (by kernel_rfl) rfl rfl rfl rfl (st_pure rfl rfl (pure_build rfl pl25 ze25 rfl rfl rfl)) (st_pure rfl rfl (pure_nilbox rfl rfl rfl)) ?_ ?_
       ·skip
        refine ex_two (i := 2) (j := 5) (by kernel_rfl) rfl rfl rfl rfl (st_pure rfl rfl (pure_nilbox rfl rfl rfl)) (step_store_box rfl rfl rfl sz25 rfl rfl rfl rfl (by decide) rfl rfl hM0) ?_ ?_
        ·skip
         refine ex_two (i := 3) (j := 5) (by kernel_rfl) rfl rfl rfl rfl (st_pure rfl rfl (pure_field_box rfl fd79_4 rfl rfl)) (step_store_box rfl rfl rfl sz25 rfl rfl rfl rfl (by decide) rfl rfl hM0) ?_ ?_
         ·skip
          refine ex_two (i := 4) (j := 5) (by kernel_rfl) rfl rfl rfl rfl (st_pure rfl rfl (pure_load_box rfl ag3 rfl rfl rfl)) (step_store_box rfl rfl rfl sz25 rfl rfl rfl rfl (by decide) rfl rfl hM0) ?_ ?_
          ·skip
           refine ex_one (i := 5) (by kernel_rfl) rfl rfl (step_store_box rfl rfl rfl sz25 rfl rfl rfl rfl (by decide) rfl rfl hM0) ?_
           refine ex_one (i := 6) (by kernel_rfl) rfl rfl (st_pure rfl rfl (pure_assign rfl rfl)) ?_
           refine ex_end (by kernel_rfl) ?_
           refine xD tb hM0 3 [] [] rfl ?_
           refine endC2_ret rfl rfl ?_
           unfold rParseP
           first
             | (rw [if_pos (by assumption)]; exact ⟨rfl, rfl⟩)
             | (rw [if_neg (by rw [h1]; decide), if_pos (by omega)]; exact ⟨rfl, rfl⟩)
             | (rw [if_neg (by rw [h1]; decide), if_neg (by omega), if_pos (by omega)]; exact ⟨rfl, rfl⟩)
             | (rw [if_neg (by rw [h1]; decide), if_neg (by omega), if_neg (by omega)]; exact ⟨rfl, rfl⟩)
          ·skip
           refine ex_one (i := 4) (by kernel_rfl) rfl rfl (st_pure rfl rfl (pure_load_box rfl ag3 rfl rfl rfl)) ?_
           refine ex_one (i := 6) (by kernel_rfl) rfl rfl (st_pure rfl rfl (pure_assign rfl rfl)) ?_
           refine ex_end (by kernel_rfl) ?_
           refine xD tb hM0 3 [] [] rfl ?_
           refine endC2_ret rfl rfl ?_
           unfold rParseP
           first
             | (rw [if_pos (by assumption)]; exact ⟨rfl, rfl⟩)
             | (rw [if_neg (by rw [h1]; decide), if_pos (by omega)]; exact ⟨rfl, rfl⟩)
             | (rw [if_neg (by rw [h1]; decide), if_neg (by omega), if_pos (by omega)]; exact ⟨rfl, rfl⟩)
             | (rw [if_neg (by rw [h1]; decide), if_neg (by omega), if_neg (by omega)]; exact ⟨rfl, rfl⟩)
         ·skip
          refine ex_one (i := 3) (by kernel_rfl) rfl rfl (st_pure rfl rfl (pure_field_box rfl fd79_4 rfl rfl)) ?_
          refine ex_one (i := 4) (by kernel_rfl) rfl rfl (st_pure rfl rfl (pure_load_box rfl ag3 rfl rfl rfl)) ?_
          refine ex_one (i := 6) (by kernel_rfl) rfl rfl (st_pure rfl rfl (pure_assign rfl rfl)) ?_
          refine ex_end (by kernel_rfl) ?_
          refine xD tb hM0 3 [] [] rfl ?_
          refine endC2_ret rfl rfl ?_
          unfold rParseP
          first
            | (rw [if_pos (by assumption)]; exact ⟨rfl, rfl⟩)
            | (rw [if_neg (by rw [h1]; decide), if_pos (by omega)]; exact ⟨rfl, rfl⟩)
            | (rw [if_neg (by rw [h1]; decide), if_neg (by omega), if_pos (by omega)]; exact ⟨rfl, rfl⟩)
            | (rw [if_neg (by rw [h1]; decide), if_neg (by omega), if_neg (by omega)]; exact ⟨rfl, rfl⟩)
        ·skip
         refine ex_one (i := 2) (by kernel_rfl) rfl rfl (st_pure rfl rfl (pure_nilbox rfl rfl rfl)) ?_
         refine ex_one (i := 3) (by kernel_rfl) rfl rfl (st_pure rfl rfl (pure_field_box rfl fd79_4 rfl rfl)) ?_
         refine ex_one (i := 4) (by kernel_rfl) rfl rfl (st_pure rfl rfl (pure_load_box rfl ag3 rfl rfl rfl)) ?_
         refine ex_one (i := 6) (by kernel_rfl) rfl rfl (st_pure rfl rfl (pure_assign rfl rfl)) ?_
         refine ex_end (by kernel_rfl) ?_
         refine xD tb hM0 3 [] [] rfl ?_
         refine endC2_ret rfl rfl ?_
         unfold rParseP
         first
           | (rw [if_pos (by assumption)]; exact ⟨rfl, rfl⟩)
           | (rw [if_neg (by rw [h1]; decide), if_pos (by omega)]; exact ⟨rfl, rfl⟩)
           | (rw [if_neg (by rw [h1]; decide), if_neg (by omega), if_pos (by omega)]; exact ⟨rfl, rfl⟩)
           | (rw [if_neg (by rw [h1]; decide), if_neg (by omega), if_neg (by omega)]; exact ⟨rfl, rfl⟩)
       ·skip
        refine ex_two (i := 0) (j := 3) (by kernel_rfl) rfl rfl rfl rfl (st_pure rfl rfl (pure_build rfl pl25 ze25 rfl rfl rfl)) (st_pure rfl rfl (pure_field_box rfl fd79_4 rfl rfl)) ?_ ?_
        ·skip
         refine ex_two (i := 3) (j := 5) (by kernel_rfl) rfl rfl rfl rfl (st_pure rfl rfl (pure_field_box rfl fd79_4 rfl rfl)) (step_store_box rfl rfl rfl sz25 rfl rfl rfl rfl (by decide) rfl rfl hM0) ?_ ?_
         ·skip
          refine ex_two (i := 4) (j := 5) (by kernel_rfl) rfl rfl rfl rfl (st_pure rfl rfl (pure_load_box rfl ag3 rfl rfl rfl)) (step_store_box rfl rfl rfl sz25 rfl rfl rfl rfl (by decide) rfl rfl hM0) ?_ ?_
          ·skip
           refine ex_one (i := 5) (by kernel_rfl) rfl rfl (step_store_box rfl rfl rfl sz25 rfl rfl rfl rfl (by decide) rfl rfl hM0) ?_
           refine ex_one (i := 6) (by kernel_rfl) rfl rfl (st_pure rfl rfl (pure_assign rfl rfl)) ?_
           refine ex_end (by kernel_rfl) ?_
           refine xD tb hM0 3 [] [] rfl ?_
           refine endC2_ret rfl rfl ?_
           unfold rParseP
           first
             | (rw [if_pos (by assumption)]; exact ⟨rfl, rfl⟩)
             | (rw [if_neg (by rw [h1]; decide), if_pos (by omega)]; exact ⟨rfl, rfl⟩)
             | (rw [if_neg (by rw [h1]; decide), if_neg (by omega), if_pos (by omega)]; exact ⟨rfl, rfl⟩)
             | (rw [if_neg (by rw [h1]; decide), if_neg (by omega), if_neg (by omega)]; exact ⟨rfl, rfl⟩)
          ·skip
           refine ex_one (i := 4) (by kernel_rfl) rfl rfl (st_pure rfl rfl (pure_load_box rfl ag3 rfl rfl rfl)) ?_
           refine ex_one (i := 6) (by kernel_rfl) rfl rfl (st_pure rfl rfl (pure_assign rfl rfl)) ?_
           refine ex_end (by kernel_rfl) ?_
           refine xD tb hM0 3 [] [] rfl ?_
           refine endC2_ret rfl rfl ?_
           unfold rParseP
           first
             | (rw [if_pos (by assumption)]; exact ⟨rfl, rfl⟩)
             | (rw [if_neg (by rw [h1]; decide), if_pos (by omega)]; exact ⟨rfl, rfl⟩)
             | (rw [if_neg (by rw [h1]; decide), if_neg (by omega), if_pos (by omega)]; exact ⟨rfl, rfl⟩)
             | (rw [if_neg (by rw [h1]; decide), if_neg (by omega), if_neg (by omega)]; exact ⟨rfl, rfl⟩)
         ·skip
          refine ex_one (i := 3) (by kernel_rfl) rfl rfl (st_pure rfl rfl (pure_field_box rfl fd79_4 rfl rfl)) ?_
          refine ex_one (i := 4) (by kernel_rfl) rfl rfl (st_pure rfl rfl (pure_load_box rfl ag3 rfl rfl rfl)) ?_
          refine ex_one (i := 6) (by kernel_rfl) rfl rfl (st_pure rfl rfl (pure_assign rfl rfl)) ?_
          refine ex_end (by kernel_rfl) ?_
          refine xD tb hM0 3 [] [] rfl ?_
          refine endC2_ret rfl rfl ?_
          unfold rParseP
          first
            | (rw [if_pos (by assumption)]; exact ⟨rfl, rfl⟩)
            | (rw [if_neg (by rw [h1]; decide), if_pos (by omega)]; exact ⟨rfl, rfl⟩)
            | (rw [if_neg (by rw [h1]; decide), if_neg (by omega), if_pos (by omega)]; exact ⟨rfl, rfl⟩)
            | (rw [if_neg (by rw [h1]; decide), if_neg (by omega), if_neg (by omega)]; exact ⟨rfl, rfl⟩)
        ·skip
         refine ex_two (i := 0) (j := 4) (by kernel_rfl) rfl rfl rfl rfl (st_pure rfl rfl (pure_build rfl pl25 ze25 rfl rfl rfl)) (st_pure rfl rfl (pure_load_box rfl ag3 rfl rfl rfl)) ?_ ?_
         ·skip
          refine ex_two (i := 4) (j := 5) (by kernel_rfl) rfl rfl rfl rfl (st_pure rfl rfl (pure_load_box rfl ag3 rfl rfl rfl)) (step_store_box rfl rfl rfl sz25 rfl rfl rfl rfl (by decide) rfl rfl hM0) ?_ ?_
          ·skip
           refine ex_one (i := 5) (by kernel_rfl) rfl rfl (step_store_box rfl rfl rfl sz25 rfl rfl rfl rfl (by decide) rfl rfl hM0) ?_
           refine ex_one (i := 6) (by kernel_rfl) rfl rfl (st_pure rfl rfl (pure_assign rfl rfl)) ?_
           refine ex_end (by kernel_rfl) ?_
           refine xD tb hM0 3 [] [] rfl ?_
           refine endC2_ret rfl rfl ?_
           unfold rParseP
           first
             | (rw [if_pos (by assumption)]; exact ⟨rfl, rfl⟩)
             | (rw [if_neg (by rw [h1]; decide), if_pos (by omega)]; exact ⟨rfl, rfl⟩)
             | (rw [if_neg (by rw [h1]; decide), if_neg (by omega), if_pos (by omega)]; exact ⟨rfl, rfl⟩)
             | (rw [if_neg (by rw [h1]; decide), if_neg (by omega), if_neg (by omega)]; exact ⟨rfl, rfl⟩)
          ·skip
           refine ex_one (i := 4) (by kernel_rfl) rfl rfl (st_pure rfl rfl (pure_load_box rfl ag3 rfl rfl rfl)) ?_
           refine ex_one (i := 6) (by kernel_rfl) rfl rfl (st_pure rfl rfl (pure_assign rfl rfl)) ?_
           refine ex_end (by kernel_rfl) ?_
           refine xD tb hM0 3 [] [] rfl ?_
           refine endC2_ret rfl rfl ?_
           unfold rParseP
           first
             | (rw [if_pos (by assumption)]; exact ⟨rfl, rfl⟩)
             | (rw [if_neg (by rw [h1]; decide), if_pos (by omega)]; exact ⟨rfl, rfl⟩)
             | (rw [if_neg (by rw [h1]; decide), if_neg (by omega), if_pos (by omega)]; exact ⟨rfl, rfl⟩)
             | (rw [if_neg (by rw [h1]; decide), if_neg (by omega), if_neg (by omega)]; exact ⟨rfl, rfl⟩)
         ·skip
          refine ex_one (i := 0) (by kernel_rfl) rfl rfl (st_pure rfl rfl (pure_build rfl pl25 ze25 rfl rfl rfl)) ?_
          refine ex_one (i := 5) (by kernel_rfl) rfl rfl (step_store_box rfl rfl rfl sz25 rfl rfl rfl rfl (by decide) rfl rfl hM0) ?_
          refine ex_one (i := 6) (by kernel_rfl) rfl rfl (st_pure rfl rfl (pure_assign rfl rfl)) ?_
          refine ex_end (by kernel_rfl) ?_
          refine xD tb hM0 3 [] [] rfl ?_
          refine endC2_ret rfl rfl ?_
          unfold rParseP
          first
            | (rw [if_pos (by assumption)]; exact ⟨rfl, rfl⟩)
            | (rw [if_neg (by rw [h1]; decide), if_pos (by omega)]; exact ⟨rfl, rfl⟩)
            | (rw [if_neg (by rw [h1]; decide), if_neg (by omega), if_pos (by omega)]; exact ⟨rfl, rfl⟩)
            | (rw [if_neg (by rw [h1]; decide), if_neg (by omega), if_neg (by omega)]; exact ⟨rfl, rfl⟩)
     ·skip
      refine xA tb hM0 6 [6,56] [6] rfl ?_
      refine oP rfl (pure_callN rfl rfl rfl rfl (rsimple_call (r := (rTop a sets s).1) (by have q := hT (by assumption); omega)) hM0) ?_
      refine xA tb hM0 5 [] [] rfl ?_
      refine endC2_ret rfl rfl ?_
      unfold rParseP
      first
        | (rw [if_pos (by assumption)]; exact ⟨rfl, rfl⟩)
        | (rw [if_neg (by rw [h1]; decide), if_pos (by omega)]; exact ⟨rfl, rfl⟩)
        | (rw [if_neg (by rw [h1]; decide), if_neg (by omega), if_pos (by omega)]; exact ⟨rfl, rfl⟩)
        | (rw [if_neg (by rw [h1]; decide), if_neg (by omega), if_neg (by omega)]; exact ⟨rfl, rfl⟩)
theorem rparse_call {s : List UInt8} {a : List Letter} {sets : List SetT} (hs : s.length ≤ 9223372036854775807) (ha : a.length ≤ 1099511627776) (ht : ∀ x ∈ a, x.text.length ≤ 9223372036854775807) (hset : sets.length ≤ 9223372036854775807) (hsy : ∀ x ∈ sets, x.syms.length ≤ 9223372036854775807) :
    CallN Tryz.prog 33 [sbytes s, letters a, setsA sets] (.p (.tup [rx (parseP a sets s).1, int (parseP a sets s).2])) := by
  rw [← rParse_eq]; exact rparse_call0 hs ha ht hset hsy
end Go.Proofs.YtgdehkimfmfofaaGreat

namespace Go.Proofs.YtgdehkimfmfofaaGreat
open Go.Am Go.Wc
set_option linter.unusedVariables false
set_option linter.unusedSimpArgs false
theorem fn65 : Fn1 Tryz.prog 65 Tryz.f65.ntmps 2 (Tryz.f65.body.getD .skip) := ⟨Tryz.f65, Tryz.func65, rfl, rfl, rfl, by kernel_rfl⟩
set_option maxRecDepth 100000 in
theorem pool_call {n : Int} (hn : 0 ≤ n ∧ n < 16) : CallF Tryz.prog 65 [int n] (.p (sbytes (poolL.getD n.toNat default))) := by
  refine callF_of_code fn65 (Nat.le_of_ble_eq_true rfl) fun w0 M0 hM0 => ?_
  refine xC tb hM0 7 [0] [] rfl ?_
  refine oP rfl (pure_lit rfl Tryz.underlying111 el9 rfl rfl rfl rfl hM0) ?_
  refine xA tb hM0 1 [3,4] [] rfl ?_
  refine oP rfl (pure_indexm (f := sbytes) (l := poolL) rfl Tryz.underlying111 sz9 rfl rfl (by simp only [List.length_cons, List.length_nil]; omega) (fun _ => rfl)) ?_
  refine xA tb hM0 5 [] [] rfl ?_
  refine end_ret rfl ?_
  rfl
theorem fn34 : Fn1 Tryz.prog 34 Tryz.f34.ntmps 2 (Tryz.f34.body.getD .skip) := ⟨Tryz.f34, Tryz.func34, rfl, rfl, rfl, by kernel_rfl⟩
set_option maxRecDepth 100000 in
set_option maxHeartbeats 2000000 in
theorem letters_call {l : List Int} (hl : l.length ≤ 9223372036854775807) (h64 : I64s l) : CallF Tryz.prog 34 [ints l] (.fresh 83 ((lettersP l).map letter)) := by
  have a0 := atL_lt (l := l) (i := 0) (most := 6) (by decide)
  have a1 := atL_lt (l := l) (i := 1) (most := 16) (by decide)
  refine callF_of_code fn34 (Nat.le_of_ble_eq_true rfl) fun w0 M0 hM0 => ?_
  refine xC tb hM0 2 [0] [] rfl ?_
  refine oS rfl (step_nil rfl rfl rfl rfl rfl 83 hM0) rfl ?_
  refine xA tb hM0 5 [0,8] [] rfl ?_
  refine oP rfl (pure_call rfl rfl rfl (at_call (by assumption) (by omega)) hM0) ?_
  refine oP rfl (pure_addi rfl rfl rfl (by omega)) ?_
  refine xA tb hM0 6 [0,3,11] [] rfl ?_
  refine oP rfl (pure_call rfl rfl rfl (at_call (by assumption) (by omega)) hM0) ?_
  refine xA tb hM0 5 [0,3,4] [] rfl ?_
  refine oS rfl (step_nil rfl rfl rfl rfl rfl 83 hM0) rfl ?_
  refine xA tb hM0 9 [0,3,4,5,6] [5] rfl ?_
  refine lp (fun zm zs => ∃ i : Nat, zm = (3 + atL l 0 6).toNat - i ∧ (i ≤ (3 + atL l 0 6).toNat) ∧ zs = ⟨64, [(0, .v .mx (ints l)), (3, .v .pl (int (3 + atL l 0 6))), (4, .v .pl (int (atL l 1 16))), (5, .own 5), (6, .v .pl (int i))], [(5, .arr 83 ((lettersN l (atL l 1 16) i).map letter))]⟩) ?_ ?_
  exact ⟨_, 0, rfl, Nat.zero_le _, rfl⟩
  rintro zm zs ⟨i, rfl, hL1_0, rfl⟩
  have b1 := atL_lt (l := l) (i := 2 + i) (most := 9) (by decide)
  have b2 := atL_lt (l := l) (i := 10 + i) (most := 3) (by decide)
  have b3 := atL_lt (l := l) (i := 30 + i) (most := 4) (by decide)
  have b4 := atL_lt (l := l) (i := 40 + i) (most := 2) (by decide)
  have b5 := fun h : 0 < (i : Int) => atL_lt (l := l) (i := 20 + i) (most := i) h
  have b6 := lettersN_len l (atL l 1 16) i
  refine xA tb hM0 8 [0,3,4,5,6,15] [5] rfl ?_
  refine spC 15 rfl ?_ ?_ <;> intro h1 <;> try simp only [dq] at h1
  refine xA tb hM0 9 [0,3,4,5,6,18,19] [5] rfl ?_
  refine oP rfl (pure_addi rfl rfl rfl (by omega)) ?_
  refine oP rfl (pure_remn rfl rfl rfl (by omega)) ?_
  refine xA tb hM0 0 [0,3,4,5,6,21] [5] rfl ?_
  refine oP rfl (pure_call rfl rfl rfl (pool_call (by omega)) hM0) ?_
  refine xA tb hM0 3 [0,3,4,5,6,22,23,24,25] [5] rfl ?_
  refine oP rfl (pure_addi rfl rfl rfl (by omega)) ?_
  refine oP rfl (pure_call rfl rfl rfl (at_call (by assumption) (by omega)) hM0) ?_
  refine xA tb hM0 0 [0,3,4,5,6,22,23,27] [5] rfl ?_
  refine oP rfl (pure_addi rfl rfl rfl (by omega)) ?_
  refine xA tb hM0 11 [0,3,4,5,6,7,32] [5,7] rfl ?_
  refine spO 32 rfl ?_ ?_ <;> intro h2' <;> try simp only [dq] at h2'
  refine xA tb hM0 2 [0,3,4,5,6,7,32,33,34] [5,7] rfl ?_
  refine oP rfl (pure_addi rfl rfl rfl (by omega)) ?_
  refine oP rfl (pure_call rfl rfl rfl (at_call (by assumption) (by omega)) hM0) ?_
  refine xA tb hM0 4 [0,3,4,5,6,7,38] [5,7] rfl ?_
  refine spC 38 rfl ?_ ?_ <;> intro h3 <;> try simp only [dq] at h3
  refine xA tb hM0 6 [0,3,4,5,6,7,39,40,41] [5,7] rfl ?_
  refine oP rfl (pure_addi rfl rfl rfl (by omega)) ?_
  refine xA tb hM0 1 [0,3,4,5,6,7,39,40,42,43] [5,7] rfl ?_
  refine oP rfl (pure_call rfl rfl rfl (at_call (by assumption) (by omega)) hM0) ?_
  refine oP rfl (pure_index_own rfl Tryz.underlying39 sz83 rfl rfl rfl (by simp only [List.length_map]; have := b5 (by omega); omega)) ?_
  refine xA tb hM0 0 [0,3,4,5,6,7,45] [5,7] rfl ?_
  refine oP rfl (pure_field_pel rfl fd83_1 rfl rfl) ?_
  refine oP rfl (pure_load_pel rfl ag3 rfl rfl (mget (by have := b5 (by omega); omega)) rfl) ?_
  refine xA tb hM0 8 [0,3,4,5,6,7,49,50] [5,7] rfl ?_
  refine oP rfl (pure_addi rfl rfl rfl (by omega)) ?_
  refine oP rfl (pure_call rfl rfl rfl (at_call (by assumption) (by omega)) hM0) ?_
  refine xA tb hM0 7 [0,3,4,5,6,7,54,55] [5,7] rfl ?_
  refine oP rfl (pure_addi rfl rfl rfl (by omega)) ?_
  refine oP rfl (pure_call rfl rfl rfl (at_call (by assumption) (by omega)) hM0) ?_
  refine xA tb hM0 7 [0,3,4,6,59,60] [5] rfl ?_
  refine oP rfl (pure_lit rfl Tryz.underlying39 el83 rfl rfl rfl rfl hM0) ?_
  refine oS rfl (step_append rfl rfl rfl rfl Tryz.underlying39 el83 rfl rfl hM0 (src_pl rfl (one_len (by rfl))) (by first | (simp only [ll]; omega) | omega) (by first | (simp only [ll]; omega) | omega)) rfl ?_
  refine xA tb hM0 6 [0,3,4,5,16] [5] rfl ?_
  refine oP rfl (pure_addi rfl rfl rfl (by omega)) ?_
  refine xA tb hM0 2 [0,3,4,5,6] [5] rfl ?_
  refine nx ?_; rotate_left
  refine xA tb hM0 6 [0,3,4,6,59,60] [5] rfl ?_
  refine oP rfl (pure_lit rfl Tryz.underlying39 el83 rfl rfl rfl rfl hM0) ?_
  refine oS rfl (step_append rfl rfl rfl rfl Tryz.underlying39 el83 rfl rfl hM0 (src_pl rfl (one_len (by rfl))) (by first | (simp only [ll]; omega) | omega) (by first | (simp only [ll]; omega) | omega)) rfl ?_
  refine xA tb hM0 6 [0,3,4,5,16] [5] rfl ?_
  refine oP rfl (pure_addi rfl rfl rfl (by omega)) ?_
  refine xA tb hM0 2 [0,3,4,5,6] [5] rfl ?_
  refine nx ?_; rotate_left
  refine xA tb hM0 14 [0,3,4,6,59,60] [5] rfl ?_
  refine oP rfl (pure_lit rfl Tryz.underlying39 el83 rfl rfl rfl rfl hM0) ?_
  refine oS rfl (step_append rfl rfl rfl rfl Tryz.underlying39 el83 rfl rfl hM0 (src_pl rfl (one_len (by rfl))) (by first | (simp only [ll]; omega) | omega) (by first | (simp only [ll]; omega) | omega)) rfl ?_
  refine xA tb hM0 6 [0,3,4,5,16] [5] rfl ?_
  refine oP rfl (pure_addi rfl rfl rfl (by omega)) ?_
  refine xA tb hM0 2 [0,3,4,5,6] [5] rfl ?_
  refine nx ?_; rotate_left
  refine xA tb hM0 13 [] [] rfl ?_
  refine end_ret rfl ?_
  rw [lettersP, show i = (3 + atL l 0 6).toNat by omega]
  all_goals
    exact ⟨_, ⟨i + 1, rfl, by omega, by rw [lettersN, List.map_append, List.map_singleton, letterI]; first | (rw [if_pos ⟨by omega, by omega⟩]; rfl) | (rw [if_neg (by omega)]; rfl)⟩, by omega⟩
end Go.Proofs.YtgdehkimfmfofaaGreat

namespace Go.Proofs.YtgdehkimfmfofaaGreat
open Go.Am Go.Wb Go.Wc
set_option linter.unusedVariables false
set_option linter.unusedSimpArgs false
theorem fn31 : Fn1 Tryz.prog 31 Tryz.f31.ntmps 4 (Tryz.f31.body.getD .skip) := ⟨Tryz.f31, Tryz.func31, rfl, rfl, rfl, by kernel_rfl⟩
set_option maxRecDepth 100000 in
theorem short_call {s : List UInt8} {n : Int} (hn : 0 ≤ n) : CallF Tryz.prog 31 [sbytes s, int n] (.p (sbytes (s.take n.toNat))) := by
  refine callF_of_code fn31 (Nat.le_of_ble_eq_true rfl) fun w0 M0 hM0 => ?_
  refine xC tb hM0 9 [0,1,5] [] rfl ?_
  refine oP rfl (pure_slen rfl Tryz.underlying9 rfl) ?_
  refine xA tb hM0 4 [0,1,8] [] rfl ?_
  refine spC 8 rfl ?_ ?_ <;> intro h1 <;> try simp only [dq] at h1
  refine xA tb hM0 5 [9,10] [] rfl ?_
  refine oP rfl (pure_sslice_h rfl Tryz.underlying9 rfl rfl (by omega)) ?_
  refine xA tb hM0 5 [] [] rfl ?_
  refine end_ret rfl ?_; rotate_left
  refine xA tb hM0 10 [] [] rfl ?_
  refine end_ret rfl ?_; rotate_left
  all_goals
    first
      | (rw [show s.take n.toNat = s from List.take_of_length_le (by omega)]; first | done | rfl)
      | rfl
theorem parse_long {a : List Letter} {sets : List SetT} {s : List UInt8} (hv : validA a = true) (h : 1024 < s.length) : parseP a sets s = (noneRx, 1024) := by
  unfold parseP; rw [if_neg (by rw [hv]; decide), if_pos h]
theorem fn6 : Fn1 Tryz.prog 6 Tryz.f6.ntmps 8 (Tryz.f6.body.getD .skip) := ⟨Tryz.f6, Tryz.func6, rfl, rfl, rfl, by kernel_rfl⟩
set_option maxRecDepth 100000 in
set_option maxHeartbeats 8000000 in
theorem reads_law {s : List UInt8} {l : List Int} {a : List Letter} {sets : List SetT} (hs : s.length ≤ 9223372036854775807) (hl : l.length ≤ 9223372036854775807) (h64 : I64s l) (ha : a.length ≤ 9223372036854775807) (hat : ∀ x ∈ a, x.text.length ≤ 9223372036854775807)
    (hset : sets.length ≤ 9223372036854775807) (hsy : ∀ x ∈ sets, x.syms.length ≤ 9223372036854775807) : CallW Tryz.prog 6 [sbytes s, ints l, letters a, setsA sets] (.p (bool true)) := by
  have hal := lettersP_len l
  have hbv := lettersP_valid l
  have hbt : ∀ x ∈ lettersP l, x.text.length ≤ 9223372036854775807 := fun x hx => by have := validA_txt hbv x hx; omega
  have ht1 : (s.take 200).length ≤ 200 := by rw [List.length_take]; omega
  have ht : (s.take 200).length ≤ 9223372036854775807 := by omega
  have hp1 := parse_small (a := a) (sets := sets) (S := s.take 200) (by omega)
  have hp2 := parse_small (a := lettersP l) (sets := sets) (S := s.take 200) (by omega)
  refine callW_of_codeS fn6 (Nat.le_of_ble_eq_true rfl) fun w0 M0 hM0 hdr => ?_
  refine xC tb hM0 8 [1,2,3,21] [] rfl ?_
  refine oP rfl (pure_call rfl rfl rfl (short_call (n := 200) (by decide)) hM0) ?_
  refine xA tb hM0 3 [1,2,3,9] [] rfl ?_
  refine ct (fun zs => zs = ⟨93, [(1, .v .pl (ints l)), (3, .v .pl (setsA sets)), (9, .v .pl (sbytes (s.take 200)))], []⟩) ?_ ?_
  ·skip
   refine xA tb hM0 3 [1,2,3,9,23] [] rfl ?_
   refine oP rfl (pure_lenm rfl Tryz.underlying39 rfl) ?_
   refine xA tb hM0 3 [1,2,3,9,25] [] rfl ?_
   refine spC 25 rfl ?_ ?_ <;> intro h1 <;> try simp only [dq] at h1
   ·skip
    refine xA tb hM0 6 [1,2,3,9,27,28,29] [] rfl ?_
    refine oP rfl (pure_call rfl rfl rfl (parse_call (s := (s.take 200)) ht (by omega) hat hset hsy) hM0) ?_
    refine xA tb hM0 13 [1,3,9,10,11,34,35,36] [10] rfl ?_
    refine oP rfl (pure_callN rfl rfl rfl rfl (rparse_call (s := (s.take 200)) ht (by omega) hat hset hsy) hM0) ?_
    refine xA tb hM0 12 [1,3,9,10,12,40,41] [10,12] rfl ?_
    refine oP rfl (pure_to (b' := false) (pure_neq rfl rfl rfl) (by rw [decide_eq_true rfl]; rfl)) ?_
    refine xA tb hM0 3 [1,3,9,43,44,45] [] rfl ?_
    refine oP rfl (pure_callb (b' := true) rfl rfl rfl (same_call (a := (parseP a sets (s.take 200)).1) (b := (parseP a sets (s.take 200)).1) (by omega) (by omega)) hM0 (same_eq rfl)) ?_
    refine oP rfl (pure_to (b' := false) (pure_not rfl rfl) (by decide)) ?_
    refine xA tb hM0 5 [1,3,9] [] rfl ?_
    refine cx ?_
    exact rfl
   ·skip
    refine xA tb hM0 2 [1,3,9] [] rfl ?_
    refine cx ?_
    exact rfl
  ·rintro zs ⟨rfl⟩
   refine xA tb hM0 3 [3,9,49] [] rfl ?_
   refine oP rfl (pure_call rfl rfl rfl (letters_call hl h64) hM0) ?_
   refine xA tb hM0 8 [3,9,14,52,53,54] [] rfl ?_
   refine oP rfl (pure_call rfl rfl rfl (parse_call (s := (s.take 200)) (a := (lettersP l)) ht (by omega) hbt hset hsy) hM0) ?_
   refine xA tb hM0 13 [3,14,15,16,59,60,61] [15] rfl ?_
   refine oP rfl (pure_callN rfl rfl rfl rfl (rparse_call (s := (s.take 200)) (a := (lettersP l)) ht (by omega) hbt hset hsy) hM0) ?_
   refine xA tb hM0 10 [3,14,15,16,17,18] [15,17] rfl ?_
   refine oS rfl (step_make rfl rfl rfl rfl Tryz.underlying45 el5 ze5 rfl rfl rfl (by first | (simp only [ll]; omega) | omega) (by first | (simp only [ll]; omega) | omega) (by first | (simp only [ll]; omega) | omega) hM0) rfl ?_
   refine xA tb hM0 0 [3,14,15,16,17,18,66] [15,17,66] rfl ?_
   refine oP rfl (pure_btos rfl Tryz.underlying45 Tryz.underlying5 Tryz.underlying9 rfl rfl) ?_
   refine xA tb hM0 2 [15,16,17,18,67,68,69] [15,17] rfl ?_
   refine oP rfl (pure_call rfl rfl rfl (parse_call (a := (lettersP l)) (by decide +kernel) (by omega) hbt hset hsy) hM0) ?_
   refine xA tb hM0 12 [15,17,19,20,73,74] [15,17,19] rfl ?_
   refine oP rfl (pure_to (b' := true) (pure_eql rfl rfl rfl) (decide_eq_true rfl)) ?_
   refine xA tb hM0 3 [19,20,76,77,78] [19] rfl ?_
   refine oP rfl (pure_callb (b' := true) rfl rfl rfl (same_call (a := (parseP (lettersP l) sets (s.take 200)).1) (b := (parseP (lettersP l) sets (s.take 200)).1) (by omega) (by omega)) hM0 (same_eq rfl)) ?_
   refine xA tb hM0 4 [20,81,83] [] rfl ?_
   refine oP rfl (pure_to (b' := true) (pure_eql rfl rfl rfl) (by rw [parse_long hbv (by decide +kernel)]; rfl)) ?_
   refine xA tb hM0 3 [86,87] [] rfl ?_
   refine oP rfl (pure_to (b' := true) (pure_eql rfl rfl rfl) (by rw [parse_long hbv (by decide +kernel)]; rfl)) ?_
   refine xA tb hM0 2 [90] [] rfl ?_
   refine oP rfl (pure_to (b' := true) (pure_callW (r := .p (bool true)) hdr rfl rfl rfl (lives_call) hM0) (rfl)) ?_
   refine xA tb hM0 5 [] [] rfl ?_
   refine end_ret rfl ?_
   rfl
end Go.Proofs.YtgdehkimfmfofaaGreat

namespace Go.Proofs.YtgdehkimfmfofaaGreat
open Go.Am Go.Wb Go.Wc
set_option linter.unusedVariables false
set_option linter.unusedSimpArgs false
/-! The statement RegexReadsSaid. -/
namespace regexReads
open Go.ChangeShapes Go.WideShapes Go.ChangeAt Go.RowKit Go.Am
theorem own : ownKnob Tryz.prog.godebug = none := by kernel_rfl
set_option maxRecDepth 100000 in
theorem lifted (os : Os) (started : os.Started) (H : Type) (enc : TypeId × Value → H) :
    ReturnsInHanded {} Tryz.checked os 6 .any (Rows.regexReadsSpec.pre6 enc Tryz.prog Tryz.f6 Rows.regexReadsRow.domain false) (Rows.regexReadsSpec.post enc Tryz.prog Tryz.f6 false true false false) := by
  refine returnsInHanded_of_change (C := Tryz.checked) own started (by kernel_rfl) Tryz.func6
    (ChangeSpec.witness6 (enc := enc) (C := Tryz.checked) false ⟨#[], #[.string ⟨#[]⟩, .slice none 0 0, .slice none 0 0, .slice none 0 0], []⟩ 8 (by kernel_rfl) (by kernel_rfl) (by kernel_rfl) (by kernel_rfl)) ?_
  intro W base args ds gs before hval0 hW hcnd _
  have hval : ∀ (j : Nat) t v, Tryz.f6.params[j]? = some t → args[j]? = some v → Value.okWide Tryz.prog W .any base t v := hval0
  have hW' := hW
  obtain ⟨p, q, hA0, hV, rfl, hfz, hnd⟩ := hW
  have hA : DataW.TrodAll enc Tryz.prog W 0 (fun _ => true) true Tryz.f6.params.toList args.toList ds p := hA0
  rw [Tryz.params6] at hA hval
  obtain ⟨v0, vs0, d0, ds0, p0, q0, hargs, rfl, rfl, h0, r0⟩ := trodAll_cons hA
  obtain ⟨v1, vs1, d1, ds1, p1, q1, rfl, rfl, rfl, h1, r1⟩ := trodAll_cons r0
  obtain ⟨v2, vs2, d2, ds2, p2, q2, rfl, rfl, rfl, h2, r2⟩ := trodAll_cons r1
  obtain ⟨v3, vs3, d3, ds3, p3, q3, rfl, rfl, rfl, h3, r3⟩ := trodAll_cons r2
  obtain ⟨rfl, rfl, rfl⟩ := trodAll_nil r3
  obtain rfl : args = #[v0, v1, v2, v3] := by cases args; simp_all
  obtain ⟨x0, y0, e0⟩ := open_strA Tryz.underlying9 (hval 0 9 v0 rfl rfl) h0
  obtain ⟨x1, y1, z1, e1⟩ := open_intsA Tryz.underlying22 Tryz.underlying3 sz3 (hval 1 22 v1 rfl rfl) h1
  obtain ⟨x2, y2, z2, e2⟩ := open_letsA Tryz.underlying39 Tryz.underlying83 ⟨rfl, rfl⟩ ⟨rfl, rfl⟩ ⟨rfl, rfl⟩ ⟨rfl, rfl⟩ ⟨rfl, rfl⟩ Tryz.underlying9 Tryz.underlying3 sz9 sz3 sz83 (hval 2 39 v2 rfl rfl) h2
  obtain ⟨x3, y3, z3, e3⟩ := open_setsA Tryz.underlying40 Tryz.underlying106 ⟨rfl, rfl⟩ ⟨rfl, rfl⟩ Tryz.underlying9 Tryz.underlying22 Tryz.underlying3 sz9 sz22 sz3 sz106 (hval 3 40 v3 rfl rfl) h3
  have hcall := (reads_law y0 z1 y1 z2 y2 z3 y3).use (w := W) (vs := [v0, v1, v2, v3]) ⟨e0, e1, e2, e3, trivial⟩
  exact law_post (tb := 4) (by kernel_rfl) (by kernel_rfl) (by kernel_rfl) Tryz.underlying4 rfl rfl hW' hcall
theorem over : Rows.regexReadsRow.holds Tryz.pinned (OpenSpec.ofChange Rows.regexReadsSpec) :=
  OpenClaim.holds_of_wide 6 Tryz.f6 rfl rfl rfl rfl rfl rfl rfl ⟨rfl, rfl, rfl, rfl, rfl⟩ rfl rfl rfl rfl rfl (by kernel_rfl) Tryz.func6 (by kernel_rfl)
    (of_decide_eq_true (by kernel_rfl)) (by unfold Func.isWrapper; first | (rw [if_pos (by decide +kernel)]; kernel_rfl) | (rw [if_neg (by decide +kernel)]; exact ⟨rfl, rfl⟩))
    (fun os started H enc _ => lifted os started H enc)
end regexReads
theorem regexReads_holds : Rows.RegexReadsSaid := regexReads.over
end Go.Proofs.YtgdehkimfmfofaaGreat

