/-
  Contract: the next token, as the reference finds it.
-/
import Derived.Test.YtgdehkimfmfofaaGreatJ35
import Derived.Test.YtgdehkimfmfofaaGreatJ29
import Derived.Test.YtgdehkimfmfofaaGreatJ21
import Derived.Test.YtgdehkimfmfofaaGreatJ22
set_option linter.unusedVariables false
set_option linter.unusedSimpArgs false
namespace Go.Proofs.YtgdehkimfmfofaaGreat
open Go.Am Go.Wb Go.Wc
set_option linter.unusedVariables false
set_option linter.unusedSimpArgs false
abbrev xO (S : List UInt8) (a : List Letter) (sets : List SetT) (k : Nat) (bad : Int) : List (Nat × Ob) := [(1000001, .box 79 [.v .pl (sbytes S), .v .pl (letters a), .v .pl (setsA sets), .v .pl (int k), .v .pl (int bad)])]
theorem fn97 : FnM3 Tryz.prog 97 Tryz.f97.ntmps 2 3 25 3 4 (Tryz.f97.body.getD .skip) := ⟨Tryz.f97, Tryz.func97, rfl, rfl, rfl, by kernel_rfl, ag25, sz25⟩
set_option maxRecDepth 100000 in
set_option maxHeartbeats 16000000 in
theorem token_call {S : List UInt8} {a : List Letter} {sets : List SetT} (hS : S.length ≤ 1024) (ha : validA a = true) (hset : sets.length ≤ 9223372036854775807) (hsy : ∀ x ∈ sets, x.syms.length ≤ 9223372036854775807) {k : Nat} {bad : Int} (hk : k ≤ S.length) :
    CallO Tryz.prog 97 [.pbox 1000001 0] (xO S a sets k bad) (.v .pl (.tup [.sc (.int .u8 (tkR a sets S k).1), rx (tkR a sets S k).2.1, int ((tkR a sets S k).2.2 : Int)])) (xO S a sets k bad) := by
  have hdr : (S.drop k).length = S.length - k := List.length_drop
  have hap := fun {i} (h : i < a.length) => text_pos ha h
  have hbd := fun i => bstR_bd (a := a) (t := S.drop k) i
  have hal := validA_bd ha
  have hcd : (((S.drop k).getD 0 default).toNat : Int) = (((S.drop k).getD (Int.toNat 0) 0).toNat : Int) := rfl
  have hce : ∀ e : Nat, (((S.drop k).getD e default).toNat : Int) = (((S.drop k).getD e 0).toNat : Int) := fun _ => rfl
  refine callO_of_codeM3 fn97 (Nat.le_of_ble_eq_true rfl) fun w0 M0 hM0 => ?_
  refine xC tb hM0 8 [0,3] [3,1000001] rfl ?_
  refine code_draw mixed (by kernel_rfl) _ rfl ?_
  refine dl_pure rfl rfl rfl (pure_move rfl rfl) ?_
  refine dl_pure rfl rfl rfl (pure_nilbox rfl rfl rfl) ?_
  refine dl_pure rfl rfl rfl (pure_field_box rfl fd79_0 rfl rfl) ?_
  refine dl_pure rfl rfl rfl (pure_load_box rfl ag9 rfl rfl rfl) ?_
  refine dl_pure rfl rfl rfl (pure_move rfl rfl) ?_
  refine dl_pure rfl rfl rfl (pure_nilbox rfl rfl rfl) ?_
  refine dl_pure rfl rfl rfl (pure_field_box rfl fd79_3 rfl rfl) ?_
  refine dl_pure rfl rfl rfl (pure_load_box rfl ag3 rfl rfl rfl) ?_
  refine dl_pure rfl rfl rfl (pure_sslice_l rfl Tryz.underlying9 rfl rfl (by omega)) ?_
  refine dl_pure rfl rfl rfl (pure_assign rfl rfl) ?_
  refine dl_nil ?_
  refine xD tb hM0 5 [0,3,5,21] [3,1000001] rfl ?_
  refine oP rfl (pure_seql rfl rfl rfl) ?_
  refine xA tb hM0 2 [0,3,5,22] [3,1000001] rfl ?_
  refine spC 22 rfl ?_ ?_ <;> intro h1 <;> try simp only [dq] at h1
  ·skip
   refine xA tb hM0 2 [3] [3,1000001] rfl ?_
   have hle : S.length ≤ k := by
     have q := congrArg List.length (show S.drop k = [] by assumption)
     rw [hdr, List.length_nil] at q
     omega
   refine xA tb hM0 1 [3] [3,1000001] rfl ?_
   refine oP rfl (pure_norm (pure_build rfl pl25 ze25 rfl rfl rfl) rfl) ?_
   refine xA tb hM0 7 [] [] rfl ?_
   refine endM3_ret (o1 := [(1000001, _)]) rfl rfl rfl ⟨rfl, trivial⟩ ?_
   rw [tkR_end (show S.length ≤ k by omega)]
   exact ⟨⟨rfl, rfl, rfl⟩, rfl⟩
  ·skip
   refine xA tb hM0 4 [0,3,5] [3,1000001] rfl ?_
   have hlt : k < S.length := Nat.lt_of_not_le fun q => (show ¬ S.drop k = [] by assumption) (List.drop_eq_nil_of_le q)
   refine xA tb hM0 11 [0,3,5,6,7] [3,1000001] rfl ?_
   refine lp (fun zm zs => ∃ i : Nat, zm = a.length - i ∧ (i ≤ a.length) ∧ zs = ⟨206, [(0, .pbox 1000001 0), (3, .pbox 3 0), (5, .v .pl (sbytes (S.drop k))), (6, .v .pl (int (bstR a (S.drop k) i))), (7, .v .pl (int i))], [(3, .box 25 [.v .pl (.sc (.int .i64 0)), .v .pl (.sc (.slice none 0 0)), .v .pl (.sc (.slice none 0 0))]), (1000001, .box 79 [.v .pl (sbytes S), .v .pl (letters a), .v .pl (setsA sets), .v .pl (int k), .v .pl (int bad)])]⟩) ?_ ?_
   ·exact ⟨_, 0, rfl, Nat.zero_le _, rfl⟩
   ·rintro zm zs ⟨i, rfl, hL1_0, rfl⟩
    have hb1 := hbd i
    have hb2 := hbd a.length
    refine xA tb hM0 8 [0,3,5,6,7,24,28] [3,1000001] rfl ?_
    refine oP rfl (pure_lenm rfl Tryz.underlying39 rfl) ?_
    refine xA tb hM0 3 [0,3,5,6,7,30] [3,1000001] rfl ?_
    refine spC 30 rfl ?_ ?_ <;> intro h2 <;> try simp only [dq] at h2
    ·skip
     refine xA tb hM0 6 [0,3,5,6,7] [3,1000001] rfl ?_
     refine code_draw mixed (by kernel_rfl) _ rfl ?_
     refine dl_pure rfl rfl rfl (pure_move rfl rfl) ?_
     refine dl_pure rfl rfl rfl (pure_move rfl rfl) ?_
     refine dl_pure rfl rfl rfl (pure_nilbox rfl rfl rfl) ?_
     refine dl_pure rfl rfl rfl (pure_field_box rfl fd79_1 rfl rfl) ?_
     refine dl_pure rfl rfl rfl (pure_load_box rfl ag39 rfl rfl rfl) ?_
     refine dl_pure rfl rfl rfl (pure_move rfl rfl) ?_
     refine dl_pure rfl rfl rfl (pure_ix rfl Tryz.underlying39 sz83 rfl rfl (by omega) (fun _ => rfl)) ?_
     refine dpk 206 [(0,_),(3,_),(5,_),(6,_),(7,_),(33,_),(39,_)] [(3,_),(1000001,_)] rfl rfl rfl ?_
     refine dl_pure rfl rfl rfl (pure_field rfl fd83_0 rfl) ?_
     refine dl_pure rfl rfl rfl (pure_load rfl ag9 rfl rfl) ?_
     refine dl_pure rfl rfl rfl (pure_call rfl rfl rfl (rbegins_call) hM0) ?_
     refine dl_pure rfl rfl rfl (pure_move rfl rfl) ?_
     refine dl_guard rfl (fun h3 => ?_) (fun h3 => ?_)
     ·have h3' := h3; try simp only [dq] at h3'
      refine dl_pure_g rfl rfl h3 rfl rfl (pure_move rfl rfl) ?_
      refine dl_pure_g rfl rfl h3 rfl rfl (pure_lss rfl rfl rfl) ?_
      refine dl_pure_g rfl rfl h3 rfl rfl (pure_move rfl rfl) ?_
      refine dpk 206 [(0,_),(3,_),(5,_),(6,_),(7,_),(43,_),(46,_)] [(3,_),(1000001,_)] rfl rfl rfl ?_
      refine dl_guard rfl (fun h4 => ?_) (fun h4 => ?_)
      ·have h4' := h4; try simp only [dq] at h4'
       refine dpk 206 [(0,_),(3,_),(5,_),(6,_),(7,_),(43,_),(46,_)] [(3,_),(1000001,_)] rfl rfl rfl ?_
       refine dl_skip_g rfl rfl h4 rfl rfl ?_
       refine dl_skip_g rfl rfl h4 rfl rfl ?_
       refine dl_skip_g rfl rfl h4 rfl rfl ?_
       refine dl_skip_g rfl rfl h4 rfl rfl ?_
       refine dl_skip_g rfl rfl h4 rfl rfl ?_
       refine dl_skip_g rfl rfl h4 rfl rfl ?_
       refine dl_skip_g rfl rfl h4 rfl rfl ?_
       refine dpk 206 [(0,_),(3,_),(5,_),(6,_),(7,_),(43,_),(46,_),(53,_)] [(3,_),(1000001,_)] rfl rfl rfl ?_
       refine dl_skip_g rfl rfl h4 rfl rfl ?_
       refine dl_skip_g rfl rfl h4 rfl rfl ?_
       refine dl_skip_g rfl rfl h4 rfl rfl ?_
       refine dl_skip_g rfl rfl h4 rfl rfl ?_
       refine dl_skip_g rfl rfl h4 rfl rfl ?_
       refine dl_skip_g rfl rfl h4 rfl rfl ?_
       refine dl_skip_g rfl rfl h4 rfl rfl ?_
       refine dpk 206 [(0,_),(3,_),(5,_),(6,_),(7,_),(43,_),(46,_),(55,_),(59,_),(60,_)] [(3,_),(1000001,_)] rfl rfl rfl ?_
       refine dl_skip_g rfl rfl h4 rfl rfl ?_
       refine dl_skip_g rfl rfl h4 rfl rfl ?_
       refine dl_skip_g rfl rfl h4 rfl rfl ?_
       refine dl_skip_g rfl rfl h4 rfl rfl ?_
       refine dl_skip_g rfl rfl h4 rfl rfl ?_
       refine dl_pure_g rfl rfl h3 rfl rfl (pure_pick_t rfl rfl h4 rfl) ?_
       refine dl_pure rfl rfl rfl (pure_pick_t rfl rfl h3 rfl) ?_
       refine dl_nil ?_
       refine xD tb hM0 10 [0,3,5,6,31] [3,1000001] rfl ?_
       refine oP rfl (pure_addi rfl rfl rfl (by omega)) ?_
       refine xA tb hM0 2 [0,3,5,6,7] [3,1000001] rfl ?_
       refine nx ?_
       first
         | exact ⟨_, ⟨i + 1, rfl, by omega, by rw [bstR_yes0 (by assumption) (hap (by omega)).1 (by omega)]; rfl⟩, by omega⟩
         | exact ⟨_, ⟨i + 1, rfl, by omega, by rw [bstR_yes (by assumption) (by omega) (by omega)]; rfl⟩, by omega⟩
         | exact ⟨_, ⟨i + 1, rfl, by omega, by rw [bstR_no (by assumption)]; rfl⟩, by omega⟩
         | exact ⟨_, ⟨i + 1, rfl, by omega, by rw [bstR_no2 (by omega) (by omega)]; rfl⟩, by omega⟩
      ·have h4' := h4; try simp only [dq] at h4'
       refine dpk 206 [(0,_),(3,_),(5,_),(6,_),(7,_),(43,_),(46,_)] [(3,_),(1000001,_)] rfl rfl rfl ?_
       refine dl_pure_g rfl rfl h4 rfl rfl (pure_move rfl rfl) ?_
       refine dl_pure_g rfl rfl h4 rfl rfl (pure_nilbox rfl rfl rfl) ?_
       refine dl_pure_g rfl rfl h4 rfl rfl (pure_field_box rfl fd79_1 rfl rfl) ?_
       refine dl_pure_g rfl rfl h4 rfl rfl (pure_load_box rfl ag39 rfl rfl rfl) ?_
       refine dl_pure_g rfl rfl h4 rfl rfl (pure_move rfl rfl) ?_
       refine dl_pure_g rfl rfl h4 rfl rfl (pure_ix rfl Tryz.underlying39 sz83 rfl rfl (by omega) (fun _ => rfl)) ?_
       refine dl_pure_g rfl rfl h4 rfl rfl (pure_field rfl fd83_0 rfl) ?_
       refine dpk 206 [(0,_),(3,_),(5,_),(6,_),(7,_),(43,_),(46,_),(53,_)] [(3,_),(1000001,_)] rfl rfl rfl ?_
       refine dl_pure_g rfl rfl h4 rfl rfl (pure_load rfl ag9 rfl rfl) ?_
       refine dl_pure_g rfl rfl h4 rfl rfl (pure_slen rfl Tryz.underlying9 rfl) ?_
       refine dl_pure_g rfl rfl h4 rfl rfl (pure_move rfl rfl) ?_
       refine dl_pure_g rfl rfl h4 rfl rfl (pure_nilbox rfl rfl rfl) ?_
       refine dl_pure_g rfl rfl h4 rfl rfl (pure_field_box rfl fd79_1 rfl rfl) ?_
       refine dl_pure_g rfl rfl h4 rfl rfl (pure_load_box rfl ag39 rfl rfl rfl) ?_
       refine dl_pure_g rfl rfl h4 rfl rfl (pure_move rfl rfl) ?_
       refine dpk 206 [(0,_),(3,_),(5,_),(6,_),(7,_),(43,_),(46,_),(55,_),(59,_),(60,_)] [(3,_),(1000001,_)] rfl rfl rfl ?_
       refine dl_pure_g rfl rfl h4 rfl rfl (pure_ix rfl Tryz.underlying39 sz83 rfl rfl (by omega) (fun _ => rfl)) ?_
       refine dl_pure_g rfl rfl h4 rfl rfl (pure_field rfl fd83_0 rfl) ?_
       refine dl_pure_g rfl rfl h4 rfl rfl (pure_load rfl ag9 rfl rfl) ?_
       refine dl_pure_g rfl rfl h4 rfl rfl (pure_slen rfl Tryz.underlying9 rfl) ?_
       refine dl_pure_g rfl rfl h4 rfl rfl (pure_gtr rfl rfl rfl) ?_
       refine dl_pure_g rfl rfl h3 rfl rfl (pure_pick_f rfl rfl h4 rfl) ?_
       refine dl_pure rfl rfl rfl (pure_pick_t rfl rfl h3 rfl) ?_
       refine dl_nil ?_
       refine xD tb hM0 1 [0,3,5,6,7,67] [3,1000001] rfl ?_
       refine spC 67 rfl ?_ ?_ <;> intro h5 <;> try simp only [dq] at h5
       ·skip
        refine xA tb hM0 9 [0,3,5,6,31] [3,1000001] rfl ?_
        refine oP rfl (pure_addi rfl rfl rfl (by omega)) ?_
        refine xA tb hM0 2 [0,3,5,6,7] [3,1000001] rfl ?_
        refine nx ?_
        first
          | exact ⟨_, ⟨i + 1, rfl, by omega, by rw [bstR_yes0 (by assumption) (hap (by omega)).1 (by omega)]; rfl⟩, by omega⟩
          | exact ⟨_, ⟨i + 1, rfl, by omega, by rw [bstR_yes (by assumption) (by omega) (by omega)]; rfl⟩, by omega⟩
          | exact ⟨_, ⟨i + 1, rfl, by omega, by rw [bstR_no (by assumption)]; rfl⟩, by omega⟩
          | exact ⟨_, ⟨i + 1, rfl, by omega, by rw [bstR_no2 (by omega) (by omega)]; rfl⟩, by omega⟩
       ·skip
        refine xA tb hM0 6 [0,3,5,6,31] [3,1000001] rfl ?_
        refine oP rfl (pure_addi rfl rfl rfl (by omega)) ?_
        refine xA tb hM0 2 [0,3,5,6,7] [3,1000001] rfl ?_
        refine nx ?_
        first
          | exact ⟨_, ⟨i + 1, rfl, by omega, by rw [bstR_yes0 (by assumption) (hap (by omega)).1 (by omega)]; rfl⟩, by omega⟩
          | exact ⟨_, ⟨i + 1, rfl, by omega, by rw [bstR_yes (by assumption) (by omega) (by omega)]; rfl⟩, by omega⟩
          | exact ⟨_, ⟨i + 1, rfl, by omega, by rw [bstR_no (by assumption)]; rfl⟩, by omega⟩
          | exact ⟨_, ⟨i + 1, rfl, by omega, by rw [bstR_no2 (by omega) (by omega)]; rfl⟩, by omega⟩
     ·have h3' := h3; try simp only [dq] at h3'
      refine dl_skip_g rfl rfl h3 rfl rfl ?_
      refine dl_skip_g rfl rfl h3 rfl rfl ?_
      refine dl_skip_g rfl rfl h3 rfl rfl ?_
      refine dpk 206 [(0,_),(3,_),(5,_),(6,_),(7,_),(43,_),(46,_)] [(3,_),(1000001,_)] rfl rfl rfl ?_
      refine dl_skip_u rfl rfl rfl ?_
      refine dl_skip_u rfl rfl rfl ?_
      refine dl_skip_u rfl rfl rfl ?_
      refine dl_skip_u rfl rfl rfl ?_
      refine dl_skip_u rfl rfl rfl ?_
      refine dl_skip_u rfl rfl rfl ?_
      refine dl_skip_u rfl rfl rfl ?_
      refine dpk 206 [(0,_),(3,_),(5,_),(6,_),(7,_),(43,_),(46,_),(53,_)] [(3,_),(1000001,_)] rfl rfl rfl ?_
      refine dl_skip_u rfl rfl rfl ?_
      refine dl_skip_u rfl rfl rfl ?_
      refine dl_skip_u rfl rfl rfl ?_
      refine dl_skip_u rfl rfl rfl ?_
      refine dl_skip_u rfl rfl rfl ?_
      refine dl_skip_u rfl rfl rfl ?_
      refine dl_skip_u rfl rfl rfl ?_
      refine dpk 206 [(0,_),(3,_),(5,_),(6,_),(7,_),(43,_),(46,_),(55,_),(59,_),(60,_)] [(3,_),(1000001,_)] rfl rfl rfl ?_
      refine dl_skip_u rfl rfl rfl ?_
      refine dl_skip_u rfl rfl rfl ?_
      refine dl_skip_u rfl rfl rfl ?_
      refine dl_skip_u rfl rfl rfl ?_
      refine dl_skip_u rfl rfl rfl ?_
      refine dl_skip_g rfl rfl h3 rfl rfl ?_
      refine dl_pure rfl rfl rfl (pure_pick_f rfl rfl h3 rfl) ?_
      refine dl_nil ?_
      refine xD tb hM0 7 [0,3,5,6,31] [3,1000001] rfl ?_
      refine oP rfl (pure_addi rfl rfl rfl (by omega)) ?_
      refine xA tb hM0 2 [0,3,5,6,7] [3,1000001] rfl ?_
      refine nx ?_
      first
        | exact ⟨_, ⟨i + 1, rfl, by omega, by rw [bstR_yes0 (by assumption) (hap (by omega)).1 (by omega)]; rfl⟩, by omega⟩
        | exact ⟨_, ⟨i + 1, rfl, by omega, by rw [bstR_yes (by assumption) (by omega) (by omega)]; rfl⟩, by omega⟩
        | exact ⟨_, ⟨i + 1, rfl, by omega, by rw [bstR_no (by assumption)]; rfl⟩, by omega⟩
        | exact ⟨_, ⟨i + 1, rfl, by omega, by rw [bstR_no2 (by omega) (by omega)]; rfl⟩, by omega⟩
    ·skip
     refine xA tb hM0 8 [0,3,5,6] [3,1000001] rfl ?_
     obtain rfl : i = a.length := by omega
     refine xA tb hM0 5 [0,3,5,6,70] [3,1000001] rfl ?_
     refine spC 70 rfl ?_ ?_ <;> intro h6 <;> try simp only [dq] at h6
     ·skip
      refine xA tb hM0 2 [0,3,6] [3,1000001] rfl ?_
      refine code_drawS (n := 206) (o2 := [(3, .box 25 [.v .pl (int ((Rx.mk 2 [(bstR a (S.drop k) a.length)] [])).kind), .v .pl (ints ((Rx.mk 2 [(bstR a (S.drop k) a.length)] [])).syms), .v .pl (.sl (Rx.avs ((Rx.mk 2 [(bstR a (S.drop k) a.length)] [])).kids))]), (1000001, .box 79 [.v .pl (sbytes S), .v .pl (letters a), .v .pl (setsA sets), .v .pl (int k), .v .pl (int bad)])]) 13 15 [(71, .v .pl (int (bstR a (S.drop k) a.length))), (72, .v .pl (ints [(bstR a (S.drop k) a.length)])), (73, .v .pl (rx (Rx.mk 2 [(bstR a (S.drop k) a.length)] []))), (74, .pbox 1000001 0), (75, .pbox 1000001 0), (76, .pbox 1000001 1), (77, .v .pl (letters a)), (78, .v .pl (int (bstR a (S.drop k) a.length))), (79, .v .pl (.pc [sbytes (a.getD (bstR a (S.drop k) a.length).toNat default).text, int (a.getD (bstR a (S.drop k) a.length).toNat default).base, int (a.getD (bstR a (S.drop k) a.length).toNat default).mark, int (a.getD (bstR a (S.drop k) a.length).toNat default).cap, int (a.getD (bstR a (S.drop k) a.length).toNat default).width] 0)), (80, .v .pl (.pc [sbytes (a.getD (bstR a (S.drop k) a.length).toNat default).text, int (a.getD (bstR a (S.drop k) a.length).toNat default).base, int (a.getD (bstR a (S.drop k) a.length).toNat default).mark, int (a.getD (bstR a (S.drop k) a.length).toNat default).cap, int (a.getD (bstR a (S.drop k) a.length).toNat default).width] 0)), (81, .v .pl (sbytes (a.getD (bstR a (S.drop k) a.length).toNat default).text)), (82, .v .pl (int (a.getD (bstR a (S.drop k) a.length).toNat default).text.length)), (2, .v .pl (.sc (.int .u8 97))), (4, .v .pl (int (a.getD (bstR a (S.drop k) a.length).toNat default).text.length)), (0, .pbox 1000001 0), (3, .pbox 3 0), (6, .v .pl (int (bstR a (S.drop k) a.length)))] mixed (by kernel_rfl) (by kernel_rfl) (by kernel_rfl) rfl (by kernel_rfl) (fun t d h => h) rfl ?_ ?_ ?_ ?_ ?_
      · intro i hi hia
        rcases (by omega : i = 0 ∨ i = 1 ∨ i = 2 ∨ i = 3 ∨ i = 4 ∨ i = 5 ∨ i = 6 ∨ i = 7 ∨ i = 8 ∨ i = 9 ∨ i = 10 ∨ i = 11 ∨ i = 12 ∨ i = 14) with rfl | rfl | rfl | rfl | rfl | rfl | rfl | rfl | rfl | rfl | rfl | rfl | rfl | rfl <;> exact ⟨_, _, rfl, rfl⟩
      · intro i o t d hi hia ho hd hG hn
        rcases (by omega : i = 0 ∨ i = 1 ∨ i = 2 ∨ i = 3 ∨ i = 4 ∨ i = 5 ∨ i = 6 ∨ i = 7 ∨ i = 8 ∨ i = 9 ∨ i = 10 ∨ i = 11 ∨ i = 12 ∨ i = 14) with rfl | rfl | rfl | rfl | rfl | rfl | rfl | rfl | rfl | rfl | rfl | rfl | rfl | rfl
        · injection (show some _ = some o from ho) with ho; subst ho; injection (show some _ = some t from hd) with hd; subst hd; injection (show some _ = some d from hG) with hG; subst hG
          exact (pure_move rfl rfl)
        · injection (show some _ = some o from ho) with ho; subst ho; injection (show some _ = some t from hd) with hd; subst hd; injection (show some _ = some d from hG) with hG; subst hG
          exact (pure_lit rfl Tryz.underlying22 el3 rfl rfl rfl rfl hM0)
        · injection (show some _ = some o from ho) with ho; subst ho; injection (show some _ = some t from hd) with hd; subst hd; injection (show some _ = some d from hG) with hG; subst hG
          exact (pure_callN rfl rfl rfl rfl (one_call [(bstR a (S.drop k) a.length)]) hM0)
        · injection (show some _ = some o from ho) with ho; subst ho; injection (show some _ = some t from hd) with hd; subst hd; injection (show some _ = some d from hG) with hG; subst hG
          exact (pure_move rfl rfl)
        · injection (show some _ = some o from ho) with ho; subst ho; injection (show some _ = some t from hd) with hd; subst hd; injection (show some _ = some d from hG) with hG; subst hG
          exact (pure_nilbox rfl rfl rfl)
        · injection (show some _ = some o from ho) with ho; subst ho; injection (show some _ = some t from hd) with hd; subst hd; injection (show some _ = some d from hG) with hG; subst hG
          exact (pure_field_box rfl fd79_1 rfl rfl)
        · injection (show some _ = some o from ho) with ho; subst ho; injection (show some _ = some t from hd) with hd; subst hd; injection (show some _ = some d from hG) with hG; subst hG
          exact (pure_load_box rfl ag39 rfl rfl rfl)
        · injection (show some _ = some o from ho) with ho; subst ho; injection (show some _ = some t from hd) with hd; subst hd; injection (show some _ = some d from hG) with hG; subst hG
          exact (pure_move rfl rfl)
        · injection (show some _ = some o from ho) with ho; subst ho; injection (show some _ = some t from hd) with hd; subst hd; injection (show some _ = some d from hG) with hG; subst hG
          exact pure_ix (f := letter) (l := a) rfl Tryz.underlying39 sz83 rfl rfl (by omega) (fun _ => rfl)
        · injection (show some _ = some o from ho) with ho; subst ho; injection (show some _ = some t from hd) with hd; subst hd; injection (show some _ = some d from hG) with hG; subst hG
          exact (pure_field rfl fd83_0 rfl)
        · injection (show some _ = some o from ho) with ho; subst ho; injection (show some _ = some t from hd) with hd; subst hd; injection (show some _ = some d from hG) with hG; subst hG
          exact (pure_load rfl ag9 rfl rfl)
        · injection (show some _ = some o from ho) with ho; subst ho; injection (show some _ = some t from hd) with hd; subst hd; injection (show some _ = some d from hG) with hG; subst hG
          exact (pure_slen rfl Tryz.underlying9 rfl)
        · injection (show some _ = some o from ho) with ho; subst ho; injection (show some _ = some t from hd) with hd; subst hd; injection (show some _ = some d from hG) with hG; subst hG
          exact (pure_assign rfl rfl)
        · exact absurd hn (by decide)
      · intro i o t d hi hia ho hd hG hn
        rcases (by omega : i = 0 ∨ i = 1 ∨ i = 2 ∨ i = 3 ∨ i = 4 ∨ i = 5 ∨ i = 6 ∨ i = 7 ∨ i = 8 ∨ i = 9 ∨ i = 10 ∨ i = 11 ∨ i = 12 ∨ i = 14) with rfl | rfl | rfl | rfl | rfl | rfl | rfl | rfl | rfl | rfl | rfl | rfl | rfl | rfl
        · exact absurd hn (by decide)
        · exact absurd hn (by decide)
        · exact absurd hn (by decide)
        · injection (show some _ = some o from ho) with ho; subst ho; injection (show some _ = some t from hd) with hd; subst hd; injection (show some _ = some d from hG) with hG; subst hG
          exact (pure_move rfl rfl)
        · injection (show some _ = some o from ho) with ho; subst ho; injection (show some _ = some t from hd) with hd; subst hd; injection (show some _ = some d from hG) with hG; subst hG
          exact (pure_nilbox rfl rfl rfl)
        · injection (show some _ = some o from ho) with ho; subst ho; injection (show some _ = some t from hd) with hd; subst hd; injection (show some _ = some d from hG) with hG; subst hG
          exact (pure_field_box rfl fd79_1 rfl rfl)
        · injection (show some _ = some o from ho) with ho; subst ho; injection (show some _ = some t from hd) with hd; subst hd; injection (show some _ = some d from hG) with hG; subst hG
          exact (pure_load_box rfl ag39 rfl rfl rfl)
        · injection (show some _ = some o from ho) with ho; subst ho; injection (show some _ = some t from hd) with hd; subst hd; injection (show some _ = some d from hG) with hG; subst hG
          exact (pure_move rfl rfl)
        · injection (show some _ = some o from ho) with ho; subst ho; injection (show some _ = some t from hd) with hd; subst hd; injection (show some _ = some d from hG) with hG; subst hG
          exact pure_ix (f := letter) (l := a) rfl Tryz.underlying39 sz83 rfl rfl (by omega) (fun _ => rfl)
        · injection (show some _ = some o from ho) with ho; subst ho; injection (show some _ = some t from hd) with hd; subst hd; injection (show some _ = some d from hG) with hG; subst hG
          exact (pure_field rfl fd83_0 rfl)
        · injection (show some _ = some o from ho) with ho; subst ho; injection (show some _ = some t from hd) with hd; subst hd; injection (show some _ = some d from hG) with hG; subst hG
          exact (pure_load rfl ag9 rfl rfl)
        · injection (show some _ = some o from ho) with ho; subst ho; injection (show some _ = some t from hd) with hd; subst hd; injection (show some _ = some d from hG) with hG; subst hG
          exact (pure_slen rfl Tryz.underlying9 rfl)
        · exact absurd hn (by decide)
        · injection (show some _ = some o from ho) with ho; subst ho; injection (show some _ = some t from hd) with hd; subst hd; injection (show some _ = some d from hG) with hG; subst hG
          exact (pure_assign rfl rfl)
      · intro o X ho hXn hXG hXr
        have hXu : 3 ∈ looks _ o → X.lookup 3 = some (.pbox 3 0) := fun h => (hXr 3 h).trans rfl
        have hXv : 73 ∈ looks _ o → X.lookup 73 = some (.v .pl (rx (Rx.mk 2 [(bstR a (S.drop k) a.length)] []))) := fun h => (hXr 73 h).trans rfl
        injection (show some _ = some o from ho) with ho'
        exact step_storeD (u := 3) (v := 73) (id := 3) (by rw [← ho']; rfl) (by rw [← ho']; rfl) hXn sz25 (hXu (by rw [← ho']; decide)) rfl (hXv (by rw [← ho']; decide)) rfl (by decide) rfl rfl (fun t d h => all_stays0 (by rfl) (hXG t d h)) rfl hM0
      refine endL_of (n := 0) (by kernel_rfl) ?_
      refine ex_end (by kernel_rfl) ?_
      refine xD tb hM0 3 [] [] rfl ?_
      refine endM3_ret (o1 := [(1000001, _)]) rfl rfl rfl ⟨rfl, trivial⟩ ?_
      rw [tk_letter (a := a) (sets := sets) hlt (by omega)]
      exact ⟨⟨rfl, rfl, rfl⟩, rfl⟩
     ·skip
      refine xA tb hM0 7 [0,3,5,83] [3,1000001] rfl ?_
      refine oP rfl (pure_sindex rfl Tryz.underlying9 rfl rfl (by omega)) ?_
      refine oP rfl (pure_eql rfl rfl rfl) ?_
      refine xA tb hM0 1 [0,3,5,86] [3,1000001] rfl ?_
      refine spO 86 rfl ?_ ?_ <;> intro h7' <;> try simp only [dq] at h7'
      ·skip
       refine xA tb hM0 25 [3,106] [3,1000001] rfl ?_
       refine oP rfl (pure_sindex rfl Tryz.underlying9 rfl rfl (by omega)) ?_
       refine oP rfl (pure_norm (pure_build rfl pl25 ze25 rfl rfl rfl) rfl) ?_
       refine xA tb hM0 7 [] [] rfl ?_
       refine endM3_ret (o1 := [(1000001, _)]) rfl rfl rfl ⟨rfl, trivial⟩ ?_
       first
         | (rw [tkR_end (show S.length ≤ k by omega)]; exact ⟨⟨rfl, rfl, rfl⟩, rfl⟩)
         | (rw [tk_letter (a := a) hlt (by omega)]; exact ⟨⟨rfl, rfl, rfl⟩, rfl⟩)
         | (rw [tk_mark (a := a) hlt (by omega) (by omega)]; exact ⟨⟨rfl, rfl, rfl⟩, rfl⟩)
         | (rw [tk_minus (a := a) hlt (by omega) (by omega)]; exact ⟨⟨rfl, rfl, rfl⟩, rfl⟩)
         | (rw [tk_hash (a := a) hlt (by omega) (by omega)]; exact ⟨⟨rfl, rfl, rfl⟩, rfl⟩)
         | (rw [tk_dot (a := a) hlt (by omega) (by omega)]; exact ⟨⟨rfl, rfl, rfl⟩, rfl⟩)
         | (have hmk : noMk (((S.drop k).getD 0 default).toNat : Int) := ⟨by omega, by omega, by omega, by omega, by omega, by omega, by omega, by omega⟩
            first
              | (rw [tk_no (a := a) (sets := sets) hlt (by omega) hmk hL3_0 (by omega)]; exact ⟨⟨rfl, rfl, rfl⟩, rfl⟩)
              | (rw [tk_brace (a := a) (sets := sets) hlt (by omega) hmk hL3_0 (by omega) (by omega) (by omega) (by omega)]; exact ⟨⟨rfl, rfl, rfl⟩, rfl⟩)
              | (rw [tk_noset (a := a) (sets := sets) hlt (by omega) hmk hL3_0 (by omega) (by omega) (by omega) (by omega) (fun j hj => hL4_1 j (by omega))]; exact ⟨⟨rfl, rfl, rfl⟩, rfl⟩)
              | (rw [tk_set (a := a) (sets := sets) hlt (by omega) hmk hL3_0 (by omega) (by omega) (by omega) (by omega) (i := i) (by omega) hL4_1 (by assumption), if_pos (by assumption)]; exact ⟨⟨rfl, rfl, rfl⟩, rfl⟩)
              | (rw [tk_set (a := a) (sets := sets) hlt (by omega) hmk hL3_0 (by omega) (by omega) (by omega) (by omega) (i := i) (by omega) hL4_1 (by assumption), if_neg (fun q => by rw [show setOk (sets.getD i default).syms = false by assumption] at q; exact absurd q (by decide))]; exact ⟨⟨rfl, rfl, rfl⟩, rfl⟩))
      ·skip
       refine xA tb hM0 1 [0,3,5,86,87] [3,1000001] rfl ?_
       refine oP rfl (pure_sindex rfl Tryz.underlying9 rfl rfl (by omega)) ?_
       refine oP rfl (pure_eql rfl rfl rfl) ?_
       refine xA tb hM0 2 [0,3,5,91] [3,1000001] rfl ?_
       refine spO 91 rfl ?_ ?_ <;> intro h8' <;> try simp only [dq] at h8'
       ·skip
        refine xA tb hM0 20 [3,106] [3,1000001] rfl ?_
        refine oP rfl (pure_sindex rfl Tryz.underlying9 rfl rfl (by omega)) ?_
        refine oP rfl (pure_norm (pure_build rfl pl25 ze25 rfl rfl rfl) rfl) ?_
        refine xA tb hM0 7 [] [] rfl ?_
        refine endM3_ret (o1 := [(1000001, _)]) rfl rfl rfl ⟨rfl, trivial⟩ ?_
        first
          | (rw [tkR_end (show S.length ≤ k by omega)]; exact ⟨⟨rfl, rfl, rfl⟩, rfl⟩)
          | (rw [tk_letter (a := a) hlt (by omega)]; exact ⟨⟨rfl, rfl, rfl⟩, rfl⟩)
          | (rw [tk_mark (a := a) hlt (by omega) (by omega)]; exact ⟨⟨rfl, rfl, rfl⟩, rfl⟩)
          | (rw [tk_minus (a := a) hlt (by omega) (by omega)]; exact ⟨⟨rfl, rfl, rfl⟩, rfl⟩)
          | (rw [tk_hash (a := a) hlt (by omega) (by omega)]; exact ⟨⟨rfl, rfl, rfl⟩, rfl⟩)
          | (rw [tk_dot (a := a) hlt (by omega) (by omega)]; exact ⟨⟨rfl, rfl, rfl⟩, rfl⟩)
          | (have hmk : noMk (((S.drop k).getD 0 default).toNat : Int) := ⟨by omega, by omega, by omega, by omega, by omega, by omega, by omega, by omega⟩
             first
               | (rw [tk_no (a := a) (sets := sets) hlt (by omega) hmk hL3_0 (by omega)]; exact ⟨⟨rfl, rfl, rfl⟩, rfl⟩)
               | (rw [tk_brace (a := a) (sets := sets) hlt (by omega) hmk hL3_0 (by omega) (by omega) (by omega) (by omega)]; exact ⟨⟨rfl, rfl, rfl⟩, rfl⟩)
               | (rw [tk_noset (a := a) (sets := sets) hlt (by omega) hmk hL3_0 (by omega) (by omega) (by omega) (by omega) (fun j hj => hL4_1 j (by omega))]; exact ⟨⟨rfl, rfl, rfl⟩, rfl⟩)
               | (rw [tk_set (a := a) (sets := sets) hlt (by omega) hmk hL3_0 (by omega) (by omega) (by omega) (by omega) (i := i) (by omega) hL4_1 (by assumption), if_pos (by assumption)]; exact ⟨⟨rfl, rfl, rfl⟩, rfl⟩)
               | (rw [tk_set (a := a) (sets := sets) hlt (by omega) hmk hL3_0 (by omega) (by omega) (by omega) (by omega) (i := i) (by omega) hL4_1 (by assumption), if_neg (fun q => by rw [show setOk (sets.getD i default).syms = false by assumption] at q; exact absurd q (by decide))]; exact ⟨⟨rfl, rfl, rfl⟩, rfl⟩))
       ·skip
        refine xA tb hM0 1 [0,3,5,91,92] [3,1000001] rfl ?_
        refine oP rfl (pure_sindex rfl Tryz.underlying9 rfl rfl (by omega)) ?_
        refine oP rfl (pure_eql rfl rfl rfl) ?_
        refine xA tb hM0 2 [0,3,5,96] [3,1000001] rfl ?_
        refine spO 96 rfl ?_ ?_ <;> intro h9' <;> try simp only [dq] at h9'
        ·skip
         refine xA tb hM0 15 [3,106] [3,1000001] rfl ?_
         refine oP rfl (pure_sindex rfl Tryz.underlying9 rfl rfl (by omega)) ?_
         refine oP rfl (pure_norm (pure_build rfl pl25 ze25 rfl rfl rfl) rfl) ?_
         refine xA tb hM0 7 [] [] rfl ?_
         refine endM3_ret (o1 := [(1000001, _)]) rfl rfl rfl ⟨rfl, trivial⟩ ?_
         first
           | (rw [tkR_end (show S.length ≤ k by omega)]; exact ⟨⟨rfl, rfl, rfl⟩, rfl⟩)
           | (rw [tk_letter (a := a) hlt (by omega)]; exact ⟨⟨rfl, rfl, rfl⟩, rfl⟩)
           | (rw [tk_mark (a := a) hlt (by omega) (by omega)]; exact ⟨⟨rfl, rfl, rfl⟩, rfl⟩)
           | (rw [tk_minus (a := a) hlt (by omega) (by omega)]; exact ⟨⟨rfl, rfl, rfl⟩, rfl⟩)
           | (rw [tk_hash (a := a) hlt (by omega) (by omega)]; exact ⟨⟨rfl, rfl, rfl⟩, rfl⟩)
           | (rw [tk_dot (a := a) hlt (by omega) (by omega)]; exact ⟨⟨rfl, rfl, rfl⟩, rfl⟩)
           | (have hmk : noMk (((S.drop k).getD 0 default).toNat : Int) := ⟨by omega, by omega, by omega, by omega, by omega, by omega, by omega, by omega⟩
              first
                | (rw [tk_no (a := a) (sets := sets) hlt (by omega) hmk hL3_0 (by omega)]; exact ⟨⟨rfl, rfl, rfl⟩, rfl⟩)
                | (rw [tk_brace (a := a) (sets := sets) hlt (by omega) hmk hL3_0 (by omega) (by omega) (by omega) (by omega)]; exact ⟨⟨rfl, rfl, rfl⟩, rfl⟩)
                | (rw [tk_noset (a := a) (sets := sets) hlt (by omega) hmk hL3_0 (by omega) (by omega) (by omega) (by omega) (fun j hj => hL4_1 j (by omega))]; exact ⟨⟨rfl, rfl, rfl⟩, rfl⟩)
                | (rw [tk_set (a := a) (sets := sets) hlt (by omega) hmk hL3_0 (by omega) (by omega) (by omega) (by omega) (i := i) (by omega) hL4_1 (by assumption), if_pos (by assumption)]; exact ⟨⟨rfl, rfl, rfl⟩, rfl⟩)
                | (rw [tk_set (a := a) (sets := sets) hlt (by omega) hmk hL3_0 (by omega) (by omega) (by omega) (by omega) (i := i) (by omega) hL4_1 (by assumption), if_neg (fun q => by rw [show setOk (sets.getD i default).syms = false by assumption] at q; exact absurd q (by decide))]; exact ⟨⟨rfl, rfl, rfl⟩, rfl⟩))
        ·skip
         refine xA tb hM0 1 [0,3,5,96,97] [3,1000001] rfl ?_
         refine oP rfl (pure_sindex rfl Tryz.underlying9 rfl rfl (by omega)) ?_
         refine oP rfl (pure_eql rfl rfl rfl) ?_
         refine xA tb hM0 2 [0,3,5,101] [3,1000001] rfl ?_
         refine spO 101 rfl ?_ ?_ <;> intro h10' <;> try simp only [dq] at h10'
         ·skip
          refine xA tb hM0 10 [3,106] [3,1000001] rfl ?_
          refine oP rfl (pure_sindex rfl Tryz.underlying9 rfl rfl (by omega)) ?_
          refine oP rfl (pure_norm (pure_build rfl pl25 ze25 rfl rfl rfl) rfl) ?_
          refine xA tb hM0 7 [] [] rfl ?_
          refine endM3_ret (o1 := [(1000001, _)]) rfl rfl rfl ⟨rfl, trivial⟩ ?_
          first
            | (rw [tkR_end (show S.length ≤ k by omega)]; exact ⟨⟨rfl, rfl, rfl⟩, rfl⟩)
            | (rw [tk_letter (a := a) hlt (by omega)]; exact ⟨⟨rfl, rfl, rfl⟩, rfl⟩)
            | (rw [tk_mark (a := a) hlt (by omega) (by omega)]; exact ⟨⟨rfl, rfl, rfl⟩, rfl⟩)
            | (rw [tk_minus (a := a) hlt (by omega) (by omega)]; exact ⟨⟨rfl, rfl, rfl⟩, rfl⟩)
            | (rw [tk_hash (a := a) hlt (by omega) (by omega)]; exact ⟨⟨rfl, rfl, rfl⟩, rfl⟩)
            | (rw [tk_dot (a := a) hlt (by omega) (by omega)]; exact ⟨⟨rfl, rfl, rfl⟩, rfl⟩)
            | (have hmk : noMk (((S.drop k).getD 0 default).toNat : Int) := ⟨by omega, by omega, by omega, by omega, by omega, by omega, by omega, by omega⟩
               first
                 | (rw [tk_no (a := a) (sets := sets) hlt (by omega) hmk hL3_0 (by omega)]; exact ⟨⟨rfl, rfl, rfl⟩, rfl⟩)
                 | (rw [tk_brace (a := a) (sets := sets) hlt (by omega) hmk hL3_0 (by omega) (by omega) (by omega) (by omega)]; exact ⟨⟨rfl, rfl, rfl⟩, rfl⟩)
                 | (rw [tk_noset (a := a) (sets := sets) hlt (by omega) hmk hL3_0 (by omega) (by omega) (by omega) (by omega) (fun j hj => hL4_1 j (by omega))]; exact ⟨⟨rfl, rfl, rfl⟩, rfl⟩)
                 | (rw [tk_set (a := a) (sets := sets) hlt (by omega) hmk hL3_0 (by omega) (by omega) (by omega) (by omega) (i := i) (by omega) hL4_1 (by assumption), if_pos (by assumption)]; exact ⟨⟨rfl, rfl, rfl⟩, rfl⟩)
                 | (rw [tk_set (a := a) (sets := sets) hlt (by omega) hmk hL3_0 (by omega) (by omega) (by omega) (by omega) (i := i) (by omega) hL4_1 (by assumption), if_neg (fun q => by rw [show setOk (sets.getD i default).syms = false by assumption] at q; exact absurd q (by decide))]; exact ⟨⟨rfl, rfl, rfl⟩, rfl⟩))
         ·skip
          refine xA tb hM0 1 [0,3,5,101,102] [3,1000001] rfl ?_
          refine oP rfl (pure_sindex rfl Tryz.underlying9 rfl rfl (by omega)) ?_
          refine oP rfl (pure_eql rfl rfl rfl) ?_
          refine xA tb hM0 3 [0,3,5,105] [3,1000001] rfl ?_
          refine spC 105 rfl ?_ ?_ <;> intro h11 <;> try simp only [dq] at h11
          ·skip
           refine xA tb hM0 4 [3,106] [3,1000001] rfl ?_
           refine oP rfl (pure_sindex rfl Tryz.underlying9 rfl rfl (by omega)) ?_
           refine oP rfl (pure_norm (pure_build rfl pl25 ze25 rfl rfl rfl) rfl) ?_
           refine xA tb hM0 7 [] [] rfl ?_
           refine endM3_ret (o1 := [(1000001, _)]) rfl rfl rfl ⟨rfl, trivial⟩ ?_
           first
             | (rw [tkR_end (show S.length ≤ k by omega)]; exact ⟨⟨rfl, rfl, rfl⟩, rfl⟩)
             | (rw [tk_letter (a := a) hlt (by omega)]; exact ⟨⟨rfl, rfl, rfl⟩, rfl⟩)
             | (rw [tk_mark (a := a) hlt (by omega) (by omega)]; exact ⟨⟨rfl, rfl, rfl⟩, rfl⟩)
             | (rw [tk_minus (a := a) hlt (by omega) (by omega)]; exact ⟨⟨rfl, rfl, rfl⟩, rfl⟩)
             | (rw [tk_hash (a := a) hlt (by omega) (by omega)]; exact ⟨⟨rfl, rfl, rfl⟩, rfl⟩)
             | (rw [tk_dot (a := a) hlt (by omega) (by omega)]; exact ⟨⟨rfl, rfl, rfl⟩, rfl⟩)
             | (have hmk : noMk (((S.drop k).getD 0 default).toNat : Int) := ⟨by omega, by omega, by omega, by omega, by omega, by omega, by omega, by omega⟩
                first
                  | (rw [tk_no (a := a) (sets := sets) hlt (by omega) hmk hL3_0 (by omega)]; exact ⟨⟨rfl, rfl, rfl⟩, rfl⟩)
                  | (rw [tk_brace (a := a) (sets := sets) hlt (by omega) hmk hL3_0 (by omega) (by omega) (by omega) (by omega)]; exact ⟨⟨rfl, rfl, rfl⟩, rfl⟩)
                  | (rw [tk_noset (a := a) (sets := sets) hlt (by omega) hmk hL3_0 (by omega) (by omega) (by omega) (by omega) (fun j hj => hL4_1 j (by omega))]; exact ⟨⟨rfl, rfl, rfl⟩, rfl⟩)
                  | (rw [tk_set (a := a) (sets := sets) hlt (by omega) hmk hL3_0 (by omega) (by omega) (by omega) (by omega) (i := i) (by omega) hL4_1 (by assumption), if_pos (by assumption)]; exact ⟨⟨rfl, rfl, rfl⟩, rfl⟩)
                  | (rw [tk_set (a := a) (sets := sets) hlt (by omega) hmk hL3_0 (by omega) (by omega) (by omega) (by omega) (i := i) (by omega) hL4_1 (by assumption), if_neg (fun q => by rw [show setOk (sets.getD i default).syms = false by assumption] at q; exact absurd q (by decide))]; exact ⟨⟨rfl, rfl, rfl⟩, rfl⟩))
          ·skip
           refine xA tb hM0 7 [0,3,5,109] [3,1000001] rfl ?_
           refine oP rfl (pure_sindex rfl Tryz.underlying9 rfl rfl (by omega)) ?_
           refine oP rfl (pure_eql rfl rfl rfl) ?_
           refine xA tb hM0 2 [0,3,5,111] [3,1000001] rfl ?_
           refine spC 111 rfl ?_ ?_ <;> intro h12 <;> try simp only [dq] at h12
           ·skip
            refine xA tb hM0 3 [3] [3,1000001] rfl ?_
            refine oP rfl (pure_lit rfl Tryz.underlying22 el3 rfl rfl rfl rfl hM0) ?_
            refine oP rfl (pure_callN rfl rfl rfl rfl (one_call [63]) hM0) ?_
            refine xA tb hM0 7 [] [] rfl ?_
            refine endM3_ret (o1 := [(1000001, _)]) rfl rfl rfl ⟨rfl, trivial⟩ ?_
            first
              | (rw [tkR_end (show S.length ≤ k by omega)]; exact ⟨⟨rfl, rfl, rfl⟩, rfl⟩)
              | (rw [tk_letter (a := a) hlt (by omega)]; exact ⟨⟨rfl, rfl, rfl⟩, rfl⟩)
              | (rw [tk_mark (a := a) hlt (by omega) (by omega)]; exact ⟨⟨rfl, rfl, rfl⟩, rfl⟩)
              | (rw [tk_minus (a := a) hlt (by omega) (by omega)]; exact ⟨⟨rfl, rfl, rfl⟩, rfl⟩)
              | (rw [tk_hash (a := a) hlt (by omega) (by omega)]; exact ⟨⟨rfl, rfl, rfl⟩, rfl⟩)
              | (rw [tk_dot (a := a) hlt (by omega) (by omega)]; exact ⟨⟨rfl, rfl, rfl⟩, rfl⟩)
              | (have hmk : noMk (((S.drop k).getD 0 default).toNat : Int) := ⟨by omega, by omega, by omega, by omega, by omega, by omega, by omega, by omega⟩
                 first
                   | (rw [tk_no (a := a) (sets := sets) hlt (by omega) hmk hL3_0 (by omega)]; exact ⟨⟨rfl, rfl, rfl⟩, rfl⟩)
                   | (rw [tk_brace (a := a) (sets := sets) hlt (by omega) hmk hL3_0 (by omega) (by omega) (by omega) (by omega)]; exact ⟨⟨rfl, rfl, rfl⟩, rfl⟩)
                   | (rw [tk_noset (a := a) (sets := sets) hlt (by omega) hmk hL3_0 (by omega) (by omega) (by omega) (by omega) (fun j hj => hL4_1 j (by omega))]; exact ⟨⟨rfl, rfl, rfl⟩, rfl⟩)
                   | (rw [tk_set (a := a) (sets := sets) hlt (by omega) hmk hL3_0 (by omega) (by omega) (by omega) (by omega) (i := i) (by omega) hL4_1 (by assumption), if_pos (by assumption)]; exact ⟨⟨rfl, rfl, rfl⟩, rfl⟩)
                   | (rw [tk_set (a := a) (sets := sets) hlt (by omega) hmk hL3_0 (by omega) (by omega) (by omega) (by omega) (i := i) (by omega) hL4_1 (by assumption), if_neg (fun q => by rw [show setOk (sets.getD i default).syms = false by assumption] at q; exact absurd q (by decide))]; exact ⟨⟨rfl, rfl, rfl⟩, rfl⟩))
           ·skip
            refine xA tb hM0 7 [0,3,5,114] [3,1000001] rfl ?_
            refine oP rfl (pure_sindex rfl Tryz.underlying9 rfl rfl (by omega)) ?_
            refine oP rfl (pure_eql rfl rfl rfl) ?_
            refine xA tb hM0 2 [0,3,5,116] [3,1000001] rfl ?_
            refine spC 116 rfl ?_ ?_ <;> intro h13 <;> try simp only [dq] at h13
            ·skip
             refine xA tb hM0 3 [3] [3,1000001] rfl ?_
             refine oP rfl (pure_lit rfl Tryz.underlying22 el3 rfl rfl rfl rfl hM0) ?_
             refine oP rfl (pure_callN rfl rfl rfl rfl (one_call [62]) hM0) ?_
             refine xA tb hM0 7 [] [] rfl ?_
             refine endM3_ret (o1 := [(1000001, _)]) rfl rfl rfl ⟨rfl, trivial⟩ ?_
             first
               | (rw [tkR_end (show S.length ≤ k by omega)]; exact ⟨⟨rfl, rfl, rfl⟩, rfl⟩)
               | (rw [tk_letter (a := a) hlt (by omega)]; exact ⟨⟨rfl, rfl, rfl⟩, rfl⟩)
               | (rw [tk_mark (a := a) hlt (by omega) (by omega)]; exact ⟨⟨rfl, rfl, rfl⟩, rfl⟩)
               | (rw [tk_minus (a := a) hlt (by omega) (by omega)]; exact ⟨⟨rfl, rfl, rfl⟩, rfl⟩)
               | (rw [tk_hash (a := a) hlt (by omega) (by omega)]; exact ⟨⟨rfl, rfl, rfl⟩, rfl⟩)
               | (rw [tk_dot (a := a) hlt (by omega) (by omega)]; exact ⟨⟨rfl, rfl, rfl⟩, rfl⟩)
               | (have hmk : noMk (((S.drop k).getD 0 default).toNat : Int) := ⟨by omega, by omega, by omega, by omega, by omega, by omega, by omega, by omega⟩
                  first
                    | (rw [tk_no (a := a) (sets := sets) hlt (by omega) hmk hL3_0 (by omega)]; exact ⟨⟨rfl, rfl, rfl⟩, rfl⟩)
                    | (rw [tk_brace (a := a) (sets := sets) hlt (by omega) hmk hL3_0 (by omega) (by omega) (by omega) (by omega)]; exact ⟨⟨rfl, rfl, rfl⟩, rfl⟩)
                    | (rw [tk_noset (a := a) (sets := sets) hlt (by omega) hmk hL3_0 (by omega) (by omega) (by omega) (by omega) (fun j hj => hL4_1 j (by omega))]; exact ⟨⟨rfl, rfl, rfl⟩, rfl⟩)
                    | (rw [tk_set (a := a) (sets := sets) hlt (by omega) hmk hL3_0 (by omega) (by omega) (by omega) (by omega) (i := i) (by omega) hL4_1 (by assumption), if_pos (by assumption)]; exact ⟨⟨rfl, rfl, rfl⟩, rfl⟩)
                    | (rw [tk_set (a := a) (sets := sets) hlt (by omega) hmk hL3_0 (by omega) (by omega) (by omega) (by omega) (i := i) (by omega) hL4_1 (by assumption), if_neg (fun q => by rw [show setOk (sets.getD i default).syms = false by assumption] at q; exact absurd q (by decide))]; exact ⟨⟨rfl, rfl, rfl⟩, rfl⟩))
            ·skip
             refine xA tb hM0 7 [0,3,5,119] [3,1000001] rfl ?_
             refine oP rfl (pure_sindex rfl Tryz.underlying9 rfl rfl (by omega)) ?_
             refine oP rfl (pure_eql rfl rfl rfl) ?_
             refine xA tb hM0 2 [0,3,5,121] [3,1000001] rfl ?_
             refine spC 121 rfl ?_ ?_ <;> intro h14 <;> try simp only [dq] at h14
             ·skip
              refine xA tb hM0 3 [0,3] [3,1000001] rfl ?_
              refine oS rfl (step_nil rfl rfl rfl rfl rfl 3 hM0) rfl ?_
              refine xA tb hM0 9 [0,3,8,9] [3,8,1000001] rfl ?_
              refine lp (fun zm zs => ∃ i : Nat, zm = a.length - i ∧ (i ≤ a.length) ∧ zs = ⟨206, [(0, .pbox 1000001 0), (3, .pbox 3 0), (8, .own 8), (9, .v .pl (int i))], [(3, .box 25 [.v .pl (.sc (.int .i64 0)), .v .pl (.sc (.slice none 0 0)), .v .pl (.sc (.slice none 0 0))]), (8, .arr 3 (((List.range i).map fun (q : Nat) => (q : Int)).map int)), (1000001, .box 79 [.v .pl (sbytes S), .v .pl (letters a), .v .pl (setsA sets), .v .pl (int k), .v .pl (int bad)])]⟩) ?_ ?_
              ·exact ⟨_, 0, rfl, Nat.zero_le _, rfl⟩
              ·rintro zm zs ⟨i, rfl, hL2_0, rfl⟩
               refine xA tb hM0 8 [0,3,8,9,122,126] [3,8,1000001] rfl ?_
               refine oP rfl (pure_lenm rfl Tryz.underlying39 rfl) ?_
               refine xA tb hM0 3 [0,3,8,9,128] [3,8,1000001] rfl ?_
               refine spC 128 rfl ?_ ?_ <;> intro h15 <;> try simp only [dq] at h15
               ·skip
                refine xA tb hM0 8 [0,3,9,131,132] [3,8,1000001] rfl ?_
                refine oP rfl (pure_lit rfl Tryz.underlying22 el3 rfl rfl rfl rfl hM0) ?_
                refine oS rfl (step_append rfl rfl rfl rfl Tryz.underlying22 el3 rfl rfl hM0 (src_pl rfl (one_len (by rfl))) (by first | (simp only [ll]; omega) | omega) (by first | (simp only [ll]; omega) | omega)) rfl ?_
                refine xA tb hM0 6 [0,3,8,129] [3,8,1000001] rfl ?_
                refine oP rfl (pure_addi rfl rfl rfl (by omega)) ?_
                refine xA tb hM0 2 [0,3,8,9] [3,8,1000001] rfl ?_
                refine nx ?_
                exact ⟨_, ⟨i + 1, rfl, by omega, by rw [List.range_succ, List.map_append, List.map_append]; rfl⟩, by omega⟩
               ·skip
                refine xA tb hM0 7 [3,8] [3,8,1000001] rfl ?_
                refine code_frz 206 [(3, _), (8, _)] [(3, _), (1000001, _)] hM0 rfl ⟨.inl rfl, .inr ⟨_, _, rfl, rfl, rfl⟩, trivial⟩ ⟨rfl, rfl, trivial⟩ ?_
                obtain rfl : i = a.length := by omega
                refine xK tb hM0 2 [3,135] [3,1000001] rfl ?_
                refine oP rfl (pure_callN rfl rfl rfl rfl (one_call ((List.range a.length).map fun (q : Nat) => (q : Int))) hM0) ?_
                refine xA tb hM0 7 [] [] rfl ?_
                refine endM3_ret (o1 := [(1000001, _)]) rfl rfl rfl ⟨rfl, trivial⟩ ?_
                first
                  | (rw [tkR_end (show S.length ≤ k by omega)]; exact ⟨⟨rfl, rfl, rfl⟩, rfl⟩)
                  | (rw [tk_letter (a := a) hlt (by omega)]; exact ⟨⟨rfl, rfl, rfl⟩, rfl⟩)
                  | (rw [tk_mark (a := a) hlt (by omega) (by omega)]; exact ⟨⟨rfl, rfl, rfl⟩, rfl⟩)
                  | (rw [tk_minus (a := a) hlt (by omega) (by omega)]; exact ⟨⟨rfl, rfl, rfl⟩, rfl⟩)
                  | (rw [tk_hash (a := a) hlt (by omega) (by omega)]; exact ⟨⟨rfl, rfl, rfl⟩, rfl⟩)
                  | (rw [tk_dot (a := a) hlt (by omega) (by omega)]; exact ⟨⟨rfl, rfl, rfl⟩, rfl⟩)
                  | (have hmk : noMk (((S.drop k).getD 0 default).toNat : Int) := ⟨by omega, by omega, by omega, by omega, by omega, by omega, by omega, by omega⟩
                     first
                       | (rw [tk_no (a := a) (sets := sets) hlt (by omega) hmk hL3_0 (by omega)]; exact ⟨⟨rfl, rfl, rfl⟩, rfl⟩)
                       | (rw [tk_brace (a := a) (sets := sets) hlt (by omega) hmk hL3_0 (by omega) (by omega) (by omega) (by omega)]; exact ⟨⟨rfl, rfl, rfl⟩, rfl⟩)
                       | (rw [tk_noset (a := a) (sets := sets) hlt (by omega) hmk hL3_0 (by omega) (by omega) (by omega) (by omega) (fun j hj => hL4_1 j (by omega))]; exact ⟨⟨rfl, rfl, rfl⟩, rfl⟩)
                       | (rw [tk_set (a := a) (sets := sets) hlt (by omega) hmk hL3_0 (by omega) (by omega) (by omega) (by omega) (i := i) (by omega) hL4_1 (by assumption), if_pos (by assumption)]; exact ⟨⟨rfl, rfl, rfl⟩, rfl⟩)
                       | (rw [tk_set (a := a) (sets := sets) hlt (by omega) hmk hL3_0 (by omega) (by omega) (by omega) (by omega) (i := i) (by omega) hL4_1 (by assumption), if_neg (fun q => by rw [show setOk (sets.getD i default).syms = false by assumption] at q; exact absurd q (by decide))]; exact ⟨⟨rfl, rfl, rfl⟩, rfl⟩))
             ·skip
              refine xA tb hM0 10 [0,3,5,10] [3,1000001] rfl ?_
              refine lp (fun zm zs => ∃ e : Nat, zm = (S.drop k).length - e ∧ (NoBr (S.drop k) e) ∧ zs = ⟨206, [(0, .pbox 1000001 0), (3, .pbox 3 0), (5, .v .pl (sbytes (S.drop k))), (10, .v .pl (int e))], [(3, .box 25 [.v .pl (.sc (.int .i64 0)), .v .pl (.sc (.slice none 0 0)), .v .pl (.sc (.slice none 0 0))]), (1000001, .box 79 [.v .pl (sbytes S), .v .pl (letters a), .v .pl (setsA sets), .v .pl (int k), .v .pl (int bad)])]⟩) ?_ ?_
              ·exact ⟨_, 1, rfl, NoBr.one (by omega), rfl⟩
              ·rintro zm zs ⟨e, rfl, hL3_0, rfl⟩
               have hN1 := hL3_0.1
               have hN2 := hL3_0.2.1
               have hce1 := hce e
               refine xA tb hM0 5 [0,3,5,10,137,138] [3,1000001] rfl ?_
               refine oP rfl (pure_slen rfl Tryz.underlying9 rfl) ?_
               refine xA tb hM0 2 [0,3,5,10,141] [3,1000001] rfl ?_
               refine spO 141 rfl ?_ ?_ <;> intro h16' <;> try simp only [dq] at h16'
               ·skip
                refine xA tb hM0 2 [0,3,5,10,141,142,143] [3,1000001] rfl ?_
                refine oP rfl (pure_sindex rfl Tryz.underlying9 rfl rfl (by omega)) ?_
                refine oP rfl (pure_neq rfl rfl rfl) ?_
                refine xA tb hM0 3 [0,3,5,10,146] [3,1000001] rfl ?_
                refine spC 146 rfl ?_ ?_ <;> intro h17 <;> try simp only [dq] at h17
                ·skip
                 refine xA tb hM0 6 [0,3,5,147] [3,1000001] rfl ?_
                 refine oP rfl (pure_addi rfl rfl rfl (by omega)) ?_
                 refine xA tb hM0 3 [0,3,5,10] [3,1000001] rfl ?_
                 refine nx ?_
                 exact ⟨_, ⟨e + 1, rfl, hL3_0.step (by omega) (by assumption), rfl⟩, by omega⟩
                ·skip
                 refine xA tb hM0 10 [0,3,5,10,149] [3,1000001] rfl ?_
                 refine oP rfl (pure_sindex rfl Tryz.underlying9 rfl rfl (by omega)) ?_
                 refine oP rfl (pure_neq rfl rfl rfl) ?_
                 refine xA tb hM0 1 [0,3,5,10,152] [3,1000001] rfl ?_
                 refine spO 152 rfl ?_ ?_ <;> intro h18' <;> try simp only [dq] at h18'
                 ·skip
                  refine xA tb hM0 10 [3] [3,1000001] rfl ?_
                  refine oP rfl (pure_norm (pure_build rfl pl25 ze25 rfl rfl rfl) rfl) ?_
                  refine xA tb hM0 7 [] [] rfl ?_
                  refine endM3_ret (o1 := [(1000001, _)]) rfl rfl rfl ⟨rfl, trivial⟩ ?_
                  first
                    | (rw [tkR_end (show S.length ≤ k by omega)]; exact ⟨⟨rfl, rfl, rfl⟩, rfl⟩)
                    | (rw [tk_letter (a := a) hlt (by omega)]; exact ⟨⟨rfl, rfl, rfl⟩, rfl⟩)
                    | (rw [tk_mark (a := a) hlt (by omega) (by omega)]; exact ⟨⟨rfl, rfl, rfl⟩, rfl⟩)
                    | (rw [tk_minus (a := a) hlt (by omega) (by omega)]; exact ⟨⟨rfl, rfl, rfl⟩, rfl⟩)
                    | (rw [tk_hash (a := a) hlt (by omega) (by omega)]; exact ⟨⟨rfl, rfl, rfl⟩, rfl⟩)
                    | (rw [tk_dot (a := a) hlt (by omega) (by omega)]; exact ⟨⟨rfl, rfl, rfl⟩, rfl⟩)
                    | (have hmk : noMk (((S.drop k).getD 0 default).toNat : Int) := ⟨by omega, by omega, by omega, by omega, by omega, by omega, by omega, by omega⟩
                       first
                         | (rw [tk_no (a := a) (sets := sets) hlt (by omega) hmk hL3_0 (by omega)]; exact ⟨⟨rfl, rfl, rfl⟩, rfl⟩)
                         | (rw [tk_brace (a := a) (sets := sets) hlt (by omega) hmk hL3_0 (by omega) (by omega) (by omega) (by omega)]; exact ⟨⟨rfl, rfl, rfl⟩, rfl⟩)
                         | (rw [tk_noset (a := a) (sets := sets) hlt (by omega) hmk hL3_0 (by omega) (by omega) (by omega) (by omega) (fun j hj => hL4_1 j (by omega))]; exact ⟨⟨rfl, rfl, rfl⟩, rfl⟩)
                         | (rw [tk_set (a := a) (sets := sets) hlt (by omega) hmk hL3_0 (by omega) (by omega) (by omega) (by omega) (i := i) (by omega) hL4_1 (by assumption), if_pos (by assumption)]; exact ⟨⟨rfl, rfl, rfl⟩, rfl⟩)
                         | (rw [tk_set (a := a) (sets := sets) hlt (by omega) hmk hL3_0 (by omega) (by omega) (by omega) (by omega) (i := i) (by omega) hL4_1 (by assumption), if_neg (fun q => by rw [show setOk (sets.getD i default).syms = false by assumption] at q; exact absurd q (by decide))]; exact ⟨⟨rfl, rfl, rfl⟩, rfl⟩))
                 ·skip
                  refine xA tb hM0 2 [0,3,5,10,152,153,154] [3,1000001] rfl ?_
                  refine oP rfl (pure_slen rfl Tryz.underlying9 rfl) ?_
                  refine xA tb hM0 4 [0,3,5,10,157] [3,1000001] rfl ?_
                  refine spC 157 rfl ?_ ?_ <;> intro h19 <;> try simp only [dq] at h19
                  ·skip
                   refine xA tb hM0 3 [3] [3,1000001] rfl ?_
                   refine oP rfl (pure_norm (pure_build rfl pl25 ze25 rfl rfl rfl) rfl) ?_
                   refine xA tb hM0 7 [] [] rfl ?_
                   refine endM3_ret (o1 := [(1000001, _)]) rfl rfl rfl ⟨rfl, trivial⟩ ?_
                   first
                     | (rw [tkR_end (show S.length ≤ k by omega)]; exact ⟨⟨rfl, rfl, rfl⟩, rfl⟩)
                     | (rw [tk_letter (a := a) hlt (by omega)]; exact ⟨⟨rfl, rfl, rfl⟩, rfl⟩)
                     | (rw [tk_mark (a := a) hlt (by omega) (by omega)]; exact ⟨⟨rfl, rfl, rfl⟩, rfl⟩)
                     | (rw [tk_minus (a := a) hlt (by omega) (by omega)]; exact ⟨⟨rfl, rfl, rfl⟩, rfl⟩)
                     | (rw [tk_hash (a := a) hlt (by omega) (by omega)]; exact ⟨⟨rfl, rfl, rfl⟩, rfl⟩)
                     | (rw [tk_dot (a := a) hlt (by omega) (by omega)]; exact ⟨⟨rfl, rfl, rfl⟩, rfl⟩)
                     | (have hmk : noMk (((S.drop k).getD 0 default).toNat : Int) := ⟨by omega, by omega, by omega, by omega, by omega, by omega, by omega, by omega⟩
                        first
                          | (rw [tk_no (a := a) (sets := sets) hlt (by omega) hmk hL3_0 (by omega)]; exact ⟨⟨rfl, rfl, rfl⟩, rfl⟩)
                          | (rw [tk_brace (a := a) (sets := sets) hlt (by omega) hmk hL3_0 (by omega) (by omega) (by omega) (by omega)]; exact ⟨⟨rfl, rfl, rfl⟩, rfl⟩)
                          | (rw [tk_noset (a := a) (sets := sets) hlt (by omega) hmk hL3_0 (by omega) (by omega) (by omega) (by omega) (fun j hj => hL4_1 j (by omega))]; exact ⟨⟨rfl, rfl, rfl⟩, rfl⟩)
                          | (rw [tk_set (a := a) (sets := sets) hlt (by omega) hmk hL3_0 (by omega) (by omega) (by omega) (by omega) (i := i) (by omega) hL4_1 (by assumption), if_pos (by assumption)]; exact ⟨⟨rfl, rfl, rfl⟩, rfl⟩)
                          | (rw [tk_set (a := a) (sets := sets) hlt (by omega) hmk hL3_0 (by omega) (by omega) (by omega) (by omega) (i := i) (by omega) hL4_1 (by assumption), if_neg (fun q => by rw [show setOk (sets.getD i default).syms = false by assumption] at q; exact absurd q (by decide))]; exact ⟨⟨rfl, rfl, rfl⟩, rfl⟩))
                  ·skip
                   refine xA tb hM0 10 [0,3,5,10,160] [3,1000001] rfl ?_
                   refine spC 160 rfl ?_ ?_ <;> intro h20 <;> try simp only [dq] at h20
                   ·skip
                    refine xA tb hM0 3 [3] [3,1000001] rfl ?_
                    refine oP rfl (pure_norm (pure_build rfl pl25 ze25 rfl rfl rfl) rfl) ?_
                    refine xA tb hM0 7 [] [] rfl ?_
                    refine endM3_ret (o1 := [(1000001, _)]) rfl rfl rfl ⟨rfl, trivial⟩ ?_
                    first
                      | (rw [tkR_end (show S.length ≤ k by omega)]; exact ⟨⟨rfl, rfl, rfl⟩, rfl⟩)
                      | (rw [tk_letter (a := a) hlt (by omega)]; exact ⟨⟨rfl, rfl, rfl⟩, rfl⟩)
                      | (rw [tk_mark (a := a) hlt (by omega) (by omega)]; exact ⟨⟨rfl, rfl, rfl⟩, rfl⟩)
                      | (rw [tk_minus (a := a) hlt (by omega) (by omega)]; exact ⟨⟨rfl, rfl, rfl⟩, rfl⟩)
                      | (rw [tk_hash (a := a) hlt (by omega) (by omega)]; exact ⟨⟨rfl, rfl, rfl⟩, rfl⟩)
                      | (rw [tk_dot (a := a) hlt (by omega) (by omega)]; exact ⟨⟨rfl, rfl, rfl⟩, rfl⟩)
                      | (have hmk : noMk (((S.drop k).getD 0 default).toNat : Int) := ⟨by omega, by omega, by omega, by omega, by omega, by omega, by omega, by omega⟩
                         first
                           | (rw [tk_no (a := a) (sets := sets) hlt (by omega) hmk hL3_0 (by omega)]; exact ⟨⟨rfl, rfl, rfl⟩, rfl⟩)
                           | (rw [tk_brace (a := a) (sets := sets) hlt (by omega) hmk hL3_0 (by omega) (by omega) (by omega) (by omega)]; exact ⟨⟨rfl, rfl, rfl⟩, rfl⟩)
                           | (rw [tk_noset (a := a) (sets := sets) hlt (by omega) hmk hL3_0 (by omega) (by omega) (by omega) (by omega) (fun j hj => hL4_1 j (by omega))]; exact ⟨⟨rfl, rfl, rfl⟩, rfl⟩)
                           | (rw [tk_set (a := a) (sets := sets) hlt (by omega) hmk hL3_0 (by omega) (by omega) (by omega) (by omega) (i := i) (by omega) hL4_1 (by assumption), if_pos (by assumption)]; exact ⟨⟨rfl, rfl, rfl⟩, rfl⟩)
                           | (rw [tk_set (a := a) (sets := sets) hlt (by omega) hmk hL3_0 (by omega) (by omega) (by omega) (by omega) (i := i) (by omega) hL4_1 (by assumption), if_neg (fun q => by rw [show setOk (sets.getD i default).syms = false by assumption] at q; exact absurd q (by decide))]; exact ⟨⟨rfl, rfl, rfl⟩, rfl⟩))
                   ·skip
                    refine xA tb hM0 10 [0,3,5,10,11] [3,1000001] rfl ?_
                    refine lp (fun zm zs => ∃ i : Nat, zm = sets.length - i ∧ (i ≤ sets.length) ∧ (∀ j, j < i → (sets.getD j default).name ≠ ((S.drop k).drop 1).take (e - 1)) ∧ zs = ⟨206, [(0, .pbox 1000001 0), (3, .pbox 3 0), (5, .v .pl (sbytes (S.drop k))), (10, .v .pl (int e)), (11, .v .pl (int i))], [(3, .box 25 [.v .pl (.sc (.int .i64 0)), .v .pl (.sc (.slice none 0 0)), .v .pl (.sc (.slice none 0 0))]), (1000001, .box 79 [.v .pl (sbytes S), .v .pl (letters a), .v .pl (setsA sets), .v .pl (int k), .v .pl (int bad)])]⟩) ?_ ?_
                    ·exact ⟨_, 0, rfl, Nat.zero_le _, fun j hj => absurd hj (by omega), rfl⟩
                    ·rintro zm zs ⟨i, rfl, hL4_0, hL4_1, rfl⟩
                     refine xA tb hM0 8 [0,3,5,10,11,162,166] [3,1000001] rfl ?_
                     refine oP rfl (pure_lenm rfl Tryz.underlying40 rfl) ?_
                     refine xA tb hM0 3 [0,3,5,10,11,168] [3,1000001] rfl ?_
                     refine spC 168 rfl ?_ ?_ <;> intro h21 <;> try simp only [dq] at h21
                     ·skip
                      refine xA tb hM0 6 [0,3,5,10,11] [3,1000001] rfl ?_
                      refine code_draw mixed (by kernel_rfl) _ rfl ?_
                      refine dl_pure rfl rfl rfl (pure_move rfl rfl) ?_
                      refine dl_pure rfl rfl rfl (pure_nilbox rfl rfl rfl) ?_
                      refine dl_pure rfl rfl rfl (pure_field_box rfl fd79_2 rfl rfl) ?_
                      refine dl_pure rfl rfl rfl (pure_load_box rfl ag40 rfl rfl rfl) ?_
                      refine dl_pure rfl rfl rfl (pure_move rfl rfl) ?_
                      refine dl_pure rfl rfl rfl (pure_ix rfl Tryz.underlying40 sz106 rfl rfl (by omega) (fun _ => rfl)) ?_
                      refine dl_pure rfl rfl rfl (pure_field rfl fd106_0 rfl) ?_
                      refine dpk 206 [(0,_),(3,_),(5,_),(10,_),(11,_),(177,_)] [(3,_),(1000001,_)] rfl rfl rfl ?_
                      refine dl_pure rfl rfl rfl (pure_load rfl ag9 rfl rfl) ?_
                      refine dl_pure rfl rfl rfl (pure_move rfl rfl) ?_
                      refine dl_pure rfl rfl rfl (pure_move rfl rfl) ?_
                      refine dl_pure rfl rfl rfl (pure_sslice rfl Tryz.underlying9 rfl rfl rfl (by omega)) ?_
                      refine dl_pure rfl rfl rfl (pure_seql rfl rfl rfl) ?_
                      refine dl_nil ?_
                      refine xD tb hM0 1 [0,3,5,10,11,182] [3,1000001] rfl ?_
                      refine spC 182 rfl ?_ ?_ <;> intro h22 <;> try simp only [dq] at h22
                      ·skip
                       refine xA tb hM0 9 [0,3,10,11,186,187] [3,1000001] rfl ?_
                       refine oP rfl (pure_ix rfl Tryz.underlying40 sz106 rfl rfl (by omega) (fun _ => rfl)) ?_
                       refine xA tb hM0 2 [0,3,10,11,190] [3,1000001] rfl ?_
                       refine oP rfl (pure_call rfl rfl rfl (rset_call (hsy _ (kid_mem' (by omega)))) hM0) ?_
                       refine xA tb hM0 3 [0,3,10,11,192] [3,1000001] rfl ?_
                       refine spC 192 rfl ?_ ?_ <;> intro h23 <;> try simp only [dq] at h23
                       ·skip
                        refine xA tb hM0 3 [3] [3,1000001] rfl ?_
                        refine oP rfl (pure_norm (pure_build rfl pl25 ze25 rfl rfl rfl) rfl) ?_
                        refine xA tb hM0 12 [] [] rfl ?_
                        refine endM3_ret (o1 := [(1000001, _)]) rfl rfl rfl ⟨rfl, trivial⟩ ?_
                        first
                          | (rw [tkR_end (show S.length ≤ k by omega)]; exact ⟨⟨rfl, rfl, rfl⟩, rfl⟩)
                          | (rw [tk_letter (a := a) hlt (by omega)]; exact ⟨⟨rfl, rfl, rfl⟩, rfl⟩)
                          | (rw [tk_mark (a := a) hlt (by omega) (by omega)]; exact ⟨⟨rfl, rfl, rfl⟩, rfl⟩)
                          | (rw [tk_minus (a := a) hlt (by omega) (by omega)]; exact ⟨⟨rfl, rfl, rfl⟩, rfl⟩)
                          | (rw [tk_hash (a := a) hlt (by omega) (by omega)]; exact ⟨⟨rfl, rfl, rfl⟩, rfl⟩)
                          | (rw [tk_dot (a := a) hlt (by omega) (by omega)]; exact ⟨⟨rfl, rfl, rfl⟩, rfl⟩)
                          | (have hmk : noMk (((S.drop k).getD 0 default).toNat : Int) := ⟨by omega, by omega, by omega, by omega, by omega, by omega, by omega, by omega⟩
                             first
                               | (rw [tk_no (a := a) (sets := sets) hlt (by omega) hmk hL3_0 (by omega)]; exact ⟨⟨rfl, rfl, rfl⟩, rfl⟩)
                               | (rw [tk_brace (a := a) (sets := sets) hlt (by omega) hmk hL3_0 (by omega) (by omega) (by omega) (by omega)]; exact ⟨⟨rfl, rfl, rfl⟩, rfl⟩)
                               | (rw [tk_noset (a := a) (sets := sets) hlt (by omega) hmk hL3_0 (by omega) (by omega) (by omega) (by omega) (fun j hj => hL4_1 j (by omega))]; exact ⟨⟨rfl, rfl, rfl⟩, rfl⟩)
                               | (rw [tk_set (a := a) (sets := sets) hlt (by omega) hmk hL3_0 (by omega) (by omega) (by omega) (by omega) (i := i) (by omega) hL4_1 (by assumption), if_pos (by assumption)]; exact ⟨⟨rfl, rfl, rfl⟩, rfl⟩)
                               | (rw [tk_set (a := a) (sets := sets) hlt (by omega) hmk hL3_0 (by omega) (by omega) (by omega) (by omega) (i := i) (by omega) hL4_1 (by assumption), if_neg (fun q => by rw [show setOk (sets.getD i default).syms = false by assumption] at q; exact absurd q (by decide))]; exact ⟨⟨rfl, rfl, rfl⟩, rfl⟩))
                       ·skip
                        refine xA tb hM0 10 [3,10,197,198] [3,1000001] rfl ?_
                        refine oP rfl (pure_ix rfl Tryz.underlying40 sz106 rfl rfl (by omega) (fun _ => rfl)) ?_
                        refine xA tb hM0 2 [3,10,201] [3,1000001] rfl ?_
                        refine oP rfl (pure_callN rfl rfl rfl rfl (one_call (sets.getD i default).syms) hM0) ?_
                        refine xA tb hM0 1 [3,202,203] [3,1000001] rfl ?_
                        refine oP rfl (pure_addi rfl rfl rfl (by omega)) ?_
                        refine xA tb hM0 11 [] [] rfl ?_
                        refine endM3_ret (o1 := [(1000001, _)]) rfl rfl rfl ⟨rfl, trivial⟩ ?_
                        first
                          | (rw [tkR_end (show S.length ≤ k by omega)]; exact ⟨⟨rfl, rfl, rfl⟩, rfl⟩)
                          | (rw [tk_letter (a := a) hlt (by omega)]; exact ⟨⟨rfl, rfl, rfl⟩, rfl⟩)
                          | (rw [tk_mark (a := a) hlt (by omega) (by omega)]; exact ⟨⟨rfl, rfl, rfl⟩, rfl⟩)
                          | (rw [tk_minus (a := a) hlt (by omega) (by omega)]; exact ⟨⟨rfl, rfl, rfl⟩, rfl⟩)
                          | (rw [tk_hash (a := a) hlt (by omega) (by omega)]; exact ⟨⟨rfl, rfl, rfl⟩, rfl⟩)
                          | (rw [tk_dot (a := a) hlt (by omega) (by omega)]; exact ⟨⟨rfl, rfl, rfl⟩, rfl⟩)
                          | (have hmk : noMk (((S.drop k).getD 0 default).toNat : Int) := ⟨by omega, by omega, by omega, by omega, by omega, by omega, by omega, by omega⟩
                             first
                               | (rw [tk_no (a := a) (sets := sets) hlt (by omega) hmk hL3_0 (by omega)]; exact ⟨⟨rfl, rfl, rfl⟩, rfl⟩)
                               | (rw [tk_brace (a := a) (sets := sets) hlt (by omega) hmk hL3_0 (by omega) (by omega) (by omega) (by omega)]; exact ⟨⟨rfl, rfl, rfl⟩, rfl⟩)
                               | (rw [tk_noset (a := a) (sets := sets) hlt (by omega) hmk hL3_0 (by omega) (by omega) (by omega) (by omega) (fun j hj => hL4_1 j (by omega))]; exact ⟨⟨rfl, rfl, rfl⟩, rfl⟩)
                               | (rw [tk_set (a := a) (sets := sets) hlt (by omega) hmk hL3_0 (by omega) (by omega) (by omega) (by omega) (i := i) (by omega) hL4_1 (by assumption), if_pos (by assumption)]; exact ⟨⟨rfl, rfl, rfl⟩, rfl⟩)
                               | (rw [tk_set (a := a) (sets := sets) hlt (by omega) hmk hL3_0 (by omega) (by omega) (by omega) (by omega) (i := i) (by omega) hL4_1 (by assumption), if_neg (fun q => by rw [show setOk (sets.getD i default).syms = false by assumption] at q; exact absurd q (by decide))]; exact ⟨⟨rfl, rfl, rfl⟩, rfl⟩))
                      ·skip
                       refine xA tb hM0 6 [0,3,5,10,169] [3,1000001] rfl ?_
                       refine oP rfl (pure_addi rfl rfl rfl (by omega)) ?_
                       refine xA tb hM0 2 [0,3,5,10,11] [3,1000001] rfl ?_
                       refine nx ?_
                       exact ⟨_, ⟨i + 1, rfl, by omega, all_step hL4_1 (by simp_all), rfl⟩, by omega⟩
                     ·skip
                      refine xA tb hM0 8 [3] [3,1000001] rfl ?_
                      refine oP rfl (pure_norm (pure_build rfl pl25 ze25 rfl rfl rfl) rfl) ?_
                      refine xA tb hM0 6 [] [] rfl ?_
                      refine endM3_ret (o1 := [(1000001, _)]) rfl rfl rfl ⟨rfl, trivial⟩ ?_
                      first
                        | (rw [tkR_end (show S.length ≤ k by omega)]; exact ⟨⟨rfl, rfl, rfl⟩, rfl⟩)
                        | (rw [tk_letter (a := a) hlt (by omega)]; exact ⟨⟨rfl, rfl, rfl⟩, rfl⟩)
                        | (rw [tk_mark (a := a) hlt (by omega) (by omega)]; exact ⟨⟨rfl, rfl, rfl⟩, rfl⟩)
                        | (rw [tk_minus (a := a) hlt (by omega) (by omega)]; exact ⟨⟨rfl, rfl, rfl⟩, rfl⟩)
                        | (rw [tk_hash (a := a) hlt (by omega) (by omega)]; exact ⟨⟨rfl, rfl, rfl⟩, rfl⟩)
                        | (rw [tk_dot (a := a) hlt (by omega) (by omega)]; exact ⟨⟨rfl, rfl, rfl⟩, rfl⟩)
                        | (have hmk : noMk (((S.drop k).getD 0 default).toNat : Int) := ⟨by omega, by omega, by omega, by omega, by omega, by omega, by omega, by omega⟩
                           first
                             | (rw [tk_no (a := a) (sets := sets) hlt (by omega) hmk hL3_0 (by omega)]; exact ⟨⟨rfl, rfl, rfl⟩, rfl⟩)
                             | (rw [tk_brace (a := a) (sets := sets) hlt (by omega) hmk hL3_0 (by omega) (by omega) (by omega) (by omega)]; exact ⟨⟨rfl, rfl, rfl⟩, rfl⟩)
                             | (rw [tk_noset (a := a) (sets := sets) hlt (by omega) hmk hL3_0 (by omega) (by omega) (by omega) (by omega) (fun j hj => hL4_1 j (by omega))]; exact ⟨⟨rfl, rfl, rfl⟩, rfl⟩)
                             | (rw [tk_set (a := a) (sets := sets) hlt (by omega) hmk hL3_0 (by omega) (by omega) (by omega) (by omega) (i := i) (by omega) hL4_1 (by assumption), if_pos (by assumption)]; exact ⟨⟨rfl, rfl, rfl⟩, rfl⟩)
                             | (rw [tk_set (a := a) (sets := sets) hlt (by omega) hmk hL3_0 (by omega) (by omega) (by omega) (by omega) (i := i) (by omega) hL4_1 (by assumption), if_neg (fun q => by rw [show setOk (sets.getD i default).syms = false by assumption] at q; exact absurd q (by decide))]; exact ⟨⟨rfl, rfl, rfl⟩, rfl⟩))
               ·skip
                refine xA tb hM0 17 [0,3,5,10,149] [3,1000001] rfl ?_
                refine oP rfl (pure_sindex rfl Tryz.underlying9 rfl rfl (by omega)) ?_
                refine oP rfl (pure_neq rfl rfl rfl) ?_
                refine xA tb hM0 1 [0,3,5,10,152] [3,1000001] rfl ?_
                refine spO 152 rfl ?_ ?_ <;> intro h24' <;> try simp only [dq] at h24'
                ·skip
                 refine xA tb hM0 10 [3] [3,1000001] rfl ?_
                 refine oP rfl (pure_norm (pure_build rfl pl25 ze25 rfl rfl rfl) rfl) ?_
                 refine xA tb hM0 7 [] [] rfl ?_
                 refine endM3_ret (o1 := [(1000001, _)]) rfl rfl rfl ⟨rfl, trivial⟩ ?_
                 first
                   | (rw [tkR_end (show S.length ≤ k by omega)]; exact ⟨⟨rfl, rfl, rfl⟩, rfl⟩)
                   | (rw [tk_letter (a := a) hlt (by omega)]; exact ⟨⟨rfl, rfl, rfl⟩, rfl⟩)
                   | (rw [tk_mark (a := a) hlt (by omega) (by omega)]; exact ⟨⟨rfl, rfl, rfl⟩, rfl⟩)
                   | (rw [tk_minus (a := a) hlt (by omega) (by omega)]; exact ⟨⟨rfl, rfl, rfl⟩, rfl⟩)
                   | (rw [tk_hash (a := a) hlt (by omega) (by omega)]; exact ⟨⟨rfl, rfl, rfl⟩, rfl⟩)
                   | (rw [tk_dot (a := a) hlt (by omega) (by omega)]; exact ⟨⟨rfl, rfl, rfl⟩, rfl⟩)
                   | (have hmk : noMk (((S.drop k).getD 0 default).toNat : Int) := ⟨by omega, by omega, by omega, by omega, by omega, by omega, by omega, by omega⟩
                      first
                        | (rw [tk_no (a := a) (sets := sets) hlt (by omega) hmk hL3_0 (by omega)]; exact ⟨⟨rfl, rfl, rfl⟩, rfl⟩)
                        | (rw [tk_brace (a := a) (sets := sets) hlt (by omega) hmk hL3_0 (by omega) (by omega) (by omega) (by omega)]; exact ⟨⟨rfl, rfl, rfl⟩, rfl⟩)
                        | (rw [tk_noset (a := a) (sets := sets) hlt (by omega) hmk hL3_0 (by omega) (by omega) (by omega) (by omega) (fun j hj => hL4_1 j (by omega))]; exact ⟨⟨rfl, rfl, rfl⟩, rfl⟩)
                        | (rw [tk_set (a := a) (sets := sets) hlt (by omega) hmk hL3_0 (by omega) (by omega) (by omega) (by omega) (i := i) (by omega) hL4_1 (by assumption), if_pos (by assumption)]; exact ⟨⟨rfl, rfl, rfl⟩, rfl⟩)
                        | (rw [tk_set (a := a) (sets := sets) hlt (by omega) hmk hL3_0 (by omega) (by omega) (by omega) (by omega) (i := i) (by omega) hL4_1 (by assumption), if_neg (fun q => by rw [show setOk (sets.getD i default).syms = false by assumption] at q; exact absurd q (by decide))]; exact ⟨⟨rfl, rfl, rfl⟩, rfl⟩))
                ·skip
                 refine xA tb hM0 2 [0,3,5,10,152,153,154] [3,1000001] rfl ?_
                 refine oP rfl (pure_slen rfl Tryz.underlying9 rfl) ?_
                 refine xA tb hM0 4 [0,3,5,10,157] [3,1000001] rfl ?_
                 refine spC 157 rfl ?_ ?_ <;> intro h25 <;> try simp only [dq] at h25
                 ·skip
                  refine xA tb hM0 3 [3] [3,1000001] rfl ?_
                  refine oP rfl (pure_norm (pure_build rfl pl25 ze25 rfl rfl rfl) rfl) ?_
                  refine xA tb hM0 7 [] [] rfl ?_
                  refine endM3_ret (o1 := [(1000001, _)]) rfl rfl rfl ⟨rfl, trivial⟩ ?_
                  first
                    | (rw [tkR_end (show S.length ≤ k by omega)]; exact ⟨⟨rfl, rfl, rfl⟩, rfl⟩)
                    | (rw [tk_letter (a := a) hlt (by omega)]; exact ⟨⟨rfl, rfl, rfl⟩, rfl⟩)
                    | (rw [tk_mark (a := a) hlt (by omega) (by omega)]; exact ⟨⟨rfl, rfl, rfl⟩, rfl⟩)
                    | (rw [tk_minus (a := a) hlt (by omega) (by omega)]; exact ⟨⟨rfl, rfl, rfl⟩, rfl⟩)
                    | (rw [tk_hash (a := a) hlt (by omega) (by omega)]; exact ⟨⟨rfl, rfl, rfl⟩, rfl⟩)
                    | (rw [tk_dot (a := a) hlt (by omega) (by omega)]; exact ⟨⟨rfl, rfl, rfl⟩, rfl⟩)
                    | (have hmk : noMk (((S.drop k).getD 0 default).toNat : Int) := ⟨by omega, by omega, by omega, by omega, by omega, by omega, by omega, by omega⟩
                       first
                         | (rw [tk_no (a := a) (sets := sets) hlt (by omega) hmk hL3_0 (by omega)]; exact ⟨⟨rfl, rfl, rfl⟩, rfl⟩)
                         | (rw [tk_brace (a := a) (sets := sets) hlt (by omega) hmk hL3_0 (by omega) (by omega) (by omega) (by omega)]; exact ⟨⟨rfl, rfl, rfl⟩, rfl⟩)
                         | (rw [tk_noset (a := a) (sets := sets) hlt (by omega) hmk hL3_0 (by omega) (by omega) (by omega) (by omega) (fun j hj => hL4_1 j (by omega))]; exact ⟨⟨rfl, rfl, rfl⟩, rfl⟩)
                         | (rw [tk_set (a := a) (sets := sets) hlt (by omega) hmk hL3_0 (by omega) (by omega) (by omega) (by omega) (i := i) (by omega) hL4_1 (by assumption), if_pos (by assumption)]; exact ⟨⟨rfl, rfl, rfl⟩, rfl⟩)
                         | (rw [tk_set (a := a) (sets := sets) hlt (by omega) hmk hL3_0 (by omega) (by omega) (by omega) (by omega) (i := i) (by omega) hL4_1 (by assumption), if_neg (fun q => by rw [show setOk (sets.getD i default).syms = false by assumption] at q; exact absurd q (by decide))]; exact ⟨⟨rfl, rfl, rfl⟩, rfl⟩))
                 ·skip
                  refine xA tb hM0 10 [0,3,5,10,160] [3,1000001] rfl ?_
                  refine spC 160 rfl ?_ ?_ <;> intro h26 <;> try simp only [dq] at h26
                  ·skip
                   refine xA tb hM0 3 [3] [3,1000001] rfl ?_
                   refine oP rfl (pure_norm (pure_build rfl pl25 ze25 rfl rfl rfl) rfl) ?_
                   refine xA tb hM0 7 [] [] rfl ?_
                   refine endM3_ret (o1 := [(1000001, _)]) rfl rfl rfl ⟨rfl, trivial⟩ ?_
                   first
                     | (rw [tkR_end (show S.length ≤ k by omega)]; exact ⟨⟨rfl, rfl, rfl⟩, rfl⟩)
                     | (rw [tk_letter (a := a) hlt (by omega)]; exact ⟨⟨rfl, rfl, rfl⟩, rfl⟩)
                     | (rw [tk_mark (a := a) hlt (by omega) (by omega)]; exact ⟨⟨rfl, rfl, rfl⟩, rfl⟩)
                     | (rw [tk_minus (a := a) hlt (by omega) (by omega)]; exact ⟨⟨rfl, rfl, rfl⟩, rfl⟩)
                     | (rw [tk_hash (a := a) hlt (by omega) (by omega)]; exact ⟨⟨rfl, rfl, rfl⟩, rfl⟩)
                     | (rw [tk_dot (a := a) hlt (by omega) (by omega)]; exact ⟨⟨rfl, rfl, rfl⟩, rfl⟩)
                     | (have hmk : noMk (((S.drop k).getD 0 default).toNat : Int) := ⟨by omega, by omega, by omega, by omega, by omega, by omega, by omega, by omega⟩
                        first
                          | (rw [tk_no (a := a) (sets := sets) hlt (by omega) hmk hL3_0 (by omega)]; exact ⟨⟨rfl, rfl, rfl⟩, rfl⟩)
                          | (rw [tk_brace (a := a) (sets := sets) hlt (by omega) hmk hL3_0 (by omega) (by omega) (by omega) (by omega)]; exact ⟨⟨rfl, rfl, rfl⟩, rfl⟩)
                          | (rw [tk_noset (a := a) (sets := sets) hlt (by omega) hmk hL3_0 (by omega) (by omega) (by omega) (by omega) (fun j hj => hL4_1 j (by omega))]; exact ⟨⟨rfl, rfl, rfl⟩, rfl⟩)
                          | (rw [tk_set (a := a) (sets := sets) hlt (by omega) hmk hL3_0 (by omega) (by omega) (by omega) (by omega) (i := i) (by omega) hL4_1 (by assumption), if_pos (by assumption)]; exact ⟨⟨rfl, rfl, rfl⟩, rfl⟩)
                          | (rw [tk_set (a := a) (sets := sets) hlt (by omega) hmk hL3_0 (by omega) (by omega) (by omega) (by omega) (i := i) (by omega) hL4_1 (by assumption), if_neg (fun q => by rw [show setOk (sets.getD i default).syms = false by assumption] at q; exact absurd q (by decide))]; exact ⟨⟨rfl, rfl, rfl⟩, rfl⟩))
                  ·skip
                   refine xA tb hM0 10 [0,3,5,10,11] [3,1000001] rfl ?_
                   refine lp (fun zm zs => ∃ i : Nat, zm = sets.length - i ∧ (i ≤ sets.length) ∧ (∀ j, j < i → (sets.getD j default).name ≠ ((S.drop k).drop 1).take (e - 1)) ∧ zs = ⟨206, [(0, .pbox 1000001 0), (3, .pbox 3 0), (5, .v .pl (sbytes (S.drop k))), (10, .v .pl (int e)), (11, .v .pl (int i))], [(3, .box 25 [.v .pl (.sc (.int .i64 0)), .v .pl (.sc (.slice none 0 0)), .v .pl (.sc (.slice none 0 0))]), (1000001, .box 79 [.v .pl (sbytes S), .v .pl (letters a), .v .pl (setsA sets), .v .pl (int k), .v .pl (int bad)])]⟩) ?_ ?_
                   ·exact ⟨_, 0, rfl, Nat.zero_le _, fun j hj => absurd hj (by omega), rfl⟩
                   ·rintro zm zs ⟨i, rfl, hL4_0, hL4_1, rfl⟩
                    refine xA tb hM0 8 [0,3,5,10,11,162,166] [3,1000001] rfl ?_
                    refine oP rfl (pure_lenm rfl Tryz.underlying40 rfl) ?_
                    refine xA tb hM0 3 [0,3,5,10,11,168] [3,1000001] rfl ?_
                    refine spC 168 rfl ?_ ?_ <;> intro h27 <;> try simp only [dq] at h27
                    ·skip
                     refine xA tb hM0 6 [0,3,5,10,11] [3,1000001] rfl ?_
                     refine code_draw mixed (by kernel_rfl) _ rfl ?_
                     refine dl_pure rfl rfl rfl (pure_move rfl rfl) ?_
                     refine dl_pure rfl rfl rfl (pure_nilbox rfl rfl rfl) ?_
                     refine dl_pure rfl rfl rfl (pure_field_box rfl fd79_2 rfl rfl) ?_
                     refine dl_pure rfl rfl rfl (pure_load_box rfl ag40 rfl rfl rfl) ?_
                     refine dl_pure rfl rfl rfl (pure_move rfl rfl) ?_
                     refine dl_pure rfl rfl rfl (pure_ix rfl Tryz.underlying40 sz106 rfl rfl (by omega) (fun _ => rfl)) ?_
                     refine dl_pure rfl rfl rfl (pure_field rfl fd106_0 rfl) ?_
                     refine dpk 206 [(0,_),(3,_),(5,_),(10,_),(11,_),(177,_)] [(3,_),(1000001,_)] rfl rfl rfl ?_
                     refine dl_pure rfl rfl rfl (pure_load rfl ag9 rfl rfl) ?_
                     refine dl_pure rfl rfl rfl (pure_move rfl rfl) ?_
                     refine dl_pure rfl rfl rfl (pure_move rfl rfl) ?_
                     refine dl_pure rfl rfl rfl (pure_sslice rfl Tryz.underlying9 rfl rfl rfl (by omega)) ?_
                     refine dl_pure rfl rfl rfl (pure_seql rfl rfl rfl) ?_
                     refine dl_nil ?_
                     refine xD tb hM0 1 [0,3,5,10,11,182] [3,1000001] rfl ?_
                     refine spC 182 rfl ?_ ?_ <;> intro h28 <;> try simp only [dq] at h28
                     ·skip
                      refine xA tb hM0 9 [0,3,10,11,186,187] [3,1000001] rfl ?_
                      refine oP rfl (pure_ix rfl Tryz.underlying40 sz106 rfl rfl (by omega) (fun _ => rfl)) ?_
                      refine xA tb hM0 2 [0,3,10,11,190] [3,1000001] rfl ?_
                      refine oP rfl (pure_call rfl rfl rfl (rset_call (hsy _ (kid_mem' (by omega)))) hM0) ?_
                      refine xA tb hM0 3 [0,3,10,11,192] [3,1000001] rfl ?_
                      refine spC 192 rfl ?_ ?_ <;> intro h29 <;> try simp only [dq] at h29
                      ·skip
                       refine xA tb hM0 3 [3] [3,1000001] rfl ?_
                       refine oP rfl (pure_norm (pure_build rfl pl25 ze25 rfl rfl rfl) rfl) ?_
                       refine xA tb hM0 12 [] [] rfl ?_
                       refine endM3_ret (o1 := [(1000001, _)]) rfl rfl rfl ⟨rfl, trivial⟩ ?_
                       first
                         | (rw [tkR_end (show S.length ≤ k by omega)]; exact ⟨⟨rfl, rfl, rfl⟩, rfl⟩)
                         | (rw [tk_letter (a := a) hlt (by omega)]; exact ⟨⟨rfl, rfl, rfl⟩, rfl⟩)
                         | (rw [tk_mark (a := a) hlt (by omega) (by omega)]; exact ⟨⟨rfl, rfl, rfl⟩, rfl⟩)
                         | (rw [tk_minus (a := a) hlt (by omega) (by omega)]; exact ⟨⟨rfl, rfl, rfl⟩, rfl⟩)
                         | (rw [tk_hash (a := a) hlt (by omega) (by omega)]; exact ⟨⟨rfl, rfl, rfl⟩, rfl⟩)
                         | (rw [tk_dot (a := a) hlt (by omega) (by omega)]; exact ⟨⟨rfl, rfl, rfl⟩, rfl⟩)
                         | (have hmk : noMk (((S.drop k).getD 0 default).toNat : Int) := ⟨by omega, by omega, by omega, by omega, by omega, by omega, by omega, by omega⟩
                            first
                              | (rw [tk_no (a := a) (sets := sets) hlt (by omega) hmk hL3_0 (by omega)]; exact ⟨⟨rfl, rfl, rfl⟩, rfl⟩)
                              | (rw [tk_brace (a := a) (sets := sets) hlt (by omega) hmk hL3_0 (by omega) (by omega) (by omega) (by omega)]; exact ⟨⟨rfl, rfl, rfl⟩, rfl⟩)
                              | (rw [tk_noset (a := a) (sets := sets) hlt (by omega) hmk hL3_0 (by omega) (by omega) (by omega) (by omega) (fun j hj => hL4_1 j (by omega))]; exact ⟨⟨rfl, rfl, rfl⟩, rfl⟩)
                              | (rw [tk_set (a := a) (sets := sets) hlt (by omega) hmk hL3_0 (by omega) (by omega) (by omega) (by omega) (i := i) (by omega) hL4_1 (by assumption), if_pos (by assumption)]; exact ⟨⟨rfl, rfl, rfl⟩, rfl⟩)
                              | (rw [tk_set (a := a) (sets := sets) hlt (by omega) hmk hL3_0 (by omega) (by omega) (by omega) (by omega) (i := i) (by omega) hL4_1 (by assumption), if_neg (fun q => by rw [show setOk (sets.getD i default).syms = false by assumption] at q; exact absurd q (by decide))]; exact ⟨⟨rfl, rfl, rfl⟩, rfl⟩))
                      ·skip
                       refine xA tb hM0 10 [3,10,197,198] [3,1000001] rfl ?_
                       refine oP rfl (pure_ix rfl Tryz.underlying40 sz106 rfl rfl (by omega) (fun _ => rfl)) ?_
                       refine xA tb hM0 2 [3,10,201] [3,1000001] rfl ?_
                       refine oP rfl (pure_callN rfl rfl rfl rfl (one_call (sets.getD i default).syms) hM0) ?_
                       refine xA tb hM0 1 [3,202,203] [3,1000001] rfl ?_
                       refine oP rfl (pure_addi rfl rfl rfl (by omega)) ?_
                       refine xA tb hM0 11 [] [] rfl ?_
                       refine endM3_ret (o1 := [(1000001, _)]) rfl rfl rfl ⟨rfl, trivial⟩ ?_
                       first
                         | (rw [tkR_end (show S.length ≤ k by omega)]; exact ⟨⟨rfl, rfl, rfl⟩, rfl⟩)
                         | (rw [tk_letter (a := a) hlt (by omega)]; exact ⟨⟨rfl, rfl, rfl⟩, rfl⟩)
                         | (rw [tk_mark (a := a) hlt (by omega) (by omega)]; exact ⟨⟨rfl, rfl, rfl⟩, rfl⟩)
                         | (rw [tk_minus (a := a) hlt (by omega) (by omega)]; exact ⟨⟨rfl, rfl, rfl⟩, rfl⟩)
                         | (rw [tk_hash (a := a) hlt (by omega) (by omega)]; exact ⟨⟨rfl, rfl, rfl⟩, rfl⟩)
                         | (rw [tk_dot (a := a) hlt (by omega) (by omega)]; exact ⟨⟨rfl, rfl, rfl⟩, rfl⟩)
                         | (have hmk : noMk (((S.drop k).getD 0 default).toNat : Int) := ⟨by omega, by omega, by omega, by omega, by omega, by omega, by omega, by omega⟩
                            first
                              | (rw [tk_no (a := a) (sets := sets) hlt (by omega) hmk hL3_0 (by omega)]; exact ⟨⟨rfl, rfl, rfl⟩, rfl⟩)
                              | (rw [tk_brace (a := a) (sets := sets) hlt (by omega) hmk hL3_0 (by omega) (by omega) (by omega) (by omega)]; exact ⟨⟨rfl, rfl, rfl⟩, rfl⟩)
                              | (rw [tk_noset (a := a) (sets := sets) hlt (by omega) hmk hL3_0 (by omega) (by omega) (by omega) (by omega) (fun j hj => hL4_1 j (by omega))]; exact ⟨⟨rfl, rfl, rfl⟩, rfl⟩)
                              | (rw [tk_set (a := a) (sets := sets) hlt (by omega) hmk hL3_0 (by omega) (by omega) (by omega) (by omega) (i := i) (by omega) hL4_1 (by assumption), if_pos (by assumption)]; exact ⟨⟨rfl, rfl, rfl⟩, rfl⟩)
                              | (rw [tk_set (a := a) (sets := sets) hlt (by omega) hmk hL3_0 (by omega) (by omega) (by omega) (by omega) (i := i) (by omega) hL4_1 (by assumption), if_neg (fun q => by rw [show setOk (sets.getD i default).syms = false by assumption] at q; exact absurd q (by decide))]; exact ⟨⟨rfl, rfl, rfl⟩, rfl⟩))
                     ·skip
                      refine xA tb hM0 6 [0,3,5,10,169] [3,1000001] rfl ?_
                      refine oP rfl (pure_addi rfl rfl rfl (by omega)) ?_
                      refine xA tb hM0 2 [0,3,5,10,11] [3,1000001] rfl ?_
                      refine nx ?_
                      exact ⟨_, ⟨i + 1, rfl, by omega, all_step hL4_1 (by simp_all), rfl⟩, by omega⟩
                    ·skip
                     refine xA tb hM0 8 [3] [3,1000001] rfl ?_
                     refine oP rfl (pure_norm (pure_build rfl pl25 ze25 rfl rfl rfl) rfl) ?_
                     refine xA tb hM0 6 [] [] rfl ?_
                     refine endM3_ret (o1 := [(1000001, _)]) rfl rfl rfl ⟨rfl, trivial⟩ ?_
                     first
                       | (rw [tkR_end (show S.length ≤ k by omega)]; exact ⟨⟨rfl, rfl, rfl⟩, rfl⟩)
                       | (rw [tk_letter (a := a) hlt (by omega)]; exact ⟨⟨rfl, rfl, rfl⟩, rfl⟩)
                       | (rw [tk_mark (a := a) hlt (by omega) (by omega)]; exact ⟨⟨rfl, rfl, rfl⟩, rfl⟩)
                       | (rw [tk_minus (a := a) hlt (by omega) (by omega)]; exact ⟨⟨rfl, rfl, rfl⟩, rfl⟩)
                       | (rw [tk_hash (a := a) hlt (by omega) (by omega)]; exact ⟨⟨rfl, rfl, rfl⟩, rfl⟩)
                       | (rw [tk_dot (a := a) hlt (by omega) (by omega)]; exact ⟨⟨rfl, rfl, rfl⟩, rfl⟩)
                       | (have hmk : noMk (((S.drop k).getD 0 default).toNat : Int) := ⟨by omega, by omega, by omega, by omega, by omega, by omega, by omega, by omega⟩
                          first
                            | (rw [tk_no (a := a) (sets := sets) hlt (by omega) hmk hL3_0 (by omega)]; exact ⟨⟨rfl, rfl, rfl⟩, rfl⟩)
                            | (rw [tk_brace (a := a) (sets := sets) hlt (by omega) hmk hL3_0 (by omega) (by omega) (by omega) (by omega)]; exact ⟨⟨rfl, rfl, rfl⟩, rfl⟩)
                            | (rw [tk_noset (a := a) (sets := sets) hlt (by omega) hmk hL3_0 (by omega) (by omega) (by omega) (by omega) (fun j hj => hL4_1 j (by omega))]; exact ⟨⟨rfl, rfl, rfl⟩, rfl⟩)
                            | (rw [tk_set (a := a) (sets := sets) hlt (by omega) hmk hL3_0 (by omega) (by omega) (by omega) (by omega) (i := i) (by omega) hL4_1 (by assumption), if_pos (by assumption)]; exact ⟨⟨rfl, rfl, rfl⟩, rfl⟩)
                            | (rw [tk_set (a := a) (sets := sets) hlt (by omega) hmk hL3_0 (by omega) (by omega) (by omega) (by omega) (i := i) (by omega) hL4_1 (by assumption), if_neg (fun q => by rw [show setOk (sets.getD i default).syms = false by assumption] at q; exact absurd q (by decide))]; exact ⟨⟨rfl, rfl, rfl⟩, rfl⟩))
end Go.Proofs.YtgdehkimfmfofaaGreat

