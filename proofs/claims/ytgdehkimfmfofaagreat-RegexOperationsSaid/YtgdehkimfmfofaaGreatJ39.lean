/-
  The law RegexOperations holds: for every input it returns true, and its arguments read as before.
-/
import Derived.Test.YtgdehkimfmfofaaGreatJ36
import Derived.Test.YtgdehkimfmfofaaGreatJ38
import Derived.Test.YtgdehkimfmfofaaGreatJ30
import Derived.Test.YtgdehkimfmfofaaGreatJ22
import Derived.Test.YtgdehkimfmfofaaGreatJ29
import Derived.Test.YtgdehkimfmfofaaGreatJ27
set_option linter.unusedVariables false
set_option linter.unusedSimpArgs false
namespace Go.Proofs.YtgdehkimfmfofaaGreat
open Go.Am Go.Wb Go.Wc
set_option linter.unusedVariables false
set_option linter.unusedSimpArgs false
theorem fn53 : Fn1 Tryz.prog 53 Tryz.f53.ntmps 0 (Tryz.f53.body.getD .skip) := ⟨Tryz.f53, Tryz.func53, rfl, rfl, rfl, by kernel_rfl⟩
set_option maxRecDepth 100000 in
theorem abc_call : CallF Tryz.prog 53 [] (.p (letters abcL)) := by
  refine callF_of_code fn53 (Nat.le_of_ble_eq_true rfl) fun w0 M0 hM0 => ?_
  refine xC tb hM0 10 [1,2,3] [] rfl ?_
  refine oP rfl (pure_lit rfl Tryz.underlying39 el83 rfl rfl rfl rfl hM0) ?_
  refine xA tb hM0 4 [] [] rfl ?_
  refine end_ret rfl ?_
  rfl
theorem lvp {s : List UInt8} (hs : s.length ≤ 100) : CallF Tryz.prog 32 [sbytes s, letters abcL, .sl []] (.p (.tup [rx (parseP abcL [] s).1, int (parseP abcL [] s).2])) :=
  parse_call (sets := []) (by omega) (by decide) (by decide) (by decide) (by decide)
theorem lvp1 : CallF Tryz.prog 32 [sbytes [97, 40, 98, 124, 99, 41, 42], letters abcL, .sl []] (.p (.tup [rx xL, int (-1)])) := by
  have h := lvp (s := [97, 40, 98, 124, 99, 41, 42]) (by decide)
  rw [liv1] at h; exact h
theorem lvp2 : CallF Tryz.prog 32 [sbytes [97, 41], letters abcL, .sl []] (.p (.tup [rx (parseP abcL [] [97, 41]).1, int 1])) := by
  have h := lvp (s := [97, 41]) (by decide)
  rw [liv2] at h; exact h
theorem lvp3 : CallF Tryz.prog 32 [sbytes [40, 97], letters abcL, .sl []] (.p (.tup [rx (parseP abcL [] [40, 97]).1, int 2])) := by
  have h := lvp (s := [40, 97]) (by decide)
  rw [liv3] at h; exact h
theorem lvp4 : CallF Tryz.prog 32 [sbytes [97, 42, 98, 124, 42], letters abcL, .sl []] (.p (.tup [rx (parseP abcL [] [97, 42, 98, 124, 42]).1, int 4])) := by
  have h := lvp (s := [97, 42, 98, 124, 42]) (by decide)
  rw [liv4] at h; exact h
theorem lv_print : CallW Tryz.prog 35 [rx xL, letters abcL] (.p (sbytes [97, 40, 98, 124, 99, 41, 42])) := by
  have h := print_call (a := abcL) (r := xL) (by decide) (by decide) (by decide)
  rw [liv5] at h; exact h
theorem lv_d0 : CallN Tryz.prog 24 [rx xL, int 0] (.p (rx restL)) := by
  have h := Derive_call (r := xL) (a := 0) (by decide) (by decide +kernel)
  rw [liv6] at h; exact h
theorem lv_d1 : CallN Tryz.prog 24 [rx xL, int 1] (.p (rx noneRx)) := by
  have h := Derive_call (r := xL) (a := 1) (by decide) (by decide +kernel)
  rw [liv7] at h; exact h
theorem lv_s : CallF Tryz.prog 19 [rx (.mk 4 [] [emptyRx, restL])] (.p (rx restL)) := by
  have h := simS_call (r := .mk 4 [] [emptyRx, restL]) (by decide)
  rw [liv8] at h; exact h
theorem lv_r : CallF Tryz.prog 21 [rx xL] (.p (rx zL)) := by
  have h := revS_call (r := xL) (by decide)
  rw [liv9] at h; exact h
theorem lv_m1 : CallF Tryz.prog 28 [rx xL, ints [0, 1, 2, 1]] (.p (bool true)) := by
  have h := match_call (r := xL) (w := [0, 1, 2, 1]) (by decide) (by decide) (by decide +kernel)
  rw [liv10] at h; exact h
theorem lv_m2 : CallF Tryz.prog 28 [rx xL, ints [1]] (.p (bool false)) := by
  have h := match_call (r := xL) (w := [1]) (by decide) (by decide) (by decide +kernel)
  rw [liv11] at h; exact h
theorem fn23 : Fn1 Tryz.prog 23 Tryz.f23.ntmps 0 (Tryz.f23.body.getD .skip) := ⟨Tryz.f23, Tryz.func23, rfl, rfl, rfl, by kernel_rfl⟩
set_option maxRecDepth 100000 in
set_option maxHeartbeats 8000000 in
theorem lives_call : CallW Tryz.prog 23 [] (.p (bool true)) := by
  refine callW_of_code fn23 (Nat.le_of_ble_eq_true rfl) fun w0 M0 hM0 hdr => ?_
  refine xC tb hM0 7 [] [] rfl ?_
  refine oP rfl (pure_call rfl rfl rfl (abc_call) hM0) ?_
  refine xA tb hM0 6 [1,15] [] rfl ?_
  refine oP rfl (pure_call rfl rfl rfl (lvp1) hM0) ?_
  refine xA tb hM0 10 [1,2,3] [2] rfl ?_
  refine oP rfl (pure_lit rfl Tryz.underlying22 el3 rfl rfl rfl rfl hM0) ?_
  refine oP rfl (pure_callN rfl rfl rfl rfl (one_call [1, 2]) hM0) ?_
  refine xA tb hM0 0 [1,2,3,20] [2] rfl ?_
  refine oP rfl (pure_lit rfl Tryz.underlying23 el25 rfl rfl rfl rfl hM0) ?_
  refine oP rfl (pure_callN rfl rfl rfl rfl (of_call 5 [oneR [1, 2]]) hM0) ?_
  refine xA tb hM0 6 [1,2,3,4] [2,4] rfl ?_
  refine code_draw mixed (by kernel_rfl) _ rfl ?_
  refine dl_pure rfl rfl rfl (pure_move rfl rfl) ?_
  refine dl_pure rfl rfl rfl (pure_to (b' := false) (pure_neq rfl rfl rfl) (by decide)) ?_
  refine dl_pure rfl rfl rfl (pure_move rfl rfl) ?_
  refine dl_pure_g rfl rfl rfl rfl rfl (pure_load_box_agg rfl ag25 sz25 rfl rfl rfl rfl) ?_
  refine dl_pure_g rfl rfl rfl rfl rfl (pure_lit rfl Tryz.underlying22 el3 rfl rfl rfl rfl hM0) ?_
  refine dl_pure_g rfl rfl rfl rfl rfl (pure_callN rfl rfl rfl rfl (one_call [0]) hM0) ?_
  refine dl_pure_g rfl rfl rfl rfl rfl (pure_load_box_agg rfl ag25 sz25 rfl rfl rfl rfl) ?_
  refine dpk 123 [(1,_),(2,_),(4,_),(25,_),(26,_),(28,_),(29,_)] [(2,_),(4,_)] rfl rfl rfl ?_
  refine dl_pure_g rfl rfl rfl rfl rfl (pure_lit rfl Tryz.underlying23 el25 rfl rfl rfl rfl hM0) ?_
  refine dl_pure_g rfl rfl rfl rfl rfl (pure_callN rfl rfl rfl rfl (of_call 3 [oneR [0], restL]) hM0) ?_
  refine dl_pure_g rfl rfl rfl rfl rfl (pure_callb (b' := true) rfl rfl rfl (same_call (a := xL) (b := xL) (by decide) (by decide)) hM0 (by kernel_rfl)) ?_
  refine dl_pure_g rfl rfl rfl rfl rfl (pure_not rfl rfl) ?_
  refine dl_pure rfl rfl rfl (pure_pick_f rfl rfl rfl rfl) ?_
  refine dl_nil ?_
  refine xD tb hM0 7 [1,2,4,36] [2,4] rfl ?_
  refine oP rfl (pure_call rfl rfl rfl (lvp2) hM0) ?_
  refine xA tb hM0 11 [1,2,4,6,41] [2,4] rfl ?_
  refine oP rfl (pure_call rfl rfl rfl (lvp3) hM0) ?_
  refine xA tb hM0 11 [1,2,4,6,8,46] [2,4] rfl ?_
  refine oP rfl (pure_call rfl rfl rfl (lvp4) hM0) ?_
  refine xA tb hM0 12 [1,2,4,8,10,50] [2,4] rfl ?_
  refine oP rfl (pure_to (b' := false) (pure_neq rfl rfl rfl) (by decide)) ?_
  refine xA tb hM0 2 [1,2,4,10,52,53] [2,4] rfl ?_
  refine oP rfl (pure_to (b' := false) (pure_neq rfl rfl rfl) (by decide)) ?_
  refine xA tb hM0 3 [1,2,4,56,57] [2,4] rfl ?_
  refine oP rfl (pure_to (b' := false) (pure_neq rfl rfl rfl) (by decide)) ?_
  refine xA tb hM0 4 [2,4,60,61,62] [2,4] rfl ?_
  refine oP rfl (pure_callW hdr rfl rfl rfl (lv_print) hM0) ?_
  refine oP rfl (pure_to (b' := false) (pure_sneq rfl rfl rfl) (by decide)) ?_
  refine xA tb hM0 3 [2,4,66,67] [2,4] rfl ?_
  refine oP rfl (pure_callb (b' := true) rfl rfl rfl (valid_call _ xL (Nat.le_refl _) (by decide)) hM0 (liv12)) ?_
  refine xA tb hM0 4 [2,4,71,72] [2,4] rfl ?_
  refine oP rfl (pure_callb (b' := false) rfl rfl rfl (Empty_call (r := xL) (by decide)) hM0 (by kernel_rfl)) ?_
  refine xA tb hM0 3 [2,4,75,76] [2,4] rfl ?_
  refine oP rfl (pure_callb (b' := true) rfl rfl rfl (Empty_call (r := restL) (by decide)) hM0 (by kernel_rfl)) ?_
  refine xA tb hM0 9 [2,4] [2,4] rfl ?_
  refine code_draw mixed (by kernel_rfl) _ rfl ?_
  refine dl_pure rfl rfl rfl (pure_load_box_agg rfl ag25 sz25 rfl rfl rfl rfl) ?_
  refine dl_pure rfl rfl rfl (pure_callN rfl rfl rfl rfl (lv_d0) hM0) ?_
  refine dl_pure rfl rfl rfl (pure_load_box_agg rfl ag25 sz25 rfl rfl rfl rfl) ?_
  refine dl_pure rfl rfl rfl (pure_callb (b' := true) rfl rfl rfl (same_call (a := restL) (b := restL) (by decide) (by decide)) hM0 (by kernel_rfl)) ?_
  refine dl_pure rfl rfl rfl (pure_not rfl rfl) ?_
  refine dl_pure rfl rfl rfl (pure_move rfl rfl) ?_
  refine dl_pure_g rfl rfl rfl rfl rfl (pure_load_box_agg rfl ag25 sz25 rfl rfl rfl rfl) ?_
  refine dpk 123 [(2,_),(4,_),(85,_),(86,_)] [(2,_),(4,_)] rfl rfl rfl ?_
  refine dl_pure_g rfl rfl rfl rfl rfl (pure_callN rfl rfl rfl rfl (lv_d1) hM0) ?_
  refine dl_pure_g rfl rfl rfl rfl rfl (pure_fieldv rfl fd25_0 rfl rfl) ?_
  refine dl_pure_g rfl rfl rfl rfl rfl (pure_to (b' := false) (pure_neq rfl rfl rfl) (by decide)) ?_
  refine dl_pure rfl rfl rfl (pure_pick_f rfl rfl rfl rfl) ?_
  refine dl_nil ?_
  refine xD tb hM0 6 [2,4] [2,4] rfl ?_
  refine oP rfl (pure_norm (pure_build rfl pl25 ze25 rfl rfl rfl) rfl) ?_
  refine xA tb hM0 1 [2,4,91,92] [2,4] rfl ?_
  refine oP rfl (pure_lit rfl Tryz.underlying23 el25 rfl rfl rfl rfl hM0) ?_
  refine oP rfl (pure_callN rfl rfl rfl rfl (of_call 4 [emptyRx, restL]) hM0) ?_
  refine xA tb hM0 0 [2,4,94] [2,4] rfl ?_
  refine oP rfl (pure_call rfl rfl rfl (lv_s) hM0) ?_
  refine xA tb hM0 7 [2,4,11,96] [2,4,11] rfl ?_
  refine oP rfl (pure_call rfl rfl rfl (lv_r) hM0) ?_
  refine xA tb hM0 8 [2,12,98,99] [2,12] rfl ?_
  refine oP rfl (pure_callb (b' := true) rfl rfl rfl (same_call (a := restL) (b := restL) (by decide) (by decide)) hM0 (by kernel_rfl)) ?_
  refine xA tb hM0 2 [2,12,101,102] [2,12] rfl ?_
  refine oP rfl (pure_lit rfl Tryz.underlying22 el3 rfl rfl rfl rfl hM0) ?_
  refine oP rfl (pure_callb (b' := true) rfl rfl rfl (lv_m1) hM0 (rfl)) ?_
  refine xA tb hM0 3 [12,106,107] [12] rfl ?_
  refine oP rfl (pure_lit rfl Tryz.underlying22 el3 rfl rfl rfl rfl hM0) ?_
  refine oP rfl (pure_callb (b' := false) rfl rfl rfl (lv_m2) hM0 (rfl)) ?_
  refine xA tb hM0 5 [12,112,114] [12] rfl ?_
  refine oP rfl (pure_to (b' := true) (pure_eql rfl rfl rfl) (by decide)) ?_
  refine xA tb hM0 4 [117,119] [] rfl ?_
  refine oP rfl (pure_len rfl Tryz.underlying23 rfl) ?_
  refine oP rfl (pure_to (b' := true) (pure_eql rfl rfl rfl) (by decide)) ?_
  refine xA tb hM0 5 [] [] rfl ?_
  refine end_ret rfl ?_
  rfl
end Go.Proofs.YtgdehkimfmfofaaGreat

namespace Go.Proofs.YtgdehkimfmfofaaGreat
open Go.Am Go.Wb Go.Wc
set_option linter.unusedVariables false
set_option linter.unusedSimpArgs false
theorem fn12 : FnC Tryz.prog 12 Tryz.f12.ntmps 2 25 3 (Tryz.f12.body.getD .skip) := ⟨Tryz.f12, Tryz.func12, rfl, rfl, rfl, by kernel_rfl, ag25, sz25⟩
set_option maxRecDepth 100000 in
theorem regex_call {l : List Int} (h64 : I64s l) (hl : l.length ≤ 9223372036854775807) : CallF Tryz.prog 12 [ints l] (.p (rx (shapedP l 3))) := by
  refine callF_of_codeC fn12 (Nat.le_of_ble_eq_true rfl) fun w0 M0 hM0 => ?_
  refine xC tb hM0 8 [2,3] [2] rfl ?_
  refine oP rfl (pure_call rfl rfl rfl (shaped_call h64 (by decide) (by decide) hl) hM0) ?_
  refine xA tb hM0 4 [] [] rfl ?_
  refine endC_ret rfl ?_
  rfl
end Go.Proofs.YtgdehkimfmfofaaGreat

namespace Go.Am
open Go.RowKit
section
variable {P : Program} {w0 : Fr} {M0 : Nat → Prop} {o : Oper} {ρ : Operand → Option SV} {ob : List (Nat × Ob)} {x z : Operand} {T e : TypeId} {k : Nat} {c : Cls}
theorem pure_slice_hm {α : Type} {f : α → AV} {l : List α} {q' : IntKind} {j : Int} (ho : o.op = .slice T x none (some z) none) (hT : P.underlying T = some (.slice e)) (hk : szOf P e = some k) (hx : viewAt ρ ob x = some (c, .sl (l.map f))) (hz : scal ρ z = some (.int q' j))
    (h : 0 ≤ j ∧ j ≤ l.length) (hxk : ∀ z, (AV.cells (f z)).length = k) : Pure P w0 M0 o ρ ob (.v c (.sl ((l.take j.toNat).map f))) := by
  have := pure_slice_h (P := P) (w0 := w0) (M0 := M0) ho hT hk hx hz (by simpa using h) (map_len hxk)
  rwa [← List.map_take] at this
end
end Go.Am
namespace Go.Proofs.YtgdehkimfmfofaaGreat
open Go.Am Go.Wb Go.Wc
set_option linter.unusedVariables false
set_option linter.unusedSimpArgs false
theorem dv_t {x y : Rx} {u : List Int} {k : Nat} (h : dvR x y u k = true) : dvR x y u (k + 1) = true := by rw [dvR, h]; rfl
theorem dv_m {x y : Rx} {u : List Int} {k : Nat} (h : dvR x y u k = false) (h2 : matchR x (u.take k) = true) : dvR x y u (k + 1) = matchR y (u.drop k) := by rw [dvR, h, h2]; rfl
theorem dv_f {x y : Rx} {u : List Int} {k : Nat} (h : dvR x y u k = false) (h2 : matchR x (u.take k) = false) : dvR x y u (k + 1) = false := by rw [dvR, h, h2]; rfl
theorem ag_t {x : Rx} {u : List Int} {k : Nat} (h : agR x u k = true) : agR x u (k + 1) = true := by rw [agR, h]; rfl
theorem ag_0 {x : Rx} {u : List Int} {k : Nat} (h : agR x u k = false) (h2 : decide ((k : Int) > 0) = false) : agR x u (k + 1) = false := by
  have : k = 0 := by have := of_decide_eq_false h2; omega
  rw [agR, h, this]; rfl
theorem ag_m {x : Rx} {u : List Int} {k : Nat} (h : agR x u k = false) (h2 : decide ((k : Int) > 0) = true) (h3 : matchR x (u.take k) = true) : agR x u (k + 1) = matchR (.mk 5 [] [x]) (u.drop k) := by
  have : 0 < k := by have := of_decide_eq_true h2; omega
  rw [agR, h, h3, decide_eq_true this]; rfl
theorem ag_f {x : Rx} {u : List Int} {k : Nat} (h : agR x u k = false) (h3 : matchR x (u.take k) = false) : agR x u (k + 1) = false := by
  rw [agR, h, h3]; cases decide (0 < k) <;> rfl
theorem ne_tf {p : Bool} (h : p = false) : ¬ p = true := by rw [h]; decide
theorem or_t {p q r : Bool} (e : r = (p || q)) (h : p = true) : (r == true) = true := by rw [e, h]; rfl
theorem or_f {p q r : Bool} (e : r = (p || q)) (h : p = false) : (r == q) = true := by rw [e, h]; exact eq_same rfl
theorem fn9 : Fn1 Tryz.prog 9 Tryz.f9.ntmps 6 (Tryz.f9.body.getD .skip) := ⟨Tryz.f9, Tryz.func9, rfl, rfl, rfl, by kernel_rfl⟩
set_option maxRecDepth 100000 in
set_option maxHeartbeats 8000000 in
theorem operations_law {l m w : List Int} (hl : l.length ≤ 9223372036854775807) (h64 : I64s l) (hm : m.length ≤ 9223372036854775807) (m64 : I64s m) (hw : w.length ≤ 9223372036854775807) (w64 : I64s w) :
    CallW Tryz.prog 9 [ints l, ints m, ints w] (.p (bool true)) := by
  have sx := sm_shaped l
  have sy := sm_shaped m
  have hu : (wordP w 3 7).length ≤ 7 := wordP_len w 3 7
  have hu9 : (wordP w 3 7).length ≤ 9 := by omega
  have b1 := sx.size
  have b2 := sy.size
  have b3 := star_size sx
  have b4 := pair_size sx sy
  refine callW_of_code fn9 (Nat.le_of_ble_eq_true rfl) fun w0 M0 hM0 hdr => ?_
  refine xC tb hM0 8 [1,2,17] [] rfl ?_
  refine oP rfl (pure_call rfl rfl rfl (regex_call h64 hl) hM0) ?_
  refine xA tb hM0 7 [2,7,19] [7] rfl ?_
  refine oP rfl (pure_call rfl rfl rfl (regex_call m64 hm) hM0) ?_
  refine xA tb hM0 7 [7,8,21] [7,8] rfl ?_
  refine oP rfl (pure_call rfl rfl rfl (word_call w64 (by decide) hw (by decide)) hM0) ?_
  refine xA tb hM0 7 [7,8,9,23,24] [7,8] rfl ?_
  refine oP rfl (pure_lit rfl Tryz.underlying23 el25 rfl rfl rfl rfl hM0) ?_
  refine xA tb hM0 6 [7,8,9,10,26] [7,8] rfl ?_
  refine oP rfl (pure_lit rfl Tryz.underlying23 el25 rfl rfl rfl rfl hM0) ?_
  refine oP rfl (pure_callN rfl rfl rfl rfl (of_call 5 [(shapedP l 3)]) hM0) ?_
  refine xA tb hM0 12 [7,8,9,10,11,12,29] [7,8,11] rfl ?_
  refine oP rfl (pure_lenm rfl Tryz.underlying22 rfl) ?_
  refine xA tb hM0 11 [7,8,9,10,11,12,13,14] [7,8,11] rfl ?_
  refine lp (fun zm zs => ∃ k : Nat, zm = (wordP w 3 7).length + 1 - k ∧ (k ≤ (wordP w 3 7).length + 1) ∧ zs = ⟨101, [(7, .pbox 7 0), (8, .pbox 8 0), (9, .v .pl (ints (wordP w 3 7))), (10, .v .pl (rxs [(shapedP l 3), (shapedP m 3)])), (11, .pbox 11 0), (12, .v .pl (bool (dvR (shapedP l 3) (shapedP m 3) (wordP w 3 7) k))), (13, .v .pl (bool (agR (shapedP l 3) (wordP w 3 7) k))), (14, .v .pl (int k))], [(7, .box 25 [.v .pl (int ((shapedP l 3)).kind), .v .pl (ints ((shapedP l 3)).syms), .v .pl (.sl (Rx.avs ((shapedP l 3)).kids))]), (8, .box 25 [.v .pl (int ((shapedP m 3)).kind), .v .pl (ints ((shapedP m 3)).syms), .v .pl (.sl (Rx.avs ((shapedP m 3)).kids))]), (11, .box 25 [.v .pl (int ((Rx.mk 5 [] [(shapedP l 3)])).kind), .v .pl (ints ((Rx.mk 5 [] [(shapedP l 3)])).syms), .v .pl (.sl (Rx.avs ((Rx.mk 5 [] [(shapedP l 3)])).kids))])]⟩) ?_ ?_
  exact ⟨_, 0, rfl, Nat.zero_le _, rfl⟩
  rintro zm zs ⟨k, rfl, hL1_0, rfl⟩
  refine xA tb hM0 5 [7,8,9,10,11,12,13,14,32,33] [7,8,11] rfl ?_
  refine oP rfl (pure_lenm rfl Tryz.underlying22 rfl) ?_
  refine xA tb hM0 3 [7,8,9,10,11,12,13,14,35] [7,8,11] rfl ?_
  refine spC 35 rfl ?_ ?_ <;> intro h1 <;> try simp only [dq] at h1
  refine xA tb hM0 6 [7,8,9,10,11,12,13,14] [7,8,11] rfl ?_
  refine code_draw mixed (by kernel_rfl) _ rfl ?_
  refine dl_pure rfl rfl rfl (pure_load_box_agg rfl ag25 sz25 rfl rfl rfl rfl) ?_
  refine dl_pure rfl rfl rfl (pure_move rfl rfl) ?_
  refine dl_pure rfl rfl rfl (pure_move rfl rfl) ?_
  refine dl_pure rfl rfl rfl (pure_slice_hm rfl Tryz.underlying22 sz3 rfl rfl (by omega) (fun _ => rfl)) ?_
  refine dl_pure rfl rfl rfl (pure_call rfl rfl rfl (match_call (r := (shapedP l 3)) (w := (wordP w 3 7).take k) (by omega) (by rw [List.length_take]; omega) (sm_match sx (by rw [List.length_take]; omega))) hM0) ?_
  refine dl_pure rfl rfl rfl (pure_assign rfl rfl) ?_
  refine dl_nil ?_
  refine xD tb hM0 2 [7,8,9,10,11,12,13,14,15] [7,8,11] rfl ?_
  refine code_draw mixed (by kernel_rfl) _ rfl ?_
  refine dl_pure rfl rfl rfl (pure_move rfl rfl) ?_
  refine dl_pure rfl rfl rfl (pure_move rfl rfl) ?_
  refine dl_guard rfl (fun h2 => ?_) (fun h2 => ?_)
  have h2' := h2; try simp only [dq] at h2'
  refine dl_skip_g rfl rfl h2 rfl rfl ?_
  refine dl_skip_g rfl rfl h2 rfl rfl ?_
  refine dl_skip_u rfl rfl rfl ?_
  refine dl_skip_u rfl rfl rfl ?_
  refine dl_skip_u rfl rfl rfl ?_
  refine dpk 101 [(7,_),(8,_),(9,_),(10,_),(11,_),(13,_),(14,_),(15,_),(44,_),(46,_),(47,_),(48,_),(49,_)] [(7,_),(8,_),(11,_)] rfl rfl rfl ?_
  refine dl_skip_u rfl rfl rfl ?_
  refine dl_skip_u rfl rfl rfl ?_
  refine dl_skip_g rfl rfl h2 rfl rfl ?_
  refine dl_pure rfl rfl rfl (pure_pick_t rfl rfl h2 rfl) ?_
  refine dl_pure rfl rfl rfl (pure_assign rfl rfl) ?_
  refine dl_nil ?_
  refine xD tb hM0 1 [7,8,9,10,11,12,13,14,15] [7,8,11] rfl ?_
  refine code_draw mixed (by kernel_rfl) _ rfl ?_
  refine dl_pure rfl rfl rfl (pure_move rfl rfl) ?_
  refine dl_pure rfl rfl rfl (pure_move rfl rfl) ?_
  refine dl_guard rfl (fun h3 => ?_) (fun h3 => ?_)
  have h3' := h3; try simp only [dq] at h3'
  refine dl_skip_g rfl rfl h3 rfl rfl ?_
  refine dl_skip_g rfl rfl h3 rfl rfl ?_
  refine dl_skip_g rfl rfl h3 rfl rfl ?_
  refine dl_skip_u rfl rfl rfl ?_
  refine dl_skip_g rfl rfl h3 rfl rfl ?_
  refine dpk 101 [(7,_),(8,_),(9,_),(10,_),(11,_),(12,_),(14,_),(55,_),(60,_)] [(7,_),(8,_),(11,_)] rfl rfl rfl ?_
  refine dl_skip_g rfl rfl h3 rfl rfl ?_
  refine dl_skip_u rfl rfl rfl ?_
  refine dl_skip_u rfl rfl rfl ?_
  refine dl_skip_u rfl rfl rfl ?_
  refine dl_skip_u rfl rfl rfl ?_
  refine dl_skip_u rfl rfl rfl ?_
  refine dl_skip_g rfl rfl h3 rfl rfl ?_
  refine dl_pure rfl rfl rfl (pure_pick_t rfl rfl h3 rfl) ?_
  refine dl_pure rfl rfl rfl (pure_assign rfl rfl) ?_
  refine dl_nil ?_
  refine xD tb hM0 4 [7,8,9,10,11,12,13,36] [7,8,11] rfl ?_
  refine oP rfl (pure_addi rfl rfl rfl (by omega)) ?_
  refine xA tb hM0 2 [7,8,9,10,11,12,13,14] [7,8,11] rfl ?_
  refine nx ?_; rotate_left
  have h3' := h3; try simp only [dq] at h3'
  refine dl_pure_g rfl rfl h3 rfl rfl (pure_move rfl rfl) ?_
  refine dl_pure_g rfl rfl h3 rfl rfl (pure_gtr rfl rfl rfl) ?_
  refine dl_pure_g rfl rfl h3 rfl rfl (pure_move rfl rfl) ?_
  refine dl_guard rfl (fun h4 => ?_) (fun h4 => ?_)
  have h4' := h4; try simp only [dq] at h4'
  refine dl_pure_g rfl rfl h4 rfl rfl (pure_move rfl rfl) ?_
  refine dl_pure_g rfl rfl h3 rfl rfl (pure_pick_t rfl rfl h4 rfl) ?_
  refine dpk 101 [(7,_),(8,_),(9,_),(10,_),(11,_),(12,_),(14,_),(55,_),(60,_)] [(7,_),(8,_),(11,_)] rfl rfl rfl ?_
  refine dl_pure_g rfl rfl h3 rfl rfl (pure_move rfl rfl) ?_
  refine dl_guard rfl (fun h5 => ?_) (fun h5 => ?_)
  have h5' := h5; try simp only [dq] at h5'
  refine dl_pure_g rfl rfl h5 rfl rfl (pure_load_box_agg rfl ag25 sz25 rfl rfl rfl rfl) ?_
  refine dl_pure_g rfl rfl h5 rfl rfl (pure_move rfl rfl) ?_
  refine dl_pure_g rfl rfl h5 rfl rfl (pure_move rfl rfl) ?_
  refine dl_pure_g rfl rfl h5 rfl rfl (pure_slice_lm rfl Tryz.underlying22 sz3 rfl rfl (by first | (simp only [ll]; omega) | omega) (fun _ => rfl)) ?_
  refine dl_pure_g rfl rfl h5 rfl rfl (pure_call rfl rfl rfl (match_call (r := (Rx.mk 5 [] [(shapedP l 3)])) (w := (wordP w 3 7).drop k) (by omega) (by rw [List.length_drop]; omega) (star_mt sx (by rw [List.length_drop]; omega))) hM0) ?_
  refine dl_pure_g rfl rfl h3 rfl rfl (pure_pick_t rfl rfl h5 rfl) ?_
  refine dl_pure rfl rfl rfl (pure_pick_f rfl rfl h3 rfl) ?_
  refine dl_pure rfl rfl rfl (pure_assign rfl rfl) ?_
  refine dl_nil ?_
  refine xD tb hM0 4 [7,8,9,10,11,12,13,36] [7,8,11] rfl ?_
  refine oP rfl (pure_addi rfl rfl rfl (by omega)) ?_
  refine xA tb hM0 2 [7,8,9,10,11,12,13,14] [7,8,11] rfl ?_
  refine nx ?_; rotate_left
  have h5' := h5; try simp only [dq] at h5'
  refine dl_skip_g rfl rfl h5 rfl rfl ?_
  refine dl_skip_g rfl rfl h5 rfl rfl ?_
  refine dl_skip_g rfl rfl h5 rfl rfl ?_
  refine dl_skip_g rfl rfl h5 rfl rfl ?_
  refine dl_skip_g rfl rfl h5 rfl rfl ?_
  refine dl_pure_g rfl rfl h3 rfl rfl (pure_pick_f rfl rfl h5 rfl) ?_
  refine dl_pure rfl rfl rfl (pure_pick_f rfl rfl h3 rfl) ?_
  refine dl_pure rfl rfl rfl (pure_assign rfl rfl) ?_
  refine dl_nil ?_
  refine xD tb hM0 4 [7,8,9,10,11,12,13,36] [7,8,11] rfl ?_
  refine oP rfl (pure_addi rfl rfl rfl (by omega)) ?_
  refine xA tb hM0 2 [7,8,9,10,11,12,13,14] [7,8,11] rfl ?_
  refine nx ?_; rotate_left
  have h4' := h4; try simp only [dq] at h4'
  refine dl_skip_g rfl rfl h4 rfl rfl ?_
  refine dl_pure_g rfl rfl h3 rfl rfl (pure_pick_f rfl rfl h4 rfl) ?_
  refine dpk 101 [(7,_),(8,_),(9,_),(10,_),(11,_),(12,_),(14,_),(55,_),(60,_)] [(7,_),(8,_),(11,_)] rfl rfl rfl ?_
  refine dl_pure_g rfl rfl h3 rfl rfl (pure_move rfl rfl) ?_
  refine dl_skip_g rfl rfl rfl rfl rfl ?_
  refine dl_skip_g rfl rfl rfl rfl rfl ?_
  refine dl_skip_g rfl rfl rfl rfl rfl ?_
  refine dl_skip_g rfl rfl rfl rfl rfl ?_
  refine dl_skip_g rfl rfl rfl rfl rfl ?_
  refine dl_pure_g rfl rfl h3 rfl rfl (pure_pick_f rfl rfl rfl rfl) ?_
  refine dl_pure rfl rfl rfl (pure_pick_f rfl rfl h3 rfl) ?_
  refine dl_pure rfl rfl rfl (pure_assign rfl rfl) ?_
  refine dl_nil ?_
  refine xD tb hM0 4 [7,8,9,10,11,12,13,36] [7,8,11] rfl ?_
  refine oP rfl (pure_addi rfl rfl rfl (by omega)) ?_
  refine xA tb hM0 2 [7,8,9,10,11,12,13,14] [7,8,11] rfl ?_
  refine nx ?_; rotate_left
  have h2' := h2; try simp only [dq] at h2'
  refine dl_pure_g rfl rfl h2 rfl rfl (pure_move rfl rfl) ?_
  refine dl_pure_g rfl rfl h2 rfl rfl (pure_move rfl rfl) ?_
  refine dl_guard rfl (fun h6 => ?_) (fun h6 => ?_)
  have h6' := h6; try simp only [dq] at h6'
  refine dl_pure_g rfl rfl h6 rfl rfl (pure_load_box_agg rfl ag25 sz25 rfl rfl rfl rfl) ?_
  refine dl_pure_g rfl rfl h6 rfl rfl (pure_move rfl rfl) ?_
  refine dl_pure_g rfl rfl h6 rfl rfl (pure_move rfl rfl) ?_
  refine dpk 101 [(7,_),(8,_),(9,_),(10,_),(11,_),(13,_),(14,_),(15,_),(44,_),(46,_),(47,_),(48,_),(49,_)] [(7,_),(8,_),(11,_)] rfl rfl rfl ?_
  refine dl_pure_g rfl rfl h6 rfl rfl (pure_slice_lm rfl Tryz.underlying22 sz3 rfl rfl (by first | (simp only [ll]; omega) | omega) (fun _ => rfl)) ?_
  refine dl_pure_g rfl rfl h6 rfl rfl (pure_call rfl rfl rfl (match_call (r := (shapedP m 3)) (w := (wordP w 3 7).drop k) (by omega) (by rw [List.length_drop]; omega) (sm_match sy (by rw [List.length_drop]; omega))) hM0) ?_
  refine dl_pure_g rfl rfl h2 rfl rfl (pure_pick_t rfl rfl h6 rfl) ?_
  refine dl_pure rfl rfl rfl (pure_pick_f rfl rfl h2 rfl) ?_
  refine dl_pure rfl rfl rfl (pure_assign rfl rfl) ?_
  refine dl_nil ?_
  refine xD tb hM0 1 [7,8,9,10,11,12,13,14,15] [7,8,11] rfl ?_
  refine code_draw mixed (by kernel_rfl) _ rfl ?_
  refine dl_pure rfl rfl rfl (pure_move rfl rfl) ?_
  refine dl_pure rfl rfl rfl (pure_move rfl rfl) ?_
  refine dl_guard rfl (fun h7 => ?_) (fun h7 => ?_)
  have h7' := h7; try simp only [dq] at h7'
  refine dl_skip_g rfl rfl h7 rfl rfl ?_
  refine dl_skip_g rfl rfl h7 rfl rfl ?_
  refine dl_skip_g rfl rfl h7 rfl rfl ?_
  refine dl_skip_u rfl rfl rfl ?_
  refine dl_skip_g rfl rfl h7 rfl rfl ?_
  refine dpk 101 [(7,_),(8,_),(9,_),(10,_),(11,_),(12,_),(14,_),(55,_),(60,_)] [(7,_),(8,_),(11,_)] rfl rfl rfl ?_
  refine dl_skip_g rfl rfl h7 rfl rfl ?_
  refine dl_skip_u rfl rfl rfl ?_
  refine dl_skip_u rfl rfl rfl ?_
  refine dl_skip_u rfl rfl rfl ?_
  refine dl_skip_u rfl rfl rfl ?_
  refine dl_skip_u rfl rfl rfl ?_
  refine dl_skip_g rfl rfl h7 rfl rfl ?_
  refine dl_pure rfl rfl rfl (pure_pick_t rfl rfl h7 rfl) ?_
  refine dl_pure rfl rfl rfl (pure_assign rfl rfl) ?_
  refine dl_nil ?_
  refine xD tb hM0 4 [7,8,9,10,11,12,13,36] [7,8,11] rfl ?_
  refine oP rfl (pure_addi rfl rfl rfl (by omega)) ?_
  refine xA tb hM0 2 [7,8,9,10,11,12,13,14] [7,8,11] rfl ?_
  refine nx ?_; rotate_left
  have h7' := h7; try simp only [dq] at h7'
  refine dl_pure_g rfl rfl h7 rfl rfl (pure_move rfl rfl) ?_
  refine dl_pure_g rfl rfl h7 rfl rfl (pure_gtr rfl rfl rfl) ?_
  refine dl_pure_g rfl rfl h7 rfl rfl (pure_move rfl rfl) ?_
  refine dl_guard rfl (fun h8 => ?_) (fun h8 => ?_)
  have h8' := h8; try simp only [dq] at h8'
  refine dl_pure_g rfl rfl h8 rfl rfl (pure_move rfl rfl) ?_
  refine dl_pure_g rfl rfl h7 rfl rfl (pure_pick_t rfl rfl h8 rfl) ?_
  refine dpk 101 [(7,_),(8,_),(9,_),(10,_),(11,_),(12,_),(14,_),(55,_),(60,_)] [(7,_),(8,_),(11,_)] rfl rfl rfl ?_
  refine dl_pure_g rfl rfl h7 rfl rfl (pure_move rfl rfl) ?_
  refine dl_guard rfl (fun h9 => ?_) (fun h9 => ?_)
  have h9' := h9; try simp only [dq] at h9'
  refine dl_pure_g rfl rfl h9 rfl rfl (pure_load_box_agg rfl ag25 sz25 rfl rfl rfl rfl) ?_
  refine dl_pure_g rfl rfl h9 rfl rfl (pure_move rfl rfl) ?_
  refine dl_pure_g rfl rfl h9 rfl rfl (pure_move rfl rfl) ?_
  refine dl_pure_g rfl rfl h9 rfl rfl (pure_slice_lm rfl Tryz.underlying22 sz3 rfl rfl (by first | (simp only [ll]; omega) | omega) (fun _ => rfl)) ?_
  refine dl_pure_g rfl rfl h9 rfl rfl (pure_call rfl rfl rfl (match_call (r := (Rx.mk 5 [] [(shapedP l 3)])) (w := (wordP w 3 7).drop k) (by omega) (by rw [List.length_drop]; omega) (star_mt sx (by rw [List.length_drop]; omega))) hM0) ?_
  refine dl_pure_g rfl rfl h7 rfl rfl (pure_pick_t rfl rfl h9 rfl) ?_
  refine dl_pure rfl rfl rfl (pure_pick_f rfl rfl h7 rfl) ?_
  refine dl_pure rfl rfl rfl (pure_assign rfl rfl) ?_
  refine dl_nil ?_
  refine xD tb hM0 4 [7,8,9,10,11,12,13,36] [7,8,11] rfl ?_
  refine oP rfl (pure_addi rfl rfl rfl (by omega)) ?_
  refine xA tb hM0 2 [7,8,9,10,11,12,13,14] [7,8,11] rfl ?_
  refine nx ?_; rotate_left
  have h9' := h9; try simp only [dq] at h9'
  refine dl_skip_g rfl rfl h9 rfl rfl ?_
  refine dl_skip_g rfl rfl h9 rfl rfl ?_
  refine dl_skip_g rfl rfl h9 rfl rfl ?_
  refine dl_skip_g rfl rfl h9 rfl rfl ?_
  refine dl_skip_g rfl rfl h9 rfl rfl ?_
  refine dl_pure_g rfl rfl h7 rfl rfl (pure_pick_f rfl rfl h9 rfl) ?_
  refine dl_pure rfl rfl rfl (pure_pick_f rfl rfl h7 rfl) ?_
  refine dl_pure rfl rfl rfl (pure_assign rfl rfl) ?_
  refine dl_nil ?_
  refine xD tb hM0 4 [7,8,9,10,11,12,13,36] [7,8,11] rfl ?_
  refine oP rfl (pure_addi rfl rfl rfl (by omega)) ?_
  refine xA tb hM0 2 [7,8,9,10,11,12,13,14] [7,8,11] rfl ?_
  refine nx ?_; rotate_left
  have h8' := h8; try simp only [dq] at h8'
  refine dl_skip_g rfl rfl h8 rfl rfl ?_
  refine dl_pure_g rfl rfl h7 rfl rfl (pure_pick_f rfl rfl h8 rfl) ?_
  refine dpk 101 [(7,_),(8,_),(9,_),(10,_),(11,_),(12,_),(14,_),(55,_),(60,_)] [(7,_),(8,_),(11,_)] rfl rfl rfl ?_
  refine dl_pure_g rfl rfl h7 rfl rfl (pure_move rfl rfl) ?_
  refine dl_skip_g rfl rfl rfl rfl rfl ?_
  refine dl_skip_g rfl rfl rfl rfl rfl ?_
  refine dl_skip_g rfl rfl rfl rfl rfl ?_
  refine dl_skip_g rfl rfl rfl rfl rfl ?_
  refine dl_skip_g rfl rfl rfl rfl rfl ?_
  refine dl_pure_g rfl rfl h7 rfl rfl (pure_pick_f rfl rfl rfl rfl) ?_
  refine dl_pure rfl rfl rfl (pure_pick_f rfl rfl h7 rfl) ?_
  refine dl_pure rfl rfl rfl (pure_assign rfl rfl) ?_
  refine dl_nil ?_
  refine xD tb hM0 4 [7,8,9,10,11,12,13,36] [7,8,11] rfl ?_
  refine oP rfl (pure_addi rfl rfl rfl (by omega)) ?_
  refine xA tb hM0 2 [7,8,9,10,11,12,13,14] [7,8,11] rfl ?_
  refine nx ?_; rotate_left
  have h6' := h6; try simp only [dq] at h6'
  refine dl_skip_g rfl rfl h6 rfl rfl ?_
  refine dl_skip_g rfl rfl h6 rfl rfl ?_
  refine dl_skip_g rfl rfl h6 rfl rfl ?_
  refine dpk 101 [(7,_),(8,_),(9,_),(10,_),(11,_),(13,_),(14,_),(15,_),(44,_),(46,_),(47,_),(48,_),(49,_)] [(7,_),(8,_),(11,_)] rfl rfl rfl ?_
  refine dl_skip_g rfl rfl h6 rfl rfl ?_
  refine dl_skip_g rfl rfl h6 rfl rfl ?_
  refine dl_pure_g rfl rfl h2 rfl rfl (pure_pick_f rfl rfl h6 rfl) ?_
  refine dl_pure rfl rfl rfl (pure_pick_f rfl rfl h2 rfl) ?_
  refine dl_pure rfl rfl rfl (pure_assign rfl rfl) ?_
  refine dl_nil ?_
  refine xD tb hM0 1 [7,8,9,10,11,12,13,14,15] [7,8,11] rfl ?_
  refine code_draw mixed (by kernel_rfl) _ rfl ?_
  refine dl_pure rfl rfl rfl (pure_move rfl rfl) ?_
  refine dl_pure rfl rfl rfl (pure_move rfl rfl) ?_
  refine dl_guard rfl (fun h10 => ?_) (fun h10 => ?_)
  have h10' := h10; try simp only [dq] at h10'
  refine dl_skip_g rfl rfl h10 rfl rfl ?_
  refine dl_skip_g rfl rfl h10 rfl rfl ?_
  refine dl_skip_g rfl rfl h10 rfl rfl ?_
  refine dl_skip_u rfl rfl rfl ?_
  refine dl_skip_g rfl rfl h10 rfl rfl ?_
  refine dpk 101 [(7,_),(8,_),(9,_),(10,_),(11,_),(12,_),(14,_),(55,_),(60,_)] [(7,_),(8,_),(11,_)] rfl rfl rfl ?_
  refine dl_skip_g rfl rfl h10 rfl rfl ?_
  refine dl_skip_u rfl rfl rfl ?_
  refine dl_skip_u rfl rfl rfl ?_
  refine dl_skip_u rfl rfl rfl ?_
  refine dl_skip_u rfl rfl rfl ?_
  refine dl_skip_u rfl rfl rfl ?_
  refine dl_skip_g rfl rfl h10 rfl rfl ?_
  refine dl_pure rfl rfl rfl (pure_pick_t rfl rfl h10 rfl) ?_
  refine dl_pure rfl rfl rfl (pure_assign rfl rfl) ?_
  refine dl_nil ?_
  refine xD tb hM0 4 [7,8,9,10,11,12,13,36] [7,8,11] rfl ?_
  refine oP rfl (pure_addi rfl rfl rfl (by omega)) ?_
  refine xA tb hM0 2 [7,8,9,10,11,12,13,14] [7,8,11] rfl ?_
  refine nx ?_; rotate_left
  have h10' := h10; try simp only [dq] at h10'
  refine dl_pure_g rfl rfl h10 rfl rfl (pure_move rfl rfl) ?_
  refine dl_pure_g rfl rfl h10 rfl rfl (pure_gtr rfl rfl rfl) ?_
  refine dl_pure_g rfl rfl h10 rfl rfl (pure_move rfl rfl) ?_
  refine dl_guard rfl (fun h11 => ?_) (fun h11 => ?_)
  have h11' := h11; try simp only [dq] at h11'
  refine dl_pure_g rfl rfl h11 rfl rfl (pure_move rfl rfl) ?_
  refine dl_pure_g rfl rfl h10 rfl rfl (pure_pick_t rfl rfl h11 rfl) ?_
  refine dpk 101 [(7,_),(8,_),(9,_),(10,_),(11,_),(12,_),(14,_),(55,_),(60,_)] [(7,_),(8,_),(11,_)] rfl rfl rfl ?_
  refine dl_pure_g rfl rfl h10 rfl rfl (pure_move rfl rfl) ?_
  refine dl_guard rfl (fun h12 => ?_) (fun h12 => ?_)
  have h12' := h12; try simp only [dq] at h12'
  refine dl_pure_g rfl rfl h12 rfl rfl (pure_load_box_agg rfl ag25 sz25 rfl rfl rfl rfl) ?_
  refine dl_pure_g rfl rfl h12 rfl rfl (pure_move rfl rfl) ?_
  refine dl_pure_g rfl rfl h12 rfl rfl (pure_move rfl rfl) ?_
  refine dl_pure_g rfl rfl h12 rfl rfl (pure_slice_lm rfl Tryz.underlying22 sz3 rfl rfl (by first | (simp only [ll]; omega) | omega) (fun _ => rfl)) ?_
  refine dl_pure_g rfl rfl h12 rfl rfl (pure_call rfl rfl rfl (match_call (r := (Rx.mk 5 [] [(shapedP l 3)])) (w := (wordP w 3 7).drop k) (by omega) (by rw [List.length_drop]; omega) (star_mt sx (by rw [List.length_drop]; omega))) hM0) ?_
  refine dl_pure_g rfl rfl h10 rfl rfl (pure_pick_t rfl rfl h12 rfl) ?_
  refine dl_pure rfl rfl rfl (pure_pick_f rfl rfl h10 rfl) ?_
  refine dl_pure rfl rfl rfl (pure_assign rfl rfl) ?_
  refine dl_nil ?_
  refine xD tb hM0 4 [7,8,9,10,11,12,13,36] [7,8,11] rfl ?_
  refine oP rfl (pure_addi rfl rfl rfl (by omega)) ?_
  refine xA tb hM0 2 [7,8,9,10,11,12,13,14] [7,8,11] rfl ?_
  refine nx ?_; rotate_left
  have h12' := h12; try simp only [dq] at h12'
  refine dl_skip_g rfl rfl h12 rfl rfl ?_
  refine dl_skip_g rfl rfl h12 rfl rfl ?_
  refine dl_skip_g rfl rfl h12 rfl rfl ?_
  refine dl_skip_g rfl rfl h12 rfl rfl ?_
  refine dl_skip_g rfl rfl h12 rfl rfl ?_
  refine dl_pure_g rfl rfl h10 rfl rfl (pure_pick_f rfl rfl h12 rfl) ?_
  refine dl_pure rfl rfl rfl (pure_pick_f rfl rfl h10 rfl) ?_
  refine dl_pure rfl rfl rfl (pure_assign rfl rfl) ?_
  refine dl_nil ?_
  refine xD tb hM0 4 [7,8,9,10,11,12,13,36] [7,8,11] rfl ?_
  refine oP rfl (pure_addi rfl rfl rfl (by omega)) ?_
  refine xA tb hM0 2 [7,8,9,10,11,12,13,14] [7,8,11] rfl ?_
  refine nx ?_; rotate_left
  have h11' := h11; try simp only [dq] at h11'
  refine dl_skip_g rfl rfl h11 rfl rfl ?_
  refine dl_pure_g rfl rfl h10 rfl rfl (pure_pick_f rfl rfl h11 rfl) ?_
  refine dpk 101 [(7,_),(8,_),(9,_),(10,_),(11,_),(12,_),(14,_),(55,_),(60,_)] [(7,_),(8,_),(11,_)] rfl rfl rfl ?_
  refine dl_pure_g rfl rfl h10 rfl rfl (pure_move rfl rfl) ?_
  refine dl_skip_g rfl rfl rfl rfl rfl ?_
  refine dl_skip_g rfl rfl rfl rfl rfl ?_
  refine dl_skip_g rfl rfl rfl rfl rfl ?_
  refine dl_skip_g rfl rfl rfl rfl rfl ?_
  refine dl_skip_g rfl rfl rfl rfl rfl ?_
  refine dl_pure_g rfl rfl h10 rfl rfl (pure_pick_f rfl rfl rfl rfl) ?_
  refine dl_pure rfl rfl rfl (pure_pick_f rfl rfl h10 rfl) ?_
  refine dl_pure rfl rfl rfl (pure_assign rfl rfl) ?_
  refine dl_nil ?_
  refine xD tb hM0 4 [7,8,9,10,11,12,13,36] [7,8,11] rfl ?_
  refine oP rfl (pure_addi rfl rfl rfl (by omega)) ?_
  refine xA tb hM0 2 [7,8,9,10,11,12,13,14] [7,8,11] rfl ?_
  refine nx ?_; rotate_left
  refine xA tb hM0 10 [8,9,10,11,12,13,69,70] [8,11] rfl ?_
  refine oP rfl (pure_call rfl rfl rfl (match_call (r := (shapedP l 3)) (w := (wordP w 3 7)) (by omega) (by omega) (sm_match sx hu9)) hM0) ?_
  refine xA tb hM0 1 [8,9,10,11,12,13,72] [8,11] rfl ?_
  refine spO 72 rfl ?_ ?_ <;> intro h13' <;> try simp only [dq] at h13'
  refine xA tb hM0 10 [9,10,11,12,13,16,77] [11] rfl ?_
  refine oP rfl (pure_callN rfl rfl rfl rfl (of_call 4 [(shapedP l 3), (shapedP m 3)]) hM0) ?_
  refine xA tb hM0 1 [9,10,11,12,13,16,78,79] [11] rfl ?_
  refine oP rfl (pure_call rfl rfl rfl (match_call (r := (Rx.mk 4 [] [(shapedP l 3), (shapedP m 3)])) (w := (wordP w 3 7)) (by have := b4 4; omega) (by omega) (alt_mt sx sy hu9)) hM0) ?_
  refine xA tb hM0 1 [9,10,11,12,13,80,81] [11] rfl ?_
  refine oP rfl (pure_to (b' := true) (pure_beq Tryz.underlying4 rfl rfl rfl) (by first | exact or_t (op_alt sx sy _) (by assumption) | exact or_f (op_alt sx sy _) (by assumption))) ?_
  refine xA tb hM0 2 [9,11,12,13,83,84] [11] rfl ?_
  refine oP rfl (pure_callN rfl rfl rfl rfl (of_call 3 [(shapedP l 3), (shapedP m 3)]) hM0) ?_
  refine xA tb hM0 1 [9,11,12,13,83,85,86] [11] rfl ?_
  refine oP rfl (pure_call rfl rfl rfl (match_call (r := (Rx.mk 3 [] [(shapedP l 3), (shapedP m 3)])) (w := (wordP w 3 7)) (by have := b4 3; omega) (by omega) (seq_mt sx sy hu9)) hM0) ?_
  refine xA tb hM0 1 [9,11,13,83,87,88] [11] rfl ?_
  refine oP rfl (pure_to (b' := true) (pure_beq Tryz.underlying4 rfl rfl rfl) (eq_same (by rw [show k = (wordP w 3 7).length + 1 by omega]; exact op_seq sx sy _))) ?_
  refine oP rfl (pure_to (b' := true) (pure_pick_t rfl rfl rfl rfl) (by decide)) ?_
  refine xA tb hM0 3 [13,91,92,93] [] rfl ?_
  refine oP rfl (pure_call rfl rfl rfl (match_call (r := (Rx.mk 5 [] [(shapedP l 3)])) (w := (wordP w 3 7)) (by omega) (by omega) (star_mt sx hu9)) hM0) ?_
  refine xA tb hM0 1 [91,94,95] [] rfl ?_
  refine oP rfl (pure_to (b' := true) (pure_beq Tryz.underlying4 rfl rfl rfl) (eq_same (by rw [show k = (wordP w 3 7).length + 1 by omega]; exact op_star sx _))) ?_
  refine oP rfl (pure_to (b' := true) (pure_pick_t rfl rfl rfl rfl) (by decide)) ?_
  refine xA tb hM0 1 [98] [] rfl ?_
  refine oP rfl (pure_to (b' := true) (pure_callW (r := .p (bool true)) hdr rfl rfl rfl (lives_call) hM0) (rfl)) ?_
  refine oP rfl (pure_to (b' := true) (pure_pick_t rfl rfl rfl rfl) (by decide)) ?_
  refine xA tb hM0 4 [] [] rfl ?_
  refine end_ret rfl ?_
  rfl
  refine xA tb hM0 2 [9,10,11,12,13,72,73,74] [11] rfl ?_
  refine oP rfl (pure_call rfl rfl rfl (match_call (r := (shapedP m 3)) (w := (wordP w 3 7)) (by omega) (by omega) (sm_match sy hu9)) hM0) ?_
  refine xA tb hM0 7 [9,10,11,12,13,16,77] [11] rfl ?_
  refine oP rfl (pure_callN rfl rfl rfl rfl (of_call 4 [(shapedP l 3), (shapedP m 3)]) hM0) ?_
  refine xA tb hM0 1 [9,10,11,12,13,16,78,79] [11] rfl ?_
  refine oP rfl (pure_call rfl rfl rfl (match_call (r := (Rx.mk 4 [] [(shapedP l 3), (shapedP m 3)])) (w := (wordP w 3 7)) (by have := b4 4; omega) (by omega) (alt_mt sx sy hu9)) hM0) ?_
  refine xA tb hM0 1 [9,10,11,12,13,80,81] [11] rfl ?_
  refine oP rfl (pure_to (b' := true) (pure_beq Tryz.underlying4 rfl rfl rfl) (by first | exact or_t (op_alt sx sy _) (by assumption) | exact or_f (op_alt sx sy _) (by assumption))) ?_
  refine xA tb hM0 2 [9,11,12,13,83,84] [11] rfl ?_
  refine oP rfl (pure_callN rfl rfl rfl rfl (of_call 3 [(shapedP l 3), (shapedP m 3)]) hM0) ?_
  refine xA tb hM0 1 [9,11,12,13,83,85,86] [11] rfl ?_
  refine oP rfl (pure_call rfl rfl rfl (match_call (r := (Rx.mk 3 [] [(shapedP l 3), (shapedP m 3)])) (w := (wordP w 3 7)) (by have := b4 3; omega) (by omega) (seq_mt sx sy hu9)) hM0) ?_
  refine xA tb hM0 1 [9,11,13,83,87,88] [11] rfl ?_
  refine oP rfl (pure_to (b' := true) (pure_beq Tryz.underlying4 rfl rfl rfl) (eq_same (by rw [show k = (wordP w 3 7).length + 1 by omega]; exact op_seq sx sy _))) ?_
  refine oP rfl (pure_to (b' := true) (pure_pick_t rfl rfl rfl rfl) (by decide)) ?_
  refine xA tb hM0 3 [13,91,92,93] [] rfl ?_
  refine oP rfl (pure_call rfl rfl rfl (match_call (r := (Rx.mk 5 [] [(shapedP l 3)])) (w := (wordP w 3 7)) (by omega) (by omega) (star_mt sx hu9)) hM0) ?_
  refine xA tb hM0 1 [91,94,95] [] rfl ?_
  refine oP rfl (pure_to (b' := true) (pure_beq Tryz.underlying4 rfl rfl rfl) (eq_same (by rw [show k = (wordP w 3 7).length + 1 by omega]; exact op_star sx _))) ?_
  refine oP rfl (pure_to (b' := true) (pure_pick_t rfl rfl rfl rfl) (by decide)) ?_
  refine xA tb hM0 1 [98] [] rfl ?_
  refine oP rfl (pure_to (b' := true) (pure_callW (r := .p (bool true)) hdr rfl rfl rfl (lives_call) hM0) (rfl)) ?_
  refine oP rfl (pure_to (b' := true) (pure_pick_t rfl rfl rfl rfl) (by decide)) ?_
  refine xA tb hM0 4 [] [] rfl ?_
  refine end_ret rfl ?_
  rfl
  all_goals
    exact ⟨_, ⟨k + 1, rfl, by omega, by first | exact absurd (show matchR (shapedP l 3) ((wordP w 3 7).take k) = true by assumption) (ne_tf (by assumption)) | ((first | rw [dv_t (by assumption)] | rw [dv_m (by assumption) (by assumption)] | rw [dv_f (by assumption) (by assumption)]); (first | rw [ag_t (by assumption)] | rw [ag_0 (by assumption) (by assumption)] | rw [ag_m (by assumption) (by assumption) (by assumption)] | rw [ag_f (by assumption) (by assumption)]); rfl)⟩, by omega⟩
end Go.Proofs.YtgdehkimfmfofaaGreat

namespace Go.Proofs.YtgdehkimfmfofaaGreat
open Go.Am Go.Wb Go.Wc
set_option linter.unusedVariables false
set_option linter.unusedSimpArgs false
/-! The statement RegexOperationsSaid. -/
namespace regexOperations
open Go.ChangeShapes Go.WideShapes Go.ChangeAt Go.RowKit Go.Am
theorem own : ownKnob Tryz.prog.godebug = none := by kernel_rfl
set_option maxRecDepth 100000 in
theorem lifted (os : Os) (started : os.Started) (H : Type) (enc : TypeId × Value → H) :
    ReturnsInHanded {} Tryz.checked os 9 .any (Rows.regexOperationsSpec.pre6 enc Tryz.prog Tryz.f9 Rows.regexOperationsRow.domain false) (Rows.regexOperationsSpec.post enc Tryz.prog Tryz.f9 false true false false) := by
  refine returnsInHanded_of_change (C := Tryz.checked) own started (by kernel_rfl) Tryz.func9
    (ChangeSpec.witness6 (enc := enc) (C := Tryz.checked) false ⟨#[], #[.slice none 0 0, .slice none 0 0, .slice none 0 0], []⟩ 8 (by kernel_rfl) (by kernel_rfl) (by kernel_rfl) (by kernel_rfl)) ?_
  intro W base args ds gs before hval0 hW hcnd _
  have hval : ∀ (j : Nat) t v, Tryz.f9.params[j]? = some t → args[j]? = some v → Value.okWide Tryz.prog W .any base t v := hval0
  have hW' := hW
  obtain ⟨p, q, hA0, hV, rfl, hfz, hnd⟩ := hW
  have hA : DataW.TrodAll enc Tryz.prog W 0 (fun _ => true) true Tryz.f9.params.toList args.toList ds p := hA0
  rw [Tryz.params9] at hA hval
  obtain ⟨v0, vs0, d0, ds0, p0, q0, hargs, rfl, rfl, h0, r0⟩ := trodAll_cons hA
  obtain ⟨v1, vs1, d1, ds1, p1, q1, rfl, rfl, rfl, h1, r1⟩ := trodAll_cons r0
  obtain ⟨v2, vs2, d2, ds2, p2, q2, rfl, rfl, rfl, h2, r2⟩ := trodAll_cons r1
  obtain ⟨rfl, rfl, rfl⟩ := trodAll_nil r2
  obtain rfl : args = #[v0, v1, v2] := by cases args; simp_all
  obtain ⟨x0, y0, z0, e0⟩ := open_intsA Tryz.underlying22 Tryz.underlying3 sz3 (hval 0 22 v0 rfl rfl) h0
  obtain ⟨x1, y1, z1, e1⟩ := open_intsA Tryz.underlying22 Tryz.underlying3 sz3 (hval 1 22 v1 rfl rfl) h1
  obtain ⟨x2, y2, z2, e2⟩ := open_intsA Tryz.underlying22 Tryz.underlying3 sz3 (hval 2 22 v2 rfl rfl) h2
  have hcall := (operations_law z0 y0 z1 y1 z2 y2).use (w := W) (vs := [v0, v1, v2]) ⟨e0, e1, e2, trivial⟩
  exact law_post (tb := 4) (by kernel_rfl) (by kernel_rfl) (by kernel_rfl) Tryz.underlying4 rfl rfl hW' hcall
theorem over : Rows.regexOperationsRow.holds Tryz.pinned (OpenSpec.ofChange Rows.regexOperationsSpec) :=
  OpenClaim.holds_of_wide 9 Tryz.f9 rfl rfl rfl rfl rfl rfl rfl ⟨rfl, rfl, rfl, rfl, rfl⟩ rfl rfl rfl rfl rfl (by kernel_rfl) Tryz.func9 (by kernel_rfl)
    (of_decide_eq_true (by kernel_rfl)) (by unfold Func.isWrapper; first | (rw [if_pos (by decide +kernel)]; kernel_rfl) | (rw [if_neg (by decide +kernel)]; exact ⟨rfl, rfl⟩))
    (fun os started H enc _ => lifted os started H enc)
end regexOperations
theorem regexOperations_holds : Rows.RegexOperationsSaid := regexOperations.over
end Go.Proofs.YtgdehkimfmfofaaGreat

