/-
  Plain functions: what RegexOperations goes through, and that its answers agree.
-/
import Derived.Test.YtgdehkimfmfofaaGreatJ26
set_option linter.unusedVariables false
set_option linter.unusedSimpArgs false
namespace Go.Wb
set_option linter.unusedVariables false
set_option linter.unusedSimpArgs false
set_option maxRecDepth 10000
open Go.Am Go.Wc
def tbct : List (List Nat) := [[0, 0, 0, 0, 0, 0, 0, 0, 0, 0],
  [1, 2, 3, 4, 5, 6, 7, 8, 9, 10],
  [2, 4, 6, 10, 15, 21, 28, 36, 45, 55],
  [3, 8, 15, 24, 35, 48, 63, 80, 99, 120],
  [4, 10, 20, 42, 75, 121, 182, 260, 357, 475],
  [5, 16, 35, 64, 110, 191, 308, 470, 687, 970],
  [6, 18, 44, 104, 205, 361, 588, 904, 1329, 1885],
  [7, 26, 65, 135, 300, 593, 1076, 1828, 2947, 4552],
  [8, 28, 80, 208, 452, 894, 1652, 2889, 4823, 7738],
  [9, 38, 107, 269, 658, 1415, 2768, 5034, 8639, 14140],
  [10, 40, 130, 369, 914, 2059, 4288, 8354, 15377, 26963],
  [11, 52, 163, 475, 1261, 2948, 6295, 12540, 23618, 42445],
  [12, 54, 196, 623, 1714, 4227, 9516, 19848, 38829, 71961],
  [13, 68, 235, 772, 2243, 5780, 13613, 29809, 61392, 119949],
  [14, 70, 280, 983, 2953, 7878, 19106, 42883, 90288, 180149],
  [15, 86, 325, 1200, 3805, 10644, 27007, 63227, 138286, 285317],
  [16, 88, 384, 1472, 4809, 13933, 36678, 89241, 203206, 437131]]
theorem topc9 : ∀ c, 1 ≤ c → c < 17 → ∀ e, e ≤ 16 - c → ∀ n, n ≤ 9 → tb tbcg (c + 1) n + tb tbct e n ≤ tb tbct (c + e) n := by
  have h : ∀ c, c < 17 → 1 ≤ c → ∀ e, e ≤ 16 - c → ∀ n, n ≤ 9 → tb tbcg (c + 1) n + tb tbct e n ≤ tb tbct (c + e) n := by decide +kernel
  exact fun c h1 h2 => h c h2 h1
theorem ends9 : ∀ n, n ≤ 9 → tb tbca 17 n ≤ tb tbct 16 n ∧ tb tbct 16 n ≤ 437131 := by decide +kernel
theorem aca9 : ∀ c, c ≤ 17 → ∀ n, n ≤ 9 → tb tbca c n ≤ tb tbca 17 n ∧ tb tbwa c n ≤ tb tbwa 17 n := by decide +kernel
theorem star9 : ∀ n, n ≤ 9 → sumP (fun j => 10 + 2 * tb tbwt 16 j + (1 + tb tbct 16 j) * 4500) n ≤ 493320821308 := by decide +kernel
theorem bd_topc {Z : Nat} (hR : 17 * Z + (Z * Z + 3 * Z) ≤ 3381) {v : List Int} (hv : v.length ≤ 9) :
    ∀ {l : List Rx}, (∀ x ∈ l, Nf x ∧ Bd 9 (tb tbcf) (tb tbwf) (tb tbcs) (tb tbws) x ∧ 2 ≤ wtR x ∧ wtR x ≤ 17) → ∀ e, wtS l ≤ l.length + e → e ≤ 16 → Rx.sizes l ≤ Z → (covQ l v).length ≤ tb tbct e v.length
  | [], h, e, he, hE, hz => Nat.zero_le _
  | x :: l, h, e, he, hE, hz => by
    have hx := h x List.mem_cons_self
    rw [wtS_cons, List.length_cons] at he
    rw [Rx.sizes] at hz
    have h0 := wtS_ge (n := 1) (l := l) fun z hz => by have := (h z (List.mem_cons_of_mem _ hz)).2.2.1; omega
    have h1 := bd_topc hR hv (l := l) (fun z hz => h z (List.mem_cons_of_mem _ hz)) (e - (wtR x - 1)) (by omega) (by omega) (by omega)
    have h2 := bd_part tab9 (l := l) hx.1 (fun z hz => (h z (List.mem_cons_of_mem _ hz)).1) hx.2.1 hx.2.2.2 (by omega) hR hv
    have h3 := topc9 (wtR x - 1) (by omega) (by omega) (e - (wtR x - 1)) (by omega) _ hv
    rw [show wtR x - 1 + 1 = wtR x by omega, show wtR x - 1 + (e - (wtR x - 1)) = e by omega] at h3
    rw [covQ, List.length_append]; omega
theorem covq9 {a : Rx} (ha : Nf a) (h0 : a.kind ≠ 0) (ht : Top 16 a) (hz : a.size ≤ 49) {v : List Int} (hv : v.length ≤ 9) : (covQ (seqF a) v).length ≤ tb tbct 16 v.length ∧ WW (covQ (seqF a) v) ≤ tb tbwt 16 v.length := by
  have ht := ht h0
  have hs : Rx.sizes (seqF a) ≤ 49 := Nat.le_trans (sizes_seqF a) hz
  have hn := fun y (hy : y ∈ seqF a) => seqF_nf ha h0 hy
  have h1 : ∀ y ∈ seqF a, 1 ≤ wtR y := fun y hy => (wt_nf (hn y hy).1).1
  have hb : ∀ y ∈ seqF a, Nf y ∧ Bd 9 (tb tbcf) (tb tbwf) (tb tbcs) (tb tbws) y ∧ 2 ≤ wtR y ∧ wtR y ≤ 17 := fun y hy => by
    have h4 := wt_others h1 hy
    have h5 := (hn y hy).2
    have h6 := (hn y hy).1.kinds
    have h7 := size_mem hy
    exact ⟨(hn y hy).1, bd_nf tab9 (Z := 49) (by decide) (hn y hy).1 (by omega) (by omega), (wt_nf (hn y hy).1).2 (by omega), by omega⟩
  exact ⟨bd_topc (Z := 49) (by decide) hv hb 16 ht (Nat.le_refl _) hs, bd_top tab9 (Z := 49) (by decide) (t := tb tbwt) (E := 16) top9 hv hb 16 ht (Nat.le_refl _) hs⟩
theorem covQ_app (v : List Int) (B : List Rx) : ∀ A : List Rx, covQ (A ++ B) v = (covQ A v).map (· ++ B) ++ covQ B v
  | [] => by rw [covQ]; rfl
  | x :: A => by
    rw [List.cons_append, covQ, covQ, covQ_app v B A, List.map_append, List.map_flatMap, List.append_assoc]
    simp only [List.map_map, Function.comp_def, List.append_assoc]
theorem covQ_mlen {l : List Rx} (hn : ∀ x ∈ l, Nf x) {v : List Int} {L : List Rx} (h : L ∈ covQ l v) : L.length ≤ wtS l := by
  obtain ⟨pre, y, R, e, u, hu, M, hM, rfl⟩ := covQ_mem.1 h
  have hy : y ∈ l := by rw [e]; simp
  have h3 := cv_mlen (hn y hy) (cov_mlen (hn y hy)) hM
  have h4 := wtS_ge (n := 1) (l := R) fun z hz => (wt_nf (hn z (by rw [e]; simp [hz]))).1
  rw [e, wtS_app, wtS_cons, List.length_append]; omega
theorem covA_app (v : List Int) (B : List Rx) : ∀ A : List Rx, covA (A ++ B) v = covA A v ++ covA B v
  | [] => by rw [covA]; rfl
  | x :: A => by rw [List.cons_append, covA, covA, covA_app v B A, List.append_assoc]
theorem WA_sub (v : List Int) {l m : List Rx} (h : l.Sublist m) : WW (covA l v) ≤ WW (covA m v) := by
  induction h with
  | slnil => exact Nat.le_refl _
  | cons x _ ih => rw [covA, WW_app]; omega
  | cons_cons x _ ih => rw [covA, covA, WW_app, WW_app]; omega
theorem WA_perm (v : List Int) {l m : List Rx} (h : l.Perm m) : WW (covA l v) = WW (covA m v) := by
  induction h with
  | nil => rfl
  | cons x _ ih => rw [covA, covA, WW_app, WW_app, ih]
  | swap x y l => rw [covA, covA, covA, covA, WW_app, WW_app, WW_app, WW_app]; omega
  | trans _ _ h1 h2 => omega
theorem WA_altL (v : List Int) : ∀ l : List Rx, WW (covA (altL l) v) = WW (covA l v)
  | [] => rfl
  | x :: l => by
    have e : altL (x :: l) = altF x ++ altL l := rfl
    have h : WW (covA (altF x) v) = WW (covT x v) := by
      by_cases h4 : x.kind = 4
      · rw [altF_4 h4, covT_4 h4]
      · rw [altF_x h4, covA, covA, List.append_nil]
    rw [e, covA_app, covA, WW_app, WW_app, h, WA_altL v l]
theorem WA_altN (v : List Int) (l : List Rx) : WW (covT (altN l) v) ≤ WW (covA l v) := by
  have h1 : WW (covA (altM (altS l) (altK l)) v) ≤ WW (covA (altL l) v) := by
    have h2 : WW (covA (altK l) v) ≤ WW (covA (altL l) v) := WA_sub v (by rw [show altK l = (altL l).filter fun x => !decide (x.kind = 0 ∨ x.kind = 2) from putKs_eq _]; exact List.filter_sublist)
    unfold altM
    split
    · rw [covA_app, covA, covA, covT_x (by show ¬ (2 : Int) = 3; decide) (by show ¬ (2 : Int) = 4; decide) (by show ¬ (2 : Int) = 5; decide), List.append_nil, List.append_nil]; exact h2
    · exact h2
  have h2 : WW (covA (altD l) v) ≤ WW (covA (altM (altS l) (altK l)) v) := by
    have h3 := WA_sub v (cptN_sub (eq := eqR) (l := sortR (altM (altS l) (altK l))) _ (Nat.le_refl _))
    have h4 : WW (covA (sortR (altM (altS l) (altK l))) v) = WW (covA (altM (altS l) (altK l)) v) := WA_perm v (isort_perm _)
    rw [List.take_length, h4] at h3
    exact h3
  have h3 := WA_sub v (altC_sub (altD l))
  have h4 := WA_altL v l
  have h5 : ∀ k : List Rx, WW (covT (altE k) v) ≤ WW (covA k v) := fun k => by
    match k with
    | [] => exact Nat.zero_le _
    | [y] => rw [altE_1 (by rfl), covA, covA, List.append_nil]; exact Nat.le_refl _
    | y :: z :: k => rw [altE_2 (by simp) (by simp), covT_4 rfl]; exact Nat.le_refl _
  have h6 := h5 (altC (altD l))
  unfold altN; omega
theorem mt_of {r : Rx} (h : ∀ v : List Int, v.length ≤ 9 → WW (covT (simR r) v) ≤ 500000000000) (hz : (simR r).size ≤ 500000000000) {w : List Int} (hw : w.length ≤ 9) : ∀ k, k ≤ w.length → (mtR r w k).size ≤ 549755813888 ∧ dSz (mtR r w k) ≤ 549755813888 := by
  have hd : ∀ v : List Int, v.length ≤ 9 → dSz (Dv (simR r) v) ≤ 549755813888 := fun v hv => by
    have h1 := dSz_dZ (Dv (simR r) v)
    have h2 := dZ_Dv (simR_nf r) v
    have h3 := h v hv
    omega
  intro k hk
  rw [mtR_Dv]
  have hl : (w.take k).length ≤ 9 := by rw [List.length_take]; omega
  refine ⟨?_, hd _ hl⟩
  generalize w.take k = v at hl
  revert hl
  refine snoc_ind (P := fun v => v.length ≤ 9 → (Dv (simR r) v).size ≤ 549755813888) (fun _ => by rw [Dv_nil]; omega) (fun v b _ hv => ?_) v
  rw [List.length_append, List.length_singleton] at hv
  rw [Dv_snoc]
  exact Nat.le_trans (dSz_spec b _) (hd v (by omega))
theorem simR_v {r : Rx} (h : validR r = true) : simR r = buildR false r := by unfold simR; rw [if_pos h]
theorem small9 {b : Rx} (hb : Nf b) (hw : wtR b ≤ 17) (hz : b.size ≤ 49) {u : List Int} (hu : u.length ≤ 9) : (covT b u).length ≤ tb tbct 16 u.length ∧ WW (covT b u) ≤ tb tbwt 16 u.length := by
  have h1 := bd_nf tab9 (Z := 49) (by decide) hb hw hz
  have h2 := bd_any tab9 h1 hw hu
  have h3 := aca9 _ hw _ hu
  have h4 := end9 _ hu
  have h5 := ends9 _ hu
  omega
theorem top_cov {a : Rx} (ha : Nf a) (ht : Top 16 a) (hz : a.size ≤ 49) {u : List Int} (hu : u.length ≤ 9) : (covT a u).length ≤ tb tbct 16 u.length ∧ WW (covT a u) ≤ tb tbwt 16 u.length := by
  have hk := ha.kinds
  by_cases k : a.kind ≤ 2
  · rw [covT_x (by omega) (by omega) (by omega)]; exact ⟨Nat.zero_le _, Nat.zero_le _⟩
  · by_cases k3 : a.kind = 3
    · have := covq9 ha (by omega) ht hz hu
      rw [seqF_3 k3] at this
      rw [covT_3 k3]; exact this
    · have h1 := ht (by omega)
      rw [seqF_x k3 (by omega), wtS_one, List.length_singleton] at h1
      exact small9 ha h1 hz hu
theorem top_wt {a : Rx} (ha : Nf a) (ht : Top 16 a) : wtR a ≤ 32 := by
  by_cases k : a.kind = 0 ∨ a.kind = 1
  · rw [wtR_x k]; decide
  · have h1 := ht (by omega)
    by_cases k3 : a.kind = 3
    · obtain ⟨e, h2, hn, hkk⟩ := ha.k3 k3
      rw [seqF_3 k3] at h1
      have h3 := wtS_ge (n := 2) (l := a.kids) fun z hz => (wt_nf (hn z hz)).2 (by have := hkk z hz; have := (hn z hz).kinds; omega)
      rw [wtR_34 (.inl k3)]; omega
    · rw [seqF_x k3 (by omega), wtS_one, List.length_singleton] at h1; omega
section
variable {x y : Rx} (hx : Sm x)
include hx
theorem star_valid : validR (.mk 5 [] [x]) = true := valid_star hx.valid
theorem star_size : (Rx.mk 5 [] [x]).size ≤ 50 := by have := hx.size; rw [size_mk, Rx.sizes, Rx.sizes, List.length_nil]; omega
theorem star_mt {w : List Int} (hw : w.length ≤ 9) : ∀ k, k ≤ w.length → (mtR (.mk 5 [] [x]) w k).size ≤ 549755813888 ∧ dSz (mtR (.mk 5 [] [x]) w k) ≤ 549755813888 := by
  have hv := star_valid hx
  have hz := size_build' false _ hv
  have hs := star_size hx
  have e : simR (.mk 5 [] [x]) = starN (simR x) := by rw [simR_v hv, buildR_5 rfl, simR_v hx.valid]; rfl
  have hn := simR_nf x
  refine mt_of (fun v hl => ?_) (by rw [simR_v hv]; omega) hw
  rw [e]
  by_cases h01 : (simR x).kind = 0 ∨ (simR x).kind = 1
  · rw [starN_e h01]; exact Nat.zero_le _
  · by_cases h5 : (simR x).kind = 5
    · rw [starN_5 h5]; exact Nat.le_trans (cov9 hn hx.top hx.ssize hl) (by decide)
    · have hk := hn.kinds
      have hnf : Nf (starN (simR x)) := starN_nf hn
      rw [starN_x h01 h5] at hnf ⊢
      have hw3 : wtR (starB (simR x)) ≤ 32 := Nat.le_trans (wt_starB _) (top_wt hn hx.top)
      have hbs : (starB (simR x)).size ≤ 49 := Nat.le_trans (size_starB _) hx.ssize
      have hcb : Nf (starB (simR x)) → ∀ u : List Int, u.length ≤ 9 → (covT (starB (simR x)) u).length ≤ tb tbct 16 u.length ∧ WW (covT (starB (simR x)) u) ≤ tb tbwt 16 u.length := fun hb u hu => by
        by_cases h4 : (simR x).kind = 4
        · have h1 := hx.top (by omega)
          rw [seqF_x (by omega) (by omega), wtS_one, List.length_singleton] at h1
          exact small9 hb (Nat.le_trans (wt_starB _) h1) hbs hu
        · rw [starB_n fun q => h4 q.1] at hb ⊢
          exact top_cov hb hx.top hx.ssize hu
      generalize starB (simR x) = b at hnf hw3 hbs hcb
      obtain ⟨b', eb, hb, hbk, _⟩ := hnf.k5 rfl
      have eb' : b = b' := by injection eb with _ _ e3; exact (List.cons.inj e3).1
      rw [← eb'] at hb hbk
      have hsz : (Rx.mk 5 [] [b]).size ≤ 50 := by rw [size_mk, Rx.sizes, Rx.sizes, List.length_nil]; omega
      have hsr : Rx.sizes [Rx.mk 5 [] [b]] ≤ 50 := by rw [Rx.sizes, Rx.sizes]; omega
      have hzq := Zq_sq [Rx.mk 5 [] [b]] fun z hz => by rw [List.mem_singleton.1 hz]; exact hnf
      have h4 : Rx.sizes [Rx.mk 5 [] [b]] * Rx.sizes [Rx.mk 5 [] [b]] ≤ 50 * 50 := Nat.mul_le_mul hsr hsr
      have h1 := flat_bdp (f := fun u => (cv b u (covT b u)).map (· ++ [Rx.mk 5 [] [b]])) (a := fun j => 1 + tb tbct 16 j) (b := fun j => 10 + 2 * tb tbwt 16 j + (1 + tb tbct 16 j) * 4500) (N := 9) (fun u hu => by
        have h2 := map_bd (R := 4500) (l := [Rx.mk 5 [] [b]]) (LL := cv b u (covT b u)) fun M hM => by
          have h5 := cv_mlen hb (cov_mlen hb) hM
          have h6 : M.length * Rx.sizes [Rx.mk 5 [] [b]] ≤ 32 * 50 := Nat.mul_le_mul (by omega) hsr
          omega
        have h3 := hcb hb u hu
        have h6 := cv_bd hb hbk.2.2 u
        rw [h6.1] at h2
        have h7 : (1 + (covT b u).length) * 4500 ≤ (1 + tb tbct 16 u.length) * 4500 := Nat.mul_le_mul_right _ (by omega)
        show (List.map _ (cv b u (covT b u))).length ≤ _ ∧ WW (List.map _ (cv b u (covT b u))) ≤ _
        omega) v hl
      have h8 := star9 _ hl
      have e : covT (.mk 5 [] [b]) v = [.mk 5 [] [b]] :: covS [b] v (.mk 5 [] [b]) := covT_5 rfl v
      rw [e, WW, covS]
      omega
variable (hy : Sm y)
include hy
theorem alt_valid : validR (.mk 4 [] [x, y]) = true := valid_pair (.inr rfl) hx.valid hy.valid
theorem seq_valid : validR (.mk 3 [] [x, y]) = true := valid_pair (.inl rfl) hx.valid hy.valid
theorem pair_size (k : Int) : (Rx.mk k [] [x, y]).size ≤ 99 := by have := hx.size; have := hy.size; rw [size_two]; omega
theorem alt_mt {w : List Int} (hw : w.length ≤ 9) : ∀ k, k ≤ w.length → (mtR (.mk 4 [] [x, y]) w k).size ≤ 549755813888 ∧ dSz (mtR (.mk 4 [] [x, y]) w k) ≤ 549755813888 := by
  have hv := alt_valid hx hy
  have hz := size_build' false _ hv
  have hs := pair_size hx hy 4
  have e : simR (.mk 4 [] [x, y]) = altN [simR x, simR y] := by rw [simR_v hv, buildR_4 rfl, simR_v hx.valid, simR_v hy.valid]; rfl
  refine mt_of (fun v hl => ?_) (by rw [simR_v hv]; omega) hw
  have h1 := WA_altN v [simR x, simR y]
  have h2 := cov9 (simR_nf x) hx.top hx.ssize hl
  have h3 := cov9 (simR_nf y) hy.top hy.ssize hl
  rw [covA, covA, covA, List.append_nil, WW_app] at h1
  rw [e]; omega
theorem seq_mt {w : List Int} (hw : w.length ≤ 9) : ∀ k, k ≤ w.length → (mtR (.mk 3 [] [x, y]) w k).size ≤ 549755813888 ∧ dSz (mtR (.mk 3 [] [x, y]) w k) ≤ 549755813888 := by
  have hv := seq_valid hx hy
  have hz := size_build' false _ hv
  have hs := pair_size hx hy 3
  have e : simR (.mk 3 [] [x, y]) = seqN [simR x, simR y] := by rw [simR_v hv, buildR_3f rfl, simR_v hx.valid, simR_v hy.valid]; rfl
  refine mt_of (fun v hl => ?_) (by rw [simR_v hv]; omega) hw
  have hna := simR_nf x
  have hnb := simR_nf y
  have hn : ∀ z ∈ [simR x, simR y], Nf z := fun z hz => by
    rcases List.mem_cons.1 hz with rfl | hz
    · exact hna
    · rw [List.mem_singleton.1 hz]; exact hnb
  have ht : Nf (seqN [simR x, simR y]) := seqN_nf hn
  rw [e]
  have hk := ht.kinds
  by_cases k2 : (seqN [simR x, simR y]).kind ≤ 2
  · rw [covT_x (by omega) (by omega) (by omega)]; exact Nat.zero_le _
  · have h0 : (seqN [simR x, simR y]).kind ≠ 0 := by omega
    have hF := seqF_seqN hn h0
    have hF' : seqL [simR x, simR y] = seqF (simR x) ++ seqF (simR y) := by show seqF _ ++ (seqF _ ++ []) = _; rw [List.append_nil]
    rw [hF'] at hF
    have ha0 := seqN_kinds h0 _ List.mem_cons_self
    have hb0 := seqN_kinds h0 (simR y) (by simp)
    by_cases k3 : (seqN [simR x, simR y]).kind = 3
    · have h1 := covq9 hna ha0 hx.top hx.ssize hl
      have h2 := covq9 hnb hb0 hy.top hy.ssize hl
      have h3 := end9 _ hl
      have h4 := ends9 _ hl
      have h5 := top_wt hna hx.top
      have h6 := wt_seqF (simR x)
      have h7 : Rx.sizes (seqF (simR y)) ≤ 49 := Nat.le_trans (sizes_seqF _) hy.ssize
      have h8 := Zq_sq (seqF (simR y)) fun z hz => (seqF_nf hnb hb0 hz).1
      have h9 : Rx.sizes (seqF (simR y)) * Rx.sizes (seqF (simR y)) ≤ 49 * 49 := Nat.mul_le_mul h7 h7
      have h10 := map_bd (R := 4500) (l := seqF (simR y)) (LL := covQ (seqF (simR x)) v) fun M hM => by
        have h11 := covQ_mlen (fun z hz => (seqF_nf hna ha0 hz).1) hM
        have h12 : M.length * Rx.sizes (seqF (simR y)) ≤ 32 * 49 := Nat.mul_le_mul (by omega) h7
        omega
      rw [seqF_3 k3] at hF
      rw [covT_3 k3, hF, covQ_app, WW_app]
      have h13 : (covQ (seqF (simR x)) v).length * 4500 ≤ 437131 * 4500 := Nat.mul_le_mul_right _ (by omega)
      omega
    · rw [seqF_x k3 (by omega)] at hF
      rcases one_app hF with ⟨q1, q2⟩ | ⟨q1, q2⟩
      · have := seqF_one hnb q2
        rw [← this]; exact Nat.le_trans (cov9 hnb hy.top hy.ssize hl) (by decide)
      · have := seqF_one hna q1
        rw [← this]; exact Nat.le_trans (cov9 hna hx.top hx.ssize hl) (by decide)
end
def dvR (x y : Rx) (u : List Int) : Nat → Bool
  | 0 => false
  | k + 1 => dvR x y u k || (matchR x (u.take k) && matchR y (u.drop k))
def agR (x : Rx) (u : List Int) : Nat → Bool
  | 0 => decide ((u.length : Int) = 0)
  | k + 1 => agR x u k || (decide (0 < k) && (matchR x (u.take k) && matchR (.mk 5 [] [x]) (u.drop k)))
theorem dvR_iff {x y : Rx} {u : List Int} : ∀ {n : Nat}, dvR x y u n = true ↔ ∃ k, k < n ∧ matchR x (u.take k) = true ∧ matchR y (u.drop k) = true
  | 0 => ⟨fun h => (by cases h), fun ⟨k, h, _⟩ => absurd h (Nat.not_lt_zero k)⟩
  | n + 1 => by
    rw [dvR, Bool.or_eq_true, Bool.and_eq_true, dvR_iff]
    constructor
    · rintro (⟨k, h, h2⟩ | h)
      · exact ⟨k, by omega, h2⟩
      · exact ⟨n, by omega, h⟩
    · rintro ⟨k, h, h2⟩
      by_cases q : k = n
      · exact .inr (by rw [← q]; exact h2)
      · exact .inl ⟨k, by omega, h2⟩
theorem agR_iff {x : Rx} {u : List Int} : ∀ {n : Nat}, agR x u n = true ↔ u = [] ∨ ∃ k, k < n ∧ 0 < k ∧ matchR x (u.take k) = true ∧ matchR (.mk 5 [] [x]) (u.drop k) = true
  | 0 => by
    rw [agR, decide_eq_true_eq]
    exact ⟨fun h => .inl (List.eq_nil_of_length_eq_zero (by omega)), fun h => h.elim (fun h => by rw [h]; rfl) fun ⟨k, h, _⟩ => absurd h (Nat.not_lt_zero k)⟩
  | n + 1 => by
    rw [agR, Bool.or_eq_true, Bool.and_eq_true, Bool.and_eq_true, decide_eq_true_eq, agR_iff]
    constructor
    · rintro ((h | ⟨k, h, h2⟩) | h)
      · exact .inl h
      · exact .inr ⟨k, by omega, h2⟩
      · exact .inr ⟨n, by omega, h⟩
    · rintro (h | ⟨k, h, h2⟩)
      · exact .inl (.inl h)
      · by_cases q : k = n
        · exact .inr (by rw [← q]; exact h2)
        · exact .inl (.inr ⟨k, by omega, h2⟩)
theorem take_drop_is {u a b : List Int} (h : u = a ++ b) : u.take a.length = a ∧ u.drop a.length = b := by subst h; simp
section
variable {x y : Rx} (hx : Sm x) (hy : Sm y) (u : List Int)
include hx
theorem op_star : matchR (.mk 5 [] [x]) u = agR x u (u.length + 1) := by
  rw [Bool.eq_iff_iff, match_sem (star_valid hx), agR_iff]
  have hs : ∀ w, sem (.mk 5 [] [x]) w ↔ Star (sem x) w := fun w => (sem_5 rfl w).trans (semK_one x w)
  rw [hs]
  constructor
  · intro h
    match u, h with
    | [], _ => exact .inl rfl
    | a :: w, h =>
      obtain ⟨p, q, e, h1, h2⟩ := Star.head.1 h
      have h3 := take_drop_is (u := a :: w) (a := a :: p) (b := q) (by rw [e]; rfl)
      refine .inr ⟨(a :: p).length, ?_, by simp, ?_, ?_⟩
      · have : w.length = p.length + q.length := by rw [e, List.length_append]
        rw [List.length_cons, List.length_cons]; omega
      · rw [h3.1, match_sem hx.valid]; exact h1
      · rw [h3.2, match_sem (star_valid hx), hs]; exact h2
  · rintro (h | ⟨k, _, _, h1, h2⟩)
    · rw [h]; exact .nil
    · rw [match_sem hx.valid] at h1
      rw [match_sem (star_valid hx), hs] at h2
      have := Star.cons h1 h2
      rwa [List.take_append_drop] at this
include hy
theorem op_alt : matchR (.mk 4 [] [x, y]) u = (matchR x u || matchR y u) := by
  rw [Bool.eq_iff_iff, Bool.or_eq_true, match_sem (alt_valid hx hy), match_sem hx.valid, match_sem hy.valid]
  refine (sem_4 rfl u).trans (semA_mem.trans ?_)
  show (∃ z ∈ [x, y], sem z u) ↔ _
  simp
theorem op_seq : matchR (.mk 3 [] [x, y]) u = dvR x y u (u.length + 1) := by
  rw [Bool.eq_iff_iff, match_sem (seq_valid hx hy), dvR_iff]
  refine (sem_3 rfl u).trans ?_
  show semQ [x, y] u ↔ _
  rw [semQ_cons]
  constructor
  · rintro ⟨a, b, e, h1, h2⟩
    rw [semQ_one] at h2
    have h3 := take_drop_is e
    refine ⟨a.length, by rw [e, List.length_append]; omega, ?_, ?_⟩
    · rw [h3.1, match_sem hx.valid]; exact h1
    · rw [h3.2, match_sem hy.valid]; exact h2
  · rintro ⟨k, _, h1, h2⟩
    rw [match_sem hx.valid] at h1
    rw [match_sem hy.valid] at h2
    exact ⟨u.take k, u.drop k, (List.take_append_drop k u).symm, h1, (semQ_one _ _).2 h2⟩
end
end Go.Wb

