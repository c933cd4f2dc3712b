/-
  Plain functions: how much the lists of the cover hold, from tables.
-/
import Derived.Test.YtgdehkimfmfofaaGreatJ24
set_option linter.unusedVariables false
set_option linter.unusedSimpArgs false
namespace Go.Wb
set_option linter.unusedVariables false
set_option linter.unusedSimpArgs false
open Go.Am
mutual
def dZ : Rx → Nat
  | .mk k s l => if k = 4 then 2 + dZs l else if k = 3 then 2 + Zq l else if k = 5 then 2 + dZs l + (Rx.mk k s l).size else 2
def dZs : List Rx → Nat
  | [] => 0
  | x :: l => dZ x + dZs l
def Zq : List Rx → Nat
  | [] => 0
  | x :: l => 2 + dZ x + Rx.sizes l + Zq l
end
theorem dZ_eq (r : Rx) : dZ r = if r.kind = 4 then 2 + dZs r.kids else if r.kind = 3 then 2 + Zq r.kids else if r.kind = 5 then 2 + dZs r.kids + r.size else 2 := by
  cases r with | mk k s l => rw [dZ]; rfl
theorem dZ_4 {r : Rx} (h : r.kind = 4) : dZ r = 2 + dZs r.kids := by rw [dZ_eq, if_pos h]
theorem dZ_3 {r : Rx} (h : r.kind = 3) : dZ r = 2 + Zq r.kids := by rw [dZ_eq, if_neg (by omega), if_pos h]
theorem dZ_5 {r : Rx} (h : r.kind = 5) : dZ r = 2 + dZs r.kids + r.size := by rw [dZ_eq, if_neg (by omega), if_neg (by omega), if_pos h]
theorem dZ_x {r : Rx} (h3 : r.kind ≠ 3) (h4 : r.kind ≠ 4) (h5 : r.kind ≠ 5) : dZ r = 2 := by rw [dZ_eq, if_neg h4, if_neg h3, if_neg h5]
theorem dZs_nil : dZs [] = 0 := by rw [dZs]
theorem dZs_cons (x : Rx) (l : List Rx) : dZs (x :: l) = dZ x + dZs l := by rw [dZs]
theorem Zq_nil : Zq [] = 0 := by rw [Zq]
theorem Zq_cons (x : Rx) (l : List Rx) : Zq (x :: l) = 2 + dZ x + Rx.sizes l + Zq l := by rw [Zq]
theorem Zq_one (x : Rx) : Zq [x] = 2 + dZ x := by rw [Zq, Zq]; rfl
theorem dSz_dZ (r : Rx) : dSz r ≤ dZ r := by
  refine rx_ind (P := fun r => dSz r ≤ dZ r) (fun r ih => ?_) r
  have h1 : ∀ l : List Rx, (∀ x ∈ l, dSz x ≤ dZ x) → dSzs l ≤ dZs l ∧ dSzq l ≤ Zq l := by
    intro l
    induction l with
    | nil => intro _; exact ⟨Nat.le_refl _, Nat.le_refl _⟩
    | cons x l ihl =>
      intro h
      have h1 := ihl fun y hy => h y (List.mem_cons_of_mem _ hy)
      have h2 := h x List.mem_cons_self
      rw [dSzs, dZs_cons, dSzq, Zq_cons]
      refine ⟨by omega, ?_⟩
      split <;> omega
  have h2 := h1 r.kids ih
  rw [dSz_eq, dZ_eq]
  by_cases h4 : r.kind = 4
  · rw [if_pos h4, if_pos h4]; omega
  · rw [if_neg h4, if_neg h4]
    by_cases h3 : r.kind = 3
    · rw [if_pos h3, if_pos h3]; omega
    · rw [if_neg h3, if_neg h3]
      by_cases h5 : r.kind = 5
      · rw [if_pos h5, if_pos h5]; omega
      · rw [if_neg h5, if_neg h5]; omega
theorem sq_add (a b : Nat) : (a + b) * (a + b) = a * a + 2 * (a * b) + b * b := by
  rw [Nat.add_mul, Nat.mul_add, Nat.mul_add, Nat.mul_comm b a]; omega
theorem Nf.kid {x y : Rx} (h : Nf x) (hy : y ∈ x.kids) : Nf y := by
  cases h with
  | none => cases hy
  | empty => cases hy
  | set h => cases hy
  | seq h1 h2 h3 => exact h2 y hy
  | alt h1 h2 h3 h4 h5 h6 => exact h2 y hy
  | star h1 h2 h3 => rw [List.mem_singleton.1 hy]; exact h1
theorem dZ_sq (r : Rx) : Nf r → dZ r ≤ r.size * r.size + r.size := by
  refine rx_ind (P := fun r => Nf r → dZ r ≤ r.size * r.size + r.size) (fun r ih hn => ?_) r
  have h1 : ∀ l : List Rx, (∀ x ∈ l, dZ x ≤ x.size * x.size + x.size) → dZs l ≤ Rx.sizes l * Rx.sizes l + Rx.sizes l ∧ Zq l ≤ Rx.sizes l * Rx.sizes l + 3 * Rx.sizes l := by
    intro l
    induction l with
    | nil => intro _; exact ⟨Nat.le_refl _, Nat.le_refl _⟩
    | cons x l ihl =>
      intro h
      have h1 := ihl fun y hy => h y (List.mem_cons_of_mem _ hy)
      have h2 := h x List.mem_cons_self
      have h3 := size_pos x
      have h4 : Rx.sizes l ≤ x.size * Rx.sizes l := Nat.le_mul_of_pos_left _ h3
      rw [dZs_cons, Zq_cons, Rx.sizes, sq_add]
      exact ⟨by omega, by omega⟩
  have h2 := h1 r.kids fun x hx => ih x hx (hn.kid hx)
  have h3 : r.size - 1 + 1 = r.size := by have := size_pos r; omega
  have h4 := sq_add (r.size - 1) 1
  rw [h3] at h4
  have h5 : Rx.sizes r.kids ≤ r.size - 1 := by have := size_eq r; omega
  have h6 : Rx.sizes r.kids * Rx.sizes r.kids ≤ (r.size - 1) * (r.size - 1) := Nat.mul_le_mul h5 h5
  have h7 := size_pos r
  by_cases k4 : r.kind = 4
  · rw [dZ_4 k4]; omega
  · by_cases k3 : r.kind = 3
    · rw [dZ_3 k3]; omega
    · by_cases k5 : r.kind = 5
      · rw [dZ_5 k5]
        obtain ⟨y, e, _⟩ := hn.k5 k5
        have h8 : r.size = 1 + y.size := by rw [e, size_mk, Rx.sizes, Rx.sizes, List.length_nil]; omega
        have h9 := size_pos y
        omega
      · rw [dZ_x k3 k4 k5]; omega
theorem Zq_sq (l : List Rx) : (∀ x ∈ l, Nf x) → Zq l ≤ Rx.sizes l * Rx.sizes l + 3 * Rx.sizes l := by
  induction l with
  | nil => intro _; exact Nat.le_refl _
  | cons x l ih =>
    intro h
    have h1 := ih fun y hy => h y (List.mem_cons_of_mem _ hy)
    have h2 := dZ_sq x (h x List.mem_cons_self)
    have h3 := size_pos x
    have h4 : Rx.sizes l ≤ x.size * Rx.sizes l := Nat.le_mul_of_pos_left _ h3
    rw [Zq_cons, Rx.sizes, sq_add]; omega
theorem Zq_app : ∀ A B : List Rx, Zq (A ++ B) = Zq A + A.length * Rx.sizes B + Zq B
  | [], B => by rw [List.nil_append, Zq_nil, List.length_nil, Nat.zero_mul, Nat.zero_add]
  | x :: A, B => by
    rw [List.cons_append, Zq_cons, Zq_cons, Zq_app A B, sizes_append, List.length_cons, Nat.add_mul, Nat.one_mul]; omega
theorem Zq_F (t : Rx) : Zq (seqF t) ≤ 2 + dZ t := by
  by_cases h3 : t.kind = 3
  · rw [seqF_3 h3, dZ_3 h3]; omega
  · by_cases h1 : t.kind = 1
    · rw [seqF_1 h1, Zq_nil]; exact Nat.zero_le _
    · rw [seqF_x h3 h1, Zq_one]; exact Nat.le_refl _
def WW : List (List Rx) → Nat
  | [] => 0
  | L :: l => 2 + Zq L + WW l
theorem WW_app : ∀ l m : List (List Rx), WW (l ++ m) = WW l + WW m
  | [], m => by rw [List.nil_append, WW, Nat.zero_add]
  | x :: l, m => by rw [List.cons_append, WW, WW, WW_app l m]; omega
theorem WW_sub : ∀ {l m : List (List Rx)}, l.Pairwise (· ≠ ·) → (∀ x ∈ l, x ∈ m) → WW l ≤ WW m
  | [], m, _, _ => Nat.zero_le _
  | x :: l, m, hp, h => by
    obtain ⟨m1, m2, rfl⟩ := List.append_of_mem (h x List.mem_cons_self)
    have hp' := List.pairwise_cons.1 hp
    have := WW_sub (l := l) (m := m1 ++ m2) hp'.2 fun y hy => by
      have h1 := h y (List.mem_cons_of_mem _ hy)
      rcases List.mem_append.1 h1 with q | q
      · exact List.mem_append_left _ q
      · rcases List.mem_cons.1 q with q | q
        · exact absurd q.symm (hp'.1 y hy)
        · exact List.mem_append_right _ q
    rw [WW_app] at this ⊢
    rw [WW, WW]; omega
theorem two_kinds {p q : Rx → Prop} {l : List Rx} (hd : l.Pairwise (· ≠ ·)) (h : ∀ x ∈ l, p x ∨ q x) (hp : ∀ x ∈ l, ∀ y ∈ l, p x → p y → x = y) (hq : ∀ x ∈ l, ∀ y ∈ l, q x → q y → x = y) : l.length ≤ 2 := by
  match l, hd, h, hp, hq with
  | [], _, _, _, _ => exact Nat.zero_le _
  | [a], _, _, _, _ => exact Nat.le_succ _
  | [a, b], _, _, _, _ => exact Nat.le_refl _
  | a :: b :: c :: l, hd, h, hp, hq =>
    exfalso
    have d1 := List.pairwise_cons.1 hd
    have d2 := List.pairwise_cons.1 d1.2
    have ab := d1.1 b (by simp)
    have ac := d1.1 c (by simp)
    have bc := d2.1 c (by simp)
    have ma : a ∈ a :: b :: c :: l := by simp
    have mb : b ∈ a :: b :: c :: l := by simp
    have mc : c ∈ a :: b :: c :: l := by simp
    rcases h a ma with ha | ha <;> rcases h b mb with hb | hb <;> rcases h c mc with hc | hc <;>
      first | exact ab (hp _ ma _ mb ha hb) | exact ac (hp _ ma _ mc ha hc) | exact bc (hp _ mb _ mc hb hc) | exact ab (hq _ ma _ mb ha hb) | exact ac (hq _ ma _ mc ha hc) | exact bc (hq _ mb _ mc hb hc)
theorem dZs_split (p : Rx → Bool) : ∀ l : List Rx, dZs (l.filter p) + dZs (l.filter fun x => !p x) = dZs l
  | [] => rfl
  | x :: l => by
    have := dZs_split p l
    rw [dZs_cons]
    cases h : p x with
    | true => rw [List.filter_cons_of_pos h, List.filter_cons_of_neg (by simp [h]), dZs_cons]; omega
    | false => rw [List.filter_cons_of_neg (by simp [h]), List.filter_cons_of_pos (by simp [h]), dZs_cons]; omega
theorem dZs_low : ∀ {l : List Rx}, (∀ x ∈ l, dZ x = 2) → dZs l = 2 * l.length
  | [], _ => dZs_nil
  | x :: l, h => by
    rw [dZs_cons, dZs_low fun y hy => h y (List.mem_cons_of_mem _ hy), h x List.mem_cons_self, List.length_cons]; omega
theorem dZs_WW : ∀ {l : List Rx}, (∀ x ∈ l, x.kind = 3 ∨ x.kind = 5) → dZs l ≤ WW (l.map seqF)
  | [], _ => Nat.le_refl _
  | x :: l, h => by
    have h1 := dZs_WW (l := l) fun y hy => h y (List.mem_cons_of_mem _ hy)
    rw [dZs_cons, List.map_cons, WW]
    rcases h x List.mem_cons_self with k | k
    · rw [seqF_3 k, dZ_3 k]; omega
    · rw [seqF_x (by omega) (by omega), Zq_one]; omega
theorem dZ_als {t : Rx} (ht : Nf t) : dZ t ≤ 6 + WW ((als t).map seqF) := by
  have hk := ht.kinds
  by_cases h4 : t.kind = 4
  · obtain ⟨e, h2, hn, hkk, hs, h22, _⟩ := ht.k4 h4
    have h5 := dZs_split (fun a => decide (3 ≤ a.kind)) t.kids
    have h6 : als t = t.kids.filter fun a => decide (3 ≤ a.kind) := by unfold als; rw [altF_4 h4]
    have h7 := dZs_WW (l := als t) fun x hx => (als_nf ht hx).2
    have h8 : ∀ x ∈ t.kids.filter (fun x => !decide (3 ≤ x.kind)), x ∈ t.kids ∧ (x.kind = 1 ∨ x.kind = 2) := fun x hx => by
      have h9 := List.mem_filter.1 hx
      have h10 := (hn x h9.1).kinds
      have h11 := (hkk x h9.1).1
      have h12 : ¬ 3 ≤ x.kind := by simpa using h9.2
      exact ⟨h9.1, by omega⟩
    have h9 := dZs_low (l := t.kids.filter fun x => !decide (3 ≤ x.kind)) fun x hx => by
      have := (h8 x hx).2
      exact dZ_x (by omega) (by omega) (by omega)
    have h10 := two_kinds (p := fun x => x.kind = 1) (q := fun x => x.kind = 2) (l := t.kids.filter fun x => !decide (3 ≤ x.kind)) ((List.Pairwise.imp (fun h => h.2) hs).filter _) (fun x hx => (h8 x hx).2)
      (fun x hx y hy h h' => by rw [(hn x (h8 x hx).1).k1 h, (hn y (h8 y hy).1).k1 h']) fun x hx y hy h h' => h22 x (h8 x hx).1 y (h8 y hy).1 h h'
    rw [dZ_4 h4, ← h5, h9, ← h6]; omega
  · by_cases h3 : 3 ≤ t.kind
    · have h5 : als t = [t] := by unfold als; rw [altF_x h4, List.filter_cons_of_pos (by simp [h3])]; rfl
      have := dZs_WW (l := [t]) fun x hx => by rw [List.mem_singleton.1 hx]; omega
      rw [dZs_cons, dZs_nil] at this
      rw [h5]; omega
    · rw [dZ_x (by omega) h4 (by omega)]; omega
theorem seqF_inj {a b : Rx} (ha : Nf a) (hb : Nf b) (ka : a.kind = 3 ∨ a.kind = 5) (kb : b.kind = 3 ∨ b.kind = 5) (h : seqF a = seqF b) : a = b := by
  rcases ka with ka | ka
  · rcases kb with kb | kb
    · rw [seqF_3 ka, seqF_3 kb] at h
      rw [(ha.k3 ka).1, (hb.k3 kb).1, h]
    · rw [seqF_x (x := b) (by omega) (by omega)] at h
      exact seqF_one ha h
  · rw [seqF_x (x := a) (by omega) (by omega)] at h
    exact (seqF_one hb h.symm).symm
theorem als_pw {t : Rx} (ht : Nf t) : ((als t).map seqF).Pairwise (· ≠ ·) := by
  have h1 : (als t).Pairwise (· ≠ ·) := by
    unfold als
    refine List.Pairwise.filter _ ?_
    by_cases h4 : t.kind = 4
    · rw [altF_4 h4]; exact List.Pairwise.imp (fun h => h.2) (ht.k4 h4).2.2.2.2.1
    · rw [altF_x h4]; exact List.pairwise_singleton _ _
  rw [List.pairwise_map]
  refine List.Pairwise.imp_of_mem (fun {a b} ha hb hab e => ?_) h1
  have h2 := als_nf ht ha
  have h3 := als_nf ht hb
  exact hab (seqF_inj h2.1 h3.1 h2.2 h3.2 e)
theorem dZ_Dv {x : Rx} (hx : Nf x) (v : List Int) : dZ (Dv x v) ≤ 6 + WW (covT x v) := by
  have h1 := dZ_als (Dv_nf hx v)
  have h2 := WW_sub (als_pw (Dv_nf hx v)) (m := covT x v) fun L hL => by
    obtain ⟨a, ha, rfl⟩ := List.mem_map.1 hL
    exact (cov_nf hx).all v a ha
  omega
theorem cv_bd {x : Rx} (hx : Nf x) (h5 : x.kind ≠ 5) (u : List Int) : (cv x u (covT x u)).length = 1 + (covT x u).length ∧ WW (cv x u (covT x u)) ≤ 10 + 2 * WW (covT x u) := by
  have h1 := dZ_Dv hx u
  have h2 := Zq_F (Dv x u)
  unfold cv
  rw [if_neg h5, List.length_cons, WW]
  exact ⟨by omega, by omega⟩
theorem cv_bd5 {x : Rx} (h5 : x.kind = 5) (u : List Int) : cv x u (covT x u) = covT x u := if_pos h5
theorem cv_mlen {x : Rx} (hx : Nf x) (ih : ∀ v M, M ∈ covT x v → M.length ≤ wtR x) {u : List Int} {M : List Rx} (h : M ∈ cv x u (covT x u)) : M.length ≤ wtR x := by
  unfold cv at h
  split at h
  · exact ih _ _ h
  · rcases List.mem_cons.1 h with rfl | h
    · by_cases k3 : (Dv x u).kind = 3
      · exact ih u _ ((cov_nf hx).all u _ (als_self (.inl k3)))
      · have h1 := (wt_nf hx).1
        by_cases k1 : (Dv x u).kind = 1
        · rw [seqF_1 k1]; exact Nat.zero_le _
        · rw [seqF_x k3 k1]; exact h1
    · exact ih _ _ h
theorem cov_mlen {x : Rx} (h : Nf x) : ∀ v M, M ∈ covT x v → M.length ≤ wtR x := by
  induction h with
  | none => intro v M h; rw [covT_x (by decide) (by decide) (by decide)] at h; cases h
  | empty => intro v M h; rw [covT_x (by decide) (by decide) (by decide)] at h; cases h
  | set h => intro v M h; rw [covT_x (by simp [Rx.kind]) (by simp [Rx.kind]) (by simp [Rx.kind])] at h; cases h
  | @seq l h2 hn hk ih =>
    intro v M h
    rw [covT_3 rfl] at h
    obtain ⟨pre, y, R, e, u, hu, M', hM, rfl⟩ := covQ_mem.1 h
    have e' : l = pre ++ y :: R := e
    have hy : y ∈ l := by rw [e']; simp
    have h3 := cv_mlen (hn y hy) (ih y hy) hM
    have h4 := wtS_ge (n := 1) (l := R) fun z hz => (wt_nf (hn z (by rw [e']; simp [hz]))).1
    rw [wtR_34 (.inl rfl)]
    show _ ≤ wtS l
    rw [e', wtS_app, wtS_cons, List.length_append]; omega
  | @alt l h2 hn hk h4 h5 h6 ih =>
    intro v M h
    rw [covT_4 rfl] at h
    obtain ⟨y, hy, h⟩ := covA_mem.1 h
    have h1 := ih y hy v M h
    have h2 := wtS_mem (l := l) hy
    rw [wtR_34 (.inr rfl)]
    show _ ≤ wtS l
    omega
  | @star y hn hk h4 ih =>
    intro v M h
    have e : covT (.mk 5 [] [y]) v = [.mk 5 [] [y]] :: covS [y] v (.mk 5 [] [y]) := covT_5 rfl v
    rw [e] at h
    rw [wtR_5 rfl]
    show _ ≤ 1 + wtS [y]
    rw [wtS_one]
    rcases List.mem_cons.1 h with rfl | h
    · exact Nat.le_add_right 1 _
    · obtain ⟨u, hu, M', hM, rfl⟩ := covS_mem.1 h
      have := cv_mlen hn ih hM
      rw [List.length_append, List.length_singleton]; omega
def sumTo (g : Nat → Nat) : Nat → Nat
  | 0 => g 0
  | n + 1 => sumTo g n + g (n + 1)
def sumP (g : Nat → Nat) : Nat → Nat
  | 0 => 0
  | n + 1 => sumP g n + g (n + 1)
theorem flat_bd {f : List Int → List (List Rx)} {a b : Nat → Nat} {N : Nat} (h : ∀ u, u.length ≤ N → (f u).length ≤ a u.length ∧ WW (f u) ≤ b u.length) :
    ∀ v : List Int, v.length ≤ N → ((sufs v).flatMap f).length ≤ sumTo a v.length ∧ WW ((sufs v).flatMap f) ≤ sumTo b v.length
  | [], hv => by
    have := h [] hv
    rw [sufs, List.flatMap_cons, List.flatMap_nil, List.append_nil]; exact this
  | x :: v, hv => by
    have h1 := flat_bd h v (by rw [List.length_cons] at hv; omega)
    have h2 := h (x :: v) hv
    rw [List.length_cons] at h2
    rw [sufs, List.flatMap_cons, List.length_append, WW_app, List.length_cons, sumTo, sumTo]
    exact ⟨by omega, by omega⟩
theorem flat_bdp {f : List Int → List (List Rx)} {a b : Nat → Nat} {N : Nat} (h : ∀ u, u.length ≤ N → (f u).length ≤ a u.length ∧ WW (f u) ≤ b u.length) :
    ∀ v : List Int, v.length ≤ N → ((sufp v).flatMap f).length ≤ sumP a v.length ∧ WW ((sufp v).flatMap f) ≤ sumP b v.length
  | [], hv => ⟨Nat.le_refl _, Nat.le_refl _⟩
  | x :: v, hv => by
    have h1 := flat_bdp h v (by rw [List.length_cons] at hv; omega)
    have h2 := h (x :: v) hv
    rw [List.length_cons] at h2
    rw [sufp, List.flatMap_cons, List.length_append, WW_app, List.length_cons, sumP, sumP]
    exact ⟨by omega, by omega⟩
theorem map_bd {R : Nat} {l : List Rx} : ∀ {LL : List (List Rx)}, (∀ M ∈ LL, M.length * Rx.sizes l + Zq l ≤ R) → (LL.map (· ++ l)).length = LL.length ∧ WW (LL.map (· ++ l)) ≤ WW LL + LL.length * R
  | [], _ => ⟨rfl, Nat.zero_le _⟩
  | M :: LL, h => by
    have h1 := map_bd (l := l) (LL := LL) fun y hy => h y (List.mem_cons_of_mem _ hy)
    have h2 := h M List.mem_cons_self
    rw [List.map_cons, List.length_cons, List.length_cons, WW, WW, Zq_app, Nat.add_mul, Nat.one_mul]
    exact ⟨by omega, by omega⟩
structure Tab (C N R : Nat) (f F s S a A g G : Nat → Nat → Nat) : Prop where
  fa : ∀ c, c ≤ C → ∀ n, n ≤ N → f c n ≤ a c n ∧ F c n ≤ A c n
  sa : ∀ c, c ≤ C → ∀ n, n ≤ N → s c n ≤ a c n ∧ S c n ≤ A c n
  ag : ∀ c, c ≤ C → ∀ n, n ≤ N → a c n ≤ g c n ∧ A c n ≤ G c n
  fg : ∀ c, c ≤ C → ∀ n, n ≤ N → sumTo (fun j => 1 + f c j) n ≤ g c n ∧ sumTo (fun j => 10 + 2 * F c j + (1 + f c j) * R) n ≤ G c n
  sg : ∀ c, c ≤ C → ∀ n, n ≤ N → sumTo (fun j => s c j) n ≤ g c n ∧ sumTo (fun j => S c j + s c j * R) n ≤ G c n
  st : ∀ c, 2 ≤ c → c < C → ∀ n, n ≤ N → 1 + sumP (fun j => 1 + f c j) n ≤ s (c + 1) n ∧ 2 + R + sumP (fun j => 10 + 2 * F c j + (1 + f c j) * R) n ≤ S (c + 1) n
  alt : ∀ c, 1 ≤ c → c ≤ C → ∀ d, 1 ≤ d → d ≤ C - c → ∀ n, n ≤ N → a c n + a d n ≤ f (c + d) n ∧ A c n + A d n ≤ F (c + d) n
  seq : ∀ c, 2 ≤ c → c ≤ C → ∀ d, 2 ≤ d → d ≤ C - c → ∀ n, n ≤ N → g c n + g d n ≤ f (c + d) n ∧ G c n + G d n ≤ F (c + d) n
section
variable {C N R Z : Nat} {f F s S a A g G : Nat → Nat → Nat}
def Bd (N : Nat) (f F s S : Nat → Nat → Nat) (x : Rx) : Prop := ∀ v : List Int, v.length ≤ N →
  (x.kind ≠ 5 → (covT x v).length ≤ f (wtR x) v.length ∧ WW (covT x v) ≤ F (wtR x) v.length) ∧ (x.kind = 5 → (covT x v).length ≤ s (wtR x) v.length ∧ WW (covT x v) ≤ S (wtR x) v.length)
theorem bd_any (T : Tab C N R f F s S a A g G) {x : Rx} (h : Bd N f F s S x) (hc : wtR x ≤ C) {v : List Int} (hv : v.length ≤ N) : (covT x v).length ≤ a (wtR x) v.length ∧ WW (covT x v) ≤ A (wtR x) v.length := by
  have h1 := h v hv
  have h2 := T.fa _ hc _ hv
  have h3 := T.sa _ hc _ hv
  by_cases h5 : x.kind = 5
  · have := h1.2 h5; omega
  · have := h1.1 h5; omega
theorem bd_room {x : Rx} {l : List Rx} (hx : Nf x) (hl : ∀ y ∈ l, Nf y) (hC : wtR x ≤ C) (hz : Rx.sizes l ≤ Z) (hR : C * Z + (Z * Z + 3 * Z) ≤ R) (u : List Int) : ∀ M ∈ cv x u (covT x u), M.length * Rx.sizes l + Zq l ≤ R := fun M hM => by
  have h1 := cv_mlen hx (cov_mlen hx) hM
  have h2 : M.length * Rx.sizes l ≤ C * Z := Nat.mul_le_mul (by omega) hz
  have h3 := Zq_sq l hl
  have h4 : Rx.sizes l * Rx.sizes l ≤ Z * Z := Nat.mul_le_mul hz hz
  omega
theorem bd_part (T : Tab C N R f F s S a A g G) {x : Rx} {l : List Rx} (hx : Nf x) (hl : ∀ y ∈ l, Nf y) (h : Bd N f F s S x) (hC : wtR x ≤ C) (hz : Rx.sizes l ≤ Z) (hR : C * Z + (Z * Z + 3 * Z) ≤ R) {v : List Int} (hv : v.length ≤ N) :
    ((sufs v).flatMap fun u => (cv x u (covT x u)).map (· ++ l)).length ≤ g (wtR x) v.length ∧ WW ((sufs v).flatMap fun u => (cv x u (covT x u)).map (· ++ l)) ≤ G (wtR x) v.length := by
  have hm := fun u : List Int => map_bd (bd_room (l := l) hx hl hC hz hR u)
  by_cases h5 : x.kind = 5
  · have h1 := flat_bd (f := fun u => (cv x u (covT x u)).map (· ++ l)) (a := fun j => s (wtR x) j) (b := fun j => S (wtR x) j + s (wtR x) j * R) (N := N) (fun u hu => by
      have h2 := hm u
      have h3 := (h u hu).2 h5
      rw [cv_bd5 h5] at h2
      have h4 : (covT x u).length * R ≤ s (wtR x) u.length * R := Nat.mul_le_mul_right _ h3.1
      show (List.map _ (cv x u (covT x u))).length ≤ _ ∧ WW (List.map _ (cv x u (covT x u))) ≤ _
      rw [cv_bd5 h5]
      omega) v hv
    have h2 := T.sg _ hC _ hv
    exact ⟨Nat.le_trans h1.1 h2.1, Nat.le_trans h1.2 h2.2⟩
  · have h1 := flat_bd (f := fun u => (cv x u (covT x u)).map (· ++ l)) (a := fun j => 1 + f (wtR x) j) (b := fun j => 10 + 2 * F (wtR x) j + (1 + f (wtR x) j) * R) (N := N) (fun u hu => by
      have h2 := hm u
      have h3 := (h u hu).1 h5
      have h6 := cv_bd hx h5 u
      rw [h6.1] at h2
      have h4 : (1 + (covT x u).length) * R ≤ (1 + f (wtR x) u.length) * R := Nat.mul_le_mul_right _ (by omega)
      show (List.map _ (cv x u (covT x u))).length ≤ _ ∧ WW (List.map _ (cv x u (covT x u))) ≤ _
      omega) v hv
    have h2 := T.fg _ hC _ hv
    exact ⟨Nat.le_trans h1.1 h2.1, Nat.le_trans h1.2 h2.2⟩
theorem bd_seq (T : Tab C N R f F s S a A g G) (hR : C * Z + (Z * Z + 3 * Z) ≤ R) {v : List Int} (hv : v.length ≤ N) : ∀ {l : List Rx}, l ≠ [] → (∀ x ∈ l, Nf x ∧ Bd N f F s S x ∧ 2 ≤ wtR x) → wtS l ≤ C → Rx.sizes l ≤ Z →
    ((covQ l v).length ≤ g (wtS l) v.length ∧ WW (covQ l v) ≤ G (wtS l) v.length) ∧ (2 ≤ l.length → (covQ l v).length ≤ f (wtS l) v.length ∧ WW (covQ l v) ≤ F (wtS l) v.length)
  | [], h, _, _, _ => absurd rfl h
  | [x], _, h, hC, hz => by
    have hx := h x List.mem_cons_self
    rw [wtS_one] at hC
    rw [Rx.sizes, Rx.sizes] at hz
    rw [covQ, covQ, List.append_nil, wtS_one]
    exact ⟨bd_part T hx.1 (fun y hy => by cases hy) hx.2.1 hC (by rw [Rx.sizes]; omega) hR hv, fun q => absurd q (by simp)⟩
  | x :: y :: l, _, h, hC, hz => by
    have hx := h x List.mem_cons_self
    rw [wtS_cons] at hC
    rw [Rx.sizes] at hz
    have h1 := (bd_seq T hR hv (l := y :: l) (by simp) (fun z hz => h z (List.mem_cons_of_mem _ hz)) (by omega) (by omega)).1
    have h2 := bd_part T (l := y :: l) hx.1 (fun z hz => (h z (List.mem_cons_of_mem _ hz)).1) hx.2.1 (by omega) (by omega) hR hv
    have h3 : 2 ≤ wtS (y :: l) := by have := (h y (by simp)).2.2; rw [wtS_cons]; omega
    have h4 := T.seq _ hx.2.2 (by omega) _ h3 (by omega) _ hv
    have h5 := T.fa (wtR x + wtS (y :: l)) hC _ hv
    have h6 := T.ag (wtR x + wtS (y :: l)) hC _ hv
    rw [covQ, List.length_append, WW_app, wtS_cons]
    exact ⟨⟨by omega, by omega⟩, fun _ => ⟨by omega, by omega⟩⟩
theorem bd_alt (T : Tab C N R f F s S a A g G) {v : List Int} (hv : v.length ≤ N) : ∀ {l : List Rx}, l ≠ [] → (∀ x ∈ l, Nf x ∧ Bd N f F s S x) → wtS l ≤ C →
    ((covA l v).length ≤ a (wtS l) v.length ∧ WW (covA l v) ≤ A (wtS l) v.length) ∧ (2 ≤ l.length → (covA l v).length ≤ f (wtS l) v.length ∧ WW (covA l v) ≤ F (wtS l) v.length)
  | [], h, _, _ => absurd rfl h
  | [x], _, h, hC => by
    have hx := h x List.mem_cons_self
    rw [wtS_one] at hC
    rw [covA, covA, List.append_nil, wtS_one]
    exact ⟨bd_any T hx.2 hC hv, fun q => absurd q (by simp)⟩
  | x :: y :: l, _, h, hC => by
    have hx := h x List.mem_cons_self
    rw [wtS_cons] at hC
    have h1 := (bd_alt T hv (l := y :: l) (by simp) (fun z hz => h z (List.mem_cons_of_mem _ hz)) (by omega)).1
    have h2 := bd_any T hx.2 (by omega) hv
    have h3 : 1 ≤ wtS (y :: l) := by have := (wt_nf (h y (by simp)).1).1; rw [wtS_cons]; omega
    have h4 := T.alt _ (wt_nf hx.1).1 (by omega) _ h3 (by omega) _ hv
    have h5 := T.fa (wtR x + wtS (y :: l)) hC _ hv
    rw [covA, List.length_append, WW_app, wtS_cons]
    exact ⟨⟨by omega, by omega⟩, fun _ => ⟨by omega, by omega⟩⟩
theorem bd_nf (T : Tab C N R f F s S a A g G) (hR : C * Z + (Z * Z + 3 * Z) ≤ R) {x : Rx} (h : Nf x) : wtR x ≤ C → x.size ≤ Z → Bd N f F s S x := by
  have low : ∀ x : Rx, Nf x → x.kind ≤ 2 → Bd N f F s S x := fun x hx h2 v hv => by
    rw [covT_x (by omega) (by omega) (by omega)]
    exact ⟨fun _ => ⟨Nat.zero_le _, Nat.zero_le _⟩, fun q => by omega⟩
  induction h with
  | none => exact fun _ _ => low _ .none (by decide)
  | empty => exact fun _ _ => low _ .empty (by decide)
  | set h => exact fun _ _ => low _ (.set h) (by show (2 : Int) ≤ 2; decide)
  | @seq l h2 hn hk ih =>
    intro hC hz v hv
    rw [wtR_34 (.inl rfl)] at hC ⊢
    rw [size_mk] at hz
    have hC' : wtS l ≤ C := hC
    refine ⟨fun _ => ?_, fun q => absurd q (by simp [Rx.kind])⟩
    rw [covT_3 rfl]
    refine (bd_seq T hR hv (l := l) (by intro e; rw [e] at h2; exact absurd h2 (by simp)) (fun x hx => ?_) hC' (by omega)).2 h2
    have h3 := wtS_mem hx
    have h4 := size_mem hx
    have h5 := hk x hx
    have h6 := (hn x hx).kinds
    exact ⟨hn x hx, ih x hx (by omega) (by omega), (wt_nf (hn x hx)).2 (by omega)⟩
  | @alt l h2 hn hk h4 h5 h6 ih =>
    intro hC hz v hv
    rw [wtR_34 (.inr rfl)] at hC ⊢
    rw [size_mk] at hz
    have hC' : wtS l ≤ C := hC
    refine ⟨fun _ => ?_, fun q => absurd q (by simp [Rx.kind])⟩
    rw [covT_4 rfl]
    refine (bd_alt T hv (l := l) (by intro e; rw [e] at h2; exact absurd h2 (by simp)) (fun x hx => ?_) hC').2 h2
    have h3 := wtS_mem hx
    have h4 := size_mem hx
    exact ⟨hn x hx, ih x hx (by omega) (by omega)⟩
  | @star y hn hk h4 ih =>
    intro hC hz v hv
    have hw : wtR (.mk 5 [] [y]) = 1 + wtR y := by rw [wtR_5 rfl]; show 1 + wtS [y] = _; rw [wtS_one]
    have hsz : (Rx.mk 5 [] [y]).size = 1 + y.size := by rw [size_mk, Rx.sizes, Rx.sizes, List.length_nil]; omega
    rw [hw] at hC ⊢
    refine ⟨fun q => absurd rfl q, fun _ => ?_⟩
    have hb := ih (by omega) (by omega)
    have hself : ∀ z ∈ [Rx.mk 5 [] [y]], Nf z := fun z hz => by rw [List.mem_singleton.1 hz]; exact .star hn hk h4
    have e : covT (.mk 5 [] [y]) v = [.mk 5 [] [y]] :: covS [y] v (.mk 5 [] [y]) := covT_5 rfl v
    have hsr : Rx.sizes [Rx.mk 5 [] [y]] ≤ Z := by rw [Rx.sizes, Rx.sizes]; exact hz
    have h1 := flat_bdp (f := fun u => (cv y u (covT y u)).map (· ++ [Rx.mk 5 [] [y]])) (a := fun j => 1 + f (wtR y) j) (b := fun j => 10 + 2 * F (wtR y) j + (1 + f (wtR y) j) * R) (N := N) (fun u hu => by
      have h2 := map_bd (bd_room (l := [Rx.mk 5 [] [y]]) hn hself (by omega) hsr hR u)
      have h3 := (hb u hu).1 hk.2.2
      have h6 := cv_bd hn hk.2.2 u
      rw [h6.1] at h2
      have h4 : (1 + (covT y u).length) * R ≤ (1 + f (wtR y) u.length) * R := Nat.mul_le_mul_right _ (by omega)
      show (List.map _ (cv y u (covT y u))).length ≤ _ ∧ WW (List.map _ (cv y u (covT y u))) ≤ _
      omega) v hv
    have hk2 := (wt_nf hn).2 (by have := hn.kinds; omega)
    have h2 := T.st (wtR y) hk2 (by omega) _ hv
    have h3 := Zq_sq [Rx.mk 5 [] [y]] hself
    have h4 : Rx.sizes [Rx.mk 5 [] [y]] * Rx.sizes [Rx.mk 5 [] [y]] ≤ Z * Z := Nat.mul_le_mul hsr hsr
    rw [e, List.length_cons, WW, covS, Nat.add_comm 1 (wtR y)]
    exact ⟨by omega, by omega⟩
theorem bd_top (T : Tab C N R f F s S a A g G) (hR : C * Z + (Z * Z + 3 * Z) ≤ R) {t : Nat → Nat → Nat} {E : Nat} (ht : ∀ c, 1 ≤ c → c < C → ∀ e, e ≤ E - c → ∀ n, n ≤ N → G (c + 1) n + t e n ≤ t (c + e) n) {v : List Int} (hv : v.length ≤ N) :
    ∀ {l : List Rx}, (∀ x ∈ l, Nf x ∧ Bd N f F s S x ∧ 2 ≤ wtR x ∧ wtR x ≤ C) → ∀ e, wtS l ≤ l.length + e → e ≤ E → Rx.sizes l ≤ Z → WW (covQ l v) ≤ t e v.length
  | [], h, e, he, hE, hz => Nat.zero_le _
  | x :: l, h, e, he, hE, hz => by
    have hx := h x List.mem_cons_self
    rw [wtS_cons, List.length_cons] at he
    rw [Rx.sizes] at hz
    have h0 := wtS_ge (n := 1) (l := l) fun z hz => by have := (h z (List.mem_cons_of_mem _ hz)).2.2.1; omega
    have h1 := bd_top T hR ht hv (l := l) (fun z hz => h z (List.mem_cons_of_mem _ hz)) (e - (wtR x - 1)) (by omega) (by omega) (by omega)
    have h2 := bd_part T (l := l) hx.1 (fun z hz => (h z (List.mem_cons_of_mem _ hz)).1) hx.2.1 hx.2.2.2 (by omega) hR hv
    have h3 := ht (wtR x - 1) (by omega) (by omega) (e - (wtR x - 1)) (by omega) _ hv
    rw [show wtR x - 1 + 1 = wtR x by omega, show wtR x - 1 + (e - (wtR x - 1)) = e by omega] at h3
    rw [covQ, WW_app]; omega
end
end Go.Wb

