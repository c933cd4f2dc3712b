/-
  Plain functions: the expressions made of numbers are valid and small; derivatives are small.
-/
import Derived.Test.YtgdehkimfmfofaaGreatJ19
import Derived.Test.YtgdehkimfmfofaaGreatJ14
import Derived.Test.YtgdehkimfmfofaaGreatJ18
set_option linter.unusedVariables false
set_option linter.unusedSimpArgs false
namespace Go.Wb
set_option linter.unusedVariables false
open Go.Am
theorem rv_seqF {x : Rx} (h : RvOk x) : seqF (rvR x) = ((seqF x).map rvR).reverse := by
  by_cases h3 : x.kind = 3
  · obtain ⟨e, h2, hn, hk⟩ := h.nf.k3 h3
    rw [seqF_3 (by rw [h.kind]; exact h3), seqF_3 h3]
    have := rv_seq h2 (fun y hy => rv_ok (hn y hy)) hk
    rw [← e] at this
    rw [this]; rfl
  · by_cases h1 : x.kind = 1
    · rw [seqF_1 (by rw [h.kind]; exact h1), seqF_1 h1]; rfl
    · rw [seqF_x (by rw [h.kind]; exact h3) (by rw [h.kind]; exact h1), seqF_x h3 h1]; rfl
theorem rv_seqL : ∀ {l : List Rx}, (∀ x ∈ l, RvOk x) → seqL (l.map rvR).reverse = ((seqL l).map rvR).reverse
  | [], _ => rfl
  | x :: l, h => by
    have ih := rv_seqL (l := l) fun y hy => h y (List.mem_cons_of_mem _ hy)
    have e : seqL (x :: l) = seqF x ++ seqL l := rfl
    have e2 : ∀ a b : List Rx, seqL (a ++ b) = seqL a ++ seqL b := fun a b => List.flatMap_append
    have e3 : seqL [rvR x] = seqF (rvR x) := by unfold seqL; simp
    rw [List.map_cons, List.reverse_cons, e2, ih, e3, rv_seqF (h x List.mem_cons_self), e, List.map_append, List.reverse_append]
theorem rv_seqN {l : List Rx} (h : ∀ x ∈ l, RvOk x) : seqN (l.map rvR).reverse = rvR (seqN l) := by
  have hany : (l.map rvR).reverse.any (fun x => decide (x.kind = 0)) = l.any (fun x => decide (x.kind = 0)) := by
    rw [List.any_reverse, List.any_map]
    rw [Bool.eq_iff_iff, List.any_eq_true, List.any_eq_true]
    exact ⟨fun ⟨x, hx, q⟩ => ⟨x, hx, by have q' : decide ((rvR x).kind = 0) = true := q; rw [(h x hx).kind] at q'; exact q'⟩, fun ⟨x, hx, q⟩ => ⟨x, hx, by show decide ((rvR x).kind = 0) = true; rw [(h x hx).kind]; exact q⟩⟩
  unfold seqN
  rw [hany]
  by_cases h0 : l.any (fun x => decide (x.kind = 0)) = true
  · rw [if_pos h0, if_pos h0, rv_leaf .none (by decide) (by decide) (by decide)]
  · rw [if_neg h0, if_neg h0, rv_seqL h]
    have hm : ∀ y ∈ seqL l, Nf y ∧ y.kind ≠ 0 ∧ y.kind ≠ 1 ∧ y.kind ≠ 3 := fun y hy => by
      obtain ⟨x, hx, hy⟩ := List.mem_flatMap.1 hy
      exact seqF_nf (h x hx).nf (fun e => h0 (List.any_eq_true.2 ⟨x, hx, decide_eq_true e⟩)) hy
    generalize seqL l = k at hm
    have hlen : ((k.map rvR).reverse).length = k.length := by simp
    by_cases k0 : k.length = 0
    · rw [seqE_0 (by omega), seqE_0 k0, rv_leaf .empty (by decide) (by decide) (by decide)]
    · by_cases k1 : k.length = 1
      · rw [seqE_1 (by omega), seqE_1 k1]
        match k, k1 with
        | [y], _ => rfl
      · rw [seqE_2 (by omega) (by omega), seqE_2 k0 k1, rv_seq (by omega) (fun x hx => rv_ok (hm x hx).1) fun x hx => (hm x hx).2]
theorem altC_mem {D : List Rx} (hs : Srt leR D) (hn : ∀ x ∈ D, Nf x ∧ x.kind ≠ 0) {x : Rx} : x ∈ altC D ↔ x ∈ D ∧ ¬ (x.kind = 1 ∧ ∃ y ∈ D, y.kind ≠ 1 ∧ accR y = true) := by
  by_cases h : 1 < D.length ∧ (D.getD 0 default).kind = 1 ∧ (D.drop 1).any accR = true
  · rw [altC_t h.1 h.2.1 h.2.2]
    have h0 : D.getD 0 default ∈ D := kid_mem (by omega)
    constructor
    · intro hx
      have hd := srt_drop hs hx
      exact ⟨hd.2, fun q => hd.1 (empty_first hs hn hd.2 q.1).symm⟩
    · rintro ⟨hx, hq⟩
      refine mem_drop1 hx fun e => hq ⟨by rw [e]; exact h.2.1, ?_⟩
      obtain ⟨y, hy, ha⟩ := List.any_eq_true.1 h.2.2
      have hd := srt_drop hs hy
      exact ⟨y, hd.2, fun q => hd.1 (empty_first hs hn hd.2 q).symm, ha⟩
  · rw [altC_f h]
    refine ⟨fun hx => ⟨hx, ?_⟩, fun q => q.1⟩
    rintro ⟨hk, y, hy, hy1, ha⟩
    have e := empty_first hs hn hx hk
    have hy2 : y ∈ D.drop 1 := mem_drop1 hy fun q => hy1 (by rw [q, e]; exact hk)
    refine h ⟨?_, by rw [e]; exact hk, List.any_eq_true.2 ⟨y, hy2, ha⟩⟩
    have := List.length_pos_of_mem hy2
    rw [List.length_drop] at this; omega
theorem rv_altL {l : List Rx} (h : ∀ x ∈ l, RvOk x) {y : Rx} : y ∈ altL (l.map rvR) ↔ ∃ z ∈ altL l, RvOk z ∧ y = rvR z := by
  have hF : ∀ x ∈ l, y ∈ altF (rvR x) ↔ ∃ z ∈ altF x, RvOk z ∧ y = rvR z := fun x hx => by
    have hr := h x hx
    by_cases h4 : x.kind = 4
    · obtain ⟨e, a1, a2, a3, a4, a5, a6⟩ := hr.nf.k4 h4
      have ho : AltOk x.kids := ⟨a1, fun y hy => rv_ok (a2 y hy), a3, a4, a5, a6⟩
      have er := rv_alt ho
      rw [← e] at er
      rw [altF_4 (by rw [hr.kind]; exact h4), altF_4 h4, er]
      show y ∈ uniR (x.kids.map rvR) ↔ _
      exact ⟨fun hy => mem_map_rv ho.rv hy, fun ⟨z, hz, _, e⟩ => by rw [e]; exact uniR_mem.2 (List.mem_map_of_mem hz)⟩
    · rw [altF_x (by rw [hr.kind]; exact h4), altF_x h4, List.mem_singleton]
      exact ⟨fun e => ⟨x, List.mem_singleton.2 rfl, hr, e⟩, fun ⟨z, hz, _, e⟩ => by rw [List.mem_singleton.1 hz] at e; exact e⟩
  rw [altL_mem]
  constructor
  · rintro ⟨x', hx', hy⟩
    obtain ⟨x, hx, rfl⟩ := List.mem_map.1 hx'
    obtain ⟨z, hz, hr, e⟩ := (hF x hx).1 hy
    exact ⟨z, altL_mem.2 ⟨x, hx, hz⟩, hr, e⟩
  · rintro ⟨z, hz, hr, e⟩
    obtain ⟨x, hx, hz⟩ := altL_mem.1 hz
    exact ⟨rvR x, List.mem_map_of_mem hx, (hF x hx).2 ⟨z, hz, hr, e⟩⟩
theorem rv_altD {l : List Rx} (h : ∀ x ∈ l, RvOk x) : altD (l.map rvR) = uniR ((altD l).map rvR) := by
  have h2 : ∀ z : Rx, RvOk z → z.kind = 2 → rvR z = z := fun z hz hk => rv_leaf hz.nf (by omega) (by omega) (by omega)
  have hS : ∀ z : Int, z ∈ altS (l.map rvR) ↔ z ∈ altS l := fun z => by
    rw [altS_mem, altS_mem]
    constructor
    · rintro ⟨x, hx, hk, hz⟩
      obtain ⟨y, hy, hr, rfl⟩ := (rv_altL h).1 hx
      rw [hr.kind] at hk
      rw [h2 y hr hk] at hz
      exact ⟨y, hy, hk, hz⟩
    · rintro ⟨y, hy, hk, hz⟩
      have hr := rv_ok (altL_nf (fun x hx => (h x hx).nf) hy).1
      exact ⟨rvR y, (rv_altL h).2 ⟨y, hy, hr, rfl⟩, by rw [hr.kind]; exact hk, by rw [h2 y hr hk]; exact hz⟩
  rw [altD_uni]
  refine uniR_ext fun x => ?_
  have hpos : 0 < (altS (l.map rvR)).length ↔ 0 < (altS l).length := by
    rw [List.length_pos_iff_exists_mem, List.length_pos_iff_exists_mem]; exact exists_congr hS
  rw [altM_mem, altK_mem, rv_altL h, uniI_ext hS, hpos, List.mem_map]
  have hset : ∀ hp : 0 < (altS l).length, RvOk (.mk 2 (uniI (altS l)) []) := fun hp => rv_ok (.set (uniI_ok hp fun x hx => altS_ok (fun x hx => (h x hx).nf) hx))
  constructor
  · rintro (⟨⟨z, hz, hr, rfl⟩, k0, k2⟩ | ⟨hp, rfl⟩)
    · rw [hr.kind] at k0 k2
      exact ⟨z, by rw [altD_uni, uniR_mem, altM_mem, altK_mem]; exact .inl ⟨hz, k0, k2⟩, rfl⟩
    · exact ⟨.mk 2 (uniI (altS l)) [], by rw [altD_uni, uniR_mem, altM_mem]; exact .inr ⟨hp, rfl⟩, h2 _ (hset hp) rfl⟩
  · rintro ⟨z, hz, rfl⟩
    rw [altD_uni, uniR_mem, altM_mem, altK_mem] at hz
    rcases hz with ⟨hz, k0, k2⟩ | ⟨hp, rfl⟩
    · have hr := rv_ok (altL_nf (fun x hx => (h x hx).nf) hz).1
      exact .inl ⟨⟨z, hz, hr, rfl⟩, by rw [hr.kind]; exact k0, by rw [hr.kind]; exact k2⟩
    · exact .inr ⟨hp, h2 _ (hset hp) rfl⟩
theorem rv_altN {l : List Rx} (h : ∀ x ∈ l, RvOk x) : altN (l.map rvR) = rvR (altN l) := by
  have hn := fun x hx => altD_nf (fun x hx => (h x hx).nf) (y := x) hx
  have h2 := fun x hx y hy => altD_two (l := l) (x := x) (y := y) hx hy
  have hs : Srt leR (altD l) := uniR_srt _
  obtain ⟨q1, q2, q3⟩ := altC_nf hs hn h2
  have hD := rv_altD h
  unfold altN
  rw [hD]
  generalize altD l = D at *
  have hrD : ∀ x ∈ D, RvOk x := fun x hx => rv_ok (hn x hx).1
  have hs' : Srt leR (uniR (D.map rvR)) := uniR_srt _
  have hn' : ∀ x ∈ uniR (D.map rvR), Nf x ∧ x.kind ≠ 0 := fun x hx => by
    obtain ⟨z, hz, hr, rfl⟩ := mem_map_rv hrD hx
    exact ⟨hr.rnf, by rw [hr.kind]; exact (hn z hz).2.1⟩
  have hC : altC (uniR (D.map rvR)) = uniR ((altC D).map rvR) := by
    refine srt_ext leR_an ?_ (uniR_srt _) fun x => ?_
    · unfold altC; split
      · exact List.Pairwise.drop hs'
      · exact hs'
    refine (altC_mem hs' hn').trans ⟨?_, fun hx => ?_⟩
    · rintro ⟨hx, hq⟩
      obtain ⟨z, hz, hr, rfl⟩ := mem_map_rv hrD hx
      refine uniR_mem.2 (List.mem_map.2 ⟨z, (altC_mem hs fun x hx => ⟨(hn x hx).1, (hn x hx).2.1⟩).2 ⟨hz, fun ⟨k1, y, hy, hy1, ha⟩ => hq ⟨by rw [hr.kind]; exact k1, rvR y, uniR_mem.2 (List.mem_map_of_mem hy), by rw [(hrD y hy).kind]; exact hy1, by rw [(hrD y hy).acc]; exact ha⟩⟩, rfl⟩)
    · obtain ⟨z, hz, rfl⟩ := List.mem_map.1 (uniR_mem.1 hx)
      obtain ⟨hz, hq⟩ := (altC_mem hs fun x hx => ⟨(hn x hx).1, (hn x hx).2.1⟩).1 hz
      refine ⟨uniR_mem.2 (List.mem_map_of_mem hz), fun ⟨k1, y, hy, hy1, ha⟩ => hq ⟨by rw [(hrD z hz).kind] at k1; exact k1, ?_⟩⟩
      obtain ⟨u, hu, hr, rfl⟩ := mem_map_rv hrD hy
      exact ⟨u, hu, by rw [hr.kind] at hy1; exact hy1, by rw [hr.acc] at ha; exact ha⟩
  rw [hC]
  generalize altC D = C at *
  have hrC : ∀ x ∈ C, RvOk x := fun x hx => hrD x (q1 x hx)
  by_cases c0 : C.length = 0
  · rw [List.eq_nil_of_length_eq_zero c0]
    show altE (uniR []) = rvR (altE [])
    rw [altE_0 (show (uniR []).length = 0 from rfl), altE_0 rfl, rv_leaf .none (by decide) (by decide) (by decide)]
  · by_cases c1 : C.length = 1
    · match C, c1 with
      | [c], _ =>
        rw [altE_1 (k := [c]) rfl]
        have e : uniR ([c].map rvR) = [rvR c] := uniR_self (List.pairwise_singleton _ _)
        rw [e, altE_1 (k := [rvR c]) rfl]; rfl
    · have ho : AltOk C := ⟨by omega, hrC, fun x hx => (hn x (q1 x hx)).2, q2, fun x hx y hy => h2 x (q1 x hx) y (q1 y hy), q3⟩
      rw [altE_2 c0 c1, rv_alt ho, altE_2 (by have := ho.rev.len; omega) (by have := ho.rev.len; omega)]
theorem rv_starB {x : Rx} (h : RvOk x) (hk : x.kind ≠ 0 ∧ x.kind ≠ 1 ∧ x.kind ≠ 5) : starB (rvR x) = rvR (starB x) := by
  by_cases h4 : x.kind = 4
  · obtain ⟨e, a1, a2, a3, a4, a5, a6⟩ := h.nf.k4 h4
    have ho : AltOk x.kids := ⟨a1, fun y hy => rv_ok (a2 y hy), a3, a4, a5, a6⟩
    have er := rv_alt ho
    rw [← e] at er
    have hr4 : (rvR x).kind = 4 := by rw [h.kind]; exact h4
    have hkids : (rvR x).kids = uniR (x.kids.map rvR) := by rw [er]; rfl
    have hrn := ho.rev
    have hn1 : ∀ y ∈ uniR (x.kids.map rvR), Nf y ∧ y.kind ≠ 0 := fun y hy => ⟨(hrn.rv y hy).nf, (hrn.kinds y hy).1⟩
    have hn0 : ∀ y ∈ x.kids, Nf y ∧ y.kind ≠ 0 := fun y hy => ⟨a2 y hy, (a3 y hy).1⟩
    by_cases h1 : (x.kids.getD 0 default).kind = 1
    · have h0 : x.kids.getD 0 default ∈ x.kids := kid_mem (by omega)
      have e0 : x.kids.getD 0 default = emptyRx := (a2 _ h0).k1 h1
      have re : rvR emptyRx = emptyRx := rv_leaf .empty (by decide) (by decide) (by decide)
      have hm : emptyRx ∈ uniR (x.kids.map rvR) := uniR_mem.2 (List.mem_map.2 ⟨emptyRx, by rw [← e0]; exact h0, re⟩)
      have e0' : (uniR (x.kids.map rvR)).getD 0 default = emptyRx := empty_first hrn.srt hn1 hm rfl
      have hdrop : (uniR (x.kids.map rvR)).drop 1 = uniR ((x.kids.drop 1).map rvR) := by
        refine srt_ext leR_an (List.Pairwise.drop hrn.srt) (uniR_srt _) fun y => ?_
        rw [uniR_mem, List.mem_map]
        constructor
        · intro hy
          have hd := srt_drop hrn.srt hy
          obtain ⟨z, hz, hr, rfl⟩ := mem_map_rv ho.rv hd.2
          refine ⟨z, mem_drop1 hz fun q => hd.1 ?_, rfl⟩
          rw [q, e0, e0', re]
        · rintro ⟨z, hz, rfl⟩
          have hd := srt_drop a4 hz
          refine mem_drop1 (uniR_mem.2 (List.mem_map_of_mem hd.2)) fun q => hd.1 ?_
          rw [e0'] at q
          rw [e0, ← (rv_ok (a2 z hd.2)).inv, q, re]
      by_cases hl2 : x.kids.length = 2
      · -- one is left
        have hd1 : x.kids.drop 1 = [x.kids.getD 1 default] := by
          match hx : x.kids, hl2 with
          | [u, v], _ => rfl
        have hu : uniR ((x.kids.drop 1).map rvR) = [rvR (x.kids.getD 1 default)] := by rw [hd1]; exact uniR_self (List.pairwise_singleton _ _)
        have hlen : (uniR (x.kids.map rvR)).length = 2 := by
          have := congrArg List.length (hdrop.trans hu)
          rw [List.length_drop] at this
          have := hrn.len
          simp at *; omega
        rw [starB_2 ⟨h4, h1⟩ hl2, starB_2 ⟨hr4, by rw [hkids, e0']; rfl⟩ (by rw [hkids]; exact hlen), hkids]
        rw [← getD_drop1, hdrop, hu]; rfl
      · have hlen : (uniR (x.kids.map rvR)).length ≠ 2 := fun q => by
          have ho2 : AltOk (x.kids.drop 1) := ⟨by rw [List.length_drop]; omega, fun y hy => rv_ok (a2 y (List.mem_of_mem_drop hy)), fun y hy => a3 y (List.mem_of_mem_drop hy), List.Pairwise.drop a4,
            fun y hy z hz => a5 y (List.mem_of_mem_drop hy) z (List.mem_of_mem_drop hz), fun y hy hy1 z hz hz1 => a6 y (List.mem_of_mem_drop hy) hy1 z (List.mem_of_mem_drop hz) hz1⟩
          have := ho2.rev.len
          rw [← hdrop, List.length_drop] at this
          omega
        have ho2 : AltOk (x.kids.drop 1) := ⟨by rw [List.length_drop]; omega, fun y hy => rv_ok (a2 y (List.mem_of_mem_drop hy)), fun y hy => a3 y (List.mem_of_mem_drop hy), List.Pairwise.drop a4,
          fun y hy z hz => a5 y (List.mem_of_mem_drop hy) z (List.mem_of_mem_drop hz), fun y hy hy1 z hz hz1 => a6 y (List.mem_of_mem_drop hy) hy1 z (List.mem_of_mem_drop hz) hz1⟩
        have es : x.syms = [] := by rw [e]; rfl
        have es' : (rvR x).syms = [] := by rw [er]; rfl
        rw [starB_m ⟨h4, h1⟩ hl2, starB_m ⟨hr4, by rw [hkids, e0']; rfl⟩ (by rw [hkids]; exact hlen), hkids, hr4, es', h4, es, hdrop, rv_alt ho2]
    · rw [starB_n (fun q => h1 q.2), starB_n fun q => ?_]
      have hm : (rvR x).kids.getD 0 default ∈ (rvR x).kids := kid_mem (by rw [hkids]; have := hrn.len; omega)
      obtain ⟨z, hz, ez⟩ := h.kids h4 _ hm
      have hz1 : z.kind = 1 := by rw [← ez]; exact q.2
      exact h1 (by rw [empty_first a4 hn0 hz hz1]; exact hz1)
  · rw [starB_n (fun q => h4 q.1), starB_n fun q => h4 (by rw [← h.kind]; exact q.1)]
theorem rv_starN {x : Rx} (h : RvOk x) : starN (rvR x) = rvR (starN x) := by
  by_cases h1 : x.kind = 0 ∨ x.kind = 1
  · rw [starN_e h1, starN_e (by rw [h.kind]; exact h1), rv_leaf .empty (by decide) (by decide) (by decide)]
  · by_cases h5 : x.kind = 5
    · rw [starN_5 h5, starN_5 (by rw [h.kind]; exact h5)]
    · have hk : x.kind ≠ 0 ∧ x.kind ≠ 1 ∧ x.kind ≠ 5 := ⟨fun e => h1 (.inl e), fun e => h1 (.inr e), h5⟩
      have hb := starB_nf h.nf hk
      obtain ⟨y, ey, hy, hyk, hy4⟩ := hb.k5 rfl
      have ey' : starB x = y := by
        have : [starB x] = [y] := congrArg Rx.kids ey
        exact (List.cons.inj this).1
      have hr := rv_ok hy
      rw [starN_x h1 h5, starN_x (by rw [h.kind]; exact h1) (by rw [h.kind]; exact h5), rv_starB h hk, ey']
      have e5 : rvR (.mk 5 [] [y]) = starN (rvR y) := by unfold rvR; rw [buildR_5 (r := .mk 5 [] [y]) rfl]; rfl
      rw [e5]
      refine (starN_self (by rw [hr.kind]; exact hyk) (fun h4 z hz => ?_) hr.rnf).symm
      obtain ⟨u, hu, e⟩ := hr.kids (by rw [← hr.kind]; exact h4) z hz
      rw [e]; exact hy4 (by rw [← hr.kind]; exact h4) u hu
theorem build_true {x : Rx} (hv : validR x = true) : buildR true x = rvR (buildR false x) := by
  refine rx_ind (P := fun x => validR x = true → buildR true x = rvR (buildR false x)) (fun r ih hv => ?_) x hv
  have hk := valid_kids hv
  have hmap : r.kids.map (buildR true) = (r.kids.map (buildR false)).map rvR := by
    rw [List.map_map]
    exact List.map_congr_left fun y hy => ih y hy (hk y hy)
  have hok : ∀ y ∈ r.kids.map (buildR false), RvOk y := fun y hy => by
    obtain ⟨z, hz, rfl⟩ := List.mem_map.1 hy
    exact rv_ok (build_nf false z (hk z hz))
  by_cases h3 : r.kind = 3
  · rw [buildR_3t h3, buildR_3f h3, hmap]; exact rv_seqN hok
  · by_cases h4 : r.kind = 4
    · rw [buildR_4 h4, buildR_4 h4, hmap]; exact rv_altN hok
    · by_cases h5 : r.kind = 5
      · have h0 : 0 < r.kids.length := by rw [(valid_5 hv h5).2]; decide
        rw [buildR_5 h5, buildR_5 h5, hmap, getD_map (by rw [List.length_map]; exact h0)]
        exact rv_starN (hok _ (kid_mem (by rw [List.length_map]; exact h0)))
      · have hn := build_nf false r hv
        have e : ∀ t, buildR t r = .mk r.kind r.syms [] := fun t => buildR_x h3 h4 h5
        rw [e true, e false]
        rw [e false] at hn
        exact (rv_leaf hn h3 h4 h5).symm
theorem rev_rev {x : Rx} (hv : validR x = true) : revR (revR x) = simR x := by
  have hn := build_nf true x hv
  unfold revR simR
  rw [if_pos hv, if_pos (nf_valid hn), if_pos hv, build_true hv]
  exact (rv_ok (build_nf false x hv)).inv
end Go.Wb

namespace Go.Wb
set_option linter.unusedVariables false
open Go.Am Go.Wc
theorem valid_one {v : Int} (h : 0 ≤ v ∧ v < 64) : validR (.mk 2 [v] []) = true := nf_valid (.set (sing_ok h))
theorem valid_two {v w : Int} (h : 0 ≤ v ∧ v < w ∧ w < 64) : validR (.mk 2 [v, w] []) = true := by
  refine nf_valid (.set (setOk_iff.2 ⟨Nat.succ_pos _, ?_, fun x hx => ?_⟩))
  · exact List.pairwise_cons.2 ⟨fun y hy => by rw [List.mem_singleton.1 hy]; exact ⟨decide_eq_true (by omega), by omega⟩, List.pairwise_singleton _ _⟩
  · rcases List.mem_cons.1 hx with rfl | hx
    · omega
    · rw [List.mem_singleton.1 hx]; omega
theorem valid_star {x : Rx} (h : validR x = true) : validR (.mk 5 [] [x]) = true := by
  rw [validR_5 rfl]
  show (true && (true && validR x)) = true
  rw [h]; rfl
theorem valid_pair {k : Int} {x y : Rx} (hk : k = 3 ∨ k = 4) (hx : validR x = true) (hy : validR y = true) : validR (.mk k [] [x, y]) = true := by
  rw [validR_34 (r := .mk k [] [x, y]) hk]
  show (true && !(List.any [x, y] fun x => !validR x)) = true
  simp [hx, hy]
theorem valid_leaf {k : Int} (hk : k = 0 ∨ k = 1) : validR (.mk k [] []) = true := by rw [validR_01 (r := .mk k [] []) hk]; rfl
theorem shpF_valid {most n : Int} {st : List Rx} (hm : 0 < most ∧ most ≤ 64) (hn : 0 ≤ n) (h : ∀ x ∈ st, validR x = true) : ∀ x ∈ shpF most n st, validR x = true := by
  have a1 := Int.emod_nonneg (n / 8) (show most ≠ 0 by omega)
  have a2 := Int.emod_lt_of_pos (n / 8) hm.1
  have b1 := Int.emod_nonneg (n / 8 / most) (show most ≠ 0 by omega)
  have b2 := Int.emod_lt_of_pos (n / 8 / most) hm.1
  have hg : ∀ i, i < st.length → validR (st.getD i default) = true := fun i hi => h _ (kid_mem hi)
  have happ : ∀ y, validR y = true → ∀ x ∈ st ++ [y], validR x = true := fun y hy x hx => by
    rcases List.mem_append.1 hx with hx | hx
    · exact h x hx
    · rw [List.mem_singleton.1 hx]; exact hy
  have hset : ∀ i y, validR y = true → ∀ x ∈ st.set i y, validR x = true := fun i y hy x hx => by
    rcases List.mem_or_eq_of_mem_set hx with hx | hx
    · exact h x hx
    · rw [hx]; exact hy
  unfold shpF
  split
  · exact happ _ (valid_one (by omega))
  · split
    · refine happ _ ?_
      split
      · exact valid_one (by omega)
      · refine valid_two ?_
        unfold minI maxI
        split <;> split <;> omega
    · split
      · next hc => exact hset _ _ (valid_star (hg _ (by omega)))
      · split
        · next hc => exact fun x hx => hset _ _ (valid_pair (.inl rfl) (hg _ (by omega)) (hg _ (by omega))) x (List.mem_of_mem_take hx)
        · split
          · next hc => exact fun x hx => hset _ _ (valid_pair (.inr rfl) (hg _ (by omega)) (hg _ (by omega))) x (List.mem_of_mem_take hx)
          · split
            · next hc => exact hset _ _ (valid_pair (.inr rfl) (valid_leaf (.inr rfl)) (hg _ (by omega)))
            · split
              · refine happ _ (valid_leaf ?_)
                unfold minI
                split <;> omega
              · exact h
theorem sizes_set : ∀ {l : List Rx} {k : Nat} {y : Rx}, k < l.length → Rx.sizes (l.set k y) + (l.getD k default).size = Rx.sizes l + y.size
  | x :: l, 0, y, _ => by
    show Rx.sizes (y :: l) + x.size = _
    rw [Rx.sizes, Rx.sizes]; omega
  | x :: l, k + 1, y, h => by
    have := sizes_set (l := l) (k := k) (y := y) (by simpa using h)
    show Rx.sizes (x :: l.set k y) + (l.getD k default).size = _
    rw [Rx.sizes, Rx.sizes]; omega
theorem sizes_pop {l : List Rx} {k : Nat} (h : k + 1 = l.length) : Rx.sizes (l.take k) + (l.getD k default).size = Rx.sizes l := by
  have h1 := sizes_take_drop l k
  rw [drop_cons (by omega), List.drop_of_length_le (by omega), Rx.sizes, show Rx.sizes [] = 0 from rfl] at h1
  omega
theorem size_two (k : Int) (x y : Rx) : (Rx.mk k [] [x, y]).size = 1 + x.size + y.size := by rw [size_mk, Rx.sizes, Rx.sizes, show Rx.sizes [] = 0 from rfl, List.length_nil]; omega
theorem shpF_size (most n : Int) (st : List Rx) : Rx.sizes (shpF most n st) ≤ Rx.sizes st + 3 := by
  have happ : ∀ y : Rx, y.size ≤ 3 → Rx.sizes (st ++ [y]) ≤ Rx.sizes st + 3 := fun y hy => by
    rw [sizes_append, Rx.sizes, show Rx.sizes [] = 0 from rfl]; omega
  have hset1 : ∀ {k : Nat} {y : Rx}, k < st.length → y.size ≤ (st.getD k default).size + 2 → Rx.sizes (st.set k y) ≤ Rx.sizes st + 3 := fun {k y} hk hy => by
    have := sizes_set (y := y) hk; omega
  have hpop : ∀ (c : Int), 1 < st.length → Rx.sizes ((st.set (st.length - 2) (.mk c [] [st.getD (st.length - 2) default, st.getD (st.length - 1) default])).take (st.length - 1)) ≤ Rx.sizes st + 3 := fun c h => by
    have h1 := sizes_set (l := st) (k := st.length - 2) (y := .mk c [] [st.getD (st.length - 2) default, st.getD (st.length - 1) default]) (by omega)
    rw [size_two] at h1
    have h2 := sizes_pop (l := st.set (st.length - 2) (.mk c [] [st.getD (st.length - 2) default, st.getD (st.length - 1) default])) (k := st.length - 1) (by rw [List.length_set]; omega)
    rw [getD_set_ne' (by omega)] at h2
    omega
  unfold shpF
  split
  · exact happ _ (by rw [size_mk]; simp only [List.length_cons, List.length_nil, Rx.sizes]; omega)
  · split
    · refine happ _ ?_
      split
      · rw [size_mk]; simp only [List.length_cons, List.length_nil, Rx.sizes]; omega
      · rw [size_mk]; simp only [List.length_cons, List.length_nil, Rx.sizes]; omega
    · split
      · next hc => exact hset1 (by omega) (by rw [size_mk, Rx.sizes, show Rx.sizes [] = 0 from rfl, List.length_nil]; omega)
      · split
        · next hc => exact hpop 3 hc.2
        · split
          · next hc => exact hpop 4 hc.2
          · split
            · next hc => exact hset1 (by omega) (by rw [size_two, show (emptyRx).size = 1 from rfl]; omega)
            · split
              · exact happ _ (by rw [size_mk]; simp only [List.length_cons, List.length_nil, Rx.sizes]; omega)
              · omega
theorem shpN_good {most : Int} {l : List Int} (hm : 0 < most ∧ most ≤ 64) : ∀ i, (∀ x ∈ shpN most l i, validR x = true) ∧ Rx.sizes (shpN most l i) ≤ 3 * i
  | 0 => ⟨(fun x hx => by cases hx), Nat.le_refl _⟩
  | i + 1 => by
    obtain ⟨h1, h2⟩ := shpN_good (l := l) hm i
    have h3 := shpF_size most (around (l.getD i default) 1048576) (shpN most l i)
    rw [shpN]
    exact ⟨shpF_valid hm (around_lt (by decide)).1 h1, by omega⟩
theorem shaped_good {most : Int} (l : List Int) (hm : 0 < most ∧ most ≤ 64) : validR (shapedP l most) = true ∧ (shapedP l most).size ≤ 49 := by
  obtain ⟨h1, h2⟩ := shpN_good (l := l) hm (min l.length 16)
  have h3 : min l.length 16 ≤ 16 := Nat.min_le_right _ _
  unfold shapedP shpE
  split
  · exact ⟨h1 _ (kid_mem (by omega)), by have := size_mem (kid_mem (l := shpN most l (min l.length 16)) (i := 0) (by omega)); omega⟩
  · refine ⟨?_, by rw [size_mk, List.length_nil]; omega⟩
    rw [validR_34 (r := .mk 3 [] (shpN most l (min l.length 16))) (.inl rfl)]
    show (true && !(List.any _ _)) = true
    rw [Bool.true_and, Bool.not_eq_true', List.any_eq_false]
    exact fun x hx => by rw [h1 x hx]; decide
theorem dSz_quad (r : Rx) : dSz r ≤ 4 * (r.size * r.size) := by
  refine rx_ind (P := fun r => dSz r ≤ 4 * (r.size * r.size)) (fun r ih => ?_) r
  have sq : ∀ a b : Nat, (a + b) * (a + b) = a * a + 2 * (a * b) + b * b := fun a b => by
    rw [Nat.add_mul, Nat.mul_add, Nat.mul_add, Nat.mul_comm b a]; omega
  have hs : ∀ l : List Rx, (∀ x ∈ l, dSz x ≤ 4 * (x.size * x.size)) → dSzs l ≤ 4 * (Rx.sizes l * Rx.sizes l) := by
    intro l
    induction l with
    | nil => intro _; exact Nat.zero_le _
    | cons x l ihl =>
      intro h
      have h1 := ihl fun y hy => h y (List.mem_cons_of_mem _ hy)
      have h2 := h x List.mem_cons_self
      have h3 := sq x.size (Rx.sizes l)
      rw [dSzs, Rx.sizes]
      omega
  have hq : ∀ l : List Rx, (∀ x ∈ l, dSz x ≤ 4 * (x.size * x.size)) → dSzq l ≤ 4 * (Rx.sizes l * Rx.sizes l) + 2 * Rx.sizes l := by
    intro l
    induction l with
    | nil => intro _; exact Nat.zero_le _
    | cons x l ihl =>
      intro h
      have h1 := ihl fun y hy => h y (List.mem_cons_of_mem _ hy)
      have h2 := h x List.mem_cons_self
      have h3 := sq x.size (Rx.sizes l)
      have h4 := size_pos x
      have h5 : Rx.sizes l ≤ x.size * Rx.sizes l := Nat.le_mul_of_pos_left _ h4
      rw [dSzq, Rx.sizes]
      split <;> omega
  have h1 := hs r.kids ih
  have h2 := hq r.kids ih
  have e := size_eq r
  obtain ⟨c, hc, hc1⟩ : ∃ c, r.size = Rx.sizes r.kids + c ∧ 1 ≤ c := ⟨1 + r.syms.length, by omega, by omega⟩
  have h3 := sq (Rx.sizes r.kids) c
  have h4 : Rx.sizes r.kids ≤ Rx.sizes r.kids * c := Nat.le_mul_of_pos_right _ hc1
  have h5 : c ≤ c * c := Nat.le_mul_of_pos_right _ hc1
  rw [dSz_eq, hc]
  split
  · omega
  · split
    · omega
    · split
      · omega
      · omega
theorem dSz_bd {r : Rx} {n : Nat} (h : r.size ≤ n) : dSz r ≤ 4 * (n * n) := Nat.le_trans (dSz_quad r) (Nat.mul_le_mul_left 4 (Nat.mul_le_mul h h))
end Go.Wb

