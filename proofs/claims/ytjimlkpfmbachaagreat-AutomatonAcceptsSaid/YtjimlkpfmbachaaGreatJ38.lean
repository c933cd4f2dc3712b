/-
  Contract: the reference's words.
-/
import Derived.Test.YtjimlkpfmbachaaGreatJ29
import Derived.Test.YtjimlkpfmbachaaGreatJ36
import Derived.Test.YtjimlkpfmbachaaGreatJ17
import Derived.Test.YtjimlkpfmbachaaGreatJ26
import Derived.Test.YtjimlkpfmbachaaGreatJ37
import Derived.Test.YtjimlkpfmbachaaGreatJ24
import Derived.Test.YtjimlkpfmbachaaGreatJ20
import Derived.Test.YtjimlkpfmbachaaGreatJ22
import Derived.Test.YtjimlkpfmbachaaGreatJ23
set_option linter.unusedVariables false
set_option linter.unusedSectionVars false
set_option linter.unusedSimpArgs false
namespace Go.Proofs.YtjimlkpfmbachaaGreat
open Go.Am Go.Wc Go.Wb Go.Wd
theorem fn19:Fn2 Tryz.prog 19 Tryz.f19.ntmps 4 5 (Tryz.f19.body.getD .skip):=⟨Tryz.f19,Tryz.func19,rfl,rfl,rfl,by kernel_rfl⟩
set_option maxRecDepth 100000 in
set_option maxHeartbeats 8000000 in
theorem rdiffer_call {a b:Dfa} (hn:a.n*b.n≤2048):CallF Tryz.prog 19 [dfa a,dfa b] (.p (.tup [resW (differZ a b),bool (differZ a b).isSome])):=by
  refine callF_of_code2 fn19 (Nat.le_of_ble_eq_true rfl) fun w0 M0 hM0=>?_
  refine xC tb hM0 2 [0,1] [] rfl ?_
  refine oP rfl (pure_box rfl rfl rfl hM0) ?_
  refine oP rfl (pure_box rfl rfl rfl hM0) ?_
  refine xA tb hM0 8 [2,3,14] [] rfl ?_
  refine oP rfl (pure_call rfl rfl rfl (rvalidD_call (d:=a)) hM0) ?_
  refine xA tb hM0 2 [2,3,17] [] rfl ?_
  refine spO 17 rfl ?_ ?_<;>intro h1'<;>try simp only [dq] at h1'
  refine xA tb hM0 22 [] [] rfl ?_
  refine end2_ret rfl rfl ?_;rotate_left
  refine xA tb hM0 1 [2,3,17,18] [] rfl ?_
  refine oP rfl (pure_call rfl rfl rfl (rvalidD_call (d:=b)) hM0) ?_
  refine xA tb hM0 3 [2,3,22] [] rfl ?_
  refine spO 22 rfl ?_ ?_<;>intro h2'<;>try simp only [dq] at h2'
  refine xA tb hM0 17 [] [] rfl ?_
  refine end2_ret rfl rfl ?_;rotate_left
  refine xA tb hM0 8 [2,3,28] [] rfl ?_
  refine spC 28 rfl ?_ ?_<;>intro h3<;>try simp only [dq] at h3
  refine xA tb hM0 9 [] [] rfl ?_
  refine end2_ret rfl rfl ?_;rotate_left
  have hda:=valid_ok (d:=a) (by assumption)
  have hdb:=valid_ok (d:=b) (by assumption)
  have hse:a.size=b.size:=by omega
  have hkk:a.k=b.k:=by unfold Dfa.k;rw [hse]
  have hna:=not_facts (a:=a) (by assumption)
  have hnb:=not_facts (a:=b) (by assumption)
  have hm1:a.n*(notZ b).n≤2048:=Nat.le_trans (Nat.mul_le_mul_left _ hnb.2.2.2) hn
  have hm2:(notZ a).n*b.n≤2048:=Nat.le_trans (Nat.mul_le_mul_right _ hna.2.2.2) hn
  have hrd:=rdiff_z (a:=a) (b:=b) (by assumption) (by assumption) hse hn
  refine xA tb hM0 4 [2,3] [] rfl ?_
  refine code_drawE (n:=66) (om:=[(6,.box 31 [.v .pl (.sc (.int .i64 0)),.v .pl (.sc (.slice none 0 0)),.v .pl (.sc (.slice none 0 0))])]) (o2:=[(6,.box 31 [.v .pl (int ((prodP (ft false) a (notZ b))).size),.v .pl (rowsA ((prodP (ft false) a (notZ b))).next),.v .pl (boolsA ((prodP (ft false) a (notZ b))).fin)])]) 7 8 10 [(30,.v .mx (dfa a)),(31,.v .mx (dfa b)),(32,.v .pl (dfa (notZ b))),(33,.v .pl (.tup [dfa (prodP (ft false) a (notZ b)),bool true])),(29,.v .pl (.tup [dfa (prodP (ft false) a (notZ b)),bool true])),(34,.v .pl (dfa (prodP (ft false) a (notZ b)))),(35,.v .pl (bool true)),(6,.pbox 6 0),(7,.v .pl (bool true)),(2,.v .mx (dpc a)),(3,.v .mx (dpc b))] mixed (by kernel_rfl) (by kernel_rfl) (by kernel_rfl) (by kernel_rfl) rfl (by kernel_rfl) rfl (fun t z h=>h) rfl ?_ ?_ ?_ ?_ ?_ ?_ ?_
  · intro zi zt hzi hzd
    rcases (by omega:zi=0∨zi=1∨zi=2∨zi=3∨zi=4∨zi=5∨zi=6∨zi=7∨zi=8∨zi=9) with rfl|rfl|rfl|rfl|rfl|rfl|rfl|rfl|rfl|rfl
    · injection (show some _=some zt from hzd) with hzd;subst hzd;exact ⟨_,rfl⟩
    · injection (show some _=some zt from hzd) with hzd;subst hzd;exact ⟨_,rfl⟩
    · injection (show some _=some zt from hzd) with hzd;subst hzd;exact ⟨_,rfl⟩
    · injection (show some _=some zt from hzd) with hzd;subst hzd;exact ⟨_,rfl⟩
    · injection (show some _=some zt from hzd) with hzd;subst hzd;exact ⟨_,rfl⟩
    · injection (show some _=some zt from hzd) with hzd;subst hzd;exact ⟨_,rfl⟩
    · injection (show some _=some zt from hzd) with hzd;subst hzd;exact ⟨_,rfl⟩
    · injection (show some _=some zt from hzd) with hzd;subst hzd;exact ⟨_,rfl⟩
    · cases (show (none:Option Nat)=some zt from hzd)
    · injection (show some _=some zt from hzd) with hzd;subst hzd;exact ⟨_,rfl⟩
  · intro zi zo zt zd hzi hzia hzib hzo hzd hzG hzn
    rcases (by omega:zi=0∨zi=1∨zi=2∨zi=3∨zi=4∨zi=5∨zi=6∨zi=9) with rfl|rfl|rfl|rfl|rfl|rfl|rfl|rfl
    · injection (show some _ = some zo from hzo) with hzo; subst hzo; injection (show some _ = some zt from hzd) with hzd; subst hzd; injection (show some _ = some zd from hzG) with hzG; subst hzG
      exact (pure_norm (pure_load_agg rfl ag31 sz31 rfl (Nat.le_of_ble_eq_true rfl)) rfl)
    · injection (show some _ = some zo from hzo) with hzo; subst hzo; injection (show some _ = some zt from hzd) with hzd; subst hzd; injection (show some _ = some zd from hzG) with hzG; subst hzG
      exact (pure_norm (pure_load_agg rfl ag31 sz31 rfl (Nat.le_of_ble_eq_true rfl)) rfl)
    · injection (show some _ = some zo from hzo) with hzo; subst hzo; injection (show some _ = some zt from hzd) with hzd; subst hzd; injection (show some _ = some zd from hzG) with hzG; subst hzG
      exact (pure_callD rfl rfl rfl (rnot_call (d:=b)) hM0)
    · injection (show some _ = some zo from hzo) with hzo; subst hzo; injection (show some _ = some zt from hzd) with hzd; subst hzd; injection (show some _ = some zd from hzG) with hzG; subst hzG
      exact (pure_callD rfl rfl rfl (rproduct_call (a:=a) (b:=notZ b) (e:=false) hda hnb.1 (by omega) hm1) hM0)
    · injection (show some _ = some zo from hzo) with hzo; subst hzo; injection (show some _ = some zt from hzd) with hzd; subst hzd; injection (show some _ = some zd from hzG) with hzG; subst hzG
      exact (pure_move rfl rfl)
    · injection (show some _ = some zo from hzo) with hzo; subst hzo; injection (show some _ = some zt from hzd) with hzd; subst hzd; injection (show some _ = some zd from hzG) with hzG; subst hzG
      exact (pure_extract rfl rfl rfl)
    · injection (show some _ = some zo from hzo) with hzo; subst hzo; injection (show some _ = some zt from hzd) with hzd; subst hzd; injection (show some _ = some zd from hzG) with hzG; subst hzG
      exact (pure_extract rfl rfl rfl)
    · first|exact absurd hzn (by decide)
  · intro zi zo zt zd hzi hzia hzib hzo hzd hzG hzn hzn2
    rcases (by omega:zi=0∨zi=1∨zi=2∨zi=3∨zi=4∨zi=5∨zi=6∨zi=9) with rfl|rfl|rfl|rfl|rfl|rfl|rfl|rfl
    · injection (show some _ = some zo from hzo) with hzo; subst hzo; injection (show some _ = some zt from hzd) with hzd; subst hzd; injection (show some _ = some zd from hzG) with hzG; subst hzG
      exact (pure_norm (pure_load_agg rfl ag31 sz31 rfl (Nat.le_of_ble_eq_true rfl)) rfl)
    · injection (show some _ = some zo from hzo) with hzo; subst hzo; injection (show some _ = some zt from hzd) with hzd; subst hzd; injection (show some _ = some zd from hzG) with hzG; subst hzG
      exact (pure_norm (pure_load_agg rfl ag31 sz31 rfl (Nat.le_of_ble_eq_true rfl)) rfl)
    · injection (show some _ = some zo from hzo) with hzo; subst hzo; injection (show some _ = some zt from hzd) with hzd; subst hzd; injection (show some _ = some zd from hzG) with hzG; subst hzG
      exact (pure_callD rfl rfl rfl (rnot_call (d:=b)) hM0)
    · injection (show some _ = some zo from hzo) with hzo; subst hzo; injection (show some _ = some zt from hzd) with hzd; subst hzd; injection (show some _ = some zd from hzG) with hzG; subst hzG
      exact (pure_callD rfl rfl rfl (rproduct_call (a:=a) (b:=notZ b) (e:=false) hda hnb.1 (by omega) hm1) hM0)
    · injection (show some _ = some zo from hzo) with hzo; subst hzo; injection (show some _ = some zt from hzd) with hzd; subst hzd; injection (show some _ = some zd from hzG) with hzG; subst hzG
      exact (pure_move rfl rfl)
    · injection (show some _ = some zo from hzo) with hzo; subst hzo; injection (show some _ = some zt from hzd) with hzd; subst hzd; injection (show some _ = some zd from hzG) with hzG; subst hzG
      exact (pure_extract rfl rfl rfl)
    · injection (show some _ = some zo from hzo) with hzo; subst hzo; injection (show some _ = some zt from hzd) with hzd; subst hzd; injection (show some _ = some zd from hzG) with hzG; subst hzG
      exact (pure_extract rfl rfl rfl)
    · first|exact absurd hzn (by decide)|exact absurd hzn2 (by decide)
  · intro zi zo zt zd hzi hzia hzib hzo hzd hzG hzn
    rcases (by omega:zi=0∨zi=1∨zi=2∨zi=3∨zi=4∨zi=5∨zi=6∨zi=9) with rfl|rfl|rfl|rfl|rfl|rfl|rfl|rfl
    · first|exact absurd hzn (by decide)
    · first|exact absurd hzn (by decide)
    · first|exact absurd hzn (by decide)
    · first|exact absurd hzn (by decide)
    · first|exact absurd hzn (by decide)
    · first|exact absurd hzn (by decide)
    · injection (show some _ = some zo from hzo) with hzo; subst hzo; injection (show some _ = some zt from hzd) with hzd; subst hzd; injection (show some _ = some zd from hzG) with hzG; subst hzG
      exact (pure_extract rfl rfl rfl)
    · injection (show some _ = some zo from hzo) with hzo; subst hzo; injection (show some _ = some zt from hzd) with hzd; subst hzd; injection (show some _ = some zd from hzG) with hzG; subst hzG
      exact (pure_assign rfl rfl)
  · intro zo X hzo hXn hXG hXr
    injection (show some _=some zo from hzo) with hzo'
    exact step_allocD (t:=6) (by rw [← hzo'];rfl) (by rw [← hzo'];rfl) rfl rfl hXn ze31 rfl rfl (fun t' z h hne=>all_stays (by rfl) (hXG t' z h) hne) rfl hM0
  · intro zo X hzo hXn hXG hXr
    have hXu:6∈looks _ zo→X.lookup 6=some (.pbox 6 0):=fun h=>(hXr 6 h).trans rfl
    have hXv:34∈looks _ zo→X.lookup 34=some (.v .pl (dfa (prodP (ft false) a (notZ b)))):=fun h=>(hXr 34 h).trans rfl
    injection (show some _=some zo from hzo) with hzo'
    exact step_storeE (by rw [← hzo'];rfl) (step_storeD (u:=6) (v:=34) (id:=6) (by rw [← hzo'];rfl) (by rw [← hzo'];rfl) hXn sz31 (hXu (by rw [← hzo'];decide)) rfl (hXv (by rw [← hzo'];decide)) rfl (by decide) rfl rfl (fun t' z h=>all_stays0 (by rfl) (hXG t' z h)) rfl hM0)
  refine endL_of (n:=0) (by kernel_rfl) ?_
  refine ex_end (by kernel_rfl) ?_
  refine xD tb hM0 2 [2,3,6] [6] rfl ?_
  refine code_drawE (n:=66) (om:=[(6,.box 31 [.v .pl (int ((prodP (ft false) a (notZ b))).size),.v .pl (rowsA ((prodP (ft false) a (notZ b))).next),.v .pl (boolsA ((prodP (ft false) a (notZ b))).fin)]),(8,.box 31 [.v .pl (.sc (.int .i64 0)),.v .pl (.sc (.slice none 0 0)),.v .pl (.sc (.slice none 0 0))])]) (o2:=[(6,.box 31 [.v .pl (int ((prodP (ft false) a (notZ b))).size),.v .pl (rowsA ((prodP (ft false) a (notZ b))).next),.v .pl (boolsA ((prodP (ft false) a (notZ b))).fin)]),(8,.box 31 [.v .pl (int ((prodP (ft false) (notZ a) b)).size),.v .pl (rowsA ((prodP (ft false) (notZ a) b)).next),.v .pl (boolsA ((prodP (ft false) (notZ a) b)).fin)])]) 7 8 10 [(37,.v .mx (dfa a)),(38,.v .pl (dfa (notZ a))),(39,.v .mx (dfa b)),(40,.v .pl (.tup [dfa (prodP (ft false) (notZ a) b),bool true])),(36,.v .pl (.tup [dfa (prodP (ft false) (notZ a) b),bool true])),(41,.v .pl (dfa (prodP (ft false) (notZ a) b))),(42,.v .pl (bool true)),(8,.pbox 8 0),(9,.v .pl (bool true)),(2,.v .mx (dpc a)),(3,.v .mx (dpc b)),(6,.pbox 6 0)] mixed (by kernel_rfl) (by kernel_rfl) (by kernel_rfl) (by kernel_rfl) rfl (by kernel_rfl) rfl (fun t z h=>h) rfl ?_ ?_ ?_ ?_ ?_ ?_ ?_
  · intro zi zt hzi hzd
    rcases (by omega:zi=0∨zi=1∨zi=2∨zi=3∨zi=4∨zi=5∨zi=6∨zi=7∨zi=8∨zi=9) with rfl|rfl|rfl|rfl|rfl|rfl|rfl|rfl|rfl|rfl
    · injection (show some _=some zt from hzd) with hzd;subst hzd;exact ⟨_,rfl⟩
    · injection (show some _=some zt from hzd) with hzd;subst hzd;exact ⟨_,rfl⟩
    · injection (show some _=some zt from hzd) with hzd;subst hzd;exact ⟨_,rfl⟩
    · injection (show some _=some zt from hzd) with hzd;subst hzd;exact ⟨_,rfl⟩
    · injection (show some _=some zt from hzd) with hzd;subst hzd;exact ⟨_,rfl⟩
    · injection (show some _=some zt from hzd) with hzd;subst hzd;exact ⟨_,rfl⟩
    · injection (show some _=some zt from hzd) with hzd;subst hzd;exact ⟨_,rfl⟩
    · injection (show some _=some zt from hzd) with hzd;subst hzd;exact ⟨_,rfl⟩
    · cases (show (none:Option Nat)=some zt from hzd)
    · injection (show some _=some zt from hzd) with hzd;subst hzd;exact ⟨_,rfl⟩
  · intro zi zo zt zd hzi hzia hzib hzo hzd hzG hzn
    rcases (by omega:zi=0∨zi=1∨zi=2∨zi=3∨zi=4∨zi=5∨zi=6∨zi=9) with rfl|rfl|rfl|rfl|rfl|rfl|rfl|rfl
    · injection (show some _ = some zo from hzo) with hzo; subst hzo; injection (show some _ = some zt from hzd) with hzd; subst hzd; injection (show some _ = some zd from hzG) with hzG; subst hzG
      exact (pure_norm (pure_load_agg rfl ag31 sz31 rfl (Nat.le_of_ble_eq_true rfl)) rfl)
    · injection (show some _ = some zo from hzo) with hzo; subst hzo; injection (show some _ = some zt from hzd) with hzd; subst hzd; injection (show some _ = some zd from hzG) with hzG; subst hzG
      exact (pure_callD rfl rfl rfl (rnot_call (d:=a)) hM0)
    · injection (show some _ = some zo from hzo) with hzo; subst hzo; injection (show some _ = some zt from hzd) with hzd; subst hzd; injection (show some _ = some zd from hzG) with hzG; subst hzG
      exact (pure_norm (pure_load_agg rfl ag31 sz31 rfl (Nat.le_of_ble_eq_true rfl)) rfl)
    · injection (show some _ = some zo from hzo) with hzo; subst hzo; injection (show some _ = some zt from hzd) with hzd; subst hzd; injection (show some _ = some zd from hzG) with hzG; subst hzG
      exact (pure_callD rfl rfl rfl (rproduct_call (a:=notZ a) (b:=b) (e:=false) hna.1 hdb (by omega) hm2) hM0)
    · injection (show some _ = some zo from hzo) with hzo; subst hzo; injection (show some _ = some zt from hzd) with hzd; subst hzd; injection (show some _ = some zd from hzG) with hzG; subst hzG
      exact (pure_move rfl rfl)
    · injection (show some _ = some zo from hzo) with hzo; subst hzo; injection (show some _ = some zt from hzd) with hzd; subst hzd; injection (show some _ = some zd from hzG) with hzG; subst hzG
      exact (pure_extract rfl rfl rfl)
    · injection (show some _ = some zo from hzo) with hzo; subst hzo; injection (show some _ = some zt from hzd) with hzd; subst hzd; injection (show some _ = some zd from hzG) with hzG; subst hzG
      exact (pure_extract rfl rfl rfl)
    · first|exact absurd hzn (by decide)
  · intro zi zo zt zd hzi hzia hzib hzo hzd hzG hzn hzn2
    rcases (by omega:zi=0∨zi=1∨zi=2∨zi=3∨zi=4∨zi=5∨zi=6∨zi=9) with rfl|rfl|rfl|rfl|rfl|rfl|rfl|rfl
    · injection (show some _ = some zo from hzo) with hzo; subst hzo; injection (show some _ = some zt from hzd) with hzd; subst hzd; injection (show some _ = some zd from hzG) with hzG; subst hzG
      exact (pure_norm (pure_load_agg rfl ag31 sz31 rfl (Nat.le_of_ble_eq_true rfl)) rfl)
    · injection (show some _ = some zo from hzo) with hzo; subst hzo; injection (show some _ = some zt from hzd) with hzd; subst hzd; injection (show some _ = some zd from hzG) with hzG; subst hzG
      exact (pure_callD rfl rfl rfl (rnot_call (d:=a)) hM0)
    · injection (show some _ = some zo from hzo) with hzo; subst hzo; injection (show some _ = some zt from hzd) with hzd; subst hzd; injection (show some _ = some zd from hzG) with hzG; subst hzG
      exact (pure_norm (pure_load_agg rfl ag31 sz31 rfl (Nat.le_of_ble_eq_true rfl)) rfl)
    · injection (show some _ = some zo from hzo) with hzo; subst hzo; injection (show some _ = some zt from hzd) with hzd; subst hzd; injection (show some _ = some zd from hzG) with hzG; subst hzG
      exact (pure_callD rfl rfl rfl (rproduct_call (a:=notZ a) (b:=b) (e:=false) hna.1 hdb (by omega) hm2) hM0)
    · injection (show some _ = some zo from hzo) with hzo; subst hzo; injection (show some _ = some zt from hzd) with hzd; subst hzd; injection (show some _ = some zd from hzG) with hzG; subst hzG
      exact (pure_move rfl rfl)
    · injection (show some _ = some zo from hzo) with hzo; subst hzo; injection (show some _ = some zt from hzd) with hzd; subst hzd; injection (show some _ = some zd from hzG) with hzG; subst hzG
      exact (pure_extract rfl rfl rfl)
    · injection (show some _ = some zo from hzo) with hzo; subst hzo; injection (show some _ = some zt from hzd) with hzd; subst hzd; injection (show some _ = some zd from hzG) with hzG; subst hzG
      exact (pure_extract rfl rfl rfl)
    · first|exact absurd hzn (by decide)|exact absurd hzn2 (by decide)
  · intro zi zo zt zd hzi hzia hzib hzo hzd hzG hzn
    rcases (by omega:zi=0∨zi=1∨zi=2∨zi=3∨zi=4∨zi=5∨zi=6∨zi=9) with rfl|rfl|rfl|rfl|rfl|rfl|rfl|rfl
    · first|exact absurd hzn (by decide)
    · first|exact absurd hzn (by decide)
    · first|exact absurd hzn (by decide)
    · first|exact absurd hzn (by decide)
    · first|exact absurd hzn (by decide)
    · first|exact absurd hzn (by decide)
    · injection (show some _ = some zo from hzo) with hzo; subst hzo; injection (show some _ = some zt from hzd) with hzd; subst hzd; injection (show some _ = some zd from hzG) with hzG; subst hzG
      exact (pure_extract rfl rfl rfl)
    · injection (show some _ = some zo from hzo) with hzo; subst hzo; injection (show some _ = some zt from hzd) with hzd; subst hzd; injection (show some _ = some zd from hzG) with hzG; subst hzG
      exact (pure_assign rfl rfl)
  · intro zo X hzo hXn hXG hXr
    injection (show some _=some zo from hzo) with hzo'
    exact step_allocD (t:=8) (by rw [← hzo'];rfl) (by rw [← hzo'];rfl) rfl rfl hXn ze31 rfl rfl (fun t' z h hne=>all_stays (by rfl) (hXG t' z h) hne) rfl hM0
  · intro zo X hzo hXn hXG hXr
    have hXu:8∈looks _ zo→X.lookup 8=some (.pbox 8 0):=fun h=>(hXr 8 h).trans rfl
    have hXv:41∈looks _ zo→X.lookup 41=some (.v .pl (dfa (prodP (ft false) (notZ a) b))):=fun h=>(hXr 41 h).trans rfl
    injection (show some _=some zo from hzo) with hzo'
    exact step_storeE (by rw [← hzo'];rfl) (step_storeD (u:=8) (v:=41) (id:=8) (by rw [← hzo'];rfl) (by rw [← hzo'];rfl) hXn sz31 (hXu (by rw [← hzo'];decide)) rfl (hXv (by rw [← hzo'];decide)) rfl (by decide) rfl rfl (fun t' z h=>all_stays0 (by rfl) (hXG t' z h)) rfl hM0)
  refine endL_of (n:=0) (by kernel_rfl) ?_
  refine ex_end (by kernel_rfl) ?_
  refine xD tb hM0 4 [8,44] [8] rfl ?_
  refine oP rfl (pure_call rfl rfl rfl (rleast_call (d:=(prodP (ft false) a (notZ b)))) hM0) ?_
  refine xA tb hM0 10 [10,11,49] [] rfl ?_
  refine oP rfl (pure_call rfl rfl rfl (rleast_call (d:=(prodP (ft false) (notZ a) b))) hM0) ?_
  refine xA tb hM0 12 [10,12,13,54] [] rfl ?_
  refine spO 54 rfl ?_ ?_<;>intro h4'<;>try simp only [dq] at h4'
  refine xA tb hM0 3 [10,12,13,54,57] [] rfl ?_
  refine spO 57 rfl ?_ ?_<;>intro h5'<;>try simp only [dq] at h5'
  refine xA tb hM0 17 [] [] rfl ?_
  refine end2_ret rfl rfl ?_;rotate_left
  refine xA tb hM0 2 [10,12,13,54,57,58,59] [] rfl ?_
  refine oP rfl (pure_call rfl rfl rfl (ahead_call (v:=(leastZ (prodP (ft false) a (notZ b))).getD []) (w:=(leastZ (prodP (ft false) (notZ a) b)).getD []) least_len least_len) hM0) ?_
  refine xA tb hM0 4 [10,12,13,62] [] rfl ?_
  refine spC 62 rfl ?_ ?_<;>intro h6<;>try simp only [dq] at h6
  refine xA tb hM0 10 [] [] rfl ?_
  refine end2_ret rfl rfl ?_;rotate_left
  refine xA tb hM0 12 [] [] rfl ?_
  refine end2_ret rfl rfl ?_;rotate_left
  refine xA tb hM0 22 [] [] rfl ?_
  refine end2_ret rfl rfl ?_;rotate_left
  all_goals
    first
      | (rw [differZ_a (a:=a) (b:=b) (by assumption)];exact ⟨rfl,rfl⟩)
      | (rw [differZ_b (a:=a) (b:=b) (by assumption)];exact ⟨rfl,rfl⟩)
      | (rw [differZ_f (a:=a) (b:=b) (fun q=>by have:=q.2.2;omega)];exact ⟨rfl,rfl⟩)
      | (rw [hrd,pick_v (by assumption) (.inl (by assumption)),show (leastZ (prodP (ft false) a (notZ b))).isSome=true from by assumption];exact ⟨rfl,rfl⟩)
      | (rw [hrd,pick_v (by assumption) (.inr (by assumption)),show (leastZ (prodP (ft false) a (notZ b))).isSome=true from by assumption];exact ⟨rfl,rfl⟩)
      | (rw [hrd,pick_w (.inl (by assumption))];exact ⟨rfl,rfl⟩)
      | (rw [hrd,pick_w (.inr ⟨by assumption,by assumption⟩)];exact ⟨rfl,rfl⟩)
end Go.Proofs.YtjimlkpfmbachaaGreat

namespace Go.Proofs.YtjimlkpfmbachaaGreat
open Go.Am Go.Wc Go.Wb Go.Wd
theorem nats_intsW (w:List Nat):nats w=ints (natL w):=by rw [nats,← natL_nats]
theorem sameW_call {o:Option (List Nat)} (h:(o.getD []).length≤4611686018427387904):CallF Tryz.prog 20 [resW o,resW o] (.p (bool true)):=by
  have q:=sameInts_call (a:=natL (o.getD [])) (b:=natL (o.getD [])) (by rw [List.length_map];exact h)
  rw [decide_eq_true rfl,← nats_intsW] at q
  exact q
/-! The statement AutomatonLeastSaid. -/
namespace automatonLeast
open Go.ChangeShapes Go.WideShapes Go.ChangeAt Go.RowKit Go.Am
end automatonLeast
end Go.Proofs.YtjimlkpfmbachaaGreat

namespace Go.Proofs.YtjimlkpfmbachaaGreat
open Go.Am Go.Wc Go.Wb Go.Wd
theorem fn31:FnC Tryz.prog 31 Tryz.f31.ntmps 8 31 3 (Tryz.f31.body.getD .skip):=⟨Tryz.f31,Tryz.func31,rfl,rfl,rfl,by kernel_rfl,ag31,sz31⟩
set_option maxRecDepth 100000 in
set_option maxHeartbeats 8000000 in
theorem spoilt_call {d:Dfa} {a c b:Int} (hd:okD d) (ha:I64 a) (hc:I64 c) (hb:I64 b):CallF Tryz.prog 31 [dfa d,int a,int c,int b] (.p (dfa (spZ d a c b))):=by
  have hn:d.n=d.next.length:=rfl
  have hd1:=hd.1
  have hK:=spK_lt hd a
  have hS:=(spS_eq hd a).2
  have hRl:=spR_len hd a
  have hrw:∀ i,(d.next.getD i default).length≤64:=fun i=>by
    by_cases h:i<d.next.length
    · have:=(hd.row h).1;omega
    · rw [List.getD_eq_getElem?_getD,List.getElem?_eq_none (by omega)];exact Nat.zero_le _
  have h8:=around_lt (n:=c) (most:=8) (by omega)
  have h4:=around_lt (n:=b) (most:=4) (by omega)
  have hcK:CallF Tryz.prog 9 [int a,int (d.next.length:Int)] (.p (natI (spK d a))):=by
    have h:=around_call (n:=a) (most:=(d.next.length:Int)) ha (by omega)
    rwa [spK_eq hd a] at h
  have hcS:CallF Tryz.prog 9 [int (a.tdiv 8),int ((spR d a).length:Int)] (.p (natI (spS d a))):=by
    have h:=around_call (n:=a.tdiv 8) (most:=((spR d a).length:Int)) (tdiv8 ha) (by omega)
    rwa [(spS_eq hd a).1] at h
  have hcH:=around_call (n:=c) (most:=8) hc (by omega)
  have hcB:=around_call (n:=b) (most:=4) hb (by omega)
  refine callF_of_codeC fn31 (Nat.le_of_ble_eq_true rfl) fun w0 M0 hM0=>?_
  refine xC tb hM0 2 [0,1,2,3] [] rfl ?_
  refine oP rfl (pure_box rfl rfl rfl hM0) ?_
  refine xA tb hM0 14 [1,2,3,4,8,9] [8,9] rfl ?_
  refine code_nilown 9 1 33 22 31 hM0 rfl rfl rfl rfl ?_
  refine CodeOk.imp (imp_nestB 9 1 hM0 rfl rfl rfl rfl rfl rfl rfl) ?_
  refine xK tb hM0 5 [1,2,3,4,8,9,10] [8,9,33] rfl ?_
  refine lp (fun zm zs=>∃ i:Nat,zm=d.next.length-i∧(i≤d.next.length)∧zs=⟨143,[(1,.v .mx (int a)),(2,.v .mx (int c)),(3,.v .mx (int b)),(4,.v .mx (dpc d)),(8,.pbox 8 0),(9,.pbox 9 0),(10,.v .pl (natI i))],[(8,.box 31 [.v .pl (.sc (.int .i64 0)),.v .pl (.sc (.slice none 0 0)),.v .pl (.sc (.slice none 0 0))]),(9,.box 31 [.v .pl (int d.size),.nst 33,.v .pl (.sc (.slice none 0 0))]),(33,.nar 22 (rowsI 3 (d.next.take i)) none)]⟩) ?_ ?_
  exact ⟨_,0,rfl,Nat.zero_le _,rfl⟩
  rintro zm zs ⟨i,rfl,hL1_0,rfl⟩
  have hrl:(d.next.getD i default).length≤64:=hrw i
  refine xA tb hM0 6 [1,2,3,4,8,9,10,16,18] [8,9,33] rfl ?_
  refine oP rfl (pure_lenm rfl Tryz.underlying28 rfl) ?_
  refine xA tb hM0 3 [1,2,3,4,8,9,10,20] [8,9,33] rfl ?_
  refine spC 20 rfl ?_ ?_<;>intro h1<;>try simp only [dq] at h1
  refine xA tb hM0 5 [1,2,3,4,8,9,10] [8,9,33] rfl ?_
  refine CodeOk.imp (imp_renB 9 1 41 hM0 rfl rfl rfl rfl rfl rfl rfl rfl rfl) ?_
  refine xK tb hM0 0 [1,2,3,4,8,9,10] [8,9,41] rfl ?_
  refine code_drawM (n:=143) 4 (fun p=>[2,8,9,10].getD p 0) (fun p=>[[(8,.box 31 [.v .pl (.sc (.int .i64 0)),.v .pl (.sc (.slice none 0 0)),.v .pl (.sc (.slice none 0 0))]),(9,.box 31 [.v .pl (int d.size),.nst 41,.v .pl (.sc (.slice none 0 0))]),(41,.nar 22 (rowsI 3 (d.next.take i)) none)],[(8,.box 31 [.v .pl (.sc (.int .i64 0)),.v .pl (.sc (.slice none 0 0)),.v .pl (.sc (.slice none 0 0))]),(9,.box 31 [.v .pl (int d.size),.nst 41,.v .pl (.sc (.slice none 0 0))]),(25,.arr 3 []),(41,.nar 22 (rowsI 3 (d.next.take i)) none)],[(8,.box 31 [.v .pl (.sc (.int .i64 0)),.v .pl (.sc (.slice none 0 0)),.v .pl (.sc (.slice none 0 0))]),(9,.box 31 [.v .pl (int d.size),.nst 41,.v .pl (.sc (.slice none 0 0))]),(31,.arr 3 ((d.next.getD i default).map int)),(41,.nar 22 (rowsI 3 (d.next.take i)) none)],[(8,.box 31 [.v .pl (.sc (.int .i64 0)),.v .pl (.sc (.slice none 0 0)),.v .pl (.sc (.slice none 0 0))]),(9,.box 31 [.v .pl (int d.size),.nst 41,.v .pl (.sc (.slice none 0 0))]),(32,.nar 22 [Cell.row 3 ((d.next.getD i default).map int)] none),(41,.nar 22 (rowsI 3 (d.next.take i)) none)],[(8,.box 31 [.v .pl (.sc (.int .i64 0)),.v .pl (.sc (.slice none 0 0)),.v .pl (.sc (.slice none 0 0))]),(9,.box 31 [.v .pl (int d.size),.dead,.v .pl (.sc (.slice none 0 0))]),(33,.nar 22 ((rowsI 3 (d.next.take i))++[Cell.row 3 ((d.next.getD i default).map int)]) none)]].getD p []) 11 [(23,.pbox 9 1),(24,.nst 41),(25,.own 25),(26,.v .mx (.pc (dcells d) 1)),(27,.v .mx (rowsA d.next)),(28,.v .pl (natI i)),(29,.v .mx (.pc [ints (d.next.getD i default)] 0)),(30,.v .mx (ints (d.next.getD i default))),(31,.own 31),(32,.nst 32),(33,.nst 33),(1,.v .mx (int a)),(2,.v .mx (int c)),(3,.v .mx (int b)),(4,.v .mx (dpc d)),(8,.pbox 8 0),(9,.pbox 9 0),(10,.v .pl (natI i))] mixed (by kernel_rfl) (by kernel_rfl) (by kernel_rfl) (by kernel_rfl) (fun t d h=>h) rfl ?_ ?_ ?_ ?_
  · intro zi zt hzi hzd
    rcases (by omega:zi=0∨zi=1∨zi=2∨zi=3∨zi=4∨zi=5∨zi=6∨zi=7∨zi=8∨zi=9∨zi=10) with rfl|rfl|rfl|rfl|rfl|rfl|rfl|rfl|rfl|rfl|rfl
    · injection (show some _=some zt from hzd) with hzd;subst hzd;exact ⟨_,rfl⟩
    · injection (show some _=some zt from hzd) with hzd;subst hzd;exact ⟨_,rfl⟩
    · injection (show some _=some zt from hzd) with hzd;subst hzd;exact ⟨_,rfl⟩
    · injection (show some _=some zt from hzd) with hzd;subst hzd;exact ⟨_,rfl⟩
    · injection (show some _=some zt from hzd) with hzd;subst hzd;exact ⟨_,rfl⟩
    · injection (show some _=some zt from hzd) with hzd;subst hzd;exact ⟨_,rfl⟩
    · injection (show some _=some zt from hzd) with hzd;subst hzd;exact ⟨_,rfl⟩
    · injection (show some _=some zt from hzd) with hzd;subst hzd;exact ⟨_,rfl⟩
    · injection (show some _=some zt from hzd) with hzd;subst hzd;exact ⟨_,rfl⟩
    · injection (show some _=some zt from hzd) with hzd;subst hzd;exact ⟨_,rfl⟩
    · injection (show some _=some zt from hzd) with hzd;subst hzd;exact ⟨_,rfl⟩
  · intro zp zi zo zt zd hzp hzi hze hzo hzd hzG hzb hza
    rcases (by omega:zi=0∨zi=1∨zi=2∨zi=3∨zi=4∨zi=5∨zi=6∨zi=7∨zi=8∨zi=9∨zi=10) with rfl|rfl|rfl|rfl|rfl|rfl|rfl|rfl|rfl|rfl|rfl
    · injection (show some _ = some zo from hzo) with hzo; subst hzo; injection (show some _ = some zt from hzd) with hzd; subst hzd; injection (show some _ = some zd from hzG) with hzG; subst hzG
      rcases (by omega:zp=0∨zp=1∨zp=2∨zp=3∨zp=4) with rfl|rfl|rfl|rfl|rfl
      · exact (pure_field_box rfl fd31_1 rfl rfl)
      · exact (pure_field_box rfl fd31_1 rfl rfl)
      · exact (pure_field_box rfl fd31_1 rfl rfl)
      · exact (pure_field_box rfl fd31_1 rfl rfl)
      · exact absurd (hzb 3 (by decide)) (by decide)
    · injection (show some _ = some zo from hzo) with hzo; subst hzo; injection (show some _ = some zt from hzd) with hzd; subst hzd; injection (show some _ = some zd from hzG) with hzG; subst hzG
      rcases (by omega:zp=0∨zp=1∨zp=2∨zp=3∨zp=4) with rfl|rfl|rfl|rfl|rfl
      · exact (pure_load_box rfl ag28 rfl rfl rfl)
      · exact (pure_load_box rfl ag28 rfl rfl rfl)
      · exact (pure_load_box rfl ag28 rfl rfl rfl)
      · exact (pure_load_box rfl ag28 rfl rfl rfl)
      · exact absurd (hzb 3 (by decide)) (by decide)
    · exact absurd hze (by decide)
    · injection (show some _ = some zo from hzo) with hzo; subst hzo; injection (show some _ = some zt from hzd) with hzd; subst hzd; injection (show some _ = some zd from hzG) with hzG; subst hzG
      rcases (by omega:zp=0∨zp=1∨zp=2∨zp=3∨zp=4) with rfl|rfl|rfl|rfl|rfl
      · exact (pure_field rfl fd31_1 rfl)
      · exact (pure_field rfl fd31_1 rfl)
      · exact absurd (hzb 1 (by decide)) (by decide)
      · exact absurd (hzb 1 (by decide)) (by decide)
      · exact absurd (hzb 1 (by decide)) (by decide)
    · injection (show some _ = some zo from hzo) with hzo; subst hzo; injection (show some _ = some zt from hzd) with hzd; subst hzd; injection (show some _ = some zd from hzG) with hzG; subst hzG
      rcases (by omega:zp=0∨zp=1∨zp=2∨zp=3∨zp=4) with rfl|rfl|rfl|rfl|rfl
      · exact (pure_load rfl ag28 rfl rfl)
      · exact (pure_load rfl ag28 rfl rfl)
      · exact absurd (hzb 1 (by decide)) (by decide)
      · exact absurd (hzb 1 (by decide)) (by decide)
      · exact absurd (hzb 1 (by decide)) (by decide)
    · injection (show some _ = some zo from hzo) with hzo; subst hzo; injection (show some _ = some zt from hzd) with hzd; subst hzd; injection (show some _ = some zd from hzG) with hzG; subst hzG
      rcases (by omega:zp=0∨zp=1∨zp=2∨zp=3∨zp=4) with rfl|rfl|rfl|rfl|rfl
      · exact (pure_move rfl rfl)
      · exact (pure_move rfl rfl)
      · exact absurd (hzb 1 (by decide)) (by decide)
      · exact absurd (hzb 1 (by decide)) (by decide)
      · exact absurd (hzb 1 (by decide)) (by decide)
    · injection (show some _ = some zo from hzo) with hzo; subst hzo; injection (show some _ = some zt from hzd) with hzd; subst hzd; injection (show some _ = some zd from hzG) with hzG; subst hzG
      rcases (by omega:zp=0∨zp=1∨zp=2∨zp=3∨zp=4) with rfl|rfl|rfl|rfl|rfl
      · exact (pure_ix (f:=ints) (l:=d.next) rfl Tryz.underlying28 sz22 rfl rfl (by omega) (fun _=>rfl))
      · exact (pure_ix (f:=ints) (l:=d.next) rfl Tryz.underlying28 sz22 rfl rfl (by omega) (fun _=>rfl))
      · exact absurd (hzb 1 (by decide)) (by decide)
      · exact absurd (hzb 1 (by decide)) (by decide)
      · exact absurd (hzb 1 (by decide)) (by decide)
    · injection (show some _ = some zo from hzo) with hzo; subst hzo; injection (show some _ = some zt from hzd) with hzd; subst hzd; injection (show some _ = some zd from hzG) with hzG; subst hzG
      rcases (by omega:zp=0∨zp=1∨zp=2∨zp=3∨zp=4) with rfl|rfl|rfl|rfl|rfl
      · exact (pure_load rfl ag22 rfl rfl)
      · exact (pure_load rfl ag22 rfl rfl)
      · exact absurd (hzb 1 (by decide)) (by decide)
      · exact absurd (hzb 1 (by decide)) (by decide)
      · exact absurd (hzb 1 (by decide)) (by decide)
    · exact absurd hze (by decide)
    · exact absurd hze (by decide)
    · exact absurd hze (by decide)
  · intro zp zo X hzp hzo hXn hXG hXr
    rcases (by omega:zp=0∨zp=1∨zp=2∨zp=3) with rfl|rfl|rfl|rfl
    · skip
      injection (show some _=some zo from hzo) with hzo'
      exact stepN_lit0 (T:=22) (parts:=#[]) (t:=25) (by rw [← hzo'];rfl) rfl (by rw [← hzo'];rfl) rfl hXn Tryz.underlying22 el3 hXG rfl rfl rfl hM0
    · skip
      have hX25:25∈looks _ zo→X.lookup 25=some (.own 25):=fun h=>(hXr 25 h).trans rfl
      have hX30:30∈looks _ zo→X.lookup 30=some (.v .mx (ints (d.next.getD i default))):=fun h=>(hXr 30 h).trans rfl
      injection (show some _=some zo from hzo) with hzo'
      have hX25:=hX25 (by rw [← hzo'];decide)
      have hX30:=hX30 (by rw [← hzo'];decide)
      exact stepN_append (T:=22) (t:=31) (u:=25) (id:=25) (y:=.tmp 30) (by rw [← hzo'];rfl) (by rw [← hzo'];rfl) rfl hXn Tryz.underlying22 el3 hX25 rfl (src_scm (f:=int) (l:=(d.next.getD i default)) (c:=.mx) (view_sl hX30) (fun _=>⟨_,rfl⟩)) (by rw [List.length_map];simp only [List.length_nil];omega) (by rw [List.length_map];simp only [List.length_nil];omega) rfl hXG rfl rfl rfl hM0
    · skip
      have hX31:31∈looks _ zo→X.lookup 31=some (.own 31):=fun h=>(hXr 31 h).trans rfl
      injection (show some _=some zo from hzo) with hzo'
      have hX31:=hX31 (by rw [← hzo'];decide)
      exact stepN_lit (T:=28) (t:=32) (u:=31) (v:=31) (by rw [← hzo'];rfl) (by rw [← hzo'];rfl) rfl rfl rfl hXn Tryz.underlying28 el22 hX31 rfl hXG rfl rfl rfl hM0
    · skip
      have hX24:24∈looks _ zo→X.lookup 24=some (.nst 41):=fun h=>(hXr 24 h).trans rfl
      have hX32:32∈looks _ zo→X.lookup 32=some (.nst 32):=fun h=>(hXr 32 h).trans rfl
      injection (show some _=some zo from hzo) with hzo'
      have hX24:=hX24 (by rw [← hzo'];decide)
      have hX32:=hX32 (by rw [← hzo'];decide)
      exact stepN_app (T:=28) (t:=33) (u:=24) (v:=32) (id:=41) (id2:=32) (by rw [← hzo'];rfl) (by rw [← hzo'];rfl) rfl rfl rfl hXn Tryz.underlying28 el22 hX24 rfl hX32 rfl (Nat.succ_pos _) (by rw [rowsI_len,List.length_take];simp only [List.length_cons,List.length_nil];omega) (by rw [rowsI_len,List.length_take];simp only [List.length_cons,List.length_nil];omega) hXG rfl rfl rfl hM0
  refine endL_of (n:=2) (by kernel_rfl) ?_
  refine ex_one (i:=11) (by kernel_rfl) rfl rfl (st_pure rfl rfl (pure_field_box rfl fd31_1 rfl rfl)) ?_
  refine ex_one (i:=12) (by kernel_rfl) rfl rfl (step_store_box_nst rfl rfl rfl sz28 rfl rfl rfl rfl sz22 rfl hM0) ?_
  refine ex_end (by kernel_rfl) ?_
  refine xD tb hM0 4 [1,2,3,4,8,9,21] [8,9,33] rfl ?_
  refine oP rfl (pure_addi rfl rfl rfl (by omega)) ?_
  refine xA tb hM0 2 [1,2,3,4,8,9,10] [8,9,33] rfl ?_
  refine nx ?_
  refine ⟨_,⟨i+1,rfl,by omega,?_⟩,by omega⟩
  rw [rowsI_step (by omega)];rfl
  refine xA tb hM0 7 [1,2,3,4,8,9] [8,9,33] rfl ?_
  obtain rfl:i=d.next.length:=by omega
  rw [List.take_length]
  refine xA tb hM0 5 [1,2,3,8,9,36,38] [8,9,33] rfl ?_
  refine oS rfl (step_append_nil rfl rfl rfl rfl Tryz.underlying29 el4 rfl hM0 (src_scm rfl (fun _=>⟨_,rfl⟩)) (by rw [List.length_map];omega) (by rw [List.length_map];omega)) rfl ?_
  refine ol_frz 143 [(1,_),(2,_),(3,_),(8,_),(9,_),(39,_)] [(8,_),(9,_),(33,_)] hM0 rfl ⟨.inl rfl,.inl rfl,.inl rfl,.inl rfl,.inl rfl,.inr ⟨_,_,rfl,rfl,rfl⟩,trivial⟩ ⟨rfl,rfl,rfl,trivial⟩ ?_
  refine xO tb hM0 9 [1,2,3,8,9,41,43] [8,9,33] rfl ?_
  refine oP rfl (pure_toi (a':=(d.next.length:Int)) (pure_len_nst rfl Tryz.underlying28 sz22 rfl rfl) (by rw [rowsI_len])) ?_
  refine oP rfl (pure_call rfl rfl rfl (hcK) hM0) ?_
  refine xA tb hM0 4 [1,2,3,8,9,11] [8,9,33] rfl ?_
  refine code_lend 33 200 hM0 rfl rfl rfl (show (rowsI 3 d.next)[spK d a]?=some (Cell.row 3 ((spR d a).map int)) from rowsI_at hK) ?_
  refine xK tb hM0 2 [2,3,8,9,11,46] [8,9,33,200] rfl ?_
  refine oP rfl (pure_toi (a':=(a.tdiv 8)) (pure_quo rfl rfl rfl (by decide)) (by exact wrap64 (tdiv8 ha).1 (tdiv8 ha).2)) ?_
  refine xA tb hM0 3 [2,3,8,9,11,47,49,50] [8,9,33,200] rfl ?_
  refine oP rfl (pure_index_nst rfl Tryz.underlying28 sz22 rfl rfl rfl (by rw [rowsI_len];omega)) ?_
  refine oP rfl (pure_load_lent rfl ag22 rfl rfl) ?_
  refine xA tb hM0 0 [2,3,8,9,11,47,52] [8,9,33,200] rfl ?_
  refine oP rfl (pure_lenm rfl Tryz.underlying22 rfl) ?_
  refine oP rfl (pure_call rfl rfl rfl (hcS) hM0) ?_
  refine xA tb hM0 7 [3,8,9,11,12,55] [8,9,33,200] rfl ?_
  refine oP rfl (pure_call rfl rfl rfl (hcH) hM0) ?_
  refine xA tb hM0 9 [3,8,9,11,12,56,63] [8,9,33,200] rfl ?_
  refine spC 63 rfl ?_ ?_<;>intro h2<;>try simp only [dq] at h2
  refine xA tb hM0 9 [8,9] [8,9,33,200] rfl ?_
  refine code_giveback 33 200 hM0 rfl rfl (by rw [rowsI_len];omega) rfl ?_
  refine CodeOk.imp (imp_flatB 9 1 hM0 rfl rfl rfl rfl sz22 rfl rfl rfl) ?_
  refine code_frz 143 [(8,_),(9,_)] [(8,_)] hM0 rfl ⟨.inl rfl,.inr ⟨_,_,rfl,rfl,rfl⟩,trivial⟩ ⟨rfl,trivial⟩ ?_
  refine xK tb hM0 6 [] [] rfl ?_
  refine endC_ret rfl ?_;rotate_left
  refine xA tb hM0 7 [3,8,9,11,12,56,67] [8,9,33,200] rfl ?_
  refine spC 67 rfl ?_ ?_<;>intro h3<;>try simp only [dq] at h3
  refine xA tb hM0 5 [3,8,9,12,70,71] [8,9,33,200] rfl ?_
  refine oP rfl (pure_index_nst rfl Tryz.underlying28 sz22 rfl rfl rfl (by rw [rowsI_len];omega)) ?_
  refine oP rfl (pure_load_lent rfl ag22 rfl rfl) ?_
  refine xA tb hM0 2 [8,9,73,74,75] [8,9,33,200] rfl ?_
  refine oP rfl (pure_index_own rfl Tryz.underlying22 sz3 rfl rfl rfl (by rw [List.length_map];omega)) ?_
  refine oS rfl (step_store_pel rfl rfl rfl sz3 rfl rfl (mget (by omega)) rfl rfl (.inr ⟨_,rfl⟩) rfl (Nat.le_of_ble_eq_true rfl) hM0) rfl ?_
  refine xA tb hM0 4 [8,9] [8,9,33,200] rfl ?_
  refine code_giveback 33 200 hM0 rfl rfl (by rw [rowsI_len];omega) rfl ?_
  refine CodeOk.imp (imp_flatB 9 1 hM0 rfl rfl rfl rfl sz22 rfl rfl rfl) ?_
  refine code_frz 143 [(8,_),(9,_)] [(8,_)] hM0 rfl ⟨.inl rfl,.inr ⟨_,_,rfl,rfl,rfl⟩,trivial⟩ ⟨rfl,trivial⟩ ?_
  refine xK tb hM0 6 [] [] rfl ?_
  refine endC_ret rfl ?_;rotate_left
  refine xA tb hM0 7 [3,8,9,11,12,56,77] [8,9,33,200] rfl ?_
  refine spC 77 rfl ?_ ?_<;>intro h4<;>try simp only [dq] at h4
  refine xA tb hM0 1 [3,8,9,11,12] [8,9,33,200] rfl ?_
  refine code_draw mixed (by kernel_rfl) _ rfl ?_
  refine dl_pure rfl rfl rfl (pure_field_box rfl fd31_1 rfl rfl) ?_
  refine dl_pure rfl rfl rfl (pure_load_box rfl ag28 rfl rfl rfl) ?_
  refine dl_pure rfl rfl rfl (pure_move rfl rfl) ?_
  refine dl_pure rfl rfl rfl (pure_index_nst rfl Tryz.underlying28 sz22 rfl rfl rfl (by rw [rowsI_len];omega)) ?_
  refine dl_pure rfl rfl rfl (pure_load_lent rfl ag22 rfl rfl) ?_
  refine dl_pure rfl rfl rfl (pure_move rfl rfl) ?_
  refine dl_pure rfl rfl rfl (pure_field_box rfl fd31_1 rfl rfl) ?_
  refine dpk 143 [(3,_),(8,_),(9,_),(83,_),(84,_),(85,_)] [(8,_),(9,_),(33,_),(200,_)] rfl rfl rfl ?_
  refine dl_pure rfl rfl rfl (pure_load_box rfl ag28 rfl rfl rfl) ?_
  refine dl_pure rfl rfl rfl (pure_toi (a':=(d.next.length:Int)) (pure_len_nst rfl Tryz.underlying28 sz22 rfl rfl) (by rw [rowsI_len])) ?_
  refine dl_pure rfl rfl rfl (pure_subi rfl rfl rfl (by omega)) ?_
  refine dl_pure rfl rfl rfl (pure_field_box rfl fd31_1 rfl rfl) ?_
  refine dl_pure rfl rfl rfl (pure_load_box rfl ag28 rfl rfl rfl) ?_
  refine dl_pure rfl rfl rfl (pure_toi (a':=(d.next.length:Int)) (pure_len_nst rfl Tryz.underlying28 sz22 rfl rfl) (by rw [rowsI_len])) ?_
  refine dl_pure rfl rfl rfl (pure_lit rfl Tryz.underlying22 el3 rfl rfl rfl rfl hM0) ?_
  refine dpk 143 [(3,_),(8,_),(9,_),(83,_),(84,_),(92,_)] [(8,_),(9,_),(33,_),(200,_)] rfl rfl rfl ?_
  refine dl_pure rfl rfl rfl (pure_move rfl rfl) ?_
  refine dl_pure rfl rfl rfl (pure_call rfl rfl rfl (hcB) hM0) ?_
  refine dl_pure rfl rfl rfl (pure_ix (f:=int) (l:=(sp2 d)) rfl Tryz.underlying22 sz3 rfl rfl (by rw [show (sp2 d).length=4 from rfl];omega) (fun _=>rfl)) ?_
  refine dl_pure rfl rfl rfl (pure_load rfl ag3 rfl rfl) ?_
  refine dl_pure rfl rfl rfl (pure_index_own rfl Tryz.underlying22 sz3 rfl rfl rfl (by rw [List.length_map];omega)) ?_
  refine dl_tails (by kernel_rfl) ?_
  refine tl_step rfl (step_store_pel rfl rfl rfl sz3 rfl rfl (mget (by omega)) rfl rfl (.inl rfl) rfl (Nat.le_of_ble_eq_true rfl) hM0) ?_
  refine tl_nil ?_
  refine xD tb hM0 3 [8,9] [8,9,33,200] rfl ?_
  refine code_giveback 33 200 hM0 rfl rfl (by rw [rowsI_len];omega) rfl ?_
  refine CodeOk.imp (imp_flatB 9 1 hM0 rfl rfl rfl rfl sz22 rfl rfl rfl) ?_
  refine code_frz 143 [(8,_),(9,_)] [(8,_)] hM0 rfl ⟨.inl rfl,.inr ⟨_,_,rfl,rfl,rfl⟩,trivial⟩ ⟨rfl,trivial⟩ ?_
  refine xK tb hM0 6 [] [] rfl ?_
  refine endC_ret rfl ?_;rotate_left
  refine xA tb hM0 7 [3,8,9,11,12,56,98] [8,9,33,200] rfl ?_
  refine spC 98 rfl ?_ ?_<;>intro h5<;>try simp only [dq] at h5
  refine xA tb hM0 1 [8,9,11,12] [8,9,33,200] rfl ?_
  refine code_giveback 33 200 hM0 rfl rfl (by rw [rowsI_len];omega) rfl ?_
  refine CodeOk.imp (imp_flatB 9 1 hM0 rfl rfl rfl rfl sz22 rfl rfl rfl) ?_
  rw [rowsI_set,rowsI_av,sp_same hd]
  refine code_draw mixed (by kernel_rfl) _ rfl ?_
  refine dl_pure rfl rfl rfl (pure_field_box rfl fd31_1 rfl rfl) ?_
  refine dl_pure rfl rfl rfl (pure_load_box rfl ag28 rfl rfl rfl) ?_
  refine dl_pure rfl rfl rfl (pure_move rfl rfl) ?_
  refine dl_pure rfl rfl rfl (pure_field_box rfl fd31_1 rfl rfl) ?_
  refine dl_pure rfl rfl rfl (pure_load_box rfl ag28 rfl rfl rfl) ?_
  refine dl_pure rfl rfl rfl (pure_move rfl rfl) ?_
  refine dl_pure rfl rfl rfl (pure_index_own rfl Tryz.underlying28 sz22 rfl rfl rfl (by rw [List.length_map];omega)) ?_
  refine dpk 143 [(8,_),(9,_),(12,_),(101,_),(102,_),(106,_)] [(8,_),(9,_),(33,_)] rfl rfl rfl ?_
  refine dl_pure rfl rfl rfl (pure_load_pel rfl ag22 rfl rfl (mget (by omega)) rfl) ?_
  refine dl_pure rfl rfl rfl (pure_move rfl rfl) ?_
  refine dl_pure rfl rfl rfl (pure_slice_hm rfl Tryz.underlying22 sz3 rfl rfl (by exact ⟨Int.natCast_nonneg _,Int.ofNat_le.2 (Nat.le_of_lt hS)⟩) (fun _=>rfl)) ?_
  refine dl_pure rfl rfl rfl (pure_index_own rfl Tryz.underlying28 sz22 rfl rfl rfl (by rw [List.length_map];omega)) ?_
  refine dl_tails (by kernel_rfl) ?_
  refine tl_step rfl (step_store_pel rfl rfl rfl sz22 rfl rfl (mget (by omega)) rfl rfl (.inl rfl) rfl (Nat.le_of_ble_eq_true rfl) hM0) ?_
  refine tl_nil ?_
  refine xD tb hM0 3 [8,9] [8,9,33] rfl ?_
  refine code_frz 143 [(8,_),(9,_)] [(8,_)] hM0 rfl ⟨.inl rfl,.inr ⟨_,_,rfl,rfl,rfl⟩,trivial⟩ ⟨rfl,trivial⟩ ?_
  refine xK tb hM0 6 [] [] rfl ?_
  refine endC_ret rfl ?_;rotate_left
  refine xA tb hM0 7 [3,8,9,11,56,111] [8,9,33,200] rfl ?_
  refine spC 111 rfl ?_ ?_<;>intro h6<;>try simp only [dq] at h6
  refine xA tb hM0 1 [8,9,11] [8,9,33,200] rfl ?_
  refine code_drawM (n:=143) 1 (fun p=>[9].getD p 0) (fun p=>[[(8,.box 31 [.v .pl (.sc (.int .i64 0)),.v .pl (.sc (.slice none 0 0)),.v .pl (.sc (.slice none 0 0))]),(9,.box 31 [.v .pl (int d.size),.nst 33,.v .pl (boolsA d.fin)]),(33,.nar 22 (rowsI 3 d.next) (some (spK d a,.arr 200))),(200,.arr 3 ((spR d a).map int))],[(8,.box 31 [.v .pl (.sc (.int .i64 0)),.v .pl (.sc (.slice none 0 0)),.v .pl (.sc (.slice none 0 0))]),(9,.box 31 [.v .pl (int d.size),.nst 33,.v .pl (boolsA d.fin)]),(33,.nar 22 (rowsI 3 d.next) (some (spK d a,.no))),(122,.arr 3 ((spR d a).map int++[int 0]))]].getD p []) 10 [(113,.pbox 9 1),(114,.nst 33),(115,.v .pl (natI (spK d a))),(116,.pbox 9 1),(117,.nst 33),(118,.v .pl (natI (spK d a))),(119,.nel 33 (Int.toNat (spK d a:Int))),(120,.own 200),(121,.v .pl (.sl [int 0])),(122,.own 122),(8,.pbox 8 0),(9,.pbox 9 0),(11,.v .pl (natI (spK d a)))] mixed (by kernel_rfl) (by kernel_rfl) (by kernel_rfl) (by kernel_rfl) (fun t d h=>h) rfl ?_ ?_ ?_ ?_
  · intro zi zt hzi hzd
    rcases (by omega:zi=0∨zi=1∨zi=2∨zi=3∨zi=4∨zi=5∨zi=6∨zi=7∨zi=8∨zi=9) with rfl|rfl|rfl|rfl|rfl|rfl|rfl|rfl|rfl|rfl
    · injection (show some _=some zt from hzd) with hzd;subst hzd;exact ⟨_,rfl⟩
    · injection (show some _=some zt from hzd) with hzd;subst hzd;exact ⟨_,rfl⟩
    · injection (show some _=some zt from hzd) with hzd;subst hzd;exact ⟨_,rfl⟩
    · injection (show some _=some zt from hzd) with hzd;subst hzd;exact ⟨_,rfl⟩
    · injection (show some _=some zt from hzd) with hzd;subst hzd;exact ⟨_,rfl⟩
    · injection (show some _=some zt from hzd) with hzd;subst hzd;exact ⟨_,rfl⟩
    · injection (show some _=some zt from hzd) with hzd;subst hzd;exact ⟨_,rfl⟩
    · injection (show some _=some zt from hzd) with hzd;subst hzd;exact ⟨_,rfl⟩
    · injection (show some _=some zt from hzd) with hzd;subst hzd;exact ⟨_,rfl⟩
    · injection (show some _=some zt from hzd) with hzd;subst hzd;exact ⟨_,rfl⟩
  · intro zp zi zo zt zd hzp hzi hze hzo hzd hzG hzb hza
    rcases (by omega:zi=0∨zi=1∨zi=2∨zi=3∨zi=4∨zi=5∨zi=6∨zi=7∨zi=8∨zi=9) with rfl|rfl|rfl|rfl|rfl|rfl|rfl|rfl|rfl|rfl
    · injection (show some _ = some zo from hzo) with hzo; subst hzo; injection (show some _ = some zt from hzd) with hzd; subst hzd; injection (show some _ = some zd from hzG) with hzG; subst hzG
      rcases (by omega:zp=0∨zp=1) with rfl|rfl
      · exact (pure_field_box rfl fd31_1 rfl rfl)
      · exact (pure_field_box rfl fd31_1 rfl rfl)
    · injection (show some _ = some zo from hzo) with hzo; subst hzo; injection (show some _ = some zt from hzd) with hzd; subst hzd; injection (show some _ = some zd from hzG) with hzG; subst hzG
      rcases (by omega:zp=0∨zp=1) with rfl|rfl
      · exact (pure_load_box rfl ag28 rfl rfl rfl)
      · exact (pure_load_box rfl ag28 rfl rfl rfl)
    · injection (show some _ = some zo from hzo) with hzo; subst hzo; injection (show some _ = some zt from hzd) with hzd; subst hzd; injection (show some _ = some zd from hzG) with hzG; subst hzG
      rcases (by omega:zp=0∨zp=1) with rfl|rfl
      · exact (pure_move rfl rfl)
      · exact (pure_move rfl rfl)
    · injection (show some _ = some zo from hzo) with hzo; subst hzo; injection (show some _ = some zt from hzd) with hzd; subst hzd; injection (show some _ = some zd from hzG) with hzG; subst hzG
      rcases (by omega:zp=0∨zp=1) with rfl|rfl
      · exact (pure_field_box rfl fd31_1 rfl rfl)
      · exact absurd (hzb 0 (by decide)) (by decide)
    · injection (show some _ = some zo from hzo) with hzo; subst hzo; injection (show some _ = some zt from hzd) with hzd; subst hzd; injection (show some _ = some zd from hzG) with hzG; subst hzG
      rcases (by omega:zp=0∨zp=1) with rfl|rfl
      · exact (pure_load_box rfl ag28 rfl rfl rfl)
      · exact absurd (hzb 0 (by decide)) (by decide)
    · injection (show some _ = some zo from hzo) with hzo; subst hzo; injection (show some _ = some zt from hzd) with hzd; subst hzd; injection (show some _ = some zd from hzG) with hzG; subst hzG
      rcases (by omega:zp=0∨zp=1) with rfl|rfl
      · exact (pure_move rfl rfl)
      · exact absurd (hzb 0 (by decide)) (by decide)
    · injection (show some _ = some zo from hzo) with hzo; subst hzo; injection (show some _ = some zt from hzd) with hzd; subst hzd; injection (show some _ = some zd from hzG) with hzG; subst hzG
      rcases (by omega:zp=0∨zp=1) with rfl|rfl
      · exact (pure_index_nst rfl Tryz.underlying28 sz22 rfl rfl rfl (by rw [rowsI_len];omega))
      · exact absurd (hzb 0 (by decide)) (by decide)
    · injection (show some _ = some zo from hzo) with hzo; subst hzo; injection (show some _ = some zt from hzd) with hzd; subst hzd; injection (show some _ = some zd from hzG) with hzG; subst hzG
      rcases (by omega:zp=0∨zp=1) with rfl|rfl
      · exact (pure_load_lent rfl ag22 rfl rfl)
      · exact absurd (hzb 0 (by decide)) (by decide)
    · injection (show some _ = some zo from hzo) with hzo; subst hzo; injection (show some _ = some zt from hzd) with hzd; subst hzd; injection (show some _ = some zd from hzG) with hzG; subst hzG
      rcases (by omega:zp=0∨zp=1) with rfl|rfl
      · exact (pure_lit rfl Tryz.underlying22 el3 rfl rfl rfl rfl hM0)
      · exact absurd (hzb 0 (by decide)) (by decide)
    · exact absurd hze (by decide)
  · intro zp zo X hzp hzo hXn hXG hXr
    rcases (by omega:zp=0) with rfl
    · skip
      have hX120:120∈looks _ zo→X.lookup 120=some (.own 200):=fun h=>(hXr 120 h).trans rfl
      have hX121:121∈looks _ zo→X.lookup 121=some (.v .pl (.sl [int 0])):=fun h=>(hXr 121 h).trans rfl
      injection (show some _=some zo from hzo) with hzo'
      have hX120:=hX120 (by rw [← hzo'];decide)
      have hX121:=hX121 (by rw [← hzo'];decide)
      exact stepN_append (T:=22) (t:=122) (u:=120) (id:=200) (y:=.tmp 121) (by rw [← hzo'];rfl) (by rw [← hzo'];rfl) rfl hXn Tryz.underlying22 el3 hX120 rfl (src_pl (view_sl hX121) (one_len (by rfl))) (by rw [List.length_map];simp only [List.length_cons,List.length_nil];omega) (by rw [List.length_map];simp only [List.length_cons,List.length_nil];omega) rfl hXG rfl rfl rfl hM0
  refine endL_of (n:=2) (by kernel_rfl) ?_
  refine ex_one (i:=10) (by kernel_rfl) rfl rfl (st_pure rfl rfl (pure_index_nst rfl Tryz.underlying28 sz22 rfl rfl rfl (by rw [rowsI_len];omega))) ?_
  refine ex_one (i:=11) (by kernel_rfl) rfl rfl (step_store_nel rfl rfl rfl sz22 sz22 rfl rfl (fun i h=>by cases h;rfl) rfl rfl hM0) ?_
  refine ex_end (by kernel_rfl) ?_
  refine xD tb hM0 3 [8,9] [8,9,33,122] rfl ?_
  refine code_giveback 33 122 hM0 rfl rfl (by rw [rowsI_len];omega) rfl ?_
  refine CodeOk.imp (imp_flatB 9 1 hM0 rfl rfl rfl rfl sz22 rfl rfl rfl) ?_
  refine code_frz 143 [(8,_),(9,_)] [(8,_)] hM0 rfl ⟨.inl rfl,.inr ⟨_,_,rfl,rfl,rfl⟩,trivial⟩ ⟨rfl,trivial⟩ ?_
  refine xK tb hM0 6 [] [] rfl ?_
  refine endC_ret rfl ?_;rotate_left
  refine xA tb hM0 7 [3,8,9,11,56,124] [8,9,33,200] rfl ?_
  refine spC 124 rfl ?_ ?_<;>intro h7<;>try simp only [dq] at h7
  refine xA tb hM0 4 [8,9,127] [8,9,33,200] rfl ?_
  refine oP rfl (pure_slice_lm rfl Tryz.underlying29 sz4 rfl rfl (by omega) (fun _=>rfl)) ?_
  refine xA tb hM0 6 [8,9] [8,9,33,200] rfl ?_
  refine code_giveback 33 200 hM0 rfl rfl (by rw [rowsI_len];omega) rfl ?_
  refine CodeOk.imp (imp_flatB 9 1 hM0 rfl rfl rfl rfl sz22 rfl rfl rfl) ?_
  refine code_frz 143 [(8,_),(9,_)] [(8,_)] hM0 rfl ⟨.inl rfl,.inr ⟨_,_,rfl,rfl,rfl⟩,trivial⟩ ⟨rfl,trivial⟩ ?_
  refine xK tb hM0 6 [] [] rfl ?_
  refine endC_ret rfl ?_;rotate_left
  refine xA tb hM0 7 [3,8,9,11,130] [8,9,33,200] rfl ?_
  refine spC 130 rfl ?_ ?_<;>intro h8<;>try simp only [dq] at h8
  refine xA tb hM0 2 [8,9,11] [8,9,33,200] rfl ?_
  refine code_giveback 33 200 hM0 rfl rfl (by rw [rowsI_len];omega) rfl ?_
  refine CodeOk.imp (imp_flatB 9 1 hM0 rfl rfl rfl rfl sz22 rfl rfl rfl) ?_
  rw [rowsI_set,rowsI_av,sp_same hd]
  refine xK tb hM0 3 [8,9,11,133] [8,9,33] rfl ?_
  refine ol_frz 143 [(8,_),(9,_),(11,_),(133,_)] [(8,_),(9,_)] hM0 rfl ⟨.inl rfl,.inl rfl,.inl rfl,.inr ⟨_,_,rfl,rfl,rfl⟩,trivial⟩ ⟨rfl,rfl,trivial⟩ ?_
  refine xO tb hM0 1 [8,9,11,133,134] [8,9] rfl ?_
  refine oP rfl (pure_slice_hm rfl Tryz.underlying28 sz22 rfl rfl (by omega) (fun _=>rfl)) ?_
  refine xA tb hM0 8 [8,9,138,139] [8,9] rfl ?_
  refine oP rfl (pure_slice_hm rfl Tryz.underlying29 sz4 rfl rfl (by omega) (fun _=>rfl)) ?_
  refine xA tb hM0 6 [8,9] [8,9] rfl ?_
  refine code_frz 143 [(8,_),(9,_)] [(8,_)] hM0 rfl ⟨.inl rfl,.inr ⟨_,_,rfl,rfl,rfl⟩,trivial⟩ ⟨rfl,trivial⟩ ?_
  refine xK tb hM0 6 [] [] rfl ?_
  refine endC_ret rfl ?_;rotate_left
  refine xA tb hM0 2 [3,8,9] [8,9,33,200] rfl ?_
  refine oP rfl (pure_lit rfl Tryz.underlying22 el3 rfl rfl rfl rfl hM0) ?_
  refine xA tb hM0 1 [8,9,57,58] [8,9,33,200] rfl ?_
  refine oP rfl (pure_call rfl rfl rfl (hcB) hM0) ?_
  refine oP rfl (pure_ix (f:=int) (l:=sp7) rfl Tryz.underlying22 sz3 rfl rfl (by rw [show sp7.length=4 from rfl];omega) (fun _=>rfl)) ?_
  refine xA tb hM0 7 [8,9] [8,9,33,200] rfl ?_
  refine code_giveback 33 200 hM0 rfl rfl (by rw [rowsI_len];omega) rfl ?_
  refine CodeOk.imp (imp_flatB 9 1 hM0 rfl rfl rfl rfl sz22 rfl rfl rfl) ?_
  refine code_frz 143 [(8,_),(9,_)] [(8,_)] hM0 rfl ⟨.inl rfl,.inr ⟨_,_,rfl,rfl,rfl⟩,trivial⟩ ⟨rfl,trivial⟩ ?_
  refine xK tb hM0 6 [] [] rfl ?_
  refine endC_ret rfl ?_;rotate_left
  all_goals
    first
      | (rw [sp_0 (by omega),rowsI_set,rowsI_av,sp_same hd];first|done|rfl)
      | (rw [sp_1 (by omega)];exact congrArg (fun z=>RV.p (AV.agg [int d.size,.sl z,boolsA d.fin])) (sp_row1 (T:=3) (m:=d.next) (k:=spK d a) (r:=spR d a) (s:=spS d a) (x:=b)))
      | (rw [sp_2 (by omega)];exact congrArg (fun z=>RV.p (AV.agg [int d.size,.sl z,boolsA d.fin])) (sp_row1 (T:=3) (m:=d.next) (k:=spK d a) (r:=spR d a) (s:=spS d a) (x:=(sp2 d).getD (around b 4).toNat default)))
      | (rw [sp_3 (by omega)];exact congrArg (fun z=>RV.p (AV.agg [int d.size,.sl z,boolsA d.fin])) (sp_row3 (m:=d.next) (k:=spK d a) (r:=(spR d a).take (spS d a))))
      | (rw [sp_4 (by omega)];exact congrArg (fun z=>RV.p (AV.agg [int d.size,.sl z,boolsA d.fin])) (sp_row4 (T:=3) (m:=d.next) (k:=spK d a) (r:=spR d a)))
      | (rw [sp_5 (by omega),rowsI_set,rowsI_av,sp_same hd];first|done|rfl)
      | (rw [sp_6 (by omega)];rfl)
      | (rw [sp_7 (by omega),rowsI_set,rowsI_av,sp_same hd];first|done|rfl)
      | rfl
end Go.Proofs.YtjimlkpfmbachaaGreat

namespace Go.Proofs.YtjimlkpfmbachaaGreat
open Go.Am Go.Wc Go.Wd
theorem fn32:Fn1 Tryz.prog 32 Tryz.f32.ntmps 4 (Tryz.f32.body.getD .skip):=⟨Tryz.f32,Tryz.func32,rfl,rfl,rfl,by kernel_rfl⟩
set_option maxRecDepth 100000 in
set_option maxHeartbeats 2000000 in
theorem word_call {l:List Int} {size:Int} (hl:I64s l) (hs:1≤size):CallF Tryz.prog 32 [ints l,int size] (.fresh 3 ((wordP l size).map int)):=by
  refine callF_of_code fn32 (Nat.le_of_ble_eq_true rfl) fun w0 M0 hM0=>?_
  refine xC tb hM0 7 [0,1] [] rfl ?_
  refine oS rfl (step_nil rfl rfl rfl rfl rfl 3 hM0) rfl ?_
  refine xA tb hM0 9 [0,1,5,6] [5] rfl ?_
  refine lp (fun zm zs=>∃ i:Nat,zm=10-i∧(i≤l.length)∧(i≤10)∧zs=⟨27,[(0,.v .mx (ints l)),(1,.v .mx (int size)),(5,.own 5),(6,.v .pl (int i))],[(5,.arr 3 (((l.take i).map fun x=>around x size).map int))]⟩) ?_ ?_
  exact ⟨_,0,rfl,Nat.zero_le _,Nat.zero_le _,rfl⟩
  rintro zm zs ⟨i,rfl,hL1_0,hL1_1,rfl⟩
  refine xA tb hM0 5 [0,1,5,6,7,8] [5] rfl ?_
  refine oP rfl (pure_lenm rfl Tryz.underlying22 rfl) ?_
  refine xA tb hM0 2 [0,1,5,6,11] [5] rfl ?_
  refine spO 11 rfl ?_ ?_<;>intro h1'<;>try simp only [dq] at h1'
  refine xA tb hM0 5 [0,1,5,6,14] [5] rfl ?_
  refine spC 14 rfl ?_ ?_<;>intro h2<;>try simp only [dq] at h2
  refine xA tb hM0 9 [0,1,6,17,18,19] [5] rfl ?_
  refine oP rfl (pure_ix rfl Tryz.underlying22 sz3 rfl rfl (by omega) (fun _=>rfl)) ?_
  refine xA tb hM0 2 [0,1,6,17,21,22] [5] rfl ?_
  refine oP rfl (pure_call rfl rfl rfl (around_call (n:=l.getD i default) (most:=size) (hl.get i) (by omega)) hM0) ?_
  refine oP rfl (pure_lit rfl Tryz.underlying22 el3 rfl rfl rfl rfl hM0) ?_
  refine xA tb hM0 0 [0,1,6,17,24] [5] rfl ?_
  refine oS rfl (step_append rfl rfl rfl rfl Tryz.underlying22 el3 rfl rfl hM0 (src_pl rfl (one_len (by rfl))) (by rw [List.length_map,List.length_map,List.length_take];simp only [List.length_cons,List.length_nil];omega) (by rw [List.length_map,List.length_map,List.length_take];simp only [List.length_cons,List.length_nil];omega)) rfl ?_
  refine xA tb hM0 6 [0,1,5,15] [5] rfl ?_
  refine oP rfl (pure_addi rfl rfl rfl (by omega)) ?_
  refine xA tb hM0 2 [0,1,5,6] [5] rfl ?_
  refine nx ?_
  refine ⟨_,⟨i+1,rfl,by omega,by omega,?_⟩,by omega⟩
  rw [word_step (by omega),List.map_append];rfl
  refine xA tb hM0 13 [] [] rfl ?_
  refine end_ret rfl ?_;rotate_left
  refine xA tb hM0 18 [] [] rfl ?_
  refine end_ret rfl ?_;rotate_left
  all_goals
    rw [word_end (size:=size) (by omega) (by omega) (by omega)]
end Go.Proofs.YtjimlkpfmbachaaGreat

