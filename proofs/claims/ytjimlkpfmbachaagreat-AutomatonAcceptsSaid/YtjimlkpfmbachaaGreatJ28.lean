/-
  Contract: the reference's least word.
-/
import Derived.Test.YtjimlkpfmbachaaGreatJ27
import Derived.Test.YtjimlkpfmbachaaGreatJ24
import Derived.Test.YtjimlkpfmbachaaGreatJ15
set_option linter.unusedVariables false
set_option linter.unusedSectionVars false
set_option linter.unusedSimpArgs false
namespace Go.Proofs.YtjimlkpfmbachaaGreat
open Go.Am Go.Wc Go.Wb Go.Wd
theorem fn100:Fn1 Tryz.prog 100 Tryz.f100.ntmps 5 (Tryz.f100.body.getD .skip):=⟨Tryz.f100,Tryz.func100,rfl,rfl,rfl,by kernel_rfl⟩
set_option maxRecDepth 100000 in
set_option maxHeartbeats 2000000 in
theorem join1_call {a b:Dfa} {x:Nat×Nat} {f:Bool→Bool→Bool} {q:FuncId} {cq:List AV} (hq:∀ x y,CallF Tryz.prog q ([bool x,bool y]++cq) (.p (bool (f x y)))) (hx:x.1<a.fin.length∧x.2<b.fin.length):CallF Tryz.prog 100 ([pairI x]++[.pc [.clo q cq] 0,dpc a,dpc b]) (.p (bool (pfin f a b x))):=by
  refine callF_of_code fn100 (Nat.le_of_ble_eq_true rfl) fun w0 M0 hM0=>?_
  refine xC tb hM0 2 [0,1,2,3] [] rfl ?_
  refine oP rfl (pure_box rfl rfl rfl hM0) ?_
  refine xA tb hM0 4 [1,2,3,4] [] rfl ?_
  refine code_draw mixed (by kernel_rfl) _ rfl ?_
  refine dl_pure rfl rfl rfl (pure_load rfl ag81 rfl rfl) ?_
  refine dl_pure rfl rfl rfl (pure_field rfl fd31_2 rfl) ?_
  refine dl_pure rfl rfl rfl (pure_load rfl ag29 rfl rfl) ?_
  refine dl_pure rfl rfl rfl (pure_index_pc rfl Tryz.underlying74 sz3 rfl rfl (by decide)) ?_
  refine dl_pure rfl rfl rfl (pure_load rfl ag3 rfl rfl) ?_
  refine dl_pure rfl rfl rfl (pure_ix rfl Tryz.underlying29 sz4 rfl rfl (by exact ⟨Int.natCast_nonneg _,Int.ofNat_lt.2 hx.1⟩) (fun _=>rfl)) ?_
  refine dl_pure rfl rfl rfl (pure_load rfl ag4 rfl rfl) ?_
  refine dpk 20 [(3,_),(4,_),(6,_),(12,_)] [] rfl rfl rfl ?_
  refine dl_pure rfl rfl rfl (pure_field rfl fd31_2 rfl) ?_
  refine dl_pure rfl rfl rfl (pure_load rfl ag29 rfl rfl) ?_
  refine dl_pure rfl rfl rfl (pure_index_pc rfl Tryz.underlying74 sz3 rfl rfl (by decide)) ?_
  refine dl_pure rfl rfl rfl (pure_load rfl ag3 rfl rfl) ?_
  refine dl_pure rfl rfl rfl (pure_ix rfl Tryz.underlying29 sz4 rfl rfl (by exact ⟨Int.natCast_nonneg _,Int.ofNat_lt.2 hx.2⟩) (fun _=>rfl)) ?_
  refine dl_pure rfl rfl rfl (pure_load rfl ag4 rfl rfl) ?_
  refine dl_pure rfl rfl rfl (pure_call rfl rfl rfl (hq _ _) hM0) ?_
  refine dl_pure rfl rfl rfl (pure_assign rfl rfl) ?_
  refine dl_nil ?_
  refine xD tb hM0 2 [] [] rfl ?_
  refine end_ret rfl ?_
  rfl
theorem fn63:FnC2 Tryz.prog 63 Tryz.f63.ntmps 6 31 3 7 (Tryz.f63.body.getD .skip):=⟨Tryz.f63,Tryz.func63,rfl,rfl,rfl,by kernel_rfl,ag31,sz31⟩
set_option maxRecDepth 100000 in
set_option maxHeartbeats 4000000 in
theorem join_call {a b:Dfa} {f:Bool→Bool→Bool} {q:FuncId} {cq:List AV} (hq:∀ x y,CallF Tryz.prog q ([bool x,bool y]++cq) (.p (bool (f x y)))) (hn:a.n*b.n≤2048):CallF Tryz.prog 63 [dfa a,dfa b,.clo q cq] (.p (.tup [dfa (joinZ f a b),int (joinE a b)])):=by
  refine callF_of_codeC2 fn63 (Nat.le_of_ble_eq_true rfl) fun w0 M0 hM0=>?_
  refine xC tb hM0 2 [0,1,2] [] rfl ?_
  refine oP rfl (pure_box rfl rfl rfl hM0) ?_
  refine oP rfl (pure_box rfl rfl rfl hM0) ?_
  refine xA tb hM0 0 [2,3,4] [] rfl ?_
  refine oP rfl (pure_box rfl rfl rfl hM0) ?_
  refine xA tb hM0 8 [3,4,5,6,10] [6] rfl ?_
  refine oP rfl (pure_call rfl rfl rfl (validD_call (d:=a)) hM0) ?_
  refine xA tb hM0 2 [3,4,5,6,13] [6] rfl ?_
  refine spO 13 rfl ?_ ?_<;>intro h1'<;>try simp only [dq] at h1'
  refine xA tb hM0 23 [] [] rfl ?_
  refine endC2_ret rfl rfl ?_;rotate_left
  refine xA tb hM0 1 [3,4,5,6,13,14] [6] rfl ?_
  refine oP rfl (pure_call rfl rfl rfl (validD_call (d:=b)) hM0) ?_
  refine xA tb hM0 3 [3,4,5,6,18] [6] rfl ?_
  refine spO 18 rfl ?_ ?_<;>intro h2'<;>try simp only [dq] at h2'
  refine xA tb hM0 18 [] [] rfl ?_
  refine endC2_ret rfl rfl ?_;rotate_left
  refine xA tb hM0 8 [3,4,5,6,24] [6] rfl ?_
  refine spC 24 rfl ?_ ?_<;>intro h3<;>try simp only [dq] at h3
  refine xA tb hM0 10 [] [] rfl ?_
  refine endC2_ret rfl rfl ?_;rotate_left
  have hda:=valid_ok (d:=a) (by assumption)
  have hdb:=valid_ok (d:=b) (by assumption)
  have hba:=hda.1
  have hbb:=hdb.1
  have hka:=kk hda
  have hkb:=kk hdb
  have hna:a.n=a.next.length:=rfl
  have hnb:b.n=b.next.length:=rfl
  have hse:a.size=b.size:=by omega
  have hkk:a.k=b.k:=by omega
  refine xA tb hM0 4 [3,4,5,6] [6] rfl ?_
  refine code_drawE (n:=42) (om:=[(6,.box 31 [.v .pl (.sc (.int .i64 0)),.v .pl (.sc (.slice none 0 0)),.v .pl (.sc (.slice none 0 0))]),(8,.box 31 [.v .pl (.sc (.int .i64 0)),.v .pl (.sc (.slice none 0 0)),.v .pl (.sc (.slice none 0 0))])]) (o2:=[(6,.box 31 [.v .pl (.sc (.int .i64 0)),.v .pl (.sc (.slice none 0 0)),.v .pl (.sc (.slice none 0 0))]),(8,.box 31 [.v .pl (int ((prodP f a b)).size),.v .pl (rowsA ((prodP f a b)).next),.v .pl (boolsA ((prodP f a b)).fin)])]) 11 12 14 [(27,.v .pl (pairI (0,0))),(28,.v .mx (.pc (dcells a) 0)),(29,.v .mx (int a.size)),(30,.v .mx (dfa a)),(31,.v .mx (dfa b)),(32,.v .mx (.clo 98 [dpc a,dpc b])),(33,.v .mx (.clo 100 [.pc [.clo q cq] 0,dpc a,dpc b])),(34,.v .pl (.tup [dfa (prodP f a b),bool true])),(26,.v .pl (.tup [dfa (prodP f a b),bool true])),(35,.v .pl (dfa (prodP f a b))),(36,.v .pl (bool true)),(8,.pbox 8 0),(9,.v .pl (bool true)),(3,.v .mx (dpc a)),(4,.v .mx (dpc b)),(5,.v .mx (.pc [.clo q cq] 0)),(6,.pbox 6 0)] mixed (by kernel_rfl) (by kernel_rfl) (by kernel_rfl) (by kernel_rfl) rfl (by kernel_rfl) rfl (fun t z h=>h) rfl ?_ ?_ ?_ ?_ ?_ ?_ ?_
  · intro zi zt hzi hzd
    rcases (by omega:zi=0∨zi=1∨zi=2∨zi=3∨zi=4∨zi=5∨zi=6∨zi=7∨zi=8∨zi=9∨zi=10∨zi=11∨zi=12∨zi=13) with rfl|rfl|rfl|rfl|rfl|rfl|rfl|rfl|rfl|rfl|rfl|rfl|rfl|rfl
    · injection (show some _=some zt from hzd) with hzd;subst hzd;exact ⟨_,rfl⟩
    · injection (show some _=some zt from hzd) with hzd;subst hzd;exact ⟨_,rfl⟩
    · injection (show some _=some zt from hzd) with hzd;subst hzd;exact ⟨_,rfl⟩
    · injection (show some _=some zt from hzd) with hzd;subst hzd;exact ⟨_,rfl⟩
    · injection (show some _=some zt from hzd) with hzd;subst hzd;exact ⟨_,rfl⟩
    · injection (show some _=some zt from hzd) with hzd;subst hzd;exact ⟨_,rfl⟩
    · injection (show some _=some zt from hzd) with hzd;subst hzd;exact ⟨_,rfl⟩
    · injection (show some _=some zt from hzd) with hzd;subst hzd;exact ⟨_,rfl⟩
    · injection (show some _=some zt from hzd) with hzd;subst hzd;exact ⟨_,rfl⟩
    · injection (show some _=some zt from hzd) with hzd;subst hzd;exact ⟨_,rfl⟩
    · injection (show some _=some zt from hzd) with hzd;subst hzd;exact ⟨_,rfl⟩
    · injection (show some _=some zt from hzd) with hzd;subst hzd;exact ⟨_,rfl⟩
    · cases (show (none:Option Nat)=some zt from hzd)
    · injection (show some _=some zt from hzd) with hzd;subst hzd;exact ⟨_,rfl⟩
  · intro zi zo zt zd hzi hzia hzib hzo hzd hzG hzn
    rcases (by omega:zi=0∨zi=1∨zi=2∨zi=3∨zi=4∨zi=5∨zi=6∨zi=7∨zi=8∨zi=9∨zi=10∨zi=13) with rfl|rfl|rfl|rfl|rfl|rfl|rfl|rfl|rfl|rfl|rfl|rfl
    · injection (show some _ = some zo from hzo) with hzo; subst hzo; injection (show some _ = some zt from hzd) with hzd; subst hzd; injection (show some _ = some zd from hzG) with hzG; subst hzG
      exact (pure_build0 rfl Tryz.underlying74 sz3 ze74 rfl rfl)
    · injection (show some _ = some zo from hzo) with hzo; subst hzo; injection (show some _ = some zt from hzd) with hzd; subst hzd; injection (show some _ = some zd from hzG) with hzG; subst hzG
      exact (pure_field rfl fd31_0 rfl)
    · injection (show some _ = some zo from hzo) with hzo; subst hzo; injection (show some _ = some zt from hzd) with hzd; subst hzd; injection (show some _ = some zd from hzG) with hzG; subst hzG
      exact (pure_load rfl ag3 rfl rfl)
    · injection (show some _ = some zo from hzo) with hzo; subst hzo; injection (show some _ = some zt from hzd) with hzd; subst hzd; injection (show some _ = some zd from hzG) with hzG; subst hzG
      exact (pure_norm (pure_load_agg rfl ag31 sz31 rfl (Nat.le_of_ble_eq_true rfl)) rfl)
    · injection (show some _ = some zo from hzo) with hzo; subst hzo; injection (show some _ = some zt from hzd) with hzd; subst hzd; injection (show some _ = some zd from hzG) with hzG; subst hzG
      exact (pure_norm (pure_load_agg rfl ag31 sz31 rfl (Nat.le_of_ble_eq_true rfl)) rfl)
    · injection (show some _ = some zo from hzo) with hzo; subst hzo; injection (show some _ = some zt from hzd) with hzd; subst hzd; injection (show some _ = some zd from hzG) with hzG; subst hzG
      exact (pure_callN rfl rfl rfl rfl (steps_call) hM0)
    · injection (show some _ = some zo from hzo) with hzo; subst hzo; injection (show some _ = some zt from hzd) with hzd; subst hzd; injection (show some _ = some zd from hzG) with hzG; subst hzG
      exact (pure_func rfl rfl)
    · injection (show some _ = some zo from hzo) with hzo; subst hzo; injection (show some _ = some zt from hzd) with hzd; subst hzd; injection (show some _ = some zd from hzG) with hzG; subst hzG
      exact (pure_callD rfl rfl rfl (exploreP_call (U:=pairs a.n b.n) (next:=pnext a b) (final:=pfin f a b) (size:=a.k) (N:=a.n*b.n) (start:=(0,0)) ⟨by omega,by omega⟩ (pnext_mem hda hdb hkk) (pairs_mem.2 ⟨by omega,by omega⟩) (by rw [pairs_len];exact Nat.le_refl _) (by rw [pairs_len];exact hn) hka.1 (fun x hx=>by have h:=pairs_mem.1 (show (x.1,x.2)∈_ from hx);exact ⟨by have:=h.1;omega,by have:=h.2;omega⟩) (fun x hx s hs=>by have h:=pairs_mem.1 (show (x.1,x.2)∈_ from hx);exact steps1_call hda hdb hse h hs) (fun x hx=>by have h:=pairs_mem.1 (show (x.1,x.2)∈_ from hx);exact join1_call hq ⟨by have:=h.1;omega,by have:=h.2;omega⟩)) hM0)
    · injection (show some _ = some zo from hzo) with hzo; subst hzo; injection (show some _ = some zt from hzd) with hzd; subst hzd; injection (show some _ = some zd from hzG) with hzG; subst hzG
      exact (pure_move rfl rfl)
    · injection (show some _ = some zo from hzo) with hzo; subst hzo; injection (show some _ = some zt from hzd) with hzd; subst hzd; injection (show some _ = some zd from hzG) with hzG; subst hzG
      exact (pure_extract rfl rfl rfl)
    · injection (show some _ = some zo from hzo) with hzo; subst hzo; injection (show some _ = some zt from hzd) with hzd; subst hzd; injection (show some _ = some zd from hzG) with hzG; subst hzG
      exact (pure_extract rfl rfl rfl)
    · first|exact absurd hzn (by decide)
  · intro zi zo zt zd hzi hzia hzib hzo hzd hzG hzn hzn2
    rcases (by omega:zi=0∨zi=1∨zi=2∨zi=3∨zi=4∨zi=5∨zi=6∨zi=7∨zi=8∨zi=9∨zi=10∨zi=13) with rfl|rfl|rfl|rfl|rfl|rfl|rfl|rfl|rfl|rfl|rfl|rfl
    · injection (show some _ = some zo from hzo) with hzo; subst hzo; injection (show some _ = some zt from hzd) with hzd; subst hzd; injection (show some _ = some zd from hzG) with hzG; subst hzG
      exact (pure_build0 rfl Tryz.underlying74 sz3 ze74 rfl rfl)
    · injection (show some _ = some zo from hzo) with hzo; subst hzo; injection (show some _ = some zt from hzd) with hzd; subst hzd; injection (show some _ = some zd from hzG) with hzG; subst hzG
      exact (pure_field rfl fd31_0 rfl)
    · injection (show some _ = some zo from hzo) with hzo; subst hzo; injection (show some _ = some zt from hzd) with hzd; subst hzd; injection (show some _ = some zd from hzG) with hzG; subst hzG
      exact (pure_load rfl ag3 rfl rfl)
    · injection (show some _ = some zo from hzo) with hzo; subst hzo; injection (show some _ = some zt from hzd) with hzd; subst hzd; injection (show some _ = some zd from hzG) with hzG; subst hzG
      exact (pure_norm (pure_load_agg rfl ag31 sz31 rfl (Nat.le_of_ble_eq_true rfl)) rfl)
    · injection (show some _ = some zo from hzo) with hzo; subst hzo; injection (show some _ = some zt from hzd) with hzd; subst hzd; injection (show some _ = some zd from hzG) with hzG; subst hzG
      exact (pure_norm (pure_load_agg rfl ag31 sz31 rfl (Nat.le_of_ble_eq_true rfl)) rfl)
    · injection (show some _ = some zo from hzo) with hzo; subst hzo; injection (show some _ = some zt from hzd) with hzd; subst hzd; injection (show some _ = some zd from hzG) with hzG; subst hzG
      exact (pure_callN rfl rfl rfl rfl (steps_call) hM0)
    · injection (show some _ = some zo from hzo) with hzo; subst hzo; injection (show some _ = some zt from hzd) with hzd; subst hzd; injection (show some _ = some zd from hzG) with hzG; subst hzG
      exact (pure_func rfl rfl)
    · injection (show some _ = some zo from hzo) with hzo; subst hzo; injection (show some _ = some zt from hzd) with hzd; subst hzd; injection (show some _ = some zd from hzG) with hzG; subst hzG
      exact (pure_callD rfl rfl rfl (exploreP_call (U:=pairs a.n b.n) (next:=pnext a b) (final:=pfin f a b) (size:=a.k) (N:=a.n*b.n) (start:=(0,0)) ⟨by omega,by omega⟩ (pnext_mem hda hdb hkk) (pairs_mem.2 ⟨by omega,by omega⟩) (by rw [pairs_len];exact Nat.le_refl _) (by rw [pairs_len];exact hn) hka.1 (fun x hx=>by have h:=pairs_mem.1 (show (x.1,x.2)∈_ from hx);exact ⟨by have:=h.1;omega,by have:=h.2;omega⟩) (fun x hx s hs=>by have h:=pairs_mem.1 (show (x.1,x.2)∈_ from hx);exact steps1_call hda hdb hse h hs) (fun x hx=>by have h:=pairs_mem.1 (show (x.1,x.2)∈_ from hx);exact join1_call hq ⟨by have:=h.1;omega,by have:=h.2;omega⟩)) hM0)
    · injection (show some _ = some zo from hzo) with hzo; subst hzo; injection (show some _ = some zt from hzd) with hzd; subst hzd; injection (show some _ = some zd from hzG) with hzG; subst hzG
      exact (pure_move rfl rfl)
    · injection (show some _ = some zo from hzo) with hzo; subst hzo; injection (show some _ = some zt from hzd) with hzd; subst hzd; injection (show some _ = some zd from hzG) with hzG; subst hzG
      exact (pure_extract rfl rfl rfl)
    · injection (show some _ = some zo from hzo) with hzo; subst hzo; injection (show some _ = some zt from hzd) with hzd; subst hzd; injection (show some _ = some zd from hzG) with hzG; subst hzG
      exact (pure_extract rfl rfl rfl)
    · first|exact absurd hzn (by decide)|exact absurd hzn2 (by decide)
  · intro zi zo zt zd hzi hzia hzib hzo hzd hzG hzn
    rcases (by omega:zi=0∨zi=1∨zi=2∨zi=3∨zi=4∨zi=5∨zi=6∨zi=7∨zi=8∨zi=9∨zi=10∨zi=13) with rfl|rfl|rfl|rfl|rfl|rfl|rfl|rfl|rfl|rfl|rfl|rfl
    · first|exact absurd hzn (by decide)
    · first|exact absurd hzn (by decide)
    · first|exact absurd hzn (by decide)
    · first|exact absurd hzn (by decide)
    · first|exact absurd hzn (by decide)
    · first|exact absurd hzn (by decide)
    · first|exact absurd hzn (by decide)
    · first|exact absurd hzn (by decide)
    · first|exact absurd hzn (by decide)
    · first|exact absurd hzn (by decide)
    · injection (show some _ = some zo from hzo) with hzo; subst hzo; injection (show some _ = some zt from hzd) with hzd; subst hzd; injection (show some _ = some zd from hzG) with hzG; subst hzG
      exact (pure_extract rfl rfl rfl)
    · injection (show some _ = some zo from hzo) with hzo; subst hzo; injection (show some _ = some zt from hzd) with hzd; subst hzd; injection (show some _ = some zd from hzG) with hzG; subst hzG
      exact (pure_assign rfl rfl)
  · intro zo X hzo hXn hXG hXr
    injection (show some _=some zo from hzo) with hzo'
    exact step_allocD (t:=8) (by rw [← hzo'];rfl) (by rw [← hzo'];rfl) rfl rfl hXn ze31 rfl rfl (fun t' z h hne=>all_stays (by rfl) (hXG t' z h) hne) rfl hM0
  · intro zo X hzo hXn hXG hXr
    have hXu:8∈looks _ zo→X.lookup 8=some (.pbox 8 0):=fun h=>(hXr 8 h).trans rfl
    have hXv:35∈looks _ zo→X.lookup 35=some (.v .pl (dfa (prodP f a b))):=fun h=>(hXr 35 h).trans rfl
    injection (show some _=some zo from hzo) with hzo'
    exact step_storeE (by rw [← hzo'];rfl) (step_storeD (u:=8) (v:=35) (id:=8) (by rw [← hzo'];rfl) (by rw [← hzo'];rfl) hXn sz31 (hXu (by rw [← hzo'];decide)) rfl (hXv (by rw [← hzo'];decide)) rfl (by decide) rfl rfl (fun t' z h=>all_stays0 (by rfl) (hXG t' z h)) rfl hM0)
  refine endL_of (n:=0) (by kernel_rfl) ?_
  refine ex_end (by kernel_rfl) ?_
  refine xD tb hM0 5 [6,8,37] [6,8] rfl ?_
  refine oP rfl (pure_to (b':=false) (pure_not rfl rfl) (rfl)) ?_
  refine xA tb hM0 8 [6,40] [6] rfl ?_
  refine oP rfl (pure_call rfl rfl rfl (min_call (d:=(prodP f a b))) hM0) ?_
  refine xA tb hM0 5 [] [] rfl ?_
  refine endC2_ret rfl rfl ?_;rotate_left
  all_goals
    first
      | (rw [joinZ_a (a:=a) (b:=b) (by assumption),joinE_a (a:=a) (b:=b) (by assumption)];exact ⟨rfl,rfl⟩)
      | (rw [joinZ_b (a:=a) (b:=b) (by assumption),joinE_b (a:=a) (b:=b) (by assumption)];exact ⟨rfl,rfl⟩)
      | (rw [joinZ_f (a:=a) (b:=b) (fun q=>by have:=q.2.2;omega),joinE_f (a:=a) (b:=b) (fun q=>by have:=q.2.2;omega)];exact ⟨rfl,rfl⟩)
      | (rw [joinZ_t (a:=a) (b:=b) (by assumption) (by assumption) hse,joinE_t (a:=a) (b:=b) (by assumption) (by assumption) hse,← join_min hda hdb hkk hn];exact ⟨rfl,rfl⟩)
end Go.Proofs.YtjimlkpfmbachaaGreat

namespace Go.Proofs.YtjimlkpfmbachaaGreat
open Go.Am Go.Wc Go.Wb Go.Wd
theorem fn17:Fn2 Tryz.prog 17 Tryz.f17.ntmps 2 3 (Tryz.f17.body.getD .skip):=⟨Tryz.f17,Tryz.func17,rfl,rfl,rfl,by kernel_rfl⟩
set_option maxRecDepth 100000 in
set_option maxHeartbeats 8000000 in
theorem rleast_call {d:Dfa}:CallF Tryz.prog 17 [dfa d] (.p (.tup [resW (leastZ d),bool (leastZ d).isSome])):=by
  refine callF_of_code2 fn17 (Nat.le_of_ble_eq_true rfl) fun w0 M0 hM0=>?_
  refine xC tb hM0 2 [0] [] rfl ?_
  refine oP rfl (pure_box rfl rfl rfl hM0) ?_
  refine xA tb hM0 8 [1,11] [] rfl ?_
  refine oP rfl (pure_call rfl rfl rfl (rvalidD_call) hM0) ?_
  refine xA tb hM0 3 [1,13] [] rfl ?_
  refine spC 13 rfl ?_ ?_<;>intro h1<;>try simp only [dq] at h1
  refine xA tb hM0 9 [] [] rfl ?_
  refine end2_ret rfl rfl ?_
  rw [leastZ_f (d:=d) (by assumption)];exact ⟨rfl,rfl⟩
  have hd:=valid_ok (d:=d) (by assumption)
  have hn:d.n=d.next.length:=rfl
  have hb:=hd.1
  have hkk:=kk hd
  refine xA tb hM0 7 [1,15] [] rfl ?_
  refine oP rfl (pure_lenm rfl Tryz.underlying28 rfl) ?_
  refine oS rfl (step_make rfl rfl rfl rfl Tryz.underlying29 el4 ze4 rfl rfl rfl (by omega) (by omega) (by omega) hM0) rfl ?_
  refine xA tb hM0 5 [1,4] [17] rfl ?_
  refine oS rfl (step_lit rfl rfl rfl rfl Tryz.underlying22 el3 rfl rfl rfl rfl hM0) rfl ?_
  refine xA tb hM0 5 [1,4,5] [17,18] rfl ?_
  refine oS rfl (step_lit rfl rfl rfl rfl Tryz.underlying28 el22 rfl rfl rfl rfl hM0) rfl ?_
  refine xA tb hM0 6 [1,4,5,6,20] [17,18,19] rfl ?_
  refine oP rfl (pure_index_own rfl Tryz.underlying29 sz4 rfl rfl rfl (by rw [List.length_replicate];omega)) ?_
  refine oS rfl (step_store_pel rfl rfl rfl sz4 rfl rfl (rep_get (by omega)) rfl rfl (.inl rfl) rfl (Nat.le_of_ble_eq_true rfl) hM0) rfl ?_
  refine xA tb hM0 9 [1,4,5,6,7] [17,18,19] rfl ?_
  refine lp (fun zm zs=>∃ (T:List (Stp Nat)) (P:List (Pth Nat)) (i:Nat),zm=d.n+1-i∧(Sr d.stp d.k 0 (List.range d.n) d.fn d.n T P i)∧zs=⟨82,[(1,.v .mx (dpc d)),(4,.own 17),(5,.own 18),(6,.own 19),(7,.v .pl (int i))],[(17,.arr 4 ((mt d.n P).map bool)),(18,.arr 3 (P.map fun p=>natI p.1)),(19,.arr 22 (P.map fun p=>nats p.2))]⟩) ?_ ?_
  refine ⟨_,[(0,-1,0)],[(0,[])],0,rfl,sr_start (List.mem_range.2 (by omega)),?_⟩
  have e0:(mt d.n [(0,[])]).map bool=(List.replicate d.n (AV.sc (.bool false))).set 0 (bool true):=by rw [rep_mapB,← mt_nil,mt_set (l:=[]) (w:=[]) (by omega)];rfl
  rw [e0];rfl
  rintro zm zs ⟨T,P,i,rfl,hL1_0,rfl⟩
  have hSr:=hL1_0
  have hle:=hSr.le
  have htl:=hSr.tr.len
  have hpl:=sk_len hSr.sk
  rw [List.length_range] at hpl
  refine xA tb hM0 5 [1,4,5,6,7,22,23] [17,18,19] rfl ?_
  refine oP rfl (pure_lenm rfl Tryz.underlying22 rfl) ?_
  refine xA tb hM0 3 [1,4,5,6,7,25] [17,18,19] rfl ?_
  refine spC 25 rfl ?_ ?_<;>intro h2<;>try simp only [dq] at h2
  refine xA tb hM0 7 [1,4,5,6,7] [17,18,19] rfl ?_
  have hi:i<P.length:=by omega
  have hx:(P.getD i default).1<d.next.length:=List.mem_range.1 (hSr.sk.sub _ (el_mem hi))
  refine code_draw mixed (by kernel_rfl) _ rfl ?_
  refine dl_pure rfl rfl rfl (pure_field rfl fd31_2 rfl) ?_
  refine dl_pure rfl rfl rfl (pure_load rfl ag29 rfl rfl) ?_
  refine dl_pure rfl rfl rfl (pure_move rfl rfl) ?_
  refine dl_pure rfl rfl rfl (pure_move rfl rfl) ?_
  refine dl_pure rfl rfl rfl (pure_index_own rfl Tryz.underlying22 sz3 rfl rfl rfl (by rw [List.length_map];omega)) ?_
  refine dl_pure rfl rfl rfl (pure_load_pel rfl ag3 rfl rfl (mget (by omega)) rfl) ?_
  refine dl_pure rfl rfl rfl (pure_ix rfl Tryz.underlying29 sz4 rfl rfl (by exact ⟨Int.natCast_nonneg _,Int.ofNat_lt.2 (show (P.getD i default).1<d.fin.length by omega)⟩) (fun _=>rfl)) ?_
  refine dl_pure rfl rfl rfl (pure_load rfl ag4 rfl rfl) ?_
  refine dl_nil ?_
  refine xD tb hM0 1 [1,4,5,6,7,35] [17,18,19] rfl ?_
  refine spC 35 rfl ?_ ?_<;>intro h3<;>try simp only [dq] at h3
  have hgd:d.fn (P.getD i default).1=true:=by assumption
  have hres:=hSr.hit (N:=d.n) (by rw [List.length_range];exact Nat.le_refl _) hi hgd
  refine xA tb hM0 5 [36,37] [19] rfl ?_
  refine oP rfl (pure_index_own rfl Tryz.underlying28 sz22 rfl rfl rfl (by rw [List.length_map];omega)) ?_
  refine oP rfl (pure_load_pel rfl ag22 rfl rfl (mget (by omega)) rfl) ?_
  refine xA tb hM0 11 [] [] rfl ?_
  refine end2_ret rfl rfl ?_
  rw [leastZ_t (d:=d) (by assumption)]
  have hr2:leastP d=some (P.getD i default).2:=hres
  rw [hr2]
  exact ⟨rfl,rfl⟩
  have hgd:d.fn (P.getD i default).1=false:=by assumption
  refine xA tb hM0 9 [1,4,5,6,7,8] [17,18,19] rfl ?_
  refine lp (fun zm zs=>∃ (T2:List (Stp Nat)) (s:Nat),zm=d.k-s∧(s≤d.k)∧(Tr T2 (growW d.stp (P.getD i default) P s))∧zs=⟨82,[(1,.v .mx (dpc d)),(4,.own 17),(5,.own 18),(6,.own 19),(7,.v .pl (int i)),(8,.v .pl (int s))],[(17,.arr 4 ((mt d.n (growW d.stp (P.getD i default) P s)).map bool)),(18,.arr 3 ((growW d.stp (P.getD i default) P s).map fun p=>natI p.1)),(19,.arr 22 ((growW d.stp (P.getD i default) P s).map fun p=>nats p.2))]⟩) ?_ ?_
  exact ⟨_,T,0,rfl,Nat.zero_le _,hSr.tr,rfl⟩
  rintro zm zs ⟨T2,s,rfl,hL2_0,hL2_1,rfl⟩
  have hgr:=hSr.grow (stpD_mem hd) hi hL2_0
  have hgl:=hgr.2.length_le
  have hgu:=hgr.1
  rw [List.length_range] at hgu
  have htl2:=hL2_1.len
  have hPi:(growW d.stp (P.getD i default) P s).getD i default=(P.getD i default):=pre_at hgr.2 hi
  have hwl:=tr_len hSr.tr i i (Nat.le_refl _) hi
  refine xA tb hM0 9 [1,4,5,6,7,8,43] [17,18,19] rfl ?_
  refine spC 43 rfl ?_ ?_<;>intro h4<;>try simp only [dq] at h4
  refine xA tb hM0 5 [1,4,5,6,7,8] [17,18,19] rfl ?_
  refine ct (fun zs=>zs=⟨82,[(1,.v .mx (dpc d)),(4,.own 17),(5,.own 18),(6,.own 19),(7,.v .pl (int i)),(8,.v .pl (int s)),(9,.v .mx (natI (d.stp (P.getD i default).1 s)))],[(17,.arr 4 ((mt d.n (growW d.stp (P.getD i default) P s)).map bool)),(18,.arr 3 ((growW d.stp (P.getD i default) P s).map fun p=>natI p.1)),(19,.arr 22 ((growW d.stp (P.getD i default) P s).map fun p=>nats p.2))]⟩) ?_ ?_
  refine code_draw mixed (by kernel_rfl) _ rfl ?_
  refine dl_pure rfl rfl rfl (pure_field rfl fd31_1 rfl) ?_
  refine dl_pure rfl rfl rfl (pure_load rfl ag28 rfl rfl) ?_
  refine dl_pure rfl rfl rfl (pure_move rfl rfl) ?_
  refine dl_pure rfl rfl rfl (pure_move rfl rfl) ?_
  refine dl_pure rfl rfl rfl (pure_index_own rfl Tryz.underlying22 sz3 rfl rfl rfl (by rw [List.length_map];omega)) ?_
  refine dl_pure rfl rfl rfl (pure_load_pel rfl ag3 rfl rfl (mget (by omega)) rfl) ?_
  refine dl_pure rfl rfl rfl (pure_ix rfl Tryz.underlying28 sz22 rfl rfl (by rw [Int.toNat_natCast,hPi];exact ⟨Int.natCast_nonneg _,Int.ofNat_lt.2 hx⟩) (fun _=>rfl)) ?_
  refine dpk 82 [(1,_),(4,_),(5,_),(6,_),(7,_),(8,_),(52,_)] [(17,_),(18,_),(19,_)] rfl rfl rfl ?_
  refine dl_pure rfl rfl rfl (pure_load rfl ag22 rfl rfl) ?_
  refine dl_pure rfl rfl rfl (pure_move rfl rfl) ?_
  refine dl_pure rfl rfl rfl (pure_ix rfl Tryz.underlying22 sz3 rfl rfl (by rw [Int.toNat_natCast,hPi];exact ⟨Int.natCast_nonneg _,Int.ofNat_lt.2 (show s<_ by have:=(hd.row hx).1;omega)⟩) (fun _=>rfl)) ?_
  refine dl_pure rfl rfl rfl (pure_load rfl ag3 rfl rfl) ?_
  refine dl_pure rfl rfl rfl (pure_assign rfl rfl) ?_
  refine dl_nil ?_
  refine xD tb hM0 0 [1,4,5,6,7,8,9] [17,18,19] rfl ?_
  refine cx ?_
  have e2:=hd.cellN (i:=(P.getD i default).1) (k:=s) hx (by omega)
  exact (by simp only [Int.toNat_natCast];rw [hPi,e2];first|done|rfl)
  rintro zs ⟨rfl⟩
  have hk:(d.stp (P.getD i default).1 s)<d.n:=hd.stp hx (by omega)
  refine xA tb hM0 4 [1,4,5,6,7,8,9,57,58] [17,18,19] rfl ?_
  refine oP rfl (pure_index_own rfl Tryz.underlying29 sz4 rfl rfl rfl (by exact ⟨Int.natCast_nonneg _,by rw [List.length_map,mt_len];exact Int.ofNat_lt.2 hk⟩)) ?_
  refine oP rfl (pure_load_pel rfl ag4 rfl rfl (mget (by rw [mt_len];exact hk)) rfl) ?_
  refine xA tb hM0 3 [1,4,5,6,7,8,9,61] [17,18,19] rfl ?_
  refine spC 61 rfl ?_ ?_<;>intro h5<;>try simp only [dq] at h5
  have hnew:=keys_new (n:=d.n) (q:=(d.stp (P.getD i default).1 s)) (l:=(growW d.stp (P.getD i default) P s)) hk (by assumption)
  refine xA tb hM0 5 [1,4,5,6,7,8,9,62,63] [17,18,19] rfl ?_
  refine oP rfl (pure_index_own rfl Tryz.underlying29 sz4 rfl rfl rfl (by exact ⟨Int.natCast_nonneg _,by rw [List.length_map,mt_len];exact Int.ofNat_lt.2 hk⟩)) ?_
  refine oS rfl (step_store_pel rfl rfl rfl sz4 rfl rfl (mget (by rw [mt_len];exact hk)) rfl rfl (.inl rfl) rfl (Nat.le_of_ble_eq_true rfl) hM0) rfl ?_
  refine xA tb hM0 6 [1,4,6,7,8,65,66] [17,18,19] rfl ?_
  refine oP rfl (pure_lit rfl Tryz.underlying22 el3 rfl rfl rfl rfl hM0) ?_
  refine oS rfl (step_append rfl rfl rfl rfl Tryz.underlying22 el3 rfl rfl hM0 (src_pl rfl (one_len (by rfl))) (by rw [List.length_map];simp only [List.length_cons,List.length_nil];omega) (by rw [List.length_map];simp only [List.length_cons,List.length_nil];omega)) rfl ?_
  refine xA tb hM0 5 [1,4,5,6,7,8] [17,18,19] rfl ?_
  refine oS rfl (step_nil rfl rfl rfl rfl rfl 3 hM0) rfl ?_
  refine xA tb hM0 7 [1,4,5,6,7,8,69,70,71] [10,17,18,19] rfl ?_
  refine oP rfl (pure_index_own rfl Tryz.underlying28 sz22 rfl rfl rfl (by rw [List.length_map];omega)) ?_
  refine oP rfl (pure_load_pel rfl ag22 rfl rfl (mget (by omega)) rfl) ?_
  refine xA tb hM0 0 [1,4,5,6,7,8,69,73] [10,17,18,19] rfl ?_
  refine oS rfl (step_append rfl rfl rfl rfl Tryz.underlying22 el3 rfl rfl hM0 (src_scm rfl (fun _=>⟨_,rfl⟩)) (by simp only [List.length_map,List.length_nil,Int.toNat_natCast];rw [hPi];omega) (by simp only [List.length_map,List.length_nil,Int.toNat_natCast];rw [hPi];omega)) rfl ?_
  refine xA tb hM0 7 [1,4,5,7,8,75,76,77] [10,17,18,19] rfl ?_
  refine oP rfl (pure_lit rfl Tryz.underlying22 el3 rfl rfl rfl rfl hM0) ?_
  refine oS rfl (step_append rfl rfl rfl rfl Tryz.underlying22 el3 rfl rfl hM0 (src_pl rfl (one_len (by rfl))) (by simp only [List.length_map,List.length_append,List.length_cons,List.length_nil,Int.toNat_natCast];rw [hPi];omega) (by simp only [List.length_map,List.length_append,List.length_cons,List.length_nil,Int.toNat_natCast];rw [hPi];omega)) rfl ?_
  refine ol_frz 82 [(1,_),(4,_),(5,_),(7,_),(8,_),(75,_),(79,_)] [(17,_),(18,_),(19,_)] hM0 rfl ⟨.inl rfl,.inl rfl,.inl rfl,.inl rfl,.inl rfl,.inl rfl,.inr ⟨_,_,rfl,rfl,rfl⟩,trivial⟩ ⟨rfl,rfl,rfl,trivial⟩ ?_
  refine xO tb hM0 0 [1,4,5,7,8,75,79] [17,18,19] rfl ?_
  refine oP rfl (pure_lit rfl Tryz.underlying28 el22 rfl rfl rfl rfl hM0) ?_
  refine oS rfl (step_append rfl rfl rfl rfl Tryz.underlying28 el22 rfl rfl hM0 (src_pl rfl (one_len (by rfl))) (by rw [List.length_map];simp only [List.length_cons,List.length_nil];omega) (by rw [List.length_map];simp only [List.length_cons,List.length_nil];omega)) rfl ?_
  refine xA tb hM0 6 [1,4,5,6,7,44] [17,18,19] rfl ?_
  refine oP rfl (pure_addi rfl rfl rfl (by omega)) ?_
  refine xA tb hM0 2 [1,4,5,6,7,8] [17,18,19] rfl ?_
  refine nx ?_
  have hsn:=hL2_1.snoc (k:=(d.stp (P.getD i default).1 s)) (i:=i) (s:=s) (by omega)
  rw [hPi] at hsn
  refine ⟨_,⟨T2++[((d.stp (P.getD i default).1 s),(i:Int),(s:Int))],s+1,rfl,by omega,by rw [growW_new hnew];exact hsn,?_⟩,by omega⟩
  rw [growW_new hnew,← mt_set (n:=d.n) hk,List.map_append,List.map_append]
  exact (by simp only [Int.toNat_natCast];rw [hPi];simp only [nats,List.map_cons,List.map_nil,List.nil_append,List.map_append];first|done|rfl)
  have hold:=keys_old (n:=d.n) (q:=(d.stp (P.getD i default).1 s)) (l:=(growW d.stp (P.getD i default) P s)) hk (by assumption)
  refine xA tb hM0 6 [1,4,5,6,7,44] [17,18,19] rfl ?_
  refine oP rfl (pure_addi rfl rfl rfl (by omega)) ?_
  refine xA tb hM0 2 [1,4,5,6,7,8] [17,18,19] rfl ?_
  refine nx ?_
  exact ⟨_,⟨T2,s+1,rfl,by omega,by rw [growW_old hold];exact hL2_1,by rw [growW_old hold];rfl⟩,by omega⟩
  refine xA tb hM0 7 [1,4,5,6,7] [17,18,19] rfl ?_
  obtain rfl:s=d.k:=by omega
  refine xA tb hM0 2 [1,4,5,6,26] [17,18,19] rfl ?_
  refine oP rfl (pure_addi rfl rfl rfl (by omega)) ?_
  refine xA tb hM0 2 [1,4,5,6,7] [17,18,19] rfl ?_
  refine nx ?_
  exact ⟨_,⟨T2,(growW d.stp (P.getD i default) P d.k),i+1,rfl,hSr.step (stpD_mem hd) (by rw [List.length_range];exact Nat.le_refl _) hi hgd hL2_1,rfl⟩,by omega⟩
  refine xA tb hM0 13 [] [] rfl ?_
  refine end2_ret rfl rfl ?_
  rw [leastZ_t (d:=d) (by assumption)]
  have hr2:leastP d=none:=hSr.miss (by omega)
  rw [hr2]
  exact ⟨rfl,rfl⟩
end Go.Proofs.YtjimlkpfmbachaaGreat

