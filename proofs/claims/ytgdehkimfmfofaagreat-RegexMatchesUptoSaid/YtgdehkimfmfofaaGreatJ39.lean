/-
  The law RegexMatches holds for inputs of bulk at most 1048576: it returns true,and its arguments read as before.
-/
import Derived.Test.YtgdehkimfmfofaaGreatJ38
import Derived.Test.YtgdehkimfmfofaaGreatJ27
import Derived.Test.YtgdehkimfmfofaaGreatJ21
import Derived.Test.YtgdehkimfmfofaaGreatJ32
import Derived.Test.YtgdehkimfmfofaaGreatJ25
import Derived.Test.YtgdehkimfmfofaaGreatJ24
import Derived.Test.YtgdehkimfmfofaaGreatJ36
import Derived.Test.YtgdehkimfmfofaaGreatJ37
import Derived.JoinedCond
set_option linter.unusedVariables false
set_option linter.unusedSectionVars false
set_option linter.unusedSimpArgs false
namespace Go.Proofs.YtgdehkimfmfofaaGreat
open Go.Am Go.We Go.Wb
noncomputable def rmF (r:Rx) (w:List Int):Bool:=validR r&&pB (sem r w)
theorem rm_yes {r:Rx} {w:List Int} (h:validR r=true):((matF (w.length+1) (semF w r)).getD 0 default).getD w.length default=rmF r w:=by
  rw [matF_at (Nat.succ_pos _),rowF_at (Nat.lt_succ_self _)]
  unfold rmF semF
  rw [h,Bool.true_and,sg_all]
  refine Bool.eq_iff_iff.2 ?_
  rw [pB_iff,pB_iff]
  exact ⟨fun q=>q.2,fun q=>⟨Nat.zero_le _,q⟩⟩
theorem fn29:Fn1 Tryz.prog 29 Tryz.f29.ntmps 4 (Tryz.f29.body.getD .skip):=⟨Tryz.f29,Tryz.func29,rfl,rfl,rfl,by kernel_rfl⟩
set_option maxRecDepth 100000 in
set_option maxHeartbeats 4000000 in
theorem rmatch_call {r:Rx} {w:List Int} (hr:r.size≤1099511627776) (hw:w.length≤1099511627776):CallF Tryz.prog 29 [rx r,ints w] (.p (bool (rmF r w))):=by
  have hp:validR r=true→CallF Tryz.prog 58 [rx r,ints w] (.p (matA (matF (w.length+1) (semF w r)))):=fun hv=>by
    have h:=(parts_call hw _ r (Nat.le_refl _) hr hv).data sz66
    rwa [rowsC_av] at h
  have hl1:=matF_len (w.length+1) (semF w r)
  have hl2:((matF (w.length+1) (semF w r)).getD 0 default).length=w.length+1:=by rw [matF_at (Nat.succ_pos _),rowF_len]
  refine callF_of_code fn29 (Nat.le_of_ble_eq_true rfl) fun w0 M0 hM0=>?_
  refine xC tb hM0 2 [0,1] [] rfl ?_
  refine oP rfl (pure_box rfl rfl rfl hM0) ?_
  refine xA tb hM0 7 [1,2,5] [] rfl ?_
  refine oP rfl (pure_call rfl rfl rfl (rvalid_call _ r (Nat.le_refl _) hr) hM0) ?_
  refine xA tb hM0 3 [1,2,7] [] rfl ?_
  refine spC 7 rfl ?_ ?_<;>intro h1<;>try simp only [dq] at h1
  refine xA tb hM0 8 [] [] rfl ?_
  refine end_ret rfl ?_;rotate_left
  refine xA tb hM0 7 [1,8,9] [] rfl ?_
  refine oP rfl (pure_call rfl rfl rfl (hp (by assumption)) hM0) ?_
  refine oP rfl (pure_ix rfl Tryz.underlying67 sz66 rfl rfl (by omega) (fun _=>rfl)) ?_
  refine xA tb hM0 2 [12,13] [] rfl ?_
  refine oP rfl (pure_lenm rfl Tryz.underlying22 rfl) ?_
  refine oP rfl (pure_ix rfl Tryz.underlying66 sz4 rfl rfl (by omega) (fun _=>rfl)) ?_
  refine xA tb hM0 5 [] [] rfl ?_
  refine end_ret rfl ?_;rotate_left
  all_goals
    first
      | (rw [show rmF r w=false from by unfold rmF;simp_all];first|done|rfl)
      | (rw [← rm_yes (by assumption)];first|done|rfl)
end Go.Proofs.YtgdehkimfmfofaaGreat

namespace Go.Wb
open Go.Am Go.We
theorem Dv_none (v:List Int):Dv noneRx v=noneRx:=by
  have h:∀ b,dR b noneRx=noneRx:=fun b=>by rw [dR_x (by decide) (fun e=>absurd e (by decide)),dL_x (by decide) (by decide),altN_nil]
  induction v with
  | nil=>rfl
  | cons b v ih=>show Dv (dR b noneRx) v=_;rw [h,ih]
end Go.Wb
namespace Go.Proofs.YtgdehkimfmfofaaGreat
open Go.Am Go.Wb Go.We
theorem match_rm (r:Rx) (w:List Int):matchR r w=rmF r w:=by
  unfold rmF
  by_cases h:validR r=true
  · rw [h, Bool.true_and]
    exact Bool.eq_iff_iff.2 ((match_sem h w).trans pB_iff.symm)
  · rw [match_Dv,show simR r=noneRx from if_neg h,Dv_none,show validR r=false by simpa using h];rfl
end Go.Proofs.YtgdehkimfmfofaaGreat

namespace Go.Proofs.YtgdehkimfmfofaaGreat
open Go.Am Go.Wc
theorem fn27:Fn1 Tryz.prog 27 Tryz.f27.ntmps 4 (Tryz.f27.body.getD .skip):=⟨Tryz.f27,Tryz.func27,rfl,rfl,rfl,by kernel_rfl⟩
set_option maxRecDepth 100000 in
theorem take_call {l:List Int} {n:Int} (hl:l.length≤9223372036854775807) (hn:0≤n∧n≤1000):CallF Tryz.prog 27 [ints l,int n] (.fresh 3 ((l.take n.toNat).map int)):=by
  have hmin:(if n<(l.length:Int) then n else (l.length:Int)).toNat≤1000:=by split<;>omega
  refine callF_of_code fn27 (Nat.le_of_ble_eq_true rfl) fun w0 M0 hM0=>?_
  refine xC tb hM0 2 [0,1] [] rfl ?_
  refine oS rfl (step_nil rfl rfl rfl rfl rfl 3 hM0) rfl ?_
  refine xA tb hM0 4 [0,1] [] rfl ?_
  refine oS rfl (step_nil rfl rfl rfl rfl rfl 3 hM0) rfl ?_
  refine xA tb hM0 7 [1,6,7,8] [5] rfl ?_
  refine oP rfl (pure_lenm rfl Tryz.underlying22 rfl) ?_
  refine xA tb hM0 1 [6,7,9,10] [5] rfl ?_
  refine oP rfl (pure_min rfl rfl rfl) ?_
  refine oP rfl (pure_slice_h rfl Tryz.underlying22 sz3 rfl rfl (by simp only [List.length_map];omega) (map_len fun _=>rfl)) ?_
  refine xA tb hM0 0 [6,12] [5] rfl ?_
  refine oS rfl (step_append rfl rfl rfl rfl Tryz.underlying22 el3 rfl rfl hM0 (src_take rfl (fun _=>⟨_,rfl⟩)) (by simp only [List.length_map,List.length_take,List.length_nil];omega) (by simp only [List.length_map,List.length_take,List.length_nil];omega)) rfl ?_
  refine xA tb hM0 4 [] [] rfl ?_
  refine end_ret rfl ?_
  rw [take_min];rfl
end Go.Proofs.YtgdehkimfmfofaaGreat

namespace Go.Proofs.YtgdehkimfmfofaaGreat
open Go.Am Go.Wb Go.Wc
theorem fn5:Fn1 Tryz.prog 5 Tryz.f5.ntmps 6 (Tryz.f5.body.getD .skip):=⟨Tryz.f5,Tryz.func5,rfl,rfl,rfl,by kernel_rfl⟩
set_option maxRecDepth 100000 in
set_option maxHeartbeats 8000000 in
theorem matches_law {r:Rx} {l w:List Int} (hr:r.size≤1048576) (hl:l.length≤9223372036854775807) (h64:I64s l) (hw:w.length≤9223372036854775807) (w64:I64s w):CallW Tryz.prog 5 [rx r,ints l,ints w] (.p (bool true)):=by
  obtain ⟨hx,hx2⟩:=shaped_good l (show (0:Int)<3∧(3:Int)≤64 by decide)
  have h1:=size_simR (shapedP l 3)
  have hu:(wordP w 3 10).length≤10:=wordP_len w 3 10
  have hv:(w.take 10).length≤10:=by rw [List.length_take];omega
  have hsm:=fun h:nodesV 60 r≤60=>sim_small h
  refine callW_of_code fn5 (Nat.le_of_ble_eq_true rfl) fun w0 M0 hM0 hdr=>?_
  refine xC tb hM0 2 [0,1,2] [] rfl ?_
  refine oP rfl (pure_box rfl rfl rfl hM0) ?_
  refine xA tb hM0 6 [1,2,3,10] [] rfl ?_
  refine oP rfl (pure_call rfl rfl rfl (take_call hw (by decide)) hM0) ?_
  refine xA tb hM0 7 [1,2,3,7,12] [] rfl ?_
  refine oP rfl (pure_call rfl rfl rfl (nodes_call (by decide) (by decide) _ r (Nat.le_refl _) hr) hM0) ?_
  refine xA tb hM0 3 [1,2,3,7,14] [] rfl ?_
  refine spC 14 rfl ?_ ?_<;>intro h1<;>try simp only [dq] at h1
  refine xA tb hM0 2 [1,2,3,7] [] rfl ?_
  refine code_draw mixed (by kernel_rfl) _ rfl ?_
  refine dl_pure rfl rfl rfl (pure_load_agg rfl ag25 sz25 rfl (Nat.le_of_ble_eq_true rfl)) ?_
  refine dl_pure rfl rfl rfl (pure_move rfl rfl) ?_
  refine dl_pure rfl rfl rfl (pure_call rfl rfl rfl (match_small (S:=3900) (N:=10) (by omega) (hsm (by omega)) hv (by decide) (by decide)) hM0) ?_
  refine dl_pure rfl rfl rfl (pure_load_agg rfl ag25 sz25 rfl (Nat.le_of_ble_eq_true rfl)) ?_
  refine dl_pure rfl rfl rfl (pure_move rfl rfl) ?_
  refine dl_pure rfl rfl rfl (pure_call rfl rfl rfl (rmatch_call (by omega) (Nat.le_trans hv (by decide))) hM0) ?_
  refine dl_pure rfl rfl rfl (pure_to (b':=false) (pure_bne Tryz.underlying4 rfl rfl rfl) (ne_same (match_rm _ _))) ?_
  refine dl_nil ?_
  refine xD tb hM0 7 [2,22] [] rfl ?_
  refine oP rfl (pure_call rfl rfl rfl (regex_call h64 hl) hM0) ?_
  refine xA tb hM0 7 [8,24] [8] rfl ?_
  refine oP rfl (pure_call rfl rfl rfl (word_call w64 (by decide) hw (by decide)) hM0) ?_
  refine xA tb hM0 4 [8,9] [8] rfl ?_
  refine code_draw mixed (by kernel_rfl) _ rfl ?_
  refine dl_pure rfl rfl rfl (pure_load_box_agg rfl ag25 sz25 rfl rfl rfl rfl) ?_
  refine dl_pure rfl rfl rfl (pure_move rfl rfl) ?_
  refine dl_pure rfl rfl rfl (pure_call rfl rfl rfl (match_small (S:=98) (N:=10) (by omega) (by omega) hu (by decide) (by decide)) hM0) ?_
  refine dl_pure rfl rfl rfl (pure_load_box_agg rfl ag25 sz25 rfl rfl rfl rfl) ?_
  refine dl_pure rfl rfl rfl (pure_move rfl rfl) ?_
  refine dl_pure rfl rfl rfl (pure_call rfl rfl rfl (rmatch_call (by omega) (by omega)) hM0) ?_
  refine dl_pure rfl rfl rfl (pure_to (b':=true) (pure_beq Tryz.underlying4 rfl rfl rfl) (eq_same (match_rm _ _))) ?_
  refine dpk 36 [(32,_)] [(8,_)] rfl rfl rfl ?_
  refine dl_pure rfl rfl rfl (pure_move rfl rfl) ?_
  refine dl_pure_g rfl rfl rfl rfl rfl (pure_to (b':=true) (pure_callW (r:=.p (bool true)) hdr rfl rfl rfl (lives_call) hM0) (rfl)) ?_
  refine dl_pure rfl rfl rfl (pure_to (b':=true) (pure_pick_t rfl rfl rfl rfl) (by decide)) ?_
  refine dl_pure rfl rfl rfl (pure_assign rfl rfl) ?_
  refine dl_nil ?_
  refine xD tb hM0 2 [] [] rfl ?_
  refine end_ret rfl ?_
  rfl
  refine xA tb hM0 6 [2,22] [] rfl ?_
  refine oP rfl (pure_call rfl rfl rfl (regex_call h64 hl) hM0) ?_
  refine xA tb hM0 7 [8,24] [8] rfl ?_
  refine oP rfl (pure_call rfl rfl rfl (word_call w64 (by decide) hw (by decide)) hM0) ?_
  refine xA tb hM0 4 [8,9] [8] rfl ?_
  refine code_draw mixed (by kernel_rfl) _ rfl ?_
  refine dl_pure rfl rfl rfl (pure_load_box_agg rfl ag25 sz25 rfl rfl rfl rfl) ?_
  refine dl_pure rfl rfl rfl (pure_move rfl rfl) ?_
  refine dl_pure rfl rfl rfl (pure_call rfl rfl rfl (match_small (S:=98) (N:=10) (by omega) (by omega) hu (by decide) (by decide)) hM0) ?_
  refine dl_pure rfl rfl rfl (pure_load_box_agg rfl ag25 sz25 rfl rfl rfl rfl) ?_
  refine dl_pure rfl rfl rfl (pure_move rfl rfl) ?_
  refine dl_pure rfl rfl rfl (pure_call rfl rfl rfl (rmatch_call (by omega) (by omega)) hM0) ?_
  refine dl_pure rfl rfl rfl (pure_to (b':=true) (pure_beq Tryz.underlying4 rfl rfl rfl) (eq_same (match_rm _ _))) ?_
  refine dpk 36 [(32,_)] [(8,_)] rfl rfl rfl ?_
  refine dl_pure rfl rfl rfl (pure_move rfl rfl) ?_
  refine dl_pure_g rfl rfl rfl rfl rfl (pure_to (b':=true) (pure_callW (r:=.p (bool true)) hdr rfl rfl rfl (lives_call) hM0) (rfl)) ?_
  refine dl_pure rfl rfl rfl (pure_to (b':=true) (pure_pick_t rfl rfl rfl rfl) (by decide)) ?_
  refine dl_pure rfl rfl rfl (pure_assign rfl rfl) ?_
  refine dl_nil ?_
  refine xD tb hM0 2 [] [] rfl ?_
  refine end_ret rfl ?_
  rfl
end Go.Proofs.YtgdehkimfmfofaaGreat

namespace Go.Proofs.YtgdehkimfmfofaaGreat
open Go.Am Go.Wb Go.Wc
/-! The statement RegexMatchesUptoSaid. -/
namespace regexMatches
open Go.ChangeShapes Go.WideShapes Go.ChangeAt Go.RowKit Go.Am
theorem own:ownKnob Tryz.prog.godebug=none:=by kernel_rfl
set_option maxRecDepth 100000 in
theorem lifted (os:Os) (started:os.Started) (H:Type) (enc:TypeId×Value→H) (F:Stop.Interp) :
    ReturnsInHanded {} Tryz.checked os 5 .any ((Rows.OpenSpec.upto Rows.regexMatchesSpec).pre6 enc Tryz.prog Tryz.f5 Rows.regexMatchesUptoRow.domain false) (((Rows.OpenSpec.upto Rows.regexMatchesSpec).at F).post enc Tryz.prog Tryz.f5 false true false false):=by
  refine returnsInHanded_of_cond (C:=Tryz.checked) (k:=Rows.uptoSmall) rfl own started (by kernel_rfl) Tryz.func5
    (OpenSpec.witness (enc:=enc) (C:=Tryz.checked) (k:=Rows.uptoSmall) rfl false ⟨#[],#[.agg #[.int .i64 0,.slice none 0 0,.slice none 0 0],.slice none 0 0,.slice none 0 0],[]⟩ 8 (by kernel_rfl) (by kernel_rfl) (by kernel_rfl) (x:=([.agg [.lit (.int .i64 0),.nil,.nil],.nil,.nil],[],[])) (by kernel_rfl) (by kernel_rfl) (by kernel_rfl)) ?_
  intro W base args ds gs before hval0 hW hcnd hsm _
  have hval:∀ (j:Nat) t v,Tryz.f5.params[j]?=some t→args[j]?=some v→Value.okWide Tryz.prog W .any base t v:=hval0
  have hW':=hW
  obtain ⟨p,q,hA0,hV,rfl,hfz,hnd⟩:=hW
  have hbulk:Rows.uptoBulkAll (ds++gs)≤1048576:=of_decide_eq_true hsm
  have hA:DataW.TrodAll enc Tryz.prog W 0 (fun _=>true) true Tryz.f5.params.toList args.toList ds p:=hA0
  rw [Tryz.params5] at hA hval
  obtain ⟨v0,vs0,d0,ds0,p0,q0,hargs,rfl,rfl,h0,r0⟩:=trodAll_cons hA
  obtain ⟨v1,vs1,d1,ds1,p1,q1,rfl,rfl,rfl,h1,r1⟩:=trodAll_cons r0
  obtain ⟨v2,vs2,d2,ds2,p2,q2,rfl,rfl,rfl,h2,r2⟩:=trodAll_cons r1
  obtain ⟨rfl,rfl,rfl⟩:=trodAll_nil r2
  obtain rfl:args=#[v0,v1,v2]:=by cases args;simp_all
  simp only [List.cons_append,List.nil_append,Rows.uptoBulkAll] at hbulk
  obtain ⟨x0,b0,e0⟩:=open_rxA Tryz.underlying25 ⟨rfl,rfl⟩ ⟨rfl,rfl⟩ ⟨rfl,rfl⟩ Tryz.underlying3 Tryz.underlying22 Tryz.underlying23 sz3 sz22 sz23 sz25 (hval 0 25 v0 rfl rfl) h0
  have y0:x0.size≤1048576:=by omega
  obtain ⟨x1,y1,z1,e1⟩:=open_intsA Tryz.underlying22 Tryz.underlying3 sz3 (hval 1 22 v1 rfl rfl) h1
  obtain ⟨x2,y2,z2,e2⟩:=open_intsA Tryz.underlying22 Tryz.underlying3 sz3 (hval 2 22 v2 rfl rfl) h2
  have hcall:=(matches_law y0 z1 y1 z2 y2).use (w:=W) (vs:=[v0,v1,v2]) ⟨e0,e1,e2,trivial⟩
  exact law_post (s:=Rows.regexMatchesSpec) (tb:=4) (by kernel_rfl) (by kernel_rfl) (by kernel_rfl) Tryz.underlying4 rfl rfl hW' hcall
theorem over:Rows.regexMatchesUptoRow.holds Tryz.pinned (Rows.OpenSpec.upto Rows.regexMatchesSpec) :=
  OpenClaim.holds_of_cond 5 Tryz.f5 rfl rfl rfl rfl rfl rfl rfl ⟨rfl,rfl,rfl,rfl,rfl⟩ rfl rfl rfl rfl rfl (by kernel_rfl) Tryz.func5 (by kernel_rfl)
    (of_decide_eq_true (by kernel_rfl)) (by unfold Func.isWrapper;first|(rw [if_pos (by decide +kernel)];kernel_rfl)|(rw [if_neg (by decide +kernel)];exact ⟨rfl,rfl⟩))
    (fun os started H enc _ F=>by rw [OpenClaim.pre_of_none' rfl];exact lifted os started H enc F)
end regexMatches
theorem regexMatches_holds:Rows.RegexMatchesUptoSaid:=regexMatches.over
end Go.Proofs.YtgdehkimfmfofaaGreat

