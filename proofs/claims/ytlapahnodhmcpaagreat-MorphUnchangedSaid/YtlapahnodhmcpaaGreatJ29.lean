/-
  Part of the proof.
-/
import Derived.Test.YtlapahnodhmcpaaGreatJ0
import Derived.Test.YtlapahnodhmcpaaGreatJ16
import Derived.Test.YtlapahnodhmcpaaGreatJ28
import Derived.Test.YtlapahnodhmcpaaGreatJ27
import Derived.Test.YtlapahnodhmcpaaGreatJ12
set_option linter.unusedVariables false
set_option linter.unusedSectionVars false
set_option linter.unusedSimpArgs false
set_option maxRecDepth 100000
set_option maxHeartbeats 40000000
namespace Go.Proofs.YtlapahnodhmcpaaGreat
open Go.Am Go.Wb
theorem tL {B:Nat}(hB:B≤274877906000)(a:Int):∀(m:Nat)(r:Rx),r.size≤m→Nf r→wd r≤B→yq B a r→aU Tryz.prog 202 [rx r,int a] (.p (rx (dR a r))):=by
 refine fun m=>Nat.strongRecOn m fun m ih=>?_
 intro r hm hn hw hd;have hv:=nT hn;have hl:=(gT.1 hw).1.2;have hsy:=(gT.1 hw).1.1;have h5l:r.kind=5→0<r.kids.length:=fun h=>by rw[(lL hv h).2];decide
 have hset:r.kind=2→jY r.syms=true:=fun h=>by rw[mi h,aax] at hv;exact hv.2
 have hkw:∀i,i<r.kids.length→wd (r.kids.getD i default)≤B:=fun i hi=>iw hw (aQ hi)
 have hkn:∀x∈r.kids,Nf x:=fun x hx=>hn.XA hx
 have kb:∀i,i<r.kids.length→aU Tryz.prog 202 [rx (r.kids.getD i default),int a] (.p (rx (dR a (r.kids.getD i default)))):=fun i hi =>
   ih _ (aaT (ij hi) hm) _ (aak _) (hkn _ (aQ hi)) (hkw i hi) (hd.hk _ (aQ hi))
 have e0:r.kind=5→rx ((r.kids.map (dR a)).getD 0 default)=rx (dR a (r.kids.getD 0 default)):=fun h=>by rw[getD_map (h5l h)]
 have hs1:r.kind=3→∀i,aU Tryz.prog 234 [jM (r.kids.drop (i+1))] (.p (rx (cU (r.kids.drop (i+1))))):=fun h3 i =>
   n3 (B:=B) acK (by rw[aaw];omega) (by rw[uS hn h3,aaw];omega) fun x hx=>iw hw (aa0 hx)
 have hs2:r.kind=3→∀i,i<r.kids.length→aU Tryz.prog 234 [jM [dR a (r.kids.getD i default),cU (r.kids.drop (i+1))]] (.p (rx (dQ a r.kids i))):=fun h3 i hi=>by
   have h1:=hd.hs (.inl h3) _ (aQ hi);have h2:=zP (r.kids.drop (i+1)) fun x hx=>hkn x (aa0 hx)
   have h4:wd (cU (r.kids.drop (i+1)))≤B:=Qn (by rw[uS hn h3,aaw];omega) fun x hx=>iw hw (aa0 hx)
   rw[uS hn h3,aaw] at h2;refine n3 (B:=B+B) acK (by show 2≤_;omega) ?_ fun x hx=>?_
   · show (cw _ ++ (cw _ ++ [])).length ≤ _
     rw[aaP,aar];omega
   · rcases aaC.1 hx with rfl | hx
     · omega
     · rw[aay.1 hx];omega
 have hs3:r.kind=5→aU Tryz.prog 234 [jM [dR a (r.kids.getD 0 default),r]] (.p (rx (cU [dR a (r.kids.getD 0 default),r]))):=fun h5=>by
   have h1:=hd.hs (.inr h5) _ (aQ (h5l h5));have:=h5l h5;refine n3 (B:=B+B) acK (by show 2≤_;omega) ?_ fun x hx=>?_
   · show (cw _ ++ (cw _ ++ [])).length ≤ _
     rw[aaP,aar,ef (x:=r) acK acK];show _+1≤_;omega
   · rcases aaC.1 hx with rfl | hx
     · omega
     · rw[aay.1 hx];omega
 have hal:aU Tryz.prog 235 [jM (dL a r)] (.p (rx (gW (dL a r)))):=by
   refine Bl (B:=B) acK ?_ ?_
   · unfold dL
     split
     · rw[aai];omega
     · split
       · have:=Ct a r.kids;omega
       · exact aan _
   · unfold dL
     split
     · exact hd.h4 ‹_›
     · split
       · exact hd.h3 ‹_›
       · exact⟨aan _,aan _,fun x hx=>by cases hx⟩
 rw[ft r];refine bk Wg (aah J) fun w0 M0 aa=>?_
 refine c4 [2,1005,2] [1,2,4,5] [4,5] ?_;refine ct (fun zs=>(r.kind≠5∧(r.kind=2→¬a∈r.syms))∧zs=⟨82,[(4,.pbox 4 0),(5,.own 5)],[(4,.box 87 [vvw (.sc (.int .i64 0)),vvv,vvv]),(5,.arr 87 ((dL a r).map rx))]⟩) ?_ ?_;refine wS [3013] [1,2,4,5,13,14] [4,5] ?_ ?_<;>intro h1;refine wA [6] [4,5,18,19] [4,5] ?_;refine oC J J J J (QR (jH.1 (hset acK)).2.1 acK) ?_;refine wS [3012] [4,5,23] [4,5] ?_ ?_<;>intro h2;refine wZ [10] ?_;refine aA J ?_;rotate_left;refine wA [10003] [4,5] [4,5] ?_;rotate_left;refine wS [3007] [1,2,4,5,13,25] [4,5] ?_ ?_<;>intro h3;refine wA [5,4] [1,4,5,28,29,30] [4,5] ?_;refine lr (fun zl zo zm zs=>∃i:Nat,zm=r.kids.length-i∧(i≤r.kids.length)∧zs=eJ 82 [(5,.own 5),(30,vvw (int i))] zl [(5,.arr 87 (((r.kids.take i).map (dR a)).map rx))] zo) ?_ ?_;exact⟨_,0,rfl,aan _,rfl⟩;rintro zm zs ⟨i,rfl,aY,rfl⟩;refine wS [3006] [1,4,5,28,29,30,31] [4,5] ?_ ?_<;>intro h4;refine wA [7,9] [1,4,28,29,30,34,35,36] [4,5] ?_;refine oN J J J J J (kb _ acK) ?_;refine wA [0,1000,5,9002] [1,4,5,28,29,30] [4,5] ?_;exact⟨_,⟨i+1,rfl,acK,by rw[bD acK,aas,aas];rfl⟩,acK⟩;refine wA [10006] [4,5] [4,5] ?_;rotate_left;refine wS [3007] [1,2,4,5,13,41] [4,5] ?_ ?_<;>intro h5;refine wA [5,4] [1,2,4,5,44,45,46] [4,5] ?_;refine lr (fun zl zo zm zs=>∃i:Nat,zm=r.kids.length-i∧(i≤r.kids.length)∧(∀j,j<i→cO (r.kids.getD j default)=true)∧zs=eJ 82 [(5,.own 5),(46,vvw (int i))] zl [(5,.arr 87 (((List.range i).map (dQ a r.kids)).map rx))] zo) ?_ ?_;exact⟨_,0,rfl,aan _,fun j hj=>absurd hj acK,rfl⟩;rintro zm zs ⟨i,rfl,fu,gi,rfl⟩
 skip
 refine wS [3006] [1,2,4,5,44,45,46,47] [4,5] ?_ ?_<;>intro h6;refine wA [8,2007,3] [1,2,4,10,11,44,45,46,51,52,53] [4,5,11] ?_;refine oF J J J J J J J (kb _ acK) ?_;refine wZ [6003,6000,5000] ?_;refine oF J J J J J J J (hs1 acK i) ?_;refine wZ [6000,5000] ?_;refine oF J J J J J J J (hs2 acK i acK) ?_;refine wZ [6000,5000] ?_;refine cT acL ?_;refine dE J (step_append J J J J Tryz.underlying85 ju J J aa (cI J (bW (by rfl))) (by first|(simp only[ll];omega)|omega) (by first|(simp only[ll];omega)|omega)) ?_;refine wB J J J (hU J J) ?_;refine fe ?_;refine iS [4] [1,2,4,5,44,45,46,65] [4,5] ?_;refine oC J J J J (ni _ _ (aak _) (by have:=hkw i acK;omega)) ?_;refine wS [3003] [1,2,4,5,44,45,46,67] [4,5] ?_ ?_<;>intro h7;refine wA [10007] [4,5] [4,5] ?_;rotate_left;refine wA [5,9002] [1,2,4,5,44,45,46] [4,5] ?_;exact⟨_,⟨i+1,rfl,acK,bX gi (by first|assumption|simpa using h5|(simp_all;done)),by rw[aa8,aas,aas];rfl⟩,acK⟩;refine wA [10006] [4,5] [4,5] ?_;rotate_left;refine wS [3007] [1,2,4,5,69] [4,5] ?_ ?_<;>intro h8;refine wA [2002,6002,2] [2,4,74,75] [4] ?_;refine oF J J J J J J J (kb 0 (h5l acK)) ?_;refine wZ [6001,5000] ?_;refine oF J J J J J J J (by have h:=hs3 acK;rw[show jM [dR a (r.kids.getD 0 default),r]=.sl [rx (dR a (r.kids.getD 0 default)),rx r] from J,ft r] at h;exact h) ?_;refine cT acL ?_;refine dE J (aW J J J ca J J J J acM J J aa) ?_;refine fe ?_;refine Db [4] ?_;refine aA J ?_;rotate_left;refine wA [10003] [4,5] [4,5] ?_;rotate_left;rintro zs ⟨Oh,rfl⟩;refine wA [1] [4,5] [4,5] ?_;refine aI 82 [(4,_),(5,_)] [(4,_)] aa J ⟨.inl J,.inr ⟨_,_,rfl,rfl,rfl⟩,trivial⟩ ⟨rfl,trivial⟩ ?_;refine gz [2] [4,80] [4] ?_;refine oN J J J J J (hal) ?_;refine wZ [4] ?_;refine aA J ?_;rotate_left
 all_goals first
  | (
    first|(rw[X0 acK acN];rfl)|(rw[Ic acK (h5l acK)];rfl)|(rw[uK Oh.1 Oh.2];rfl);done)
  | (
    refine⟨⟨acK,fun h=>by first|assumption|omega⟩,?_⟩
    first
      | (rw[Ce acK acK];rfl)
      | (rw[MU acK,aaB acK];first|done|rfl)
      | (rw[JU acK,P1 (i:=i) acK gi];done)
      | (rw[JU acK,MV (i:=i) acK gi acN,aa8,aas,aas];rfl);done)
theorem EV {r:Rx}{w:List Int}{B:Nat}(hB:B≤274877906000)(h:r.size≤137438953472)(hw:w.length≤1099511627776)(hM:∀k,k≤w.length→wd (JX r w k)≤B∧∀b,yq B b (JX r w k)) :
  ak Tryz.prog 183 [rx r,ints w] (.p (bool (sk r w))):=by
 refine cF Wi fun w0 M0 aa=>?_
 refine c4 [1002,6] [1,2,7] [2] ?_;refine oC J J J J (ep acK) ?_;refine wA [7,4] [2,9,10,11] [2] ?_;refine lr (fun zl zo zm zs=>∃k:Nat,zm=w.length-k∧(k≤w.length)∧zs=eJ 21 [(2,.pbox 2 0),(9,vvz (ints w)),(10,vvw (int w.length)),(11,vvw (int k))] zl [(2,.box 87 [vvw (int (JX r w k).kind),vvw (ints (JX r w k).syms),vvw (.sl (Rx.gA (JX r w k).kids))])] zo) ?_ ?_;exact⟨_,0,rfl,aan _,rfl⟩;rintro zm zs ⟨k,rfl,aY,rfl⟩;refine wS [3006] [2,9,10,11,12] [2] ?_ ?_<;>intro h1;refine wA [7,7] [2,9,10,11,15,16] [2] ?_;refine oN J J J J J (tL hB _ _ _ (aak _) (Tf r w k) (hM k acK).1 ((hM k acK).2 _)) ?_;refine wA [5,9002] [2,9,10,11] [2] ?_;exact⟨_,⟨k+1,rfl,acK,by rw[MW acK];rfl⟩,acK⟩;refine wA [9] [19] [] ?_;refine oC J J J J (ni _ _ (aak _) (by have:=(hM k acK).1;omega)) ?_;refine wZ [8004] ?_;rw[show k=w.length by omega];rfl
theorem EW {r:Rx}{w:List Int}{S N:Nat}(h:r.size≤137438953472)(hS:(dv r).size≤S)(hN:w.length≤N)(hw:N≤1099511627776)(hK:(2*S*(N+2)+66)*(2*S*(N+2)+66)≤274877906000) :
  ak Tryz.prog 183 [rx r,ints w] (.p (bool (sk r w))) :=
 EV (aak _) h acK fun k hk=>by
  rw[show JX r w k=Dv (dv r) (w.take k) from rfl];have h1:=fun b=>Ir (S:=S) (N:=N) (K:=2*S*(N+2)+66) (B:=274877906000) (aak _) hK b (q8 r) hS (v:=w.take k) (by rw[aau];omega)
  exact⟨(h1 0).1,fun b=>(h1 b).2⟩
end Go.Proofs.YtlapahnodhmcpaaGreat
namespace Go.Wb
open Go.Am
theorem Bm:∀ (l:List Rx)(s:List Int),(l.foldl oO s).length=s.length+((l.filter fun x=>decide (x.kind=2)).map fun x=>x.syms.length).sum
 | [],s=>rfl
 | x :: l, s => by
   rw[ab4,Bm l,abb];by_cases h:x.kind=2
   · rw[uD h,if_pos (by simpa using h),aa6,List.sum_cons,aar];omega
   · rw[p9 h,if_neg (by simpa using h)]
theorem EX:∀ {l:List Rx},qa rz l→(∀x∈l,∀y∈l,x.kind=2→y.kind=2→x=y)→(∀x∈l,x.syms.length≤64)→((l.filter fun x=>decide (x.kind=2)).map fun x=>x.syms.length).sum≤64
 | [],_,_,_=>by decide
 | x :: l, hs, h2, h => by
   have hc:=aa2.1 hs;rw[abb];by_cases hx:x.kind=2
   · rw [if_pos (by simpa using hx), aa6, List.sum_cons]
     have:l.filter (fun x=>decide (x.kind=2))=[]:=List.filter_eq_nil_iff.2 fun y hy hy2=>(hc.1 y hy).2 (h2 x aaq y (aav _ hy) hx (by simpa using hy2))
     rw[this];exact h x aaq
   · rw [if_neg (by simpa using hx)]
     exact EX hc.2 (fun a ha b hb=>h2 a (aav _ ha) b (aav _ hb)) fun a ha=>h a (aav _ ha)
theorem yH:∀ (l:List Rx)(k:List Rx),(l.foldl fY k).length≤k.length+l.length
 | [],k=>aak _
 | x :: l, k => by
   rw[ab4];refine aaO (yH l _) ?_;have:(fY k x).length≤k.length+1:=by unfold fY;split<;>simp
   rw[aam];omega
theorem Wj {B:Nat}{r:Rx}(hn:Nf r)(hk:r.kind=4)(hw:wd r≤B)(hB:64≤B):GN B r.kids:=by
 obtain⟨_,_,h3,h4,h5,h6,_⟩:=hn.k4 hk;have hl:aX r.kids=r.kids:=nV fun x hx=>(h4 x hx).2
 refine⟨?_,?_,fun x hx=>iw hw hx⟩
 ·show(c7 (aX r.kids)).length≤B;rw[hl];have h1:=Bm r.kids [];have h2:=EX h5 h6 fun x hx=>uQ (h3 x hx)
  show(r.kids.foldl oO []).length≤B;rw[h1];simp only[aat];omega
 ·show(eZ (aX r.kids)).length≤B;rw[hl];have h1:=yH r.kids [];have:=(gT.1 hw).1.2;show(r.kids.foldl fY []).length≤B;simp only[aat] at h1;omega
end Go.Wb
namespace Go.Proofs.YtlapahnodhmcpaaGreat
open Go.Am Go.Wb
theorem vV:∀ (m:Nat)(r:Rx),r.size≤m→wd r≤1099511627776→ak Tryz.prog 143 [rx r] (.p (bool (aR r))):=by
 intro m
 induction m with
 | zero=>intro a hr _;have:=size_pos a;omega
 | succ m ih =>
 intro r hr hm;have hkl:=(gT.1 hm).1.2;have hsl:=(gT.1 hm).1.1;rw[ft r];refine cF Sj fun w0 M0 aa=>?_
 refine pW [2,3018] [1,4,5] [] ?_ ?_<;>intro h1;refine wS [8,4002] [1,12] [] ?_ ?_<;>intro h2';refine wZ [2,8008] ?_;rotate_left;refine wZ [8011] ?_;rotate_left;refine wS [3006] [1,4,5] [] ?_ ?_<;>intro h3;refine wS [5,4002] [1,12] [] ?_ ?_<;>intro h4';refine wZ [2,8008] ?_;rotate_left;refine wZ [8011] ?_;rotate_left;refine wS [3007] [1,4,18] [] ?_ ?_<;>intro h5;refine wS [5,4002] [1,24] [] ?_ ?_<;>intro h6';refine wA [2] [24,26] [] ?_;refine oC J J J J (EK acK) ?_;refine wZ [8007] ?_;rotate_left;refine wZ [8010] ?_;rotate_left;refine wS [3007] [1,4,29] [] ?_ ?_<;>intro h7;refine wS [5,4002] [1,35] [] ?_ ?_<;>intro h8';refine wS [2,4003] [1,41] [] ?_ ?_<;>intro h9';refine wA [2,1] [41,45] [] ?_;refine oC J J J J (ih _ (abf (aaT (ij acK) hr)) (iw hm (aQ acK))) ?_;refine wZ [8007] ?_;rotate_left;refine wZ [8012] ?_;rotate_left;refine wZ [8018] ?_;rotate_left;refine wS [3008] [1,4,48] [] ?_ ?_<;>intro h10;refine wS [8,4002] [1,55] [] ?_ ?_<;>intro h11';refine wA [2] [55,57] [] ?_;refine oC J J J J (gN (p:=fun x=>!aR x) acK (fun x hx=>nd (ih _ (abf (aaT (de hx) hr)) (iw hm hx)))) ?_;refine wZ [8008] ?_;rotate_left;refine wZ [8011] ?_;rotate_left;refine wS [3006] [1,48] [] ?_ ?_<;>intro h12;refine wS [5,4002] [1,55] [] ?_ ?_<;>intro h13';refine wA [2] [55,57] [] ?_;refine oC J J J J (gN (p:=fun x=>!aR x) acK (fun x hx=>nd (ih _ (abf (aaT (de hx) hr)) (iw hm hx)))) ?_;refine wZ [8008] ?_;rotate_left;refine wZ [8011] ?_;rotate_left;refine wZ [8010] ?_;rotate_left
 all_goals
  first|(rw[jE (r:=r) acK];simp_all;done)|(rw[mi (r:=r) acK];simp_all;done)|(rw[iX (r:=r) acK,decide_eq_true (p:=r.syms.length=0) acK,decide_eq_true (p:=r.kids.length=1) acK];first|rfl|(simp_all;done))|(rw[iX (r:=r) acK,decide_eq_false (p:=r.kids.length=1) acK,abD,abG];first|done|rfl|(simp_all;done))|(rw[iX (r:=r) acK,decide_eq_false (p:=r.syms.length=0) acK,abD];first|done|rfl|(simp_all;done))|(rw[lU (r:=r) acK];simp_all;done)|(rw[ux (r:=r) acK];done)
variable{B:Nat}
theorem EY (hB:B≤274877906000)(t:Bool)(ht0:t=false):∀(m:Nat)(r:Rx),r.size≤m→Nf r→wd r≤B→ak Tryz.prog 200 [rx r,bool t] (.p (rx (aL t r))):=by
 refine fun m=>Nat.strongRecOn m fun m ih=>?_
 intro r hm hn hw;have hv:=nT hn;have hl:=(gT.1 hw).1.2;have hsy:=(gT.1 hw).1.1;have e:r.kids.map (aL t)=r.kids:=by rw[ht0];exact yg fun x hx=>tu (hn.XA hx)
 have hK:∀x∈r.kids.map (aL t),Nf x:=fun x hx=>hn.XA (e ▸ hx)
 have h5l:r.kind=5→0<(r.kids.map (aL t)).length:=fun h=>by rw[aai,(lL hv h).2];decide
 have kb:∀i,i<r.kids.length→ak Tryz.prog 200 [rx (r.kids.getD i default),bool t] (.p (rx (aL t (r.kids.getD i default)))):=fun i hi =>
  ih _ (aaT (ij hi) hm) _ (aak _) (hn.XA (aQ hi)) (iw hw (aQ hi))
 have hs1:r.kind=3→aU Tryz.prog 234 [jM (r.kids.map (aL t)).reverse] (.p (rx (cU (r.kids.map (aL t)).reverse))):=fun h3=>by
  rw[e];refine n3 (B:=B) acK (by rw[aaX];omega) ?_ fun x hx=>iw hw (List.mem_reverse.1 hx)
  rw[nU fun x hx=>((hn.k3 h3).2.2.2 x (List.mem_reverse.1 hx)).2,aaX];omega
 have hs2:r.kind=3→aU Tryz.prog 234 [jM (r.kids.map (aL t))] (.p (rx (cU (r.kids.map (aL t))))):=fun h3=>by
  rw[e];refine n3 (B:=B) acK acK ?_ fun x hx=>iw hw hx
  rw[nU fun x hx=>((hn.k3 h3).2.2.2 x hx).2];omega
 have hal:r.kind=4→aU Tryz.prog 235 [jM (r.kids.map (aL t))] (.p (rx (gW (r.kids.map (aL t))))):=fun h4=>by
  rw[e];refine Bl (B:=B+64) acK acK ?_;exact Wj hn h4 (aaO hw (Nat.le_add_right _ _)) (Nat.le_add_left _ _)
 rw[ft r];refine ey Su (aah J) fun w0 M0 aa=>?_
 refine c4 [2,1005,7,4] [1,2,4,5,9,10,11] [4,5] ?_;refine lr (fun zl zo zm zs=>∃i:Nat,zm=r.kids.length-i∧(i≤r.kids.length)∧zs=eJ 47 [(5,.own 5),(11,vvw (int i))] zl [(5,.arr 87 (((r.kids.take i).map (aL t)).map rx))] zo) ?_ ?_;exact⟨_,0,rfl,aan _,rfl⟩;rintro zm zs ⟨i,rfl,aY,rfl⟩;refine wS [3006] [1,2,4,5,9,10,11,12] [4,5] ?_ ?_<;>intro h1;refine wA [7,9] [1,2,4,9,10,11,15,16,17] [4,5] ?_;refine oC J J J J (kb _ acK) ?_;refine wA [0,1000,5,9002] [1,2,4,5,9,10,11] [4,5] ?_;exact⟨_,⟨i+1,rfl,acK,by rw[bD acK,aas,aas];rfl⟩,acK⟩;refine wA [8] [1,2,4,5] [4,5] ?_;rw[show r.kids.take i=r.kids from aaB acK];refine wS [3012] [1,2,4,5,23,24] [4,5] ?_ ?_<;>intro h2;refine wS [3007] [4,5,26] [4,5] ?_ ?_<;>intro h3;refine wA [3] [4,5,27] [4,5] ?_;refine oS J (A2 (cells:=Xx) Sn J J J J J J ca acM (by rw[aai];omega) aa) J ?_;refine wA [3] [4,5] [4,5] ?_;refine aI 47 [(4,_),(5,_)] [(4,_)] aa J ⟨.inl J,.inr ⟨_,_,rfl,rfl,rfl⟩,trivial⟩ ⟨rfl,trivial⟩ ?_;refine gz [2] [4,29] [4] ?_;refine oN J J J J J (by first|exact hs1 acK|exact hs2 acK) ?_;refine wZ [6] ?_;refine aA J ?_;rotate_left;refine wA [4] [4,5] [4,5] ?_;refine aI 47 [(4,_),(5,_)] [(4,_)] aa J ⟨.inl J,.inr ⟨_,_,rfl,rfl,rfl⟩,trivial⟩ ⟨rfl,trivial⟩ ?_;refine gz [2] [4,29] [4] ?_;refine oN J J J J J (by first|exact hs1 acK|exact hs2 acK) ?_;refine wZ [6] ?_;refine aA J ?_;rotate_left;refine wS [3007] [2,4,5,23,31] [4,5] ?_ ?_<;>intro h4;refine wA [2] [4,5] [4,5] ?_;refine aI 47 [(4,_),(5,_)] [(4,_)] aa J ⟨.inl J,.inr ⟨_,_,rfl,rfl,rfl⟩,trivial⟩ ⟨rfl,trivial⟩ ?_;refine gz [2] [4,33] [4] ?_;refine oN J J J J J (hal acK) ?_;refine wZ [6] ?_;refine aA J ?_;rotate_left;refine wS [3007] [2,4,5,35] [4,5] ?_ ?_<;>intro h5;refine wA [2] [4,5] [4,5] ?_;refine aI 47 [(4,_),(5,_)] [(4,_)] aa J ⟨.inl J,.inr ⟨_,_,rfl,rfl,rfl⟩,trivial⟩ ⟨rfl,trivial⟩ ?_;refine gz [2] [4,37] [4] ?_;refine oP J (dS J Tryz.underlying85 ca J J (by have:=h5l acK;omega) (fun _=>rfl)) ?_;refine wA [1] [4,39] [4] ?_;refine oN J J J J J (Bk (x:=(r.kids.map (aL t)).getD 0 default) (fun h4=>by have:=((hK _ (aQ (h5l acK))).k4 h4).2.1;omega)) ?_;refine wZ [6] ?_;refine aA J ?_;rotate_left;refine wA [2005,4] [4,42,44] [4] ?_;refine oE J J J J J J (fj acK) ?_;refine wA [1] [4,46] [4] ?_;refine cT acL ?_;refine dE J (aW J J J ca J J J J acM J J aa) ?_;refine fe ?_;refine Db [2] ?_;refine aA J ?_;rotate_left
 all_goals
  first
   | (rw[AO acK acN];rfl)
   | (rw[AP acK acN];rfl)
   | (rw[kY acK];rfl)
   | (rw[kZ acK];rfl)
   | (rw[j2 acK acK acK,mT];rfl)
variable{r:Rx}
theorem Bn (hB:B≤274877906000)(hn:Nf r)(hw:wd r≤B):ak Tryz.prog 146 [rx r] (.p (rx r)):=by
 refine ey Sv (aah J) fun w0 M0 aa=>?_
 refine c4 [2,7] [1,2,3] [2] ?_;refine oC J J J J (by have h:=vV _ r (aak _) acK;rw[nT hn] at h;exact h) ?_;refine oP J (bj (b':=false) (jT J J) (rfl)) ?_;refine wA [8] [2,7] [2] ?_;refine oC J J J J (EY hB false J _ _ (aak _) hn hw) ?_;refine wZ [4] ?_;refine aA J ?_;rw[tu hn];rfl
theorem CE {a:Int}(hB:B≤274877906000)(hn:Nf r)(hw:wd r≤B)(hd:yq B a r):aU Tryz.prog 150 [rx r,int a] (.p (rx (dR a r))):=by
 refine bk Wh (aah J) fun w0 M0 aa=>?_
 refine c4 [2,6] [1,4,5] [4] ?_;refine oC J J J J (Bn (B:=B) acK hn hw) ?_;refine wA [1] [4,6,7] [4] ?_;refine oN J J J J J (tL hB a _ _ (aak _) hn hw hd) ?_;refine wZ [4] ?_;refine aA J ?_;rfl
theorem EZ (h:wd r≤1099511627776):ak Tryz.prog 152 [rx r] (.p (bool (aR r&&cO r))):=by
 refine cF VS fun w0 M0 aa=>?_
 refine c4 [2,6] [1,3] [] ?_;refine oC J J J J (vV _ _ (aak _) h) ?_;refine wS [4001] [1,5] [] ?_ ?_<;>intro h1';refine wA [1] [5,6] [] ?_;refine oC J J J J (ni _ _ (aak _) h) ?_;refine wZ [8005] ?_;simp_all;refine wZ [8007] ?_;simp_all
end Go.Proofs.YtlapahnodhmcpaaGreat
namespace Go.Wf
open Go.Am Go.Wb
def E0 (i:Nat):List AV:=(List.range 64).map fun j:Nat=>int (if j<i then(j:Int) else 0)
theorem Oi {i:Nat}:(E0 i).length=64:=by unfold E0;rw[aai];rfl
theorem Oj {i:Nat}(h:i<64):(E0 i).set i (int i)=E0 (i+1):=by
 unfold E0;refine abe fun j=>?_
 rw[List.getElem?_set,aap,aap,aai,aaA];by_cases hj:i=j
 ·subst hj;rw[if_pos rfl,if_pos h,abr h,aa3,if_pos (Nat.lt_succ_self _)]
 ·rw[if_neg hj];rcases aaK j 64 with hlt|hge
  ·rw[abr hlt,aa3,aa3];by_cases q:j<i
   ·rw[if_pos q,if_pos acK]
   ·rw[if_neg q,if_neg acK]
  ·rw[aaR (by rw[aaA];exact hge)];rfl
theorem Wk:E0 64=anyS.map int:=by
 unfold E0 anyS;rw[aco];refine acz fun j hj=>?_
 rw[if_pos (aaI.1 hj)];rfl
theorem T3:rx jJ=.agg [int 5,ints [],.sl [.agg [int 2,ints anyS,.sl []]]]:=by unfold jJ;rw[mT];show AV.agg [int 5,ints [],.sl [rx (.mk 2 anyS [])]]=_;rw[mT];rfl
theorem yI (r:Rx):(fM r).size≤71+r.size:=by rw[size_eq];show 1+0+(jJ.size+(r.size+0))≤_;have:=N3;omega
def rxC (z:Rx):List AV:=[int z.kind,ints z.syms,.sl (Rx.gA z.kids)]
end Go.Wf
namespace Go.Proofs.YtlapahnodhmcpaaGreat
open Go.Am Go.Wb Go.Wc Go.Wf Go.We
abbrev QS (z:Rx):Ob:=.box 87 [vvw (int z.kind),vvw (ints z.syms),vvw (.sl (Rx.gA z.kids))]
theorem Wl:um Tryz.prog 210 Tryz.f210.ntmps 2 87 3 (Tryz.f210.body.getD .skip):=⟨Tryz.f210,Tryz.func210,rfl,rfl,rfl,acL,ja,ca⟩
theorem gO {l:List Rx}:aU Tryz.prog 210 [jM l] (.p (rx (.mk 3 [] l))):=by
 refine bk Wl (aah J) fun w0 M0 aa=>?_
 refine AD [13] ?_;refine aA J ?_;rw[mT];rfl
theorem Wm:um Tryz.prog 211 Tryz.f211.ntmps 0 87 3 (Tryz.f211.body.getD .skip):=⟨Tryz.f211,Tryz.func211,rfl,rfl,rfl,acL,ja,ca⟩
theorem jc:ak Tryz.prog 211 [] (.p (rx jJ)):=by
 refine ey Wm (aah J) fun w0 M0 aa=>?_
 refine c4 [7] [0] [0] ?_;refine oS J (qN J J J J Tryz.underlying22 Uz XB J J J (by first|(simp only[ll];omega)|omega) (by first|(simp only[ll];omega)|omega) (by first|(simp only[ll];omega)|omega) aa) J ?_;refine wA [7] [0,1,4] [0,3] ?_;refine oP J (Di J Tryz.underlying22 J) ?_;refine wA [4] [0,1,5,6] [0,3] ?_;refine lr (fun zl zo zm zs=>∃i:Nat,zm=64-i∧(i≤64)∧zs=eJ 18 [(1,.own 3),(5,vvw (int 64)),(6,vvw (int i))] zl [(3,.arr 3 (E0 i))] zo) ?_ ?_;exact⟨_,0,rfl,aan _,rfl⟩;rintro zm zs ⟨i,rfl,aY,rfl⟩;refine wS [3006] [0,1,5,6,7] [0,3] ?_ ?_<;>intro h1;refine wA [15] [0,1,5,6,9,10,11] [0,3] ?_;refine oP J (aE J Tryz.underlying22 wu J J J (by rw[Oi];omega)) ?_;refine oS J (ay J J J wu J J (iC (by rw[aaA];omega)) J J (.inl J) J (aah J) aa) J ?_;refine wA [4,9002] [0,1,5,6] [0,3] ?_;exact⟨_,⟨i+1,rfl,acK,by rw[←Oj acK];rfl⟩,acK⟩;refine wA [7] [0,1] [0,3] ?_;refine aI 18 [(0,_),(1,_)] [(0,_)] aa J ⟨.inl J,.inr ⟨_,_,rfl,rfl,rfl⟩,trivial⟩ ⟨rfl,trivial⟩ ?_;refine gz [2] [0,14] [0] ?_;refine oP J (au (aT J GX o3 J J J) J) ?_;refine wZ [0,5] ?_;refine aA J ?_;rw[show i=64 by omega,Wk,T3];rfl
theorem Wn:RB Tryz.prog 227 Tryz.f227.ntmps (Tryz.f227.body.getD .skip):=⟨Tryz.f227,Tryz.func227,rfl,rfl,rfl,acL⟩
theorem CF {B:Nat}{z:Rx}{x:Int}(hB:B≤274877906000)(hn:Nf z)(hw:wd z≤B)(hd:yq B x z)(hw2:wd (dR x z)≤B):lz Tryz.prog 227 [vvz (int x),.pbox 1000000 0] [(1000000,QS z)] (vvw (.tup [])) [(1000000,QS (dR x z))]:=by
 refine pP Wn (aah J) fun w0 M0 aa=>?_
 refine c4 [3] [1,3,4] [1000000] ?_;refine oN J J J J J (CE hB hn hw hd) ?_;refine oC J J J J (Bn hB (rO x hn) hw2) ?_;refine wZ [2] ?_;refine ec (o1:=[(1000000,_)]) ⟨rfl,trivial⟩ ?_;rfl
abbrev Wo:=dF 1 Tryz.func228
theorem CG {z:Rx}(hn:Nf z)(hw:wd z≤1099511627776):lz Tryz.prog 228 [.pbox 1000000 0] [(1000000,QS z)] (vvw (bool (cO z))) [(1000000,QS z)]:=by
 refine gK Wo (aah J) fun w0 M0 aa=>?_
 refine c4 [8] [2] [1000000] ?_;refine oC J J J J (by have h:=EZ hw;rw[nT hn,abm] at h;exact h) ?_;refine wZ [4] ?_;refine ew (o1:=[(1000000,_)]) J ⟨rfl,trivial⟩ ?_;exact⟨rfl,rfl⟩
theorem Wp:F7 Tryz.prog 185 Tryz.f185.ntmps 2 3 (Tryz.f185.body.getD .skip):=⟨Tryz.f185,Tryz.func185,rfl,rfl,rfl,acL⟩
theorem vW {r:Rx}(h:r.size≤1099511627):Mc Tryz.prog 185 [rx r] 87 (rxC (dv (fM r))) 227 228:=by
 have hs:(fM r).size≤137438953472:=by have:=yI r;omega
 refine zI Wp (aah J) fun w0 M0 aa=>?_
 refine c4 [2,5] [1] [] ?_;refine uh mixed acL _ J ?_;refine BG acL (bM (n:=7) acL ?_);refine xt (i:=0) (j:=1) (k:=5) acL J J J J J J (aN J J (cm J J J (jc) aa)) (aN J J (aG J ja ca J (aah J))) (cM J J J J J o3 J aa) ?_ ?_ ?_;refine eN (i:=1) (j:=5) acL J J J J (aN J J (aG J ja ca J (aah J))) (cM J J J J J o3 J aa) ?_ ?_;refine eN (i:=2) (j:=5) acL J J J J (aN J J (eu J Tryz.underlying85 ju J J J J aa)) (cM J J J J J o3 J aa) ?_ ?_;refine eN (i:=3) (j:=5) acL J J J J (aN J J (bC J J J J (gO (l:=[jJ,r])) aa)) (cM J J J J J o3 J aa) ?_ ?_;refine eN (i:=4) (j:=5) acL J J J J (aN J J (cm J J J (ep (r:=fM r) acK) aa)) (cM J J J J J o3 J aa) ?_ ?_;refine aJ (i:=5) acL J J (cM J J J J J o3 J aa) ?_;refine aJ (i:=6) acL J J (aW J J J ca J J J J acM J J aa) ?_;refine bf acL ?_;refine iS [3] [4] [4] ?_;refine wZ [0,5,12] ?_;refine gy J J J ?_;rfl;refine aJ (i:=4) acL J J (aN J J (cm J J J (ep (r:=fM r) acK) aa)) ?_;refine aJ (i:=6) acL J J (aW J J J ca J J J J acM J J aa) ?_;refine bf acL ?_;refine iS [3] [4] [4] ?_;refine wZ [0,5,12] ?_;refine gy J J J ?_;rfl;refine aJ (i:=3) acL J J (aN J J (bC J J J J (gO (l:=[jJ,r])) aa)) ?_;refine aJ (i:=4) acL J J (aN J J (cm J J J (ep (r:=fM r) acK) aa)) ?_;refine aJ (i:=6) acL J J (aW J J J ca J J J J acM J J aa) ?_;refine bf acL ?_;refine iS [3] [4] [4] ?_;refine wZ [0,5,12] ?_;refine gy J J J ?_;rfl;refine xe 2 ?_;refine aJ (i:=3) acL J J (aN J J (bC J J J J (gO (l:=[jJ,r])) aa)) ?_;refine aJ (i:=4) acL J J (aN J J (cm J J J (ep (r:=fM r) acK) aa)) ?_;refine aJ (i:=6) acL J J (aW J J J ca J J J J acM J J aa) ?_;refine bf acL ?_;refine iS [3] [4] [4] ?_;refine wZ [0,5,12] ?_;refine gy J J J ?_;rfl;refine xe 1 ?_;refine xe 2 ?_;refine aJ (i:=3) acL J J (aN J J (bC J J J J (gO (l:=[jJ,r])) aa)) ?_;refine aJ (i:=4) acL J J (aN J J (cm J J J (ep (r:=fM r) acK) aa)) ?_;refine aJ (i:=6) acL J J (aW J J J ca J J J J acM J J aa) ?_;refine bf acL ?_;refine iS [3] [4] [4] ?_;refine wZ [0,5,12] ?_;refine gy J J J ?_;rfl;refine eN (i:=0) (j:=5) acL J J J J (aN J J (cm J J J (jc) aa)) (cM J J J J J o3 J aa) ?_ ?_;refine eN (i:=2) (j:=5) acL J J J J (aN J J (eu J Tryz.underlying85 ju J J J J aa)) (cM J J J J J o3 J aa) ?_ ?_;refine eN (i:=3) (j:=5) acL J J J J (aN J J (bC J J J J (gO (l:=[jJ,r])) aa)) (cM J J J J J o3 J aa) ?_ ?_;refine eN (i:=4) (j:=5) acL J J J J (aN J J (cm J J J (ep (r:=fM r) acK) aa)) (cM J J J J J o3 J aa) ?_ ?_;refine aJ (i:=5) acL J J (cM J J J J J o3 J aa) ?_;refine aJ (i:=6) acL J J (aW J J J ca J J J J acM J J aa) ?_;refine bf acL ?_;refine iS [3] [4] [4] ?_;refine wZ [0,5,12] ?_;refine gy J J J ?_;rfl;refine aJ (i:=4) acL J J (aN J J (cm J J J (ep (r:=fM r) acK) aa)) ?_;refine aJ (i:=6) acL J J (aW J J J ca J J J J acM J J aa) ?_;refine bf acL ?_;refine iS [3] [4] [4] ?_;refine wZ [0,5,12] ?_;refine gy J J J ?_;rfl;refine aJ (i:=3) acL J J (aN J J (bC J J J J (gO (l:=[jJ,r])) aa)) ?_;refine aJ (i:=4) acL J J (aN J J (cm J J J (ep (r:=fM r) acK) aa)) ?_;refine aJ (i:=6) acL J J (aW J J J ca J J J J acM J J aa) ?_;refine bf acL ?_;refine iS [3] [4] [4] ?_;refine wZ [0,5,12] ?_;refine gy J J J ?_;rfl;refine xe 2 ?_;refine aJ (i:=3) acL J J (aN J J (bC J J J J (gO (l:=[jJ,r])) aa)) ?_;refine aJ (i:=4) acL J J (aN J J (cm J J J (ep (r:=fM r) acK) aa)) ?_;refine aJ (i:=6) acL J J (aW J J J ca J J J J acM J J aa) ?_;refine bf acL ?_;refine iS [3] [4] [4] ?_;refine wZ [0,5,12] ?_;refine gy J J J ?_;rfl;refine aJ (i:=0) acL J J (aN J J (cm J J J (jc) aa)) ?_;refine xe 2 ?_;refine aJ (i:=3) acL J J (aN J J (bC J J J J (gO (l:=[jJ,r])) aa)) ?_;refine aJ (i:=4) acL J J (aN J J (cm J J J (ep (r:=fM r) acK) aa)) ?_;refine aJ (i:=6) acL J J (aW J J J ca J J J J acM J J aa) ?_;refine bf acL ?_;refine iS [3] [4] [4] ?_;refine wZ [0,5,12] ?_;refine gy J J J ?_;rfl;refine eN (i:=0) (j:=1) acL J J J J (aN J J (cm J J J (jc) aa)) (aN J J (aG J ja ca J (aah J))) ?_ ?_;refine xe 1 ?_;refine xe 2 ?_;refine aJ (i:=3) acL J J (aN J J (bC J J J J (gO (l:=[jJ,r])) aa)) ?_;refine aJ (i:=4) acL J J (aN J J (cm J J J (ep (r:=fM r) acK) aa)) ?_;refine aJ (i:=6) acL J J (aW J J J ca J J J J acM J J aa) ?_;refine bf acL ?_;refine iS [3] [4] [4] ?_;refine wZ [0,5,12] ?_;refine gy J J J ?_;rfl;refine aJ (i:=0) acL J J (aN J J (cm J J J (jc) aa)) ?_;refine xe 2 ?_;refine aJ (i:=3) acL J J (aN J J (bC J J J J (gO (l:=[jJ,r])) aa)) ?_;refine aJ (i:=4) acL J J (aN J J (cm J J J (ep (r:=fM r) acK) aa)) ?_;refine aJ (i:=6) acL J J (aW J J J ca J J J J acM J J aa) ?_;refine bf acL ?_;refine iS [3] [4] [4] ?_;refine wZ [0,5,12] ?_;refine gy J J J ?_;rfl
end Go.Proofs.YtlapahnodhmcpaaGreat
namespace Go.Wf
open Go.Am Go.Wb Go.RowKit Go.ChangeMaps Go.MapKept
def Hc (r:aF)(w:List Int)(i:Nat):List AV:=(List.range w.length).map fun j=>bool (decide (j<i)&&vQ r.left w j)
def CH (r:aF)(w:List Int)(k:Nat):List AV:=(List.range w.length).map fun j=>bool (decide (w.length-k≤j)&&o4 r.right w j)
variable{r:aF}{w:List Int}{i:Nat}
theorem QT :(Hc r w i).length=w.length:=by unfold Hc;rw[aai,aaA]
theorem jj :(CH r w i).length=w.length:=by unfold CH;rw[aai,aaA]
variable{n:Nat}
theorem map_const {f:Nat→AV}{z:AV}(h:∀j,j<n→f j=z):(List.range n).map f=List.replicate n z:=by rw[List.eq_replicate_iff];refine⟨by simp,fun b hb=>?_⟩;obtain⟨j,hj,rfl⟩:=aaG.1 hb;exact h j (aaI.1 hj)
theorem Wq :Hc r w 0=List.replicate w.length (.sc (.bool false)):=map_const fun j _=>by rw[decide_eq_false (acE j)];rfl
theorem Wr :CH r w 0=List.replicate w.length (.sc (.bool false)):=map_const fun j hj=>by rw[decide_eq_false (show ¬w.length-0≤j by omega)];rfl
theorem IL {f g:Nat→AV}{v:AV}(hi:i<n)(hv:v=g i)(h:∀j,j<n→j≠i→f j=g j):((List.range n).map f).set i v=(List.range n).map g:=by
 refine abe fun j=>?_
 rw[List.getElem?_set,aap,aap,aai,aaA];by_cases hj:i=j
 ·subst hj;rw[if_pos rfl,if_pos hi,abr hi,aa3,hv]
 ·rw[if_neg hj];rcases aaK j n with hlt|hge
  ·rw[abr hlt,aa3,aa3,h j hlt (abi hj)]
  ·rw[aaR (by rw[aaA];exact hge)];rfl
theorem QU (hi:i<w.length):(Hc r w i).set i (bool (cO (atR r.left (62 :: w.take i))))=Hc r w (i+1):=by
 refine IL hi ?_ fun j hj hne=>?_
 ·rw[decide_eq_true (Nat.lt_succ_self i),abm];rfl
 ·by_cases h:j<i
  ·rw[decide_eq_true h,decide_eq_true (show j<i+1 by omega)]
  ·rw[decide_eq_false h,decide_eq_false (show ¬j<i+1 by omega)]
theorem QV {k:Nat}(hk:k<w.length):(CH r w k).set ((w.length:Int)-1-(k:Int)).toNat (bool (cO (atR (eo r.right) (62 :: (w.drop (w.length-k)).reverse))))=CH r w (k+1):=by
 refine IL acK ?_ fun j hj hne=>?_
 ·rw[decide_eq_true (show w.length-(k+1)≤((w.length:Int)-1-(k:Int)).toNat by omega),abm];unfold o4;rw[show((w.length:Int)-1-(k:Int)).toNat+1=w.length-k by omega]
 ·by_cases h:w.length-k≤j
  ·rw[decide_eq_true h,decide_eq_true (show w.length-(k+1)≤j by omega)]
  ·rw[decide_eq_false h,decide_eq_false (show ¬w.length-(k+1)≤j by omega)]
theorem YF {r:Rx}:atR r (62 :: (w.drop (w.length-0)).reverse)=atR r ([]++[62]):=by rw[ab7,List.drop_length];rfl
theorem YG {r:Rx}{k:Nat}(hk:k<w.length):atR r ((62 :: (w.drop (w.length-k)).reverse)++[w.getD ((w.length:Int)-1-(k:Int)).toNat default])=atR r (62 :: (w.drop (w.length-(k+1))).reverse):=by have hj:w.length-(k+1)<w.length:=acK;rw[abF hj,List.reverse_cons,show w.length-(k+1)+1=w.length-k by omega,show((w.length:Int)-1-(k:Int)).toNat=w.length-(k+1) by omega,eh hj];rfl
theorem E2 (r:Rx):(eo r).size≤2*r.size:=by
 unfold eo;split
 ·exact mo true r
 ·have:=size_pos r;show 1+0+0≤_;omega
theorem CI (h:i<n):(List.range n).getD i default=i:=by rw[aag,abr h];rfl
theorem QW (h:bI r=true∧fL w=true):bI r=true∧fL w=true:=h
def Sw (r:aF)(x:Int):List Int:=match lo r.pairs x with
 | some p=>p.dst
 | none=>[]
def zS (r:aF)(x:Int):Bool:=(lo r.pairs x).isSome
def YH (r:aF)(x:Int):AV:=if zS r x=true then ints (Sw r x) else .sc (.slice none 0 0)
theorem KD (r:aF):∀u∈r.pairs.map (fun p=>nv p.src),IsKey (.int .i64) u:=fun u hu=>by obtain⟨p,_,rfl⟩:=aaG.1 hu;rfl
theorem yJ {x:Int}:∀l:List eK,(dK (l.map fun p=>nv p.src) (nv x)).isSome=(lo l x).isSome∧∀i,dK (l.map fun p=>nv p.src) (nv x)=some i→∃p,l[i]?=some p∧lo l x=some p
 | []=>⟨rfl,fun i h=>by cases h⟩
 | p :: l => by
   obtain⟨h1,h2⟩:=yJ (x:=x) l;rw[aa6];unfold dK lo;rw[List.find?_cons];by_cases h:p.src=x
   · rw [if_pos (tC.2 h), decide_eq_true h]
     exact⟨rfl,fun i hi=>by cases hi;exact⟨p,rfl,rfl⟩⟩
   · rw [if_neg fun q => h (tC.1 q), decide_eq_false h]
     refine⟨by rw[Option.isSome_map];exact h1,fun i hi=>?_⟩;rw[aao] at hi;obtain⟨j,hj,rfl⟩:=hi;obtain⟨q,hq,he⟩:=h2 j hj;exact⟨q,by rw[abw];exact hq,he⟩
theorem KE (r:aF)(x:Int):Jv (r.pairs.map fun p=>nv p.src) (nv x)=zS r x:=(yJ r.pairs).1
theorem Hd (r:aF)(x:Int):s5 (.sc (.slice none 0 0)) (r.pairs.map fun p=>nv p.src) (r.pairs.map fun p=>ints p.dst) (nv x)=YH r x:=by
 obtain⟨h1,h2⟩:=yJ (x:=x) r.pairs;unfold s5 YH zS Sw;cases h:dK (r.pairs.map fun p=>nv p.src) (nv x) with
 | none =>
   rw[h] at h1;rw[if_neg (by rw[←h1];decide)]
 | some i =>
   rw[h] at h1;rw[if_pos (by rw[←h1];rfl)];obtain⟨p,hp,he⟩:=h2 i h;rw[he];show(r.pairs.map fun p=>ints p.dst).getD i _=ints p.dst;rw[aag,aap,hp];rfl
theorem QX {x:Int}(h:zS r x=true):YH r x=ints (Sw r x):=if_pos h
def sB (r:aF)(w:List Int)(i:Nat):List Int:=match lo r.pairs (w.getD i default) with
 | some p=>if vQ r.left w i&&o4 r.right w i then p.dst else[w.getD i default]
 | none=>[w.getD i default]
def KG (r:aF)(w:List Int)(i:Nat):List Int:=(List.range i).flatMap (sB r w)
theorem Bo (r:aF)(w:List Int)(i:Nat):KG r w (i+1)=KG r w i++sB r w i:=by unfold KG;rw[aa8,ab6];simp
theorem E4 (h:zS r (w.getD i default)=true)(h1:vQ r.left w i=true)(h2:o4 r.right w i=true):sB r w i=Sw r (w.getD i default):=by
 unfold sB Sw;unfold zS at h;cases hp:lo r.pairs (w.getD i default) with
 | none=>rw[hp] at h;cases h
 | some p=>simp only[h1,h2,Bool.and_self,if_true]
theorem E5 (h:zS r (w.getD i default)=false∨vQ r.left w i=false∨o4 r.right w i=false):sB r w i=[w.getD i default]:=by
 unfold sB;unfold zS at h;cases hp:lo r.pairs (w.getD i default) with
 | none=>rfl
 | some p =>
   rw[hp] at h;rcases h with h|h|h
   · cases h
   · simp only[h,abD,acf,if_false]
   · simp only[h,abG,acf,if_false]
theorem He (h:bI r=true):∀p∈r.pairs,p.dst.length≤3∧fL p.dst=true:=fun p hp=>by unfold bI at h;simp only[aax,aaF] at h;have:=h.1.2 p hp;unfold jv at this;simp only[aax,decide_eq_true_eq] at this;exact⟨this.1.2,this.2⟩
theorem IM (h:bI r=true)(x:Int):(Sw r x).length≤3:=by
 unfold Sw;cases hp:lo r.pairs x with
 | none=>exact aan _
 | some p=>exact(He h p (abT hp)).1
theorem E6 (h:bI r=true):∀i,(KG r w i).length≤3*i∧∀x,(Sw r x).length≤3:=by
 have hp:∀i,(sB r w i).length≤3:=fun i=>by
   by_cases ha:zS r (w.getD i default)=true∧vQ r.left w i=true∧o4 r.right w i=true
   · rw[E4 ha.1 ha.2.1 ha.2.2];exact IM h _
   · rw [E5 (by
       cases h1:zS r (w.getD i default)<;>cases h2:vQ r.left w i<;>cases h3:o4 r.right w i<;>simp_all)]
     show 1≤3;decide
 intro i;refine⟨?_,IM h⟩
 induction i with
 | zero=>exact aak _
 | succ i ih=>rw[Bo,aar];have:=hp i;omega
theorem Bp (h:(bI r&&fL w)=false):bp r w=w:=if_neg (by rw[h];decide)
theorem yK (h:bI r=true∧fL w=true)(hi:i=w.length):bp r w=KG r w i:=by subst hi;unfold bp;rw[if_pos (by rw[h.1,h.2];rfl)];rfl
end Go.Wf
namespace Go.Proofs.YtlapahnodhmcpaaGreat
open Go.Am Go.Wb Go.Wc Go.Wf Go.We
abbrev Ws:=dF 2 Tryz.func187
variable{w:List Int}
theorem KH :aU Tryz.prog 187 [ints w] (.p (.clo 229 [.pc [ints w] 0])):=by
 refine cN Ws fun w0 M0 aa=>?_
 refine AD [2,5,8004] ?_;rfl
abbrev Hf (r:aF)(w:List Int)(k:Nat):List (Nat×Ob):=[(5,.arr 4 (CH r w k)),(1000000,QS (atR (eo r.right) (62 :: (w.drop (w.length-k)).reverse))),(1000001,.box 259 [.fn 227 [.bx 1000000]]),
 (1000002,.box 50 [.fn 228 [.bx 1000000]]),(1000003,.box 134 [.own 5])]
theorem Wt:RB Tryz.prog 229 Tryz.f229.ntmps (Tryz.f229.body.getD .skip):=⟨Tryz.f229,Tryz.func229,rfl,rfl,rfl,acL⟩
theorem KI {r:aF}{l:Nat}{rec:Loop}(hw:w.length≤1048576)
  (hY:∀k,k<w.length→L7 Tryz.prog l rec [8,9,12] [vvw (int ((w.length:Int)-1-(k:Int))),vvz (int (w.getD ((w.length:Int)-1-(k:Int)).toNat default))] [.pbox 1000001 0,.pbox 1000002 0,.pbox 1000003 0] (Hf r w k) (Hf r w (k+1))) :
  Au Tryz.prog 229 l rec [.hid (yR l rec [8,9,12]) [.bx 1000001,.bx 1000002,.bx 1000003],vvz (.pc [ints w] 0)] (Hf r w 0) (Hf r w w.length):=by
 refine mf Wt (aah J) fun w0 M0 aa hmd L9 hwl=>?_
 refine c4 [3,0,4] [0,1,3] [5,1000000,1000001,1000002,1000003] ?_;refine lp (fun zm zs=>∃k:Nat,zm=w.length-k∧(k≤w.length)∧zs=⟨19,[(0,.hid (yR l rec [8,9,12]) [.bx 1000001,.bx 1000002,.bx 1000003]),(1,vvz (.pc [ints w] 0)),(3,vvw (int ((w.length:Int)-1-(k:Int))))],[(5,.arr 4 (CH r w k)),(1000000,.box 87 [vvw (int ((atR (eo r.right) (62 :: (w.drop (w.length-k)).reverse))).kind),vvw (ints ((atR (eo r.right) (62 :: (w.drop (w.length-k)).reverse))).syms),vvw (.sl (Rx.gA ((atR (eo r.right) (62 :: (w.drop (w.length-k)).reverse))).kids))]),(1000001,.box 259 [.fn 227 [.bx 1000000]]),(1000002,.box 50 [.fn 228 [.bx 1000000]]),(1000003,.box 134 [.own 5])]⟩) ?_ ?_;exact⟨_,0,rfl,aan _,by rw[show(w.length:Int)-1-((0:Nat):Int)=(w.length:Int)-1 by omega];rfl⟩;rintro zm zs ⟨k,rfl,aY,rfl⟩;refine wS [3007] [0,1,3,8] [5,1000000,1000001,1000002,1000003] ?_ ?_<;>intro h1;refine wA [6] [0,1,3] [5,1000000,1000001,1000002,1000003] ?_;refine yG 6 hmd J ?_;refine wZ [4,2] ?_;refine⟨_,sd [] J J J J J J J (hY k acK) L9 hwl ⟨.inl J,.inl J,trivial⟩ ⟨.inl J,.inl J,.inl J,trivial⟩ ⟨rfl,rfl,rfl,rfl,rfl,trivial⟩ J J J J aa,?_⟩;refine wA [9,9002] [0,1,3] [5,1000000,1000001,1000002,1000003] ?_;exact⟨_,⟨k+1,rfl,acK,by rw[show(w.length:Int)-1-((k+1:Nat):Int)=((w.length:Int)-1-(k:Int))-1 by omega];rfl⟩,acK⟩;refine wZ [5] ?_;refine ec (o1:=[(5,_),(1000000,_),(1000001,_),(1000002,_),(1000003,_)]) ⟨rfl,rfl,rfl,rfl,rfl,trivial⟩ ?_
 first|(obtain rfl:k=w.length:=by omega);rfl
section
variable {S N:Nat}{r:Rx}{v:List Int}(hS:(dv (fM r)).size≤S)(hK:(2*S*(N+2)+66)*(2*S*(N+2)+66)≤274877906000)
include hS hK
theorem CJ (b:Int)(hv:v.length≤N):wd (atR r v)≤274877906000∧yq 274877906000 b (atR r v):=Ir (K:=2*S*(N+2)+66) (aak _) hK b (q8 (fM r)) hS hv
theorem gm {x:Int}(hv:v.length+1≤N):lz Tryz.prog 227 [vvz (int x),.pbox 1000000 0] [(1000000,QS (atR r v))] (vvw (.tup [])) [(1000000,QS (atR r (v++[x])))]:=by have h1:=CJ hS hK (v:=v) x acK;have h2:=CJ hS hK (v:=v++[x]) 0 (by simpa using hv);rw[EL] at h2;rw[EL];exact CF (aak _) (N4 r v) h1.1 h1.2 h2.1
theorem jk (hv:v.length≤N):lz Tryz.prog 228 [.pbox 1000000 0] [(1000000,QS (atR r v))] (vvw (bool (cO (atR r v)))) [(1000000,QS (atR r v))] :=
 CG (N4 r v) (aaO (CJ hS hK (v:=v) 0 hv).1 acM)
end
abbrev Wu:=dF 4 Tryz.func120
theorem Wv:zeroOf Tryz.prog 259=some [.nilFunc]:=acL
theorem YI:zeroOf Tryz.prog 50=some [.nilFunc]:=acL
theorem Hg {r:aF}{S:Nat}(hw:w.length≤1048576)(hl:r.pairs.length≤1099511627776)(hd:∀p∈r.pairs,p.dst.length≤1099511627776)(h1:r.left.size≤1048576)(h2:r.right.size≤1048576)(V6:(dv (fM r.left)).size≤S)(w5:(dv (fM (eo r.right))).size≤S)
   (hK:(2*S*(w.length+1+2)+66)*(2*S*(w.length+1+2)+66)≤274877906000):ak Tryz.prog 120 [bn r,ints w] (.fresh 3 ((bp r w).map int)):=by
 have h1r:r.left.size≤1099511627776:=acK;have h2r:r.right.size≤1099511627776:=acK;have h3r:(eo r.right).size≤2097152:=by have:=E2 r.right;omega
 refine xC Wu (aah J) fun w0 M0 aa hmd=>?_
 refine c4 [2,6] [1,2,21] [] ?_;refine oN J J J J J (yB hl hd h1r h2r) ?_;refine wS [4013] [1,2,5,27] [] ?_ ?_<;>intro h1';refine wA [10] [32] [] ?_;refine oS J (nq J J J J J J (fj acK) aa) J ?_;refine wZ [8005] ?_;rotate_left;refine wA [1] [1,2,5,27,28] [] ?_;refine oC J J J J (vS acK) ?_;refine wS [3004] [1,2,5,31] [] ?_ ?_<;>intro h2;refine wA [4] [32] [] ?_;refine oS J (nq J J J J J J (fj acK) aa) J ?_;refine wZ [8005] ?_;rotate_left;have hok:=QW (r:=r) (w:=w) (by simp_all);refine wZ [6,5000] ?_;refine oS J (qN J J J J Tryz.underlying134 Yh Yi J J J (by first|(simp only[ll];omega)|omega) (by first|(simp only[ll];omega)|omega) (by first|(simp only[ll];omega)|omega) aa) J ?_;refine wA [7] [1,2,5,7,39] [36] ?_;refine oS J (xD J J J J J J J (vW (r:=r.left) acK) aa) J ?_;refine wA [1] [1,2,5,7,37] [36,40] ?_;refine oP J (Aw J J) ?_;refine oP J (Ax J J) ?_;refine wA [0] [1,2,5,7,41,42] [36,40] ?_;refine oS J (cM J J J J J Wv J aa) J ?_;refine wA [0] [1,2,5,7,8,41,42] [8,36,40] ?_;refine oS J (cM J J J J J YI J aa) J ?_;refine wA [0] [1,2,5,7,8,9,41,42] [8,9,36,40] ?_;refine oS J (eY J J J Sg J J J J J (B4 J) J aa) J ?_;refine wA [0] [1,2,5,7,8,9,42] [8,9,36,40] ?_;refine oS J (eY J J J Vn J J J J J (B4 J) J aa) J ?_;refine wA [4] [1,2,5,7,8,9] [8,9,36,40] ?_;refine oP J (ae J mA J J J) ?_;refine oS J (aP [(1000000,40)] J J J J J J J (gm (r:=r.left) (v:=[]) (x:=62) V6 hK (by simp)) ⟨.inr (.inl ⟨_,rfl,rfl⟩),.inl J,trivial⟩ ⟨rfl,trivial⟩ J J J J J aa) J ?_;refine wA [6,4] [1,2,5,7,8,9,45,46,47] [8,9,36,40] ?_;refine lp (fun zm zs=>∃i:Nat,zm=w.length-i∧(i≤w.length)∧zs=⟨120,[(1,vvz (ints w)),(2,vvz (VT r)),(5,vvz (TY r)),(7,.own 36),(8,.pbox 8 0),(9,.pbox 9 0),(45,vvz (ints w)),(46,vvw (int w.length)),(47,vvw (int i))],[(8,.box 259 [.fn 227 [.bx 40]]),(9,.box 50 [.fn 228 [.bx 40]]),(36,.arr 4 (Hc r w i)),(40,.box 87 [vvw (int ((atR r.left (62 :: w.take i))).kind),vvw (ints ((atR r.left (62 :: w.take i))).syms),vvw (.sl (Rx.gA ((atR r.left (62 :: w.take i))).kids))])]⟩) ?_ ?_;exact⟨_,0,rfl,aan _,by rw[Wq];rfl⟩;rintro zm zs ⟨i,rfl,aY,rfl⟩;refine wS [3006] [1,2,5,7,8,9,45,46,47,48] [8,9,36,40] ?_ ?_<;>intro h3;refine wA [8,9] [1,2,5,7,8,9,11,45,46,47,52,53] [8,9,36,40] ?_;refine oP J (ae J Km J J J) ?_;refine oS J (aP [(1000000,40)] J J J J J J J (jk (r:=r.left) (v:=62 :: w.take i) V6 hK (by rw[aam,aau];omega)) ⟨.inl J,trivial⟩ ⟨rfl,trivial⟩ J J J J J aa) J ?_;refine wA [0] [1,2,5,7,8,9,11,45,46,47,52,53,55] [8,9,36,40] ?_;refine oP J (aE J Tryz.underlying134 kc J J J (by rw[QT];omega)) ?_;refine oS J (ay J J J kc J J (iC (by rw[aaA];omega)) J J (.inl J) J (aah J) aa) J ?_;refine wA [3] [1,2,5,7,8,9,11,45,46,47] [8,9,36,40] ?_;refine oP J (ae J mA J J J) ?_;refine wA [1] [1,2,5,7,8,9,45,46,47,57,58] [8,9,36,40] ?_;refine oS J (aP [(1000000,40)] J J J J J J J (gm (r:=r.left) (v:=62 :: w.take i) (x:=w.getD i default) V6 hK (by rw[aam,aau];omega)) ⟨.inl J,.inl J,trivial⟩ ⟨rfl,trivial⟩ J J J J J aa) J ?_;refine wA [4,9002] [1,2,5,7,8,9,45,46,47] [8,9,36,40] ?_;exact⟨_,⟨i+1,rfl,acK,by rw[←QU acK,take_succ acK];rfl⟩,acK⟩;refine wA [7] [1,2,5,7,8,9] [8,9,36,40] ?_;obtain rfl:i=w.length:=acK;refine wZ [2,5000] ?_;refine oS J (qN J J J J Tryz.underlying134 Yh Yi J J J (by first|(simp only[ll];omega)|omega) (by first|(simp only[ll];omega)|omega) (by first|(simp only[ll];omega)|omega) aa) J ?_;refine wA [8] [1,5,7,8,9,12,66] [8,9,12,36,40,63] ?_;refine oC J J J J (KB (r:=r.right) acK) ?_;refine oS J (xD J J J J J J J (vW (r:=eo r.right) acK) aa) J ?_;refine wA [1] [1,5,7,8,9,12,64] [8,9,12,36,40,63,68] ?_;refine oP J (Aw J J) ?_;refine oP J (Ax J J) ?_;refine wA [0] [1,5,7,8,9,12,69,70] [8,9,12,36,40,63,68] ?_;refine oS J (eY J J J Sg J J J J J (B4 J) J aa) J ?_;refine wA [0] [1,5,7,8,9,12,70] [8,9,12,36,40,63,68] ?_;refine oS J (eY J J J Vn J J J J J (B4 J) J aa) J ?_;refine wA [4] [1,5,7,8,9,12] [8,9,12,36,63,68] ?_;refine oP J (ae J mA J J J) ?_;refine oS J (aP [(1000000,68)] J J J J J J J (gm (r:=eo r.right) (v:=[]) (x:=62) w5 hK (by simp)) ⟨.inr (.inl ⟨_,rfl,rfl⟩),.inl J,trivial⟩ ⟨rfl,trivial⟩ J J J J J aa) J ?_;refine wA [6] [1,5,7,8,9,12,73] [8,9,12,36,63,68] ?_;refine oN J J J J J (KH) ?_;refine wA [3] [1,5,7,8,9,12,74] [8,9,12,36,63,68] ?_;rw[show List.replicate (Int.toNat (w.length:Int)) (AV.sc (.bool false))=CH r w 0 from Wr.symm,←YF (r:=eo r.right) (w:=w)];refine XQ [(5,63),(1000000,68),(1000001,8),(1000002,9),(1000003,12)] (Hf r w 0) (Hf r w w.length) [8,9,12] [.bx 1000001,.bx 1000002,.bx 1000003] hmd aa (fun zl zr q1 q2 q3 q4 q5 q6=>KI (r:=r) acK (fun k hk=>BW (n:=120) (p:=75) (q:=76) (ts:=[8,9,12]) q1 q2 q3 q4 q5 q6 J (fun w0 M0 aa hmd0=>?_))) J J J ⟨.inl J,trivial⟩ ⟨.inl J,.inl J,.inl J,trivial⟩ ⟨rfl,rfl,rfl,rfl,rfl,trivial⟩ J J J J J ?_;refine AD [8] ?_;intro w0 M0 aa hmd0;refine c4 [2] [8,9,12,13,14] [5,1000000,1000001,1000002,1000003] ?_;refine uh mixed acL _ J ?_;refine BG acL (bM (n:=6) acL ?_);refine xt (i:=0) (j:=1) (k:=2) acL J J J J J J (aN J J (ae J km J J J)) (aN J J (cH J J)) (aN J J (ae J Km J J J)) ?_ ?_ ?_;refine eN (i:=1) (j:=2) acL J J J J (aN J J (cH J J)) (aN J J (ae J Km J J J)) ?_ ?_;refine aJ (i:=2) acL J J (aN J J (ae J Km J J J)) ?_;refine aJ (i:=3) acL J J (aP [] J J J J J J J (jk (r:=eo r.right) (v:=62 :: (w.drop (w.length-k)).reverse) w5 hK (by rw[aam,aaX,aaw];omega)) ⟨.inl J,trivial⟩ ⟨rfl,trivial⟩ J J J J J aa) ?_;refine aJ (i:=4) acL J J (aN J J (aE J Tryz.underlying134 kc J J J (by rw[jj];omega))) ?_;refine aJ (i:=5) acL J J (ay J J J kc J J (iC (by rw[aaA];omega)) J J (.inl J) J (aah J) aa) ?_;refine bf acL ?_;refine iS [2] [8,14] [5,1000000,1000001,1000002,1000003] ?_;refine oP J (ae J mA J J J) ?_;refine wA [1] [82,83] [5,1000000,1000001,1000002,1000003] ?_;refine oS J (aP [] J J J J J J J (gm (r:=eo r.right) (v:=62 :: (w.drop (w.length-k)).reverse) (x:=w.getD ((w.length:Int)-1-(k:Int)).toNat default) w5 hK (by rw[aam,aaX,aaw];omega)) ⟨.inl J,.inl J,trivial⟩ ⟨rfl,trivial⟩ J J J J J aa) J ?_;refine wZ [2] ?_;refine cP (o1:=[(5,_),(1000000,_),(1000001,_),(1000002,_),(1000003,_)]) ⟨rfl,rfl,rfl,rfl,rfl,trivial⟩ ?_;rotate_left;refine eN (i:=1) (j:=3) acL J J J J (aN J J (cH J J)) (aP [] J J J J J J J (jk (r:=eo r.right) (v:=62 :: (w.drop (w.length-k)).reverse) w5 hK (by rw[aam,aaX,aaw];omega)) ⟨.inl J,trivial⟩ ⟨rfl,trivial⟩ J J J J J aa) ?_ ?_;refine aJ (i:=3) acL J J (aP [] J J J J J J J (jk (r:=eo r.right) (v:=62 :: (w.drop (w.length-k)).reverse) w5 hK (by rw[aam,aaX,aaw];omega)) ⟨.inl J,trivial⟩ ⟨rfl,trivial⟩ J J J J J aa) ?_;refine aJ (i:=4) acL J J (aN J J (aE J Tryz.underlying134 kc J J J (by rw[jj];omega))) ?_;refine aJ (i:=5) acL J J (ay J J J kc J J (iC (by rw[aaA];omega)) J J (.inl J) J (aah J) aa) ?_;refine bf acL ?_;refine iS [2] [8,14] [5,1000000,1000001,1000002,1000003] ?_;refine oP J (ae J mA J J J) ?_;refine wA [1] [82,83] [5,1000000,1000001,1000002,1000003] ?_;refine oS J (aP [] J J J J J J J (gm (r:=eo r.right) (v:=62 :: (w.drop (w.length-k)).reverse) (x:=w.getD ((w.length:Int)-1-(k:Int)).toNat default) w5 hK (by rw[aam,aaX,aaw];omega)) ⟨.inl J,.inl J,trivial⟩ ⟨rfl,trivial⟩ J J J J J aa) J ?_;refine wZ [2] ?_;refine cP (o1:=[(5,_),(1000000,_),(1000001,_),(1000002,_),(1000003,_)]) ⟨rfl,rfl,rfl,rfl,rfl,trivial⟩ ?_;rotate_left;refine xe 1 ?_;refine aJ (i:=4) acL J J (aN J J (aE J Tryz.underlying134 kc J J J (by rw[jj];omega))) ?_;refine aJ (i:=5) acL J J (ay J J J kc J J (iC (by rw[aaA];omega)) J J (.inl J) J (aah J) aa) ?_;refine bf acL ?_;refine iS [2] [8,14] [5,1000000,1000001,1000002,1000003] ?_;refine oP J (ae J mA J J J) ?_;refine wA [1] [82,83] [5,1000000,1000001,1000002,1000003] ?_;refine oS J (aP [] J J J J J J J (gm (r:=eo r.right) (v:=62 :: (w.drop (w.length-k)).reverse) (x:=w.getD ((w.length:Int)-1-(k:Int)).toNat default) w5 hK (by rw[aam,aaX,aaw];omega)) ⟨.inl J,.inl J,trivial⟩ ⟨rfl,trivial⟩ J J J J J aa) J ?_;refine wZ [2] ?_;refine cP (o1:=[(5,_),(1000000,_),(1000001,_),(1000002,_),(1000003,_)]) ⟨rfl,rfl,rfl,rfl,rfl,trivial⟩ ?_;rotate_left;refine eN (i:=0) (j:=2) acL J J J J (aN J J (ae J km J J J)) (aN J J (ae J Km J J J)) ?_ ?_;refine aJ (i:=2) acL J J (aN J J (ae J Km J J J)) ?_;refine aJ (i:=3) acL J J (aP [] J J J J J J J (jk (r:=eo r.right) (v:=62 :: (w.drop (w.length-k)).reverse) w5 hK (by rw[aam,aaX,aaw];omega)) ⟨.inl J,trivial⟩ ⟨rfl,trivial⟩ J J J J J aa) ?_;refine aJ (i:=4) acL J J (aN J J (aE J Tryz.underlying134 kc J J J (by rw[jj];omega))) ?_;refine aJ (i:=5) acL J J (ay J J J kc J J (iC (by rw[aaA];omega)) J J (.inl J) J (aah J) aa) ?_;refine bf acL ?_;refine iS [2] [8,14] [5,1000000,1000001,1000002,1000003] ?_;refine oP J (ae J mA J J J) ?_;refine wA [1] [82,83] [5,1000000,1000001,1000002,1000003] ?_;refine oS J (aP [] J J J J J J J (gm (r:=eo r.right) (v:=62 :: (w.drop (w.length-k)).reverse) (x:=w.getD ((w.length:Int)-1-(k:Int)).toNat default) w5 hK (by rw[aam,aaX,aaw];omega)) ⟨.inl J,.inl J,trivial⟩ ⟨rfl,trivial⟩ J J J J J aa) J ?_;refine wZ [2] ?_;refine cP (o1:=[(5,_),(1000000,_),(1000001,_),(1000002,_),(1000003,_)]) ⟨rfl,rfl,rfl,rfl,rfl,trivial⟩ ?_;rotate_left;refine eN (i:=0) (j:=3) acL J J J J (aN J J (ae J km J J J)) (aP [] J J J J J J J (jk (r:=eo r.right) (v:=62 :: (w.drop (w.length-k)).reverse) w5 hK (by rw[aam,aaX,aaw];omega)) ⟨.inl J,trivial⟩ ⟨rfl,trivial⟩ J J J J J aa) ?_ ?_;refine aJ (i:=3) acL J J (aP [] J J J J J J J (jk (r:=eo r.right) (v:=62 :: (w.drop (w.length-k)).reverse) w5 hK (by rw[aam,aaX,aaw];omega)) ⟨.inl J,trivial⟩ ⟨rfl,trivial⟩ J J J J J aa) ?_;refine aJ (i:=4) acL J J (aN J J (aE J Tryz.underlying134 kc J J J (by rw[jj];omega))) ?_;refine aJ (i:=5) acL J J (ay J J J kc J J (iC (by rw[aaA];omega)) J J (.inl J) J (aah J) aa) ?_;refine bf acL ?_;refine iS [2] [8,14] [5,1000000,1000001,1000002,1000003] ?_;refine oP J (ae J mA J J J) ?_;refine wA [1] [82,83] [5,1000000,1000001,1000002,1000003] ?_;refine oS J (aP [] J J J J J J J (gm (r:=eo r.right) (v:=62 :: (w.drop (w.length-k)).reverse) (x:=w.getD ((w.length:Int)-1-(k:Int)).toNat default) w5 hK (by rw[aam,aaX,aaw];omega)) ⟨.inl J,.inl J,trivial⟩ ⟨rfl,trivial⟩ J J J J J aa) J ?_;refine wZ [2] ?_;refine cP (o1:=[(5,_),(1000000,_),(1000001,_),(1000002,_),(1000003,_)]) ⟨rfl,rfl,rfl,rfl,rfl,trivial⟩ ?_;rotate_left;refine aJ (i:=0) acL J J (aN J J (ae J km J J J)) ?_;refine aJ (i:=4) acL J J (aN J J (aE J Tryz.underlying134 kc J J J (by rw[jj];omega))) ?_;refine aJ (i:=5) acL J J (ay J J J kc J J (iC (by rw[aaA];omega)) J J (.inl J) J (aah J) aa) ?_;refine bf acL ?_;refine iS [2] [8,14] [5,1000000,1000001,1000002,1000003] ?_;refine oP J (ae J mA J J J) ?_;refine wA [1] [82,83] [5,1000000,1000001,1000002,1000003] ?_;refine oS J (aP [] J J J J J J J (gm (r:=eo r.right) (v:=62 :: (w.drop (w.length-k)).reverse) (x:=w.getD ((w.length:Int)-1-(k:Int)).toNat default) w5 hK (by rw[aam,aaX,aaw];omega)) ⟨.inl J,.inl J,trivial⟩ ⟨rfl,trivial⟩ J J J J J aa) J ?_;refine wZ [2] ?_;refine cP (o1:=[(5,_),(1000000,_),(1000001,_),(1000002,_),(1000003,_)]) ⟨rfl,rfl,rfl,rfl,rfl,trivial⟩ ?_;rotate_left;refine xt (i:=0) (j:=1) (k:=3) acL J J J J J J (aN J J (ae J km J J J)) (aN J J (cH J J)) (aP [] J J J J J J J (jk (r:=eo r.right) (v:=62 :: (w.drop (w.length-k)).reverse) w5 hK (by rw[aam,aaX,aaw];omega)) ⟨.inl J,trivial⟩ ⟨rfl,trivial⟩ J J J J J aa) ?_ ?_ ?_;refine eN (i:=1) (j:=3) acL J J J J (aN J J (cH J J)) (aP [] J J J J J J J (jk (r:=eo r.right) (v:=62 :: (w.drop (w.length-k)).reverse) w5 hK (by rw[aam,aaX,aaw];omega)) ⟨.inl J,trivial⟩ ⟨rfl,trivial⟩ J J J J J aa) ?_ ?_;refine aJ (i:=3) acL J J (aP [] J J J J J J J (jk (r:=eo r.right) (v:=62 :: (w.drop (w.length-k)).reverse) w5 hK (by rw[aam,aaX,aaw];omega)) ⟨.inl J,trivial⟩ ⟨rfl,trivial⟩ J J J J J aa) ?_;refine aJ (i:=4) acL J J (aN J J (aE J Tryz.underlying134 kc J J J (by rw[jj];omega))) ?_;refine aJ (i:=5) acL J J (ay J J J kc J J (iC (by rw[aaA];omega)) J J (.inl J) J (aah J) aa) ?_;refine bf acL ?_;refine iS [2] [8,14] [5,1000000,1000001,1000002,1000003] ?_;refine oP J (ae J mA J J J) ?_;refine wA [1] [82,83] [5,1000000,1000001,1000002,1000003] ?_;refine oS J (aP [] J J J J J J J (gm (r:=eo r.right) (v:=62 :: (w.drop (w.length-k)).reverse) (x:=w.getD ((w.length:Int)-1-(k:Int)).toNat default) w5 hK (by rw[aam,aaX,aaw];omega)) ⟨.inl J,.inl J,trivial⟩ ⟨rfl,trivial⟩ J J J J J aa) J ?_;refine wZ [2] ?_;refine cP (o1:=[(5,_),(1000000,_),(1000001,_),(1000002,_),(1000003,_)]) ⟨rfl,rfl,rfl,rfl,rfl,trivial⟩ ?_;rotate_left;refine xe 1 ?_;refine aJ (i:=4) acL J J (aN J J (aE J Tryz.underlying134 kc J J J (by rw[jj];omega))) ?_;refine aJ (i:=5) acL J J (ay J J J kc J J (iC (by rw[aaA];omega)) J J (.inl J) J (aah J) aa) ?_;refine bf acL ?_;refine iS [2] [8,14] [5,1000000,1000001,1000002,1000003] ?_;refine oP J (ae J mA J J J) ?_;refine wA [1] [82,83] [5,1000000,1000001,1000002,1000003] ?_;refine oS J (aP [] J J J J J J J (gm (r:=eo r.right) (v:=62 :: (w.drop (w.length-k)).reverse) (x:=w.getD ((w.length:Int)-1-(k:Int)).toNat default) w5 hK (by rw[aam,aaX,aaw];omega)) ⟨.inl J,.inl J,trivial⟩ ⟨rfl,trivial⟩ J J J J J aa) J ?_;refine wZ [2] ?_;refine cP (o1:=[(5,_),(1000000,_),(1000001,_),(1000002,_),(1000003,_)]) ⟨rfl,rfl,rfl,rfl,rfl,trivial⟩ ?_;rotate_left;refine eN (i:=0) (j:=3) acL J J J J (aN J J (ae J km J J J)) (aP [] J J J J J J J (jk (r:=eo r.right) (v:=62 :: (w.drop (w.length-k)).reverse) w5 hK (by rw[aam,aaX,aaw];omega)) ⟨.inl J,trivial⟩ ⟨rfl,trivial⟩ J J J J J aa) ?_ ?_;refine aJ (i:=3) acL J J (aP [] J J J J J J J (jk (r:=eo r.right) (v:=62 :: (w.drop (w.length-k)).reverse) w5 hK (by rw[aam,aaX,aaw];omega)) ⟨.inl J,trivial⟩ ⟨rfl,trivial⟩ J J J J J aa) ?_;refine aJ (i:=4) acL J J (aN J J (aE J Tryz.underlying134 kc J J J (by rw[jj];omega))) ?_;refine aJ (i:=5) acL J J (ay J J J kc J J (iC (by rw[aaA];omega)) J J (.inl J) J (aah J) aa) ?_;refine bf acL ?_;refine iS [2] [8,14] [5,1000000,1000001,1000002,1000003] ?_;refine oP J (ae J mA J J J) ?_;refine wA [1] [82,83] [5,1000000,1000001,1000002,1000003] ?_;refine oS J (aP [] J J J J J J J (gm (r:=eo r.right) (v:=62 :: (w.drop (w.length-k)).reverse) (x:=w.getD ((w.length:Int)-1-(k:Int)).toNat default) w5 hK (by rw[aam,aaX,aaw];omega)) ⟨.inl J,.inl J,trivial⟩ ⟨rfl,trivial⟩ J J J J J aa) J ?_;refine wZ [2] ?_;refine cP (o1:=[(5,_),(1000000,_),(1000001,_),(1000002,_),(1000003,_)]) ⟨rfl,rfl,rfl,rfl,rfl,trivial⟩ ?_;rotate_left;refine aJ (i:=0) acL J J (aN J J (ae J km J J J)) ?_;refine aJ (i:=4) acL J J (aN J J (aE J Tryz.underlying134 kc J J J (by rw[jj];omega))) ?_;refine aJ (i:=5) acL J J (ay J J J kc J J (iC (by rw[aaA];omega)) J J (.inl J) J (aah J) aa) ?_;refine bf acL ?_;refine iS [2] [8,14] [5,1000000,1000001,1000002,1000003] ?_;refine oP J (ae J mA J J J) ?_;refine wA [1] [82,83] [5,1000000,1000001,1000002,1000003] ?_;refine oS J (aP [] J J J J J J J (gm (r:=eo r.right) (v:=62 :: (w.drop (w.length-k)).reverse) (x:=w.getD ((w.length:Int)-1-(k:Int)).toNat default) w5 hK (by rw[aam,aaX,aaw];omega)) ⟨.inl J,.inl J,trivial⟩ ⟨rfl,trivial⟩ J J J J J aa) J ?_;refine wZ [2] ?_;refine cP (o1:=[(5,_),(1000000,_),(1000001,_),(1000002,_),(1000003,_)]) ⟨rfl,rfl,rfl,rfl,rfl,trivial⟩ ?_;rotate_left;refine eN (i:=0) (j:=1) acL J J J J (aN J J (ae J km J J J)) (aN J J (cH J J)) ?_ ?_;refine xe 1 ?_;refine aJ (i:=4) acL J J (aN J J (aE J Tryz.underlying134 kc J J J (by rw[jj];omega))) ?_;refine aJ (i:=5) acL J J (ay J J J kc J J (iC (by rw[aaA];omega)) J J (.inl J) J (aah J) aa) ?_;refine bf acL ?_;refine iS [2] [8,14] [5,1000000,1000001,1000002,1000003] ?_;refine oP J (ae J mA J J J) ?_;refine wA [1] [82,83] [5,1000000,1000001,1000002,1000003] ?_;refine oS J (aP [] J J J J J J J (gm (r:=eo r.right) (v:=62 :: (w.drop (w.length-k)).reverse) (x:=w.getD ((w.length:Int)-1-(k:Int)).toNat default) w5 hK (by rw[aam,aaX,aaw];omega)) ⟨.inl J,.inl J,trivial⟩ ⟨rfl,trivial⟩ J J J J J aa) J ?_;refine wZ [2] ?_;refine cP (o1:=[(5,_),(1000000,_),(1000001,_),(1000002,_),(1000003,_)]) ⟨rfl,rfl,rfl,rfl,rfl,trivial⟩ ?_;rotate_left;refine aJ (i:=0) acL J J (aN J J (ae J km J J J)) ?_;refine aJ (i:=4) acL J J (aN J J (aE J Tryz.underlying134 kc J J J (by rw[jj];omega))) ?_;refine aJ (i:=5) acL J J (ay J J J kc J J (iC (by rw[aaA];omega)) J J (.inl J) J (aah J) aa) ?_;refine bf acL ?_;refine iS [2] [8,14] [5,1000000,1000001,1000002,1000003] ?_;refine oP J (ae J mA J J J) ?_;refine wA [1] [82,83] [5,1000000,1000001,1000002,1000003] ?_;refine oS J (aP [] J J J J J J J (gm (r:=eo r.right) (v:=62 :: (w.drop (w.length-k)).reverse) (x:=w.getD ((w.length:Int)-1-(k:Int)).toNat default) w5 hK (by rw[aam,aaX,aaw];omega)) ⟨.inl J,.inl J,trivial⟩ ⟨rfl,trivial⟩ J J J J J aa) J ?_;refine wZ [2] ?_;refine cP (o1:=[(5,_),(1000000,_),(1000001,_),(1000002,_),(1000003,_)]) ⟨rfl,rfl,rfl,rfl,rfl,trivial⟩ ?_;rotate_left;refine wA [3] [1,5,7,12] [12,36,63] ?_;refine aI 120 [(1,_),(5,_),(7,_),(12,_)] [] aa J ⟨.inl J,.inl J,.inr ⟨_,_,rfl,rfl,rfl⟩,.inr ⟨_,_,rfl,rfl,rfl⟩,trivial⟩ trivial ?_;refine gz [1001,6,4] [5,7,12,15,85,86,87] [15] ?_;have hout:=E6 (r:=r) (w:=w) hok.1;rw[VG hok.1];refine lr (fun zl zo zm zs=>∃i:Nat,zm=w.length-i∧(i≤w.length)∧zs=eJ 120 [(5,vvz (.mp (r.pairs.map fun p=>nv p.src) (r.pairs.map fun p=>ints p.dst))),(7,vvw (.sl (Hc r w w.length))),(12,vvw (.pc [.sl (CH r w w.length)] 0)),(15,.own 15),(85,vvz (ints w)),(86,vvw (int w.length)),(87,vvw (int i))] zl [(15,.arr 3 ((KG r w i).map int))] zo) ?_ ?_;exact⟨_,0,rfl,aan _,rfl⟩;rintro zm zs ⟨i,rfl,fu,rfl⟩;have hr:=hout i;refine wS [3006] [5,7,12,15,85,86,87,88] [15] ?_ ?_<;>intro h4;refine wA [8,9] [5,7,12,15,16,17,85,86,87,93,94] [15] ?_;refine oP J (Dz J Tryz.underlying245 Tryz.underlying3 Yk J J J J (KD r) (Hd r _) (KE r _)) ?_;refine wS [4011] [5,7,12,15,16,17,18,85,86,87,99] [15] ?_ ?_<;>intro h5';refine wA [2] [5,7,12,15,16,17,18,85,86,87,99,100,101] [15] ?_;refine oP J (dS J Tryz.underlying134 kc J J (by rw[aaA];omega) (fun _=>rfl)) ?_;refine wS [4003] [5,7,12,15,16,17,18,85,86,87,105] [15] ?_ ?_<;>intro h6';refine wA [2] [5,7,12,15,17,18,85,86,87,105,106,107] [15] ?_;refine oP J (dS J Tryz.underlying134 kc J J (by rw[aaA];omega) (fun _=>rfl)) ?_;refine wS [3004] [5,7,12,15,17,18,85,86,87,110] [15] ?_ ?_<;>intro h7;have hx1:=hr.2 (w.getD i default);rw[QX (r:=r) (x:=w.getD i default) acN];refine wA [1004,5,9002] [5,7,12,15,85,86,87] [15] ?_;rotate_left;refine wA [4,1000,5,9002] [5,7,12,15,85,86,87] [15] ?_;rotate_left;refine wA [11,1000,5,9002] [5,7,12,15,85,86,87] [15] ?_;rotate_left;refine wA [17,1000,5,9002] [5,7,12,15,85,86,87] [15] ?_;rotate_left;refine wZ [8013] ?_;rotate_left
 all_goals first
  | (
    first|(rw[Bp (by simp_all)];first|done|rfl)|(rw[yK (i:=i) hok acK];first|done|rfl);done)
  | (
    unfold Hf;rw[←QV acK,←YG acK];rfl;done)
  | (
    refine⟨_,⟨i+1,rfl,acK,?_⟩,acK⟩;rw[Bo,aas];first|(rw[E4 (by simp_all) (by simp_all [CI]) (by simp_all [CI])];rfl)|(rw[E5 (by simp_all [CI])];rfl);done)
end Go.Proofs.YtlapahnodhmcpaaGreat
