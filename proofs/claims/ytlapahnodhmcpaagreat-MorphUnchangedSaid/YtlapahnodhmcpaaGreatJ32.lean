/-
  Part of the proof.
-/
import Derived.Test.YtlapahnodhmcpaaGreatJ0
import Derived.Test.YtlapahnodhmcpaaGreatJ16
import Derived.Test.YtlapahnodhmcpaaGreatJ31
import Derived.Test.YtlapahnodhmcpaaGreatJ15
import Derived.Test.YtlapahnodhmcpaaGreatJ27
import Derived.Test.YtlapahnodhmcpaaGreatJ28
set_option linter.unusedVariables false
set_option linter.unusedSectionVars false
set_option linter.unusedSimpArgs false
set_option maxRecDepth 100000
set_option maxHeartbeats 40000000
namespace Go.Wf
open Go.Am Go.Wb Go.Wc
def mL:List Int→List Int→Bool
 | [],[]=>false
 | [],_ :: _=>true
 | _ :: _,[]=>false
 | x :: a,y :: b=>if x=y then mL a b else decide (x<y)
theorem Ff {a b:List Int}{k:Nat}(ha:k<a.length)(hb:k<b.length):mL (a.drop k) (b.drop k)=if a.getD k default=b.getD k default then mL (a.drop (k+1)) (b.drop (k+1)) else decide (a.getD k default<b.getD k default):=by rw[abF ha,abF hb,mL,eh ha,eh hb]
theorem Q1 {a b:List Int}{k:Nat}(h:¬(k<a.length∧k<b.length)):mL (a.drop k) (b.drop k)=decide (k ≥ a.length∧k<b.length):=by
 rcases aaK k a.length with ha|ha
 ·rw[abF ha,abh (l:=b) acK,decide_eq_false acK];rfl
 ·rw[abh ha];rcases aaK k b.length with hb|hb
  ·rw[abF hb,decide_eq_true ⟨ha,hb⟩];rfl
  ·rw[abh hb,decide_eq_false acK];rfl
def lu:List (List Int)→List Int→List (List Int)
 | [],x=>[x]
 | y :: l,x=>if mL y x=true then y :: lu l x else if y=x then y :: l else x :: y :: l
theorem Fg:∀ {l:List (List Int)}{x:List Int}{k:Nat},k<l.length→(∀j,j<k→mL (l.getD j default) x=true)→l.getD k default=x→mL x x=false→lu l x=l
 | y :: l, x, 0, _, _, h, hn => by
   have:y=x:=h;subst this;unfold lu;rw[if_neg (by rw[hn];decide),if_pos rfl]
 | y :: l, x, k + 1, hk, hb, h, hn => by
   have h0:mL y x=true:=hb 0 acK;unfold lu;rw[if_pos h0,Fg (l:=l) (k:=k) (by simpa using hk) (fun j hj=>hb (j+1) acK) h hn]
theorem Fh:∀ x:List Int,mL x x=false
 | []=>rfl
 | a :: x=>by unfold mL;rw[if_pos rfl];exact Fh x
theorem IX:∀ {l:List (List Int)}{x:List Int}{k:Nat},k≤l.length→(∀j,j<k→mL (l.getD j default) x=true)→(k<l.length→mL (l.getD k default) x=false)→(k<l.length→l.getD k default≠x)→lu l x=l.take k++[x]++l.drop k
 | [], x, k, hk, _, _, _ => by
   have:k=0:=by simpa using hk
   subst this;rfl
 | y :: l, x, 0, _, _, h, hn => by
   have h0:mL y x=false:=h (by simp);have h1:y≠x:=hn (by simp);unfold lu;rw[if_neg (by rw[h0];decide),if_neg h1];rfl
 | y :: l, x, k + 1, hk, hb, h, hn => by
   have h0:mL y x=true:=hb 0 acK;unfold lu;rw[if_pos h0,IX (l:=l) (k:=k) (by simpa using hk) (fun j hj=>hb (j+1) acK) (fun q=>h (by simpa using q)) (fun q=>hn (by simpa using q))];rfl
end Go.Wf
namespace Go.Proofs.YtlapahnodhmcpaaGreat
open Go.Am Go.Wb Go.Wc Go.Wf Go.We
abbrev YZ:=dF 4 Tryz.func89
theorem Fi {a b:List Int}(ha:a.length≤1099511627776)(hb:b.length≤1099511627776):ak Tryz.prog 89 [ints a,ints b] (.p (bool (mL a b))):=by
 refine cF YZ fun w0 M0 aa=>?_
 refine c4 [12] [0,1,5] [] ?_;refine lr (fun zl zo zm zs=>∃k:Nat,zm=a.length-k∧(k≤a.length)∧(k≤b.length)∧(mL a b=mL (a.drop k) (b.drop k))∧zs=eJ 41 [(5,vvw (int k))] zl [] zo) ?_ ?_;exact⟨_,0,rfl,aan _,aan _,rfl,rfl⟩;rintro zm zs ⟨k,rfl,aY,aq,cY,rfl⟩;refine wS [5,4002] [0,1,5,10] [] ?_ ?_<;>intro h1';refine wS [2,3004] [0,1,5,15] [] ?_ ?_<;>intro h2;refine wS [2006,6002,6003,3004] [0,1,5,26] [] ?_ ?_<;>intro h3;refine wZ [2002,6002,6003,8011] ?_;rotate_left;refine wA [6,9002] [0,1,5] [] ?_;exact⟨_,⟨k+1,rfl,acK,acK,by rw[cY,Ff acK acK,if_pos acK],rfl⟩,acK⟩;refine wZ [9,1,8005] ?_;rotate_left;refine wZ [16,1,8005] ?_;rotate_left
 all_goals
  first|(rw[cY,Ff acK acK,if_neg acK];done)|(rw[cY,Q1 acK];first|done|(congr 3;exact decide_eq_decide.2 acK))
abbrev Y0:=dF 4 Tryz.func61
theorem Ho {l:List (List Int)}{x:List Int}(hl:l.length≤1048576)(hB:∀y∈l,y.length≤1099511627776)(hx:x.length≤1099511627776):aU Tryz.prog 61 [ly l,ints x] (.p (ly (lu l x))):=by
 refine cN Y0 fun w0 M0 aa=>?_
 refine c4 [12] [0,1,5] [] ?_;refine lr (fun zl zo zm zs=>∃k:Nat,zm=l.length-k∧(k≤l.length)∧(∀j,j<k→mL (l.getD j default) x=true)∧zs=eJ 48 [(5,vvw (int k))] zl [] zo) ?_ ?_;exact⟨_,0,rfl,aan _,fun j hj=>absurd hj acK,rfl⟩;rintro zm zs ⟨k,rfl,aY,aq,rfl⟩;refine wS [5,4002] [0,1,5,11] [] ?_ ?_<;>intro h1';refine wA [2,2] [0,1,5,11,15,16] [] ?_;refine oC J J J J (Fi (a:=l.getD k default) (b:=x) (hB _ (aM acK)) hx) ?_;refine wS [3003] [0,1,5,18] [] ?_ ?_<;>intro h2;refine wA [6,9003] [0,1,5] [] ?_;exact⟨_,⟨k+1,rfl,acK,bX aq (by simp_all),rfl⟩,acK⟩;refine wS [11,4002] [0,1,5,25] [] ?_ ?_<;>intro h3';refine wA [2,2] [0,1,5,25,29,30] [] ?_;refine oC J J J J (gp (a:=l.getD k default) (b:=x) (hB _ (aM acK)) hx) ?_;refine wS [3003] [0,1,5,32] [] ?_ ?_<;>intro h4;refine wZ [8009] ?_;rotate_left;refine wZ [1005,7,5000] ?_;refine oS J (step_append J J J J Tryz.underlying52 sx J J aa (eW (f:=ints) (l:=l.take k) J (fun _=>rfl)) (by simp only[aar,aai,aau,aaw,aat,aam];omega) (by simp only[aar,aai,aau,aaw,aat,aam];omega)) J ?_;refine wZ [7,5000] ?_;refine oS J (step_append J J J J Tryz.underlying52 sx J J aa (cI J (bW (by rfl))) (by simp only[aar,aai,aau,aaw,aat,aam];omega) (by simp only[aar,aai,aau,aaw,aat,aam];omega)) J ?_;refine wZ [8,5000] ?_;refine oS J (step_append J J J J Tryz.underlying52 sx J J aa (eW (f:=ints) (l:=l.drop k) J (fun _=>rfl)) (by simp only[aar,aai,aau,aaw,aat,aam];omega) (by simp only[aar,aai,aau,aaw,aat,aam];omega)) J ?_;refine ku 48 [(47,_)] [] aa J ⟨.inr ⟨_,_,rfl,rfl,rfl⟩,trivial⟩ trivial ?_;refine Gt [8004] ?_;rotate_left;refine wZ [1014,7,5000] ?_;refine oS J (step_append J J J J Tryz.underlying52 sx J J aa (eW (f:=ints) (l:=l.take k) J (fun _=>rfl)) (by simp only[aar,aai,aau,aaw,aat,aam];omega) (by simp only[aar,aai,aau,aaw,aat,aam];omega)) J ?_;refine wZ [7,5000] ?_;refine oS J (step_append J J J J Tryz.underlying52 sx J J aa (cI J (bW (by rfl))) (by simp only[aar,aai,aau,aaw,aat,aam];omega) (by simp only[aar,aai,aau,aaw,aat,aam];omega)) J ?_;refine wZ [8,5000] ?_;refine oS J (step_append J J J J Tryz.underlying52 sx J J aa (eW (f:=ints) (l:=l.drop k) J (fun _=>rfl)) (by simp only[aar,aai,aau,aaw,aat,aam];omega) (by simp only[aar,aai,aau,aaw,aat,aam];omega)) J ?_;refine ku 48 [(47,_)] [] aa J ⟨.inr ⟨_,_,rfl,rfl,rfl⟩,trivial⟩ trivial ?_;refine Gt [8004] ?_;rotate_left;refine wS [20,4002] [0,1,5,25] [] ?_ ?_<;>intro h5';refine wA [2,2] [0,1,5,25,29,30] [] ?_;refine oC J J J J (gp (a:=l.getD k default) (b:=x) (hB _ (aM acK)) hx) ?_;refine wS [3003] [0,1,5,32] [] ?_ ?_<;>intro h6;refine wZ [8009] ?_;rotate_left;refine wZ [1005,7,5000] ?_;refine oS J (step_append J J J J Tryz.underlying52 sx J J aa (eW (f:=ints) (l:=l.take k) J (fun _=>rfl)) (by simp only[aar,aai,aau,aaw,aat,aam];omega) (by simp only[aar,aai,aau,aaw,aat,aam];omega)) J ?_;refine wZ [7,5000] ?_;refine oS J (step_append J J J J Tryz.underlying52 sx J J aa (cI J (bW (by rfl))) (by simp only[aar,aai,aau,aaw,aat,aam];omega) (by simp only[aar,aai,aau,aaw,aat,aam];omega)) J ?_;refine wZ [8,5000] ?_;refine oS J (step_append J J J J Tryz.underlying52 sx J J aa (eW (f:=ints) (l:=l.drop k) J (fun _=>rfl)) (by simp only[aar,aai,aau,aaw,aat,aam];omega) (by simp only[aar,aai,aau,aaw,aat,aam];omega)) J ?_;refine ku 48 [(47,_)] [] aa J ⟨.inr ⟨_,_,rfl,rfl,rfl⟩,trivial⟩ trivial ?_;refine Gt [8004] ?_;rotate_left;refine wZ [1014,7,5000] ?_;refine oS J (step_append J J J J Tryz.underlying52 sx J J aa (eW (f:=ints) (l:=l.take k) J (fun _=>rfl)) (by simp only[aar,aai,aau,aaw,aat,aam];omega) (by simp only[aar,aai,aau,aaw,aat,aam];omega)) J ?_;refine wZ [7,5000] ?_;refine oS J (step_append J J J J Tryz.underlying52 sx J J aa (cI J (bW (by rfl))) (by simp only[aar,aai,aau,aaw,aat,aam];omega) (by simp only[aar,aai,aau,aaw,aat,aam];omega)) J ?_;refine wZ [8,5000] ?_;refine oS J (step_append J J J J Tryz.underlying52 sx J J aa (eW (f:=ints) (l:=l.drop k) J (fun _=>rfl)) (by simp only[aar,aai,aau,aaw,aat,aam];omega) (by simp only[aar,aai,aau,aaw,aat,aam];omega)) J ?_;refine ku 48 [(47,_)] [] aa J ⟨.inr ⟨_,_,rfl,rfl,rfl⟩,trivial⟩ trivial ?_;refine Gt [8004] ?_;rotate_left
 all_goals
  first|(rw[Fg (k:=k) acK aq acN (Fh x)];first|done|rfl)|(rw[IX (k:=k) acK aq (fun q=>by first|(exfalso;omega)|assumption) (fun q=>by first|(exfalso;omega)|assumption)];show _=RV.p (.sl ((l.take k++[x]++l.drop k).map ints));rw[aas,aas];rfl)
end Go.Proofs.YtlapahnodhmcpaaGreat
namespace Go.Wf
open Go.Am Go.Wb Go.Wc
abbrev bU (l:List aK):AV:=.sl (l.map fQ)
structure CQ where
 g:aC
 l:List cy
 f:List (List aK)
 deriving Inhabited
def W0 (m:CQ):List AV:=[.sl (m.g.sets.map jb),.sl (m.g.rules.map bn),.sl (m.g.classes.map bL),strs m.g.order,.sl (m.l.map cS),.sl (m.f.map bU)]
def Hp (m:CQ):AV:=.agg (W0 m)
def W4 (m:CQ):AV:=.pc (W0 m) 0
def Q2 (m:CQ)(i:Int):List aK:=if i<0∨(m.f.length:Int)≤i then[] else m.f.getD i.toNat default
end Go.Wf
namespace Go.Proofs.YtlapahnodhmcpaaGreat
open Go.Am Go.Wb Go.Wc Go.Wf Go.We
abbrev Y1:=dF 4 Tryz.func17
theorem yZ {m:CQ}{i:Int}(hf:m.f.length≤1099511627776):aU Tryz.prog 17 [Hp m,int i] (.p (bU (Q2 m i))):=by
 refine cN Y1 fun w0 M0 aa=>?_
 refine pW [2,4009] [1,2,7] [] ?_ ?_<;>intro h1';refine wZ [8016] ?_;rotate_left;refine wS [3,3004] [1,2,13] [] ?_ ?_<;>intro h2;refine wZ [8008] ?_;rotate_left;refine wZ [8,8005] ?_;rotate_left
 all_goals
  unfold Q2;first|(rw[if_pos acK];first|done|rfl)|(rw[if_neg acK];first|done|rfl)
end Go.Proofs.YtlapahnodhmcpaaGreat
namespace Go.Wf
open Go.Am Go.Wb Go.Wc
def IY:aK:=⟨[],[],[],[]⟩
def bT (g:aC)(cl:List UInt8)(w:List Int):List Int:=w.take ((w.length:Int)-(bh g cl).strip).toNat
def jy (g:aC)(cl cn:List UInt8):List aF:=bq g (bP g cl cn).change
def ot (g:aC):List aF:=bq g g.order
def u3 (g:aC)(cl cn:List UInt8)(w:List Int):List Int:=iI [(bP g cl cn).pre,wK (bT g cl w) (jy g cl cn),(bP g cl cn).suf]
def dw (g:aC)(cl cn:List UInt8)(w:List Int):Int:=if gY g cl cn≠0 then gY g cl cn else if jd (bh g cl) w=false then 1 else if bw (bT g cl w) (jy g cl cn)=false then 4
 else if 64<(u3 g cl cn w).length then 4 else if bw (u3 g cl cn w) (ot g)=false then 4 else 0
def gj (g:aC)(cl cn:List UInt8)(w:List Int):aK:=if dw g cl cn w=0 then
   ⟨cn,gX (wK (u3 g cl cn w) (ot g)),KO (wK (u3 g cl cn w) (ot g)),nK (bT g cl w) (jy g cl cn)++nK (u3 g cl cn w) (ot g)⟩
 else IY
variable {g:aC} {cl cn:List UInt8}{w:List Int}
theorem lg {e:Int}(h:dw g cl cn w=e)(h0:e≠0):gj g cl cn w=IY:=if_neg (by rw[h];exact h0)
theorem oa (h:gY g cl cn≠0):dw g cl cn w=gY g cl cn:=if_pos h
theorem tR (h:gY g cl cn=0)(h1:jd (bh g cl) w=false):dw g cl cn w=1:=by unfold dw;rw[if_neg (by rw[h];decide),if_pos h1]
theorem CR (h:gY g cl cn=0)(h1:jd (bh g cl) w=true)(h2:bw (bT g cl w) (jy g cl cn)=false):dw g cl cn w=4:=by unfold dw;rw[if_neg (by rw[h];decide),if_neg (by rw[h1];decide),if_pos h2]
theorem CS (h:gY g cl cn=0)(h1:jd (bh g cl) w=true)(h3:64<(u3 g cl cn w).length):dw g cl cn w=4:=by unfold dw;rw[if_neg (by rw[h];decide),if_neg (by rw[h1];decide),if_pos h3];split<;>rfl
theorem CT (h:gY g cl cn=0)(h1:jd (bh g cl) w=true)(h4:bw (u3 g cl cn w) (ot g)=false):dw g cl cn w=4:=by
 unfold dw;rw[if_neg (by rw[h];decide),if_neg (by rw[h1];decide),if_pos h4];split
 ·rfl
 ·split<;>rfl
theorem IZ (h:gY g cl cn=0)(h1:jd (bh g cl) w=true)(h2:bw (bT g cl w) (jy g cl cn)=true)(h3:¬64<(u3 g cl cn w).length)(h4:bw (u3 g cl cn w) (ot g)=true):dw g cl cn w=0:=by unfold dw;rw[if_neg (by rw[h];decide),if_neg (by rw[h1];decide),if_neg (by rw[h2];decide),if_neg h3,if_neg (by rw[h4];decide)]
theorem tS {c:iy}{w:List Int}(h:jd c w=true):0≤c.strip∧c.strip<w.length∧w.length≤24:=by unfold jd at h;simp only[aax,decide_eq_true_eq] at h;exact⟨h.1.1.1.1.1,h.1.1.1.2,h.1.1.2⟩
theorem sD:∀ {l:List aF}{w:List Int},bw w l=true→w.length≤64→(wK w l).length≤64
 | [],w,_,h=>h
 | r :: l, w, h, _ => by
   unfold bw at h;rw[aax,decide_eq_true_eq] at h;exact sD (l:=l) h.2 h.1
theorem Ov {w:List Int}{l:List aF}(hw:w.length≤64):(if bw w l=true then wK w l else[]).length≤64:=by
 split
 ·next h=>exact sD h hw
 ·exact aan _
theorem CU {w:List Int}{l:List aF}:(if bw w l=true then nK w l else[]).length≤l.length:=by
 split
 ·exact o8 _ _
 ·exact aan _
theorem qw (h:jd (bh g cl) w=true):(bT g cl w).length≤24:=by have:=tS h;unfold bT;rw[aau];omega
theorem W5 (h:bw (bT g cl w) (jy g cl cn)=true):iI [(bP g cl cn).pre,(if bw (bT g cl w) (jy g cl cn)=true then wK (bT g cl w) (jy g cl cn) else[]),(bP g cl cn).suf]=u3 g cl cn w:=by rw[if_pos h];rfl
end Go.Wf
namespace Go.Proofs.YtlapahnodhmcpaaGreat
open Go.Am Go.Wb Go.Wc Go.Wf Go.We
variable{w:List Int}
theorem qy {l:List aF}(hw:w.length≤64)(hl:l.length≤1048576)(hR:∀r∈l,QY r) :
   Me Tryz.prog 115 [ints w,.sl (l.map bn)] (ints (if bw w l=true then wK w l else[])) 9 ((if bw w l=true then nK w l else[]).map ah) (bool (bw w l)):=by
 refine zJ Sx (aah J) fun w0 M0 aa=>?_
 refine c4 [1009,9] [0,1,7,8] [7] ?_;refine lr (fun zl zo zm zs=>∃i:Nat,zm=l.length-i∧(i≤l.length)∧(bw w (l.take i)=true)∧((wK w (l.take i)).length≤64)∧zs=eJ 40 [(0,vvw (ints (wK w (l.take i)))),(7,.own 7),(8,vvw (int i))] zl [(7,.arr 9 ((nK w (l.take i)).map ah))] zo) ?_ ?_;exact⟨_,0,rfl,aan _,rfl,hw,rfl⟩;rintro zm zs ⟨i,rfl,aY,aq,cY,rfl⟩;have Om:=fun h:i<l.length=>hR _ (aM h)
 have hn:(nK w (l.take i)).length≤l.length:=aaO (o8 _ _) (by rw[aau];omega);refine wS [5,3003] [0,1,7,8,13] [7] ?_ ?_<;>intro h1;refine wA [9,2] [0,1,7,8,19,20] [7] ?_;refine oC J J J J (by have h:=vU (r:=l.getD i default) (w:=(wK w (l.take i))) acK (by have:=(Om acK).pairs;omega) (fun p hp=>aaO ((Om acK).dst p hp) acM) (by have:=(Om acK).left;omega) (by have:=(Om acK).right;omega);rw[←EM] at h;exact h) ?_;refine wA [8] [1,7,8,9,22,23] [7] ?_;refine oC J J J J (rU (a:=bp (l.getD i default) (wK w (l.take i))) (b:=(wK w (l.take i))) (by have:=o9 (r:=l.getD i default) (w:=(wK w (l.take i)));omega) acK) ?_;refine wS [3003] [1,7,8,9,25] [7] ?_ ?_<;>intro h2;refine wS [5,2,1000,12,3003] [0,1,7,8,37] [7] ?_ ?_<;>intro h3;refine wZ [14] ?_;refine tf J J J ?_;rotate_left;refine wA [6,9002] [0,1,7,8] [7] ?_;rotate_left;refine wS [12,3003] [0,1,7,8,37] [7] ?_ ?_<;>intro h4;refine wZ [14] ?_;refine tf J J J ?_;rotate_left;refine wA [6,9002] [0,1,7,8] [7] ?_;rotate_left;refine wZ [16] ?_;refine BZ J J J J ?_;rotate_left
 all_goals first
  | (
    first
      | (rw[Bq (i:=i) acK (by rw[fD acK];omega)];exact⟨rfl,rfl,rfl⟩)
      | (rw[aaB acK] at *;rw[show bw w l=true by assumption];exact⟨rfl,rfl,rfl⟩);done)
  | (
    exact⟨_,⟨i+1,rfl,acK,(by rw[nj acK,aq,fD acK,abm];exact decide_eq_true acK),(by rw[fD acK];omega),by rw[fD acK,tM acK];first|(rw[if_pos acN,aaP];rfl)|(rw[if_neg acN,aas];rfl)⟩,acK⟩;done)
variable{g:aC}{cl cn:List UInt8}
theorem Fj (hg:pF g)(hu:gY g cl cn=0):aU Tryz.prog 112 [cV g,ah cl,ah cn] (.p (.tup [.sl ((jy g cl cn).map bn),.sl ((ot g).map bn),int 0])):=by have h:=tQ (cl:=cl) (cn:=cn) hg;rw[if_pos hu,if_pos hu,hu] at h;exact h
theorem Hq (hg:pF g)(hu:gY g cl cn≠0):aU Tryz.prog 112 [cV g,ah cl,ah cn] (.p (.tup [.sl [],.sl [],int (gY g cl cn)])):=by have h:=tQ (cl:=cl) (cn:=cn) hg;rw[if_neg hu,if_neg hu] at h;exact h
theorem W6:BR Tryz.prog 79 Tryz.f79.ntmps 8 64 4 9 (Tryz.f79.body.getD .skip):=⟨Tryz.f79,Tryz.func79,rfl,rfl,rfl,acL,QB,GW⟩
abbrev Ow (g:aC)(cl cn:List UInt8)(w:List Int):Prop:=aU Tryz.prog 79 [cV g,ah cl,ints w,ah cn] (.p (.tup [fQ (gj g cl cn w),int (dw g cl cn w)]))
theorem KQ {g : aC} {cl cn : List UInt8} {w : List Int} (hg : pF g) (hw : w.length ≤ 1099511627776) (hu : gY g cl cn = 0) : Ow g cl cn w := by
 have hch:(jy g cl cn).length≤1000:=aaO kQ (jx hg cl cn).change;have hod:(ot g).length≤1000:=aaO kQ hg.order;have hn1:=o8 (jy g cl cn) (bT g cl w);have hn2:=o8 (ot g) (u3 g cl cn w);have hpre:=(jx hg cl cn).pre;have hsuf:=(jx hg cl cn).suf;refine dn W6 (aah J) fun w0 M0 aa=>?_
 refine c4 [2,9] [1,2,3,4,8,26,27,28] [8] ?_;refine oN J J J J J (Fj hg hu) ?_;refine wA [13] [1,2,3,4,8,10,11,12,33] [8] ?_;refine oP J (bj (b':=false) (cZ J J J) (by rfl)) ?_;refine wA [9] [2,3,8,10,11,38,39] [8] ?_;refine oN J J J J J (pa (by have:=hg.nclasses;omega)) ?_;refine wA [9] [2,3,8,10,11,13] [8,13] ?_;refine aI 103 [(2,_),(3,_),(8,_),(10,_),(11,_),(13,_)] [(8,_)] aa J ⟨.inl J,.inl J,.inl J,.inl J,.inl J,.inr ⟨_,_,rfl,rfl,rfl⟩,trivial⟩ ⟨rfl,trivial⟩ ?_;refine gz [3] [2,3,8,10,11,13,44,45] [8] ?_;refine oN J J J J J (vZ (by have:=(lq hg cl).cells;omega)) ?_;refine wA [10] [2,3,8,10,11,13,15] [8,15] ?_;refine aI 103 [(2,_),(3,_),(8,_),(10,_),(11,_),(13,_),(15,_)] [(8,_)] aa J ⟨.inl J,.inl J,.inl J,.inl J,.inl J,.inl J,.inr ⟨_,_,rfl,rfl,rfl⟩,trivial⟩ ⟨rfl,trivial⟩ ?_;refine gz [3] [2,3,8,10,11,13,15,49,50] [8] ?_;refine oC J J J J (Hk (c:=(bh g cl)) hw (lq hg cl).fits) ?_;refine wS [3003] [2,3,8,10,11,13,15,52] [8] ?_ ?_<;>intro h1;refine wA [3] [8] [8] ?_;refine oP J (au (aT J EI Cx J J J) J) ?_;refine wZ [6] ?_;refine bz J J ?_;rotate_left;refine wA [7,2] [3,8,10,11,15,55,57,59] [8] ?_;refine oP J (qJ J J J (by have:=tS (c:=bh g cl) (w:=w) acN;omega)) ?_;refine oP J (fi J Tryz.underlying22 wu J J (by have:=tS (c:=bh g cl) (w:=w) acN;omega) (fun _=>rfl)) ?_;refine wA [1] [3,8,11,15,61,62] [8] ?_;refine oS J (xF J J J J J J (qy (w:=(bT g cl w)) (l:=(jy g cl cn)) (by have:=qw (g:=g) (cl:=cl) (w:=w) acN;omega) acK (fun r hr=>hg.rules r (gV hr))) aa) J ?_;refine wA [1] [3,8,11,15,54] [8,63] ?_;refine oP J (oJ J J J) ?_;refine oP J (xK J J J) ?_;refine wA [0] [3,8,11,15,54,64,65] [8,63] ?_;refine oP J (oJ J J J) ?_;refine wS [3012] [3,8,11,15,17,18,68] [8,63] ?_ ?_<;>intro h2;refine wA [3] [8] [8] ?_;refine oP J (au (aT J EI Cx J J J) J) ?_;refine wZ [6] ?_;refine bz J J ?_;rotate_left;refine wZ [10,5000] ?_;refine oC rfl rfl rfl rfl (CK (l:=[(bP g cl cn).pre,(if bw (bT g cl w) (jy g cl cn)=true then wK (bT g cl w) (jy g cl cn) else[]),(bP g cl cn).suf]) (aah rfl) (by intro x hx;have hsl:=qw (g:=g) (cl:=cl) (w:=w) acN;have hwl:=Ov (w:=bT g cl w) (l:=jy g cl cn) acK;simp only[aaC,aca,or_false] at hx;rcases hx with rfl|rfl|rfl<;>omega)) ?_;refine wS [7,3003] [3,8,11,18,20,79] [8,63] ?_ ?_<;>intro h3;refine wA [3] [8] [8] ?_;refine oP J (au (aT J EI Cx J J J) J) ?_;refine wZ [6] ?_;refine bz J J ?_;rotate_left;refine wA [7] [3,8,18,82,83] [8,63] ?_;refine oS J (xF J J J J J J (qy (w:=(iI [(bP g cl cn).pre,(if bw (bT g cl w) (jy g cl cn)=true then wK (bT g cl w) (jy g cl cn) else[]),(bP g cl cn).suf])) (l:=(ot g)) acK acK (fun r hr=>hg.rules r (gV hr))) aa) J ?_;refine wA [1] [3,8,18,81] [8,63,84] ?_;refine oP J (oJ J J J) ?_;refine oP J (xK J J J) ?_;refine wA [0] [3,8,18,81,85,86] [8,63,84] ?_;refine oP J (oJ J J J) ?_;refine wS [3012] [3,8,18,20,21,89] [8,63,84] ?_ ?_<;>intro h4;refine wA [3] [8] [8] ?_;refine oP J (au (aT J EI Cx J J J) J) ?_;refine wZ [6] ?_;refine bz J J ?_;rotate_left;refine wA [6] [3,8,18,21,92] [8,63,84] ?_;refine oC J J J J (Fe (w:=(if bw (iI [(bP g cl cn).pre,(if bw (bT g cl w) (jy g cl cn)=true then wK (bT g cl w) (jy g cl cn) else[]),(bP g cl cn).suf]) (ot g)=true then wK (iI [(bP g cl cn).pre,(if bw (bT g cl w) (jy g cl cn)=true then wK (bT g cl w) (jy g cl cn) else[]),(bP g cl cn).suf]) (ot g) else[])) (by have:=Ov (w:=(iI [(bP g cl cn).pre,(if bw (bT g cl w) (jy g cl cn)=true then wK (bT g cl w) (jy g cl cn) else[]),(bP g cl cn).suf])) (l:=(ot g)) acK;omega)) ?_;refine wA [14] [8,96,97,98,99,100] [8,63,84] ?_;refine oS J (step_append J J J J Tryz.underlying27 XC J J aa (PC J J Yj) (by have hq1:=CU (w:=bT g cl w) (l:=jy g cl cn);have hq2:=CU (w:=(iI [(bP g cl cn).pre,(if bw (bT g cl w) (jy g cl cn)=true then wK (bT g cl w) (jy g cl cn) else[]),(bP g cl cn).suf])) (l:=(ot g));simp only[aai];omega) (by have hq1:=CU (w:=bT g cl w) (l:=jy g cl cn);have hq2:=CU (w:=(iI [(bP g cl cn).pre,(if bw (bT g cl w) (jy g cl cn)=true then wK (bT g cl w) (jy g cl cn) else[]),(bP g cl cn).suf])) (l:=(ot g));simp only[aai];omega)) J ?_;refine ku 103 [(8,_),(96,_),(97,_),(98,_),(101,_)] [(8,_),(84,_)] aa J ⟨.inl J,.inl J,.inl J,.inl J,.inr ⟨_,_,rfl,rfl,rfl⟩,trivial⟩ ⟨rfl,rfl,trivial⟩ ?_;refine Gt [6] ?_;refine bz J J ?_;rotate_left
 all_goals
   first
     | (rw[lg (tR hu acN) acM,tR hu acN];exact⟨rfl,rfl⟩)
     | (rw[lg (CR hu acN acN) acM,CR hu acN acN];exact⟨rfl,rfl⟩)
     | (have hS : bw (bT g cl w) (jy g cl cn) = true := by assumption
        have e1:=W5 (cn:=cn) hS
        first
        | (rw[lg (CS hu acN (by rw[←e1];omega)) acM,CS hu acN (by rw[←e1];omega)];exact⟨rfl,rfl⟩)
        | (rw[lg (CT hu acN (by rw[←e1];assumption)) acM,CT hu acN (by rw[←e1];assumption)];exact⟨rfl,rfl⟩)
        | (have hS2 : bw (u3 g cl cn w) (ot g) = true := by rw [← e1]; assumption
           have e0:=IZ hu acN hS (by rw[←e1];omega) hS2;unfold gj;rw[if_pos e0,e0];simp only[hS,↓reduceIte,show iI [(bP g cl cn).pre,wK (bT g cl w) (jy g cl cn),(bP g cl cn).suf]=u3 g cl cn w from rfl,hS2];refine⟨?_,rfl⟩;show _=AV.agg [ah cn,ints _,ints _,.sl (List.map ah (_++_))];rw[aas];rfl))
theorem Ox (hg:pF g)(hu:gY g cl cn≠0):Ow g cl cn w:=by
 refine dn W6 (aah J) fun w0 M0 aa=>?_
 refine c4 [2,9] [1,2,3,4,8,26,27,28] [8] ?_;refine oN J J J J J (Hq hg hu) ?_;refine wA [13] [1,2,3,4,8,10,11,12,33] [8] ?_;refine oP J (bj (b':=true) (cZ J J J) (by simp[hu])) ?_;refine wA [5] [8,12] [8] ?_;refine oP J (au (aT J EI Cx J J J) J) ?_;refine wZ [7] ?_;refine bz J J ?_;rw[lg (oa hu) hu,oa hu];exact⟨rfl,rfl⟩
theorem Hr (hg:pF g)(hw:w.length≤1099511627776):Ow g cl cn w:=by
 by_cases hu:gY g cl cn=0
 ·exact KQ hg hw hu
 ·exact Ox hg hu
end Go.Proofs.YtlapahnodhmcpaaGreat
namespace Go.Wf
open Go.Am Go.Wb Go.Wc
def iQ (w:List Int):Nat→List Int
 | 0=>[]
 | i+1=>if w.getD i default=63∧0<nL w i then iQ w i++[nL w i] else iQ w i
abbrev tT (l:List Int):List Int:=sO (fun x y=>decide (x=y)) l
def rV (T:Int)(l:List Int):List Int:=(l.reverse.dropWhile fun x=>decide (x=T)).reverse
variable{l:List Int}
theorem pb (h:0<l.length):l=l.take (l.length-1)++[fw l]:=by have:=take_succ (l:=l) (k:=l.length-1) acK;rw[show l.length-1+1=l.length by omega,abj] at this;exact this
theorem y3 (l:List Int)(x:Int):fw (l++[x])=x:=by unfold fw;rw[aag,aar,aaZ,Nat.add_sub_cancel,aaE (aak _),ach];rfl
theorem sE (T:Int)(l:List Int)(x:Int):rV T (l++[x])=if x=T then rV T l else l++[x]:=by
 unfold rV;rw[List.reverse_append,List.reverse_singleton,List.singleton_append,List.dropWhile_cons];by_cases h:x=T
 ·rw[if_pos (decide_eq_true h),if_pos h]
 ·rw[if_neg (by simpa using h),if_neg h,List.reverse_cons,abM]
theorem Hs {T:Int}(h:0<l.length)(hl:fw l=T):rV T (l.take (l.length-1))=rV T l:=by
 conv=>rhs;rw[pb h]
 rw[sE,if_pos hl]
theorem Bt {T:Int}(h:¬(0<l.length∧fw l=T)):rV T l=l:=by
 rcases aby l.length with h0|h0
 ·rw[aaD h0];rfl
 ·conv=>lhs;rw[pb h0]
  rw[sE,if_neg (fun q=>h ⟨h0,q⟩),←pb h0]
theorem Fk {l m:List Int}:∀{i:Nat},i≤l.length→en (fun x y=>decide (x=y)) (l++m) i=en (fun x y=>decide (x=y)) l i
 | 0,_=>rfl
 | i + 1, h => by
   have e1:(l++m).getD i default=l.getD i default:=by rw[aag,aaH acK,aag]
   have e2:(l++m).getD (i-1) default=l.getD (i-1) default:=by rw[aag,aaH acK,aag]
   rw[en,en,e1,e2,Fk acK]
theorem Fl (l:List Int)(x:Int):tT (l++[x])=if 0<l.length∧x=fw l then tT l else tT l++[x]:=by
 show en _ (l++[x]) (l++[x]).length=_;rw[aar,aaZ,en,Fk (aak _)];have e1:(l++[x]).getD l.length default=x:=by rw[aag,aaE (aak _),ach];rfl
 rw[e1];by_cases h:0<l.length
 ·have e2:(l++[x]).getD (l.length-1) default=fw l:=by rw[aag,aaH acK,←aag];rfl
  rw[e2];by_cases q:x=fw l
  ·rw[if_pos ⟨h,decide_eq_true q⟩,if_pos ⟨h,q⟩];rfl
  ·rw[if_neg (fun z=>q (of_decide_eq_true z.2)),if_neg (fun z=>q z.2)];rfl
 ·rw[if_neg (fun z=>h z.1),if_neg (fun z=>h z.1)];rfl
theorem tU:∀ {l:List Int},0<l.length→0<(tT l).length∧fw (tT l)=fw l:=by
 have key:∀(n:Nat)(l:List Int),l.length=n→0<l.length→0<(tT l).length∧fw (tT l)=fw l:=by
   intro n
   induction n with
   | zero=>intro l h h0;omega
   | succ n ih =>
     intro l h h0;have e:=pb h0;generalize hm:l.take (l.length-1)=m at e;have hml:m.length=n:=by rw[←hm,aau];omega
     generalize fw l=x at e;subst e;rw[Fl];split
     · next hq =>
       have:=ih m hml hq.1;exact⟨this.1,this.2.trans hq.2.symm⟩
     · exact⟨by rw[aar];show 0<_+1;omega,y3 _ _⟩
 intro l h;exact key l.length l J h
theorem W7 {w:List Int}:∀{i:Nat},i≤w.length→nL w i≤((gX w).length:Nat):=by
 intro i hi;unfold nL;have:gX w=gX (w.take i)++gX (w.drop i):=by
  unfold gX;rw[←abq,abn]
 rw[this,aar];omega
theorem I0 (w : List Int) : ∀ i, i ≤ w.length → ∃ t, tT (iQ w i) = e8 w i ++ t ∧ (t = [] ∨ (t = [(((gX w).length : Nat) : Int)] ∧ nL w i = ((gX w).length : Nat))) ∧ ∀ x ∈ e8 w i, x ≠ ((gX w).length : Nat)
 | 0,_=>⟨[],rfl,.inl rfl,fun x hx=>by cases hx⟩
 | i + 1, hi => by
   obtain⟨t,h1,h2,h3⟩:=I0 w i acK;generalize hT:(((gX w).length:Nat):Int)=T at *;have hle:=W7 (w:=w) (i:=i+1) hi;rw[hT] at hle;by_cases hx:w.getD i default=63
   · have hn := w6 (w := w) (i := i) acK hx
     by_cases h0:0<nL w i
     · have hC : iQ w (i + 1) = iQ w i ++ [nL w i] := by rw [iQ, if_pos ⟨hx, h0⟩]
       rw[hC,Fl,hn];have hz:(iQ w i).length=0→tT (iQ w i)=[]:=fun q=>by rw[aaD q];rfl
       by_cases hnT:nL w i=T
       · have hR : e8 w (i + 1) = e8 w i := qv hx (.inr (.inl (by rw [hT]; exact hnT)))
         rw[hR];rcases h2 with rfl|⟨rfl,_⟩
         · rw [aaP] at h1
           rw[if_neg,h1,hnT]
           · exact⟨[T],rfl,.inr ⟨rfl,rfl⟩,h3⟩
           · rintro ⟨q1, q2⟩
             have:=tU q1;have hm:fw (tT (iQ w i))∈tT (iQ w i):=by
               unfold fw;exact aM acK
             rw[this.2,←q2,h1] at hm;exact h3 _ hm hnT
         · have hp : 0 < (iQ w i).length := by
             rcases aby (iQ w i).length with q|q
             · rw[hz q] at h1;simp at h1
             · exact q
           have hl:=(tU hp).2;rw[h1,y3] at hl;rw[if_pos ⟨hp,by rw[hnT];exact hl⟩];exact⟨[T],h1,.inr ⟨rfl,hnT⟩,h3⟩
       · rcases h2 with rfl | ⟨_, h2⟩
         · rw [aaP] at h1
           by_cases hd:0<(iQ w i).length∧nL w i=fw (iQ w i)
           · have hl := tU hd.1
             rw[h1] at hl;have hR:e8 w (i+1)=e8 w i:=qv hx (.inr (.inr ⟨hl.1,hl.2.trans hd.2.symm⟩));rw[if_pos hd,hR];exact⟨[],by rw[h1,aaP],.inl J,h3⟩
           · have hR : e8 w (i + 1) = e8 w i ++ [nL w i] := by
               refine yV hx ?_;rintro(q|q|⟨q,q2⟩)
               · omega
               · rw[hT] at q;exact hnT q
               · rw [← h1] at q q2
                 have hp:0<(iQ w i).length:=by
                   rcases aby (iQ w i).length with z|z
                   · rw[hz z] at q;simp at q
                   · exact z
                 rw[(tU hp).2] at q2;exact hd ⟨hp,q2.symm⟩
             rw[if_neg hd,hR,h1];refine⟨[],by rw[aaP],.inl J,fun x hx=>?_⟩;rcases aaU.1 hx with hx|hx
             · exact h3 x hx
             · rw[aay.1 hx];exact hnT
         · exact absurd h2 hnT
     · have hC : iQ w (i + 1) = iQ w i := by rw [iQ, if_neg (fun q => h0 q.2)]
       have hge:0≤nL w i:=Int.natCast_nonneg _;have hR:e8 w (i+1)=e8 w i:=qv hx (.inl acK);rw[hC,hR,hn];exact⟨t,h1,h2,h3⟩
   · have hC : iQ w (i + 1) = iQ w i := by rw [iQ, if_neg (fun q => hx q.1)]
     have hn:=CM (w:=w) (i:=i) acK hx;rw[hC,CN hx];rcases h2 with rfl|⟨_,h2⟩
     · exact⟨[],h1,.inl J,h3⟩
     · omega
theorem Ua (w:List Int):rV ((gX w).length:Nat) (tT (iQ w w.length))=KO w:=by
 obtain⟨t,h1,h2,h3⟩:=I0 w w.length (aak _);have h4:rV ((gX w).length:Nat) (e8 w w.length)=e8 w w.length:=Bt fun⟨q,q2⟩=>h3 _ (by unfold fw;exact aM acK) q2
 rw[h1];rcases h2 with rfl|⟨rfl,_⟩
 ·rw[aaP];exact h4
 ·rw[sE,if_pos rfl];exact h4
theorem tV (w:List Int):∀i,(iQ w i).length≤i
 | 0=>aak _
 | i + 1 => by
   have:=tV w i;rw[iQ];split
   · rw[aar];show _+1≤_;omega
   · omega
theorem I1 {w:List Int}{i:Nat}(h:¬(w.getD i default=63∧0<nL w i)):iQ w (i+1)=iQ w i:=if_neg h
theorem Oy {w:List Int}{i:Nat}(h:w.getD i default=63)(h0:0<nL w i):iQ w (i+1)=iQ w i++[nL w i]:=if_pos ⟨h,h0⟩
def UA (g:aC)(cl cn:List UInt8)(w:List Int):List Int:=(lB (bT g cl w) (jy g cl cn)).1
def CV (g:aC)(cl cn:List UInt8)(w:List Int):List Int:=iI [(bP g cl cn).pre,UA g cl cn w,(bP g cl cn).suf]
def Df (g:aC)(cl cn:List UInt8)(w:List Int):Bool:=(lB (bT g cl w) (jy g cl cn)).2.2||decide (64<(CV g cl cn w).length)
def wP (g:aC)(cl cn:List UInt8)(w:List Int):List Int:=if Df g cl cn w=true then CV g cl cn w else(lB (CV g cl cn w) (ot g)).1
def Q3 (g:aC)(cl cn:List UInt8)(w:List Int):List (List UInt8):=if Df g cl cn w=true then(lB (bT g cl w) (jy g cl cn)).2.1 else(lB (bT g cl w) (jy g cl cn)).2.1++(lB (CV g cl cn w) (ot g)).2.1
def Q4 (g:aC)(cl cn:List UInt8)(w:List Int):Bool:=if Df g cl cn w=true then true else(lB (CV g cl cn w) (ot g)).2.2
variable {g:aC} {cl cn:List UInt8}{w:List Int}
theorem CW (h:Df g cl cn w=false):bw (bT g cl w) (jy g cl cn)=true∧CV g cl cn w=u3 g cl cn w∧¬64<(u3 g cl cn w).length∧(lB (bT g cl w) (jy g cl cn)).2.1=nK (bT g cl w) (jy g cl cn):=by
 unfold Df at h;rw[Bool.or_eq_false_iff,decide_eq_false_iff_not,tP,Bool.not_eq_false'] at h;have e:=n4 h.1;have ej:CV g cl cn w=u3 g cl cn w:=by unfold CV UA u3;rw[e]
 exact⟨h.1,ej,by rw[←ej];exact h.2,by rw[e]⟩
theorem Bu (hu:gY g cl cn=0)(hf:jd (bh g cl) w=true)(h:Q4 g cl cn w=true):dw g cl cn w=4:=by
 unfold Q4 at h;cases hj:Df g cl cn w with
 | true =>
   unfold Df at hj;cases hs:bw (bT g cl w) (jy g cl cn) with
   | false=>exact CR hu hf hs
   | true =>
     have e:=n4 hs;have ej:CV g cl cn w=u3 g cl cn w:=by unfold CV UA u3;rw[e]
     rw[tP,hs,ej,Bool.not_true,acA,decide_eq_true_eq] at hj;exact CS hu hf hj
 | false =>
   obtain⟨h1,h2,h3,h4⟩:=CW hj;rw[hj,if_neg acM,tP,h2,aa5] at h;exact CT hu hf h
theorem y4 (hu:gY g cl cn=0)(hf:jd (bh g cl) w=true)(h:Q4 g cl cn w=false):dw g cl cn w=0∧gj g cl cn w=⟨cn,gX (wP g cl cn w),KO (wP g cl cn w),Q3 g cl cn w⟩:=by
 unfold Q4 at h;cases hj:Df g cl cn w with
 | true=>rw[hj,if_pos rfl] at h;cases h
 | false =>
   obtain⟨h1,h2,h3,h4⟩:=CW hj;rw[hj,if_neg acM,tP,h2,Bool.not_eq_false'] at h;have e0:=IZ hu hf h1 h3 h;refine⟨e0,?_⟩;unfold gj wP Q3;rw[if_pos e0,hj,if_neg acM,if_neg acM,h4,h2,n4 h]
theorem Ub (h:Q4 g cl cn w=false):(wP g cl cn w).length≤192:=by
 unfold Q4 at h;cases hj:Df g cl cn w with
 | true=>rw[hj,if_pos rfl] at h;cases h
 | false =>
   obtain⟨h1,h2,h3,h4⟩:=CW hj;unfold wP;rw[hj,if_neg acM,h2];exact IV acK fun _=>acK
theorem CX:∀ {l:List aF}{w:List Int},(lB w l).2.1.length≤l.length
 | [],w=>aak _
 | r :: l, w => by
   have:=CX (l:=l) (w:=bp r w);rw[yQ,aam];split
   · show ((if _ then [] else [_]) ++ _).length ≤ _
     rw[aar];split<;>simp<;>omega
   · show (if _ then [] else [_] : List (List UInt8)).length ≤ _
     split<;>simp
variable {g:aC} {cl cn:List UInt8}{w:List Int}
theorem W8 (h:(lB (bT g cl w) (jy g cl cn)).2.2=true):Df g cl cn w=true:=by unfold Df;rw[h];rfl
theorem W9 (h:(lB (bT g cl w) (jy g cl cn)).2.2=false):Df g cl cn w=decide ((64:Int)<((CV g cl cn w).length:Nat)):=by unfold Df;rw[h,acA];exact decide_eq_decide.2 acK
theorem Uc (h:Df g cl cn w=true):wP g cl cn w=CV g cl cn w∧Q3 g cl cn w=(lB (bT g cl w) (jy g cl cn)).2.1∧Q4 g cl cn w=Df g cl cn w:=⟨if_pos h,if_pos h,(if_pos h).trans h.symm⟩
theorem Ud (h:Df g cl cn w=false):wP g cl cn w=(lB (CV g cl cn w) (ot g)).1∧Q3 g cl cn w=(lB (bT g cl w) (jy g cl cn)).2.1++(lB (CV g cl cn w) (ot g)).2.1∧Q4 g cl cn w=(lB (CV g cl cn w) (ot g)).2.2 :=
 ⟨if_neg (by rw[h];decide),if_neg (by rw[h];decide),if_neg (by rw[h];decide)⟩
theorem Q5 (g:aC)(cl cn:List UInt8)(w:List Int):(Q3 g cl cn w).length≤(jy g cl cn).length+(ot g).length:=by
 have h1:=CX (l:=jy g cl cn) (w:=bT g cl w);have h2:=CX (l:=ot g) (w:=CV g cl cn w);unfold Q3;split
 ·omega
 ·rw[aar];omega
theorem Q6 (hf:jd (bh g cl) w=true):(UA g cl cn w).length≤192:=by have:=qw hf;exact IV acK fun _=>acK
theorem Ue (h:Df g cl cn w=false):(CV g cl cn w).length≤64:=by obtain⟨_,h2,h3,_⟩:=CW h;rw[h2];omega
end Go.Wf
namespace Go.Proofs.YtlapahnodhmcpaaGreat
open Go.Am Go.Wb Go.Wc Go.Wf Go.We
variable{g:aC}{cl cn:List UInt8}
theorem Oz (hg:pF g)(hu:gY g cl cn=0):aU Tryz.prog 95 [cV g,ah cl,ah cn] (.p (.tup [.agg (CL (bh g cl) (bP g cl cn) (jy g cl cn) (ot g)),int 0])):=by have h:=Bs (cl:=cl) (cn:=cn) hg;rw[if_pos hu,hu] at h;exact h
theorem Q7 (hg:pF g)(hu:gY g cl cn≠0):aU Tryz.prog 95 [cV g,ah cl,ah cn] (.p (.tup [Sy,int (gY g cl cn)])):=by have h:=Bs (cl:=cl) (cn:=cn) hg;rw[if_neg hu] at h;exact h
variable{w:List Int}
theorem Fo {l:List aF}{acc:List (List UInt8)}{b:Bool}(hw:w.length≤64)(hl:l.length≤1048576)(hR:∀r∈l,QY r)(ha:acc.length≤1048576)(hb:b=false) :
  lz Tryz.prog 119 [vvw (ints w),vvz (.sl (l.map bn)),.pbox 1000000 0,.pbox 1000001 0]
   [(11,.arr 9 (acc.map ah)),(1000000,.box 64 [vvw (ah cn),vvv,vvv,.own 11]),(1000001,.box 4 [vvw (bool b)])]
   (vvw (ints (lB w l).1)) [(11,.arr 9 ((acc++(lB w l).2.1).map ah)),(1000000,.box 64 [vvw (ah cn),vvv,vvv,.own 11]),(1000001,.box 4 [vvw (bool (lB w l).2.2)])]:=by
 subst hb;exact yS hw hl hR ha
theorem Xa:BR Tryz.prog 81 Tryz.f81.ntmps 8 64 4 9 (Tryz.f81.body.getD .skip):=⟨Tryz.f81,Tryz.func81,rfl,rfl,rfl,acL,QB,GW⟩
abbrev Uf (g:aC)(cl cn:List UInt8)(w:List Int):Prop:=aU Tryz.prog 81 [cV g,ah cl,ints w,ah cn] (.p (.tup [fQ (gj g cl cn w),int (dw g cl cn w)]))
theorem Q8 (hg:pF g)(hu:gY g cl cn≠0):Uf g cl cn w:=by
 refine dn Xa (aah J) fun w0 M0 aa=>?_
 refine c4 [2,9] [2,3,8,21,22,23] [8] ?_;refine oN J J J J J (Q7 hg hu) ?_;refine wA [10] [2,3,8,10,11] [8,10] ?_;refine aI 134 [(2,_),(3,_),(8,_),(10,_),(11,_)] [(8,_)] aa J ⟨.inl J,.inl J,.inl J,.inr ⟨_,_,rfl,rfl,rfl⟩,.inl J,trivial⟩ ⟨rfl,trivial⟩ ?_;refine gz [2] [2,3,8,10,11,27] [8] ?_;refine oP J (bj (b':=true) (cZ J J J) (by simp[hu])) ?_;refine wA [5] [8,11] [8] ?_;refine oP J (au (aT J EI Cx J J J) J) ?_;refine wZ [7] ?_;refine bz J J ?_;rw[lg (oa hu) hu,oa hu];exact⟨rfl,rfl⟩
theorem OA (hg:pF g)(hw:w.length≤1099511627776)(hu:gY g cl cn=0):Uf g cl cn w:=by
 have hch:(jy g cl cn).length≤1000:=aaO kQ (jx hg cl cn).change;have hod:(ot g).length≤1000:=aaO kQ hg.order;have hn1:=CX (l:=jy g cl cn) (w:=bT g cl w);have hn2:=Q5 g cl cn w;have hpre:=(jx hg cl cn).pre;have hsuf:=(jx hg cl cn).suf;refine dn Xa (aah J) fun w0 M0 aa=>?_
 refine c4 [2,9] [2,3,8,21,22,23] [8] ?_;refine oN J J J J J (Oz hg hu) ?_;refine wA [10] [2,3,8,10,11] [8,10] ?_;refine aI 134 [(2,_),(3,_),(8,_),(10,_),(11,_)] [(8,_)] aa J ⟨.inl J,.inl J,.inl J,.inr ⟨_,_,rfl,rfl,rfl⟩,.inl J,trivial⟩ ⟨rfl,trivial⟩ ?_;refine gz [2] [2,3,8,10,11,27] [8] ?_;refine oP J (bj (b':=false) (cZ J J J) (by rfl)) ?_;refine wA [11] [2,3,8,10,32,33] [8] ?_;refine oC J J J J (KM (c:=(bh g cl)) hw (lq hg cl).fits (lq hg cl).sim) ?_;refine wS [3003] [2,3,8,10,35] [8] ?_ ?_<;>intro h1;refine wA [3] [8] [8] ?_;refine oP J (au (aT J EI Cx J J J) J) ?_;refine wZ [6] ?_;refine bz J J ?_;rotate_left;refine wA [19,4] [2,8,10,12,13,14] [8,12,13] ?_;refine bG 12 3 11 9 64 aa J J J J ?_;refine gz [0] [2,8,10,12,13,14] [8,11,12,13] ?_;refine dC [12] [[(8,.box 64 [vvw (.sc (.string ⟨#[]⟩)),vvv,vvv,vvv]),(11,.arr 9 []),(12,.box 64 [vvw (ah cn),vvv,vvv,.own 11]),(13,.box 4 [vvw (bool false)])],[(8,.box 64 [vvw (.sc (.string ⟨#[]⟩)),vvv,vvv,vvv]),(11,.arr 9 ((lB (bT g cl w) (jy g cl cn)).2.1.map ah)),(12,.box 64 [vvw (ah cn),vvv,vvv,.own 11]),(13,.box 4 [vvw (bool (lB (bT g cl w) (jy g cl cn)).2.2)])]] 13 [(0,[0])] [(40,.fn 119 [.bx 12,.bx 13]),(41,vvw (ints w)),(42,vvw (ints w)),(43,vvw (int w.length)),(44,vvw (.pc (CL (bh g cl) (bP g cl cn) (jy g cl cn) (ot g)) 0)),(45,vvw (.pc (CL (bh g cl) (bP g cl cn) (jy g cl cn) (ot g)) 4)),(46,vvw (int (bh g cl).strip)),(47,vvw (int ((w.length:Int)-(bh g cl).strip))),(48,vvw (ints (bT g cl w))),(49,vvw (ints (bT g cl w))),(50,vvw (.pc (CL (bh g cl) (bP g cl cn) (jy g cl cn) (ot g)) 10)),(51,vvw (.sl ((jy g cl cn).map bn))),(52,vvw (ints (UA g cl cn w))),(2,vvw (ints w)),(8,.pbox 8 0),(10,vvw (.pc (CL (bh g cl) (bP g cl cn) (jy g cl cn) (ot g)) 0)),(12,.pbox 12 0),(13,.pbox 13 0),(14,.fn 119 [.bx 12,.bx 13])] (ai (ai nH (trivial)) (ai bS (ai bS (ai bS (ai bS (ai bS (ai bS (ai (fun _=>(qJ J J J (by have:=tS (c:=bh g cl) (w:=w) acN;omega))) (ai (fun _=>(fi J Tryz.underlying22 wu J J (by have:=tS (c:=bh g cl) (w:=w) acN;omega) (fun _=>rfl))) (ai (fun _=>(bg J J J ((ak.weaken (fj (l:=bT g cl w) (by have:=qw (g:=g) (cl:=cl) (w:=w) acN;omega)))) aa)) (ai bS (ai bS trivial)))))))))))) (ai (fun X e7 dH c6=>have Y2:X.lookup 49=some (vvw (ints (bT g cl w))):=(c6 49 acM).trans rfl;have Y3:X.lookup 51=some (vvw (.sl ((jy g cl cn).map bn))):=(c6 51 acM).trans rfl;DV (t:=52) (o1:=[(8,.box 64 [vvw (.sc (.string ⟨#[]⟩)),vvv,vvv,vvv]),(11,.arr 9 []),(12,.box 64 [vvw (ah cn),vvv,vvv,.own 11]),(13,.box 4 [vvw (bool false)])]) [(11,11),(1000000,12),(1000001,13)] J J J e7 (cx:=.tmp 40) ((c6 40 acM).trans J) J (xs:=#[.tmp 49,.tmp 51]) (svs:=[vvw (ints (bT g cl w)),vvw (.sl ((jy g cl cn).map bn))]) (by simp only[Po,St.ev,Y2,Y3]) (yS (w:=(bT g cl w)) (l:=(jy g cl cn)) (acc:=[]) (cn:=cn) (by have:=qw (g:=g) (cl:=cl) (w:=w) acN;omega) acK (fun r hr=>hg.rules r (gV hr)) (aan _)) ⟨.inl J,.inr (.inl ⟨_,rfl,rfl⟩),.inl J,.inl J,trivial⟩ ⟨rfl,rfl,rfl,trivial⟩ J J J J J dH J J J aa) (trivial)) ?_;refine bM (n:=1) acL ?_;refine xe 13 ?_;refine bf acL ?_;refine iS [10] [8,10,12,13,14,55,56,59] [8,11,12,13] ?_;refine wZ [0,5000] ?_;refine oC rfl rfl rfl rfl (KN (l:=[(bP g cl cn).pre,(UA g cl cn w),(bP g cl cn).suf]) (aah rfl) (by intro x hx;have hsl:=Q6 (g:=g) (cl:=cl) (cn:=cn) (w:=w) acN;simp only[aaC,aca,or_false] at hx;rcases hx with rfl|rfl|rfl<;>omega)) ?_;refine wA [3] [8,10,12,13,14,16] [8,11,12,13] ?_;refine ct (fun zs=>zs=⟨134,[(8,.pbox 8 0),(12,.pbox 12 0),(13,.pbox 13 0),(16,vvw (ints (wP g cl cn w)))],[(8,.box 64 [vvw (.sc (.string ⟨#[]⟩)),vvv,vvv,vvv]),(11,.arr 9 ((Q3 g cl cn w).map ah)),(12,.box 64 [vvw (ah cn),vvv,vvv,.own 11]),(13,.box 4 [vvw (bool (Q4 g cl cn w))])]⟩) ?_ ?_;refine ct (fun zs=>zs=⟨134,[(8,.pbox 8 0),(10,vvw (.pc (CL (bh g cl) (bP g cl cn) (jy g cl cn) (ot g)) 0)),(12,.pbox 12 0),(13,.pbox 13 0),(14,.fn 119 [.bx 12,.bx 13]),(16,vvw (ints (CV g cl cn w)))],[(8,.box 64 [vvw (.sc (.string ⟨#[]⟩)),vvv,vvv,vvv]),(11,.arr 9 ((lB (bT g cl w) (jy g cl cn)).2.1.map ah)),(12,.box 64 [vvw (ah cn),vvv,vvv,.own 11]),(13,.box 4 [vvw (bool (Df g cl cn w))])]⟩) ?_ ?_;refine wS [4003] [8,10,12,13,14,16,63] [8,11,12,13] ?_ ?_<;>intro h2';refine wA [10006] [8,10,12,13,14,16] [8,11,12,13] ?_;rotate_left;refine wA [1,10004] [8,10,12,13,14,16] [8,11,12,13] ?_;rotate_left;rintro zs ⟨rfl⟩;refine wS [3006] [8,10,12,13,14,16,69] [8,11,12,13] ?_ ?_<;>intro h3;refine wA [6] [8,12,13,70,71,73] [8,11,12,13] ?_;refine oS J (aP [(11,11),(1000000,12),(1000001,13)] J J J J J J J (Fo (w:=(CV g cl cn w)) (l:=(ot g)) (acc:=(lB (bT g cl w) (jy g cl cn)).2.1) (cn:=cn) (Ue acN) acK (fun r hr=>hg.rules r (gV hr)) acK acN) ⟨.inl J,.inr (.inl ⟨_,rfl,rfl⟩),.inl J,.inl J,trivial⟩ ⟨rfl,rfl,rfl,trivial⟩ J J J J J aa) J ?_;refine wA [10002] [8,12,13,16] [8,11,12,13] ?_;rotate_left;refine wA [10002] [8,12,13,16] [8,11,12,13] ?_;rotate_left;rintro zs ⟨rfl⟩;refine wS [3006] [8,12,16,75] [8,11,12] ?_ ?_<;>intro h4;refine wA [3] [8] [8] ?_;refine oP J (au (aT J EI Cx J J J) J) ?_;refine wZ [6] ?_;refine bz J J ?_;rotate_left;refine wA [5] [8,12,16] [8,11,12] ?_;refine bG 12 1 31 3 64 aa J J J J ?_;refine bG 12 2 32 3 64 aa J J J J ?_;refine gz [2,4] [8,12,77,78,79] [8,11,12,31,32] ?_;have hwl:=Ub (g:=g) (cl:=cl) (cn:=cn) (w:=w) acN;refine lr (fun zl zo zm zs=>∃i:Nat,zm=(wP g cl cn w).length-i∧(i≤(wP g cl cn w).length)∧zs=eJ 134 [(77,vvw (ints (wP g cl cn w))),(78,vvw (int (wP g cl cn w).length)),(79,vvw (int i))] zl [(11,.arr 9 ((Q3 g cl cn w).map ah)),(12,.box 64 [vvw (ah cn),.own 31,.own 32,.own 11]),(31,.arr 3 ((gX ((wP g cl cn w).take i)).map int)),(32,.arr 3 ((iQ (wP g cl cn w) i).map int))] zo) ?_ ?_;exact⟨_,0,rfl,aan _,rfl⟩;rintro zm zs ⟨i,rfl,aY,rfl⟩;have hc:=tV (wP g cl cn w) i;have hl:=tN ((wP g cl cn w).take i);have hl2:((wP g cl cn w).take i).length=i:=by rw[aau];omega
 refine wS [3006] [8,12,77,78,79,80] [8,11,12,31,32] ?_ ?_<;>intro h5;refine wS [7,3010] [8,12,18,77,78,79,84] [8,11,12,31,32] ?_ ?_<;>intro h6;refine wA [5,1000,6,9002] [8,12,77,78,79] [8,11,12,31,32] ?_;rotate_left;refine wS [5,3009] [8,12,19,77,78,79,95] [8,11,12,31,32] ?_ ?_<;>intro h7;refine wA [5,1000,6,9002] [8,12,77,78,79] [8,11,12,31,32] ?_;rotate_left;refine wA [5,9002] [8,12,77,78,79] [8,11,12,31,32] ?_;rotate_left;refine wA [7] [8,12] [8,11,12,31,32] ?_;obtain rfl:i=(wP g cl cn w).length:=acK;rw[abj];refine wA [3] [8,12,104] [8,11,12,31,32] ?_;refine oS J (aP [(0,32)] J J J J J J J (o7 (l:=iQ (wP g cl cn w) (wP g cl cn w).length) (by have:=tV (wP g cl cn w) (wP g cl cn w).length;omega)) ⟨.inl J,trivial⟩ ⟨rfl,trivial⟩ J J J J J aa) J ?_;refine wA [6] [8,12] [8,11,12,31,32] ?_;refine lr (fun zl zo zm zs=>∃c:List Int,zm=c.length∧(c.length≤192)∧(rV ((gX (wP g cl cn w)).length:Nat) c=rV ((gX (wP g cl cn w)).length:Nat) (tT (iQ (wP g cl cn w) (wP g cl cn w).length)))∧zs=eJ 134 [] zl [(11,.arr 9 ((Q3 g cl cn w).map ah)),(12,.box 64 [vvw (ah cn),.own 31,.own 32,.own 11]),(31,.arr 3 ((gX (wP g cl cn w)).map int)),(32,.arr 3 (c.map int))] zo) ?_ ?_;exact⟨_,tT (iQ (wP g cl cn w) (wP g cl cn w).length),rfl,aaO (D3 _) (aaO (tV _ _) hwl),rfl,rfl⟩;rintro zm zs ⟨c,rfl,fu,gi,rfl⟩;have hlc:=Fc (l:=c);refine wS [2002,6002,7002] [8,12,111] [8,11,12,31,32] ?_ ?_<;>intro h8';refine wS [6004,6000,6000,6000,6002,3004] [8,12,124] [8,11,12,31,32] ?_ ?_<;>intro h9;refine wA [9,0,0] [8,12,126,130] [8,11,12,31,32] ?_;refine oP J (ib J Tryz.underlying22 wu J J J (by first|(simp only[ll];omega)|omega)) ?_;refine pN 131 J J aa J ?_;refine Xw [9004] [8,12] [8,11,12,31,32] ?_;refine⟨_,⟨c.take (c.length-1),rfl,by rw[aau];omega,(Hs acK acK).trans gi,?_⟩,by rw[aau];omega⟩;rw[List.map_take,show c.length-1=((c.length:Int)-1).toNat by omega];rfl;refine wA [7] [8,12] [8,11,12,31,32] ?_;refine aI 134 [(8,_),(12,_)] [(8,_)] aa J ⟨.inl J,.inr ⟨_,_,rfl,rfl,rfl⟩,trivial⟩ ⟨rfl,trivial⟩ ?_;refine xP [7] ?_;refine bz J J ?_;rotate_left;refine wA [22] [8,12] [8,11,12,31,32] ?_;refine aI 134 [(8,_),(12,_)] [(8,_)] aa J ⟨.inl J,.inr ⟨_,_,rfl,rfl,rfl⟩,trivial⟩ ⟨rfl,trivial⟩ ?_;refine xP [7] ?_;refine bz J J ?_;rotate_left
 all_goals first
  | (
    first
      | (rw[lg (tR hu acN) acM,tR hu acN];exact⟨rfl,rfl⟩)
      | (rw[lg (Bu hu acN acN) acM,Bu hu acN acN];exact⟨rfl,rfl⟩)
      | (rw[(y4 hu acN acN).2,(y4 hu acN acN).1,←Ua,←gi,Bt acK];exact⟨rfl,rfl⟩);done)
  | (
    first|(rw[W8 acN];rfl)|(rw[W9 acN];rfl);done)
  | (
    first|(rw[(Uc acN).1,(Uc acN).2.1,(Uc acN).2.2];first|done|rfl)|(rw[(Ud acN).1,(Ud acN).2.1,(Ud acN).2.2];first|done|rfl);done)
  | (
    refine⟨_,⟨i+1,rfl,acK,?_⟩,acK⟩
    first
      | (rw[lZ acK,if_neg acK,I1 (fun q=>absurd q.1 acK),aas];rfl)
      | (rw[lZ acK,if_pos acK,aaP,Oy acK (by unfold nL;omega),aas];rfl)
      | (rw[lZ acK,if_pos acK,aaP,I1 (fun q=>absurd q.2 (by unfold nL;omega))];rfl);done)
theorem KR (hg:pF g)(hw:w.length≤1099511627776):Uf g cl cn w:=by
 by_cases hu:gY g cl cn=0
 ·exact OA hg hw hu
 ·exact Q8 hg hu
end Go.Proofs.YtlapahnodhmcpaaGreat
namespace Go.Wf
open Go.Am Go.Wb Go.Wc
def u4 (g:aC)(cl:List UInt8)(w:List Int):List gU→Int
 | []=>0
 | c :: l=>if dw g cl c.name w≠0 then dw g cl c.name w else u4 g cl w l
def cW (g:aC)(cl:List UInt8)(w:List Int):Int:=if(fR g cl).isSome=true then u4 g cl w (bh g cl).cells else 6
def fl (g:aC)(cl:List UInt8)(w:List Int):List aK:=if cW g cl w=0 then(bh g cl).cells.map fun c=>gj g cl c.name w else[]
variable {g:aC} {cl:List UInt8}{w:List Int}
theorem y5:∀ {l:List gU}{i:Nat},i<l.length→(∀j,j<i→decide (dw g cl (l.getD j default).name w=0)=true)→dw g cl (l.getD i default).name w≠0→u4 g cl w l=dw g cl (l.getD i default).name w
 | [],i,h,_,_=>absurd h (acE i)
 | c :: l,0,_,_,hn=>if_pos hn
 | c :: l, i + 1, h, hz, hn => by
   have h0:dw g cl c.name w=0:=of_decide_eq_true (hz 0 acK);unfold u4;rw[if_neg (fun q=>q h0)];exact y5 (l:=l) (i:=i) (by simpa using h) (fun j hj=>hz (j+1) acK) hn
theorem y6:∀ {l:List gU},(∀j,j<l.length→decide (dw g cl (l.getD j default).name w=0)=true)→u4 g cl w l=0
 | [],_=>rfl
 | c :: l, h => by
   have h0:dw g cl c.name w=0:=of_decide_eq_true (h 0 (by simp));unfold u4;rw[if_neg (fun q=>q h0)];exact y6 (l:=l) fun j hj=>h (j+1) (by simpa using hj)
theorem nm (h:(fR g cl).isSome=false):cW g cl w=6∧fl g cl w=[]:=by have e:cW g cl w=6:=if_neg (by rw[h];decide);exact⟨e,by unfold fl;rw[if_neg (by rw[e];decide)]⟩
variable{i:Nat}
theorem pd (h:(fR g cl).isSome=true)(hi:i<(bh g cl).cells.length)(hz:∀j,j<i→decide (dw g cl ((bh g cl).cells.getD j default).name w=0)=true)(hn:dw g cl ((bh g cl).cells.getD i default).name w≠0) :
  cW g cl w=dw g cl ((bh g cl).cells.getD i default).name w∧fl g cl w=[]:=by
 have e:cW g cl w=dw g cl ((bh g cl).cells.getD i default).name w:=(if_pos h).trans (y5 hi hz hn);exact⟨e,by unfold fl;rw[if_neg (by rw[e];exact hn)]⟩
theorem pe (h:(fR g cl).isSome=true)(hi:(bh g cl).cells.length≤i)(hz:∀j,j<i→decide (dw g cl ((bh g cl).cells.getD j default).name w=0)=true) :
  cW g cl w=0∧fl g cl w=((bh g cl).cells.take i).map fun c=>gj g cl c.name w:=by
 have e:cW g cl w=0:=(if_pos h).trans (y6 fun j hj=>hz j acK);exact⟨e,by unfold fl;rw[if_pos e,aaB hi]⟩
def Fp (x:Int):Bool:=decide (0≤x)&&decide (x<64)
def Fq:List UInt8:=[110,111,110,101]
def qz (w:List Int):List UInt8:=if w.all Fp=true then w.map fun n=>UInt8.ofNat n.toNat else Fq
theorem Xb {x:Int}(h:¬x<0∧¬64≤x):IntKind.u8.wrap x=x:=by
 have:IntKind.u8.wrap x=x % 256:=by
  simp only[IntKind.wrap,IntKind.bits,IntKind.signed]
  first|rfl|(simp;omega)|omega
 rw[this];omega
theorem Ug {w:List Int}(hi:i<w.length)(h:Fp (w.getD i default)=false):qz w=Fq:=by unfold qz;rw[Bc hi h];rfl
theorem Q9 {w:List Int}(hi:w.length≤i)(h:∀j,j<i→Fp (w.getD j default)=true):qz w=(w.take i).map fun n=>UInt8.ofNat n.toNat:=by unfold qz;rw[uZ fun j hj=>h j acK,if_pos rfl,aaB hi]
end Go.Wf
namespace Go.Proofs.YtlapahnodhmcpaaGreat
open Go.Am Go.Wb Go.Wc Go.Wf Go.We
variable{g:aC}{cl:List UInt8}
theorem CY (hl:g.classes.length≤1099511627776):aU Tryz.prog 80 [cV g,ah cl] (.p (.tup [bL (bh g cl),bool (fR g cl).isSome])):=yL hl
theorem Y4:F7 Tryz.prog 47 Tryz.f47.ntmps 6 7 (Tryz.f47.body.getD .skip):=⟨Tryz.f47,Tryz.func47,rfl,rfl,rfl,acL⟩
variable{w:List Int}
theorem Ht (hg:pF g)(hw:w.length≤1099511627776):aU Tryz.prog 47 [cV g,ah cl,ints w] (.p (.tup [bU (fl g cl w),int (cW g cl w)])):=by
 have hcl:=(lq hg cl).cells;refine eD Y4 (aah J) fun w0 M0 aa=>?_
 refine c4 [2,8] [1,2,3,16,17] [] ?_;refine oN J J J J J (CY (by have:=hg.nclasses;omega)) ?_;refine wS [3015] [1,2,3,8,22] [8] ?_ ?_<;>intro h1;refine wZ [9] ?_;refine cu J J ?_;rotate_left;refine wA [1005,4] [1,2,3,8,10] [8,10] ?_;refine aI 48 [(1,_),(2,_),(3,_),(8,_),(10,_)] [(10,_)] aa J ⟨.inl J,.inl J,.inl J,.inr ⟨_,_,rfl,rfl,rfl⟩,.inl J,trivial⟩ ⟨rfl,trivial⟩ ?_;refine gz [3,4] [1,2,3,10,24,25,26] [10] ?_;refine lr (fun zl zo zm zs=>∃i:Nat,zm=(bh g cl).cells.length-i∧(i≤(bh g cl).cells.length)∧(∀j,j<i→decide (dw g cl ((bh g cl).cells.getD j default).name w=0)=true)∧zs=eJ 48 [(10,.own 10),(26,vvw (int i))] zl [(10,.arr 64 ((((bh g cl).cells.take i).map fun c=>gj g cl c.name w).map fQ))] zo) ?_ ?_;exact⟨_,0,rfl,aan _,fun j hj=>absurd hj acK,rfl⟩;rintro zm zs ⟨i,rfl,aY,aq,rfl⟩;have hlr:(((bh g cl).cells.take i).map fun c=>gj g cl c.name w).length=i:=by rw[aai,aau];omega
 refine wS [3006] [1,2,3,10,24,25,26,27] [10] ?_ ?_<;>intro h2;refine wA [7,12] [1,2,3,10,24,25,26,31,32,33,35] [10] ?_;refine oN J J J J J (KR (cn:=((bh g cl).cells.getD i default).name) hg hw) ?_;refine wS [3015] [1,2,3,10,13,14,24,25,26,40] [10,13] ?_ ?_<;>intro h3;refine wZ [15] ?_;refine cu J J ?_;rotate_left;refine wA [6,1000,5,9002] [1,2,3,10,24,25,26] [10] ?_;exact⟨_,⟨i+1,rfl,acK,fP aq (decide_eq_true acK),by rw[take_succ acK,aas,aas];rfl⟩,acK⟩;refine wZ [14] ?_;refine cu J J ?_;rotate_left
 all_goals
  first
   | (rw[(nm acN).1,(nm acN).2];exact⟨rfl,rfl⟩)
   | (rw[(pd (i:=i) acN acK aq acN).1,(pd (i:=i) acN acK aq acN).2];exact⟨rfl,rfl⟩)
   | (rw[(pe (i:=i) acN acK aq).1,(pe (i:=i) acN acK aq).2];exact⟨rfl,rfl⟩)
theorem Y5:F7 Tryz.prog 46 Tryz.f46.ntmps 6 7 (Tryz.f46.body.getD .skip):=⟨Tryz.f46,Tryz.func46,rfl,rfl,rfl,acL⟩
theorem Fs (hg:pF g)(hw:w.length≤1099511627776):aU Tryz.prog 46 [cV g,ah cl,ints w] (.p (.tup [bU (fl g cl w),int (cW g cl w)])):=by
 have hcl:=(lq hg cl).cells;refine eD Y5 (aah J) fun w0 M0 aa=>?_
 refine c4 [2,8] [1,2,3,15,16] [] ?_;refine oN J J J J J (pa (by have:=hg.nclasses;omega)) ?_;refine wS [3015] [1,2,3,8,21] [8] ?_ ?_<;>intro h1;refine wZ [9] ?_;refine cu J J ?_;rotate_left;refine wA [4] [1,2,3,8] [8] ?_;refine aI 50 [(1,_),(2,_),(3,_),(8,_)] [] aa J ⟨.inl J,.inl J,.inl J,.inr ⟨_,_,rfl,rfl,rfl⟩,trivial⟩ trivial ?_;refine gz [1001,9] [1,2,3,8,10,11] [10] ?_;refine lr (fun zl zo zm zs=>∃i:Nat,zm=(bh g cl).cells.length-i∧(i≤(bh g cl).cells.length)∧(∀j,j<i→decide (dw g cl ((bh g cl).cells.getD j default).name w=0)=true)∧zs=eJ 50 [(10,.own 10),(11,vvw (int i))] zl [(10,.arr 64 ((((bh g cl).cells.take i).map fun c=>gj g cl c.name w).map fQ))] zo) ?_ ?_;exact⟨_,0,rfl,aan _,fun j hj=>absurd hj acK,rfl⟩;rintro zm zs ⟨i,rfl,aY,aq,rfl⟩;have hlr:(((bh g cl).cells.take i).map fun c=>gj g cl c.name w).length=i:=by rw[aai,aau];omega
 refine wS [6,3003] [1,2,3,8,10,11,26] [10] ?_ ?_<;>intro h2;refine wA [6] [1,2,3,8,10,11] [10] ?_;refine dC [13,14] [[(10,.arr 64 ((((bh g cl).cells.take i).map fun c=>gj g cl c.name w).map fQ))],[(10,.arr 64 ((((bh g cl).cells.take i).map fun c=>gj g cl c.name w).map fQ)),(12,.box 64 [vvw (.sc (.string ⟨#[]⟩)),vvv,vvv,vvv])],[(10,.arr 64 ((((bh g cl).cells.take i).map fun c=>gj g cl c.name w).map fQ)),(12,.box 64 [vvw (ah (gj g cl ((bh g cl).cells.getD i default).name w).cell),vvw (ints (gj g cl ((bh g cl).cells.getD i default).name w).af),vvw (ints (gj g cl ((bh g cl).cells.getD i default).name w).cuts),vvw (strs (gj g cl ((bh g cl).cells.getD i default).name w).rules)])]] 16 [] [(30,vvw (cV g)),(31,vvw (ah cl)),(32,vvw (ints w)),(33,vvw (.pc (o6 (bh g cl)) 5)),(34,vvw (.sl ((bh g cl).cells.map dD))),(35,vvw (int i)),(36,vvw (.pc (EO ((bh g cl).cells.getD i default)) 0)),(37,vvw (.pc (EO ((bh g cl).cells.getD i default)) 0)),(38,vvw (ah ((bh g cl).cells.getD i default).name)),(39,vvw (.tup [fQ (gj g cl ((bh g cl).cells.getD i default).name w),int (dw g cl ((bh g cl).cells.getD i default).name w)])),(29,vvw (.tup [fQ (gj g cl ((bh g cl).cells.getD i default).name w),int (dw g cl ((bh g cl).cells.getD i default).name w)])),(40,vvw (fQ (gj g cl ((bh g cl).cells.getD i default).name w))),(41,vvw (int (dw g cl ((bh g cl).cells.getD i default).name w))),(12,.pbox 12 0),(13,vvw (int (dw g cl ((bh g cl).cells.getD i default).name w))),(1,vvw (ah cl)),(2,vvw (ints w)),(3,vvw (kn g)),(8,vvw (N9 (bh g cl))),(10,.own 10),(11,vvw (int i))] (ai (fun _=>(au (aG J lO jN J (aah J)) J)) (ai bS (ai bS (ai bS (ai bS (ai bS (ai (fun _=>(gF (f:=dD) (l:=(bh g cl).cells) (i:=i) (z:=(bh g cl).cells.getD i default) J J Tryz.underlying95 Iw J J acK (fun _=>rfl))) (ai bS (ai bS (ai (fun _=>(bC J J J J (Hr (cn:=((bh g cl).cells.getD i default).name) hg hw) aa)) (ai bS (ai bS (ai bS (ai bS trivial)))))))))))))) (ai (fun X e7 dH c6=>gh (t:=12) J J J J e7 Cx J J (fun t' z h hne=>eT (by rfl) (dH t' z h) hne) J aa) (ai (fun X e7 dH c6=>b8 J (b7 (u:=12) (v:=40) (id:=12) J J e7 GW ((c6 12 acM).trans J) J ((c6 40 acM).trans J) J acM J J (fun t' z h=>cD (by rfl) (dH t' z h)) J aa)) (trivial))) ?_;refine bM (n:=0) acL ?_;refine bf acL ?_;refine iS [8] [1,2,3,8,10,11,12,13,43] [10,12] ?_;refine ZV 43 J ?_ ?_<;>intro h3<;>try simp only[dq] at h3
 refine wZ [15] ?_;refine cu J J ?_;rotate_left;refine wA [6,1000,6,9002] [1,2,3,8,10,11] [10] ?_;exact⟨_,⟨i+1,rfl,acK,fP aq (decide_eq_true acK),by rw[take_succ acK,aas,aas];rfl⟩,acK⟩;refine wZ [14] ?_;refine cu J J ?_;rotate_left
 all_goals
  first
   | (rw[(nm acN).1,(nm acN).2];exact⟨rfl,rfl⟩)
   | (rw[(pd (i:=i) acN acK aq acN).1,(pd (i:=i) acN acK aq acN).2];exact⟨rfl,rfl⟩)
   | (rw[(pe (i:=i) acN acK aq).1,(pe (i:=i) acN acK aq).2];exact⟨rfl,rfl⟩)
abbrev Y6:=dF 2 Tryz.func50
theorem u5 (hw:w.length≤1099511627776):ak Tryz.prog 50 [ints w] (.p (ah (qz w))):=by
 refine cF Y6 fun w0 M0 aa=>?_
 refine c4 [8,0,0] [0,8] [] ?_;refine oS J (Gp J J J J Tryz.underlying149 el5 J J (by first|(simp only[ll];omega)|omega) (by first|(simp only[ll];omega)|omega) (by first|(simp only[ll];omega)|omega) aa) J ?_;refine wA [7,4] [3,10,11,12] [9] ?_;refine lr (fun zl zo zm zs=>∃i:Nat,zm=w.length-i∧(i≤w.length)∧(∀j,j<i→Fp (w.getD j default)=true)∧zs=eJ 30 [(12,vvw (int i))] zl [(9,.arr 5 ((w.take i).map HT))] zo) ?_ ?_;exact⟨_,0,rfl,aan _,fun j hj=>absurd hj acK,rfl⟩;rintro zm zs ⟨i,rfl,aY,aq,rfl⟩;have hlr:(w.take i).length=i:=by rw[aau];omega
 refine wS [3006] [3,10,11,12,13] [9] ?_ ?_<;>intro h1;refine wS [7,4010] [3,5,10,11,12,18] [9] ?_ ?_<;>intro h2';refine wZ [8018] ?_;rotate_left;refine wS [3005] [3,5,10,11,12,21] [9] ?_ ?_<;>intro h3;refine wZ [8013] ?_;rotate_left;refine wA [6] [10,11,12,22,23] [9] ?_;refine oP J (du (a':=(w.getD i default)) (nC J Tryz.underlying3 Tryz.underlying5 J) (by exact Xb acK)) ?_;refine wA [0,1000,5,9002] [3,10,11,12] [9] ?_;exact⟨_,⟨i+1,rfl,acK,fP aq (by unfold Fp;rw[decide_eq_true acK,decide_eq_true acK];rfl),by rw[take_succ acK,aas];rfl⟩,acK⟩;refine wA [9] [28] [9] ?_;refine oP J (Gb J Tryz.underlying149 Tryz.underlying5 Tryz.underlying9 J) ?_;refine wZ [8004] ?_;rotate_left
 all_goals
  first|(rw[Ug (i:=i) acK (by unfold Fp;first|(rw[decide_eq_false acK];rfl)|(rw[decide_eq_false (p:=w.getD i default<64) acK,abG]))];rfl)|(rw[Q9 (i:=i) acK aq])
abbrev Uh:=dF 2 Tryz.func83
theorem y7 {c:Nat}:ak Tryz.prog 83 [.sc (.slice none 0 c)] (.fresh 9 []):=by
 refine cF Uh fun w0 M0 aa=>?_
 refine c4 [1002,6] [0,3] [] ?_;refine oP J (qO J Tryz.underlying27 J J) ?_;refine wZ [1005,8004] ?_;rfl
theorem Ft {a:Addr}{c:Nat}:ak Tryz.prog 83 [.sc (.slice (some a) 0 c)] (.fresh 9 []):=by
 refine cF Uh fun w0 M0 aa=>?_
 refine c4 [1002,6] [0,3] [] ?_;refine oP J (qO J Tryz.underlying27 J J) ?_;refine wA [1007,1] [5,6] [5] ?_;refine oS J (step_append J J J J Tryz.underlying27 XC J J aa (HU J) acM acM) J ?_;refine wZ [8004] ?_;rfl
theorem Fu {l:List (List UInt8)}(hl:l.length≤1048576)(h0:0<l.length):ak Tryz.prog 83 [strs l] (.fresh 9 (l.map ah)):=by
 refine cF Uh fun w0 M0 aa=>?_
 refine c4 [1002,6] [0,3] [] ?_;refine oP J (s6 J Tryz.underlying27 J J (by simp only[aai];exact h0)) ?_;refine wA [1007,1] [5,6] [5] ?_;refine oS J (step_append J J J J Tryz.underlying27 XC J J aa (s4 J (fun _=>⟨_,rfl⟩)) (by simp only[aai,aat];omega) (by simp only[aai,aat];omega)) J ?_;refine wZ [8004] ?_;rfl
theorem Fv {l:List (List UInt8)}(hl:l.length≤1048576):ak Tryz.prog 83 [strs l] (.fresh 9 (l.map ah)):=by
 rcases aby l.length with h|h
 · have hl0 : l = [] := aaD h
   subst hl0;refine⟨(y7 (c:=0)).1,fun w vs hv hr=>?_⟩
   match vs,hv with
   | [v], _ =>
     have h0:=hr 0 _ rfl;simp only[List.getD_cons_zero] at h0;generalize hq:strs []=q at h0;cases h0 with
     | sl a n cap xs k cv hn hc hk hb hl2 hr2 =>
       simp only[strs,abu,AV.sl.injEq] at hq;subst hq;simp only[aat] at hn;subst hn;have one:∀z:Value,z.oneCell'=true→∀(j:Nat) d,[AV.sc z][j]?=some d→bJ w (fun _=>False) ([z].getD j undef) d:=fun z hz j d hd=>by
         match j with
         | 0=>simp at hd;subst hd;exact .sc _ hz
         | j+1=>simp at hd
       cases a with
       | none=>exact(y7 (c:=cap)).2 w [.slice none 0 cap] rfl (one _ rfl)
       | some ad=>exact(Ft (a:=ad) (c:=cap)).2 w [.slice (some ad) 0 cap] rfl (one _ rfl)
     | _=>cases hq
 · exact Fu hl h
theorem Y7:um Tryz.prog 51 Tryz.f51.ntmps 2 64 4 (Tryz.f51.body.getD .skip):=⟨Tryz.f51,Tryz.func51,rfl,rfl,rfl,acL,QB,GW⟩
theorem Fw {f:aK}(hf:zx f):aU Tryz.prog 51 [fQ f] (.p (fQ f)):=by
 have hf1:=hf.af;have hf2:=hf.cuts;have hf3:=hf.rules;refine bk Y7 (aah J) fun w0 M0 aa=>?_
 refine c4 [1002,4] [1,2] [1,2] ?_;refine dC [10,12,14] [[(1,.box 64 [vvw (ah f.cell),vvw (ints f.af),vvw (ints f.cuts),vvw (strs f.rules)]),(2,.box 64 [vvw (.sc (.string ⟨#[]⟩)),vvv,vvv,vvv])],[(1,.box 64 [vvw (ah f.cell),vvw (ints f.af),vvw (ints f.cuts),vvw (strs f.rules)]),(2,.box 64 [vvw (.sc (.string ⟨#[]⟩)),vvv,vvv,vvv])],[(1,.box 64 [vvw (ah f.cell),vvw (ints f.af),vvw (ints f.cuts),vvw (strs f.rules)]),(2,.box 64 [vvw (.sc (.string ⟨#[]⟩)),vvv,vvv,vvv])],[(1,.box 64 [vvw (ah f.cell),vvw (ints f.af),vvw (ints f.cuts),vvw (strs f.rules)]),(2,.box 64 [vvw (.sc (.string ⟨#[]⟩)),vvv,vvv,vvv])]] 15 [(0,[0]),(1,[0]),(3,[0]),(4,[0]),(6,[0]),(7,[0]),(9,[0]),(11,[1]),(13,[2])] [(3,.pbox 1 1),(4,vvw (ints f.af)),(5,vvw (ints f.af)),(6,.pbox 1 2),(7,vvw (ints f.cuts)),(8,vvw (ints f.cuts)),(9,.pbox 1 3),(10,vvw (strs f.rules)),(11,vvw (strs f.rules)),(12,.pbox 1 1),(13,.pbox 1 2),(14,.pbox 1 3),(1,.pbox 1 0),(2,.pbox 2 0)] (ai (ai nH (trivial)) (ai (ai (ae J Kl J J J) (trivial)) (ai (fun _=>(bg J J J ((ak.weaken (fj (l:=f.af) acK))) aa)) (ai (ai nH (trivial)) (ai (ai (ae J Kl J J J) (trivial)) (ai (fun _=>(bg J J J ((ak.weaken (fj (l:=f.cuts) acK))) aa)) (ai (ai nH (trivial)) (ai (ai (ae J Yn J J J) (trivial)) (ai (fun _=>(bg J J J ((ak.weaken (Fv (l:=f.rules) acK))) aa)) (ai (ai nH (trivial)) (ai (ai nH (trivial)) (ai (ai nH (trivial)) trivial)))))))))))) (ai (fun X e7 dH c6=>b8 J (b7 (u:=12) (v:=5) (id:=1) J J e7 Cw ((c6 12 acM).trans J) J ((c6 5 acM).trans J) J acM J J (fun t' z h=>cD (by rfl) (dH t' z h)) J aa)) (ai (fun X e7 dH c6=>b8 J (b7 (u:=13) (v:=8) (id:=1) J J e7 Cw ((c6 13 acM).trans J) J ((c6 8 acM).trans J) J acM J J (fun t' z h=>cD (by rfl) (dH t' z h)) J aa)) (ai (fun X e7 dH c6=>b8 J (b7 (u:=14) (v:=11) (id:=1) J J e7 Vi ((c6 14 acM).trans J) J ((c6 11 acM).trans J) J acM J J (fun t' z h=>cD (by rfl) (dH t' z h)) J aa)) (trivial)))) ?_;refine bM (n:=0) acL ?_;refine bf acL ?_;refine Db [8] ?_;refine aA J ?_;rfl
end Go.Proofs.YtlapahnodhmcpaaGreat
