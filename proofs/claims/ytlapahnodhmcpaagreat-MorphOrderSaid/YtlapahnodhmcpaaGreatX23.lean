/-
  Part of the proof.
-/
import Derived.Test.YtlapahnodhmcpaaGreatX19
set_option linter.unusedVariables false
set_option linter.unusedSectionVars false
set_option linter.unusedSimpArgs false
set_option maxRecDepth 100000
set_option maxHeartbeats 40000000
namespace Go.Wf
open Go.Am Go.Wb Go.Wc
variable {F:List (List aI)}{w:List Int}
def z8 (w:List Int)(a:Nat)(r:List aI):List jj:=(r.filter fun x=>decide (x.af=w)).map fun x=>⟨(a:Nat),x⟩
theorem Lt (r:List aI):(List.range r.length).map (fun b=>r.getD b default)=r:=by
 apply ac0
 ·simp
 ·intro i h1 h2;rw[aco,ac5,cU h2]
theorem ue (F:List (List aI))(w:List Int):eQ F w=(List.range F.length).flatMap fun a=>z8 w a (F.getD a default):=by
 unfold eQ lk aQ;rw[List.range_zero,abW,abe,List.filter_flatMap,List.map_flatMap]
 congr 1;funext a
 unfold z8;rw[List.filter_map,acu]
 conv=>rhs;rw[←Lt (F.getD a default),List.filter_map,acu]
 rfl
theorem Gc {z:List Int}:z∈dM F↔∃r∈F,∃x∈r,x.af=z:=by
 unfold dM;rw[BE];unfold eN;rw[aa7];constructor
 ·rintro⟨p,hp,rfl⟩;obtain⟨h1,h2⟩:=FP hp;exact⟨_,aO h1,_,aO h2,rfl⟩
 ·rintro⟨r,hr,x,hx,rfl⟩;obtain⟨a,ha,rfl⟩:=acW.1 hr;obtain⟨b,hb,rfl⟩:=acW.1 hx;refine⟨(a,b),RQ ha (by show b<(F.getD a default).length;rw[cU ha];exact hb),?_⟩;unfold a8;show((F.getD a default).getD b default).af=_;rw[cU ha,cU hb]
theorem Di (F:List (List aI)):dM F.reverse=dM F:=by
 refine ph FY (zc _ _ _) (zc F F.length 0) fun z=>?_
 show z∈dM F.reverse↔z∈dM F;rw[Gc,Gc];simp only[acH]
variable{x:jj}
theorem uf {a:Nat}{r:List aI}:x∈z8 w a r↔x.lexeme=(a:Int)∧x.form∈r∧x.form.af=w:=by
 unfold z8;rw[aa7];constructor
 ·rintro⟨f,hf,rfl⟩;have:=abA.1 hf;exact⟨rfl,this.1,of_decide_eq_true this.2⟩
 ·rintro⟨h1,h2,h3⟩;exact⟨x.form,abA.2 ⟨h2,decide_eq_true h3⟩,by obtain⟨l,f⟩:=x;simp only at h1;rw[h1]⟩
theorem Dj :x∈eQ F w↔∃a:Nat,a<F.length∧x.lexeme=(a:Int)∧x.form∈F.getD a default∧x.form.af=w:=by
 rw[ue,aca];constructor
 ·rintro⟨a,ha,h⟩;exact⟨a,aba.1 ha,uf.1 h⟩
 ·rintro⟨a,ha,h⟩;exact⟨a,aba.2 ha,uf.2 h⟩
theorem PI {a:Nat}(h:a<F.length):F.reverse.getD (F.length-1-a) default=F.getD a default:=by
 rw[cU (by rw[abh];omega),cU h,List.getElem_reverse]
 congr 1;omega
theorem Dk (h:x∈eQ F w):(⟨(F.length:Int)-1-x.lexeme,x.form⟩:jj)∈eQ F.reverse w:=by
 obtain⟨a,ha,h1,h2,h3⟩:=Dj.1 h;refine Dj.2 ⟨F.length-1-a,by rw[abh];omega,?_,?_,h3⟩
 ·show(F.length:Int)-1-x.lexeme=_;rw[h1];omega
 ·show x.form∈_;rw[PI ha];exact h2
theorem Lu {k:Nat}(h:k<(eQ F w).length):zt (eQ F.reverse w) ((F.length:Int)-1-((eQ F w).getD k default).lexeme) ((eQ F w).getD k default).form=true:=Lr.2 (Dk (aO h))
theorem BL (F:List (List aI))(w:List Int):(eQ F w).length=(F.map fun r=>(r.filter fun x=>decide (x.af=w)).length).sum:=by
 rw[ue,List.length_flatMap]
 congr 1
 conv=>rhs;rw[←(show(List.range F.length).map (fun a=>F.getD a default)=F from by
  apply ac0
  ·simp
  ·intro i h1 h2;rw[aco,ac5,cU h2]),acu]
 refine acQ fun a _=>?_
 unfold z8;rw[aaA];rfl
theorem sI (F:List (List aI))(w:List Int):(eQ F.reverse w).length=(eQ F w).length:=by rw[BL,BL,List.map_reverse,List.sum_reverse]
theorem PJ (F:List (List aI))(w:List Int):rQ F.reverse w=rQ F w:=by
 unfold rQ;rw[sI];split
 ·rfl
 ·unfold u9
  congr 1
  refine ada fun c _=>?_
  unfold UR;rw[abK,abK];refine acq.2 ?_;rw[aa5,aa5];constructor
  ·intro h a ha;have h1:=h _ (Dk ha);exact h1
  ·intro h a ha;have:=Dk ha;rw[ab7] at this;have h1:=h _ this;exact h1
theorem PK {k:Nat}(hk:k≤F.length):eQ (F.take k) w=(eQ F w).filter fun x=>decide (x.lexeme<(k:Int)):=by
 rw[ue,ue,List.filter_flatMap,aaO,acN hk];have hs:List.range F.length=List.range k++(List.range (F.length-k)).map (k+·):=by
   rw[←List.range_add];congr 1;omega
 rw[hs,acp];have h1:∀a,a<k→(z8 w a (F.getD a default)).filter (fun x=>decide (x.lexeme<(k:Int)))=z8 w a ((F.take k).getD a default):=fun a ha=>by
   have e:(F.take k).getD a default=F.getD a default:=by
     rw[aax,aax,abo,if_pos ha]
   rw[e,acA];intro x hx;rw[(uf.1 hx).1];exact decide_eq_true adh
 have h2:((List.range (F.length-k)).map (k+·)).flatMap (fun a=>(z8 w a (F.getD a default)).filter fun x=>decide (x.lexeme<(k:Int)))=[]:=by
   rw[List.flatMap_eq_nil_iff];intro a ha;obtain⟨b,_,rfl⟩:=aa7.1 ha;rw[List.filter_eq_nil_iff];intro x hx;rw[(uf.1 hx).1];simp;omega
 rw[h2,abe];have key:∀(l:List Nat),(∀a∈l,a<k)→l.flatMap (fun a=>z8 w a ((F.take k).getD a default))=l.flatMap fun a=>(z8 w a (F.getD a default)).filter fun x=>decide (x.lexeme<(k:Int)):=by
   intro l
   induction l with
   | nil=>intro _;rfl
   | cons a l ih =>
     intro h;rw[abQ,abQ,h1 a (h a aaJ),ih fun b hb=>h b (aaW _ hb)]
 exact key _ fun a ha=>aba.1 ha
variable {g:aA} {L:List da}
theorem lo.rev (h:lo g L):lo g L.reverse:=⟨h.gs,by rw[abh];exact h.n,fun x hx=>h.w x (acH.1 hx),fun x hx=>h.e x (acH.1 hx)⟩
theorem lo.take (h:lo g L)(k:Nat):lo g (L.take k):=⟨h.gs,abb (List.length_take_le' _ _) h.n,fun x hx=>h.w x (abO hx),fun x hx=>h.e x (abO hx)⟩
theorem Lv (g:aA)(L:List da):aL g L.reverse=(aL g L).reverse:=by unfold aL;rw[List.map_reverse]
end Go.Wf
