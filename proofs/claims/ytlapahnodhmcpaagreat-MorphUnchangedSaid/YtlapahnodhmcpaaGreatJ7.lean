/-
  Part of the proof.
-/
import Derived.Test.YtlapahnodhmcpaaGreatJ0
import Derived.Test.YtlapahnodhmcpaaGreatJ6
set_option linter.unusedVariables false
set_option linter.unusedSectionVars false
set_option linter.unusedSimpArgs false
set_option maxRecDepth 100000
set_option maxHeartbeats 40000000
namespace Go.Am
open Go.RowKit
def rn (ρ:List (Nat×Nat))(a:Nat):Nat:=(ρ.lookup a).getD a
def SV.kl (ρ:List (Nat×Nat)):SV→SV
 | .own i=>.own (rn ρ i)
 | .pel i j k=>.pel (rn ρ i) j k
 | .pbox i k=>.pbox (rn ρ i) k
 | .omap i=>.omap (rn ρ i)
 | .vsl i j k=>.vsl (rn ρ i) j k
 | .fn f caps => .fn f (caps.map fun c => match c with
   | .bx i=>.bx (rn ρ i)
   | .ow i=>.ow (rn ρ i)
   | .om i=>.om (rn ρ i)
   | c=>c)
 | .hid f caps => .hid f (caps.map fun c => match c with
   | .bx i=>.bx (rn ρ i)
   | .ow i=>.ow (rn ρ i)
   | .om i=>.om (rn ρ i)
   | c=>c)
 | .nst i=>.nst (rn ρ i)
 | .nel i j=>.nel (rn ρ i) j
 | d=>d
def vu (ρ:List (Nat×Nat)):Option (Nat×dX)→Option (Nat×dX)
 | some (j,.arr u)=>some (j,.arr (rn ρ u))
 | some (j,.map u)=>some (j,.map (rn ρ u))
 | ln=>ln
def Ob.kl (ρ:List (Nat×Nat)):Ob→Ob
 | .box e cs=>.box e (cs.map (SV.kl ρ))
 | .nar e cs ln=>.nar e cs (vu ρ ln)
 | .nmp ks cs ln=>.nmp ks cs (vu ρ ln)
 | ob=>ob
def Ob.kind:Ob→Nat
 | .arr _ _=>0
 | .box _ _=>1
 | .mp _ _=>2
 | .nar _ _ _=>3
 | .nmp _ _ _=>4
def SV.safe (ids:List Nat):SV→Bool
 | .v .vw _=>false
 | .own i=>!ids.contains i
 | .pel i _ _=>!ids.contains i
 | .vsl i _ _=>!ids.contains i
 | .nst i=>!ids.contains i
 | .nel i _=>!ids.contains i
 | .fn _ caps => caps.all fun c => match c with
   | .ow i=>!ids.contains i
   | _=>true
 | .hid _ caps => caps.all fun c => match c with
   | .ow i=>!ids.contains i
   | _=>true
 | _=>true
def SV.plain (ks:List Nat):SV→Bool
 | .v .pl _=>true
 | .v _ (.sc _)=>true
 | .v _ _=>false
 | .own i=>ks.contains i
 | .pel i _ _=>ks.contains i
 | .pbox i _=>ks.contains i
 | .omap i=>ks.contains i
 | .vsl i _ _=>ks.contains i
 | .fn _ caps => caps.all fun c => match c with
   | .bx i=>ks.contains i
   | .ow i=>ks.contains i
   | .om i=>ks.contains i
   | _=>true
 | .hid _ caps => caps.all fun c => match c with
   | .bx i=>ks.contains i
   | .ow i=>ks.contains i
   | .om i=>ks.contains i
   | _=>true
 | .nst i=>ks.contains i
 | .nel i _=>ks.contains i
 | .dead=>true
def BO (ks:List Nat):Option (Nat×dX)→Bool
 | some (_,.arr u)=>ks.contains u
 | some (_,.map _)=>false
 | _=>true
def Ob.plain (ks:List Nat):Ob→Bool
 | .box _ cs=>cs.all (SV.plain ks)
 | .nar _ _ ln=>BO ks ln
 | .nmp _ _ ln=>BO ks ln
 | _=>true
def s7 (ids:List Nat):Option (Nat×dX)→Option (Nat×dX)
 | some (j,.arr u)=>some (j,if ids.contains u then .no else .arr u)
 | ln=>ln
def Ob.after (ids:List Nat):Ob→Ob
 | .box e cs=>.box e (cs.map fun d=>if d.safe ids then d else .dead)
 | .nar e cs ln=>.nar e cs (s7 ids ln)
 | .nmp ks cs ln=>.nmp ks cs (s7 ids ln)
 | ob=>ob
def zH (ρ:List (Nat×Nat))(oc:List (Nat×Ob)):List (Nat×Ob):=oc.map fun p=>(rn ρ p.1,p.2.kl ρ)
def cR (ρ:List (Nat×Nat))(oc:List (Nat×Ob)):List Nat:=oc.map fun p=>rn ρ p.1
def St.after (s:St)(ρ:List (Nat×Nat))(oc:List (Nat×Ob)):St :=
 { n:=s.n,s:=s.s.filter (fun p=>p.2.safe (cR ρ oc)),o:=s.o.map fun p=>(p.1,((zH ρ oc).lookup p.1).getD (p.2.after (cR ρ oc))) }
def jo:List Nat→Bool
 | []=>true
 | x :: r=>!r.contains x&&jo r
def lz (P:Program)(f:FuncId)(args:List SV)(o:List (Nat×Ob))(r:SV)(o':List (Nat×Ob)):Prop :=
 cg P f∧∀(w0:Fr)(M0:Nat→Prop)(E:Env)(w:World)(vs:List Value),(∀b,M0 b→b<w0.w.heap.size)→gr P w0 M0 E o w→vs.length=args.length →
   (∀(j:Nat) d,args[j]?=some d→bm P M0 w E o (vs.getD j undef) d)→Calls P f vs.toArray w fun e w'=>∃v E',e=.returned v∧gr P w0 M0 E' o' w'∧bm P M0 w' E' o' v r
theorem dA {α:Type}:∀{l:List (Nat×α)}{a:Nat}{x:α},l.lookup a=some x→(a,x)∈l
 | (b, y) :: r, a, x, h => by
   rw[aj] at h;split at h
   · rename_i he;subst he;simp only[aaj] at h;subst h;exact aaq
   · exact aav _ (dA h)
theorem oy {α:Type}{f:Nat×α→Nat}:∀{l:List (Nat×α)},jo (l.map f)=true→∀{p q:Nat×α},p∈l→q∈l→f p=f q→p=q
 | x :: r, h, p, q, hp, hq, he => by
   simp only[aa6,jo,aax,aa5,abK,decide_eq_false_iff_not] at h;rcases aaC.1 hp with hp1|hp1
   · rcases aaC.1 hq with hq1 | hq1
     · rw[hp1,hq1]
     · exact absurd (aaG.2 ⟨q,hq1,by rw[←he,hp1]⟩) h.1
   · rcases aaC.1 hq with hq1 | hq1
     · exact absurd (aaG.2 ⟨p,hp1,by rw[he,hq1]⟩) h.1
     · exact oy h.2 hp1 hq1 he
theorem An {ρ:List (Nat×Nat)}{i:Nat}:∀{oc:List (Nat×Ob)},(cR ρ oc).contains i=false→(zH ρ oc).lookup i=none
 | [],_=>rfl
 | (a, ob) :: r, h => by
   simp only[cR,aa6,List.contains_cons,Bool.or_eq_false_iff,beq_eq_false_iff_ne] at h;simp only[zH,aa6];rw[aj,if_neg h.1];exact An h.2
theorem Ao {ρ:List (Nat×Nat)}{a:Nat}{ob:Ob}:∀{oc:List (Nat×Ob)},jo (cR ρ oc)=true→(a,ob)∈oc→(zH ρ oc).lookup (rn ρ a)=some (ob.kl ρ)
 | (b, y) :: r, h, hm => by
   have h':=h;simp only[cR,aa6,jo,aax,aa5,abK,decide_eq_false_iff_not] at h';simp only[zH,aa6];rw[aj];rcases aaC.1 hm with he|hm
   · simp only [abk] at he
     rw[if_pos (by rw[he.1]),he.2]
   · rw [if_neg]
     · exact Ao h'.2 hm
     · intro he;exact h'.1 (aaG.2 ⟨_,hm,he⟩)
theorem mR {ρ:List (Nat×Nat)}{i:Nat}{oc:List (Nat×Ob)}(h:(cR ρ oc).contains i=true):∃a ob,(a,ob)∈oc∧rn ρ a=i:=by rw[abK,decide_eq_true_eq] at h;obtain⟨p,hp,he⟩:=aaG.1 h;exact⟨p.1,p.2,hp,he⟩
variable{b:Nat}{ln:Option (Nat×dX)}
section
variable {P:Program} {w0:Fr}{M0:Nat→Prop}{E E':Env}{s:St}{a0:Act}{w w':World}{ρ:List (Nat×Nat)}{oc oc':List (Nat×Ob)}
def fI (E:Env)(ρ:List (Nat×Nat)):Env:=⟨fun a=>E.cur (rn ρ a),fun a=>E.blk (rn ρ a),fun a=>E.sub (rn ρ a)⟩
def SS (D:Prop)(w:World)(E:Env)(oc:List (Nat×Ob)):Fr :=
 ⟨w,fun b=>b<w.heap.size∧¬owned E oc b,fun _ h=>h.1,(oc.filter fun p=>decide (1000000≤p.1)).map fun p=>(p.1,E.blk p.1),fun x hx=>by
   obtain⟨p,hp,rfl⟩:=aaG.1 hx;simpa using(aa9.1 hp).2,D,.plain⟩
def Lg (M0:Nat→Prop)(own ownc:Nat→Prop)(b:Nat):Prop:=M0 b∨(own b∧¬ownc b)
theorem uk (ln:Option (Nat×dX)):(vu ρ ln).map (·.1)=ln.map (·.1):=by
 cases ln with
 | none=>rfl
 | some p=>obtain⟨j,l⟩:=p;cases l<;>rfl
theorem vv (ids:List Nat)(ln:Option (Nat×dX)):(s7 ids ln).map (·.1)=ln.map (·.1):=by
 cases ln with
 | none=>rfl
 | some p=>obtain⟨j,l⟩:=p;cases l<;>rfl
theorem iW {f:Nat→Value}{cs:List Cell}:fX f b cs (vu ρ ln)↔fX f b cs ln:=by unfold fX;rw[uk]
theorem oz {ids:List Nat}{f:Nat→Value}{cs:List Cell}:fX f b cs (s7 ids ln)↔fX f b cs ln:=by unfold fX;rw[vv]
theorem pO {E:Env}{a:Nat}{ob:Ob}:bE (fI E ρ) a b ob↔bE E (rn ρ a) b (ob.kl ρ):=by
 cases ob with
 | nar e cs ln=>simp only[bE,fI,Ob.kl,iW]
 | nmp ks cs ln=>simp only[bE,fI,Ob.kl,iW]
 | _=>simp only[bE,fI,Ob.kl]
theorem eS (hob:∀a ob,oc.lookup a=some ob→s.o.lookup (rn ρ a)=some (ob.kl ρ))(h:owned (fI E ρ) oc b):owned E s.o b:=by obtain⟨a,ob,h1,h2⟩:=h;exact⟨rn ρ a,ob.kl ρ,hob a ob h1,pO.1 h2⟩
theorem oA (hob:∀a ob,oc.lookup a=some ob→s.o.lookup (rn ρ a)=some (ob.kl ρ))(c:fW):∀b,cB (Lg M0 (owned E s.o) (owned (fI E ρ) oc)) (owned (fI E ρ) oc) c b→cB M0 (owned E s.o) c b:=by
 intro b hb;cases c with
 | pl =>
   rcases hb with(hb|hb)|hb
   · exact .inl hb
   · exact .inr hb.1
   · exact .inr (eS hob hb)
 | mx=>exact eS hob hb
 | vw=>exact hb
theorem LU (hob:∀a ob,oc.lookup a=some ob→s.o.lookup (rn ρ a)=some (ob.kl ρ)){v:Value}{d:SV}(h:bm P M0 w E s.o v (d.kl ρ)):bm P (Lg M0 (owned E s.o) (owned (fI E ρ) oc)) w (fI E ρ) oc v d:=by
 cases d with
 | v c d=>exact bJ.cd h (oA hob c)
 | own i=>exact fun e xs hl=>h e xs (hob i _ hl)
 | pel i j k=>exact fun e xs hl=>h e xs (hob i _ hl)
 | pbox i k=>exact fun e cs hl=>h e _ (hob i _ hl)
 | omap i=>exact fun ks vs hl=>h ks vs (hob i _ hl)
 | vsl i j k=>exact fun e xs hl=>h e xs (hob i _ hl)
 | fn f caps =>
   obtain⟨vs,h1,h2,h3⟩:=h;refine⟨vs,h1,by simpa using h2,fun j c hc=>?_⟩;have h4:=h3 j _ (by rw[aap,hc];rfl);cases c with
   | bx id=>exact fun e cs hl=>h4 e _ (hob id _ hl)
   | pl d=>exact bJ.cd h4 (oA hob .pl)
   | ow id=>exact fun e xs hl=>h4 e xs (hob id _ hl)
   | om id=>exact fun ks vs hl=>h4 ks vs (hob id _ hl)
 | hid f caps =>
   obtain⟨vs,h1,h2,h3⟩:=h;refine⟨vs,h1,by simpa using h2,fun j c hc=>?_⟩;have h4:=h3 j _ (by rw[aap,hc];rfl);cases c with
   | bx id=>exact fun e cs hl=>h4 e _ (hob id _ hl)
   | pl d=>exact bJ.cd h4 (oA hob .pl)
   | ow id=>exact fun e xs hl=>h4 e xs (hob id _ hl)
   | om id=>exact fun ks vs hl=>h4 ks vs (hob id _ hl)
 | nst i=>exact⟨fun e cs ln hl=>h.1 e _ _ (hob i _ hl),fun ks cs ln hl=>h.2 ks _ _ (hob i _ hl)⟩
 | nel i j=>exact fun e cs ln hl=>h e _ _ (hob i _ hl)
 | dead=>trivial
theorem LV :np E (fI E ρ) (vu ρ ln) ln:=by
 refine⟨(uk ln).symm,fun j u hu=>?_,fun j u hu=>?_⟩
 ·subst hu;exact⟨_,rfl,rfl⟩
 ·subst hu;exact⟨_,rfl,rfl⟩
theorem wC (hw:gr P w0 M0 E s.o w)(hob:∀a ob,oc.lookup a=some ob→s.o.lookup (rn ρ a)=some (ob.kl ρ))(hinj:jo (cR ρ oc)=true) :
   gr P (SS w0.dr w (fI E ρ) oc) (Lg M0 (owned E s.o) (owned (fI E ρ) oc)) (fI E ρ) oc w:=by
 have free:∀{b:Nat},owned (fI E ρ) oc b→mK w0 M0 b→mK (SS w0.dr w (fI E ρ) oc) (Lg M0 (owned E s.o) (owned (fI E ρ) oc)) b:=fun ho hf =>
   ⟨fun hk=>hk.2 ho,fun hm=>hm.elim (fun h=>hf.2 h) fun h=>h.2 ho⟩
 refine⟨fun a ob ha=>?_,fun a ob a' ob' b h1 h2 h3 h4=>?_,.refl _ _,fun x hx=>?_⟩
 · have h0 := hw.objs (rn ρ a) _ (hob a ob ha)
   cases ob with
   | arr e xs =>
     obtain⟨vals,h1,h2,h3⟩:=h0;exact⟨vals,⟨h1.1,fun b hb=>free ⟨a,_,ha,hb⟩ (h1.2 b hb)⟩,h2,fun j d hd=>⟨(h3 j d hd).1,(h3 j d hd).2.cd (oA hob .pl)⟩⟩
   | box e cs =>
     obtain⟨vals,h1,h2,h3,h4⟩:=h0;refine⟨vals,h1,free ⟨a,_,ha,rfl⟩ h2,by simpa using h3,fun j d hd=>?_⟩;have:=h4 j (d.kl ρ) (by rw[aap,hd];rfl);refine⟨?_,this.2.1,LU hob this.2.2⟩;have h5:=this.1;cases d<;>simp_all [SV.kl,SV.leaf]
   | mp ks vs =>
     obtain⟨es,clock,h1,h2,h3,h4,h5⟩:=h0;exact⟨es,clock,h1,free ⟨a,_,ha,rfl⟩ h2,h3,h4,fun j d hd=>(h5 j d hd).cd (oA hob .pl)⟩
   | nar e cs ln =>
     obtain⟨n,vals,h1,h2,h3,h4,h5⟩:=h0;exact⟨n,vals,⟨h1.1,fun b hb=>free ⟨a,_,ha,.inl hb⟩ (h1.2 b hb)⟩,h2,h3,h4.go LV (fun _ _=>rfl) (fun b hb hf=>free ⟨a,_,ha,.inr (iW.1 hb)⟩ hf) (fun v d hr=>hr.cd (oA hob .pl)),fun b hb=>h5 b (iW.2 hb)⟩
   | nmp ks cs ln =>
     obtain⟨es,clock,h1,h2,h3,h4,h5,h6,h7⟩:=h0;exact⟨es,clock,h1,free ⟨a,_,ha,.inl J⟩ h2,h3,h4,h5,h6.go LV (fun _ _=>rfl) (fun b hb hf=>free ⟨a,_,ha,.inr (iW.1 hb)⟩ hf) (fun v d hr=>hr.cd (oA hob .pl)),fun b hb=>h7 b (iW.2 hb)⟩
 · have := hw.disj _ _ _ _ b (hob a ob h1) (hob a' ob' h2) (pO.1 h3) (pO.1 h4)
   exact congrArg Prod.fst (oy hinj (dA h1) (dA h2) this)
 · obtain ⟨p, hp, rfl⟩ := aaG.1 hx
   rfl
theorem vx {α β:Type}(f:Nat→α→β)(i:Nat):∀l:List (Nat×α),(l.map fun p=>(p.1,f p.1 p.2)).lookup i=(l.lookup i).map (f i)
 | []=>rfl
 | (a, x) :: r => by
   simp only[aa6];rw[aj,aj,vx f i r];split
   · rename_i h;subst h;rfl
   · rfl
theorem bN {ob:Ob}{a:Nat}:∀{l:List (Nat×Ob)},jo (cR ρ l)=true→(a,ob)∈l→l.lookup a=some ob
 | (b, y) :: r, h, hm => by
   have h':=h;simp only[cR,aa6,jo,aax,aa5,abK,decide_eq_false_iff_not] at h';rw[aj];rcases aaC.1 hm with he|hm
   · simp only [abk] at he
     rw[if_pos he.1,he.2]
   · rw [if_neg]
     · exact bN h'.2 hm
     · exact fun he=>h'.1 (aaG.2 ⟨(a,ob),hm,by rw[he]⟩)
theorem ba.after (hs:ba P w0 M0 E s a0 w)(hnd:Nodup s.s=true)(hob:∀a ob,oc.lookup a=some ob→s.o.lookup (rn ρ a)=some (ob.kl ρ))(hinj:jo (cR ρ oc)=true)(hsame:oc.map (fun p=>(p.1,p.2.kind))=oc'.map (fun p=>(p.1,p.2.kind)))
   (hbig:oc.all (fun p=>Nat.beq p.2.kind 0||Nat.ble 1000000 p.1)=true)(hpl:oc'.all (fun p=>p.2.plain (oc'.map (·.1)))=true)
   (hw':gr P (SS w0.dr w (fI E ρ) oc) (Lg M0 (owned E s.o) (owned (fI E ρ) oc)) E' oc' w') :
   ∃E'',ba P w0 M0 E'' (s.after ρ oc') a0 w'∧∀v d,d.plain (oc'.map (·.1))=true→bm P (Lg M0 (owned E s.o) (owned (fI E ρ) oc)) w' E' oc' v d→bm P M0 w' E'' (s.after ρ oc').o v (d.kl ρ):=by
 have hids:cR ρ oc'=cR ρ oc:=by
   have:=congrArg (List.map (fun q:Nat×Nat=>rn ρ q.1)) hsame;simpa[cR,aco,acG] using this.symm
 have hinj':jo (cR ρ oc')=true:=by rw[hids];exact hinj
 have old:∀{a ob},(a,ob)∈oc'→∃ob0,oc.lookup a=some ob0∧ob0.kind=ob.kind:=by
   intro a ob hm;have:(a,ob.kind)∈oc.map (fun p=>(p.1,p.2.kind)):=by rw[hsame];exact aaG.2 ⟨_,hm,rfl⟩
   obtain⟨p,hp,he⟩:=aaG.1 this;simp only[abk] at he;refine⟨p.2,bN hinj ?_,he.2⟩;rw[←he.1];exact hp
 have hwc:=wC hs.wok hob hinj
 let E'' : Env := { E with
   cur:=fun i=>(match oc'.find? (fun p=>rn ρ p.1 == i) with
     | some p=>E'.cur p.1
     | none=>E.cur i)
   sub:=fun i=>(match oc'.find? (fun p=>rn ρ p.1 == i) with
     | some p=>E'.sub p.1
     | none=>E.sub i) }
 have cur1:∀{a ob},(a,ob)∈oc'→E''.cur (rn ρ a)=E'.cur a:=by
   intro a ob hm;show(match oc'.find? (fun p=>rn ρ p.1 == rn ρ a) with|some p=>E'.cur p.1|none=>E.cur (rn ρ a))=_;cases hf:oc'.find? (fun p=>rn ρ p.1 == rn ρ a) with
   | none=>have:=acB.1 hf _ hm;simp at this
   | some p =>
     have h1:=List.find?_some hf;have h2:=abT hf;have:=oy (f:=fun p:Nat×Ob=>rn ρ p.1) hinj' h2 hm (by simpa using h1);rw[this]
 have cur2:∀{i},(cR ρ oc').contains i=false→E''.cur i=E.cur i:=by
   intro i hi;show(match oc'.find? (fun p=>rn ρ p.1 == i) with|some p=>E'.cur p.1|none=>E.cur i)=_;cases hf:oc'.find? (fun p=>rn ρ p.1 == i) with
   | none=>rfl
   | some p =>
     have h1:=List.find?_some hf;have h2:=abT hf;rw[abK,decide_eq_false_iff_not] at hi;exact absurd (aaG.2 ⟨p,h2,by simpa using h1⟩) hi
 have sub1:∀{a ob},(a,ob)∈oc'→E''.sub (rn ρ a)=E'.sub a:=by
   intro a ob hm;show(match oc'.find? (fun p=>rn ρ p.1 == rn ρ a) with|some p=>E'.sub p.1|none=>E.sub (rn ρ a))=_;cases hf:oc'.find? (fun p=>rn ρ p.1 == rn ρ a) with
   | none=>have:=acB.1 hf _ hm;simp at this
   | some p =>
     have h1:=List.find?_some hf;have h2:=abT hf;have:=oy (f:=fun p:Nat×Ob=>rn ρ p.1) hinj' h2 hm (by simpa using h1);rw[this]
 have sub2:∀{i},(cR ρ oc').contains i=false→E''.sub i=E.sub i:=by
   intro i hi;show(match oc'.find? (fun p=>rn ρ p.1 == i) with|some p=>E'.sub p.1|none=>E.sub i)=_;cases hf:oc'.find? (fun p=>rn ρ p.1 == i) with
   | none=>rfl
   | some p =>
     have h1:=List.find?_some hf;have h2:=abT hf;rw[abK,decide_eq_false_iff_not] at hi;exact absurd (aaG.2 ⟨p,h2,by simpa using h1⟩) hi
 have blk:∀{a ob},(a,ob)∈oc'→ob.kind≠0→E'.blk a=E.blk (rn ρ a):=by
   intro a ob hm hk;obtain⟨ob0,h1,h2⟩:=old hm;have h3:=aaF.1 hbig _ (dA h1);have h4:1000000≤a:=by
     rw[aba] at h3;rcases h3 with h3|h3
     · have:=aa7 h3;simp only at this;omega
     · exact aah h3
   have:=hw'.pins (a,(fI E ρ).blk a) (aaG.2 ⟨(a,ob0),aa9.2 ⟨dA h1,by simpa using h4⟩,rfl⟩);exact this
 have look:∀i,(s.after ρ oc').o.lookup i=(s.o.lookup i).map fun ob=>((zH ρ oc').lookup i).getD (ob.after (cR ρ oc')):=fun i=>vx (fun i ob=>((zH ρ oc').lookup i).getD (Ob.after (cR ρ oc') ob)) i s.o
 have look1:∀{a ob},(a,ob)∈oc'→(s.after ρ oc').o.lookup (rn ρ a)=some (ob.kl ρ):=by
   intro a ob hm;obtain⟨ob0,h1,_⟩:=old hm;rw[look,hob a ob0 h1,Ao hinj' hm];rfl
 have look2:∀{i},(cR ρ oc').contains i=false→(s.after ρ oc').o.lookup i=(s.o.lookup i).map (Ob.after (cR ρ oc')):=by
   intro i hi;rw[look,An hi];rfl
 have ownE1:∀{a ob b},(a,ob)∈oc'→bE E'' (rn ρ a) b (ob.kl ρ)→bE E' a b ob:=by
   intro a ob b hm h;cases ob with
   | arr e xs=>have:=cur1 hm;simp only[Ob.kl,bE] at h ⊢;rw[←this];exact h
   | box e cs=>have:=blk hm (by simp[Ob.kind]);simp only[Ob.kl,bE] at h ⊢;rw[this];exact h
   | mp ks vs=>have:=blk hm (by simp[Ob.kind]);simp only[Ob.kl,bE] at h ⊢;rw[this];exact h
   | nar e cs ln=>simp only[Ob.kl,bE,iW] at h ⊢;rw[cur1 hm,sub1 hm] at h;exact h
   | nmp ks cs ln=>have:=blk hm (by simp[Ob.kind]);simp only[Ob.kl,bE,iW] at h ⊢;rw[sub1 hm] at h;rw[this];exact h
 have ownE2:∀{i ob b},(cR ρ oc').contains i=false→bE E'' i b (Ob.after (cR ρ oc') ob)→bE E i b ob:=by
   intro i ob b hi h;cases ob with
   | arr e xs=>have:=cur2 hi;simp only[Ob.after,bE] at h ⊢;rw[←this];exact h
   | box e cs=>exact h
   | mp ks vs=>exact h
   | nar e cs ln=>simp only[Ob.after,bE,oz] at h ⊢;rw[cur2 hi,sub2 hi] at h;exact h
   | nmp ks cs ln=>simp only[Ob.after,bE,oz] at h ⊢;rw[sub2 hi] at h;exact h
 have notc:∀{i ob b},(cR ρ oc').contains i=false→s.o.lookup i=some ob→bE E i b ob→¬owned (fI E ρ) oc b:=by
   rintro i ob b hi hl hb ⟨a,ob0,h1,h2⟩;have:=hs.wok.disj i ob (rn ρ a) _ b hl (hob a ob0 h1) hb (pO.1 h2);rw[hids,abK,decide_eq_false_iff_not] at hi;exact hi (aaG.2 ⟨_,dA h1,this.symm⟩)
 have split:∀{i ob b},(s.after ρ oc').o.lookup i=some ob→bE E'' i b ob→(∃a obc,(a,obc)∈oc'∧rn ρ a=i∧ob=obc.kl ρ∧bE E' a b obc)∨((cR ρ oc').contains i=false∧∃ob0,s.o.lookup i=some ob0∧ob=ob0.after (cR ρ oc')∧bE E i b ob0):=by
   intro i ob b hl hb;cases hi:(cR ρ oc').contains i with
   | true =>
     obtain⟨a,obc,hm,rfl⟩:=mR hi;rw[look1 hm] at hl;simp only[aaj] at hl;subst hl;exact .inl ⟨a,obc,hm,rfl,rfl,ownE1 hm hb⟩
   | false =>
     rw[look2 hi,aao] at hl;obtain⟨ob0,h1,rfl⟩:=hl;exact .inr ⟨rfl,ob0,h1,rfl,ownE2 hi hb⟩
 have own9:∀{b},owned E'' (s.after ρ oc').o b→owned E' oc' b∨(owned E s.o b∧¬owned (fI E ρ) oc b):=by
   rintro b ⟨i,ob,hl,hb⟩;rcases split hl hb with⟨a,obc,hm,_,_,h2⟩|⟨hi,ob0,h1,_,h2⟩
   · exact .inl ⟨a,obc,bN hinj' hm,h2⟩
   · exact .inr ⟨⟨i,ob0,h1,h2⟩,notc hi h1 h2⟩
 have own10:∀{b},owned E' oc' b→owned (fI E ρ) oc b∨w.heap.size≤b:=by
   intro b hb;have h1:=(hw'.bF hb).1.1;rcases aaK b w.heap.size with h2|h2
   · exact .inl (Classical.byContradiction fun hn=>h1 ⟨h2,hn⟩)
   · exact .inr h2
 have free:∀{b},mK (SS w0.dr w (fI E ρ) oc) (Lg M0 (owned E s.o) (owned (fI E ρ) oc)) b→mK w0 M0 b:=by
   rintro b ⟨h1,h2⟩;refine⟨fun hk=>h1 ⟨by have:=w0.hK b hk;have:=hs.wok.below.size;omega,fun ho=>?_⟩,fun hm=>h2 (.inl hm)⟩;exact(hs.wok.bF (eS hob ho)).1.1 hk
 have kept:∀{b},b<w.heap.size→¬owned (fI E ρ) oc b→w'.heap[b]?=w.heap[b]?:=fun h1 h2=>hw'.below.block _ ⟨h1,h2⟩
 have rep:∀(c:fW) v d,c≠.vw→bJ w (cB M0 (owned E s.o) c) v d→bJ w' (cB M0 (owned E'' (s.after ρ oc').o) c) v d:=by
   intro c v d hc hr;have hown:∀b,b<w.heap.size→owned E'' (s.after ρ oc').o b→owned E s.o b:=by
     intro b hb ho;rcases own9 ho with h1|h1
     · rcases own10 h1 with h2 | h2
       · exact eS hob h2
       · omega
     · exact h1.1
   refine hr.mono hw'.below.size (fun b hb hn=>kept hb fun ho=>?_) (fun b hb hn hm=>?_)
   · cases c with
     | pl=>exact hn (.inr (eS hob ho))
     | mx=>exact hn (eS hob ho)
     | vw=>exact hc rfl
   · cases c with
     | pl=>exact hm.elim (fun h=>hn (.inl h)) fun h=>hn (.inr (hown b hb h))
     | mx=>exact hn (hown b hb hm)
     | vw=>exact hc rfl
 have back:∀v d,d.plain (oc'.map (·.1))=true→bm P (Lg M0 (owned E s.o) (owned (fI E ρ) oc)) w' E' oc' v d→bm P M0 w' E'' (s.after ρ oc').o v (d.kl ρ):=by
   intro v d hp h;have key:∀{a},(oc'.map (·.1)).contains a=true→∃ob,(a,ob)∈oc':=by
     intro a ha;rw[abK,decide_eq_true_eq] at ha;obtain⟨p,hp,rfl⟩:=aaG.1 ha;exact⟨p.2,hp⟩
   cases d with
   | v c d =>
     have hsc:∀{u c'},bJ w' c' v (.sc u)→bJ w' (cB M0 (owned E'' (s.after ρ oc').o) c) v (.sc u):=fun h=>by cases h;exact .sc _ ‹_›
     cases c with
     | pl =>
       refine bJ.cd h fun b hb=>?_
       rcases hb with hb|hb
       · exact .inl (.inl hb)
       · exact(own9 hb).elim .inr fun h1=>.inl (.inr h1)
     | mx=>cases d<;>first|exact hsc h|cases hp
     | vw=>cases d<;>first|exact hsc h|cases hp
   | own a =>
     obtain⟨ob,hm⟩:=key hp;intro e xs hl;rw[look1 hm] at hl;cases ob<;>simp only[Ob.kl,aaj,reduceCtorEq] at hl;cases hl;rw[cur1 hm];exact h e xs (bN hinj' hm)
   | pel a j k =>
     obtain⟨ob,hm⟩:=key hp;intro e xs hl;rw[look1 hm] at hl;cases ob<;>simp only[Ob.kl,aaj,reduceCtorEq] at hl;cases hl;rw[cur1 hm];exact h e xs (bN hinj' hm)
   | vsl a j k =>
     obtain⟨ob,hm⟩:=key hp;intro e xs hl;rw[look1 hm] at hl;cases ob<;>simp only[Ob.kl,aaj,reduceCtorEq] at hl;cases hl;rw[cur1 hm];exact h e xs (bN hinj' hm)
   | pbox a k =>
     obtain⟨ob,hm⟩:=key hp;intro e cs hl;rw[look1 hm] at hl;cases ob with
     | box e0 cs0 =>
       have:=blk hm (by simp[Ob.kind]);show v=.pointer (some ⟨E.blk (rn ρ a),k,none⟩);rw[←this];exact h e0 cs0 (bN hinj' hm)
     | _=>simp[Ob.kl] at hl
   | omap a =>
     obtain⟨ob,hm⟩:=key hp;intro ks vs hl;rw[look1 hm] at hl;cases ob with
     | mp k0 v0 =>
       have:=blk hm (by simp[Ob.kind]);show v=.map (some (E.blk (rn ρ a)));rw[←this];exact h k0 v0 (bN hinj' hm)
     | _=>simp[Ob.kl] at hl
   | fn f caps =>
     obtain⟨vs,h1,h2,h3⟩:=h;refine⟨vs,h1,by simpa using h2,fun j c hc=>?_⟩;rw[aap,aao] at hc;obtain⟨c0,hc0,rfl⟩:=hc;have h4:=h3 j c0 hc0;have h5:=aaF.1 hp c0 (aaW hc0);cases c0 with
     | pl d =>
       refine bJ.cd h4 fun b hb=>?_
       rcases hb with hb|hb
       · exact .inl (.inl hb)
       · exact(own9 hb).elim .inr fun h1=>.inl (.inr h1)
     | bx a =>
       obtain⟨ob,hm⟩:=key h5;intro e cs hl;rw[look1 hm] at hl;cases ob with
       | box e0 cs0 =>
         have:=blk hm (by simp[Ob.kind]);show vs.getD j undef=.pointer (some ⟨E.blk (rn ρ a),0,none⟩);rw[←this];exact h4 e0 cs0 (bN hinj' hm)
       | _=>simp[Ob.kl] at hl
     | om a =>
       obtain⟨ob,hm⟩:=key h5;intro ks vs0 hl;rw[look1 hm] at hl;cases ob with
       | mp k0 v0 =>
         have:=blk hm (by simp[Ob.kind]);show _=Value.map (some (E.blk (rn ρ a)));rw[←this];exact h4 k0 v0 (bN hinj' hm)
       | _=>simp[Ob.kl] at hl
     | ow a =>
       obtain⟨ob,hm⟩:=key h5;intro e xs hl;rw[look1 hm] at hl;cases ob<;>simp only[Ob.kl,aaj,reduceCtorEq] at hl;cases hl;show vs.getD j undef=E''.cur (rn ρ a);rw[cur1 hm];exact h4 e xs (bN hinj' hm)
   | hid f caps =>
     obtain⟨vs,h1,h2,h3⟩:=h;refine⟨vs,h1,by simpa using h2,fun j c hc=>?_⟩;rw[aap,aao] at hc;obtain⟨c0,hc0,rfl⟩:=hc;have h4:=h3 j c0 hc0;have h5:=aaF.1 hp c0 (aaW hc0);cases c0 with
     | pl d =>
       refine bJ.cd h4 fun b hb=>?_
       rcases hb with hb|hb
       · exact .inl (.inl hb)
       · exact(own9 hb).elim .inr fun h1=>.inl (.inr h1)
     | bx a =>
       obtain⟨ob,hm⟩:=key h5;intro e cs hl;rw[look1 hm] at hl;cases ob with
       | box e0 cs0 =>
         have:=blk hm (by simp[Ob.kind]);show vs.getD j undef=.pointer (some ⟨E.blk (rn ρ a),0,none⟩);rw[←this];exact h4 e0 cs0 (bN hinj' hm)
       | _=>simp[Ob.kl] at hl
     | om a =>
       obtain⟨ob,hm⟩:=key h5;intro ks vs0 hl;rw[look1 hm] at hl;cases ob with
       | mp k0 v0 =>
         have:=blk hm (by simp[Ob.kind]);show _=Value.map (some (E.blk (rn ρ a)));rw[←this];exact h4 k0 v0 (bN hinj' hm)
       | _=>simp[Ob.kl] at hl
     | ow a =>
       obtain⟨ob,hm⟩:=key h5;intro e xs hl;rw[look1 hm] at hl;cases ob<;>simp only[Ob.kl,aaj,reduceCtorEq] at hl;cases hl;show vs.getD j undef=E''.cur (rn ρ a);rw[cur1 hm];exact h4 e xs (bN hinj' hm)
   | nst a =>
     obtain⟨ob,hm⟩:=key hp;refine⟨fun e cs ln hl=>?_,fun ks cs ln hl=>?_⟩
     · rw [look1 hm] at hl
       cases ob<;>simp only[Ob.kl,aaj,reduceCtorEq] at hl;rw[cur1 hm];exact h.1 _ _ _ (bN hinj' hm)
     · rw [look1 hm] at hl
       cases ob with
       | nmp k0 c0 l0 =>
         have:=blk hm (by simp[Ob.kind]);show v=.map (some (E.blk (rn ρ a)));rw[←this];exact h.2 k0 c0 l0 (bN hinj' hm)
       | _=>simp[Ob.kl] at hl
   | nel a j =>
     obtain⟨ob,hm⟩:=key hp;intro e cs ln hl;rw[look1 hm] at hl;cases ob with
     | nar e0 c0 l0 =>
       simp only[Ob.kl,aaj,Ob.nar.injEq] at hl;obtain⟨_,rfl,_⟩:=hl;rw[cur1 hm];exact h _ _ _ (bN hinj' hm)
     | _=>simp[Ob.kl] at hl
   | dead=>trivial
 have lent1:∀{ln:Option (Nat×dX)},BO (oc'.map (·.1)) ln=true→np E' E'' ln (vu ρ ln):=fun{ln} hp=>by
   refine⟨uk ln,fun j u' hu=>?_,fun j u' hu=>?_⟩
   · cases ln with
     | none=>cases hu
     | some p =>
       obtain⟨j0,l⟩:=p;cases l with
       | no=>cases hu
       | map u=>cases hu
       | arr u =>
         cases hu;have hp:(oc'.map (·.1)).contains u=true:=hp;rw[abK,decide_eq_true_eq] at hp;obtain⟨p,hm,rfl⟩:=aaG.1 hp;exact⟨_,rfl,cur1 (a:=p.1) (ob:=p.2) hm⟩
   · cases ln with
     | none=>cases hu
     | some p =>
       obtain⟨j0,l⟩:=p;cases l with
       | no=>cases hu
       | arr u=>cases hu
       | map u=>cases hp
 have lent2:∀ln,np E E'' ln (s7 (cR ρ oc') ln):=fun ln=>by
   refine⟨vv _ ln,fun j u' hu=>?_,fun j u' hu=>?_⟩
   · match ln, hu with
     | some (j0, .arr u), hu =>
       have hu:some (j0,if(cR ρ oc').contains u=true then dX.no else .arr u)=some (j,.arr u'):=hu;cases q:(cR ρ oc').contains u with
       | true=>rw[if_pos q] at hu;cases hu
       | false=>rw[if_neg (by rw[q];decide)] at hu;cases hu;exact⟨u',rfl,cur2 q⟩
   · match ln, hu with
     | some (j0, .arr u), hu =>
       have hu:some (j0,if(cR ρ oc').contains u=true then dX.no else .arr u)=some (j,.map u'):=hu;cases q:(cR ρ oc').contains u with
       | true=>rw[if_pos q] at hu;cases hu
       | false=>rw[if_neg (by rw[q];decide)] at hu;cases hu
     | some (j0,.map u),hu=>cases hu;exact⟨u',rfl,rfl⟩
 have Pw:∀v d,bm P M0 w E s.o v d→d.safe (cR ρ oc')=true→bm P M0 w' E'' (s.after ρ oc').o v d:=by
   intro v d h hsf;cases d with
   | v c d=>exact rep c v d (by rintro rfl;cases hsf) h
   | own i =>
     have hi:(cR ρ oc').contains i=false:=by simpa[SV.safe] using hsf
     intro e xs hl;rw[look2 hi,aao] at hl;obtain⟨ob0,h1,h2⟩:=hl;cases ob0<;>simp only[Ob.after,reduceCtorEq] at h2;cases h2;rw[cur2 hi];exact h e xs h1
   | pel i j k =>
     have hi:(cR ρ oc').contains i=false:=by simpa[SV.safe] using hsf
     intro e xs hl;rw[look2 hi,aao] at hl;obtain⟨ob0,h1,h2⟩:=hl;cases ob0<;>simp only[Ob.after,reduceCtorEq] at h2;cases h2;rw[cur2 hi];exact h e xs h1
   | vsl i j k =>
     have hi:(cR ρ oc').contains i=false:=by simpa[SV.safe] using hsf
     intro e xs hl;rw[look2 hi,aao] at hl;obtain⟨ob0,h1,h2⟩:=hl;cases ob0<;>simp only[Ob.after,reduceCtorEq] at h2;cases h2;rw[cur2 hi];exact h e xs h1
   | pbox i k =>
     intro e cs hl;cases hi:(cR ρ oc').contains i with
     | true =>
       obtain⟨a,ob,hm,rfl⟩:=mR hi;rw[look1 hm] at hl;obtain⟨ob0,h1,h2⟩:=old hm;cases ob0 with
       | box e0 cs0=>exact h _ _ (hob a _ h1)
       | _=>cases ob<;>simp[Ob.kl,Ob.kind] at hl h2
     | false =>
       rw[look2 hi,aao] at hl;obtain⟨ob0,h1,h2⟩:=hl;cases ob0<;>simp only[Ob.after,reduceCtorEq] at h2;exact h _ _ h1
   | omap i =>
     intro ks vs hl;cases hi:(cR ρ oc').contains i with
     | true =>
       obtain⟨a,ob,hm,rfl⟩:=mR hi;rw[look1 hm] at hl;obtain⟨ob0,h1,h2⟩:=old hm;cases ob0 with
       | mp k0 v0=>exact h _ _ (hob a _ h1)
       | _=>cases ob<;>simp[Ob.kl,Ob.kind] at hl h2
     | false =>
       rw[look2 hi,aao] at hl;obtain⟨ob0,h1,h2⟩:=hl;cases ob0<;>simp only[Ob.after,reduceCtorEq] at h2;exact h _ _ h1
   | fn f caps =>
     obtain⟨vs,h1,h2,h3⟩:=h;refine⟨vs,h1,h2,fun j c hc=>?_⟩;have h4:=h3 j c hc;cases c with
     | pl d=>exact rep .pl _ _ (by simp) h4
     | bx i =>
       intro e cs hl;cases hi:(cR ρ oc').contains i with
       | true =>
         obtain⟨a,ob,hm,rfl⟩:=mR hi;rw[look1 hm] at hl;obtain⟨ob0,h1,h2⟩:=old hm;cases ob0 with
         | box e0 cs0=>exact h4 _ _ (hob a _ h1)
         | _=>cases ob<;>simp[Ob.kl,Ob.kind] at hl h2
       | false =>
         rw[look2 hi,aao] at hl;obtain⟨ob0,h1,h2⟩:=hl;cases ob0<;>simp only[Ob.after,reduceCtorEq] at h2;exact h4 _ _ h1
     | om i =>
       intro ks vs hl;cases hi:(cR ρ oc').contains i with
       | true =>
         obtain⟨a,ob,hm,rfl⟩:=mR hi;rw[look1 hm] at hl;obtain⟨ob0,h1,h2⟩:=old hm;cases ob0 with
         | mp k0 v0=>exact h4 _ _ (hob a _ h1)
         | _=>cases ob<;>simp[Ob.kl,Ob.kind] at hl h2
       | false =>
         rw[look2 hi,aao] at hl;obtain⟨ob0,h1,h2⟩:=hl;cases ob0<;>simp only[Ob.after,reduceCtorEq] at h2;exact h4 _ _ h1
     | ow i =>
       have hi:(cR ρ oc').contains i=false:=by simpa using aaF.1 hsf _ (aaW hc)
       intro e xs hl;rw[look2 hi,aao] at hl;obtain⟨ob0,h1,h2⟩:=hl;cases ob0<;>simp only[Ob.after,reduceCtorEq] at h2;rw[cur2 hi];cases h2;exact h4 _ _ h1
   | hid f caps =>
     obtain⟨vs,h1,h2,h3⟩:=h;refine⟨vs,h1,h2,fun j c hc=>?_⟩;have h4:=h3 j c hc;cases c with
     | pl d=>exact rep .pl _ _ (by simp) h4
     | bx i =>
       intro e cs hl;cases hi:(cR ρ oc').contains i with
       | true =>
         obtain⟨a,ob,hm,rfl⟩:=mR hi;rw[look1 hm] at hl;obtain⟨ob0,h1,h2⟩:=old hm;cases ob0 with
         | box e0 cs0=>exact h4 _ _ (hob a _ h1)
         | _=>cases ob<;>simp[Ob.kl,Ob.kind] at hl h2
       | false =>
         rw[look2 hi,aao] at hl;obtain⟨ob0,h1,h2⟩:=hl;cases ob0<;>simp only[Ob.after,reduceCtorEq] at h2;exact h4 _ _ h1
     | om i =>
       intro ks vs hl;cases hi:(cR ρ oc').contains i with
       | true =>
         obtain⟨a,ob,hm,rfl⟩:=mR hi;rw[look1 hm] at hl;obtain⟨ob0,h1,h2⟩:=old hm;cases ob0 with
         | mp k0 v0=>exact h4 _ _ (hob a _ h1)
         | _=>cases ob<;>simp[Ob.kl,Ob.kind] at hl h2
       | false =>
         rw[look2 hi,aao] at hl;obtain⟨ob0,h1,h2⟩:=hl;cases ob0<;>simp only[Ob.after,reduceCtorEq] at h2;exact h4 _ _ h1
     | ow i =>
       have hi:(cR ρ oc').contains i=false:=by simpa using aaF.1 hsf _ (aaW hc)
       intro e xs hl;rw[look2 hi,aao] at hl;obtain⟨ob0,h1,h2⟩:=hl;cases ob0<;>simp only[Ob.after,reduceCtorEq] at h2;rw[cur2 hi];cases h2;exact h4 _ _ h1
   | nst i =>
     have hi:(cR ρ oc').contains i=false:=by simpa[SV.safe] using hsf
     refine⟨fun e cs ln hl=>?_,fun ks cs ln hl=>?_⟩
     · rw [look2 hi, aao] at hl
       obtain⟨ob0,h1,h2⟩:=hl;cases ob0<;>simp only[Ob.after,reduceCtorEq] at h2;rw[cur2 hi];exact h.1 _ _ _ h1
     · rw [look2 hi, aao] at hl
       obtain⟨ob0,h1,h2⟩:=hl;cases ob0<;>simp only[Ob.after,reduceCtorEq] at h2;exact h.2 _ _ _ h1
   | nel i j =>
     have hi:(cR ρ oc').contains i=false:=by simpa[SV.safe] using hsf
     intro e xs ln hl;rw[look2 hi,aao] at hl;obtain⟨ob0,h1,h2⟩:=hl;cases ob0 with
     | nar e0 c0 l0 =>
       simp only[Ob.after,Ob.nar.injEq] at h2;obtain⟨_,rfl,_⟩:=h2;rw[cur2 hi];exact h _ _ _ h1
     | _=>simp[Ob.after] at h2
   | dead=>trivial
 refine⟨E'',⟨hs.size,hs.defers.same J (fun D hD=>(kept (gu hD) fun ho=>by
   obtain⟨i,ob,h1,h2⟩:=eS hob ho;exact((hs.wok.objs i ob h1).kW h2) hD).trans hD),fun t d ht=>?_,fun i ob hi=>?_,fun i ob i' ob' b h1 h2 h3 h4=>?_,?_,hs.wok.pins⟩,back⟩
 · have hm := kH _ ht
   obtain⟨h1,h2⟩:=aa9.1 hm;have:=hs.slots t d (lh s.s t d hnd h1);exact⟨this.1,Pw _ _ this.2 h2⟩
 · cases hii : (cR ρ oc').contains i with
   | true =>
     obtain⟨a,obc,hm,rfl⟩:=mR hii;rw[look1 hm] at hi;simp only[aaj] at hi;subst hi;have h0:=hw'.objs a obc (bN hinj' hm);cases obc with
     | arr e xs =>
       obtain⟨vals,h1,h2,h3⟩:=h0;refine⟨vals,?_,h2,fun j d hd=>⟨(h3 j d hd).1,back _ (.v .pl d) J (h3 j d hd).2⟩⟩;rw[cur1 hm];exact⟨h1.1,fun b hb=>free (h1.2 b hb)⟩
     | box e cs =>
       have hb:=blk hm (by simp[Ob.kind]);obtain⟨vals,h1,h2,h3,h4⟩:=h0;rw[hb] at h1 h2;refine⟨vals,h1,free h2,by simpa using h3,fun j d hd=>?_⟩;rw[aap,aao] at hd;obtain⟨d0,hd0,rfl⟩:=hd;have h5:=h4 j d0 hd0;have hpp:=aaF.1 hpl _ hm;simp only[Ob.plain] at hpp;refine⟨?_,h5.2.1,back _ d0 (aaF.1 hpp d0 (aaW hd0)) h5.2.2⟩;have h6:=h5.1;cases d0<;>simp_all [SV.kl,SV.leaf]
     | mp ks vs =>
       have hb:=blk hm (by simp[Ob.kind]);obtain⟨es,clock,h1,h2,h3,h4,h5⟩:=h0;rw[hb] at h1 h2;exact⟨es,clock,h1,free h2,h3,h4,fun j d hd=>back _ (.v .pl d) J (h5 j d hd)⟩
     | nar e cs ln =>
       have hln:np E' E'' ln (vu ρ ln):=lent1 (aaF.1 hpl _ hm);obtain⟨n,vals,h1,h2,h3,h4,h5⟩:=h0;show ∃n vals,_∧_∧_∧_∧_;rw[cur1 hm,sub1 hm];exact⟨n,vals,⟨h1.1,fun b hb=>free (h1.2 b hb)⟩,h2,h3,h4.go hln (fun _ _=>rfl) (fun b hb hf=>free hf) (fun v d hr=>back v (.v .pl d) J hr),fun b hb=>h5 b (iW.1 hb)⟩
     | nmp ks cs ln =>
       have hln:np E' E'' ln (vu ρ ln):=lent1 (aaF.1 hpl _ hm);have hb:=blk hm (by simp[Ob.kind]);obtain⟨es,clock,h1,h2,h3,h4,h5,h6,h7⟩:=h0;rw[hb] at h1 h2 h7;show ∃es clock,_∧_∧_∧_∧_∧_∧_;rw[sub1 hm];exact⟨es,clock,h1,free h2,h3,h4,h5,h6.go hln (fun _ _=>rfl) (fun b hb hf=>free hf) (fun v d hr=>back v (.v .pl d) J hr),fun b hb=>h7 b (iW.1 hb)⟩
   | false =>
     rw[look2 hii,aao] at hi;obtain⟨ob0,hl0,rfl⟩:=hi;have h0:=hs.wok.objs i ob0 hl0;have hrange:=fun{b}(hb:bE E i b ob0)=>(h0.dx hb).2
     cases ob0 with
     | arr e xs =>
       obtain⟨vals,h1,h2,h3⟩:=h0;refine⟨vals,?_,h2,fun j d hd=>⟨(h3 j d hd).1,rep .pl _ _ (by simp) (h3 j d hd).2⟩⟩;rw[cur2 hii];exact⟨kq h1.1 fun g hg=>kept (hrange hg) (notc hii hl0 hg),h1.2⟩
     | box e cs =>
       have hk:=kept (hrange rfl) (notc hii hl0 rfl);obtain⟨vals,h1,h2,h3,h4⟩:=h0;refine⟨vals,by show w'.heap[E.blk i]?=_;rw[hk];exact h1,h2,by simpa using h3,fun j d hd=>?_⟩;rw[aap,aao] at hd;obtain⟨d0,hd0,rfl⟩:=hd;have h5:=h4 j d0 hd0;split
       · exact⟨h5.1,h5.2.1,Pw _ _ h5.2.2 ‹_›⟩
       · exact⟨rfl,h5.2.1,trivial⟩
     | mp ks vs =>
       have hk:=kept (hrange rfl) (notc hii hl0 rfl);obtain⟨es,clock,h1,h2,h3,h4,h5⟩:=h0;exact⟨es,clock,by show w'.heap[E.blk i]?=_;rw[hk];exact h1,h2,h3,h4,fun j d hd=>rep .pl _ _ (by simp) (h5 j d hd)⟩
     | nar e cs ln =>
       obtain⟨n,vals,h1,h2,h3,h4,h5⟩:=h0;show ∃n vals,_∧_∧_∧_∧_;rw[cur2 hii,sub2 hii];exact⟨n,vals,⟨kq h1.1 fun g hg=>kept (hrange (.inl hg)) (notc hii hl0 (.inl hg)),h1.2⟩,h2,h3,h4.go (lent2 ln) (fun b hb=>kept (hrange (.inr hb)) (notc hii hl0 (.inr hb))) (fun b hb hf=>hf) (fun v d hr=>rep .pl v d (by simp) hr),fun b hb=>h5 b (oz.1 hb)⟩
     | nmp ks cs ln =>
       have hk:=kept (hrange (.inl rfl)) (notc hii hl0 (.inl rfl));obtain⟨es,clock,h1,h2,h3,h4,h5,h6,h7⟩:=h0;show ∃es clock,_∧_∧_∧_∧_∧_∧_;rw[sub2 hii];exact⟨es,clock,by show w'.heap[E.blk i]?=_;rw[hk];exact h1,h2,h3,h4,h5,h6.go (lent2 ln) (fun b hb=>kept (hrange (.inr hb)) (notc hii hl0 (.inr hb))) (fun b hb hf=>hf) (fun v d hr=>rep .pl v d (by simp) hr),fun b hb=>h7 b (oz.1 hb)⟩
 · rcases split h1 h3 with ⟨a, obc, hm, rfl, _, g1⟩ | ⟨hi, ob0, g0, _, g1⟩
   · rcases split h2 h4 with ⟨a', obc', hm', rfl, _, g2⟩ | ⟨hi', ob0', g0', _, g2⟩
     · rw[hw'.disj a obc a' obc' b (bN hinj' hm) (bN hinj' hm') g1 g2]
     · exfalso
       rcases own10 ⟨a,obc,bN hinj' hm,g1⟩ with q|q
       · exact notc hi' g0' g2 q
       · have:=((hs.wok.objs i' ob0' g0').dx g2).2;omega
   · rcases split h2 h4 with ⟨a', obc', hm', rfl, _, g2⟩ | ⟨hi', ob0', g0', _, g2⟩
     · exfalso
       rcases own10 ⟨a',obc',bN hinj' hm',g2⟩ with q|q
       · exact notc hi g0 g1 q
       · have:=((hs.wok.objs i ob0 g0).dx g1).2;omega
     · exact hs.wok.disj i ob0 i' ob0' b g0 g0' g1 g2
 · exact hs.wok.below.trans ⟨hw'.below.os,hw'.below.tape,hw'.below.output,hw'.below.size,fun k hk=>kept (by have:=w0.hK k hk;have:=hs.wok.below.size;omega) (fun ho=>(hs.wok.bF (eS hob ho)).1.1 hk),hw'.below.drawn⟩
end
end Go.Am
