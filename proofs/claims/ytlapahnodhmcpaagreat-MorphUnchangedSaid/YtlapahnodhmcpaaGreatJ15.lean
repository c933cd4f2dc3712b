/-
  Part of the proof.
-/
import Derived.Test.YtlapahnodhmcpaaGreatJ0
import Derived.Test.YtlapahnodhmcpaaGreatJ14
import Derived.Test.YtlapahnodhmcpaaGreatJ12
import Derived.Laws.MakeOwn
set_option linter.unusedVariables false
set_option linter.unusedSectionVars false
set_option linter.unusedSimpArgs false
set_option maxRecDepth 100000
set_option maxHeartbeats 40000000
namespace Go.Am
open Go.RowKit
variable{i:Nat}
section
variable {P:Program} {w0:Fr}{M0:Nat→Prop}{ops:Array Oper}
def DS (E:Nat→Nat)(L:Array Bool):Nat→Nat
 | 0=>0
 | p+1=>if L.getD (E p) false then p+1 else DS E L p
theorem uw (E:Nat→Nat)(L:Array Bool):∀m,DS E L m≤m
 | 0=>aak _
 | m + 1 => by
   unfold DS;split
   · exact aak _
   · exact Nat.le_succ_of_le (uw E L m)
theorem HZ {E:Nat→Nat}{L:Array Bool}:∀{m:Nat},(∀p q,p<q→q<m→L.getD (E q) false=true→L.getD (E p) false=true)→∀p,p<m→(L.getD (E p) false=true↔p<DS E L m)
 | 0,_,p,h=>absurd h (acE p)
 | m + 1, hc, p, h => by
   unfold DS;by_cases q:L.getD (E m) false=true
   · rw [if_pos q]
     refine⟨fun _=>h,fun _=>?_⟩;by_cases e:p=m
     · rw[e];exact q
     · exact hc p m acK acK q
   · rw [if_neg q]
     by_cases e:p=m
     · subst e
       have:=uw E L p;exact⟨fun h=>absurd h q,fun h=>acK⟩
     · exact HZ (fun a b h1 h2=>hc a b h1 acK) p acK
theorem xJ {E:Nat→Nat}{L:Array Bool}{m t:Nat}(ht:t≤m)(h1:∀p,p<t→L.getD (E p) false=true)(h2:∀p,t≤p→p<m→L.getD (E p) false=false):DS E L m=t:=by
 induction m with
 | zero=>unfold DS;omega
 | succ m ih =>
   unfold DS;by_cases q:t=m+1
   · rw[if_pos (h1 m acK)];exact q.symm
   · rw [if_neg (by rw [h2 m acK acK]; decide)]
     exact ih acK fun p hp hm=>h2 p hp acK
def zL (E:Nat→Nat)(m i:Nat):Bool:=(List.range m).any fun p=>Nat.beq i (E p)
theorem DT {E:Nat→Nat}{m:Nat}:zL E m i=true↔∃p,p<m∧i=E p:=by unfold zL;rw[aaQ];exact⟨fun⟨p,hp,h⟩=>⟨p,aaI.1 hp,aa7 h⟩,fun⟨p,hp,h⟩=>⟨p,aaI.2 hp,by rw[h];exact ab8 _⟩⟩
theorem Gk {id:Nat}{n:Nat}{s0:List (Nat×SV)}(m:Nat)(E:Nat→Nat)(O:Nat→List (Nat×Ob))(k:Nat)(G:List (Nat×SV)){Q':Exit→St→Prop}(hm:P.follows .mixedOrders=true)(hok:l7 ops=true)(htl:fz ops k=true)(hmid:uv ops n k (zL E m)=true)(hks:Nat.ble k ops.size=true)
   (hEk:∀p,p<m→E p<k)(hch:∀p q,p<q→q<m→(kV ops ops.size (E q)).contains (E p)=true)(hinj:∀p q,p<q→q<m→E p≠E q)
   (hG:∀t d,(G.filter fun p=>ez ops k #[] p.1).lookup t=some d→s0.lookup t=some d)(hnd:Nodup G=true)
   (hset:∀i t,i<k→(ops[i]?).bind (·.dst)=some t→∃d,G.lookup t=some d)
   (hP:∀p i o t d,p≤m→i<k→zL E m i=false→ops[i]?=some o→o.dst=some t→G.lookup t=some d→(∀q,q<p→(kV ops ops.size (E q)).contains i=false)→(p<m→(kV ops ops.size i).contains (E p)=false)→Pure P w0 M0 o (fq ops o (St.ev ⟨n,G,O p⟩)) (O p) d)
   (hE:∀p o X,p<m→ops[E p]?=some o→Nodup X=true→(∀t d,X.lookup t=some d→G.lookup t=some d)→(∀t,t∈looks ops o→X.lookup t=G.lookup t)→∃s',Step P w0 M0 o ⟨n,X,O p⟩ s'∧fF P w0 M0 s' ⟨n,sf G X o,O (p+1)⟩)
   (hend:rZ P w0 M0 ops (fun s=>∃s',fF P w0 M0 s s'∧Q' .normal s') k ⟨n,G,O m⟩):ao P w0 M0 (.region id ops true) ⟨n,s0,O 0⟩ Q':=by
 obtain⟨hns,hsp⟩:=mM hok;have hlt:∀i o,ops[i]?=some o→∀j∈gd o,j<i:=fun i o ho=>(hsp i o ho).1
 have hks':=aah hks;have down:∀{L:Array Bool}{i:Nat},ov ops L→L.size=ops.size→L.getD i false=true→∀j,j∈kV ops ops.size i→L.getD j false=true:=fun{L i} hc hsz hL j hj=>by
   have hi:i<ops.size:=by
     rcases aaK i ops.size with q|q
     · exact q
     · exfalso
       have:L.getD i false=false:=by simp[show ¬i<L.size by omega]
       rw[hL] at this;cases this
   have hio:ops[i]?=some ops[i]:=aaM hi;exact eV hc ops.size i ops[i] hio (fun q hq=>hc i _ hio hL q hq) hlt j hj
 have ne_mem:∀{i j:Nat},(¬j∈kV ops ops.size i)→(kV ops ops.size i).contains j=false:=fun{i j} h=>by
   cases hq:(kV ops ops.size i).contains j with
   | false=>rfl
   | true=>exact absurd (aa4.1 hq) h
 have chain:∀{L:Array Bool},ov ops L→L.size=ops.size→∀p q,p<q→q<m→L.getD (E q) false=true→L.getD (E p) false=true:=fun{L} hc hL p q h1 h2 h3=>down hc hL h3 _ (aa4.1 (hch p q h1 h2))
 refine Gi (eff:=zL E m) (oL:=fun L=>O (DS E L m)) (o2:=O m) k G hm hok htl hmid hks hG hnd hset (fun L hL=>?_) (fun L hL=>?_) (fun L i o t d hL hc hanc BF hik hef ho hd XS=>?_) (fun L i o X hL hc hanc BF hik hef ho hX dH c6=>?_) hend
 · show O (DS E L m) = O 0
   rw[xJ (aan m) (fun p hp=>absurd hp (acE p)) fun p _ _=>hL _]
 · show O (DS E L m) = O m
   rw[xJ (aak m) (fun p hp=>hL _ (hEk p hp)) fun p h1 h2=>acK]
 · have his : i < ops.size := (aaV.1 ho).1
   have hne:∀p,p<m→i≠E p:=fun p hp e=>by
     have:=DT.2 ⟨p,hp,e⟩;rw[hef] at this;cases this
   have hiff:=HZ (chain hc hL);refine⟨hP _ i o t d (uw E L m) hik hef ho hd XS (fun q hq=>ne_mem fun hmm=>?_) fun hp=>ne_mem fun hmm=>?_,?_⟩
   · have := uw E L m
     have:=down hc hL ((hiff q acK).2 hq) i hmm;rw[BF] at this;cases this
   · have := (hiff _ hp).1 (hanc _ hmm)
     omega
   · show O (DS E (L.setIfInBounds i true) m) = O (DS E L m)
     congr 1
     refine xJ (uw E L m) (fun p hp=>?_) fun p h1 h2=>?_
     · have := uw E L m
       rw[ck acK,if_neg (abi (hne p acK))];exact(hiff p acK).2 hp
     · rw [ck acK, if_neg (abi (hne p h2))]
       cases hq:L.getD (E p) false with
       | false=>rfl
       | true=>have:=(hiff p h2).1 hq;omega
 · have his : i < ops.size := (aaV.1 ho).1
   obtain⟨p,hp,rfl⟩:=DT.1 hef;have later:∀q,p≤q→q<m→L.getD (E q) false=false:=fun q h1 h2=>by
     by_cases e:q=p
     · rw[e];exact BF
     · cases hq : L.getD (E q) false with
       | false=>rfl
       | true=>have:=chain hc hL p q acK h2 hq;rw[BF] at this;cases this
   have before:∀q,q<p→L.getD (E q) false=true:=fun q h1=>hanc _ (aa4.1 (hch q p h1 hp))
   have e1:DS E L m=p:=xJ acK before later;have e2:DS E (L.setIfInBounds (E p) true) m=p+1:=xJ acK (fun q hq=>by
       rw[ck acK];by_cases e:q=p
       · rw[e,if_pos rfl]
       · rw[if_neg (hinj q p acK hp)];exact before q acK) fun q h1 h2=>by
       rw[ck acK,if_neg (abi (hinj p q acK h2))];exact later q acK h2
   show ∃s',Step P w0 M0 o ⟨n,X,O (DS E L m)⟩ s'∧fF P w0 M0 s' ⟨n,_,O (DS E (L.setIfInBounds (E p) true) m)⟩;rw[e1,e2];exact hE p o X hp ho hX dH c6
end
variable{d:SV}
section
variable {P:Program} {w0:Fr}{M0:Nat→Prop}{s s':St}{id u t:Nat}{e:TypeId}{xs:List AV}{cs:List Cell}{E:Env}{a:Act}{w:World}
def SV.gone (o:List (Nat×Ob)):SV→Bool
 | .own i=>(o.lookup i).isNone
 | .pel i _ _=>(o.lookup i).isNone
 | .vsl i _ _=>(o.lookup i).isNone
 | .nst i=>(o.lookup i).isNone
 | .nel i _=>(o.lookup i).isNone
 | .pbox i _=>(o.lookup i).isNone
 | .omap i=>(o.lookup i).isNone
 | .dead=>true
 | _=>false
theorem PR {o:List (Nat×Ob)}{v:Value}(h:d.gone o=true):bm P M0 w E o v d:=by
 have key:∀{i:Nat}{ob:Ob},(o.lookup i).isNone=true→o.lookup i=some ob→False:=fun h1 h2=>by rw[h2] at h1;cases h1
 cases d with
 | v c d=>cases h
 | own i=>exact fun _ _ q=>(key h q).elim
 | pel i j k=>exact fun _ _ q=>(key h q).elim
 | pbox i j=>exact fun _ _ q=>(key h q).elim
 | omap i=>exact fun _ _ q=>(key h q).elim
 | vsl i j k=>exact fun _ _ q=>(key h q).elim
 | fn f c=>cases h
 | hid f c=>cases h
 | nst i=>exact⟨fun _ _ _ q=>(key h q).elim,fun _ _ _ q=>(key h q).elim⟩
 | nel i j=>exact fun _ _ _ q=>(key h q).elim
 | dead=>trivial
theorem DU (hn:s'.n=s.n)(ho:s'.o=s.o)(h:∀t d,s'.s.lookup t=some d→s.s.lookup t=some d∨(t<s.n∧d.gone s.o=true)):fF P w0 M0 s s':=fun a w ⟨E,hs⟩ =>
 ⟨E, hs.size.trans hn.symm, hs.defers, fun t d ht => by
  rw[hn,ho];rcases h t d ht with h1|⟨h1,h2⟩
  ·exact hs.slots t d h1
  ·exact⟨h1,PR h2⟩,by rw[ho];exact hs.wok⟩
theorem ba.XT (u:Nat)(h:ba P w0 M0 E s a w)(hnd:Nodup s.s=true)(aa:∀b,M0 b→b<w0.w.heap.size)(hl:s.o.lookup id=some (.arr e xs))(hu:u≠id) :
  ∃E':Env,E'.cur u=E.cur id∧ba P w0 M0 E' { n:=s.n,s:=s.s.filter (fun p=>p.2.stays true u&&p.2.stays true id),o:=ins u (.arr e xs) (ie id (iU (fun d=>d.stays true u&&d.stays true id) s.o)) } a w:=by
 obtain⟨vals,g1,g2,g3⟩:=h.wok.objs id _ hl;obtain⟨E',e1,e2,e3,e5⟩:∃E':Env,E'.cur u=E.cur id∧(∀i,i≠u→E'.cur i=E.cur i)∧E'.blk=E.blk∧E'.sub=E.sub :=
  ⟨{ E with cur:=fun i=>if i=u then E.cur id else E.cur i },if_pos rfl,fun i hi=>if_neg hi,rfl,rfl⟩
 have hN:∀i q,(if i=u then some (some (Ob.arr e xs)) else if i=id then some none else none:Option (Option Ob))=some q→(i=u∧q=some (.arr e xs))∨(i=id∧q=none):=fun i q hq=>by
  by_cases h1:i=u
  ·rw[if_pos h1] at hq;injection hq with hq;exact .inl ⟨h1,hq.symm⟩
  ·rw[if_neg h1] at hq;by_cases h2:i=id
   ·rw[if_pos h2] at hq;injection hq with hq;exact .inr ⟨h2,hq.symm⟩
   ·rw[if_neg h2] at hq;cases hq
 refine⟨E',e1,?_⟩;refine ba.xj (E':=E') (fun d=>d.stays true u&&d.stays true id) (fun i=>if i=u then some (some (.arr e xs)) else if i=id then some none else none) _ (fun i=>?_) (fun d=>rfl) (fun i ob hq hx=>?_) (fun i hq=>?_) h hnd aa (fun i hq=>?_) (fun x hx=>by rw[e3]) none ⟨rfl,rfl,rfl,aak _,fun _ _ _=>rfl⟩ (fun _=>aak _) (fun g hg=>by cases hg) (fun i ob b hq hb=>.inl ?_) (fun i ob i' ob' b hq hq' hb hb'=>?_) (fun rep sv lents i ob hq=>?_)
 ·rw[ax];by_cases q1:i=u
  ·rw[if_pos q1,if_pos q1]
  ·rw[if_neg q1,if_neg q1,c9];by_cases q2:i=id
   ·rw[if_pos q2,if_pos q2]
   ·rw[if_neg q2,if_neg q2];exact gk _ i s.o
 ·rcases hN i _ hq with⟨rfl,_⟩|⟨_,q⟩
  ·obtain⟨d,q1,q2⟩:=hx;rw[hZ q1] at q2;cases q2
  ·cases q
 ·rcases hN i _ hq with⟨_,q⟩|⟨rfl,_⟩
  ·cases q
  ·exact⟨e2 i (abi hu),by rw[e3]⟩
 ·have hit:i≠u:=fun q=>by rw[if_pos q] at hq;cases hq
  exact⟨e2 i hit,by rw[e3],by rw[e5]⟩
 ·rcases hN i _ hq with⟨rfl,q⟩|⟨_,q⟩
  ·injection q with q;subst q;refine⟨id,_,by rw[if_neg (abi hu),if_pos J];simp,hl,?_⟩;simpa only[bE,e1] using hb
  ·cases q
 ·rcases hN i _ hq with⟨rfl,_⟩|⟨_,q⟩
  ·rcases hN i' _ hq' with⟨rfl,_⟩|⟨_,q⟩
   ·rfl
   ·cases q
  ·cases q
 ·rcases hN i _ hq with⟨rfl,q⟩|⟨_,q⟩
  ·injection q with q;subst q;exact⟨vals,by rw[e1];exact g1,g2,fun j d hd=>⟨(g3 j d hd).1,rep .pl _ _ (g3 j d hd).2 (by simp)⟩⟩
  ·cases q
theorem tg (t u:Nat)(aa:∀b,M0 b→b<w0.w.heap.size)(hnd:Nodup s.s=true)(ht:s.s.lookup t=some (.own id))(hl:s.o.lookup id=some (.arr e xs))(hne:Nat.beq u id=false) :
  fF P w0 M0 s (({ n:=s.n,s:=s.s.filter (fun p=>p.2.stays true u&&p.2.stays true id),o:=ins u (.arr e xs) (ie id (iU (fun d=>d.stays true u&&d.stays true id) s.o)) }:St).put t (.own u)):=by
 rintro a w ⟨E,hs⟩;have h0:=hs.slots t _ ht;obtain⟨E',e1,h1⟩:=hs.XT u hnd aa hl (fun q=>by rw[q,ab8] at hne;cases hne);exact⟨E',h1.DD h0.1 fun e' xs' hh=>by rw[e1];exact h0.2 e xs hl⟩
end
variable{p:SV→Bool}
section
variable {P:Program} {w0:Fr}{M0:Nat→Prop}
theorem mS (f:Nat×SV→Bool):∀l:List (Nat×SV),Nodup l=true→Nodup (l.filter f)=true
 | [],_=>rfl
 | (t, d) :: r, h => by
   simp only[Nodup,aax,aa5] at h;rw[abb];split
   · simp only [Nodup, aax, aa5]
     refine⟨?_,mS f r h.2⟩;rw[abH] at h ⊢;exact fun p hp=>h.1 p (aa9.1 hp).1
   · exact mS f r h.2
theorem JM (t:Nat)(d:SV)(l:List (Nat×SV))(h:Nodup l=true):Nodup ((t,d) :: l.filter fun p=>!(Nat.beq p.1 t))=true:=by simp only[Nodup,aax,aa5];refine⟨?_,mS _ l h⟩;rw[abH];intro p hp;have:=(aa9.1 hp).2;intro hh;rw[hh] at this;cases this
theorem sh (t:Nat)(d:SV)(l:List (Nat×SV))(u:Nat):((t,d) :: l.filter fun p=>!(Nat.beq p.1 t)).lookup u=if u=t then some d else l.lookup u:=by
 rw[aj];by_cases h:u=t
 ·rw[if_pos h,if_pos h]
 ·rw[if_neg h,if_neg h,bZ (fun i=>!(Nat.beq i t)) u l,if_pos];cases hq:Nat.beq u t with
  | false=>rfl
  | true=>exact absurd (aa7 hq) h
def UN (p:SV→Bool)(n t:Nat)(o2:List (Nat×Ob))(G:List (Nat×SV)):Bool:=G.all fun q=>Nat.beq q.1 t||(p q.2||(Nat.blt q.1 n&&q.2.gone o2))
theorem Ms {n t:Nat}{o2:List (Nat×Ob)}{G:List (Nat×SV)}(h:UN p n t o2 G=true){u:Nat}(hl:G.lookup u=some d)(hne:u≠t):p d=true∨(u<n∧d.gone o2=true):=by
 have:=aaF.1 h _ (dA hl);simp only[aba,aax] at this;rcases this with h1|h1|⟨h1,h2⟩
 ·exact absurd (aa7 h1) hne
 ·exact .inl h1
 ·exact .inr ⟨by simpa using h1,h2⟩
theorem B2 {G X:List (Nat×SV)}{o:Oper}{t:Nat}(hd:o.dst=some t)(hG:G.lookup t=some d):sf G X o=ins t d X:=by unfold sf;rw[hd];simp only[hG]
theorem B3 {n t:Nat}{d0:SV}{X G:List (Nat×SV)}{s:St}{o2:List (Nat×Ob)}(hnd:Nodup X=true)(dH:∀t d,X.lookup t=some d→G.lookup t=some d)(hok:UN p n t o2 G=true)(hn:s.n=n)(ho:s.o=o2)
  (hs:∀u,s.s.lookup u=if u=t then some d0 else(X.filter fun q=>p q.2).lookup u):fF P w0 M0 s ⟨n,ins t d0 X,o2⟩:=by
 refine DU hn.symm ho.symm fun u d hu=>?_
 rw[hs u];rw[ax] at hu;by_cases q:u=t
 ·rw[if_pos q] at hu ⊢;exact .inl hu
 ·rw[if_neg q] at hu ⊢;rcases Ms hok (dH u d hu) q with h|⟨h1,h2⟩
  ·exact .inl (iE p X u d hnd hu h)
  ·exact .inr ⟨by rw[hn];exact h1,by rw[ho];exact h2⟩
variable {o:Oper} {G X:List (Nat×SV)}{o1 o2:List (Nat×Ob)}{T e r:TypeId}{n t u v b k id id2:Nat}{xs ys:List AV}{cs cs2:List Cell}{y:Operand}
theorem PT {n t:Nat}{d0:SV}{Y:List (Nat×SV)}{o1:List (Nat×Ob)}:fF P w0 M0 ⟨n,ins t d0 Y,o1⟩ ⟨n,(t,d0) :: Y.filter (fun p=>!(Nat.beq p.1 t)),o1⟩ :=
 eO rfl rfl fun u d hu=>by
  show(ins t d0 Y).lookup u=some d;rw[ax];rw[show(⟨n,(t,d0) :: Y.filter (fun p=>!(Nat.beq p.1 t)),o1⟩:St).s=(t,d0) :: Y.filter (fun p=>!(Nat.beq p.1 t)) from rfl,sh] at hu;exact hu
theorem lI (p:SV→Bool):∀ (l:List (Nat×SV)) (u:Nat),Nodup l=true→(l.filter fun q=>p q.2).lookup u=(l.lookup u).filter p
 | [],u,_=>rfl
 | (w, d) :: l, u, h => by
   have h':=h;simp only[Nodup,aax,aa5] at h';have ih:=lI p l u h'.2;rw[abb,aj];by_cases q:u=w
   · rw [if_pos q]
     by_cases hp:p d=true
     · rw[if_pos hp,aj,if_pos q];simp[Option.filter,hp]
     · rw [if_neg hp, ih]
       have:l.lookup u=none:=by
         cases hl:l.lookup u with
         | none=>rfl
         | some z =>
           have h1:=abH.1 h'.1 _ (dA hl);rw[q] at h1;simp at h1
       rw[this];simp[Option.filter,hp]
   · rw [if_neg q]
     split
     · rw[aj,if_neg q];exact ih
     · exact ih
theorem dd (ho:o.op=.call { callee:=.builtin .append,args:=#[.tmp u,y],argTypes:=#[T,T] })(hd:o.dst=some t)(hn:Nat.blt t n=true)(hnd:Nodup X=true)(hT:P.underlying T=some (.slice e))(hel:iK P e k b=true)
  (hu:X.lookup u=some (.own id))(hl:o1.lookup id=some (.arr e xs))(hy:Src P w0 M0 ⟨n,X,o1⟩ y k ys)(hb:(xs.length+ys.length)*b≤140737488355328)(hm:xs.length+ys.length≤4611686018427387904)(hne:Nat.beq t id=false)
  (dH:∀t d,X.lookup t=some d→G.lookup t=some d)(S2:G.lookup t=some (.own t))
  (ho2:ins t (.arr e (xs++ys)) (ie id (iU (fun d=>d.stays true t&&d.stays true id) (ins id (.arr e (xs++ys)) (iH true id o1))))=o2)(hok:UN (fun d=>d.stays true id&&(d.stays true t&&d.stays true id)) n t o2 G=true)(aa:∀b,M0 b→b<w0.w.heap.size) :
  ∃s',Step P w0 M0 o ⟨n,X,o1⟩ s'∧fF P w0 M0 s' ⟨n,sf G X o,o2⟩:=by
 have hnf:=mS (fun p=>p.2.stays true id) X hnd;have hnq:=JM t (.own id) _ hnf;refine⟨_,step_append (s:=⟨n,X,o1⟩) ho hd hn hnd hT hel (by show X.lookup u=_;exact hu) hl aa hy hb hm,?_⟩;rw[B2 hd S2];refine PT.trans ((tg (id:=id) t t aa hnq (by rw[sh,if_pos J]) (by show(ins id _ _).lookup id=_;rw[ax,if_pos J]) hne).trans ?_);refine B3 (p:=fun d=>d.stays true id&&(d.stays true t&&d.stays true id)) hnd dH hok J ho2 fun x=>?_
 show(ins t (SV.own t) (((t,SV.own id) :: List.filter (fun p=>!(Nat.beq p.1 t)) (X.filter fun p=>p.2.stays true id)).filter fun p=>p.2.stays true t&&p.2.stays true id)).lookup x=_;rw[ax];by_cases q:x=t
 ·rw[if_pos q,if_pos q]
 ·rw[if_neg q,if_neg q,lI (fun d=>d.stays true t&&d.stays true id) _ x hnq,sh,if_neg q,lI (fun d=>d.stays true id) _ x hnd,lI (fun d=>d.stays true id&&(d.stays true t&&d.stays true id)) _ x hnd];cases X.lookup x with
  | none=>rfl
  | some d=>cases h1:d.stays true id<;>cases h2:d.stays true t<;>simp[Option.filter,h1,h2]
end
section
variable {P:Program} {w0:Fr}{M0:Nat→Prop}{s:St}{o:Oper}{id u j k:Nat}{e r T:TypeId}{cs:List Cell}{xs:List AV}{x y:Operand}{ln:Option (Nat×dX)}
end
section
variable {P:Program} {w0:Fr}{M0:Nat→Prop}{ops:Array Oper}
def wD (ops:Array Oper)(E:Nat→Nat)(m k:Nat):Bool:=Nat.ble k ops.size&&(List.range m).all fun q=>Nat.blt (E q) k&&(List.range q).all fun p=>(kV ops ops.size (E q)).contains (E p)&&!(Nat.beq (E p) (E q))
theorem Gl {id:Nat}{n:Nat}{s0:List (Nat×SV)}(m:Nat)(E:Nat→Nat)(O:Nat→List (Nat×Ob))(k:Nat)(G:List (Nat×SV)){Q':Exit→St→Prop}(hm:P.follows .mixedOrders=true)(hok:l7 ops=true)(htl:fz ops k=true)(hmid:uv ops n k (zL E m)=true)(hc:wD ops E m k=true)
  (hG:∀t d,(G.filter fun p=>ez ops k #[] p.1).lookup t=some d→s0.lookup t=some d)(hnd:Nodup G=true)
  (hset:∀i t,i<k→(ops[i]?).bind (·.dst)=some t→∃d,G.lookup t=some d)
  (hP:∀p i o t d,p≤m→i<k→zL E m i=false→ops[i]?=some o→o.dst=some t→G.lookup t=some d→(∀q,q<p→(kV ops ops.size (E q)).contains i=false)→(p<m→(kV ops ops.size i).contains (E p)=false)→Pure P w0 M0 o (fq ops o (St.ev ⟨n,G,O p⟩)) (O p) d)
  (hE:∀p o X,p<m→ops[E p]?=some o→Nodup X=true→(∀t d,X.lookup t=some d→G.lookup t=some d)→(∀t,t∈looks ops o→X.lookup t=G.lookup t)→∃s',Step P w0 M0 o ⟨n,X,O p⟩ s'∧fF P w0 M0 s' ⟨n,sf G X o,O (p+1)⟩)
  (hend:rZ P w0 M0 ops (fun s=>∃s',fF P w0 M0 s s'∧Q' .normal s') k ⟨n,G,O m⟩):ao P w0 M0 (.region id ops true) ⟨n,s0,O 0⟩ Q':=by
 unfold wD at hc;rw[aax,aaF] at hc;have h1:∀q,q<m→E q<k∧∀p,p<q→(kV ops ops.size (E q)).contains (E p)=true∧E p≠E q:=fun q hq=>by
  have:=hc.2 q (aaI.2 hq);rw[aax,aaF] at this;refine⟨by simpa using this.1,fun p hp=>?_⟩;have h2:=this.2 p (aaI.2 hp);rw[aax] at h2;exact⟨h2.1,fun e=>by rw[e,ab8] at h2;exact absurd h2.2 acM⟩
 exact Gk m E O k G hm hok htl hmid hc.1 (fun p hp=>(h1 p hp).1) (fun p q hpq hq=>((h1 q hq).2 p hpq).1) (fun p q hpq hq=>((h1 q hq).2 p hpq).2) hG hnd hset hP hE hend
theorem jX {X:List (Nat×SV)}{o:List (Nat×Ob)}{n t:Nat}{c:fW}{xs:List AV}(h:X.lookup t=some (.v c (.sl xs))):viewAt (⟨n,X,o⟩:St).ev (⟨n,X,o⟩:St).o (.tmp t)=some (c,.sl xs):=by simp only[viewAt,St.ev,h];rfl
end
section
variable {P:Program} {w0:Fr}{M0:Nat→Prop}
end
open Go.MapKept Go.ChangeMaps
noncomputable def kA (ks:List Value)(rows:List (List AV))(key:Value):List AV:=match dK ks key with
 | some j=>rows.getD j []
 | none=>[]
noncomputable def wi (ks:List Value)(key:Value)(l:dX):Option (Nat×dX):=(dK ks key).map fun j=>(j,l)
noncomputable def th (ks:List Value)(rows:List (List AV))(key:Value)(xs:List AV):List (List AV):=match dK ks key with
 | some j=>rows.set j xs
 | none=>rows++[xs]
abbrev br (r:TypeId)(rows:List (List AV)):List Cell:=rows.map (Cell.row r)
section
variable {P:Program} {w0:Fr}{M0:Nat→Prop}{s:St}{o:Oper}{id t u:Nat}{e r T kt et:TypeId}{kd:TypeDesc}{ks:List Value}{rows:List (List AV)}{xs:List AV}{x y z:Operand}{E:Env}{a:Act}{w:World}{key:Value}
theorem Mt {j:Nat}{c:Cell}(h:(br r rows)[j]?=some c):j<rows.length∧c=.row r (rows.getD j []):=by rw[aap,aao] at h;obtain⟨q,hq,rfl⟩:=h;refine⟨(aaz.1 hq).1,?_⟩;rw[aag,hq];rfl
theorem ba.UO (h:ba P w0 M0 E s a w)(hnd:Nodup s.s=true)(aa:∀b,M0 b→b<w0.w.heap.size)(hl:s.o.lookup id=some (.mp [] [])) :
  ba P w0 M0 E (s.cC true id (.nmp [] [] none)) a w:=by
 obtain⟨es,clock,h1,h2,h3,h4,h5⟩:=h.wok.objs id _ hl;refine h.cC true (fun q=>by cases q) hnd aa (fun i hi=>⟨rfl,rfl⟩) (.inr J) none ⟨rfl,rfl,rfl,aak _,fun _ _ _=>rfl⟩ (fun _=>aak _) (fun g hg=>by cases hg) (fun b hb=>.inl ⟨_,hl,?_⟩) (fun rep sv=>?_)
 ·rcases hb with hb|⟨j,c,q1,_⟩
  ·exact hb
  ·simp at q1
 ·exact⟨es,clock,h1,h2,h3,rfl,fun j hj=>by simp at hj,⟨fun j c hc=>by simp at hc,fun i j ci cj b hi=>by simp at hi,(fun j u hu=>by cases hu),(fun j u hu=>by cases hu)⟩,fun b hb=>by obtain⟨j,c,q1,_⟩:=hb;simp at q1⟩
theorem Mu (b j:Nat){eb:TypeId}{bs bs':List SV}(aa:∀b,M0 b→b<w0.w.heap.size)(hnd:Nodup s.s=true)(hb0:s.o.lookup b=some (.box eb bs))(hj:bs[j]?=some (.omap id))(hl:s.o.lookup id=some (.mp [] []))
  (hb:(s.cC true id (.nmp [] [] none)).o.lookup b=some (.box eb bs'))(hbl:bs'.length=bs.length)
  (hnd':Nodup (s.cC true id (.nmp [] [] none)).s=true):fF P w0 M0 s ((s.cC true id (.nmp [] [] none)).cC false b (.box eb ((c5 b bs').set j (.nst id)))):=by
 rintro a w ⟨E,hs⟩;have h1:=hs.UO hnd aa hl;have hbi:b≠id:=fun q=>by rw[q,hl] at hb0;cases hb0
 obtain⟨vals0,q1,q2,q3,q4⟩:=hs.wok.objs b _ hb0;have hv:vals0.getD j undef=.map (some (E.blk id)):=(q4 j _ hj).2.2 [] [] hl;refine⟨E,h1.cC false (fun _=>⟨rfl,.inr (.inl ⟨eb,bs',_,hb,rfl⟩)⟩) hnd' aa (fun i hi=>⟨rfl,rfl⟩) (.inr J) none ⟨rfl,rfl,rfl,aak _,fun _ _ _=>rfl⟩ (fun _=>aak _) (fun g hg=>by cases hg) (fun b' hb'=>.inl ⟨_,hb,hb'⟩) (fun rep sv=>?_)⟩;obtain⟨vals,g1,g2,g3,g4⟩:=h1.wok.objs b _ hb;have hvv:vals=vals0:=by
  rw[q1] at g1;simp only[aaj,Obj.cells.injEq] at g1;have:=g1.1;simpa using this.symm
 subst hvv;refine⟨vals,g1,g2,by simpa[c5] using g3,fun i d hd=>?_⟩;by_cases hi:j=i
 ·subst hi;have hjl:j<bs'.length:=by rw[hbl];exact(aaz.1 hj).1
  rw[abI (by simpa[c5] using hjl)] at hd;simp only[aaj] at hd;subst hd;have h0:=q4 j _ hj;refine⟨rfl,h0.2.1,fun e1 c1 l1 hh=>?_,fun k1 c1 l1 hh=>hv⟩;exfalso;rw[show(ins b (Ob.box eb ((c5 b bs').set j (.nst id))) (iH false b (s.cC true id (.nmp [] [] none)).o)).lookup id=some (LB false b (.nmp [] [] none)) from by
   rw[ax,if_neg (abi hbi),cr];show((ins id _ _).lookup id).map _=_;rw[ax,if_pos rfl];rfl] at hh
  cases hh
 ·rw[abL hi] at hd;simp only[c5,aap,aao] at hd;obtain⟨d0,hd0,rfl⟩:=hd;have:=g4 i d0 hd0;split
  ·exact⟨this.1,this.2.1,sv _ _ this.2.2 ‹_›⟩
  ·exact⟨rfl,this.2.1,trivial⟩
theorem ba.UP (h:ba P w0 M0 E s a w)(hnd:Nodup s.s=true)(aa:∀b,M0 b→b<w0.w.heap.size)(hl:s.o.lookup id=some (.nmp ks (br r rows) none))(hu:u≠id){v:Value}
   (hv:match dK ks key with|some j=>v=E.sub id j|none=>v=.slice none 0 0) :
   ∃E':Env,E'.cur u=v∧ba P w0 M0 E' { n:=s.n,s:=s.s.filter (fun p=>p.2.stays true u),o:=ins u (.arr r (kA ks rows key)) (ins id (.nmp ks (br r rows) (wi ks key (.arr u))) (iH true u s.o)) } a w:=by
 obtain⟨es,clock,g1,g2,g3,g3',g3'',g4,g5⟩:=h.wok.objs id _ hl;have hkl:ks.length=rows.length:=by rw[g3'];simp
 obtain⟨E',e2,e1,e3,e4⟩:∃E':Env,E'.cur u=v∧(∀i,i≠u→E'.cur i=E.cur i)∧E'.blk=E.blk∧E'.sub=E.sub:=⟨{ E with cur:=fun i=>if i=u then v else E.cur i },if_pos rfl,fun i hi=>if_neg hi,rfl,rfl⟩;refine⟨E',e2,?_⟩;have hN:∀i q,(if i=u then some (some (Ob.arr r (kA ks rows key))) else if i=id then some (some (.nmp ks (br r rows) (wi ks key (.arr u)))) else none:Option (Option Ob))=some q→(i=u∧q=some (.arr r (kA ks rows key)))∨(i=id∧q=some (.nmp ks (br r rows) (wi ks key (.arr u)))):=fun i q hq=>by
   by_cases h1:i=u
   · rw[if_pos h1] at hq;injection hq with hq;exact .inl ⟨h1,hq.symm⟩
   · rw [if_neg h1] at hq
     by_cases h2:i=id
     · rw[if_pos h2] at hq;injection hq with hq;exact .inr ⟨h2,hq.symm⟩
     · rw[if_neg h2] at hq;cases hq
 have hsubs:∀f b,fX f b (br r rows) (wi ks key (.arr u))→fX f b (br r rows) none:=fun f b ⟨i,c,q1,q2,q3⟩=>⟨i,c,q1,by simp,q3⟩
 -- the part: at place j, or fresh and empty
 have hpart:(∃j,dK ks key=some j∧j<rows.length∧v=E.sub id j∧kA ks rows key=rows.getD j [])∨(dK ks key=none∧v=.slice none 0 0∧kA ks rows key=[]):=by
   unfold kA;cases hp:dK ks key with
   | none=>rw[hp] at hv;exact .inr ⟨rfl,hv,rfl⟩
   | some j =>
     rw[hp] at hv;refine .inl ⟨j,rfl,?_,hv,rfl⟩;have:=(aaz.1 (eP hp)).1;omega
 have hcj:∀j,j<rows.length→(br r rows)[j]?=some (.row r (rows.getD j [])):=fun j hj=>by
   rw[aap,aal hj,aag,aal hj];rfl
 refine ba.xj (E':=E') (SV.stays true u) (fun i=>if i=u then some (some (.arr r (kA ks rows key))) else if i=id then some (some (.nmp ks (br r rows) (wi ks key (.arr u)))) else none) _ (fun i=>?_) (fun d=>rfl) (fun i ob hq hx=>?_) (fun i hq=>?_) h hnd aa (fun i hq=>?_) (fun x hx=>by rw[e3]) none ⟨rfl,rfl,rfl,aak _,fun _ _ _=>rfl⟩ (fun _=>aak _) (fun g hg=>by cases hg) (fun i ob b hq hb=>.inl ?_) (fun i ob i' ob' b hq hq' hb hb'=>?_) (fun rep sv lents i ob hq=>?_)
 · rw [ax]
   by_cases h1:i=u
   · rw[if_pos h1,if_pos h1]
   · rw [if_neg h1, if_neg h1, ax]
     by_cases h2:i=id
     · rw[if_pos h2,if_pos h2]
     · rw[if_neg h2,if_neg h2];exact cr true u i s.o
 · rcases hN i _ hq with ⟨rfl, _⟩ | ⟨rfl, q⟩
   · obtain ⟨d, h1, h2⟩ := hx
     rw[hZ h1] at h2;cases h2
   · injection q with q; subst q
     exact⟨e1 i (abi hu),by rw[e3],.inr (.inr (.inr (.inr ⟨ks,_,none,ks,_,_,hl,rfl⟩)))⟩
 · rcases hN i _ hq with⟨_,q⟩|⟨_,q⟩<;>cases q
 · refine ⟨e1 i fun q => ?_, by rw [e3], by rw [e4]⟩
   rw[if_pos q] at hq;cases hq
 · refine ⟨id, _, by rw [if_neg (abi hu), if_pos J]; simp, hl, ?_⟩
   rcases hN i _ hq with⟨rfl,q⟩|⟨rfl,q⟩
   · injection q with q; subst q
     have hb:(E'.cur i).ownBlock=some b:=hb;rw[e2] at hb;rcases hpart with⟨j,p1,p2,p3,p4⟩|⟨p1,p2,p3⟩
     · rw [p3] at hb
       exact .inr ⟨j,_,hcj j p2,by simp,hb⟩
     · rw[p2] at hb;cases hb
   · injection q with q; subst q
     rcases hb with hb|hb
     · rw[e3] at hb;exact .inl hb
     · rw[e4] at hb;exact .inr (hsubs _ _ hb)
 · have key2 : ∀ b, v.ownBlock = some b → bE E' id b (.nmp ks (br r rows) (wi ks key (.arr u))) → False := fun b h1 h2 => by
     rcases hpart with⟨j,p1,p2,p3,p4⟩|⟨p1,p2,p3⟩
     · rw [p3] at h1
       rcases h2 with h2|⟨i2,c2,q1,q2,q3⟩
       · rw [e3] at h2
         exact g5 b ⟨j,_,hcj j p2,by simp,h1⟩ h2
       · rw [e4] at q3
         have:=g4.apart i2 j c2 _ b q1 (hcj j p2) (by simp) (by simp) q3 h1;subst this;exact q2 (by unfold wi;rw[p1];rfl)
     · rw[p2] at h1;cases h1
   rcases hN i _ hq with⟨rfl,q⟩|⟨rfl,q⟩
   · injection q with q; subst q
     rcases hN i' _ hq' with⟨rfl,q'⟩|⟨rfl,q'⟩
     · rfl
     · injection q' with q'; subst q'
       exact(key2 b (by rw[←e2];exact hb) hb').elim
   · injection q with q; subst q
     rcases hN i' _ hq' with⟨rfl,q'⟩|⟨rfl,q'⟩
     · injection q' with q'; subst q'
       exact(key2 b (by rw[←e2];exact hb') hb).elim
     · rfl
 · rcases hN i _ hq with ⟨rfl, q⟩ | ⟨rfl, q⟩
   · injection q with q; subst q
     rcases hpart with⟨j,p1,p2,p3,p4⟩|⟨p1,p2,p3⟩
     · have hr : sP P w0 M0 w E s.o r (kA ks rows key) (E.sub id j) := by rw [p4]; exact g4.ok j _ (hcj j p2) (by simp)
       obtain⟨vals',h1,h2,h3⟩:=hr;exact⟨vals',by rw[e2,p3];exact h1,h2,fun k d hd=>⟨(h3 k d hd).1,rep .pl _ _ (h3 k d hd).2 (by simp)⟩⟩
     · refine⟨[],⟨⟨by rw[p3];simp,.inl ⟨by rw[e2,p2],by rw[p3];rfl⟩⟩,(fun b hb=>by rw[e2,p2] at hb;cases hb)⟩,(fun x hx=>by rw[p3] at hx;cases hx),fun j d hd=>by rw[p3] at hd;simp[flat] at hd⟩
   · injection q with q; subst q
     refine⟨es,clock,by rw[e3];exact g1,by rw[e3];exact g2,g3,g3',by rw[e4];exact g3'',⟨fun k c hk hn=>by rw[e4];exact(g4.ok k c hk (by simp)).go (fun _ _=>rfl) (fun _ _ hf=>hf) (fun v d hr=>rep .pl v d hr (by simp)),fun i1 i2 c1 c2 b h1 h2 _ _ h5 h6=>by rw[e4] at h5 h6;exact g4.apart i1 i2 c1 c2 b h1 h2 (by simp) (by simp) h5 h6,fun k u' hk=>?_,fun k u' hk=>?_⟩,fun b hb=>by rw[e3];rw[e4] at hb;exact g5 b (hsubs _ _ hb)⟩
     · unfold wi at hk
       rw[aao] at hk;obtain⟨j,hj,hk⟩:=hk;cases hk;rcases hpart with⟨j',p1,p2,p3,p4⟩|⟨p1,p2,p3⟩
       · rw [hj] at p1; cases p1
         rw[e4,e2,p3]
       · rw[hj] at p1;cases p1
     · unfold wi at hk
       rw[aao] at hk;obtain⟨j,hj,hk⟩:=hk;cases hk
theorem Gm (ho:o.op=.lookup T x y false)(hd:o.dst=some t)(hn:Nat.blt t s.n=true)(hne:Nat.beq t id=false)(hnd:Nodup s.s=true)(hT:P.underlying T=some (.map kt et))(hkd:P.underlying kt=some kd)(hz:(P.info? et).bind (·.zero)=some (.slice none 0 0))
   (hx:s.ev x=some (.nst id))(hl:s.o.lookup id=some (.nmp ks (br r rows) none))(hy:aZ s.ev y=some key)(hk:IsKey kd key)(hks:∀u∈ks,IsKey kd u)(aa:∀b,M0 b→b<w0.w.heap.size) :
   Step P w0 M0 o s (({ n:=s.n,s:=s.s.filter (fun p=>p.2.stays true t),o:=ins t (.arr r (kA ks rows key)) (ins id (.nmp ks (br r rows) (wi ks key (.arr t))) (iH true t s.o)) }:St).put t (.own t)):=by
 rintro a w Q ⟨E,hs⟩;have hxv:a.eval x=.map (some (E.blk id)):=(hs.ev hx).2 ks _ none hl;have hyv:a.eval y=key:=bK (ρ:=s.ev) (x:=y) (ob:=s.o) (ev:=a.eval) (fun x e hx=>hs.ev hx) hy;obtain⟨es,clock,g1,g2,g3,g3',g3'',g4,g5⟩:=hs.wok.objs id _ hl;have hes:∀u∈es.toList,IsKey kd u.key:=fun u hu=>hks _ (by rw[←g3];exact acm hu)
 have hf:=jU hk es.toList 0 hes;rw[g3] at hf;have htid:t≠id:=fun q=>by rw[q,ab8] at hne;cases hne
 have hrun:∃v,(execOp a.eval o).run P w=.ok (.value v) w∧(match dK ks key with|some j=>v=E.sub id j|none=>v=.slice none 0 0):=by
   cases hi:P.info? et with
   | none=>rw[hi] at hz;cases hz
   | some it =>
     rw[hi] at hz;simp only[abO] at hz;cases hp:dK ks key with
     | none =>
       rw[hp] at hf;refine⟨.slice none 0 0,?_,rfl⟩;have:(Instr.lookup T (a.eval x) (a.eval y) false).run P w=.ok (.slice none 0 0) w:=by
         rw[hxv,hyv];simp[Instr.lookup,run_underlying hT,MapKept.run_getObj_map g1,run_checkKey hkd hk,run_findKey hkd hf,Result.andThen,zeroValue,typeInfo,hi,hz]
       simp[execOp,ho,this,Result.andThen]
     | some j =>
       rw[hp] at hf;have hj:j<(br r rows).length:=by rw[←g3'];exact(aaz.1 (eP hp)).1
       refine⟨E.sub id j,?_,rfl⟩;have:(Instr.lookup T (a.eval x) (a.eval y) false).run P w=.ok (E.sub id j) w:=by
         rw[hxv,hyv,←g3'' j hj];simp[Instr.lookup,run_underlying hT,MapKept.run_getObj_map g1,run_checkKey hkd hk,run_findKey hkd hf,Result.andThen]
       simp[execOp,ho,this,Result.andThen]
 obtain⟨v,hexec,hv⟩:=hrun;obtain⟨E',e2,hE⟩:=hs.UP (u:=t) hnd aa hl htid hv;unfold Oper.wp;rw[hexec];simp only[Oper.upon,hd];refine⟨E',ba.put hE (by simpa using hn) fun e' xs' _=>e2.symm⟩
theorem JN (ho:o.op=.mapUpdate T x y z) (hd:o.dst=none) (hnd:Nodup s.s=true) (hT:P.underlying T=some (.map kt et)) (hkd:P.underlying kt=some kd)
   (hx:s.ev x=some (.nst id))(hl:s.o.lookup id=some (.nmp ks (br r rows) (wi ks key .no)))(hy:aZ s.ev y=some key)(hz:s.ev z=some (.own u))(hlu:s.o.lookup u=some (.arr r xs))(hk:IsKey kd key)(hks:∀u∈ks,IsKey kd u)(aa:∀b,M0 b→b<w0.w.heap.size) :
   Step P w0 M0 o s { n:=s.n,s:=s.s.filter (fun p=>p.2.stays true u),o:=ins id (.nmp (fY ks key) (br r (th ks rows key xs)) none) (ie u (iH true u s.o)) }:=by
 rintro a w Q ⟨E,hs⟩;have hxv:a.eval x=.map (some (E.blk id)):=(hs.ev hx).2 ks _ _ hl;have hyv:a.eval y=key:=bK (ρ:=s.ev) (x:=y) (ob:=s.o) (ev:=a.eval) (fun x e hx=>hs.ev hx) hy;have hzv:a.eval z=E.cur u:=hs.ev hz r xs hlu;have hu:u≠id:=fun q=>by rw[q,hl] at hlu;cases hlu
 obtain⟨es,clock,g1,g2,g3,g3',g3'',g4,g5⟩:=hs.wok.objs id _ hl;have hkl:ks.length=rows.length:=by rw[g3'];simp
 have hes:∀u∈es.toList,IsKey kd u.key:=fun u hu=>hks _ (by rw[←g3];exact acm hu)
 have hf:=jU hk es.toList 0 hes;rw[g3] at hf;have hvl:(es.toList.map (·.val)).length=rows.length:=by rw[←hkl,←g3];simp
 have key3:∃(es':Array MapEntry)(clock' jn:Nat),(Instr.mapUpdate T (.map (some (E.blk id))) key (a.eval z)).run P w=.ok () (setBlock w (E.blk id) (.map es' clock'))∧es'.toList.map (·.key)=fY ks key∧(fY ks key).length=(th ks rows key xs).length ∧
     (∀i,i≠jn→(wi ks key dX.no).map (·.1)≠some i)∧(∀i,i<(th ks rows key xs).length→(i=jn∧(es'.toList.map (·.val)).getD i undef=E.cur u∧(th ks rows key xs).getD i []=xs)∨(i≠jn∧i<rows.length∧(wi ks key dX.no).map (·.1)≠some i∧(es'.toList.map (·.val)).getD i undef=E.sub id i∧(th ks rows key xs).getD i []=rows.getD i [])):=by
   unfold fY th wi;cases hp:dK ks key with
   | none =>
     rw[hp] at hf;simp[Option.map] at hf;refine⟨es.push ⟨key,a.eval z,clock⟩,clock+1,rows.length,?_,by simp[g3],by simp[hkl],fun i hi=>by simp,fun i hi=>?_⟩
     · simp[Instr.mapUpdate,run_underlying hT,MapKept.run_getObj_map g1,run_checkKey hkd hk,run_findKey hkd hf,MapKept.run_setObj_map _ g1,Result.andThen,setBlock]
     · simp only [Array.toList_push, aas, acD]
       rw[aag,aag];rcases aaK i rows.length with hj|hj
       · rw [aaH acK, aaH acK, ← aag, ← aag]
         exact .inr ⟨acK,hj,by simp,g3'' i (by simpa using hj),rfl⟩
       · have hi' : i = rows.length := by rw [aar] at hi; simp at hi; omega
         subst hi';rw[aaE acK,hvl,ach,aaE (aak _),ach];exact .inl ⟨rfl,by simpa using hzv,rfl⟩
   | some j =>
     rw[hp] at hf;simp[Option.map] at hf;have hki:=eP hp;have hjl:j<rows.length:=by rw[←hkl];exact(aaz.1 hki).1
     rw[←g3,aap,aao] at hki;obtain⟨e0,he0,hek⟩:=hki;rw[aaS] at he0;have hkeys:(es.modify j fun e=>{ e with key:=key,val:=a.eval z }).toList.map (·.key)=ks:=by
       rw[modify_keys j _ (fun e he=>by rw[he0] at he;simp only[aaj] at he;subst he;exact hek.symm),g3]
     refine⟨es.modify j fun e=>{ e with key:=key,val:=a.eval z },clock,j,?_,hkeys,by simp[hkl],fun i hi=>by simpa using abi hi,fun i hi=>?_⟩
     · have hst := run_keyThatStays (P := P) (w := w) hk
       simp[Instr.mapUpdate,run_underlying hT,MapKept.run_getObj_map g1,run_checkKey hkd hk,run_findKey hkd hf,MapKept.run_setObj_map _ g1,Result.andThen,setBlock,he0,hek,hst]
     · rw [ab3] at hi
       rw[aag,aap,aaS,Array.getElem?_modify,aag (l:=rows.set j xs),List.getElem?_set];by_cases hij:j=i
       · subst hij
         rw[if_pos rfl,he0,if_pos rfl,if_pos hjl];exact .inl ⟨rfl,by simpa using hzv,rfl⟩
       · rw [if_neg hij, if_neg hij, ← aaS, ← aap, ← aag, ← aag]
         exact .inr ⟨abi hij,hi,by simpa using hij,g3'' i (by simpa using hi),rfl⟩
 obtain⟨es',clock',jn,hrun,hkeys,hlen,hjn,hcell⟩:=key3;unfold Oper.wp;have hexec:(execOp a.eval o).run P w=.ok .skip (setBlock w (E.blk id) (.map es' clock')):=by
   simp[execOp,ho,hxv,hyv,hrun,Result.andThen]
 rw[hexec];simp only[Oper.upon,hd,Act.put];have hgrow:w.grownBy (setBlock w (E.blk id) (.map es' clock')) (some (E.blk id)):=⟨rfl,rfl,rfl,by simp[setBlock],fun i _ hi=>heap_setBlock_other g1 _ (fun e=>hi (by rw[e]))⟩;obtain⟨E',e1,e2,e3,e4⟩:∃E':Env,E'.cur=E.cur∧E'.blk=E.blk∧(∀i,E'.sub id i=(es'.toList.map (·.val)).getD i undef)∧(∀i,i≠id→E'.sub i=E.sub i) :=
   ⟨{ E with sub:=fun i=>if i=id then fun k=>(es'.toList.map (·.val)).getD k undef else E.sub i },rfl,rfl,fun i=>by simp,fun i hi=>if_neg hi⟩
 generalize hrows:th ks rows key xs=rows' at *;have hN:∀i q,(if i=u then some none else if i=id then some (some (Ob.nmp (fY ks key) (br r rows') none)) else none:Option (Option Ob))=some q→(i=u∧q=none)∨(i=id∧q=some (.nmp (fY ks key) (br r rows') none)):=fun i q hq=>by
   by_cases h1:i=u
   · rw[if_pos h1] at hq;injection hq with hq;exact .inl ⟨h1,hq.symm⟩
   · rw [if_neg h1] at hq
     by_cases h2:i=id
     · rw[if_pos h2] at hq;injection hq with hq;exact .inr ⟨h2,hq.symm⟩
     · rw[if_neg h2] at hq;cases hq
 -- the parts of the map behind it
 have part:∀(i:Nat) c,(br r rows')[i]?=some c→(i=jn∧E'.sub id i=E.cur u∧c=.row r xs)∨(i≠jn∧(wi ks key dX.no).map (·.1)≠some i∧E'.sub id i=E.sub id i∧(br r rows)[i]?=some c):=fun i c hc=>by
   obtain⟨h1,h2⟩:=Mt hc;rcases hcell i h1 with⟨q1,q2,q3⟩|⟨q1,q2,q3,q4,q5⟩
   · exact .inl ⟨q1,by rw[e3];exact q2,by rw[h2,q3]⟩
   · refine .inr ⟨q1, q3, by rw [e3]; exact q4, ?_⟩
     rw[h2,q5,aap,aal q2,aag,aal q2];rfl
 have hsub:∀b,fX (E'.sub id) b (br r rows') none→bE E u b (.arr r xs)∨fX (E.sub id) b (br r rows) (wi ks key .no):=fun b ⟨i,c,q1,_,q3⟩=>by
   rcases part i c q1 with⟨p1,p2,p3⟩|⟨p1,p2,p3,p4⟩
   · subst p3
     refine .inl ?_;show(E.cur u).ownBlock=some b;rw[←p2];exact q3
   · rw [p3] at q3
     exact .inr ⟨i,c,p4,p2,q3⟩
 have apart:∀b,bE E u b (.arr r xs)→bE E id b (.nmp ks (br r rows) (wi ks key .no))→False:=fun b q1 q2=>hu (hs.wok.disj u _ id _ b hlu hl q1 q2)
 refine⟨E',ba.xj (E':=E') (SV.stays true u) (fun i=>if i=u then some none else if i=id then some (some (.nmp (fY ks key) (br r rows') none)) else none) _ (fun i=>?_) (fun d=>rfl) (fun i ob hq hx=>?_) (fun i hq=>⟨by rw[e1],by rw[e2]⟩) hs hnd aa (fun i hq=>⟨by rw[e1],by rw[e2],e4 i fun q=>?_⟩) (fun x hx=>by rw[e2]) (some (E.blk id)) hgrow (fun _=>aak _) (fun g hg=>?_) (fun i ob b hq hb=>.inl ?_) (fun i ob i' ob' b hq hq' hb hb'=>?_) (fun rep sv lents i ob hq=>?_)⟩
 · rw [ax]
   by_cases h2:i=id
   · rw[if_pos h2,if_neg (fun q=>hu (q.symm.trans h2)),if_pos h2]
   · rw [if_neg h2, c9]
     by_cases h1:i=u
     · rw[if_pos h1,if_pos h1]
     · rw[if_neg h1,if_neg h1,if_neg h2];exact cr true u i s.o
 · rcases hN i _ hq with ⟨_, q⟩ | ⟨rfl, q⟩
   · cases q
   · injection q with q; subst q
     exact⟨by rw[e1],by rw[e2],.inr (.inr (.inr (.inr ⟨ks,_,_,_,_,_,hl,rfl⟩)))⟩
 · subst q
   rw[if_neg (abi hu),if_pos rfl] at hq;cases hq
 · injection hg with hg; subst hg
   exact⟨id,_,by rw[if_neg (abi hu),if_pos J];simp,hl,.inl J⟩
 · rcases hN i _ hq with ⟨_, q⟩ | ⟨rfl, q⟩
   · cases q
   · injection q with q; subst q
     rcases hb with hb|hb
     · rw [e2] at hb
       exact⟨i,_,by rw[if_neg (abi hu),if_pos J];simp,hl,.inl hb⟩
     · rcases hsub b hb with q1 | q1
       · exact⟨u,_,by rw[if_pos J];simp,hlu,q1⟩
       · exact⟨i,_,by rw[if_neg (abi hu),if_pos J];simp,hl,.inr q1⟩
 · rcases hN i _ hq with ⟨_, q⟩ | ⟨rfl, _⟩
   · cases q
   · rcases hN i' _ hq' with ⟨_, q⟩ | ⟨rfl, _⟩
     · cases q
     · rfl
 · rcases hN i _ hq with ⟨_, q⟩ | ⟨rfl, q⟩
   · cases q
   · injection q with q; subst q
     obtain⟨vals',h1,h2,h3⟩:=hs.wok.objs u _ hlu;have hub:∀b,(E.cur u).ownBlock=some b→b≠E.blk i:=fun b q e=>apart b q (.inl e.symm)
     refine⟨es',clock',by rw[e2];exact heap_setBlock_same g1 _,by rw[e2];exact g2,hkeys,by rw[hlen];simp,fun j hj=>(e3 j).symm,⟨fun k c hk' _=>?_,fun i1 i2 c1 c2 b q1 q2 _ _ q5 q6=>?_,(fun k u' hk=>by cases hk),(fun k u' hk=>by cases hk)⟩,fun b hb=>?_⟩
     · rcases part k c hk' with ⟨p1, p2, p3⟩ | ⟨p1, p2, p3, p4⟩
       · subst p3
         rw[p2];refine⟨vals',⟨h1.1.kept hgrow ?_,h1.2⟩,h2,fun k d hd=>⟨(h3 k d hd).1,rep .pl _ _ (h3 k d hd).2 (by simp)⟩⟩;cases hb:(E.cur u).ownBlock with
         | none=>exact .inl rfl
         | some b=>exact .inr fun q=>hub b hb (by injection q)
       · rw [p3]
         exact(g4.ok k c p4 p2).go (fun b hb=>hgrow.block b ((g4.ok k c p4 p2).range hb).2 fun q=>g5 b ⟨k,c,p4,p2,hb⟩ (by injection q with q;exact q.symm)) (fun _ _ hf=>hf) (fun v d hr=>rep .pl v d hr (by simp))
     · rcases part i1 c1 q1 with ⟨p1, p2, p3⟩ | ⟨p1, p2, p3, p4⟩
       · rcases part i2 c2 q2 with ⟨p5, p6, p7⟩ | ⟨p5, p6, p7, p8⟩
         · rw[p1,p5]
         · subst p3
           rw[p2] at q5;rw[p7] at q6;exact(apart b q5 (.inr ⟨i2,c2,p8,p6,q6⟩)).elim
       · rcases part i2 c2 q2 with ⟨p5, p6, p7⟩ | ⟨p5, p6, p7, p8⟩
         · subst p7
           rw[p6] at q6;rw[p3] at q5;exact(apart b q6 (.inr ⟨i1,c1,p4,p2,q5⟩)).elim
         · rw [p3] at q5; rw [p7] at q6
           exact g4.apart i1 i2 c1 c2 b p4 p8 p2 p6 q5 q6
     · rw [e2]
       rcases hsub b hb with q1|q1
       · exact fun q=>apart b q1 (.inl q)
       · exact g5 b q1
end
section
variable {P:Program} {w0:Fr}{M0:Nat→Prop}{G X:List (Nat×SV)}{o1 o2:List (Nat×Ob)}{n t:Nat}{o:Oper}
theorem DV {cx:Operand}{xs:Array Operand}{ats:Array TypeId}{f:FuncId}{dc:SV}{caps svs args:List SV}{r:SV}{oc oc':List (Nat×Ob)}(ρ:List (Nat×Nat))(ho:o.op=.call { callee:=.value cx,args:=xs,argTypes:=ats })(hd:o.dst=some t)(hn:Nat.blt t n=true)(hnd:Nodup X=true)
  (hc:(⟨n,X,o1⟩:St).ev cx=some dc)(hcc:nE dc=some (f,caps))(ha:Po ⟨n,X,o1⟩ xs.toList=some svs)(h:lz P f args oc r oc')(hargs:lj ⟨n,X,o1⟩ ρ (cR ρ oc) (svs++caps) args)(hob:oB ⟨n,X,o1⟩ ρ oc)(hinj:jo (cR ρ oc)=true)(hsame:oc.map (fun p=>(p.1,p.2.kind))=oc'.map (fun p=>(p.1,p.2.kind)))
  (hbig:oc.all (fun p=>Nat.beq p.2.kind 0||Nat.ble 1000000 p.1)=true)(hpl:oc'.all (fun p=>p.2.plain (oc'.map (·.1)))=true)(hr:r.plain (oc'.map (·.1))=true)
  (dH:∀t d,X.lookup t=some d→G.lookup t=some d)(S2:G.lookup t=some (r.kl ρ))
  (ho2:(o1.map fun p=>(p.1,((zH ρ oc').lookup p.1).getD (p.2.after (cR ρ oc'))))=o2)(hok:UN (fun d=>d.safe (cR ρ oc')) n t o2 G=true)(aa:∀b,M0 b→b<w0.w.heap.size) :
  ∃s',Step P w0 M0 o ⟨n,X,o1⟩ s'∧fF P w0 M0 s' ⟨n,sf G X o,o2⟩:=by
 refine⟨_,aP (s:=⟨n,X,o1⟩) ρ ho hd hn hnd hc hcc ha h hargs hob hinj hsame hbig hpl hr aa,?_⟩;rw[B2 hd S2];exact B3 (p:=fun d=>d.safe (cR ρ oc')) hnd dH hok J ho2 fun x=>ax t x _ _
variable {T kt et r:TypeId}{kd:TypeDesc}{ks:List Value}{rows:List (List AV)}{key:Value}{x y z:Operand}{id u:Nat}{xs:List AV}
theorem DW (ho:o.op=.lookup T x y false)(hd:o.dst=some t)(hn:Nat.blt t n=true)(hne:Nat.beq t id=false)(hnd:Nodup X=true)(hT:P.underlying T=some (.map kt et))(hkd:P.underlying kt=some kd)(hz:(P.info? et).bind (·.zero)=some (.slice none 0 0))
  (hx:(⟨n,X,o1⟩:St).ev x=some (.nst id))(hl:o1.lookup id=some (.nmp ks (br r rows) none))(hy:aZ (⟨n,X,o1⟩:St).ev y=some key)(hk:IsKey kd key)(hks:∀u∈ks,IsKey kd u)
  (dH:∀t d,X.lookup t=some d→G.lookup t=some d)(S2:G.lookup t=some (.own t))
  (ho2:ins t (.arr r (kA ks rows key)) (ins id (.nmp ks (br r rows) (wi ks key (.arr t))) (iH true t o1))=o2)(hok:UN (fun d=>d.stays true t) n t o2 G=true)(aa:∀b,M0 b→b<w0.w.heap.size) :
  ∃s',Step P w0 M0 o ⟨n,X,o1⟩ s'∧fF P w0 M0 s' ⟨n,sf G X o,o2⟩:=by
 refine⟨_,Gm (s:=⟨n,X,o1⟩) ho hd hn hne hnd hT hkd hz hx hl hy hk hks aa,?_⟩;rw[B2 hd S2];exact B3 (p:=fun d=>d.stays true t) hnd dH hok J ho2 fun x=>ax t x _ _
theorem oJ {ρ:Operand→Option SV}{ob:List (Nat×Ob)}{caps:List qI}{d:AV}(ho:o.op=.extract x i)(hx:ρ x=some (.hid PL caps))(hc:caps[i]?=some (.pl d)):Pure P w0 M0 o ρ ob (.v .pl d):=Ay ho hx hc
theorem xK {ρ:Operand→Option SV}{ob:List (Nat×Ob)}{caps:List qI}(ho:o.op=.extract x i)(hx:ρ x=some (.hid PL caps))(hc:caps[i]?=some (.ow id)):Pure P w0 M0 o ρ ob (.own id):=Ay ho hx hc
theorem Mv {s:St}(hnd:Nodup X=true)(dH:∀t d,X.lookup t=some d→G.lookup t=some d)(hok:(G.all fun q=>p q.2||(Nat.blt q.1 n&&q.2.gone o2))=true)(hn:s.n=n)(ho:s.o=o2)
  (hs:∀u,s.s.lookup u=(X.filter fun q=>p q.2).lookup u):fF P w0 M0 s ⟨n,X,o2⟩:=by
 refine DU hn.symm ho.symm fun u d hu=>?_
 rw[hs u];have h:=aaF.1 hok _ (dA (dH u d hu));simp only[aba,aax] at h;rcases h with h|⟨h1,h2⟩
 ·exact .inl (iE p X u d hnd hu h)
 ·exact .inr ⟨by rw[hn];simpa using h1,by rw[ho];exact h2⟩
theorem Gn (ho:o.op=.mapUpdate T x y z)(hd:o.dst=none)(hnd:Nodup X=true)(hT:P.underlying T=some (.map kt et))(hkd:P.underlying kt=some kd)
  (hx:(⟨n,X,o1⟩:St).ev x=some (.nst id))(hl:o1.lookup id=some (.nmp ks (br r rows) (wi ks key .no)))(hy:aZ (⟨n,X,o1⟩:St).ev y=some key)(hz:(⟨n,X,o1⟩:St).ev z=some (.own u))(hlu:o1.lookup u=some (.arr r xs))(hk:IsKey kd key)(hks:∀u∈ks,IsKey kd u)
  (dH:∀t d,X.lookup t=some d→G.lookup t=some d)
  (ho2:ins id (.nmp (fY ks key) (br r (th ks rows key xs)) none) (ie u (iH true u o1))=o2)(hok:(G.all fun q=>q.2.stays true u||(Nat.blt q.1 n&&q.2.gone o2))=true)(aa:∀b,M0 b→b<w0.w.heap.size) :
  ∃s',Step P w0 M0 o ⟨n,X,o1⟩ s'∧fF P w0 M0 s' ⟨n,sf G X o,o2⟩:=by
 refine⟨_,JN (s:=⟨n,X,o1⟩) ho hd hnd hT hkd hx hl hy hz hlu hk hks aa,?_⟩;rw[AA hd];exact Mv (p:=fun d=>d.stays true u) hnd dH hok J ho2 fun x=>rfl
end
section
variable {P:Program} {w0:Fr}{M0:Nat→Prop}{s:St}{o:Oper}{id t u k b:Nat}{e r T:TypeId}{ks:List Value}{cs:List Cell}{xs:List AV}{x y:Operand}{E:Env}{a:Act}{w:World}
theorem Gp {n:Int}{q q':IntKind}(ho:o.op=.makeSlice T x y)(hd:o.dst=some t)(hn:Nat.blt t s.n=true)(hnd:Nodup s.s=true)(hT:P.underlying T=some (.slice e))(hel:iK P e k b=true)
  (hx:aZ s.ev x=some (.int q 0))(hy:aZ s.ev y=some (.int q' n))(h0:0≤n)(hb:b*n.toNat≤281474976710656)(hm:n≤4611686018427387904)(aa:∀b,M0 b→b<w0.w.heap.size):Step P w0 M0 o s ((s.cC true t (.arr e [])).put t (.own t)):=by
 rintro a w Q ⟨E,hs⟩;obtain⟨i,zz,hi,hzz,hsz,hby,hzs,hk0,hck⟩:=gJ hel;have hx':a.eval x=.int q 0:=bK (ρ:=s.ev) (x:=x) (ob:=s.o) (ev:=a.eval) (fun x e hx=>hs.ev hx) hx;have hy':a.eval y=.int q' n:=bK (ρ:=s.ev) (x:=y) (ob:=s.o) (ev:=a.eval) (fun x e hx=>hs.ev hx) hy;obtain⟨w',hrun,hown,hg⟩:=run_make_own (P:=P) w 0 T e i zz k hT hi hzz hsz q q' n.toNat (by rw[hby];exact hb) (by simp only[maxLen];omega) (aan _);rw[Int.toNat_of_nonneg h0] at hrun;unfold Oper.wp;have hexec:(execOp a.eval o).run P w=.ok (.value (.slice (some ⟨w.heap.size,0,none⟩) 0 n.toNat)) w':=by
  simp only[execOp,ho,hx',hy',Sem.run_bind,hrun,Result.andThen_ok,Sem.run_pure]
 rw[hexec];simp only[Oper.upon,hd];refine⟨{ E with cur:=fun i=>if i=t then .slice (some ⟨w.heap.size,0,none⟩) 0 n.toNat else E.cur i },ba.put ?_ (by simpa[St.cC] using hn) ff⟩;refine hs.ox hnd aa hg (fun _=>lQ _ _ _ _ hrun) (vals:=[]) (by rw[hck];exact hown) (fun b hb=>?_) (fun v hv=>by cases hv) (fun j d hd=>by simp[flat] at hd);simp only[Value.ownBlock,aaj] at hb;omega
theorem ba.Mw (h:ba P w0 M0 E s a w)(hnd:Nodup s.s=true)(aa:∀b,M0 b→b<w0.w.heap.size)(hl:s.o.lookup id=some (.nmp ks cs none)):ba P w0 M0 E (s.cC true id (.mp ks (cs.map Cell.av))) a w:=by
 obtain⟨es,clock,g1,g2,g3,g3',g3'',g4,g5⟩:=h.wok.objs id _ hl;refine h.cC true (fun q=>by cases q) hnd aa (fun i hi=>⟨rfl,rfl⟩) (.inr J) none ⟨rfl,rfl,rfl,aak _,fun _ _ _=>rfl⟩ (fun _=>aak _) (fun g hg=>by cases hg) (fun b hb=>.inl ⟨_,hl,.inl hb⟩) (fun rep sv=>?_);refine⟨es,clock,g1,g2,g3,by rw[aai];exact g3',fun j d hd=>?_⟩;rw[aap,aao] at hd;obtain⟨c,hc,rfl⟩:=hd;have hj:j<cs.length:=(aaz.1 hc).1;rw[g3'' j hj];refine(g4.ok j c hc (by simp)).rep (fun v d hr=>rep .pl v d hr (by simp)) fun g hg hm=>?_
 have hsub:fX (E.sub id) g cs none:=⟨j,c,hc,by simp,hg⟩;rcases hm with hm|⟨i,ob,q1,q2⟩
 ·exact(g4.range hsub).1.2 hm
 ·by_cases hi:i=id
  ·subst hi;rw[ax,if_pos rfl] at q1;simp only[aaj] at q1;subst q1;exact g5 g hsub q2
  ·rw[ax,if_neg hi,cr,aao] at q1;obtain⟨ob0,q3,rfl⟩:=q1;exact hi (h.wok.disj i ob0 id _ g q3 hl (iB.1 q2) (.inr hsub))
theorem Gq (b j:Nat){eb:TypeId}{bs bs':List SV}(aa:∀b,M0 b→b<w0.w.heap.size)(hnd:Nodup s.s=true)(hb0:s.o.lookup b=some (.box eb bs))(hj:bs[j]?=some (.nst id))(hl:s.o.lookup id=some (.nmp ks cs none))
  (hb:(s.cC true id (.mp ks (cs.map Cell.av))).o.lookup b=some (.box eb bs'))(hbl:bs'.length=bs.length)
  (hnd':Nodup (s.cC true id (.mp ks (cs.map Cell.av))).s=true):fF P w0 M0 s ((s.cC true id (.mp ks (cs.map Cell.av))).cC false b (.box eb ((c5 b bs').set j (.omap id)))):=by
 rintro a w ⟨E,hs⟩;have h1:=hs.Mw hnd aa hl;have hbi:b≠id:=fun q=>by rw[q,hl] at hb0;cases hb0
 obtain⟨vals0,q1,q2,q3,q4⟩:=hs.wok.objs b _ hb0;have hv:vals0.getD j undef=.map (some (E.blk id)):=(q4 j _ hj).2.2.2 ks cs none hl;refine⟨E,h1.cC false (fun _=>⟨rfl,.inr (.inl ⟨eb,bs',_,hb,rfl⟩)⟩) hnd' aa (fun i hi=>⟨rfl,rfl⟩) (.inr J) none ⟨rfl,rfl,rfl,aak _,fun _ _ _=>rfl⟩ (fun _=>aak _) (fun g hg=>by cases hg) (fun b' hb'=>.inl ⟨_,hb,hb'⟩) (fun rep sv=>?_)⟩;obtain⟨vals,g1,g2,g3,g4⟩:=h1.wok.objs b _ hb;have hvv:vals=vals0:=by
  rw[q1] at g1;simp only[aaj,Obj.cells.injEq] at g1;have:=g1.1;simpa using this.symm
 subst hvv;refine⟨vals,g1,g2,by simpa[c5] using g3,fun i d hd=>?_⟩;by_cases hi:j=i
 ·subst hi;have hjl:j<bs'.length:=by rw[hbl];exact(aaz.1 hj).1
  rw[abI (by simpa[c5] using hjl)] at hd;simp only[aaj] at hd;subst hd;exact⟨rfl,(q4 j _ hj).2.1,fun e1 c1 hh=>hv⟩
 ·rw[abL hi] at hd;simp only[c5,aap,aao] at hd;obtain⟨d0,hd0,rfl⟩:=hd;have:=g4 i d0 hd0;split
  ·exact⟨this.1,this.2.1,sv _ _ this.2.2 ‹_›⟩
  ·exact⟨rfl,this.2.1,trivial⟩
end
section
variable {P:Program} {w w':World}
theorem xL {f n t:Nat}{c:Code}(hf:HO P f n t c){ds:List AV}{r:RV}(hn:ds.length≤n)
   (h:∀(w0:Fr)(M0:Nat→Prop),(∀b,M0 b→b<w0.w.heap.size)→w0.md=.marks→ao P w0 M0 c (St.enter n .pl ds) (zC t r)):aU P f ds r:=by
 refine⟨hf.bu,fun w M vs hM hv hr=>?_⟩;have h0:=h (Fr.allM True w) M hM rfl;rw[eU] at h0;obtain⟨fn,h1,h2,h3,h4,h5⟩:=hf;refine pU h1 h2 h3 (R:=fun v w'=>Below w.heap.size w w'∧iJ P w' M (fun b=>b<w.heap.size) v r) (by simpa using hn) vs (by simpa using hv) (fun j d hd=>?_) h0 (fun e s' a' w' E' hq hs=>?_)
 · rw [aap, aao] at hd
   obtain⟨a,ha,rfl⟩:=hd;have:=hr j a ha;simp only[bm,ei];exact this.cd (fun b hb=>Or.elim hb id (fun h=>False.elim h))
 · have fin : (s'.s.lookup t).bind (bR s'.o) = some r → ∀ w4, iL w.heap.size w' w4 → ∃ v, (results fn a'.tmps).run P w4 = .ok v w4 ∧ Below w.heap.size w w4 ∧ iJ P w4 M (fun b => b < w.heap.size) v r := fun hx w4 hd => by
     refine⟨a'.tmps.getD t undef,by simp[results,h4],bB.trans hs.wok.below.below hd.grown,hd.ret ?_⟩;cases hl:s'.s.lookup t with
     | none=>rw[hl] at hx;cases hx
     | some sv =>
       rw[hl] at hx;exact dY hs.wok (hs.slots t sv hl).2 hx
   cases e with
   | normal=>exact⟨.inl rfl,fin hq⟩
   | ret=>exact⟨.inr rfl,fin hq⟩
   | exit _=>exact hq.elim
   | goto _=>exact hq.elim
   | panic _=>exact hq.elim
   | outgrown=>exact hq.elim
theorem wj {f n t u v:Nat}{c:Code}(hf:RE P f n t u v c){ds:List AV}{r r' r'':AV}(hn:ds.length≤n)
   (h:∀(w0:Fr)(M0:Nat→Prop),(∀b,M0 b→b<w0.w.heap.size)→w0.md=.marks→ao P w0 M0 c (St.enter n .pl ds) (L0 t u v r r' r'')):aU P f ds (.p (.tup [r,r',r''])):=by
 refine⟨hf.bu,fun w M vs hM hv hr=>?_⟩;have h0:=h (Fr.allM True w) M hM rfl;rw[eU] at h0;obtain⟨fn,h1,h2,h3,h4,h5⟩:=hf;refine pU h1 h2 h3 (R:=fun v w'=>Below w.heap.size w w'∧iJ P w' M (fun b=>b<w.heap.size) v (.p (.tup [r,r',r'']))) (by simpa using hn) vs (by simpa using hv) (fun j d hd=>?_) h0 (fun e s' a' w' E' hq hs=>?_)
 · rw [aap, aao] at hd
   obtain⟨a,ha,rfl⟩:=hd;have:=hr j a ha;simp only[bm,ei];exact this.cd (fun b hb=>Or.elim hb id (fun h=>False.elim h))
 · have fin : ((∃ q, (s'.s.lookup t).bind (bR s'.o) = some q ∧ q.data = r) ∧ (∃ q, (s'.s.lookup u).bind (bR s'.o) = some q ∧ q.data = r') ∧ (∃ q, (s'.s.lookup v).bind (bR s'.o) = some q ∧ q.data = r'')) →
       ∀w4,iL w.heap.size w' w4→∃v,(results fn a'.tmps).run P w4=.ok v w4∧Below w.heap.size w w4∧iJ P w4 M (fun b=>b<w.heap.size) v (.p (.tup [r,r',r''])):=by
     rintro⟨⟨q1,hq1,hd1⟩,⟨q2,hq2,hd2⟩,⟨q3,hq3,hd3⟩⟩ w4 hdt;have one:∀x q,(s'.s.lookup x).bind (bR s'.o)=some q→bJ w4 M (a'.tmps.getD x undef) q.data:=by
       intro x q hx;cases hl:s'.s.lookup x with
       | none=>rw[hl] at hx;cases hx
       | some sv =>
         rw[hl] at hx;exact hdt.rep ((dY hs.wok (hs.slots x sv hl).2 hx).rep hM)
     have r1:=one t q1 hq1;have r2:=one u q2 hq2;have r3:=one v q3 hq3;rw[hd1] at r1;rw[hd2] at r2;rw[hd3] at r3;refine⟨.tuple #[a'.tmps.getD t undef,a'.tmps.getD u undef,a'.tmps.getD v undef],by simp[results,h4],bB.trans hs.wok.below.below hdt.grown,.tup [a'.tmps.getD t undef,a'.tmps.getD u undef,a'.tmps.getD v undef] [r,r',r''] J (fun j d hd=>by
       match j,hd with
       | 0,hd=>simp at hd;subst hd;exact r1
       | 1,hd=>simp at hd;subst hd;exact r2
       | 2,hd=>simp at hd;subst hd;exact r3
       | j+3,hd=>simp at hd)⟩
   cases e with
   | normal=>exact⟨.inl rfl,fin hq⟩
   | ret=>exact⟨.inr rfl,fin hq⟩
   | exit _=>exact hq.elim
   | goto _=>exact hq.elim
   | panic _=>exact hq.elim
   | outgrown=>exact hq.elim
end
end Go.Am
