/-
  Part of the proof.
-/
import Derived.Test.YtlapahnodhmcpaaGreatJ0
import Derived.Test.YtlapahnodhmcpaaGreatJ21
import Derived.Test.YtlapahnodhmcpaaGreatJ16
import Derived.Test.YtlapahnodhmcpaaGreatJ15
set_option linter.unusedVariables false
set_option linter.unusedSectionVars false
set_option linter.unusedSimpArgs false
set_option maxRecDepth 100000
set_option maxHeartbeats 40000000
namespace Go.Wb
open Go.Am
mutual
def dZ:Rx→Nat
 | .mk k s l=>if k=4 then 2+Uy l else if k=3 then 2+Zq l else if k=5 then 2+Uy l+(Rx.mk k s l).size else 2
def Uy:List Rx→Nat
 | []=>0
 | x :: l=>dZ x+Uy l
def Zq:List Rx→Nat
 | []=>0
 | x :: l=>2+dZ x+Rx.aB l+Zq l
end
theorem Va (r:Rx):dZ r=if r.kind=4 then 2+Uy r.kids else if r.kind=3 then 2+Zq r.kids else if r.kind=5 then 2+Uy r.kids+r.size else 2:=by cases r with|mk k s l=>rw[dZ];rfl
variable{r:Rx}
theorem aaJ (h:r.kind=5):dZ r=2+Uy r.kids+r.size:=by rw[Va,if_neg acK,if_neg acK,if_pos h]
variable{x:Rx}
theorem Nf.XA {y:Rx}(h:Nf x)(hy:y∈x.kids):Nf y:=by
 cases h with
 | none=>cases hy
 | empty=>cases hy
 | set h=>cases hy
 | seq h1 h2 h3=>exact h2 y hy
 | alt h1 h2 h3 h4 h5 h6=>exact h2 y hy
 | star h1 h2 h3=>rw[aay.1 hy];exact h1
variable{l:List Rx}
theorem Kc {p q:Rx→Prop}(hd:l.Pairwise (·≠·))(h:∀x∈l,p x∨q x)(hp:∀x∈l,∀y∈l,p x→p y→x=y)(hq:∀x∈l,∀y∈l,q x→q y→x=y):l.length≤2:=by
 match l,hd,h,hp,hq with
 | [],_,_,_,_=>exact aan _
 | [a],_,_,_,_=>exact Nat.le_succ _
 | [a,b],_,_,_,_=>exact aak _
 | a :: b :: c :: l, hd, h, hp, hq =>
   exfalso;have d1:=aa2.1 hd;have d2:=aa2.1 d1.2;have ab:=d1.1 b (by simp);have ac:=d1.1 c (by simp);have bc:=d2.1 c (by simp);have ma:a∈a :: b :: c :: l:=by simp
   have mb:b∈a :: b :: c :: l:=by simp
   have mc:c∈a :: b :: c :: l:=by simp
   rcases h a ma with ha|ha<;>rcases h b mb with hb|hb<;>rcases h c mc with hc|hc <;>
     first|exact ab (hp _ ma _ mb ha hb)|exact ac (hp _ ma _ mc ha hc)|exact bc (hp _ mb _ mc hb hc)|exact ab (hq _ ma _ mb ha hb)|exact ac (hq _ ma _ mc ha hc)|exact bc (hq _ mb _ mc hb hc)
theorem NA {a b:Rx}(ha:Nf a)(hb:Nf b)(ka:a.kind=3∨a.kind=5)(kb:b.kind=3∨b.kind=5)(h:cw a=cw b):a=b:=by
 rcases ka with ka|ka
 ·rcases kb with kb|kb
  ·rw[iM ka,iM kb] at h;rw[(ha.k3 ka).1,(hb.k3 kb).1,h]
  ·rw[ef (x:=b) acK acK] at h;exact yi ha h
 ·rw[ef (x:=a) acK acK] at h;exact(yi hb h.symm).symm
variable{t:Rx}
theorem Tx (ht:Nf t):((pC t).map cw).Pairwise (·≠·):=by
 have h1:(pC t).Pairwise (·≠·):=by
  unfold pC;refine List.Pairwise.filter _ ?_;by_cases h4:t.kind=4
  ·rw[gQ h4];exact acH (fun h=>h.2) (ht.k4 h4).2.2.2.2.1
  ·rw[jr h4];exact abR _ _
 rw[acs];refine List.Pairwise.imp_of_mem (fun{a b} ha hb hab e=>?_) h1;have h2:=GG ht ha;have h3:=GG ht hb;exact hab (NA h2.1 h3.1 h2.2 h3.2 e)
theorem Io (hx:Nf x)(ih:∀v M,M∈dJ x v→M.length≤Dd x){u:List Int}{M:List Rx}(h:M∈cv x u (dJ x u)):M.length≤Dd x:=by
 unfold cv at h;split at h
 · exact ih _ _ h
 · rcases aaC.1 h with rfl | h
   · by_cases k3 : (Dv x u).kind = 3
     · exact ih u _ ((oU hx).all u _ (la (.inl k3)))
     · have h1 := (R7 hx).1
       by_cases k1:(Dv x u).kind=1
       · rw[mj k1];exact aan _
       · rw[ef k3 k1];exact h1
   · exact ih _ _ h
theorem yo (h:Nf x):∀v M,M∈dJ x v→M.length≤Dd x:=by
 induction h with
 | none=>intro v M h;rw[nu acM acM acM] at h;cases h
 | empty=>intro v M h;rw[nu acM acM acM] at h;cases h
 | set h=>intro v M h;rw[nu (by simp[Rx.kind]) (by simp[Rx.kind]) (by simp[Rx.kind])] at h;cases h
 | @seq l h2 hn hk ih =>
   intro v M h;rw[Cj rfl] at h;obtain⟨pre,y,R,e,u,hu,M',hM,rfl⟩:=ir.1 h;have e':l=pre++y :: R:=e;have hy:y∈l:=by rw[e'];simp
   have h3:=Io (hn y hy) (ih y hy) hM;have h4:=Cn (n:=1) (l:=R) fun z hz=>(R7 (hn z (by rw[e'];simp[hz]))).1
   rw[uO (.inl rfl)];show _≤rC l;rw[e',Im,nX,aar];omega
 | @alt l h2 hn hk h4 h5 h6 ih =>
   intro v M h;rw[Ci rfl] at h;obtain⟨y,hy,h⟩:=j5.1 h;have h1:=ih y hy v M h;have h2:=Qg (l:=l) hy;rw[uO (.inr rfl)];show _≤rC l;omega
 | @star y hn hk h4 ih =>
   intro v M h;have e:dJ (.mk 5 [] [y]) v=[.mk 5 [] [y]] :: GH [y] v (.mk 5 [] [y]):=uM rfl v;rw[e] at h;rw[Nz rfl];show _≤1+rC [y];rw[Il];rcases aaC.1 h with rfl|h
   · exact Nat.le_add_right 1 _
   · obtain ⟨u, hu, M', hM, rfl⟩ := mq.1 h
     have:=Io hn ih hM;rw[aar,aaZ];omega
section
variable {C N R Z:Nat}{f F s S a A g G:Nat→Nat→Nat}
end
mutual
def wd:Rx→Nat
 | .mk _ s l=>max (max s.length l.length) (Ty l)
def Ty:List Rx→Nat
 | []=>0
 | x :: l=>max (wd x) (Ty l)
end
theorem NB {B:Nat}:∀{l:List Rx},Ty l≤B↔∀x∈l,wd x≤B
 | []=>by rw[Ty];exact⟨fun _ x hx=>(by cases hx),fun _=>aan _⟩
 | y :: l => by
   rw[Ty,Nat.max_le,NB (l:=l)];exact⟨fun h x hx=>by
     rcases aaC.1 hx with rfl|hx
     · exact h.1
     · exact h.2 x hx,fun h=>⟨h y aaq,fun x hx=>h x (aav _ hx)⟩⟩
theorem gT {B:Nat}:wd r≤B↔(r.syms.length≤B∧r.kids.length≤B)∧∀x∈r.kids,wd x≤B:=by
 cases r with|mk k s l =>
 rw[wd,Nat.max_le,Nat.max_le,NB];rfl
theorem iw {B:Nat}(h:wd r≤B)(hx:x∈r.kids):wd x≤B:=(gT.1 h).2 x hx
mutual
theorem Ip:∀ r:Rx,wd r≤r.size
 | .mk k s l => by
   rw[wd,Rx.size];have h1:=Ew l;have h2:=dh l;omega
theorem Ew:∀ l:List Rx,Ty l≤Rx.aB l
 | []=>aak _
 | x :: l => by
   rw[Ty,Rx.aB];have h1:=Ip x;have h2:=Ew l;omega
end
abbrev Pos:=Option Rx×List Rx
def Pos.on (R:List Rx)(e:Pos):Pos:=(e.1,e.2++R)
mutual
def tz:Rx→List Pos
 | .mk k s l=>if k=4 then Ex l else if k=3 then zO l else if k=5 then(none,[.mk k s l]) :: GM l (.mk k s l) else[]
def Ex:List Rx→List Pos
 | []=>[]
 | x :: l=>tz x++Ex l
def zO:List Rx→List Pos
 | []=>[]
 | x :: l=>(some x,l) :: ((tz x).map (Pos.on l)++zO l)
def GM:List Rx→Rx→List Pos
 | [],_=>[]
 | x :: _,r=>(some x,[r]) :: (tz x).map (Pos.on [r])
end
def NC (u:List Int)(e:Pos):List Rx:=(match e.1 with|some y=>cw (Dv y u)|none=>[])++e.2
theorem Iq (u:List Int)(R:List Rx)(e:Pos):NC u (Pos.on R e)=NC u e++R:=by unfold NC Pos.on;rw[aaY]
theorem Co (x:Rx):tz x=if x.kind=4 then Ex x.kids else if x.kind=3 then zO x.kids else if x.kind=5 then(none,[x]) :: GM x.kids x else[]:=by cases x with|mk k s l=>rw[tz];rfl
theorem Tz (h:x.kind=4):tz x=Ex x.kids:=by rw[Co,if_pos h]
theorem TA (h:x.kind=3):tz x=zO x.kids:=by rw[Co,if_neg acK,if_pos h]
theorem TB (h:x.kind=5):tz x=(none,[x]) :: GM x.kids x:=by rw[Co,if_neg acK,if_neg acK,if_pos h]
mutual
theorem tA:∀ x:Rx,(tz x).length+1≤2*x.size
 | .mk k s l => by
   rw[tz,Rx.size];have h1:=Ey l;have h2:=Ez l;have h3:=ND l (.mk k s l);have h4:=dh l;split
   · omega
   · split
     · omega
     · split
       · rw[aam];omega
       · rw[aat];omega
theorem Ey:∀ l:List Rx,(Ex l).length≤2*Rx.aB l
 | []=>aak _
 | x :: l => by
   rw[Ex,Rx.aB,aar];have h1:=tA x;have h2:=Ey l;omega
theorem Ez:∀ l:List Rx,(zO l).length≤2*Rx.aB l
 | []=>aak _
 | x :: l => by
   rw[zO,Rx.aB,aam,aar,aai];have h1:=tA x;have h2:=Ez l;omega
theorem ND:∀ (l:List Rx)(r:Rx),(GM l r).length≤2*Rx.aB l
 | [],r=>aak _
 | x :: l, r => by
   rw[GM,Rx.aB,aam,aai];have h1:=tA x;omega
end
theorem EA {e:Pos}:∀{l:List Rx}{x:Rx},x∈l→e∈tz x→e∈Ex l
 | y :: l, x, hx, he => by
   rw[Ex];rcases aaC.1 hx with rfl|hx
   · exact ab0 _ he
   · exact abY _ (EA hx he)
theorem EB {x:Rx}{R:List Rx}:∀pre:List Rx,(some x,R)∈zO (pre++x :: R)∧∀e∈tz x,Pos.on R e∈zO (pre++x :: R)
 | [] => by
   rw[abz,zO];exact⟨aaq,fun e he=>aav _ (ab0 _ (aaG.2 ⟨e,he,rfl⟩))⟩
 | y :: pre => by
   rw[abN,zO];have h:=EB (x:=x) (R:=R) pre;exact⟨aav _ (abY _ h.1),fun e he=>aav _ (abY _ (h.2 e he))⟩
theorem EC:∀ v:List Int,(iN v).length=v.length+1
 | []=>rfl
 | a :: v=>by rw[iN,aam,EC v];rfl
theorem Cp:∀ {u v:List Int},u∈iN v→u.length≤v.length
 | u,[],h=>by rw[iN,aay] at h;rw[h];exact aak _
 | u, a :: v, h => by
   rw[iN] at h;rcases aaC.1 h with rfl|h
   · exact aak _
   · have:=Cp h;rw[aam];omega
theorem oW {t u:List Int}:∀{v:List Int},t∈iN u→u∈iN v→t∈iN v
 | [],h,h'=>by rw[iN,aay] at h';rw[h'] at h;exact h
 | a :: v, h, h' => by
   rw[iN] at h' ⊢;rcases aaC.1 h' with rfl|h'
   · rw[iN] at h;exact h
   · exact aav _ (oW h h')
theorem uP:∀ {u v:List Int},u∈tv v→u∈iN v
 | u,[],h=>by rw[tv] at h;cases h
 | u, a :: v, h => by
   rw[tv] at h;rw[iN];rcases aaC.1 h with rfl|h
   · exact aaq
   · exact aav _ (uP h)
theorem yp {u:List Int}{T:List (List Rx)}{M:List Rx}(h:M∈cv x u T):M∈T∨M=cw (Dv x u):=by
 unfold cv at h;split at h
 ·exact .inl h
 ·exact(aaC.1 h).symm
theorem Qh (h:Nf x):∀v L,L∈dJ x v→∃e∈tz x,∃u∈iN v,L=NC u e:=by
 induction h with
 | none=>intro v M h;rw[nu acM acM acM] at h;cases h
 | empty=>intro v M h;rw[nu acM acM acM] at h;cases h
 | set h=>intro v M h;rw[nu (by simp[Rx.kind]) (by simp[Rx.kind]) (by simp[Rx.kind])] at h;cases h
 | @seq l h2 hn hk ih =>
   intro v L h;rw[Cj rfl] at h;obtain⟨pre,y,R,e,u,hu,M,hM,rfl⟩:=ir.1 h;have e':l=pre++y :: R:=e;subst e';have hp:=EB (x:=y) (R:=R) pre;rw[TA rfl];rcases yp hM with hM|hM
   · obtain ⟨p, hp', t, ht, rfl⟩ := ih y (by simp) u M hM
     exact⟨_,hp.2 p hp',t,oW ht hu,(Iq t R p).symm⟩
   · exact⟨_,hp.1,u,hu,by rw[hM];rfl⟩
 | @alt l h2 hn hk h4 h5 h6 ih =>
   intro v L h;rw[Ci rfl] at h;obtain⟨y,hy,h⟩:=j5.1 h;obtain⟨p,hp,t,ht,e⟩:=ih y hy v L h;rw[Tz rfl];exact⟨p,EA hy hp,t,ht,e⟩
 | @star y hn hk h4 ih =>
   intro v L h;rw[uM rfl] at h;rw[TB rfl];rcases aaC.1 h with rfl|h
   · exact⟨_,aaq,[],k9 v,rfl⟩
   · obtain ⟨u, hu, M, hM, rfl⟩ := mq.1 h
     have hu:=uP hu;show ∃e∈_ :: GM [y] _,_;rw[GM];rcases yp hM with hM|hM
     · obtain ⟨p, hp', t, ht, rfl⟩ := ih u M hM
       exact⟨_,aav _ (aav _ (aaG.2 ⟨p,hp',rfl⟩)),t,oW ht hu,(Iq t _ p).symm⟩
     · exact⟨_,aav _ aaq,u,hu,by rw[hM];rfl⟩
theorem NF {α:Type}:∀{l m:List α},l.Pairwise (·≠·)→(∀x∈l,x∈m)→l.length≤m.length
 | [],m,_,_=>aan _
 | x :: l, m, hp, h => by
   obtain⟨m1,m2,rfl⟩:=List.append_of_mem (h x aaq);have hp':=aa2.1 hp;have:=NF (l:=l) (m:=m1++m2) hp'.2 fun y hy=>by
     have h1:=h y (aav _ hy);rcases aaU.1 h1 with q|q
     · exact ab0 _ q
     · rcases aaC.1 q with q | q
       · exact absurd q.symm (hp'.1 y hy)
       · exact abY _ q
   rw[aar] at this ⊢;rw[aam,aam];omega
theorem vM {α β:Type}{f:α→List β}{n:Nat}(hf:∀a,(f a).length=n):∀l:List α,(l.flatMap f).length=l.length*n
 | []=>by simp
 | a :: l=>by rw[abt,aar,hf,vM hf l,aam,acw];omega
variable{v:List Int}
theorem Kd (hx:Nf x){LL:List (List Rx)}(hp:LL.Pairwise (·≠·))(h:∀L∈LL,L∈dJ x v):LL.length≤2*x.size*(v.length+1):=by
 have h1:=NF hp (m:=(tz x).flatMap fun e=>(iN v).map fun u=>NC u e) fun L hL=>by
  obtain⟨e,he,u,hu,e2⟩:=Qh hx v L (h L hL);exact abP.2 ⟨e,he,aaG.2 ⟨u,hu,e2.symm⟩⟩
 rw[vM (n:=v.length+1) fun e=>by rw[aai,EC]] at h1;have h2:=tA x;exact aaO h1 (abl _ acK)
structure R8 (x:Rx)(v:List Int)(t:Rx):Prop where
 nf:Nf t
 pC:∀a∈pC t,cw a∈dJ x v
theorem sq (hx:Nf x)(v:List Int):R8 x v (Dv x v):=⟨AW hx v,(oU hx).all v⟩
theorem NG {a:Rx}(hx:Nf x)(ha:Nf a)(hk:a.kind=3∨a.kind=5)(hc:cw a∈dJ x v)(b:Int):R8 x (v++[b]) (dR b a):=by
 refine⟨rO b ha,fun c hca=>?_⟩;rcases Ig ha hk hca with h3|⟨z,h3,h4,h5⟩
 ·exact(oU hx).step v b _ _ hc h3
 ·exact(oU hx).exp _ z ((oU hx).step v b _ _ hc h3) h4 c h5
variable{b:Int}{i:Nat}
theorem Vb (h:∀x∈l,Nf x)(hi:i<l.length):Nf (dQ b l i):=by
 refine kK fun z hz=>?_
 rcases aaC.1 hz with rfl|hz
 ·exact rO b (h _ (aQ hi))
 ·rw[aay.1 hz];exact kK fun u hu=>h u (aa0 hu)
theorem TC {a:Rx}(hx:Nf x)(ha:Nf a)(hk:a.kind=3)(hc:cw a∈dJ x v)(b:Int)(hi:i<a.kids.length):R8 x (v++[b]) (dQ b a.kids i):=by
 obtain⟨e,h2,hn,hkk⟩:=ha.k3 hk;refine⟨Vb hn hi,fun c hca=>?_⟩;have h3:=U5 hi hn hkk (yh hca);have h4:cw (dQ b a.kids i)∈rA b (cw a):=by rw[iM hk,h3.1];exact Cg hi h3.2
 rcases MY hca with q|⟨q,q4,qc⟩
 ·rw[q];exact(oU hx).step v b _ _ hc h4
 ·rw[q] at h4;exact(oU hx).exp _ _ ((oU hx).step v b _ _ hc h4) q4 c qc
theorem NH (ht:Nf t):(oM t).length≤(pC t).length+2:=by
 by_cases h4:t.kind=4
 · obtain ⟨e, h2, hn, hkk, hs, h22, _⟩ := ht.k4 h4
   have h5:∀l:List Rx,(l.filter fun a=>decide (3≤a.kind)).length+(l.filter fun a=>!decide (3≤a.kind)).length=l.length:=fun l=>by
     induction l with
     | nil=>rfl
     | cons y l ih =>
       by_cases q:3≤y.kind
       · rw[ack (by simp[q]),ab2 (by simp[q]),aam,aam];omega
       · rw[ab2 (by simp[q]),ack (by simp[q]),aam,aam];omega
   have h8:∀x∈t.kids.filter (fun x=>!decide (3≤x.kind)),x∈t.kids∧(x.kind=1∨x.kind=2):=fun x hx=>by
     have h9:=aa9.1 hx;have h10:=(hn x h9.1).kinds;have h11:=(hkk x h9.1).1;have h12:¬3≤x.kind:=by simpa using h9.2
     exact⟨h9.1,acK⟩
   have h10:=Kc (p:=fun x=>x.kind=1) (q:=fun x=>x.kind=2) (l:=t.kids.filter fun x=>!decide (3≤x.kind)) ((acH (fun h=>h.2) hs).filter _) (fun x hx=>(h8 x hx).2)
     (fun x hx y hy h h'=>by rw[(hn x (h8 x hx).1).k1 h,(hn y (h8 y hy).1).k1 h']) fun x hx y hy h h'=>h22 x (h8 x hx).1 y (h8 y hy).1 h h'
   have h6:pC t=t.kids.filter fun a=>decide (3≤a.kind):=by unfold pC;rw[gQ h4]
   rw[gQ h4,h6,←h5 t.kids];omega
 · rw[jr h4];show 1≤_;omega
theorem Cq (hx:Nf x)(h:R8 x v t):(oM t).length≤2*x.size*(v.length+1)+2:=by
 have h1:=NH h.nf;have h2:=Kd hx (Tx h.nf) (v:=v) fun L hL=>by
  obtain⟨a,ha,rfl⟩:=aaG.1 hL;exact h.pC a ha
 rw[aai] at h2;omega
theorem uQ (h:Nf x):x.syms.length≤64:=by
 cases h with
 | set h=>exact Kb h
 | _=>exact aan _
theorem Cr (h:Nf x):Dd x≤x.size:=by
 have hs:∀l:List Rx,(∀x∈l,Dd x≤x.size)→rC l≤Rx.aB l:=fun l hl=>by
   induction l with
   | nil=>exact aak _
   | cons y l ih =>
     rw[nX,Rx.aB];have h1:=ih fun z hz=>hl z (aav _ hz)
     have h2:=hl y aaq;omega
 induction h with
 | none=>decide
 | empty=>decide
 | @set s h =>
   rw[R5 rfl,eH];have:=(jH.1 h).1;omega
 | @seq l h2 hn hk ih=>rw[uO (.inl rfl),eH];have:=hs l ih;show rC l≤_;omega
 | @alt l h2 hn hk h4 h5 h6 ih=>rw[uO (.inr rfl),eH];have:=hs l ih;show rC l≤_;omega
 | @star y hn hk h4 ih=>rw[Nz rfl,eH];have:=hs [y] (fun z hz=>by rw[aay.1 hz];exact ih);show 1+rC [y]≤_;omega
theorem Qi (hx:Nf x)(h:R8 x v t):(cw t).length≤x.size:=by
 by_cases k3:t.kind=3
 ·have h1:=yo hx v _ (h.pC t (la (.inl k3)));have:=Cr hx;omega
 ·by_cases k1:t.kind=1
  ·rw[mj k1];exact aan _
  ·rw[ef k3 k1];exact size_pos x
theorem NI (h:Nf x):∀v L f,L∈dJ x v→f∈L→(∃y u,y.size<x.size∧Nf y∧u∈iN v∧f=Dv y u)∨(x.kind=5∧f=x):=by
 have inner:∀{x y:Rx}{u v:List Int}{M:List Rx}{f:Rx},Nf y→y.size<x.size→u∈iN v→(∀v L f,L∈dJ y v→f∈L→(∃z u,z.size<y.size∧Nf z∧u∈iN v∧f=Dv z u)∨(y.kind=5∧f=y))→M∈cv y u (dJ y u)→f∈M →
     ∃z u,z.size<x.size∧Nf z∧u∈iN v∧f=Dv z u:=fun{x y u v M f} hy hlt hu ih hM hf=>by
   have go:∀L,L∈dJ y u→f∈L→∃z u,z.size<x.size∧Nf z∧u∈iN v∧f=Dv z u:=fun L hL hf=>by
     rcases ih u L f hL hf with⟨z,t,h1,h2,h3,h4⟩|⟨_,h4⟩
     · exact⟨z,t,acK,h2,oW h3 hu,h4⟩
     · exact⟨y,[],hlt,hy,k9 v,by rw[GF];exact h4⟩
   rcases yp hM with hM|hM
   · exact go M hM hf
   · subst hM
     by_cases k3:(Dv y u).kind=3
     · exact go _ ((oU hy).all u _ (la (.inl k3))) hf
     · by_cases k1 : (Dv y u).kind = 1
       · rw[mj k1] at hf;cases hf
       · rw [ef k3 k1, aay] at hf
         exact⟨y,u,hlt,hy,hu,hf⟩
 induction h with
 | none=>intro v M f h;rw[nu acM acM acM] at h;cases h
 | empty=>intro v M f h;rw[nu acM acM acM] at h;cases h
 | set h=>intro v M f h;rw[nu (by simp[Rx.kind]) (by simp[Rx.kind]) (by simp[Rx.kind])] at h;cases h
 | @seq l h2 hn hk ih =>
   intro v L f h hf;rw[Cj rfl] at h;obtain⟨pre,y,R,e,u,hu,M,hM,rfl⟩:=ir.1 h;have e':l=pre++y :: R:=e;have hy:y∈l:=by rw[e'];simp
   rcases aaU.1 hf with hf|hf
   · exact .inl (inner (hn y hy) (de (r:=.mk 3 [] l) hy) hu (ih y hy) hM hf)
   · have hf' : f ∈ l := by rw [e']; simp [hf]
     exact .inl ⟨f,[],de (r:=.mk 3 [] l) hf',hn f hf',k9 v,rfl⟩
 | @alt l h2 hn hk h4 h5 h6 ih =>
   intro v L f h hf;rw[Ci rfl] at h;obtain⟨y,hy,h⟩:=j5.1 h;have hlt:=de (r:=.mk 4 [] l) hy;rcases ih y hy v L f h hf with⟨z,t,h1,h2,h3,h4⟩|⟨_,h4⟩
   · exact .inl ⟨z,t,acK,h2,h3,h4⟩
   · exact .inl ⟨y,[],hlt,hn y hy,k9 v,by rw[GF];exact h4⟩
 | @star y hn hk h4 ih =>
   intro v L f h hf;rw[uM rfl] at h;have hlt:y.size<(Rx.mk 5 [] [y]).size:=de (r:=.mk 5 [] [y]) aaq;rcases aaC.1 h with rfl|h
   · exact .inr ⟨rfl,aay.1 hf⟩
   · obtain ⟨u, hu, M, hM, rfl⟩ := mq.1 h
     rcases aaU.1 hf with hf|hf
     · exact .inl (inner hn hlt (uP hu) ih hM hf)
     · exact .inr ⟨rfl,aay.1 hf⟩
structure GN (B:Nat)(m:List Rx):Prop where
 syms:(c8 m).length≤B
 kids:(dV m).length≤B
 wide:∀x∈m,wd x≤B
inductive yq (B:Nat)(b:Int):Rx→Prop
 | mk {r:Rx}(h4:r.kind=4→GN B (r.kids.map (dR b)))(h3:r.kind=3→GN B (uJ b r.kids))(hs:r.kind=3∨r.kind=5→∀x∈r.kids,(cw (dR b x)).length≤B∧wd (dR b x)≤B)(hk:∀x,x∈r.kids→yq B b x):yq B b r
theorem yq.h4 {B:Nat}(h:yq B b r):r.kind=4→GN B (r.kids.map (dR b)):=by cases h;assumption
theorem yq.h3 {B:Nat}(h:yq B b r):r.kind=3→GN B (uJ b r.kids):=by cases h;assumption
theorem yq.hs {B:Nat}(h:yq B b r):r.kind=3∨r.kind=5→∀x∈r.kids,(cw (dR b x)).length≤B∧wd (dR b x)≤B:=by cases h;assumption
theorem yq.hk {B:Nat}(h:yq B b r):∀x,x∈r.kids→yq B b x:=by cases h;assumption
theorem Cs (h:Nf x)(hk:x.kind≤2):wd x≤64:=by
 have hl:=uQ h;have e:x.kids=[]:=by
  cases h with
  | none=>rfl
  | empty=>rfl
  | set h=>rfl
  | seq h1 h2 h3=>exact absurd hk (by show ¬(3:Int)≤2;decide)
  | alt h1 h2 h3 h4 h5 h6=>exact absurd hk (by show ¬(4:Int)≤2;decide)
  | star h1 h2 h3=>exact absurd hk (by show ¬(5:Int)≤2;decide)
 refine gT.2 ⟨⟨hl,by rw[e];exact aan _⟩,fun y hy=>?_⟩;rw[e] at hy;cases hy
section
variable {S N K:Nat}(hK:2*S*(N+2)+66≤K)
include hK
theorem room_le {s n:Nat}(hs:s≤S)(hn:n≤N+1):2*s*(n+1)+2≤K:=by have h1:2*s*(n+1)≤2*S*(N+2):=Nat.mul_le_mul acK acK;omega
theorem Qj:S+64≤K:=by have h1:2*S*2≤2*S*(N+2):=Nat.mul_le_mul_left _ acK;omega
theorem GO:∀ (n:Nat)(x:Rx),x.size≤n→Nf x→x.size≤S→∀v:List Int,v.length≤N+1→∀t,R8 x v t→wd t≤K:=by
 intro n
 induction n with
 | zero=>intro x h;have:=size_pos x;omega
 | succ n ih =>
 intro x hn hx hS v hv t ht;have hSK:=Qj hK;have fac:∀L f,L∈dJ x v→f∈L→wd f≤K:=fun L f hL hf=>by
  rcases NI hx v L f hL hf with⟨y,u,h1,h2,h3,h4⟩|⟨_,h4⟩
  ·rw[h4];have:=Cp h3;exact ih y acK h2 acK u acK _ (sq h2 u)
  ·rw[h4];have:=Ip x;omega
 have node:∀a,Nf a→(a.kind=3∨a.kind=5)→cw a∈dJ x v→wd a≤K:=fun a ha hk hc=>by
  rcases hk with hk|hk
  ·obtain⟨e,h2,_⟩:=ha.k3 hk;have h3:=yo hx v _ hc;have h4:=Cr hx;rw[iM hk] at h3;refine gT.2 ⟨⟨by rw[e];exact aan _,acK⟩,fun y hy=>fac _ y hc (by rw[iM hk];exact hy)⟩
  ·exact fac _ a hc (by rw[ef acK acK];exact aaq)
 have hkk:=ht.nf.kinds;by_cases h4:t.kind=4
 ·obtain⟨e,h2,hnk,hk4,_⟩:=ht.nf.k4 h4;have h3:=Cq hx ht;have h5:=room_le hK hS hv;rw[gQ h4] at h3;refine gT.2 ⟨⟨by rw[e];exact aan _,acK⟩,fun y hy=>?_⟩;have hyk:=(hnk y hy).kinds;by_cases q:3≤y.kind
  ·have:=hk4 y hy;have hya:y∈pC t:=lM.2 ⟨by rw[gQ h4];exact hy,q⟩;exact node y (hnk y hy) acK (ht.pC y hya)
  ·have:=Cs (hnk y hy) acK;omega
 ·by_cases q:3≤t.kind
  ·exact node t ht.nf acK (ht.pC t (la acK))
  ·have:=Cs ht.nf acK;omega
end
theorem A3 (x:Rx)(l:List Rx):aX (x :: l)=oM x++aX l:=rfl
theorem ED {n:Nat}:∀{m:List Rx},(∀x∈m,(oM x).length≤n)→(aX m).length≤m.length*n
 | [],_=>aan _
 | x :: m, h => by
   rw[A3,aar,aam,acw];have h1:=ED (m:=m) fun y hy=>h y (aav _ hy)
   have h2:=h x aaq;omega
theorem NJ (m:List Rx):(dV m).length≤(aX m).length:=by unfold dV;rw[tp];exact abx _ _
theorem GP:∀ (l:List Rx)(s:List Int),(l.foldl oO s).length=s.length+(c7 l).length:=by
 have key:∀(l:List Rx)(s:List Int),l.foldl oO s=s++l.foldl oO []:=fun l=>by
   induction l with
   | nil=>intro s;simp
   | cons x l ih =>
     intro s;rw[ab4,ab4,ih,ih (oO [] x)];by_cases h:x.kind=2
     · rw[uD h,uD h,aaY];rfl
     · rw[p9 h,p9 h];rfl
 intro l s;rw[key];exact aar
theorem lN (l m:List Rx):(c7 (l++m)).length=(c7 l).length+(c7 m).length:=by show((l++m).foldl oO []).length=_;rw[abB,GP];rfl
theorem yr:∀ {l:List Rx},(∀x∈l,x.kind≠2)→(c7 l).length=0
 | [],_=>rfl
 | x :: l, h => by
   rw[show x :: l=[x]++l from rfl,lN,yr fun y hy=>h y (aav _ hy)];show(oO [] x).length+0=0;rw[p9 (h x aaq)];rfl
theorem uR:∀ {l:List Rx},l.Pairwise (·≠·)→(∀x∈l,Nf x)→(∀x∈l,∀y∈l,x.kind=2→y.kind=2→x=y)→(c7 l).length≤64
 | [],_,_,_=>aan _
 | x :: l, hp, hn, h2 => by
   have hp':=aa2.1 hp;rw[show x :: l=[x]++l from rfl,lN];by_cases q:x.kind=2
   · rw [yr (l := l) fun y hy e => hp'.1 y hy (h2 x aaq y (aav _ hy) q e)]
     show(oO [] x).length+0≤64;rw[uD q];have:=uQ (hn x aaq);simpa using this
   · have h1 := uR hp'.2 (fun y hy => hn y (aav _ hy)) fun y hy z hz => h2 y (aav _ hy) z (aav _ hz)
     show(oO [] x).length+_≤64;rw[p9 q];simpa using h1
theorem Ke (h:Nf t):(c7 (oM t)).length≤64:=by
 by_cases h4:t.kind=4
 ·obtain⟨e,h2,hn,hkk,hs,h22,_⟩:=h.k4 h4;rw[gQ h4];exact uR (acH (fun h=>h.2) hs) hn h22
 ·rw[jr h4];exact uR (abR _ _) (fun x hx=>by rw[aay.1 hx];exact h) fun x hx y hy _ _=>by rw[aay.1 hx,aay.1 hy]
theorem EE:∀ {m:List Rx},(∀x∈m,Nf x)→(c8 m).length≤m.length*64
 | [],_=>aan _
 | x :: m, h => by
   show(c7 (oM x++aX m)).length≤_;rw[lN,aam,acw];have h1:=EE (m:=m) fun y hy=>h y (aav _ hy)
   have h2:=Ke (h x aaq);have h3:(c7 (aX m)).length=(c8 m).length:=rfl;omega
theorem Ct (b:Int):∀l:List Rx,(uJ b l).length≤l.length
 | []=>by rw[uJ];exact aan _
 | x :: l => by
   have h:=Ct b l;rw[uJ];split<;>simp only[aam,aat]<;>omega
section
variable {S N K B:Nat}(hK:2*S*(N+2)+66≤K)(hB:K*K≤B)
include hK hB
theorem TD:K≤B∧K*64≤B:=by have h1:=Qj hK;have h2:K*64≤K*K:=Nat.mul_le_mul_left _ acK;have h3:K*1≤K*64:=Nat.mul_le_mul_left _ acK;omega
theorem NK (hx:Nf x)(hS:x.size≤S)(hv:v.length≤N+1){m:List Rx}(hm:m.length≤K)(h:∀y∈m,R8 x v y∨(Nf y∧y.kind≤2)):GN B m:=by
 have hKB:=TD hK hB;have h0:=Qj hK;have hn:∀y∈m,Nf y:=fun y hy=>by rcases h y hy with h|h;exact h.nf;exact h.1
 refine⟨?_,?_,fun y hy=>?_⟩
 ·have h1:=EE hn;have h2:m.length*64≤K*64:=abl _ hm;omega
 ·have h1:=ED (m:=m) (n:=K) fun y hy=>by
   rcases h y hy with q|q
   ·exact aaO (Cq hx q) (room_le hK hS hv)
   ·rw[jr acK];show 1≤K;omega
  have h2:=NJ m;have h3:m.length*K≤K*K:=abl _ hm;omega
 ·rcases h y hy with q|q
  ·have:=GO hK _ x (aak _) hx hS v hv y q;omega
  ·have:=Cs q.1 q.2;omega
theorem Qk (b:Int):∀(n:Nat)(x:Rx),x.size≤n→Nf x→x.size≤S→∀v:List Int,v.length≤N→∀t,R8 x v t→yq B b t:=by
 intro n
 induction n with
 | zero=>intro x h;have:=size_pos x;omega
 | succ n ih =>
 intro x hn hx hS v hv t ht;have hSK:=Qj hK;have hKB:=TD hK hB;have facF:∀y u,Nf y→y.size≤S→u.length≤N→(cw (dR b (Dv y u))).length≤B∧wd (dR b (Dv y u))≤B:=fun y u hy hyS hu=>by
   rw[←q9];have h1:=Qi hy (sq hy (u++[b]));have h2:=GO hK _ y (aak _) hy hyS (u++[b]) (by simp;omega) _ (sq hy (u++[b]));exact⟨acK,acK⟩
 have self:x.kind=5→yq B b x:=fun h5=>by
   obtain⟨y,e,hy,_⟩:=hx.k5 h5;have hlt:y.size<x.size:=by rw[e];exact de (r:=.mk 5 [] [y]) aaq
   have hm:∀z∈x.kids,z=y:=fun z hz=>by rw[e] at hz;exact aay.1 hz
   refine .mk (fun q=>by omega) (fun q=>by omega) (fun _ z hz=>?_) fun z hz=>?_
   · rw[hm z hz];exact facF y [] hy acK (aan _)
   · rw[hm z hz];exact ih y acK hy acK [] (aan _) y (sq hy [])
 have fac:∀L f,L∈dJ x v→f∈L→yq B b f∧(cw (dR b f)).length≤B∧wd (dR b f)≤B:=fun L f hL hf=>by
   rcases NI hx v L f hL hf with⟨y,u,h1,h2,h3,h4⟩|⟨h5,h4⟩
   · rw [h4]
     have:=Cp h3;exact⟨ih y acK h2 acK u acK _ (sq h2 u),facF y u h2 acK acK⟩
   · rw[h4];exact⟨self h5,facF x [] hx hS (aan _)⟩
 have node:∀a,Nf a→(a.kind=3∨a.kind=5)→cw a∈dJ x v→yq B b a:=fun a ha hk hc=>by
   rcases hk with hk|hk
   · obtain ⟨e, h2, hnk, _⟩ := ha.k3 hk
     have h3:=yo hx v _ hc;have h4:=Cr hx;rw[iM hk] at h3;have hf:∀y∈a.kids,yq B b y∧(cw (dR b y)).length≤B∧wd (dR b y)≤B:=fun y hy=>fac _ y hc (by rw[iM hk];exact hy)
     refine .mk (fun q=>by omega) (fun _=>?_) (fun _ z hz=>(hf z hz).2) fun z hz=>(hf z hz).1
     refine NK hK hB hx hS (v:=v++[b]) (by simp;omega) (by have:=Ct b a.kids;omega) fun y hy=>?_
     obtain⟨i,hi,rfl⟩:=tt hy;exact .inl (TC hx ha hk hc b hi)
   · exact(fac _ a hc (by rw[ef acK acK];exact aaq)).1
 have low:∀y,Nf y→y.kind≤2→yq B b y:=fun y hy hk=>by
   have e:y.kids=[]:=by
     have h1:=Cs hy hk;cases hy with
     | none=>rfl
     | empty=>rfl
     | set h=>rfl
     | seq h1 h2 h3=>exact absurd hk (by show ¬(3:Int)≤2;decide)
     | alt h1 h2 h3 h4 h5 h6=>exact absurd hk (by show ¬(4:Int)≤2;decide)
     | star h1 h2 h3=>exact absurd hk (by show ¬(5:Int)≤2;decide)
   exact .mk (fun q=>by omega) (fun q=>by omega) (fun q=>by omega) fun z hz=>by rw[e] at hz;cases hz
 have hkk:=ht.nf.kinds;by_cases h4:t.kind=4
 · obtain ⟨e, h2, hnk, hk4, _⟩ := ht.nf.k4 h4
   have h3:=Cq hx ht;have h5:=room_le hK hS (n:=v.length) acK;rw[gQ h4] at h3;have hcs:∀y∈t.kids,y.kind≤2∨((y.kind=3∨y.kind=5)∧cw y∈dJ x v):=fun y hy=>by
     have hyk:=(hnk y hy).kinds;by_cases q:3≤y.kind
     · have := hk4 y hy
       exact .inr ⟨acK,ht.pC y (lM.2 ⟨by rw[gQ h4];exact hy,q⟩)⟩
     · exact .inl acK
   refine .mk (fun _=>?_) (fun q=>by omega) (fun q=>by omega) fun y hy=>?_
   · refine NK hK hB hx hS (v := v ++ [b]) (by simp; omega) (by rw [aai]; omega) fun z hz => ?_
     obtain⟨y,hy,rfl⟩:=aaG.1 hz;rcases hcs y hy with q|q
     · refine .inr ⟨rO b (hnk y hy), ?_⟩
       have hyk:=(hnk y hy).kinds;rw[ye];by_cases q2:y.kind=2
       · rw[if_pos q2];split<;>decide
       · rw[if_neg q2,if_neg acK,if_neg acK,if_neg acK];decide
     · exact .inl (NG hx (hnk y hy) q.1 q.2 b)
   · rcases hcs y hy with q | q
     · exact low y (hnk y hy) q
     · exact node y (hnk y hy) q.1 q.2
 · by_cases q : 3 ≤ t.kind
   · exact node t ht.nf acK (ht.pC t (la acK))
   · exact low t ht.nf acK
theorem Ir (b:Int)(hx:Nf x)(hS:x.size≤S)(hv:v.length≤N):wd (Dv x v)≤B∧yq B b (Dv x v):=by have h1:=GO hK _ x (aak _) hx hS v acK _ (sq hx v);have h2:=TD hK hB;exact⟨acK,Qk hK hB b _ x (aak _) hx hS v hv _ (sq hx v)⟩
end
theorem yt (l:List Rx)(i:Nat):aX l=aX (l.take i)++aX (l.drop i):=by unfold aX;rw[←ab6,abn]
theorem A4 (l m:List Rx):(c7 l).length≤(c7 (l++m)).length:=by rw[lN];omega
theorem A5 (l m:List Rx):(eZ l).length≤(eZ (l++m)).length:=by rw[tp,tp,abq,aar];omega
theorem Ql (l:List Rx)(i:Nat):(c7 (aX (l.take i))).length≤(c8 l).length∧(eZ (aX (l.take i))).length≤(dV l).length:=by unfold c8 dV;rw[yt l i];exact⟨A4 _ _,A5 _ _⟩
theorem NL (l:List Rx)(hi:i<l.length)(h4:(l.getD i default).kind=4)(j:Nat) :
  (c7 (aX (l.take i)++(l.getD i default).kids.take j)).length≤(c8 l).length∧(eZ (aX (l.take i)++(l.getD i default).kids.take j)).length≤(dV l).length:=by
 unfold c8 dV;have e:aX l=(aX (l.take i)++(l.getD i default).kids.take j)++((l.getD i default).kids.drop j++aX (l.drop (i+1))):=by
  rw[yt l i,drop_cons hi,A3,gQ h4,aaY]
  conv=>lhs;rw[←abn j (l.getD i default).kids,aaY]
 rw[e];exact⟨A4 _ _,A5 _ _⟩
theorem NM (s:List Int)(k:List Rx):(ke s k).length≤k.length+1:=by
 unfold ke;split
 ·rw[aar];exact aak _
 ·omega
theorem Qm {B:Nat}(hS:(c8 l).length≤B)(hw:∀x∈l,wd x≤B):∀z∈ke (c8 l) (dV l),wd z≤B:=fun z hz=>by
 rcases gC.1 hz with h|⟨h0,h⟩
 ·obtain⟨y,hy,hm⟩:=qe.1 (il.1 h).1;by_cases h4:y.kind=4
  ·rw[gQ h4] at hm;exact iw (hw y hy) hm
  ·rw[jr h4,aay] at hm;rw[hm];exact hw y hy
 ·rw[h];refine gT.2 ⟨⟨?_,aan _⟩,fun x hx=>by cases hx⟩;show(sO Pp (jF (c8 l))).length≤B;have h1:=wH (eq:=Pp) (l:=jF (c8 l));rw[qW] at h1;omega
theorem GQ (l:List Rx)(i:Nat):ek l=ek (l.take i)++ek (l.drop i):=by unfold ek;rw[←ab6,abn]
theorem NN {B:Nat}(h:(ek l).length≤B)(hw:∀x∈l,wd x≤B):∀i,i<l.length→(ek (l.take i)).length+(l.getD i default).kids.length+1≤B+B+1:=fun i hi=>by have h1:=(gT.1 (hw _ (aQ hi))).1.2;rw[GQ l i,aar] at h;omega
theorem zP (l:List Rx)(hl:∀x∈l,Nf x):(cw (cU l)).length≤(ek l).length+1:=by
 by_cases h0:(cU l).kind=0
 ·rw[ef acK acK];exact Nat.le_add_left _ _
 ·rw[re hl h0];omega
theorem Qn {B:Nat}(h:(ek l).length≤B)(hw:∀x∈l,wd x≤B):wd (cU l)≤B:=by
 have hm:∀y∈ek l,wd y≤B:=fun y hy=>by
  obtain⟨x,hx,hy⟩:=abP.1 hy;by_cases h3:x.kind=3
  ·rw[iM h3] at hy;exact iw (hw x hx) hy
  ·by_cases h1:x.kind=1
   ·rw[mj h1] at hy;cases hy
   ·rw[ef h3 h1,aay] at hy;rw[hy];exact hw x hx
 unfold cU xV;split
 ·exact gT.2 ⟨⟨aan _,aan _⟩,fun x hx=>by cases hx⟩
 ·split
  ·exact gT.2 ⟨⟨aan _,aan _⟩,fun x hx=>by cases hx⟩
  ·split
   ·next h1=>exact hm _ (aQ acK)
   ·exact gT.2 ⟨⟨aan _,h⟩,hm⟩
theorem uS (h:Nf r)(h3:r.kind=3)(i:Nat):ek (r.kids.drop i)=r.kids.drop i:=nU fun x hx=>((h.k3 h3).2.2.2 x (aa0 hx)).2
end Go.Wb
namespace Go.Am
open Go.RowKit
section
variable {P:Program} {w0:Fr}{M0:Nat→Prop}{s s':St}{id u t:Nat}{e:TypeId}{xs:List AV}{cs:List Cell}{E:Env}{a:Act}{w:World}
theorem ba.Vc (u:Nat)(h:ba P w0 M0 E s a w)(hnd:Nodup s.s=true)(aa:∀b,M0 b→b<w0.w.heap.size)(hl:s.o.lookup id=some (.arr e xs))(hu:u≠id) :
  ∃E':Env,E'.cur u=E.cur id∧E'.blk=E.blk∧ba P w0 M0 E' { n:=s.n,s:=s.s.filter (fun p=>p.2.stays true u&&p.2.stays true id),o:=ins u (.arr e xs) (ie id (iU (fun d=>d.stays true u&&d.stays true id) s.o)) } a w:=by
 obtain⟨vals,g1,g2,g3⟩:=h.wok.objs id _ hl;obtain⟨E',e1,e2,e3,e5⟩:∃E':Env,E'.cur u=E.cur id∧(∀i,i≠u→E'.cur i=E.cur i)∧E'.blk=E.blk∧E'.sub=E.sub :=
  ⟨{ E with cur:=fun i=>if i=u then E.cur id else E.cur i },if_pos rfl,fun i hi=>if_neg hi,rfl,rfl⟩
 have hN:∀i q,(if i=u then some (some (Ob.arr e xs)) else if i=id then some none else none:Option (Option Ob))=some q→(i=u∧q=some (.arr e xs))∨(i=id∧q=none):=fun i q hq=>by
  by_cases h1:i=u
  ·rw[if_pos h1] at hq;injection hq with hq;exact .inl ⟨h1,hq.symm⟩
  ·rw[if_neg h1] at hq;by_cases h2:i=id
   ·rw[if_pos h2] at hq;injection hq with hq;exact .inr ⟨h2,hq.symm⟩
   ·rw[if_neg h2] at hq;cases hq
 refine⟨E',e1,e3,?_⟩;refine ba.xj (E':=E') (fun d=>d.stays true u&&d.stays true id) (fun i=>if i=u then some (some (.arr e xs)) else if i=id then some none else none) _ (fun i=>?_) (fun d=>rfl) (fun i ob hq hx=>?_) (fun i hq=>?_) h hnd aa (fun i hq=>?_) (fun x hx=>by rw[e3]) none ⟨rfl,rfl,rfl,aak _,fun _ _ _=>rfl⟩ (fun _=>aak _) (fun g hg=>by cases hg) (fun i ob b hq hb=>.inl ?_) (fun i ob i' ob' b hq hq' hb hb'=>?_) (fun rep sv lents i ob hq=>?_)
 ·rw[ax];by_cases q1:i=u
  ·rw[if_pos q1,if_pos q1]
  ·rw[if_neg q1,if_neg q1,c9];by_cases q2:i=id
   ·rw[if_pos q2,if_pos q2]
   ·rw[if_neg q2,if_neg q2];exact gk _ i s.o
 ·rcases hN i _ hq with⟨rfl,_⟩|⟨_,q⟩
  ·obtain⟨d,q1,q2⟩:=hx;rw[hZ q1] at q2;cases q2
  ·cases q
 ·rcases hN i _ hq with⟨_,q⟩|⟨rfl,_⟩
  ·cases q
  ·exact⟨e2 i (abi hu),by rw[e3]⟩
 ·have hit:i≠u:=fun q=>by rw[if_pos q] at hq;cases hq
  exact⟨e2 i hit,by rw[e3],by rw[e5]⟩
 ·rcases hN i _ hq with⟨rfl,q⟩|⟨_,q⟩
  ·injection q with q;subst q;refine⟨id,_,by rw[if_neg (abi hu),if_pos J];simp,hl,?_⟩;simpa only[bE,e1] using hb
  ·cases q
 ·rcases hN i _ hq with⟨rfl,_⟩|⟨_,q⟩
  ·rcases hN i' _ hq' with⟨rfl,_⟩|⟨_,q⟩
   ·rfl
   ·cases q
  ·cases q
 ·rcases hN i _ hq with⟨rfl,q⟩|⟨_,q⟩
  ·injection q with q;subst q;exact⟨vals,by rw[e1];exact g1,g2,fun j d hd=>⟨(g3 j d hd).1,rep .pl _ _ (g3 j d hd).2 (by simp)⟩⟩
  ·cases q
theorem jI (b j u:Nat){eb:TypeId}{bs bs':List SV}(aa:∀b,M0 b→b<w0.w.heap.size)(hnd:Nodup s.s=true)(hb0:s.o.lookup b=some (.box eb bs))(hj:bs[j]?=some (.own id))(hl:s.o.lookup id=some (.arr e xs))(hne:Nat.beq u id=false)(hbu:Nat.beq b u=false)
  (hb:(ins u (Ob.arr e xs) (ie id (iU (fun d=>d.stays true u&&d.stays true id) s.o))).lookup b=some (.box eb bs'))(hbl:bs'.length=bs.length)
  (hnd':Nodup (s.s.filter (fun p=>p.2.stays true u&&p.2.stays true id))=true) :
  fF P w0 M0 s (({ n:=s.n,s:=s.s.filter (fun p=>p.2.stays true u&&p.2.stays true id),o:=ins u (.arr e xs) (ie id (iU (fun d=>d.stays true u&&d.stays true id) s.o)) }:St).cC false b (.box eb ((c5 b bs').set j (.own u)))):=by
 rintro a w ⟨E,hs⟩;obtain⟨vals0,q1,q2,q3,q4⟩:=hs.wok.objs b _ hb0;have hv:vals0.getD j undef=E.cur id:=(q4 j _ hj).2.2 e xs hl;obtain⟨E',hc,hbk,h1⟩:=hs.Vc u hnd aa hl (fun q=>by rw[q,ab8] at hne;cases hne);have hnu:b≠u:=fun q=>by rw[q,ab8] at hbu;cases hbu
 refine⟨E',h1.cC false (fun _=>⟨rfl,.inr (.inl ⟨eb,bs',_,hb,rfl⟩)⟩) hnd' aa (fun i hi=>⟨rfl,rfl⟩) (.inr J) none ⟨rfl,rfl,rfl,aak _,fun _ _ _=>rfl⟩ (fun _=>aak _) (fun g hg=>by cases hg) (fun b' hb'=>.inl ⟨_,hb,hb'⟩) (fun rep sv=>?_)⟩;obtain⟨vals,g1,g2,g3,g4⟩:=h1.wok.objs b _ hb;have hvv:vals=vals0:=by
  rw[hbk,q1] at g1;simp only[aaj,Obj.cells.injEq] at g1;have:=g1.1;simpa using this.symm
 subst hvv;refine⟨vals,g1,g2,by simpa[c5] using g3,fun i d hd=>?_⟩;by_cases hi:j=i
 ·subst hi;have hjl:j<bs'.length:=by rw[hbl];exact(aaz.1 hj).1
  rw[abI (by simpa[c5] using hjl)] at hd;simp only[aaj] at hd;subst hd;have h0:=q4 j _ hj;exact⟨rfl,h0.2.1,fun e1 c1 hh=>by rw[hc];exact hv⟩
 ·rw[abL hi] at hd;simp only[c5,aap,aao] at hd;obtain⟨d0,hd0,rfl⟩:=hd;have:=g4 i d0 hd0;split
  ·exact⟨this.1,this.2.1,sv _ _ this.2.2 ‹_›⟩
  ·exact⟨rfl,this.2.1,trivial⟩
end
end Go.Am
