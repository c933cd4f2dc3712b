/-
  Part of the proof.
-/
import Derived.Test.YtlapahnodhmcpaaGreatJ0
import Derived.Test.YtlapahnodhmcpaaGreatJ20
import Derived.Test.YtlapahnodhmcpaaGreatJ16
import Derived.Test.YtlapahnodhmcpaaGreatJ15
import Derived.Test.YtlapahnodhmcpaaGreatJ14
set_option linter.unusedVariables false
set_option linter.unusedSectionVars false
set_option linter.unusedSimpArgs false
set_option maxRecDepth 100000
set_option maxHeartbeats 40000000
namespace Go.Wb
open Go.Am
mutual
def dZ:Rx→Nat
 | .mk k s l=>if k=4 then 2+TR l else if k=3 then 2+Zq l else if k=5 then 2+TR l+(Rx.mk k s l).size else 2
def TR:List Rx→Nat
 | []=>0
 | x :: l=>dZ x+TR l
def Zq:List Rx→Nat
 | []=>0
 | x :: l=>2+dZ x+Rx.aB l+Zq l
end
theorem Uq (r:Rx):dZ r=if r.kind=4 then 2+TR r.kids else if r.kind=3 then 2+Zq r.kids else if r.kind=5 then 2+TR r.kids+r.size else 2:=by
 cases r with|mk k s l=>rw[dZ];rfl
theorem ZM {r:Rx}(h:r.kind=5):dZ r=2+TR r.kids+r.size:=by rw[Uq,if_neg ace,if_neg ace,if_pos h]
theorem Nf.WK {x y:Rx}(h:Nf x)(hy:y∈x.kids):Nf y:=by
 cases h with
 | none=>cases hy
 | empty=>cases hy
 | set h=>cases hy
 | seq h1 h2 h3=>exact h2 y hy
 | alt h1 h2 h3 h4 h5 h6=>exact h2 y hy
 | star h1 h2 h3=>rw[aag.1 hy];exact h1
theorem Jt {p q:Rx→Prop}{l:List Rx}(hd:l.Pairwise (·≠·))(h:∀x∈l,p x∨q x)(hp:∀x∈l,∀y∈l,p x→p y→x=y)(hq:∀x∈l,∀y∈l,q x→q y→x=y):l.length≤2:=by
 match l,hd,h,hp,hq with
 | [],_,_,_,_=>exact Z5 _
 | [a],_,_,_,_=>exact Nat.le_succ _
 | [a,b],_,_,_,_=>exact Z1 _
 | a :: b :: c :: l, hd, h, hp, hq =>
   exfalso
   have d1:=aaF.1 hd
   have d2:=aaF.1 d1.2
   have ab:=d1.1 b (by simp)
   have ac:=d1.1 c (by simp)
   have bc:=d2.1 c (by simp)
   have ma:a∈a :: b :: c :: l:=by simp
   have mb:b∈a :: b :: c :: l:=by simp
   have mc:c∈a :: b :: c :: l:=by simp
   rcases h a ma with ha|ha<;>rcases h b mb with hb|hb<;>rcases h c mc with hc|hc <;>
     first|exact ab (hp _ ma _ mb ha hb)|exact ac (hp _ ma _ mc ha hc)|exact bc (hp _ mb _ mc hb hc)|exact ab (hq _ ma _ mb ha hb)|exact ac (hq _ ma _ mc ha hc)|exact bc (hq _ mb _ mc hb hc)
theorem MK {a b:Rx}(ha:Nf a)(hb:Nf b)(ka:a.kind=3∨a.kind=5)(kb:b.kind=3∨b.kind=5)(h:cy a=cy b):a=b:=by
 rcases ka with ka|ka
 ·rcases kb with kb|kb
  ·rw[iK ka,iK kb] at h
   rw[(ha.k3 ka).1,(hb.k3 kb).1,h]
  ·rw[eh (x:=b) ace ace] at h
   exact xI ha h
 ·rw[eh (x:=a) ace ace] at h
  exact(xI hb h.symm).symm
theorem SM {t:Rx}(ht:Nf t):((o6 t).map cy).Pairwise (·≠·):=by
 have h1:(o6 t).Pairwise (·≠·):=by
  unfold o6
  refine List.Pairwise.filter _ ?_
  by_cases h4:t.kind=4
  ·rw[gF h4];exact acb (fun h=>h.2) (ht.k4 h4).2.2.2.2.1
  ·rw[jo h4];exact abr _ _
 rw[ab0]
 refine List.Pairwise.imp_of_mem (fun{a b} ha hb hab e=>?_) h1
 have h2:=FP ht ha
 have h3:=FP ht hb
 exact hab (MK h2.1 h3.1 h2.2 h3.2 e)
theorem HD {x:Rx}(hx:Nf x)(ih:∀v M,M∈dH x v→M.length≤Cz x){u:List Int}{M:List Rx}(h:M∈cv x u (dH x u)):M.length≤Cz x:=by
 unfold cv at h
 split at h
 · exact ih _ _ h
 · rcases aah.1 h with rfl | h
   · by_cases k3 : (Dv x u).kind = 3
     · exact ih u _ ((oy hx).all u _ (kV (.inl k3)))
     · have h1 := (Rl hx).1
       by_cases k1:(Dv x u).kind=1
       · rw[lV k1];exact Z5 _
       · rw[eh k3 k1];exact h1
   · exact ih _ _ h
theorem xO {x:Rx}(h:Nf x):∀v M,M∈dH x v→M.length≤Cz x:=by
 induction h with
 | none=>intro v M h;rw[nc acg acg acg] at h;cases h
 | empty=>intro v M h;rw[nc acg acg acg] at h;cases h
 | set h=>intro v M h;rw[nc (by simp[Rx.kind]) (by simp[Rx.kind]) (by simp[Rx.kind])] at h;cases h
 | @seq l h2 hn hk ih =>
   intro v M h
   rw[BC rfl] at h
   obtain⟨pre,y,R,e,u,hu,M',hM,rfl⟩:=ie.1 h
   have e':l=pre++y :: R:=e
   have hy:y∈l:=by rw[e'];simp
   have h3:=HD (hn y hy) (ih y hy) hM
   have h4:=BG (n:=1) (l:=R) fun z hz=>(Rl (hn z (by rw[e'];simp[hz]))).1
   rw[uo (.inl rfl)]
   show _≤qR l
   rw[e',HC,nG,aab];omega
 | @alt l h2 hn hk h4 h5 h6 ih =>
   intro v M h
   rw[BB rfl] at h
   obtain⟨y,hy,h⟩:=jY.1 h
   have h1:=ih y hy v M h
   have h2:=Pq (l:=l) hy
   rw[uo (.inr rfl)]
   show _≤qR l
   omega
 | @star y hn hk h4 ih =>
   intro v M h
   have e:dH (.mk 5 [] [y]) v=[.mk 5 [] [y]] :: FQ [y] v (.mk 5 [] [y]):=uk rfl v
   rw[e] at h
   rw[MJ rfl]
   show _≤1+qR [y]
   rw[HB]
   rcases aah.1 h with rfl|h
   · exact Nat.le_add_right 1 _
   · obtain ⟨u, hu, M', hM, rfl⟩ := lY.1 h
     have:=HD hn ih hM
     rw[aab,aaY];omega
section
variable {C N R Z:Nat}{f F s S a A g G:Nat→Nat→Nat}
end
mutual
def wd:Rx→Nat
 | .mk _ s l=>max (max s.length l.length) (SN l)
def SN:List Rx→Nat
 | []=>0
 | x :: l=>max (wd x) (SN l)
end
theorem ML {B:Nat}:∀{l:List Rx},SN l≤B↔∀x∈l,wd x≤B
 | []=>by rw[SN];exact⟨fun _ x hx=>(by cases hx),fun _=>Z5 _⟩
 | y :: l => by
   rw[SN,Nat.max_le,ML (l:=l)]
   exact⟨fun h x hx=>by
     rcases aah.1 hx with rfl|hx
     · exact h.1
     · exact h.2 x hx,fun h=>⟨h y Z7,fun x hx=>h x (aac _ hx)⟩⟩
theorem gK {r:Rx}{B:Nat}:wd r≤B↔(r.syms.length≤B∧r.kids.length≤B)∧∀x∈r.kids,wd x≤B:=by
 cases r with|mk k s l =>
 rw[wd,Nat.max_le,Nat.max_le,ML];rfl
theorem ik {r x:Rx}{B:Nat}(h:wd r≤B)(hx:x∈r.kids):wd x≤B:=(gK.1 h).2 x hx
mutual
theorem HE:∀ r:Rx,wd r≤r.size
 | .mk k s l => by
   rw[wd,Rx.size]
   have h1:=DM l
   have h2:=dj l
   omega
theorem DM:∀ l:List Rx,SN l≤Rx.aB l
 | []=>Z1 _
 | x :: l => by
   rw[SN,Rx.aB]
   have h1:=HE x
   have h2:=DM l
   omega
end
abbrev Pos:=Option Rx×List Rx
def Pos.on (R:List Rx)(e:Pos):Pos:=(e.1,e.2++R)
mutual
def s8:Rx→List Pos
 | .mk k s l=>if k=4 then DN l else if k=3 then yZ l else if k=5 then(none,[.mk k s l]) :: FW l (.mk k s l) else[]
def DN:List Rx→List Pos
 | []=>[]
 | x :: l=>s8 x++DN l
def yZ:List Rx→List Pos
 | []=>[]
 | x :: l=>(some x,l) :: ((s8 x).map (Pos.on l)++yZ l)
def FW:List Rx→Rx→List Pos
 | [],_=>[]
 | x :: _,r=>(some x,[r]) :: (s8 x).map (Pos.on [r])
end
def MM (u:List Int)(e:Pos):List Rx:=(match e.1 with|some y=>cy (Dv y u)|none=>[])++e.2
theorem HF (u:List Int)(R:List Rx)(e:Pos):MM u (Pos.on R e)=MM u e++R:=by
 unfold MM Pos.on;rw[aaI]
theorem BH (x:Rx):s8 x=if x.kind=4 then DN x.kids else if x.kind=3 then yZ x.kids else if x.kind=5 then(none,[x]) :: FW x.kids x else[]:=by
 cases x with|mk k s l=>rw[s8];rfl
theorem SO {x:Rx}(h:x.kind=4):s8 x=DN x.kids:=by rw[BH,if_pos h]
theorem SP {x:Rx}(h:x.kind=3):s8 x=yZ x.kids:=by rw[BH,if_neg ace,if_pos h]
theorem SQ {x:Rx}(h:x.kind=5):s8 x=(none,[x]) :: FW x.kids x:=by rw[BH,if_neg ace,if_neg ace,if_pos h]
mutual
theorem s9:∀ x:Rx,(s8 x).length+1≤2*x.size
 | .mk k s l => by
   rw[s8,Rx.size]
   have h1:=DO l
   have h2:=DP l
   have h3:=MN l (.mk k s l)
   have h4:=dj l
   split
   · omega
   · split
     · omega
     · split
       · rw[Z2];omega
       · rw[Z9];omega
theorem DO:∀ l:List Rx,(DN l).length≤2*Rx.aB l
 | []=>Z1 _
 | x :: l => by
   rw[DN,Rx.aB,aab]
   have h1:=s9 x
   have h2:=DO l
   omega
theorem DP:∀ l:List Rx,(yZ l).length≤2*Rx.aB l
 | []=>Z1 _
 | x :: l => by
   rw[yZ,Rx.aB,Z2,aab,Z0]
   have h1:=s9 x
   have h2:=DP l
   omega
theorem MN:∀ (l:List Rx)(r:Rx),(FW l r).length≤2*Rx.aB l
 | [],r=>Z1 _
 | x :: l, r => by
   rw[FW,Rx.aB,Z2,Z0]
   have h1:=s9 x
   omega
end
theorem DQ {e:Pos}:∀{l:List Rx}{x:Rx},x∈l→e∈s8 x→e∈DN l
 | y :: l, x, hx, he => by
   rw[DN]
   rcases aah.1 hx with rfl|hx
   · exact abA _ he
   · exact aby _ (DQ hx he)
theorem DR {x:Rx}{R:List Rx}:∀pre:List Rx,(some x,R)∈yZ (pre++x :: R)∧∀e∈s8 x,Pos.on R e∈yZ (pre++x :: R)
 | [] => by
   rw[abP,yZ]
   exact⟨Z7,fun e he=>aac _ (abA _ (aao.2 ⟨e,he,rfl⟩))⟩
 | y :: pre => by
   rw[abq,yZ]
   have h:=DR (x:=x) (R:=R) pre
   exact⟨aac _ (aby _ h.1),fun e he=>aac _ (aby _ (h.2 e he))⟩
theorem DS:∀ v:List Int,(iL v).length=v.length+1
 | []=>rfl
 | a :: v=>by rw[iL,Z2,DS v];rfl
theorem BI:∀ {u v:List Int},u∈iL v→u.length≤v.length
 | u,[],h=>by rw[iL,aag] at h;rw[h];exact Z1 _
 | u, a :: v, h => by
   rw[iL] at h
   rcases aah.1 h with rfl|h
   · exact Z1 _
   · have:=BI h;rw[Z2];omega
theorem oA {t u:List Int}:∀{v:List Int},t∈iL u→u∈iL v→t∈iL v
 | [],h,h'=>by rw[iL,aag] at h';rw[h'] at h;exact h
 | a :: v, h, h' => by
   rw[iL] at h' ⊢
   rcases aah.1 h' with rfl|h'
   · rw[iL] at h;exact h
   · exact aac _ (oA h h')
theorem uq:∀ {u v:List Int},u∈s5 v→u∈iL v
 | u,[],h=>by rw[s5] at h;cases h
 | u, a :: v, h => by
   rw[s5] at h;rw[iL]
   rcases aah.1 h with rfl|h
   · exact Z7
   · exact aac _ (uq h)
theorem xP {x:Rx}{u:List Int}{T:List (List Rx)}{M:List Rx}(h:M∈cv x u T):M∈T∨M=cy (Dv x u):=by
 unfold cv at h
 split at h
 ·exact .inl h
 ·exact(aah.1 h).symm
theorem Pr {x:Rx}(h:Nf x):∀v L,L∈dH x v→∃e∈s8 x,∃u∈iL v,L=MM u e:=by
 induction h with
 | none=>intro v M h;rw[nc acg acg acg] at h;cases h
 | empty=>intro v M h;rw[nc acg acg acg] at h;cases h
 | set h=>intro v M h;rw[nc (by simp[Rx.kind]) (by simp[Rx.kind]) (by simp[Rx.kind])] at h;cases h
 | @seq l h2 hn hk ih =>
   intro v L h
   rw[BC rfl] at h
   obtain⟨pre,y,R,e,u,hu,M,hM,rfl⟩:=ie.1 h
   have e':l=pre++y :: R:=e
   subst e'
   have hp:=DR (x:=y) (R:=R) pre
   rw[SP rfl]
   rcases xP hM with hM|hM
   · obtain ⟨p, hp', t, ht, rfl⟩ := ih y (by simp) u M hM
     exact⟨_,hp.2 p hp',t,oA ht hu,(HF t R p).symm⟩
   · exact⟨_,hp.1,u,hu,by rw[hM];rfl⟩
 | @alt l h2 hn hk h4 h5 h6 ih =>
   intro v L h
   rw[BB rfl] at h
   obtain⟨y,hy,h⟩:=jY.1 h
   obtain⟨p,hp,t,ht,e⟩:=ih y hy v L h
   rw[SO rfl]
   exact⟨p,DQ hy hp,t,ht,e⟩
 | @star y hn hk h4 ih =>
   intro v L h
   rw[uk rfl] at h
   rw[SQ rfl]
   rcases aah.1 h with rfl|h
   · exact⟨_,Z7,[],kU v,rfl⟩
   · obtain ⟨u, hu, M, hM, rfl⟩ := lY.1 h
     have hu:=uq hu
     show ∃e∈_ :: FW [y] _,_
     rw[FW]
     rcases xP hM with hM|hM
     · obtain ⟨p, hp', t, ht, rfl⟩ := ih u M hM
       exact⟨_,aac _ (aac _ (aao.2 ⟨p,hp',rfl⟩)),t,oA ht hu,(HF t _ p).symm⟩
     · exact⟨_,aac _ Z7,u,hu,by rw[hM];rfl⟩
theorem MO {α:Type}:∀{l m:List α},l.Pairwise (·≠·)→(∀x∈l,x∈m)→l.length≤m.length
 | [],m,_,_=>Z5 _
 | x :: l, m, hp, h => by
   obtain⟨m1,m2,rfl⟩:=List.append_of_mem (h x Z7)
   have hp':=aaF.1 hp
   have:=MO (l:=l) (m:=m1++m2) hp'.2 fun y hy=>by
     have h1:=h y (aac _ hy)
     rcases aaC.1 h1 with q|q
     · exact abA _ q
     · rcases aah.1 q with q | q
       · exact absurd q.symm (hp'.1 y hy)
       · exact aby _ q
   rw[aab] at this ⊢
   rw[Z2,Z2];omega
theorem vl {α β:Type}{f:α→List β}{n:Nat}(hf:∀a,(f a).length=n):∀l:List α,(l.flatMap f).length=l.length*n
 | []=>by simp
 | a :: l=>by rw[aa7,aab,hf,vl hf l,Z2,ab2];omega
theorem Ju {x:Rx}(hx:Nf x){v:List Int}{LL:List (List Rx)}(hp:LL.Pairwise (·≠·))(h:∀L∈LL,L∈dH x v):LL.length≤2*x.size*(v.length+1):=by
 have h1:=MO hp (m:=(s8 x).flatMap fun e=>(iL v).map fun u=>MM u e) fun L hL=>by
  obtain⟨e,he,u,hu,e2⟩:=Pr hx v L (h L hL)
  exact abv.2 ⟨e,he,aao.2 ⟨u,hu,e2.symm⟩⟩
 rw[vl (n:=v.length+1) fun e=>by rw[Z0,DS]] at h1
 have h2:=s9 x
 exact aau h1 (aa2 _ ace)
structure Rm (x:Rx)(v:List Int)(t:Rx):Prop where
 nf:Nf t
 o6:∀a∈o6 t,cy a∈dH x v
theorem rS {x:Rx}(hx:Nf x)(v:List Int):Rm x v (Dv x v):=⟨Ab hx v,(oy hx).all v⟩
theorem MP {x a:Rx}(hx:Nf x){v:List Int}(ha:Nf a)(hk:a.kind=3∨a.kind=5)(hc:cy a∈dH x v)(b:Int):Rm x (v++[b]) (dR b a):=by
 refine⟨re b ha,fun c hca=>?_⟩
 rcases Hw ha hk hca with h3|⟨z,h3,h4,h5⟩
 ·exact(oy hx).step v b _ _ hc h3
 ·exact(oy hx).exp _ z ((oy hx).step v b _ _ hc h3) h4 c h5
theorem Ur {b:Int}{l:List Rx}(h:∀x∈l,Nf x){i:Nat}(hi:i<l.length):Nf (dQ b l i):=by
 refine kC fun z hz=>?_
 rcases aah.1 hz with rfl|hz
 ·exact re b (h _ (aP hi))
 ·rw[aag.1 hz];exact kC fun u hu=>h u (aaE hu)
theorem SR {x a:Rx}(hx:Nf x){v:List Int}(ha:Nf a)(hk:a.kind=3)(hc:cy a∈dH x v)(b:Int){i:Nat}(hi:i<a.kids.length):Rm x (v++[b]) (dQ b a.kids i):=by
 obtain⟨e,h2,hn,hkk⟩:=ha.k3 hk
 refine⟨Ur hn hi,fun c hca=>?_⟩
 have h3:=Ul hi hn hkk (xH hca)
 have h4:cy (dQ b a.kids i)∈qP b (cy a):=by rw[iK hk,h3.1];exact Bz hi h3.2
 rcases Me hca with q|⟨q,q4,qc⟩
 ·rw[q];exact(oy hx).step v b _ _ hc h4
 ·rw[q] at h4
  exact(oy hx).exp _ _ ((oy hx).step v b _ _ hc h4) q4 c qc
theorem MQ {t:Rx}(ht:Nf t):(oq t).length≤(o6 t).length+2:=by
 by_cases h4:t.kind=4
 · obtain ⟨e, h2, hn, hkk, hs, h22, _⟩ := ht.k4 h4
   have h5:∀l:List Rx,(l.filter fun a=>decide (3≤a.kind)).length+(l.filter fun a=>!decide (3≤a.kind)).length=l.length:=fun l=>by
     induction l with
     | nil=>rfl
     | cons y l ih =>
       by_cases q:3≤y.kind
       · rw[abS (by simp[q]),abB (by simp[q]),Z2,Z2];omega
       · rw[abB (by simp[q]),abS (by simp[q]),Z2,Z2];omega
   have h8:∀x∈t.kids.filter (fun x=>!decide (3≤x.kind)),x∈t.kids∧(x.kind=1∨x.kind=2):=fun x hx=>by
     have h9:=aaS.1 hx
     have h10:=(hn x h9.1).kinds
     have h11:=(hkk x h9.1).1
     have h12:¬3≤x.kind:=by simpa using h9.2
     exact⟨h9.1,ace⟩
   have h10:=Jt (p:=fun x=>x.kind=1) (q:=fun x=>x.kind=2) (l:=t.kids.filter fun x=>!decide (3≤x.kind)) ((acb (fun h=>h.2) hs).filter _) (fun x hx=>(h8 x hx).2)
     (fun x hx y hy h h'=>by rw[(hn x (h8 x hx).1).k1 h,(hn y (h8 y hy).1).k1 h']) fun x hx y hy h h'=>h22 x (h8 x hx).1 y (h8 y hy).1 h h'
   have h6:o6 t=t.kids.filter fun a=>decide (3≤a.kind):=by unfold o6;rw[gF h4]
   rw[gF h4,h6,←h5 t.kids];omega
 · rw[jo h4];show 1≤_;omega
theorem BJ {x t:Rx}(hx:Nf x){v:List Int}(h:Rm x v t):(oq t).length≤2*x.size*(v.length+1)+2:=by
 have h1:=MQ h.nf
 have h2:=Ju hx (SM h.nf) (v:=v) fun L hL=>by
  obtain⟨a,ha,rfl⟩:=aao.1 hL
  exact h.o6 a ha
 rw[Z0] at h2
 omega
theorem ur {x:Rx}(h:Nf x):x.syms.length≤64:=by
 cases h with
 | set h=>exact Js h
 | _=>exact Z5 _
theorem BK {x:Rx}(h:Nf x):Cz x≤x.size:=by
 have hs:∀l:List Rx,(∀x∈l,Cz x≤x.size)→qR l≤Rx.aB l:=fun l hl=>by
   induction l with
   | nil=>exact Z1 _
   | cons y l ih =>
     rw[nG,Rx.aB]
     have h1:=ih fun z hz=>hl z (aac _ hz)
     have h2:=hl y Z7
     omega
 induction h with
 | none=>decide
 | empty=>decide
 | @set s h =>
   rw[Rj rfl,eF]
   have:=(jF.1 h).1
   omega
 | @seq l h2 hn hk ih=>rw[uo (.inl rfl),eF];have:=hs l ih;show qR l≤_;omega
 | @alt l h2 hn hk h4 h5 h6 ih=>rw[uo (.inr rfl),eF];have:=hs l ih;show qR l≤_;omega
 | @star y hn hk h4 ih=>rw[MJ rfl,eF];have:=hs [y] (fun z hz=>by rw[aag.1 hz];exact ih);show 1+qR [y]≤_;omega
theorem Ps {x t:Rx}(hx:Nf x){v:List Int}(h:Rm x v t):(cy t).length≤x.size:=by
 by_cases k3:t.kind=3
 ·have h1:=xO hx v _ (h.o6 t (kV (.inl k3)))
  have:=BK hx
  omega
 ·by_cases k1:t.kind=1
  ·rw[lV k1];exact Z5 _
  ·rw[eh k3 k1];exact size_pos x
theorem MR {x:Rx}(h:Nf x):∀v L f,L∈dH x v→f∈L→(∃y u,y.size<x.size∧Nf y∧u∈iL v∧f=Dv y u)∨(x.kind=5∧f=x):=by
 have inner:∀{x y:Rx}{u v:List Int}{M:List Rx}{f:Rx},Nf y→y.size<x.size→u∈iL v→(∀v L f,L∈dH y v→f∈L→(∃z u,z.size<y.size∧Nf z∧u∈iL v∧f=Dv z u)∨(y.kind=5∧f=y))→M∈cv y u (dH y u)→f∈M →
     ∃z u,z.size<x.size∧Nf z∧u∈iL v∧f=Dv z u:=fun{x y u v M f} hy hlt hu ih hM hf=>by
   have go:∀L,L∈dH y u→f∈L→∃z u,z.size<x.size∧Nf z∧u∈iL v∧f=Dv z u:=fun L hL hf=>by
     rcases ih u L f hL hf with⟨z,t,h1,h2,h3,h4⟩|⟨_,h4⟩
     · exact⟨z,t,ace,h2,oA h3 hu,h4⟩
     · exact⟨y,[],hlt,hy,kU v,by rw[FO];exact h4⟩
   rcases xP hM with hM|hM
   · exact go M hM hf
   · subst hM
     by_cases k3:(Dv y u).kind=3
     · exact go _ ((oy hy).all u _ (kV (.inl k3))) hf
     · by_cases k1 : (Dv y u).kind = 1
       · rw[lV k1] at hf;cases hf
       · rw [eh k3 k1, aag] at hf
         exact⟨y,u,hlt,hy,hu,hf⟩
 induction h with
 | none=>intro v M f h;rw[nc acg acg acg] at h;cases h
 | empty=>intro v M f h;rw[nc acg acg acg] at h;cases h
 | set h=>intro v M f h;rw[nc (by simp[Rx.kind]) (by simp[Rx.kind]) (by simp[Rx.kind])] at h;cases h
 | @seq l h2 hn hk ih =>
   intro v L f h hf
   rw[BC rfl] at h
   obtain⟨pre,y,R,e,u,hu,M,hM,rfl⟩:=ie.1 h
   have e':l=pre++y :: R:=e
   have hy:y∈l:=by rw[e'];simp
   rcases aaC.1 hf with hf|hf
   · exact .inl (inner (hn y hy) (dd (r:=.mk 3 [] l) hy) hu (ih y hy) hM hf)
   · have hf' : f ∈ l := by rw [e']; simp [hf]
     exact .inl ⟨f,[],dd (r:=.mk 3 [] l) hf',hn f hf',kU v,rfl⟩
 | @alt l h2 hn hk h4 h5 h6 ih =>
   intro v L f h hf
   rw[BB rfl] at h
   obtain⟨y,hy,h⟩:=jY.1 h
   have hlt:=dd (r:=.mk 4 [] l) hy
   rcases ih y hy v L f h hf with⟨z,t,h1,h2,h3,h4⟩|⟨_,h4⟩
   · exact .inl ⟨z,t,ace,h2,h3,h4⟩
   · exact .inl ⟨y,[],hlt,hn y hy,kU v,by rw[FO];exact h4⟩
 | @star y hn hk h4 ih =>
   intro v L f h hf
   rw[uk rfl] at h
   have hlt:y.size<(Rx.mk 5 [] [y]).size:=dd (r:=.mk 5 [] [y]) Z7
   rcases aah.1 h with rfl|h
   · exact .inr ⟨rfl,aag.1 hf⟩
   · obtain ⟨u, hu, M, hM, rfl⟩ := lY.1 h
     rcases aaC.1 hf with hf|hf
     · exact .inl (inner hn hlt (uq hu) ih hM hf)
     · exact .inr ⟨rfl,aag.1 hf⟩
structure FX (B:Nat)(m:List Rx):Prop where
 syms:(c5 m).length≤B
 kids:(dP m).length≤B
 wide:∀x∈m,wd x≤B
inductive xQ (B:Nat)(b:Int):Rx→Prop
 | mk {r:Rx}(h4:r.kind=4→FX B (r.kids.map (dR b)))(h3:r.kind=3→FX B (uh b r.kids))(hs:r.kind=3∨r.kind=5→∀x∈r.kids,(cy (dR b x)).length≤B∧wd (dR b x)≤B)(hk:∀x,x∈r.kids→xQ B b x):xQ B b r
theorem xQ.h4 {B:Nat}{b:Int}{r:Rx}(h:xQ B b r):r.kind=4→FX B (r.kids.map (dR b)):=by cases h;assumption
theorem xQ.h3 {B:Nat}{b:Int}{r:Rx}(h:xQ B b r):r.kind=3→FX B (uh b r.kids):=by cases h;assumption
theorem xQ.hs {B:Nat}{b:Int}{r:Rx}(h:xQ B b r):r.kind=3∨r.kind=5→∀x∈r.kids,(cy (dR b x)).length≤B∧wd (dR b x)≤B:=by cases h;assumption
theorem xQ.hk {B:Nat}{b:Int}{r:Rx}(h:xQ B b r):∀x,x∈r.kids→xQ B b x:=by cases h;assumption
theorem BL {x:Rx}(h:Nf x)(hk:x.kind≤2):wd x≤64:=by
 have hl:=ur h
 have e:x.kids=[]:=by
  cases h with
  | none=>rfl
  | empty=>rfl
  | set h=>rfl
  | seq h1 h2 h3=>exact absurd hk (by show ¬(3:Int)≤2;decide)
  | alt h1 h2 h3 h4 h5 h6=>exact absurd hk (by show ¬(4:Int)≤2;decide)
  | star h1 h2 h3=>exact absurd hk (by show ¬(5:Int)≤2;decide)
 refine gK.2 ⟨⟨hl,by rw[e];exact Z5 _⟩,fun y hy=>?_⟩
 rw[e] at hy;cases hy
section
variable {S N K:Nat}(hK:2*S*(N+2)+66≤K)
include hK
theorem room_le {s n:Nat}(hs:s≤S)(hn:n≤N+1):2*s*(n+1)+2≤K:=by
 have h1:2*s*(n+1)≤2*S*(N+2):=Nat.mul_le_mul ace ace
 omega
theorem Pt:S+64≤K:=by
 have h1:2*S*2≤2*S*(N+2):=Nat.mul_le_mul_left _ ace
 omega
theorem FY:∀ (n:Nat)(x:Rx),x.size≤n→Nf x→x.size≤S→∀v:List Int,v.length≤N+1→∀t,Rm x v t→wd t≤K:=by
 intro n
 induction n with
 | zero=>intro x h;have:=size_pos x;omega
 | succ n ih =>
 intro x hn hx hS v hv t ht
 have ZN:=Pt hK
 have fac:∀L f,L∈dH x v→f∈L→wd f≤K:=fun L f hL hf=>by
  rcases MR hx v L f hL hf with⟨y,u,h1,h2,h3,h4⟩|⟨_,h4⟩
  ·rw[h4]
   have:=BI h3
   exact ih y ace h2 ace u ace _ (rS h2 u)
  ·rw[h4];have:=HE x;omega
 have node:∀a,Nf a→(a.kind=3∨a.kind=5)→cy a∈dH x v→wd a≤K:=fun a ha hk hc=>by
  rcases hk with hk|hk
  ·obtain⟨e,h2,_⟩:=ha.k3 hk
   have h3:=xO hx v _ hc
   have h4:=BK hx
   rw[iK hk] at h3
   refine gK.2 ⟨⟨by rw[e];exact Z5 _,ace⟩,fun y hy=>fac _ y hc (by rw[iK hk];exact hy)⟩
  ·exact fac _ a hc (by rw[eh ace ace];exact Z7)
 have hkk:=ht.nf.kinds
 by_cases h4:t.kind=4
 ·obtain⟨e,h2,hnk,hk4,_⟩:=ht.nf.k4 h4
  have h3:=BJ hx ht
  have h5:=room_le hK hS hv
  rw[gF h4] at h3
  refine gK.2 ⟨⟨by rw[e];exact Z5 _,ace⟩,fun y hy=>?_⟩
  have hyk:=(hnk y hy).kinds
  by_cases q:3≤y.kind
  ·have:=hk4 y hy
   have hya:y∈o6 t:=lz.2 ⟨by rw[gF h4];exact hy,q⟩
   exact node y (hnk y hy) ace (ht.o6 y hya)
  ·have:=BL (hnk y hy) ace;omega
 ·by_cases q:3≤t.kind
  ·exact node t ht.nf ace (ht.o6 t (kV ace))
  ·have:=BL ht.nf ace;omega
end
theorem Ai (x:Rx)(l:List Rx):aW (x :: l)=oq x++aW l:=rfl
theorem DT {n:Nat}:∀{m:List Rx},(∀x∈m,(oq x).length≤n)→(aW m).length≤m.length*n
 | [],_=>Z5 _
 | x :: m, h => by
   rw[Ai,aab,Z2,ab2]
   have h1:=DT (m:=m) fun y hy=>h y (aac _ hy)
   have h2:=h x Z7
   omega
theorem MS (m:List Rx):(dP m).length≤(aW m).length:=by unfold dP;rw[sX];exact aba _ _
theorem FZ:∀ (l:List Rx)(s:List Int),(l.foldl ot s).length=s.length+(c4 l).length:=by
 have key:∀(l:List Rx)(s:List Int),l.foldl ot s=s++l.foldl ot []:=fun l=>by
   induction l with
   | nil=>intro s;simp
   | cons x l ih =>
     intro s
     rw[abD,abD,ih,ih (ot [] x)]
     by_cases h:x.kind=2
     · rw[ub h,ub h,aaI];rfl
     · rw[pE h,pE h];rfl
 intro l s
 rw[key];exact aab
theorem lA (l m:List Rx):(c4 (l++m)).length=(c4 l).length+(c4 m).length:=by
 show((l++m).foldl ot []).length=_
 rw[abf,FZ];rfl
theorem xR:∀ {l:List Rx},(∀x∈l,x.kind≠2)→(c4 l).length=0
 | [],_=>rfl
 | x :: l, h => by
   rw[show x :: l=[x]++l from rfl,lA,xR fun y hy=>h y (aac _ hy)]
   show(ot [] x).length+0=0
   rw[pE (h x Z7)];rfl
theorem uu:∀ {l:List Rx},l.Pairwise (·≠·)→(∀x∈l,Nf x)→(∀x∈l,∀y∈l,x.kind=2→y.kind=2→x=y)→(c4 l).length≤64
 | [],_,_,_=>Z5 _
 | x :: l, hp, hn, h2 => by
   have hp':=aaF.1 hp
   rw[show x :: l=[x]++l from rfl,lA]
   by_cases q:x.kind=2
   · rw [xR (l := l) fun y hy e => hp'.1 y hy (h2 x Z7 y (aac _ hy) q e)]
     show(ot [] x).length+0≤64
     rw[ub q]
     have:=ur (hn x Z7)
     simpa using this
   · have h1 := uu hp'.2 (fun y hy => hn y (aac _ hy)) fun y hy z hz => h2 y (aac _ hy) z (aac _ hz)
     show(ot [] x).length+_≤64
     rw[pE q];simpa using h1
theorem Jv {t:Rx}(h:Nf t):(c4 (oq t)).length≤64:=by
 by_cases h4:t.kind=4
 ·obtain⟨e,h2,hn,hkk,hs,h22,_⟩:=h.k4 h4
  rw[gF h4]
  exact uu (acb (fun h=>h.2) hs) hn h22
 ·rw[jo h4]
  exact uu (abr _ _) (fun x hx=>by rw[aag.1 hx];exact h) fun x hx y hy _ _=>by rw[aag.1 hx,aag.1 hy]
theorem DU:∀ {m:List Rx},(∀x∈m,Nf x)→(c5 m).length≤m.length*64
 | [],_=>Z5 _
 | x :: m, h => by
   show(c4 (oq x++aW m)).length≤_
   rw[lA,Z2,ab2]
   have h1:=DU (m:=m) fun y hy=>h y (aac _ hy)
   have h2:=Jv (h x Z7)
   have h3:(c4 (aW m)).length=(c5 m).length:=rfl
   omega
theorem BM (b:Int):∀l:List Rx,(uh b l).length≤l.length
 | []=>by rw[uh];exact Z5 _
 | x :: l => by
   have h:=BM b l
   rw[uh]
   split<;>simp only[Z2,Z9]<;>omega
section
variable {S N K B:Nat}(hK:2*S*(N+2)+66≤K)(hB:K*K≤B)
include hK hB
theorem SS:K≤B∧K*64≤B:=by
 have h1:=Pt hK
 have h2:K*64≤K*K:=Nat.mul_le_mul_left _ ace
 have h3:K*1≤K*64:=Nat.mul_le_mul_left _ ace
 omega
theorem MT {x:Rx}(hx:Nf x)(hS:x.size≤S){v:List Int}(hv:v.length≤N+1){m:List Rx}(hm:m.length≤K)(h:∀y∈m,Rm x v y∨(Nf y∧y.kind≤2)):FX B m:=by
 have ZO:=SS hK hB
 have h0:=Pt hK
 have hn:∀y∈m,Nf y:=fun y hy=>by rcases h y hy with h|h;exact h.nf;exact h.1
 refine⟨?_,?_,fun y hy=>?_⟩
 ·have h1:=DU hn
  have h2:m.length*64≤K*64:=aa2 _ hm
  omega
 ·have h1:=DT (m:=m) (n:=K) fun y hy=>by
   rcases h y hy with q|q
   ·exact aau (BJ hx q) (room_le hK hS hv)
   ·rw[jo ace];show 1≤K;omega
  have h2:=MS m
  have h3:m.length*K≤K*K:=aa2 _ hm
  omega
 ·rcases h y hy with q|q
  ·have:=FY hK _ x (Z1 _) hx hS v hv y q;omega
  ·have:=BL q.1 q.2;omega
theorem Pu (b:Int):∀(n:Nat)(x:Rx),x.size≤n→Nf x→x.size≤S→∀v:List Int,v.length≤N→∀t,Rm x v t→xQ B b t:=by
 intro n
 induction n with
 | zero=>intro x h;have:=size_pos x;omega
 | succ n ih =>
 intro x hn hx hS v hv t ht
 have ZN:=Pt hK
 have ZO:=SS hK hB
 have facF:∀y u,Nf y→y.size≤S→u.length≤N→(cy (dR b (Dv y u))).length≤B∧wd (dR b (Dv y u))≤B:=fun y u hy hyS hu=>by
   rw[←qC]
   have h1:=Ps hy (rS hy (u++[b]))
   have h2:=FY hK _ y (Z1 _) hy hyS (u++[b]) (by simp;omega) _ (rS hy (u++[b]))
   exact⟨ace,ace⟩
 have self:x.kind=5→xQ B b x:=fun h5=>by
   obtain⟨y,e,hy,_⟩:=hx.k5 h5
   have hlt:y.size<x.size:=by rw[e];exact dd (r:=.mk 5 [] [y]) Z7
   have hm:∀z∈x.kids,z=y:=fun z hz=>by rw[e] at hz;exact aag.1 hz
   refine .mk (fun q=>by omega) (fun q=>by omega) (fun _ z hz=>?_) fun z hz=>?_
   · rw[hm z hz];exact facF y [] hy ace (Z5 _)
   · rw[hm z hz];exact ih y ace hy ace [] (Z5 _) y (rS hy [])
 have fac:∀L f,L∈dH x v→f∈L→xQ B b f∧(cy (dR b f)).length≤B∧wd (dR b f)≤B:=fun L f hL hf=>by
   rcases MR hx v L f hL hf with⟨y,u,h1,h2,h3,h4⟩|⟨h5,h4⟩
   · rw [h4]
     have:=BI h3
     exact⟨ih y ace h2 ace u ace _ (rS h2 u),facF y u h2 ace ace⟩
   · rw[h4];exact⟨self h5,facF x [] hx hS (Z5 _)⟩
 have node:∀a,Nf a→(a.kind=3∨a.kind=5)→cy a∈dH x v→xQ B b a:=fun a ha hk hc=>by
   rcases hk with hk|hk
   · obtain ⟨e, h2, hnk, _⟩ := ha.k3 hk
     have h3:=xO hx v _ hc
     have h4:=BK hx
     rw[iK hk] at h3
     have hf:∀y∈a.kids,xQ B b y∧(cy (dR b y)).length≤B∧wd (dR b y)≤B:=fun y hy=>fac _ y hc (by rw[iK hk];exact hy)
     refine .mk (fun q=>by omega) (fun _=>?_) (fun _ z hz=>(hf z hz).2) fun z hz=>(hf z hz).1
     refine MT hK hB hx hS (v:=v++[b]) (by simp;omega) (by have:=BM b a.kids;omega) fun y hy=>?_
     obtain⟨i,hi,rfl⟩:=sZ hy
     exact .inl (SR hx ha hk hc b hi)
   · exact(fac _ a hc (by rw[eh ace ace];exact Z7)).1
 have low:∀y,Nf y→y.kind≤2→xQ B b y:=fun y hy hk=>by
   have e:y.kids=[]:=by
     have h1:=BL hy hk
     cases hy with
     | none=>rfl
     | empty=>rfl
     | set h=>rfl
     | seq h1 h2 h3=>exact absurd hk (by show ¬(3:Int)≤2;decide)
     | alt h1 h2 h3 h4 h5 h6=>exact absurd hk (by show ¬(4:Int)≤2;decide)
     | star h1 h2 h3=>exact absurd hk (by show ¬(5:Int)≤2;decide)
   exact .mk (fun q=>by omega) (fun q=>by omega) (fun q=>by omega) fun z hz=>by rw[e] at hz;cases hz
 have hkk:=ht.nf.kinds
 by_cases h4:t.kind=4
 · obtain ⟨e, h2, hnk, hk4, _⟩ := ht.nf.k4 h4
   have h3:=BJ hx ht
   have h5:=room_le hK hS (n:=v.length) ace
   rw[gF h4] at h3
   have hcs:∀y∈t.kids,y.kind≤2∨((y.kind=3∨y.kind=5)∧cy y∈dH x v):=fun y hy=>by
     have hyk:=(hnk y hy).kinds
     by_cases q:3≤y.kind
     · have := hk4 y hy
       exact .inr ⟨ace,ht.o6 y (lz.2 ⟨by rw[gF h4];exact hy,q⟩)⟩
     · exact .inl ace
   refine .mk (fun _=>?_) (fun q=>by omega) (fun q=>by omega) fun y hy=>?_
   · refine MT hK hB hx hS (v := v ++ [b]) (by simp; omega) (by rw [Z0]; omega) fun z hz => ?_
     obtain⟨y,hy,rfl⟩:=aao.1 hz
     rcases hcs y hy with q|q
     · refine .inr ⟨re b (hnk y hy), ?_⟩
       have hyk:=(hnk y hy).kinds
       rw[xE]
       by_cases q2:y.kind=2
       · rw[if_pos q2];split<;>decide
       · rw[if_neg q2,if_neg ace,if_neg ace,if_neg ace];decide
     · exact .inl (MP hx (hnk y hy) q.1 q.2 b)
   · rcases hcs y hy with q | q
     · exact low y (hnk y hy) q
     · exact node y (hnk y hy) q.1 q.2
 · by_cases q : 3 ≤ t.kind
   · exact node t ht.nf ace (ht.o6 t (kV ace))
   · exact low t ht.nf ace
theorem HG (b:Int){x:Rx}(hx:Nf x)(hS:x.size≤S){v:List Int}(hv:v.length≤N):wd (Dv x v)≤B∧xQ B b (Dv x v):=by
 have h1:=FY hK _ x (Z1 _) hx hS v ace _ (rS hx v)
 have h2:=SS hK hB
 exact⟨ace,Pu hK hB b _ x (Z1 _) hx hS v hv _ (rS hx v)⟩
end
theorem xS (l:List Rx)(i:Nat):aW l=aW (l.take i)++aW (l.drop i):=by
 unfold aW;rw[←abF,aa3]
theorem Aj (l m:List Rx):(c4 l).length≤(c4 (l++m)).length:=by rw[lA];omega
theorem Ak (l m:List Rx):(eW l).length≤(eW (l++m)).length:=by
 rw[sX,sX,aaW,aab];omega
theorem Pv (l:List Rx)(i:Nat):(c4 (aW (l.take i))).length≤(c5 l).length∧(eW (aW (l.take i))).length≤(dP l).length:=by
 unfold c5 dP
 rw[xS l i]
 exact⟨Aj _ _,Ak _ _⟩
theorem MU (l:List Rx){i:Nat}(hi:i<l.length)(h4:(l.getD i default).kind=4)(j:Nat) :
  (c4 (aW (l.take i)++(l.getD i default).kids.take j)).length≤(c5 l).length∧(eW (aW (l.take i)++(l.getD i default).kids.take j)).length≤(dP l).length:=by
 unfold c5 dP
 have e:aW l=(aW (l.take i)++(l.getD i default).kids.take j)++((l.getD i default).kids.drop j++aW (l.drop (i+1))):=by
  rw[xS l i,drop_cons hi,Ai,gF h4,aaI]
  conv=>lhs;rw[←aa3 j (l.getD i default).kids,aaI]
 rw[e]
 exact⟨Aj _ _,Ak _ _⟩
theorem MV (s:List Int)(k:List Rx):(j5 s k).length≤k.length+1:=by
 unfold j5;split
 ·rw[aab];exact Z1 _
 ·omega
theorem Pw {B:Nat}{l:List Rx}(hS:(c5 l).length≤B)(hw:∀x∈l,wd x≤B):∀z∈j5 (c5 l) (dP l),wd z≤B:=fun z hz=>by
 rcases gq.1 hz with h|⟨h0,h⟩
 ·obtain⟨y,hy,hm⟩:=pI.1 (ia.1 h).1
  by_cases h4:y.kind=4
  ·rw[gF h4] at hm;exact ik (hw y hy) hm
  ·rw[jo h4,aag] at hm;rw[hm];exact hw y hy
 ·rw[h]
  refine gK.2 ⟨⟨?_,Z5 _⟩,fun x hx=>by cases hx⟩
  show(sj OC (jD (c5 l))).length≤B
  have h1:=vX (eq:=OC) (l:=jD (c5 l))
  rw[qv] at h1
  omega
theorem F0 (l:List Rx)(i:Nat):ek l=ek (l.take i)++ek (l.drop i):=by
 unfold ek;rw[←abF,aa3]
theorem MW {B:Nat}{l:List Rx}(h:(ek l).length≤B)(hw:∀x∈l,wd x≤B):∀i,i<l.length→(ek (l.take i)).length+(l.getD i default).kids.length+1≤B+B+1:=fun i hi=>by
 have h1:=(gK.1 (hw _ (aP hi))).1.2
 rw[F0 l i,aab] at h
 omega
theorem y2 (l:List Rx)(hl:∀x∈l,Nf x):(cy (cU l)).length≤(ek l).length+1:=by
 by_cases h0:(cU l).kind=0
 ·rw[eh ace ace];exact Nat.le_add_left _ _
 ·rw[qD hl h0];omega
theorem Px {B:Nat}{l:List Rx}(h:(ek l).length≤B)(hw:∀x∈l,wd x≤B):wd (cU l)≤B:=by
 have hm:∀y∈ek l,wd y≤B:=fun y hy=>by
  obtain⟨x,hx,hy⟩:=abv.1 hy
  by_cases h3:x.kind=3
  ·rw[iK h3] at hy;exact ik (hw x hx) hy
  ·by_cases h1:x.kind=1
   ·rw[lV h1] at hy;cases hy
   ·rw[eh h3 h1,aag] at hy;rw[hy];exact hw x hx
 unfold cU xm
 split
 ·exact gK.2 ⟨⟨Z5 _,Z5 _⟩,fun x hx=>by cases hx⟩
 ·split
  ·exact gK.2 ⟨⟨Z5 _,Z5 _⟩,fun x hx=>by cases hx⟩
  ·split
   ·next h1=>exact hm _ (aP ace)
   ·exact gK.2 ⟨⟨Z5 _,h⟩,hm⟩
theorem uv {r:Rx}(h:Nf r)(h3:r.kind=3)(i:Nat):ek (r.kids.drop i)=r.kids.drop i:=nD fun x hx=>((h.k3 h3).2.2.2 x (aaE hx)).2
end Go.Wb
namespace Go.Am
open Go.RowKit
section
variable {P:Program} {w0:Fr}{M0:Nat→Prop}{s s':St}{id u t:Nat}{e:TypeId}{xs:List AV}{cs:List Cell}{E:Env}{a:Act}{w:World}
theorem a8.Us (u:Nat)(h:a8 P w0 M0 E s a w)(hnd:Nodup s.s=true)(aa:∀b,M0 b→b<w0.w.heap.size)(hl:s.o.lookup id=some (.arr e xs))(hu:u≠id) :
  ∃E':Env,E'.cur u=E.cur id∧E'.blk=E.blk∧a8 P w0 M0 E' { n:=s.n,s:=s.s.filter (fun p=>p.2.stays true u&&p.2.stays true id),o:=ins u (.arr e xs) (gY id (iR (fun d=>d.stays true u&&d.stays true id) s.o)) } a w:=by
 obtain⟨vals,g1,g2,g3⟩:=h.wok.objs id _ hl
 obtain⟨E',e1,e2,e3,e5⟩:∃E':Env,E'.cur u=E.cur id∧(∀i,i≠u→E'.cur i=E.cur i)∧E'.blk=E.blk∧E'.sub=E.sub :=
  ⟨{ E with cur:=fun i=>if i=u then E.cur id else E.cur i },if_pos rfl,fun i hi=>if_neg hi,rfl,rfl⟩
 have hN:∀i q,(if i=u then some (some (Ob.arr e xs)) else if i=id then some none else none:Option (Option Ob))=some q→(i=u∧q=some (.arr e xs))∨(i=id∧q=none):=fun i q hq=>by
  by_cases h1:i=u
  ·rw[if_pos h1] at hq;injection hq with hq;exact .inl ⟨h1,hq.symm⟩
  ·rw[if_neg h1] at hq
   by_cases h2:i=id
   ·rw[if_pos h2] at hq;injection hq with hq;exact .inr ⟨h2,hq.symm⟩
   ·rw[if_neg h2] at hq;cases hq
 refine⟨E',e1,e3,?_⟩
 refine a8.wG (E':=E') (fun d=>d.stays true u&&d.stays true id) (fun i=>if i=u then some (some (.arr e xs)) else if i=id then some none else none) _ (fun i=>?_) (fun d=>rfl) (fun i ob hq hx=>?_) (fun i hq=>?_) h hnd aa (fun i hq=>?_) (fun x hx=>by rw[e3]) none ⟨rfl,rfl,rfl,Z1 _,fun _ _ _=>rfl⟩ (fun _=>Z1 _) (fun g hg=>by cases hg) (fun i ob b hq hb=>.inl ?_) (fun i ob i' ob' b hq hq' hb hb'=>?_) (fun rep sv lents i ob hq=>?_)
 ·rw[ax]
  by_cases q1:i=u
  ·rw[if_pos q1,if_pos q1]
  ·rw[if_neg q1,if_neg q1,c8]
   by_cases q2:i=id
   ·rw[if_pos q2,if_pos q2]
   ·rw[if_neg q2,if_neg q2];exact ga _ i s.o
 ·rcases hN i _ hq with⟨rfl,_⟩|⟨_,q⟩
  ·obtain⟨d,q1,q2⟩:=hx
   rw[gV q1] at q2;cases q2
  ·cases q
 ·rcases hN i _ hq with⟨_,q⟩|⟨rfl,_⟩
  ·cases q
  ·exact⟨e2 i (aaX hu),by rw[e3]⟩
 ·have hit:i≠u:=fun q=>by rw[if_pos q] at hq;cases hq
  exact⟨e2 i hit,by rw[e3],by rw[e5]⟩
 ·rcases hN i _ hq with⟨rfl,q⟩|⟨_,q⟩
  ·injection q with q;subst q
   refine⟨id,_,by rw[if_neg (aaX hu),if_pos J];simp,hl,?_⟩
   simpa only[bE,e1] using hb
  ·cases q
 ·rcases hN i _ hq with⟨rfl,_⟩|⟨_,q⟩
  ·rcases hN i' _ hq' with⟨rfl,_⟩|⟨_,q⟩
   ·rfl
   ·cases q
  ·cases q
 ·rcases hN i _ hq with⟨rfl,q⟩|⟨_,q⟩
  ·injection q with q;subst q
   exact⟨vals,by rw[e1];exact g1,g2,fun j d hd=>⟨(g3 j d hd).1,rep .pl _ _ (g3 j d hd).2 (by simp)⟩⟩
  ·cases q
theorem jG (b j u:Nat){eb:TypeId}{bs bs':List SV}(aa:∀b,M0 b→b<w0.w.heap.size)(hnd:Nodup s.s=true)(hb0:s.o.lookup b=some (.box eb bs))(hj:bs[j]?=some (.own id))(hl:s.o.lookup id=some (.arr e xs))(hne:Nat.beq u id=false)(hbu:Nat.beq b u=false)
  (hb:(ins u (Ob.arr e xs) (gY id (iR (fun d=>d.stays true u&&d.stays true id) s.o))).lookup b=some (.box eb bs'))(hbl:bs'.length=bs.length)
  (hnd':Nodup (s.s.filter (fun p=>p.2.stays true u&&p.2.stays true id))=true) :
  fJ P w0 M0 s (({ n:=s.n,s:=s.s.filter (fun p=>p.2.stays true u&&p.2.stays true id),o:=ins u (.arr e xs) (gY id (iR (fun d=>d.stays true u&&d.stays true id) s.o)) }:St).cD false b (.box eb ((c3 b bs').set j (.own u)))):=by
 rintro a w ⟨E,hs⟩
 obtain⟨vals0,q1,q2,q3,q4⟩:=hs.wok.objs b _ hb0
 have hv:vals0.getD j undef=E.cur id:=(q4 j _ hj).2.2 e xs hl
 obtain⟨E',hc,hbk,h1⟩:=hs.Us u hnd aa hl (fun q=>by rw[q,abJ] at hne;cases hne)
 have hnu:b≠u:=fun q=>by rw[q,abJ] at hbu;cases hbu
 refine⟨E',h1.cD false (fun _=>⟨rfl,.inr (.inl ⟨eb,bs',_,hb,rfl⟩)⟩) hnd' aa (fun i hi=>⟨rfl,rfl⟩) (.inr J) none ⟨rfl,rfl,rfl,Z1 _,fun _ _ _=>rfl⟩ (fun _=>Z1 _) (fun g hg=>by cases hg) (fun b' hb'=>.inl ⟨_,hb,hb'⟩) (fun rep sv=>?_)⟩
 obtain⟨vals,g1,g2,g3,g4⟩:=h1.wok.objs b _ hb
 have hvv:vals=vals0:=by
  rw[hbk,q1] at g1
  simp only[Option.some.injEq,Obj.cells.injEq] at g1
  have:=g1.1
  simpa using this.symm
 subst hvv
 refine⟨vals,g1,g2,by simpa[c3] using g3,fun i d hd=>?_⟩
 by_cases hi:j=i
 ·subst hi
  have hjl:j<bs'.length:=by rw[hbl];exact(aaf.1 hj).1
  rw[abj (by simpa[c3] using hjl)] at hd
  simp only[Option.some.injEq] at hd
  subst hd
  have h0:=q4 j _ hj
  exact⟨rfl,h0.2.1,fun e1 c1 hh=>by rw[hc];exact hv⟩
 ·rw[abo hi] at hd
  simp only[c3,Z6,Z4] at hd
  obtain⟨d0,hd0,rfl⟩:=hd
  have:=g4 i d0 hd0
  split
  ·exact⟨this.1,this.2.1,sv _ _ this.2.2 ‹_›⟩
  ·exact⟨rfl,this.2.1,trivial⟩
end
end Go.Am
