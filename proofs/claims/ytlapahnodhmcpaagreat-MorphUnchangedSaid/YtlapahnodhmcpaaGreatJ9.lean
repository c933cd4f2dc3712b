/-
  Part of the proof.
-/
import Derived.Test.YtlapahnodhmcpaaGreatJ0
import Derived.Test.YtlapahnodhmcpaaGreatJ8
import Derived.Test.YtlapahnodhmcpaaGreatJ6
set_option linter.unusedVariables false
set_option linter.unusedSectionVars false
set_option linter.unusedSimpArgs false
set_option maxRecDepth 100000
set_option maxHeartbeats 40000000
namespace Go.Am
open Go.RowKit
theorem bZ {α:Type}(f:Nat→Bool)(t:Nat):∀l:List (Nat×α),(l.filter fun p=>f p.1).lookup t=if f t then l.lookup t else none
 | []=>by simp
 | (u, d) :: r => by
   rw[abb];by_cases hu:f u=true
   · rw [if_pos hu, aj, aj, bZ f t r]
     by_cases h:t=u
     · subst h;simp[hu]
     · simp[h]
   · rw [if_neg hu, bZ f t r, aj]
     by_cases h:t=u
     · subst h;simp[hu]
     · simp[h]
theorem lH (f:Nat→Bool):∀l:List (Nat×SV),Nodup l=true→Nodup (l.filter fun p=>f p.1)=true
 | [],_=>rfl
 | (t, d) :: r, h => by
   simp only[Nodup,aax,aa5] at h;rw[abb];split
   · simp only [Nodup, aax, aa5]
     refine⟨?_,lH f r h.2⟩;rw[abH] at h ⊢;exact fun x hx=>h.1 x (aa9.1 hx).1
   · exact lH f r h.2
theorem DG (k n:Nat):((List.range n).filter (fun j=>decide (k≤j))).length=n-k:=by
 induction n with
 | zero=>simp
 | succ n ihn =>
   rw[aa8,abq,aar,ihn];by_cases hkn:k≤n
   · simp[hkn];omega
   · simp[hkn];omega
variable{k t id n u i:Nat}{L:Array Bool}{o:Oper}{ρ:Operand→Option SV}{ob:List (Nat×Ob)}{s s':St}{d:AV}
section
variable {P:Program} {w0:Fr}{M0:Nat→Prop}{ops:Array Oper}{Q:St→Prop}
def ez (ops:Array Oper)(k:Nat)(L:Array Bool)(t:Nat):Bool:=(List.range k).all fun j=>L.getD j false||(match(ops[j]?).bind (·.dst) with|some u=>!(Nat.beq u t)|none=>true)
theorem gL :ez ops k L t=true↔∀j,j<k→(ops[j]?).bind (·.dst)=some t→L.getD j false=true:=by
 unfold ez;rw[aaF];constructor
 · intro h j hj hd
   have:=h j (aaI.2 hj);rw[hd] at this;simpa using this
 · intro h j hj
   have hj:=aaI.1 hj;rw[aba];cases hd:(ops[j]?).bind (·.dst) with
   | none=>exact .inr rfl
   | some u =>
     by_cases hu:u=t
     · subst hu;exact .inl (h j hj hd)
     · refine .inr ?_
       simp only[aa5];cases hb:Nat.beq u t with
       | false=>rfl
       | true=>exact absurd (aa7 hb) hu
def RC (ops:Array Oper)(n k:Nat):Bool:=(List.range k).all fun i=>match ops[i]? with
 | none=>false
 | some o => o.guard.isNone && (match o.dst with | some t => Nat.blt t n | none => false) &&
   (List.range k).all fun j=>match(ops[j]?).bind (·.dst) with
     | some u=>!(looks ops o).contains u||(gd o).contains j
     | none=>false
theorem Pure.mono {ρ':Operand→Option SV}{d:SV}(h:Pure P w0 M0 o ρ ob d)(hρ:∀x e,ρ x=some e→ρ' x=some e):Pure P w0 M0 o ρ' ob d :=
 fun E w ev hw hx=>h E w ev hw fun x e he=>hx x e (hρ x e he)
theorem kx   {s0:List (Nat×SV)} {o1 o2:List (Nat×Ob)} (a k:Nat) (G:List (Nat×SV)) {Q':Exit→St→Prop} (hm:P.follows .mixedOrders=true) (hok:l7 ops=true) (htl:fz ops k=true) (hmid:RC ops n k=true) (hka:Nat.blt a k=true) (hks:Nat.ble k ops.size=true)
   (hG:∀t d,(G.filter fun p=>ez ops k #[] p.1).lookup t=some d→s0.lookup t=some d)(hnd:Nodup G=true)
   (hset:∀i,i<k→∃t d,(ops[i]?).bind (·.dst)=some t∧G.lookup t=some d)
   (h1:∀i o t d,i<k→i≠a→ops[i]?=some o→o.dst=some t→G.lookup t=some d→(kV ops ops.size i).contains a=false→Pure P w0 M0 o (fq ops o (St.ev ⟨n,G,o1⟩)) o1 d)
   (h2:∀i o t d,i<k→i≠a→ops[i]?=some o→o.dst=some t→G.lookup t=some d→(kV ops ops.size a).contains i=false→Pure P w0 M0 o (fq ops o (St.ev ⟨n,G,o2⟩)) o2 d)
   (hA:∀o X,ops[a]?=some o→Nodup X=true→(∀t d,X.lookup t=some d→G.lookup t=some d)→(∀t,t∈looks ops o→X.lookup t=G.lookup t)→∃t d s',o.dst=some t∧G.lookup t=some d∧Step P w0 M0 o ⟨n,X,o1⟩ s'∧fF P w0 M0 s' ⟨n,ins t d X,o2⟩)
   (hend:rZ P w0 M0 ops (fun s=>∃s',fF P w0 M0 s s'∧Q' .normal s') k ⟨n,G,o2⟩):ao P w0 M0 (.region id ops true) ⟨n,s0,o1⟩ Q':=by
 have hka:a<k:=by simpa using hka
 have hks:=aah hks;obtain⟨hns,hsp⟩:=mM hok;have hlt:∀i o,ops[i]?=some o→∀j∈gd o,j<i:=fun i o ho=>(hsp i o ho).1
 have hmid':∀i o,i<k→ops[i]?=some o→o.guard=none∧(∃t,o.dst=some t∧t<n)∧∀j u,j<k→(ops[j]?).bind (·.dst)=some u→u∈looks ops o→j∈gd o:=by
   intro i o hi ho;unfold RC at hmid;rw[aaF] at hmid;have h:=hmid i (aaI.2 hi);simp only[ho,aax,aaF] at h;refine⟨by simpa using h.1.1,?_,fun j u hj hu hl=>?_⟩
   · cases hd : o.dst with
     | none=>rw[hd] at h;exact absurd h.1.2 (by simp)
     | some t=>rw[hd] at h;exact⟨t,rfl,by simpa using h.1.2⟩
   · have := h.2 j (aaI.2 hj)
     rw[hu] at this;simp only[aba,aa5] at this;rcases this with h'|h'
     · have : (looks ops o).contains u = true := aa4.2 hl
       rw[h'] at this;cases this
     · exact aa4.1 h'
 have uniq:∀i j o p t,i<k→j<k→ops[i]?=some o→ops[j]?=some p→o.dst=some t→p.dst=some t→i=j:=by
   intro i j o p t hi hj ho hp hd hd';by_cases hij:i=j
   · exact hij
   · exact absurd J (((hsp i o ho).2 j p hp hij).1 t t hd hd')
 let oL:Array Bool→List (Nat×Ob):=fun L=>if L.getD a false then o2 else o1
 let sL:Array Bool→St:=fun L=>⟨n,G.filter (fun p=>ez ops k L p.1),oL L⟩
 have main : ∀ (fuel : Nat) (L : Array Bool) (ac : Act) (w : World), L.size = ops.size → ov ops L → (∀ j, k ≤ j → L.getD j false = false) → pE P w0 M0 (sL L) ac w →
     ((List.range ops.size).filter (fun j=>!L.getD j false)).length≤fuel →
     wpAny P .any ops (fun e a' w'=>e=.normal∧∃s',(∃s'',fF P w0 M0 s' s''∧Q' .normal s'')∧pE P w0 M0 s' a' w') fuel L ac w:=by
   intro fuel;have ready_ne:∀(L:Array Bool),L.size=ops.size→∀j,j<ops.size→L.getD j false=false→Region.ready .any ops L≠[]:=by
     intro L hL j
     induction j using Nat.strongRecOn with
     | _ j ih =>
       intro hj hf;by_cases hall:∀i∈gd ops[j],L.getD i false=true
       · intro he
         have:j∈Region.ready .any ops L:=gI.2 ⟨by
           have:L[j]?=some L[j]:=aaM acK;simp[this] at hf ⊢;exact hf,ops[j],aaM hj,hall⟩
         rw[he] at this;cases this
       · simp only [Classical.not_forall] at hall
         obtain⟨i,hi,hif⟩:=hall;have hij:=hlt j ops[j] (aaM hj) i hi;exact ih i hij acK (by cases hh:L.getD i false<;>simp_all)
   -- once all up to k are carried out
   have rest:∀(f:Nat)(L:Array Bool)(ac:Act)(w:World),L.size=ops.size→(∀j,k≤j→L.getD j false=false)→(∀j,j<k→L.getD j false=true)→pE P w0 M0 (sL L) ac w→((List.range ops.size).filter (fun j=>!L.getD j false)).length≤f →
       wpAny P .any ops (fun e a' w'=>e=.normal∧∃s',(∃s'',fF P w0 M0 s' s''∧Q' .normal s'')∧pE P w0 M0 s' a' w') f L ac w:=by
     intro f L ac w hL hk hall hs hf;have hiff:∀j,j<ops.size→(L.getD j false=true↔j<k):=fun j hj=>⟨fun h=>(by
       rcases aaK j k with h'|h'
       · exact h'
       · rw[hk j h'] at h;cases h),hall j⟩
     have h3:(List.range ops.size).filter (fun j=>!L.getD j false)=(List.range ops.size).filter (fun j=>decide (k≤j)):=by
       apply List.filter_congr;intro j hj;have hj':=aaI.1 hj;cases hv:L.getD j false
       · have : ¬ j < k := fun h => by rw [(hiff j hj').2 h] at hv; cases hv
         simp;omega
       · have := (hiff j hj').1 hv
         simp;omega
     rw[h3,DG] at hf;have hs2:pE P w0 M0 ⟨n,G,o2⟩ ac w:=by
       refine eO (s:=sL L) (s':=⟨n,G,o2⟩) J (by show o2=oL L;simp only[oL];rw[if_pos (hall a hka)]) (fun t d ht=>?_) ac w hs;show(G.filter (fun p=>ez ops k L p.1)).lookup t=some d;rw[bZ,if_pos (gL.2 fun j hj _=>hall j hj)];exact ht
     exact hend f L ac w hL hiff hs2 hf
   induction fuel with
   | zero =>
     intro L ac w hL hc hk hs hfu;have hall:∀j,j<ops.size→L.getD j false=true:=by
       intro j hj;cases hf:L.getD j false
       · have : j ∈ (List.range ops.size).filter (fun j => !L.getD j false) := aa9.2 ⟨aaI.2 hj, by simp [hf]⟩
         have:=abW this;omega
       · rfl
     exact rest 0 L ac w hL hk (fun j hj=>hall j acK) hs hfu
   | succ fuel ih =>
     intro L ac w hL hc hk hs hfu;by_cases hallk:∀j,j<k→L.getD j false=true
     · exact rest _ L ac w hL hk hallk hs hfu
     refine⟨fun hr=>?_,fun i hi=>?_⟩
     · exfalso
       apply hallk;intro j hj;cases hf:L.getD j false
       · exact absurd hr (ready_ne L hL j acK hf)
       · rfl
     · obtain ⟨hni, o, ho, hpre⟩ := gI.1 hi
       have his:=(aaV.1 ho).1;have BF:L.getD i false=false:=by
         have hx:L[i]?=some L[i]:=aaM acK;simp[hx] at hni ⊢;exact hni
       have hik:i<k:=by
         rcases aaK i k with h|h
         · exact h
         · exfalso
           apply hallk;unfold fz at htl;rw[aaF] at htl;have h2:=htl i (aaI.2 his);rw[aba] at h2;rcases h2 with h2|h2
           · have : i < k := by simpa using h2
             omega
           · rw [aaF] at h2
             exact fun j hj=>eV hc ops.size i o ho hpre hlt j (aa4.1 (h2 j (aaI.2 acK)))
       obtain⟨hgd,⟨ti,hdst,hti⟩,hread⟩:=hmid' i o hik ho;obtain⟨t',di,ht',Lh⟩:=hset i hik;have hb:(ops[i]?).bind (·.dst)=some ti:=by rw[ho];exact hdst
       rw[hb] at ht';simp only[aaj] at ht';subst ht';have hlook:∀t,t∈looks ops o→(sL L).s.lookup t=G.lookup t:=fun t ht=>by
         show(G.filter (fun p=>ez ops k L p.1)).lookup t=_;rw[bZ,if_pos (gL.2 fun j hj hd=>hpre j (hread j t hj hd ht))]
       have hkeep:∀t,t≠ti→ez ops k (L.setIfInBounds i true) t=true→ez ops k L t=true:=fun t hne h=>by
         rw[gL] at h ⊢;intro j hj hd;have:=h j hj hd;rw[ck acK] at this;by_cases hji:j=i
         · subst hji;rw[hb] at hd;simp only[aaj] at hd;exact absurd hd.symm hne
         · rwa [if_neg hji] at this
       have hself:ez ops k L ti=false:=by
         cases hq:ez ops k L ti with
         | false=>rfl
         | true=>have:=gL.1 hq i hik hb;rw[BF] at this;cases this
       have hnone:(sL L).s.lookup ti=none:=by
         show(G.filter (fun p=>ez ops k L p.1)).lookup ti=_;rw[bZ,hself];rfl
       have hstep:∃s',Step P w0 M0 o (sL L) s'∧fF P w0 M0 s' (sL (L.setIfInBounds i true)):=by
         have hfin:∀ob,ob=oL (L.setIfInBounds i true)→fF P w0 M0 ⟨n,ins ti di (sL L).s,ob⟩ (sL (L.setIfInBounds i true)):=fun ob hob=>by
           refine eO J hob.symm (fun t d ht=>?_);have ht':(G.filter (fun p=>ez ops k (L.setIfInBounds i true) p.1)).lookup t=some d:=ht;rw[bZ] at ht';split at ht'
           · rename_i hkp
             rw[ax];by_cases hne:t=ti
             · subst hne
               rw[if_pos rfl,←Lh,ht']
             · rw [if_neg hne]
               show(G.filter (fun p=>ez ops k L p.1)).lookup t=_;rw[bZ,if_pos (hkeep t hne hkp)];exact ht'
           · cases ht'
         by_cases hia:i=a
         · subst hia
           have SU:Nodup (sL L).s=true:=lH _ _ hnd;obtain⟨t,d,s',g1,g2,g3,g4⟩:=hA o (sL L).s ho SU (fun t d ht=>by
             have ht':(G.filter (fun p=>ez ops k L p.1)).lookup t=some d:=ht;rw[bZ] at ht';split at ht'
             · exact ht'
             · cases ht') hlook
           rw[hdst] at g1;simp only[aaj] at g1;subst g1;rw[Lh] at g2;simp only[aaj] at g2;subst g2;refine⟨s',?_,g4.trans (hfin o2 ?_)⟩
           · have : sL L = ⟨n, (sL L).s, o1⟩ := by show (⟨_, _, oL L⟩ : St) = _; simp only [oL]; rw [BF]; rfl
             rw[this];exact g3
           · simp only[oL];rw[ck acK,if_pos rfl];rfl
         · have hL' : (L.setIfInBounds i true).getD a false = L.getD a false := by rw [ck acK, if_neg (abi hia)]
           have hpure:Pure P w0 M0 o (fq ops o (St.ev ⟨n,G,oL L⟩)) (oL L) di:=by
             simp only[oL];by_cases Xu:L.getD a false=true
             · rw [if_pos Xu]
               refine h2 i o ti di hik hia ho hdst Lh ?_;cases hq:(kV ops ops.size a).contains i with
               | false=>rfl
               | true =>
                 have hao:ops[a]?=some ops[a]:=aaM acK;have:=eV hc ops.size a ops[a] hao (fun j hj=>hc a _ hao Xu j hj) hlt i (aa4.1 hq);rw[BF] at this;cases this
             · rw [if_neg Xu]
               refine h1 i o ti di hik hia ho hdst Lh ?_;cases hq:(kV ops ops.size i).contains a with
               | false=>rfl
               | true=>exact absurd (eV hc ops.size i o ho hpre hlt a (aa4.1 hq)) Xu
           have hpure':Pure P w0 M0 o (sL L).ev (sL L).o di:=hpure.mono fun x e hx=>by
             cases x with
             | tmp t =>
               by_cases hcn:(looks ops o).contains t=true
               · simp only [fq, hcn, if_true] at hx
                 show(sL L).s.lookup t=some e;rw[hlook t (aa4.1 hcn)];exact hx
               · simp only[fq,hcn] at hx;cases hx
             | const v=>exact hx
             | func f=>exact hx
             | global g=>exact hx
           refine⟨_,lR hdst hti hpure',hfin _ ?_⟩;show oL L=_;simp only[oL];rw[hL']
       obtain⟨s',hst,himp⟩:=hstep;unfold wpOp;simp only[ho,Region.wanted,hgd,if_true];refine .inl (Oper.wp_mono (fun a' w' h'=>?_) (hst ac w _ hs));refine ih (L.setIfInBounds i true) a' w' (by simp[hL]) (fun j p hp zG x hx=>?_) (fun j hj=>?_) (himp a' w' h') ?_
       · rw [ck acK] at zG ⊢
         by_cases hji:j=i
         · subst hji
           obtain rfl:p=o:=by rw[ho] at hp;exact(Option.some.inj hp).symm
           split
           · rfl
           · exact hpre x hx
         · rw [if_neg hji] at zG
           split
           · rfl
           · exact hc j p hp zG x hx
       · rw[ck acK,if_neg acK];exact hk j hj
       · have hlt' := filter_lt (fun j => !L.getD j false) (fun j => !(L.setIfInBounds i true).getD j false) (fun x hx => by
           rw[ck acK] at hx;split at hx
           · cases hx
           · exact hx) (List.range ops.size) i (aaI.2 his) (by rw[BF];rfl) (by rw[ck acK,if_pos J];rfl)
         omega
 rintro ac w hs;have hw:bB w0.dr w.heap.size w { w with drawn:=w.drawn+1 }:=(Below.refl _ _).drew;have h0 := main ops.size (Array.replicate ops.size false) ac { w with drawn := w.drawn + 1 } (by simp) (fun i o ho hL => by
     have his:=(aaV.1 ho).1;simp[his] at hL) (fun j hj=>by
     rcases aaK j ops.size with h|h<;>simp[h]) (by
     refine eO (s:=⟨n,s0,o1⟩) (s':=sL (Array.replicate ops.size false)) J ?_ (fun t d ht=>hG t d ?_) ac _ (hs.grow hw)
     · show oL _ = o1
       simp only[oL];rw[if_neg];have:a<ops.size:=acK;simp[this]
     · have ht' : (G.filter (fun p => ez ops k (Array.replicate ops.size false) p.1)).lookup t = some d := ht
       rw[bZ] at ht' ⊢;split at ht'
       · rename_i hkp
         rw[if_pos,ht'];rw[gL] at hkp ⊢;intro j hj hd;have:=hkp j hj hd;have hjs:j<ops.size:=acK;simp[hjs] at this
       · cases ht') (by
     have:=abx (fun j=>!(Array.replicate ops.size false).getD j false) (List.range ops.size);simpa using this)
 refine iT (l6 hm sS h0) fun e a' w' ⟨he,s',⟨s2,hi,hq⟩,h2⟩=>?_
 subst he;exact⟨s2,hq,hi a' w' h2⟩
theorem LY {l:List (Nat×SV)}{o':List (Nat×Ob)}(aa:∀b,M0 b→b<w0.w.heap.size)
   (hl:∀t d,l.lookup t=some d→s.s.lookup t=some d∨(∃q a,s.s.lookup t=some q∧RA s.o o' q=some a∧d=.v .pl a)∨(∃i,d=.own i∧o'.lookup i=none∧t<s.n))(ho':∀id ob,o'.lookup id=some ob→s.o.lookup id=some ob):fF P w0 M0 s ⟨s.n,l,o'⟩:=by
 rintro a w ⟨E,hs⟩;have h2:ba P w0 M0 E ⟨s.n,[],o'⟩ a w:=by
   have hown:∀b,owned E o' b→owned E s.o b:=fun b ⟨id,ob,h1,h2⟩=>⟨id,ob,ho' id ob h1,h2⟩
   refine⟨hs.size,hs.defers,fun t d ht=>by simp at ht,fun id ob hid=>?_,fun id ob id' ob' b h1 h2=>hs.wok.disj id ob id' ob' b (ho' _ _ h1) (ho' _ _ h2),hs.wok.below,hs.wok.pins⟩;have:=hs.wok.objs id ob (ho' id ob hid);cases ob with
   | arr e xs =>
     obtain⟨vals,h1,h2,h3⟩:=this;exact⟨vals,h1,h2,fun j d hd=>⟨(h3 j d hd).1,(h3 j d hd).2.cd (dO hown .pl)⟩⟩
   | box e cs =>
     obtain⟨vals,h1,h2,h3,h4⟩:=this;exact⟨vals,h1,h2,h3,fun j sv hj=>⟨(h4 j sv hj).1,(h4 j sv hj).2.1,(h4 j sv hj).2.2.mN ho'⟩⟩
   | mp ks vs =>
     obtain⟨es,clock,h1,h2,h3,h4,h5⟩:=this;exact⟨es,clock,h1,h2,h3,h4,fun j d hd=>(h5 j d hd).cd (dO hown .pl)⟩
   | nar e cs ln =>
     obtain⟨n,vals,h1,h2,h3,h4,h5⟩:=this;exact⟨n,vals,h1,h2,h3,h4.cd hown,h5⟩
   | nmp ks cs ln =>
     obtain⟨es,clock,h1,h2,h3,h4,h5,h6,h7⟩:=this;exact⟨es,clock,h1,h2,h3,h4,h5,h6.cd hown,h7⟩
 refine⟨E,h2.size,h2.defers,fun t d ht=>?_,h2.wok⟩;rcases hl t d ht with h|⟨q,av,h3,h4,rfl⟩|⟨i,rfl,hi,htn⟩
 · have := hs.slots t d h
   exact⟨this.1,this.2.mN ho'⟩
 · have := hs.slots t q h3
   exact⟨this.1,LO hs.wok ho' aa this.2 h4⟩
 · refine ⟨htn, fun e xs hh => ?_⟩
   have hh':o'.lookup i=some (.arr e xs):=hh;rw[hi] at hh';cases hh'
theorem vz (ids:List Nat):∀(X:List (Nat×SV))(t:Nat)(d:SV),Nodup X=true→X.lookup t=some d→d.safe ids=true→(X.filter fun p=>p.2.safe ids).lookup t=some d
 | [],t,d,_,h,_=>by simp at h
 | (u, e) :: r, t, d, hn, h, hs => by
   rw[aj] at h;have hn':=hn;simp only[Nodup,aax,aa5] at hn;rw[abb];split at h
   · rename_i ht
     simp only[aaj] at h;subst h;rw[if_pos hs,aj,if_pos ht]
   · rename_i ht
     have ih:=vz ids r t d hn.2 h hs;split
     · rw[aj,if_neg ht];exact ih
     · exact ih
theorem vA (g:Nat→Ob→Ob)(i:Nat):∀l:List (Nat×Ob),(l.map fun p=>(p.1,g p.1 p.2)).lookup i=(l.lookup i).map (g i)
 | []=>by simp
 | (a, b) :: r => by
   rw[aa6,aj,aj,vA g i r];split
   · rename_i h;subst h;rfl
   · rfl
theorem DH {X:List (Nat×SV)}{o1 o2:List (Nat×Ob)}{f:FuncId}{e:TypeId}{xs ys:List AV}{ats:Array TypeId}(ho:o.op=.call { callee:=.value (.func f),args:=#[.tmp u],argTypes:=ats })(hd:o.dst=some t)(hn:Nat.blt t n=true)(hun:Nat.blt u n=true)
   (hX:X.lookup u=some (.own id))(hnd:Nodup X=true)(hl:o1.lookup id=some (.arr e xs))(h:lz P f [.own 0] [(0,.arr e xs)] (.own 0) [(0,.arr e ys)])(hsafe:∀t' d,X.lookup t'=some d→t'≠u→d.safe [id]=true)(hid:o2.lookup id=none)
   (ho2:∀i ob,o2.lookup i=some ob→∃ob1,o1.lookup i=some ob1∧ob=ob1.after [id])(aa:∀b,M0 b→b<w0.w.heap.size):∃s',Step P w0 M0 o ⟨n,X,o1⟩ s'∧fF P w0 M0 s' ⟨n,ins t (.v .pl (.sl ys)) X,o2⟩:=by
 have hrn:rn [(0,id)] 0=id:=rfl;have hst:=aP (P:=P) (w0:=w0) (M0:=M0) (o:=o) (s:=⟨n,X,o1⟩) (dc:=.v .pl (.clo f [])) (f:=f) (caps:=[]) (svs:=[.own id]) [(0,id)] ho hd hn hnd rfl rfl (by show Po _ [Operand.tmp u]=_;simp only[Po,St.ev,hX]) h ⟨.inl rfl,trivial⟩ ⟨by show o1.lookup (rn [(0,id)] 0)=_;rw[hrn];exact hl,trivial⟩ rfl rfl rfl rfl rfl aa;refine⟨_,hst,?_⟩;have hlk:∀i,((⟨n,X,o1⟩:St).after [(0,id)] [(0,.arr e ys)]).o.lookup i=(o1.lookup i).map fun ob=>if i=id then .arr e ys else ob.after [id]:=by
   intro i;show(o1.map fun p=>(p.1,((zH [(0,id)] [(0,.arr e ys)]).lookup p.1).getD (p.2.after (cR [(0,id)] [(0,Ob.arr e ys)])))).lookup i=_;rw[vA (fun a b=>((zH [(0,id)] [(0,.arr e ys)]).lookup a).getD (b.after (cR [(0,id)] [(0,Ob.arr e ys)])))]
   congr 1
   funext b
   show((List.lookup i [(id,(Ob.arr e ys).kl [(0,id)])]).getD (b.after [id]))=_;rw[aj];by_cases h3:i=id
   · rw[if_pos h3,if_pos h3];rfl
   · rw[if_neg h3,if_neg h3];rfl
 refine LY aa (fun t' d ht'=>?_) (fun i ob hi=>?_)
 · rw [ax] at ht'
   show(ins t (SV.own id) _).lookup t'=some d∨_;rw[ax];by_cases h1:t'=t
   · rw [if_pos h1] at ht' ⊢
     simp only[aaj] at ht';subst ht';refine .inr (.inl ⟨.own id,.sl ys,?_,?_,rfl⟩)
     · show (ins t (SV.own id) _).lookup t' = _
       rw[ax,if_pos h1]
     · show RA ((⟨n, X, o1⟩ : St).after [(0, id)] [(0, .arr e ys)]).o o2 (.own id) = some (.sl ys)
       have h2:=hlk id;rw[hl,aa3,if_pos rfl] at h2;simp only[RA,DA,h2,hid]
   · rw [if_neg h1] at ht' ⊢
     by_cases h2:t'=u
     · subst h2
       rw[hX] at ht';simp only[aaj] at ht';exact .inr (.inr ⟨id,ht'.symm,hid,by show t'<n;simpa using hun⟩)
     · exact .inl (vz _ X t' d hnd ht' (hsafe t' d ht' h2))
 · show ((⟨n, X, o1⟩ : St).after [(0, id)] [(0, .arr e ys)]).o.lookup i = some ob
   obtain⟨ob1,h1,h2⟩:=ho2 i ob hi;rw[hlk,h1,aa3,if_neg (fun h3=>by rw[h3,hid] at hi;cases hi),h2]
def AV.Uv:AV→AV
 | .sc (.slice none 0 0)=>.sl []
 | d=>d
def AV.norm:AV→AV
 | .agg cs=>.agg (cs.map AV.Uv)
 | d=>d.Uv
theorem HV {w:World}{M:Nat→Prop}{v:Value}(h:bJ w M v d):bJ w M v d.Uv:=by
 unfold AV.Uv;split
 ·cases h;exact .sl none 0 0 [] 0 (fun _=>undef) J (aak _) (by simp) (fun h=>absurd h acK) (fun j d hd=>by simp[flat] at hd) (fun j d hd=>by simp[flat] at hd)
 ·exact h
theorem LZ (h:d.leaf=true):d.Uv.leaf=true:=by
 unfold AV.Uv;split
 ·rfl
 ·exact h
theorem DI {w:World}{M:Nat→Prop}{v:Value}(h:bJ w M v d):bJ w M v d.norm:=by
 cases d with
 | agg cs =>
   cases h with
   | agg vs _ hn hl hr =>
     refine .agg vs _ (by simpa using hn) (fun j d hd=>?_) (fun j d hd=>?_)
     · rw [aap, aao] at hd
       obtain⟨d0,h0,rfl⟩:=hd;exact LZ (hl j d0 h0)
     · rw [aap, aao] at hd
       obtain⟨d0,h0,rfl⟩:=hd;exact HV (hr j d0 h0)
 | _=>exact HV h
theorem au {c:fW}{d':AV}(h:Pure P w0 M0 o ρ ob (.v c d))(e:d.norm=d'):Pure P w0 M0 o ρ ob (.v c d'):=by
 subst e;intro E w ev hw hx;have:=h E w ev hw hx;unfold sQ at this ⊢;generalize (execOp ev o).run P w=r at *
 match r,this with
 | .ok (.value v) w',hy=>exact⟨hy.1,DI hy.2⟩
 | .ok (.enter f args) w',hy=>exact⟨hy.1,hy.2.mono fun e w'' ⟨v,he,hb,hv⟩=>⟨v,he,hb,DI hv⟩⟩
def JD (o1:List (Nat×Ob))(ids:List Nat):List (Nat×Ob)→Prop
 | []=>True
 | (a,ob) :: r=>(∃ob1,o1.lookup a=some ob1∧ob=ob1.after ids)∧JD o1 ids r
theorem JD.out {o1:List (Nat×Ob)}{ids:List Nat}:∀{o2:List (Nat×Ob)},JD o1 ids o2→∀i ob,o2.lookup i=some ob→∃ob1,o1.lookup i=some ob1∧ob=ob1.after ids
 | [],_,i,ob,h=>by simp at h
 | (a, b) :: r, h, i, ob, hl => by
   rw[aj] at hl;split at hl
   · rename_i he;subst he;simp only[aaj] at hl;subst hl;exact h.1
   · exact JD.out h.2 i ob hl
theorem DJ {G:List (Nat×SV)}{ids:List Nat}(h:(G.all fun p=>p.2.safe ids||Nat.beq p.1 u)=true){d:SV}(hl:G.lookup t=some d)(hne:t≠u):d.safe ids=true:=by
 have:=aaF.1 h _ (dA hl);rw[aba] at this;rcases this with h1|h1
 ·exact h1
 ·exact absurd (aa7 h1) hne
def PJ (N m:Nat):List Bool:=(List.range N).map fun j=>Nat.blt j m
def pA (P:Program)(w0:Fr)(M0:Nat→Prop)(ops:Array Oper)(Q:St→Prop):Nat→Array Bool→St→Prop
 | 0,L,s=>Region.ready .any ops L=[]∧Q s
 | n+1,L,s=>(Region.ready .any ops L=[]∧Q s)∨(Region.ready .any ops L≠[]∧∀i∈Region.ready .any ops L,∃o,ops[i]?=some o∧o.guard=none∧∃s',Step P w0 M0 o s s'∧pA P w0 M0 ops Q n (L.setIfInBounds i true) s')
theorem HW:∀ (n fuel:Nat)(L:Array Bool)(s:St)(a:Act)(w:World),pA P w0 M0 ops Q n L s→n≤fuel→pE P w0 M0 s a w→wpAny P .any ops (fun e a' w'=>e=.normal∧∃s',Q s'∧pE P w0 M0 s' a' w') fuel L a w
 | 0, fuel, L, s, a, w, ⟨h, hq⟩, hf, hs => by
   cases fuel with
   | zero=>exact⟨h,rfl,s,hq,hs⟩
   | succ f=>exact⟨fun _=>⟨rfl,s,hq,hs⟩,fun i hi=>by rw[h] at hi;cases hi⟩
 | n + 1, fuel, L, s, a, w, h, hf, hs => by
   cases fuel with
   | zero=>omega
   | succ f =>
     rcases h with⟨h,hq⟩|⟨h,hall⟩
     · exact⟨fun _=>⟨rfl,s,hq,hs⟩,fun i hi=>by rw[h] at hi;cases hi⟩
     · refine ⟨fun hr => absurd hr h, fun i hi => ?_⟩
       obtain⟨o,ho,hg,s',hst,hx⟩:=hall i hi;unfold wpOp;simp only[ho,Region.wanted,hg,if_true];exact .inl (Oper.wp_mono (fun a' w' h'=>HW n f _ s' a' w' hx acK h') (hst a w _ hs))
theorem bM {m:Nat}(hn:Nat.ble n (ops.size-m)=true)(h:pA P w0 M0 ops Q n (PJ ops.size m).toArray s):rZ P w0 M0 ops Q m s:=by
 intro f L a w hL hiff hs hf;have:L=(PJ ops.size m).toArray:=by
   apply Array.ext
   · simp[PJ,hL]
   · intro j h1 h2
     have:=hiff j acK;simp only[PJ,List.getElem_toArray,acd,List.getElem_range];rw[aaL,aaM h1,ace] at this;cases hb:L[j] with
     | true=>rw[hb] at this;have:=this.1 rfl;symm;simpa using this
     | false =>
       symm
       cases hc:Nat.blt j m with
       | false=>rfl
       | true => have h3 : j < m := by simpa using hc
                 rw[this.2 h3] at hb;cases hb
 subst this;exact HW n f _ s a w h (by have:=aah hn;omega) hs
theorem SX (hr:Region.ready .any ops L=[])(h:Q s):pA P w0 M0 ops Q n L s:=by
 cases n with
 | zero=>exact⟨hr,h⟩
 | succ n=>exact .inl ⟨hr,h⟩
theorem aJ (hr:Region.ready .any ops L=[i])(ho:ops[i]?=some o)(hg:o.guard=none)(hst:Step P w0 M0 o s s')(h:pA P w0 M0 ops Q n (L.setIfInBounds i true) s'):pA P w0 M0 ops Q (n+1) L s :=
 .inr ⟨by rw[hr];exact fun h=>(by cases h),fun i' hi=>by
  rw[hr,aay] at hi;subst hi;exact⟨o,ho,hg,s',hst,h⟩⟩
theorem eN {j:Nat}{s'':St}{p:Oper}(hr:Region.ready .any ops L=[i,j])(ho:ops[i]?=some o)(hp:ops[j]?=some p)(hg:o.guard=none)(hg':p.guard=none)(hst:Step P w0 M0 o s s')(hst':Step P w0 M0 p s s'')
  (h:pA P w0 M0 ops Q n (L.setIfInBounds i true) s')(h':pA P w0 M0 ops Q n (L.setIfInBounds j true) s''):pA P w0 M0 ops Q (n+1) L s :=
 .inr ⟨by rw[hr];exact fun h=>(by cases h),fun i' hi=>by
  rw[hr] at hi;rcases aaC.1 hi with rfl|hi
  ·exact⟨o,ho,hg,s',hst,h⟩
  ·rw[aay] at hi;subst hi;exact⟨p,hp,hg',s'',hst',h'⟩⟩
theorem aN {d:SV}(hd:o.dst=some t)(hn:Nat.blt t s.n=true)(h:Pure P w0 M0 o s.ev s.o d):Step P w0 M0 o s (s.put t d):=lR hd (by simpa using hn) h
theorem bf (hr:Region.ready .any ops L=[])(h:Q s):pA P w0 M0 ops (fun s=>∃s',fF P w0 M0 s s'∧Q s') n L s:=SX hr ⟨s,fF.refl _,h⟩
theorem PK {f:FuncId}{caps:Array Operand}{cs:List qI}(ho:o.op=.makeFunc (.func f) #[] caps)(hc:Ap ρ caps.toList=some cs):Pure P w0 M0 o ρ ob (.fn f cs) :=
 aD fun E w ev hw h=>by
   have key:∀(l:List Operand)(cs:List qI),Ap ρ l=some cs→l.length=cs.length∧∀(j:Nat) c,cs[j]?=some c→Dh M0 w E ob ((l.map ev).getD j undef) c:=by
     intro l
     induction l with
     | nil=>intro cs hcs;simp only[Ap,aaj] at hcs;subst hcs;exact⟨rfl,fun j c hj=>by simp at hj⟩
     | cons x r ih =>
       intro cs hcs;unfold Ap at hcs;split at hcs
       · rename_i id cs0 hx hr
         simp only[aaj] at hcs;subst hcs;obtain⟨g1,g2⟩:=ih cs0 hr;refine⟨by simp[g1],fun j c hj=>?_⟩;cases j with
         | zero=>simp only[aaN,aaj] at hj;subst hj;exact h x _ hx
         | succ j=>exact g2 j c (by simpa using hj)
       · rename_i d cs0 hx hr
         simp only[aaj] at hcs;subst hcs;obtain⟨g1,g2⟩:=ih cs0 hr;refine⟨by simp[g1],fun j c hj=>?_⟩;cases j with
         | zero=>simp only[aaN,aaj] at hj;subst hj;exact h x _ hx
         | succ j=>exact g2 j c (by simpa using hj)
       · cases hcs
   obtain⟨g1,g2⟩:=key _ _ hc;refine⟨.func (.func f) #[] (caps.toList.map ev).toArray,w,?_,.refl _ _,(caps.toList.map ev),rfl,by simpa using g1,g2⟩;simp[execOp,ho,Instr.makeFunc]
   try (apply ab1;simp)
end
theorem xt {P:Program}{w0:Fr}{M0:Nat→Prop}{ops:Array Oper}{Q:St→Prop}{j:Nat}{s'' s3:St}{p q:Oper}(hr:Region.ready .any ops L=[i,j,k])(ho:ops[i]?=some o)(hp:ops[j]?=some p)(hq:ops[k]?=some q)(hg:o.guard=none)(hg':p.guard=none)(hg'':q.guard=none)(hst:Step P w0 M0 o s s')(hst':Step P w0 M0 p s s'')(hst'':Step P w0 M0 q s s3)
  (h:pA P w0 M0 ops Q n (L.setIfInBounds i true) s')(h':pA P w0 M0 ops Q n (L.setIfInBounds j true) s'')(h'':pA P w0 M0 ops Q n (L.setIfInBounds k true) s3):pA P w0 M0 ops Q (n+1) L s :=
 .inr ⟨by rw[hr];exact fun h=>(by cases h),fun i' hi=>by
  rw[hr] at hi;rcases aaC.1 hi with rfl|hi
  ·exact⟨o,ho,hg,s',hst,h⟩
  ·rcases aaC.1 hi with rfl|hi
   ·exact⟨p,hp,hg',s'',hst',h'⟩
   ·rw[aay] at hi;subst hi;exact⟨q,hq,hg'',s3,hst'',h''⟩⟩
section
variable {P:Program} {w0:Fr}{M0:Nat→Prop}
theorem DK {x:Operand}{off:Nat}{e:TypeId}{cs:List SV}(ho:o.op=.nilCheck x)(hx:ρ x=some (.pbox id off))(hl:ob.lookup id=some (.box e cs)):Pure P w0 M0 o ρ ob (.pbox id off) :=
 aD fun E w ev hw h=>by
  have hr:=h x _ hx e cs hl;refine⟨_,w,by simp only[execOp,ho,hr,Sem.run_pure],.refl _ _,fun e' cs' h'=>rfl⟩
def ZU (t k:Nat)(r:SV)(o':List (Nat×Ob)):Exit→St→Prop
 | .normal,s|.ret,s=>(s.s.lookup t).bind (sb s.o k)=some r∧∀id ob,o'.lookup id=some ob→s.o.lookup id=some ob
 | _,_=>False
def BR (P : Program) (f : FuncId) (n t : Nat) (T : TypeId) (k u : Nat) (c : Code) : Prop := ∃ fn, P.funcs[f]? = some fn ∧ fn.body = some c ∧ fn.ntmps = n ∧ fn.results = #[.cell t T, .tmp u] ∧ (fn.name == "runtime.NumGoroutine") = false ∧ bo P T = some true ∧ bY P T = some k
theorem BR.bu {f:Nat}{T:TypeId}{c:Code}(h:BR P f n t T k u c):cg P f:=by obtain⟨fn,h1,h2,_,_,h5,_⟩:=h;exact⟨fn,h1,h5,by rw[h2];rfl⟩
def RD (t k u:Nat)(r r':AV):Exit→St→Prop
 | .normal,s|.ret,s=>(∃q,((s.s.lookup t).bind (sb s.o k)).bind (bR s.o)=some q∧q.data=r)∧(∃q,(s.s.lookup u).bind (bR s.o)=some q∧q.data=r')
 | _,_=>False
theorem bz {r r':AV}{q q':RV}(h:((s.s.lookup t).bind (sb s.o k)).bind (bR s.o)=some q)(h':(s.s.lookup u).bind (bR s.o)=some q')(e:q.data=r∧q'.data=r'):RD t k u r r' .ret s:=⟨⟨q,h,e.1⟩,⟨q',h',e.2⟩⟩
end
section
variable {P:Program} {w0:Fr}{M0:Nat→Prop}
def RE (P : Program) (f : FuncId) (n t u v : Nat) (c : Code) : Prop := ∃ fn, P.funcs[f]? = some fn ∧ fn.body = some c ∧ fn.ntmps = n ∧ fn.results = #[.tmp t, .tmp u, .tmp v] ∧ (fn.name == "runtime.NumGoroutine") = false
theorem RE.bu {f v:Nat}{c:Code}(h:RE P f n t u v c):cg P f:=by obtain⟨fn,h1,h2,_,_,h5⟩:=h;exact⟨fn,h1,h5,by rw[h2];rfl⟩
def L0 (t u v:Nat)(r r' r'':AV):Exit→St→Prop
 | .normal,s|.ret,s=>(∃q,(s.s.lookup t).bind (bR s.o)=some q∧q.data=r)∧(∃q,(s.s.lookup u).bind (bR s.o)=some q∧q.data=r')∧(∃q,(s.s.lookup v).bind (bR s.o)=some q∧q.data=r'')
 | _,_=>False
theorem gx {v:Nat}{r r' r'':AV}{q q' q'':RV}(h:(s.s.lookup t).bind (bR s.o)=some q)(h':(s.s.lookup u).bind (bR s.o)=some q')(h'':(s.s.lookup v).bind (bR s.o)=some q'')(e:q.data=r∧q'.data=r'∧q''.data=r''):L0 t u v r r' r'' .ret s:=⟨⟨q,h,e.1⟩,⟨q',h',e.2.1⟩,⟨q'',h'',e.2.2⟩⟩
end
section
variable {P:Program} {w0:Fr}{M0:Nat→Prop}
end
end Go.Am
