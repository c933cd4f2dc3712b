/-
  Part of the proof.
-/
import Derived.Test.YtlapahnodhmcpaaGreatX2
import Derived.Maps.Keyed
import Derived.Laws.MakeOwn
import Derived.Laws.Pointers
set_option linter.unusedVariables false
set_option linter.unusedSectionVars false
set_option linter.unusedSimpArgs false
set_option maxRecDepth 100000
set_option maxHeartbeats 40000000
namespace Go.Am
open Go.RowKit
variable{s0:List (Nat×SV)}{Q':Exit→St→Prop}
section
variable {P:Program} {w0:Fr}{M0:Nat→Prop}{ops:Array Oper}{Q:St→Prop}
def uv (ops:Array Oper)(n k:Nat)(eff:Nat→Bool):Bool:=(List.range k).all fun i=>match ops[i]? with
 | none=>false
 | some o => o.guard.isNone && (match o.dst with | some t => Nat.blt t n | none => eff i) &&
   (List.range k).all fun j=>match(ops[j]?).bind (·.dst) with
     | some u=>!(looks ops o).contains u||(gg o).contains j
     | none=>true
theorem GB {id:Nat} {n:Nat}  {o1 o2:List (Nat×Ob)} (eff:Nat→Bool) (oL:Array Bool→List (Nat×Ob)) (k:Nat) (G:List (Nat×SV))  (hm:P.follows .mixedOrders=true) (hok:l7 ops=true) (htl:fC ops k=true) (hmid:uv ops n k eff=true) (hks:Nat.ble k ops.size=true)
   (hG:∀t d,(G.filter fun p=>eI ops k #[] p.1).lookup t=some d→s0.lookup t=some d)(hnd:Nodup G=true)
   (hset:∀i t,i<k→(ops[i]?).bind (·.dst)=some t→∃d,G.lookup t=some d)
   (hO1:∀L:Array Bool,(∀j,L.getD j false=false)→oL L=o1)(hO2:∀L:Array Bool,(∀j,j<k→L.getD j false=true)→oL L=o2)
   (hP:∀(L:Array Bool) i o t d,L.size=ops.size→ou ops L→(∀j,j∈kS ops ops.size i→L.getD j false=true)→L.getD i false=false→i<k→eff i=false→ops[i]?=some o→o.dst=some t→G.lookup t=some d→Pure P w0 M0 o (fx ops o (St.ev ⟨n,G,oL L⟩)) (oL L) d∧oL (L.setIfInBounds i true)=oL L)
   (hE:∀(L:Array Bool) i o X,L.size=ops.size→ou ops L→(∀j,j∈kS ops ops.size i→L.getD j false=true)→L.getD i false=false→i<k→eff i=true→ops[i]?=some o→Nodup X=true→(∀t d,X.lookup t=some d→G.lookup t=some d)→(∀t,t∈looks ops o→X.lookup t=G.lookup t) →
     ∃s',Step P w0 M0 o ⟨n,X,oL L⟩ s'∧fm P w0 M0 s' ⟨n,(match o.dst with|some t=>(match G.lookup t with|some d=>ins t d X|none=>X)|none=>X),oL (L.setIfInBounds i true)⟩)
   (hend:rU P w0 M0 ops (fun s=>∃s',fm P w0 M0 s s'∧Q' .normal s') k ⟨n,G,o2⟩):aw P w0 M0 (.region id ops true) ⟨n,s0,o1⟩ Q':=by
 have hks:=aaz hks;obtain⟨hns,hsp⟩:=mM hok;have hlt:∀i o,ops[i]?=some o→∀j∈gg o,j<i:=fun i o ho=>(hsp i o ho).1
 have hmid':∀i o,i<k→ops[i]?=some o→o.guard=none∧(∀t,o.dst=some t→t<n)∧(eff i=false→∃t,o.dst=some t)∧∀j u,j<k→(ops[j]?).bind (·.dst)=some u→u∈looks ops o→j∈gg o:=by
   intro i o hi ho;unfold uv at hmid;rw[aa5] at hmid;have h:=hmid i (aba.2 hi);simp only[ho,aaZ,aa5] at h;refine⟨by simpa using h.1.1,fun t ht=>?_,fun he=>?_,fun j u hj hu hl=>?_⟩
   · have h2 := h.1.2
     rw[ht] at h2;simpa using h2
   · cases hd : o.dst with
     | none =>
       have h2:=h.1.2;rw[hd] at h2;have h3:eff i=true:=h2;rw[he] at h3;cases h3
     | some t=>exact⟨t,rfl⟩
   · have := h.2 j (aba.2 hj)
     rw[hu] at this;simp only[abC,abw] at this;rcases this with h'|h'
     · have : (looks ops o).contains u = true := abv.2 hl
       rw[h'] at this;cases this
     · exact abv.1 h'
 let sL:Array Bool→St:=fun L=>⟨n,G.filter (fun p=>eI ops k L p.1),oL L⟩
 have main : ∀ (fuel : Nat) (L : Array Bool) (ac : Act) (w : World), L.size = ops.size → ou ops L → (∀ j, k ≤ j → L.getD j false = false) → pv P w0 M0 (sL L) ac w →
     ((List.range ops.size).filter (fun j=>!L.getD j false)).length≤fuel →
     wpAny P .any ops (fun e a' w'=>e=.normal∧∃s',(∃s'',fm P w0 M0 s' s''∧Q' .normal s'')∧pv P w0 M0 s' a' w') fuel L ac w:=by
   intro fuel;have ready_ne:∀(L:Array Bool),L.size=ops.size→∀j,j<ops.size→L.getD j false=false→Region.ready .any ops L≠[]:=by
     intro L hL j
     induction j using Nat.strongRecOn with
     | _ j ih =>
       intro hj hf;by_cases hall:∀i∈gg ops[j],L.getD i false=true
       · intro he
         have:j∈Region.ready .any ops L:=gJ.2 ⟨by
           have:L[j]?=some L[j]:=abd adh;simp[this] at hf ⊢;exact hf,ops[j],abd hj,hall⟩
         rw[he] at this;cases this
       · simp only [Classical.not_forall] at hall
         obtain⟨i,hi,hif⟩:=hall;have hij:=hlt j ops[j] (abd hj) i hi;exact ih i hij adh (by cases hh:L.getD i false<;>simp_all)
   -- once all up to k are carried out
   have rest:∀(f:Nat)(L:Array Bool)(ac:Act)(w:World),L.size=ops.size→(∀j,k≤j→L.getD j false=false)→(∀j,j<k→L.getD j false=true)→pv P w0 M0 (sL L) ac w→((List.range ops.size).filter (fun j=>!L.getD j false)).length≤f →
       wpAny P .any ops (fun e a' w'=>e=.normal∧∃s',(∃s'',fm P w0 M0 s' s''∧Q' .normal s'')∧pv P w0 M0 s' a' w') f L ac w:=by
     intro f L ac w hL hk hall hs hf;have hiff:∀j,j<ops.size→(L.getD j false=true↔j<k):=fun j hj=>⟨fun h=>(by
       rcases aa9 j k with h'|h'
       · exact h'
       · rw[hk j h'] at h;cases h),hall j⟩
     have h3:(List.range ops.size).filter (fun j=>!L.getD j false)=(List.range ops.size).filter (fun j=>decide (k≤j)):=by
       apply ada;intro j hj;have hj':=aba.1 hj;cases hv:L.getD j false
       · have : ¬ j < k := fun h => by rw [(hiff j hj').2 h] at hv; cases hv
         simp;omega
       · have := (hiff j hj').1 hv
         simp;omega
     rw[h3,DS] at hf;have hs2:pv P w0 M0 ⟨n,G,o2⟩ ac w:=by
       refine eW (s:=sL L) (s':=⟨n,G,o2⟩) J (by show o2=oL L;exact(hO2 L hall).symm) (fun t d ht=>?_) ac w hs;show(G.filter (fun p=>eI ops k L p.1)).lookup t=some d;rw[ca,if_pos (gM.2 fun j hj _=>hall j hj)];exact ht
     exact hend f L ac w hL hiff hs2 hf
   induction fuel with
   | zero =>
     intro L ac w hL hc hk hs hfu;have hall:∀j,j<ops.size→L.getD j false=true:=by
       intro j hj;cases hf:L.getD j false
       · have : j ∈ (List.range ops.size).filter (fun j => !L.getD j false) := abA.2 ⟨aba.2 hj, by simp [hf]⟩
         have:=acD this;omega
       · rfl
     exact rest 0 L ac w hL hk (fun j hj=>hall j adh) hs hfu
   | succ fuel ih =>
     intro L ac w hL hc hk hs hfu;by_cases hallk:∀j,j<k→L.getD j false=true
     · exact rest _ L ac w hL hk hallk hs hfu
     refine⟨fun hr=>?_,fun i hi=>?_⟩
     · exfalso
       apply hallk;intro j hj;cases hf:L.getD j false
       · exact absurd hr (ready_ne L hL j adh hf)
       · rfl
     · obtain ⟨hni, o, ho, hpre⟩ := gJ.1 hi
       have his:=(abn.1 ho).1;have BQ:L.getD i false=false:=by
         have hx:L[i]?=some L[i]:=abd adh;simp[hx] at hni ⊢;exact hni
       have hik:i<k:=by
         rcases aa9 i k with h|h
         · exact h
         · exfalso
           apply hallk;unfold fC at htl;rw[aa5] at htl;have h2:=htl i (aba.2 his);rw[abC] at h2;rcases h2 with h2|h2
           · have : i < k := by simpa using h2
             omega
           · rw [aa5] at h2
             exact fun j hj=>e8 hc ops.size i o ho hpre hlt j (abv.1 (h2 j (aba.2 adh)))
       obtain⟨hgd,hdn,hdp,hread⟩:=hmid' i o hik ho;have hanc:∀j,j∈kS ops ops.size i→L.getD j false=true:=fun j hj=>e8 hc ops.size i o ho hpre hlt j hj
       have hlook:∀t,t∈looks ops o→(sL L).s.lookup t=G.lookup t:=fun t ht=>by
         show(G.filter (fun p=>eI ops k L p.1)).lookup t=_;rw[ca,if_pos (gM.2 fun j hj hd=>hpre j (hread j t hj hd ht))]
       have hstep:∃s',Step P w0 M0 o (sL L) s'∧fm P w0 M0 s' (sL (L.setIfInBounds i true)):=by
         have Tq:Nodup (sL L).s=true:=lH _ _ hnd;have dv:∀t d,(sL L).s.lookup t=some d→G.lookup t=some d:=fun t d ht=>by
           have ht':(G.filter (fun p=>eI ops k L p.1)).lookup t=some d:=ht;rw[ca] at ht';split at ht'
           · exact ht'
           · cases ht'
         have hfinS:∀ti di,o.dst=some ti→G.lookup ti=some di→∀ob,ob=oL (L.setIfInBounds i true)→fm P w0 M0 ⟨n,ins ti di (sL L).s,ob⟩ (sL (L.setIfInBounds i true)):=fun ti di hdst Ly=>by
           have hb:(ops[i]?).bind (·.dst)=some ti:=by rw[ho];exact hdst
           have hkeep:∀t,t≠ti→eI ops k (L.setIfInBounds i true) t=true→eI ops k L t=true:=fun t hne h=>by
             rw[gM] at h ⊢;intro j hj hd;have:=h j hj hd;rw[cr adh] at this;by_cases hji:j=i
             · subst hji;rw[hb] at hd;simp only[aaB] at hd;exact absurd hd.symm hne
             · rwa [if_neg hji] at this
           intro ob hob;refine eW J hob.symm (fun t d ht=>?_);have ht':(G.filter (fun p=>eI ops k (L.setIfInBounds i true) p.1)).lookup t=some d:=ht;rw[ca] at ht';split at ht'
           · rename_i hkp
             rw[aC];by_cases hne:t=ti
             · subst hne
               rw[if_pos rfl,←Ly,ht']
             · rw [if_neg hne]
               show(G.filter (fun p=>eI ops k L p.1)).lookup t=_;rw[ca,if_pos (hkeep t hne hkp)];exact ht'
           · cases ht'
         by_cases hef:eff i=true
         · obtain ⟨s', g3, g4⟩ := hE L i o (sL L).s hL hc hanc BQ hik hef ho Tq dv hlook
           refine⟨s',g3,g4.trans ?_⟩;cases hdst:o.dst with
           | none =>
             have hb:(ops[i]?).bind (·.dst)=none:=by rw[ho];exact hdst
             refine eW J J (fun t d ht=>?_);have ht':(G.filter (fun p=>eI ops k (L.setIfInBounds i true) p.1)).lookup t=some d:=ht;show(G.filter (fun p=>eI ops k L p.1)).lookup t=some d;rw[ca] at ht' ⊢;split at ht'
             · rename_i hkp
               rw[if_pos,ht'];rw[gM] at hkp ⊢;intro j hj hd;have:=hkp j hj hd;rw[cr adh] at this;by_cases hji:j=i
               · subst hji;rw[hb] at hd;cases hd
               · rwa [if_neg hji] at this
             · cases ht'
           | some ti =>
             obtain⟨di,Ly⟩:=hset i ti hik (by rw[ho];exact hdst);simp only[Ly];exact hfinS ti di hdst Ly _ J
         · obtain ⟨ti, hdst⟩ := hdp (by simpa using hef)
           obtain⟨di,Ly⟩:=hset i ti hik (by rw[ho];exact hdst);obtain⟨hpure,hLL⟩:=hP L i o ti di hL hc hanc BQ hik (by simpa using hef) ho hdst Ly;have hpure':Pure P w0 M0 o (sL L).ev (sL L).o di:=hpure.mono fun x e hx=>by
             cases x with
             | tmp t =>
               by_cases hcn:(looks ops o).contains t=true
               · simp only [fx, hcn, if_true] at hx
                 show(sL L).s.lookup t=some e;rw[hlook t (abv.1 hcn)];exact hx
               · simp only[fx,hcn] at hx;cases hx
             | const v=>exact hx
             | func f=>exact hx
             | global g=>exact hx
           exact⟨_,lQ hdst (hdn ti hdst) hpure',hfinS ti di hdst Ly _ hLL.symm⟩
       obtain⟨s',hst,himp⟩:=hstep;unfold wpOp;simp only[ho,Region.wanted,hgd,if_true];refine .inl (Oper.wp_mono (fun a' w' h'=>?_) (hst ac w _ hs));refine ih (L.setIfInBounds i true) a' w' (by simp[hL]) (fun j p hp zF x hx=>?_) (fun j hj=>?_) (himp a' w' h') ?_
       · rw [cr adh] at zF ⊢
         by_cases hji:j=i
         · subst hji
           obtain rfl:p=o:=by rw[ho] at hp;exact(Option.some.inj hp).symm
           split
           · rfl
           · exact hpre x hx
         · rw [if_neg hji] at zF
           split
           · rfl
           · exact hc j p hp zF x hx
       · rw[cr adh,if_neg adh];exact hk j hj
       · have hlt' := filter_lt (fun j => !L.getD j false) (fun j => !(L.setIfInBounds i true).getD j false) (fun x hx => by
           rw[cr adh] at hx;split at hx
           · cases hx
           · exact hx) (List.range ops.size) i (aba.2 his) (by rw[BQ];rfl) (by rw[cr adh,if_pos J];rfl)
         omega
 rintro ac w hs;have hw:bD w0.dr w.heap.size w { w with drawn:=w.drawn+1 }:=(Below.refl _ _).drew;have h0 := main ops.size (Array.replicate ops.size false) ac { w with drawn := w.drawn + 1 } (by simp) (fun i o ho hL => by
     have his:=(abn.1 ho).1;simp[his] at hL) (fun j hj=>by
     rcases aa9 j ops.size with h|h<;>simp[h]) (by
     refine eW (s:=⟨n,s0,o1⟩) (s':=sL (Array.replicate ops.size false)) J ?_ (fun t d ht=>hG t d ?_) ac _ (hs.grow hw)
     · show oL _ = o1
       refine hO1 _ fun j=>?_
       rcases aa9 j ops.size with h|h<;>simp[h]
     · have ht' : (G.filter (fun p => eI ops k (Array.replicate ops.size false) p.1)).lookup t = some d := ht
       rw[ca] at ht' ⊢;split at ht'
       · rename_i hkp
         rw[if_pos,ht'];rw[gM] at hkp ⊢;intro j hj hd;have:=hkp j hj hd;have hjs:j<ops.size:=adh;simp[hjs] at this
       · cases ht') (by
     have:=abT (fun j=>!(Array.replicate ops.size false).getD j false) (List.range ops.size);simpa using this)
 refine iU (l6 hm sO h0) fun e a' w' ⟨he,s',⟨s2,hi,hq⟩,h2⟩=>?_
 subst he;exact⟨s2,hq,hi a' w' h2⟩
end
section
variable {P:Program} {w0:Fr}{M0:Nat→Prop}{ops:Array Oper}{Q:St→Prop}
def rf (G X:List (Nat×SV))(o:Oper):List (Nat×SV):=match o.dst with
 | some t=>(match G.lookup t with|some d=>ins t d X|none=>X)
 | none=>X
theorem ij {o:Oper}{G X:List (Nat×SV)}{o1 o2:List (Nat×Ob)}{T:TypeId}{n t:Nat}{zs:List Value}(ho:o.op=.alloc T)(hd:o.dst=some t)(hn:Nat.blt t n=true)(hpt:Nat.blt t 1000000=true)(hnd:Nodup X=true)(hz:zeroOf P T=some zs)(hzs:zs.all Value.oneCell'=true)
  (J2:G.lookup t=some (.pbox t 0))(hs:∀t' d,X.lookup t'=some d→t'≠t→d.stays true t=true)(ho2:ins t (.box T (zs.map fun z=>.v .pl (.sc z))) (ib true t o1)=o2)(ae:∀b,M0 b→b<w0.w.heap.size) :
  ∃s',Step P w0 M0 o ⟨n,X,o1⟩ s'∧fm P w0 M0 s' ⟨n,rf G X o,o2⟩:=by
 refine⟨_,cR (s:=⟨n,X,o1⟩) ho hd hn hpt hnd hz hzs ae,?_⟩;have e:rf G X o=ins t (.pbox t 0) X:=by unfold rf;rw[hd];simp only[J2]
 rw[e];refine eW J ho2.symm fun t' d ht'=>?_
 rw[aC] at ht';show(ins t (SV.pbox t 0) _).lookup t'=some d;rw[aC];by_cases q:t'=t
 ·rw[if_pos q] at ht' ⊢;exact ht'
 ·rw[if_neg q] at ht' ⊢;exact iH (fun e=>e.stays true t) X t' d hnd ht' (hs t' d ht' q)
theorem AA {G X:List (Nat×SV)}{o:Oper}(h:o.dst=none):rf G X o=X:=by unfold rf;rw[h]
theorem cz {o:Oper}{G X:List (Nat×SV)}{o1 o2:List (Nat×Ob)}{n:Nat}(hd:o.dst=none)(h:∃s',Step P w0 M0 o ⟨n,X,o1⟩ s'∧fm P w0 M0 s' ⟨n,X,o2⟩):∃s',Step P w0 M0 o ⟨n,X,o1⟩ s'∧fm P w0 M0 s' ⟨n,rf G X o,o2⟩:=by rw[AA hd];exact h
end
open Go.MapKept Go.ChangeMaps
section
variable {P:Program} {w0:Fr}{M0:Nat→Prop}
variable {o:Oper} {ρ:Operand→Option SV}{ob:List (Nat×Ob)}{d:SV}{x y z:Operand}{T T' e:TypeId}{k b:Nat}{c:fX}{id off:Nat}{s:St}{t:Nat}{ks:List Value}{vs:List AV}{kt et:TypeId}{kd:TypeDesc}
end
section
variable {P:Program} {w0:Fr}{M0:Nat→Prop}
variable {o:Oper} {x y z:Operand}{T T' e:TypeId}{k b:Nat}{c:fX}{id off:Nat}{s:St}{t:Nat}{xs:List AV}
theorem bE {ρ:Operand→Option SV}{ob:List (Nat×Ob)}{cx:Operand}{args:Array Operand}{ats:Array TypeId}{c:fX}{f:FuncId}{caps ds:List AV}{d:AV}
 (ho:o.op=.call { callee:=.value cx,args:=args,argTypes:=ats })(hc:ρ cx=some (.v c (.clo f caps)))(ha:jl ρ ob args.toList=some ds)(h:au P f (ds++caps) (.p d))
 (ae:∀b,M0 b→b<w0.w.heap.size):Pure P w0 M0 o ρ ob (.v .pl d):=cg (r:=.p d) ho hc ha h ae
theorem MD {ρ:Operand→Option SV}{ob:List (Nat×Ob)}{u:Value}(h:Pure P w0 M0 o ρ ob (.v c (.sc u))):Pure P w0 M0 o ρ ob (.v .pl (.sc u)):=by
 intro E w ev hw hx;have h:=h E w ev hw hx;have key:∀(z:Value)(w':World),bm P M0 w' E ob z (.v c (.sc u))→bm P M0 w' E ob z (.v .pl (.sc u)):=fun z w' hr=>by
   have hr:bL w' _ z (.sc u):=hr;show bL w' _ z (.sc u);cases hr with|sc _ h1=>exact .sc _ h1
 unfold sM at h ⊢;generalize (execOp ev o).run P w=r at *
 match r,h with
 | .ok (.value z) w',h=>exact⟨h.1,key z w' h.2⟩
 | .ok (.enter f args) w', h =>
   refine⟨h.1,h.2.mono fun e w'' ⟨z,he,hb,hz⟩=>⟨z,he,hb,key z w'' hz⟩⟩
end
section
variable {P:Program} {w0:Fr}{M0:Nat→Prop}{s:St}
end
section
variable {P:Program} {w0:Fr}{M0:Nat→Prop}{ops:Array Oper}
theorem ME {α:Type}{id i:Nat}{x y:α}(h:[(id,x)].lookup i=some y):i=id∧y=x:=by
 rw[aq] at h;split at h
 ·rename_i e;simp only[aaB] at h;exact⟨e,h.symm⟩
 ·simp at h
theorem MF {α:Type}{id:Nat}{x:α}:[(id,x)].lookup id=some x:=by rw[aq,if_pos rfl]
end
section
variable {P:Program} {w0:Fr}{M0:Nat→Prop}{s:St}{o:Oper}{id id2 t u j k b:Nat}{e r T:TypeId}{cs cs2:List Cell}{xs:List AV}{x y:Operand}
theorem nq.none (E E':Env):nq E E' .none .none:=⟨rfl,(fun j u hu=>by cases hu),(fun j u hu=>by cases hu)⟩
theorem D3 {f:Nat→Value}{b:Nat}:fY f b [.row r xs] none↔(f 0).ownBlock=some b:=by
 constructor
 ·rintro⟨j,c,h1,_,h3⟩;cases j with
  | zero=>simp only[abf,aaB] at h1;subst h1;exact h3
  | succ j=>simp at h1
 ·exact fun h=>⟨0,_,rfl,by simp,h⟩
theorem J3 (ho:o.op=.buildSlice T 1 #[(0,x)]) (hd:o.dst=some t) (hn:Nat.blt t s.n=true) (hpt:Nat.blt t 1000000=true) (hne:Nat.beq t u=false) (hnd:Nodup s.s=true) (hT:P.underlying T=some (.slice e)) (hel:iE P e 1 b=true) (hx:s.ev x=some (.own u)) (hl:s.o.lookup u=some (.arr r xs)) (ae:∀ b,M0 b→b<w0.w.heap.size) :
   Step P w0 M0 o s (({ n:=s.n,s:=s.s.filter (fun p=>p.2.stays true t&&p.2.stays true u),o:=ins t (.nar e [.row r xs] none) (ig u (iV (fun d=>d.stays true t&&d.stays true u) s.o)) }:St).put t (.nst t)):=by
 rintro a w Q ⟨E,hs⟩;obtain⟨i,z,hi,hz,hsz,hby,hzs,hk0,hck⟩:=gK hel;have htu:t≠u:=fun q=>by rw[q,acC] at hne;cases hne
 have hv:a.eval x=E.cur u:=hs.ev hx r xs hl;obtain⟨vals',h1,h2,h3⟩:=hs.wok.objs u _ hl;have hone:(E.cur u).cells=#[E.cur u]∧(E.cur u).oneCell'=true:=by
   rcases h1.1.2 with⟨q,_⟩|⟨g,cap,cur,q,_⟩<;>rw[q]<;>exact⟨rfl,rfl⟩
 have hrun:=pA (P:=P) (w:=w) (n:=1) (parts:=[E.cur u]) (ps:=#[(0,x)].map fun(i,x)=>(i,a.eval x)) hT hel (by simp[hv]) rfl (fun v hv=>by rw[aaY.1 hv,hone.1];rfl) adj adj;have hfm:([E.cur u].flatMap fun v=>v.cells.toList)=[E.cur u]:=by simp[hone.1]
 rw[hfm] at hrun;unfold Oper.wp;have hexec:(execOp a.eval o).run P w=.ok (.value (.slice (some ⟨w.heap.size,0,none⟩) 1 1)) (w.alloc (.cells [E.cur u].toArray e)):=by
   simp only[execOp,ho,Sem.run_bind,hrun,Result.andThen_ok,Sem.run_pure]
 rw[hexec];simp only[Oper.upon,hd];obtain⟨E',e1,e2,e3,e4,e5⟩:∃E':Env,E'.cur t=.slice (some ⟨w.heap.size,0,none⟩) 1 1∧(∀i,i≠t→E'.cur i=E.cur i)∧E'.blk=E.blk∧(E'.sub t=fun _=>E.cur u)∧(∀i,i≠t→E'.sub i=E.sub i) :=
   ⟨{ E with cur:=fun i=>if i=t then .slice (some ⟨w.heap.size,0,none⟩) 1 1 else E.cur i,sub:=fun i=>if i=t then fun _=>E.cur u else E.sub i },if_pos rfl,fun i hi=>if_neg hi,rfl,if_pos rfl,fun i hi=>if_neg hi⟩
 have hN:∀i q,(if i=t then some (some (Ob.nar e [.row r xs] none)) else if i=u then some none else none:Option (Option Ob))=some q→(i=t∧q=some (.nar e [.row r xs] none))∨(i=u∧q=none):=fun i q hq=>by
   by_cases h1:i=t
   · rw[if_pos h1] at hq;injection hq with hq;exact .inl ⟨h1,hq.symm⟩
   · rw [if_neg h1] at hq
     by_cases h2:i=u
     · rw[if_pos h2] at hq;injection hq with hq;exact .inr ⟨h2,hq.symm⟩
     · rw[if_neg h2] at hq;cases hq
 refine⟨E',ba.put ?_ (by simpa using hn) ⟨fun _ _ _ _=>e1.symm,fun ks c l hh=>?_⟩⟩
 · refine ba.xo (E' := E') (fun d => d.stays true t && d.stays true u) (fun i => if i = t then some (some (.nar e [.row r xs] none)) else if i = u then some none else none) _ (fun i => ?_) (fun d => rfl) (fun i ob hq hx => ?_) (fun i hq => ?_) hs hnd ae (fun i hq => ?_) (fun x hx => by rw [e3]) none (World.grownBy_alloc w _ none) (fun _ => aaD _) (fun g hg => by cases hg) (fun i ob b' hq hb => ?_) (fun i ob i' ob' b' hq hq' hb hb' => ?_) (fun rep sv lents i ob hq => ?_)
   · rw [aC]
     by_cases q1:i=t
     · rw[if_pos q1,if_pos q1]
     · rw [if_neg q1, if_neg q1, dj]
       by_cases q2:i=u
       · rw[if_pos q2,if_pos q2]
       · rw[if_neg q2,if_neg q2];exact gm _ i s.o
   · rcases hN i _ hq with ⟨rfl, _⟩ | ⟨_, q⟩
     · obtain ⟨d, q1, q2⟩ := hx
       rw[ic q1] at q2;cases q2
     · cases q
   · rcases hN i _ hq with ⟨_, q⟩ | ⟨rfl, _⟩
     · cases q
     · exact⟨e2 i (abN htu),by rw[e3]⟩
   · have hit : i ≠ t := fun q => by rw [if_pos q] at hq; cases hq
     exact⟨e2 i hit,by rw[e3],e5 i hit⟩
   · rcases hN i _ hq with ⟨rfl, q⟩ | ⟨_, q⟩
     · injection q with q; subst q
       rcases hb with hb|hb
       · rw[e1] at hb;simp only[Value.ownBlock,aaB] at hb;exact .inr adh
       · rw [e4] at hb
         exact .inl ⟨u,_,by rw[if_neg (abN htu),if_pos J];simp,hl,D3.1 hb⟩
     · cases q
   · rcases hN i _ hq with ⟨rfl, _⟩ | ⟨_, q⟩
     · rcases hN i' _ hq' with ⟨rfl, _⟩ | ⟨_, q⟩
       · rfl
       · cases q
     · cases q
   · rcases hN i _ hq with ⟨rfl, q⟩ | ⟨_, q⟩
     · injection q with q; subst q
       have hlt:∀b',(E.cur u).ownBlock=some b'→b'<w.heap.size:=fun b' q=>(h1.1.lt b' q).2
       refine⟨1,[E.cur u],?_,by rw[hck];rfl,fun j hj=>?_,⟨fun j c hc _=>?_,fun i1 i2 c1 c2 b' q1 q2 _ _ _ _=>?_,(fun j u' hu=>by cases hu),(fun j u' hu=>by cases hu)⟩,fun b' hb=>?_⟩
       · rw [e1, hck]
         exact⟨⟨rfl,.inr ⟨w.heap.size,1,[E.cur u].toArray,rfl,aaG _,heap_alloc_new w _,aaD _,by simp[maxLen],rfl,rfl⟩⟩,fun b' hb=>hs.wok.ia ae (by simp only[Value.ownBlock,aaB] at hb;omega)⟩
       · have : j = 0 := by simp at hj; omega
         subst this;rw[e4];rfl
       · cases j with
         | zero =>
           simp only[abf,aaB] at hc;subst hc;rw[e4];exact⟨vals',⟨h1.1.kept (World.grownBy_alloc w _ none) (by cases(E.cur u).ownBlock<;>simp),h1.2⟩,h2,fun k d hd=>⟨(h3 k d hd).1,rep .pl _ _ (h3 k d hd).2 (by simp)⟩⟩
         | succ j=>simp at hc
       · have : i1 < 1 := by have := (aa0.1 q1).1; simpa using this
         have:i2<1:=by have:=(aa0.1 q2).1;simpa using this
         omega
       · rw [e4] at hb
         have:=hlt b' (D3.1 hb);rw[e1];simp only[Value.ownBlock,ne_eq,aaB];omega
     · cases q
 · rw [show (ins t (Ob.nar e [.row r xs] none) (ig u (iV (fun d => d.stays true t && d.stays true u) s.o))).lookup t = _ from by rw [aC, if_pos rfl]] at hh
   cases hh
def xK (P:Program)(f:FuncId)(ds:List AV)(e:TypeId)(cs:List Cell):Prop :=
 cq P f∧∀(w:World)(vs:List Value),vs.length=ds.length→(∀(j:Nat) d,ds[j]?=some d→bL w (fun _=>False) (vs.getD j undef) d) →
   Calls P f vs.toArray w fun q w'=>∃v,q=.returned v∧Below w.heap.size w w'∧∃E:Env,E.cur 0=v∧kP P (Fr.all w) (fun b=>b<w.heap.size) w' E [(0,.nar e cs none)] 0 (.nar e cs none)
def Vy (t:Nat)(e:TypeId)(cs:List Cell):Exit→St→Prop
 | .normal,s|.ret,s=>∃id,s.s.lookup t=some (.nst id)∧s.o.lookup id=some (.nar e cs none)
 | _,_=>False
theorem nu {f n t:Nat}{c:Code}(hf:H5 P f n t c){ds:List AV}(hn:ds.length≤n)
  (h:∀(w0:Fr)(M0:Nat→Prop),(∀b,M0 b→b<w0.w.heap.size)→aw P w0 M0 c (St.enter n .mx ds) (Vy t e cs)):xK P f ds e cs:=by
 refine⟨hf.bu,fun w vs hv hr=>?_⟩;have hc:=h (Fr.all w) (fun b=>b<w.heap.size) (fun b hb=>hb);rw[e7] at hc;obtain⟨fn,h1,h2,h3,h4,h5⟩:=hf;refine(dz h1 h2 h3 (R:=fun v E' s' w'=>gu P (Fr.all w) (fun b=>b<w.heap.size) E' s'.o w'∧∃id,bm P (fun b=>b<w.heap.size) w' E' s'.o v (.nst id)∧s'.o.lookup id=some (.nar e cs none)) (by simpa using hn) vs (by simpa using hv) jO (fun j d hd=>?_) hc (fun q s' a' w' E' hq hs=>?_)).mono fun q w' ⟨v,E',s',he,hw,id,hsv,hl⟩=>⟨v,he,hw.below.below,?_⟩
 ·rw[aaI,aaH] at hd;obtain⟨a,ha,rfl⟩:=hd;have:=hr j a ha;simp only[bm,ew];exact this
 ·have fin:(∃id,s'.s.lookup t=some (.nst id)∧s'.o.lookup id=some (.nar e cs none))→∃v,(results fn a'.tmps).run P w'=.ok v w'∧gu P (Fr.all w) (fun b=>b<w.heap.size) E' s'.o w'∧∃id,bm P (fun b=>b<w.heap.size) w' E' s'.o v (.nst id)∧s'.o.lookup id=some (.nar e cs none):=fun⟨id,q1,q2⟩ =>
   ⟨a'.tmps.getD t undef,by simp[results,h4],hs.wok,id,(hs.slots t _ q1).2,q2⟩
  cases q with
  | normal=>exact⟨.inl rfl,fin hq⟩
  | ret=>exact⟨.inr rfl,fin hq⟩
  | exit _=>exact hq.elim
  | goto _=>exact hq.elim
  | panic _=>exact hq.elim
  | outgrown=>exact hq.elim
 ·obtain⟨n',vals,g1,g2,g3,g4,g5⟩:=hw.objs id _ hl;refine⟨⟨fun _=>E'.cur id,fun _=>0,fun _=>E'.sub id⟩,(hsv.1 e cs none hl).symm,n',vals,g1,g2,g3,?_,g5⟩;have hown:∀b,owned (⟨fun _=>E'.cur id,fun _=>0,fun _=>E'.sub id⟩:Env) [(0,.nar e cs none)] b→owned E' s'.o b:=fun b ⟨i,ob,q1,q2⟩=>by
   obtain⟨rfl,rfl⟩:=ME q1;exact⟨id,_,hl,q2⟩
  exact g4.go (nq.none _ _) (fun _ _=>rfl) (fun _ _ hf=>hf) fun v d hr=>hr.cm fun b hb=>hb.imp (fun q=>q) (hown b)
theorem mf {cx:Operand} {args:Array Operand} {ats:Array TypeId} {c:fX} {f:FuncId} {caps ds:List AV}
   (ho:o.op=.call { callee:=.value cx,args:=args,argTypes:=ats })(hd:o.dst=some t)(hn:Nat.blt t s.n=true)(hnd:Nodup s.s=true)(hc:s.ev cx=some (.v c (.clo f caps)))(ha:jl s.ev s.o args.toList=some ds)(h:xK P f (ds++caps) e cs)
   (ae:∀b,M0 b→b<w0.w.heap.size):Step P w0 M0 o s ((s.cK true t (.nar e cs none)).put t (.nst t)):=by
 rintro a w Q ⟨E,hs⟩;have hcv:=hs.ev hc;simp only[bm] at hcv;generalize hq:a.eval cx=q at hcv;cases hcv with
 | clo _ vs _ hnc hr =>
   have hv:=l5 hs.wok (fun x e hx=>hs.ev hx) _ _ ha;unfold Oper.wp;rw[fG ho hq h.1];simp only[Oper.upon];have hall:=h.2 w (args.toList.map a.eval++vs) (by simp[hv.1,hnc]) (fun j d hd=>?_)
   · have e1 : (args.toList.map a.eval ++ vs).toArray = args.map a.eval ++ vs.toArray := by apply acw ; simp
     rw[e1] at hall;refine hall.mono fun q w' ⟨v,he,hb,Ec,hv0,n',vals,g1,g2,g3,g4,g5⟩=>?_
     subst he;simp only[hd];obtain⟨E',f1,f2,f3,f4,f5⟩:∃E':Env,E'.cur t=v∧(∀i,i≠t→E'.cur i=E.cur i)∧E'.blk=E.blk∧E'.sub t=Ec.sub 0∧(∀i,i≠t→E'.sub i=E.sub i) :=
       ⟨{ E with cur:=fun i=>if i=t then v else E.cur i,sub:=fun i=>if i=t then Ec.sub 0 else E.sub i },if_pos rfl,fun i hi=>if_neg hi,rfl,if_pos rfl,fun i hi=>if_neg hi⟩
     have hblk:∀b',bG E' t b' (.nar e cs none)↔bG Ec 0 b' (.nar e cs none):=fun b'=>by simp only[bG,f1,f4,hv0]
     have hge:∀b',bG Ec 0 b' (.nar e cs none)→w.heap.size≤b':=fun b' hb'=>by
       rcases hb' with hb'|hb'
       · exact acS (g1.2 b' hb').2
       · exact acS (g4.range hb').1.2
     refine⟨E',ba.put ?_ (by simpa[St.cK] using hn) ⟨fun _ _ _ _=>f1.symm,fun ks c' l hh=>?_⟩⟩
     · refine hs.cK true (fun q => by cases q) hnd ae (fun i hi => ⟨f2 i hi, by rw [f3]⟩) (.inr (by rw [f3])) none (dH hb) (fun _ => hb.drawn trivial) (fun g hg => by cases hg) (fun b' hb' => .inr (hge b' ((hblk b').1 hb'))) (fun rep sv => ?_) f5
       refine⟨n',vals,?_,g2,by rw[f4];exact g3,?_,fun b' hb'=>?_⟩
       · rw [f1, ← hv0]
         exact⟨g1.1,fun b' hb'=>hs.wok.ia ae (hge b' (.inl hb'))⟩
       · rw [f4]
         refine g4.go (nq.none _ _) (fun _ _=>rfl) (fun b' hb' _=>hs.wok.ia ae (hge b' (.inr hb'))) fun v' d hr'=>hr'.cm fun b' hb'=>?_
         rcases hb' with hb'|⟨i,ob,q1,q2⟩
         · have:=ae b' hb';have:=hs.wok.below.size;exact .inl adh
         · by_cases hi : i = t
           · subst hi
             rw[aC,if_pos rfl] at q1;simp only[aaB] at q1;subst q1;exact .inr ⟨0,_,MF,(hblk b').1 q2⟩
           · rw [aC, if_neg hi, cC, aaH] at q1
             obtain⟨ob0,q3,rfl⟩:=q1;refine .inl (hs.wok.bH ⟨i,ob0,q3,?_⟩).2;have q2:=iD.1 q2;cases ob0<;>simp only[bG,f2 i hi,f3,f5 i hi] at q2 ⊢<;>exact q2
       · rw [f4] at hb'
         rw[f1,←hv0];exact g5 b' hb'
     · rw [show ((s.cK true t (.nar e cs none)).o).lookup t = _ from by show (ins t _ _).lookup t = _; rw [aC, if_pos rfl]] at hh
       cases hh
   · rw [aax]
     rcases aa9 j ds.length with hlt|hge
     · rw [aa8 hlt] at hd
       have:=hv.2 j d hd;rw[aa8 (by simp[hv.1];omega)];rwa [aax] at this
     · rw [aa6 hge] at hd
       have:=hr _ d hd;rw[aa6 (by simp[hv.1];omega)];simp only[aaA,hv.1];rw[aax] at this;exact this.cm (fun b hb=>hb.elim)
end
section
variable {P:Program} {w0:Fr}{M0:Nat→Prop}{s:St}{o:Oper}{id id2 t u j k b:Nat}{e r T:TypeId}{cs cs2:List Cell}{xs:List AV}{x y:Operand}
theorem MG {w:World}{E:Env}{o:List (Nat×Ob)}{v:Value}{c:Cell}(h:np P w0 M0 w E o v c):v.oneCell'=true:=by
 cases c with
 | d x=>exact h.2.one h.1
 | row e xs =>
   obtain⟨vals,h1,_⟩:=h;rcases h1.1.2 with⟨q,_⟩|⟨g,cap,cur,q,_⟩<;>rw[q]<;>rfl
 | mp ks vs=>obtain⟨b,q,_⟩:=h;rw[q];rfl
theorem MH {f:Nat→Value}{b:Nat}:fY f b (cs++cs2) none↔fY f b cs none∨fY (fun j=>f (cs.length+j)) b cs2 none:=by
 constructor
 ·rintro⟨j,c,h1,_,h3⟩;rcases aa9 j cs.length with q|q
  ·rw[aa8 q] at h1;exact .inl ⟨j,c,h1,by simp,h3⟩
  ·rw[aa6 q] at h1;exact .inr ⟨j-cs.length,c,h1,by simp,by show Du (f (cs.length+(j-cs.length))) b c;rwa [show cs.length+(j-cs.length)=j by omega]⟩
 ·rintro(⟨j,c,h1,_,h3⟩|⟨j,c,h1,_,h3⟩)
  ·exact⟨j,c,by rw[aa8 (aa0.1 h1).1];exact h1,by simp,h3⟩
  ·exact⟨cs.length+j,c,by rw[aa6 adh,show cs.length+j-cs.length=j by omega];exact h1,by simp,h3⟩
theorem J4 (ho:o.op=.call { callee:=.builtin .append,args:=#[x,y],argTypes:=#[T,T] }) (hd:o.dst=some t) (hn:Nat.blt t s.n=true) (hne:Nat.beq id id2=false) (hnd:Nodup s.s=true) (hT:P.underlying T=some (.slice e)) (hel:iE P e 1 b=true)
   (hx:s.ev x=some (.nst id))(hl:s.o.lookup id=some (.nar e cs none))(hy:s.ev y=some (.nst id2))(hl2:s.o.lookup id2=some (.nar e cs2 none))(h2:0<cs2.length)(hb:(cs.length+cs2.length)*b≤140737488355328)(hm:cs.length+cs2.length≤4611686018427387904)(ae:∀b,M0 b→b<w0.w.heap.size) :
   Step P w0 M0 o s (({ n:=s.n,s:=s.s.filter (fun p=>p.2.stays true id&&p.2.stays true id2),o:=ins id (.nar e (cs++cs2) none) (ig id2 (iV (fun d=>d.stays true id&&d.stays true id2) s.o)) }:St).put t (.nst id)):=by
 rintro a w Q ⟨E,hs⟩;obtain⟨i,z,hi,hz,hsz,hby,hzs,hk0,hck⟩:=gK hel;have hdd:id≠id2:=fun q=>by rw[q,acC] at hne;cases hne
 have hxv:a.eval x=E.cur id:=(hs.ev hx).1 e cs none hl;have hyv:a.eval y=E.cur id2:=(hs.ev hy).1 e cs2 none hl2;obtain⟨n1,vals1,p1,p2,p3,p4,p5⟩:=hs.wok.objs id _ hl;obtain⟨n2,vals2,q1,q2,q3,q4,q5⟩:=hs.wok.objs id2 _ hl2;rw[hck,ab8] at p2 q2;rw[hck] at p1 q1;subst p2;subst q2;have hv1:vals1.length=cs.length:=by rw[p1.1.1,ab8]
 have hv2:vals2.length=cs2.length:=by rw[q1.1.1,ab8]
 obtain⟨g,cap,hsl⟩:∃g cap,E.cur id2=.slice (some ⟨g,0,none⟩) cs2.length cap:=by
   rcases q1.1.2 with⟨q,h0⟩|⟨g,cap,cur,q,_⟩
   · omega
   · exact⟨g,cap,q⟩
 have hone:∀v∈vals2,v.oneCell'=true:=fun v hv=>by
   obtain⟨j,hj,rfl⟩:=abF hv;have hj':j<cs2.length:=adh;have:=MG (q4.ok j _ (aaF hj') (by simp));rw[←q3 j hj',aax,aaF hj] at this;exact this
 obtain⟨v',w',hrun,hown',hg,_,hblk⟩:=run_append_own_at (P:=P) w 0 T o.type e i z 1 b hT hi hz hsz hby hzs hk0 (E.cur id) cs.length vals1 p1.1 ⟨g,0,none⟩ cs2.length cap vals2 (by rw[hv2,ab8])
   (fun j v hv=>by have:=q1.1.cells (g:=g) (by rw[hsl];rfl) j v hv;exact this) hone (by simp only[maxLen];omega) hb (aaG _)
 unfold Oper.wp;have hexec:(execOp a.eval o).run P w=.ok (.value v') w':=by
   simp[execOp,ho,resolve,invoke,builtin,hxv,hyv,hsl,hrun]
 rw[hexec];simp only[Oper.upon,hd];obtain⟨E',e1,e2,e3,e4,e5⟩:∃E':Env,E'.cur id=v'∧(∀i,i≠id→E'.cur i=E.cur i)∧E'.blk=E.blk∧(E'.sub id=fun j=>if j<cs.length then E.sub id j else E.sub id2 (j-cs.length))∧(∀i,i≠id→E'.sub i=E.sub i) :=
   ⟨{ E with cur:=fun i=>if i=id then v' else E.cur i,sub:=fun i=>if i=id then fun j=>if j<cs.length then E.sub id j else E.sub id2 (j-cs.length) else E.sub i },if_pos rfl,fun i hi=>if_neg hi,rfl,if_pos rfl,fun i hi=>if_neg hi⟩
 have hN:∀i q,(if i=id then some (some (Ob.nar e (cs++cs2) none)) else if i=id2 then some none else none:Option (Option Ob))=some q→(i=id∧q=some (.nar e (cs++cs2) none))∨(i=id2∧q=none):=fun i q hq=>by
   by_cases h1:i=id
   · rw[if_pos h1] at hq;injection hq with hq;exact .inl ⟨h1,hq.symm⟩
   · rw [if_neg h1] at hq
     by_cases h2:i=id2
     · rw[if_pos h2] at hq;injection hq with hq;exact .inr ⟨h2,hq.symm⟩
     · rw[if_neg h2] at hq;cases hq
 have hs1:∀b',fY (E'.sub id) b' (cs++cs2) none→fY (E.sub id) b' cs none∨fY (E.sub id2) b' cs2 none:=fun b' hb'=>by
   rcases MH.1 hb' with⟨j,c,r1,r2,r3⟩|⟨j,c,r1,r2,r3⟩
   · rw [e4] at r3
     simp only[if_pos (aa0.1 r1).1] at r3;exact .inl ⟨j,c,r1,r2,r3⟩
   · rw [e4] at r3
     simp only[if_neg (show ¬cs.length+j<cs.length by omega),show cs.length+j-cs.length=j by omega] at r3;exact .inr ⟨j,c,r1,r2,r3⟩
 have apart:∀b',bG E id b' (.nar e cs none)→bG E id2 b' (.nar e cs2 none)→False:=fun b' r1 r2=>hdd (hs.wok.disj id _ id2 _ b' hl hl2 r1 r2)
 have hrow:∀b',v'.ownBlock=some b'→bG E id b' (.nar e cs none)∨w.heap.size≤b':=fun b' hb'=>by
   rcases hblk with q|q
   · rw[q] at hb';exact .inl (.inl hb')
   · rw[q] at hb';simp only[aaB] at hb';exact .inr adh
 refine⟨E',ba.put ?_ (by simpa using hn) ⟨fun _ _ _ _=>e1.symm,fun ks c l hh=>?_⟩⟩
 · refine ba.xo (E' := E') (fun d => d.stays true id && d.stays true id2) (fun i => if i = id then some (some (.nar e (cs ++ cs2) none)) else if i = id2 then some none else none) _ (fun i => ?_) (fun d => rfl) (fun i ob hq hx => ?_) (fun i hq => ?_) hs hnd ae (fun i hq => ?_) (fun x hx => by rw [e3]) (E.cur id).ownBlock hg (fun _ => lP _ _ _ _ hrun) (fun g' hg' => ⟨id, _, by rw [if_pos J]; simp, hl, .inl hg'⟩) (fun i ob b' hq hb' => ?_) (fun i ob i' ob' b' hq hq' hb hb' => ?_) (fun rep sv lents i ob hq => ?_)
   · rw [aC]
     by_cases r1:i=id
     · rw[if_pos r1,if_pos r1]
     · rw [if_neg r1, if_neg r1, dj]
       by_cases r2:i=id2
       · rw[if_pos r2,if_pos r2]
       · rw[if_neg r2,if_neg r2];exact gm _ i s.o
   · rcases hN i _ hq with ⟨rfl, _⟩ | ⟨_, q⟩
     · obtain ⟨d, r1, r2⟩ := hx
       rw[ic r1] at r2;cases r2
     · cases q
   · rcases hN i _ hq with ⟨_, q⟩ | ⟨rfl, _⟩
     · cases q
     · exact⟨e2 i (abN hdd),by rw[e3]⟩
   · have hit : i ≠ id := fun q => by rw [if_pos q] at hq; cases hq
     exact⟨e2 i hit,by rw[e3],e5 i hit⟩
   · rcases hN i _ hq with ⟨rfl, q⟩ | ⟨_, q⟩
     · injection q with q; subst q
       rcases hb' with hb'|hb'
       · rw [e1] at hb'
         rcases hrow b' hb' with q|q
         · exact .inl ⟨i,_,by rw[if_pos J];simp,hl,q⟩
         · exact .inr q
       · rcases hs1 b' hb' with q | q
         · exact .inl ⟨i,_,by rw[if_pos J];simp,hl,.inr q⟩
         · exact .inl ⟨id2,_,by rw[if_neg (abN hdd),if_pos J];simp,hl2,.inr q⟩
     · cases q
   · rcases hN i _ hq with ⟨rfl, _⟩ | ⟨_, q⟩
     · rcases hN i' _ hq' with ⟨rfl, _⟩ | ⟨_, q⟩
       · rfl
       · cases q
     · cases q
   · rcases hN i _ hq with ⟨rfl, q⟩ | ⟨_, q⟩
     · injection q with q; subst q
       have hlt1:∀b',fY (E.sub i) b' cs none→b'<w.heap.size:=fun b' q=>(p4.range q).2
       have hlt2:∀b',fY (E.sub id2) b' cs2 none→b'<w.heap.size:=fun b' q=>(q4.range q).2
       have hnr:∀b',fY (E.sub i) b' cs none∨fY (E.sub id2) b' cs2 none→some b'≠(E.cur i).ownBlock:=fun b' q he=>by
         rcases q with q|q
         · exact p5 b' q he.symm
         · exact apart b' (.inl he.symm) (.inr q)
       have hcell:∀(j:Nat) c,(cs++cs2)[j]?=some c→(j<cs.length∧cs[j]?=some c∧E'.sub i j=E.sub i j)∨(cs.length≤j∧cs2[j-cs.length]?=some c∧E'.sub i j=E.sub id2 (j-cs.length)):=fun j c hc=>by
         rcases aa9 j cs.length with q|q
         · rw [aa8 q] at hc
           exact .inl ⟨q,hc,by rw[e4];exact if_pos q⟩
         · rw [aa6 q] at hc
           exact .inr ⟨q,hc,by rw[e4];exact if_neg adh⟩
       refine⟨cs.length+cs2.length,vals1++vals2,?_,by rw[hck,ab8,aaM],fun j hj=>?_,⟨fun j c hc _=>?_,fun i1 i2 c1 c2 b' r1 r2 _ _ r5 r6=>?_,(fun j u' hu=>by cases hu),(fun j u' hu=>by cases hu)⟩,fun b' hb'=>?_⟩
       · rw [e1, hck]
         refine⟨hown',fun b' hb'=>?_⟩;rcases hrow b' hb' with q|q
         · exact(kP.dG (hs.wok.objs i _ hl) q).1
         · exact hs.wok.ia ae q
       · rw [show E'.sub i j = if j < cs.length then E.sub i j else E.sub id2 (j - cs.length) from congrFun e4 j, aax]
         rw[aaM] at hj;rcases aa9 j cs.length with q|q
         · rw[aa8 adh,if_pos q,←aax];exact p3 j q
         · rw[aa6 adh,if_neg adh,hv1,←aax];exact q3 _ adh
       · rcases hcell j c hc with ⟨r1, r2, r3⟩ | ⟨r1, r2, r3⟩
         · rw [r3]
           exact(p4.ok j c r2 (by simp)).go (fun b' hb'=>hg.block b' (hlt1 b' ⟨j,c,r2,by simp,hb'⟩) (hnr b' (.inl ⟨j,c,r2,by simp,hb'⟩))) (fun _ _ hf=>hf) (fun v d hr=>rep .pl v d hr (by simp))
         · rw [r3]
           exact(q4.ok _ c r2 (by simp)).go (fun b' hb'=>hg.block b' (hlt2 b' ⟨_,c,r2,by simp,hb'⟩) (hnr b' (.inr ⟨_,c,r2,by simp,hb'⟩))) (fun _ _ hf=>hf) (fun v d hr=>rep .pl v d hr (by simp))
       · rcases hcell i1 c1 r1 with ⟨a1, a2, a3⟩ | ⟨a1, a2, a3⟩
         · rcases hcell i2 c2 r2 with ⟨b1, b2, b3⟩ | ⟨b1, b2, b3⟩
           · rw [a3] at r5; rw [b3] at r6
             exact p4.apart i1 i2 c1 c2 b' a2 b2 (by simp) (by simp) r5 r6
           · rw [a3] at r5; rw [b3] at r6
             exact(apart b' (.inr ⟨i1,c1,a2,by simp,r5⟩) (.inr ⟨_,c2,b2,by simp,r6⟩)).elim
         · rcases hcell i2 c2 r2 with ⟨b1, b2, b3⟩ | ⟨b1, b2, b3⟩
           · rw [a3] at r5; rw [b3] at r6
             exact(apart b' (.inr ⟨i2,c2,b2,by simp,r6⟩) (.inr ⟨_,c1,a2,by simp,r5⟩)).elim
           · rw [a3] at r5; rw [b3] at r6
             have:=q4.apart _ _ c1 c2 b' a2 b2 (by simp) (by simp) r5 r6;omega
       · intro hb2
         rw[e1] at hb2;rcases hs1 b' hb' with q|q
         · rcases hrow b' hb2 with r1 | r1
           · rcases hblk with h0 | h0
             · rw[h0] at hb2;exact p5 b' q hb2
             · rw[h0] at hb2;simp only[aaB] at hb2;have:=hlt1 b' q;omega
           · have:=hlt1 b' q;omega
         · rcases hrow b' hb2 with r1 | r1
           · exact apart b' r1 (.inr q)
           · have:=hlt2 b' q;omega
     · cases q
 · rw [show (ins id (Ob.nar e (cs ++ cs2) none) (ig id2 (iV (fun d => d.stays true id && d.stays true id2) s.o))).lookup id = _ from by rw [aC, if_pos rfl]] at hh
   cases hh
end
variable{M:Nat→Prop}
section
variable {P:Program} {w0:Fr}{M0:Nat→Prop}{s:St}{o:Oper}{id id2 t u j k b:Nat}{e r T:TypeId}{cs cs2:List Cell}{xs:List AV}{x y:Operand}{E:Env}{a:Act}{w:World}
def Cell.av:Cell→AV
 | .d x=>x
 | .row _ xs=>.sl xs
 | .mp ks vs=>.mp ks vs
theorem sK.rep {o:List (Nat×Ob)}{v:Value}(h:sK P w0 M0 w E o e xs v)(hd:∀v d,bL w (cI M0 (owned E o) .pl) v d→bL w M v d)(hb:∀g,v.ownBlock=some g→¬M g):bL w M v (.sl xs):=by
 obtain⟨vals,h1,h2,h3⟩:=h;have hfl:=bQ xs h2;obtain⟨⟨hl,h1'⟩,hfree⟩:=h1;rcases h1' with⟨hv,hn⟩|⟨g,cap,cur,hv,hg,hh,hnc,hcm,hcs,htake⟩
 ·rw[hv];have:xs=[]:=aa4 hn;subst this;exact .sl none 0 0 [] (P.cellsOf e) (fun _=>undef) J (aaD _) h2 (fun h=>absurd h adh) (fun j d hd=>by simp[flat] at hd) (fun j d hd=>by simp[flat] at hd)
 ·have hown:w.ownsRow 0 e (P.cellsOf e) v xs.length vals:=⟨hl,.inr ⟨g,cap,cur,hv,hg,hh,hnc,hcm,hcs,htake⟩⟩;have hob:v.ownBlock=some g:=by rw[hv];rfl
  rw[hv];refine .sl _ _ _ _ (P.cellsOf e) (fun j=>vals.getD j undef) J hnc h2 (fun h0=>⟨g,0,rfl,hb g hob,(hown.lt g hob).2,fun j hj=>?_⟩) (fun j d hj=>(h3 j d hj).1) (fun j d hj=>hd _ _ (h3 j d hj).2);have hj':j<vals.length:=by rw[hl];exact hj
  have:=hown.cells hob j vals[j] (aaF hj');rw[Addr.add_lit] at this;rw[this,aax,aaF hj'];rfl
theorem np.rep {o:List (Nat×Ob)}{v:Value}{c:Cell}(h:np P w0 M0 w E o v c)(hd:∀v d,bL w (cI M0 (owned E o) .pl) v d→bL w M v d)(hb:∀g,Du v g c→¬M g):bL w M v c.av:=by
 cases c with
 | d x=>exact hd _ _ h.2
 | row e xs=>exact sK.rep h hd hb
 | mp ks vs =>
   obtain⟨g,q,es,clock,h1,h2,h3,h4,h5⟩:=h;rw[q];exact .mp g es clock ks vs (hb g q) (gx h1) h1 h3 h4 fun j d hj=>hd _ _ (h5 j d hj)
theorem Ii {o:List (Nat×Ob)}{v:Value}{c:Cell}(h:np P w0 M0 w E o v c):AV.leaf c.av=true:=by
 cases c with
 | d x=>exact h.1
 | row e xs=>rfl
 | mp ks vs=>rfl
theorem oH {d:AV}(h:AV.leaf d=true):AV.cells d=[d]:=by cases d<;>first|rfl|cases h
theorem jF:∀ {l:List AV},(∀x∈l,AV.leaf x=true)→flat l=l
 | [],_=>rfl
 | x :: l, h => by
   have ih:=jF (l:=l) fun y hy=>h y (aaW _ hy)
   unfold flat at ih ⊢;rw[abQ,oH (h x aaJ),ih];rfl
theorem ba.flatten (h:ba P w0 M0 E s a w)(hnd:Nodup s.s=true)(ae:∀b,M0 b→b<w0.w.heap.size)(hl:s.o.lookup id=some (.nar e cs none))(hck:P.cellsOf e=1):ba P w0 M0 E (s.cK true id (.arr e (cs.map Cell.av))) a w:=by
 obtain⟨n,vals,g1,g2,g3,g4,g5⟩:=h.wok.objs id _ hl;rw[hck,ab8] at g2;subst g2;refine h.cK true (fun q=>by cases q) hnd ae (fun i hi=>⟨rfl,rfl⟩) (.inr J) none ⟨rfl,rfl,rfl,aaD _,fun _ _ _=>rfl⟩ (fun _=>aaD _) (fun g hg=>by cases hg) (fun b hb=>.inl ⟨_,hl,.inl hb⟩) (fun rep sv=>?_);have hleaf:∀x∈cs.map Cell.av,AV.leaf x=true:=fun x hx=>by
  obtain⟨c,hc,rfl⟩:=aa7.1 hx;obtain⟨j,hj,rfl⟩:=abF hc;exact Ii (g4.ok j _ (aaF hj) (by simp))
 refine⟨vals,by rw[aaA];exact g1,fun x hx=>by rw[oH (hleaf x hx),hck];rfl,fun j d hd=>?_⟩;rw[jF hleaf] at hd;refine⟨hleaf d (abm hd),?_⟩;rw[aaI,aaH] at hd;obtain⟨c,hc,rfl⟩:=hd;have hj:j<cs.length:=(aa0.1 hc).1;rw[g3 j hj];refine(g4.ok j c hc (by simp)).rep (fun v d hr=>rep .pl v d hr (by simp)) fun g hg hm=>?_
 have hsub:fY (E.sub id) g cs none:=⟨j,c,hc,by simp,hg⟩;rcases hm with hm|⟨i,ob,q1,q2⟩
 ·exact(g4.range hsub).1.2 hm
 ·by_cases hi:i=id
  ·subst hi;rw[aC,if_pos rfl] at q1;simp only[aaB] at q1;subst q1;exact g5 g hsub q2
  ·rw[aC,if_neg hi,cC,aaH] at q1;obtain⟨ob0,q3,rfl⟩:=q1;exact hi (h.wok.disj i ob0 id _ g q3 hl (iD.1 q2) (.inr hsub))
theorem J5 (t:Nat)(ae:∀b,M0 b→b<w0.w.heap.size)(hnd:Nodup s.s=true)(ht:s.s.lookup t=some (.nst id))(hl:s.o.lookup id=some (.nar e cs none))(hk:bX P e=some 1):fm P w0 M0 s ((s.cK true id (.arr e (cs.map Cell.av))).put t (.own id)):=by rintro a w ⟨E,hs⟩;have h0:=hs.slots t _ ht;exact⟨E,(hs.flatten hnd ae hl (cQ hk)).DO h0.1 fun _ _ _=>h0.2.1 e cs none hl⟩
theorem GC {y:Code}{Q:Exit→St→Prop}(t:Nat)(ae:∀b,M0 b→b<w0.w.heap.size)(hnd:Nodup s.s=true)(ht:s.s.lookup t=some (.nst id))(hl:s.o.lookup id=some (.nar e cs none))(hk:bX P e=some 1)(h:aw P w0 M0 y ((s.cK true id (.arr e (cs.map Cell.av))).put t (.own id)) Q):aw P w0 M0 y s Q:=aw.imp (J5 t ae hnd ht hl hk) h
theorem Qd {e:TypeId}(rows:List (List AV)):(rows.map (Cell.row e)).map Cell.av=rows.map AV.sl:=by rw[acu];rfl
theorem xK.data {f:FuncId}{ds:List AV}(h:xK P f ds e cs)(hk:bX P e=some 1):au P f ds (.p (.sl (cs.map Cell.av))) :=
 ⟨h.1, fun w vs hv hr => (h.2 w vs hv hr).mono fun q w' ⟨v, he, hb, E, hv0, n, vals, g1, g2, g3, g4, g5⟩ => ⟨v, he, hb, by
   rw[cQ hk,ab8] at g2;subst g2;have hleaf:∀x∈cs.map Cell.av,AV.leaf x=true:=fun x hx=>by
     obtain⟨c,hc,rfl⟩:=aa7.1 hx;obtain⟨j,hj,rfl⟩:=abF hc;exact Ii (g4.ok j _ (aaF hj) (by simp))
   have hown0:∀g,(E.cur 0).ownBlock=some g→¬g<w.heap.size:=fun g hg q=>(g1.2 g hg).2 q
   show bL w' _ v (.sl (cs.map Cell.av));rw[←hv0];obtain⟨⟨hl,h1'⟩,hfree⟩:=g1;have hwk:∀v d,bL w' (cI (fun b=>b<w.heap.size) (owned E [(0,.nar e cs none)]) .pl) v d→bL w' (fun b=>b<w.heap.size) v d:=fun v d hr=>hr.cm fun b hb=>.inl hb
   rw[cQ hk] at h1' hl;rcases h1' with⟨hvn,hn⟩|⟨g,cap,cur,hvs,hg,hh,hnc,hcm,hcs,htake⟩
   · rw [hvn]
     have:cs=[]:=aa4 hn;subst this;exact .sl none 0 0 [] 1 (fun _=>undef) J (aaD _) (fun x hx=>by cases hx) (fun h=>absurd h adh) (fun j d hd=>by simp[flat] at hd) (fun j d hd=>by simp[flat] at hd)
   · have hown : w'.ownsRow 0 e 1 (E.cur 0) cs.length vals := ⟨hl, .inr ⟨g, cap, cur, hvs, hg, hh, hnc, hcm, hcs, htake⟩⟩
     have hob:(E.cur 0).ownBlock=some g:=by rw[hvs];rfl
     rw[hvs];refine .sl _ _ _ _ 1 (fun j=>vals.getD j undef) (by rw[aaA]) hnc (fun x hx=>by rw[oH (hleaf x hx)];rfl) (fun h0=>⟨g,0,rfl,hown0 g hob,(hown.lt g hob).2,fun j hj=>?_⟩) (fun j d hd=>?_) (fun j d hd=>?_)
     · have hj' : j < vals.length := by rw [hl]; exact hj
       have:=hown.cells hob j vals[j] (aaF hj');rw[Addr.add_lit] at this;rw[this,aax,aaF hj'];rfl
     · rw[jF hleaf] at hd;exact hleaf d (abm hd)
     · rw [jF hleaf, aaI, aaH] at hd
       obtain⟨c,hc,rfl⟩:=hd;have hj:j<cs.length:=(aa0.1 hc).1;rw[g3 j hj];exact(g4.ok j c hc (by simp)).rep hwk fun g' hg' q=>(g4.range ⟨j,c,hc,by simp,hg'⟩).1.2 q⟩⟩
end
section
variable {P:Program} {w0:Fr}{M0:Nat→Prop}{s:St}{t u j:Nat}{e r:TypeId}{cs cs':List Cell}{xs:List AV}{y:Code}{Q:Exit→St→Prop}
theorem MI (id u:Nat)(ae:∀b,M0 b→b<w0.w.heap.size)(hnd:Nodup s.s=true)(hne:Nat.beq u id=false)(hl:s.o.lookup id=some (.nar e cs none))(hc:cs[j]?=some (.row r xs)) :
  fm P w0 M0 s { n:=s.n,s:=s.s.filter (fun p=>p.2.stays true u),o:=ins u (.arr r xs) (ins id (.nar e cs (some (j,.arr u))) (ib true u s.o)) }:=fun a w ⟨E,hs⟩=>by
 obtain⟨E',_,h⟩:=hs.borrow (u:=u) hnd ae hl hc (fun q=>by rw[q,acC] at hne;cases hne);exact⟨E',h⟩
theorem qE (id u:Nat)(ae:∀b,M0 b→b<w0.w.heap.size)(hnd:Nodup s.s=true)(hne:Nat.beq u id=false)(hl:s.o.lookup id=some (.nar e cs none))(hc:cs[j]?=some (.row r xs))
 (h:aw P w0 M0 y { n:=s.n,s:=s.s.filter (fun p=>p.2.stays true u),o:=ins u (.arr r xs) (ins id (.nar e cs (some (j,.arr u))) (ib true u s.o)) } Q):aw P w0 M0 y s Q:=aw.imp (MI id u ae hnd hne hl hc) h
theorem xL {id:Nat}(h:s.s.lookup t=some (.nst id))(h':s.o.lookup id=some (.nar e cs' none))(q:cs'=cs):Vy t e cs .ret s:=⟨id,h,by rw[h',q]⟩
end
section
variable {P:Program} {w0:Fr}{M0:Nat→Prop}{s:St}{id:Nat}{e:TypeId}{cs:List Cell}{E:Env}{a:Act}{w:World}
theorem ba.YE (u:Nat)(h:ba P w0 M0 E s a w)(hnd:Nodup s.s=true)(ae:∀b,M0 b→b<w0.w.heap.size)(hl:s.o.lookup id=some (.nar e cs none))(hu:u≠id) :
  ∃E':Env,E'.cur u=E.cur id∧ba P w0 M0 E' { n:=s.n,s:=s.s.filter (fun p=>p.2.stays true u&&p.2.stays true id),o:=ins u (.nar e cs none) (ig id (iV (fun d=>d.stays true u&&d.stays true id) s.o)) } a w:=by
 obtain⟨n,vals,g1,g2,g3,g4,g5⟩:=h.wok.objs id _ hl;obtain⟨E',e1,e2,e3,e4,e5⟩:∃E':Env,E'.cur u=E.cur id∧(∀i,i≠u→E'.cur i=E.cur i)∧E'.blk=E.blk∧E'.sub u=E.sub id∧(∀i,i≠u→E'.sub i=E.sub i) :=
  ⟨{ E with cur:=fun i=>if i=u then E.cur id else E.cur i,sub:=fun i=>if i=u then E.sub id else E.sub i },if_pos rfl,fun i hi=>if_neg hi,rfl,if_pos rfl,fun i hi=>if_neg hi⟩
 have hN:∀i q,(if i=u then some (some (Ob.nar e cs none)) else if i=id then some none else none:Option (Option Ob))=some q→(i=u∧q=some (.nar e cs none))∨(i=id∧q=none):=fun i q hq=>by
  by_cases h1:i=u
  ·rw[if_pos h1] at hq;injection hq with hq;exact .inl ⟨h1,hq.symm⟩
  ·rw[if_neg h1] at hq;by_cases h2:i=id
   ·rw[if_pos h2] at hq;injection hq with hq;exact .inr ⟨h2,hq.symm⟩
   ·rw[if_neg h2] at hq;cases hq
 refine⟨E',e1,?_⟩;refine ba.xo (E':=E') (fun d=>d.stays true u&&d.stays true id) (fun i=>if i=u then some (some (.nar e cs none)) else if i=id then some none else none) _ (fun i=>?_) (fun d=>rfl) (fun i ob hq hx=>?_) (fun i hq=>?_) h hnd ae (fun i hq=>?_) (fun x hx=>by rw[e3]) none ⟨rfl,rfl,rfl,aaD _,fun _ _ _=>rfl⟩ (fun _=>aaD _) (fun g hg=>by cases hg) (fun i ob b hq hb=>.inl ?_) (fun i ob i' ob' b hq hq' hb hb'=>?_) (fun rep sv lents i ob hq=>?_)
 ·rw[aC];by_cases q1:i=u
  ·rw[if_pos q1,if_pos q1]
  ·rw[if_neg q1,if_neg q1,dj];by_cases q2:i=id
   ·rw[if_pos q2,if_pos q2]
   ·rw[if_neg q2,if_neg q2];exact gm _ i s.o
 ·rcases hN i _ hq with⟨rfl,_⟩|⟨_,q⟩
  ·obtain⟨d,q1,q2⟩:=hx;rw[ic q1] at q2;cases q2
  ·cases q
 ·rcases hN i _ hq with⟨_,q⟩|⟨rfl,_⟩
  ·cases q
  ·exact⟨e2 i (abN hu),by rw[e3]⟩
 ·have hit:i≠u:=fun q=>by rw[if_pos q] at hq;cases hq
  exact⟨e2 i hit,by rw[e3],e5 i hit⟩
 ·rcases hN i _ hq with⟨rfl,q⟩|⟨_,q⟩
  ·injection q with q;subst q;refine⟨id,_,by rw[if_neg (abN hu),if_pos J];simp,hl,?_⟩;simpa only[bG,e1,e4] using hb
  ·cases q
 ·rcases hN i _ hq with⟨rfl,_⟩|⟨_,q⟩
  ·rcases hN i' _ hq' with⟨rfl,_⟩|⟨_,q⟩
   ·rfl
   ·cases q
  ·cases q
 ·rcases hN i _ hq with⟨rfl,q⟩|⟨_,q⟩
  ·injection q with q;subst q;refine⟨n,vals,by rw[e1];exact g1,g2,by rw[e4];exact g3,?_,by rw[e1,e4];exact g5⟩;rw[e4];exact g4.go (nq.none _ _) (fun _ _=>rfl) (fun _ _ hf=>hf) (fun v d hr=>rep .pl v d hr (by simp))
  ·cases q
theorem MJ (t u:Nat)(ae:∀b,M0 b→b<w0.w.heap.size)(hnd:Nodup s.s=true)(ht:s.s.lookup t=some (.nst id))(hl:s.o.lookup id=some (.nar e cs none))(hne:Nat.beq u id=false) :
  fm P w0 M0 s (({ n:=s.n,s:=s.s.filter (fun p=>p.2.stays true u&&p.2.stays true id),o:=ins u (.nar e cs none) (ig id (iV (fun d=>d.stays true u&&d.stays true id) s.o)) }:St).put t (.nst u)):=by
 rintro a w ⟨E,hs⟩;have h0:=hs.slots t _ ht;obtain⟨E',e1,h1⟩:=hs.YE u hnd ae hl (fun q=>by rw[q,acC] at hne;cases hne);refine⟨E',h1.DO h0.1 ⟨fun e' cs' ln hh=>by rw[e1];exact h0.2.1 e cs none hl,fun ks cs' ln hh=>?_⟩⟩;rw[show(ins u (Ob.nar e cs none) (ig id (iV (fun d=>d.stays true u&&d.stays true id) s.o))).lookup u=_ from by rw[aC,if_pos rfl]] at hh;cases hh
theorem Qe {ops:Array Oper}{Q:St→Prop}{l':List Oper}(t u:Nat)(ae:∀b,M0 b→b<w0.w.heap.size)(hnd:Nodup s.s=true)(ht:s.s.lookup t=some (.nst id))(hl:s.o.lookup id=some (.nar e cs none))(hne:Nat.beq u id=false)
 (h:kn P w0 M0 ops Q l' (({ n:=s.n,s:=s.s.filter (fun p=>p.2.stays true u&&p.2.stays true id),o:=ins u (.nar e cs none) (ig id (iV (fun d=>d.stays true u&&d.stays true id) s.o)) }:St).put t (.nst u))):kn P w0 M0 ops Q l' s:=kn.imp (MJ t u ae hnd ht hl hne) h
end
section
variable {P:Program} {w0:Fr}{M0:Nat→Prop}{ops:Array Oper}
end
variable{L:Array Bool}
section
variable {P:Program} {w0:Fr}{M0:Nat→Prop}{ops:Array Oper}
def D4 (E:Nat→Nat)(L:Array Bool):Nat→Nat
 | 0=>0
 | p+1=>if L.getD (E p) false then p+1 else D4 E L p
theorem uw (E:Nat→Nat)(L:Array Bool):∀m,D4 E L m≤m
 | 0=>aaD _
 | m + 1 => by
   unfold D4;split
   · exact aaD _
   · exact Nat.le_succ_of_le (uw E L m)
theorem Ij {E:Nat→Nat}{L:Array Bool}:∀{m:Nat},(∀p q,p<q→q<m→L.getD (E q) false=true→L.getD (E p) false=true)→∀p,p<m→(L.getD (E p) false=true↔p<D4 E L m)
 | 0,_,p,h=>absurd h (Nat.not_lt_zero p)
 | m + 1, hc, p, h => by
   unfold D4;by_cases q:L.getD (E m) false=true
   · rw [if_pos q]
     refine⟨fun _=>h,fun _=>?_⟩;by_cases e:p=m
     · rw[e];exact q
     · exact hc p m adh adh q
   · rw [if_neg q]
     by_cases e:p=m
     · subst e
       have:=uw E L p;exact⟨fun h=>absurd h q,fun h=>adh⟩
     · exact Ij (fun a b h1 h2=>hc a b h1 adh) p adh
theorem xM {E:Nat→Nat}{m t:Nat}(ht:t≤m)(h1:∀p,p<t→L.getD (E p) false=true)(h2:∀p,t≤p→p<m→L.getD (E p) false=false):D4 E L m=t:=by
 induction m with
 | zero=>unfold D4;omega
 | succ m ih =>
   unfold D4;by_cases q:t=m+1
   · rw[if_pos (h1 m adh)];exact q.symm
   · rw [if_neg (by rw [h2 m adh adh]; decide)]
     exact ih adh fun p hp hm=>h2 p hp adh
def zK (E:Nat→Nat)(m i:Nat):Bool:=(List.range m).any fun p=>Nat.beq i (E p)
theorem D5 {E:Nat→Nat}{m i:Nat}:zK E m i=true↔∃p,p<m∧i=E p:=by unfold zK;rw[abk];exact⟨fun⟨p,hp,h⟩=>⟨p,aba.1 hp,aby h⟩,fun⟨p,hp,h⟩=>⟨p,aba.2 hp,by rw[h];exact acC _⟩⟩
theorem GD {id:Nat}{n:Nat}(m:Nat)(E:Nat→Nat)(O:Nat→List (Nat×Ob))(k:Nat)(G:List (Nat×SV))(hm:P.follows .mixedOrders=true)(hok:l7 ops=true)(htl:fC ops k=true)(hmid:uv ops n k (zK E m)=true)(hks:Nat.ble k ops.size=true)
   (hEk:∀p,p<m→E p<k)(hch:∀p q,p<q→q<m→(kS ops ops.size (E q)).contains (E p)=true)(hinj:∀p q,p<q→q<m→E p≠E q)
   (hG:∀t d,(G.filter fun p=>eI ops k #[] p.1).lookup t=some d→s0.lookup t=some d)(hnd:Nodup G=true)
   (hset:∀i t,i<k→(ops[i]?).bind (·.dst)=some t→∃d,G.lookup t=some d)
   (hP:∀p i o t d,p≤m→i<k→zK E m i=false→ops[i]?=some o→o.dst=some t→G.lookup t=some d→(∀q,q<p→(kS ops ops.size (E q)).contains i=false)→(p<m→(kS ops ops.size i).contains (E p)=false)→Pure P w0 M0 o (fx ops o (St.ev ⟨n,G,O p⟩)) (O p) d)
   (hE:∀p o X,p<m→ops[E p]?=some o→Nodup X=true→(∀t d,X.lookup t=some d→G.lookup t=some d)→(∀t,t∈looks ops o→X.lookup t=G.lookup t)→∃s',Step P w0 M0 o ⟨n,X,O p⟩ s'∧fm P w0 M0 s' ⟨n,rf G X o,O (p+1)⟩)
   (hend:rU P w0 M0 ops (fun s=>∃s',fm P w0 M0 s s'∧Q' .normal s') k ⟨n,G,O m⟩):aw P w0 M0 (.region id ops true) ⟨n,s0,O 0⟩ Q':=by
 obtain⟨hns,hsp⟩:=mM hok;have hlt:∀i o,ops[i]?=some o→∀j∈gg o,j<i:=fun i o ho=>(hsp i o ho).1
 have hks':=aaz hks;have down:∀{L:Array Bool}{i:Nat},ou ops L→L.size=ops.size→L.getD i false=true→∀j,j∈kS ops ops.size i→L.getD j false=true:=fun{L i} hc hsz hL j hj=>by
   have hi:i<ops.size:=by
     rcases aa9 i ops.size with q|q
     · exact q
     · exfalso
       have:L.getD i false=false:=by simp[show ¬i<L.size by omega]
       rw[hL] at this;cases this
   have hio:ops[i]?=some ops[i]:=abd hi;exact e8 hc ops.size i ops[i] hio (fun q hq=>hc i _ hio hL q hq) hlt j hj
 have ne_mem:∀{i j:Nat},(¬j∈kS ops ops.size i)→(kS ops ops.size i).contains j=false:=fun{i j} h=>by
   cases hq:(kS ops ops.size i).contains j with
   | false=>rfl
   | true=>exact absurd (abv.1 hq) h
 have chain:∀{L:Array Bool},ou ops L→L.size=ops.size→∀p q,p<q→q<m→L.getD (E q) false=true→L.getD (E p) false=true:=fun{L} hc hL p q h1 h2 h3=>down hc hL h3 _ (abv.1 (hch p q h1 h2))
 refine GB (eff:=zK E m) (oL:=fun L=>O (D4 E L m)) (o2:=O m) k G hm hok htl hmid hks hG hnd hset (fun L hL=>?_) (fun L hL=>?_) (fun L i o t d hL hc hanc BQ hik hef ho hd YF=>?_) (fun L i o X hL hc hanc BQ hik hef ho hX dv cZ=>?_) hend
 · show O (D4 E L m) = O 0
   rw[xM (aaG m) (fun p hp=>absurd hp (Nat.not_lt_zero p)) fun p _ _=>hL _]
 · show O (D4 E L m) = O m
   rw[xM (aaD m) (fun p hp=>hL _ (hEk p hp)) fun p h1 h2=>adh]
 · have his : i < ops.size := (abn.1 ho).1
   have hne:∀p,p<m→i≠E p:=fun p hp e=>by
     have:=D5.2 ⟨p,hp,e⟩;rw[hef] at this;cases this
   have hiff:=Ij (chain hc hL);refine⟨hP _ i o t d (uw E L m) hik hef ho hd YF (fun q hq=>ne_mem fun hmm=>?_) fun hp=>ne_mem fun hmm=>?_,?_⟩
   · have := uw E L m
     have:=down hc hL ((hiff q adh).2 hq) i hmm;rw[BQ] at this;cases this
   · have := (hiff _ hp).1 (hanc _ hmm)
     omega
   · show O (D4 E (L.setIfInBounds i true) m) = O (D4 E L m)
     congr 1
     refine xM (uw E L m) (fun p hp=>?_) fun p h1 h2=>?_
     · have := uw E L m
       rw[cr adh,if_neg (abN (hne p adh))];exact(hiff p adh).2 hp
     · rw [cr adh, if_neg (abN (hne p h2))]
       cases hq:L.getD (E p) false with
       | false=>rfl
       | true=>have:=(hiff p h2).1 hq;omega
 · have his : i < ops.size := (abn.1 ho).1
   obtain⟨p,hp,rfl⟩:=D5.1 hef;have later:∀q,p≤q→q<m→L.getD (E q) false=false:=fun q h1 h2=>by
     by_cases e:q=p
     · rw[e];exact BQ
     · cases hq : L.getD (E q) false with
       | false=>rfl
       | true=>have:=chain hc hL p q adh h2 hq;rw[BQ] at this;cases this
   have before:∀q,q<p→L.getD (E q) false=true:=fun q h1=>hanc _ (abv.1 (hch q p h1 hp))
   have e1:D4 E L m=p:=xM adh before later;have e2:D4 E (L.setIfInBounds (E p) true) m=p+1:=xM adh (fun q hq=>by
       rw[cr adh];by_cases e:q=p
       · rw[e,if_pos rfl]
       · rw[if_neg (hinj q p adh hp)];exact before q adh) fun q h1 h2=>by
       rw[cr adh,if_neg (abN (hinj p q adh h2))];exact later q adh h2
   show ∃s',Step P w0 M0 o ⟨n,X,O (D4 E L m)⟩ s'∧fm P w0 M0 s' ⟨n,_,O (D4 E (L.setIfInBounds (E p) true) m)⟩;rw[e1,e2];exact hE p o X hp ho hX dv cZ
end
section
variable {P:Program} {w0:Fr}{M0:Nat→Prop}{s s':St}{id u t:Nat}{e:TypeId}{xs:List AV}{cs:List Cell}{E:Env}{a:Act}{w:World}
def SV.gone (o:List (Nat×Ob)):SV→Bool
 | .own i=>(o.lookup i).isNone
 | .pel i _ _=>(o.lookup i).isNone
 | .vsl i _ _=>(o.lookup i).isNone
 | .nst i=>(o.lookup i).isNone
 | .nel i _=>(o.lookup i).isNone
 | .pbox i _=>(o.lookup i).isNone
 | .omap i=>(o.lookup i).isNone
 | .dead=>true
 | _=>false
theorem Qf {o:List (Nat×Ob)}{v:Value}{d:SV}(h:d.gone o=true):bm P M0 w E o v d:=by
 have key:∀{i:Nat}{ob:Ob},(o.lookup i).isNone=true→o.lookup i=some ob→False:=fun h1 h2=>by rw[h2] at h1;cases h1
 cases d with
 | v c d=>cases h
 | own i=>exact fun _ _ q=>(key h q).elim
 | pel i j k=>exact fun _ _ q=>(key h q).elim
 | pbox i j=>exact fun _ _ q=>(key h q).elim
 | omap i=>exact fun _ _ q=>(key h q).elim
 | vsl i j k=>exact fun _ _ q=>(key h q).elim
 | fn f c=>cases h
 | hid f c=>cases h
 | nst i=>exact⟨fun _ _ _ q=>(key h q).elim,fun _ _ _ q=>(key h q).elim⟩
 | nel i j=>exact fun _ _ _ q=>(key h q).elim
 | dead=>trivial
theorem D6 (hn:s'.n=s.n)(ho:s'.o=s.o)(h:∀t d,s'.s.lookup t=some d→s.s.lookup t=some d∨(t<s.n∧d.gone s.o=true)):fm P w0 M0 s s':=fun a w ⟨E,hs⟩ =>
 ⟨E, hs.size.trans hn.symm, hs.defers, fun t d ht => by
  rw[hn,ho];rcases h t d ht with h1|⟨h1,h2⟩
  ·exact hs.slots t d h1
  ·exact⟨h1,Qf h2⟩,by rw[ho];exact hs.wok⟩
theorem ba.YG (u:Nat)(h:ba P w0 M0 E s a w)(hnd:Nodup s.s=true)(ae:∀b,M0 b→b<w0.w.heap.size)(hl:s.o.lookup id=some (.arr e xs))(hu:u≠id) :
  ∃E':Env,E'.cur u=E.cur id∧ba P w0 M0 E' { n:=s.n,s:=s.s.filter (fun p=>p.2.stays true u&&p.2.stays true id),o:=ins u (.arr e xs) (ig id (iV (fun d=>d.stays true u&&d.stays true id) s.o)) } a w:=by
 obtain⟨vals,g1,g2,g3⟩:=h.wok.objs id _ hl;obtain⟨E',e1,e2,e3,e5⟩:∃E':Env,E'.cur u=E.cur id∧(∀i,i≠u→E'.cur i=E.cur i)∧E'.blk=E.blk∧E'.sub=E.sub :=
  ⟨{ E with cur:=fun i=>if i=u then E.cur id else E.cur i },if_pos rfl,fun i hi=>if_neg hi,rfl,rfl⟩
 have hN:∀i q,(if i=u then some (some (Ob.arr e xs)) else if i=id then some none else none:Option (Option Ob))=some q→(i=u∧q=some (.arr e xs))∨(i=id∧q=none):=fun i q hq=>by
  by_cases h1:i=u
  ·rw[if_pos h1] at hq;injection hq with hq;exact .inl ⟨h1,hq.symm⟩
  ·rw[if_neg h1] at hq;by_cases h2:i=id
   ·rw[if_pos h2] at hq;injection hq with hq;exact .inr ⟨h2,hq.symm⟩
   ·rw[if_neg h2] at hq;cases hq
 refine⟨E',e1,?_⟩;refine ba.xo (E':=E') (fun d=>d.stays true u&&d.stays true id) (fun i=>if i=u then some (some (.arr e xs)) else if i=id then some none else none) _ (fun i=>?_) (fun d=>rfl) (fun i ob hq hx=>?_) (fun i hq=>?_) h hnd ae (fun i hq=>?_) (fun x hx=>by rw[e3]) none ⟨rfl,rfl,rfl,aaD _,fun _ _ _=>rfl⟩ (fun _=>aaD _) (fun g hg=>by cases hg) (fun i ob b hq hb=>.inl ?_) (fun i ob i' ob' b hq hq' hb hb'=>?_) (fun rep sv lents i ob hq=>?_)
 ·rw[aC];by_cases q1:i=u
  ·rw[if_pos q1,if_pos q1]
  ·rw[if_neg q1,if_neg q1,dj];by_cases q2:i=id
   ·rw[if_pos q2,if_pos q2]
   ·rw[if_neg q2,if_neg q2];exact gm _ i s.o
 ·rcases hN i _ hq with⟨rfl,_⟩|⟨_,q⟩
  ·obtain⟨d,q1,q2⟩:=hx;rw[ic q1] at q2;cases q2
  ·cases q
 ·rcases hN i _ hq with⟨_,q⟩|⟨rfl,_⟩
  ·cases q
  ·exact⟨e2 i (abN hu),by rw[e3]⟩
 ·have hit:i≠u:=fun q=>by rw[if_pos q] at hq;cases hq
  exact⟨e2 i hit,by rw[e3],by rw[e5]⟩
 ·rcases hN i _ hq with⟨rfl,q⟩|⟨_,q⟩
  ·injection q with q;subst q;refine⟨id,_,by rw[if_neg (abN hu),if_pos J];simp,hl,?_⟩;simpa only[bG,e1] using hb
  ·cases q
 ·rcases hN i _ hq with⟨rfl,_⟩|⟨_,q⟩
  ·rcases hN i' _ hq' with⟨rfl,_⟩|⟨_,q⟩
   ·rfl
   ·cases q
  ·cases q
 ·rcases hN i _ hq with⟨rfl,q⟩|⟨_,q⟩
  ·injection q with q;subst q;exact⟨vals,by rw[e1];exact g1,g2,fun j d hd=>⟨(g3 j d hd).1,rep .pl _ _ (g3 j d hd).2 (by simp)⟩⟩
  ·cases q
theorem td (t u:Nat)(ae:∀b,M0 b→b<w0.w.heap.size)(hnd:Nodup s.s=true)(ht:s.s.lookup t=some (.own id))(hl:s.o.lookup id=some (.arr e xs))(hne:Nat.beq u id=false) :
  fm P w0 M0 s (({ n:=s.n,s:=s.s.filter (fun p=>p.2.stays true u&&p.2.stays true id),o:=ins u (.arr e xs) (ig id (iV (fun d=>d.stays true u&&d.stays true id) s.o)) }:St).put t (.own u)):=by
 rintro a w ⟨E,hs⟩;have h0:=hs.slots t _ ht;obtain⟨E',e1,h1⟩:=hs.YG u hnd ae hl (fun q=>by rw[q,acC] at hne;cases hne);exact⟨E',h1.DO h0.1 fun e' xs' hh=>by rw[e1];exact h0.2 e xs hl⟩
end
variable{parts:Array (Nat×Operand)}
section
variable {P:Program} {w0:Fr}{M0:Nat→Prop}
theorem mS (f:Nat×SV→Bool):∀l:List (Nat×SV),Nodup l=true→Nodup (l.filter f)=true
 | [],_=>rfl
 | (t, d) :: r, h => by
   simp only[Nodup,aaZ,abw] at h;rw[abz];split
   · simp only [Nodup, aaZ, abw]
     refine⟨?_,mS f r h.2⟩;rw[ab6] at h ⊢;exact fun p hp=>h.1 p (abA.1 hp).1
   · exact mS f r h.2
theorem J6 (t:Nat)(d:SV)(l:List (Nat×SV))(h:Nodup l=true):Nodup ((t,d) :: l.filter fun p=>!(Nat.beq p.1 t))=true:=by simp only[Nodup,aaZ,abw];refine⟨?_,mS _ l h⟩;rw[ab6];intro p hp;have:=(abA.1 hp).2;intro hh;rw[hh] at this;cases this
theorem r9 (t:Nat)(d:SV)(l:List (Nat×SV))(u:Nat):((t,d) :: l.filter fun p=>!(Nat.beq p.1 t)).lookup u=if u=t then some d else l.lookup u:=by
 rw[aq];by_cases h:u=t
 ·rw[if_pos h,if_pos h]
 ·rw[if_neg h,if_neg h,ca (fun i=>!(Nat.beq i t)) u l,if_pos];cases hq:Nat.beq u t with
  | false=>rfl
  | true=>exact absurd (aby hq) h
def Vd (p:SV→Bool)(n t:Nat)(o2:List (Nat×Ob))(G:List (Nat×SV)):Bool:=G.all fun q=>Nat.beq q.1 t||(p q.2||(Nat.blt q.1 n&&q.2.gone o2))
theorem MK {p:SV→Bool}{n t:Nat}{o2:List (Nat×Ob)}{G:List (Nat×SV)}(h:Vd p n t o2 G=true){u:Nat}{d:SV}(hl:G.lookup u=some d)(hne:u≠t):p d=true∨(u<n∧d.gone o2=true):=by
 have:=aa5.1 h _ (dJ hl);simp only[abC,aaZ] at this;rcases this with h1|h1|⟨h1,h2⟩
 ·exact absurd (aby h1) hne
 ·exact .inl h1
 ·exact .inr ⟨by simpa using h1,h2⟩
theorem wE {G X:List (Nat×SV)}{o:Oper}{t:Nat}{d:SV}(hd:o.dst=some t)(hG:G.lookup t=some d):rf G X o=ins t d X:=by unfold rf;rw[hd];simp only[hG]
theorem wF {n t:Nat}{d0:SV}{p:SV→Bool}{X G:List (Nat×SV)}{s:St}{o2:List (Nat×Ob)}(hnd:Nodup X=true)(dv:∀t d,X.lookup t=some d→G.lookup t=some d)(hok:Vd p n t o2 G=true)(hn:s.n=n)(ho:s.o=o2)
  (hs:∀u,s.s.lookup u=if u=t then some d0 else(X.filter fun q=>p q.2).lookup u):fm P w0 M0 s ⟨n,ins t d0 X,o2⟩:=by
 refine D6 hn.symm ho.symm fun u d hu=>?_
 rw[hs u];rw[aC] at hu;by_cases q:u=t
 ·rw[if_pos q] at hu ⊢;exact .inl hu
 ·rw[if_neg q] at hu ⊢;rcases MK hok (dv u d hu) q with h|⟨h1,h2⟩
  ·exact .inl (iH p X u d hnd hu h)
  ·exact .inr ⟨by rw[hn];exact h1,by rw[ho];exact h2⟩
variable {o:Oper} {G X:List (Nat×SV)}{o1 o2:List (Nat×Ob)}{T e r:TypeId}{n t u v b k id id2:Nat}{xs ys:List AV}{cs cs2:List Cell}{y:Operand}
theorem xN (ho:o.op=.buildSlice T 0 parts)(hp:parts.toList=[])(hd:o.dst=some t)(hn:Nat.blt t n=true)(hnd:Nodup X=true)(hT:P.underlying T=some (.slice e))(hel:iE P e k b=true)
  (dv:∀t d,X.lookup t=some d→G.lookup t=some d)(J2:G.lookup t=some (.own t))(ho2:ins t (.arr e []) (ib true t o1)=o2)(hok:Vd (SV.stays true t) n t o2 G=true)(ae:∀b,M0 b→b<w0.w.heap.size) :
  ∃s',Step P w0 M0 o ⟨n,X,o1⟩ s'∧fm P w0 M0 s' ⟨n,rf G X o,o2⟩:=by
 refine⟨_,Ai (s:=⟨n,X,o1⟩) ho hp hd hn hnd hT hel ae,?_⟩;rw[wE hd J2];exact wF hnd dv hok J ho2 fun u=>aC t u _ _
theorem Qg {n t:Nat}{d0:SV}{Y:List (Nat×SV)}{o1:List (Nat×Ob)}:fm P w0 M0 ⟨n,ins t d0 Y,o1⟩ ⟨n,(t,d0) :: Y.filter (fun p=>!(Nat.beq p.1 t)),o1⟩ :=
 eW rfl rfl fun u d hu=>by
  show(ins t d0 Y).lookup u=some d;rw[aC];rw[show(⟨n,(t,d0) :: Y.filter (fun p=>!(Nat.beq p.1 t)),o1⟩:St).s=(t,d0) :: Y.filter (fun p=>!(Nat.beq p.1 t)) from rfl,r9] at hu;exact hu
theorem lI (p:SV→Bool):∀ (l:List (Nat×SV)) (u:Nat),Nodup l=true→(l.filter fun q=>p q.2).lookup u=(l.lookup u).filter p
 | [],u,_=>rfl
 | (w, d) :: l, u, h => by
   have h':=h;simp only[Nodup,aaZ,abw] at h';have ih:=lI p l u h'.2;rw[abz,aq];by_cases q:u=w
   · rw [if_pos q]
     by_cases hp:p d=true
     · rw[if_pos hp,aq,if_pos q];simp[Option.filter,hp]
     · rw [if_neg hp, ih]
       have:l.lookup u=none:=by
         cases hl:l.lookup u with
         | none=>rfl
         | some z =>
           have h1:=ab6.1 h'.1 _ (dJ hl);rw[q] at h1;simp at h1
       rw[this];simp[Option.filter,hp]
   · rw [if_neg q]
     split
     · rw[aq,if_neg q];exact ih
     · exact ih
theorem ck (ho:o.op=.call { callee:=.builtin .append,args:=#[.tmp u,y],argTypes:=#[T,T] })(hd:o.dst=some t)(hn:Nat.blt t n=true)(hnd:Nodup X=true)(hT:P.underlying T=some (.slice e))(hel:iE P e k b=true)
  (hu:X.lookup u=some (.own id))(hl:o1.lookup id=some (.arr e xs))(hy:Src P w0 M0 ⟨n,X,o1⟩ y k ys)(hb:(xs.length+ys.length)*b≤140737488355328)(hm:xs.length+ys.length≤4611686018427387904)(hne:Nat.beq t id=false)
  (dv:∀t d,X.lookup t=some d→G.lookup t=some d)(J2:G.lookup t=some (.own t))
  (ho2:ins t (.arr e (xs++ys)) (ig id (iV (fun d=>d.stays true t&&d.stays true id) (ins id (.arr e (xs++ys)) (ib true id o1))))=o2)(hok:Vd (fun d=>d.stays true id&&(d.stays true t&&d.stays true id)) n t o2 G=true)(ae:∀b,M0 b→b<w0.w.heap.size) :
  ∃s',Step P w0 M0 o ⟨n,X,o1⟩ s'∧fm P w0 M0 s' ⟨n,rf G X o,o2⟩:=by
 have hnf:=mS (fun p=>p.2.stays true id) X hnd;have hnq:=J6 t (.own id) _ hnf;refine⟨_,step_append (s:=⟨n,X,o1⟩) ho hd hn hnd hT hel (by show X.lookup u=_;exact hu) hl ae hy hb hm,?_⟩;rw[wE hd J2];refine Qg.trans ((td (id:=id) t t ae hnq (by rw[r9,if_pos J]) (by show(ins id _ _).lookup id=_;rw[aC,if_pos J]) hne).trans ?_);refine wF (p:=fun d=>d.stays true id&&(d.stays true t&&d.stays true id)) hnd dv hok J ho2 fun x=>?_
 show(ins t (SV.own t) (((t,SV.own id) :: List.filter (fun p=>!(Nat.beq p.1 t)) (X.filter fun p=>p.2.stays true id)).filter fun p=>p.2.stays true t&&p.2.stays true id)).lookup x=_;rw[aC];by_cases q:x=t
 ·rw[if_pos q,if_pos q]
 ·rw[if_neg q,if_neg q,lI (fun d=>d.stays true t&&d.stays true id) _ x hnq,r9,if_neg q,lI (fun d=>d.stays true id) _ x hnd,lI (fun d=>d.stays true id&&(d.stays true t&&d.stays true id)) _ x hnd];cases X.lookup x with
  | none=>rfl
  | some d=>cases h1:d.stays true id<;>cases h2:d.stays true t<;>simp[Option.filter,h1,h2]
end
section
variable {P:Program} {w0:Fr}{M0:Nat→Prop}{s:St}{o:Oper}{id u j k:Nat}{e r T:TypeId}{cs:List Cell}{xs:List AV}{x y:Operand}{ln:Option (Nat×eh)}
end
section
variable {P:Program} {w0:Fr}{M0:Nat→Prop}{ops:Array Oper}
def wG (ops:Array Oper)(E:Nat→Nat)(m k:Nat):Bool:=Nat.ble k ops.size&&(List.range m).all fun q=>Nat.blt (E q) k&&(List.range q).all fun p=>(kS ops ops.size (E q)).contains (E p)&&!(Nat.beq (E p) (E q))
theorem GF {id:Nat}{n:Nat}(m:Nat)(E:Nat→Nat)(O:Nat→List (Nat×Ob))(k:Nat)(G:List (Nat×SV))(hm:P.follows .mixedOrders=true)(hok:l7 ops=true)(htl:fC ops k=true)(hmid:uv ops n k (zK E m)=true)(hc:wG ops E m k=true)
  (hG:∀t d,(G.filter fun p=>eI ops k #[] p.1).lookup t=some d→s0.lookup t=some d)(hnd:Nodup G=true)
  (hset:∀i t,i<k→(ops[i]?).bind (·.dst)=some t→∃d,G.lookup t=some d)
  (hP:∀p i o t d,p≤m→i<k→zK E m i=false→ops[i]?=some o→o.dst=some t→G.lookup t=some d→(∀q,q<p→(kS ops ops.size (E q)).contains i=false)→(p<m→(kS ops ops.size i).contains (E p)=false)→Pure P w0 M0 o (fx ops o (St.ev ⟨n,G,O p⟩)) (O p) d)
  (hE:∀p o X,p<m→ops[E p]?=some o→Nodup X=true→(∀t d,X.lookup t=some d→G.lookup t=some d)→(∀t,t∈looks ops o→X.lookup t=G.lookup t)→∃s',Step P w0 M0 o ⟨n,X,O p⟩ s'∧fm P w0 M0 s' ⟨n,rf G X o,O (p+1)⟩)
  (hend:rU P w0 M0 ops (fun s=>∃s',fm P w0 M0 s s'∧Q' .normal s') k ⟨n,G,O m⟩):aw P w0 M0 (.region id ops true) ⟨n,s0,O 0⟩ Q':=by
 unfold wG at hc;rw[aaZ,aa5] at hc;have h1:∀q,q<m→E q<k∧∀p,p<q→(kS ops ops.size (E q)).contains (E p)=true∧E p≠E q:=fun q hq=>by
  have:=hc.2 q (aba.2 hq);rw[aaZ,aa5] at this;refine⟨by simpa using this.1,fun p hp=>?_⟩;have h2:=this.2 p (aba.2 hp);rw[aaZ] at h2;exact⟨h2.1,fun e=>by rw[e,acC] at h2;exact absurd h2.2 adj⟩
 exact GD m E O k G hm hok htl hmid hc.1 (fun p hp=>(h1 p hp).1) (fun p q hpq hq=>((h1 q hq).2 p hpq).1) (fun p q hpq hq=>((h1 q hq).2 p hpq).2) hG hnd hset hP hE hend
theorem gp {X:List (Nat×SV)}{o:List (Nat×Ob)}{n t:Nat}{c:fX}{xs:List AV}(h:X.lookup t=some (.v c (.sl xs))):viewAt (⟨n,X,o⟩:St).ev (⟨n,X,o⟩:St).o (.tmp t)=some (c,.sl xs):=by simp only[viewAt,St.ev,h];rfl
end
section
variable {P:Program} {w0:Fr}{M0:Nat→Prop}
end
noncomputable def ku (ks:List Value)(rows:List (List AV))(key:Value):List AV:=match dU ks key with
 | some j=>rows.getD j []
 | none=>[]
noncomputable def wg (ks:List Value)(key:Value)(l:eh):Option (Nat×eh):=(dU ks key).map fun j=>(j,l)
noncomputable def te (ks:List Value)(rows:List (List AV))(key:Value)(xs:List AV):List (List AV):=match dU ks key with
 | some j=>rows.set j xs
 | none=>rows++[xs]
abbrev br (r:TypeId)(rows:List (List AV)):List Cell:=rows.map (Cell.row r)
variable{eb:TypeId}{bs:List SV}
section
variable {P:Program} {w0:Fr}{M0:Nat→Prop}{s:St}{o:Oper}{id t u:Nat}{e r T kt et:TypeId}{kd:TypeDesc}{ks:List Value}{rows:List (List AV)}{xs:List AV}{x y z:Operand}{E:Env}{a:Act}{w:World}{key:Value}
theorem ML {j:Nat}{c:Cell}(h:(br r rows)[j]?=some c):j<rows.length∧c=.row r (rows.getD j []):=by rw[aaI,aaH] at h;obtain⟨q,hq,rfl⟩:=h;refine⟨(aa0.1 hq).1,?_⟩;rw[aax,hq];rfl
theorem ba.Vz (h:ba P w0 M0 E s a w)(hnd:Nodup s.s=true)(ae:∀b,M0 b→b<w0.w.heap.size)(hl:s.o.lookup id=some (.mp [] [])) :
  ba P w0 M0 E (s.cK true id (.nmp [] [] none)) a w:=by
 obtain⟨es,clock,h1,h2,h3,h4,h5⟩:=h.wok.objs id _ hl;refine h.cK true (fun q=>by cases q) hnd ae (fun i hi=>⟨rfl,rfl⟩) (.inr J) none ⟨rfl,rfl,rfl,aaD _,fun _ _ _=>rfl⟩ (fun _=>aaD _) (fun g hg=>by cases hg) (fun b hb=>.inl ⟨_,hl,?_⟩) (fun rep sv=>?_)
 ·rcases hb with hb|⟨j,c,q1,_⟩
  ·exact hb
  ·simp at q1
 ·exact⟨es,clock,h1,h2,h3,rfl,fun j hj=>by simp at hj,⟨fun j c hc=>by simp at hc,fun i j ci cj b hi=>by simp at hi,(fun j u hu=>by cases hu),(fun j u hu=>by cases hu)⟩,fun b hb=>by obtain⟨j,c,q1,_⟩:=hb;simp at q1⟩
theorem MM (b j:Nat){bs':List SV}(ae:∀b,M0 b→b<w0.w.heap.size)(hnd:Nodup s.s=true)(hb0:s.o.lookup b=some (.box eb bs))(hj:bs[j]?=some (.omap id))(hl:s.o.lookup id=some (.mp [] []))
  (hb:(s.cK true id (.nmp [] [] none)).o.lookup b=some (.box eb bs'))(hbl:bs'.length=bs.length)
  (hnd':Nodup (s.cK true id (.nmp [] [] none)).s=true):fm P w0 M0 s ((s.cK true id (.nmp [] [] none)).cK false b (.box eb ((de b bs').set j (.nst id)))):=by
 rintro a w ⟨E,hs⟩;have h1:=hs.Vz hnd ae hl;have hbi:b≠id:=fun q=>by rw[q,hl] at hb0;cases hb0
 obtain⟨vals0,q1,q2,q3,q4⟩:=hs.wok.objs b _ hb0;have hv:vals0.getD j undef=.map (some (E.blk id)):=(q4 j _ hj).2.2 [] [] hl;refine⟨E,h1.cK false (fun _=>⟨rfl,.inr (.inl ⟨eb,bs',_,hb,rfl⟩)⟩) hnd' ae (fun i hi=>⟨rfl,rfl⟩) (.inr J) none ⟨rfl,rfl,rfl,aaD _,fun _ _ _=>rfl⟩ (fun _=>aaD _) (fun g hg=>by cases hg) (fun b' hb'=>.inl ⟨_,hb,hb'⟩) (fun rep sv=>?_)⟩;obtain⟨vals,g1,g2,g3,g4⟩:=h1.wok.objs b _ hb;have hvv:vals=vals0:=by
  rw[q1] at g1;simp only[aaB,Obj.cells.injEq] at g1;have:=g1.1;simpa using this.symm
 subst hvv;refine⟨vals,g1,g2,by simpa[de] using g3,fun i d hd=>?_⟩;by_cases hi:j=i
 ·subst hi;have hjl:j<bs'.length:=by rw[hbl];exact(aa0.1 hj).1
  rw[ab9 (by simpa[de] using hjl)] at hd;simp only[aaB] at hd;subst hd;have h0:=q4 j _ hj;refine⟨rfl,h0.2.1,fun e1 c1 l1 hh=>?_,fun k1 c1 l1 hh=>hv⟩;exfalso;rw[show(ins b (Ob.box eb ((de b bs').set j (.nst id))) (ib false b (s.cK true id (.nmp [] [] none)).o)).lookup id=some (LW false b (.nmp [] [] none)) from by
   rw[aC,if_neg (abN hbi),cC];show((ins id _ _).lookup id).map _=_;rw[aC,if_pos rfl];rfl] at hh
  cases hh
 ·rw[ace hi] at hd;simp only[de,aaI,aaH] at hd;obtain⟨d0,hd0,rfl⟩:=hd;have:=g4 i d0 hd0;split
  ·exact⟨this.1,this.2.1,sv _ _ this.2.2 ‹_›⟩
  ·exact⟨rfl,this.2.1,trivial⟩
theorem ba.VA (h:ba P w0 M0 E s a w)(hnd:Nodup s.s=true)(ae:∀b,M0 b→b<w0.w.heap.size)(hl:s.o.lookup id=some (.nmp ks (br r rows) none))(hu:u≠id){v:Value}
   (hv:match dU ks key with|some j=>v=E.sub id j|none=>v=.slice none 0 0) :
   ∃E':Env,E'.cur u=v∧ba P w0 M0 E' { n:=s.n,s:=s.s.filter (fun p=>p.2.stays true u),o:=ins u (.arr r (ku ks rows key)) (ins id (.nmp ks (br r rows) (wg ks key (.arr u))) (ib true u s.o)) } a w:=by
 obtain⟨es,clock,g1,g2,g3,g3',g3'',g4,g5⟩:=h.wok.objs id _ hl;have hkl:ks.length=rows.length:=by rw[g3'];simp
 obtain⟨E',e2,e1,e3,e4⟩:∃E':Env,E'.cur u=v∧(∀i,i≠u→E'.cur i=E.cur i)∧E'.blk=E.blk∧E'.sub=E.sub:=⟨{ E with cur:=fun i=>if i=u then v else E.cur i },if_pos rfl,fun i hi=>if_neg hi,rfl,rfl⟩;refine⟨E',e2,?_⟩;have hN:∀i q,(if i=u then some (some (Ob.arr r (ku ks rows key))) else if i=id then some (some (.nmp ks (br r rows) (wg ks key (.arr u)))) else none:Option (Option Ob))=some q→(i=u∧q=some (.arr r (ku ks rows key)))∨(i=id∧q=some (.nmp ks (br r rows) (wg ks key (.arr u)))):=fun i q hq=>by
   by_cases h1:i=u
   · rw[if_pos h1] at hq;injection hq with hq;exact .inl ⟨h1,hq.symm⟩
   · rw [if_neg h1] at hq
     by_cases h2:i=id
     · rw[if_pos h2] at hq;injection hq with hq;exact .inr ⟨h2,hq.symm⟩
     · rw[if_neg h2] at hq;cases hq
 have hsubs:∀f b,fY f b (br r rows) (wg ks key (.arr u))→fY f b (br r rows) none:=fun f b ⟨i,c,q1,q2,q3⟩=>⟨i,c,q1,by simp,q3⟩
 -- the part: at place j, or fresh and empty
 have hpart:(∃j,dU ks key=some j∧j<rows.length∧v=E.sub id j∧ku ks rows key=rows.getD j [])∨(dU ks key=none∧v=.slice none 0 0∧ku ks rows key=[]):=by
   unfold ku;cases hp:dU ks key with
   | none=>rw[hp] at hv;exact .inr ⟨rfl,hv,rfl⟩
   | some j =>
     rw[hp] at hv;refine .inl ⟨j,rfl,?_,hv,rfl⟩;have:=(aa0.1 (eX hp)).1;omega
 have hcj:∀j,j<rows.length→(br r rows)[j]?=some (.row r (rows.getD j [])):=fun j hj=>by
   rw[aaI,aaF hj,aax,aaF hj];rfl
 refine ba.xo (E':=E') (SV.stays true u) (fun i=>if i=u then some (some (.arr r (ku ks rows key))) else if i=id then some (some (.nmp ks (br r rows) (wg ks key (.arr u)))) else none) _ (fun i=>?_) (fun d=>rfl) (fun i ob hq hx=>?_) (fun i hq=>?_) h hnd ae (fun i hq=>?_) (fun x hx=>by rw[e3]) none ⟨rfl,rfl,rfl,aaD _,fun _ _ _=>rfl⟩ (fun _=>aaD _) (fun g hg=>by cases hg) (fun i ob b hq hb=>.inl ?_) (fun i ob i' ob' b hq hq' hb hb'=>?_) (fun rep sv lents i ob hq=>?_)
 · rw [aC]
   by_cases h1:i=u
   · rw[if_pos h1,if_pos h1]
   · rw [if_neg h1, if_neg h1, aC]
     by_cases h2:i=id
     · rw[if_pos h2,if_pos h2]
     · rw[if_neg h2,if_neg h2];exact cC true u i s.o
 · rcases hN i _ hq with ⟨rfl, _⟩ | ⟨rfl, q⟩
   · obtain ⟨d, h1, h2⟩ := hx
     rw[ic h1] at h2;cases h2
   · injection q with q; subst q
     exact⟨e1 i (abN hu),by rw[e3],.inr (.inr (.inr (.inr ⟨ks,_,none,ks,_,_,hl,rfl⟩)))⟩
 · rcases hN i _ hq with⟨_,q⟩|⟨_,q⟩<;>cases q
 · refine ⟨e1 i fun q => ?_, by rw [e3], by rw [e4]⟩
   rw[if_pos q] at hq;cases hq
 · refine ⟨id, _, by rw [if_neg (abN hu), if_pos J]; simp, hl, ?_⟩
   rcases hN i _ hq with⟨rfl,q⟩|⟨rfl,q⟩
   · injection q with q; subst q
     have hb:(E'.cur i).ownBlock=some b:=hb;rw[e2] at hb;rcases hpart with⟨j,p1,p2,p3,p4⟩|⟨p1,p2,p3⟩
     · rw [p3] at hb
       exact .inr ⟨j,_,hcj j p2,by simp,hb⟩
     · rw[p2] at hb;cases hb
   · injection q with q; subst q
     rcases hb with hb|hb
     · rw[e3] at hb;exact .inl hb
     · rw[e4] at hb;exact .inr (hsubs _ _ hb)
 · have key2 : ∀ b, v.ownBlock = some b → bG E' id b (.nmp ks (br r rows) (wg ks key (.arr u))) → False := fun b h1 h2 => by
     rcases hpart with⟨j,p1,p2,p3,p4⟩|⟨p1,p2,p3⟩
     · rw [p3] at h1
       rcases h2 with h2|⟨i2,c2,q1,q2,q3⟩
       · rw [e3] at h2
         exact g5 b ⟨j,_,hcj j p2,by simp,h1⟩ h2
       · rw [e4] at q3
         have:=g4.apart i2 j c2 _ b q1 (hcj j p2) (by simp) (by simp) q3 h1;subst this;exact q2 (by unfold wg;rw[p1];rfl)
     · rw[p2] at h1;cases h1
   rcases hN i _ hq with⟨rfl,q⟩|⟨rfl,q⟩
   · injection q with q; subst q
     rcases hN i' _ hq' with⟨rfl,q'⟩|⟨rfl,q'⟩
     · rfl
     · injection q' with q'; subst q'
       exact(key2 b (by rw[←e2];exact hb) hb').elim
   · injection q with q; subst q
     rcases hN i' _ hq' with⟨rfl,q'⟩|⟨rfl,q'⟩
     · injection q' with q'; subst q'
       exact(key2 b (by rw[←e2];exact hb') hb).elim
     · rfl
 · rcases hN i _ hq with ⟨rfl, q⟩ | ⟨rfl, q⟩
   · injection q with q; subst q
     rcases hpart with⟨j,p1,p2,p3,p4⟩|⟨p1,p2,p3⟩
     · have hr : sK P w0 M0 w E s.o r (ku ks rows key) (E.sub id j) := by rw [p4]; exact g4.ok j _ (hcj j p2) (by simp)
       obtain⟨vals',h1,h2,h3⟩:=hr;exact⟨vals',by rw[e2,p3];exact h1,h2,fun k d hd=>⟨(h3 k d hd).1,rep .pl _ _ (h3 k d hd).2 (by simp)⟩⟩
     · refine⟨[],⟨⟨by rw[p3];simp,.inl ⟨by rw[e2,p2],by rw[p3];rfl⟩⟩,(fun b hb=>by rw[e2,p2] at hb;cases hb)⟩,(fun x hx=>by rw[p3] at hx;cases hx),fun j d hd=>by rw[p3] at hd;simp[flat] at hd⟩
   · injection q with q; subst q
     refine⟨es,clock,by rw[e3];exact g1,by rw[e3];exact g2,g3,g3',by rw[e4];exact g3'',⟨fun k c hk hn=>by rw[e4];exact(g4.ok k c hk (by simp)).go (fun _ _=>rfl) (fun _ _ hf=>hf) (fun v d hr=>rep .pl v d hr (by simp)),fun i1 i2 c1 c2 b h1 h2 _ _ h5 h6=>by rw[e4] at h5 h6;exact g4.apart i1 i2 c1 c2 b h1 h2 (by simp) (by simp) h5 h6,fun k u' hk=>?_,fun k u' hk=>?_⟩,fun b hb=>by rw[e3];rw[e4] at hb;exact g5 b (hsubs _ _ hb)⟩
     · unfold wg at hk
       rw[aaH] at hk;obtain⟨j,hj,hk⟩:=hk;cases hk;rcases hpart with⟨j',p1,p2,p3,p4⟩|⟨p1,p2,p3⟩
       · rw [hj] at p1; cases p1
         rw[e4,e2,p3]
       · rw[hj] at p1;cases p1
     · unfold wg at hk
       rw[aaH] at hk;obtain⟨j,hj,hk⟩:=hk;cases hk
theorem GG (ho:o.op=.lookup T x y false)(hd:o.dst=some t)(hn:Nat.blt t s.n=true)(hne:Nat.beq t id=false)(hnd:Nodup s.s=true)(hT:P.underlying T=some (.map kt et))(hkd:P.underlying kt=some kd)(hz:(P.info? et).bind (·.zero)=some (.slice none 0 0))
   (hx:s.ev x=some (.nst id))(hl:s.o.lookup id=some (.nmp ks (br r rows) none))(hy:bg s.ev y=some key)(hk:IsKey kd key)(hks:∀u∈ks,IsKey kd u)(ae:∀b,M0 b→b<w0.w.heap.size) :
   Step P w0 M0 o s (({ n:=s.n,s:=s.s.filter (fun p=>p.2.stays true t),o:=ins t (.arr r (ku ks rows key)) (ins id (.nmp ks (br r rows) (wg ks key (.arr t))) (ib true t s.o)) }:St).put t (.own t)):=by
 rintro a w Q ⟨E,hs⟩;have hxv:a.eval x=.map (some (E.blk id)):=(hs.ev hx).2 ks _ none hl;have hyv:a.eval y=key:=bZ (ρ:=s.ev) (x:=y) (ob:=s.o) (ev:=a.eval) (fun x e hx=>hs.ev hx) hy;obtain⟨es,clock,g1,g2,g3,g3',g3'',g4,g5⟩:=hs.wok.objs id _ hl;have hes:∀u∈es.toList,IsKey kd u.key:=fun u hu=>hks _ (by rw[←g3];exact acR hu)
 have hf:=jS hk es.toList 0 hes;rw[g3] at hf;have htid:t≠id:=fun q=>by rw[q,acC] at hne;cases hne
 have hrun:∃v,(execOp a.eval o).run P w=.ok (.value v) w∧(match dU ks key with|some j=>v=E.sub id j|none=>v=.slice none 0 0):=by
   cases hi:P.info? et with
   | none=>rw[hi] at hz;cases hz
   | some it =>
     rw[hi] at hz;simp only[ach] at hz;cases hp:dU ks key with
     | none =>
       rw[hp] at hf;refine⟨.slice none 0 0,?_,rfl⟩;have:(Instr.lookup T (a.eval x) (a.eval y) false).run P w=.ok (.slice none 0 0) w:=by
         rw[hxv,hyv];simp[Instr.lookup,run_underlying hT,MapKept.run_getObj_map g1,run_checkKey hkd hk,run_findKey hkd hf,Result.andThen,zeroValue,typeInfo,hi,hz]
       simp[execOp,ho,this,Result.andThen]
     | some j =>
       rw[hp] at hf;have hj:j<(br r rows).length:=by rw[←g3'];exact(aa0.1 (eX hp)).1
       refine⟨E.sub id j,?_,rfl⟩;have:(Instr.lookup T (a.eval x) (a.eval y) false).run P w=.ok (E.sub id j) w:=by
         rw[hxv,hyv,←g3'' j hj];simp[Instr.lookup,run_underlying hT,MapKept.run_getObj_map g1,run_checkKey hkd hk,run_findKey hkd hf,Result.andThen]
       simp[execOp,ho,this,Result.andThen]
 obtain⟨v,hexec,hv⟩:=hrun;obtain⟨E',e2,hE⟩:=hs.VA (u:=t) hnd ae hl htid hv;unfold Oper.wp;rw[hexec];simp only[Oper.upon,hd];refine⟨E',ba.put hE (by simpa using hn) fun e' xs' _=>e2.symm⟩
theorem J7 (ho:o.op=.mapUpdate T x y z) (hd:o.dst=none) (hnd:Nodup s.s=true) (hT:P.underlying T=some (.map kt et)) (hkd:P.underlying kt=some kd)
   (hx:s.ev x=some (.nst id))(hl:s.o.lookup id=some (.nmp ks (br r rows) (wg ks key .no)))(hy:bg s.ev y=some key)(hz:s.ev z=some (.own u))(hlu:s.o.lookup u=some (.arr r xs))(hk:IsKey kd key)(hks:∀u∈ks,IsKey kd u)(ae:∀b,M0 b→b<w0.w.heap.size) :
   Step P w0 M0 o s { n:=s.n,s:=s.s.filter (fun p=>p.2.stays true u),o:=ins id (.nmp (fZ ks key) (br r (te ks rows key xs)) none) (ig u (ib true u s.o)) }:=by
 rintro a w Q ⟨E,hs⟩;have hxv:a.eval x=.map (some (E.blk id)):=(hs.ev hx).2 ks _ _ hl;have hyv:a.eval y=key:=bZ (ρ:=s.ev) (x:=y) (ob:=s.o) (ev:=a.eval) (fun x e hx=>hs.ev hx) hy;have hzv:a.eval z=E.cur u:=hs.ev hz r xs hlu;have hu:u≠id:=fun q=>by rw[q,hl] at hlu;cases hlu
 obtain⟨es,clock,g1,g2,g3,g3',g3'',g4,g5⟩:=hs.wok.objs id _ hl;have hkl:ks.length=rows.length:=by rw[g3'];simp
 have hes:∀u∈es.toList,IsKey kd u.key:=fun u hu=>hks _ (by rw[←g3];exact acR hu)
 have hf:=jS hk es.toList 0 hes;rw[g3] at hf;have hvl:(es.toList.map (·.val)).length=rows.length:=by rw[←hkl,←g3];simp
 have key3:∃(es':Array MapEntry)(clock' jn:Nat),(Instr.mapUpdate T (.map (some (E.blk id))) key (a.eval z)).run P w=.ok () (setBlock w (E.blk id) (.map es' clock'))∧es'.toList.map (·.key)=fZ ks key∧(fZ ks key).length=(te ks rows key xs).length ∧
     (∀i,i≠jn→(wg ks key eh.no).map (·.1)≠some i)∧(∀i,i<(te ks rows key xs).length→(i=jn∧(es'.toList.map (·.val)).getD i undef=E.cur u∧(te ks rows key xs).getD i []=xs)∨(i≠jn∧i<rows.length∧(wg ks key eh.no).map (·.1)≠some i∧(es'.toList.map (·.val)).getD i undef=E.sub id i∧(te ks rows key xs).getD i []=rows.getD i [])):=by
   unfold fZ te wg;cases hp:dU ks key with
   | none =>
     rw[hp] at hf;simp[Option.map] at hf;refine⟨es.push ⟨key,a.eval z,clock⟩,clock+1,rows.length,?_,by simp[g3],by simp[hkl],fun i hi=>by simp,fun i hi=>?_⟩
     · simp[Instr.mapUpdate,run_underlying hT,MapKept.run_getObj_map g1,run_checkKey hkd hk,run_findKey hkd hf,MapKept.run_setObj_map _ g1,Result.andThen,setBlock]
     · simp only [Array.toList_push, aaK, ac7]
       rw[aax,aax];rcases aa9 i rows.length with hj|hj
       · rw [aa8 adh, aa8 adh, ← aax, ← aax]
         exact .inr ⟨adh,hj,by simp,g3'' i (by simpa using hj),rfl⟩
       · have hi' : i = rows.length := by rw [aaM] at hi; simp at hi; omega
         subst hi';rw[aa6 adh,hvl,acM,aa6 (aaD _),acM];exact .inl ⟨rfl,by simpa using hzv,rfl⟩
   | some j =>
     rw[hp] at hf;simp[Option.map] at hf;have hki:=eX hp;have hjl:j<rows.length:=by rw[←hkl];exact(aa0.1 hki).1
     rw[←g3,aaI,aaH] at hki;obtain⟨e0,he0,hek⟩:=hki;rw[abi] at he0;have hkeys:(es.modify j fun e=>{ e with key:=key,val:=a.eval z }).toList.map (·.key)=ks:=by
       rw[modify_keys j _ (fun e he=>by rw[he0] at he;simp only[aaB] at he;subst he;exact hek.symm),g3]
     refine⟨es.modify j fun e=>{ e with key:=key,val:=a.eval z },clock,j,?_,hkeys,by simp[hkl],fun i hi=>by simpa using abN hi,fun i hi=>?_⟩
     · have hst := run_keyThatStays (P := P) (w := w) hk
       simp[Instr.mapUpdate,run_underlying hT,MapKept.run_getObj_map g1,run_checkKey hkd hk,run_findKey hkd hf,MapKept.run_setObj_map _ g1,Result.andThen,setBlock,he0,hek,hst]
     · rw [acn] at hi
       rw[aax,aaI,abi,Array.getElem?_modify,aax (l:=rows.set j xs),List.getElem?_set];by_cases hij:j=i
       · subst hij
         rw[if_pos rfl,he0,if_pos rfl,if_pos hjl];exact .inl ⟨rfl,by simpa using hzv,rfl⟩
       · rw [if_neg hij, if_neg hij, ← abi, ← aaI, ← aax, ← aax]
         exact .inr ⟨abN hij,hi,by simpa using hij,g3'' i (by simpa using hi),rfl⟩
 obtain⟨es',clock',jn,hrun,hkeys,hlen,hjn,hcell⟩:=key3;unfold Oper.wp;have hexec:(execOp a.eval o).run P w=.ok .skip (setBlock w (E.blk id) (.map es' clock')):=by
   simp[execOp,ho,hxv,hyv,hrun,Result.andThen]
 rw[hexec];simp only[Oper.upon,hd,Act.put];have hgrow:w.grownBy (setBlock w (E.blk id) (.map es' clock')) (some (E.blk id)):=⟨rfl,rfl,rfl,by simp[setBlock],fun i _ hi=>heap_setBlock_other g1 _ (fun e=>hi (by rw[e]))⟩;obtain⟨E',e1,e2,e3,e4⟩:∃E':Env,E'.cur=E.cur∧E'.blk=E.blk∧(∀i,E'.sub id i=(es'.toList.map (·.val)).getD i undef)∧(∀i,i≠id→E'.sub i=E.sub i) :=
   ⟨{ E with sub:=fun i=>if i=id then fun k=>(es'.toList.map (·.val)).getD k undef else E.sub i },rfl,rfl,fun i=>by simp,fun i hi=>if_neg hi⟩
 generalize hrows:te ks rows key xs=rows' at *;have hN:∀i q,(if i=u then some none else if i=id then some (some (Ob.nmp (fZ ks key) (br r rows') none)) else none:Option (Option Ob))=some q→(i=u∧q=none)∨(i=id∧q=some (.nmp (fZ ks key) (br r rows') none)):=fun i q hq=>by
   by_cases h1:i=u
   · rw[if_pos h1] at hq;injection hq with hq;exact .inl ⟨h1,hq.symm⟩
   · rw [if_neg h1] at hq
     by_cases h2:i=id
     · rw[if_pos h2] at hq;injection hq with hq;exact .inr ⟨h2,hq.symm⟩
     · rw[if_neg h2] at hq;cases hq
 -- the parts of the map behind it
 have part:∀(i:Nat) c,(br r rows')[i]?=some c→(i=jn∧E'.sub id i=E.cur u∧c=.row r xs)∨(i≠jn∧(wg ks key eh.no).map (·.1)≠some i∧E'.sub id i=E.sub id i∧(br r rows)[i]?=some c):=fun i c hc=>by
   obtain⟨h1,h2⟩:=ML hc;rcases hcell i h1 with⟨q1,q2,q3⟩|⟨q1,q2,q3,q4,q5⟩
   · exact .inl ⟨q1,by rw[e3];exact q2,by rw[h2,q3]⟩
   · refine .inr ⟨q1, q3, by rw [e3]; exact q4, ?_⟩
     rw[h2,q5,aaI,aaF q2,aax,aaF q2];rfl
 have hsub:∀b,fY (E'.sub id) b (br r rows') none→bG E u b (.arr r xs)∨fY (E.sub id) b (br r rows) (wg ks key .no):=fun b ⟨i,c,q1,_,q3⟩=>by
   rcases part i c q1 with⟨p1,p2,p3⟩|⟨p1,p2,p3,p4⟩
   · subst p3
     refine .inl ?_;show(E.cur u).ownBlock=some b;rw[←p2];exact q3
   · rw [p3] at q3
     exact .inr ⟨i,c,p4,p2,q3⟩
 have apart:∀b,bG E u b (.arr r xs)→bG E id b (.nmp ks (br r rows) (wg ks key .no))→False:=fun b q1 q2=>hu (hs.wok.disj u _ id _ b hlu hl q1 q2)
 refine⟨E',ba.xo (E':=E') (SV.stays true u) (fun i=>if i=u then some none else if i=id then some (some (.nmp (fZ ks key) (br r rows') none)) else none) _ (fun i=>?_) (fun d=>rfl) (fun i ob hq hx=>?_) (fun i hq=>⟨by rw[e1],by rw[e2]⟩) hs hnd ae (fun i hq=>⟨by rw[e1],by rw[e2],e4 i fun q=>?_⟩) (fun x hx=>by rw[e2]) (some (E.blk id)) hgrow (fun _=>aaD _) (fun g hg=>?_) (fun i ob b hq hb=>.inl ?_) (fun i ob i' ob' b hq hq' hb hb'=>?_) (fun rep sv lents i ob hq=>?_)⟩
 · rw [aC]
   by_cases h2:i=id
   · rw[if_pos h2,if_neg (fun q=>hu (q.symm.trans h2)),if_pos h2]
   · rw [if_neg h2, dj]
     by_cases h1:i=u
     · rw[if_pos h1,if_pos h1]
     · rw[if_neg h1,if_neg h1,if_neg h2];exact cC true u i s.o
 · rcases hN i _ hq with ⟨_, q⟩ | ⟨rfl, q⟩
   · cases q
   · injection q with q; subst q
     exact⟨by rw[e1],by rw[e2],.inr (.inr (.inr (.inr ⟨ks,_,_,_,_,_,hl,rfl⟩)))⟩
 · subst q
   rw[if_neg (abN hu),if_pos rfl] at hq;cases hq
 · injection hg with hg; subst hg
   exact⟨id,_,by rw[if_neg (abN hu),if_pos J];simp,hl,.inl J⟩
 · rcases hN i _ hq with ⟨_, q⟩ | ⟨rfl, q⟩
   · cases q
   · injection q with q; subst q
     rcases hb with hb|hb
     · rw [e2] at hb
       exact⟨i,_,by rw[if_neg (abN hu),if_pos J];simp,hl,.inl hb⟩
     · rcases hsub b hb with q1 | q1
       · exact⟨u,_,by rw[if_pos J];simp,hlu,q1⟩
       · exact⟨i,_,by rw[if_neg (abN hu),if_pos J];simp,hl,.inr q1⟩
 · rcases hN i _ hq with ⟨_, q⟩ | ⟨rfl, _⟩
   · cases q
   · rcases hN i' _ hq' with ⟨_, q⟩ | ⟨rfl, _⟩
     · cases q
     · rfl
 · rcases hN i _ hq with ⟨_, q⟩ | ⟨rfl, q⟩
   · cases q
   · injection q with q; subst q
     obtain⟨vals',h1,h2,h3⟩:=hs.wok.objs u _ hlu;have hub:∀b,(E.cur u).ownBlock=some b→b≠E.blk i:=fun b q e=>apart b q (.inl e.symm)
     refine⟨es',clock',by rw[e2];exact heap_setBlock_same g1 _,by rw[e2];exact g2,hkeys,by rw[hlen];simp,fun j hj=>(e3 j).symm,⟨fun k c hk' _=>?_,fun i1 i2 c1 c2 b q1 q2 _ _ q5 q6=>?_,(fun k u' hk=>by cases hk),(fun k u' hk=>by cases hk)⟩,fun b hb=>?_⟩
     · rcases part k c hk' with ⟨p1, p2, p3⟩ | ⟨p1, p2, p3, p4⟩
       · subst p3
         rw[p2];refine⟨vals',⟨h1.1.kept hgrow ?_,h1.2⟩,h2,fun k d hd=>⟨(h3 k d hd).1,rep .pl _ _ (h3 k d hd).2 (by simp)⟩⟩;cases hb:(E.cur u).ownBlock with
         | none=>exact .inl rfl
         | some b=>exact .inr fun q=>hub b hb (by injection q)
       · rw [p3]
         exact(g4.ok k c p4 p2).go (fun b hb=>hgrow.block b ((g4.ok k c p4 p2).range hb).2 fun q=>g5 b ⟨k,c,p4,p2,hb⟩ (by injection q with q;exact q.symm)) (fun _ _ hf=>hf) (fun v d hr=>rep .pl v d hr (by simp))
     · rcases part i1 c1 q1 with ⟨p1, p2, p3⟩ | ⟨p1, p2, p3, p4⟩
       · rcases part i2 c2 q2 with ⟨p5, p6, p7⟩ | ⟨p5, p6, p7, p8⟩
         · rw[p1,p5]
         · subst p3
           rw[p2] at q5;rw[p7] at q6;exact(apart b q5 (.inr ⟨i2,c2,p8,p6,q6⟩)).elim
       · rcases part i2 c2 q2 with ⟨p5, p6, p7⟩ | ⟨p5, p6, p7, p8⟩
         · subst p7
           rw[p6] at q6;rw[p3] at q5;exact(apart b q6 (.inr ⟨i1,c1,p4,p2,q5⟩)).elim
         · rw [p3] at q5; rw [p7] at q6
           exact g4.apart i1 i2 c1 c2 b p4 p8 p2 p6 q5 q6
     · rw [e2]
       rcases hsub b hb with q1|q1
       · exact fun q=>apart b q1 (.inl q)
       · exact g5 b q1
end
section
variable {P:Program} {w0:Fr}{M0:Nat→Prop}{G X:List (Nat×SV)}{o1 o2:List (Nat×Ob)}{n t:Nat}{o:Oper}
theorem D7 {cx:Operand}{xs:Array Operand}{ats:Array TypeId}{f:FuncId}{dc:SV}{caps svs args:List SV}{r:SV}{oc oc':List (Nat×Ob)}(ρ:List (Nat×Nat))(ho:o.op=.call { callee:=.value cx,args:=xs,argTypes:=ats })(hd:o.dst=some t)(hn:Nat.blt t n=true)(hnd:Nodup X=true)
  (hc:(⟨n,X,o1⟩:St).ev cx=some dc)(hcc:nF dc=some (f,caps))(ha:PL ⟨n,X,o1⟩ xs.toList=some svs)(h:lB P f args oc r oc')(hargs:lu ⟨n,X,o1⟩ ρ (cY ρ oc) (svs++caps) args)(hob:oA ⟨n,X,o1⟩ ρ oc)(hinj:ju (cY ρ oc)=true)(hsame:oc.map (fun p=>(p.1,p.2.kind))=oc'.map (fun p=>(p.1,p.2.kind)))
  (hbig:oc.all (fun p=>Nat.beq p.2.kind 0||Nat.ble 1000000 p.1)=true)(hpl:oc'.all (fun p=>p.2.plain (oc'.map (·.1)))=true)(hr:r.plain (oc'.map (·.1))=true)
  (dv:∀t d,X.lookup t=some d→G.lookup t=some d)(J2:G.lookup t=some (r.kh ρ))
  (ho2:(o1.map fun p=>(p.1,((zG ρ oc').lookup p.1).getD (p.2.after (cY ρ oc'))))=o2)(hok:Vd (fun d=>d.safe (cY ρ oc')) n t o2 G=true)(ae:∀b,M0 b→b<w0.w.heap.size) :
  ∃s',Step P w0 M0 o ⟨n,X,o1⟩ s'∧fm P w0 M0 s' ⟨n,rf G X o,o2⟩:=by
 refine⟨_,aR (s:=⟨n,X,o1⟩) ρ ho hd hn hnd hc hcc ha h hargs hob hinj hsame hbig hpl hr ae,?_⟩;rw[wE hd J2];exact wF (p:=fun d=>d.safe (cY ρ oc')) hnd dv hok J ho2 fun x=>aC t x _ _
variable {T kt et r:TypeId}{kd:TypeDesc}{ks:List Value}{rows:List (List AV)}{key:Value}{x y z:Operand}{id u:Nat}{xs:List AV}
theorem D8 (ho:o.op=.lookup T x y false)(hd:o.dst=some t)(hn:Nat.blt t n=true)(hne:Nat.beq t id=false)(hnd:Nodup X=true)(hT:P.underlying T=some (.map kt et))(hkd:P.underlying kt=some kd)(hz:(P.info? et).bind (·.zero)=some (.slice none 0 0))
  (hx:(⟨n,X,o1⟩:St).ev x=some (.nst id))(hl:o1.lookup id=some (.nmp ks (br r rows) none))(hy:bg (⟨n,X,o1⟩:St).ev y=some key)(hk:IsKey kd key)(hks:∀u∈ks,IsKey kd u)
  (dv:∀t d,X.lookup t=some d→G.lookup t=some d)(J2:G.lookup t=some (.own t))
  (ho2:ins t (.arr r (ku ks rows key)) (ins id (.nmp ks (br r rows) (wg ks key (.arr t))) (ib true t o1))=o2)(hok:Vd (fun d=>d.stays true t) n t o2 G=true)(ae:∀b,M0 b→b<w0.w.heap.size) :
  ∃s',Step P w0 M0 o ⟨n,X,o1⟩ s'∧fm P w0 M0 s' ⟨n,rf G X o,o2⟩:=by
 refine⟨_,GG (s:=⟨n,X,o1⟩) ho hd hn hne hnd hT hkd hz hx hl hy hk hks ae,?_⟩;rw[wE hd J2];exact wF (p:=fun d=>d.stays true t) hnd dv hok J ho2 fun x=>aC t x _ _
theorem oI {ρ:Operand→Option SV}{ob:List (Nat×Ob)}{i:Nat}{caps:List qw}{d:AV}(ho:o.op=.extract x i)(hx:ρ x=some (.hid Qa caps))(hc:caps[i]?=some (.pl d)):Pure P w0 M0 o ρ ob (.v .pl d):=Ay ho hx hc
theorem xO {ρ:Operand→Option SV}{ob:List (Nat×Ob)}{i:Nat}{caps:List qw}(ho:o.op=.extract x i)(hx:ρ x=some (.hid Qa caps))(hc:caps[i]?=some (.ow id)):Pure P w0 M0 o ρ ob (.own id):=Ay ho hx hc
theorem MN {p:SV→Bool}{s:St}(hnd:Nodup X=true)(dv:∀t d,X.lookup t=some d→G.lookup t=some d)(hok:(G.all fun q=>p q.2||(Nat.blt q.1 n&&q.2.gone o2))=true)(hn:s.n=n)(ho:s.o=o2)
  (hs:∀u,s.s.lookup u=(X.filter fun q=>p q.2).lookup u):fm P w0 M0 s ⟨n,X,o2⟩:=by
 refine D6 hn.symm ho.symm fun u d hu=>?_
 rw[hs u];have h:=aa5.1 hok _ (dJ (dv u d hu));simp only[abC,aaZ] at h;rcases h with h|⟨h1,h2⟩
 ·exact .inl (iH p X u d hnd hu h)
 ·exact .inr ⟨by rw[hn];simpa using h1,by rw[ho];exact h2⟩
theorem GH (ho:o.op=.mapUpdate T x y z)(hd:o.dst=none)(hnd:Nodup X=true)(hT:P.underlying T=some (.map kt et))(hkd:P.underlying kt=some kd)
  (hx:(⟨n,X,o1⟩:St).ev x=some (.nst id))(hl:o1.lookup id=some (.nmp ks (br r rows) (wg ks key .no)))(hy:bg (⟨n,X,o1⟩:St).ev y=some key)(hz:(⟨n,X,o1⟩:St).ev z=some (.own u))(hlu:o1.lookup u=some (.arr r xs))(hk:IsKey kd key)(hks:∀u∈ks,IsKey kd u)
  (dv:∀t d,X.lookup t=some d→G.lookup t=some d)
  (ho2:ins id (.nmp (fZ ks key) (br r (te ks rows key xs)) none) (ig u (ib true u o1))=o2)(hok:(G.all fun q=>q.2.stays true u||(Nat.blt q.1 n&&q.2.gone o2))=true)(ae:∀b,M0 b→b<w0.w.heap.size) :
  ∃s',Step P w0 M0 o ⟨n,X,o1⟩ s'∧fm P w0 M0 s' ⟨n,rf G X o,o2⟩:=by
 refine⟨_,J7 (s:=⟨n,X,o1⟩) ho hd hnd hT hkd hx hl hy hz hlu hk hks ae,?_⟩;rw[AA hd];exact MN (p:=fun d=>d.stays true u) hnd dv hok J ho2 fun x=>rfl
end
variable{q:IntKind}
section
variable {P:Program} {w0:Fr}{M0:Nat→Prop}{s:St}{o:Oper}{id t u k b:Nat}{e r T:TypeId}{ks:List Value}{cs:List Cell}{xs:List AV}{x y:Operand}{E:Env}{a:Act}{w:World}
theorem GI {n:Int}{q':IntKind}(ho:o.op=.makeSlice T x y)(hd:o.dst=some t)(hn:Nat.blt t s.n=true)(hnd:Nodup s.s=true)(hT:P.underlying T=some (.slice e))(hel:iE P e k b=true)
  (hx:bg s.ev x=some (.int q 0))(hy:bg s.ev y=some (.int q' n))(h0:0≤n)(hb:b*n.toNat≤281474976710656)(hm:n≤4611686018427387904)(ae:∀b,M0 b→b<w0.w.heap.size):Step P w0 M0 o s ((s.cK true t (.arr e [])).put t (.own t)):=by
 rintro a w Q ⟨E,hs⟩;obtain⟨i,zz,hi,hzz,hsz,hby,hzs,hk0,hck⟩:=gK hel;have hx':a.eval x=.int q 0:=bZ (ρ:=s.ev) (x:=x) (ob:=s.o) (ev:=a.eval) (fun x e hx=>hs.ev hx) hx;have hy':a.eval y=.int q' n:=bZ (ρ:=s.ev) (x:=y) (ob:=s.o) (ev:=a.eval) (fun x e hx=>hs.ev hx) hy;obtain⟨w',hrun,hown,hg⟩:=run_make_own (P:=P) w 0 T e i zz k hT hi hzz hsz q q' n.toNat (by rw[hby];exact hb) (by simp only[maxLen];omega) (aaG _);rw[Int.toNat_of_nonneg h0] at hrun;unfold Oper.wp;have hexec:(execOp a.eval o).run P w=.ok (.value (.slice (some ⟨w.heap.size,0,none⟩) 0 n.toNat)) w':=by
  simp only[execOp,ho,hx',hy',Sem.run_bind,hrun,Result.andThen_ok,Sem.run_pure]
 rw[hexec];simp only[Oper.upon,hd];refine⟨{ E with cur:=fun i=>if i=t then .slice (some ⟨w.heap.size,0,none⟩) 0 n.toNat else E.cur i },ba.put ?_ (by simpa[St.cK] using hn) fp⟩;refine hs.ov hnd ae hg (fun _=>lP _ _ _ _ hrun) (vals:=[]) (by rw[hck];exact hown) (fun b hb=>?_) (fun v hv=>by cases hv) (fun j d hd=>by simp[flat] at hd);simp only[Value.ownBlock,aaB] at hb;omega
theorem ba.MO (h:ba P w0 M0 E s a w)(hnd:Nodup s.s=true)(ae:∀b,M0 b→b<w0.w.heap.size)(hl:s.o.lookup id=some (.nmp ks cs none)):ba P w0 M0 E (s.cK true id (.mp ks (cs.map Cell.av))) a w:=by
 obtain⟨es,clock,g1,g2,g3,g3',g3'',g4,g5⟩:=h.wok.objs id _ hl;refine h.cK true (fun q=>by cases q) hnd ae (fun i hi=>⟨rfl,rfl⟩) (.inr J) none ⟨rfl,rfl,rfl,aaD _,fun _ _ _=>rfl⟩ (fun _=>aaD _) (fun g hg=>by cases hg) (fun b hb=>.inl ⟨_,hl,.inl hb⟩) (fun rep sv=>?_);refine⟨es,clock,g1,g2,g3,by rw[aaA];exact g3',fun j d hd=>?_⟩;rw[aaI,aaH] at hd;obtain⟨c,hc,rfl⟩:=hd;have hj:j<cs.length:=(aa0.1 hc).1;rw[g3'' j hj];refine(g4.ok j c hc (by simp)).rep (fun v d hr=>rep .pl v d hr (by simp)) fun g hg hm=>?_
 have hsub:fY (E.sub id) g cs none:=⟨j,c,hc,by simp,hg⟩;rcases hm with hm|⟨i,ob,q1,q2⟩
 ·exact(g4.range hsub).1.2 hm
 ·by_cases hi:i=id
  ·subst hi;rw[aC,if_pos rfl] at q1;simp only[aaB] at q1;subst q1;exact g5 g hsub q2
  ·rw[aC,if_neg hi,cC,aaH] at q1;obtain⟨ob0,q3,rfl⟩:=q1;exact hi (h.wok.disj i ob0 id _ g q3 hl (iD.1 q2) (.inr hsub))
theorem GJ (b j:Nat){bs':List SV}(ae:∀b,M0 b→b<w0.w.heap.size)(hnd:Nodup s.s=true)(hb0:s.o.lookup b=some (.box eb bs))(hj:bs[j]?=some (.nst id))(hl:s.o.lookup id=some (.nmp ks cs none))
  (hb:(s.cK true id (.mp ks (cs.map Cell.av))).o.lookup b=some (.box eb bs'))(hbl:bs'.length=bs.length)
  (hnd':Nodup (s.cK true id (.mp ks (cs.map Cell.av))).s=true):fm P w0 M0 s ((s.cK true id (.mp ks (cs.map Cell.av))).cK false b (.box eb ((de b bs').set j (.omap id)))):=by
 rintro a w ⟨E,hs⟩;have h1:=hs.MO hnd ae hl;have hbi:b≠id:=fun q=>by rw[q,hl] at hb0;cases hb0
 obtain⟨vals0,q1,q2,q3,q4⟩:=hs.wok.objs b _ hb0;have hv:vals0.getD j undef=.map (some (E.blk id)):=(q4 j _ hj).2.2.2 ks cs none hl;refine⟨E,h1.cK false (fun _=>⟨rfl,.inr (.inl ⟨eb,bs',_,hb,rfl⟩)⟩) hnd' ae (fun i hi=>⟨rfl,rfl⟩) (.inr J) none ⟨rfl,rfl,rfl,aaD _,fun _ _ _=>rfl⟩ (fun _=>aaD _) (fun g hg=>by cases hg) (fun b' hb'=>.inl ⟨_,hb,hb'⟩) (fun rep sv=>?_)⟩;obtain⟨vals,g1,g2,g3,g4⟩:=h1.wok.objs b _ hb;have hvv:vals=vals0:=by
  rw[q1] at g1;simp only[aaB,Obj.cells.injEq] at g1;have:=g1.1;simpa using this.symm
 subst hvv;refine⟨vals,g1,g2,by simpa[de] using g3,fun i d hd=>?_⟩;by_cases hi:j=i
 ·subst hi;have hjl:j<bs'.length:=by rw[hbl];exact(aa0.1 hj).1
  rw[ab9 (by simpa[de] using hjl)] at hd;simp only[aaB] at hd;subst hd;exact⟨rfl,(q4 j _ hj).2.1,fun e1 c1 hh=>hv⟩
 ·rw[ace hi] at hd;simp only[de,aaI,aaH] at hd;obtain⟨d0,hd0,rfl⟩:=hd;have:=g4 i d0 hd0;split
  ·exact⟨this.1,this.2.1,sv _ _ this.2.2 ‹_›⟩
  ·exact⟨rfl,this.2.1,trivial⟩
end
section
variable {P:Program} {w w':World}
theorem xP {f n t:Nat}{c:Code}(hf:H5 P f n t c){ds:List AV}{r:RV}(hn:ds.length≤n)
   (h:∀(w0:Fr)(M0:Nat→Prop),(∀b,M0 b→b<w0.w.heap.size)→w0.md=.marks→aw P w0 M0 c (St.enter n .pl ds) (zB t r)):aV P f ds r:=by
 refine⟨hf.bu,fun w M vs hM hv hr=>?_⟩;have h0:=h (Fr.allM True w) M hM rfl;rw[e7] at h0;obtain⟨fn,h1,h2,h3,h4,h5⟩:=hf;refine pM h1 h2 h3 (R:=fun v w'=>Below w.heap.size w w'∧iN P w' M (fun b=>b<w.heap.size) v r) (by simpa using hn) vs (by simpa using hv) (fun j d hd=>?_) h0 (fun e s' a' w' E' hq hs=>?_)
 · rw [aaI, aaH] at hd
   obtain⟨a,ha,rfl⟩:=hd;have:=hr j a ha;simp only[bm,ew];exact this.cm (fun b hb=>Or.elim hb id (fun h=>False.elim h))
 · have fin : (s'.s.lookup t).bind (bT s'.o) = some r → ∀ w4, iO w.heap.size w' w4 → ∃ v, (results fn a'.tmps).run P w4 = .ok v w4 ∧ Below w.heap.size w w4 ∧ iN P w4 M (fun b => b < w.heap.size) v r := fun hx w4 hd => by
     refine⟨a'.tmps.getD t undef,by simp[results,h4],bD.trans hs.wok.below.below hd.grown,hd.ret ?_⟩;cases hl:s'.s.lookup t with
     | none=>rw[hl] at hx;cases hx
     | some sv =>
       rw[hl] at hx;exact ei hs.wok (hs.slots t sv hl).2 hx
   cases e with
   | normal=>exact⟨.inl rfl,fin hq⟩
   | ret=>exact⟨.inr rfl,fin hq⟩
   | exit _=>exact hq.elim
   | goto _=>exact hq.elim
   | panic _=>exact hq.elim
   | outgrown=>exact hq.elim
theorem wh {f n t u v:Nat}{c:Code}(hf:R4 P f n t u v c){ds:List AV}{r r' r'':AV}(hn:ds.length≤n)
   (h:∀(w0:Fr)(M0:Nat→Prop),(∀b,M0 b→b<w0.w.heap.size)→w0.md=.marks→aw P w0 M0 c (St.enter n .pl ds) (Mj t u v r r' r'')):aV P f ds (.p (.tup [r,r',r''])):=by
 refine⟨hf.bu,fun w M vs hM hv hr=>?_⟩;have h0:=h (Fr.allM True w) M hM rfl;rw[e7] at h0;obtain⟨fn,h1,h2,h3,h4,h5⟩:=hf;refine pM h1 h2 h3 (R:=fun v w'=>Below w.heap.size w w'∧iN P w' M (fun b=>b<w.heap.size) v (.p (.tup [r,r',r'']))) (by simpa using hn) vs (by simpa using hv) (fun j d hd=>?_) h0 (fun e s' a' w' E' hq hs=>?_)
 · rw [aaI, aaH] at hd
   obtain⟨a,ha,rfl⟩:=hd;have:=hr j a ha;simp only[bm,ew];exact this.cm (fun b hb=>Or.elim hb id (fun h=>False.elim h))
 · have fin : ((∃ q, (s'.s.lookup t).bind (bT s'.o) = some q ∧ q.data = r) ∧ (∃ q, (s'.s.lookup u).bind (bT s'.o) = some q ∧ q.data = r') ∧ (∃ q, (s'.s.lookup v).bind (bT s'.o) = some q ∧ q.data = r'')) →
       ∀w4,iO w.heap.size w' w4→∃v,(results fn a'.tmps).run P w4=.ok v w4∧Below w.heap.size w w4∧iN P w4 M (fun b=>b<w.heap.size) v (.p (.tup [r,r',r''])):=by
     rintro⟨⟨q1,hq1,hd1⟩,⟨q2,hq2,hd2⟩,⟨q3,hq3,hd3⟩⟩ w4 hdt;have one:∀x q,(s'.s.lookup x).bind (bT s'.o)=some q→bL w4 M (a'.tmps.getD x undef) q.data:=by
       intro x q hx;cases hl:s'.s.lookup x with
       | none=>rw[hl] at hx;cases hx
       | some sv =>
         rw[hl] at hx;exact hdt.rep ((ei hs.wok (hs.slots x sv hl).2 hx).rep hM)
     have r1:=one t q1 hq1;have r2:=one u q2 hq2;have r3:=one v q3 hq3;rw[hd1] at r1;rw[hd2] at r2;rw[hd3] at r3;refine⟨.tuple #[a'.tmps.getD t undef,a'.tmps.getD u undef,a'.tmps.getD v undef],by simp[results,h4],bD.trans hs.wok.below.below hdt.grown,.tup [a'.tmps.getD t undef,a'.tmps.getD u undef,a'.tmps.getD v undef] [r,r',r''] J (fun j d hd=>by
       match j,hd with
       | 0,hd=>simp at hd;subst hd;exact r1
       | 1,hd=>simp at hd;subst hd;exact r2
       | 2,hd=>simp at hd;subst hd;exact r3
       | j+3,hd=>simp at hd)⟩
   cases e with
   | normal=>exact⟨.inl rfl,fin hq⟩
   | ret=>exact⟨.inr rfl,fin hq⟩
   | exit _=>exact hq.elim
   | goto _=>exact hq.elim
   | panic _=>exact hq.elim
   | outgrown=>exact hq.elim
end
def VB (st:SV→Bool):eh→eh
 | .arr u=>if st (.own u) then .arr u else .no
 | .map u=>if st (.omap u) then .map u else .no
 | .no=>.no
theorem AB {st:SV→Bool}{ks:List Value}{key:Value}{l:eh}:sS st (wg ks key l)=wg ks key (VB st l):=by
 unfold wg;cases dU ks key with
 | none=>rfl
 | some j=>cases l<;>rfl
section
variable {P:Program} {w0:Fr}{M0:Nat→Prop}{s:St}{id:Nat}{e:TypeId}{xs:List AV}
theorem ik (b j:Nat)   (ae:∀ b,M0 b→b<w0.w.heap.size) (hnd:Nodup s.s=true) (hb:s.o.lookup b=some (.box eb bs)) (hj:bs[j]?=some (.own id)) (hl:s.o.lookup id=some (.arr e xs)) :
   fm P w0 M0 s { n:=s.n,s:=s.s.filter (fun p=>p.2.stays true id),o:=ins b (.box eb ((bs.map fun d=>if d.stays true id then d else .dead).set j (.v .pl (.sl xs)))) (ig id (ib true id s.o)) }:=by
 rintro a w ⟨E,hs⟩;have hbi:b≠id:=fun q=>by rw[q,hl] at hb;cases hb
 obtain⟨vals,g1,g2,g3,g4⟩:=hs.wok.objs b _ hb;have hv:vals.getD j undef=E.cur id:=(g4 j _ hj).2.2 e xs hl;have hN:∀i q,(if i=id then some none else if i=b then some (some (Ob.box eb ((bs.map fun d=>if d.stays true id then d else .dead).set j (.v .pl (.sl xs))))) else none:Option (Option Ob))=some q→(i=id∧q=none)∨(i=b∧q=some (.box eb ((bs.map fun d=>if d.stays true id then d else .dead).set j (.v .pl (.sl xs))))):=fun i q hq=>by
   by_cases h1:i=id
   · rw[if_pos h1] at hq;injection hq with hq;exact .inl ⟨h1,hq.symm⟩
   · rw [if_neg h1] at hq
     by_cases h2:i=b
     · rw[if_pos h2] at hq;injection hq with hq;exact .inr ⟨h2,hq.symm⟩
     · rw[if_neg h2] at hq;cases hq
 refine⟨E,ba.xo (E':=E) (SV.stays true id) (fun i=>if i=id then some none else if i=b then some (some (.box eb ((bs.map fun d=>if d.stays true id then d else .dead).set j (.v .pl (.sl xs))))) else none) _ (fun i=>?_) (fun d=>rfl) (fun i ob hq hx=>?_) (fun i hq=>⟨rfl,rfl⟩) hs hnd ae (fun i hq=>⟨rfl,rfl,rfl⟩) (fun x hx=>rfl) none ⟨rfl,rfl,rfl,aaD _,fun _ _ _=>rfl⟩ (fun _=>aaD _) (fun g hg=>by cases hg) (fun i ob b' hq hb'=>.inl ?_) (fun i ob i' ob' b' hq hq' hb1 hb2=>?_) (fun rep sv lents i ob hq=>?_)⟩
 · rw [aC]
   by_cases h2:i=b
   · rw[if_pos h2,if_neg (fun q=>hbi (h2.symm.trans q)),if_pos h2]
   · rw [if_neg h2, dj]
     by_cases h1:i=id
     · rw[if_pos h1,if_pos h1]
     · rw[if_neg h1,if_neg h1,if_neg h2];exact cC true id i s.o
 · rcases hN i _ hq with ⟨_, q⟩ | ⟨rfl, q⟩
   · cases q
   · injection q with q; subst q
     exact⟨rfl,rfl,.inr (.inl ⟨eb,bs,_,hb,rfl⟩)⟩
 · rcases hN i _ hq with ⟨_, q⟩ | ⟨rfl, q⟩
   · cases q
   · injection q with q; subst q
     exact⟨i,_,by rw[if_neg hbi,if_pos J];simp,hb,hb'⟩
 · rcases hN i _ hq with ⟨_, q⟩ | ⟨rfl, _⟩
   · cases q
   · rcases hN i' _ hq' with ⟨_, q⟩ | ⟨rfl, _⟩
     · cases q
     · rfl
 · rcases hN i _ hq with ⟨_, q⟩ | ⟨rfl, q⟩
   · cases q
   · injection q with q; subst q
     refine⟨vals,g1,g2,by simpa using g3,fun k d hd=>?_⟩;by_cases hk:j=k
     · subst hk
       have hjl:j<bs.length:=(aa0.1 hj).1;rw[ab9 (by simpa using hjl)] at hd;simp only[aaB] at hd;subst hd;refine⟨rfl,(g4 j _ hj).2.1,?_⟩;rw[hv];refine(hs.wok.objs id _ hl).rep (fun b' hb'=>?_) fun g hg hm=>?_
       · rcases hb' with hb' | ⟨i2, ob, q1, q2⟩
         · exact .inl hb'
         · rw [aC] at q1
           by_cases h2:i2=i
           · rw [if_pos h2] at q1
             simp only[aaB] at q1;subst q1;subst h2;exact .inr ⟨_,_,hb,q2⟩
           · rw [if_neg h2, dj] at q1
             by_cases h1:i2=id
             · rw[if_pos h1] at q1;cases q1
             · rw [if_neg h1, cC, aaH] at q1
               obtain⟨ob0,q3,rfl⟩:=q1;exact .inr ⟨i2,ob0,q3,iD.1 q2⟩
       · have hown : bG E id g (.arr e xs) := hg
         rcases hm with hm|⟨i2,ob,q1,q2⟩
         · exact((hs.wok.objs id _ hl).dG hown).1.2 hm
         · rw [aC] at q1
           by_cases h2:i2=i
           · rw [if_pos h2] at q1
             simp only[aaB] at q1;subst q1;subst h2;exact hbi (hs.wok.disj _ _ id _ g hb hl q2 hown)
           · rw [if_neg h2, dj] at q1
             by_cases h1:i2=id
             · rw[if_pos h1] at q1;cases q1
             · rw [if_neg h1, cC, aaH] at q1
               obtain⟨ob0,q3,rfl⟩:=q1;exact h1 (hs.wok.disj i2 ob0 id _ g q3 hl (iD.1 q2) hown)
     · rw [ace hk] at hd
       rw[aaI,aaH] at hd;obtain⟨d0,hd0,rfl⟩:=hd;have:=g4 k d0 hd0;split
       · exact⟨this.1,this.2.1,sv _ _ this.2.2 ‹_›⟩
       · exact⟨rfl,this.2.1,trivial⟩
end
section
variable {P:Program} {w0:Fr}{M0:Nat→Prop}
variable {o:Oper} {ρ:Operand→Option SV}{ob:List (Nat×Ob)}{x y z:Operand}{T T' e:TypeId}{k b:Nat}{c:fX}{id off:Nat}{s:St}{t:Nat}{ks:List Value}{vs:List AV}{kt et:TypeId}{kd:TypeDesc}{cs:List SV}
theorem Cc {f:FuncId}{caps:List qw}(hy:s.ev y=some (.fn f caps)):∀(E:Env)(a:Act)(w:World),ba P w0 M0 E s a w→(a.eval y).oneCell'=true:=fun E a w hs=>by obtain⟨vs,h,_⟩:=hs.ev hy;rw[h];rfl
theorem fb {d1:SV}(ho:o.op=.store T x y)(hd:o.dst=none)(hnd:Nodup s.s=true)(hk:bX P T=some 1)(hx:s.ev x=some (.pbox id off))(hl:s.o.lookup id=some (.box e cs))(hy:s.ev y=some d1)(hlf:d1.leaf=true)(hst:d1.stays false id=true)
  (hone:∀(E:Env)(a:Act)(w:World),ba P w0 M0 E s a w→(a.eval y).oneCell'=true)(hle:Nat.ble (off+1) cs.length=true)(ae:∀b,M0 b→b<w0.w.heap.size):Step P w0 M0 o s (s.cK false id (.box e (ry (de id cs) off [d1]))):=by
 rintro a w Q ⟨E,hs⟩;have hle':=aaz hle;have hxv:=hs.ev hx e cs hl;have hyv:=hs.ev hy;have h1c:=hone E a w hs;generalize hu:a.eval y=u at hyv h1c;have hcells:u.cells=#[u]:=by cases u<;>simp_all [Value.cells,Value.oneCell']
 obtain⟨vals,h1,h2,h3,h4⟩:=hs.wok.objs id _ hl;have hrun:=lG (P:=P) (w:=w) (v:=u) (p:=off) hk (by rw[hcells];rfl) h1 (by simp;omega) (by rw[hcells];simpa using h1c);unfold Oper.wp;have hexec:(execOp a.eval o).run P w=.ok .skip (w.setRow (E.blk id) (ry vals off [u]).toArray):=by
  rw[hcells] at hrun;simp[execOp,ho,hxv,hu,Instr.storeAt,Instr.sureAddr,hrun]
 rw[hexec];simp only[Oper.upon,hd,Act.put];have hspl:off+[u].length≤vals.length:=by simp;omega
 refine⟨E,hs.cK false (fun _=>⟨rfl,.inr (.inl ⟨e,cs,_,hl,rfl⟩)⟩) hnd ae (fun i hi=>⟨rfl,rfl⟩) (.inr J) (some (E.blk id)) jR (fun _=>aaD _) (fun g hg=>⟨_,hl,by simpa[bG] using hg⟩) (fun b hb=>.inl ⟨_,hl,hb⟩) (fun rep sv=>?_)⟩;refine⟨_,setRow_heap w _ _ _ e _ h1,h2,?_,fun j' d hj'=>?_⟩
 ·rw[dI hspl,dI (by simp[de];omega)];simp[de,h3]
 ·rw[fD (by simp[de];omega)] at hj';rw[aax,fD hspl];simp only[abD] at hj' ⊢;split at hj'
  ·rename_i hin;rw[if_pos hin];have hz:j'-off=0:=adh;rw[hz] at hj' ⊢;simp only[abf,aaB] at hj';subst hj';simp only[abf,acI];exact⟨hlf,h1c,sv _ _ hyv hst⟩
  ·rename_i hin;rw[if_neg hin];simp only[de,aaI,aaH] at hj';obtain⟨d0,hd0,rfl⟩:=hj';have:=h4 j' d0 hd0;rw[aax] at this;split
   ·exact⟨this.1,this.2.1,sv _ _ this.2.2 ‹_›⟩
   ·exact⟨rfl,this.2.1,trivial⟩
end
section
variable {P:Program} {w0:Fr}{M0:Nat→Prop}{s:St}{o:Oper}{id t off:Nat}{e T T':TypeId}{ks:List Value}{vs:List AV}{x y:Operand}{ρ:Operand→Option SV}{ob:List (Nat×Ob)}{c:fX}{cs:List AV}
theorem GK (ho:o.op=.nilCheck x)(hx:ρ x=some (.v c (.pc cs off))):Pure P w0 M0 o ρ ob (.v c (.pc cs off)) :=
 aJ fun E w ev hw h=>by
  have hr:=h x _ hx;refine⟨ev x,w,?_,.refl _ _,hr⟩;simp only[bm] at hr;generalize hq:ev x=q at hr;cases hr with
  | pc b o' _ _ cv h1 h2 hc hl hr=>simp only[execOp,ho,hq,Sem.run_pure]
theorem Tw {w:World}{v:Value}(h:bL w M v (.pc cs off)):∃a,v=.pointer (some a):=by
 cases h with
 | pc b o' _ _ cv h1 h2 hc hl hr=>exact⟨_,rfl⟩
theorem iZ (ho:o.op=.binOp .eql T x y T')(hT:P.underlying T=some (.pointer (P.pointee T)))(hx:ρ x=some (.v c (.pc cs off)))(hy:bg ρ y=some (.pointer none)):Pure P w0 M0 o ρ ob (.v .pl (bool false)) :=
 aJ fun E w ev hw h=>by
  obtain⟨a,ha⟩:=Tw (h x _ hx);have hyv:ev y=.pointer none:=bZ h hy;exact⟨.bool false,w,by simp[execOp,ho,ha,hyv,eqGuard,run_eql_pointer_nil w T (some a) hT],.refl _ _,.sc _ J⟩
def D9 (v:Value)(vs:List Value):Prop:=v=.agg vs.toArray
theorem Ea {i:Nat}{places:List (Nat×Nat)}{zs:List Value}(ho:o.op=.build T #[(i,x)])(hpl:placesOf P T=some places)(hz:zeroOf P T=some zs)(hzs:zs.all Value.oneCell'=true)(hx:ρ x=some (.omap id))(hl:ob.lookup id=some (.mp ks vs))(hp:places[i]?=some (off,1))(hoff:Nat.blt off zs.length=true) :
   Pure P w0 M0 o ρ ob (.hid D9 ((zs.map fun z=>qw.pl (.sc z)).set off (.om id))) :=
 aJ fun E w ev hw h=>by
   have hxv:ev x=.map (some (E.blk id)):=h x _ hx ks vs hl;have hlt:off<zs.length:=acO (aaz hoff);have hrun:(Instr.build T (#[(i,x)].map fun(i,x)=>(i,ev x))).run P w=.ok (.agg (zs.set off (.map (some (E.blk id)))).toArray) w:=by
     apply run_build;unfold placesOf at hpl;unfold zeroOf at hz;unfold Program.built;split at hpl
     · rename_i fields hu
       cases hi:P.info? T with
       | none=>rw[hi] at hz;cases hz
       | some it =>
         rw[hi] at hz;simp only[ach,aaH] at hz;obtain⟨z,hz1,hz2⟩:=hz;simp only[hu,hz1,hpl];have e0:z.cells=zs.toArray:=by rw[←hz2]
         rw[e0];simp only[List.map_toArray,abx,abW,Instr.fill,List.getElem?_toArray,hp,hxv];rw[if_neg (by simp[Value.cells];omega)];simp[Value.cells,Array.zipIdx]
     · cases hpl
   refine⟨.agg (zs.set off (.map (some (E.blk id)))).toArray,w,by simp only[execOp,ho,Sem.run_bind,hrun,Result.andThen_ok,Sem.run_pure],.refl _ _,zs.set off (.map (some (E.blk id))),rfl,by simp,fun j c hc=>?_⟩;by_cases hj:off=j
   · subst hj
     rw[ab9 (by simpa using hlt)] at hc;simp only[aaB] at hc;subst hc;intro ks' vs' _;rw[aax,ab9 hlt];rfl
   · rw [ace hj, aaI, aaH] at hc
     obtain⟨z,hz1,rfl⟩:=hc;rw[aax,ace hj,hz1];exact .sc z (by rw[aa5] at hzs;exact hzs z (abm hz1))
def MP (ob:List (Nat×Ob))(t:Nat):qw→Bool
 | .pl d=>d.leaf
 | .om id=>(match ob.lookup id with|some (.mp _ _)=>true|_=>false)&&!(Nat.beq id t)
 | _=>false
theorem J8 {caps:List qw}(ho:o.op=.box T x)(hd:o.dst=some t)(hn:Nat.blt t s.n=true)(hpt:Nat.blt t 1000000=true)(hnd:Nodup s.s=true)(hx:s.ev x=some (.hid D9 caps))(hc:caps.all (MP s.o t)=true)(ae:∀b,M0 b→b<w0.w.heap.size) :
   Step P w0 M0 o s ((s.cK true t (.box T (caps.map qw.sv))).put t (.pbox t 0)):=by
 rintro a w Q ⟨E,hs⟩;obtain⟨us,hv,h2,h3⟩:=hs.ev hx;have hv:a.eval x=.agg us.toArray:=hv;unfold Oper.wp;have hexec:(execOp a.eval o).run P w=.ok (.value (.pointer (some ⟨w.heap.size,0,none⟩))) (w.alloc (.cells us.toArray T)):=by
   simp[execOp,ho,hv,Instr.box,newVar,newRow,Value.cells]
 rw[hexec];simp only[Oper.upon,hd];refine⟨{ E with blk:=fun i=>if i=t then w.heap.size else E.blk i },ba.put ?_ (by simpa[St.cK] using hn) rX⟩;refine hs.Gp hnd ae (abj (acO (aaz hpt)) (aaD _)) (by simpa using h2) (fun j sv hj=>?_);rw[aaI,aaH] at hj;obtain⟨cp,hcp,rfl⟩:=hj;have h4:=h3 j cp hcp;have h5:=aa5.1 hc cp (abm hcp);have eg:(us.toArray).getD j undef=us.getD j undef:=by simp[abc,aax]
 rw[eg];cases cp with
 | pl d=>exact⟨h5,bL.one h4 h5,h4,rfl⟩
 | om id =>
   unfold MP at h5;rw[aaZ] at h5;cases hl:s.o.lookup id with
   | none=>rw[hl] at h5;cases h5.1
   | some ob =>
     rw[hl] at h5;cases ob with
     | mp ks vs =>
       have h6:=h4 ks vs hl;refine⟨rfl,by rw[h6];rfl,h4,?_⟩;show(!(true&&Nat.beq id t))=true;rw[abS];exact h5.2
     | _=>cases h5.1
 | bx id=>cases h5
 | ow id=>cases h5
end
def xQ {α:Type}(f:α→Prop):List α→Prop
 | []=>True
 | i :: r=>f i∧xQ f r
theorem xQ.get {α:Type}{f:α→Prop}:∀{l:List α}{i:α},xQ f l→i∈l→f i
 | j :: r, i, h, hi => by
   rcases aa3.1 hi with rfl|hi
   · exact h.1
   · exact xQ.get h.2 hi
theorem ai {a b:Prop}(x:a)(y:b):a∧b:=⟨x,y⟩
section
variable (P:Program) (w0:Fr)(M0:Nat→Prop)(ops:Array Oper)(n:Nat)(G:List (Nat×SV))(E:Nat→Nat)(m:Nat)(O:Nat→List (Nat×Ob))
def Tx (p i:Nat):Bool:=(List.range p).all (fun q=>!(kS ops ops.size (E q)).contains i)&&!(Nat.blt p m&&(kS ops ops.size i).contains (E p))
def Yi (i p:Nat):Prop:=match ops[i]? with
 | none=>True
 | some o => match o.dst with
   | none=>True
   | some t => match G.lookup t with
     | none=>True
     | some d=>Pure P w0 M0 o (fx ops o (St.ev ⟨n,G,O p⟩)) (O p) d
def YH (p:Nat):Prop:=match ops[E p]? with
 | none=>True
 | some o=>∀X,Nodup X=true→(∀t d,X.lookup t=some d→G.lookup t=some d)→(∀t,t∈looks ops o→X.lookup t=G.lookup t)→∃s',Step P w0 M0 o ⟨n,X,O p⟩ s'∧fm P w0 M0 s' ⟨n,rf G X o,O (p+1)⟩
def MQ (k:Nat):Bool:=(List.range k).all fun i=>match(ops[i]?).bind (·.dst) with
 | none=>true
 | some t=>(G.lookup t).isSome
def LOk (k:Nat)(L:List (Nat×Option (List Nat))):Bool:=(List.range k).all fun i=>zK E m i||L.any fun q=>Nat.beq q.1 i&&match q.2 with
 | none=>true
 | some ps=>(List.range (m+1)).all fun p=>!Tx ops E m p i||ps.contains p
def LAt (q:Nat×Option (List Nat)):Prop:=match q.2 with
 | none=>∀p,Yi P w0 M0 ops n G O q.1 p
 | some ps=>xQ (Yi P w0 M0 ops n G O q.1) ps
end
section
variable {P:Program} {w0:Fr}{M0:Nat→Prop}{ops:Array Oper}
theorem GL {id:Nat}{n:Nat}(m:Nat)(E:Nat→Nat)(O:Nat→List (Nat×Ob))(k:Nat)(L:List (Nat×Option (List Nat)))(G:List (Nat×SV))(hm:P.follows .mixedOrders=true)(hok:l7 ops=true)(htl:fC ops k=true)(hmid:uv ops n k (zK E m)=true)(hc:wG ops E m k=true)(hL:LOk ops E m k L=true)(hset:MQ ops G k=true)
   (hG:∀t d,(G.filter fun p=>eI ops k #[] p.1).lookup t=some d→s0.lookup t=some d)(hnd:Nodup G=true)
   (hP:xQ (LAt P w0 M0 ops n G O) L)
   (hE:xQ (YH P w0 M0 ops n G E O) (List.range m))
   (hend:rU P w0 M0 ops (fun s=>∃s',fm P w0 M0 s s'∧Q' .normal s') k ⟨n,G,O m⟩):aw P w0 M0 (.region id ops true) ⟨n,s0,O 0⟩ Q':=by
 refine GF m E O k G hm hok htl hmid hc hG hnd (fun i t hi ht=>?_) (fun p i o t d hp hi he ho hd YF h1 h2=>?_) (fun p o X hp ho hX dv cZ=>?_) hend
 · have := aa5.1 hset i (aba.2 hi)
   simp only[ht] at this;exact Option.isSome_iff_exists.1 this
 · have hph : Tx ops E m p i = true := by
     unfold Tx;rw[aaZ,aa5];refine⟨fun q hq=>by rw[h1 q (aba.1 hq)];rfl,?_⟩;by_cases hpm:p<m
     · rw[h2 hpm,ab5];rfl
     · have hb : Nat.blt p m = false := by
         cases hq:Nat.blt p m
         · rfl
         · exact absurd (by simpa using hq) hpm
       rw[hb,ab1];rfl
   have hl:=aa5.1 hL i (aba.2 hi);rw[he,Bool.false_or,abk] at hl;obtain⟨⟨j,x⟩,hq,hl⟩:=hl;rw[aaZ] at hl;have hj:j=i:=aby hl.1;subst hj;have h:=hP.get hq;have hp2:Yi P w0 M0 ops n G O j p:=by
     cases x with
     | none=>exact h p
     | some ps =>
       have h3:=aa5.1 hl.2 p (aba.2 adh);rw[hph] at h3;exact xQ.get (show xQ _ ps from h) (abv.1 (by simpa using h3))
   unfold Yi at hp2;simp only[ho,hd,YF] at hp2;exact hp2
 · have h := hE.get (aba.2 hp)
   unfold YH at h;simp only[ho] at h;exact h X hX dv cZ
end
abbrev HM (w0:Fr)(M0:Nat→Prop):Prop:=∀b,M0 b→b<w0.w.heap.size
def PG (P:Program)(w0:Fr)(M0:Nat→Prop)(T:List (Nat×Dm))(o:Oper)(ρ:Operand→Option SV)(ob:List (Nat×Ob))(d:SV):Prop:=fa P T→HM w0 M0→Pure P w0 M0 o ρ ob d
def SG (P:Program)(w0:Fr)(M0:Nat→Prop)(T:List (Nat×Dm))(o:Oper)(s s':St):Prop:=fa P T→HM w0 M0→Step P w0 M0 o s s'
variable{a0:AV}
section
variable {P:Program} {w0:Fr}{M0:Nat→Prop}{T:List (Nat×Dm)}{o:Oper}{ρ:Operand→Option SV}{ob:List (Nat×Ob)}{d:SV}{x y:Operand}{t t' e k:Nat}{c:fX}{id off:Nat}{xs ys:List AV}{a b:Int}{α:Type}{f:α→AV}{l:List α}
theorem a_x (h:DY T o ρ ob=some d):PG P w0 M0 T o ρ ob d:=fun hT _=>xz hT h
theorem R8 (ho:o.op=.call { callee:=.builtin .len,args:=#[x],argTypes:=#[t] })(hT:(dK T t).se=some e)(hx:viewAt ρ ob x=some (c,.sl (l.map f))):PG P w0 M0 T o ρ ob (.v .pl (int l.length)):=fun h _=>lT ho (kq h hT) hx
theorem R9 (ho:o.op=.binOp .add t x y t')(hx:bg ρ x=some (.int .i64 a))(hy:bg ρ y=some (.int .i64 b))(h:-9223372036854775808≤a+b∧a+b≤9223372036854775807):PG P w0 M0 T o ρ ob (.v .pl (int (a+b))):=fun _ _=>ey ho hx hy h
theorem Sa (ho:o.op=.binOp .sub t x y t')(hx:bg ρ x=some (.int .i64 a))(hy:bg ρ y=some (.int .i64 b))(h:-9223372036854775808≤a-b∧a-b≤9223372036854775807):PG P w0 M0 T o ρ ob (.v .pl (int (a-b))):=fun _ _=>qy ho hx hy h
theorem Sb (ho:o.op=.binOp .mul t x y t')(hx:bg ρ x=some (.int .i64 a))(hy:bg ρ y=some (.int .i64 b))(h:-9223372036854775808≤a*b∧a*b≤9223372036854775807):PG P w0 M0 T o ρ ob (.v .pl (int (a*b))):=fun _ _=>JH ho hx hy h
theorem Sc (ho:o.op=.binOp .rem t x y t')(hx:bg ρ x=some (.int q a))(hy:bg ρ y=some (.int q b))(h:0≤a∧0<b):PG P w0 M0 T o ρ ob (.v .pl (.sc (.int q (a % b)))):=fun _ _=>JM ho hx hy h
theorem Sd (ho:o.op=.binOp .quo t x y t')(hx:bg ρ x=some (.int .i64 a))(hy:bg ρ y=some (.int .i64 b))(h:0≤a∧0<b∧a≤9223372036854775807):PG P w0 M0 T o ρ ob (.v .pl (int (a / b))):=fun _ _=>JN ho hx hy h
theorem VC [Inhabited α]{n:Int}{i:Nat}(ho:o.op=.indexAddr t x y)(hT:(dK T t).se=some e)(hk:(dK T e).sz=some k)(hx:viewAt ρ ob x=some (c,.sl (l.map f)))(hy:bg ρ y=some (.int q n)) [hi:Ix n i](hc:∀z,(AV.cells (f z)).length=k)(h:0≤n∧n<l.length) :
 PG P w0 M0 T o ρ ob (.v c (.pc (AV.cells (f (l.getD i default))) 0)):=fun hh _=>dh ho (kq hh hT) (lv hh hk) hx hy h hc
theorem Se {n b:Nat}{ds:List AV}(ho:o.op=.buildSlice t n parts)(hT:(dK T t).se=some e)(hk:(dK T e).sz=some k)(hb:(dK T e).bt=some b)(hp:mO ρ ob k 0 parts.toList=some (c,ds))(hn:ds.length=n)(hn0:Nat.blt 0 n=true)(hsm:Nat.ble (n*k) 16777216=true) :
 PG P w0 M0 T o ρ ob (.v c (.sl ds)):=fun h hM=>eF ho (kq h hT) (xx h hk hb) hp hn hn0 hsm hM
theorem VD (ho:o.op=.box t x)(hx:viewAt ρ ob x=some (c,a0))(hnt:jt a0=true):PG P w0 M0 T o ρ ob (.v c (.pc a0.cells 0)):=fun _ hM=>L0 ho hx hnt hM
theorem Ty {g:FuncId}{caps:Array Operand}{ds:List AV}(ho:o.op=.makeFunc (.func g) #[] caps)(hc:iW ρ ob caps.toList=some (c,ds)):PG P w0 M0 T o ρ ob (.v c (.clo g ds)):=fun _ _=>JK ho hc
theorem YI {g:FuncId}{caps:Array Operand}{cs:List qw}(ho:o.op=.makeFunc (.func g) #[] caps)(hc:Ap ρ caps.toList=some cs):PG P w0 M0 T o ρ ob (.fn g cs):=fun _ _=>P9 ho hc
theorem Sf {i:Int}(ho:o.op=.slice t x (some y) none none)(hT:(dK T t).se=some e)(hk:(dK T e).sz=some k)(hx:viewAt ρ ob x=some (c,.sl (l.map f)))(hy:bg ρ y=some (.int q i))(hxk:∀z,(AV.cells (f z)).length=k)(h:0≤i∧i≤l.length) :
 PG P w0 M0 T o ρ ob (.v c (.sl ((l.drop i.toNat).map f))):=fun hh _=>nt ho (kq hh hT) (lv hh hk) hx hy h hxk
theorem Sg {i:Int}(ho:o.op=.slice t x none (some y) none)(hT:(dK T t).se=some e)(hk:(dK T e).sz=some k)(hx:viewAt ρ ob x=some (c,.sl (l.map f)))(hy:bg ρ y=some (.int q i))(hxk:∀z,(AV.cells (f z)).length=k)(h:0≤i∧i≤l.length) :
 PG P w0 M0 T o ρ ob (.v c (.sl ((l.take i.toNat).map f))):=fun hh _=>fq ho (kq hh hT) (lv hh hk) hx hy h hxk
theorem Sh {i:Int}(ho:o.op=.indexAddr t x y)(hT:(dK T t).se=some e)(hk:(dK T e).sz=some k)(hx:ρ x=some (.own id))(hl:ob.lookup id=some (.arr e xs))(hy:bg ρ y=some (.int q i))(h:0≤i∧i<xs.length):PG P w0 M0 T o ρ ob (.pel id i.toNat 0):=fun hh _=>ah ho (kq hh hT) (lv hh hk) hx hl hy h
theorem Si {i n:Nat}{j:Int}(ho:o.op=.indexAddr t x y)(hT:(dK T t).se=some e)(hk:(dK T e).sz=some k)(hx:ρ x=some (.vsl id i n))(hl:ob.lookup id=some (.arr e xs))(hy:bg ρ y=some (.int q j))(h:0≤j∧j<n):PG P w0 M0 T o ρ ob (.pel id (i+j.toNat) 0):=fun hh _=>xu ho (kq hh hT) (lv hh hk) hx hl hy h
theorem Sj {i n:Nat}(ho:o.op=.call { callee:=.builtin .len,args:=#[x],argTypes:=#[t] })(hT:(dK T t).se=some e)(hx:ρ x=some (.vsl id i n))(hl:ob.lookup id=some (.arr e xs)):PG P w0 M0 T o ρ ob (.v .pl (int n)):=fun h _=>B1 ho (kq h hT) hx hl
theorem Sk {cs:List Cell}{ln:Option (Nat×eh)}(ho:o.op=.call { callee:=.builtin .len,args:=#[x],argTypes:=#[t] })(hT:(dK T t).se=some e)(hk:(dK T e).sz=some 1)(hx:ρ x=some (.nst id))(hl:ob.lookup id=some (.nar e cs ln)):PG P w0 M0 T o ρ ob (.v .pl (.sc (.int .i64 cs.length))):=fun h _=>Cb ho (kq h hT) (lv h hk) hx hl
theorem Sl {cs:List AV}(ho:o.op=.nilCheck x)(hx:ρ x=some (.v c (.pc cs off))):PG P w0 M0 T o ρ ob (.v c (.pc cs off)):=fun _ _=>GK ho hx
theorem Sm [Inhabited α]{i:Nat}(ho:o.op=.load t x)(hT:(dK T t).ag=some false)(hx:ρ x=some (.pel id i off))(hl:ob.lookup id=some (.arr e (l.map f)))(h:i<l.length)(hc:(f (l.getD i default)).cells[off]?=some a0):PG P w0 M0 T o ρ ob (.v .pl a0):=fun hh _=>c3 ho (uo hh hT) hx hl (e9 h) hc
theorem Sn [Inhabited α]{i:Nat}(ho:o.op=.load t x)(hT:(dK T t).ag=some true)(hk:(dK T t).sz=some k)(hx:ρ x=some (.pel id i 0))(hl:ob.lookup id=some (.arr e (l.map f)))(hck:(dK T e).sz=some k)(h:i<l.length):PG P w0 M0 T o ρ ob (.v .pl (.agg (f (l.getD i default)).cells)):=fun hh _=>sV ho (uo hh hT) (lv hh hk) hx hl (lv hh hck) (e9 h)
theorem MR {l l':List UInt8}(ho:o.op=.binOp .eql t x y t')(hx:bg ρ x=some (.string ⟨l.toArray⟩))(hy:bg ρ y=some (.string ⟨l'.toArray⟩)):PG P w0 M0 T o ρ ob (.v .pl (.sc (.bool (decide (l=l'))))):=fun _ _=>JI ho hx hy
theorem MS {l l':List UInt8}(ho:o.op=.binOp .neq t x y t')(hx:bg ρ x=some (.string ⟨l.toArray⟩))(hy:bg ρ y=some (.string ⟨l'.toArray⟩)):PG P w0 M0 T o ρ ob (.v .pl (.sc (.bool (!decide (l=l'))))):=fun _ _=>ui ho hx hy
variable {s s':St}
theorem VE (ho:o.op=.assign x)(hd:o.dst=some t)(hn:Nat.blt t s.n=true)(hnd:Nodup s.s=true)(hx:bg s.ev x=some (.slice none 0 0))(he:(dK T o.type).se=some e):SG P w0 M0 T o s ((s.cK true t (.arr e [])).put t (.own t)):=fun _ hM=>LX ho hd hn hnd hx e hM
theorem VF {bb:Nat}(ho:o.op=.call { callee:=.builtin .append,args:=#[x,y],argTypes:=#[t',t'] })(hd:o.dst=some t)(hn:Nat.blt t s.n=true)(hnd:Nodup s.s=true)(hT:(dK T t').se=some e)(hk:(dK T e).sz=some k)(hb:(dK T e).bt=some bb)
  (hx:s.ev x=some (.own id))(hl:s.o.lookup id=some (.arr e xs)){z:AV}(hy:viewAt s.ev s.o y=some (.pl,.sl [z]))(hz:z.cells.length=k)(h1:(xs.length+[z].length)*bb≤140737488355328)(h2:xs.length+[z].length≤4611686018427387904):SG P w0 M0 T o s ((s.cK true id (.arr e (xs++[z]))).put t (.own id)) :=
 fun h hM=>step_append ho hd hn hnd (kq h hT) (xx h hk hb) hx hl hM (cA hy (bO hz)) h1 h2
theorem VG {bb:Nat}(ho:o.op=.call { callee:=.builtin .append,args:=#[x,y],argTypes:=#[t',t'] })(hd:o.dst=some t)(hn:Nat.blt t s.n=true)(hnd:Nodup s.s=true)(hT:(dK T t').se=some e)(hk:(dK T e).sz=some 1)(hb:(dK T e).bt=some bb)
  (hx:s.ev x=some (.own id))(hl:s.o.lookup id=some (.arr e xs))(hy:viewAt s.ev s.o y=some (c,.sl (l.map f)))(hz:∀z,∃v,f z=.sc v)(h1:(xs.length+(l.map f).length)*bb≤140737488355328)(h2:xs.length+(l.map f).length≤4611686018427387904):SG P w0 M0 T o s ((s.cK true id (.arr e (xs++l.map f))).put t (.own id)) :=
 fun h hM=>step_append ho hd hn hnd (kq h hT) (xx h hk hb) hx hl hM (sX hy hz) h1 h2
theorem VH {n b:Nat}{ds:List AV}(ho:o.op=.buildSlice t' n parts)(hd:o.dst=some t)(hn:Nat.blt t s.n=true)(hnd:Nodup s.s=true)(hT:(dK T t').se=some e)(hk:(dK T e).sz=some k)(hb:(dK T e).bt=some b)
 (hp:mO s.ev s.o k 0 parts.toList=some (.pl,ds))(hnn:ds.length=n)(hn0:Nat.blt 0 n=true)(hsm:Nat.ble (n*k) 16777216=true):SG P w0 M0 T o s ((s.cK true t (.arr e ds)).put t (.own t)):=fun h hM=>LY ho hd hn hnd (kq h hT) (xx h hk hb) hp hnn hn0 hsm hM
theorem Tz {b:Nat}(ho:o.op=.buildSlice t' 0 parts)(hp:parts.toList=[])(hd:o.dst=some t)(hn:Nat.blt t s.n=true)(hnd:Nodup s.s=true)(hT:(dK T t').se=some e)(hk:(dK T e).sz=some k)(hb:(dK T e).bt=some b):SG P w0 M0 T o s ((s.cK true t (.arr e [])).put t (.own t)) :=
 fun h hM=>Ai ho hp hd hn hnd (kq h hT) (xx h hk hb) hM
theorem VI (ho:o.op=.box t' x)(hd:o.dst=some t)(hn:Nat.blt t s.n=true)(hpt:Nat.blt t 1000000=true)(hnd:Nodup s.s=true)(hx:s.ev x=some (.v c a0))(hnt:jt a0=true)(hc:c≠.vw):SG P w0 M0 T o s ((s.cK true t (.box t' (c8 (.v c a0)))).put t (.pbox t 0)):=fun _ hM=>LZ ho hd hn hpt hnd hx hnt hc hM
end
variable{p:Prop}
theorem gw (h:p:=by first|exact g_c rfl rfl (by first|(simp only[dq];exact rfl)|exact rfl|fail) (by first|(simp only[dq];exact rfl)|exact rfl|fail)|exact g_o rfl rfl rfl (by first|(simp only[dq];exact rfl)|exact rfl|fail) (by first|(simp only[dq];exact rfl)|exact rfl|fail)|exact g_r rfl rfl rfl (by first|(simp only[dq];exact rfl)|exact rfl|fail) (by first|(simp only[dq];exact rfl)|exact rfl|fail)|exact YJ rfl rfl|exact g_nn rfl rfl|exact YK rfl|exact YL rfl|exact g_0|exact g_1 rfl|exact g_e rfl rfl|exact g_q rfl rfl rfl rfl|exact g_d rfl|exact g_p rfl rfl|fail):p:=h
theorem ruP (h:p:=by first|exact Sh rfl rfl rfl rfl rfl rfl (by first|(simp only[ll];omega)|omega)|exact Si rfl rfl rfl rfl rfl rfl (by first|(simp only[ll];omega)|omega)|exact VC rfl rfl rfl rfl rfl (fun _=>rfl) adh|exact R8 rfl rfl rfl|exact R9 rfl rfl rfl adh|exact Se rfl rfl rfl rfl rfl rfl rfl rfl|exact VD rfl rfl rfl|exact a_bld rfl rfl rfl rfl rfl rfl|exact Ty rfl rfl|exact YI rfl rfl|exact Sa rfl rfl rfl adh|exact Sb rfl rfl rfl adh|exact Sc rfl rfl rfl adh|exact Sd rfl rfl rfl adh|exact Sm rfl rfl rfl rfl (by first|(simp only[ll];omega)|omega) rfl|exact Sn rfl rfl rfl rfl rfl rfl (by first|(simp only[ll];omega)|omega)|exact Sj rfl rfl rfl rfl|exact Sk rfl rfl rfl rfl rfl|exact Sf rfl rfl rfl rfl rfl (fun _=>rfl) (by first|(simp only[ll];omega)|omega)|exact Sg rfl rfl rfl rfl rfl (fun _=>rfl) adh|exact Sl rfl rfl|exact MR rfl rfl rfl|exact MS rfl rfl rfl|fail):p:=h
theorem ruD (h:p:=by first|exact Sh rfl rfl rfl rfl rfl rfl (by first|(simp only[ll];omega)|omega)|exact Si rfl rfl rfl rfl rfl rfl (by first|(simp only[ll];omega)|omega)|exact VC rfl rfl rfl rfl rfl (fun _=>rfl) adh|exact R8 rfl rfl rfl|exact R9 rfl rfl rfl adh|exact Se rfl rfl rfl rfl rfl rfl rfl rfl|exact Sa rfl rfl rfl adh|exact Sb rfl rfl rfl adh|exact Sc rfl rfl rfl adh|exact Sd rfl rfl rfl adh|exact Sm rfl rfl rfl rfl (by first|(simp only[ll];omega)|omega) rfl|exact Sn rfl rfl rfl rfl rfl rfl (by first|(simp only[ll];omega)|omega)|exact Sj rfl rfl rfl rfl|exact Sk rfl rfl rfl rfl rfl|exact Sf rfl rfl rfl rfl rfl (fun _=>rfl) (by first|(simp only[ll];omega)|omega)|exact Sg rfl rfl rfl rfl rfl (fun _=>rfl) adh|exact Sl rfl rfl|exact MR rfl rfl rfl|exact MS rfl rfl rfl|fail):p:=h
theorem ruE (h:p:=by first|exact VE rfl rfl rfl rfl rfl rfl|exact VF rfl rfl rfl rfl rfl rfl rfl rfl rfl rfl rfl (by first|(simp only[ll];omega)|omega) (by first|(simp only[ll];omega)|omega)|exact VG rfl rfl rfl rfl rfl rfl rfl rfl rfl rfl (fun _=>⟨_,rfl⟩) (by first|(simp only[ll];omega)|omega) (by first|(simp only[ll];omega)|omega)|exact VH rfl rfl rfl rfl rfl rfl rfl rfl rfl rfl rfl|exact Tz rfl rfl rfl rfl rfl rfl rfl rfl|exact VI rfl rfl rfl rfl rfl rfl rfl adj|fail):p:=h
theorem ruX (h:p:=by first|exact a_x rfl|exact ruD|fail):p:=h
theorem kW (h:p:=by first|exact VJ tb ae ruX|fail):p:=h
theorem bV {f:Nat→Prop}(h:∀p,f p:=by intro p;first|exact kW|fail):∀p,f p:=h
variable{pt pf:Prop}
section
variable {P:Program} {w0:Fr}{M0:Nat→Prop}{T:List (Nat×Dm)}{o:Oper}{d:SV}{Q:Exit→St→Prop}
variable {ops:Array Oper}{r:List Oper}{i t:Nat}{m:Nat}{l l':List (Nat×SV)}{ob:List (Nat×Ob)}{s':St}
theorem TA {Q:St→Prop}{s s':St}(hs:Sub s' s)(h:kg P w0 M0 ops Q r i s'):kg P w0 M0 ops Q r i s:=by
 cases r with
 | nil=>obtain⟨s1,h1,h2⟩:=h;exact⟨s1,h1.trans hs,h2⟩
 | cons o r=>obtain⟨s1,h1,h2⟩:=h;exact⟨s1,h1.trans hs,h2⟩
theorem spD {Q:St→Prop}{c:fX}{b:Bool}(hb:l.lookup t=some (.v c (.sc (.bool b))))(h1:b=true→kg P w0 M0 ops Q r i ⟨m,ins t (.v c (.sc (.bool true))) l,ob⟩)(h0:b=false→kg P w0 M0 ops Q r i ⟨m,ins t (.v c (.sc (.bool false))) l,ob⟩):kg P w0 M0 ops Q r i ⟨m,l,ob⟩:=by
 have key:∀z,b=z→kg P w0 M0 ops Q r i ⟨m,ins t (.v c (.sc (.bool z))) l,ob⟩→kg P w0 M0 ops Q r i ⟨m,l,ob⟩:=fun z hz h=>TA (s':=⟨m,ins t (.v c (.sc (.bool z))) l,ob⟩) ⟨rfl,rfl,fun u d hu=>by
  simp only at hu ⊢;rw[aC] at hu;split at hu
  ·rename_i q;subst q;cases hu;rw[hb,hz]
  ·exact hu⟩ h
 cases b
 ·exact key _ rfl (h0 rfl)
 ·exact key _ rfl (h1 rfl)
theorem oD {k:List Fm}{Q:Exit→St→Prop}{a:Array Oper}{d:SV}(hg:guardOf a (St.ev ⟨m,l,ob⟩) o=some true)(ht:o.dst=some t)(hn:Nat.blt t m=true)(hp:Pure P w0 M0 o (fx a o (St.ev ⟨m,l,ob⟩)) ob d)(hr:At P w0 M0 Q k (.drw a r (i+1)) ⟨m,ins t d l,ob⟩):At P w0 M0 Q k (.drw a (o :: r) i) ⟨m,l,ob⟩ :=
 have hn':t<m:=by simpa using hn
 ⟨_,Sub.refl _,.inl ⟨t,ht,hn',true,hg,d,fun _=>hp,fun h=>(by cases h),hr⟩⟩
def Go (P:Program)(w0:Fr)(M0:Nat→Prop)(Q:Exit→St→Prop)(T:List (Nat×Dm))(ns ids oids:List Nat)(k:List Fm)(cf:Cf)(s:St)(z:Prop):Prop:=fa P T→HM w0 M0→z→At P w0 M0 Q k cf s
variable {k k':List Fm}{cf cf':Cf}{s:St}{n n1:Nat}{ns ids oids:List Nat}{z:Prop}{a:Array Oper}{o':List (Nat×Ob)}
theorem g_1 (h:R6 T n ids oids cf k s=some (cf',k',⟨m,l,ob⟩)):Go P w0 M0 Q T [n] ids oids k cf s (At P w0 M0 Q k' cf' ⟨m,l,ob⟩):=fun hT hM hz=>uq hT hM n ids oids h hz
theorem g_0:Go P w0 M0 Q T [5000] ids oids k cf s (At P w0 M0 Q k cf s):=fun _ _ hz=>hz
theorem g_c {x y:Code}{b:Bool}(h:R6 T n ids oids cf k s=some (.code (.cond (.tmp t) x y),k',⟨m,l,ob⟩))(hb:bg (St.ev ⟨m,l,ob⟩) (.tmp t)=some (.bool b))(ht:(b=true)=pt)(hf:(b=false)=pf) :
  Go P w0 M0 Q T [n+3000] ids oids k cf s ((pt→At P w0 M0 Q k' (.code (.cond (.tmp t) x y)) ⟨m,ins t (.v .pl (.sc (.bool true))) l,ob⟩)∧(pf→At P w0 M0 Q k' (.code (.cond (.tmp t) x y)) ⟨m,ins t (.v .pl (.sc (.bool false))) l,ob⟩)):=fun hT hM hz =>
 uq hT hM n ids oids h (wD t hb (fun h=>hz.1 (ht ▸ h)) (fun h=>hz.2 (hf ▸ h)))
def Sp (a:Array Oper)(o:Oper):Option Nat:=match o.guard with
 | some (j,_)=>(a[j]?).bind (·.dst)
 | none=>none
theorem g_o {b:Bool}(h:R6 T n ids oids cf k s=some (.ops a (o :: r),k',⟨m,l,ob⟩))(hs:Sp a o=some t)(hb:bg (St.ev ⟨m,l,ob⟩) (.tmp t)=some (.bool b))(ht:(b=true)=pt)(hf:(b=false)=pf) :
  Go P w0 M0 Q T [n+4000] ids oids k cf s ((pt→At P w0 M0 Q k' (.ops a (o :: r)) ⟨m,ins t (.v .pl (.sc (.bool true))) l,ob⟩)∧(pf→At P w0 M0 Q k' (.ops a (o :: r)) ⟨m,ins t (.v .pl (.sc (.bool false))) l,ob⟩)):=fun hT hM hz =>
 uq hT hM n ids oids h (spO t hb (fun h=>hz.1 (ht ▸ h)) (fun h=>hz.2 (hf ▸ h)))
theorem g_r {b:Bool}{c:fX}(h:R6 T n ids oids cf k s=some (.drw a (o :: r) i,k',⟨m,l,ob⟩))(hs:Sp a o=some t)(hb:l.lookup t=some (.v c (.sc (.bool b))))(ht:(b=true)=pt)(hf:(b=false)=pf) :
  Go P w0 M0 Q T [n+7000] ids oids k cf s ((pt→At P w0 M0 Q k' (.drw a (o :: r) i) ⟨m,ins t (.v c (.sc (.bool true))) l,ob⟩)∧(pf→At P w0 M0 Q k' (.drw a (o :: r) i) ⟨m,ins t (.v c (.sc (.bool false))) l,ob⟩)):=fun hT hM hz =>
 uq hT hM n ids oids h (spD hb (fun h=>hz.1 (ht ▸ h)) (fun h=>hz.2 (hf ▸ h)))
theorem YJ {rr r':RV}(h:xr T n cf k s=some (.done .ret,[],s'))(hr:(s'.s.lookup t).bind (bT s'.o)=some r'):Go P w0 M0 (zB t rr) T [n+8000] ids oids k cf s (r'=rr):=fun hT hM hz=>rB (Q:=zB t rr) hT hM n cf k s _ h (P1 hr hz)
theorem YK {I:Nat→St→Prop}{mm:Nat}(h:R6 T n ids oids cf k s=some (.done .normal,.loop I mm :: k',⟨m,l,ob⟩)):Go P w0 M0 Q T [n+9000] ids oids k cf s (∃m',I m' ⟨m,l,ob⟩∧m'<mm):=fun hT hM hz=>uq hT hM n ids oids h (nx hz)
theorem YL {R:St→Prop}(h:R6 T n ids oids cf k s=some (.done .normal,.cut R :: k',⟨m,l,ob⟩)):Go P w0 M0 Q T [n+10000] ids oids k cf s (R ⟨m,l,ob⟩):=fun hT hM hz=>uq hT hM n ids oids h (cx hz)
theorem g_e {s':St}(h:xr T n cf k s=some (.ops a (o :: r),k',⟨m,l,ob⟩))(hg:guardOf a (St.ev ⟨m,l,ob⟩) o=some true)(hp:SG P w0 M0 T o ⟨m,l,ob⟩ s':=by first|exact ruE|fail)
  (hn:s'.n=m:=by rfl)(hl:fS s'.s (fun l=>some l)=some l':=by rfl)(ho:fO s'.o (fun l=>some l)=some o':=by rfl)(hr:Go P w0 M0 Q T (n1 :: ns) ids oids k' (.ops a r) ⟨m,l',o'⟩ z:=by first|exact gw|fail):Go P w0 M0 Q T ((n+1000) :: n1 :: ns) ids oids k cf s z:=fun hT hM hz=>by
 rw[Mm] at hl;rw[xy] at ho;cases hl;cases ho;obtain⟨mm,sl,oo⟩:=s';simp only at hn;subst hn;exact rB hT hM n cf k s _ h ⟨_,fm.refl _,_,.inl ⟨hg,hp hT hM⟩,hr hT hM hz⟩
theorem g_d {i:Nat}(h:xr T (n-2000) cf k s=some (.code (.region i a true),k',s'))(hx:Nat.ble 2000 n=true:=by rfl)(hok:l7 a=true:=by kernel_rfl)(hr:Go P w0 M0 Q T (n1 :: ns) ids oids k' (.drw a a.toList 0) s' z:=by first|exact gw|fail):Go P w0 M0 Q T (n :: n1 :: ns) ids oids k cf s z:=fun hT hM hz =>
 rB hT hM _ cf k s _ h (uh hT.2 hok _ rfl (hr hT hM hz))
theorem g_q (h:xr T n cf k s=some (.drw a (o :: r) i,k',⟨m,l,ob⟩))(hg:guardOf a (St.ev ⟨m,l,ob⟩) o=some true)(ht:o.dst=some t)(hn:Nat.blt t m=true)(hp:PG P w0 M0 T o (fx a o (St.ev ⟨m,l,ob⟩)) ob d:=by first|exact ruD|fail)(hl:B3 t d l some=some l':=by rfl)(hr:Go P w0 M0 Q T (n1 :: ns) ids oids k' (.drw a r (i+1)) ⟨m,l',ob⟩ z:=by first|exact gw|fail):Go P w0 M0 Q T ((n+6000) :: n1 :: ns) ids oids k cf s z:=fun hT hM hz=>by rw[oG] at hl;cases hl;exact rB hT hM n cf k s _ h (oD hg ht hn (hp hT hM) (hr hT hM hz))
theorem g_p (h:xr T n cf k s=some (.ops a (o :: r),k',⟨m,l,ob⟩))(hd:DZ a o ⟨m,l,ob⟩=some t)(hp:PG P w0 M0 T o (St.ev ⟨m,l,ob⟩) ob d:=by first|exact ruP|fail)
  (hl:B3 t d l some=some l':=by rfl)(hr:Go P w0 M0 Q T (n1 :: ns) ids oids k' (.ops a r) ⟨m,l',ob⟩ z:=by first|exact gw|fail):Go P w0 M0 Q T (n :: n1 :: ns) ids oids k cf s z:=fun hT hM hz=>by
 rw[oG] at hl;cases hl;exact rB hT hM n cf k s _ h (oP hd (hp hT hM) (hr hT hM hz))
theorem dT {f : Nat} {F : Func} (t : Nat) (h : P.funcs[f]? = some F) (h1 : F.body = some (F.body.getD .skip) := by rfl) (h2 : F.results = #[.tmp t] := by rfl) (h3 : (F.name == "runtime.NumGoroutine") = false := by kernel_rfl) : H5 P f F.ntmps t (F.body.getD .skip) := ⟨F, h, h1, rfl, h2, h3⟩
theorem cF {f n t:Nat}{c:Code}(hf:H5 P f n t c){ds:List AV}{r:RV}(h:∀(w0:Fr)(M0:Nat→Prop),(∀b,M0 b→b<w0.w.heap.size)→aw P w0 M0 c (St.enter n .mx ds) (zB t r))(hn:ds.length≤n:=by exact aaz rfl):au P f ds r:=zC hf hn h
theorem cN {f n t:Nat}{c:Code}(hf:H5 P f n t c){ds:List AV}{r:RV}(h:∀(w0:Fr)(M0:Nat→Prop),(∀b,M0 b→b<w0.w.heap.size)→aw P w0 M0 c (St.enter n .pl ds) (zB t r))(hn:ds.length≤n:=by exact aaz rfl):aV P f ds r:=zD hf hn h
section calls
variable {cx:Operand} {args:Array Operand}{ats:Array TypeId}{c c':fX}{f:FuncId}{caps ds:List AV}{rv:RV}
theorem oC (hd:DZ a o ⟨m,l,ob⟩=some t)(ho:o.op=.call { callee:=.value cx,args:=args,argTypes:=ats })(hc:St.ev ⟨m,l,ob⟩ cx=some (.v c (.clo f caps)))(ha:jl (St.ev ⟨m,l,ob⟩) ob args.toList=some ds)(h:au P f (ds++caps) rv)(hr:At P w0 M0 Q k (.ops a r) ⟨m,ins t (.v .pl rv.data) l,ob⟩)(hM:HM w0 M0:=by exact ae):At P w0 M0 Q k (.ops a (o :: r)) ⟨m,l,ob⟩:=oP hd (cg ho hc ha h hM) hr
theorem oN (hd:DZ a o ⟨m,l,ob⟩=some t)(ho:o.op=.call { callee:=.value cx,args:=args,argTypes:=ats })(hc:St.ev ⟨m,l,ob⟩ cx=some (.v c' (.clo f caps)))(ha:iW (St.ev ⟨m,l,ob⟩) ob args.toList=some (c,ds))(hcap:caps=[])(h:aV P f ds rv)(hr:At P w0 M0 Q k (.ops a r) ⟨m,ins t (.v c rv.data) l,ob⟩)(hM:HM w0 M0:=by exact ae):At P w0 M0 Q k (.ops a (o :: r)) ⟨m,l,ob⟩:=oP hd (bI ho hc ha hcap h hM) hr
theorem oE (hg:guardOf a (St.ev ⟨m,l,ob⟩) o=some true)(ht:o.dst=some t)(hn:Nat.blt t m=true)(ho:o.op=.call { callee:=.value cx,args:=args,argTypes:=ats })(hc:fx a o (St.ev ⟨m,l,ob⟩) cx=some (.v c (.clo f caps)))(ha:jl (fx a o (St.ev ⟨m,l,ob⟩)) ob args.toList=some ds)(h:au P f (ds++caps) rv)(hr:At P w0 M0 Q k (.drw a r (i+1)) ⟨m,ins t (.v .pl rv.data) l,ob⟩)(hM:HM w0 M0:=by exact ae):At P w0 M0 Q k (.drw a (o :: r) i) ⟨m,l,ob⟩:=oD hg ht hn (cg ho hc ha h hM) hr
theorem oF (hg:guardOf a (St.ev ⟨m,l,ob⟩) o=some true)(ht:o.dst=some t)(hn:Nat.blt t m=true)(ho:o.op=.call { callee:=.value cx,args:=args,argTypes:=ats })(hc:fx a o (St.ev ⟨m,l,ob⟩) cx=some (.v c' (.clo f caps)))(ha:iW (fx a o (St.ev ⟨m,l,ob⟩)) ob args.toList=some (c,ds))(hcap:caps=[])(h:aV P f ds rv)(hr:At P w0 M0 Q k (.drw a r (i+1)) ⟨m,ins t (.v c rv.data) l,ob⟩)(hM:HM w0 M0:=by exact ae):At P w0 M0 Q k (.drw a (o :: r) i) ⟨m,l,ob⟩:=oD hg ht hn (bI ho hc ha hcap h hM) hr
end calls
theorem xe {Q:St→Prop}(i:Nat)(h:nG P w0 M0 ops Q n (L.setIfInBounds i true) (s.put t d))(hT:fa P T:=by exact tb)(hM:HM w0 M0:=by exact ae)(hr:Region.ready .any ops L=[i]:=by kernel_rfl)(ho:ops[i]?=some o:=by rfl)(hg:o.guard=none:=by rfl)(hd:o.dst=some t:=by rfl)(hn:Nat.blt t s.n=true:=by rfl)(hp:PG P w0 M0 T o s.ev s.o d:=by first|exact ruX|fail):nG P w0 M0 ops Q (n+1) L s:=aH hr ho hg (aM hd hn (hp hT hM)) h
theorem xf {Q:St→Prop}(i:Nat)(h:nG P w0 M0 ops Q n (L.setIfInBounds i true) s')(hT:fa P T:=by exact tb)(hM:HM w0 M0:=by exact ae)(hr:Region.ready .any ops L=[i]:=by kernel_rfl)(ho:ops[i]?=some o:=by rfl)(hg:o.guard=none:=by rfl)(hp:SG P w0 M0 T o s s':=by first|exact ruE|fail):nG P w0 M0 ops Q (n+1) L s:=aH hr ho hg (hp hT hM) h
def TB {α:Type}:List (Nat×α)→List (Nat×α)→List (Nat×α)
 | [],l=>l
 | (t,d) :: r,l=>TB r (ins t d l)
abbrev eV (n:Nat)(c:List (Nat×SV))(l:List (Nat×SV))(co:List (Nat×Ob))(o:List (Nat×Ob)):St:=⟨n,TB c l,TB co o⟩
theorem lr {c:Code}(I:List (Nat×SV)→List (Nat×Ob)→Nat→St→Prop)(h0:∃n,I l ob n ⟨m,l,ob⟩)(hr:∀n s,I l ob n s→At P w0 M0 Q (.loop (I l ob) n :: k) (.code c) s):At P w0 M0 Q k (.code (.loop c)) ⟨m,l,ob⟩:=lp (I l ob) h0 hr
theorem VJ {ρ:Operand→Option SV}(hT:fa P T)(hM:HM w0 M0)(h:PG P w0 M0 T o ρ ob d):Pure P w0 M0 o ρ ob d:=h hT hM
def YM (k:Nat)(E:List Nat)(S:List (Nat×List Nat)):List (Nat×Option (List Nat)):=((List.range k).filter fun j=>!E.contains j).map fun j=>(j,S.lookup j)
theorem dC {id:Nat}{o0:List (Nat×Ob)}(E:List Nat)(O:List (List (Nat×Ob)))(i:Nat)(S:List (Nat×List Nat))(G:List (Nat×SV))(hP:xQ (LAt P w0 M0 ops n G fun p=>O.getD p []) (YM i E S))(hE:xQ (YH P w0 M0 ops n G (fun p=>E.getD p 0) fun p=>O.getD p []) (List.range E.length))
  (hend:rU P w0 M0 ops (fun s=>∃s',fm P w0 M0 s s'∧Q' .normal s') i ⟨n,G,O.getD E.length []⟩)(ho:O.getD 0 []=o0:=by rfl)(hm:P.follows .mixedOrders=true:=by exact mixed)(hok:l7 ops=true:=by kernel_rfl)(htl:fC ops i=true:=by kernel_rfl)(hmid:uv ops n i (zK (fun p=>E.getD p 0) E.length)=true:=by kernel_rfl)(hc:wG ops (fun p=>E.getD p 0) E.length i=true:=by kernel_rfl)(hL:LOk ops (fun p=>E.getD p 0) E.length i (YM i E S)=true:=by kernel_rfl)
  (hset:MQ ops G i=true:=by rfl)(hG:∀t d,(G.filter fun p=>eI ops i #[] p.1).lookup t=some d→s0.lookup t=some d:=by intro t d h;exact h)(hnd:Nodup G=true:=by rfl):aw P w0 M0 (.region id ops true) ⟨n,s0,o0⟩ Q':=by
 subst ho;exact GL E.length (fun p=>E.getD p 0) (fun p=>O.getD p []) i (YM i E S) G hm hok htl hmid hc hL hset hG hnd hP hE hend
variable {z1 z2:Prop}{c:Code}
theorem wA (ns ids oids:List Nat)(q:z)(hT:fa P T:=by exact tb)(hM:HM w0 M0:=by exact ae)(h:Go P w0 M0 Q T ns ids oids k cf s z:=by first|exact gw|fail):At P w0 M0 Q k cf s:=h hT hM q
theorem wS (ns ids oids:List Nat)(q1:z1)(q2:z2)(hT:fa P T:=by exact tb)(hM:HM w0 M0:=by exact ae)(h:Go P w0 M0 Q T ns ids oids k cf s (z1∧z2):=by first|exact gw|fail):At P w0 M0 Q k cf s:=h hT hM ⟨q1,q2⟩
theorem wZ (ns:List Nat)(q:z)(hT:fa P T:=by exact tb)(hM:HM w0 M0:=by exact ae)(h:Go P w0 M0 Q T ns [] [] k cf s z:=by first|exact gw|fail):At P w0 M0 Q k cf s:=h hT hM q
theorem db (ns ids oids:List Nat)(q:z)(hT:fa P T:=by exact tb)(hM:HM w0 M0:=by exact ae)(h:Go P w0 M0 Q T ns ids oids [] (.code c) s z:=by first|exact gw|fail):aw P w0 M0 c s Q:=h hT hM q
theorem pO (ns ids oids:List Nat)(q1:z1)(q2:z2)(hT:fa P T:=by exact tb)(hM:HM w0 M0:=by exact ae)(h:Go P w0 M0 Q T ns ids oids [] (.code c) s (z1∧z2):=by first|exact gw|fail):aw P w0 M0 c s Q:=h hT hM ⟨q1,q2⟩
theorem AD (ns:List Nat)(q:z)(hT:fa P T:=by exact tb)(hM:HM w0 M0:=by exact ae)(h:Go P w0 M0 Q T ns [] [] [] (.code c) s z:=by first|exact gw|fail):aw P w0 M0 c s Q:=h hT hM q
theorem gV (ns ids oids:List Nat)(q:z)(hT:fa P T:=by exact tb)(hM:HM w0 M0:=by exact ae)(h:Go P w0 M0 Q T ns ids oids k (.code c) s z:=by first|exact gw|fail):aw P w0 M0 c s (toQ P w0 M0 Q k):=h hT hM q
theorem Ve (ns ids oids:List Nat)(q1:z1)(q2:z2)(hT:fa P T:=by exact tb)(hM:HM w0 M0:=by exact ae)(h:Go P w0 M0 Q T ns ids oids k (.code c) s (z1∧z2):=by first|exact gw|fail):aw P w0 M0 c s (toQ P w0 M0 Q k):=h hT hM ⟨q1,q2⟩
theorem oJ (ns:List Nat)(q:z)(hT:fa P T:=by exact tb)(hM:HM w0 M0:=by exact ae)(h:Go P w0 M0 Q T ns [] [] k (.code c) s z:=by first|exact gw|fail):aw P w0 M0 c s (toQ P w0 M0 Q k):=h hT hM q
theorem Yj {a:Array Oper}{r:List Oper}(ns ids oids:List Nat)(q:z)(hT:fa P T:=by exact tb)(hM:HM w0 M0:=by exact ae)(h:Go P w0 M0 Q T ns ids oids k (.ops a r) s z:=by first|exact gw|fail):kn P w0 M0 a (toQ P w0 M0 Q k .normal) r s:=h hT hM q
theorem GM {a:Array Oper}{r:List Oper}(ns:List Nat)(q:z)(hT:fa P T:=by exact tb)(hM:HM w0 M0:=by exact ae)(h:Go P w0 M0 Q T ns [] [] k (.ops a r) s z:=by first|exact gw|fail):kn P w0 M0 a (toQ P w0 M0 Q k .normal) r s:=h hT hM q
theorem hZ {e:Exit}(ns ids oids:List Nat)(q:z)(hT:fa P T:=by exact tb)(hM:HM w0 M0:=by exact ae)(h:Go P w0 M0 Q T ns ids oids k (.done e) s z:=by first|exact gw|fail):toQ P w0 M0 Q k e s:=h hT hM q
theorem wDS {e:Exit}(ns ids oids:List Nat)(q1:z1)(q2:z2)(hT:fa P T:=by exact tb)(hM:HM w0 M0:=by exact ae)(h:Go P w0 M0 Q T ns ids oids k (.done e) s (z1∧z2):=by first|exact gw|fail):toQ P w0 M0 Q k e s:=h hT hM ⟨q1,q2⟩
theorem Dn {e:Exit}(ns:List Nat)(q:z)(hT:fa P T:=by exact tb)(hM:HM w0 M0:=by exact ae)(h:Go P w0 M0 Q T ns [] [] k (.done e) s z:=by first|exact gw|fail):toQ P w0 M0 Q k e s:=h hT hM q
end
end Go.Am
namespace Go.Wb
open Go.Am
inductive Rx where
 | mk (kind:Int)(syms:List Int)(kids:List Rx)
def Rx.kind:Rx→Int|.mk k _ _=>k
def Rx.syms:Rx→List Int|.mk _ s _=>s
def Rx.kids:Rx→List Rx|.mk _ _ l=>l
instance:Inhabited Rx:=⟨.mk 0 [] []⟩
theorem Rx.eta (r:Rx):r=.mk r.kind r.syms r.kids:=by cases r;rfl
mutual
def Rx.av:Rx→AV
 | .mk k s l=>.agg [int k,ints s,.sl (Rx.gv l)]
def Rx.gv:List Rx→List AV
 | []=>[]
 | x :: l=>x.av :: Rx.gv l
end
def rx (r:Rx):AV:=.agg [int r.kind,ints r.syms,.sl (Rx.gv r.kids)]
abbrev jM (l:List Rx):AV:=.sl (l.map rx)
theorem VK (r:Rx):r.av=rx r:=by cases r with|mk k s l=>rw[Rx.av];rfl
theorem xR:∀ l:List Rx,Rx.gv l=l.map rx
 | []=>by rw[Rx.gv];rfl
 | x :: l=>by rw[Rx.gv,xR l,VK];rfl
theorem fy (r:Rx):rx r=.agg [int r.kind,ints r.syms,jM r.kids]:=by unfold rx;rw[xR]
abbrev wi (r:Rx):AV:=.pc [int r.kind,ints r.syms,jM r.kids] 0
mutual
def Rx.size:Rx→Nat
 | .mk _ s l=>1+s.length+Rx.aE l
def Rx.aE:List Rx→Nat
 | []=>0
 | x :: l=>x.size+Rx.aE l
end
theorem gB:∀ {l:List Rx}{x:Rx},x∈l→x.size≤Rx.aE l
 | y :: l, x, h => by
   rw[Rx.aE];rcases aa3.1 h with rfl|h
   · omega
   · have:=gB h;omega
variable{r x:Rx}
theorem dp (h:x∈r.kids):x.size<r.size:=by cases r with|mk k s l=>rw[Rx.size];have:=gB (l:=l) h;omega
theorem size_pos (r:Rx):1≤r.size:=by cases r with|mk k s l=>rw[Rx.size];omega
variable{i:Nat}
theorem aS {l:List Rx}(h:i<l.length):l.getD i default∈l:=by rw[aax,aaF h];exact abV h
theorem il (h:i<r.kids.length):(r.kids.getD i default).size<r.size:=dp (aS h)
theorem drop_cons {α:Type} [Inhabited α]{l:List α}{k:Nat}(h:k<l.length):l.drop k=l.getD k default :: l.drop (k+1):=by rw[ab4 h,aax,aaF h];rfl
theorem du:∀ l:List Rx,l.length≤Rx.aE l
 | []=>aaG _
 | x :: l=>by rw[Rx.aE,aaE];have:=du l;have:=size_pos x;omega
theorem size_eq (r:Rx):r.size=1+r.syms.length+Rx.aE r.kids:=by cases r with|mk k s l=>rw[Rx.size];rfl
theorem eJ (r:Rx):r.syms.length<r.size:=by rw[size_eq];omega
theorem ek (r:Rx):r.kids.length<r.size:=by rw[size_eq];have:=du r.kids;omega
theorem xS {l:List Rx}(h:i<l.length):Rx.aE (l.drop i)=(l.getD i default).size+Rx.aE (l.drop (i+1)):=by rw[drop_cons h,Rx.aE]
def wj (l:List Int)(j:Nat):Prop:=0≤l.getD j default∧l.getD j default<64∧(0<j→l.getD ((j:Int)-1).toNat default<l.getD j default)
instance (l:List Int)(j:Nat):Decidable (wj l j):=by unfold wj;exact inferInstance
def jV (l:List Int):Bool:=decide (0<l.length∧∀j,j<l.length→wj l j)
theorem Eb {l:List Int}{k:Nat}(hk:k<l.length)(h:¬wj l k):false=jV l:=by symm;unfold jV;rw[decide_eq_false_iff_not];exact fun q=>h (q.2 k hk)
theorem AE {l:List Int}(h:∀j,j<l.length→wj l j):jV l=decide (0<l.length):=by unfold jV;exact decide_eq_decide.2 ⟨fun q=>q.1,fun q=>⟨q,h⟩⟩
theorem cc {P:Nat→Prop}{k:Nat}(h:∀j,j<k→P j)(h2:P k):∀j,j<k+1→P j:=fun j hj=>by
 rcases Nat.lt_or_eq_of_le (Nat.lt_succ_iff.1 hj) with q|rfl
 ·exact h j q
 ·exact h2
def bS (a b:Int):Int:=if a<b then -1 else if b<a then 1 else 0
def nI (c d:Int):Int:=if c=0 then d else c
def bC:List Int→List Int→Int
 | [],[]=>0
 | [],_ :: _=>-1
 | _ :: _,[]=>1
 | x :: xs,y :: ys=>nI (bS x y) (bC xs ys)
mutual
def dt:Rx→Rx→Int
 | .mk k s l,b=>nI (bS k b.kind) (nI (bC s b.syms) (cL l b.kids))
def cL:List Rx→List Rx→Int
 | [],[]=>0
 | [],_ :: _=>-1
 | _ :: _,[]=>1
 | x :: xs,y :: ys=>nI (dt x y) (cL xs ys)
end
theorem tf (a b:Rx):dt a b=nI (nI (bS a.kind b.kind) (bC a.syms b.syms)) (cL a.kids b.kids):=by
 cases a with|mk k s l =>
 rw[dt];show _=nI (nI (bS k _) (bC s _)) (cL l _);unfold nI;split<;>simp_all
theorem pP {a b:List Int}{k:Nat}(ha:k<a.length)(hb:k<b.length):bC (a.drop k) (b.drop k)=nI (bS (a.getD k default) (b.getD k default)) (bC (a.drop (k+1)) (b.drop (k+1))):=by rw[drop_cons ha,drop_cons hb];rfl
theorem oK {a b:List Int}{k:Nat}(h:a.length≤k∨b.length≤k)(ha:k≤a.length)(hb:k≤b.length):bC (a.drop k) (b.drop k)=bS a.length b.length:=by
 unfold bS;rcases aa9 k a.length with h1|h1
 ·have h2:b.length≤k:=adh;rw[drop_cons h1,abM h2,if_neg adh,if_pos adh];rfl
 ·rw[abM h1];rcases aa9 k b.length with h2|h2
  ·rw[drop_cons h2,if_pos adh];rfl
  ·rw[abM h2,if_neg adh,if_neg adh];rfl
theorem sa {a b:List Rx}{k:Nat}(ha:k<a.length)(hb:k<b.length):cL (a.drop k) (b.drop k)=nI (dt (a.getD k default) (b.getD k default)) (cL (a.drop (k+1)) (b.drop (k+1))):=by rw[drop_cons ha,drop_cons hb,cL]
theorem qG {a b:List Rx}{k:Nat}(h:a.length≤k∨b.length≤k)(ha:k≤a.length)(hb:k≤b.length):cL (a.drop k) (b.drop k)=bS a.length b.length:=by
 unfold bS;rcases aa9 k a.length with h1|h1
 ·have h2:b.length≤k:=adh;rw[drop_cons h1,abM h2,if_neg adh,if_pos adh,cL]
 ·rw[abM h1];rcases aa9 k b.length with h2|h2
  ·rw[drop_cons h2,if_pos adh,cL]
  ·rw[abM h2,if_neg adh,if_neg adh,cL]
variable{c d:Int}
theorem mg (h:c=0):nI c d=d:=if_pos h
theorem Cd (h:¬c=0):nI c d=c:=if_neg h
variable{T:Int}
theorem Ik (h:T=nI c d)(hc:¬c=0):c=T:=by rw[h,Cd hc]
theorem Qh {a b:List Int}(h:T=nI c (bC (a.drop i) (b.drop i)))(hc:c=0)(ha:i≤a.length)(hb:i≤b.length)(hi:a.length≤i∨b.length≤i):bS a.length b.length=T:=by rw[h,mg hc,oK hi ha hb]
theorem Qi {a b:List Rx}(h:T=nI c (cL (a.drop i) (b.drop i)))(hc:c=0)(ha:i≤a.length)(hb:i≤b.length)(hi:a.length≤i∨b.length≤i):bS a.length b.length=T:=by rw[h,mg hc,qG hi ha hb]
theorem MT {a b:List Int}(h:T=nI c (bC (a.drop i) (b.drop i)))(hc:c=0)(ha:i<a.length)(hb:i<b.length):T=nI (bS (a.getD i default) (b.getD i default)) (bC (a.drop (i+1)) (b.drop (i+1))):=by rw[h,mg hc,pP ha hb]
theorem MU {a b:List Rx}(h:T=nI c (cL (a.drop i) (b.drop i)))(hc:c=0)(ha:i<a.length)(hb:i<b.length):T=nI (dt (a.getD i default) (b.getD i default)) (cL (a.drop (i+1)) (b.drop (i+1))):=by rw[h,mg hc,sa ha hb]
mutual
def aT:Rx→Bool
 | .mk k s l=>if k<0∨5<k then false else if k=2 then jV s&&decide (l.length=0) else
  if 0<s.length∨(k≤1∧0<l.length)∨(k=5∧l.length≠1) then false else lJ l
def lJ:List Rx→Bool
 | []=>true
 | x :: l=>aT x&&lJ l
end
theorem fL (r:Rx):aT r=if r.kind<0∨5<r.kind then false else if r.kind=2 then jV r.syms&&decide (r.kids.length=0) else
  if 0<r.syms.length∨(r.kind≤1∧0<r.kids.length)∨(r.kind=5∧r.kids.length≠1) then false else lJ r.kids:=by
 cases r with|mk k s l=>rw[aT];rfl
theorem im:∀ l:List Rx,lJ l=l.all aT
 | []=>by rw[lJ];rfl
 | x :: l=>by rw[lJ,im l];rfl
theorem GN {l:List Rx}(h:i<l.length)(hv:aT (l.getD i default)=false):lJ l=false:=by rw[im,List.all_eq_false];exact⟨_,aS h,by rw[hv];exact Bool.false_ne_true⟩
theorem Ed {l:List Rx}(h:∀j,j<l.length→aT (l.getD j default)=true):lJ l=true:=by rw[im,aa5];intro x hx;obtain⟨j,hj,rfl⟩:=abF hx;have:=h j hj;rwa [aax,aaF hj] at this
def eK {α:Type} [Inhabited α](p:α→Bool)(l:List α):Int:=if l.any p then(l.findIdx p:Nat) else -1
theorem Ce {α:Type} [Inhabited α]{p:α→Bool}{l:List α}(h:∀j,j<l.length→p (l.getD j default)=false):l.any p=false:=by rw[ab6];intro x hx;obtain⟨j,hj,rfl⟩:=abF hx;have:=h j hj;rw[aax,aaF hj] at this;exact fun q=>by rw[acI] at this;rw[q] at this;exact absurd this adj
theorem lU {α:Type} [Inhabited α]{p:α→Bool}{l:List α}(h:∀j,j<l.length→p (l.getD j default)=false):-1=eK p l:=by unfold eK;rw[Ce h];rfl
theorem nJ {α:Type} [Inhabited α]{p:α→Bool}{l:List α}{k:Nat}(hk:k<l.length)(h:∀j,j<k→p (l.getD j default)=false)(hp:p (l.getD k default)=true):(k:Int)=eK p l:=by
 have hg:l.getD k default=l[k]:=by rw[aax,aaF hk];rfl
 rw[hg] at hp;unfold eK;rw[if_pos (abk.2 ⟨_,abV hk,hp⟩)];have h1:l.findIdx p=k:=by
  refine(List.findIdx_eq hk).2 ⟨hp,fun j hj=>?_⟩;have:=h j hj;rwa [aax,aaF adh] at this
 rw[h1]
theorem wH {α:Type} [Inhabited α](p:α→Bool)(l:List α):decide (0≤eK p l)=l.any p:=by
 unfold eK;split
 ·rename_i h;rw[h];exact decide_eq_true adh
 ·rename_i h;rw[Bool.not_eq_true] at h;rw[h];rfl
mutual
def cT:Rx→Bool
 | .mk k _ l=>if k=3 then xT l else if k=4 then xU l else decide (k=1∨k=5)
def xT:List Rx→Bool
 | []=>true
 | x :: l=>cT x&&xT l
def xU:List Rx→Bool
 | []=>false
 | x :: l=>cT x||xU l
end
theorem AF:∀ l:List Rx,xT l=l.all cT
 | []=>by rw[xT];rfl
 | x :: l=>by rw[xT,AF l];rfl
theorem AG:∀ l:List Rx,xU l=l.any cT
 | []=>by rw[xU];rfl
 | x :: l=>by rw[xU,AG l];rfl
theorem qH (r:Rx):cT r=if r.kind=3 then r.kids.all cT else if r.kind=4 then r.kids.any cT else decide (r.kind=1∨r.kind=5):=by cases r with|mk k s l=>rw[cT,AF,AG];rfl
variable{p:Rx→Bool}
theorem TC {l:List Rx}(h:i<l.length)(hv:p (l.getD i default)=false):l.all p=false:=by rw[List.all_eq_false];exact⟨_,aS h,by rw[hv];exact Bool.false_ne_true⟩
theorem Qj {l:List Rx}(h:∀j,j<l.length→p (l.getD j default)=true):l.all p=true:=by rw[aa5];intro x hx;obtain⟨j,hj,rfl⟩:=abF hx;have:=h j hj;rwa [aax,aaF hj] at this
theorem Il {l:List Rx}(h:i<l.length)(hv:p (l.getD i default)=true):l.any p=true :=
 abk.2 ⟨_,aS h,hv⟩
theorem pQ (l:List Rx):l.all p=!(l.any fun x=>!p x):=by
 induction l with
 | nil=>rfl
 | cons x l ih=>rw[List.all_cons,List.any_cons,ih];cases p x<;>cases l.any _<;>rfl
theorem jG (h:r.kind=0∨r.kind=1):aT r=(decide (r.syms.length=0)&&decide (r.kids.length=0)):=by
 rw[fL,if_neg adh,if_neg adh];by_cases h1:r.syms.length=0<;>by_cases h2:r.kids.length=0
 ·rw[if_neg adh,decide_eq_true h1,decide_eq_true h2,im,List.length_eq_zero_iff.1 h2];rfl
 ·rw[if_pos adh,decide_eq_false h2,ab5]
 ·rw[if_pos adh,decide_eq_false h1,ab1]
 ·rw[if_pos adh,decide_eq_false h1,ab1]
theorem mh (h:r.kind=2):aT r=(decide (r.kids.length=0)&&jV r.syms):=by rw[fL,if_neg adh,if_pos h,Bool.and_comm]
theorem ja (h:r.kind=5):aT r=(decide (r.syms.length=0)&&(decide (r.kids.length=1)&&aT (r.kids.getD 0 default))):=by
 rw[fL,if_neg adh,if_neg adh];by_cases h1:r.syms.length=0<;>by_cases h2:r.kids.length=1
 ·rw[if_neg adh,decide_eq_true h1,decide_eq_true h2,im];obtain⟨x,hx⟩:=List.length_eq_one_iff.1 h2;rw[hx];simp
 ·rw[if_pos adh,decide_eq_false h2,ab1,ab5]
 ·rw[if_pos adh,decide_eq_false h1,ab1]
 ·rw[if_pos adh,decide_eq_false h1,ab1]
theorem lV (h:r.kind=3∨r.kind=4):aT r=(decide (r.syms.length=0)&&!(r.kids.any fun x=>!aT x)):=by
 rw[fL,if_neg adh,if_neg adh];by_cases h1:r.syms.length=0
 ·rw[if_neg adh,decide_eq_true h1,im,pQ,abS]
 ·rw[if_pos adh,decide_eq_false h1,ab1]
theorem ux (h:r.kind<0∨5<r.kind):aT r=false:=by rw[fL,if_pos h]
abbrev dO:Rx:=.mk 0 [] []
abbrev eP:Rx:=.mk 1 [] []
theorem bF {α:Type} [Inhabited α]{l:List α}(h:i<l.length):l.take (i+1)=l.take i++[l.getD i default]:=by rw[List.take_add_one,aax,aaF h];rfl
def cE (x:Rx):List Rx:=if x.kind=3 then x.kids else if x.kind=1 then[] else[x]
def ez (l:List Rx):List Rx:=l.flatMap cE
theorem uy {l:List Rx}(h:i<l.length):ez (l.take (i+1))=ez (l.take i)++cE (l.getD i default):=by rw[bF h,ez,acp];simp[ez]
theorem MV (x:Rx):(cE x).length≤x.size:=by
 unfold cE;have:=ek x;have:=size_pos x;split
 ·omega
 ·split<;>simp<;>omega
theorem Ee:∀ l:List Rx,(ez l).length≤Rx.aE l
 | []=>aaG _
 | x :: l => by
   have:=Ee l;have:=MV x;rw[Rx.aE];simp only[ez,abQ,aaM] at *;omega
theorem eo:∀ (l m:List Rx),Rx.aE (l++m)=Rx.aE l+Rx.aE m
 | [],m=>by rw[abH,Rx.aE,abL]
 | x :: l,m=>by rw[acg,Rx.aE,Rx.aE,eo l m];omega
theorem jm (l:List Rx)(i:Nat):Rx.aE (l.take i)+Rx.aE (l.drop i)=Rx.aE l:=by rw[←eo,abU]
theorem AH {l:List Rx}(h:i<l.length):(ez (l.take i)).length+(l.getD i default).kids.length+1≤Rx.aE l:=by have h1:=Ee (l.take i);have h2:=jm l i;have h3:=xS h;have h4:=ek (l.getD i default);omega
theorem iP (h:x.kind=3):cE x=x.kids:=if_pos h
theorem mi (h:x.kind=1):cE x=[]:=by unfold cE;rw[if_neg adh,if_pos h]
theorem ep (h:x.kind≠3)(h1:x.kind≠1):cE x=[x]:=by unfold cE;rw[if_neg h,if_neg h1]
def xV (k:List Rx):Rx:=if k.length=0 then eP else if k.length=1 then k.getD 0 default else .mk 3 [] k
def c4 (l:List Rx):Rx:=if l.any (fun x=>decide (x.kind=0)) then dO else xV (ez l)
theorem uz {l:List Rx}(h:i<l.length)(hk:(l.getD i default).kind=0):c4 l=dO:=by unfold c4;rw[if_pos (Il h (decide_eq_true hk))]
theorem nM {l:List Rx}(h:∀j,j<l.length→(l.getD j default).kind≠0):c4 l=xV (ez l):=by unfold c4;rw[Ce (p:=fun x:Rx=>decide (x.kind=0)) (l:=l) fun j hj=>decide_eq_false (h j hj)];rfl
variable{k:List Rx}
theorem GO (h:k.length=0):xV k=eP:=if_pos h
theorem GP (h:k.length=1):xV k=k.getD 0 default:=by unfold xV;rw[if_neg adh,if_pos h]
theorem sb (h:k.length≠0)(h1:k.length≠1):xV k=.mk 3 [] k:=by unfold xV;rw[if_neg h,if_neg h1]
theorem mT (k:Int)(s:List Int)(l:List Rx):rx (.mk k s l)=.agg [int k,ints s,jM l]:=fy _
def pR (x:Rx):Rx:=if x.kind=4∧(x.kids.getD 0 default).kind=1 then(if x.kids.length=2 then x.kids.getD 1 default else .mk x.kind x.syms (x.kids.drop 1)) else x
def lC (x:Rx):Rx:=if x.kind=0∨x.kind=1 then eP else if x.kind=5 then x else .mk 5 [] [pR x]
def MW:List Int→Int
 | []=>0
 | x :: l=>nI x (MW l)
theorem Ef {l:List Int}{k:Nat}(h:k<l.length):MW (l.drop k)=nI (l.getD k default) (MW (l.drop (k+1))):=by rw[drop_cons h];rfl
theorem AI (x:Int):bS x x=0:=by unfold bS;rw[if_neg adh,if_neg adh]
theorem uA {x y:Int}(h:x<y):bS x y=-1:=if_pos h
theorem AJ {x y:Int}(h:y<x):bS x y=1:=by unfold bS;rw[if_neg adh,if_pos h]
theorem Im (a b:Rx):MW [bS a.kind b.kind,bC a.syms b.syms,cL a.kids b.kids]=dt a b:=by
 rw[tf];unfold MW MW MW MW nI;repeat' split
 all_goals first|rfl|(simp_all;done)|omega
def eA {α:Type} [Inhabited α](eq:α→α→Bool)(l:List α):Nat→List α
 | 0=>[]
 | i+1=>if 0<i∧eq (l.getD i default) (l.getD (i-1) default)=true then eA eq l i else eA eq l i++[l.getD i default]
def sJ {α:Type} [Inhabited α](eq:α→α→Bool)(l:List α):List α:=eA eq l l.length
variable{j:Nat}
section
variable {α:Type} [Inhabited α]{eq:α→α→Bool}{l:List α}
theorem Eg (i:Nat):(eA eq l i).length≤i:=by
 induction i with
 | zero=>exact aaD _
 | succ i ih =>
   rw[eA];split
   · omega
   · rw[aaM,abD];omega
theorem nN (h0:0<i)(h:eq (l.getD i default) (l.getD (i-1) default)=true):eA eq l (i+1)=eA eq l i:=by rw[eA,if_pos ⟨h0,h⟩]
theorem Eh (h:eq (l.getD i default) (l.getD (i-1) default)=false):eA eq l (i+1)=eA eq l i++[l.getD i default]:=by rw[eA,if_neg (fun q=>by rw[h] at q;exact absurd q.2 adj)]
theorem tg:eA eq l 1=[l.getD 0 default]:=by rw[eA,if_neg adh];rfl
theorem uB (h:l.length<2):sJ eq l=l:=by
 match l,h with
 | [],_=>rfl
 | [x],_=>exact tg
theorem uC (hi:i<l.length)(h:eA eq l i=l.take i)(hn:eq (l.getD i default) (l.getD (i-1) default)=false):eA eq l (i+1)=l.take (i+1):=by rw[Eh hn,h,bF hi]
theorem Ei {ys:List α}{k:Nat}{v:α}(h:k<ys.length):(ys.set k v).getD k default=v:=by rw[aax,ab9 h];rfl
theorem lK {ys:List α}{k:Nat}{v:α}(h:k≠j):(ys.set k v).getD j default=ys.getD j default:=by rw[aax,ace h,aax]
theorem rC {ys:List α}{k:Nat}{v:α}(h:k<ys.length):(ys.set k v).take (k+1)=ys.take k++[v]:=by rw[bF (by simpa using h),Ei h,List.take_set_of_le (aaD _)]
theorem Cg {ys:List α}{k q:Nat}(hk:k<ys.length)(h:eA eq l (q+j)=ys.take k)(hn:eq (l.getD (q+j) default) (l.getD (q+j-1) default)=false):eA eq l (q+(j+1))=(ys.set k (l.getD (q+j) default)).take (k+1):=by rw[←Nat.add_assoc,Eh hn,h,rC hk]
theorem xW {ys:List α}{k q:Nat}(h0:0<q+j)(h:eA eq l (q+j)=ys.take k)(hn:eq (l.getD (q+j) default) (l.getD (q+j-1) default)=true):eA eq l (q+(j+1))=ys.take k:=by rw[←Nat.add_assoc,nN h0 hn,h]
theorem Ch {f:α→AV}{ys:List α}{X:List AV}{k n:Nat}(hk:k≤ys.length)(hn:n=l.length)(h:eA eq l n=ys.take k):((ys.map f).take k++X).take k=(sJ eq l).map f:=by subst hn;rw[List.take_append_of_le_length (by simp;omega),List.take_take,Nat.min_self,←List.map_take,←h];rfl
theorem Ci {n:Nat}(hn:n=l.length)(h:eA eq l n=l.take n):sJ eq l=l:=by subst hn;unfold sJ;rw[h,abK]
end
def oM (x:Rx):List Rx:=if x.kind=4 then x.kids else[x]
def aX (l:List Rx):List Rx:=l.flatMap oM
def oO (s:List Int)(x:Rx):List Int:=if x.kind=2 then s++x.syms else s
def fZ (k:List Rx)(x:Rx):List Rx:=if x.kind=0∨x.kind=2 then k else k++[x]
def df (l:List Rx):List Int:=l.foldl oO []
def fe (l:List Rx):List Rx:=l.foldl fZ []
theorem nO {l:List Rx}(h:i<l.length):aX (l.take (i+1))=aX (l.take i)++oM (l.getD i default):=by rw[bF h,aX,acp];simp[aX]
theorem iI {α:Type}(f:α→AV)(l:List α)(z:AV):(l.map f++[z])[l.length]?=some z:=by rw[aa6 (by simp)];simp
theorem xX {α:Type}{f:α→AV}{l:List α}{z:AV}{v:α}:(l.map f++[z]).set l.length (f v)=(l++[v]).map f:=by rw[List.set_append_right _ _ (by simp),aaA,acM,aaK];rfl
variable{s:List Int}
theorem uD (h:x.kind=2):oO s x=s++x.syms:=if_pos h
theorem pS (h:x.kind≠2):oO s x=s:=if_neg h
theorem GQ (h:x.kind=0∨x.kind=2):fZ k x=k:=if_pos h
theorem MX (h:¬(x.kind=0∨x.kind=2)):fZ k x=k++[x]:=if_neg h
theorem xY (a b:Int):bS b a=- bS a b:=by
 unfold bS;repeat' split
 all_goals omega
variable{a b:Int}
theorem mU (h:bS a b=0):a=b:=by
 unfold bS at h;repeat' split at h
 all_goals omega
theorem th (h:bS a b<0)(h':bS b c<0):bS a c<0:=by
 unfold bS at *;have h1:a<b:=by
  by_cases q:a<b
  ·exact q
  ·rw[if_neg q] at h;split at h<;>omega
 have h2:b<c:=by
  by_cases q:b<c
  ·exact q
  ·rw[if_neg q] at h';split at h'<;>omega
 rw[if_pos adh];decide
theorem wI (h:b=-a)(h':d=-c):nI b d=- nI a c:=by
 unfold nI;subst h;subst h';by_cases q:a=0
 ·rw[if_pos adh,if_pos q]
 ·rw[if_neg adh,if_neg q]
theorem qI (h:nI a b=0):a=0∧b=0:=by
 unfold nI at h;by_cases q:a=0
 ·rw[if_pos q] at h;exact⟨q,h⟩
 ·rw[if_neg q] at h;exact absurd h q
theorem qJ {α β:Type}{f:α→α→Int}{g:β→β→Int}{a b c:α}{x y z:β}(hz:∀a b,f a b=0→a=b)(hft:f a b<0→f b c<0→f a c<0)(hgt:g x y<0→g y z<0→g x z<0)
  (h:nI (f a b) (g x y)<0)(h':nI (f b c) (g y z)<0):nI (f a c) (g x z)<0:=by
 unfold nI at *;by_cases q1:f a b=0
 ·have:=hz _ _ q1;subst this;rw[if_pos q1] at h;by_cases q2:f a c=0
  ·rw[if_pos q2] at h' ⊢;exact hgt h h'
  ·rw[if_neg q2] at h' ⊢;exact h'
 ·rw[if_neg q1] at h;by_cases q2:f b c=0
  ·have:=hz _ _ q2;subst this;rw[if_neg q1];exact h
  ·rw[if_neg q2] at h';have:=hft h h';rw[if_neg adh];exact this
theorem kv:∀ a b:List Int,bC b a=- bC a b
 | [],[]=>rfl
 | [],_ :: _=>rfl
 | _ :: _,[]=>rfl
 | x :: xs,y :: ys=>wI (xY x y) (kv xs ys)
theorem mV:∀ a b:List Int,bC a b=0→a=b
 | [],[],_=>rfl
 | [],_ :: _,h=>absurd (show(-1:Int)=0 from h) adj
 | _ :: _,[],h=>absurd (show(1:Int)=0 from h) adj
 | x :: xs, y :: ys, h => by
   obtain⟨h1,h2⟩:=qI h;rw[mU h1,mV xs ys h2]
theorem jW:∀ a b c:List Int,bC a b<0→bC b c<0→bC a c<0
 | [],[],c,h,_=>absurd h adj
 | _ :: _,[],c,h,_=>absurd (show(1:Int)<0 from h) adj
 | a,_ :: _,[],_,h=>absurd (show(1:Int)<0 from h) adj
 | [],_ :: _,_ :: _,_,_=>show(-1:Int)<0 by decide
 | x :: xs,y :: ys,z :: zs,h,h'=>qJ (f:=bS) (g:=bC) (fun _ _=>mU) th (jW xs ys zs) h h'
mutual
theorem kX:∀ a b:Rx,dt b a=- dt a b
 | .mk k s l, .mk k' s' l' => by
   rw[dt,dt];exact wI (xY k k') (wI (kv s s') (AK l l'))
theorem AK:∀ a b:List Rx,cL b a=- cL a b
 | [],[]=>by rw[cL];rfl
 | [],_ :: _=>by rw[cL,cL];rfl
 | _ :: _,[]=>by rw[cL,cL]
 | x :: xs, y :: ys => by
   rw[cL,cL];exact wI (kX x y) (AK xs ys)
end
mutual
theorem iJ:∀ a b:Rx,dt a b=0→a=b
 | .mk k s l, .mk k' s' l', h => by
   rw[dt] at h;obtain⟨h1,h2⟩:=qI h;obtain⟨h2,h3⟩:=qI h2;rw[mU h1,mV _ _ h2,xZ _ _ h3];rfl
theorem xZ:∀ a b:List Rx,cL a b=0→a=b
 | [],[],_=>rfl
 | [],_ :: _,h=>by rw[cL] at h;exact absurd h adj
 | _ :: _,[],h=>by rw[cL] at h;exact absurd h adj
 | x :: xs, y :: ys, h => by
   rw[cL] at h;obtain⟨h1,h2⟩:=qI h;rw[iJ x y h1,xZ xs ys h2]
end
mutual
theorem kx:∀ a b c:Rx,dt a b<0→dt b c<0→dt a c<0
 | .mk k s l, .mk k' s' l', .mk k'' s'' l'', h, h' => by
   rw[dt] at h h' ⊢;refine qJ (f:=bS) (g:=fun(p q:List Int×List Rx)=>nI (bC p.1 q.1) (cL p.2 q.2)) (x:=(s,l)) (y:=(s',l')) (z:=(s'',l'')) (fun _ _=>mU) th ?_ h h';exact fun g g'=>qJ (f:=bC) (g:=cL) mV (jW _ _ _) (vA l l' l'') g g'
theorem vA:∀ a b c:List Rx,cL a b<0→cL b c<0→cL a c<0
 | [],[],c,h,_=>by rw[cL] at h;exact absurd h adj
 | _ :: _,[],c,h,_=>by rw[cL] at h;exact absurd h adj
 | a,_ :: _,[],_,h=>by rw[cL] at h;exact absurd h adj
 | [],_ :: _,_ :: _,_,_=>by rw[cL];decide
 | x :: xs, y :: ys, z :: zs, h, h' => by
   rw[cL] at h h' ⊢;exact qJ (f:=dt) (g:=cL) iJ (kx x y z) (vA xs ys zs) h h'
end
theorem AL (a:Rx):dt a a=0:=by have:=kX a a;omega
theorem x4 (a:Rx):¬dt a a<0:=by rw[AL];decide
theorem Ej {a b:Rx}(h:¬dt a b<0)(h':¬dt b a<0):a=b:=iJ a b (by have:=kX a b;omega)
def dg (l:List Rx):List Int:=df (aX l)
def ee (l:List Rx):List Rx:=fe (aX l)
section
variable {α:Type} {le:α→α→Bool}
def J9 (le:α→α→Bool)(x:α):List α→List α
 | []=>[x]
 | y :: l=>if le x y=true then x :: y :: l else y :: J9 le x l
def uE (le:α→α→Bool):List α→List α
 | []=>[]
 | x :: l=>J9 le x (uE le l)
theorem uF (x:α):∀l:List α,(J9 le x l).Perm (x :: l)
 | []=>.refl _
 | y :: l => by
   rw[J9];split
   · exact .refl _
   · exact((uF x l).cons y).trans (.swap x y l)
theorem jv:∀ l:List α,(uE le l).Perm l
 | []=>.refl _
 | x :: l=>(uF x _).trans ((jv l).cons x)
theorem Io (tr:∀a b c,le a b=true→le b c=true→le a c=true)(to:∀a b,(le a b||le b a)=true)(x:α):∀{l:List α},(l.Pairwise fun x y=>le x y=true)→(J9 le x l).Pairwise fun x y=>le x y=true
 | [],_=>aci _ _
 | y :: l, h => by
   have h':=abt.1 h;rw[J9];split
   · next hxy=>exact abt.2 ⟨fun z hz=>(aa3.1 hz).elim (fun e=>by rw[e];exact hxy) fun hz=>tr _ _ _ hxy (h'.1 z hz),h⟩
   · next hxy =>
     have hyx:le y x=true:=by have:=to x y;rw[abC] at this;exact this.elim (fun q=>absurd q hxy) id
     refine abt.2 ⟨fun z hz=>?_,Io tr to x h'.2⟩;rcases aa3.1 ((uF x l).mem_iff.1 hz) with e|hz
     · rw[e];exact hyx
     · exact h'.1 z hz
theorem tj (tr:∀a b c,le a b=true→le b c=true→le a c=true)(to:∀a b,(le a b||le b a)=true):∀l:List α,(uE le l).Pairwise fun x y=>le x y=true
 | []=>.nil
 | x :: l=>Io tr to x (tj tr to l)
theorem vB (an:∀a b,le a b=true→le b a=true→a=b):∀{l m:List α},l.Perm m→(l.Pairwise fun x y=>le x y=true)→(m.Pairwise fun x y=>le x y=true)→l=m
 | [],m,h,_,_=>(List.nil_perm.1 h).symm
 | x :: l,[],h,_,_=>absurd h.length_eq (by simp)
 | x :: l, y :: m, h, h1, h2 => by
   have h1':=abt.1 h1;have h2':=abt.1 h2;have e:x=y:=by
     rcases aa3.1 (h.mem_iff.1 aaJ) with q|q
     · exact q
     · rcases aa3.1 (h.mem_iff.2 aaJ) with q' | q'
       · exact q'.symm
       · exact an _ _ (h1'.1 y q') (h2'.1 x q)
   subst e;rw[vB an (List.Perm.cons_inv h) h1'.2 h2'.2]
theorem vC (tr:∀a b c,le a b=true→le b c=true→le a c=true)(to:∀a b,(le a b||le b a)=true)(an:∀a b,le a b=true→le b a=true→a=b)(l:List α):l.mergeSort le=uE le l :=
 vB an ((List.mergeSort_perm l le).trans (jv l).symm) (List.pairwise_mergeSort tr to l) (tj tr to l)
end
abbrev rh (x y:Rx):Bool:=!decide (dt y x<0)
abbrev Ge (x y:Int):Bool:=decide (x≤y)
def jH (s:List Int):List Int:=uE Ge s
def jX (k:List Rx):List Rx:=uE rh k
variable{y:Rx}
theorem oQ :rh x y=true↔dt x y≤0:=by have:=kX x y;show(!decide (dt y x<0))=true↔_;rw[abw,decide_eq_false_iff_not];omega
theorem x5 (a b:Rx)(h:rh a b=true)(h':rh b a=true):a=b:=iJ _ _ (by have:=oQ.1 h;have:=oQ.1 h';have:=kX a b;omega)
theorem MY (a b c:Rx)(h:rh a b=true)(h':rh b c=true):rh a c=true:=by
 rw[oQ] at *;by_cases h1:dt a b=0
 ·rw[iJ _ _ h1];exact h'
 ·by_cases h2:dt b c=0
  ·rw[←iJ _ _ h2];exact h
  ·exact Int.le_of_lt (kx a b c adh adh)
theorem MZ (a b:Rx):(rh a b||rh b a)=true:=by rw[abC,oQ,oQ];have:=kX a b;omega
theorem uG (a b:Int)(h:Ge a b=true)(h':Ge b a=true):a=b:=by have:=of_decide_eq_true h;have:=of_decide_eq_true h';omega
theorem M3 (a b c:Int)(h:Ge a b=true)(h':Ge b c=true):Ge a c=true:=by have:=of_decide_eq_true h;have:=of_decide_eq_true h';exact decide_eq_true adh
theorem M4 (a b:Int):(Ge a b||Ge b a)=true:=by rw[abC,decide_eq_true_eq,decide_eq_true_eq];omega
theorem vD (k:List Rx):(k.mergeSort fun x y=>!decide (dt y x<0))=jX k:=vC MY MZ x5 k
theorem vE (s:List Int):(s.mergeSort fun x y=>decide (x≤y))=jH s:=vC M3 M4 uG s
abbrev PM (x y:Int):Bool:=decide (x=y)
abbrev Ip (x y:Rx):Bool:=decide (dt x y=0)
def j8 (s:List Int)(k:List Rx):List Rx:=if 0<s.length then k++[.mk 2 (sJ PM (jH s)) []] else k
def ef (l:List Rx):List Rx:=sJ Ip (jX (j8 (dg l) (ee l)))
def j9 (k:List Rx):List Rx:=if 1<k.length∧(k.getD 0 default).kind=1∧(k.drop 1).any cT=true then k.drop 1 else k
def wk (k:List Rx):Rx:=if k.length=0 then dO else if k.length=1 then k.getD 0 default else .mk 4 [] k
def gZ (l:List Rx):Rx:=wk (j9 (ef l))
theorem GR (h:k.length=0):wk k=dO:=if_pos h
theorem Cj (h:k.length=1):wk k=k.getD 0 default:=by unfold wk;rw[if_neg adh,if_pos h]
theorem x6 (h:k.length≠0)(h1:k.length≠1):wk k=.mk 4 [] k:=by unfold wk;rw[if_neg h,if_neg h1]
theorem x7 (h:1<k.length)(h1:(k.getD 0 default).kind=1)(h2:(k.drop 1).any cT=true):j9 k=k.drop 1:=if_pos ⟨h,h1,h2⟩
theorem mj (h:¬(1<k.length∧(k.getD 0 default).kind=1∧(k.drop 1).any cT=true)):j9 k=k:=if_neg h
theorem M5 (h:0<s.length):j8 s k=k++[.mk 2 (sJ PM (jH s)) []]:=if_pos h
theorem M6 (h:¬0<s.length):j8 s k=k:=if_neg h
theorem gS (h:x.kind=4):oM x=x.kids:=if_pos h
theorem jx (h:x.kind≠4):oM x=[x]:=if_neg h
theorem qK (l:List Rx)(x:Rx):df (l++[x])=oO (df l) x:=by unfold df;rw[ab2];rfl
theorem qL (l:List Rx)(x:Rx):fe (l++[x])=fZ (fe l) x:=by unfold fe;rw[ab2];rfl
variable{m:List Rx}
theorem AM {l:List Rx}(h:j<l.length):df (m++l.take (j+1))=oO (df (m++l.take j)) (l.getD j default):=by rw[bF h,←abr,qK]
theorem AN {l:List Rx}(h:j<l.length):fe (m++l.take (j+1))=fZ (fe (m++l.take j)) (l.getD j default):=by rw[bF h,←abr,qL]
theorem M7 (l:List Rx):∀m:List Rx,(df (m++l)).length+Rx.aE (fe (m++l))≤(df m).length+Rx.aE (fe m)+Rx.aE l:=by
 induction l with
 | nil=>intro m;rw[abe];omega
 | cons x l ih =>
   intro m;have h:=ih (m++[x]);rw[abr,List.singleton_append,qK,qL] at h;rw[Rx.aE];have h1:(oO (df m) x).length+Rx.aE (fZ (fe m) x)≤(df m).length+Rx.aE (fe m)+x.size:=by
     unfold oO fZ;have:=eJ x;by_cases h2:x.kind=2
     · rw[if_pos h2,if_pos (.inr h2),aaM];omega
     · rw [if_neg h2]
       split
       · omega
       · rw[eo,Rx.aE,Rx.aE];omega
   omega
theorem wJ (l:List Rx):(df l).length+Rx.aE (fe l)≤Rx.aE l:=by
 have:=M7 l [];rw[abH] at this;have h1:(df []).length+Rx.aE (fe [])=0:=by rfl
 omega
theorem ky:∀ l:List Rx,Rx.aE (aX l)≤Rx.aE l
 | []=>aaD _
 | x :: l => by
   have:=ky l;have e:aX (x :: l)=oM x++aX l:=rfl;rw[e,eo,Rx.aE];have h:Rx.aE (oM x)≤x.size:=by
     unfold oM;split
     · rw[size_eq];omega
     · rw[Rx.aE,Rx.aE];omega
   omega
theorem gN (l:List Rx)(i:Nat):Rx.aE (l.take i)≤Rx.aE l:=by have:=jm l i;omega
theorem x8 {l:List Rx}(h:l.Perm m):Rx.aE l=Rx.aE m:=by
 induction h with
 | nil=>rfl
 | cons x _ ih=>rw[Rx.aE,Rx.aE,ih]
 | swap x y l=>rw[Rx.aE,Rx.aE,Rx.aE,Rx.aE];omega
 | trans _ _ h1 h2=>omega
theorem M8 {α:Type} [Inhabited α]{eq:α→α→Bool}{l:List α}{x:α}:∀i,i≤l.length→x∈eA eq l i→x∈l:=by
 intro i
 induction i with
 | zero=>intro _ h;cases h
 | succ i ih =>
   intro hi h;rw[eA] at h;split at h
   · exact ih adh h
   · rcases abl.1 h with h | h
     · exact ih adh h
     · rw [aaY] at h
       subst h;rw[aax,aaF adh];exact abV adh
theorem Qk {α:Type} [Inhabited α]{eq:α→α→Bool}{l:List α}{x:α}(h:x∈sJ eq l):x∈l:=M8 _ (aaD _) h
theorem wL {α:Type} [Inhabited α]{eq:α→α→Bool}{l:List α}:(sJ eq l).length≤l.length:=Eg _
abbrev Yk (r:Rx):List AV:=[int r.kind,ints r.syms,.sl (Rx.gv r.kids)]
theorem M9 (l:List Rx):(dg l).length+Rx.aE (ee l)≤Rx.aE l:=abb (wJ _) (ky l)
theorem qM (s:List Int):(jH s).length=s.length:=(jv s).length_eq
theorem qN (k:List Rx):(jX k).length=k.length:=(jv k).length_eq
theorem lW :x∈jX k↔x∈k:=(jv k).mem_iff
theorem x9 (s:List Int)(k:List Rx):Rx.aE (j8 s k)≤1+s.length+Rx.aE k:=by
 unfold j8;split
 ·rw[eo,Rx.aE,Rx.aE,Rx.size,Rx.aE];have:=wL (eq:=PM) (l:=jH s);rw[qM] at this;omega
 ·omega
theorem tk {l:List Rx}(h:x∈ef l):x∈j8 (dg l) (ee l):=lW.1 (Qk h)
theorem wM (h:x.kind=0∨x.kind=1):lC x=eP:=if_pos h
theorem wN (h:x.kind=5):lC x=x:=by unfold lC;rw[if_neg adh,if_pos h]
theorem oR (h:¬(x.kind=0∨x.kind=1))(h5:x.kind≠5):lC x=.mk 5 [] [pR x]:=by unfold lC;rw[if_neg h,if_neg h5]
theorem qO (h:¬(x.kind=4∧(x.kids.getD 0 default).kind=1)):pR x=x:=if_neg h
theorem wO (h:x.kind=4∧(x.kids.getD 0 default).kind=1)(h2:x.kids.length=2):pR x=x.kids.getD 1 default:=by unfold pR;rw[if_pos h,if_pos h2]
theorem wQ (h:x.kind=4∧(x.kids.getD 0 default).kind=1)(h2:x.kids.length≠2):pR x=.mk x.kind x.syms (x.kids.drop 1):=by unfold pR;rw[if_pos h,if_neg h2]
theorem ya {α:Type} [Inhabited α]{l:List α}:(l.drop 1).getD 0 default=l.getD 1 default:=by cases l<;>simp
theorem Iq (y:Rx):jM [y]=.sl [rx y]:=rfl
theorem TD (x:Rx)(l:List Rx):rx (.mk x.kind x.syms l)=.agg [int x.kind,ints x.syms,jM l]:=fy _
mutual
def aN (t:Bool):Rx→Rx
 | .mk k s l=>if k=3 then c4 (if t then(mW t l).reverse else mW t l) else if k=4 then gZ (mW t l) else if k=5 then lC ((mW t l).getD 0 default) else .mk k s []
def mW (t:Bool):List Rx→List Rx
 | []=>[]
 | x :: l=>aN t x :: mW t l
end
theorem vF (t:Bool):∀l:List Rx,mW t l=l.map (aN t)
 | []=>by rw[mW];rfl
 | x :: l=>by rw[mW,vF t l];rfl
theorem nP (t:Bool)(r:Rx):aN t r=if r.kind=3 then c4 (if t then(r.kids.map (aN t)).reverse else r.kids.map (aN t)) else if r.kind=4 then gZ (r.kids.map (aN t)) else
  if r.kind=5 then lC ((r.kids.map (aN t)).getD 0 default) else .mk r.kind r.syms []:=by
 cases r with|mk k s l=>rw[aN,vF];rfl
theorem lX (h:r.kind=3):aN false r=c4 (r.kids.map (aN false)):=by rw[nP,if_pos h];rfl
theorem nQ (h:r.kind=3):aN true r=c4 (r.kids.map (aN true)).reverse:=by rw[nP,if_pos h];rfl
theorem AO {t:Bool}(h:r.kind=3)(ht:t=true):aN t r=c4 (r.kids.map (aN t)).reverse:=by rw[ht];exact nQ h
theorem AP {t:Bool}(h:r.kind=3)(ht:t=false):aN t r=c4 (r.kids.map (aN t)):=by rw[ht];exact lX h
theorem kY {t:Bool}(h:r.kind=4):aN t r=gZ (r.kids.map (aN t)):=by rw[nP,if_neg adh,if_pos h]
theorem kZ {t:Bool}(h:r.kind=5):aN t r=lC ((r.kids.map (aN t)).getD 0 default):=by rw[nP,if_neg adh,if_neg adh,if_pos h]
theorem jY {t:Bool}(h:r.kind≠3)(h4:r.kind≠4)(h5:r.kind≠5):aN t r=.mk r.kind r.syms []:=by rw[nP,if_neg h,if_neg h4,if_neg h5]
theorem getD_map {α β:Type} [Inhabited α] [Inhabited β]{f:α→β}{l:List α}(h:i<l.length):(l.map f).getD i default=f (l.getD i default):=by rw[aax,aaI,aax,aaF h];rfl
section
variable {α:Type} [Inhabited α]{le eq:α→α→Bool}
def pT (le:α→α→Bool)(l:List α):Prop:=l.Pairwise fun x y=>le x y=true∧x≠y
theorem qP (an:∀a b,le a b=true→le b a=true→a=b):∀{l m:List α},pT le l→pT le m→(∀x,x∈l↔x∈m)→l=m
 | [],[],_,_,_=>rfl
 | [],y :: m,_,_,h=>absurd ((h y).2 aaJ) (by simp)
 | x :: l,[],_,_,h=>absurd ((h x).1 aaJ) (by simp)
 | x :: l, y :: m, hl, hm, h => by
   have hl':=abt.1 hl;have hm':=abt.1 hm;have e:x=y:=by
     rcases aa3.1 ((h x).1 aaJ) with q|q
     · exact q
     · rcases aa3.1 ((h y).2 aaJ) with q' | q'
       · exact q'.symm
       · exact an _ _ (hl'.1 _ q').1 (hm'.1 _ q).1
   subst e;rw[qP an hl'.2 hm'.2 fun z=>⟨fun hz=>?_,fun hz=>?_⟩]
   · rcases aa3.1 ((h z).1 (aaW _ hz)) with q | q
     · exact absurd q.symm (hl'.1 _ hz).2
     · exact q
   · rcases aa3.1 ((h z).2 (aaW _ hz)) with q | q
     · exact absurd q.symm (hm'.1 _ hz).2
     · exact q
theorem dB {l:List α}(h:i<l.length):l.getD i default=l[i]:=by rw[aax,aaF h];rfl
theorem jI {R:α→α→Prop}{l:List α}(h:l.Pairwise R)(hij:i<j)(hj:j<l.length):R (l.getD i default) (l.getD j default):=by rw[dB adh,dB hj];exact acr.1 h i j adh hj hij
theorem rD {l:List α}{a:α}(h:a∈l.take i):∃j,j<i∧j<l.length∧a=l.getD j default:=by obtain⟨j,hj,e⟩:=abF h;rw[aaO] at hj;refine⟨j,adh,adh,?_⟩;rw[dB adh,←e,List.getElem_take]
theorem getD_mem_take {l:List α}(h:j<i)(hj:j<l.length):l.getD j default∈l.take i:=by rw[dB hj];exact List.mem_take_iff_getElem.2 ⟨j,adh,rfl⟩
theorem Ek (an:∀a b,le a b=true→le b a=true→a=b)(heq:∀a b,eq a b=true↔a=b){l:List α}(h:l.Pairwise fun x y=>le x y=true) :
   ∀i,i≤l.length→pT le (eA eq l i)∧∀x,x∈eA eq l i↔x∈l.take i
 | 0,_=>⟨.nil,fun x=>by simp[eA]⟩
 | i + 1, hi => by
   obtain⟨h1,h2⟩:=Ek an heq h i adh;by_cases q:0<i∧eq (l.getD i default) (l.getD (i-1) default)=true
   · rw [nN q.1 q.2]
     refine⟨h1,fun x=>?_⟩;rw[h2,bF adh,abl,aaY];refine⟨.inl,fun hx=>hx.elim id fun hx=>?_⟩;rw[hx,(heq _ _).1 q.2];exact getD_mem_take adh adh
   · rw [eA, if_neg q]
     refine⟨List.pairwise_append.2 ⟨h1,aci _ _,fun a ha b hb=>?_⟩,fun x=>by rw[bF adh,abl,abl,h2]⟩;rw[aaY] at hb;subst hb;obtain⟨j,hj,hj',rfl⟩:=rD ((h2 a).1 ha);refine⟨jI h hj adh,fun e=>q ⟨adh,(heq _ _).2 ?_⟩⟩;by_cases e1:j=i-1
     · rw[←e1];exact e.symm
     · refine an _ _ ?_ (jI h adh adh)
       rw[←e];exact jI h adh adh
theorem wR (an:∀a b,le a b=true→le b a=true→a=b)(heq:∀a b,eq a b=true↔a=b){l:List α}(h:l.Pairwise fun x y=>le x y=true) :
  pT le (sJ eq l)∧∀x,x∈sJ eq l↔x∈l:=by
 have h1:=Ek an heq h l.length (aaD _);rw[abK] at h1;exact h1
end
theorem Ir (a b:Rx):Ip a b=true↔a=b:=by show decide _=true↔_;rw[decide_eq_true_eq];exact⟨iJ _ _,fun e=>by rw[e,AL]⟩
def TE (k:List Rx):List Rx:=sJ Ip (jX k)
def uH (s:List Int):List Int:=sJ PM (jH s)
theorem El (k:List Rx):(jX k).Pairwise fun x y=>rh x y=true:=tj MY MZ k
theorem Em (s:List Int):(jH s).Pairwise fun x y=>Ge x y=true:=tj M3 M4 s
theorem pU (k:List Rx):pT rh (TE k):=(wR x5 Ir (El k)).1
theorem jZ :x∈TE k↔x∈k:=((wR x5 Ir (El k)).2 x).trans lW
theorem pV (s:List Int):pT Ge (uH s):=(wR uG (fun a b=>decide_eq_true_iff) (Em s)).1
theorem Ka {x:Int}:x∈jH s↔x∈s:=(jv s).mem_iff
theorem k6 {x:Int}:x∈uH s↔x∈s:=((wR uG (fun a b=>decide_eq_true_iff) (Em s)).2 x).trans Ka
theorem Na {t:List Int}(h:∀x,x∈s↔x∈t):uH s=uH t:=qP uG (pV s) (pV t) fun x=>by rw[k6,k6];exact h x
theorem Kb (h:pT Ge s):uH s=s:=qP uG (pV s) h fun x=>k6
theorem jJ :jV s=true↔0<s.length∧pT Ge s∧∀x∈s,0≤x∧x<64:=by
 unfold jV;rw[decide_eq_true_eq];refine⟨fun⟨h0,h⟩=>⟨h0,?_,fun x hx=>?_⟩,fun⟨h0,h1,h2⟩=>⟨h0,fun j hj=>?_⟩⟩
 · have hlt : ∀ (n i j : Nat), j = i + n + 1 → j < s.length → s.getD i default < s.getD j default := by
     intro n
     induction n with
     | zero =>
       intro i j e hj;have:=(h j hj).2.2 adh;rwa [show((j:Int)-1).toNat=i by omega] at this
     | succ n ih =>
       intro i j e hj;have h1:=ih i (j-1) adh adh;have:=(h j hj).2.2 adh;rw[show((j:Int)-1).toNat=j-1 by omega] at this;omega
   refine acr.2 fun i j hi hj hij=>?_
   have:=hlt (j-i-1) i j adh hj;rw[dB hi,dB hj] at this;exact⟨decide_eq_true adh,adh⟩
 · obtain ⟨j, hj, e⟩ := abF hx
   have:=h j hj;unfold wj at this;rw[dB hj,e] at this;exact⟨this.1,this.2.1⟩
 · unfold wj
   refine⟨(h2 _ (by rw[dB hj];exact abV hj)).1,(h2 _ (by rw[dB hj];exact abV hj)).2,fun q=>?_⟩;have h3:=jI h1 (i:=((j:Int)-1).toNat) (j:=j) adh hj;have h4:=of_decide_eq_true h3.1;have h5:=h3.2;omega
theorem tl (l:List Rx):fe l=l.filter fun x=>!decide (x.kind=0∨x.kind=2):=by
 have:∀(l m:List Rx),l.foldl fZ m=m++l.filter fun x=>!decide (x.kind=0∨x.kind=2):=by
   intro l
   induction l with
   | nil=>intro m;simp
   | cons x l ih =>
     intro m;rw[acz,ih];by_cases h:x.kind=0∨x.kind=2
     · rw[GQ h,acy (by simp[h])]
     · rw[MX h,acP (by simp[h]),abr];rfl
 exact this l []
theorem Kc {l:List Rx}:x∈fe l↔x∈l∧x.kind≠0∧x.kind≠2:=by rw[tl,abA,abw,decide_eq_false_iff_not];exact⟨fun h=>⟨h.1,fun e=>h.2 (.inl e),fun e=>h.2 (.inr e)⟩,fun h=>⟨h.1,fun e=>e.elim h.2.1 h.2.2⟩⟩
variable{z:Int}
theorem Kd {l:List Rx}:z∈df l↔∃x∈l,x.kind=2∧z∈x.syms:=by
 have:∀(l:List Rx)(s:List Int),z∈l.foldl oO s↔z∈s∨∃x∈l,x.kind=2∧z∈x.syms:=by
   intro l
   induction l with
   | nil=>intro s;simp
   | cons x l ih =>
     intro s;rw[acz,ih];by_cases h:x.kind=2
     · rw[uD h,abl];simp[h,or_assoc]
     · rw[pS h];simp[h]
 exact(this l []).trans (by simp)
theorem pW {l:List Rx}:x∈aX l↔∃y∈l,x∈oM y:=aca
theorem iq {l:List Rx}:x∈ee l↔x∈aX l∧x.kind≠0∧x.kind≠2:=Kc
theorem k7 {l:List Rx}:z∈dg l↔∃x∈aX l,x.kind=2∧z∈x.syms:=Kd
theorem gC :x∈j8 s k↔x∈k∨(0<s.length∧x=.mk 2 (uH s) []):=by
 unfold j8;by_cases h:0<s.length
 ·rw[if_pos h,abl,aaY];exact or_congr_right ⟨fun e=>⟨h,e⟩,fun e=>e.2⟩
 ·rw[if_neg h];exact⟨.inl,fun e=>e.elim id fun e=>absurd e.1 h⟩
theorem j1 (l:List Rx):ef l=TE (j8 (dg l) (ee l)):=rfl
inductive Nf:Rx→Prop
 | none:Nf (.mk 0 [] [])
 | empty:Nf (.mk 1 [] [])
 | set {s:List Int}:jV s=true→Nf (.mk 2 s [])
 | seq {l:List Rx}:2≤l.length→(∀x,x∈l→Nf x)→(∀x∈l,x.kind≠0∧x.kind≠1∧x.kind≠3)→Nf (.mk 3 [] l)
 | alt {l:List Rx}:2≤l.length→(∀x,x∈l→Nf x)→(∀x∈l,x.kind≠0∧x.kind≠4)→pT rh l→(∀x∈l,∀y∈l,x.kind=2→y.kind=2→x=y) →
  (∀x∈l,x.kind=1→∀y∈l,y.kind≠1→cT y=false)→Nf (.mk 4 [] l)
 | star {x:Rx}:Nf x→x.kind≠0∧x.kind≠1∧x.kind≠5→(x.kind=4→∀y∈x.kids,y.kind≠1)→Nf (.mk 5 [] [x])
theorem Nf.kinds (h:Nf x):0≤x.kind∧x.kind≤5:=by cases h<;>exact⟨by simp[Rx.kind],by simp[Rx.kind]⟩
theorem Nf.k1 (h:Nf x)(hk:x.kind=1):x=eP:=by cases h<;>first|rfl|exact absurd hk (by simp[Rx.kind])
theorem Nf.k0 (h:Nf x)(hk:x.kind=0):x=dO:=by cases h<;>first|rfl|exact absurd hk (by simp[Rx.kind])
theorem Nf.k2 (h:Nf x)(hk:x.kind=2):x=.mk 2 x.syms []∧jV x.syms=true:=by
 cases h with
 | set h=>exact⟨rfl,h⟩
 | _=>exact absurd hk (by simp[Rx.kind])
theorem Nf.k3 (h:Nf x)(hk:x.kind=3):x=.mk 3 [] x.kids∧2≤x.kids.length∧(∀y,y∈x.kids→Nf y)∧(∀y∈x.kids,y.kind≠0∧y.kind≠1∧y.kind≠3):=by
 cases h with
 | seq h1 h2 h3=>exact⟨rfl,h1,h2,h3⟩
 | _=>exact absurd hk (by simp[Rx.kind])
theorem Nf.k4 (h:Nf x)(hk:x.kind=4):x=.mk 4 [] x.kids∧2≤x.kids.length∧(∀y,y∈x.kids→Nf y)∧(∀y∈x.kids,y.kind≠0∧y.kind≠4)∧pT rh x.kids ∧
  (∀y∈x.kids,∀z∈x.kids,y.kind=2→z.kind=2→y=z)∧(∀y∈x.kids,y.kind=1→∀z∈x.kids,z.kind≠1→cT z=false):=by
 cases h with
 | alt h1 h2 h3 h4 h5 h6=>exact⟨rfl,h1,h2,h3,h4,h5,h6⟩
 | _=>exact absurd hk (by simp[Rx.kind])
theorem Nf.k5 (h:Nf x)(hk:x.kind=5):∃y,x=.mk 5 [] [y]∧Nf y∧(y.kind≠0∧y.kind≠1∧y.kind≠5)∧(y.kind=4→∀z∈y.kids,z.kind≠1):=by
 cases h with
 | star h1 h2 h3=>exact⟨_,rfl,h1,h2,h3⟩
 | _=>exact absurd hk (by simp[Rx.kind])
theorem Is (h:Nf x)(h0:x.kind≠0)(hy:y∈cE x):Nf y∧y.kind≠0∧y.kind≠1∧y.kind≠3:=by
 by_cases h3:x.kind=3
 ·rw[iP h3] at hy;obtain⟨_,_,h4,h5⟩:=h.k3 h3;exact⟨h4 y hy,h5 y hy⟩
 ·by_cases h1:x.kind=1
  ·rw[mi h1] at hy;cases hy
  ·rw[ep h3 h1,aaY] at hy;subst hy;exact⟨h,h0,h1,h3⟩
theorem yb {l:List Rx}(P:Rx→Prop)(hn:P dO)(he:(∀x∈l,x.kind≠0)→P (xV (ez l))):P (c4 l):=by
 unfold c4;by_cases h:l.any (fun x=>decide (x.kind=0))=true
 ·rw[if_pos h];exact hn
 ·rw[if_neg h];exact he fun x hx e=>h (abk.2 ⟨x,hx,decide_eq_true e⟩)
theorem kI {l:List Rx}(h:∀x∈l,Nf x):Nf (c4 l):=by
 refine yb Nf .none fun h0=>?_
 have hm:∀y∈ez l,Nf y∧y.kind≠0∧y.kind≠1∧y.kind≠3:=fun y hy=>by
  obtain⟨x,hx,hy⟩:=aca.1 hy;exact Is (h x hx) (h0 x hx) hy
 unfold xV;split
 ·exact .empty
 ·split
  ·exact(hm _ (aS adh)).1
  ·exact .seq adh (fun x hx=>(hm x hx).1) fun x hx=>(hm x hx).2
theorem It (h:Nf x)(hy:y∈oM x):Nf y∧y.kind≠4:=by
 by_cases h4:x.kind=4
 ·rw[gS h4] at hy;obtain⟨_,_,h5,h6,_⟩:=h.k4 h4;exact⟨h5 y hy,(h6 y hy).2⟩
 ·rw[jx h4,aaY] at hy;subst hy;exact⟨h,h4⟩
theorem tm {l:List Rx}(h:∀x∈l,Nf x)(hy:y∈aX l):Nf y∧y.kind≠4:=by obtain⟨x,hx,hy⟩:=pW.1 hy;exact It (h x hx) hy
theorem Ql (h0:0<s.length)(h:∀x∈s,0≤x∧x<64):jV (uH s)=true:=by refine jJ.2 ⟨?_,pV s,fun x hx=>h x (k6.1 hx)⟩;obtain⟨x,hx⟩:=ab0.1 h0;exact ab0.2 ⟨x,k6.2 hx⟩
theorem Iu {l:List Rx}(h:∀x∈l,Nf x)(hz:z∈dg l):0≤z∧z<64:=by obtain⟨x,hx,hk,hz⟩:=k7.1 hz;exact(jJ.1 ((tm h hx).1.k2 hk).2).2.2 z hz
theorem wT {l:List Rx}(h:∀x∈l,Nf x)(hy:y∈ef l):Nf y∧y.kind≠0∧y.kind≠4:=by
 rw[j1,jZ,gC] at hy;rcases hy with hy|⟨h0,rfl⟩
 ·have h1:=iq.1 hy;exact⟨(tm h h1.1).1,h1.2.1,(tm h h1.1).2⟩
 ·exact⟨.set (Ql h0 fun x hx=>Iu h hx),by show ¬(2:Int)=0;decide,by show ¬(2:Int)=4;decide⟩
theorem yc {l:List Rx}(hx:x∈ef l)(hy:y∈ef l)(h:x.kind=2)(h':y.kind=2):x=y:=by
 have q:∀{z:Rx},z∈ef l→z.kind=2→z=.mk 2 (uH (dg l)) []:=fun{z} hz hk=>by
  rw[j1,jZ,gC] at hz;rcases hz with hz|hz
  ·exact absurd hk (iq.1 hz).2.2
  ·exact hz.2
 rw[q hx h,q hy h']
theorem Nb (h:x.kind<y.kind):dt x y=-1:=by rw[tf,uA h];rfl
theorem ff {l:List Rx}(hs:pT rh l)(hn:∀x∈l,Nf x∧x.kind≠0)(hx:x∈l)(hk:x.kind=1):(l.getD 0 default)=x:=by
 match l,hs,hn,hx with
 | y :: l, hs, hn, hx =>
   show y=x;rcases aa3.1 hx with e|hx
   · exact e.symm
   · have h1 := (abt.1 hs).1 x hx
     have h2:=(hn y aaJ);have h3:=h2.1.kinds;by_cases e:y.kind=1
     · rw[h2.1.k1 e,(hn x (aaW _ hx)).1.k1 hk]
     · have h4 := Nb (x := x) (y := y) (by have := h2.2; omega)
       have h5:=oQ.1 h1.1;have:=kX x y;omega
theorem nR {l:List Rx}(hs:pT rh l)(hx:x∈l.drop 1):x≠l.getD 0 default∧x∈l:=by
 match l,hs,hx with
 | [],_,hx=>cases hx
 | y :: l,hs,hx=>exact⟨fun e=>((abt.1 hs).1 x hx).2 e.symm,aaW _ hx⟩
theorem nS {l:List Rx}(hx:x∈l)(h:x≠l.getD 0 default):x∈l.drop 1:=by
 match l,hx with
 | y :: l,hx=>exact(aa3.1 hx).elim (fun e=>absurd e h) id
theorem Ck {D:List Rx}(hs:pT rh D)(hn:∀x∈D,Nf x∧x.kind≠0∧x.kind≠4)(h2:∀x∈D,∀y∈D,x.kind=2→y.kind=2→x=y) :
   (∀x∈j9 D,x∈D)∧pT rh (j9 D)∧(∀x∈j9 D,x.kind=1→∀y∈j9 D,y.kind≠1→cT y=false):=by
 by_cases h:1<D.length∧(D.getD 0 default).kind=1∧(D.drop 1).any cT=true
 · rw [x7 h.1 h.2.1 h.2.2]
   refine⟨fun x hx=>abp hx,List.Pairwise.drop hs,fun x hx hk=>?_⟩;have h3:=nR hs hx;exact absurd (ff hs (fun x hx=>⟨(hn x hx).1,(hn x hx).2.1⟩) h3.2 hk).symm h3.1
 · rw [mj h]
   refine⟨fun x hx=>hx,hs,fun x hx hk y hy hy1=>?_⟩;have e:=ff hs (fun x hx=>⟨(hn x hx).1,(hn x hx).2.1⟩) hx hk;have hy2:y∈D.drop 1:=nS hy fun q=>hy1 (by rw[q,e];exact hk)
   cases ha:cT y with
   | false=>rfl
   | true =>
     refine absurd ⟨?_,by rw[e];exact hk,abk.2 ⟨y,hy2,ha⟩⟩ h;have:=acD hy2;rw[aaX] at this;omega
theorem Qm {C:List Rx}(hs:pT rh C)(hn:∀x∈C,Nf x∧x.kind≠0∧x.kind≠4)(h2:∀x∈C,∀y∈C,x.kind=2→y.kind=2→x=y)
  (h1:∀x∈C,x.kind=1→∀y∈C,y.kind≠1→cT y=false):Nf (wk C):=by
 unfold wk;split
 ·exact .none
 ·split
  ·exact(hn _ (aS adh)).1
  ·exact .alt adh (fun x hx=>(hn x hx).1) (fun x hx=>(hn x hx).2) hs h2 h1
theorem Cl {l:List Rx}(h:∀x∈l,Nf x):Nf (gZ l):=by
 have hn:=fun x hx=>wT h (y:=x) hx
 have h2:=fun x hx y hy=>yc (l:=l) (x:=x) (y:=y) hx hy
 obtain⟨q1,q2,q3⟩:=Ck (pU _) hn h2;exact Qm q2 (fun x hx=>hn x (q1 x hx)) (fun x hx y hy=>h2 x (q1 x hx) y (q1 y hy)) q3
theorem TF (h:x.kind=5):cT x=true:=by rw[qH,if_neg adh,if_neg adh];exact decide_eq_true (.inr h)
theorem Nc (h:Nf x)(hk:x.kind≠0∧x.kind≠1∧x.kind≠5):Nf (.mk 5 [] [pR x]):=by
 by_cases q:x.kind=4∧(x.kids.getD 0 default).kind=1
 · obtain ⟨e, h2, hn, hk4, hs, ht, ha⟩ := h.k4 q.1
   have hf:=hn _ (aS (l:=x.kids) (i:=0) adh);have ha':=ha _ (aS (l:=x.kids) (i:=0) adh) q.2;have hd:∀y∈x.kids.drop 1,y.kind≠1:=fun y hy hy1=>by
     have h3:=nR hs hy;exact h3.1 (ff hs (fun x hx=>⟨hn x hx,(hk4 x hx).1⟩) h3.2 hy1).symm
   by_cases q2:x.kids.length=2
   · rw [wO q q2]
     have hm:x.kids.getD 1 default∈x.kids:=aS adh;have hm1:x.kids.getD 1 default∈x.kids.drop 1:=by rw[←ya];exact aS (by rw[aaX];omega)
     have h1:=hd _ hm1;refine .star (hn _ hm) ⟨(hk4 _ hm).1,h1,fun h5=>?_⟩ fun h4=>absurd h4 (hk4 _ hm).2
     have:=ha' _ hm h1;rw[TF h5] at this;cases this
   · rw [wQ q q2]
     have es:x.syms=[]:=by rw[e];rfl
     rw[q.1,es];refine .star (.alt (by rw[aaX];omega) (fun y hy=>hn y (abp hy)) (fun y hy=>hk4 y (abp hy)) (List.Pairwise.drop hs)
       (fun y hy z hz=>ht y (abp hy) z (abp hz)) fun y hy hy1=>absurd hy1 (hd y hy)) ⟨by show ¬(4:Int)=0;decide,by show ¬(4:Int)=1;decide,by show ¬(4:Int)=5;decide⟩ fun _=>hd
 · rw [qO q]
   refine .star h hk fun h4 y hy hy1=>q ⟨h4,?_⟩
   obtain⟨e,h2,hn,hk4,hs,ht,ha⟩:=h.k4 h4;rw[ff hs (fun x hx=>⟨hn x hx,(hk4 x hx).1⟩) hy hy1];exact hy1
theorem Nd (h:Nf x):Nf (lC x):=by
 by_cases h1:x.kind=0∨x.kind=1
 ·rw[wM h1];exact .empty
 ·by_cases h5:x.kind=5
  ·rw[wN h5];exact h
  ·rw[oR h1 h5];exact Nc h ⟨fun e=>h1 (.inl e),fun e=>h1 (.inr e),h5⟩
theorem Cm {P:Rx→Prop}(h:∀r,(∀x∈r.kids,P x)→P r)(r:Rx):P r:=by
 have:∀n (r:Rx),r.size≤n→P r:=by
  intro n
  induction n with
  | zero=>intro r hr;have:=size_pos r;omega
  | succ n ih=>exact fun r hr=>h r fun x hx=>ih x (by have:=dp hx;omega)
 exact this _ r (aaD _)
theorem ir (h:aT r=true):∀x∈r.kids,aT x=true:=by
 intro x hx;rw[fL] at h;split at h
 ·cases h
 ·split at h
  ·rw[aaZ,decide_eq_true_eq] at h;rw[aa4 h.2] at hx;cases hx
  ·split at h
   ·cases h
   ·rw[im,aa5] at h;exact h x hx
theorem pX (h:aT r=true):0≤r.kind∧r.kind≤5:=by
 rw[fL] at h;split at h
 ·cases h
 ·omega
theorem lL (h:aT r=true)(h5:r.kind=5):r.syms=[]∧r.kids.length=1:=by rw[ja h5,aaZ,aaZ,decide_eq_true_eq,decide_eq_true_eq] at h;exact⟨aa4 h.1,h.2.1⟩
theorem pY (t:Bool)(r:Rx):aT r=true→Nf (aN t r):=by
 refine Cm (P:=fun r=>aT r=true→Nf (aN t r)) (fun r ih hv=>?_) r;have hk:∀x∈r.kids.map (aN t),Nf x:=fun x hx=>by
   obtain⟨y,hy,rfl⟩:=aa7.1 hx;exact ih y hy (ir hv y hy)
 have hkk:=pX hv;by_cases h3:r.kind=3
 · cases t with
   | false=>rw[lX h3];exact kI hk
   | true=>rw[nQ h3];exact kI fun x hx=>hk x (acH.1 hx)
 · by_cases h4 : r.kind = 4
   · rw[kY h4];exact Cl hk
   · by_cases h5 : r.kind = 5
     · rw[kZ h5];exact Nd (hk _ (aS (by rw[aaA,(lL hv h5).2];decide)))
     · rw [jY h3 h4 h5]
       by_cases h2:r.kind=2
       · rw [mh h2, aaZ] at hv
         rw[h2];exact .set hv.2
       · have h01 : r.kind = 0 ∨ r.kind = 1 := adh
         rw[jG h01,aaZ,decide_eq_true_eq] at hv;rw[aa4 hv.1];rcases h01 with e|e<;>rw[e]
         · exact .none
         · exact .empty
theorem GS (x:Rx):Rx.aE (cE x)≤x.size:=by
 unfold cE;split
 ·have:=size_eq x;omega
 ·split
  ·have:Rx.aE []=0:=rfl;omega
  ·rw[Rx.aE,Rx.aE];omega
theorem yd:∀ l:List Rx,Rx.aE (ez l)≤Rx.aE l
 | []=>aaD _
 | x :: l => by
   have:=yd l;have:=GS x;have e:ez (x :: l)=cE x++ez l:=rfl;rw[e,eo,Rx.aE];omega
theorem dY (k:Int)(s:List Int)(l:List Rx):(Rx.mk k s l).size=1+s.length+Rx.aE l:=by rw[Rx.size]
theorem uI (l:List Rx):(c4 l).size≤1+Rx.aE l:=by
 have h:=yd l;refine yb (fun r=>r.size≤1+Rx.aE l) (by rw[dY];simp only[aaL,Rx.aE];omega) fun _=>?_
 unfold xV;split
 ·rw[dY];simp only[aaL,Rx.aE];omega
 ·split
  ·have:=gB (aS (l:=ez l) (i:=0) adh);omega
  ·rw[dY];simp only[aaL];omega
theorem kJ {l:List Rx}(h:l.Sublist m):Rx.aE l≤Rx.aE m:=by
 induction h with
 | slnil=>exact aaD _
 | cons x _ ih=>rw[Rx.aE];omega
 | cons_cons x _ ih=>rw[Rx.aE,Rx.aE];omega
theorem En {α:Type} [Inhabited α]{eq:α→α→Bool}{l:List α}:∀i,i≤l.length→(eA eq l i).Sublist (l.take i)
 | 0,_=>by rw[eA];exact List.nil_sublist _
 | i + 1, h => by
   rw[eA,bF h];have:=En (eq:=eq) (l:=l) i adh;split
   · exact this.trans (List.sublist_append_left _ _)
   · exact this.append (List.Sublist.refl _)
theorem GU (l:List Rx):Rx.aE (ef l)≤1+Rx.aE l:=by have h1:=kJ (En (eq:=Ip) (l:=jX (j8 (dg l) (ee l))) _ (aaD _));rw[abK] at h1;have h2:Rx.aE (jX (j8 (dg l) (ee l)))=Rx.aE (j8 (dg l) (ee l)):=x8 (jv _);have h3:=x9 (dg l) (ee l);have h4:=M9 l;show Rx.aE (eA _ _ _)≤_;omega
theorem GV (k:List Rx):Rx.aE (j9 k)≤Rx.aE k:=by
 unfold j9;split
 ·exact kJ (List.drop_sublist _ _)
 ·exact aaD _
theorem AQ (l:List Rx):(gZ l).size≤2+Rx.aE l:=by
 have h:=GV (ef l);have h1:=GU l;unfold gZ wk;split
 ·rw[dY];simp only[aaL,Rx.aE];omega
 ·split
  ·have:=gB (aS (l:=j9 (ef l)) (i:=0) adh);omega
  ·rw[dY];simp only[aaL];omega
theorem GW (x:Rx):(pR x).size≤x.size:=by
 unfold pR;split
 ·split
  ·exact Nat.le_of_lt (dp (aS adh))
  ·rw[dY,size_eq x];have:=kJ (List.drop_sublist 1 x.kids);omega
 ·exact aaD _
theorem ye (x:Rx):(lC x).size≤1+x.size:=by
 unfold lC;split
 ·rw[dY];simp only[aaL,Rx.aE];omega
 ·split
  ·omega
  ·have:=GW x;rw[dY];simp only[aaL,Rx.aE];omega
theorem qQ (l:List Rx):Rx.aE l.reverse=Rx.aE l:=x8 (List.reverse_perm l)
theorem oT {f:Rx→Rx}:∀{l:List Rx},(∀x∈l,(f x).size≤2*x.size)→Rx.aE (l.map f)≤2*Rx.aE l
 | [],_=>aaD _
 | x :: l, h => by
   have h1:=oT (l:=l) fun y hy=>h y (aaW _ hy)
   have h2:=h x aaJ;rw[abx,Rx.aE,Rx.aE];omega
theorem kz (t:Bool)(r:Rx):(aN t r).size≤2*r.size:=by
 refine Cm (P:=fun r=>(aN t r).size≤2*r.size) (fun r ih=>?_) r;have hm:=oT ih;have e:=size_eq r;by_cases h3:r.kind=3
 · cases t with
   | false=>rw[lX h3];have:=uI (r.kids.map (aN false));omega
   | true=>rw[nQ h3];have:=uI (r.kids.map (aN true)).reverse;rw[qQ] at this;omega
 · by_cases h4 : r.kind = 4
   · rw[kY h4];have:=AQ (r.kids.map (aN t));omega
   · by_cases h5 : r.kind = 5
     · rw [kZ h5]
       have:=ye ((r.kids.map (aN t)).getD 0 default);by_cases h0:0<r.kids.length
       · have := gB (aS (l := r.kids.map (aN t)) (i := 0) (by rw [aaA]; exact h0))
         omega
       · rw [aa4 (l := r.kids) adh] at this ⊢
         have h6:((List.map (aN t) []).getD 0 default).size=1:=rfl;omega
     · rw[jY h3 h4 h5,dY];simp only[Rx.aE];omega
theorem vG (t:Bool)(l:List Rx):Rx.aE (l.map (aN t))≤2*Rx.aE l:=oT fun x _=>kz t x
def lbI (a:Int)(s:List Int):Nat:=s.findIdx fun x=>decide (a≤x)
theorem VL (hi:i≤s.length)(h1:∀k,k<i→s.getD k default<a)(h2:i<s.length→a≤s.getD i default):i=lbI a s:=by
 rcases aa9 i s.length with h|h
 ·refine((List.findIdx_eq h).2 ⟨?_,fun j hj=>?_⟩).symm
  ·have:=h2 h;rw[dB h] at this;exact decide_eq_true this
  ·have:=h1 j hj;rw[dB adh] at this;exact decide_eq_false adh
 ·have hi':i=s.length:=adh;subst hi';refine(List.findIdx_eq_length.2 fun x hx=>?_).symm;obtain⟨j,hj,e⟩:=abF hx;have:=h1 j hj;rw[dB hj,e] at this;exact decide_eq_false adh
theorem TG (hi:i<s.length)(h:s.getD i default=a):a∈s:=by rw[←h,dB hi];exact abV hi
theorem VM (hs:pT Ge s)(h1:∀k,k<i→s.getD k default<a)(h2:i<s.length→a≤s.getD i default)(h:i<s.length→s.getD i default≠a):¬a∈s:=by
 intro hm;obtain⟨j,hj,e⟩:=abF hm;rw[←dB hj] at e;rcases Nat.lt_trichotomy j i with q|q|q
 ·have:=h1 j q;omega
 ·subst q;exact h hj e
 ·have h3:=jI hs q hj;have h4:=of_decide_eq_true h3.1;have:=h2 adh;have:=h3.2;omega
mutual
def dR (a:Int):Rx→Rx
 | .mk k s l=>if k=2 then(if a∈s then eP else dO) else if k=4 then gZ (Vf a l) else if k=3 then gZ (uJ a l) else if k=5 then c4 [(Vf a l).getD 0 default,.mk k s l] else dO
def Vf (a:Int):List Rx→List Rx
 | []=>[]
 | x :: l=>dR a x :: Vf a l
def uJ (a:Int):List Rx→List Rx
 | []=>[]
 | x :: l=>c4 [dR a x,c4 l] :: (if cT x=true then uJ a l else[])
end
theorem Iv (a:Int):∀l:List Rx,Vf a l=l.map (dR a)
 | []=>by rw[Vf];rfl
 | x :: l=>by rw[Vf,Iv a l];rfl
theorem yf (a:Int)(r:Rx):dR a r=if r.kind=2 then(if a∈r.syms then eP else dO) else if r.kind=4 then gZ (r.kids.map (dR a)) else if r.kind=3 then gZ (uJ a r.kids) else
  if r.kind=5 then c4 [(r.kids.map (dR a)).getD 0 default,r] else dO:=by
 cases r with|mk k s l=>rw[dR,Iv];rfl
theorem k8:gZ []=dO:=by rfl
def dL (a:Int)(r:Rx):List Rx:=if r.kind=4 then r.kids.map (dR a) else if r.kind=3 then uJ a r.kids else[]
theorem Ng (h:r.kind=4):dL a r=r.kids.map (dR a):=if_pos h
theorem Ke (h:r.kind=3):dL a r=uJ a r.kids:=by unfold dL;rw[if_neg adh,if_pos h]
theorem Cn (h:r.kind≠4)(h3:r.kind≠3):dL a r=[]:=by unfold dL;rw[if_neg h,if_neg h3]
theorem YN (h:r.kind=2)(hm:a∈r.syms):dR a r=eP:=by rw[yf,if_pos h,if_pos hm]
theorem YO (h:r.kind=5):dR a r=c4 [(r.kids.map (dR a)).getD 0 default,r]:=by rw[yf,if_neg adh,if_neg adh,if_neg adh,if_pos h]
theorem Iw (h:r.kind=5)(h0:0<r.kids.length):dR a r=c4 [dR a (r.kids.getD 0 default),r]:=by rw[YO h,getD_map h0]
theorem uK (h5:r.kind≠5)(h2:r.kind=2→¬a∈r.syms):dR a r=gZ (dL a r):=by
 rw[yf];by_cases h:r.kind=2
 ·rw[if_pos h,if_neg (h2 h),Cn adh adh,k8]
 ·rw[if_neg h];by_cases h4:r.kind=4
  ·rw[if_pos h4,Ng h4]
  ·rw[if_neg h4];by_cases h3:r.kind=3
   ·rw[if_pos h3,Ke h3]
   ·rw[if_neg h3,if_neg h5,Cn h4 h3,k8]
def dQ (a:Int)(l:List Rx)(i:Nat):Rx:=c4 [dR a (l.getD i default),c4 (l.drop (i+1))]
theorem Eo {l:List Rx}(h:i<l.length):uJ a (l.drop i)=dQ a l i :: (if cT (l.getD i default)=true then uJ a (l.drop (i+1)) else[]):=by rw[drop_cons h,uJ];rfl
theorem yg {a:Int}{l:List Rx}:∀i,i≤l.length→(∀j,j<i→cT (l.getD j default)=true)→uJ a l=(List.range i).map (dQ a l)++uJ a (l.drop i)
 | 0,_,_=>by simp
 | i + 1, hi, h => by
   rw[yg i adh fun j hj=>h j adh,Eo adh,if_pos (h i adh),abB,aaK,abr];rfl
theorem Qn {l:List Rx}(hi:i=l.length)(h:∀j,j<i→cT (l.getD j default)=true):uJ a l=(List.range i).map (dQ a l):=by rw[yg i adh h,hi,List.drop_length,uJ,abe]
theorem Nh {l:List Rx}(hi:i<l.length)(h:∀j,j<i→cT (l.getD j default)=true)(hn:cT (l.getD i default)=false):uJ a l=(List.range (i+1)).map (dQ a l):=by rw[yg i adh h,Eo hi,if_neg (by rw[hn];decide),abB,aaK];rfl
mutual
def dSz:Rx→Nat
 | .mk k s l=>if k=4 then 2+TH l else if k=3 then 2+VN l else if k=5 then 2+TH l+(Rx.mk k s l).size else 2
def TH:List Rx→Nat
 | []=>0
 | x :: l=>dSz x+TH l
def VN:List Rx→Nat
 | []=>0
 | x :: l=>2+dSz x+Rx.aE l+(if cT x=true then VN l else 0)
end
theorem TI (h:i+j<4611686018427387904):IntKind.i64.wrap ((IntKind.u64.wrap ((i:Int)+j)).fdiv (2 ^ (min (1:Int).toNat IntKind.u64.bits)))=(((i+j) / 2:Nat):Int):=by
 have h1:IntKind.u64.wrap ((i:Int)+j)=(i:Int)+j:=by simp[IntKind.wrap,IntKind.signed,IntKind.bits];omega
 have h2:∀n:Int,0≤n→n<4611686018427387904→IntKind.i64.wrap n=n:=fun n h0 h1=>by
  simp[IntKind.wrap,IntKind.signed,IntKind.bits];omega
 rw[h1,show(min (1:Int).toNat IntKind.u64.bits)=1 from rfl,Int.fdiv_eq_ediv_of_nonneg _ adj,h2 _ adh adh];omega
theorem nT (h:Nf x):aT x=true:=by
 induction h with
 | none=>rw[jG (.inl rfl)];rfl
 | empty=>rw[jG (.inr rfl)];rfl
 | set h=>rw[mh rfl,show jV (Rx.syms (.mk 2 _ []))=true from h];rfl
 | seq h1 h2 h3 ih =>
   rw[lV (.inl rfl)];show(true&&!(List.any _ _))=true;rw[abS,abw,ab6];exact fun x hx=>by rw[ih x hx];decide
 | alt h1 h2 h3 h4 h5 h6 ih =>
   rw[lV (.inr rfl)];show(true&&!(List.any _ _))=true;rw[abS,abw,ab6];exact fun x hx=>by rw[ih x hx];decide
 | star h1 h2 h3 ih =>
   rw[ja rfl];show(true&&(true&&aT _))=true;rw[abS,abS];exact ih
theorem tn {a:Int}{y:Rx}:∀{l:List Rx},y∈uJ a l→∃i,i<l.length∧y=dQ a l i
 | [],h=>by rw[uJ] at h;cases h
 | x :: l, h => by
   rw[uJ] at h;rcases aa3.1 h with rfl|h
   · exact⟨0,by simp,rfl⟩
   · split at h
     · obtain ⟨i, hi, e⟩ := tn h
       exact⟨i+1,by simpa using hi,by rw[e];rfl⟩
     · cases h
theorem rE (a:Int)(h:Nf x):Nf (dR a x):=by
 have hseq:∀l:List Rx,(∀x∈l,Nf x)→(∀x∈l,Nf (dR a x))→∀y∈uJ a l,Nf y:=fun l h1 h2 y hy=>by
   obtain⟨i,hi,rfl⟩:=tn hy;refine kI fun z hz=>?_
   rcases aa3.1 hz with rfl|hz
   · exact h2 _ (aS hi)
   · rw[aaY.1 hz];exact kI fun u hu=>h1 u (abp hu)
 have hmap:∀l:List Rx,(∀x∈l,Nf (dR a x))→∀y∈l.map (dR a),Nf y:=fun l h2 y hy=>by
   obtain⟨z,hz,rfl⟩:=aa7.1 hy;exact h2 z hz
 induction h with
 | none=>rw[uK adj (fun h=>by cases h),Cn adj adj,k8];exact .none
 | empty=>rw[uK adj (fun h=>by cases h),Cn adj adj,k8];exact .none
 | set h =>
   rw[yf,if_pos (show(Rx.mk 2 _ []).kind=2 from rfl)];split
   · exact .empty
   · exact .none
 | seq h1 h2 h3 ih =>
   rw[uK (by simp[Rx.kind]) (by simp[Rx.kind]),Ke rfl];exact Cl (hseq _ h2 ih)
 | alt h1 h2 h3 h4 h5 h6 ih =>
   rw[uK (by simp[Rx.kind]) (by simp[Rx.kind]),Ng rfl];exact Cl (hmap _ ih)
 | @star y h1 h2 h3 ih =>
   rw[Iw rfl (by show 0<1;decide)];refine kI fun z hz=>?_
   rcases aa3.1 hz with rfl|hz
   · exact ih
   · rw[aaY.1 hz];exact .star h1 h2 h3
theorem nU {l:List Rx}(h:∀x∈l,x.kind≠1∧x.kind≠3):ez l=l:=by
 induction l with
 | nil=>rfl
 | cons x l ih =>
   have e:ez (x :: l)=cE x++ez l:=rfl;rw[e,ih fun y hy=>h y (aaW _ hy),ep (h x aaJ).2 (h x aaJ).1];rfl
theorem Kf {l:List Rx}(h2:2≤l.length)(h:∀x∈l,x.kind≠0∧x.kind≠1∧x.kind≠3):c4 l=.mk 3 [] l:=by rw[nM (fun j hj=>(h _ (aS hj)).1),nU (fun x hx=>(h x hx).2),sb adh adh]
theorem nV {l:List Rx}(h:∀x∈l,x.kind≠4):aX l=l:=by
 induction l with
 | nil=>rfl
 | cons x l ih =>
   have e:aX (x :: l)=oM x++aX l:=rfl;rw[e,ih fun y hy=>h y (aaW _ hy),jx (h x aaJ)];rfl
theorem AR {l:List Rx}(hn:∀x∈l,Nf x)(hk:∀x∈l,x.kind≠0∧x.kind≠4)(hs:pT rh l)(h2:∀x∈l,∀y∈l,x.kind=2→y.kind=2→x=y):ef l=l:=by
 rw[j1];refine qP x5 (pU _) hs fun x=>?_
 rw[jZ,gC,iq,nV fun x hx=>(hk x hx).2];have hS:∀y∈l,y.kind=2→uH (dg l)=y.syms:=fun y hy hy2=>by
   have h3:=((hn y hy).k2 hy2).2;rw[←Kb (jJ.1 h3).2.1];refine Na fun z=>?_
   rw[k7,nV fun x hx=>(hk x hx).2];exact⟨fun⟨q,hq,hq2,hz⟩=>by rw[h2 y hy q hq hy2 hq2];exact hz,fun hz=>⟨y,hy,hy2,hz⟩⟩
 constructor
 · rintro (h | ⟨h0, rfl⟩)
   · exact h.1
   · obtain ⟨z, hz⟩ := ab0.1 h0
     rw[k7,nV fun x hx=>(hk x hx).2] at hz;obtain⟨y,hy,hy2,_⟩:=hz;rw[hS y hy hy2,←((hn y hy).k2 hy2).1];exact hy
 · intro hx
   by_cases hx2:x.kind=2
   · refine .inr ⟨?_, ?_⟩
     · have h3 := (jJ.1 ((hn x hx).k2 hx2).2).1
       obtain⟨z,hz⟩:=ab0.1 h3;exact ab0.2 ⟨z,k7.2 ⟨x,by rw[nV fun x hx=>(hk x hx).2];exact hx,hx2,hz⟩⟩
     · rw[hS x hx hx2];exact((hn x hx).k2 hx2).1
   · exact .inl ⟨hx,(hk x hx).1,hx2⟩
theorem Kg {l:List Rx}(hs:pT rh l)(h:∀x∈l,x.kind=1→∀y∈l,y.kind≠1→cT y=false)(hn:∀x∈l,Nf x):j9 l=l:=by
 refine mj fun⟨h1,h2,h3⟩=>?_
 obtain⟨y,hy,ha⟩:=abk.1 h3;have hd:=nR hs hy;have h0:l.getD 0 default∈l:=aS adh;refine absurd ha ?_;rw[h _ h0 h2 y hd.2 fun q=>hd.1 ?_]
 ·decide
 ·rw[(hn y hd.2).k1 q,(hn _ h0).k1 h2]
theorem AS {l:List Rx}(hl:2≤l.length)(hn:∀x∈l,Nf x)(hk:∀x∈l,x.kind≠0∧x.kind≠4)(hs:pT rh l)(h2:∀x∈l,∀y∈l,x.kind=2→y.kind=2→x=y)
  (h:∀x∈l,x.kind=1→∀y∈l,y.kind≠1→cT y=false):gZ l=.mk 4 [] l:=by
 unfold gZ;rw[AR hn hk hs h2,Kg hs h hn,x6 adh adh]
theorem GX (h:x.kind≠0∧x.kind≠1∧x.kind≠5)(h4:x.kind=4→∀y∈x.kids,y.kind≠1)(hn:Nf x):lC x=.mk 5 [] [x]:=by rw[oR (fun e=>e.elim h.1 h.2.1) h.2.2,qO];exact fun e=>h4 e.1 _ (aS (by have:=(hn.k4 e.1).2.1;omega)) e.2
theorem yh {α:Type}{f:α→α}{l:List α}(h:∀x∈l,f x=x):l.map f=l:=by rw[acQ h];exact List.map_id _
theorem tp (h:Nf x):aN false x=x:=by
 induction h with
 | none=>rw[jY adj adj adj];rfl
 | empty=>rw[jY adj adj adj];rfl
 | set h=>rw[jY (by simp[Rx.kind]) (by simp[Rx.kind]) (by simp[Rx.kind])];rfl
 | @seq l h1 h2 h3 ih =>
   rw[lX rfl];show c4 (l.map (aN false))=_;rw[yh ih];exact Kf h1 h3
 | @alt l h1 h2 h3 h4 h5 h6 ih =>
   rw[kY rfl];show gZ (l.map (aN false))=_;rw[yh ih];exact AS h1 h2 h3 h4 h5 h6
 | @star x h1 h2 h3 ih =>
   rw[kZ rfl];show lC (aN false x)=_;rw[ih];exact GX h2 h3 h1
def dw (r:Rx):Rx:=if aT r=true then aN false r else dO
def eB (r:Rx):Rx:=if aT r=true then aN true r else dO
theorem qS (r:Rx):Nf (dw r):=by
 unfold dw;split
 ·next h=>exact pY false r h
 ·exact .none
theorem Qo (r:Rx):Nf (eB r):=by
 unfold eB;split
 ·next h=>exact pY true r h
 ·exact .none
theorem Qp (h:Nf x):dw x=x:=by unfold dw;rw[if_pos (nT h),tp h]
def Kh (r:Rx)(w:List Int)(k:Nat):Rx:=(w.take k).foldl (fun x a=>dR a x) (dw r)
variable{w:List Int}
theorem Ni {k:Nat}(h:k<w.length):Kh r w (k+1)=dR (w.getD k default) (Kh r w k):=by unfold Kh;rw[bF h,ab2];rfl
theorem TJ (r:Rx)(w:List Int)(k:Nat):Nf (Kh r w k):=by
 unfold Kh;generalize w.take k=v;have:∀(v:List Int)(x:Rx),Nf x→Nf (v.foldl (fun x a=>dR a x) x):=by
  intro v
  induction v with
  | nil=>exact fun x h=>h
  | cons a v ih=>exact fun x h=>ih _ (rE a h)
 exact this v _ (qS r)
def sd (r:Rx)(w:List Int):Bool:=cT (Kh r w w.length)
theorem AT (r:Rx):(dw r).size≤2*r.size:=by
 unfold dw;split
 ·exact kz false r
 ·have:=size_pos r;rw[dY];simp only[aaL,Rx.aE];omega
def iQ:List Int→List (List Int)
 | []=>[[]]
 | a :: v=>(a :: v) :: iQ v
def tq:List Int→List (List Int)
 | []=>[]
 | a :: v=>(a :: v) :: tq v
theorem uL (b:Int):∀{u v:List Int},u∈iQ v→u++[b]∈iQ (v++[b])
 | u, [], h => by
   rw[iQ,aaY] at h;subst h;rw[abH,iQ];exact aaJ
 | u, a :: v, h => by
   rw[iQ] at h;rw[acg,iQ];rcases aa3.1 h with rfl|h
   · exact aaJ
   · exact aaW _ (uL b h)
theorem AU (b:Int):∀{u v:List Int},u∈tq v→u++[b]∈tq (v++[b])
 | u,[],h=>by rw[tq] at h;cases h
 | u, a :: v, h => by
   rw[tq] at h;rw[acg,tq];rcases aa3.1 h with rfl|h
   · exact aaJ
   · exact aaW _ (AU b h)
theorem k9:∀ v:List Int,[]∈iQ v
 | []=>by rw[iQ];exact aaJ
 | a :: v=>by rw[iQ];exact aaW _ (k9 v)
theorem Nj (b:Int)(v:List Int):[b]∈iQ (v++[b]):=uL b (k9 v)
theorem Ep (b:Int):∀v:List Int,[b]∈tq (v++[b])
 | []=>by rw[abH,tq];exact aaJ
 | a :: v=>by rw[acg,tq];exact aaW _ (Ep b v)
variable{P:List Int→Prop}
theorem iu (h0:P [])(hs:∀v b,P v→P (v++[b])):∀v,P v:=fun v=>by
 have:∀w:List Int,P w.reverse:=by
  intro w
  induction w with
  | nil=>exact h0
  | cons a w ih=>rw[List.reverse_cons];exact hs _ _ ih
 have h:=this v.reverse;rwa [ab7] at h
def Dv (x:Rx)(v:List Int):Rx:=v.foldl (fun t b=>dR b t) x
theorem GY (x:Rx):Dv x []=x:=rfl
theorem qT (x:Rx)(v:List Int)(b:Int):Dv x (v++[b])=dR b (Dv x v):=by unfold Dv;rw[ab2];rfl
theorem AW (h:Nf x):∀v,Nf (Dv x v):=iu h fun v b ih=>by rw[qT];exact rE b ih
def pr (t:Rx):List Rx:=(oM t).filter fun a=>decide (3≤a.kind)
variable{t:Rx}
theorem lM {a:Rx}:a∈pr t↔a∈oM t∧3≤a.kind:=by unfold pr;rw[abA,decide_eq_true_eq]
theorem GZ {a:Rx}(h:Nf t)(ha:a∈pr t):Nf a∧(a.kind=3∨a.kind=5):=by have h1:=lM.1 ha;have h2:=It h h1.1;have h3:=h2.1.kinds;exact⟨h2.1,adh⟩
theorem vH {a:Rx}(h4:t.kind≠4)(ha:a∈pr t):a=t∧3≤t.kind:=by have h1:=lM.1 ha;rw[jx h4,aaY] at h1;exact⟨h1.1,h1.1 ▸ h1.2⟩
theorem la (h:t.kind=3∨t.kind=5):t∈pr t:=lM.2 ⟨by rw[jx adh];exact aaJ,adh⟩
theorem Er {l:List Rx}(h:∀x∈l,Nf x){a:Rx}(ha:a∈pr (gZ l)):∃y∈l,a∈pr y:=by
 obtain⟨h1,h2⟩:=lM.1 ha;have h3:∀x∈j9 (ef l),x∈ef l:=(Ck (pU _) (fun x hx=>wT h hx) fun x hx y hy=>yc (l:=l) hx hy).1;have h4:a∈j9 (ef l):=by
   unfold gZ wk at h1;split at h1
   · rw [jx adj, aaY] at h1
     rw[h1] at h2;exact absurd h2 adj
   · next q =>
     split at h1
     · next q1 =>
       have hm:(j9 (ef l)).getD 0 default∈j9 (ef l):=aS adh;rw[jx (wT h (h3 _ hm)).2.2,aaY] at h1;rw[h1];exact hm
     · rw[gS rfl] at h1;exact h1
 have h5:=tk (h3 _ h4);rw[gC] at h5;rcases h5 with h5|h5
 · obtain ⟨y, hy, hm⟩ := pW.1 (iq.1 h5).1
   exact⟨y,hy,lM.2 ⟨hm,h2⟩⟩
 · rw[h5.2] at h2;exact absurd h2 (by show ¬(3:Int)≤2;decide)
theorem sf {l:List Rx}(h:(c4 l).kind≠0):∀x∈l,x.kind≠0:=fun x hx e=>h (by
 unfold c4;rw[if_pos (abk.2 ⟨x,hx,decide_eq_true e⟩)];rfl)
theorem qU {l:List Rx}(hl:∀x∈l,Nf x)(h0:(c4 l).kind≠0):cE (c4 l)=ez l:=by
 have hk:=sf h0;have hm:∀y∈ez l,y.kind≠0∧y.kind≠1∧y.kind≠3:=fun y hy=>by
  obtain⟨x,hx,hy⟩:=aca.1 hy;exact(Is (hl x hx) (hk x hx) hy).2
 rw[nM fun j hj=>hk _ (aS hj)];generalize hs:ez l=s at hm ⊢
 match s with
 | []=>rfl
 | [y]=>exact ep (hm y aaJ).2.2 (hm y aaJ).2.1
 | y :: z :: s=>rw[sb (by simp) (by simp)];rfl
def ri (b:Int):List Rx→List (List Rx)
 | []=>[]
 | x :: l=>if(dR b x).kind=0 then ri b l else(cE (dR b x)++l) :: ri b l
theorem Co {b:Int}:∀{l:List Rx}{i:Nat},i<l.length→(dR b (l.getD i default)).kind≠0→cE (dR b (l.getD i default))++l.drop (i+1)∈ri b l
 | x :: l, 0, _, hk => by
   rw[ri,if_neg (show ¬(dR b x).kind=0 from hk)];exact aaJ
 | x :: l, i + 1, hi, hk => by
   have h:=Co (b:=b) (l:=l) (i:=i) (by simpa using hi) hk;rw[ri];split
   · exact h
   · exact aaW _ h
theorem Iy {b:Int}:∀{l L:List Rx},L∈ri b l→∃pre x R,l=pre++x :: R∧(dR b x).kind≠0∧L=cE (dR b x)++R
 | [],L,h=>by rw[ri] at h;cases h
 | x :: l, L, h => by
   have step:L∈ri b l→∃pre y R,x :: l=pre++y :: R∧(dR b y).kind≠0∧L=cE (dR b y)++R:=fun h=>by
     obtain⟨pre,y,R,e,hk,hL⟩:=Iy h;exact⟨x :: pre,y,R,by rw[e];rfl,hk,hL⟩
   rw[ri] at h;split at h
   · exact step h
   · next hk =>
     rcases aa3.1 h with rfl|h
     · exact⟨[],x,l,rfl,hk,rfl⟩
     · exact step h
theorem Cp {b:Int}{R:List Rx}:∀{l L:List Rx},L∈ri b (l++R)→(∃M∈ri b l,L=M++R)∨L∈ri b R
 | [],L,h=>.inr h
 | x :: l, L, h => by
   have step:L∈ri b (l++R)→(∃M∈ri b (x :: l),L=M++R)∨L∈ri b R:=fun h=>by
     rcases Cp h with⟨M,hM,e⟩|h
     · refine .inl ⟨M, ?_, e⟩
       rw[ri];split
       · exact hM
       · exact aaW _ hM
     · exact .inr h
   rw[acg,ri] at h;split at h
   · exact step h
   · next hk =>
     rcases aa3.1 h with rfl|h
     · refine .inl ⟨cE (dR b x) ++ l, ?_, by rw [abr]⟩
       rw[ri,if_neg hk];exact aaJ
     · exact step h
theorem Nk {c:Rx}(h:c∈pr t):cE c=cE t∨(cE t=[t]∧t.kind=4∧c∈pr t):=by
 by_cases h4:t.kind=4
 ·exact .inr ⟨ep adh adh,h4,h⟩
 ·rw[(vH h4 h).1];exact .inl rfl
theorem yi {c:Rx}(h:c∈pr t):t.kind≠0:=fun e=>by have:=(vH adh h).2;omega
theorem TK {l:List Rx}(h:∀x∈l,Nf x):∀y∈uJ b l,Nf y:=fun y hy=>by
 obtain⟨i,hi,rfl⟩:=tn hy;refine kI fun z hz=>?_
 rcases aa3.1 hz with rfl|hz
 ·exact rE b (h _ (aS hi))
 ·rw[aaY.1 hz];exact kI fun u hu=>h u (abp hu)
theorem VO {l:List Rx}(hi:i<l.length)(hn:∀x∈l,Nf x)(hk:∀x∈l,x.kind≠0∧x.kind≠1∧x.kind≠3)(h0:(dQ b l i).kind≠0) :
  cE (dQ b l i)=cE (dR b (l.getD i default))++l.drop (i+1)∧(dR b (l.getD i default)).kind≠0:=by
 have hd:Nf (c4 (l.drop (i+1))):=kI fun u hu=>hn u (abp hu)
 have h1:=sf (l:=[dR b (l.getD i default),c4 (l.drop (i+1))]) h0;have h2:=h1 _ aaJ;have h3:=h1 _ (aaW _ aaJ);refine⟨?_,h2⟩;have e:cE (dQ b l i)=ez [dR b (l.getD i default),c4 (l.drop (i+1))]:=qU (fun z hz=>by
  rcases aa3.1 hz with rfl|hz
  ·exact rE b (hn _ (aS hi))
  ·rw[aaY.1 hz];exact hd) h0
 rw[e];show cE _++(cE _++[])=_;rw[abe,qU (fun u hu=>hn u (abp hu)) h3,nU fun x hx=>(hk x (abp hx)).2]
theorem Iz {a:Rx}(ha:Nf a)(hk:a.kind=3∨a.kind=5){c:Rx}(hc:c∈pr (dR b a)) :
  cE c∈ri b (cE a)∨∃z,[z]∈ri b (cE a)∧z.kind=4∧c∈pr z:=by
 rcases hk with hk|hk
 ·obtain⟨e,h2,hn,hkk⟩:=ha.k3 hk;have hd:dR b a=gZ (uJ b a.kids):=by rw[uK adh adh,Ke hk]
  rw[hd] at hc;obtain⟨y,hy,hcy⟩:=Er (TK hn) hc;obtain⟨i,hi,rfl⟩:=tn hy;have h3:=VO hi hn hkk (yi hcy);have h4:=Co hi h3.2;rw[←h3.1] at h4;rw[iP hk];rcases Nk hcy with q|⟨q,q4,qc⟩
  ·exact .inl (by rw[q];exact h4)
  ·exact .inr ⟨_,by rw[←q];exact h4,q4,qc⟩
 ·have h4:cE (dR b a)∈ri b (cE a):=by
   rw[ep (x:=a) adh adh,ri,if_neg (yi hc),abe];exact aaJ
  rcases Nk hc with q|⟨q,q4,qc⟩
  ·exact .inl (by rw[q];exact h4)
  ·exact .inr ⟨_,by rw[←q];exact h4,q4,qc⟩
theorem Nl (ht:Nf t){c:Rx}(hc:c∈pr (dR b t)):∃a∈pr t,c∈pr (dR b a):=by
 have low:∀x:Rx,Nf x→x.kind≤2→¬c∈pr (dR b x):=fun x hx h2 h=>by
  have hkk:=hx.kinds;by_cases q:x.kind=2
  ·rw[yf,if_pos q] at h;split at h
   ·exact absurd (vH adj h).2 adj
   ·exact absurd (vH adj h).2 adj
  ·rw[uK adh (fun e=>absurd e q),Cn adh adh,k8] at h;exact absurd (vH adj h).2 adj
 have hkk:=ht.kinds;by_cases h4:t.kind=4
 ·obtain⟨e,h2,hn,hk,_⟩:=ht.k4 h4;rw[uK adh adh,Ng h4] at hc;obtain⟨y,hy,hcy⟩:=Er (fun y hy=>by
   obtain⟨z,hz,rfl⟩:=aa7.1 hy;exact rE b (hn z hz)) hc
  obtain⟨z,hz,rfl⟩:=aa7.1 hy;refine⟨z,lM.2 ⟨by rw[gS h4];exact hz,?_⟩,hcy⟩;by_cases q:3≤z.kind
  ·exact q
  ·exact absurd hcy (low z (hn z hz) adh)
 ·by_cases q:3≤t.kind
  ·exact⟨t,la adh,hc⟩
  ·exact absurd hc (low t ht adh)
def cv (x:Rx)(u:List Int)(T:List (List Rx)):List (List Rx):=if x.kind=5 then T else cE (Dv x u) :: T
mutual
def dP:Rx→List Int→List (List Rx)
 | .mk k s l,v=>if k=4 then Es l v else if k=3 then Et l v else if k=5 then[.mk k s l] :: G0 l v (.mk k s l) else[]
def Es:List Rx→List Int→List (List Rx)
 | [],_=>[]
 | x :: l,v=>dP x v++Es l v
def Et:List Rx→List Int→List (List Rx)
 | [],_=>[]
 | x :: l,v=>(iQ v).flatMap (fun u=>(cv x u (dP x u)).map (·++l))++Et l v
def G0:List Rx→List Int→Rx→List (List Rx)
 | [],_,_=>[]
 | x :: _,v,r=>(tq v).flatMap fun u=>(cv x u (dP x u)).map (·++[r])
end
theorem wU (x:Rx)(v:List Int):dP x v=if x.kind=4 then Es x.kids v else if x.kind=3 then Et x.kids v else if x.kind=5 then[x] :: G0 x.kids v x else[]:=by cases x with|mk k s l=>rw[dP];rfl
theorem Cq (h:x.kind=4)(v:List Int):dP x v=Es x.kids v:=by rw[wU,if_pos h]
theorem Cr (h:x.kind=3)(v:List Int):dP x v=Et x.kids v:=by rw[wU,if_neg adh,if_pos h]
theorem uM (h:x.kind=5)(v:List Int):dP x v=[x] :: G0 x.kids v x:=by rw[wU,if_neg adh,if_neg adh,if_pos h]
theorem nv (h3:x.kind≠3)(h4:x.kind≠4)(h5:x.kind≠5)(v:List Int):dP x v=[]:=by rw[wU,if_neg h4,if_neg h3,if_neg h5]
theorem j2 {L:List Rx}{v:List Int}:∀{l:List Rx},L∈Es l v↔∃x∈l,L∈dP x v
 | []=>by rw[Es];simp
 | x :: l=>by rw[Es,abl,j2];simp
theorem iv {L:List Rx}{v:List Int}:∀{l:List Rx},L∈Et l v↔∃pre x R,l=pre++x :: R∧∃u∈iQ v,∃M∈cv x u (dP x u),L=M++R
 | [] => by
   rw[Et];exact⟨fun h=>(by cases h),fun⟨pre,x,R,e,_⟩=>absurd e (by cases pre<;>simp)⟩
 | y :: l => by
   rw[Et,abl,iv];constructor
   · rintro (h | ⟨pre, x, R, e, h⟩)
     · obtain ⟨u, hu, h⟩ := aca.1 h
       obtain⟨M,hM,e⟩:=aa7.1 h;exact⟨[],y,l,rfl,u,hu,M,hM,e.symm⟩
     · exact⟨y :: pre,x,R,by rw[e];rfl,h⟩
   · rintro ⟨pre, x, R, e, h⟩
     match pre,e with
     | [], e =>
       obtain⟨rfl,rfl⟩:=acv e;obtain⟨u,hu,M,hM,hL⟩:=h;exact .inl (aca.2 ⟨u,hu,aa7.2 ⟨M,hM,hL.symm⟩⟩)
     | z :: pre, e =>
       obtain⟨rfl,rfl⟩:=acv e;exact .inr ⟨pre,x,R,rfl,h⟩
theorem mn {L:List Rx}{v:List Int}:L∈G0 [x] v r↔∃u∈tq v,∃M∈cv x u (dP x u),L=M++[r]:=by
 rw[G0,aca];constructor
 ·rintro⟨u,hu,h⟩;obtain⟨M,hM,e⟩:=aa7.1 h;exact⟨u,hu,M,hM,e.symm⟩
 ·rintro⟨u,hu,M,hM,e⟩;exact⟨u,hu,aa7.2 ⟨M,hM,e.symm⟩⟩
structure PN (x:Rx):Prop where
 base:∀a∈pr x,cE a∈dP x []
 exp:∀v z,[z]∈dP x v→z.kind=4→∀a∈pr z,cE a∈dP x v
 step:∀v b L L',L∈dP x v→L'∈ri b L→L'∈dP x (v++[b])
 all:∀v a,a∈pr (Dv x v)→cE a∈dP x v
theorem PN.mk' (hx:Nf x)(base:∀a∈pr x,cE a∈dP x [])(exp:∀v z,[z]∈dP x v→z.kind=4→∀a∈pr z,cE a∈dP x v)
  (step:∀v b L L',L∈dP x v→L'∈ri b L→L'∈dP x (v++[b])):PN x:=by
 refine⟨base,exp,step,iu (P:=fun v=>∀a,a∈pr (Dv x v)→cE a∈dP x v) base fun v b ih c hc=>?_⟩;rw[qT] at hc;obtain⟨a,ha,hca⟩:=Nl (AW hx v) hc;have h1:=GZ (AW hx v) ha;have h2:=ih a ha;rcases Iz h1.1 h1.2 hca with h3|⟨z,h3,h4,h5⟩
 ·exact step v b _ _ h2 h3
 ·exact exp _ z (step v b _ _ h2 h3) h4 c h5
variable{u:List Int}{M:List Rx}
theorem Nn {T:List (List Rx)}(h:M∈T):M∈cv x u T:=by
 unfold cv;split
 ·exact h
 ·exact aaW _ h
theorem TL {T:List (List Rx)}(h:x.kind≠5):cE (Dv x u)∈cv x u T:=by unfold cv;rw[if_neg h];exact aaJ
theorem IA  (hx:Nf x) (hc:PN x)   {M':List Rx} (hM:M∈cv x u (dP x u)) (h:M'∈ri b M):M'∈cv x (u++[b]) (dP x (u++[b])):=by
 by_cases hT:M∈dP x u
 · exact Nn (hc.step u b _ _ hT h)
 · unfold cv at hM
   by_cases h5:x.kind=5
   · rw[if_pos h5] at hM;exact absurd hM hT
   · rw [if_neg h5] at hM
     rcases aa3.1 hM with rfl|hM
     · by_cases k3 : (Dv x u).kind = 3
       · exact absurd (hc.all u _ (la (.inl k3))) hT
       · by_cases k1 : (Dv x u).kind = 1
         · rw[mi k1,ri] at h;cases h
         · rw [ep k3 k1, ri, ri] at h
           split at h
           · cases h
           · rw [abe, aaY] at h
             rw[h,←qT];exact TL h5
     · exact absurd hM hT
theorem No (hx:Nf x)(hc:PN x)(h0:(dR b x).kind≠0):cE (dR b x)∈cv x [b] (dP x [b]):=by
 by_cases h5:x.kind=5
 ·refine Nn (hc.step [] b [x] _ ?_ ?_)
  ·rw[uM h5];exact aaJ
  ·rw[ri,if_neg h0,abe];exact aaJ
 ·exact TL (x:=x) (u:=[b]) h5
theorem IB {R:List Rx}{z:Rx}(h:[z]=M++R):(M=[]∧R=[z])∨(M=[z]∧R=[]):=by
 match M,h with
 | [],h=>exact .inl ⟨rfl,h.symm⟩
 | [y],h=>obtain⟨rfl,e⟩:=acv h;exact .inr ⟨rfl,e.symm⟩
 | y :: y' :: M,h=>obtain⟨_,e⟩:=acv h;cases e
theorem yj {z:Rx}(ht:Nf t)(h:cE t=[z]):t=z:=by
 by_cases k3:t.kind=3
 ·have:=(ht.k3 k3).2.1;rw[iP k3] at h;rw[h] at this;exact absurd this (by simp)
 ·by_cases k1:t.kind=1
  ·rw[mi k1] at h;cases h
  ·rw[ep k3 k1] at h;exact(acv h).1
theorem oU  (h:Nf x):PN x:=by
 have low:∀x:Rx,Nf x→x.kind≤2→PN x:=fun x hx h2=>by
   have e:∀v,dP x v=[]:=nv adh adh adh;refine PN.mk' hx (fun a ha=>?_) (fun v z hz=>?_) fun v b L L' hL=>?_
   · have:=(vH adh ha).2;omega
   · rw[e] at hz;cases hz
   · rw[e] at hL;cases hL
 induction h with
 | none=>exact low _ .none adj
 | empty=>exact low _ .empty adj
 | set h=>exact low _ (.set h) (by show(2:Int)≤2;decide)
 | @seq l h2 hn hk ih =>
   have hx:=Nf.seq h2 hn hk;have e:∀v,dP (.mk 3 [] l) v=Et l v:=Cr rfl;refine PN.mk' hx (fun a ha=>?_) (fun v z hz h4 a ha=>?_) fun v b L L' hL hL'=>?_
   · rw [(vH (by show ¬ (3 : Int) = 4; decide) ha).1, e, iP rfl]
     show l∈_
     match l,h2,hk,ih with
     | y :: l, h2, hk, ih =>
       refine iv.2 ⟨[],y,l,rfl,[],k9 _,[y],?_,rfl⟩;by_cases h5:y.kind=5
       · exact Nn (by rw[uM h5];exact aaJ)
       · have := TL (x := y) (u := []) (T := dP y []) h5
         rwa [GY,ep (hk y aaJ).2.2 (hk y aaJ).2.1] at this
   · rw [e] at hz ⊢
     obtain⟨pre,y,R,el,u,hu,M,hM,eM⟩:=iv.1 hz;have hy:y∈l:=by rw[el];simp
     have hc:=ih y hy;rcases IB eM with⟨rfl,rfl⟩|⟨rfl,rfl⟩
     · have hz' : z ∈ l := by rw [el]; simp
       refine iv.2 ⟨pre++[y],z,[],by rw[el];simp,[],k9 _,cE a,Nn ((ih z hz').base a ha),by rw[abe]⟩
     · refine iv.2 ⟨pre, y, [], el, u, hu, cE a, Nn ?_, by rw [abe]⟩
       by_cases hT:[z]∈dP y u
       · exact hc.exp u z hT h4 a ha
       · unfold cv at hM
         by_cases h5:y.kind=5
         · rw[if_pos h5] at hM;exact absurd hM hT
         · rw [if_neg h5] at hM
           rcases aa3.1 hM with e1|hM
           · have := yj (AW (hn y hy) u) e1.symm
             exact hc.all u a (by rw[this];exact ha)
           · exact absurd hM hT
   · rw [e] at hL ⊢
     obtain⟨pre,y,R,el,u,hu,M,hM,rfl⟩:=iv.1 hL;have hy:y∈l:=by rw[el];simp
     rcases Cp hL' with⟨M',hM',rfl⟩|hR
     · exact iv.2 ⟨pre,y,R,el,u++[b],uL b hu,M',IA (hn y hy) (ih y hy) hM hM',rfl⟩
     · obtain ⟨pre', z, R', eR, h0, rfl⟩ := Iy hR
       have hz:z∈l:=by rw[el,eR];simp
       exact iv.2 ⟨pre++y :: pre',z,R',by rw[el,eR];simp,[b],Nj b v,_,No (hn z hz) (ih z hz) h0,rfl⟩
 | @alt l h2 hn hk h4 h5 h6 ih =>
   have hx:=Nf.alt h2 hn hk h4 h5 h6;have e:∀v,dP (.mk 4 [] l) v=Es l v:=Cq rfl;refine PN.mk' hx (fun a ha=>?_) (fun v z hz h4 a ha=>?_) fun v b L L' hL hL'=>?_
   · rw [e]
     have h1:=lM.1 ha;rw[gS rfl] at h1;have ha':a∈l:=h1.1;have hkk:=(hn a ha').kinds;have:=hk a ha';exact j2.2 ⟨a,ha',(ih a ha').base a (la adh)⟩
   · rw [e] at hz ⊢
     obtain⟨y,hy,h⟩:=j2.1 hz;exact j2.2 ⟨y,hy,(ih y hy).exp v z h h4 a ha⟩
   · rw [e] at hL ⊢
     obtain⟨y,hy,h⟩:=j2.1 hL;exact j2.2 ⟨y,hy,(ih y hy).step v b L L' h hL'⟩
 | @star y hn hk h4 hc =>
   have hx:=Nf.star hn hk h4;have e:∀v,dP (.mk 5 [] [y]) v=[.mk 5 [] [y]] :: G0 [y] v (.mk 5 [] [y]):=uM rfl;have hself:∀v b L',L'∈ri b [Rx.mk 5 [] [y]]→L'∈dP (.mk 5 [] [y]) (v++[b]):=fun v b L' h=>by
     rw[ri,ri] at h;split at h
     · cases h
     · next h0 =>
       rw[abe,aaY] at h;have ed:dR b (.mk 5 [] [y])=c4 [dR b y,.mk 5 [] [y]]:=Iw rfl (by show 0<1;decide);rw[ed] at h h0;have hk0:=sf h0 _ aaJ;rw[qU (fun z hz=>by
         rcases aa3.1 hz with rfl|hz
         · exact rE b hn
         · rw[aaY.1 hz];exact hx) h0] at h
       rw[h,e];refine aaW _ (mn.2 ⟨[b],Ep b v,_,No hn hc hk0,?_⟩);show cE _++(cE _++[])=_;rw[abe,ep (x:=.mk 5 [] [y]) (by show ¬(5:Int)=3;decide) (by show ¬(5:Int)=1;decide)]
   refine PN.mk' hx (fun a ha=>?_) (fun v z hz h4 a ha=>?_) fun v b L L' hL hL'=>?_
   · rw[(vH (by show ¬(5:Int)=4;decide) ha).1,e,ep (by show ¬(5:Int)=3;decide) (by show ¬(5:Int)=1;decide)];exact aaJ
   · rw [e] at hz
     have hz5:z.kind=5:=by
       rcases aa3.1 hz with q|q
       · rw[(acv q).1];rfl
       · obtain ⟨u, hu, M, hM, eM⟩ := mn.1 q
         rcases IB eM with⟨_,q⟩|⟨_,q⟩
         · rw[←(acv q).1];rfl
         · cases q
     omega
   · rw [e] at hL
     rcases aa3.1 hL with rfl|hL
     · exact hself v b L' hL'
     · obtain ⟨u, hu, M, hM, rfl⟩ := mn.1 hL
       rcases Cp hL' with⟨M',hM',rfl⟩|hR
       · rw [e]
         exact aaW _ (mn.2 ⟨u++[b],AU b hu,M',IA hn hc hM hM',rfl⟩)
       · exact hself v b L' hR
inductive dV (P:List Int→Prop):List Int→Prop
 | nil:dV P []
 | cons {u v:List Int}:P u→dV P v→dV P (u++v)
mutual
def fl:Rx→List Int→Prop
 | .mk k s l=>fun w=>if k=1 then w=[] else if k=2 then ∃a,w=[a]∧a∈s else if k=3 then kc l w else if k=4 then zL l w else if k=5 then Eu l w else False
def kc:List Rx→List Int→Prop
 | []=>fun w=>w=[]
 | x :: l=>fun w=>∃u v,w=u++v∧fl x u∧kc l v
def zL:List Rx→List Int→Prop
 | []=>fun _=>False
 | x :: l=>fun w=>fl x w∨zL l w
def Eu:List Rx→List Int→Prop
 | []=>fun w=>w=[]
 | x :: _=>fun w=>dV (fl x) w
end
theorem sh (r:Rx)(w:List Int):fl r w=(if r.kind=1 then w=[] else if r.kind=2 then ∃a,w=[a]∧a∈r.syms else if r.kind=3 then kc r.kids w else if r.kind=4 then zL r.kids w else
 if r.kind=5 then Eu r.kids w else False):=by cases r with|mk k s l=>rw[fl];rfl
theorem mX (h:r.kind=0)(w:List Int):¬fl r w:=by rw[sh,if_neg adh,if_neg adh,if_neg adh,if_neg adh,if_neg adh];exact id
theorem mo (h:r.kind=1)(w:List Int):fl r w↔w=[]:=by rw[sh,if_pos h]
theorem nW (h:r.kind=2)(w:List Int):fl r w↔∃a,w=[a]∧a∈r.syms:=by rw[sh,if_neg adh,if_pos h]
theorem vI (h:r.kind=3)(w:List Int):fl r w↔kc r.kids w:=by rw[sh,if_neg adh,if_neg adh,if_pos h]
theorem tt (h:r.kind=4)(w:List Int):fl r w↔zL r.kids w:=by rw[sh,if_neg adh,if_neg adh,if_neg adh,if_pos h]
theorem vJ (h:r.kind=5)(w:List Int):fl r w↔Eu r.kids w:=by rw[sh,if_neg adh,if_neg adh,if_neg adh,if_neg adh,if_pos h]
theorem iw (w:List Int):kc [] w↔w=[]:=by rw[kc]
theorem ea (x:Rx)(l:List Rx)(w:List Int):kc (x :: l) w↔∃u v,w=u++v∧fl x u∧kc l v:=by rw[kc]
theorem gD {w:List Int}:∀{l:List Rx},zL l w↔∃x∈l,fl x w
 | []=>by rw[zL];simp
 | x :: l=>by rw[zL];show fl x w∨zL l w↔_;rw[gD];simp
theorem mq (x:Rx)(w:List Int):Eu [x] w↔dV (fl x) w:=by rw[Eu]
theorem jb (x:Rx)(w:List Int):kc [x] w↔fl x w:=by
 rw[ea];constructor
 ·rintro⟨u,v,rfl,hu,hv⟩;rw[iw] at hv;rw[hv,abe];exact hu
 ·exact fun h=>⟨w,[],(abe w).symm,h,(iw _).2 rfl⟩
theorem pZ:∀ {l m:List Rx}{w:List Int},kc (l++m) w↔∃u v,w=u++v∧kc l u∧kc m v
 | [], m, w => by
   rw[abH];constructor
   · exact fun h=>⟨[],w,rfl,(iw _).2 J,h⟩
   · rintro ⟨u, v, rfl, hu, hv⟩
     rw[iw] at hu;rw[hu];exact hv
 | x :: l, m, w => by
   rw[acg,ea];constructor
   · rintro ⟨u, v, rfl, hu, hv⟩
     obtain⟨u',v',rfl,hu',hv'⟩:=pZ.1 hv;exact⟨u++u',v',(abr _ _ _).symm,(ea _ _ _).2 ⟨u,u',rfl,hu,hu'⟩,hv'⟩
   · rintro ⟨u, v, rfl, hu, hv⟩
     obtain⟨u',v',rfl,hu',hv'⟩:=(ea _ _ _).1 hu;exact⟨u',v'++v,abr _ _ _,hu',pZ.2 ⟨v',v,rfl,hv',hv⟩⟩
variable{Q:List Int→Prop}
theorem dV.mono (h:∀w,P w→dV Q w)(hw:dV P w):dV Q w:=by
 have app:∀{u v:List Int},dV Q u→dV Q v→dV Q (u++v):=fun{u v} hu hv=>by
  induction hu with
  | nil=>exact hv
  | cons h1 _ ih=>rw[abr];exact .cons h1 ih
 induction hw with
 | nil=>exact .nil
 | cons h1 _ ih=>exact app (h _ h1) ih
theorem dV.one (h:P w):dV P w:=by have:=dV.cons h .nil;rwa [abe] at this
theorem dV.congr (h:∀w,P w↔Q w)(w:List Int):dV P w↔dV Q w :=
 ⟨dV.mono fun w hw=>.one ((h w).1 hw),dV.mono fun w hw=>.one ((h w).2 hw)⟩
theorem dV.none (h:∀w,P w→w=[])(hw:dV P w):w=[]:=by
 induction hw with
 | nil=>rfl
 | cons h1 _ ih=>rw[h _ h1,ih];rfl
theorem dV.head :dV P (a :: w)↔∃u v,w=u++v∧P (a :: u)∧dV P v:=by
 constructor
 · intro h
   have:∀z,dV P z→z=a :: w→∃u v,w=u++v∧P (a :: u)∧dV P v:=by
     intro z hz
     induction hz with
     | nil=>intro e;cases e
     | @cons u v h1 h2 ih =>
       intro e
       match u,e with
       | [],e=>exact ih e
       | b :: u, e =>
         obtain⟨rfl,e2⟩:=acv e;exact⟨u,v,e2.symm,h1,h2⟩
   exact this _ h J
 · rintro ⟨u, v, rfl, h1, h2⟩
   exact .cons (u:=a :: u) h1 h2
theorem dV.rev (h:∀w,P w→Q w.reverse)(hw:dV P w):dV Q w.reverse:=by
 have app:∀{u v:List Int},dV Q u→dV Q v→dV Q (u++v):=fun{u v} hu hv=>by
  induction hu with
  | nil=>exact hv
  | cons h1 _ ih=>rw[abr];exact .cons h1 ih
 induction hw with
 | nil=>exact .nil
 | cons h1 _ ih=>rw[List.reverse_append];exact app ih (.one (h _ h1))
theorem wV (x:Rx):cT x=true↔fl x []:=by
 refine Cm (P:=fun x=>cT x=true↔fl x []) (fun x ih=>?_) x;rw[qH];by_cases h3:x.kind=3
 · rw [if_pos h3, vI h3]
   have:∀l:List Rx,(∀x∈l,cT x=true↔fl x [])→(l.all cT=true↔kc l []):=by
     intro l
     induction l with
     | nil=>intro _;rw[iw];simp
     | cons y l ihl =>
       intro h;have h1:=ihl fun z hz=>h z (aaW _ hz)
       rw[List.all_cons,aaZ,h y aaJ,h1,ea];constructor
       · exact fun h=>⟨[],[],rfl,h.1,h.2⟩
       · rintro ⟨u, v, e, hu, hv⟩
         have e':=List.append_eq_nil_iff.1 e.symm;rw[e'.1] at hu;rw[e'.2] at hv;exact⟨hu,hv⟩
   exact this _ ih
 · rw [if_neg h3]
   by_cases h4:x.kind=4
   · rw [if_pos h4, tt h4, gD, abk]
     exact exists_congr fun y=>and_congr_right fun hy=>ih y hy
   · rw [if_neg h4, decide_eq_true_eq]
     by_cases h1:x.kind=1
     · rw[mo h1];exact⟨fun _=>rfl,fun _=>.inl h1⟩
     · by_cases h5 : x.kind = 5
       · rw [vJ h5]
         refine⟨fun _=>?_,fun _=>.inr h5⟩
         match x.kids with
         | []=>rw[Eu]
         | y :: l=>rw[Eu];exact .nil
       · refine ⟨fun h => absurd h adh, fun h => ?_⟩
         by_cases h2:x.kind=2
         · obtain ⟨a, e, _⟩ := (nW h2 _).1 h
           cases e
         · rw[sh,if_neg h1,if_neg h2,if_neg h3,if_neg h4,if_neg h5] at h;cases h
theorem Np (x:Rx)(w:List Int):kc (cE x) w↔fl x w:=by
 by_cases h3:x.kind=3
 ·rw[iP h3,vI h3]
 ·by_cases h1:x.kind=1
  ·rw[mi h1,iw,mo h1]
  ·rw[ep h3 h1,jb]
theorem Ev:∀ (l:List Rx)(w:List Int),kc (ez l) w↔kc l w
 | [],w=>Iff.rfl
 | x :: l, w => by
   have e:ez (x :: l)=cE x++ez l:=rfl;rw[e,pZ,ea];exact exists_congr fun u=>exists_congr fun v=>and_congr_right fun _=>and_congr (Np x u) (Ev l v)
theorem Nq {l:List Rx}(h:kc l w):∀x∈l,∃u,fl x u:=by
 induction l generalizing w with
 | nil=>intro x hx;cases hx
 | cons y l ih =>
   obtain⟨u,v,rfl,hu,hv⟩:=(ea _ _ _).1 h;intro x hx;rcases aa3.1 hx with rfl|hx
   · exact⟨u,hu⟩
   · exact ih hv x hx
theorem p9 (l:List Rx)(w:List Int):fl (c4 l) w↔kc l w:=by
 unfold c4;by_cases h:l.any (fun x=>decide (x.kind=0))=true
 ·rw[if_pos h];obtain⟨x,hx,h0⟩:=abk.1 h;refine⟨fun q=>absurd q (mX J w),fun q=>?_⟩;obtain⟨u,hu⟩:=Nq q x hx;exact absurd hu (mX (of_decide_eq_true h0) u)
 ·rw[if_neg h,←Ev l];generalize ez l=s
  match s with
  | []=>exact(mo (r:=eP) rfl w).trans (iw w).symm
  | [y]=>exact(jb y w).symm
  | y :: z :: s=>rw[sb (by simp) (by simp)];exact vI rfl w
theorem Nr (k:List Rx)(w:List Int):fl (wk k) w↔∃x∈k,fl x w:=by
 match k with
 | []=>exact⟨fun h=>absurd h (mX rfl w),fun⟨x,hx,_⟩=>by cases hx⟩
 | [y]=>exact⟨fun h=>⟨y,aaJ,h⟩,fun⟨x,hx,h⟩=>by rw[aaY.1 hx] at h;exact h⟩
 | y :: z :: k=>rw[x6 (by simp) (by simp)];exact(tt rfl w).trans gD
theorem Ew (x:Rx)(w:List Int):(∃y∈oM x,fl y w)↔fl x w:=by
 by_cases h4:x.kind=4
 ·rw[gS h4,tt h4,gD]
 ·rw[jx h4];exact⟨fun⟨y,hy,h⟩=>by rw[aaY.1 hy] at h;exact h,fun h=>⟨x,aaJ,h⟩⟩
theorem tu {l:List Rx}(w:List Int):fl (gZ l) w↔∃x∈l,fl x w:=by
 have hC : (∃ x ∈ j9 (ef l), fl x w) ↔ ∃ x ∈ ef l, fl x w := by
   by_cases h:1<(ef l).length∧((ef l).getD 0 default).kind=1∧((ef l).drop 1).any cT=true
   · rw [x7 h.1 h.2.1 h.2.2]
     constructor
     · exact fun⟨x,hx,hs⟩=>⟨x,abp hx,hs⟩
     · rintro ⟨x, hx, hs⟩
       by_cases e:x=(ef l).getD 0 default
       · obtain ⟨y, hy, ha⟩ := abk.1 h.2.2
         rw[e,mo h.2.1] at hs;exact⟨y,hy,by rw[hs];exact(wV y).1 ha⟩
       · exact⟨x,nS hx e,hs⟩
   · rw[mj h]
 unfold gZ;rw[Nr,hC];have hL:(∃x∈aX l,fl x w)↔∃x∈l,fl x w:=by
   constructor
   · rintro ⟨x, hx, hs⟩
     obtain⟨y,hy,hxy⟩:=pW.1 hx;exact⟨y,hy,(Ew y w).1 ⟨x,hxy,hs⟩⟩
   · rintro ⟨y, hy, hs⟩
     obtain⟨x,hx,hs⟩:=(Ew y w).2 hs;exact⟨x,pW.2 ⟨y,hy,hx⟩,hs⟩
 rw[←hL];constructor
 · rintro ⟨x, hx, hs⟩
   have h1:=tk hx;rw[gC] at h1;rcases h1 with h1|⟨_,rfl⟩
   · exact⟨x,(iq.1 h1).1,hs⟩
   · obtain ⟨a, ha, hm⟩ := (nW rfl w).1 hs
     have hm':a∈uH (dg l):=hm;obtain⟨y,hy,hk,hz⟩:=k7.1 (k6.1 hm');exact⟨y,hy,(nW hk w).2 ⟨a,ha,hz⟩⟩
 · rintro ⟨x, hx, hs⟩
   by_cases h0:x.kind=0
   · exact absurd hs (mX h0 w)
   · by_cases h2 : x.kind = 2
     · obtain ⟨a, ha, hm⟩ := (nW h2 w).1 hs
       have hz:a∈dg l:=k7.2 ⟨x,hx,h2,hm⟩;refine⟨.mk 2 (uH (dg l)) [],?_,(nW J w).2 ⟨a,ha,k6.2 hz⟩⟩;rw[j1,jZ,gC];exact .inr ⟨ab0.2 ⟨a,hz⟩,rfl⟩
     · refine ⟨x, ?_, hs⟩
       rw[j1,jZ,gC];exact .inl (iq.2 ⟨hx,h0,h2⟩)
theorem AX  (h:Nf x) (w:List Int):fl (lC x) w↔dV (fl x) w:=by
 by_cases h01:x.kind=0∨x.kind=1
 · rw [wM h01, mo rfl]
   refine⟨fun e=>by rw[e];exact .nil,fun q=>dV.none (fun u hu=>?_) q⟩;rcases h01 with k|k
   · exact absurd hu (mX k u)
   · exact(mo k u).1 hu
 · by_cases h5 : x.kind = 5
   · obtain ⟨y, e, _⟩ := h.k5 h5
     rw[wN h5];have hy:∀w,fl x w↔dV (fl y) w:=fun w=>by rw[e];exact(vJ rfl w).trans (mq y w)
     exact⟨dV.one,fun q=>(hy w).2 (dV.mono (fun u hu=>(hy u).1 hu) q)⟩
   · rw [oR h01 h5]
     refine(vJ J w).trans ((mq _ w).trans ?_);by_cases q:x.kind=4∧(x.kids.getD 0 default).kind=1
     · obtain ⟨e, h2, hn, hk4, hs, ht, ha⟩ := h.k4 q.1
       have hx:∀u,fl x u↔∃y∈x.kids,fl y u:=fun u=>(tt q.1 u).trans gD
       have hd:∀u,(∃y∈x.kids,fl y u)↔u=[]∨∃y∈x.kids.drop 1,fl y u:=fun u=>by
         constructor
         · rintro ⟨y, hy, hs⟩
           by_cases e:y=x.kids.getD 0 default
           · rw[e,mo q.2] at hs;exact .inl hs
           · exact .inr ⟨y,nS hy e,hs⟩
         · rintro (rfl | ⟨y, hy, hs⟩)
           · exact⟨_,aS (i:=0) adh,(mo q.2 _).2 J⟩
           · exact⟨y,abp hy,hs⟩
       have hB:∀u,fl (pR x) u↔∃y∈x.kids.drop 1,fl y u:=fun u=>by
         by_cases q2:x.kids.length=2
         · rw [wO q q2]
           have hl:x.kids.drop 1=[x.kids.getD 1 default]:=by rw[drop_cons adh,abM adh]
           rw[hl];exact⟨fun h=>⟨_,aaJ,h⟩,fun⟨y,hy,h⟩=>by rw[aaY.1 hy] at h;exact h⟩
         · rw [wQ q q2]
           exact(tt (r:=.mk x.kind x.syms (x.kids.drop 1)) q.1 u).trans gD
       constructor
       · exact dV.mono fun u hu=>.one ((hx u).2 ((hd u).2 (.inr ((hB u).1 hu))))
       · refine dV.mono fun u hu => ?_
         rcases(hd u).1 ((hx u).1 hu) with rfl|hu
         · exact .nil
         · exact .one ((hB u).2 hu)
     · rw[qO q]
theorem TM (a:Int)(h:Nf x):∀w,fl (dR a x) w↔fl x (a :: w):=by
 induction h with
 | none=>exact fun w=>by rw[uK adj (fun h=>by cases h),Cn adj adj,k8];exact⟨fun q=>absurd q (mX rfl w),fun q=>absurd q (mX rfl _)⟩
 | empty=>exact fun w=>by rw[uK adj (fun h=>by cases h),Cn adj adj,k8];exact⟨fun q=>absurd q (mX rfl w),fun q=>absurd ((mo rfl _).1 q) (by simp)⟩
 | @set s h =>
   intro w;rw[yf,if_pos (show(Rx.mk 2 s []).kind=2 from rfl),nW (r:=.mk 2 s []) rfl];show fl (if a∈s then _ else _) w↔∃b,_∧b∈s;by_cases q:a∈s
   · rw [if_pos q, mo rfl]
     constructor
     · rintro rfl;exact⟨a,rfl,q⟩
     · rintro⟨b,e,_⟩;exact(acv e).2
   · rw [if_neg q]
     refine⟨fun h=>absurd h (mX J w),fun⟨b,e,hb⟩=>?_⟩;rw[(acv e).1] at q;exact absurd hb q
 | @seq l h2 hn hk ih =>
   intro w;rw[uK (by simp[Rx.kind]) (by simp[Rx.kind]),Ke rfl,tu,vI rfl];show(∃x∈uJ a l,_)↔kc l _;clear h2 hk
   induction l with
   | nil =>
     rw[uJ,iw];exact⟨fun⟨x,hx,_⟩=>(by cases hx),fun e=>(by cases e)⟩
   | cons x l ihl =>
     have h1:=ihl (fun y hy=>hn y (aaW _ hy)) fun y hy=>ih y (aaW _ hy)
     have h2:fl (c4 [dR a x,c4 l]) w↔∃u v,w=u++v∧fl x (a :: u)∧kc l v:=by
       rw[p9,ea];refine exists_congr fun u=>exists_congr fun v=>and_congr_right fun _=>and_congr (ih x aaJ u) ?_
       rw[jb,p9]
     rw[uJ,ea];constructor
     · rintro ⟨y, hy, hs⟩
       rcases aa3.1 hy with rfl|hy
       · obtain ⟨u, v, rfl, hu, hv⟩ := h2.1 hs
         exact⟨a :: u,v,rfl,hu,hv⟩
       · split at hy
         · next ha=>exact⟨[],a :: w,rfl,(wV x).1 ha,h1.1 ⟨y,hy,hs⟩⟩
         · cases hy
     · rintro ⟨u, v, e, hu, hv⟩
       match u,e with
       | [], e =>
         have e':v=a :: w:=e.symm;rw[e'] at hv;obtain⟨y,hy,hs⟩:=h1.2 hv;exact⟨y,aaW _ (by rw[if_pos ((wV x).2 hu)];exact hy),hs⟩
       | b :: u, e =>
         obtain⟨rfl,e2⟩:=acv e;exact⟨_,aaJ,h2.2 ⟨u,v,e2,hu,hv⟩⟩
 | @alt l h2 hn hk h4 h5 h6 ih =>
   intro w;rw[uK (by simp[Rx.kind]) (by simp[Rx.kind]),Ng rfl,tu,tt rfl,gD];show(∃x∈l.map (dR a),_)↔∃x∈l,_;constructor
   · rintro ⟨y, hy, hs⟩
     obtain⟨z,hz,rfl⟩:=aa7.1 hy;exact⟨z,hz,(ih z hz w).1 hs⟩
   · rintro ⟨z, hz, hs⟩
     exact⟨_,aa7.2 ⟨z,hz,rfl⟩,(ih z hz w).2 hs⟩
 | @star y hn hk h4 ih =>
   intro w;have hs:∀w,fl (.mk 5 [] [y]) w↔dV (fl y) w:=fun w=>(vJ rfl w).trans (mq y w)
   rw[Iw rfl (by show 0<1;decide),p9,ea,hs,dV.head];refine exists_congr fun u=>exists_congr fun v=>and_congr_right fun _=>and_congr (ih u) ?_
   rw[jb,hs]
theorem TN (h:Nf x):∀u w,fl (Dv x u) w↔fl x (u++w):=fun u=>by refine iu (P:=fun u=>∀w,fl (Dv x u) w↔fl x (u++w)) (fun w=>Iff.rfl) (fun u b ih w=>?_) u;rw[qT,TM b (AW h u),ih,abr];rfl
theorem TO (h:Nf x)(u:List Int):cT (Dv x u)=true↔fl x u:=by rw[wV,TN h,abe]
theorem Ex {f:Rx→Rx}:∀{l:List Rx},(∀x∈l,∀w,fl (f x) w↔fl x w)→∀w,kc (l.map f) w↔kc l w
 | [],_,w=>Iff.rfl
 | x :: l, h, w => by
   rw[abx,ea,ea];exact exists_congr fun u=>exists_congr fun v=>and_congr_right fun _=>and_congr (h x aaJ u) (Ex (fun y hy=>h y (aaW _ hy)) v)
theorem Ey {f:Rx→Rx}:∀{l:List Rx},(∀x∈l,∀w,fl (f x) w↔fl x w.reverse)→∀w,kc (l.map f).reverse w↔kc l w.reverse
 | [], _, w => by
   rw[abW,List.reverse_nil,iw,iw,List.reverse_eq_nil_iff]
 | x :: l, h, w => by
   rw[abx,List.reverse_cons,pZ,ea];have ih:=Ey (l:=l) fun y hy=>h y (aaW _ hy)
   constructor
   · rintro ⟨u, v, rfl, hu, hv⟩
     rw[jb] at hv;exact⟨v.reverse,u.reverse,List.reverse_append,(h x aaJ v).1 hv,(ih u).1 hu⟩
   · rintro ⟨u, v, e, hu, hv⟩
     refine⟨v.reverse,u.reverse,?_,(ih _).2 (by rw[ab7];exact hv),(jb _ _).2 ((h x aaJ _).2 (by rw[ab7];exact hu))⟩;rw[←List.reverse_append,←e,ab7]
theorem AY (r:Rx):aT r=true→(∀ w,fl (aN false r) w↔fl r w)∧∀ w,fl (aN true r) w↔fl r w.reverse:=by
 refine Cm (P:=fun r=>aT r=true→(∀w,fl (aN false r) w↔fl r w)∧∀w,fl (aN true r) w↔fl r w.reverse) (fun r ih hv=>?_) r;have hf:∀x∈r.kids,∀w,fl (aN false x) w↔fl x w:=fun x hx=>(ih x hx (ir hv x hx)).1
 have ht:∀x∈r.kids,∀w,fl (aN true x) w↔fl x w.reverse:=fun x hx=>(ih x hx (ir hv x hx)).2
 by_cases h3:r.kind=3
 · exact⟨fun w=>by rw[lX h3,p9,vI h3,Ex hf],fun w=>by rw[nQ h3,p9,vI h3,Ey ht]⟩
 · by_cases h4 : r.kind = 4
   · have hm : ∀ t w, (∃ x ∈ r.kids.map (aN t), fl x w) ↔ ∃ x ∈ r.kids, fl (aN t x) w := fun t w =>
       ⟨fun⟨y,hy,hs⟩=>by obtain⟨z,hz,rfl⟩:=aa7.1 hy;exact⟨z,hz,hs⟩,fun⟨z,hz,hs⟩=>⟨_,aa7.2 ⟨z,hz,rfl⟩,hs⟩⟩
     exact⟨fun w=>by rw[kY h4,tu,hm,tt h4,gD];exact exists_congr fun x=>and_congr_right fun hx=>hf x hx w,
       fun w=>by rw[kY h4,tu,hm,tt h4,gD];exact exists_congr fun x=>and_congr_right fun hx=>ht x hx w⟩
   · by_cases h5 : r.kind = 5
     · obtain ⟨y, hy⟩ := List.length_eq_one_iff.1 (lL hv h5).2
       have hm:y∈r.kids:=by rw[hy];exact aaJ
       have hb:=fun t=>pY t y (ir hv y hm)
       have e:∀t,(r.kids.map (aN t)).getD 0 default=aN t y:=fun t=>by rw[hy];rfl
       refine⟨fun w=>?_,fun w=>?_⟩
       · rw [kZ h5, e, AX (hb _), vJ h5, hy, mq]
         exact dV.congr (hf y hm) w
       · rw [kZ h5, e, AX (hb _), vJ h5, hy, mq]
         constructor
         · exact dV.rev fun u hu=>(ht y hm u).1 hu
         · intro q
           have:=dV.rev (Q:=fl (aN true y)) (fun u hu=>(ht y hm _).2 (by rw[ab7];exact hu)) q;rwa [ab7] at this
     · have hk := pX hv
       have e:∀t w,fl (aN t r) w↔fl r w:=fun t w=>by
         rw[jY h3 h4 h5];by_cases h1:r.kind=1
         · rw[mo h1,mo (r:=.mk r.kind r.syms []) h1]
         · by_cases h2 : r.kind = 2
           · rw[nW h2,nW (r:=.mk r.kind r.syms []) h2];exact Iff.rfl
           · exact⟨fun q=>absurd q (mX (r:=.mk r.kind r.syms []) (by show r.kind=0;omega) w),fun q=>absurd q (mX adh _)⟩
       refine⟨e false,fun w=>(e true w).trans ?_⟩;by_cases h1:r.kind=1
       · rw[mo h1,mo h1,List.reverse_eq_nil_iff]
       · by_cases h2 : r.kind = 2
         · rw [nW h2, nW h2]
           refine exists_congr fun a=>and_congr_left fun _=>?_
           constructor
           · rintro rfl;rfl
           · intro q
             have:=congrArg List.reverse q;rwa [ab7] at this
         · exact⟨fun q=>absurd q (mX adh w),fun q=>absurd q (mX adh _)⟩
theorem TP (r:Rx)(w:List Int)(k:Nat):Kh r w k=Dv (dw r) (w.take k):=rfl
theorem yk (r:Rx)(w:List Int):sd r w=cT (Dv (dw r) w):=by unfold sd;rw[TP,abK]
theorem lY (hv:aT r=true)(w:List Int):sd r w=true↔fl r w:=by rw[yk,TO (qS r)];unfold dw;rw[if_pos hv];exact(AY r hv).1 w
end Go.Wb
namespace Go.We
open Go.Am
theorem Ns {α:Type}{n i:Nat}{x:α}(h:i<n):(List.replicate n x)[i]?=some x:=by rw[acj,if_pos h]
def br (T:TypeId)(m:List (List Bool)):List Cell:=m.map fun r=>Cell.row T (r.map bool)
theorem cH (T:TypeId)(m:List (List Bool)):(br T m).length=m.length:=by unfold br;rw[aaA]
def ga (N:Nat)(g:Nat→Bool):List Bool:=(List.range N).map g
def cd (N:Nat)(f:Nat→Nat→Bool):List (List Bool):=(List.range N).map fun i=>ga N (f i)
abbrev Nt (l:List Bool):AV:=.sl (l.map bool)
abbrev qa (m:List (List Bool)):AV:=.sl (m.map Nt)
theorem bJ (N:Nat)(g:Nat→Bool):(ga N g).length=N:=by unfold ga;simp
theorem cM (N:Nat)(f:Nat→Nat→Bool):(cd N f).length=N:=by unfold cd;simp
section
variable {N i j:Nat}{f f':Nat→Nat→Bool}{g g':Nat→Bool}{T:TypeId}
theorem fE (h:j<N):(ga N g).getD j default=g j:=by unfold ga;rw[aax,aaI,abX h];rfl
theorem kK (h:i<N):(cd N f).getD i default=ga N (f i):=by unfold cd;rw[aax,aaI,abX h];rfl
theorem wW (h:i<N):(br T (cd N f))[i]?=some (.row T ((ga N (f i)).map bool)):=by unfold br cd;rw[aaI,aaI,abX h];rfl
theorem ix (h:∀j,j<N→g j=g' j):ga N g=ga N g':=acQ fun j hj=>h j (aba.1 hj)
theorem jc (h:∀i j,i<N→j<N→f i j=f' i j):cd N f=cd N f':=acQ fun i hi=>ix fun j hj=>h i j (aba.1 hi) hj
theorem j3 {v:Bool}(hj:j<N)(h:∀k,k<N→g' k=if k=j then v else g k):((ga N g).map bool).set j (bool v)=(ga N g').map bool:=by
 rw[←adf]
 congr 1
 unfold ga;refine ac0 (by simp) fun k h1 h2=>?_
 have hk:k<N:=by simpa using h2
 rw[List.getElem_set,aco,aco,ac5,h k hk];by_cases q:j=k
 ·rw[if_pos q,if_pos q.symm]
 ·rw[if_neg q,if_neg (abN q)]
theorem qV (hi:i<N)(h:∀k l,k<N→l<N→f' k l=if k=i then g l else f k l):(br T (cd N f)).set i (.row T ((ga N g).map bool))=br T (cd N f'):=by
 unfold br cd;refine ac0 (by simp) fun k h1 h2=>?_
 have hk:k<N:=by simpa using h2
 rw[List.getElem_set];simp only[aco,ac5];by_cases q:i=k
 ·rw[if_pos q];congr 2;exact ix fun l hl=>by rw[h k l hk hl,if_pos q.symm]
 ·rw[if_neg q];congr 2;exact ix fun l hl=>by rw[h k l hk hl,if_neg (abN q)]
end
def Ez (q:Bool)(i j:Nat):Bool:=decide (j=i)&&q
theorem Qq (T:TypeId)(n:Nat)(q:Bool){i:Nat}(hi:i<n+1):br T ((List.range (i+1)).map fun i=>ga (n+1) (Ez q i))=br T ((List.range i).map fun i=>ga (n+1) (Ez q i))++[.row T ((List.replicate (n+1) (bool false)).set i (bool q))]:=by
 unfold br;rw[abB,aaK,aaK]
 congr 1
 simp only[abx,abW];rw[show List.replicate (n+1) (bool false)=(ga (n+1) fun _=>false).map bool from(by unfold ga;refine ac0 (by simp) fun k h1 h2=>?_;simp),j3 (g':=Ez q i) hi fun k hk=>by
  unfold Ez;by_cases q1:k=i
  ·rw[if_pos q1,decide_eq_true q1];simp
  ·rw[if_neg q1,decide_eq_false q1];rfl]
def oV (a b:Nat→Nat→Bool)(i k j:Nat):Bool:=(List.range k).any fun l=>decide (i≤l)&&decide (l≤j)&&a i l&&b l j
def Vg (N:Nat)(a b:Nat→Nat→Bool)(i j:Nat):Bool:=oV a b i N j
theorem Nu (a b:Nat→Nat→Bool)(i k j:Nat):oV a b i (k+1) j=(oV a b i k j||(decide (i≤k)&&decide (k≤j)&&a i k&&b k j)):=by unfold oV;rw[abB,ac4];simp
theorem Ki (a b:Nat→Nat→Bool)(i j:Nat):oV a b i i j=false:=by unfold oV;rw[ab6];intro l hl;have:=aba.1 hl;rw[decide_eq_false (show ¬i≤l by omega)];simp
def Dp (a b:Nat→Nat→Bool)(i k j l:Nat):Bool:=oV a b i k l||(decide (k≤l)&&decide (l<j)&&a i k&&b k l)
theorem Kj (a b:Nat→Nat→Bool)(i k l:Nat):Dp a b i k k l=oV a b i k l:=by
 unfold Dp;by_cases h:k≤l
 ·rw[decide_eq_false (show ¬l<k by omega)];simp
 ·rw[decide_eq_false h];simp
theorem Qr {a b:Nat→Nat→Bool}{i k j l:Nat}(hi:i≤k)(h:l<j∨a i k=false):Dp a b i k j l=oV a b i (k+1) l:=by
 unfold Dp;rw[Nu,decide_eq_true hi];rcases h with h|h
 ·rw[decide_eq_true h];simp
 ·rw[h];simp
theorem EA {a b:Nat→Nat→Bool}{i k j l:Nat}(hk:k≤j)(ha:a i k=true):Dp a b i k (j+1) l=if l=j then(Dp a b i k j j||b k j) else Dp a b i k j l:=by
 by_cases h:l=j
 ·subst h;rw[if_pos rfl];unfold Dp;rw[decide_eq_true hk,decide_eq_true (show l<l+1 by omega),decide_eq_false (show ¬l<l by omega),ha];simp
 ·rw[if_neg h];unfold Dp;rw[show decide (l<j+1)=decide (l<j) from decide_eq_decide.2 adh]
def Kk (N:Nat)(a b:Nat→Nat→Bool)(i k l:Nat):Bool:=decide (k<i)&&Vg N a b k l
end Go.We
namespace Go.Am
open Go.RowKit Go.MapKept Go.ChangeMaps
section
variable {P:Program} {w0:Fr}{M0:Nat→Prop}
variable {o:Oper} {ρ:Operand→Option SV}{ob:List (Nat×Ob)}{x y z:Operand}{T T' e:TypeId}{k b:Nat}{c:fX}{id off:Nat}{s:St}{t:Nat}
end
end Go.Am
