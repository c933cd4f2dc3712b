/-
  Part of the proof.
-/
import Derived.Test.YtlapahnodhmcpaaGreatX0
import Derived.Maps.AppendAt
import Derived.Great.FillDense
import Derived.Great.BuildSlice
import Derived.Lib.SmallJoins
import Derived.MapKept
import Derived.ChangeMaps4
import Derived.Carry
import Derived.Laws.BytesArg
import Derived.Shelf.SlSortCmp.Kit1
set_option linter.unusedVariables false
set_option linter.unusedSectionVars false
set_option linter.unusedSimpArgs false
set_option maxRecDepth 100000
set_option maxHeartbeats 40000000
namespace Go.Am
open Go.RowKit
def SV.refs (id:Nat):SV→Bool
 | .own i=>Nat.beq i id
 | .pel i _ _=>Nat.beq i id
 | .pbox i _=>Nat.beq i id
 | .omap i=>Nat.beq i id
 | .vsl i _ _=>Nat.beq i id
 | .fn _ caps => caps.any fun c => match c with
   | .bx i=>Nat.beq i id
   | .ow i=>Nat.beq i id
   | .om i=>Nat.beq i id
   | _=>false
 | .hid _ caps => caps.any fun c => match c with
   | .bx i=>Nat.beq i id
   | .ow i=>Nat.beq i id
   | .om i=>Nat.beq i id
   | _=>false
 | .nst i=>Nat.beq i id
 | .nel i _=>Nat.beq i id
 | _=>false
def SV.stays (kill:Bool)(id:Nat):SV→Bool
 | .v .vw _=>false
 | d=>!(kill&&d.refs id)
def sS (st:SV→Bool):Option (Nat×eh)→Option (Nat×eh)
 | some (j,.arr u)=>some (j,if st (.own u) then .arr u else .no)
 | some (j,.map u)=>some (j,if st (.omap u) then .map u else .no)
 | ln=>ln
def gy (st:SV→Bool):Ob→Ob
 | .box e cs=>.box e (cs.map fun d=>if st d then d else .dead)
 | .nar e cs ln=>.nar e cs (sS st ln)
 | .nmp ks cs ln=>.nmp ks cs (sS st ln)
 | ob=>ob
def iV (st:SV→Bool)(o:List (Nat×Ob)):List (Nat×Ob):=o.map fun p=>(p.1,gy st p.2)
def ib (kill:Bool)(id:Nat)(o:List (Nat×Ob)):List (Nat×Ob):=iV (SV.stays kill id) o
def St.cK (s:St)(kill:Bool)(id:Nat)(ob:Ob):St:={ n:=s.n,s:=s.s.filter (fun p=>p.2.stays kill id),o:=ins id ob (ib kill id s.o) }
def LW (kill:Bool)(id:Nat):Ob→Ob:=gy (SV.stays kill id)
theorem gm (st:SV→Bool)(i:Nat)(o:List (Nat×Ob)):(iV st o).lookup i=(o.lookup i).map (gy st):=by
 induction o with
 | nil=>rfl
 | cons p r ih =>
   obtain⟨t,d⟩:=p;simp only[iV,abx] at ih ⊢;rw[aq,aq,ih];split
   · cases d<;>rfl
   · rfl
theorem cC (kill:Bool)(id i:Nat)(o:List (Nat×Ob)):(ib kill id o).lookup i=(o.lookup i).map (LW kill id):=gm _ i o
theorem Ag (st:SV→Bool)(ln:Option (Nat×eh)):(sS st ln).map (·.1)=ln.map (·.1):=by
 cases ln with
 | none=>rfl
 | some p=>obtain⟨j,l⟩:=p;cases l<;>rfl
theorem qz {st:SV→Bool}{cs:List Cell}{ln:Option (Nat×eh)}{f:Nat→Value}{b:Nat}:fY f b cs (sS st ln)↔fY f b cs ln:=by unfold fY;rw[Ag]
variable{i:Nat}
theorem iD {E:Env}{st:SV→Bool}{b:Nat}{ob:Ob}:bG E i b (gy st ob)↔bG E i b ob:=by
 cases ob with
 | nar e cs ln=>simp only[gy,bG,qz]
 | nmp ks cs ln=>simp only[gy,bG,qz]
 | _=>exact Iff.rfl
def Nodup (l:List (Nat×SV)):Bool:=match l with
 | []=>true
 | (t,_) :: r=>!(r.any fun p=>Nat.beq p.1 t)&&Nodup r
theorem lq:∀ (l:List (Nat×SV))(t:Nat)(d:SV),Nodup l=true→(t,d)∈l→l.lookup t=some d
 | [],t,d,_,h=>by cases h
 | (u, e) :: r, t, d, hn, h => by
   simp only[Nodup,aaZ,abw] at hn;rw[aq];rcases aa3.1 h with h|h
   · simp only [abP] at h
     rw[if_pos h.1,h.2]
   · rw [if_neg, lq r t d hn.2 h]
     intro he;have h1:=hn.1;rw[ab6] at h1;exact h1 (t,d) h (by simpa using he)
variable{v:Value}{E':Env}{a:Act}{w':World}
section
variable {P:Program} {w0:Fr}{M0:Nat→Prop}
theorem BU {t:Nat}(h:t<1000000):∀x∈w0.pin,x.1≠t:=fun x hx he=>by have:=w0.hpin x hx;omega
def Alike (s:St)(id:Nat)(ob':Ob):Prop :=
 (∃e xs xs',s.o.lookup id=some (.arr e xs)∧ob'=.arr e xs'∧xs'.length=xs.length)∨(∃e cs cs',s.o.lookup id=some (.box e cs)∧ob'=.box e cs')∨(∃ks vs ks' vs',s.o.lookup id=some (.mp ks vs)∧ob'=.mp ks' vs') ∨
 (∃e cs ln cs' ln',s.o.lookup id=some (.nar e cs ln)∧ob'=.nar e cs' ln'∧cs.length≤cs'.length)∨(∃ks cs ln ks' cs' ln',s.o.lookup id=some (.nmp ks cs ln)∧ob'=.nmp ks' cs' ln')
theorem BV (st:SV→Bool)(l:List (Nat×SV))(t:Nat)(d:SV)(h:(l.filter (fun p=>st p.2)).lookup t=some d):st d=true∧((t,d)∈l):=by have hm:=kG _ h;obtain⟨h1,h2⟩:=abA.1 hm;exact⟨h2,h1⟩
theorem sK.kT {w:World}{E:Env}{o:List (Nat×Ob)}{e:TypeId}{xs:List AV}{b:Nat}(h:sK P w0 M0 w E o e xs v)(hb:v.ownBlock=some b){ds:Option (List Deferred)}:w.heap[b]?≠some (.deferred ds):=by
 obtain⟨vals,h1,_⟩:=h;rcases h1.1.2 with⟨h2,_⟩|⟨g,cap,cur,hv,_,h3,_⟩
 ·rw[h2] at hb;cases hb
 ·rw[hv] at hb;injection hb with hb;subst hb;rw[h3];intro h;cases h
theorem nD {w:World}{E:Env}{o:List (Nat×Ob)}{f:Nat→Value}{cs:List Cell}{ln:Option (Nat×eh)}{b:Nat}(h:js P w0 M0 w E o f cs ln)(hb:fY f b cs ln){ds:Option (List Deferred)}:w.heap[b]?≠some (.deferred ds):=by
 obtain⟨j,c,hc,hl,hb⟩:=hb;have:=h.ok j c hc hl;cases c with
 | d x=>exact hb.elim
 | row e xs=>exact sK.kT this hb
 | mp ks vs =>
   obtain⟨b',e,es,clock,h1,_⟩:=this;rw[show f j=_ from hb] at e;injection e with e;injection e with e;subst e;rw[h1];intro h;cases h
theorem kP.kT {w:World}{E:Env}{o:List (Nat×Ob)}{id b:Nat}{ob:Ob}(h:kP P w0 M0 w E o id ob)(hb:bG E id b ob){ds:Option (List Deferred)}:w.heap[b]?≠some (.deferred ds):=by
 cases ob with
 | arr e xs=>exact sK.kT (E:=E) (o:=o) h hb
 | box e cs =>
   obtain⟨vals,h1,_⟩:=h;rw[←show E.blk id=b from hb,h1];intro h;cases h
 | mp ks vs =>
   obtain⟨es,clock,h1,_⟩:=h;rw[←show E.blk id=b from hb,h1];intro h;cases h
 | nar e cs ln =>
   obtain⟨n,vals,h1,_,_,h4,_⟩:=h;rcases hb with hb|hb
   · rcases h1.1.2 with ⟨h2, _⟩ | ⟨g, cap, cur, hv, _, h3, _⟩
     · rw[h2] at hb;cases hb
     · rw [hv] at hb
       injection hb with hb;subst hb;rw[h3];intro h;cases h
   · exact nD h4 hb
 | nmp ks cs ln =>
   obtain⟨es,clock,h1,_,_,_,_,h4,_⟩:=h;rcases hb with hb|hb
   · rw[←hb,h1];intro h;cases h
   · exact nD h4 hb
theorem ba.xo {E:Env}{s:St}{w:World}(st:SV→Bool)(N:Nat→Option (Option Ob))(o':List (Nat×Ob))(hlo:∀i,o'.lookup i=match N i with|some x=>x|none=>(s.o.lookup i).map (gy st))(hvw:∀d,st (.v .vw d)=false)
   (hk:∀i ob',N i=some (some ob')→(∃d,SV.refs i d=true∧st d=true)→E'.cur i=E.cur i∧E'.blk i=E.blk i∧Alike s i ob')(hrm:∀i,N i=some none→E'.cur i=E.cur i∧E'.blk i=E.blk i)
   (h:ba P w0 M0 E s a w)(hnd:Nodup s.s=true)(ae:∀b,M0 b→b<w0.w.heap.size)
   (hE:∀i,N i=none→E'.cur i=E.cur i∧E'.blk i=E.blk i∧E'.sub i=E.sub i)(hpn:∀x∈w0.pin,E'.blk x.1=E.blk x.1)(row:Option Nat)(hg:w.grownBy w' row)(hdr:w0.dr→w.drawn≤w'.drawn)
   (hrow:∀g,row=some g→∃i ob,N i≠none∧s.o.lookup i=some ob∧bG E i g ob)
   (hnew:∀i ob' b,N i=some (some ob')→bG E' i b ob'→(∃i0 ob,N i0≠none∧s.o.lookup i0=some ob∧bG E i0 b ob)∨w.heap.size≤b)
   (hdis:∀i ob i' ob' b,N i=some (some ob)→N i'=some (some ob')→bG E' i b ob→bG E' i' b ob'→i=i')
   (hob:(∀M v d,bL w (cI M0 (owned E s.o) M) v d→M≠.vw→bL w' (cI M0 (owned E' o') M) v d)→(∀v d,bm P M0 w E s.o v d→st d=true→bm P M0 w' E' o' v d)→(∀ln,nq E E' ln (sS st ln))→∀i ob',N i=some (some ob')→kP P w0 M0 w' E' o' i ob') :
   ba P w0 M0 E' { n:=s.n,s:=s.s.filter (fun p=>st p.2),o:=o' } a w':=by
 have look:∀i ob,o'.lookup i=some ob→N i=some (some ob)∨(N i=none∧∃ob0,s.o.lookup i=some ob0∧gy st ob0=ob):=fun i ob hl=>by
   rw[hlo i] at hl;cases hN:N i with
   | some x=>rw[hN] at hl;exact .inl (by rw[show x=some ob from hl])
   | none =>
     rw[hN] at hl;have hl:(s.o.lookup i).map (gy st)=some ob:=hl;rw[aaH] at hl;exact .inr ⟨rfl,hl⟩
 have oldB:∀{i b}{ob0:Ob},N i=none→bG E' i b (gy st ob0)→bG E i b ob0:=fun{i b ob0} hN hb=>by
   have hb:=iD.1 hb;obtain⟨q1,q2,q3⟩:=hE i hN;cases ob0<;>simp only[bG,q1,q2,q3] at hb ⊢<;>exact hb
 have hown:∀b,owned E' o' b→owned E s.o b∨w.heap.size≤b:=by
   rintro b ⟨i,ob,h1,h2⟩;rcases look i ob h1 with hN|⟨hN,ob0,h3,rfl⟩
   · rcases hnew i ob b hN h2 with ⟨i0, ob0, _, h3, h4⟩ | h3
     · exact .inl ⟨i0,ob0,h3,h4⟩
     · exact .inr h3
   · exact .inl ⟨i,ob0,h3,oldB hN h2⟩
 have rep:∀(M:fX) v d,bL w (cI M0 (owned E s.o) M) v d→M≠.vw→bL w' (cI M0 (owned E' o') M) v d:=by
   intro M v d hr hM;refine hr.mono hg.size (fun b hb hnM=>hg.block b hb (fun he=>?_)) (fun b hb hnM hM'=>?_)
   · obtain ⟨i, ob, _, h1, h2⟩ := hrow b he.symm
     have:owned E s.o b:=⟨i,ob,h1,h2⟩;cases M with
     | pl=>exact hnM (.inr this)
     | mx=>exact hnM this
     | vw=>exact hM rfl
   · cases M with
     | pl =>
       rcases hM' with hM'|hM'
       · exact hnM (.inl hM')
       · rcases hown b hM' with h1 | h1
         · exact hnM (.inr h1)
         · omega
     | mx =>
       rcases hown b hM' with h1|h1
       · exact hnM h1
       · omega
     | vw=>exact hM rfl
 have sv : ∀ v d, bm P M0 w E s.o v d → st d = true → bm P M0 w' E' o' v d := by
   intro v d hv hst;have own:∀i,SV.refs i d=true→∀ob,o'.lookup i=some ob→(E'.cur i=E.cur i∧E'.blk i=E.blk i∧Alike s i ob)∨((E'.cur i=E.cur i∧E'.blk i=E.blk i)∧∃ob0,s.o.lookup i=some ob0∧gy st ob0=ob):=fun i hr ob hl=>by
     rcases look i ob hl with hN|⟨hN,h3⟩
     · exact .inl (hk i ob hN ⟨d,hr,hst⟩)
     · exact .inr ⟨⟨(hE i hN).1,(hE i hN).2.1⟩,h3⟩
   cases d with
   | v c d =>
     refine rep c v d hv ?_;rintro rfl;rw[hvw] at hst;cases hst
   | own i =>
     intro e xs hl;rcases own i (by simp[SV.refs]) _ hl with⟨hc,hb,hh⟩|⟨⟨hc,hb⟩,ob0,h3,h4⟩
     · rw [hc]
       rcases hh with⟨e1,xs1,xs2,h1,h2,h3⟩|⟨e1,cs1,cs2,h1,h2⟩|⟨k1,v1,k2,v2,h1,h2⟩|⟨e1,cs1,l1,cs2,l2,h1,h2,h3⟩|⟨k1,c1,l1,k2,c2,l2,h1,h2⟩
       · exact hv _ _ h1
       all_goals cases h2
     · rw [hc]
       cases ob0<;>simp only[gy] at h4<;>cases h4;exact hv _ _ h3
   | pel i j off =>
     intro e xs hl;rcases own i (by simp[SV.refs]) _ hl with⟨hc,hb,hh⟩|⟨⟨hc,hb⟩,ob0,h3,h4⟩
     · rw [hc]
       rcases hh with⟨e1,xs1,xs2,h1,h2,h3⟩|⟨e1,cs1,cs2,h1,h2⟩|⟨k1,v1,k2,v2,h1,h2⟩|⟨e1,cs1,l1,cs2,l2,h1,h2,h3⟩|⟨k1,c1,l1,k2,c2,l2,h1,h2⟩
       · simp only [Ob.arr.injEq] at h2
         obtain⟨rfl,rfl⟩:=h2;rw[h3];exact hv _ _ h1
       all_goals cases h2
     · rw [hc]
       cases ob0<;>simp only[gy] at h4<;>cases h4;exact hv _ _ h3
   | pbox i off =>
     intro e xs hl;rcases own i (by simp[SV.refs]) _ hl with⟨hc,hb,hh⟩|⟨⟨hc,hb⟩,ob0,h3,h4⟩
     · rw [hb]
       rcases hh with⟨e1,xs1,xs2,h1,h2,h3⟩|⟨e1,cs1,cs2,h1,h2⟩|⟨k1,v1,k2,v2,h1,h2⟩|⟨e1,cs1,l1,cs2,l2,h1,h2,h3⟩|⟨k1,c1,l1,k2,c2,l2,h1,h2⟩
       · cases h2
       · exact hv _ _ h1
       all_goals cases h2
     · rw [hb]
       cases ob0<;>simp only[gy] at h4<;>cases h4;exact hv _ _ h3
   | vsl i j off =>
     intro e xs hl;rcases own i (by simp[SV.refs]) _ hl with⟨hc,hb,hh⟩|⟨⟨hc,hb⟩,ob0,h3,h4⟩
     · rw [hc]
       rcases hh with⟨e1,xs1,xs2,h1,h2,h3⟩|⟨e1,cs1,cs2,h1,h2⟩|⟨k1,v1,k2,v2,h1,h2⟩|⟨e1,cs1,l1,cs2,l2,h1,h2,h3⟩|⟨k1,c1,l1,k2,c2,l2,h1,h2⟩
       · simp only [Ob.arr.injEq] at h2
         obtain⟨rfl,rfl⟩:=h2;rw[h3];exact hv _ _ h1
       all_goals cases h2
     · rw [hc]
       cases ob0<;>simp only[gy] at h4<;>cases h4;exact hv _ _ h3
   | fn f caps =>
     obtain⟨vs,g1,g2,g3⟩:=hv;refine⟨vs,g1,g2,fun j c hc=>?_⟩;have g4:=g3 j c hc;cases c with
     | pl d=>exact rep .pl _ _ g4 (by simp)
     | bx i =>
       intro e cs hl;have hr:SV.refs i (.fn f caps)=true:=abk.2 ⟨_,abm hc,by simp⟩;rcases own i hr _ hl with⟨hcc,hb,hh⟩|⟨⟨hcc,hb⟩,ob0,h3,h4⟩
       · rw [hb]
         rcases hh with⟨e1,xs1,xs2,h1,h2,h3⟩|⟨e1,cs1,cs2,h1,h2⟩|⟨k1,v1,k2,v2,h1,h2⟩|⟨e1,cs1,l1,cs2,l2,h1,h2,h3⟩|⟨k1,c1,l1,k2,c2,l2,h1,h2⟩
         · cases h2
         · exact g4 _ _ h1
         all_goals cases h2
       · rw [hb]
         cases ob0<;>simp only[gy] at h4<;>cases h4;exact g4 _ _ h3
     | om i =>
       intro ks vs hl;have hr:SV.refs i (.fn f caps)=true:=abk.2 ⟨_,abm hc,by simp⟩;rcases own i hr _ hl with⟨hcc,hb,hh⟩|⟨⟨hcc,hb⟩,ob0,h3,h4⟩
       · rw [hb]
         rcases hh with⟨e1,xs1,xs2,h1,h2,h3⟩|⟨e1,cs1,cs2,h1,h2⟩|⟨k1,v1,k2,v2,h1,h2⟩|⟨e1,cs1,l1,cs2,l2,h1,h2,h3⟩|⟨k1,c1,l1,k2,c2,l2,h1,h2⟩
         · cases h2
         · cases h2
         · exact g4 _ _ h1
         all_goals cases h2
       · rw [hb]
         cases ob0<;>simp only[gy] at h4<;>cases h4;exact g4 _ _ h3
     | ow i =>
       intro e xs hl;have hr:SV.refs i (.fn f caps)=true:=abk.2 ⟨_,abm hc,by simp⟩;rcases own i hr _ hl with⟨hcc,hb,hh⟩|⟨⟨hcc,hb⟩,ob0,h3,h4⟩
       · rw [hcc]
         rcases hh with⟨e1,xs1,xs2,h1,h2,h3⟩|⟨e1,cs1,cs2,h1,h2⟩|⟨k1,v1,k2,v2,h1,h2⟩|⟨e1,cs1,l1,cs2,l2,h1,h2,h3⟩|⟨k1,c1,l1,k2,c2,l2,h1,h2⟩
         · exact g4 _ _ h1
         all_goals cases h2
       · rw [hcc]
         cases ob0<;>simp only[gy] at h4<;>cases h4;exact g4 _ _ h3
   | hid f caps =>
     obtain⟨vs,g1,g2,g3⟩:=hv;refine⟨vs,g1,g2,fun j c hc=>?_⟩;have g4:=g3 j c hc;cases c with
     | pl d=>exact rep .pl _ _ g4 (by simp)
     | bx i =>
       intro e cs hl;have hr:SV.refs i (.hid f caps)=true:=abk.2 ⟨_,abm hc,by simp⟩;rcases own i hr _ hl with⟨hcc,hb,hh⟩|⟨⟨hcc,hb⟩,ob0,h3,h4⟩
       · rw [hb]
         rcases hh with⟨e1,xs1,xs2,h1,h2,h3⟩|⟨e1,cs1,cs2,h1,h2⟩|⟨k1,v1,k2,v2,h1,h2⟩|⟨e1,cs1,l1,cs2,l2,h1,h2,h3⟩|⟨k1,c1,l1,k2,c2,l2,h1,h2⟩
         · cases h2
         · exact g4 _ _ h1
         all_goals cases h2
       · rw [hb]
         cases ob0<;>simp only[gy] at h4<;>cases h4;exact g4 _ _ h3
     | om i =>
       intro ks vs hl;have hr:SV.refs i (.hid f caps)=true:=abk.2 ⟨_,abm hc,by simp⟩;rcases own i hr _ hl with⟨hcc,hb,hh⟩|⟨⟨hcc,hb⟩,ob0,h3,h4⟩
       · rw [hb]
         rcases hh with⟨e1,xs1,xs2,h1,h2,h3⟩|⟨e1,cs1,cs2,h1,h2⟩|⟨k1,v1,k2,v2,h1,h2⟩|⟨e1,cs1,l1,cs2,l2,h1,h2,h3⟩|⟨k1,c1,l1,k2,c2,l2,h1,h2⟩
         · cases h2
         · cases h2
         · exact g4 _ _ h1
         all_goals cases h2
       · rw [hb]
         cases ob0<;>simp only[gy] at h4<;>cases h4;exact g4 _ _ h3
     | ow i =>
       intro e xs hl;have hr:SV.refs i (.hid f caps)=true:=abk.2 ⟨_,abm hc,by simp⟩;rcases own i hr _ hl with⟨hcc,hb,hh⟩|⟨⟨hcc,hb⟩,ob0,h3,h4⟩
       · rw [hcc]
         rcases hh with⟨e1,xs1,xs2,h1,h2,h3⟩|⟨e1,cs1,cs2,h1,h2⟩|⟨k1,v1,k2,v2,h1,h2⟩|⟨e1,cs1,l1,cs2,l2,h1,h2,h3⟩|⟨k1,c1,l1,k2,c2,l2,h1,h2⟩
         · exact g4 _ _ h1
         all_goals cases h2
       · rw [hcc]
         cases ob0<;>simp only[gy] at h4<;>cases h4;exact g4 _ _ h3
   | omap i =>
     intro ks vs hl;rcases own i (by simp[SV.refs]) _ hl with⟨hc,hb,hh⟩|⟨⟨hc,hb⟩,ob0,h3,h4⟩
     · rw [hb]
       rcases hh with⟨e1,xs1,xs2,h1,h2,h3⟩|⟨e1,cs1,cs2,h1,h2⟩|⟨k1,v1,k2,v2,h1,h2⟩|⟨e1,cs1,l1,cs2,l2,h1,h2,h3⟩|⟨k1,c1,l1,k2,c2,l2,h1,h2⟩
       · cases h2
       · cases h2
       · exact hv _ _ h1
       all_goals cases h2
     · rw [hb]
       cases ob0<;>simp only[gy] at h4<;>cases h4;exact hv _ _ h3
   | nst i =>
     refine⟨fun e cs ln hl=>?_,fun ks cs ln hl=>?_⟩
     · rcases own i (by simp [SV.refs]) _ hl with ⟨hc, hb, hh⟩ | ⟨⟨hc, hb⟩, ob0, h3, h4⟩
       · rw [hc]
         rcases hh with⟨e1,xs1,xs2,h1,h2,h3⟩|⟨e1,cs1,cs2,h1,h2⟩|⟨k1,v1,k2,v2,h1,h2⟩|⟨e1,cs1,l1,cs2,l2,h1,h2,h3⟩|⟨k1,c1,l1,k2,c2,l2,h1,h2⟩
         · cases h2
         · cases h2
         · cases h2
         · exact hv.1 _ _ _ h1
         · cases h2
       · rw [hc]
         cases ob0<;>simp only[gy] at h4<;>cases h4;exact hv.1 _ _ _ h3
     · rcases own i (by simp [SV.refs]) _ hl with ⟨hc, hb, hh⟩ | ⟨⟨hc, hb⟩, ob0, h3, h4⟩
       · rw [hb]
         rcases hh with⟨e1,xs1,xs2,h1,h2,h3⟩|⟨e1,cs1,cs2,h1,h2⟩|⟨k1,v1,k2,v2,h1,h2⟩|⟨e1,cs1,l1,cs2,l2,h1,h2,h3⟩|⟨k1,c1,l1,k2,c2,l2,h1,h2⟩
         · cases h2
         · cases h2
         · cases h2
         · cases h2
         · exact hv.2 _ _ _ h1
       · rw [hb]
         cases ob0<;>simp only[gy] at h4<;>cases h4;exact hv.2 _ _ _ h3
   | nel i j =>
     intro e cs ln hl;rcases own i (by simp[SV.refs]) _ hl with⟨hc,hb,hh⟩|⟨⟨hc,hb⟩,ob0,h3,h4⟩
     · rw [hc]
       rcases hh with⟨e1,xs1,xs2,h1,h2,h3⟩|⟨e1,cs1,cs2,h1,h2⟩|⟨k1,v1,k2,v2,h1,h2⟩|⟨e1,cs1,l1,cs2,l2,h1,h2,h3⟩|⟨k1,c1,l1,k2,c2,l2,h1,h2⟩
       · cases h2
       · cases h2
       · cases h2
       · simp only [Ob.nar.injEq] at h2
         obtain⟨rfl,rfl,rfl⟩:=h2;obtain⟨q1,q2⟩:=hv _ _ _ h1;exact⟨adh,q2⟩
       · cases h2
     · rw [hc]
       cases ob0<;>simp only[gy] at h4<;>cases h4;obtain⟨q1,q2⟩:=hv _ _ _ h3;exact⟨q1,q2⟩
   | dead=>trivial
 have lents:∀ln,nq E E' ln (sS st ln):=fun ln=>by
   have key:∀u d,SV.refs u d=true→st d=true→E'.cur u=E.cur u∧E'.blk u=E.blk u:=fun u d hr hs=>by
     cases hN:N u with
     | none=>exact⟨(hE u hN).1,(hE u hN).2.1⟩
     | some x => cases x with
       | none=>exact hrm u hN
       | some ob'=>exact⟨(hk u ob' hN ⟨d,hr,hs⟩).1,(hk u ob' hN ⟨d,hr,hs⟩).2.1⟩
   refine⟨Ag st ln,fun j u' hu=>?_,fun j u' hu=>?_⟩
   · match ln, hu with
     | some (j0, .arr u), hu =>
       have hu:some (j0,if st (.own u)=true then eh.arr u else .no)=some (j,.arr u'):=hu;cases q:st (.own u) with
       | true =>
         rw[if_pos q] at hu;cases hu;exact⟨u',rfl,(key u' (.own u') (by simp[SV.refs]) q).1⟩
       | false=>rw[if_neg (by rw[q];decide)] at hu;cases hu
     | some (j0, .map u), hu =>
       have hu:some (j0,if st (.omap u)=true then eh.map u else .no)=some (j,.arr u'):=hu;cases q:st (.omap u) with
       | true=>rw[if_pos q] at hu;cases hu
       | false=>rw[if_neg (by rw[q];decide)] at hu;cases hu
   · match ln, hu with
     | some (j0, .map u), hu =>
       have hu:some (j0,if st (.omap u)=true then eh.map u else .no)=some (j,.map u'):=hu;cases q:st (.omap u) with
       | true =>
         rw[if_pos q] at hu;cases hu;exact⟨u',rfl,(key u' (.omap u') (by simp[SV.refs]) q).2⟩
       | false=>rw[if_neg (by rw[q];decide)] at hu;cases hu
     | some (j0, .arr u), hu =>
       have hu:some (j0,if st (.own u)=true then eh.arr u else .no)=some (j,.map u'):=hu;cases q:st (.own u) with
       | true=>rw[if_pos q] at hu;cases hu
       | false=>rw[if_neg (by rw[q];decide)] at hu;cases hu
 have notrow:∀{i b ob0},N i=none→s.o.lookup i=some ob0→bG E i b ob0→some b≠row:=fun{i b ob0} hN hl hb he=>by
   obtain⟨i1,ob1,Yy,h5,h6⟩:=hrow b he.symm;have:=h.wok.disj i ob0 i1 ob1 b hl h5 hb h6;rw[this] at hN;exact Yy hN
 refine⟨h.size,h.defers.same J (fun D hD=>(hg.block D (gx hD) fun he=>by
   obtain⟨i,ob,_,h1,h2⟩:=hrow D he.symm;exact((h.wok.objs i ob h1).kT h2) hD).trans hD),fun t d ht=>?_,fun i ob hi=>?_,fun i ob i' obx b h1 h2 h3 h4=>?_,?_,?_⟩
 · obtain ⟨h2, h3⟩ := BV st s.s t d ht
   have:=h.slots t d (lq s.s t d hnd h3);exact⟨this.1,sv _ _ this.2 h2⟩
 · rcases look i ob hi with hN | ⟨hN, ob0, h3, rfl⟩
   · exact hob rep sv lents i ob hN
   · have h0 := h.wok.objs i ob0 h3
     obtain⟨e1,e2,e3⟩:=hE i hN;have hsb:∀b,bG E i b ob0→some b≠row:=fun b hb=>notrow hN h3 hb
     have hrg:∀b,bG E i b ob0→b<w.heap.size:=fun b hb=>(h0.dG hb).2
     cases ob0 with
     | arr e xs =>
       obtain⟨vals,h1,h2,h4⟩:=h0;refine⟨vals,?_,h2,fun j d hd=>⟨(h4 j d hd).1,rep .pl _ _ (h4 j d hd).2 (by simp)⟩⟩;rw[e1];refine⟨h1.1.kept hg ?_,h1.2⟩;cases hb:(E.cur i).ownBlock with
       | none=>exact .inl rfl
       | some b=>exact .inr (hsb b hb)
     | box e cs =>
       obtain⟨vals,h1,h2,h4,h5⟩:=h0;refine⟨vals,?_,by rw[e2];exact h2,by simpa using h4,fun j d hd=>?_⟩
       · rw [e2, hg.block _ (hrg _ rfl) (hsb _ rfl)]
         exact h1
       · rw [aaI, aaH] at hd
         obtain⟨d0,hd0,rfl⟩:=hd;have:=h5 j d0 hd0;split
         · exact⟨this.1,this.2.1,sv _ _ this.2.2 ‹_›⟩
         · exact⟨rfl,this.2.1,trivial⟩
     | mp ks vs =>
       obtain⟨es,clock,h1,h2,h4,h5,h6⟩:=h0;refine⟨es,clock,?_,by rw[e2];exact h2,h4,h5,fun j d hd=>rep .pl _ _ (h6 j d hd) (by simp)⟩;rw[e2,hg.block _ (hrg _ rfl) (hsb _ rfl)];exact h1
     | nar e cs ln =>
       obtain⟨n,vals,h1,h2,h4,h5,h6⟩:=h0;show ∃n vals,_∧_∧_∧_∧_;rw[e1,e3];refine⟨n,vals,⟨h1.1.kept hg ?_,h1.2⟩,h2,h4,h5.go (lents ln) (fun b hb=>hg.block b (h5.range hb).2 (hsb b (.inr hb))) (fun _ _ hf=>hf) (fun v d hr=>rep .pl v d hr (by simp)),fun b hb=>h6 b (qz.1 hb)⟩;cases hb:(E.cur i).ownBlock with
       | none=>exact .inl rfl
       | some b=>exact .inr (hsb b (.inl hb))
     | nmp ks cs ln =>
       obtain⟨es,clock,h1,h2,h4,h5,h6,h7,h8⟩:=h0;show ∃es clock,_∧_∧_∧_∧_∧_∧_;rw[e2,e3];exact⟨es,clock,by rw[hg.block _ (gx h1) (hsb _ (.inl J))];exact h1,h2,h4,h5,h6,h7.go (lents ln) (fun b hb=>hg.block b (h7.range hb).2 (hsb b (.inr hb))) (fun _ _ hf=>hf) (fun v d hr=>rep .pl v d hr (by simp)),fun b hb=>h8 b (qz.1 hb)⟩
 · have one : ∀ i0 ob0 i1 ob1, N i0 = none → s.o.lookup i0 = some ob0 → bG E i0 b ob0 → N i1 = some (some ob1) → bG E' i1 b ob1 → False := by
     intro i0 ob0 i1 ob1 hN0 hl0 hb0 Yy hb1;rcases hnew i1 ob1 b Yy hb1 with⟨i2,ob2,hN2,h7,h8⟩|h7
     · have := h.wok.disj i0 ob0 i2 ob2 b hl0 h7 hb0 h8
       rw[this] at hN0;exact hN2 hN0
     · have := ((h.wok.objs i0 ob0 hl0).dG hb0).2
       omega
   rcases look i ob h1 with hN|⟨hN,ob0,h5,rfl⟩
   · rcases look i' obx h2 with hN' | ⟨hN', ob1, h7, rfl⟩
     · exact hdis i ob i' obx b hN hN' h3 h4
     · exact(one i' ob1 i ob hN' h7 (oldB hN' h4) hN h3).elim
   · rcases look i' obx h2 with hN' | ⟨hN', ob1, h7, rfl⟩
     · exact(one i ob0 i' obx hN h5 (oldB hN h3) hN' h4).elim
     · exact h.wok.disj i ob0 i' ob1 b h5 h7 (oldB hN h3) (oldB hN' h4)
 · exact h.wok.below.trans ⟨hg.os,hg.tape,hg.output,hg.size,fun k hk=>hg.block k (by have:=w0.hK k hk;have:=h.wok.below.size;omega) (fun he=>by
     obtain⟨i,ob,_,h1,h2⟩:=hrow k he.symm;exact((h.wok.objs i ob h1).dG h2).1.1 hk),hdr⟩
 · intro x hx
   rw[hpn x hx];exact h.wok.pins x hx
theorem ba.Yz {E:Env}{s:St}{w:World}{id:Nat}{ob':Ob}(st:SV→Bool)(hvw:∀d,st (.v .vw d)=false)
  (hk:(∃d,SV.refs id d=true∧st d=true)→E'.cur id=E.cur id∧E'.blk id=E.blk id∧Alike s id ob')
  (h:ba P w0 M0 E s a w)(hnd:Nodup s.s=true)(ae:∀b,M0 b→b<w0.w.heap.size)
  (hE:∀i,i≠id→E'.cur i=E.cur i∧E'.blk i=E.blk i∧E'.sub i=E.sub i)(hpn:(∀x∈w0.pin,x.1≠id)∨E'.blk id=E.blk id)(row:Option Nat)(hg:w.grownBy w' row)(hdr:w0.dr→w.drawn≤w'.drawn)
  (hrow:∀g,row=some g→∃ob,s.o.lookup id=some ob∧bG E id g ob)
  (hnew:∀b,bG E' id b ob'→(∃ob,s.o.lookup id=some ob∧bG E id b ob)∨w.heap.size≤b)
  (hob:(∀M v d,bL w (cI M0 (owned E s.o) M) v d→M≠.vw→bL w' (cI M0 (owned E' (ins id ob' (iV st s.o))) M) v d)→(∀v d,bm P M0 w E s.o v d→st d=true→bm P M0 w' E' (ins id ob' (iV st s.o)) v d)→kP P w0 M0 w' E' (ins id ob' (iV st s.o)) id ob') :
  ba P w0 M0 E' { n:=s.n,s:=s.s.filter (fun p=>st p.2),o:=ins id ob' (iV st s.o) } a w':=by
 have hN:∀i x,(if i=id then some (some ob') else(none:Option (Option Ob)))=some x→i=id∧x=some ob':=fun i x q=>by
  by_cases hi:i=id
  ·rw[if_pos hi] at q;injection q with q;exact⟨hi,q.symm⟩
  ·rw[if_neg hi] at q;cases q
 refine ba.xo st (fun i=>if i=id then some (some ob') else none) _ (fun i=>?_) hvw (fun i ob q=>?_) (fun i q=>?_) h hnd ae (fun i q=>hE i fun e=>?_) (fun x hx=>?_) row hg hdr (fun g q=>?_) (fun i ob b q hb=>?_) (fun i ob i' obx b q q' _ _=>?_) (fun rep sv _ i ob q=>?_)
 ·rw[aC,gm];by_cases hi:i=id
  ·rw[if_pos hi,if_pos hi]
  ·rw[if_neg hi,if_neg hi]
 ·obtain⟨rfl,e⟩:=hN i _ q;injection e with e;subst e;exact hk
 ·obtain⟨_,e⟩:=hN i _ q;cases e
 ·rw[if_pos e] at q;cases q
 ·by_cases hid:x.1=id
  ·rcases hpn with h1|h1
   ·exact absurd hid (h1 x hx)
   ·rw[hid,h1]
  ·exact(hE x.1 hid).2.1
 ·obtain⟨ob,h1,h2⟩:=hrow g q;exact⟨id,ob,(by rw[if_pos J];intro e;cases e),h1,h2⟩
 ·obtain⟨rfl,e⟩:=hN i _ q;injection e with e;subst e;rcases hnew b hb with⟨ob,h1,h2⟩|h1
  ·exact .inl ⟨i,ob,(by rw[if_pos rfl];intro e;cases e),h1,h2⟩
  ·exact .inr h1
 ·rw[(hN i _ q).1,(hN i' _ q').1]
 ·obtain⟨rfl,e⟩:=hN i _ q;injection e with e;subst e;exact hob rep sv
theorem ic {id:Nat}{d:SV}(h1:SV.refs id d=true):d.stays true id=false:=by
 cases d with
 | v c x=>cases h1
 | dead=>cases h1
 | _=>show(!(true&&SV.refs id _))=false;rw[h1];rfl
theorem ba.cK {E:Env}{s:St}{w:World}{id:Nat}{ob':Ob}(kill:Bool)(hkill:kill=false→E'=E∧((∃e xs xs',s.o.lookup id=some (.arr e xs)∧ob'=.arr e xs'∧xs'.length=xs.length)∨(∃e cs cs',s.o.lookup id=some (.box e cs)∧ob'=.box e cs')∨(∃ks vs ks' vs',s.o.lookup id=some (.mp ks vs)∧ob'=.mp ks' vs')))(h:ba P w0 M0 E s a w)(hnd:Nodup s.s=true)(ae:∀b,M0 b→b<w0.w.heap.size)
  (hE:∀i,i≠id→E'.cur i=E.cur i∧E'.blk i=E.blk i)(hpn:(∀x∈w0.pin,x.1≠id)∨E'.blk id=E.blk id)(row:Option Nat)(hg:w.grownBy w' row)(hdr:w0.dr→w.drawn≤w'.drawn)
  (hrow:∀g,row=some g→∃ob,s.o.lookup id=some ob∧bG E id g ob)
  (hnew:∀b,bG E' id b ob'→(∃ob,s.o.lookup id=some ob∧bG E id b ob)∨w.heap.size≤b)
  (hob:(∀M v d,bL w (cI M0 (owned E s.o) M) v d→M≠.vw→bL w' (cI M0 (owned E' (ins id ob' (ib kill id s.o))) M) v d)→(∀v d,bm P M0 w E s.o v d→d.stays kill id=true→bm P M0 w' E' (ins id ob' (ib kill id s.o)) v d)→kP P w0 M0 w' E' (ins id ob' (ib kill id s.o)) id ob')(hsub:∀i,i≠id→E'.sub i=E.sub i:=by exact fun _ _=>rfl) :
  ba P w0 M0 E' (s.cK kill id ob') a w':=by
 have hr:(∃d,SV.refs id d=true∧SV.stays kill id d=true)→kill=false:=fun⟨d,h1,h2⟩=>by
  cases kill with
  | false=>rfl
  | true=>rw[ic h1] at h2;cases h2
 have hk:(∃d,SV.refs id d=true∧SV.stays kill id d=true)→E'.cur id=E.cur id∧E'.blk id=E.blk id∧Alike s id ob':=fun q=>by
  obtain⟨he,hh⟩:=hkill (hr q);refine⟨by rw[he],by rw[he],?_⟩;rcases hh with hh|hh|hh
  ·exact .inl hh
  ·exact .inr (.inl hh)
  ·exact .inr (.inr (.inl hh))
 exact ba.Yz (SV.stays kill id) (fun d=>rfl) hk h hnd ae (fun i hi=>⟨(hE i hi).1,(hE i hi).2,hsub i hi⟩) hpn row hg hdr hrow hnew hob
end
def iE (P:Program)(e:TypeId)(k b:Nat):Bool :=
 match P.info? e with
 | some i=>Nat.beq i.size k&&Nat.beq i.bytes b&&Nat.blt 0 k&&(match i.zero with|some z=>Nat.beq z.cells.size k|none=>false)
 | none=>false
theorem gK {P:Program}{e:TypeId}{k b:Nat}(h:iE P e k b=true):∃i z,P.info? e=some i∧i.zero=some z∧i.size=k∧i.bytes=b∧z.cells.size=k∧0<k∧P.cellsOf e=k:=by
 unfold iE at h;split at h
 ·rename_i i hi;simp only[aaZ] at h;obtain⟨⟨⟨h1,h2⟩,h3⟩,h4⟩:=h;split at h4
  ·rename_i z hz;exact⟨i,z,hi,hz,aby h1,aby h2,aby h4,by simpa using h3,by unfold Program.cellsOf;rw[hi];exact aby h1⟩
  ·cases h4
 ·cases h
theorem gh (xs ys:List AV):flat (xs++ys)=flat xs++flat ys:=by simp[flat]
variable{M:Nat→Prop}{cx:Operand}{args:Array Operand}{ats:Array TypeId}{f:FuncId}{caps ds:List AV}
section
variable {P:Program} {w0:Fr}{M0:Nat→Prop}
def Src (P:Program)(w0:Fr)(M0:Nat→Prop)(s:St)(y:Operand)(k:Nat)(ys:List AV):Prop :=
 ∀ E a w, ba P w0 M0 E s a w → ∃ (A : Option Addr) (n c : Nat) (vals : List Value), a.eval y = .slice A n c ∧ ys.length = n ∧ vals.length = n * k ∧
   (0<n→∃ad,A=some ad∧∀(j:Nat) u,vals[j]?=some u→w.cell? (ad.add j)=some u)∧(∀x∈ys,(AV.cells x).length=k) ∧
   ∀(j:Nat) d,(flat ys)[j]?=some d→AV.leaf d=true∧bL w (cI M0 (owned E s.o) .pl) (vals.getD j undef) d
theorem rV {w:World}{ys:List AV}{k:Nat}(hr:bL w M v (.sl ys))(hk:∀x∈ys,(AV.cells x).length=k) :
   ∃(A:Option Addr)(n c:Nat)(vals:List Value),v=.slice A n c∧ys.length=n∧vals.length=n*k ∧
   (0<n→∃ad,A=some ad∧∀(j:Nat) u,vals[j]?=some u→w.cell? (ad.add j)=some u) ∧
   ∀(j:Nat) d,(flat ys)[j]?=some d→AV.leaf d=true∧bL w M (vals.getD j undef) d:=by
 cases hr with
 | sl a n cap _ k' cv hn hc hk' hb hl hr =>
   refine⟨a,n,cap,(List.range (n*k)).map cv,rfl,hn,by simp,fun h0=>?_,fun j d hd=>⟨hl j d hd,?_⟩⟩
   · have hkk : k' = k := by
       cases ys with
       | nil=>simp at hn;omega
       | cons x r=>rw[←hk x aaJ,hk' x aaJ]
     subst hkk;obtain⟨b,o,rfl,_,_,hcell⟩:=hb h0;refine⟨_,rfl,fun j u hu=>?_⟩;rw[aaI] at hu;rcases aa9 j (n*k') with hj|hj
     · rw [abX hj] at hu
       simp only[abu,aaB] at hu;rw[Addr.add_lit,hcell j hj,hu]
     · rw [abg (by simpa using hj)] at hu
       cases hu
   · have hlt : j < n * k := by
       have:=bQ ys hk;rw[hn] at this;rw[←this];exact(aa0.1 hd).1
     rw[aax,aaI,abX hlt];exact hr j d hd
theorem cA {s:St}{y:Operand}{k:Nat}{ys:List AV}(hy:viewAt s.ev s.o y=some (.pl,.sl ys))(hk:∀x∈ys,(AV.cells x).length=k):Src P w0 M0 s y k ys:=by intro E a w hs;obtain⟨A,n,c,vals,h1,h2,h3,h4,h5⟩:=rV (cG hs.wok (fun x e hx=>hs.ev hx) hy) hk;exact⟨A,n,c,vals,h1,h2,h3,h4,hk,h5⟩
theorem Tj {s:St}{y:Operand}{c:fX}{k:Nat}{ys:List AV}(hy:viewAt s.ev s.o y=some (c,.sl ys))(hk:∀x∈ys,(AV.cells x).length=k)(hsc:∀d∈flat ys,∃v,d=.sc v):Src P w0 M0 s y k ys:=by intro E a w hs;obtain⟨A,n,c,vals,h1,h2,h3,h4,h5⟩:=rV (cG hs.wok (fun x e hx=>hs.ev hx) hy) hk;refine⟨A,n,c,vals,h1,h2,h3,h4,hk,fun j d hd=>⟨(h5 j d hd).1,?_⟩⟩;have h6:=(h5 j d hd).2;obtain⟨v,rfl⟩:=hsc d (abm hd);generalize vals.getD j undef=u at h6;cases h6;exact .sc _ ‹_›
theorem P2 {s:St}{y:Operand}{id:Nat}{e:TypeId}{k:Nat}{ys:List AV}(hy:s.ev y=some (.own id))(hl:s.o.lookup id=some (.arr e ys))(hk:bX P e=some k):Src P w0 M0 s y k ys:=by
 intro E a w hs;have hob:=hs.wok.objs id _ hl;have hv:=(hs.ev hy) e ys hl;obtain⟨vals,⟨h1,hownF⟩,h2,h3⟩:=hob;have hck:=cQ hk;rw[hck] at h1 h2;obtain⟨A,n,c,vals',g1,g2,g3,g4,g5⟩:=rV (k:=k) ((hs.wok.objs id _ hl).rep (M:=fun _=>False) (fun b hb=>hb.elim) (fun g _ hf=>hf.elim)) h2;rw[hv,g1];refine⟨A,n,c,vals,rfl,g2,by rw[h1.1,g2],fun h0=>?_,h2,h3⟩;obtain⟨ad,hA,_⟩:=g4 h0;subst hA;refine⟨ad,rfl,fun j u hu=>?_⟩;rcases h1.2 with⟨hn,_⟩|⟨g,cap,cur,hn,_⟩
 ·rw[g1] at hn;cases hn
 ·rw[g1] at hn;simp only[Value.slice.injEq,aaB] at hn;rw[hn.1];exact h1.cells (g:=g) (by rw[g1,hn.1];rfl) j u hu
theorem ba.ov {E:Env}{s:St}{w:World}{t:Nat}{e:TypeId}{xs:List AV}{vals:List Value}(h:ba P w0 M0 E s a w)(hnd:Nodup s.s=true)(ae:∀b,M0 b→b<w0.w.heap.size)
   (hg:w.grownBy w' none)(hdr:w0.dr→w.drawn≤w'.drawn)(hown:w'.ownsRow 0 e (P.cellsOf e) v xs.length vals)(hblk:∀b,v.ownBlock=some b→w.heap.size≤b)(hk:∀x∈xs,(AV.cells x).length=P.cellsOf e)
   (hr:∀(j:Nat) d,(flat xs)[j]?=some d→AV.leaf d=true∧(bL w (cI M0 (owned E s.o) .pl) (vals.getD j undef) d∨bL w' (fun b=>b<w.heap.size∨v.ownBlock=some b) (vals.getD j undef) d)) :
   ba P w0 M0 { E with cur:=fun i=>if i=t then v else E.cur i } (s.cK true t (.arr e xs)) a w':=by
 refine h.cK true (fun h=>by cases h) hnd ae (fun i hi=>⟨by simp[hi],rfl⟩) (.inr J) none hg hdr (fun g hg=>by cases hg) (fun b hb=>.inr ?_) (fun rep _=>?_)
 · simp only [bG, if_true] at hb
   exact hblk b hb
 · refine ⟨vals, ⟨by simpa using hown, fun b hb => h.wok.ia ae (hblk b (by simpa using hb))⟩, hk, fun j d hd => ⟨(hr j d hd).1, ?_⟩⟩
   rcases(hr j d hd).2 with h1|h1
   · exact rep .pl _ _ h1 (by simp)
   · refine h1.cm fun b hb => ?_
     rcases hb with hb|⟨i,ob,h3,h4⟩
     · have:=ae b hb;have:=h.wok.below.size;exact .inl adh
     · by_cases hi : i = t
       · subst hi
         rw[aC,if_pos rfl] at h3;simp only[aaB] at h3;subst h3;simp only[bG,if_true] at h4;exact .inr h4
       · rw [aC, if_neg hi, cC, aaH] at h3
         obtain⟨ob0,h5,rfl⟩:=h3;refine .inl (h.wok.bH ⟨i,ob0,h5,?_⟩).2;have h4:=iD.1 h4;cases ob0<;>simp only[bG,hi,if_false] at h4 ⊢<;>exact h4
theorem fp {w:World}{E:Env}{o:List (Nat×Ob)}{t:Nat}{e:TypeId}{xs:List AV}:bm P M0 w { E with cur:=fun i=>if i=t then v else E.cur i } (ins t (.arr e xs) o) v (.own t):=by intro e' xs' _;simp
variable {o:Oper} {s:St}{t id:Nat}{x y:Operand}{T e:TypeId}{k b:Nat}{xs ys:List AV}
theorem step_append (ho:o.op=.call { callee:=.builtin .append,args:=#[x,y],argTypes:=#[T,T] })(hd:o.dst=some t)(hn:Nat.blt t s.n=true)(hnd:Nodup s.s=true)
   (hT:P.underlying T=some (.slice e))(hel:iE P e k b=true)(hx:s.ev x=some (.own id))(hl:s.o.lookup id=some (.arr e xs))(ae:∀b,M0 b→b<w0.w.heap.size)
   (hy:Src P w0 M0 s y k ys)(hb:(xs.length+ys.length)*b≤140737488355328)(hm:xs.length+ys.length≤4611686018427387904):Step P w0 M0 o s ((s.cK true id (.arr e (xs++ys))).put t (.own id)):=by
 rintro a w Q ⟨E,hs⟩;obtain⟨i,z,hi,hz,hsz,hby,hzs,hk0,hck⟩:=gK hel;obtain⟨vals0,⟨hown,hownF⟩,hxk,hxr⟩:=hs.wok.objs id _ hl;obtain⟨A,n,c,vals,hev,hyn,hvl,hcell,hyk,hyr⟩:=hy E a w hs;have hex:=hs.ev hx e xs hl;rw[hck] at hown hxk;have hfy:=bQ ys hyk;have hone:∀u∈vals,u.oneCell'=true:=by
   intro u hu;obtain⟨j,hj,rfl⟩:=abF hu;have hjf:j<(flat ys).length:=by rw[hfy,hyn,←hvl];exact hj
   have:=hyr j (flat ys)[j] (aaF hjf);have h2:=this.2.one this.1;rwa [aax,aaF hj] at h2
 have run:∃v' w',(Builtin.append_ #[T,T] o.type #[E.cur id,.slice A n c]).run P w=.ok v' w'∧w'.ownsRow 0 e k v' (xs.length+n) (vals0++vals)∧w.grownBy w' (E.cur id).ownBlock ∧
     (v'.ownBlock=(E.cur id).ownBlock∨v'.ownBlock=some w.heap.size):=by
   rcases abZ n with h0|h0
   · subst h0
     have hv0:vals=[]:=aa4 (by simpa using hvl);subst hv0;refine⟨E.cur id,w,?_,by simpa using hown,⟨rfl,rfl,rfl,aaD _,fun _ _ _=>rfl⟩,.inl J⟩;have hfc:(Builtin.firstCells i.size 0 (.slice A 0 c)).run P w=.ok #[] w:=by
       cases A<;>simp[Builtin.firstCells,loadCells,loadCellsFrom]
     rcases hown.2 with⟨hv,_⟩|⟨g,cap,cur,hv,_,_,hnc,_⟩
     · rw [hv]
       simp[Builtin.append_,run_underlying hT,sizeOf,typeInfo,hi,Builtin.lenOf,hfc]
     · rw [hv]
       simp[Builtin.append_,run_underlying hT,sizeOf,typeInfo,hi,Builtin.lenOf,hfc,hnc,storeCells]
   · obtain ⟨ad, rfl, hcell'⟩ := hcell h0
     obtain⟨v',w',h1,h2,h3,_,h5⟩:=run_append_own_at (P:=P) w 0 T o.type e i z k b hT hi hz hsz hby hzs hk0 (E.cur id) xs.length vals0 hown ad n c vals hvl hcell' hone
       (by simp only[maxLen];omega) (by rw[←hyn];exact hb) (aaG _)
     exact⟨v',w',h1,h2,h3,h5⟩
 obtain⟨v',w',hrun,hown',hg,hblk⟩:=run;unfold Oper.wp;have hexec:(execOp a.eval o).run P w=.ok (.value v') w':=by
   simp[execOp,ho,resolve,invoke,builtin,hex,hev,hrun]
 rw[hexec];simp only[Oper.upon,hd];refine⟨{ E with cur:=fun i=>if i=id then v' else E.cur i },ba.put ?_ (by simpa[St.cK] using hn) fp⟩;refine hs.cK true (fun h=>by cases h) hnd ae (fun j hj=>⟨by simp[hj],rfl⟩) (.inr J) (E.cur id).ownBlock hg (fun _=>lP _ _ _ _ hrun) (fun g hg=>⟨_,hl,hg⟩) (fun b hb=>?_) (fun rep _=>?_)
 · simp only [bG, if_true] at hb
   rcases hblk with h1|h1
   · exact .inl ⟨_,hl,by rw[h1] at hb;exact hb⟩
   · rw[h1] at hb;simp only[aaB] at hb;exact .inr adh
 · have hfx := bQ xs hxk
   refine⟨vals0++vals,?_,?_,fun j d hd=>?_⟩
   · refine ⟨by simp only [if_true, hck, aaM, hyn]; exact hown', fun b hb => ?_⟩
     simp only[if_true] at hb;rcases hblk with h1|h1
     · exact hownF b (h1 ▸ hb)
     · rw[h1] at hb;simp only[aaB] at hb;exact hs.wok.ia ae adh
   · rw [hck]; intro u hu
     rcases abl.1 hu with h|h
     · exact hxk u h
     · exact hyk u h
   · have hl0 : vals0.length = (flat xs).length := by rw [hfx, hown.1]
     rw[gh] at hd;rcases aa9 j (flat xs).length with hj|hj
     · rw [aa8 hj] at hd
       have:=hxr j d hd;refine⟨this.1,?_⟩;rw[aax,aa8 adh,←aax];exact rep .pl _ _ this.2 (by simp)
     · rw [aa6 hj] at hd
       have:=hyr _ d hd;refine⟨this.1,?_⟩;rw[aax,aa6 adh,hl0,←aax];exact rep .pl _ _ this.2 (by simp)
theorem LX (ho:o.op=.assign x)(hd:o.dst=some t)(hn:Nat.blt t s.n=true)(hnd:Nodup s.s=true)(hx:bg s.ev x=some (.slice none 0 0))(e:TypeId)(ae:∀b,M0 b→b<w0.w.heap.size) :
  Step P w0 M0 o s ((s.cK true t (.arr e [])).put t (.own t)):=by
 rintro a w Q ⟨E,hs⟩;have hv:a.eval x=.slice none 0 0:=bZ (ρ:=s.ev) (x:=x) (ob:=s.o) (ev:=a.eval) (fun x e hx=>hs.ev hx) hx;unfold Oper.wp;have hexec:(execOp a.eval o).run P w=.ok (.value (.slice none 0 0)) w:=by simp[execOp,ho,hv]
 rw[hexec];simp only[Oper.upon,hd];refine⟨{ E with cur:=fun i=>if i=t then .slice none 0 0 else E.cur i },ba.put ?_ (by simpa[St.cK] using hn) fp⟩;exact hs.ov hnd ae ⟨rfl,rfl,rfl,aaD _,fun _ _ _=>rfl⟩ (fun _=>aaD _) (vals:=[]) (World.ownsRow_nil w _ _ _) (fun b hb=>by cases hb) (fun x hx=>by cases hx) (fun j d hd=>by simp[flat] at hd)
theorem we (ho:o.op=.call { callee:=.builtin .append,args:=#[x,y],argTypes:=#[T,T] })(hd:o.dst=some t)(hn:Nat.blt t s.n=true)(hnd:Nodup s.s=true)
   (hT:P.underlying T=some (.slice e))(hel:iE P e k b=true)(hx:bg s.ev x=some (.slice none 0 0))(ae:∀b,M0 b→b<w0.w.heap.size)
   (hy:Src P w0 M0 s y k ys)(hb:ys.length*b≤140737488355328)(hm:ys.length≤4611686018427387904):Step P w0 M0 o s ((s.cK true t (.arr e ys)).put t (.own t)):=by
 rintro a w Q ⟨E,hs⟩;obtain⟨i,z,hi,hz,hsz,hby,hzs,hk0,hck⟩:=gK hel;obtain⟨A,n,c,vals,hev,hyn,hvl,hcell,hyk,hyr⟩:=hy E a w hs;have hex:a.eval x=.slice none 0 0:=bZ (ρ:=s.ev) (x:=x) (ob:=s.o) (ev:=a.eval) (fun x e hx=>hs.ev hx) hx;have hfy:=bQ ys hyk;have hone:∀u∈vals,u.oneCell'=true:=by
   intro u hu;obtain⟨j,hj,rfl⟩:=abF hu;have hjf:j<(flat ys).length:=by rw[hfy,hyn,←hvl];exact hj
   have:=hyr j (flat ys)[j] (aaF hjf);have h2:=this.2.one this.1;rwa [aax,aaF hj] at h2
 have run:∃v' w',(Builtin.append_ #[T,T] o.type #[.slice none 0 0,.slice A n c]).run P w=.ok v' w'∧w'.ownsRow 0 e k v' n vals∧w.grownBy w' none∧(∀b,v'.ownBlock=some b→w.heap.size≤b):=by
   rcases abZ n with h0|h0
   · subst h0
     have hv0:vals=[]:=aa4 (by simpa using hvl);subst hv0;refine⟨.slice none 0 0,w,?_,World.ownsRow_nil w _ _ _,⟨rfl,rfl,rfl,aaD _,fun _ _ _=>rfl⟩,fun b hb=>by cases hb⟩;have hfc:(Builtin.firstCells i.size 0 (.slice A 0 c)).run P w=.ok #[] w:=by
       cases A<;>simp[Builtin.firstCells,loadCells,loadCellsFrom]
     simp[Builtin.append_,run_underlying hT,sizeOf,typeInfo,hi,Builtin.lenOf,hfc]
   · obtain ⟨ad, rfl, hcell'⟩ := hcell h0
     obtain⟨v',w',h1,h2,h3,_,h5⟩:=run_append_own_at (P:=P) w 0 T o.type e i z k b hT hi hz hsz hby hzs hk0 (.slice none 0 0) 0 [] (World.ownsRow_nil w _ _ _) ad n c vals hvl hcell' hone
       (by simp only[maxLen];omega) (by rw[←hyn,abL];exact hb) (aaG _)
     refine⟨v',w',h1,by simpa using h2,h3,fun b hb=>?_⟩;rcases h5 with h5|h5
     · rw[h5] at hb;cases hb
     · rw[h5] at hb;simp only[aaB] at hb;omega
 obtain⟨v',w',hrun,hown',hg,hblk⟩:=run;unfold Oper.wp;have hexec:(execOp a.eval o).run P w=.ok (.value v') w':=by
   simp[execOp,ho,resolve,invoke,builtin,hex,hev,hrun]
 rw[hexec];simp only[Oper.upon,hd];refine⟨{ E with cur:=fun i=>if i=t then v' else E.cur i },ba.put ?_ (by simpa[St.cK] using hn) fp⟩;exact hs.ov hnd ae hg (fun _=>lP _ _ _ _ hrun) (vals:=vals) (by rw[hck,hyn];exact hown') hblk (by rw[hck];exact hyk) (fun j d hd=>⟨(hyr j d hd).1,.inl (hyr j d hd).2⟩)
theorem nr {c:fX}
   (ho:o.op=.call { callee:=.value cx,args:=args,argTypes:=ats })(hd:o.dst=some t)(hn:Nat.blt t s.n=true)(hnd:Nodup s.s=true)(hc:s.ev cx=some (.v c (.clo f caps)))(ha:jl s.ev s.o args.toList=some ds)(h:au P f (ds++caps) (.fresh e xs))
   (ae:∀b,M0 b→b<w0.w.heap.size):Step P w0 M0 o s ((s.cK true t (.arr e xs)).put t (.own t)):=by
 rintro a w Q ⟨E,hs⟩;have hcv:=hs.ev hc;simp only[bm] at hcv;generalize hq:a.eval cx=q at hcv;cases hcv with
 | clo _ vs _ hnc hr =>
   have hv:=l5 hs.wok (fun x e hx=>hs.ev hx) _ _ ha;unfold Oper.wp;rw[fG ho hq h.1];simp only[Oper.upon];have hall:=h.2 w (args.toList.map a.eval++vs) (by simp[hv.1,hnc]) (fun j d hd=>?_)
   · have e1 : (args.toList.map a.eval ++ vs).toArray = args.map a.eval ++ vs.toArray := by apply acw ; simp
     rw[e1] at hall;refine hall.mono fun e' w' ⟨v,he,hb,hrv⟩=>?_
     subst he;obtain⟨vals,h1,h2,h3⟩:=hrv;simp only[hd];refine⟨{ E with cur:=fun i=>if i=t then v else E.cur i },ba.put ?_ (by simpa[St.cK] using hn) fp⟩;refine hs.ov hnd ae (dH hb) (fun _=>hb.drawn trivial) (vals:=vals) ?_ (fun b hb=>acS (h1.2 b hb)) h2 (fun j d hd=>⟨(h3 j d hd).1,.inr (h3 j d hd).2⟩);exact h1.1
   · rw [aax]
     rcases aa9 j ds.length with hlt|hge
     · rw [aa8 hlt] at hd
       have:=hv.2 j d hd;rw[aa8 (by simp[hv.1];omega)];rwa [aax] at this
     · rw [aa6 hge] at hd
       have:=hr _ d hd;rw[aa6 (by simp[hv.1];omega)];simp only[aaA,hv.1];rw[aax] at this;exact this.cm (fun b hb=>hb.elim)
end
open Go.Great
def fX.max:fX→fX→fX
 | .pl,c=>c
 | .mx,.pl=>.mx
 | .mx,c=>c
 | .vw,_=>.vw
theorem qA {M0 own:Nat→Prop}(c c':fX)(b:Nat)(h:cI M0 own (c.max c') b):cI M0 own c b:=by cases c<;>cases c'<;>simp_all [fX.max,cI]
theorem qB {M0 own:Nat→Prop}(c c':fX)(b:Nat)(h:cI M0 own (c.max c') b):cI M0 own c' b:=by cases c<;>cases c'<;>simp_all [fX.max,cI]
def zeroOf (P:Program)(t:TypeId):Option (List Value):=((P.info? t).bind (·.zero)).map (·.cells.toList)
def placesOf (P:Program)(t:TypeId):Option (List (Nat×Nat)) :=
 match P.underlying t with
 | some (.struct fields)=>fields.toList.mapM fun f=>(P.info? f.type).map fun i=>(f.offset,i.size)
 | _=>none
def Ah (places:List (Nat×Nat))(cells:List AV):List (Nat×AV)→Option (List AV)
 | []=>some cells
 | (i, d) :: r => match places[i]? with
   | none=>none
   | some (off,size)=>bif Nat.beq d.cells.length size&&Nat.ble (off+size) cells.length then Ah places (cells.take off++d.cells++cells.drop (off+size)) r else none
def Tk (w:World)(M:Nat→Prop)(vs:Array Value)(ds:List AV):Prop:=vs.size=ds.length∧∀(j:Nat) d,ds[j]?=some d→AV.leaf d=true∧bL w M (vs.getD j undef) d
theorem DI {w:World} {M:Nat→Prop} (places:List (Nat×Nat)):∀ (parts:List (Nat×Value)) (ps:List (Nat×AV)) (vs:Array Value) (ds r:List AV),Tk w M vs ds→parts.length=ps.length →
   (∀(j:Nat) i v i' d,parts[j]?=some (i,v)→ps[j]?=some (i',d)→i=i'∧bL w M v d∧∀us,d≠.tup us)→Ah places ds ps=some r→∃vs',Instr.fill (places.toArray[·]?) vs parts=some vs'∧Tk w M vs' r
 | [], ps, vs, ds, r, h, hl, hp, hf => by
   cases ps with
   | nil=>simp only[Ah,aaB] at hf;subst hf;exact⟨vs,rfl,h⟩
   | cons _ _=>simp at hl
 | (i, v) :: parts, ps, vs, ds, r, h, hl, hp, hf => by
   cases ps with
   | nil=>simp at hl
   | cons p ps =>
     obtain⟨i',d⟩:=p;obtain⟨rfl,hrep,hnt⟩:=hp 0 i v i' d rfl rfl;unfold Ah at hf;cases hpl:places[i]? with
     | none=>rw[hpl] at hf;cases hf
     | some q =>
       obtain⟨off,size⟩:=q;rw[hpl] at hf;simp only[] at hf;cases hc:(Nat.beq d.cells.length size&&Nat.ble (off+size) ds.length) with
       | false=>rw[hc] at hf;simp at hf
       | true =>
         rw[hc] at hf;simp only[cond_true] at hf;simp only[aaZ] at hc;have h1:=aby hc.1;have h2:=aaz hc.2;obtain⟨g1,g2,g3⟩:=hrep.cells hnt;have hfs:=foldl_set off v.cells.toList 0 vs;have hz:(v.cells.zipIdx.foldl (fun cs (x:Value×Nat)=>cs.setIfInBounds (off+x.2) x.1) vs)=(v.cells.toList.zipIdx 0).foldl (fun cs (x:Value×Nat)=>cs.setIfInBounds (off+x.2) x.1) vs:=by
           rw[←Array.foldl_toList,Array.toList_zipIdx]
         have ih:=DI places parts ps (v.cells.zipIdx.foldl (fun cs (x:Value×Nat)=>cs.setIfInBounds (off+x.2) x.1) vs) (ds.take off++d.cells++ds.drop (off+size)) r ?_ (by simpa using hl)
           (fun j i v i' d hj hj'=>hp (j+1) i v i' d (by simpa using hj) (by simpa using hj')) hf
         · obtain ⟨vs', e1, e2⟩ := ih
           refine⟨vs',?_,e2⟩;unfold Instr.fill;have hcnd:(v.cells.size≠size||off+v.cells.size > vs.size)=false:=by
             have e0:=h.1;simp only[ne_eq,Bool.or_eq_false_iff,decide_eq_false_iff_not,Classical.not_not];omega
           simp only[List.getElem?_toArray,hpl];rw[if_neg (by simpa using hcnd)];simpa using e1
         · rw [hz]
           have hvl:v.cells.toList.length=size:=by simp[g1,h1]
           refine⟨by rw[hfs.1,h.1];simp;omega,fun j e he=>?_⟩;rw[abc,hfs.2 j];simp only[Nat.add_zero];rw[abr] at he;rcases aa9 j off with hj|hj
           · rw [aa8 (by simp; omega), abo, if_pos hj] at he
             rw[if_neg adh];have:=h.2 j e he;rwa [abc] at this
           · rw [aa6 (by simp; omega)] at he
             have hto:(ds.take off).length=off:=by simp;omega
             rw[hto] at he;rcases aa9 (j-off) d.cells.length with hj2|hj2
             · rw [aa8 hj2] at he
               rw[if_pos ⟨hj,adh,by have:=h.1;omega⟩];refine⟨g2 _ e he,?_⟩;have:=g3 _ e he;rw[abc] at this;simpa using this
             · rw [aa6 hj2, ab3] at he
               rw[if_neg adh];have:=h.2 j e (by rw[←he];congr 1;omega);rwa [abc] at this
variable{parts:Array (Nat×Operand)}{n:Nat}
section
variable {P:Program} {w0:Fr}{M0:Nat→Prop}
variable {o:Oper} {ρ:Operand→Option SV}{ob:List (Nat×Ob)}{d:SV}{x y:Operand}{T T' e:TypeId}{k b:Nat}{c:fX}
def jt:AV→Bool
 | .tup _=>false
 | _=>true
def lS (ρ:Operand→Option SV)(ob:List (Nat×Ob)):List (Nat×Operand)→Option (fX×List (Nat×AV))
 | []=>some (.pl,[])
 | (i, x) :: r => match viewAt ρ ob x, lS ρ ob r with
   | some (c,d),some (c',ds)=>bif jt d then some (c.max c',(i,d) :: ds) else none
   | _,_=>none
theorem sT {E:Env}{w:World}{ev:Operand→Value}(hw:gu P w0 M0 E ob w)(h:∀x e,ρ x=some e→bm P M0 w E ob (ev x) e):∀(l:List (Nat×Operand))(c:fX)(ps:List (Nat×AV)),lS ρ ob l=some (c,ps) →
   l.length=ps.length∧∀(j:Nat) i x i' d,l[j]?=some (i,x)→ps[j]?=some (i',d)→i=i'∧bL w (cI M0 (owned E ob) c) (ev x) d∧∀us,d≠.tup us
 | [], c, ps, hp => by
   simp only[lS,aaB,abP] at hp;obtain⟨rfl,rfl⟩:=hp;exact⟨rfl,fun j i x i' d h=>by simp at h⟩
 | (i, x) :: r, c, ps, hp => by
   unfold lS at hp;split at hp
   · rename_i c1 d1 c2 ds h1 h2
     cases hnt:jt d1 with
     | false=>rw[hnt] at hp;cases hp
     | true =>
       rw[hnt] at hp;simp only[cond_true,aaB,abP] at hp;obtain⟨rfl,rfl⟩:=hp;obtain⟨g1,g2⟩:=sT hw h r c2 ds h2;refine⟨by simp[g1],fun j i' x' i2 d2 hj hj'=>?_⟩;cases j with
       | zero =>
         simp only[abf,aaB,abP] at hj hj';obtain⟨rfl,rfl⟩:=hj;obtain⟨rfl,rfl⟩:=hj';exact⟨rfl,(cG hw h h1).cm (qA c1 c2),fun us hu=>by subst hu;cases hnt⟩
       | succ j =>
         have:=g2 j i' x' i2 d2 (by simpa using hj) (by simpa using hj');exact⟨this.1,this.2.1.cm (qB c1 c2),this.2.2⟩
   · cases hp
theorem aK {places:List (Nat×Nat)}{zs:List Value}{ps:List (Nat×AV)}{r:List AV}(ho:o.op=.build T parts)(hpl:placesOf P T=some places)(hz:zeroOf P T=some zs)
   (hzs:zs.all Value.oneCell'=true)(hp:lS ρ ob parts.toList=some (c,ps))(hf:Ah places (zs.map .sc) ps=some r):Pure P w0 M0 o ρ ob (.v c (.agg r)) :=
 aJ fun E w ev hw h=>by
   obtain⟨g1,g2⟩:=sT hw h _ c ps hp;have hrel:Tk w (cI M0 (owned E ob) c) zs.toArray (zs.map .sc):=by
     refine⟨by simp,fun j d hd=>?_⟩;rw[aaI,aaH] at hd;obtain⟨z,hz1,rfl⟩:=hd;refine⟨rfl,?_⟩;have:zs.toArray.getD j undef=z:=by simp[abc,hz1]
     rw[this];exact .sc z (by rw[aa5] at hzs;exact hzs z (abm hz1))
   obtain⟨vs',e1,e2⟩:=DI places ((parts.toList.map fun(p:Nat×Operand)=>(p.1,ev p.2))) ps zs.toArray (zs.map .sc) r hrel (by simpa using g1) (fun j i v i' d hj hj'=>by
     rw[aaI,aaH] at hj;obtain⟨⟨i2,x2⟩,hj1,hj2⟩:=hj;simp only[abP] at hj2;obtain⟨rfl,rfl⟩:=hj2;exact g2 j i2 x2 i' d hj1 hj') hf
   have hrun:(Instr.build T (parts.map fun(i,x)=>(i,ev x))).run P w=.ok (.agg vs') w:=by
     apply run_build;unfold placesOf at hpl;unfold zeroOf at hz;unfold Program.built;split at hpl
     · rename_i fields hu
       cases hi:P.info? T with
       | none=>rw[hi] at hz;cases hz
       | some it =>
         rw[hi] at hz;simp only[ach,aaH] at hz;obtain⟨z,hz1,hz2⟩:=hz;simp only[hu,hz1,hpl];have e0:z.cells=zs.toArray:=by rw[←hz2]
         rw[e0,acZ];exact e1
     · cases hpl
   refine⟨.agg vs',w,by simp[execOp,ho,hrun],.refl _ _,?_⟩;have:=bL.agg (w:=w) (M:=cI M0 (owned E ob) c) vs'.toList r (by simpa using e2.1) (fun j d hd=>(e2.2 j d hd).1) (fun j d hd=>by
     have:=(e2.2 j d hd).2;rwa [abc,←abi,←aax] at this)
   simp only[bm];simpa using this
theorem pA {w:World}{parts:List Value}{ps:Array (Nat×Value)}(hT:P.underlying T=some (.slice e))(hel:iE P e k b=true)(hps:ps.toList=(parts.zipIdx 0).map fun x=>(x.2,x.1))(hn:parts.length=n)(hc:∀v∈parts,v.cells.size=k)
  (hsm:n*k≤16777216)(hn0:0<n):(Instr.buildSlice T n ps).run P w=.ok (.slice (some ⟨w.heap.size,0,none⟩) n n) (w.alloc (.cells (parts.flatMap fun v=>v.cells.toList).toArray e)):=by
 obtain⟨i,z,hi,hz,hsz,hby,hzs,hk0,hck⟩:=gK hel;subst hsz;have hpos:0<n*i.size:=Nat.mul_pos hn0 hk0;refine run_buildSlice (P:=P) w T e n ps _ i z hT hi hz (by simp;omega) adh ?_;rw[hps];exact fill_whole hk0 parts _ hc (by simp[hn])
theorem jP:∀ (vs:List Value)(ds:List AV),vs.length=ds.length→(∀(j:Nat) v d,vs[j]?=some v→ds[j]?=some d→v.cells.size=d.cells.length)→(vs.flatMap fun v=>v.cells.toList).length=(flat ds).length
 | [],[],_,_=>rfl
 | [],_ :: _,h,_=>by simp at h
 | _ :: _,[],h,_=>by simp at h
 | v :: vs, d :: ds, h, hj => by
   have ih:=jP vs ds (by simpa using h) (fun j v d h1 h2=>hj (j+1) v d (by simpa using h1) (by simpa using h2));have h0:=hj 0 v d rfl rfl;simp only[flat,abQ,aaM] at ih ⊢;rw[ih];simp[h0]
theorem pC {w:World}{M:Nat→Prop}:∀(vs:List Value)(ds:List AV),vs.length=ds.length→(∀(j:Nat) v d,vs[j]?=some v→ds[j]?=some d→bL w M v d∧∀us,d≠.tup us) →
   ∀(j:Nat) d,(flat ds)[j]?=some d→AV.leaf d=true∧bL w M ((vs.flatMap fun v=>v.cells.toList).getD j undef) d
 | [],[],_,_,j,d,hd=>by simp[flat] at hd
 | [],_ :: _,h,_,_,_,_=>by simp at h
 | _ :: _,[],h,_,_,_,_=>by simp at h
 | v :: vs, d0 :: ds, h, hj, j, d, hd => by
   have ih:=pC vs ds (by simpa using h) (fun j v d h1 h2=>hj (j+1) v d (by simpa using h1) (by simpa using h2));obtain⟨hr,hnt⟩:=hj 0 v d0 rfl rfl;obtain⟨g1,g2,g3⟩:=hr.cells hnt;simp only[flat,abQ] at hd ih ⊢;rcases aa9 j d0.cells.length with hlt|hge
   · rw [aa8 hlt] at hd
     refine⟨g2 j d hd,?_⟩;rw[aax,aa8 (by simp[g1];exact hlt)];have:=g3 j d hd;rwa [abc,←abi] at this
   · rw [aa6 hge] at hd
     have:=ih _ d hd;refine⟨this.1,?_⟩;rw[aax,aa6 (by simp[g1];exact hge)];rw[aax] at this;simpa[g1] using this.2
def mO (ρ:Operand→Option SV)(ob:List (Nat×Ob))(k:Nat):Nat→List (Nat×Operand)→Option (fX×List AV)
 | _,[]=>some (.pl,[])
 | n, (i, x) :: r => bif Nat.beq i n then match viewAt ρ ob x, mO ρ ob k (n + 1) r with
   | some (c,d),some (c',ds)=>bif jt d&&Nat.beq d.cells.length k then some (c.max c',d :: ds) else none
   | _,_=>none else none
theorem rW {E:Env} {w:World} {ev:Operand→Value} (hw:gu P w0 M0 E ob w) (h:∀ x e,ρ x=some e→bm P M0 w E ob (ev x) e):∀ (l:List (Nat×Operand)) (n:Nat) (c:fX) (ds:List AV),mO ρ ob k n l=some (c,ds) →
   ∃ vs : List Value, (l.map fun (p : Nat × Operand) => (p.1, ev p.2)) = (vs.zipIdx n).map (fun x => (x.2, x.1)) ∧ vs.length = ds.length ∧ (∀ d ∈ ds, d.cells.length = k) ∧ (∀ v ∈ vs, v.cells.size = k) ∧
     ∀(j:Nat) v d,vs[j]?=some v→ds[j]?=some d→bL w (cI M0 (owned E ob) c) v d∧∀us,d≠.tup us
 | [], n, c, ds, hp => by
   simp only[mO,aaB,abP] at hp;obtain⟨rfl,rfl⟩:=hp;exact⟨[],rfl,rfl,by simp,by simp,fun j v d h=>by simp at h⟩
 | (i, x) :: r, n, c, ds, hp => by
   unfold mO at hp;cases hin:Nat.beq i n with
   | false=>rw[hin] at hp;cases hp
   | true =>
     rw[hin] at hp;simp only[cond_true] at hp;obtain rfl:=aby hin;split at hp
     · rename_i c1 d1 c2 ds2 h1 h2
       cases hnt:(jt d1&&Nat.beq d1.cells.length k) with
       | false=>rw[hnt] at hp;cases hp
       | true =>
         rw[hnt] at hp;simp only[cond_true,aaB,abP] at hp;obtain⟨rfl,rfl⟩:=hp;simp only[aaZ] at hnt;have hk:=aby hnt.2;have hr:=cG hw h h1;have hnt':∀us,d1≠.tup us:=fun us hu=>by subst hu;cases hnt.1
         obtain⟨g1,g2,g3⟩:=hr.cells hnt';obtain⟨vs,e1,e2,e3,e4,e5⟩:=rW hw h r (i+1) c2 ds2 h2;refine⟨ev x :: vs,by simp[e1],by simp[e2],?_,?_,fun j v d hj hj'=>?_⟩
         · intro d hd
           rcases aa3.1 hd with rfl|hd
           · exact hk
           · exact e3 d hd
         · intro v hv
           rcases aa3.1 hv with rfl|hv
           · rw[g1,hk]
           · exact e4 v hv
         · cases j with
           | zero =>
             simp only[abf,aaB] at hj hj';subst hj;subst hj';exact⟨hr.cm (qA c1 c2),hnt'⟩
           | succ j =>
             have:=e5 j v d (by simpa using hj) (by simpa using hj');exact⟨this.1.cm (qB c1 c2),this.2⟩
     · cases hp
theorem eF (ho:o.op=.buildSlice T n parts)(hT:P.underlying T=some (.slice e))(hel:iE P e k b=true)(hp:mO ρ ob k 0 parts.toList=some (c,ds))
   (hn:ds.length=n)(hn0:Nat.blt 0 n=true)(hsm:Nat.ble (n*k) 16777216=true)(ae:∀b,M0 b→b<w0.w.heap.size):Pure P w0 M0 o ρ ob (.v c (.sl ds)) :=
 aJ fun E w ev hw h=>by
   obtain⟨vs,e1,e2,e3,e4,e5⟩:=rW hw h _ 0 c ds hp;have hrun:=pA (P:=P) (w:=w) (n:=n) (ps:=parts.map fun(i,x)=>(i,ev x)) hT hel (by rw[acZ];exact e1) (by rw[e2,hn]) e4 (aaz hsm) (by simpa using hn0);refine⟨_,_,by simp only[execOp,ho,Sem.run_bind,hrun,Result.andThen_ok,Sem.run_pure];rfl,(Below.refl _ _).alloc (aaD _) _,?_⟩;have hlen:=jP vs ds e2 (fun j v d h1 h2=>((e5 j v d h1 h2).1.cells (e5 j v d h1 h2).2).1);have hrel:=pC vs ds e2 e5;have hfl:=bQ ds e3;have hb:bD w0.dr w.heap.size w (w.alloc (.cells (vs.flatMap fun v=>v.cells.toList).toArray e)):=(Below.refl _ _).alloc (aaD _) _;refine .sl _ n n ds k (fun j=>(vs.flatMap fun v=>v.cells.toList).getD j undef) hn (aaD _) e3 (fun h0=>⟨w.heap.size,0,rfl,fun hM=>?_,by simp,fun j hj=>?_⟩) (fun j d hd=>(hrel j d hd).1) (fun j d hd=>((hrel j d hd).2).under hb)
   · cases c with
     | pl =>
       rcases hM with hM|hM
       · have:=ae _ hM;have:=hw.below.size;omega
       · have:=(hw.bH hM).2;omega
     | mx=>have:=(hw.bH hM).2;omega
     | vw=>exact hM
   · have hj' : j < (vs.flatMap fun v => v.cells.toList).length := by rw [hlen, hfl, hn]; exact hj
     rw[cell_of_row _ w.heap.size (0+j) _ e (0,0) (heap_alloc_new w _),abL];simp[aax,aaF hj']
theorem LY {s:St}{t:Nat}(ho:o.op=.buildSlice T n parts)(hd:o.dst=some t)(hn:Nat.blt t s.n=true)(hnd:Nodup s.s=true)(hT:P.underlying T=some (.slice e))(hel:iE P e k b=true)
  (hp:mO s.ev s.o k 0 parts.toList=some (.pl,ds))(hnn:ds.length=n)(hn0:Nat.blt 0 n=true)(hsm:Nat.ble (n*k) 16777216=true)(ae:∀b,M0 b→b<w0.w.heap.size):Step P w0 M0 o s ((s.cK true t (.arr e ds)).put t (.own t)):=by
 rintro a w Q ⟨E,hs⟩;obtain⟨i,z,hi,hz,hsz,hby,hzs,hk0,hck⟩:=gK hel;obtain⟨vs,e1,e2,e3,e4,e5⟩:=rW hs.wok (fun x e hx=>hs.ev hx) _ 0 .pl ds hp;have hrun:=pA (P:=P) (w:=w) (n:=n) (ps:=parts.map fun(i,x)=>(i,a.eval x)) hT hel (by rw[acZ];exact e1) (by rw[e2,hnn]) e4 (aaz hsm) (by simpa using hn0);have hlen:=jP vs ds e2 (fun j v d h1 h2=>((e5 j v d h1 h2).1.cells (e5 j v d h1 h2).2).1);have hrel:=pC vs ds e2 e5;have hfl:=bQ ds e3;unfold Oper.wp;have hexec:(execOp a.eval o).run P w=.ok (.value (.slice (some ⟨w.heap.size,0,none⟩) n n)) (w.alloc (.cells (vs.flatMap fun v=>v.cells.toList).toArray e)):=by
  simp only[execOp,ho,Sem.run_bind,hrun,Result.andThen_ok,Sem.run_pure]
 rw[hexec];simp only[Oper.upon,hd];refine⟨{ E with cur:=fun i=>if i=t then .slice (some ⟨w.heap.size,0,none⟩) n n else E.cur i },ba.put ?_ (by simpa[St.cK] using hn) fp⟩;refine hs.ov hnd ae (World.grownBy_alloc w _ none) (fun _=>aaD _) (vals:=vs.flatMap fun v=>v.cells.toList) ⟨by rw[hlen,hfl,hck],.inr ⟨w.heap.size,n,_,by rw[hnn],aaG _,heap_alloc_new w _,by rw[hnn];exact aaD _,?_,?_,?_⟩⟩ (fun b hb=>?_) (by rw[hck];exact e3) (fun j d hd=>⟨(hrel j d hd).1,.inl (hrel j d hd).2⟩)
 ·have h1:=aaz hsm;have h2:n≤n*k:=Nat.le_mul_of_pos_right n hk0;simp only[maxLen];omega
 ·rw[hck,adb,hlen,hfl,hnn]
 ·rw[hck,hnn];exact aa2 (by rw[hlen,hfl,hnn];exact aaD _)
 ·simp only[Value.ownBlock,aaB] at hb;omega
theorem Ai {s:St}{t:Nat}(ho:o.op=.buildSlice T 0 parts)(hp:parts.toList=[])(hd:o.dst=some t)(hn:Nat.blt t s.n=true)(hnd:Nodup s.s=true)(hT:P.underlying T=some (.slice e))(hel:iE P e k b=true)
  (ae:∀b,M0 b→b<w0.w.heap.size):Step P w0 M0 o s ((s.cK true t (.arr e [])).put t (.own t)):=by
 rintro a w Q ⟨E,hs⟩;obtain⟨i,z,hi,hz,hsz,hby,hzs,hk0,hck⟩:=gK hel;have hp':parts=#[]:=by rw[←Array.toList_eq_nil_iff];exact hp
 subst hp';have hrun:(Instr.buildSlice T 0 #[]).run P w=.ok (.slice (some ⟨w.heap.size,0,none⟩) 0 0) (w.alloc (.cells #[] e)):=by
  have h0:Array.range 0=#[]:=rfl;simp[Instr.buildSlice,run_underlying hT,sizeOf,typeInfo,hi,Instr.fill,newRow,h0]
  try rfl
 unfold Oper.wp;have hexec:(execOp a.eval o).run P w=.ok (.value (.slice (some ⟨w.heap.size,0,none⟩) 0 0)) (w.alloc (.cells #[] e)):=by
  simp only[execOp,ho,Sem.run_bind,List.map_toArray,abW,hrun,Result.andThen_ok,Sem.run_pure]
 rw[hexec];simp only[Oper.upon,hd];refine⟨{ E with cur:=fun i=>if i=t then .slice (some ⟨w.heap.size,0,none⟩) 0 0 else E.cur i },ba.put ?_ (by simpa[St.cK] using hn) fp⟩;refine hs.ov hnd ae (World.grownBy_alloc w _ none) (fun _=>aaD _) (vals:=[]) ⟨by simp,.inr ⟨w.heap.size,0,_,rfl,aaG _,heap_alloc_new w _,aaD _,by simp[maxLen],by simp,by simp⟩⟩ (fun b hb=>?_) (by simp) (fun j d hd=>by simp[flat] at hd);simp only[Value.ownBlock,aaB] at hb;omega
end
def c8:SV→List SV
 | .v c (.agg cs)=>cs.map (.v c)
 | d=>[d]
def SV.Tl:SV→Bool
 | .v _ (.tup _)=>false
 | _=>true
def ry {α:Type}(l:List α)(off:Nat)(m:List α):List α:=l.take off++m++l.drop (off+m.length)
theorem dI {α:Type}{l m:List α}{off:Nat}(h:off+m.length≤l.length):(ry l off m).length=l.length:=by simp[ry];omega
theorem fD {α:Type}{l m:List α}{off:Nat}(h:off+m.length≤l.length)(j:Nat):(ry l off m)[j]?=if off≤j∧j<off+m.length then m[j-off]? else l[j]?:=by
 unfold ry;rw[abr];have ht:(l.take off).length=off:=by simp;omega
 rcases aa9 j off with h1|h1
 ·rw[aa8 adh,abo,if_pos h1,if_neg adh]
 ·rw[aa6 adh,ht];rcases aa9 (j-off) m.length with h2|h2
  ·rw[aa8 h2,if_pos adh]
  ·rw[aa6 h2,ab3,if_neg adh]
   congr 1;omega
variable{a0:AV}{fo fk:Nat}{fg:Bool}
section
variable {P:Program} {w0:Fr}{M0:Nat→Prop}
variable {o:Oper} {ρ:Operand→Option SV}{ob:List (Nat×Ob)}{d:SV}{x y:Operand}{T T' e:TypeId}{k b:Nat}{c:fX}{id off:Nat}{cs:List SV}{s:St}{t:Nat}
theorem vq {w:World}{E:Env}{ob:List (Nat×Ob)}{d:SV}(h:bm P M0 w E ob v d)(hd:d≠.dead)(h1:d.Tl=true)(ho:(∃c a,d=.v c a)∨v.oneCell'=true) :
   v.cells.size=(c8 d).length∧∀(j:Nat) sv,(c8 d)[j]?=some sv→SV.leaf sv=true∧(v.cells.getD j undef).oneCell'=true∧bm P M0 w E ob (v.cells.getD j undef) sv:=by
 have single:∀(u:Value),u.oneCell'=true→u.cells=#[u]:=by intro u hu;cases u<;>simp_all [Value.cells,Value.oneCell']
 have triv:(∀sv:SV,c8 d=[d]→SV.leaf d=true→v.oneCell'=true→v.cells.size=(c8 d).length∧∀(j:Nat) sv,(c8 d)[j]?=some sv→SV.leaf sv=true∧(v.cells.getD j undef).oneCell'=true∧bm P M0 w E ob (v.cells.getD j undef) sv):=by
   intro _ hb hl hv;rw[hb,single v hv];refine⟨rfl,fun j sv hj=>?_⟩;cases j with
   | zero=>simp at hj;subst hj;exact⟨hl,hv,h⟩
   | succ j=>simp at hj
 cases d with
 | v c d =>
   have hnt:∀vs,d≠.tup vs:=fun vs he=>by subst he;cases h1
   have hr:bL w (cI M0 (owned E ob) c) v d:=h;obtain⟨g1,g2,g3⟩:=hr.cells hnt;cases d with
   | agg cs =>
     refine⟨by simp[g1,c8,AV.cells],fun j sv hj=>?_⟩;simp only[c8,aaI,aaH] at hj;obtain⟨a,ha,rfl⟩:=hj;have h2:=g2 j a ha;have h3:=g3 j a ha;exact⟨h2,h3.one h2,h3⟩
   | sc u=>exact triv .dead rfl rfl (hr.one rfl)
   | sl xs=>exact triv .dead rfl rfl (hr.one rfl)
   | tup xs=>exact absurd rfl (hnt xs)
   | pc a b=>exact triv .dead rfl rfl (hr.one rfl)
   | clo a b=>exact triv .dead rfl rfl (hr.one rfl)
   | mp a b=>exact triv .dead rfl rfl (hr.one rfl)
 | own i=>exact triv .dead rfl rfl (by rcases ho with⟨c,a,h⟩|h;cases h;exact h)
 | pel i j q=>exact triv .dead rfl rfl (by rcases ho with⟨c,a,h⟩|h;cases h;exact h)
 | pbox i q=>exact triv .dead rfl rfl (by rcases ho with⟨c,a,h⟩|h;cases h;exact h)
 | omap i=>exact triv .dead rfl rfl (by rcases ho with⟨c,a,h⟩|h;cases h;exact h)
 | vsl i j q=>exact triv .dead rfl rfl (by rcases ho with⟨c,a,h⟩|h;cases h;exact h)
 | fn i j=>exact triv .dead rfl rfl (by rcases ho with⟨c,a,h⟩|h;cases h;exact h)
 | hid i j=>exact triv .dead rfl rfl (by rcases ho with⟨c,a,h⟩|h;cases h;exact h)
 | nst i=>exact triv .dead rfl rfl (by rcases ho with⟨c,a,h⟩|h;cases h;exact h)
 | nel i j=>exact triv .dead rfl rfl (by rcases ho with⟨c,a,h⟩|h;cases h;exact h)
 | dead=>exact absurd rfl hd
theorem ba.Gp {E:Env}{w:World}{cells:Array Value}(h:ba P w0 M0 E s a w)(hnd:Nodup s.s=true)(ae:∀b,M0 b→b<w0.w.heap.size)(hpt:t<1000000)(hl:cells.size=cs.length)
  (hc:∀(j:Nat) sv,cs[j]?=some sv→SV.leaf sv=true∧(cells.getD j undef).oneCell'=true∧bm P M0 w E s.o (cells.getD j undef) sv∧sv.stays true t=true) :
  ba P w0 M0 { E with blk:=fun i=>if i=t then w.heap.size else E.blk i } (s.cK true t (.box e cs)) a (w.alloc (.cells cells e)):=by
 refine h.cK true (fun h=>by cases h) hnd ae (fun i hi=>⟨rfl,by simp[hi]⟩) (.inl (BU hpt)) none (World.grownBy_alloc w _ none) (fun _=>aaD _) (fun g hg=>by cases hg) (fun b hb=>.inr ?_) (fun rep sv=>?_)
 ·simp only[bG,if_true] at hb;omega
 ·refine⟨cells.toList,by simp only[if_true];simpa using heap_alloc_new w (.cells cells e),by simp only[if_true];exact h.wok.ia ae (aaD _),by simpa using hl,fun j d hd=>?_⟩;obtain⟨h1,h2,h3,h4⟩:=hc j d hd;have e1:cells.toList.getD j undef=cells.getD j undef:=by rw[aax,abc,abi]
  rw[e1];exact⟨h1,h2,sv _ _ h3 h4⟩
theorem rX {w:World}{E:Env}{o:List (Nat×Ob)}{cs:List SV}:bm P M0 w { E with blk:=fun i=>if i=t then n else E.blk i } (ins t (.box e cs) o) (.pointer (some ⟨n,0,none⟩)) (.pbox t 0):=by intro e' cs' _;simp
theorem cR {zs:List Value}(ho:o.op=.alloc T)(hd:o.dst=some t)(hn:Nat.blt t s.n=true)(hpt:Nat.blt t 1000000=true)(hnd:Nodup s.s=true)(hz:zeroOf P T=some zs)(hzs:zs.all Value.oneCell'=true)(ae:∀b,M0 b→b<w0.w.heap.size) :
   Step P w0 M0 o s ((s.cK true t (.box T (zs.map fun z=>.v .pl (.sc z)))).put t (.pbox t 0)):=by
 rintro a w Q ⟨E,hs⟩;unfold zeroOf at hz;cases hi:P.info? T with
 | none=>rw[hi] at hz;cases hz
 | some it =>
   rw[hi] at hz;simp only[ach,aaH] at hz;obtain⟨z,hz1,hz2⟩:=hz;unfold Oper.wp;have hexec:(execOp a.eval o).run P w=.ok (.value (.pointer (some ⟨w.heap.size,0,none⟩))) (w.alloc (.cells z.cells T)):=by
     simp[execOp,ho,Instr.alloc,zeroValue,typeInfo,hi,hz1,newVar,newRow]
   rw[hexec];simp only[Oper.upon,hd];refine⟨{ E with blk:=fun i=>if i=t then w.heap.size else E.blk i },ba.put ?_ (by simpa[St.cK] using hn) rX⟩;refine hs.Gp hnd ae (abj (acO (aaz hpt)) (aaD _)) (by rw[←hz2];simp) (fun j sv hj=>?_);rw[aaI,aaH] at hj;obtain⟨u,hu,rfl⟩:=hj;have h1:u.oneCell'=true:=by rw[aa5] at hzs;exact hzs u (abm hu)
   have h2:z.cells.getD j undef=u:=by rw[abc,←abi,hz2,hu];rfl
   rw[h2];exact⟨rfl,h1,.sc u h1,rfl⟩
theorem LZ (ho:o.op=.box T x)(hd:o.dst=some t)(hn:Nat.blt t s.n=true)(hpt:Nat.blt t 1000000=true)(hnd:Nodup s.s=true)(hx:s.ev x=some (.v c a0))(hnt:jt a0=true)(hc:c≠.vw)(ae:∀b,M0 b→b<w0.w.heap.size) :
  Step P w0 M0 o s ((s.cK true t (.box T (c8 (.v c a0)))).put t (.pbox t 0)):=by
 rintro a w Q ⟨E,hs⟩;have hv:=hs.ev hx;obtain⟨g1,g2⟩:=vq hv (by simp) (by cases a0<;>simp_all [SV.Tl,jt]) (.inl ⟨c,a0,rfl⟩);unfold Oper.wp;have hexec:(execOp a.eval o).run P w=.ok (.value (.pointer (some ⟨w.heap.size,0,none⟩))) (w.alloc (.cells (a.eval x).cells T)):=by
  simp[execOp,ho,Instr.box,newVar,newRow]
 rw[hexec];simp only[Oper.upon,hd];refine⟨{ E with blk:=fun i=>if i=t then w.heap.size else E.blk i },ba.put ?_ (by simpa[St.cK] using hn) rX⟩;refine hs.Gp hnd ae (abj (acO (aaz hpt)) (aaD _)) g1 (fun j sv hj=>?_);obtain⟨h1,h2,h3⟩:=g2 j sv hj;refine⟨h1,h2,h3,?_⟩;have:∃d',sv=.v c d':=by
  cases a0<;>simp only[c8] at hj
  case agg cs=>rw[aaI,aaH] at hj;obtain⟨u,_,rfl⟩:=hj;exact⟨u,rfl⟩
  all_goals (cases j<;>simp at hj;subst hj;exact⟨_,rfl⟩)
 obtain⟨d',rfl⟩:=this;cases c<;>first|rfl|exact absurd rfl hc
theorem L0 (ho:o.op=.box T x)(hx:viewAt ρ ob x=some (c,a0))(hnt:jt a0=true)(ae:∀b,M0 b→b<w0.w.heap.size):Pure P w0 M0 o ρ ob (.v c (.pc a0.cells 0)) :=
 aJ fun E w ev hw h=>by
   have hr:=cG hw h hx;obtain⟨g1,g2,g3⟩:=hr.cells (fun vs he=>by subst he;cases hnt);have hb:bD w0.dr w.heap.size w (w.alloc (.cells (ev x).cells T)):=(Below.refl _ _).alloc (aaD _) _;refine⟨.pointer (some ⟨w.heap.size,0+0,none⟩),w.alloc (.cells (ev x).cells T),by simp[execOp,ho,Instr.box,newVar,newRow],hb,
     .pc _ 0 0 _ (fun j=>(ev x).cells.getD j undef) (fun hM=>?_) (by simp) (fun j hj=>?_) g2 (fun j d hd=>(g3 j d hd).under hb)⟩
   · cases c with
     | pl =>
       rcases hM with hM|hM
       · have:=ae _ hM;have:=hw.below.size;omega
       · have:=(hw.bH hM).2;omega
     | mx=>have:=(hw.bH hM).2;omega
     | vw=>exact hM
   · rw[cell_of_row _ w.heap.size (0+j) _ T (0,0) (heap_alloc_new w _),abL,abc,abd adh];rfl
theorem Aj {f:Nat}(hT:iT P T f=some (fo,fk+1,fg))(w:World)(g p:Nat):(Instr.fieldAt T (.pointer (some ⟨g,p,none⟩)) f).run P w=.ok (.pointer (some ⟨g,p+fo,none⟩)) w:=by
 unfold iT at hT;split at hT
 · rename_i fs hs
   cases hf:fs[f]? with
   | none=>rw[hf] at hT;cases hT
   | some fd =>
     rw[hf] at hT;simp only[ach,abE,aaH,abP] at hT;obtain⟨k1,hk1,g1,hg1,Vn,Yg,_⟩:=hT;subst Yg;simp[Instr.fieldAt,run_underlying hs,hf,Instr.sureAddr,fieldPlace,dE hk1,Addr.add_lit,Vn]
 · cases hT
theorem jQ {f:Nat}(ho:o.op=.fieldAddr T x f)(hT:iT P T f=some (fo,fk+1,fg))(hx:ρ x=some (.pbox id off))(hl:ob.lookup id=some (.box e cs)):Pure P w0 M0 o ρ ob (.pbox id (off+fo)) :=
 aJ fun E w ev hw h=>by
  have hr:=h x _ hx e cs hl;exact⟨_,w,by simp only[execOp,ho,hr,Sem.run_bind,Aj hT,Result.andThen_ok,Sem.run_pure],.refl _ _,fun e' cs' h'=>rfl⟩
theorem bn {f:Nat}{xs:List AV}(ho:o.op=.fieldAddr T x f)(hT:iT P T f=some (fo,fk+1,fg))(hx:ρ x=some (.pel id i off))(hl:ob.lookup id=some (.arr e xs)):Pure P w0 M0 o ρ ob (.pel id i (off+fo)) :=
 aJ fun E w ev hw h=>by
  obtain⟨hi,g,hg,hr⟩:=h x _ hx e xs hl;refine⟨_,w,by simp only[execOp,ho,hr,Sem.run_bind,Aj hT,Result.andThen_ok,Sem.run_pure];rfl,.refl _ _,fun e' xs' h'=>?_⟩;rw[hl] at h';simp only[aaB,Ob.arr.injEq] at h';obtain⟨rfl,rfl⟩:=h';exact⟨hi,g,hg,by rw[Nat.add_assoc]⟩
theorem aa {sv:SV}(ho:o.op=.load T x)(hT:bo P T=some false)(hx:ρ x=some (.pbox id off))(hl:ob.lookup id=some (.box e cs))(he:cs[off]?=some sv):Pure P w0 M0 o ρ ob sv :=
 aJ fun E w ev hw h=>by
  have hr:=h x _ hx e cs hl;obtain⟨vals,h1,h2,h3,h4⟩:=hw.objs id _ hl;refine⟨vals.getD off undef,w,?_,.refl _ _,(h4 off sv he).2.2⟩;have hlt:off<vals.length:=by rw[h3];exact(aa0.1 he).1
  have hc:w.cell? ⟨E.blk id,off,none⟩=some (vals.getD off undef):=by
   rw[cell_of_row w _ off _ e (0,0) h1];simp[aax,aaF hlt]
  simp[execOp,ho,hr,Instr.loadAt,Instr.sureAddr,loadVar,dy hT,hc]
def jE (ob:List (Nat×Ob)):List SV→Option (fX×List AV)
 | []=>some (.pl,[])
 | d :: r => match view ob d, jE ob r with
   | some (c,a),some (c',azs)=>bif a.leaf then some (c.max c',a :: azs) else none
   | _,_=>none
theorem lF {E:Env} {w:World} (hw:gu P w0 M0 E ob w):∀ (l:List SV) (vs:List Value) (c:fX) (azs:List AV),vs.length=l.length→(∀ (j:Nat) d,l[j]?=some d→bm P M0 w E ob (vs.getD j undef) d)→jE ob l=some (c,azs) →
   l.length=azs.length∧∀(j:Nat) a,azs[j]?=some a→AV.leaf a=true∧bL w (cI M0 (owned E ob) c) (vs.getD j undef) a
 | [], vs, c, azs, _, _, hv => by
   simp only[jE,aaB,abP] at hv;obtain⟨rfl,rfl⟩:=hv;exact⟨rfl,fun j a h=>by simp at h⟩
 | d :: r, vs, c, azs, hl, h, hv => by
   cases vs with
   | nil=>simp at hl
   | cons v vs =>
     unfold jE at hv;split at hv
     · rename_i c1 a1 c2 as2 h1 h2
       cases hlf:a1.leaf with
       | false=>rw[hlf] at hv;cases hv
       | true =>
         rw[hlf] at hv;simp only[cond_true,aaB,abP] at hv;obtain⟨rfl,rfl⟩:=hv;obtain⟨g1,g2⟩:=lF hw r vs c2 as2 (by simpa using hl) (fun j d hd=>by simpa using h (j+1) d (by simpa using hd)) h2;refine⟨by simp[g1],fun j a ha=>?_⟩;cases j with
         | zero =>
           simp only[abf,aaB] at ha;subst ha;exact⟨hlf,(H3 hw (by simpa using h 0 d J) h1).cm (qA c1 c2)⟩
         | succ j =>
           have:=g2 j a (by simpa using ha);exact⟨this.1,by simpa using this.2.cm (qB c1 c2)⟩
     · cases hv
theorem sU {azs:List AV}(ho:o.op=.load T x)(hT:bo P T=some true)(hk:bX P T=some k)(hx:ρ x=some (.pbox id off))(hl:ob.lookup id=some (.box e cs))(hle:Nat.ble (off+k) cs.length=true)(hv:jE ob ((cs.drop off).take k)=some (c,azs)) :
   Pure P w0 M0 o ρ ob (.v c (.agg azs)) :=
 aJ fun E w ev hw h=>by
   have hr:=h x _ hx e cs hl;have hle':=aaz hle;obtain⟨vals,h1,h2,h3,h4⟩:=hw.objs id _ hl;have hvl:((vals.drop off).take k).length=((cs.drop off).take k).length:=by simp;omega
   obtain⟨g1,g2⟩:=lF hw ((cs.drop off).take k) ((vals.drop off).take k) c azs hvl (fun j d hd=>by
     rw[abo] at hd;split at hd
     · rename_i hj
       rw[ab3] at hd;have:=(h4 _ d hd).2.2;rw[aax] at this ⊢;rwa [abo,if_pos hj,ab3]
     · cases hd) hv
   have hcell:=run_loadCells (P:=P) w ⟨E.blk id,off,none⟩ k (fun j=>vals.getD (off+j) undef) (fun j hj=>by
     rw[Addr.add_lit,cell_of_row w _ (off+j) _ e (0,0) h1];have:off+j<vals.length:=adh;simp[aax,aaF this])
   have hkl:((vals.drop off).take k).length=k:=by simp;omega
   refine⟨.agg ((vals.drop off).take k).toArray,w,?_,.refl _ _,.agg _ _ (by rw[hvl,g1]) (fun j d hd=>(g2 j d hd).1) (fun j d hd=>(g2 j d hd).2)⟩;have e1:(List.range k).map (fun j=>vals.getD (off+j) undef)=(vals.drop off).take k:=by
     apply abJ;intro j;simp only[aaI,abo,ab3];rcases aa9 j k with hj|hj
     · rw [if_pos hj]
       have:off+j<vals.length:=adh;simp[hj,aax,aaF this]
     · rw[if_neg adh];simp;omega
   simp only[execOp,ho,hr,Instr.loadAt,Instr.sureAddr,loadVar,Sem.run_bind,dy hT,dE hk,Result.andThen_ok,Sem.run_pure,if_true,hcell,e1]
end
def de (id:Nat)(cs:List SV):List SV:=cs.map fun d=>if d.stays false id then d else .dead
def BW (el:AV)(cs:List AV):AV:=match el with
 | .agg _=>.agg cs
 | _=>cs.headD el
variable{el:AV}
theorem BX {cs:List AV}(h:cs.length=el.cells.length)(hl:∀d∈cs,AV.leaf d=true):(BW el cs).cells=cs:=by
 have one:el.cells.length=1→(∀c,el≠.agg c)→(BW el cs).cells=cs:=by
   intro h1 hna
   match cs,h,hl with
   | [d], _, hl =>
     have hd:=hl d (by simp);have:BW el [d]=d:=by cases el<;>first|rfl|exact absurd rfl (hna _)
     rw[this];cases d<;>simp_all [AV.cells,AV.leaf]
   | [],h,_=>simp at h;omega
   | _ :: _ :: _,h,_=>simp at h;omega
 cases el with
 | agg c=>rfl
 | sc v=>exact one rfl (by simp)
 | sl v=>exact one rfl (by simp)
 | tup v=>exact one rfl (by simp)
 | pc v w=>exact one rfl (by simp)
 | clo v w=>exact one rfl (by simp)
 | mp v w=>exact one rfl (by simp)
theorem L1 {k off:Nat}{xs:List AV}{el':AV}{m:List AV}(hk:∀x∈xs,(AV.cells x).length=k)(hi:xs[i]?=some el)(hm:off+m.length≤k)(he:el'.cells=ry el.cells off m) :
   flat (xs.set i el')=ry (flat xs) (i*k+off) m:=by
 induction xs generalizing i with
 | nil=>simp at hi
 | cons x r ih =>
   have hx:=hk x aaJ;have hr:∀y∈r,(AV.cells y).length=k:=fun y hy=>hk y (aaW _ hy)
   cases i with
   | zero =>
     simp only[abf,aaB] at hi;subst hi;simp only[List.set_cons_zero,flat,abQ,Nat.zero_mul,abL,he,ry];rw[List.take_append_of_le_length adh,List.drop_append_of_le_length adh];simp
   | succ i =>
     have ih':=ih hr (by simpa using hi);simp only[flat] at ih';simp only[List.set_cons_succ,flat,abQ,ih',ry];have e1:(i+1)*k+off=x.cells.length+(i*k+off):=by rw[hx,acL];omega
     have e2:(i+1)*k+off+m.length=x.cells.length+(i*k+off+m.length):=adh;rw[e2,e1,List.take_length_add_append,List.drop_length_add_append];simp only[abr]
section
variable {P:Program} {w0:Fr}{M0:Nat→Prop}
variable {o:Oper} {ρ:Operand→Option SV}{ob:List (Nat×Ob)}{d:SV}{x y:Operand}{T T' e:TypeId}{k b:Nat}{c:fX}{id off:Nat}{cs:List SV}{s:St}{t:Nat}{xs:List AV}
theorem lG {w:World}{g p:Nat}{cur:Array Value}(hk:bX P T=some k)(hv:v.cells.size=k)(hg:w.heap[g]?=some (.cells cur e (0,0)))(hl:p+k≤cur.size)(h1:∀u∈v.cells.toList,u.oneCell'=true) :
  (storeVar T ⟨g,p,none⟩ v).run P w=.ok () (w.setRow g (ry cur.toList p v.cells.toList).toArray):=by
 have:=run_storeCells_at P g p e v.cells.toList 0 cur w hg (by simp;omega) h1;simp only[Nat.add_zero] at this;simp[storeVar,dE hk,hv,this,ry]
theorem jR {w:World}{g:Nat}{cs:Array Value}:w.grownBy (w.setRow g cs) (some g):=⟨rfl,rfl,rfl,by simp[World.setRow],fun k _ hk=>setRow_other w g k _ (fun he=>hk (by rw[he]))⟩
theorem aW (ho:o.op=.store T x y)(hd:o.dst=none)(hnd:Nodup s.s=true)(hk:bX P T=some k)(hx:s.ev x=some (.pbox id off))(hl:s.o.lookup id=some (.box e cs))(hy:s.ev y=some (.v c a0))(hnt:jt a0=true)(hc:c≠.vw)
   (hn:(c8 (.v c a0)).length=k)(hle:Nat.ble (off+k) cs.length=true)(ae:∀b,M0 b→b<w0.w.heap.size):Step P w0 M0 o s (s.cK false id (.box e (ry (de id cs) off (c8 (.v c a0))))):=by
 rintro a w Q ⟨E,hs⟩;have hle':=aaz hle;have hxv:=hs.ev hx e cs hl;obtain⟨g1,g2⟩:=vq (hs.ev hy) (by simp) (by cases a0<;>simp_all [SV.Tl,jt]) (.inl ⟨c,a0,rfl⟩);obtain⟨vals,h1,h2,h3,h4⟩:=hs.wok.objs id _ hl;have hvs:(a.eval y).cells.size=k:=by rw[g1,hn]
 have hone:∀u∈(a.eval y).cells.toList,u.oneCell'=true:=by
   intro u hu;obtain⟨j,hj,rfl⟩:=abF hu;have hj':j<(c8 (.v c a0)).length:=by rw[←g1];simpa using hj
   have:=(g2 j _ (aaF hj')).2.1;rw[abc] at this;simp only[acB] at hj;simpa[hj] using this
 have hrun:=lG (P:=P) (w:=w) (p:=off) hk hvs h1 (by simp;omega) hone;unfold Oper.wp;have hexec:(execOp a.eval o).run P w=.ok .skip (w.setRow (E.blk id) (ry vals off (a.eval y).cells.toList).toArray):=by
   simp[execOp,ho,hxv,Instr.storeAt,Instr.sureAddr,hrun]
 rw[hexec];simp only[Oper.upon,hd,Act.put];have hbl:(a.eval y).cells.toList.length=k:=by simp[hvs]
 have hspl:off+(a.eval y).cells.toList.length≤vals.length:=adh;refine⟨E,hs.cK false (fun _=>⟨rfl,.inr (.inl ⟨e,cs,_,hl,rfl⟩)⟩) hnd ae (fun i hi=>⟨rfl,rfl⟩) (.inr J) (some (E.blk id)) jR (fun _=>aaD _) (fun g hg=>⟨_,hl,by simpa[bG] using hg⟩) (fun b hb=>.inl ⟨_,hl,hb⟩) (fun rep sv=>?_)⟩;refine⟨_,setRow_heap w _ _ _ e _ h1,h2,?_,fun j d hj=>?_⟩
 · rw[dI hspl,dI (by simp[de,hn];omega)];simp[de,h3]
 · rw [fD (by simp [de, hn]; omega)] at hj
   rw[aax,fD hspl,hbl];rw[hn] at hj;split at hj
   · rename_i hin
     rw[if_pos hin];obtain⟨q1,q2,q3⟩:=g2 _ d hj;have e1:(a.eval y).cells.toList[j-off]?.getD undef=(a.eval y).cells.getD (j-off) undef:=by rw[abc,abi]
     rw[e1];refine⟨q1,q2,sv _ _ q3 ?_⟩;have:∃d',d=.v c d':=by
       cases a0<;>simp only[c8] at hj
       case agg cs=>rw[aaI,aaH] at hj;obtain⟨u,_,rfl⟩:=hj;exact⟨u,rfl⟩
       all_goals (cases hjj:j-off<;>rw[hjj] at hj<;>simp at hj;subst hj;exact⟨_,rfl⟩)
     obtain⟨d',rfl⟩:=this;cases c<;>first|rfl|exact absurd rfl hc
   · rename_i hin
     rw[if_neg hin];simp only[de,aaI,aaH] at hj;obtain⟨d0,hd0,rfl⟩:=hj;have:=h4 j d0 hd0;rw[aax] at this;split
     · exact⟨this.1,this.2.1,sv _ _ this.2.2 ‹_›⟩
     · exact⟨rfl,this.2.1,trivial⟩
theorem aP {j:Nat}{e':TypeId}(ho:o.op=.store T x y)(hd:o.dst=none)(hnd:Nodup s.s=true)(hk:bX P T=some 1)(hx:s.ev x=some (.pbox id off))(hl:s.o.lookup id=some (.box e cs))(hy:s.ev y=some (.own j))(hj:s.o.lookup j=some (.arr e' xs))
  (hle:Nat.ble (off+1) cs.length=true)(ae:∀b,M0 b→b<w0.w.heap.size):Step P w0 M0 o s (s.cK false id (.box e (ry (de id cs) off [.own j]))):=by
 rintro a w Q ⟨E,hs⟩;have hle':=aaz hle;have hxv:=hs.ev hx e cs hl;have hyv:a.eval y=E.cur j:=hs.ev hy e' xs hj;obtain⟨vals',⟨hown,_⟩,_⟩:=hs.wok.objs j _ hj;have hsl:∃A n c',a.eval y=.slice A n c':=by
  rw[hyv];rcases hown.2 with⟨h,_⟩|⟨g,cap,cur,h,_⟩<;>exact⟨_,_,_,h⟩
 obtain⟨A,n,c',hsl⟩:=hsl;obtain⟨vals,h1,h2,h3,h4⟩:=hs.wok.objs id _ hl;have hrun:=lG (P:=P) (w:=w) (v:=.slice A n c') (p:=off) hk rfl h1 (by simp;omega) (by simp[Value.cells,Value.oneCell']);unfold Oper.wp;have hexec:(execOp a.eval o).run P w=.ok .skip (w.setRow (E.blk id) (ry vals off [.slice A n c']).toArray):=by
  simp[execOp,ho,hxv,hsl,Instr.storeAt,Instr.sureAddr,hrun,Value.cells]
 rw[hexec];simp only[Oper.upon,hd,Act.put];have hspl:off+[Value.slice A n c'].length≤vals.length:=by simp;omega
 refine⟨E,hs.cK false (fun _=>⟨rfl,.inr (.inl ⟨e,cs,_,hl,rfl⟩)⟩) hnd ae (fun i hi=>⟨rfl,rfl⟩) (.inr J) (some (E.blk id)) jR (fun _=>aaD _) (fun g hg=>⟨_,hl,by simpa[bG] using hg⟩) (fun b hb=>.inl ⟨_,hl,hb⟩) (fun rep sv=>?_)⟩;refine⟨_,setRow_heap w _ _ _ e _ h1,h2,?_,fun j' d hj'=>?_⟩
 ·rw[dI hspl,dI (by simp[de];omega)];simp[de,h3]
 ·rw[fD (by simp[de];omega)] at hj';rw[aax,fD hspl];simp only[abD] at hj' ⊢;split at hj'
  ·rename_i hin;rw[if_pos hin];have hz:j'-off=0:=adh;rw[hz] at hj' ⊢;simp only[abf,aaB] at hj';subst hj';simp only[abf,acI];refine⟨rfl,rfl,sv _ _ ?_ J⟩;rw[←hsl];exact hs.ev hy
  ·rename_i hin;rw[if_neg hin];simp only[de,aaI,aaH] at hj';obtain⟨d0,hd0,rfl⟩:=hj';have:=h4 j' d0 hd0;rw[aax] at this;split
   ·exact⟨this.1,this.2.1,sv _ _ this.2.2 ‹_›⟩
   ·exact⟨rfl,this.2.1,trivial⟩
theorem ah {q:IntKind}{i:Int}(ho:o.op=.indexAddr T x y)(hT:P.underlying T=some (.slice e))(hk:bX P e=some k)(hx:ρ x=some (.own id))(hl:ob.lookup id=some (.arr e xs))(hy:bg ρ y=some (.int q i))(h:0≤i∧i<xs.length) :
   Pure P w0 M0 o ρ ob (.pel id i.toNat 0) :=
 aJ fun E w ev hw hh=>by
   have hr:=hh x _ hx e xs hl;have hi:=bZ hh hy;obtain⟨vals,⟨hown,hownF⟩,h2,h3⟩:=hw.objs id _ hl;rcases hown.2 with⟨hv,hn⟩|⟨g,cap,cur,hv,_⟩
   · omega
   · rw [hv] at hr
     have hel:P.elem T=e:=by simp[Program.elem,hT]
     refine⟨.pointer (some ⟨g,i.toNat*P.cellsOf e+0,none⟩),w,?_,.refl _ _,fun e' xs' h'=>?_⟩
     · have hin : 0 ≤ i ∧ i < (xs.length : Int) := h
       simp[execOp,ho,hr,hi,run_indexAt_slice,hel,hT,hin,dE hk,cQ hk,Addr.add_lit]
     · rw [hl] at h'
       simp only[aaB,Ob.arr.injEq] at h';obtain⟨rfl,rfl⟩:=h';exact⟨adh,g,by rw[hv];rfl,rfl⟩
theorem c3 (ho:o.op=.load T x)(hT:bo P T=some false)(hx:ρ x=some (.pel id i off))(hl:ob.lookup id=some (.arr e xs))(he:xs[i]?=some el)(hc:el.cells[off]?=some a0):Pure P w0 M0 o ρ ob (.v .pl a0) :=
 aJ fun E w ev hw h=>by
  obtain⟨hi,g,hg,hr⟩:=h x _ hx e xs hl;obtain⟨vals,⟨hown,hownF⟩,h2,h3⟩:=hw.objs id _ hl;have hoff:off<P.cellsOf e:=by rw[←h2 el (abm he)];exact(aa0.1 hc).1
  have hfl:(flat xs)[i*P.cellsOf e+off]?=some a0:=by rw[flat_get xs i el h2 he off hoff];exact hc
  have hvl:i*P.cellsOf e+off<vals.length:=by
   rw[hown.1,←bQ xs h2];exact(aa0.1 hfl).1
  have hcell:=hown.cells hg (i*P.cellsOf e+off) _ (aaF hvl);rw[Addr.add_lit,abL] at hcell;refine⟨vals.getD (i*P.cellsOf e+off) undef,w,?_,.refl _ _,(h3 _ a0 hfl).2⟩;simp[execOp,ho,hr,Instr.loadAt,Instr.sureAddr,loadVar,dy hT,hcell,aax,aaF hvl]
theorem sV (ho:o.op=.load T x)(hT:bo P T=some true)(hk:bX P T=some k)(hx:ρ x=some (.pel id i 0))(hl:ob.lookup id=some (.arr e xs))(hck:bX P e=some k)(he:xs[i]?=some el):Pure P w0 M0 o ρ ob (.v .pl (.agg el.cells)) :=
 aJ fun E w ev hw h=>by
  obtain⟨hi,g,hg,hr⟩:=h x _ hx e xs hl;obtain⟨vals,⟨hown,hownF⟩,h2,h3⟩:=hw.objs id _ hl;have hce:=cQ hck;rw[hce] at hr hown h2;have hel:=h2 el (abm he);have hvl:vals.length=xs.length*k:=hown.1;have hmul:i*k+k≤xs.length*k:=by rw[←acY];exact abR _ adh
  have hcell:=run_loadCells (P:=P) w ⟨g,i*k,none⟩ k (fun j=>vals.getD (i*k+j) undef) (fun j hj=>by
   have hj':i*k+j<vals.length:=adh;have:=hown.cells hg (i*k+j) _ (aaF hj');rw[Addr.add_lit,abL] at this;rw[Addr.add_lit,this,aax,aaF hj'];rfl)
  refine⟨.agg ((List.range k).map fun j=>vals.getD (i*k+j) undef).toArray,w,?_,.refl _ _,.agg _ _ (by simp[hel]) (fun j d hd=>?_) (fun j d hd=>?_)⟩
  ·simp only[execOp,ho,hr,Instr.loadAt,Instr.sureAddr,loadVar,Sem.run_bind,dy hT,dE hk,Result.andThen_ok,Sem.run_pure,if_true,Nat.add_zero,hcell]
  ·have hj:j<k:=by rw[←hel];exact(aa0.1 hd).1
   exact(h3 (i*k+j) d (by rw[flat_get xs i el h2 he j hj];exact hd)).1
  ·have hj:j<k:=by rw[←hel];exact(aa0.1 hd).1
   have:=(h3 (i*k+j) d (by rw[flat_get xs i el h2 he j hj];exact hd)).2;rw[aax,aaI,abX hj];exact this
theorem aj   (ho:o.op=.store T x y) (hd:o.dst=none) (hnd:Nodup s.s=true) (hk:bX P T=some k) (hx:s.ev x=some (.pel id i off)) (hl:s.o.lookup id=some (.arr e xs)) (he:xs[i]?=some el) (hy:viewAt s.ev s.o y=some (c,a0)) (hnt:jt a0=true) (hc:c=.pl∨∃ v,a0=.sc v)
   (hn:a0.cells.length=k)(hle:off+k≤el.cells.length)(ae:∀b,M0 b→b<w0.w.heap.size):Step P w0 M0 o s (s.cK false id (.arr e (xs.set i (BW el (ry el.cells off a0.cells))))):=by
 rintro a w Q ⟨E,hs⟩;obtain⟨hi,g,hg,hxv⟩:=hs.ev hx e xs hl;have hyr:=cG hs.wok (fun x e hx=>hs.ev hx) hy;have hyp:bL w (cI M0 (owned E s.o) .pl) (a.eval y) a0:=by
   rcases hc with rfl|⟨v,rfl⟩
   · exact hyr
   · generalize a.eval y = u at hyr ⊢
     cases hyr;exact .sc _ ‹_›
 obtain⟨g1,g2,g3⟩:=hyp.cells (fun vs hh=>by subst hh;cases hnt);obtain⟨vals,⟨hown,hownF⟩,h2,h3⟩:=hs.wok.objs id _ hl;have helk:=h2 el (abm he);have hvs:(a.eval y).cells.size=k:=by rw[g1,hn]
 have hone:∀u∈(a.eval y).cells.toList,u.oneCell'=true:=by
   intro u hu;obtain⟨j,hj,rfl⟩:=abF hu;have hj':j<a0.cells.length:=by rw[←g1];simpa using hj
   have q1:=g2 j _ (aaF hj');have:=(g3 j _ (aaF hj')).one q1;rw[abc] at this;simp only[acB] at hj;simpa[hj] using this
 obtain⟨hvl,hform⟩:=hown;have hpos:i*P.cellsOf e+off+k≤vals.length:=by
   have:i*P.cellsOf e+P.cellsOf e≤xs.length*P.cellsOf e:=by rw[←acY];exact abR _ adh
   omega
 rcases hform with⟨hv,hn0⟩|⟨g',cap,cur,hv,hgb,hh,hnc,hcm,hcs,htake⟩
 · omega
 · have hgg : g' = g := by rw [hv] at hg; simpa [Value.ownBlock] using hg
   subst hgg;have hvals:vals.length≤cur.size:=by rw[hvl,hcs];exact abR _ hnc
   have hrun:=lG (P:=P) (w:=w) (p:=i*P.cellsOf e+off) hk hvs hh adh hone;unfold Oper.wp;have hexec:(execOp a.eval o).run P w=.ok .skip (w.setRow g' (ry cur.toList (i*P.cellsOf e+off) (a.eval y).cells.toList).toArray):=by
     simp[execOp,ho,hxv,Instr.storeAt,Instr.sureAddr,hrun]
   rw[hexec];simp only[Oper.upon,hd,Act.put];have hbl:(a.eval y).cells.toList.length=k:=by simp[hvs]
   have hleaf:∀d∈ry el.cells off a0.cells,AV.leaf d=true:=by
     intro d hd;obtain⟨j,hj,rfl⟩:=abF hd;have hj2:=fD (l:=el.cells) (m:=a0.cells) (off:=off) adh j;rw[aaF hj] at hj2;split at hj2
     · exact g2 _ _ hj2.symm
     · have hjl : j < P.cellsOf e := by rw [← helk]; rw [dI adh] at hj; exact hj
       exact(h3 (i*P.cellsOf e+j) _ (by rw[flat_get xs i el h2 he j hjl];exact hj2.symm)).1
   have hre:=BX (el:=el) (cs:=ry el.cells off a0.cells) (by rw[dI adh]) hleaf;have hfs:=L1 (off:=off) (m:=a0.cells) h2 he adh hre;have hspl:i*P.cellsOf e+off+(a.eval y).cells.toList.length≤vals.length:=adh;refine⟨E,hs.cK false (fun _=>⟨rfl,.inl ⟨e,xs,_,hl,rfl,by simp⟩⟩) hnd ae (fun i hi=>⟨rfl,rfl⟩) (.inr J) (some g') jR (fun _=>aaD _) (fun g hg'=>⟨_,hl,by simp only[aaB] at hg';subst hg';exact hg⟩) (fun b hb=>.inl ⟨_,hl,hb⟩) (fun rep sv=>?_)⟩;refine⟨ry vals (i*P.cellsOf e+off) (a.eval y).cells.toList,?_,?_,fun j d hj=>?_⟩
   · refine ⟨⟨by rw [dI hspl, hvl, acn], .inr ⟨g', cap, _, by rw [hv, acn], hgb, setRow_heap w _ _ _ e _ hh, by rw [acn]; exact hnc, hcm, ?_, ?_⟩⟩, hownF⟩
     · rw[adb,dI (by simp;omega)];simpa using hcs
     · rw [acn, ← hvl]
       have ht:cur.toList.take vals.length=vals:=by rw[hvl];exact htake
       apply abJ;intro j;rw[abo,fD (by simp;omega),fD hspl];by_cases hj:j<vals.length
       · rw [if_pos hj]
         split
         · rfl
         · have : (cur.toList.take vals.length)[j]? = cur.toList[j]? := by rw [abo, if_pos hj]
           rw[←this,ht]
       · rw[if_neg hj,if_neg adh,abg adh]
   · intro u hu
     rcases acK hu with h|h
     · exact h2 u h
     · subst h;rw[hre,dI adh,helk]
   · rw [hfs, fD (by rw [bQ xs h2, ← hvl]; omega)] at hj
     rw[aax,fD hspl,hbl];rw[hn] at hj;split at hj
     · rename_i hin
       rw[if_pos hin];have e1:(a.eval y).cells.toList[j-(i*P.cellsOf e+off)]?.getD undef=(a.eval y).cells.getD (j-(i*P.cellsOf e+off)) undef:=by rw[abc,abi]
       rw[e1];exact⟨g2 _ d hj,rep .pl _ _ (g3 _ d hj) (by simp)⟩
     · rename_i hin
       rw[if_neg hin];have:=h3 j d hj;rw[aax] at this;exact⟨this.1,rep .pl _ _ this.2 (by simp)⟩
end
abbrev ak (l:List UInt8):AV:=.sc (.string ⟨l.toArray⟩)
variable{q':IntKind}{u:Value}
section
variable {P:Program} {w0:Fr}{M0:Nat→Prop}
variable {o:Oper} {ρ:Operand→Option SV}{ob:List (Nat×Ob)}{d:SV}{x y z:Operand}{T T' e:TypeId}{k b:Nat}{c:fX}{id off:Nat}{s:St}{t:Nat}{xs:List AV}{l l':List UInt8}
theorem kU {q:Bool}(ho:o.op=.unOp .not T x)(hx:bg ρ x=some (.bool q)):Pure P w0 M0 o ρ ob (.v .pl (.sc (.bool (!q)))) :=
 lR rfl fun w ev h=>by simp[execOp,ho,h x _ hx,Op.unary]
theorem L2 {n:Int}(ho:o.op=.unOp .neg T x)(hx:bg ρ x=some (.int .i64 n))(h:-9223372036854775808≤-n∧-n≤9223372036854775807):Pure P w0 M0 o ρ ob (.v .pl (int (-n))) :=
 lR rfl fun w ev h'=>by
  have hw:=wrap64 (x:=0-n) adh adh;simp[execOp,ho,h' x _ hx,Op.unary,Op.intArith];simpa using hw
theorem nE {k k':IntKind}{n:Int}{ds:TypeDesc}(ho:o.op=.convert T T' x)(hs:P.underlying T=some ds)(hd:P.underlying T'=some (.int k'))(hx:bg ρ x=some (.int k n)):Pure P w0 M0 o ρ ob (.v .pl (.sc (.int k' (k'.wrap n)))) :=
 lR rfl fun w ev h'=>by
  have:P.intKind T'=k':=by simp[Program.intKind,hd]
  have hr:=run_convert_int (P:=P) (w:=w) T T' k n (by rw[hs];rfl) (by rw[this];exact hd);rw[this] at hr;simp[execOp,ho,h' x _ hx,hr]
theorem JI (ho:o.op=.binOp .eql T x y T')(hx:bg ρ x=some (.string ⟨l.toArray⟩))(hy:bg ρ y=some (.string ⟨l'.toArray⟩)):Pure P w0 M0 o ρ ob (.v .pl (.sc (.bool (decide (l=l'))))) :=
 eE ho hx hy rfl (by simp[go_sem]) (fun w=>by
  simp only[binOp,Op.stringOp,ByteArray.toList_eq,Sem.run_pure]
  congr 2;rw[acq];simp)
theorem ui (ho:o.op=.binOp .neq T x y T')(hx:bg ρ x=some (.string ⟨l.toArray⟩))(hy:bg ρ y=some (.string ⟨l'.toArray⟩)):Pure P w0 M0 o ρ ob (.v .pl (.sc (.bool (!decide (l=l'))))) :=
 eE ho hx hy rfl (by simp[go_sem]) (fun w=>by
  simp only[binOp,Op.stringOp,ByteArray.toList_eq,Sem.run_pure]
  congr 3;rw[acq];simp)
theorem JJ (l l':List UInt8):(⟨l.toArray⟩:ByteArray)++⟨l'.toArray⟩=⟨(l++l').toArray⟩:=by
 have h:=Go.Joins.data_append ⟨l.toArray⟩ ⟨l'.toArray⟩;generalize (⟨l.toArray⟩:ByteArray)++⟨l'.toArray⟩=q at h;obtain⟨q⟩:=q
 congr 1
 apply acw;simpa using h
theorem iF (ho:o.op=.binOp .add T x y T')(hx:bg ρ x=some (.string ⟨l.toArray⟩))(hy:bg ρ y=some (.string ⟨l'.toArray⟩))(hb:l.length+l'.length≤9223372036854775807):Pure P w0 M0 o ρ ob (.v .pl (ak (l++l'))) :=
 eE ho hx hy rfl (by simp[go_sem]) (fun w=>by
  rw[←JJ];have h:=run_string_add_sum (P:=P) (w:=w) ⟨l.toArray⟩ ⟨l'.toArray⟩ (by simpa[ByteArray.size] using hb);simpa[binOp] using h)
theorem bL.part {w:World}{a:Option Addr}{cap:Nat}{j:Nat}(hr:bL w M (.slice a n cap) (.sl xs))(hk:bX P e=some k)(hxk:∀v∈xs,(AV.cells v).length=k)(hij:i≤j)(hj:j≤n) :
   bL w M (sliced a i j cap k) (.sl ((xs.drop i).take (j-i))):=by
 cases hr with
 | sl a n cap xs k' cv hn hc hk' hb hl hr =>
   have hflat:∀(q:Nat) d,(flat ((xs.drop i).take (j-i)))[q]?=some d→(flat xs)[i*k'+q]?=some d:=by
     intro q d hd;have e1:xs=xs.take i++((xs.drop i).take (j-i)++(xs.drop i).drop (j-i)):=by rw[abU,abU]
     have hlen:(flat (xs.take i)).length=i*k':=by
       rw[bQ (xs.take i) (fun v hv=>hk' v (abO hv)),aaO,acN adh]
     rw[e1,gh,gh,aa6 adh,hlen,Nat.add_sub_cancel_left,aa8 (aa0.1 hd).1];exact hd
   unfold sliced;refine .sl _ _ _ _ k' (fun q=>cv (i*k'+q)) (by simp;omega) adh (fun v hv=>hk' v (abp (abO hv))) (fun h0=>?_) (fun q d hd=>hl _ d (hflat q d hd)) (fun q d hd=>hr _ d (hflat q d hd));have h0':0<j-i:=h0;have hn0:0<n:=adh;have hkk:k=k':=by
     cases xs with
     | nil =>
       have:n=0:=by simpa using hn.symm
       omega
     | cons v r=>rw[←hk' v aaJ,hxk v aaJ]
   subst hkk;obtain⟨bl,of,rfl,h1,h2,h3⟩:=hb hn0;refine⟨bl,of+i*k,?_,h1,h2,fun q hq=>?_⟩
   · have hne : ¬ cap = i := by
       have hji:0<j-i:=h0;omega
     rw[if_neg hne];simp[Addr.add_lit]
   · have hle : i * k + (j - i) * k ≤ n * k := by rw [← acL]; exact abR _ adh
     have hlt:i*k+q<n*k:=adh;have:=h3 (i*k+q) hlt;have e1:of+i*k+q=of+(i*k+q):=adh;rw[e1];exact this
theorem sW {j:Int}(ho:o.op=.slice T x none (some z) none)(hT:P.underlying T=some (.slice e))(hk:bX P e=some k)(hx:viewAt ρ ob x=some (c,.sl xs))(hz:bg ρ z=some (.int q' j))(h:0≤j∧j≤xs.length)(hxk:∀v∈xs,(AV.cells v).length=k) :
  Pure P w0 M0 o ρ ob (.v c (.sl (xs.take j.toNat))) :=
 aJ fun E w ev hw hh=>by
  have hr:=cG hw hh hx;have hz':=bZ hh hz;generalize hq:ev x=u at hr;have hu:∃a n cap,u=.slice a n cap∧xs.length=n∧n≤cap:=by
   cases hr with
   | sl a n cap _ k cv hn hc _ _ _ _=>exact⟨a,n,cap,rfl,hn,hc⟩
  obtain⟨a,n,cap,rfl,hn,hc⟩:=hu;have hel:P.elem T=e:=by simp[Program.elem,hT]
  have hrun:(Instr.slice T (.slice a n cap) none (some (.int q' j)) none).run P w=.ok (sliced a 0 j.toNat cap k) w:=by
   have hj:0≤j∧j≤(cap:Int):=adh;simp[Instr.slice,run_underlying hT,Instr.sliceBounds,run_sliceBound,hj,dE hk,sliced]
  have:=hr.part hk hxk (aaG j.toNat) adh;simp only[List.drop_zero,acE] at this;refine⟨_,w,?_,.refl _ _,this⟩;simp only[execOp,ho,hq,hz',abu,Option.map_none,Sem.run_bind,run_sliceAt_slice (P:=P) (w:=w) T _ _ _ _ (by rw[hel];exact hT),hrun,Result.andThen_ok,Sem.run_pure]
def iW (ρ:Operand→Option SV)(ob:List (Nat×Ob)):List Operand→Option (fX×List AV)
 | []=>some (.pl,[])
 | x :: r => match viewAt ρ ob x, iW ρ ob r with
   | some (c,d),some (c',ds)=>some (c.max c',d :: ds)
   | _,_=>none
theorem mP {E:Env}{w:World}{ev:Operand→Value}(hw:gu P w0 M0 E ob w)(h:∀x e,ρ x=some e→bm P M0 w E ob (ev x) e):∀(xs:List Operand)(c:fX)(ds:List AV),iW ρ ob xs=some (c,ds) →
   xs.length=ds.length∧∀(j:Nat) d,ds[j]?=some d→bL w (cI M0 (owned E ob) c) ((xs.map ev).getD j undef) d
 | [], c, ds, hd => by
   simp only[iW,aaB,abP] at hd;obtain⟨rfl,rfl⟩:=hd;exact⟨rfl,fun j d hd=>by simp at hd⟩
 | x :: r, c, ds, hd => by
   unfold iW at hd;split at hd
   · rename_i c1 d1 c2 ds2 h1 h2
     simp only[aaB,abP] at hd;obtain⟨rfl,rfl⟩:=hd;have ih:=mP hw h r c2 ds2 h2;refine⟨by simp[ih.1],fun j d hd=>?_⟩;cases j with
     | zero =>
       simp only[abf,aaB] at hd;subst hd;exact(cG hw h h1).cm (qA c1 c2)
     | succ j=>exact(ih.2 j d (by simpa using hd)).cm (qB c1 c2)
   · cases hd
theorem JK {caps:Array Operand}(ho:o.op=.makeFunc (.func f) #[] caps)(hc:iW ρ ob caps.toList=some (c,ds)):Pure P w0 M0 o ρ ob (.v c (.clo f ds)) :=
 aJ fun E w ev hw h=>by
  obtain⟨g1,g2⟩:=mP hw h _ c ds hc;refine⟨.func (.func f) #[] (caps.toList.map ev).toArray,w,?_,.refl _ _,.clo f _ _ (by simpa using g1) g2⟩;simp[execOp,ho,Instr.makeFunc]
  try (apply acw;simp)
theorem DJ {f:Nat}{azs:List AV}(ho:o.op=.field T x f)(hT:iT P T f=some (fo,fk+1,false))(hx:viewAt ρ ob x=some (c,.agg azs))(ha:azs[fo]?=some a0):Pure P w0 M0 o ρ ob (.v c a0) :=
 aJ fun E w ev hw h=>by
   have hr:=cG hw h hx;generalize hq:ev x=u at hr;cases hr with
   | agg vs _ hn hl hr =>
     have hlt:fo<vs.length:=by rw[hn];exact(aa0.1 ha).1
     have:=hr fo a0 ha;rw[aax,aaF hlt] at this;refine⟨vs[fo],w,?_,.refl _ _,this⟩;unfold iT at hT;split at hT
     · rename_i fs hs
       cases hf:fs[f]? with
       | none=>rw[hf] at hT;cases hT
       | some fd =>
         rw[hf] at hT;simp only[ach,abE,aaH,abP] at hT;obtain⟨k1,hk1,g1,hg1,Vn,Yg,hT3⟩:=hT;subst Vn;subst hT3;simp[execOp,ho,hq,Instr.field,run_underlying hs,hf,part,dy hg1,asAgg,hlt]
     · cases hT
theorem qC {n:Int}{q:IntKind}(ho:o.op=.makeSlice T x y)(hd:o.dst=some t)(hn:Nat.blt t s.n=true)(hnd:Nodup s.s=true)(hT:P.underlying T=some (.slice e))(hel:iE P e 1 b=true)(hz:zeroOf P e=some [u])(hu:u.oneCell'=true)
  (hx:bg s.ev x=some (.int q n))(hy:bg s.ev y=some (.int q' n))(h0:0≤n)(hb:b*n.toNat≤281474976710656)(hm:n≤4611686018427387904)(ae:∀b,M0 b→b<w0.w.heap.size):Step P w0 M0 o s ((s.cK true t (.arr e (List.replicate n.toNat (.sc u)))).put t (.own t)):=by
 rintro a w Q ⟨E,hs⟩;obtain⟨i,zz,hi,hzz,hsz,hby,hzs,hk0,hck⟩:=gK hel;have hzc:zz.cells.toList=[u]:=by
  unfold zeroOf at hz;rw[hi] at hz;simp only[ach,hzz,abu,aaB] at hz;exact hz
 have hx':a.eval x=.int q n:=bZ (ρ:=s.ev) (x:=x) (ob:=s.o) (ev:=a.eval) (fun x e hx=>hs.ev hx) hx;have hy':a.eval y=.int q' n:=bZ (ρ:=s.ev) (x:=y) (ob:=s.o) (ev:=a.eval) (fun x e hx=>hs.ev hx) hy;obtain⟨w',hrun,hown,hg⟩:=run_make_full (P:=P) w 0 T e i zz 1 hT hi hzz hsz q q' n.toNat (by rw[hby];exact hb) (by simp only[maxLen];omega) (aaG _);rw[Int.toNat_of_nonneg h0] at hrun;have hcells:(madeCells zz.cells (n.toNat*1)).toList=List.replicate n.toNat u:=by
  have hzc':zz.cells=#[u]:=by rw[←Array.toList_inj];simpa using hzc
  rw[hzc',ab8];apply abJ;intro j;simp only[madeCells,acZ,aaI,acj];rcases aa9 j n.toNat with h|h
  ·have hone:j % 1=0:=Nat.mod_one j;simp[h,Nat.mod_one]
  ·rw[if_neg adh];simp;omega
 rw[hcells] at hown;unfold Oper.wp;have hexec:(execOp a.eval o).run P w=.ok (.value (.slice (some ⟨w.heap.size,0,none⟩) n.toNat n.toNat)) w':=by
  simp only[execOp,ho,hx',hy',Sem.run_bind,hrun,Result.andThen_ok,Sem.run_pure]
 rw[hexec];simp only[Oper.upon,hd];refine⟨{ E with cur:=fun i=>if i=t then .slice (some ⟨w.heap.size,0,none⟩) n.toNat n.toNat else E.cur i },ba.put ?_ (by simpa[St.cK] using hn) fp⟩;refine hs.ov hnd ae hg (fun _=>lP _ _ _ _ hrun) (vals:=List.replicate n.toNat u) (by rw[hck,acU];exact hown) (fun b hb=>?_) (fun v hv=>by rw[hck,List.eq_of_mem_replicate hv];rfl) (fun j d hd=>?_)
 ·simp only[Value.ownBlock,aaB] at hb;omega
 ·have hfl:flat (List.replicate n.toNat (AV.sc u))=List.replicate n.toNat (AV.sc u):=by
   generalize n.toNat=m
   induction m with
   | zero=>rfl
   | succ m ih=>simp only[ac2,flat,abQ] at ih ⊢;rw[ih];rfl
  rw[hfl,acj] at hd;split at hd
  ·rename_i hj;simp only[aaB] at hd;subst hd;refine⟨rfl,.inl ?_⟩;rw[aax,acj,if_pos hj];exact .sc u hu
  ·cases hd
end
theorem e9 {α:Type} [Inhabited α]{f:α→AV}{l:List α}(h:i<l.length):(l.map f)[i]?=some (f (l.getD i default)):=by rw[aaI,aax,aaF h];rfl
theorem bO {k:Nat}{x:AV}(h:(AV.cells x).length=k):∀y∈[x],(AV.cells y).length=k:=by intro y hy;simp at hy;subst hy;exact h
theorem mQ {α:Type}{f:α→AV}{l:List α}{k:Nat}(h:∀z,(AV.cells (f z)).length=k):∀y∈l.map f,(AV.cells y).length=k:=by intro y hy;obtain⟨z,_,rfl⟩:=aa7.1 hy;exact h z
theorem JL {α:Type}{f:α→AV}{l:List α}(h:∀z,AV.cells (f z)=[f z]):flat (l.map f)=l.map f:=by
 induction l with
 | nil=>rfl
 | cons x r ih=>simp only[abx,flat,abQ] at ih ⊢;rw[ih,h];rfl
variable{r r':AV}
section
variable {P:Program} {w0:Fr}{M0:Nat→Prop}
theorem dX {α:Type}{f:α→AV}{l:List α}{s:St}{y:Operand}{k:Nat}(hy:viewAt s.ev s.o y=some (.pl,.sl (l.map f)))(hk:∀z,(AV.cells (f z)).length=k):Src P w0 M0 s y k (l.map f):=cA hy (mQ hk)
theorem sX {α:Type}{f:α→AV}{l:List α}{s:St}{y:Operand}{c:fX}(hy:viewAt s.ev s.o y=some (c,.sl (l.map f)))(hk:∀z,∃v,f z=.sc v):Src P w0 M0 s y 1 (l.map f) :=
 Tj hy (mQ fun z=>by obtain⟨v,h⟩:=hk z;rw[h];rfl) (fun d hd=>by
  rw[JL (fun z=>by obtain⟨v,h⟩:=hk z;rw[h];rfl)] at hd;obtain⟨z,_,rfl⟩:=aa7.1 hd;exact hk z)
def Gd (P : Program) (f : FuncId) (n t u : Nat) (c : Code) : Prop := ∃ fn, P.funcs[f]? = some fn ∧ fn.body = some c ∧ fn.ntmps = n ∧ fn.results = #[.tmp t, .tmp u] ∧ (fn.name == "runtime.NumGoroutine") = false
theorem Gd.bu {f t u:Nat}{c:Code}(h:Gd P f n t u c):cq P f:=by obtain⟨fn,h1,h2,_,_,h5⟩:=h;exact⟨fn,h1,h5,by rw[h2];rfl⟩
def H8 (t u:Nat)(r r':AV):Exit→St→Prop
 | .normal,s|.ret,s=>(∃q,(s.s.lookup t).bind (bT s.o)=some q∧q.data=r)∧(∃q,(s.s.lookup u).bind (bT s.o)=some q∧q.data=r')
 | _,_=>False
theorem pD {f t u:Nat}{c:Code}(hf:Gd P f n t u c){cl:fX}{w:World}(ae:∀b,M0 b→b<w.heap.size)(hn:ds.length≤n)(vs:List Value)(hv:vs.length=ds.length)
   (hr:∀(j:Nat) d,ds[j]?=some d→bL w (cI M0 (fun _=>False) cl) (vs.getD j undef) d)
   (h:aw P (Fr.all w) M0 c (St.enter n cl ds) (H8 t u r r')) :
   Calls P f vs.toArray w fun e w'=>∃v,e=.returned v∧Below w.heap.size w w'∧iN P w' M0 (fun b=>b<w.heap.size) v (.p (.tup [r,r'])):=by
 obtain⟨fn,h1,h2,h3,h4,h5⟩:=hf;have hE:ba P (Fr.all w) M0 ⟨fun _=>undef,fun _=>0,fun _ _=>undef⟩ (St.enter n cl ds) { tmps:=vs.toArray++Array.replicate (fn.ntmps-vs.toArray.size) undef,defers:=[] } w:=by
   rw[e7];refine⟨by simp[St.fH,h3];omega,rfl,fun t d ht=>?_,jO⟩;obtain⟨_,he⟩:=kF _ 0 t d ht;rw[acE,aaI,aaH] at he;obtain⟨e,he,rfl⟩:=he;have hlt:t<ds.length:=(aa0.1 he).1;refine⟨by simp[St.fH];omega,?_⟩;have:=hr t e he;simp only[bm,St.fH,ew];have hget:(vs.toArray++Array.replicate (fn.ntmps-vs.toArray.size) undef).getD t undef=vs.getD t undef:=by
     rw[abc,ack (by simp;omega),aax];simp
   rw[hget];exact this
 refine calls_of_wp h1 h2 (wp_mono (show Code.wp P c _ _ _ from h _ _ ⟨_,hE⟩) fun e a' w' ⟨s',hq,E,hs⟩=>?_);have fin:((∃q,(s'.s.lookup t).bind (bT s'.o)=some q∧q.data=r)∧(∃q,(s'.s.lookup u).bind (bT s'.o)=some q∧q.data=r'))→a'.defers=[]∧∃v,(results fn a'.tmps).run P w'=.ok v w'∧∃v_1,Ending.returned v=Ending.returned v_1∧Below w.heap.size w w'∧iN P w' M0 (fun b=>b<w.heap.size) v_1 (.p (.tup [r,r'])):=by
   rintro⟨⟨q1,hq1,hd1⟩,⟨q2,hq2,hd2⟩⟩;have one:∀x q,(s'.s.lookup x).bind (bT s'.o)=some q→bL w' M0 (a'.tmps.getD x undef) q.data:=by
     intro x q hx;cases hl:s'.s.lookup x with
     | none=>rw[hl] at hx;cases hx
     | some sv =>
       rw[hl] at hx;exact(ei hs.wok (hs.slots x sv hl).2 hx).rep ae
   refine⟨hs.defers,.tuple #[a'.tmps.getD t undef,a'.tmps.getD u undef],by simp[results,h4],_,rfl,hs.wok.below.below,?_⟩;have r1:=one t q1 hq1;have r2:=one u q2 hq2;rw[hd1] at r1;rw[hd2] at r2;exact .tup [a'.tmps.getD t undef,a'.tmps.getD u undef] [r,r'] J (fun j d hd=>by
     match j,hd with
     | 0,hd=>simp at hd;subst hd;exact r1
     | 1,hd=>simp at hd;subst hd;exact r2
     | j+2,hd=>simp at hd)
 cases e with
 | normal=>exact fin hq
 | ret=>exact fin hq
 | exit _=>exact hq.elim
 | goto _=>exact hq.elim
 | panic _=>exact hq.elim
 | outgrown=>exact hq.elim
theorem pE {f t u:Nat}{c:Code}(hf:Gd P f n t u c)(hn:ds.length≤n)
  (h:∀(w0:Fr)(M0:Nat→Prop),(∀b,M0 b→b<w0.w.heap.size)→aw P w0 M0 c (St.enter n .mx ds) (H8 t u r r')):au P f ds (.p (.tup [r,r'])) :=
 ⟨hf.bu,fun w vs hv hr=>pD (cl:=.mx) hf (fun b hb=>hb) hn vs hv (fun j d hd=>hr j d hd) (h (Fr.all w) (fun b=>b<w.heap.size) (fun b hb=>hb))⟩
theorem b9 {t u:Nat}{s:St}{q q':RV}(h:(s.s.lookup t).bind (bT s.o)=some q)(h':(s.s.lookup u).bind (bT s.o)=some q')(e:q.data=r∧q'.data=r'):H8 t u r r' .ret s:=⟨⟨q,h,e.1⟩,⟨q',h',e.2⟩⟩
theorem au.weaken {e:TypeId}{xs:List AV}(h:au P f ds (.fresh e xs)):au P f ds (.p (.sl xs)) :=
 ⟨h.1,fun w vs hv hr=>(h.2 w vs hv hr).mono fun e w' ⟨v,he,hb,hrv⟩=>⟨v,he,hb,hrv.rep (fun b hb=>hb)⟩⟩
theorem bI {o:Oper}{ρ:Operand→Option SV}{ob:List (Nat×Ob)}{c c':fX}{r:RV}
   (ho:o.op=.call { callee:=.value cx,args:=args,argTypes:=ats })(hc:ρ cx=some (.v c' (.clo f caps)))(ha:iW ρ ob args.toList=some (c,ds))(hcap:caps=[])(h:aV P f ds r)
   (ae:∀b,M0 b→b<w0.w.heap.size):Pure P w0 M0 o ρ ob (.v c r.data):=by
 subst hcap;intro E w ev hw hx;have hcv:=hx cx _ hc;simp only[bm] at hcv;generalize hq:ev cx=q at hcv;cases hcv with
 | clo _ vs _ hn hr =>
   obtain⟨g1,g2⟩:=mP hw hx _ c ds ha;have hvs:vs=[]:=aa4 (by simpa using hn);subst hvs;unfold sM;rw[fG ho hq h.1];refine⟨rfl,?_⟩;have P3:∀b,cI M0 (owned E ob) c b→b<w.heap.size:=by
     intro b hb;cases c with
     | pl =>
       rcases hb with hb|hb
       · have:=ae b hb;have:=hw.below.size;omega
       · exact(hw.bH hb).2
     | mx=>exact(hw.bH hb).2
     | vw=>exact hb.elim
   have hall:=h.2 w (cI M0 (owned E ob) c) (args.toList.map ev) P3 (by simpa using g1) g2;have e1:(args.toList.map ev).toArray=args.map ev++#[]:=by apply acw ;simp
   rw[e1] at hall;exact hall.mono fun e w' ⟨v,he,hb,hrv⟩=>⟨v,he,hb.to,hrv.rep P3⟩
theorem JM {o:Oper}{ρ:Operand→Option SV}{ob:List (Nat×Ob)}{x y:Operand}{T T':TypeId}{k:IntKind}{a b:Int}(ho:o.op=.binOp .rem T x y T')(hx:bg ρ x=some (.int k a))(hy:bg ρ y=some (.int k b))(h:0≤a∧0<b):Pure P w0 M0 o ρ ob (.v .pl (.sc (.int k (a % b)))):=by have:=LH (P:=P) (w0:=w0) (M0:=M0) (ob:=ob) ho hx hy adh;rwa [Int.tmod_eq_emod_of_nonneg h.1] at this
theorem JN {o:Oper}{ρ:Operand→Option SV}{ob:List (Nat×Ob)}{x y:Operand}{T T':TypeId}{a b:Int}(ho:o.op=.binOp .quo T x y T')(hx:bg ρ x=some (.int .i64 a))(hy:bg ρ y=some (.int .i64 b))(h:0≤a∧0<b∧a≤9223372036854775807):Pure P w0 M0 o ρ ob (.v .pl (int (a / b))):=by have:=LG (P:=P) (w0:=w0) (M0:=M0) (ob:=ob) ho hx hy adh;have h1:0≤a / b:=Int.ediv_nonneg h.1 adh;have h2:a / b≤a:=Int.ediv_le_self _ h.1;rwa [Int.tdiv_eq_ediv_of_nonneg h.1,wrap64 adh adh] at this
theorem lT {α:Type}{f:α→AV}{l:List α}{o:Oper}{ρ:Operand→Option SV}{ob:List (Nat×Ob)}{x:Operand}{T e:TypeId}{c:fX}(ho:o.op=.call { callee:=.builtin .len,args:=#[x],argTypes:=#[T] })(hT:P.underlying T=some (.slice e))(hx:viewAt ρ ob x=some (c,.sl (l.map f))) :
  Pure P w0 M0 o ρ ob (.v .pl (int l.length)):=by
 have:=Dx (P:=P) (w0:=w0) (M0:=M0) ho hT hx;rwa [aaA] at this
def Tm (P:Program)(w0:Fr)(M0:Nat→Prop)(R:St→Prop)(Q:Exit→St→Prop):Exit→St→Prop
 | .normal,s=>∃s',fm P w0 M0 s s'∧R s'
 | e,s=>Q e s
theorem L3 {x y : Code} {s : St} {Q : Exit → St → Prop} (R : St → Prop) (h : aw P w0 M0 x s (Tm P w0 M0 R Q)) (h' : ∀ s, R s → aw P w0 M0 y s Q) : aw P w0 M0 (.seq x y) s Q :=
 DD (h.mono fun e s' hq=>by
   cases e<;>simp only[Tm,PZ] at hq ⊢<;>first
     | exact hq
     | (obtain ⟨s2, hi, hR⟩ := hq
        exact aw.imp hi (h' s2 hR)))
theorem DK {o:Oper}{ρ:Operand→Option SV}{ob:List (Nat×Ob)}{x y:Operand}{T T':TypeId}{a b:Int}(ho:o.op=.call { callee:=.builtin .min,args:=#[x,y],argTypes:=#[T,T'] })(hx:bg ρ x=some (.int .i64 a))(hy:bg ρ y=some (.int .i64 b)):Pure P w0 M0 o ρ ob (.v .pl (int (if b<a then b else a))) :=
 lR rfl fun w ev h=>by
  simp[execOp,ho,resolve,h x _ hx,h y _ hy,invoke,builtin,go_sem]
  try (rw[Int.min_def];split<;>split<;>omega)
end
open Go.MapKept Go.ChangeMaps
open Classical in
noncomputable def dU:List Value→Value→Option Nat
 | [],_=>none
 | x :: r,k=>if x=k then some 0 else(dU r k).map (·+1)
theorem Ak {k:Value}:∀{l:List Value},dU l k=none↔k ∉ l
 | []=>by simp[dU]
 | x :: r => by
   unfold dU;split
   · rename_i h;subst h;simp
   · rename_i h
     rw[Option.map_eq_none_iff,Ak (l:=r),aa3,not_or];exact⟨fun h'=>⟨fun e=>h e.symm,h'⟩,fun h'=>h'.2⟩
theorem eX {k:Value}:∀{l:List Value}{i:Nat},dU l k=some i→l[i]?=some k
 | [],i,h=>by simp[dU] at h
 | x :: r, i, h => by
   unfold dU at h;split at h
   · rename_i he;subst he;simp only[aaB] at h;subst h;rfl
   · rw [aaH] at h
     obtain⟨j,hj,rfl⟩:=h;simpa using eX hj
noncomputable def fZ (ks:List Value)(k:Value):List Value:=match dU ks k with
 | some _=>ks
 | none=>ks++[k]
noncomputable def JO (ks:List Value)(vs:List AV)(k:Value)(a:AV):List AV:=match dU ks k with
 | some i=>vs.set i a
 | none=>vs++[a]
noncomputable def sY (z:AV)(ks:List Value)(vs:List AV)(k:Value):AV:=match dU ks k with
 | some i=>vs.getD i z
 | none=>z
noncomputable def JP (ks:List Value)(k:Value):Bool:=(dU ks k).isSome
theorem jS {d:TypeDesc}{k:Value}(hk:IsKey d k):∀(l:List MapEntry)(i:Nat),(∀x∈l,IsKey d x.key) →
   Instr.findNow d k l i=some ((dU (l.map (·.key)) k).map fun j=>(i+j,(l.map (·.val)).getD j undef))
 | [],_,_=>rfl
 | e :: es, i, h => by
   obtain⟨r,hr,hiff⟩:=sameNow_of_keys hk (h e (.head _));simp only[abx,dU];cases r with
   | true=>rw[if_pos (hiff.1 rfl).symm];simp[Instr.findNow,hr]
   | false =>
     have hne:e.key≠k:=fun q=>by have:=hiff.2 q.symm;cases this
     rw[if_neg hne];have ih:=jS hk es (i+1) (fun x hx=>h x (.tail _ hx));simp only[Instr.findNow,hr,ih,Option.map_map]
     congr 1
     cases dU (es.map (·.key)) k with
     | none=>rfl
     | some j=>simp;omega
variable{key:Value}
section
variable {P:Program} {w0:Fr}{M0:Nat→Prop}
variable {o:Oper} {ρ:Operand→Option SV}{ob:List (Nat×Ob)}{d:SV}{x y z:Operand}{T T' e:TypeId}{k b:Nat}{c:fX}{id off:Nat}{s:St}{t:Nat}{ks:List Value}{vs:List AV}{kt et:TypeId}{kd:TypeDesc}
theorem ba.Tn {E:Env}{w:World}(h:ba P w0 M0 E s a w)(hnd:Nodup s.s=true)(ae:∀b,M0 b→b<w0.w.heap.size)(hpt:t<1000000) :
  ba P w0 M0 { E with blk:=fun i=>if i=t then w.heap.size else E.blk i } (s.cK true t (.mp [] [])) a (w.alloc (.map #[] 0)):=by
 refine h.cK true (fun h=>by cases h) hnd ae (fun i hi=>⟨rfl,by simp[hi]⟩) (.inl (BU hpt)) none (World.grownBy_alloc w _ none) (fun _=>aaD _) (fun g hg=>by cases hg) (fun b hb=>.inr ?_) (fun rep sv=>?_)
 ·simp only[bG,if_true] at hb;omega
 ·have hblk:mK w0 M0 w.heap.size:=h.wok.ia ae (aaD _);exact⟨#[],0,by simp only[if_true];exact heap_alloc_new w (.map #[] 0),by simp only[if_true];exact hblk,rfl,rfl,fun j d hd=>by simp at hd⟩
theorem step_map {r:Option Operand}(ho:o.op=.makeMap T r)(hd:o.dst=some t)(hn:Nat.blt t s.n=true)(hpt:Nat.blt t 1000000=true)(hnd:Nodup s.s=true)(hT:P.underlying T=some (.map kt et))
   (hr:∀q,r=some q→∃kk n,bg s.ev q=some (.int kk n))(ae:∀b,M0 b→b<w0.w.heap.size):Step P w0 M0 o s ((s.cK true t (.mp [] [])).put t (.omap t)):=by
 rintro a w Q ⟨E,hs⟩;unfold Oper.wp;have hexec:(execOp a.eval o).run P w=.ok (.value (.map (some w.heap.size))) (w.alloc (.map #[] 0)):=by
   cases r with
   | none=>simp[execOp,ho,run_makeMap]
   | some q =>
     obtain⟨kk,n,hq⟩:=hr q rfl;have hq':a.eval q=.int kk n:=bZ (ρ:=s.ev) (x:=q) (ob:=s.o) (ev:=a.eval) (fun x e hx=>hs.ev hx) hq;simp[execOp,ho,hq',Instr.makeMap,run_underlying hT,asInt,asIntOf,Result.andThen,newObj,Sem.run]
 rw[hexec];simp only[Oper.upon,hd];refine⟨{ E with blk:=fun i=>if i=t then w.heap.size else E.blk i },ba.put (hs.Tn hnd ae (acO (aaz hpt))) (by simpa[St.cK] using hn) ?_⟩;intro ks' vs' _;simp
theorem L4 (ho:o.op=.mapUpdate T x y z)(hd:o.dst=none)(hnd:Nodup s.s=true)(hT:P.underlying T=some (.map kt et))(hkd:P.underlying kt=some kd)(hx:s.ev x=some (.omap id))(hl:s.o.lookup id=some (.mp ks vs))
   (hy:bg s.ev y=some key)(hz:viewAt s.ev s.o z=some (.pl,a0))(hk:IsKey kd key)(hks:∀u∈ks,IsKey kd u)(ae:∀b,M0 b→b<w0.w.heap.size) :
   Step P w0 M0 o s (s.cK false id (.mp (fZ ks key) (JO ks vs key a0))):=by
 rintro a w Q ⟨E,hs⟩;have hxv:=hs.ev hx ks vs hl;have hyv:a.eval y=key:=bZ (ρ:=s.ev) (x:=y) (ob:=s.o) (ev:=a.eval) (fun x e hx=>hs.ev hx) hy;have hzv:=cG hs.wok (fun x e hx=>hs.ev hx) hz;have hob:=hs.wok.objs id _ hl;obtain⟨es,clock,h1,h2,h3,h4,h5⟩:=hob;have hes:∀u∈es.toList,IsKey kd u.key:=fun u hu=>hks _ (by rw[←h3];exact acR hu)
 have hf:=jS hk es.toList 0 hes;rw[h3] at hf;have key3:∃(es':Array MapEntry)(clock':Nat),(Instr.mapUpdate T (.map (some (E.blk id))) key (a.eval z)).run P w=.ok () (setBlock w (E.blk id) (.map es' clock'))∧es'.toList.map (·.key)=fZ ks key ∧
     (fZ ks key).length=(JO ks vs key a0).length∧(∀(j:Nat) d,(JO ks vs key a0)[j]?=some d→bL w (cI M0 (owned E s.o) .pl) ((es'.toList.map (·.val)).getD j undef) d):=by
   unfold fZ JO;cases hp:dU ks key with
   | none =>
     rw[hp] at hf;simp[Option.map] at hf;refine⟨es.push ⟨key,a.eval z,clock⟩,clock+1,?_,by simp[h3],by simp[h4],fun j d hd=>?_⟩
     · simp[Instr.mapUpdate,run_underlying hT,MapKept.run_getObj_map h1,run_checkKey hkd hk,run_findKey hkd hf,MapKept.run_setObj_map _ h1,Result.andThen,setBlock]
     · have hvl : (es.toList.map (·.val)).length = vs.length := by rw [← h4, ← h3]; simp
       simp only[Array.toList_push,aaK,ac7];rw[aax];rcases aa9 j vs.length with hj|hj
       · rw [aa8 adh] at hd
         rw[aa8 adh,←aax];exact h5 j d hd
       · rw [aa6 hj] at hd
         rw[aa6 adh,hvl];cases hj0:j-vs.length with
         | zero=>rw[hj0] at hd;simp only[abf,aaB] at hd;subst hd;exact hzv
         | succ q=>rw[hj0] at hd;simp at hd
   | some i =>
     rw[hp] at hf;simp[Option.map] at hf;have hki:=eX hp;rw[←h3,aaI,aaH] at hki;obtain⟨e0,he0,hek⟩:=hki;rw[abi] at he0;have hkeys:(es.modify i fun e=>{ e with key:=key,val:=a.eval z }).toList.map (·.key)=ks:=by
       rw[modify_keys i _ (fun e he=>by rw[he0] at he;simp only[aaB] at he;subst he;exact hek.symm),h3]
     refine⟨es.modify i fun e=>{ e with key:=key,val:=a.eval z },clock,?_,hkeys,by simp[h4],fun j d hd=>?_⟩
     · have hst := run_keyThatStays (P := P) (w := w) hk
       simp[Instr.mapUpdate,run_underlying hT,MapKept.run_getObj_map h1,run_checkKey hkd hk,run_findKey hkd hf,MapKept.run_setObj_map _ h1,Result.andThen,setBlock,he0,hek,hst]
     · have hvl : (es.toList.map (·.val)).length = vs.length := by rw [← h4, ← h3]; simp
       rw[List.getElem?_set] at hd;rw[aax,aaI,abi,Array.getElem?_modify];split at hd
       · rename_i hij
         subst hij;rw[if_pos rfl,he0];split at hd
         · simp only[aaB] at hd;subst hd;exact hzv
         · cases hd
       · rename_i hij
         rw[if_neg hij,←abi,←aaI,←aax];exact h5 j d hd
 obtain⟨es',clock',hrun,hkeys,hlen,hreps⟩:=key3;unfold Oper.wp;have hexec:(execOp a.eval o).run P w=.ok .skip (setBlock w (E.blk id) (.map es' clock')):=by
   simp[execOp,ho,hxv,hyv,hrun,Result.andThen]
 rw[hexec];simp only[Oper.upon,hd,Act.put];have hgrow:w.grownBy (setBlock w (E.blk id) (.map es' clock')) (some (E.blk id)):=⟨rfl,rfl,rfl,by simp[setBlock],fun i _ hi=>heap_setBlock_other h1 _ (fun e=>hi (by rw[e]))⟩;refine⟨E,hs.cK false (fun _=>⟨rfl,.inr (.inr ⟨ks,vs,_,_,hl,rfl⟩)⟩) hnd ae (fun i hi=>⟨rfl,rfl⟩) (.inr J) (some (E.blk id)) hgrow (fun _=>aaD _) (fun g hg=>⟨_,hl,by simpa[bG] using hg⟩) (fun b hb=>.inl ⟨_,hl,hb⟩) (fun rep sv=>?_)⟩;exact⟨es',clock',heap_setBlock_same h1 _,h2,hkeys,hlen,fun j d hj=>rep .pl _ _ (hreps j d hj) (by simp)⟩
theorem Al {w:World}(hT:P.underlying T=some (.map kt et))(hkd:P.underlying kt=some kd)(hz:(P.info? et).bind (·.zero)=some u)(hu:u.oneCell'=true)
   (hr:bL w M v (.mp ks vs))(hk:IsKey kd key)(hks:∀q∈ks,IsKey kd q):∃r,bL w M r (sY (.sc u) ks vs key)∧∀ok,(Instr.lookup T v key ok).run P w=.ok (if ok=true then .tuple #[r,.bool (JP ks key)] else r) w:=by
 cases hr with
 | mp b es clock ks vs hM hb h1 h3 h4 h5 =>
   have hes:∀u∈es.toList,IsKey kd u.key:=fun u hu=>hks _ (by rw[←h3];exact acR hu)
   have hf:=jS hk es.toList 0 hes;rw[h3] at hf;cases hi:P.info? et with
   | none=>rw[hi] at hz;cases hz
   | some it =>
     rw[hi] at hz;simp only[ach] at hz;unfold sY JP;cases hp:dU ks key with
     | none =>
       rw[hp] at hf;refine⟨u,.sc u hu,fun ok=>?_⟩;cases ok<;>simp[Instr.lookup,run_underlying hT,MapKept.run_getObj_map h1,run_checkKey hkd hk,run_findKey hkd hf,Result.andThen,zeroValue,typeInfo,hi,hz]
     | some j =>
       rw[hp] at hf;have hkj:=eX hp;have hj:j<vs.length:=by rw[←h4];exact(aa0.1 hkj).1
       refine⟨(es.toList.map (·.val)).getD j undef,?_,fun ok=>?_⟩
       · have := h5 j vs[j] (aaF hj)
         show bL w M _ (vs.getD j (AV.sc u));rw[aax (l:=vs),aaF hj];exact this
       · cases ok<;>simp[Instr.lookup,run_underlying hT,MapKept.run_getObj_map h1,run_checkKey hkd hk,run_findKey hkd hf,Result.andThen]
theorem xp (ho:o.op=.lookup T x y false)(hT:P.underlying T=some (.map kt et))(hkd:P.underlying kt=some kd)(hz:(P.info? et).bind (·.zero)=some u)(hu:u.oneCell'=true)
  (hx:viewAt ρ ob x=some (c,.mp ks vs))(hy:bg ρ y=some key)(hk:IsKey kd key)(hks:∀q∈ks,IsKey kd q)(ha:sY (.sc u) ks vs key=a0):Pure P w0 M0 o ρ ob (.v c a0) :=
 aJ fun E w ev hw h=>by
  have hyv:ev y=key:=bZ h hy;obtain⟨r,h1,h2⟩:=Al hT hkd hz hu (cG hw h hx) hk hks;refine⟨r,w,by simp[execOp,ho,hyv,h2 false],.refl _ _,?_⟩;rw[←ha];exact h1
theorem DL {b0:Bool}(ho:o.op=.lookup T x y true)(hT:P.underlying T=some (.map kt et))(hkd:P.underlying kt=some kd)(hz:(P.info? et).bind (·.zero)=some u)(hu:u.oneCell'=true)
  (hx:viewAt ρ ob x=some (c,.mp ks vs))(hy:bg ρ y=some key)(hk:IsKey kd key)(hks:∀q∈ks,IsKey kd q)(ha:sY (.sc u) ks vs key=a0)(hb:JP ks key=b0):Pure P w0 M0 o ρ ob (.v c (.tup [a0,.sc (.bool b0)])) :=
 aJ fun E w ev hw h=>by
  have hyv:ev y=key:=bZ h hy;obtain⟨r,h1,h2⟩:=Al hT hkd hz hu (cG hw h hx) hk hks;refine⟨.tuple #[r,.bool (JP ks key)],w,by simp[execOp,ho,hyv,h2 true],.refl _ _,?_⟩;refine .tup [r,.bool (JP ks key)] _ J fun j d hj=>?_
  match j with
  | 0=>simp only[abf,aaB] at hj;subst hj;rw[←ha];exact h1
  | 1=>simp only[abY,abf,aaB] at hj;subst hj;rw[←hb];exact .sc _ rfl
  | j+2=>simp at hj
theorem JQ (ho:o.op=.call { callee:=.builtin .len,args:=#[x],argTypes:=#[T] })(hT:P.underlying T=some (.map kt et))(hx:viewAt ρ ob x=some (c,.mp ks vs)):Pure P w0 M0 o ρ ob (.v .pl (int ks.length)) :=
 aJ fun E w ev hw h=>by
   have hr:=cG hw h hx;generalize hq:ev x=q at hr;cases hr with
   | mp b es clock ks vs hM hb h1 h3 h4 h5 =>
     refine⟨.int .i64 es.size,w,?_,.refl _ _,?_⟩
     · simp[execOp,ho,hq,resolve,invoke,builtin,Builtin.len_,goInt,run_underlying hT,MapKept.run_getObj_map h1,Result.andThen]
     · have : ks.length = es.size := by rw [← h3]; simp
       rw[this];exact .sc _ rfl
def DM (o o':List (Nat×Ob)):SV→Option AV
 | .v .pl d=>some d
 | .v _ (.sc u)=>some (.sc u)
 | .own id => match o.lookup id, o'.lookup id with
   | some (.arr _ xs),none=>some (.sl xs)
   | _,_=>none
 | .omap id => match o.lookup id, o'.lookup id with
   | some (.mp ks vs),none=>some (.mp ks vs)
   | _,_=>none
 | _=>none
def L5 (o o':List (Nat×Ob)):List SV→Option (List AV)
 | []=>some []
 | d :: r => match DM o o' d, L5 o o' r with
   | some a,some az=>some (a :: az)
   | _,_=>none
def To (o o':List (Nat×Ob)):SV→Option AV
 | .pbox id off => match o.lookup id, o'.lookup id with
   | some (.box _ cs), none => match L5 o o' cs with
     | some az=>some (.pc az off)
     | none=>none
   | _,_=>none
 | d=>DM o o' d
theorem DN {o o':List (Nat×Ob)}:∀{l:List SV}{az:List AV},L5 o o' l=some az→l.length=az.length∧∀(j:Nat) a,az[j]?=some a→∃d,l[j]?=some d∧DM o o' d=some a
 | [],az,h=>by simp only[L5,aaB] at h;subst h;exact⟨rfl,fun j a h=>by simp at h⟩
 | d :: r, az, h => by
   unfold L5 at h;split at h
   · rename_i a1 as1 h1 h2
     simp only[aaB] at h;subst h;obtain⟨g1,g2⟩:=DN h2;refine⟨by simp[g1],fun j a hj=>?_⟩;cases j with
     | zero=>simp only[abf,aaB] at hj;subst hj;exact⟨d,rfl,h1⟩
     | succ j=>exact g2 j a (by simpa using hj)
   · cases h
section
variable {w:World} {E:Env}{o o':List (Nat×Ob)}
theorem rY (hw:gu P w0 M0 E o w)(ho:∀id ob,o'.lookup id=some ob→o.lookup id=some ob)(ae:∀b,M0 b→b<w0.w.heap.size){id b:Nat}{ob0:Ob}(h:o.lookup id=some ob0)(hn:o'.lookup id=none)(hb:bG E id b ob0) :
  ¬cI M0 (owned E o') .pl b:=by
 rintro(h1|⟨i,obx,h1,h2⟩)
 ·exact((hw.objs id _ h).dG hb).1.2 h1
 ·have:=hw.disj i obx id ob0 b (ho i obx h1) h h2 hb;subst this;rw[hn] at h1;cases h1
theorem H9 (hw:gu P w0 M0 E o w)(ho:∀id ob,o'.lookup id=some ob→o.lookup id=some ob)(ae:∀b,M0 b→b<w0.w.heap.size){d:SV}{a:AV}(h:bm P M0 w E o v d)(hd:DM o o' d=some a) :
  bL w (cI M0 (owned E o') .pl) v a:=by
 have hown:∀b,owned E o' b→owned E o b:=fun b ⟨id,ob,h1,h2⟩=>⟨id,ob,ho id ob h1,h2⟩
 unfold DM at hd;split at hd
 ·simp only[aaB] at hd;subst hd;exact bL.cm h (dW hown .pl)
 ·simp only[aaB] at hd;subst hd;cases h;exact .sc _ ‹_›
 ·rename_i id;split at hd
  ·rename_i e xs hl hn;simp only[aaB] at hd;subst hd;rw[h e xs hl];exact(hw.objs id _ hl).rep (dW hown .pl) (fun g hg=>rY hw ho ae hl hn hg)
  ·cases hd
 ·rename_i id;split at hd
  ·rename_i ks vs hl hn;simp only[aaB] at hd;subst hd;rw[h ks vs hl];have hlt:=((hw.objs id _ hl).dG rfl).2;obtain⟨es,clock,h1,h2,h3,h4,h5⟩:=hw.objs id _ hl;exact .mp _ es clock ks vs (rY hw ho ae hl hn J) hlt h1 h3 h4 fun j d hd=>(h5 j d hd).cm (dW hown .pl)
  ·cases hd
 ·cases hd
theorem JR {d:SV}{a:AV}(hd:DM o o' d=some a)(hl:SV.leaf d=true):AV.leaf a=true:=by
 unfold DM at hd;split at hd
 ·simp only[aaB] at hd;subst hd;exact hl
 ·simp only[aaB] at hd;subst hd;rfl
 ·split at hd
  ·simp only[aaB] at hd;subst hd;rfl
  ·cases hd
 ·split at hd
  ·simp only[aaB] at hd;subst hd;rfl
  ·cases hd
 ·cases hd
theorem L6 (hw:gu P w0 M0 E o w)(ho:∀id ob,o'.lookup id=some ob→o.lookup id=some ob)(ae:∀b,M0 b→b<w0.w.heap.size){d:SV}{a:AV}(h:bm P M0 w E o v d)(hd:To o o' d=some a) :
   bL w (cI M0 (owned E o') .pl) v a:=by
 unfold To at hd;split at hd
 · rename_i id off
   split at hd
   · rename_i e cs hl hn
     split at hd
     · rename_i az has
       simp only[aaB] at hd;subst hd;rw[h e cs hl];have hlt:=((hw.objs id _ hl).dG rfl).2;obtain⟨vals,h1,h2,h3,h4⟩:=hw.objs id _ hl;obtain⟨g1,g2⟩:=DN has;have:=bL.pc (w:=w) (M:=cI M0 (owned E o') .pl) (E.blk id) 0 off az (fun j=>vals.getD j undef) (rY hw ho ae hl hn rfl) hlt (fun j hj=>?_) (fun j a hj=>?_) (fun j a hj=>?_)
       · rw[abL] at this;exact this
       · have hj' : j < vals.length := adh
         rw[cell_of_row w _ _ _ e (0,0) h1];simp[aax,aaF hj']
       · obtain ⟨d, hd1, hd2⟩ := g2 j a hj
         exact JR hd2 (h4 j d hd1).1
       · obtain ⟨d, hd1, hd2⟩ := g2 j a hj
         exact H9 hw ho ae (h4 j d hd1).2.2 hd2
     · cases hd
   · cases hd
 · exact H9 hw ho ae h hd
end
def Gq (s:St)(o':List (Nat×Ob)):List (Nat×SV)→Prop
 | []=>True
 | (t,d) :: r=>(s.s.lookup t=some d∨∃q a,s.s.lookup t=some q∧To s.o o' q=some a∧d=.v .pl a)∧Gq s o' r
theorem Gq.out {s:St}{o':List (Nat×Ob)}:∀{l:List (Nat×SV)},Gq s o' l→∀t d,l.lookup t=some d→s.s.lookup t=some d∨∃q a,s.s.lookup t=some q∧To s.o o' q=some a∧d=.v .pl a
 | [],_,t,d,h=>by simp at h
 | (u, e) :: r, h, t, d, hl => by
   rw[aq] at hl;split at hl
   · rename_i he
     subst he;simp only[aaB] at hl;subst hl;exact h.1
   · exact Gq.out h.2 t d hl
theorem wB {s:St}{l:List (Nat×SV)}{o':List (Nat×Ob)}(ae:∀b,M0 b→b<w0.w.heap.size)(hl:Gq s o' l)(ho:wc s o'):fm P w0 M0 s ⟨s.n,l,o'⟩:=by
 rintro a w ⟨E,hs⟩;have ho':=ho.out;obtain⟨E1,h1⟩:=sR (P:=P) (w0:=w0) (M0:=M0) (s:=s) (l:=[]) (o':=o') trivial ho a w ⟨E,hs⟩;have h2:ba P w0 M0 E ⟨s.n,[],o'⟩ a w:=by
   have hown:∀b,owned E o' b→owned E s.o b:=fun b ⟨id,ob,h1,h2⟩=>⟨id,ob,ho' id ob h1,h2⟩
   refine⟨hs.size,hs.defers,fun t d ht=>by simp at ht,fun id ob hid=>?_,fun id ob id' ob' b h1 h2=>hs.wok.disj id ob id' ob' b (ho' _ _ h1) (ho' _ _ h2),hs.wok.below,hs.wok.pins⟩;have:=hs.wok.objs id ob (ho' id ob hid);cases ob with
   | arr e xs =>
     obtain⟨vals,h1,h2,h3⟩:=this;exact⟨vals,h1,h2,fun j d hd=>⟨(h3 j d hd).1,(h3 j d hd).2.cm (dW hown .pl)⟩⟩
   | box e cs =>
     obtain⟨vals,h1,h2,h3,h4⟩:=this;exact⟨vals,h1,h2,h3,fun j sv hj=>⟨(h4 j sv hj).1,(h4 j sv hj).2.1,(h4 j sv hj).2.2.mN ho'⟩⟩
   | mp ks vs =>
     obtain⟨es,clock,h1,h2,h3,h4,h5⟩:=this;exact⟨es,clock,h1,h2,h3,h4,fun j d hd=>(h5 j d hd).cm (dW hown .pl)⟩
   | nar e cs ln =>
     obtain⟨n,vals,h1,h2,h3,h4,h5⟩:=this;exact⟨n,vals,h1,h2,h3,h4.cm hown,h5⟩
   | nmp ks cs ln =>
     obtain⟨es,clock,h1,h2,h3,h4,h5,h6,h7⟩:=this;exact⟨es,clock,h1,h2,h3,h4,h5,h6.cm hown,h7⟩
 refine⟨E,h2.size,h2.defers,fun t d ht=>?_,h2.wok⟩;rcases hl.out t d ht with h|⟨q,av,h3,h4,rfl⟩
 · have := hs.slots t d h
   exact⟨this.1,this.2.mN ho'⟩
 · have := hs.slots t q h3
   exact⟨this.1,L6 hs.wok ho' ae this.2 h4⟩
theorem ko {ops:Array Oper}{Q:St→Prop}{l':List Oper}(n:Nat)(l:List (Nat×SV))(o':List (Nat×Ob))(ae:∀b,M0 b→b<w0.w.heap.size)(hn:s.n=n)(hl:Gq s o' l)(ho:wc s o')(h:kn P w0 M0 ops Q l' ⟨n,l,o'⟩):kn P w0 M0 ops Q l' s:=by subst hn;exact kn.imp (wB ae hl ho) h
theorem aD {y:Code}{Q:Exit→St→Prop}(n:Nat)(l:List (Nat×SV))(o':List (Nat×Ob))(ae:∀b,M0 b→b<w0.w.heap.size)(hn:s.n=n)(hl:Gq s o' l)(ho:wc s o')(h:aw P w0 M0 y ⟨n,l,o'⟩ Q):aw P w0 M0 y s Q:=by subst hn;exact aw.imp (wB ae hl ho) h
/- Short forms, so that a claim stays within its bound on bytes. -/
theorem dq:(∀ (p:Prop) [Decidable p],(decide p=true)=p)∧(∀(p:Prop) [Decidable p],(decide p=false)=¬p)∧(∀b:Bool,((!b)=true)=(b=false))∧(∀b:Bool,((!b)=false)=(b=true))∧(∀a b:Bool,((a&&b)=true)=(a=true∧b=true))∧(∀a b:Bool,((a||b)=true)=(a=true∨b=true))∧(∀a b:Bool,((a&&b)=false)=(a=false∨b=false))∧(∀(α β:Type)(f:α→β)(l:List α),(l.map f).length=l.length)∧(∀n:Nat,(n:Int).toNat=n) :=
 ⟨fun p _=>decide_eq_true_eq,fun p _=>propext decide_eq_false_iff_not,fun b=>abw b,fun b=>Bool.not_eq_false' b,fun a b=>aaZ a b,fun a b=>abC a b,fun a b=>propext Bool.and_eq_false_iff,fun _ _ f l=>aaA f,acb⟩
theorem ll:(∀ (α β:Type)(f:α→β)(l:List α),(l.map f).length=l.length)∧(∀(α:Type)(a b:List α),(a++b).length=a.length+b.length)∧(∀(α:Type)(a:α)(b:List α),(a :: b).length=b.length+1)∧(∀α:Type,([]:List α).length=0)∧(∀(α:Type)(l:List α)(i:Nat)(a:α),(l.set i a).length=l.length)∧(∀(α:Type)(n:Nat)(a:α),(List.replicate n a).length=n)∧(∀(α:Type)(l:List α)(i:Nat),(l.take i).length=min i l.length)∧(∀(α:Type)(l:List α)(i:Nat),(l.drop i).length=l.length-i)∧(∀n:Nat,(List.range n).length=n) :=
 ⟨fun _ _ f l=>aaA f,fun _ _ _=>aaM,fun _ _ _=>aaE,fun _=>rfl,fun _ _ _ _=>acn,fun _ _ _=>acU,fun _ _ _=>aaO,fun _ _ _=>aaX,fun _=>aa1⟩
end
def rZ:List AV→Option (List Int)
 | []=>some []
 | .sc (.int .u8 n) :: r => match rZ r with
   | some l=>some (n :: l)
   | none=>none
 | _=>none
theorem vr:∀ {xs:List AV}{l:List Int},rZ xs=some l→xs=l.map fun n=>.sc (.int .u8 n)
 | [],l,h=>by simp only[rZ,aaB] at h;subst h;rfl
 | x :: r, l, h => by
   unfold rZ at h;split at h
   · rename_i heq;cases heq
   · rename_i n r' heq
     cases heq;split at h
     · rename_i l' hl
       simp only[aaB] at h;subst h;rw[abx,←vr hl]
     · cases h
   · cases h
theorem P4 {α:Type}(f:α→Value)(l:List α):flat (l.map fun x=>.sc (f x))=l.map fun x=>.sc (f x):=by
 induction l with
 | nil=>rfl
 | cons a r ih=>simp only[abx,flat,abQ] at ih ⊢;rw[ih];rfl
section
variable {P:Program} {w0:Fr}{M0:Nat→Prop}
variable {o:Oper} {ρ:Operand→Option SV}{ob:List (Nat×Ob)}{x:Operand}{T T' e:TypeId}{c:fX}{xs:List AV}{l:List Int}
theorem uj (ho:o.op=.convert T T' x) (hT:P.underlying T=some (.slice e)) (he:P.underlying e=some (.int .u8)) (hT':P.underlying T'=some .string) (hx:viewAt ρ ob x=some (c,.sl xs)) (hn:rZ xs=some l) :
   Pure P w0 M0 o ρ ob (.v .pl (ak (l.map fun n=>UInt8.ofNat n.toNat))) :=
 aJ fun E w ev hw h=>by
   have hr:=cG hw h hx;have hxs:=vr hn;subst hxs;generalize hq:ev x=q at hr;cases hr with
   | sl a n cap _ k cv hn' hc hk hb hl hr =>
     refine⟨.string (strOfNums l),w,?_,.refl _ _,.sc _ J⟩;simp only[aaA] at hn';rw[P4] at hr;have key:∀dst,P.underlying dst=some .string→(convert T dst (.slice a n cap)).run P w=.ok (.string (strOfNums l)) w:=by
       rcases abZ n with h0|h0
       · intro dst hd
         have hl0:l=[]:=aa4 adh;subst h0 hl0;cases a with
         | none=>exact run_convert_bytes_nil (P:=P) w T e hT he 0 cap dst hd
         | some ad=>rw[run_convert_bytes_string w T dst e _ 0 cap hT he hd,run_bytesToString w ad 0 cap [] (by simpa using run_loadCells_list (P:=P) w ad [] (by simp))];rfl
       · obtain ⟨b, off, rfl, _, _, hcell⟩ := hb h0
         have hk1:k=1:=by
           cases l with
           | nil=>simp at hn';omega
           | cons z r=>exact(hk _ (by rw[abx];exact aaJ)).symm
         subst hk1;refine run_convert_bytes_arg (P:=P) w T e hT he b off n cap l hn' (fun i hi=>?_);rw[hcell i adh];have:=hr i (.sc (.int .u8 (l[i]'adh))) (by rw[aaI,aaF adh];rfl);generalize cv i=u at this;cases this;simp[aax,aaF (show i<l.length by omega)]
     simp[execOp,ho,hq,key T' hT']
theorem L7 {α:Type}{s:St}{y:Operand}{f:α→AV}{l:List α}(hy:viewAt s.ev s.o y=some (c,.sl ((l.map f).take n)))(hf:∀x,∃v,f x=.sc v):Src P w0 M0 s y 1 ((l.take n).map f):=by rw[←List.map_take] at hy;exact sX hy hf
end
open Go.Sort Go.Proofs
section
variable {α:Type} [Inhabited α]{enc:α→Value}
theorem fI (w:World)(blk off m:Nat)(dk:Array α)(os:Array Obj):(sortWorld enc w blk off m dk os).heap.size=w.heap.size+os.size:=by simp[sortWorld,grow,putRow,mapBlock,Sort.ahead]
theorem eY (w:World)(blk off m:Nat)(dk:Array α)(os:Array Obj){k:Nat}(hk:k≠blk)(hs:k<w.heap.size):(sortWorld enc w blk off m dk os).heap[k]?=w.heap[k]?:=by simp only[sortWorld,grow,putRow,mapBlock,Sort.ahead];rw[ack (by simpa using hs),Array.getElem?_modify,if_neg (fun h=>hk h.symm)]
theorem jT (w:World)(blk off m:Nat)(dk:Array α)(os:Array Obj){c:Array Value}{e:TypeId}{fr:Nat×Nat}(h:w.heap[blk]?=some (.cells c e fr)):(sortWorld enc w blk off m dk os).heap[blk]?=some (.cells (putCells enc off dk c) e fr):=by have hs:=(abn.1 h).1;simp only[sortWorld,grow,putRow,mapBlock,Sort.ahead];rw[ack (by simpa using hs),Array.getElem?_modify,if_pos rfl,h];rfl
theorem rz {w:World}(h:Below w.heap.size w w'):∃q os,w'=grow (w.drewN q) os:=by
 refine⟨w'.drawn-w.drawn,w'.heap.extract w.heap.size w'.heap.size,?_⟩;have hheap:w'.heap=w.heap++w'.heap.extract w.heap.size w'.heap.size:=by
  apply Array.ext_getElem?;intro k;rcases aa9 k w.heap.size with hk|hk
  ·rw[ack hk,h.block k hk]
  ·rw[Array.getElem?_append_right hk,Array.getElem?_extract];have:=h.size;split
   ·congr 1;omega
   ·rw[acF];omega
 have hd:=h.drawn trivial;obtain⟨h1,h2,h3,_,_⟩:=h.toBelow;cases w';simp only[grow,World.drewN] at *
 congr
 omega
end
section
variable {P:Program} {w0:Fr}{M0:Nat→Prop}
variable {o:Oper} {s:St}{x y:Operand}{T T' e:TypeId}{c:fX}{id t:Nat}
theorem BY {α:Type}(f:α→Value):∀l:List α,flat (l.map fun z=>AV.sc (f z))=l.map fun z=>.sc (f z)
 | []=>rfl
 | a :: r => by
   have ih:=BY f r;simp only[flat,abx,abQ,AV.cells,acg,abH] at ih ⊢;rw[ih]
end
section
variable {P:Program} {w0:Fr}{M0:Nat→Prop}{s:St}
theorem Gr (b j K:Nat)(e eb:TypeId){cs:List SV}(ae:∀b,M0 b→b<w0.w.heap.size)(hnd:Nodup s.s=true)(hb:(s.cK true K (.arr e [])).o.lookup b=some (.box eb cs))(hj:cs[j]?=some (.v .pl (.sc (.slice none 0 0))))
  (hnd':Nodup (s.cK true K (.arr e [])).s=true):fm P w0 M0 s ((s.cK true K (.arr e [])).cK false b (.box eb ((de b cs).set j (.own K)))):=by
 rintro a w ⟨E,hs⟩;have h1:=hs.ov (t:=K) (e:=e) (xs:=[]) (v:=.slice none 0 0) hnd ae (w':=w) ⟨rfl,rfl,rfl,aaD _,fun _ _ _=>rfl⟩ (fun _=>aaD _) (vals:=[]) (World.ownsRow_nil w _ _ _) (fun b hb=>by cases hb) (fun x hx=>by cases hx) (fun j d hd=>by simp[flat] at hd);generalize hE1:({ E with cur:=fun i=>if i=K then .slice none 0 0 else E.cur i }:Env)=E1 at h1;have hc:E1.cur K=.slice none 0 0:=by rw[←hE1];simp
 refine⟨E1,h1.cK false (fun _=>⟨rfl,.inr (.inl ⟨eb,cs,_,hb,rfl⟩)⟩) hnd' ae (fun i hi=>⟨rfl,rfl⟩) (.inr J) none ⟨rfl,rfl,rfl,aaD _,fun _ _ _=>rfl⟩ (fun _=>aaD _) (fun g hg=>by cases hg) (fun b' hb'=>.inl ⟨_,hb,hb'⟩) (fun rep sv=>?_)⟩;obtain⟨vals,g1,g2,g3,g4⟩:=h1.wok.objs b _ hb;refine⟨vals,g1,g2,by simpa[de] using g3,fun i d hd=>?_⟩;by_cases hi:j=i
 ·subst hi;have hjl:j<cs.length:=(aa0.1 hj).1;rw[ab9 (by simpa[de] using hjl)] at hd;simp only[aaB] at hd;subst hd;have:=g4 j _ hj;refine⟨rfl,this.2.1,fun e' xs' _=>?_⟩;rw[hc];have h5:bL w _ (vals.getD j undef) (.sc (.slice none 0 0)):=this.2.2;generalize vals.getD j undef=u at h5 ⊢;cases h5;rfl
 ·rw[ace hi] at hd;simp only[de,aaI,aaH] at hd;obtain⟨d0,hd0,rfl⟩:=hd;have:=g4 i d0 hd0;split
  ·exact⟨this.1,this.2.1,sv _ _ this.2.2 ‹_›⟩
  ·exact⟨rfl,this.2.1,trivial⟩
theorem bN {y:Code}{Q:Exit→St→Prop}(b j K:Nat)(e eb:TypeId){cs:List SV}(ae:∀b,M0 b→b<w0.w.heap.size)(hnd:Nodup s.s=true)(hb:(s.cK true K (.arr e [])).o.lookup b=some (.box eb cs))(hj:cs[j]?=some (.v .pl (.sc (.slice none 0 0))))
  (hnd':Nodup (s.cK true K (.arr e [])).s=true)(h:aw P w0 M0 y ((s.cK true K (.arr e [])).cK false b (.box eb ((de b cs).set j (.own K)))) Q):aw P w0 M0 y s Q :=
 aw.imp (Gr b j K e eb ae hnd hb hj hnd') h
end
section
variable {P:Program} {w0:Fr}{M0:Nat→Prop}{s:St}
variable {o:Oper} {ρ:Operand→Option SV}{ob:List (Nat×Ob)}{x y z:Operand}{T e:TypeId}{k:Nat}{xs:List AV}{id:Nat}
theorem bA {c:fX}{b b':Bool}(h:Pure P w0 M0 o ρ ob (.v c (bool b)))(e:b=b'):Pure P w0 M0 o ρ ob (.v c (bool b')):=by subst e;exact h
theorem gn {c:fX}{b b':Bool}
  (ho:o.op=.call { callee:=.value cx,args:=args,argTypes:=ats })(hc:ρ cx=some (.v c (.clo f caps)))(ha:jl ρ ob args.toList=some ds)(h:au P f (ds++caps) (.p (bool b)))
  (ae:∀b,M0 b→b<w0.w.heap.size)(e:b=b'):Pure P w0 M0 o ρ ob (.v .pl (bool b')):=by
 subst e;exact cg ho hc ha h ae
theorem ie {j:Int}(ho:o.op=.slice T x none (some z) none)(hT:P.underlying T=some (.slice e))(hk:bX P e=some k)(hx:ρ x=some (.own id))(hl:ob.lookup id=some (.arr e xs))(hz:bg ρ z=some (.int q' j))(h:0≤j∧j≤xs.length) :
  Pure P w0 M0 o ρ ob (.vsl id 0 j.toNat) :=
 aJ fun E w ev hw hh=>by
  have hr:=hh x _ hx e xs hl;have hz':=bZ hh hz;obtain⟨vals,⟨hown,hownF⟩,h2,h3⟩:=hw.objs id _ hl;have hu:∃a cap,E.cur id=.slice a xs.length cap∧xs.length≤cap:=by
   rcases hown.2 with⟨hv,hn⟩|⟨g,cap,cur,hv,hgb,hh,hnc,_⟩
   ·exact⟨none,0,by rw[hv,hn],adh⟩
   ·exact⟨_,cap,hv,hnc⟩
  obtain⟨a,cap,hv,hc⟩:=hu;have hrun:(Instr.slice T (.slice a xs.length cap) none (some (.int q' j)) none).run P w=.ok (sliced a 0 j.toNat cap k) w:=by
   have hj:0≤j∧j≤(cap:Int):=adh;simp[Instr.slice,run_underlying hT,Instr.sliceBounds,run_sliceBound,hj,dE hk,sliced]
  have hel:P.elem T=e:=by simp[Program.elem,hT]
  refine⟨sliced a 0 j.toNat cap k,w,?_,.refl _ _,fun e' xs' hl'=>?_⟩
  ·simp only[execOp,ho,hr,hv,hz',abu,Option.map_none,Sem.run_bind,run_sliceAt_slice (P:=P) (w:=w) T _ _ _ _ (by rw[hel];exact hT),hrun,Result.andThen_ok,Sem.run_pure]
  ·rw[hl] at hl';simp only[aaB,Ob.arr.injEq] at hl';obtain⟨rfl,rfl⟩:=hl';exact⟨adh,a,_,cap,hv,by rw[cQ hk,abL]⟩
theorem JS (a:Addr):a.add 0=a:=by
 unfold Addr.add
 (repeat' split)<;>simp_all
theorem ba.DO {E:Env}{w:World}{t:Nat}{d:SV}(h:ba P w0 M0 E s a w)(ht:t<s.n)(hv:bm P M0 w E s.o (a.tmps.getD t undef) d):ba P w0 M0 E (s.put t d) a w:=by
 refine⟨h.size,h.defers,fun u e he=>?_,h.wok⟩;simp only[St.put] at he ⊢;rw[aC] at he;split at he
 ·rename_i hu;subst hu;simp only[aaB] at he;subst he;exact⟨ht,hv⟩
 ·exact h.slots u e he
theorem JT {t:Nat}(ht:s.s.lookup t=some (.vsl id 0 n))(hl:s.o.lookup id=some (.arr e xs))(ae:∀b,M0 b→b<w0.w.heap.size)(hnd:Nodup s.s=true):fm P w0 M0 s ((s.cK true id (.arr e (xs.take n))).put t (.own id)):=by
 rintro a w ⟨E,hs⟩;obtain⟨htn,hsv⟩:=hs.slots t _ ht;obtain⟨hle,ad,len,cap,hc,hv⟩:=hsv e xs hl;rw[abL] at hle;obtain⟨vals,⟨h1,hownF⟩,h2,h3⟩:=hs.wok.objs id _ hl;have hv':a.tmps.getD t undef=.slice ad n cap:=by
  rw[hv];unfold sliced;simp only[Nat.zero_mul,abL,acE,Value.slice.injEq,and_true];cases ad with
  | none=>simp
  | some p=>split<;>simp[JS]
 have hob:(Value.slice ad n cap).ownBlock=(E.cur id).ownBlock:=by rw[hc];cases ad<;>rfl
 have hmul:n*P.cellsOf e≤xs.length*P.cellsOf e:=abR _ hle;have hown:w.ownsRow 0 e (P.cellsOf e) (.slice ad n cap) (xs.take n).length (vals.take (n*P.cellsOf e)):=by
  obtain⟨hvl,hform⟩:=h1;refine⟨by rw[aaO,aaO,acN adh,acN hle],?_⟩;have hxl:(xs.take n).length=n:=by simp;omega
  rw[hxl];rcases hform with⟨hv0,hn0⟩|⟨g,cap',cur,hv0,hgb,hh,hnc,hcm,hcs,htake⟩
  ·rw[hv0] at hc;simp only[Value.slice.injEq] at hc;obtain⟨rfl,rfl,rfl⟩:=hc;exact .inl ⟨by rw[show n=0 by omega],adh⟩
  ·rw[hv0] at hc;simp only[Value.slice.injEq] at hc;obtain⟨rfl,rfl,rfl⟩:=hc;refine .inr ⟨g,cap',cur,rfl,hgb,hh,adh,hcm,hcs,?_⟩;rw[←htake,List.take_take,acN hmul]
 have h4:=hs.cK (E':={ E with cur:=fun i=>if i=id then .slice ad n cap else E.cur i }) (w':=w) (id:=id) (ob':=.arr e (xs.take n)) true (fun h=>by cases h) hnd ae (fun j hj=>⟨by simp[hj],rfl⟩) (.inr rfl) none ⟨rfl,rfl,rfl,aaD _,fun _ _ _=>rfl⟩ (fun _=>aaD _) (fun g hg=>by cases hg) (fun b hb=>.inl ⟨_,hl,by
   simp only[bG,if_true] at hb ⊢;rw[←hob];exact hb⟩) (fun rep _=>?_)
 ·exact⟨_,h4.DO (by simpa[St.cK] using htn) (by rw[hv'];exact fp)⟩
 ·refine⟨vals.take (n*P.cellsOf e),⟨by simp only[if_true];exact hown,fun b hb=>hownF b (by simp only[if_true] at hb;rw[←hob];exact hb)⟩,fun x hx=>h2 x (abO hx),fun j d hd=>?_⟩;have hjx:(flat xs)[j]?=some d:=by
   rw[←abU n xs,gh,aa8 (aa0.1 hd).1];exact hd
  have hjl:j<n*P.cellsOf e:=by
   have h4:=(aa0.1 hd).1;rw[bQ _ (fun x hx=>h2 x (abO hx)),aaO,acN hle] at h4;exact h4
  have:=h3 j d hjx;refine⟨this.1,?_⟩;have h6:=rep .pl _ _ this.2 (by simp);rw[aax] at h6;rw[aax,abo,if_pos hjl];exact h6
theorem pF {ops:Array Oper}{Q:St→Prop}{l':List Oper}(t:Nat)(ht:s.s.lookup t=some (.vsl id 0 n))(hl:s.o.lookup id=some (.arr e xs))(ae:∀b,M0 b→b<w0.w.heap.size)(hnd:Nodup s.s=true)(h:kn P w0 M0 ops Q l' ((s.cK true id (.arr e (xs.take n))).put t (.own id))):kn P w0 M0 ops Q l' s :=
 kn.imp (JT ht hl ae hnd) h
end
end Go.Am
