/-
  Part of the proof.
-/
import Derived.Test.YtlapahnodhmcpaaGreatJ0
import Derived.Test.YtlapahnodhmcpaaGreatJ3
set_option linter.unusedVariables false
set_option linter.unusedSectionVars false
set_option linter.unusedSimpArgs false
set_option maxRecDepth 100000
set_option maxHeartbeats 40000000
namespace Go.Am
open Go.RowKit
def iK (P:Program)(e:TypeId)(k b:Nat):Bool :=
 match P.info? e with
 | some i=>Nat.beq i.size k&&Nat.beq i.bytes b&&Nat.blt 0 k&&(match i.zero with|some z=>Nat.beq z.cells.size k|none=>false)
 | none=>false
theorem gJ {P:Program}{e:TypeId}{k b:Nat}(h:iK P e k b=true):∃i z,P.info? e=some i∧i.zero=some z∧i.size=k∧i.bytes=b∧z.cells.size=k∧0<k∧P.cellsOf e=k:=by
 unfold iK at h;split at h
 ·rename_i i hi;simp only[aax] at h;obtain⟨⟨⟨h1,h2⟩,h3⟩,h4⟩:=h;split at h4
  ·rename_i z hz;exact⟨i,z,hi,hz,aa7 h1,aa7 h2,aa7 h4,by simpa using h3,by unfold Program.cellsOf;rw[hi];exact aa7 h1⟩
  ·cases h4
 ·cases h
theorem gg (xs ys:List AV):flat (xs++ys)=flat xs++flat ys:=by simp[flat]
variable{w:World}{v:Value}{ds:List AV}
section
variable {P:Program} {w0:Fr}{M0:Nat→Prop}
def Src (P:Program)(w0:Fr)(M0:Nat→Prop)(s:St)(y:Operand)(k:Nat)(ys:List AV):Prop :=
 ∀ E a w, ba P w0 M0 E s a w → ∃ (A : Option Addr) (n c : Nat) (vals : List Value), a.eval y = .slice A n c ∧ ys.length = n ∧ vals.length = n * k ∧
   (0<n→∃ad,A=some ad∧∀(j:Nat) u,vals[j]?=some u→w.cell? (ad.add j)=some u)∧(∀x∈ys,(AV.cells x).length=k) ∧
   ∀(j:Nat) d,(flat ys)[j]?=some d→AV.leaf d=true∧bJ w (cB M0 (owned E s.o) .pl) (vals.getD j undef) d
theorem r4 {M:Nat→Prop}{ys:List AV}{k:Nat}(hr:bJ w M v (.sl ys))(hk:∀x∈ys,(AV.cells x).length=k) :
   ∃(A:Option Addr)(n c:Nat)(vals:List Value),v=.slice A n c∧ys.length=n∧vals.length=n*k ∧
   (0<n→∃ad,A=some ad∧∀(j:Nat) u,vals[j]?=some u→w.cell? (ad.add j)=some u) ∧
   ∀(j:Nat) d,(flat ys)[j]?=some d→AV.leaf d=true∧bJ w M (vals.getD j undef) d:=by
 cases hr with
 | sl a n cap _ k' cv hn hc hk' hb hl hr =>
   refine⟨a,n,cap,(List.range (n*k)).map cv,rfl,hn,by simp,fun h0=>?_,fun j d hd=>⟨hl j d hd,?_⟩⟩
   · have hkk : k' = k := by
       cases ys with
       | nil=>simp at hn;omega
       | cons x r=>rw[←hk x aaq,hk' x aaq]
     subst hkk;obtain⟨b,o,rfl,_,_,hcell⟩:=hb h0;refine⟨_,rfl,fun j u hu=>?_⟩;rw[aap] at hu;rcases aaK j (n*k') with hj|hj
     · rw [abr hj] at hu
       simp only[aa3,aaj] at hu;rw[Addr.add_lit,hcell j hj,hu]
     · rw [aaR (by simpa using hj)] at hu
       cases hu
   · have hlt : j < n * k := by
       have:=bO ys hk;rw[hn] at this;rw[←this];exact(aaz.1 hd).1
     rw[aag,aap,abr hlt];exact hr j d hd
theorem cI {s:St}{y:Operand}{k:Nat}{ys:List AV}(hy:viewAt s.ev s.o y=some (.pl,.sl ys))(hk:∀x∈ys,(AV.cells x).length=k):Src P w0 M0 s y k ys:=by intro E a w hs;obtain⟨A,n,c,vals,h1,h2,h3,h4,h5⟩:=r4 (cz hs.wok (fun x e hx=>hs.ev hx) hy) hk;exact⟨A,n,c,vals,h1,h2,h3,h4,hk,h5⟩
theorem SN {s:St}{y:Operand}{c:fW}{k:Nat}{ys:List AV}(hy:viewAt s.ev s.o y=some (c,.sl ys))(hk:∀x∈ys,(AV.cells x).length=k)(hsc:∀d∈flat ys,∃v,d=.sc v):Src P w0 M0 s y k ys:=by intro E a w hs;obtain⟨A,n,c,vals,h1,h2,h3,h4,h5⟩:=r4 (cz hs.wok (fun x e hx=>hs.ev hx) hy) hk;refine⟨A,n,c,vals,h1,h2,h3,h4,hk,fun j d hd=>⟨(h5 j d hd).1,?_⟩⟩;have h6:=(h5 j d hd).2;obtain⟨v,rfl⟩:=hsc d (aaW hd);generalize vals.getD j undef=u at h6;cases h6;exact .sc _ ‹_›
theorem PC {s:St}{y:Operand}{id:Nat}{e:TypeId}{k:Nat}{ys:List AV}(hy:s.ev y=some (.own id))(hl:s.o.lookup id=some (.arr e ys))(hk:bY P e=some k):Src P w0 M0 s y k ys:=by
 intro E a w hs;have hob:=hs.wok.objs id _ hl;have hv:=(hs.ev hy) e ys hl;obtain⟨vals,⟨h1,hownF⟩,h2,h3⟩:=hob;have hck:=cL hk;rw[hck] at h1 h2;obtain⟨A,n,c,vals',g1,g2,g3,g4,g5⟩:=r4 (k:=k) ((hs.wok.objs id _ hl).rep (M:=fun _=>False) (fun b hb=>hb.elim) (fun g _ hf=>hf.elim)) h2;rw[hv,g1];refine⟨A,n,c,vals,rfl,g2,by rw[h1.1,g2],fun h0=>?_,h2,h3⟩;obtain⟨ad,hA,_⟩:=g4 h0;subst hA;refine⟨ad,rfl,fun j u hu=>?_⟩;rcases h1.2 with⟨hn,_⟩|⟨g,cap,cur,hn,_⟩
 ·rw[g1] at hn;cases hn
 ·rw[g1] at hn;simp only[Value.slice.injEq,aaj] at hn;rw[hn.1];exact h1.cells (g:=g) (by rw[g1,hn.1];rfl) j u hu
theorem ba.ox {E:Env}{s:St}{a:Act}{w':World}{t:Nat}{e:TypeId}{xs:List AV}{vals:List Value}(h:ba P w0 M0 E s a w)(hnd:Nodup s.s=true)(aa:∀b,M0 b→b<w0.w.heap.size)
   (hg:w.grownBy w' none)(hdr:w0.dr→w.drawn≤w'.drawn)(hown:w'.ownsRow 0 e (P.cellsOf e) v xs.length vals)(hblk:∀b,v.ownBlock=some b→w.heap.size≤b)(hk:∀x∈xs,(AV.cells x).length=P.cellsOf e)
   (hr:∀(j:Nat) d,(flat xs)[j]?=some d→AV.leaf d=true∧(bJ w (cB M0 (owned E s.o) .pl) (vals.getD j undef) d∨bJ w' (fun b=>b<w.heap.size∨v.ownBlock=some b) (vals.getD j undef) d)) :
   ba P w0 M0 { E with cur:=fun i=>if i=t then v else E.cur i } (s.cC true t (.arr e xs)) a w':=by
 refine h.cC true (fun h=>by cases h) hnd aa (fun i hi=>⟨by simp[hi],rfl⟩) (.inr J) none hg hdr (fun g hg=>by cases hg) (fun b hb=>.inr ?_) (fun rep _=>?_)
 · simp only [bE, if_true] at hb
   exact hblk b hb
 · refine ⟨vals, ⟨by simpa using hown, fun b hb => h.wok.hJ aa (hblk b (by simpa using hb))⟩, hk, fun j d hd => ⟨(hr j d hd).1, ?_⟩⟩
   rcases(hr j d hd).2 with h1|h1
   · exact rep .pl _ _ h1 (by simp)
   · refine h1.cd fun b hb => ?_
     rcases hb with hb|⟨i,ob,h3,h4⟩
     · have:=aa b hb;have:=h.wok.below.size;exact .inl acK
     · by_cases hi : i = t
       · subst hi
         rw[ax,if_pos rfl] at h3;simp only[aaj] at h3;subst h3;simp only[bE,if_true] at h4;exact .inr h4
       · rw [ax, if_neg hi, cr, aao] at h3
         obtain⟨ob0,h5,rfl⟩:=h3;refine .inl (h.wok.bF ⟨i,ob0,h5,?_⟩).2;have h4:=iB.1 h4;cases ob0<;>simp only[bE,hi,if_false] at h4 ⊢<;>exact h4
theorem ff {E:Env}{o:List (Nat×Ob)}{t:Nat}{e:TypeId}{xs:List AV}:bm P M0 w { E with cur:=fun i=>if i=t then v else E.cur i } (ins t (.arr e xs) o) v (.own t):=by intro e' xs' _;simp
variable {o:Oper} {s:St}{t id:Nat}{x y:Operand}{T e:TypeId}{k b:Nat}{xs ys:List AV}
theorem step_append (ho:o.op=.call { callee:=.builtin .append,args:=#[x,y],argTypes:=#[T,T] })(hd:o.dst=some t)(hn:Nat.blt t s.n=true)(hnd:Nodup s.s=true)
   (hT:P.underlying T=some (.slice e))(hel:iK P e k b=true)(hx:s.ev x=some (.own id))(hl:s.o.lookup id=some (.arr e xs))(aa:∀b,M0 b→b<w0.w.heap.size)
   (hy:Src P w0 M0 s y k ys)(hb:(xs.length+ys.length)*b≤140737488355328)(hm:xs.length+ys.length≤4611686018427387904):Step P w0 M0 o s ((s.cC true id (.arr e (xs++ys))).put t (.own id)):=by
 rintro a w Q ⟨E,hs⟩;obtain⟨i,z,hi,hz,hsz,hby,hzs,hk0,hck⟩:=gJ hel;obtain⟨vals0,⟨hown,hownF⟩,hxk,hxr⟩:=hs.wok.objs id _ hl;obtain⟨A,n,c,vals,hev,hyn,hvl,hcell,hyk,hyr⟩:=hy E a w hs;have hex:=hs.ev hx e xs hl;rw[hck] at hown hxk;have hfy:=bO ys hyk;have hone:∀u∈vals,u.oneCell'=true:=by
   intro u hu;obtain⟨j,hj,rfl⟩:=abd hu;have hjf:j<(flat ys).length:=by rw[hfy,hyn,←hvl];exact hj
   have:=hyr j (flat ys)[j] (aal hjf);have h2:=this.2.one this.1;rwa [aag,aal hj] at h2
 have run:∃v' w',(Builtin.append_ #[T,T] o.type #[E.cur id,.slice A n c]).run P w=.ok v' w'∧w'.ownsRow 0 e k v' (xs.length+n) (vals0++vals)∧w.grownBy w' (E.cur id).ownBlock ∧
     (v'.ownBlock=(E.cur id).ownBlock∨v'.ownBlock=some w.heap.size):=by
   rcases aby n with h0|h0
   · subst h0
     have hv0:vals=[]:=aaD (by simpa using hvl);subst hv0;refine⟨E.cur id,w,?_,by simpa using hown,⟨rfl,rfl,rfl,aak _,fun _ _ _=>rfl⟩,.inl J⟩;have hfc:(Builtin.firstCells i.size 0 (.slice A 0 c)).run P w=.ok #[] w:=by
       cases A<;>simp[Builtin.firstCells,loadCells,loadCellsFrom]
     rcases hown.2 with⟨hv,_⟩|⟨g,cap,cur,hv,_,_,hnc,_⟩
     · rw [hv]
       simp[Builtin.append_,run_underlying hT,sizeOf,typeInfo,hi,Builtin.lenOf,hfc]
     · rw [hv]
       simp[Builtin.append_,run_underlying hT,sizeOf,typeInfo,hi,Builtin.lenOf,hfc,hnc,storeCells]
   · obtain ⟨ad, rfl, hcell'⟩ := hcell h0
     obtain⟨v',w',h1,h2,h3,_,h5⟩:=run_append_own_at (P:=P) w 0 T o.type e i z k b hT hi hz hsz hby hzs hk0 (E.cur id) xs.length vals0 hown ad n c vals hvl hcell' hone
       (by simp only[maxLen];omega) (by rw[←hyn];exact hb) (aan _)
     exact⟨v',w',h1,h2,h3,h5⟩
 obtain⟨v',w',hrun,hown',hg,hblk⟩:=run;unfold Oper.wp;have hexec:(execOp a.eval o).run P w=.ok (.value v') w':=by
   simp[execOp,ho,resolve,invoke,builtin,hex,hev,hrun]
 rw[hexec];simp only[Oper.upon,hd];refine⟨{ E with cur:=fun i=>if i=id then v' else E.cur i },ba.put ?_ (by simpa[St.cC] using hn) ff⟩;refine hs.cC true (fun h=>by cases h) hnd aa (fun j hj=>⟨by simp[hj],rfl⟩) (.inr J) (E.cur id).ownBlock hg (fun _=>lQ _ _ _ _ hrun) (fun g hg=>⟨_,hl,hg⟩) (fun b hb=>?_) (fun rep _=>?_)
 · simp only [bE, if_true] at hb
   rcases hblk with h1|h1
   · exact .inl ⟨_,hl,by rw[h1] at hb;exact hb⟩
   · rw[h1] at hb;simp only[aaj] at hb;exact .inr acK
 · have hfx := bO xs hxk
   refine⟨vals0++vals,?_,?_,fun j d hd=>?_⟩
   · refine ⟨by simp only [if_true, hck, aar, hyn]; exact hown', fun b hb => ?_⟩
     simp only[if_true] at hb;rcases hblk with h1|h1
     · exact hownF b (h1 ▸ hb)
     · rw[h1] at hb;simp only[aaj] at hb;exact hs.wok.hJ aa acK
   · rw [hck]; intro u hu
     rcases aaU.1 hu with h|h
     · exact hxk u h
     · exact hyk u h
   · have hl0 : vals0.length = (flat xs).length := by rw [hfx, hown.1]
     rw[gg] at hd;rcases aaK j (flat xs).length with hj|hj
     · rw [aaH hj] at hd
       have:=hxr j d hd;refine⟨this.1,?_⟩;rw[aag,aaH acK,←aag];exact rep .pl _ _ this.2 (by simp)
     · rw [aaE hj] at hd
       have:=hyr _ d hd;refine⟨this.1,?_⟩;rw[aag,aaE acK,hl0,←aag];exact rep .pl _ _ this.2 (by simp)
theorem LC (ho:o.op=.assign x)(hd:o.dst=some t)(hn:Nat.blt t s.n=true)(hnd:Nodup s.s=true)(hx:aZ s.ev x=some (.slice none 0 0))(e:TypeId)(aa:∀b,M0 b→b<w0.w.heap.size) :
  Step P w0 M0 o s ((s.cC true t (.arr e [])).put t (.own t)):=by
 rintro a w Q ⟨E,hs⟩;have hv:a.eval x=.slice none 0 0:=bK (ρ:=s.ev) (x:=x) (ob:=s.o) (ev:=a.eval) (fun x e hx=>hs.ev hx) hx;unfold Oper.wp;have hexec:(execOp a.eval o).run P w=.ok (.value (.slice none 0 0)) w:=by simp[execOp,ho,hv]
 rw[hexec];simp only[Oper.upon,hd];refine⟨{ E with cur:=fun i=>if i=t then .slice none 0 0 else E.cur i },ba.put ?_ (by simpa[St.cC] using hn) ff⟩;exact hs.ox hnd aa ⟨rfl,rfl,rfl,aak _,fun _ _ _=>rfl⟩ (fun _=>aak _) (vals:=[]) (World.ownsRow_nil w _ _ _) (fun b hb=>by cases hb) (fun x hx=>by cases hx) (fun j d hd=>by simp[flat] at hd)
theorem wh (ho:o.op=.call { callee:=.builtin .append,args:=#[x,y],argTypes:=#[T,T] })(hd:o.dst=some t)(hn:Nat.blt t s.n=true)(hnd:Nodup s.s=true)
   (hT:P.underlying T=some (.slice e))(hel:iK P e k b=true)(hx:aZ s.ev x=some (.slice none 0 0))(aa:∀b,M0 b→b<w0.w.heap.size)
   (hy:Src P w0 M0 s y k ys)(hb:ys.length*b≤140737488355328)(hm:ys.length≤4611686018427387904):Step P w0 M0 o s ((s.cC true t (.arr e ys)).put t (.own t)):=by
 rintro a w Q ⟨E,hs⟩;obtain⟨i,z,hi,hz,hsz,hby,hzs,hk0,hck⟩:=gJ hel;obtain⟨A,n,c,vals,hev,hyn,hvl,hcell,hyk,hyr⟩:=hy E a w hs;have hex:a.eval x=.slice none 0 0:=bK (ρ:=s.ev) (x:=x) (ob:=s.o) (ev:=a.eval) (fun x e hx=>hs.ev hx) hx;have hfy:=bO ys hyk;have hone:∀u∈vals,u.oneCell'=true:=by
   intro u hu;obtain⟨j,hj,rfl⟩:=abd hu;have hjf:j<(flat ys).length:=by rw[hfy,hyn,←hvl];exact hj
   have:=hyr j (flat ys)[j] (aal hjf);have h2:=this.2.one this.1;rwa [aag,aal hj] at h2
 have run:∃v' w',(Builtin.append_ #[T,T] o.type #[.slice none 0 0,.slice A n c]).run P w=.ok v' w'∧w'.ownsRow 0 e k v' n vals∧w.grownBy w' none∧(∀b,v'.ownBlock=some b→w.heap.size≤b):=by
   rcases aby n with h0|h0
   · subst h0
     have hv0:vals=[]:=aaD (by simpa using hvl);subst hv0;refine⟨.slice none 0 0,w,?_,World.ownsRow_nil w _ _ _,⟨rfl,rfl,rfl,aak _,fun _ _ _=>rfl⟩,fun b hb=>by cases hb⟩;have hfc:(Builtin.firstCells i.size 0 (.slice A 0 c)).run P w=.ok #[] w:=by
       cases A<;>simp[Builtin.firstCells,loadCells,loadCellsFrom]
     simp[Builtin.append_,run_underlying hT,sizeOf,typeInfo,hi,Builtin.lenOf,hfc]
   · obtain ⟨ad, rfl, hcell'⟩ := hcell h0
     obtain⟨v',w',h1,h2,h3,_,h5⟩:=run_append_own_at (P:=P) w 0 T o.type e i z k b hT hi hz hsz hby hzs hk0 (.slice none 0 0) 0 [] (World.ownsRow_nil w _ _ _) ad n c vals hvl hcell' hone
       (by simp only[maxLen];omega) (by rw[←hyn,abg];exact hb) (aan _)
     refine⟨v',w',h1,by simpa using h2,h3,fun b hb=>?_⟩;rcases h5 with h5|h5
     · rw[h5] at hb;cases hb
     · rw[h5] at hb;simp only[aaj] at hb;omega
 obtain⟨v',w',hrun,hown',hg,hblk⟩:=run;unfold Oper.wp;have hexec:(execOp a.eval o).run P w=.ok (.value v') w':=by
   simp[execOp,ho,resolve,invoke,builtin,hex,hev,hrun]
 rw[hexec];simp only[Oper.upon,hd];refine⟨{ E with cur:=fun i=>if i=t then v' else E.cur i },ba.put ?_ (by simpa[St.cC] using hn) ff⟩;exact hs.ox hnd aa hg (fun _=>lQ _ _ _ _ hrun) (vals:=vals) (by rw[hck,hyn];exact hown') hblk (by rw[hck];exact hyk) (fun j d hd=>⟨(hyr j d hd).1,.inl (hyr j d hd).2⟩)
theorem nq {cx:Operand}{args:Array Operand}{ats:Array TypeId}{c:fW}{f:FuncId}{caps:List AV}
   (ho:o.op=.call { callee:=.value cx,args:=args,argTypes:=ats })(hd:o.dst=some t)(hn:Nat.blt t s.n=true)(hnd:Nodup s.s=true)(hc:s.ev cx=some (.v c (.clo f caps)))(ha:jg s.ev s.o args.toList=some ds)(h:ak P f (ds++caps) (.fresh e xs))
   (aa:∀b,M0 b→b<w0.w.heap.size):Step P w0 M0 o s ((s.cC true t (.arr e xs)).put t (.own t)):=by
 rintro a w Q ⟨E,hs⟩;have hcv:=hs.ev hc;simp only[bm] at hcv;generalize hq:a.eval cx=q at hcv;cases hcv with
 | clo _ vs _ hnc hr =>
   have hv:=l5 hs.wok (fun x e hx=>hs.ev hx) _ _ ha;unfold Oper.wp;rw[fE ho hq h.1];simp only[Oper.upon];have hall:=h.2 w (args.toList.map a.eval++vs) (by simp[hv.1,hnc]) (fun j d hd=>?_)
   · have e1 : (args.toList.map a.eval ++ vs).toArray = args.map a.eval ++ vs.toArray := by apply ab1 ; simp
     rw[e1] at hall;refine hall.mono fun e' w' ⟨v,he,hb,hrv⟩=>?_
     subst he;obtain⟨vals,h1,h2,h3⟩:=hrv;simp only[hd];refine⟨{ E with cur:=fun i=>if i=t then v else E.cur i },ba.put ?_ (by simpa[St.cC] using hn) ff⟩;refine hs.ox hnd aa (dy hb) (fun _=>hb.drawn trivial) (vals:=vals) ?_ (fun b hb=>acn (h1.2 b hb)) h2 (fun j d hd=>⟨(h3 j d hd).1,.inr (h3 j d hd).2⟩);exact h1.1
   · rw [aag]
     rcases aaK j ds.length with hlt|hge
     · rw [aaH hlt] at hd
       have:=hv.2 j d hd;rw[aaH (by simp[hv.1];omega)];rwa [aag] at this
     · rw [aaE hge] at hd
       have:=hr _ d hd;rw[aaE (by simp[hv.1];omega)];simp only[aai,hv.1];rw[aag] at this;exact this.cd (fun b hb=>hb.elim)
end
open Go.Great
def fW.max:fW→fW→fW
 | .pl,c=>c
 | .mx,.pl=>.mx
 | .mx,c=>c
 | .vw,_=>.vw
theorem qL {M0 own:Nat→Prop}(c c':fW)(b:Nat)(h:cB M0 own (c.max c') b):cB M0 own c b:=by cases c<;>cases c'<;>simp_all [fW.max,cB]
theorem qM {M0 own:Nat→Prop}(c c':fW)(b:Nat)(h:cB M0 own (c.max c') b):cB M0 own c' b:=by cases c<;>cases c'<;>simp_all [fW.max,cB]
def zeroOf (P:Program)(t:TypeId):Option (List Value):=((P.info? t).bind (·.zero)).map (·.cells.toList)
def placesOf (P:Program)(t:TypeId):Option (List (Nat×Nat)) :=
 match P.underlying t with
 | some (.struct fields)=>fields.toList.mapM fun f=>(P.info? f.type).map fun i=>(f.offset,i.size)
 | _=>none
def Ai (places:List (Nat×Nat))(cells:List AV):List (Nat×AV)→Option (List AV)
 | []=>some cells
 | (i, d) :: r => match places[i]? with
   | none=>none
   | some (off,size)=>bif Nat.beq d.cells.length size&&Nat.ble (off+size) cells.length then Ai places (cells.take off++d.cells++cells.drop (off+size)) r else none
def SO (w:World)(M:Nat→Prop)(vs:Array Value)(ds:List AV):Prop:=vs.size=ds.length∧∀(j:Nat) d,ds[j]?=some d→AV.leaf d=true∧bJ w M (vs.getD j undef) d
theorem Dw {w:World} {M:Nat→Prop} (places:List (Nat×Nat)):∀ (parts:List (Nat×Value)) (ps:List (Nat×AV)) (vs:Array Value) (ds r:List AV),SO w M vs ds→parts.length=ps.length →
   (∀(j:Nat) i v i' d,parts[j]?=some (i,v)→ps[j]?=some (i',d)→i=i'∧bJ w M v d∧∀us,d≠.tup us)→Ai places ds ps=some r→∃vs',Instr.fill (places.toArray[·]?) vs parts=some vs'∧SO w M vs' r
 | [], ps, vs, ds, r, h, hl, hp, hf => by
   cases ps with
   | nil=>simp only[Ai,aaj] at hf;subst hf;exact⟨vs,rfl,h⟩
   | cons _ _=>simp at hl
 | (i, v) :: parts, ps, vs, ds, r, h, hl, hp, hf => by
   cases ps with
   | nil=>simp at hl
   | cons p ps =>
     obtain⟨i',d⟩:=p;obtain⟨rfl,hrep,hnt⟩:=hp 0 i v i' d rfl rfl;unfold Ai at hf;cases hpl:places[i]? with
     | none=>rw[hpl] at hf;cases hf
     | some q =>
       obtain⟨off,size⟩:=q;rw[hpl] at hf;simp only[] at hf;cases hc:(Nat.beq d.cells.length size&&Nat.ble (off+size) ds.length) with
       | false=>rw[hc] at hf;simp at hf
       | true =>
         rw[hc] at hf;simp only[cond_true] at hf;simp only[aax] at hc;have h1:=aa7 hc.1;have h2:=aah hc.2;obtain⟨g1,g2,g3⟩:=hrep.cells hnt;have hfs:=foldl_set off v.cells.toList 0 vs;have hz:(v.cells.zipIdx.foldl (fun cs (x:Value×Nat)=>cs.setIfInBounds (off+x.2) x.1) vs)=(v.cells.toList.zipIdx 0).foldl (fun cs (x:Value×Nat)=>cs.setIfInBounds (off+x.2) x.1) vs:=by
           rw[←Array.foldl_toList,Array.toList_zipIdx]
         have ih:=Dw places parts ps (v.cells.zipIdx.foldl (fun cs (x:Value×Nat)=>cs.setIfInBounds (off+x.2) x.1) vs) (ds.take off++d.cells++ds.drop (off+size)) r ?_ (by simpa using hl)
           (fun j i v i' d hj hj'=>hp (j+1) i v i' d (by simpa using hj) (by simpa using hj')) hf
         · obtain ⟨vs', e1, e2⟩ := ih
           refine⟨vs',?_,e2⟩;unfold Instr.fill;have hcnd:(v.cells.size≠size||off+v.cells.size > vs.size)=false:=by
             have e0:=h.1;simp only[ne_eq,Bool.or_eq_false_iff,decide_eq_false_iff_not,Classical.not_not];omega
           simp only[List.getElem?_toArray,hpl];rw[if_neg (by simpa using hcnd)];simpa using e1
         · rw [hz]
           have hvl:v.cells.toList.length=size:=by simp[g1,h1]
           refine⟨by rw[hfs.1,h.1];simp;omega,fun j e he=>?_⟩;rw[aaL,hfs.2 j];simp only[Nat.add_zero];rw[aaY] at he;rcases aaK j off with hj|hj
           · rw [aaH (by simp; omega), aa1, if_pos hj] at he
             rw[if_neg acK];have:=h.2 j e he;rwa [aaL] at this
           · rw [aaE (by simp; omega)] at he
             have hto:(ds.take off).length=off:=by simp;omega
             rw[hto] at he;rcases aaK (j-off) d.cells.length with hj2|hj2
             · rw [aaH hj2] at he
               rw[if_pos ⟨hj,acK,by have:=h.1;omega⟩];refine⟨g2 _ e he,?_⟩;have:=g3 _ e he;rw[aaL] at this;simpa using this
             · rw [aaE hj2, abE] at he
               rw[if_neg acK];have:=h.2 j e (by rw[←he];congr 1;omega);rwa [aaL] at this
variable{parts:Array (Nat×Operand)}{n:Nat}
section
variable {P:Program} {w0:Fr}{M0:Nat→Prop}
variable {o:Oper} {ρ:Operand→Option SV}{ob:List (Nat×Ob)}{d:SV}{x y:Operand}{T T' e:TypeId}{k b:Nat}{c:fW}
def jm:AV→Bool
 | .tup _=>false
 | _=>true
def lS (ρ:Operand→Option SV)(ob:List (Nat×Ob)):List (Nat×Operand)→Option (fW×List (Nat×AV))
 | []=>some (.pl,[])
 | (i, x) :: r => match viewAt ρ ob x, lS ρ ob r with
   | some (c,d),some (c',ds)=>bif jm d then some (c.max c',(i,d) :: ds) else none
   | _,_=>none
theorem sW {E:Env}{w:World}{ev:Operand→Value}(hw:gr P w0 M0 E ob w)(h:∀x e,ρ x=some e→bm P M0 w E ob (ev x) e):∀(l:List (Nat×Operand))(c:fW)(ps:List (Nat×AV)),lS ρ ob l=some (c,ps) →
   l.length=ps.length∧∀(j:Nat) i x i' d,l[j]?=some (i,x)→ps[j]?=some (i',d)→i=i'∧bJ w (cB M0 (owned E ob) c) (ev x) d∧∀us,d≠.tup us
 | [], c, ps, hp => by
   simp only[lS,aaj,abk] at hp;obtain⟨rfl,rfl⟩:=hp;exact⟨rfl,fun j i x i' d h=>by simp at h⟩
 | (i, x) :: r, c, ps, hp => by
   unfold lS at hp;split at hp
   · rename_i c1 d1 c2 ds h1 h2
     cases hnt:jm d1 with
     | false=>rw[hnt] at hp;cases hp
     | true =>
       rw[hnt] at hp;simp only[cond_true,aaj,abk] at hp;obtain⟨rfl,rfl⟩:=hp;obtain⟨g1,g2⟩:=sW hw h r c2 ds h2;refine⟨by simp[g1],fun j i' x' i2 d2 hj hj'=>?_⟩;cases j with
       | zero =>
         simp only[aaN,aaj,abk] at hj hj';obtain⟨rfl,rfl⟩:=hj;obtain⟨rfl,rfl⟩:=hj';exact⟨rfl,(cz hw h h1).cd (qL c1 c2),fun us hu=>by subst hu;cases hnt⟩
       | succ j =>
         have:=g2 j i' x' i2 d2 (by simpa using hj) (by simpa using hj');exact⟨this.1,this.2.1.cd (qM c1 c2),this.2.2⟩
   · cases hp
theorem aT {places:List (Nat×Nat)}{zs:List Value}{ps:List (Nat×AV)}{r:List AV}(ho:o.op=.build T parts)(hpl:placesOf P T=some places)(hz:zeroOf P T=some zs)
   (hzs:zs.all Value.oneCell'=true)(hp:lS ρ ob parts.toList=some (c,ps))(hf:Ai places (zs.map .sc) ps=some r):Pure P w0 M0 o ρ ob (.v c (.agg r)) :=
 aD fun E w ev hw h=>by
   obtain⟨g1,g2⟩:=sW hw h _ c ps hp;have hrel:SO w (cB M0 (owned E ob) c) zs.toArray (zs.map .sc):=by
     refine⟨by simp,fun j d hd=>?_⟩;rw[aap,aao] at hd;obtain⟨z,hz1,rfl⟩:=hd;refine⟨rfl,?_⟩;have:zs.toArray.getD j undef=z:=by simp[aaL,hz1]
     rw[this];exact .sc z (by rw[aaF] at hzs;exact hzs z (aaW hz1))
   obtain⟨vs',e1,e2⟩:=Dw places ((parts.toList.map fun(p:Nat×Operand)=>(p.1,ev p.2))) ps zs.toArray (zs.map .sc) r hrel (by simpa using g1) (fun j i v i' d hj hj'=>by
     rw[aap,aao] at hj;obtain⟨⟨i2,x2⟩,hj1,hj2⟩:=hj;simp only[abk] at hj2;obtain⟨rfl,rfl⟩:=hj2;exact g2 j i2 x2 i' d hj1 hj') hf
   have hrun:(Instr.build T (parts.map fun(i,x)=>(i,ev x))).run P w=.ok (.agg vs') w:=by
     apply run_build;unfold placesOf at hpl;unfold zeroOf at hz;unfold Program.built;split at hpl
     · rename_i fields hu
       cases hi:P.info? T with
       | none=>rw[hi] at hz;cases hz
       | some it =>
         rw[hi] at hz;simp only[abO,aao] at hz;obtain⟨z,hz1,hz2⟩:=hz;simp only[hu,hz1,hpl];have e0:z.cells=zs.toArray:=by rw[←hz2]
         rw[e0,acu];exact e1
     · cases hpl
   refine⟨.agg vs',w,by simp[execOp,ho,hrun],.refl _ _,?_⟩;have:=bJ.agg (w:=w) (M:=cB M0 (owned E ob) c) vs'.toList r (by simpa using e2.1) (fun j d hd=>(e2.2 j d hd).1) (fun j d hd=>by
     have:=(e2.2 j d hd).2;rwa [aaL,←aaS,←aag] at this)
   simp only[bm];simpa using this
theorem pJ {parts:List Value}{ps:Array (Nat×Value)}(hT:P.underlying T=some (.slice e))(hel:iK P e k b=true)(hps:ps.toList=(parts.zipIdx 0).map fun x=>(x.2,x.1))(hn:parts.length=n)(hc:∀v∈parts,v.cells.size=k)
  (hsm:n*k≤16777216)(hn0:0<n):(Instr.buildSlice T n ps).run P w=.ok (.slice (some ⟨w.heap.size,0,none⟩) n n) (w.alloc (.cells (parts.flatMap fun v=>v.cells.toList).toArray e)):=by
 obtain⟨i,z,hi,hz,hsz,hby,hzs,hk0,hck⟩:=gJ hel;subst hsz;have hpos:0<n*i.size:=Nat.mul_pos hn0 hk0;refine run_buildSlice (P:=P) w T e n ps _ i z hT hi hz (by simp;omega) acK ?_;rw[hps];exact fill_whole hk0 parts _ hc (by simp[hn])
theorem jQ:∀ (vs:List Value)(ds:List AV),vs.length=ds.length→(∀(j:Nat) v d,vs[j]?=some v→ds[j]?=some d→v.cells.size=d.cells.length)→(vs.flatMap fun v=>v.cells.toList).length=(flat ds).length
 | [],[],_,_=>rfl
 | [],_ :: _,h,_=>by simp at h
 | _ :: _,[],h,_=>by simp at h
 | v :: vs, d :: ds, h, hj => by
   have ih:=jQ vs ds (by simpa using h) (fun j v d h1 h2=>hj (j+1) v d (by simpa using h1) (by simpa using h2));have h0:=hj 0 v d rfl rfl;simp only[flat,abt,aar] at ih ⊢;rw[ih];simp[h0]
theorem pK {w:World}{M:Nat→Prop}:∀(vs:List Value)(ds:List AV),vs.length=ds.length→(∀(j:Nat) v d,vs[j]?=some v→ds[j]?=some d→bJ w M v d∧∀us,d≠.tup us) →
   ∀(j:Nat) d,(flat ds)[j]?=some d→AV.leaf d=true∧bJ w M ((vs.flatMap fun v=>v.cells.toList).getD j undef) d
 | [],[],_,_,j,d,hd=>by simp[flat] at hd
 | [],_ :: _,h,_,_,_,_=>by simp at h
 | _ :: _,[],h,_,_,_,_=>by simp at h
 | v :: vs, d0 :: ds, h, hj, j, d, hd => by
   have ih:=pK vs ds (by simpa using h) (fun j v d h1 h2=>hj (j+1) v d (by simpa using h1) (by simpa using h2));obtain⟨hr,hnt⟩:=hj 0 v d0 rfl rfl;obtain⟨g1,g2,g3⟩:=hr.cells hnt;simp only[flat,abt] at hd ih ⊢;rcases aaK j d0.cells.length with hlt|hge
   · rw [aaH hlt] at hd
     refine⟨g2 j d hd,?_⟩;rw[aag,aaH (by simp[g1];exact hlt)];have:=g3 j d hd;rwa [aaL,←aaS] at this
   · rw [aaE hge] at hd
     have:=ih _ d hd;refine⟨this.1,?_⟩;rw[aag,aaE (by simp[g1];exact hge)];rw[aag] at this;simpa[g1] using this.2
def mO (ρ:Operand→Option SV)(ob:List (Nat×Ob))(k:Nat):Nat→List (Nat×Operand)→Option (fW×List AV)
 | _,[]=>some (.pl,[])
 | n, (i, x) :: r => bif Nat.beq i n then match viewAt ρ ob x, mO ρ ob k (n + 1) r with
   | some (c,d),some (c',ds)=>bif jm d&&Nat.beq d.cells.length k then some (c.max c',d :: ds) else none
   | _,_=>none else none
theorem r7 {E:Env} {w:World} {ev:Operand→Value} (hw:gr P w0 M0 E ob w) (h:∀ x e,ρ x=some e→bm P M0 w E ob (ev x) e):∀ (l:List (Nat×Operand)) (n:Nat) (c:fW) (ds:List AV),mO ρ ob k n l=some (c,ds) →
   ∃ vs : List Value, (l.map fun (p : Nat × Operand) => (p.1, ev p.2)) = (vs.zipIdx n).map (fun x => (x.2, x.1)) ∧ vs.length = ds.length ∧ (∀ d ∈ ds, d.cells.length = k) ∧ (∀ v ∈ vs, v.cells.size = k) ∧
     ∀(j:Nat) v d,vs[j]?=some v→ds[j]?=some d→bJ w (cB M0 (owned E ob) c) v d∧∀us,d≠.tup us
 | [], n, c, ds, hp => by
   simp only[mO,aaj,abk] at hp;obtain⟨rfl,rfl⟩:=hp;exact⟨[],rfl,rfl,by simp,by simp,fun j v d h=>by simp at h⟩
 | (i, x) :: r, n, c, ds, hp => by
   unfold mO at hp;cases hin:Nat.beq i n with
   | false=>rw[hin] at hp;cases hp
   | true =>
     rw[hin] at hp;simp only[cond_true] at hp;obtain rfl:=aa7 hin;split at hp
     · rename_i c1 d1 c2 ds2 h1 h2
       cases hnt:(jm d1&&Nat.beq d1.cells.length k) with
       | false=>rw[hnt] at hp;cases hp
       | true =>
         rw[hnt] at hp;simp only[cond_true,aaj,abk] at hp;obtain⟨rfl,rfl⟩:=hp;simp only[aax] at hnt;have hk:=aa7 hnt.2;have hr:=cz hw h h1;have hnt':∀us,d1≠.tup us:=fun us hu=>by subst hu;cases hnt.1
         obtain⟨g1,g2,g3⟩:=hr.cells hnt';obtain⟨vs,e1,e2,e3,e4,e5⟩:=r7 hw h r (i+1) c2 ds2 h2;refine⟨ev x :: vs,by simp[e1],by simp[e2],?_,?_,fun j v d hj hj'=>?_⟩
         · intro d hd
           rcases aaC.1 hd with rfl|hd
           · exact hk
           · exact e3 d hd
         · intro v hv
           rcases aaC.1 hv with rfl|hv
           · rw[g1,hk]
           · exact e4 v hv
         · cases j with
           | zero =>
             simp only[aaN,aaj] at hj hj';subst hj;subst hj';exact⟨hr.cd (qL c1 c2),hnt'⟩
           | succ j =>
             have:=e5 j v d (by simpa using hj) (by simpa using hj');exact⟨this.1.cd (qM c1 c2),this.2⟩
     · cases hp
theorem eu (ho:o.op=.buildSlice T n parts)(hT:P.underlying T=some (.slice e))(hel:iK P e k b=true)(hp:mO ρ ob k 0 parts.toList=some (c,ds))
   (hn:ds.length=n)(hn0:Nat.blt 0 n=true)(hsm:Nat.ble (n*k) 16777216=true)(aa:∀b,M0 b→b<w0.w.heap.size):Pure P w0 M0 o ρ ob (.v c (.sl ds)) :=
 aD fun E w ev hw h=>by
   obtain⟨vs,e1,e2,e3,e4,e5⟩:=r7 hw h _ 0 c ds hp;have hrun:=pJ (P:=P) (w:=w) (n:=n) (ps:=parts.map fun(i,x)=>(i,ev x)) hT hel (by rw[acu];exact e1) (by rw[e2,hn]) e4 (aah hsm) (by simpa using hn0);refine⟨_,_,by simp only[execOp,ho,Sem.run_bind,hrun,Result.andThen_ok,Sem.run_pure];rfl,(Below.refl _ _).alloc (aak _) _,?_⟩;have hlen:=jQ vs ds e2 (fun j v d h1 h2=>((e5 j v d h1 h2).1.cells (e5 j v d h1 h2).2).1);have hrel:=pK vs ds e2 e5;have hfl:=bO ds e3;have hb:bB w0.dr w.heap.size w (w.alloc (.cells (vs.flatMap fun v=>v.cells.toList).toArray e)):=(Below.refl _ _).alloc (aak _) _;refine .sl _ n n ds k (fun j=>(vs.flatMap fun v=>v.cells.toList).getD j undef) hn (aak _) e3 (fun h0=>⟨w.heap.size,0,rfl,fun hM=>?_,by simp,fun j hj=>?_⟩) (fun j d hd=>(hrel j d hd).1) (fun j d hd=>((hrel j d hd).2).under hb)
   · cases c with
     | pl =>
       rcases hM with hM|hM
       · have:=aa _ hM;have:=hw.below.size;omega
       · have:=(hw.bF hM).2;omega
     | mx=>have:=(hw.bF hM).2;omega
     | vw=>exact hM
   · have hj' : j < (vs.flatMap fun v => v.cells.toList).length := by rw [hlen, hfl, hn]; exact hj
     rw[cell_of_row _ w.heap.size (0+j) _ e (0,0) (heap_alloc_new w _),abg];simp[aag,aal hj']
theorem LD {s:St}{t:Nat}(ho:o.op=.buildSlice T n parts)(hd:o.dst=some t)(hn:Nat.blt t s.n=true)(hnd:Nodup s.s=true)(hT:P.underlying T=some (.slice e))(hel:iK P e k b=true)
  (hp:mO s.ev s.o k 0 parts.toList=some (.pl,ds))(hnn:ds.length=n)(hn0:Nat.blt 0 n=true)(hsm:Nat.ble (n*k) 16777216=true)(aa:∀b,M0 b→b<w0.w.heap.size):Step P w0 M0 o s ((s.cC true t (.arr e ds)).put t (.own t)):=by
 rintro a w Q ⟨E,hs⟩;obtain⟨i,z,hi,hz,hsz,hby,hzs,hk0,hck⟩:=gJ hel;obtain⟨vs,e1,e2,e3,e4,e5⟩:=r7 hs.wok (fun x e hx=>hs.ev hx) _ 0 .pl ds hp;have hrun:=pJ (P:=P) (w:=w) (n:=n) (ps:=parts.map fun(i,x)=>(i,a.eval x)) hT hel (by rw[acu];exact e1) (by rw[e2,hnn]) e4 (aah hsm) (by simpa using hn0);have hlen:=jQ vs ds e2 (fun j v d h1 h2=>((e5 j v d h1 h2).1.cells (e5 j v d h1 h2).2).1);have hrel:=pK vs ds e2 e5;have hfl:=bO ds e3;unfold Oper.wp;have hexec:(execOp a.eval o).run P w=.ok (.value (.slice (some ⟨w.heap.size,0,none⟩) n n)) (w.alloc (.cells (vs.flatMap fun v=>v.cells.toList).toArray e)):=by
  simp only[execOp,ho,Sem.run_bind,hrun,Result.andThen_ok,Sem.run_pure]
 rw[hexec];simp only[Oper.upon,hd];refine⟨{ E with cur:=fun i=>if i=t then .slice (some ⟨w.heap.size,0,none⟩) n n else E.cur i },ba.put ?_ (by simpa[St.cC] using hn) ff⟩;refine hs.ox hnd aa (World.grownBy_alloc w _ none) (fun _=>aak _) (vals:=vs.flatMap fun v=>v.cells.toList) ⟨by rw[hlen,hfl,hck],.inr ⟨w.heap.size,n,_,by rw[hnn],aan _,heap_alloc_new w _,by rw[hnn];exact aak _,?_,?_,?_⟩⟩ (fun b hb=>?_) (by rw[hck];exact e3) (fun j d hd=>⟨(hrel j d hd).1,.inl (hrel j d hd).2⟩)
 ·have h1:=aah hsm;have h2:n≤n*k:=Nat.le_mul_of_pos_right n hk0;simp only[maxLen];omega
 ·rw[hck,acI,hlen,hfl,hnn]
 ·rw[hck,hnn];exact aaB (by rw[hlen,hfl,hnn];exact aak _)
 ·simp only[Value.ownBlock,aaj] at hb;omega
theorem Jn {s:St}{t:Nat}(ho:o.op=.buildSlice T 0 parts)(hp:parts.toList=[])(hd:o.dst=some t)(hn:Nat.blt t s.n=true)(hnd:Nodup s.s=true)(hT:P.underlying T=some (.slice e))(hel:iK P e k b=true)
  (aa:∀b,M0 b→b<w0.w.heap.size):Step P w0 M0 o s ((s.cC true t (.arr e [])).put t (.own t)):=by
 rintro a w Q ⟨E,hs⟩;obtain⟨i,z,hi,hz,hsz,hby,hzs,hk0,hck⟩:=gJ hel;have hp':parts=#[]:=by rw[←Array.toList_eq_nil_iff];exact hp
 subst hp';have hrun:(Instr.buildSlice T 0 #[]).run P w=.ok (.slice (some ⟨w.heap.size,0,none⟩) 0 0) (w.alloc (.cells #[] e)):=by
  have h0:Array.range 0=#[]:=rfl;simp[Instr.buildSlice,run_underlying hT,sizeOf,typeInfo,hi,Instr.fill,newRow,h0]
  try rfl
 unfold Oper.wp;have hexec:(execOp a.eval o).run P w=.ok (.value (.slice (some ⟨w.heap.size,0,none⟩) 0 0)) (w.alloc (.cells #[] e)):=by
  simp only[execOp,ho,Sem.run_bind,List.map_toArray,abu,hrun,Result.andThen_ok,Sem.run_pure]
 rw[hexec];simp only[Oper.upon,hd];refine⟨{ E with cur:=fun i=>if i=t then .slice (some ⟨w.heap.size,0,none⟩) 0 0 else E.cur i },ba.put ?_ (by simpa[St.cC] using hn) ff⟩;refine hs.ox hnd aa (World.grownBy_alloc w _ none) (fun _=>aak _) (vals:=[]) ⟨by simp,.inr ⟨w.heap.size,0,_,rfl,aan _,heap_alloc_new w _,aak _,by simp[maxLen],by simp,by simp⟩⟩ (fun b hb=>?_) (by simp) (fun j d hd=>by simp[flat] at hd);simp only[Value.ownBlock,aaj] at hb;omega
end
end Go.Am
