/-
  Part of the proof.
-/
import Derived.Test.YtlapahnodhmcpaaGreatJ0
import Derived.Test.YtlapahnodhmcpaaGreatJ2
import Derived.Maps.AppendAt
import Derived.Great.FillDense
import Derived.Great.BuildSlice
set_option linter.unusedVariables false
set_option linter.unusedSectionVars false
set_option linter.unusedSimpArgs false
set_option maxRecDepth 100000
set_option maxHeartbeats 40000000
namespace Go.Am
open Go.RowKit
abbrev int (n:Int):AV:=.sc (.int .i64 n)
abbrev bool (b:Bool):AV:=.sc (.bool b)
abbrev ints (l:List Int):AV:=.sl (l.map int)
abbrev ly (l:List (List Int)):AV:=.sl (l.map ints)
theorem wrap64 {x:Int}(h:-9223372036854775808≤x)(h':x≤9223372036854775807):IntKind.i64.wrap x=x:=IntWalk.i64_in x ⟨h,h'⟩
variable{w:World}{E:Env}
section
variable {P:Program} {w0:Fr}{M0:Nat→Prop}
def kr (P:Program)(w0:Fr)(M0:Nat→Prop)(ops:Array Oper)(Q:St→Prop):List Oper→St→Prop
 | [],s=>∃s1,fF P w0 M0 s s1∧Q s1
 | o :: rest,s=>∃s1,fF P w0 M0 s s1∧∃s',((guardOf ops s1.ev o=some true∧Step P w0 M0 o s1 s')∨(guardOf ops s1.ev o=some false∧∃t,o.dst=some t∧t<s1.n∧s'=s1.put t (.v .pl (.tup []))))∧kr P w0 M0 ops Q rest s'
variable {ops:Array Oper}{Q:St→Prop}{s s':St}{o:Oper}{rest:List Oper}{t:Nat}{d:SV}
theorem rG:∀ (l:List Oper)(k:Nat)(s:St),(∀j,l[j]?=ops[k+j]?)→kr P w0 M0 ops Q l s→vq P w0 M0 ops (List.range' k l.length) s Q
 | [], k, s, _, h => by
   obtain⟨s1,hi,hq⟩:=h;exact fun a w hs=>HN hq a w (hi a w hs)
 | o :: rest, k, s, hl, h => by
   obtain⟨s1,hi,s',h1,h2⟩:=h;have ho:ops[k]?=some o:=by have:=hl 0;simpa using this.symm
   have ih:=rG rest (k+1) s' (fun j=>by have:=hl (j+1);rw[abw] at this;rw[this];congr 1;omega) h2;rw[aam,List.range'_succ];rcases h1 with⟨hg,hs⟩|⟨hg,t,ht,hn,rfl⟩
   · exact fun a w hsim=>Dl ho hg hs ih a w (hi a w hsim)
   · exact fun a w hsim=>Dn ho hg ht hn ih a w (hi a w hsim)
theorem kr.imp {l:List Oper}(hi:fF P w0 M0 s s')(h:kr P w0 M0 ops Q l s'):kr P w0 M0 ops Q l s:=by
 cases l with
 | nil=>obtain⟨s1,h1,h2⟩:=h;exact⟨s1,hi.trans h1,h2⟩
 | cons o r=>obtain⟨s1,h1,h2⟩:=h;exact⟨s1,hi.trans h1,h2⟩
def Sub (s1 s:St):Prop:=s1.n=s.n∧s1.o=s.o∧∀t d,s1.s.lookup t=some d→s.s.lookup t=some d
theorem Sub.refl (s:St):Sub s s:=⟨rfl,rfl,fun _ _ h=>h⟩
theorem Sub.trans {a b c:St}(h:Sub a b)(h':Sub b c):Sub a c:=⟨h.1.trans h'.1,h.2.1.trans h'.2.1,fun t d hd=>h'.2.2 t d (h.2.2 t d hd)⟩
theorem Sub.put {a b:St}(h:Sub a b)(t:Nat)(d:SV):Sub (a.put t d) (b.put t d):=⟨h.1,h.2.1,fun u e he=>by
 simp only[St.put] at he ⊢;rw[ax] at he ⊢;by_cases hu:u=t
 ·rw[if_pos hu] at he ⊢;exact he
 ·rw[if_neg hu] at he ⊢;exact h.2.2 u e he⟩
theorem Sub.imp {a b:St}(h:Sub a b):fF P w0 M0 b a:=eO h.1 h.2.1 h.2.2
theorem Sub.ev {a b:St}(h:Sub a b){x:Operand}{d:SV}(hx:a.ev x=some d):b.ev x=some d:=by
 cases x with
 | tmp t=>exact h.2.2 t d hx
 | const v=>exact hx
 | func f=>exact hx
 | global g=>exact hx
theorem Sub.guard {a b:St}(h:Sub a b){o:Oper}{g:Bool}(hg:guardOf ops a.ev o=some g):guardOf ops b.ev o=some g:=by
 unfold guardOf at hg ⊢;cases h0:o.guard with
 | none=>simp only[h0] at hg ⊢;exact hg
 | some jw =>
   obtain⟨j,want⟩:=jw;simp only[h0] at hg ⊢;cases ht:(ops[j]?).bind (·.dst) with
   | none=>simp only[ht] at hg;cases hg
   | some t =>
     simp only[ht] at hg ⊢;split at hg
     · rename_i c q hq;simp only[h.ev hq];exact hg
     · rename_i c hq;simp only[h.ev hq];exact hg
     · cases hg
theorem Sub.pure {a b:St}(h:Sub a b){o:Oper}{d:SV}(hp:Pure P w0 M0 o (fq ops o a.ev) a.o d):Pure P w0 M0 o (fq ops o b.ev) b.o d:=by
 intro E w ev hw hx;rw[←h.2.1] at hw;have:=hp E w ev hw (fun x e he=>by
   rw[h.2.1];refine hx x e ?_;cases x with
   | tmp t =>
     by_cases hc:(looks ops o).contains t=true
     · simp only[fq,hc,if_true] at he ⊢;exact h.ev he
     · simp only[fq,hc] at he;cases he
   | const v=>exact he
   | func f=>exact he
   | global g=>exact he)
 rwa [h.2.1] at this
theorem rZ.imp {Q:St→Prop}{m:Nat}{s s':St}(hi:fF P w0 M0 s' s)(he:rZ P w0 M0 ops Q m s):rZ P w0 M0 ops Q m s' :=
 fun f L a w hL hiff hs hf=>he f L a w hL hiff (hi a w hs) hf
def kj (P:Program)(w0:Fr)(M0:Nat→Prop)(ops:Array Oper)(Q:St→Prop):List Oper→Nat→St→Prop
 | [],_,s=>∃s1,Sub s1 s∧Q s1
 | o :: rest, i, s => ∃ s1, Sub s1 s ∧
   ((∃t,o.dst=some t∧t<s1.n∧∃g,guardOf ops s1.ev o=some g∧∃d,(g=true→Pure P w0 M0 o (fq ops o s1.ev) s1.o d)∧(g=false→d=.v .pl (.tup []))∧kj P w0 M0 ops Q rest (i+1) (s1.put t d)) ∨
   (pG ops i=true∧l8 P w0 M0 Q (o :: rest) s1)∨(fz ops i=true∧rZ P w0 M0 ops (fun s=>∃s',fF P w0 M0 s s'∧Q s') i s1))
theorem pH:∀ (l:List Oper)(i:Nat)(s1 s:St),Sub s1 s→kj P w0 M0 ops Q l i s1→HQ P w0 M0 ops (fun s=>∃s',fF P w0 M0 s s'∧Q s') l i s
 | [],i,s1,s,hs,⟨s2,h2,hq⟩=>⟨s2,(h2.trans hs).imp,hq⟩
 | o :: rest, i, s1, s, hs, ⟨s2, h2, h⟩ => by
   have hs2:=h2.trans hs;rcases h with⟨t,ht,hn,g,hg,d,h1,h0,hr⟩|⟨htl,hg,s',hst,hq⟩|⟨htl,hq⟩
   · exact .inl ⟨t,ht,by rw[←hs2.1];exact hn,g,hs2.guard hg,d,fun h=>hs2.pure (h1 h),h0,pH rest (i+1) _ _ (hs2.put t d) hr⟩
   · exact .inr (.inl ⟨htl,hg,s',fun a w Q hsim=>hst a w Q (hs2.imp a w hsim),hq.mono fun s'' h=>⟨s'',fF.refl _,h⟩⟩)
   · exact .inr (.inr ⟨htl,hq.imp hs2.imp⟩)
theorem Lz {id:Nat}{Q':Exit→St→Prop}(l:List Oper)(hl:ops.toList=l)(h:kr P w0 M0 ops (Q' .normal) l s):ao P w0 M0 (.region id ops false) s Q':=by subst hl;refine Dq _ J ?_;have:=rG ops.toList 0 s (fun j=>by simp) h;rwa [ab5,←List.range_eq_range'] at this
theorem uh {id:Nat}{Q':Exit→St→Prop}(hm:P.follows .mixedOrders=true)(hok:l7 ops=true)(l:List Oper)(hl:ops.toList=l)(h:kj P w0 M0 ops (Q' .normal) l 0 s):ao P w0 M0 (.region id ops true) s Q':=by
 subst hl;have:=we (id:=id) hm hok (pH _ _ _ _ (Sub.refl s) h) (Q':=fun e s=>match e with|.normal=>∃s',fF P w0 M0 s s'∧Q' .normal s'|_=>False) (fun s h=>h);intro a w hsim;refine iT (this a w hsim) fun e a' w' ⟨s',h1,h2⟩=>?_
 cases e with
 | normal=>obtain⟨s2,hi,hq⟩:=h1;exact⟨s2,hq,hi a' w' h2⟩
 | _=>exact h1.elim
theorem SL (h:Q s):kr P w0 M0 ops Q [] s:=⟨s,fF.refl _,h⟩
theorem Jk (hg:guardOf ops s.ev o=some false)(ht:o.dst=some t)(hn:Nat.blt t s.n=true)(hr:kr P w0 M0 ops Q rest (s.put t (.v .pl (.tup [])))):kr P w0 M0 ops Q (o :: rest) s :=
 ⟨s,fF.refl _,_,.inr ⟨hg,t,ht,by simpa using hn,rfl⟩,hr⟩
variable {i:Nat}
theorem SM (h:Q s):kj P w0 M0 ops Q [] i s:=⟨s,Sub.refl _,h⟩
theorem cT (ht:pG ops i=true)(h:l8 P w0 M0 Q (o :: rest) s):kj P w0 M0 ops Q (o :: rest) i s:=⟨s,Sub.refl _,.inr (.inl ⟨ht,h⟩)⟩
theorem BG (ht:fz ops i=true)(h:rZ P w0 M0 ops (fun s=>∃s',fF P w0 M0 s s'∧Q s') i s):kj P w0 M0 ops Q (o :: rest) i s:=⟨s,Sub.refl _,.inr (.inr ⟨ht,h⟩)⟩
theorem dE {s':St}(hg:o.guard=none)(h:Step P w0 M0 o s s')(hr:l8 P w0 M0 Q rest s'):l8 P w0 M0 Q (o :: rest) s:=⟨hg,s',h,hr⟩
theorem wB (hg:o.guard=none)(ht:o.dst=some t)(hn:Nat.blt t s.n=true)(h:Pure P w0 M0 o s.ev s.o d)(hr:l8 P w0 M0 Q rest (s.put t d)):l8 P w0 M0 Q (o :: rest) s :=
 ⟨hg,_,lR ht (by simpa using hn) h,hr⟩
theorem fe (h:Q s):l8 P w0 M0 Q [] s:=h
theorem Jl (hg:guardOf ops s.ev o=some false)(ht:o.dst=some t)(hn:Nat.blt t s.n=true)(hr:kj P w0 M0 ops Q rest (i+1) (s.put t (.v .pl (.tup [])))):kj P w0 M0 ops Q (o :: rest) i s :=
 ⟨s,Sub.refl _,.inl ⟨t,ht,by simpa using hn,false,hg,_,fun h=>(by cases h),fun _=>rfl,hr⟩⟩
def Has (s:St):List (Nat×SV)→Prop
 | []=>True
 | (t,d) :: r=>s.s.lookup t=some d∧Has s r
def wg (s:St):List (Nat×Ob)→Prop
 | []=>True
 | (t,d) :: r=>s.o.lookup t=some d∧wg s r
theorem Has.out {s:St}:∀{l:List (Nat×SV)},Has s l→∀t d,l.lookup t=some d→s.s.lookup t=some d
 | [],_,t,d,h=>by simp at h
 | (u, e) :: r, h, t, d, hl => by
   rw[aj] at hl;split at hl
   · rename_i he
     subst he;simp only[aaj] at hl;subst hl;exact h.1
   · exact Has.out h.2 t d hl
theorem wg.out {s:St}:∀{l:List (Nat×Ob)},wg s l→∀t d,l.lookup t=some d→s.o.lookup t=some d
 | [],_,t,d,h=>by simp at h
 | (u, e) :: r, h, t, d, hl => by
   rw[aj] at hl;split at hl
   · rename_i he
     subst he;simp only[aaj] at hl;subst hl;exact h.1
   · exact wg.out h.2 t d hl
theorem dO {own own':Nat→Prop}(h:∀b,own' b→own b)(c:fW):∀b,cB M0 own' c b→cB M0 own c b:=by
 intro b hb;cases c with
 | pl=>exact hb.imp id (h b)
 | mx=>exact h b hb
 | vw=>exact hb
theorem bm.mN {o o':List (Nat×Ob)}(h:∀id ob,o'.lookup id=some ob→o.lookup id=some ob){v:Value}{d:SV}(hv:bm P M0 w E o v d):bm P M0 w E o' v d:=by
 have hown:∀b,owned E o' b→owned E o b:=fun b ⟨id,ob,h1,h2⟩=>⟨id,ob,h id ob h1,h2⟩
 cases d with
 | v c d=>exact bJ.cd hv (dO hown c)
 | own id=>exact fun e xs hl=>hv e xs (h _ _ hl)
 | pel id i off=>exact fun e xs hl=>hv e xs (h _ _ hl)
 | pbox id off=>exact fun e xs hl=>hv e xs (h _ _ hl)
 | omap id=>exact fun e xs hl=>hv e xs (h _ _ hl)
 | vsl id i n=>exact fun e xs hl=>hv e xs (h _ _ hl)
 | fn f caps =>
   obtain⟨vs,h1,h2,h3⟩:=hv;refine⟨vs,h1,h2,fun j c hc=>?_⟩;have:=h3 j c hc;cases c with
   | bx id=>exact fun e cs hl=>this e cs (h _ _ hl)
   | pl d=>exact bJ.cd this (dO hown .pl)
   | ow id=>exact fun e xs hl=>this e xs (h _ _ hl)
   | om id=>exact fun e xs hl=>this e xs (h _ _ hl)
 | hid f caps =>
   obtain⟨vs,h1,h2,h3⟩:=hv;refine⟨vs,h1,h2,fun j c hc=>?_⟩;have:=h3 j c hc;cases c with
   | bx id=>exact fun e cs hl=>this e cs (h _ _ hl)
   | pl d=>exact bJ.cd this (dO hown .pl)
   | ow id=>exact fun e xs hl=>this e xs (h _ _ hl)
   | om id=>exact fun e xs hl=>this e xs (h _ _ hl)
 | nst id=>exact⟨fun e xs ln hl=>hv.1 e xs ln (h _ _ hl),fun e xs ln hl=>hv.2 e xs ln (h _ _ hl)⟩
 | nel id j=>exact fun e xs ln hl=>hv e xs ln (h _ _ hl)
 | dead=>trivial
theorem sU {s:St}{l:List (Nat×SV)}{o':List (Nat×Ob)}(hl:Has s l)(ho:wg s o'):fF P w0 M0 s ⟨s.n,l,o'⟩:=by
 rintro a w ⟨E,hs⟩;have ho':=ho.out;have hown:∀b,owned E o' b→owned E s.o b:=fun b ⟨id,ob,h1,h2⟩=>⟨id,ob,ho' id ob h1,h2⟩
 refine⟨E,hs.size,hs.defers,fun t d ht=>?_,fun id ob hid=>?_,fun id ob id' ob' b h1 h2=>hs.wok.disj id ob id' ob' b (ho' _ _ h1) (ho' _ _ h2),hs.wok.below,hs.wok.pins⟩
 · have := hs.slots t d (hl.out t d ht)
   exact⟨this.1,this.2.mN ho'⟩
 · have := hs.wok.objs id ob (ho' id ob hid)
   cases ob with
   | arr e xs =>
     obtain⟨vals,h1,h2,h3⟩:=this;exact⟨vals,h1,h2,fun j d hd=>⟨(h3 j d hd).1,(h3 j d hd).2.cd (dO hown .pl)⟩⟩
   | box e cs =>
     obtain⟨vals,h1,h2,h3,h4⟩:=this;exact⟨vals,h1,h2,h3,fun j sv hj=>⟨(h4 j sv hj).1,(h4 j sv hj).2.1,(h4 j sv hj).2.2.mN ho'⟩⟩
   | mp ks vs =>
     obtain⟨es,clock,h1,h2,h3,h4,h5⟩:=this;exact⟨es,clock,h1,h2,h3,h4,fun j d hd=>(h5 j d hd).cd (dO hown .pl)⟩
   | nar e cs ln =>
     obtain⟨n,vals,h1,h2,h3,h4,h5⟩:=this;exact⟨n,vals,h1,h2,h3,h4.cd hown,h5⟩
   | nmp ks cs ln =>
     obtain⟨es,clock,h1,h2,h3,h4,h5,h6,h7⟩:=this;exact⟨es,clock,h1,h2,h3,h4,h5,h6.cd hown,h7⟩
theorem PA {l':List Oper}{i:Nat}(n:Nat)(l:List (Nat×SV))(o':List (Nat×Ob))(hn:s.n=n)(ho:s.o=o')(hl:Has s l)(h:kj P w0 M0 ops Q l' i ⟨n,l,o'⟩):kj P w0 M0 ops Q l' i s:=by
 subst hn;subst ho;have hsub:Sub ⟨s.n,l,s.o⟩ s:=⟨rfl,rfl,hl.out⟩;cases l' with
 | nil=>obtain⟨s1,h1,h2⟩:=h;exact⟨s1,h1.trans hsub,h2⟩
 | cons o r=>obtain⟨s1,h1,h2⟩:=h;exact⟨s1,h1.trans hsub,h2⟩
def LA (P:Program)(w0:Fr)(M0:Nat→Prop)(I:Nat→St→Prop)(m:Nat)(Q:Exit→St→Prop):Exit→St→Prop
 | .normal,s=>∃m' s',fF P w0 M0 s s'∧I m' s'∧m'<m
 | e,s=>Q e s
theorem F5 {c:Code}{Q:Exit→St→Prop}(I:Nat→St→Prop)(h0:∃m s',fF P w0 M0 s s'∧I m s')(hr:∀m s,I m s→ao P w0 M0 c s (LA P w0 M0 I m Q)):ao P w0 M0 (.loop c) s Q:=by
 intro a w hs;obtain⟨m1,s1,hi,hI⟩:=h0;have key : ∀ n m s a w, I m s → m < n → pE P w0 M0 s a w → ou P w0.md c (fun e a' w' => ∃ s', Q e s' ∧ pE P w0 M0 s' a' w') n a w := by
   intro n
   induction n with
   | zero=>intro m s a w _ h;omega
   | succ n ih =>
     intro m s a w hI hlt hs;rw[BE];refine iT (hr m s hI a w hs) fun e a' w' ⟨s',h1,h2⟩=>?_
     cases e<;>simp only[Exit.then,LA] at h1 ⊢ <;>
       first
       | exact⟨s',h1,h2⟩
       | (obtain ⟨m2, s2, hi2, hI2, hlt2⟩ := h1
          exact ih m2 s2 a' w' hI2 acK (hi2 a' w' h2))
 exact wc (m1+1) (key _ m1 s1 a w hI acK (hi a w hs))
section ops2
variable {ρ:Operand→Option SV}{ob:List (Nat×Ob)}{x y:Operand}{T T':TypeId}{a b:Int}{c:fW}
theorem dP (ho:o.op=.binOp .add T x y T')(hx:aZ ρ x=some (.int .i64 a))(hy:aZ ρ y=some (.int .i64 b))(h:-9223372036854775808≤a+b∧a+b≤9223372036854775807):Pure P w0 M0 o ρ ob (.v .pl (int (a+b))):=by have:=Lk (P:=P) (w0:=w0) (M0:=M0) (ob:=ob) ho hx hy;rwa [wrap64 h.1 h.2] at this
theorem qJ (ho:o.op=.binOp .sub T x y T')(hx:aZ ρ x=some (.int .i64 a))(hy:aZ ρ y=some (.int .i64 b))(h:-9223372036854775808≤a-b∧a-b≤9223372036854775807):Pure P w0 M0 o ρ ob (.v .pl (int (a-b))):=by have:=Ll (P:=P) (w0:=w0) (M0:=M0) (ob:=ob) ho hx hy;rwa [wrap64 h.1 h.2] at this
theorem Jm (ho:o.op=.binOp .mul T x y T')(hx:aZ ρ x=some (.int .i64 a))(hy:aZ ρ y=some (.int .i64 b))(h:-9223372036854775808≤a*b∧a*b≤9223372036854775807):Pure P w0 M0 o ρ ob (.v .pl (int (a*b))):=by have:=Lm (P:=P) (w0:=w0) (M0:=M0) (ob:=ob) ho hx hy;rwa [wrap64 h.1 h.2] at this
theorem pI {α:Type} [Inhabited α]{f:α→AV}{l:List α}{e:TypeId}{k:Nat}{q:IntKind}{i:Int}(ho:o.op=.indexAddr T x y)(hT:P.underlying T=some (.slice e))(hk:bY P e=some k)
  (hx:viewAt ρ ob x=some (c,.sl (l.map f)))(hy:aZ ρ y=some (.int q i))(h:0≤i∧i<l.length)(hc:∀z,(AV.cells (f z)).length=k) :
  Pure P w0 M0 o ρ ob (.v c (.pc (AV.cells (f (l.getD i.toNat default))) 0)) :=
 FX ho hT hk hx hy h.1 (by rw[aap,aag,aal acK];rfl) (hc _)
end ops2
end
section
variable {P:Program} {w0:Fr}{M0:Nat→Prop}{s:St}{Q:Exit→St→Prop}{y:Code}{id i:Nat}{I:Nat→St→Prop}{m:Nat}
theorem Dr (h:Q .normal s):rY id Q (.exit id) s:=by simp only[rY,if_true];exact h
theorem BH (h:Q (.exit i) s)(hne:Nat.beq i id=false):rY id Q (.exit i) s:=by
 have:i≠id:=by rintro rfl;simp at hne
 simp only[rY,this,if_false];exact h
theorem Dt {x y:Code}{t:Nat}{Q:Exit→St→Prop}(hb:aZ s.ev (.tmp t)=some (.bool true))(h:ao P w0 M0 x s Q):ao P w0 M0 (.cond (.tmp t) x y) s Q:=Af hb (fun _=>h) (fun h=>by cases h)
theorem Du {x y:Code}{t:Nat}{Q:Exit→St→Prop}(hb:aZ s.ev (.tmp t)=some (.bool false))(h:ao P w0 M0 y s Q):ao P w0 M0 (.cond (.tmp t) x y) s Q:=Af hb (fun h=>by cases h) (fun _=>h)
theorem PB {t:Nat}{r r':RV}(h:(s.s.lookup t).bind (bR s.o)=some r')(hr:r'=r):zC t r .ret s:=by subst hr;exact h
end
open Go.RowKit
def SV.refs (id:Nat):SV→Bool
 | .own i=>Nat.beq i id
 | .pel i _ _=>Nat.beq i id
 | .pbox i _=>Nat.beq i id
 | .omap i=>Nat.beq i id
 | .vsl i _ _=>Nat.beq i id
 | .fn _ caps => caps.any fun c => match c with
   | .bx i=>Nat.beq i id
   | .ow i=>Nat.beq i id
   | .om i=>Nat.beq i id
   | _=>false
 | .hid _ caps => caps.any fun c => match c with
   | .bx i=>Nat.beq i id
   | .ow i=>Nat.beq i id
   | .om i=>Nat.beq i id
   | _=>false
 | .nst i=>Nat.beq i id
 | .nel i _=>Nat.beq i id
 | _=>false
def SV.stays (kill:Bool)(id:Nat):SV→Bool
 | .v .vw _=>false
 | d=>!(kill&&d.refs id)
def sV (st:SV→Bool):Option (Nat×dX)→Option (Nat×dX)
 | some (j,.arr u)=>some (j,if st (.own u) then .arr u else .no)
 | some (j,.map u)=>some (j,if st (.omap u) then .map u else .no)
 | ln=>ln
def gv (st:SV→Bool):Ob→Ob
 | .box e cs=>.box e (cs.map fun d=>if st d then d else .dead)
 | .nar e cs ln=>.nar e cs (sV st ln)
 | .nmp ks cs ln=>.nmp ks cs (sV st ln)
 | ob=>ob
def iU (st:SV→Bool)(o:List (Nat×Ob)):List (Nat×Ob):=o.map fun p=>(p.1,gv st p.2)
def iH (kill:Bool)(id:Nat)(o:List (Nat×Ob)):List (Nat×Ob):=iU (SV.stays kill id) o
def St.cC (s:St)(kill:Bool)(id:Nat)(ob:Ob):St:={ n:=s.n,s:=s.s.filter (fun p=>p.2.stays kill id),o:=ins id ob (iH kill id s.o) }
def LB (kill:Bool)(id:Nat):Ob→Ob:=gv (SV.stays kill id)
theorem gk (st:SV→Bool)(i:Nat)(o:List (Nat×Ob)):(iU st o).lookup i=(o.lookup i).map (gv st):=by
 induction o with
 | nil=>rfl
 | cons p r ih =>
   obtain⟨t,d⟩:=p;simp only[iU,aa6] at ih ⊢;rw[aj,aj,ih];split
   · cases d<;>rfl
   · rfl
theorem cr (kill:Bool)(id i:Nat)(o:List (Nat×Ob)):(iH kill id o).lookup i=(o.lookup i).map (LB kill id):=gk _ i o
theorem Ah (st:SV→Bool)(ln:Option (Nat×dX)):(sV st ln).map (·.1)=ln.map (·.1):=by
 cases ln with
 | none=>rfl
 | some p=>obtain⟨j,l⟩:=p;cases l<;>rfl
theorem qK {st:SV→Bool}{cs:List Cell}{ln:Option (Nat×dX)}{f:Nat→Value}{b:Nat}:fX f b cs (sV st ln)↔fX f b cs ln:=by unfold fX;rw[Ah]
theorem iB {st:SV→Bool}{i b:Nat}{ob:Ob}:bE E i b (gv st ob)↔bE E i b ob:=by
 cases ob with
 | nar e cs ln=>simp only[gv,bE,qK]
 | nmp ks cs ln=>simp only[gv,bE,qK]
 | _=>exact Iff.rfl
def Nodup (l:List (Nat×SV)):Bool:=match l with
 | []=>true
 | (t,_) :: r=>!(r.any fun p=>Nat.beq p.1 t)&&Nodup r
theorem lh:∀ (l:List (Nat×SV))(t:Nat)(d:SV),Nodup l=true→(t,d)∈l→l.lookup t=some d
 | [],t,d,_,h=>by cases h
 | (u, e) :: r, t, d, hn, h => by
   simp only[Nodup,aax,aa5] at hn;rw[aj];rcases aaC.1 h with h|h
   · simp only [abk] at h
     rw[if_pos h.1,h.2]
   · rw [if_neg, lh r t d hn.2 h]
     intro he;have h1:=hn.1;rw[abH] at h1;exact h1 (t,d) h (by simpa using he)
variable{ds:Option (List Deferred)}{E':Env}{w':World}
section
variable {P:Program} {w0:Fr}{M0:Nat→Prop}
theorem BI {t:Nat}(h:t<1000000):∀x∈w0.pin,x.1≠t:=fun x hx he=>by have:=w0.hpin x hx;omega
def Alike (s:St)(id:Nat)(ob':Ob):Prop :=
 (∃e xs xs',s.o.lookup id=some (.arr e xs)∧ob'=.arr e xs'∧xs'.length=xs.length)∨(∃e cs cs',s.o.lookup id=some (.box e cs)∧ob'=.box e cs')∨(∃ks vs ks' vs',s.o.lookup id=some (.mp ks vs)∧ob'=.mp ks' vs') ∨
 (∃e cs ln cs' ln',s.o.lookup id=some (.nar e cs ln)∧ob'=.nar e cs' ln'∧cs.length≤cs'.length)∨(∃ks cs ln ks' cs' ln',s.o.lookup id=some (.nmp ks cs ln)∧ob'=.nmp ks' cs' ln')
theorem BJ (st:SV→Bool)(l:List (Nat×SV))(t:Nat)(d:SV)(h:(l.filter (fun p=>st p.2)).lookup t=some d):st d=true∧((t,d)∈l):=by have hm:=kH _ h;obtain⟨h1,h2⟩:=aa9.1 hm;exact⟨h2,h1⟩
theorem sP.kW {o:List (Nat×Ob)}{e:TypeId}{xs:List AV}{v:Value}{b:Nat}(h:sP P w0 M0 w E o e xs v)(hb:v.ownBlock=some b):w.heap[b]?≠some (.deferred ds):=by
 obtain⟨vals,h1,_⟩:=h;rcases h1.1.2 with⟨h2,_⟩|⟨g,cap,cur,hv,_,h3,_⟩
 ·rw[h2] at hb;cases hb
 ·rw[hv] at hb;injection hb with hb;subst hb;rw[h3];intro h;cases h
theorem nB {o:List (Nat×Ob)}{f:Nat→Value}{cs:List Cell}{ln:Option (Nat×dX)}{b:Nat}(h:jl P w0 M0 w E o f cs ln)(hb:fX f b cs ln):w.heap[b]?≠some (.deferred ds):=by
 obtain⟨j,c,hc,hl,hb⟩:=hb;have:=h.ok j c hc hl;cases c with
 | d x=>exact hb.elim
 | row e xs=>exact sP.kW this hb
 | mp ks vs =>
   obtain⟨b',e,es,clock,h1,_⟩:=this;rw[show f j=_ from hb] at e;injection e with e;injection e with e;subst e;rw[h1];intro h;cases h
theorem kT.kW {o:List (Nat×Ob)}{id b:Nat}{ob:Ob}(h:kT P w0 M0 w E o id ob)(hb:bE E id b ob):w.heap[b]?≠some (.deferred ds):=by
 cases ob with
 | arr e xs=>exact sP.kW (E:=E) (o:=o) h hb
 | box e cs =>
   obtain⟨vals,h1,_⟩:=h;rw[←show E.blk id=b from hb,h1];intro h;cases h
 | mp ks vs =>
   obtain⟨es,clock,h1,_⟩:=h;rw[←show E.blk id=b from hb,h1];intro h;cases h
 | nar e cs ln =>
   obtain⟨n,vals,h1,_,_,h4,_⟩:=h;rcases hb with hb|hb
   · rcases h1.1.2 with ⟨h2, _⟩ | ⟨g, cap, cur, hv, _, h3, _⟩
     · rw[h2] at hb;cases hb
     · rw [hv] at hb
       injection hb with hb;subst hb;rw[h3];intro h;cases h
   · exact nB h4 hb
 | nmp ks cs ln =>
   obtain⟨es,clock,h1,_,_,_,_,h4,_⟩:=h;rcases hb with hb|hb
   · rw[←hb,h1];intro h;cases h
   · exact nB h4 hb
theorem ba.xj {s:St}{a:Act}(st:SV→Bool)(N:Nat→Option (Option Ob))(o':List (Nat×Ob))(hlo:∀i,o'.lookup i=match N i with|some x=>x|none=>(s.o.lookup i).map (gv st))(hvw:∀d,st (.v .vw d)=false)
   (hk:∀i ob',N i=some (some ob')→(∃d,SV.refs i d=true∧st d=true)→E'.cur i=E.cur i∧E'.blk i=E.blk i∧Alike s i ob')(hrm:∀i,N i=some none→E'.cur i=E.cur i∧E'.blk i=E.blk i)
   (h:ba P w0 M0 E s a w)(hnd:Nodup s.s=true)(aa:∀b,M0 b→b<w0.w.heap.size)
   (hE:∀i,N i=none→E'.cur i=E.cur i∧E'.blk i=E.blk i∧E'.sub i=E.sub i)(hpn:∀x∈w0.pin,E'.blk x.1=E.blk x.1)(row:Option Nat)(hg:w.grownBy w' row)(hdr:w0.dr→w.drawn≤w'.drawn)
   (hrow:∀g,row=some g→∃i ob,N i≠none∧s.o.lookup i=some ob∧bE E i g ob)
   (hnew:∀i ob' b,N i=some (some ob')→bE E' i b ob'→(∃i0 ob,N i0≠none∧s.o.lookup i0=some ob∧bE E i0 b ob)∨w.heap.size≤b)
   (hdis:∀i ob i' ob' b,N i=some (some ob)→N i'=some (some ob')→bE E' i b ob→bE E' i' b ob'→i=i')
   (hob:(∀M v d,bJ w (cB M0 (owned E s.o) M) v d→M≠.vw→bJ w' (cB M0 (owned E' o') M) v d)→(∀v d,bm P M0 w E s.o v d→st d=true→bm P M0 w' E' o' v d)→(∀ln,np E E' ln (sV st ln))→∀i ob',N i=some (some ob')→kT P w0 M0 w' E' o' i ob') :
   ba P w0 M0 E' { n:=s.n,s:=s.s.filter (fun p=>st p.2),o:=o' } a w':=by
 have look:∀i ob,o'.lookup i=some ob→N i=some (some ob)∨(N i=none∧∃ob0,s.o.lookup i=some ob0∧gv st ob0=ob):=fun i ob hl=>by
   rw[hlo i] at hl;cases hN:N i with
   | some x=>rw[hN] at hl;exact .inl (by rw[show x=some ob from hl])
   | none =>
     rw[hN] at hl;have hl:(s.o.lookup i).map (gv st)=some ob:=hl;rw[aao] at hl;exact .inr ⟨rfl,hl⟩
 have oldB:∀{i b}{ob0:Ob},N i=none→bE E' i b (gv st ob0)→bE E i b ob0:=fun{i b ob0} hN hb=>by
   have hb:=iB.1 hb;obtain⟨q1,q2,q3⟩:=hE i hN;cases ob0<;>simp only[bE,q1,q2,q3] at hb ⊢<;>exact hb
 have hown:∀b,owned E' o' b→owned E s.o b∨w.heap.size≤b:=by
   rintro b ⟨i,ob,h1,h2⟩;rcases look i ob h1 with hN|⟨hN,ob0,h3,rfl⟩
   · rcases hnew i ob b hN h2 with ⟨i0, ob0, _, h3, h4⟩ | h3
     · exact .inl ⟨i0,ob0,h3,h4⟩
     · exact .inr h3
   · exact .inl ⟨i,ob0,h3,oldB hN h2⟩
 have rep:∀(M:fW) v d,bJ w (cB M0 (owned E s.o) M) v d→M≠.vw→bJ w' (cB M0 (owned E' o') M) v d:=by
   intro M v d hr hM;refine hr.mono hg.size (fun b hb hnM=>hg.block b hb (fun he=>?_)) (fun b hb hnM hM'=>?_)
   · obtain ⟨i, ob, _, h1, h2⟩ := hrow b he.symm
     have:owned E s.o b:=⟨i,ob,h1,h2⟩;cases M with
     | pl=>exact hnM (.inr this)
     | mx=>exact hnM this
     | vw=>exact hM rfl
   · cases M with
     | pl =>
       rcases hM' with hM'|hM'
       · exact hnM (.inl hM')
       · rcases hown b hM' with h1 | h1
         · exact hnM (.inr h1)
         · omega
     | mx =>
       rcases hown b hM' with h1|h1
       · exact hnM h1
       · omega
     | vw=>exact hM rfl
 have sv : ∀ v d, bm P M0 w E s.o v d → st d = true → bm P M0 w' E' o' v d := by
   intro v d hv hst;have own:∀i,SV.refs i d=true→∀ob,o'.lookup i=some ob→(E'.cur i=E.cur i∧E'.blk i=E.blk i∧Alike s i ob)∨((E'.cur i=E.cur i∧E'.blk i=E.blk i)∧∃ob0,s.o.lookup i=some ob0∧gv st ob0=ob):=fun i hr ob hl=>by
     rcases look i ob hl with hN|⟨hN,h3⟩
     · exact .inl (hk i ob hN ⟨d,hr,hst⟩)
     · exact .inr ⟨⟨(hE i hN).1,(hE i hN).2.1⟩,h3⟩
   cases d with
   | v c d =>
     refine rep c v d hv ?_;rintro rfl;rw[hvw] at hst;cases hst
   | own i =>
     intro e xs hl;rcases own i (by simp[SV.refs]) _ hl with⟨hc,hb,hh⟩|⟨⟨hc,hb⟩,ob0,h3,h4⟩
     · rw [hc]
       rcases hh with⟨e1,xs1,xs2,h1,h2,h3⟩|⟨e1,cs1,cs2,h1,h2⟩|⟨k1,v1,k2,v2,h1,h2⟩|⟨e1,cs1,l1,cs2,l2,h1,h2,h3⟩|⟨k1,c1,l1,k2,c2,l2,h1,h2⟩
       · exact hv _ _ h1
       all_goals cases h2
     · rw [hc]
       cases ob0<;>simp only[gv] at h4<;>cases h4;exact hv _ _ h3
   | pel i j off =>
     intro e xs hl;rcases own i (by simp[SV.refs]) _ hl with⟨hc,hb,hh⟩|⟨⟨hc,hb⟩,ob0,h3,h4⟩
     · rw [hc]
       rcases hh with⟨e1,xs1,xs2,h1,h2,h3⟩|⟨e1,cs1,cs2,h1,h2⟩|⟨k1,v1,k2,v2,h1,h2⟩|⟨e1,cs1,l1,cs2,l2,h1,h2,h3⟩|⟨k1,c1,l1,k2,c2,l2,h1,h2⟩
       · simp only [Ob.arr.injEq] at h2
         obtain⟨rfl,rfl⟩:=h2;rw[h3];exact hv _ _ h1
       all_goals cases h2
     · rw [hc]
       cases ob0<;>simp only[gv] at h4<;>cases h4;exact hv _ _ h3
   | pbox i off =>
     intro e xs hl;rcases own i (by simp[SV.refs]) _ hl with⟨hc,hb,hh⟩|⟨⟨hc,hb⟩,ob0,h3,h4⟩
     · rw [hb]
       rcases hh with⟨e1,xs1,xs2,h1,h2,h3⟩|⟨e1,cs1,cs2,h1,h2⟩|⟨k1,v1,k2,v2,h1,h2⟩|⟨e1,cs1,l1,cs2,l2,h1,h2,h3⟩|⟨k1,c1,l1,k2,c2,l2,h1,h2⟩
       · cases h2
       · exact hv _ _ h1
       all_goals cases h2
     · rw [hb]
       cases ob0<;>simp only[gv] at h4<;>cases h4;exact hv _ _ h3
   | vsl i j off =>
     intro e xs hl;rcases own i (by simp[SV.refs]) _ hl with⟨hc,hb,hh⟩|⟨⟨hc,hb⟩,ob0,h3,h4⟩
     · rw [hc]
       rcases hh with⟨e1,xs1,xs2,h1,h2,h3⟩|⟨e1,cs1,cs2,h1,h2⟩|⟨k1,v1,k2,v2,h1,h2⟩|⟨e1,cs1,l1,cs2,l2,h1,h2,h3⟩|⟨k1,c1,l1,k2,c2,l2,h1,h2⟩
       · simp only [Ob.arr.injEq] at h2
         obtain⟨rfl,rfl⟩:=h2;rw[h3];exact hv _ _ h1
       all_goals cases h2
     · rw [hc]
       cases ob0<;>simp only[gv] at h4<;>cases h4;exact hv _ _ h3
   | fn f caps =>
     obtain⟨vs,g1,g2,g3⟩:=hv;refine⟨vs,g1,g2,fun j c hc=>?_⟩;have g4:=g3 j c hc;cases c with
     | pl d=>exact rep .pl _ _ g4 (by simp)
     | bx i =>
       intro e cs hl;have hr:SV.refs i (.fn f caps)=true:=aaQ.2 ⟨_,aaW hc,by simp⟩;rcases own i hr _ hl with⟨hcc,hb,hh⟩|⟨⟨hcc,hb⟩,ob0,h3,h4⟩
       · rw [hb]
         rcases hh with⟨e1,xs1,xs2,h1,h2,h3⟩|⟨e1,cs1,cs2,h1,h2⟩|⟨k1,v1,k2,v2,h1,h2⟩|⟨e1,cs1,l1,cs2,l2,h1,h2,h3⟩|⟨k1,c1,l1,k2,c2,l2,h1,h2⟩
         · cases h2
         · exact g4 _ _ h1
         all_goals cases h2
       · rw [hb]
         cases ob0<;>simp only[gv] at h4<;>cases h4;exact g4 _ _ h3
     | om i =>
       intro ks vs hl;have hr:SV.refs i (.fn f caps)=true:=aaQ.2 ⟨_,aaW hc,by simp⟩;rcases own i hr _ hl with⟨hcc,hb,hh⟩|⟨⟨hcc,hb⟩,ob0,h3,h4⟩
       · rw [hb]
         rcases hh with⟨e1,xs1,xs2,h1,h2,h3⟩|⟨e1,cs1,cs2,h1,h2⟩|⟨k1,v1,k2,v2,h1,h2⟩|⟨e1,cs1,l1,cs2,l2,h1,h2,h3⟩|⟨k1,c1,l1,k2,c2,l2,h1,h2⟩
         · cases h2
         · cases h2
         · exact g4 _ _ h1
         all_goals cases h2
       · rw [hb]
         cases ob0<;>simp only[gv] at h4<;>cases h4;exact g4 _ _ h3
     | ow i =>
       intro e xs hl;have hr:SV.refs i (.fn f caps)=true:=aaQ.2 ⟨_,aaW hc,by simp⟩;rcases own i hr _ hl with⟨hcc,hb,hh⟩|⟨⟨hcc,hb⟩,ob0,h3,h4⟩
       · rw [hcc]
         rcases hh with⟨e1,xs1,xs2,h1,h2,h3⟩|⟨e1,cs1,cs2,h1,h2⟩|⟨k1,v1,k2,v2,h1,h2⟩|⟨e1,cs1,l1,cs2,l2,h1,h2,h3⟩|⟨k1,c1,l1,k2,c2,l2,h1,h2⟩
         · exact g4 _ _ h1
         all_goals cases h2
       · rw [hcc]
         cases ob0<;>simp only[gv] at h4<;>cases h4;exact g4 _ _ h3
   | hid f caps =>
     obtain⟨vs,g1,g2,g3⟩:=hv;refine⟨vs,g1,g2,fun j c hc=>?_⟩;have g4:=g3 j c hc;cases c with
     | pl d=>exact rep .pl _ _ g4 (by simp)
     | bx i =>
       intro e cs hl;have hr:SV.refs i (.hid f caps)=true:=aaQ.2 ⟨_,aaW hc,by simp⟩;rcases own i hr _ hl with⟨hcc,hb,hh⟩|⟨⟨hcc,hb⟩,ob0,h3,h4⟩
       · rw [hb]
         rcases hh with⟨e1,xs1,xs2,h1,h2,h3⟩|⟨e1,cs1,cs2,h1,h2⟩|⟨k1,v1,k2,v2,h1,h2⟩|⟨e1,cs1,l1,cs2,l2,h1,h2,h3⟩|⟨k1,c1,l1,k2,c2,l2,h1,h2⟩
         · cases h2
         · exact g4 _ _ h1
         all_goals cases h2
       · rw [hb]
         cases ob0<;>simp only[gv] at h4<;>cases h4;exact g4 _ _ h3
     | om i =>
       intro ks vs hl;have hr:SV.refs i (.hid f caps)=true:=aaQ.2 ⟨_,aaW hc,by simp⟩;rcases own i hr _ hl with⟨hcc,hb,hh⟩|⟨⟨hcc,hb⟩,ob0,h3,h4⟩
       · rw [hb]
         rcases hh with⟨e1,xs1,xs2,h1,h2,h3⟩|⟨e1,cs1,cs2,h1,h2⟩|⟨k1,v1,k2,v2,h1,h2⟩|⟨e1,cs1,l1,cs2,l2,h1,h2,h3⟩|⟨k1,c1,l1,k2,c2,l2,h1,h2⟩
         · cases h2
         · cases h2
         · exact g4 _ _ h1
         all_goals cases h2
       · rw [hb]
         cases ob0<;>simp only[gv] at h4<;>cases h4;exact g4 _ _ h3
     | ow i =>
       intro e xs hl;have hr:SV.refs i (.hid f caps)=true:=aaQ.2 ⟨_,aaW hc,by simp⟩;rcases own i hr _ hl with⟨hcc,hb,hh⟩|⟨⟨hcc,hb⟩,ob0,h3,h4⟩
       · rw [hcc]
         rcases hh with⟨e1,xs1,xs2,h1,h2,h3⟩|⟨e1,cs1,cs2,h1,h2⟩|⟨k1,v1,k2,v2,h1,h2⟩|⟨e1,cs1,l1,cs2,l2,h1,h2,h3⟩|⟨k1,c1,l1,k2,c2,l2,h1,h2⟩
         · exact g4 _ _ h1
         all_goals cases h2
       · rw [hcc]
         cases ob0<;>simp only[gv] at h4<;>cases h4;exact g4 _ _ h3
   | omap i =>
     intro ks vs hl;rcases own i (by simp[SV.refs]) _ hl with⟨hc,hb,hh⟩|⟨⟨hc,hb⟩,ob0,h3,h4⟩
     · rw [hb]
       rcases hh with⟨e1,xs1,xs2,h1,h2,h3⟩|⟨e1,cs1,cs2,h1,h2⟩|⟨k1,v1,k2,v2,h1,h2⟩|⟨e1,cs1,l1,cs2,l2,h1,h2,h3⟩|⟨k1,c1,l1,k2,c2,l2,h1,h2⟩
       · cases h2
       · cases h2
       · exact hv _ _ h1
       all_goals cases h2
     · rw [hb]
       cases ob0<;>simp only[gv] at h4<;>cases h4;exact hv _ _ h3
   | nst i =>
     refine⟨fun e cs ln hl=>?_,fun ks cs ln hl=>?_⟩
     · rcases own i (by simp [SV.refs]) _ hl with ⟨hc, hb, hh⟩ | ⟨⟨hc, hb⟩, ob0, h3, h4⟩
       · rw [hc]
         rcases hh with⟨e1,xs1,xs2,h1,h2,h3⟩|⟨e1,cs1,cs2,h1,h2⟩|⟨k1,v1,k2,v2,h1,h2⟩|⟨e1,cs1,l1,cs2,l2,h1,h2,h3⟩|⟨k1,c1,l1,k2,c2,l2,h1,h2⟩
         · cases h2
         · cases h2
         · cases h2
         · exact hv.1 _ _ _ h1
         · cases h2
       · rw [hc]
         cases ob0<;>simp only[gv] at h4<;>cases h4;exact hv.1 _ _ _ h3
     · rcases own i (by simp [SV.refs]) _ hl with ⟨hc, hb, hh⟩ | ⟨⟨hc, hb⟩, ob0, h3, h4⟩
       · rw [hb]
         rcases hh with⟨e1,xs1,xs2,h1,h2,h3⟩|⟨e1,cs1,cs2,h1,h2⟩|⟨k1,v1,k2,v2,h1,h2⟩|⟨e1,cs1,l1,cs2,l2,h1,h2,h3⟩|⟨k1,c1,l1,k2,c2,l2,h1,h2⟩
         · cases h2
         · cases h2
         · cases h2
         · cases h2
         · exact hv.2 _ _ _ h1
       · rw [hb]
         cases ob0<;>simp only[gv] at h4<;>cases h4;exact hv.2 _ _ _ h3
   | nel i j =>
     intro e cs ln hl;rcases own i (by simp[SV.refs]) _ hl with⟨hc,hb,hh⟩|⟨⟨hc,hb⟩,ob0,h3,h4⟩
     · rw [hc]
       rcases hh with⟨e1,xs1,xs2,h1,h2,h3⟩|⟨e1,cs1,cs2,h1,h2⟩|⟨k1,v1,k2,v2,h1,h2⟩|⟨e1,cs1,l1,cs2,l2,h1,h2,h3⟩|⟨k1,c1,l1,k2,c2,l2,h1,h2⟩
       · cases h2
       · cases h2
       · cases h2
       · simp only [Ob.nar.injEq] at h2
         obtain⟨rfl,rfl,rfl⟩:=h2;obtain⟨q1,q2⟩:=hv _ _ _ h1;exact⟨acK,q2⟩
       · cases h2
     · rw [hc]
       cases ob0<;>simp only[gv] at h4<;>cases h4;obtain⟨q1,q2⟩:=hv _ _ _ h3;exact⟨q1,q2⟩
   | dead=>trivial
 have lents:∀ln,np E E' ln (sV st ln):=fun ln=>by
   have key:∀u d,SV.refs u d=true→st d=true→E'.cur u=E.cur u∧E'.blk u=E.blk u:=fun u d hr hs=>by
     cases hN:N u with
     | none=>exact⟨(hE u hN).1,(hE u hN).2.1⟩
     | some x => cases x with
       | none=>exact hrm u hN
       | some ob'=>exact⟨(hk u ob' hN ⟨d,hr,hs⟩).1,(hk u ob' hN ⟨d,hr,hs⟩).2.1⟩
   refine⟨Ah st ln,fun j u' hu=>?_,fun j u' hu=>?_⟩
   · match ln, hu with
     | some (j0, .arr u), hu =>
       have hu:some (j0,if st (.own u)=true then dX.arr u else .no)=some (j,.arr u'):=hu;cases q:st (.own u) with
       | true =>
         rw[if_pos q] at hu;cases hu;exact⟨u',rfl,(key u' (.own u') (by simp[SV.refs]) q).1⟩
       | false=>rw[if_neg (by rw[q];decide)] at hu;cases hu
     | some (j0, .map u), hu =>
       have hu:some (j0,if st (.omap u)=true then dX.map u else .no)=some (j,.arr u'):=hu;cases q:st (.omap u) with
       | true=>rw[if_pos q] at hu;cases hu
       | false=>rw[if_neg (by rw[q];decide)] at hu;cases hu
   · match ln, hu with
     | some (j0, .map u), hu =>
       have hu:some (j0,if st (.omap u)=true then dX.map u else .no)=some (j,.map u'):=hu;cases q:st (.omap u) with
       | true =>
         rw[if_pos q] at hu;cases hu;exact⟨u',rfl,(key u' (.omap u') (by simp[SV.refs]) q).2⟩
       | false=>rw[if_neg (by rw[q];decide)] at hu;cases hu
     | some (j0, .arr u), hu =>
       have hu:some (j0,if st (.own u)=true then dX.arr u else .no)=some (j,.map u'):=hu;cases q:st (.own u) with
       | true=>rw[if_pos q] at hu;cases hu
       | false=>rw[if_neg (by rw[q];decide)] at hu;cases hu
 have notrow:∀{i b ob0},N i=none→s.o.lookup i=some ob0→bE E i b ob0→some b≠row:=fun{i b ob0} hN hl hb he=>by
   obtain⟨i1,ob1,XL,h5,h6⟩:=hrow b he.symm;have:=h.wok.disj i ob0 i1 ob1 b hl h5 hb h6;rw[this] at hN;exact XL hN
 refine⟨h.size,h.defers.same J (fun D hD=>(hg.block D (gu hD) fun he=>by
   obtain⟨i,ob,_,h1,h2⟩:=hrow D he.symm;exact((h.wok.objs i ob h1).kW h2) hD).trans hD),fun t d ht=>?_,fun i ob hi=>?_,fun i ob i' obx b h1 h2 h3 h4=>?_,?_,?_⟩
 · obtain ⟨h2, h3⟩ := BJ st s.s t d ht
   have:=h.slots t d (lh s.s t d hnd h3);exact⟨this.1,sv _ _ this.2 h2⟩
 · rcases look i ob hi with hN | ⟨hN, ob0, h3, rfl⟩
   · exact hob rep sv lents i ob hN
   · have h0 := h.wok.objs i ob0 h3
     obtain⟨e1,e2,e3⟩:=hE i hN;have hsb:∀b,bE E i b ob0→some b≠row:=fun b hb=>notrow hN h3 hb
     have hrg:∀b,bE E i b ob0→b<w.heap.size:=fun b hb=>(h0.dx hb).2
     cases ob0 with
     | arr e xs =>
       obtain⟨vals,h1,h2,h4⟩:=h0;refine⟨vals,?_,h2,fun j d hd=>⟨(h4 j d hd).1,rep .pl _ _ (h4 j d hd).2 (by simp)⟩⟩;rw[e1];refine⟨h1.1.kept hg ?_,h1.2⟩;cases hb:(E.cur i).ownBlock with
       | none=>exact .inl rfl
       | some b=>exact .inr (hsb b hb)
     | box e cs =>
       obtain⟨vals,h1,h2,h4,h5⟩:=h0;refine⟨vals,?_,by rw[e2];exact h2,by simpa using h4,fun j d hd=>?_⟩
       · rw [e2, hg.block _ (hrg _ rfl) (hsb _ rfl)]
         exact h1
       · rw [aap, aao] at hd
         obtain⟨d0,hd0,rfl⟩:=hd;have:=h5 j d0 hd0;split
         · exact⟨this.1,this.2.1,sv _ _ this.2.2 ‹_›⟩
         · exact⟨rfl,this.2.1,trivial⟩
     | mp ks vs =>
       obtain⟨es,clock,h1,h2,h4,h5,h6⟩:=h0;refine⟨es,clock,?_,by rw[e2];exact h2,h4,h5,fun j d hd=>rep .pl _ _ (h6 j d hd) (by simp)⟩;rw[e2,hg.block _ (hrg _ rfl) (hsb _ rfl)];exact h1
     | nar e cs ln =>
       obtain⟨n,vals,h1,h2,h4,h5,h6⟩:=h0;show ∃n vals,_∧_∧_∧_∧_;rw[e1,e3];refine⟨n,vals,⟨h1.1.kept hg ?_,h1.2⟩,h2,h4,h5.go (lents ln) (fun b hb=>hg.block b (h5.range hb).2 (hsb b (.inr hb))) (fun _ _ hf=>hf) (fun v d hr=>rep .pl v d hr (by simp)),fun b hb=>h6 b (qK.1 hb)⟩;cases hb:(E.cur i).ownBlock with
       | none=>exact .inl rfl
       | some b=>exact .inr (hsb b (.inl hb))
     | nmp ks cs ln =>
       obtain⟨es,clock,h1,h2,h4,h5,h6,h7,h8⟩:=h0;show ∃es clock,_∧_∧_∧_∧_∧_∧_;rw[e2,e3];exact⟨es,clock,by rw[hg.block _ (gu h1) (hsb _ (.inl J))];exact h1,h2,h4,h5,h6,h7.go (lents ln) (fun b hb=>hg.block b (h7.range hb).2 (hsb b (.inr hb))) (fun _ _ hf=>hf) (fun v d hr=>rep .pl v d hr (by simp)),fun b hb=>h8 b (qK.1 hb)⟩
 · have one : ∀ i0 ob0 i1 ob1, N i0 = none → s.o.lookup i0 = some ob0 → bE E i0 b ob0 → N i1 = some (some ob1) → bE E' i1 b ob1 → False := by
     intro i0 ob0 i1 ob1 ZT hl0 hb0 XL hb1;rcases hnew i1 ob1 b XL hb1 with⟨i2,ob2,hN2,h7,h8⟩|h7
     · have := h.wok.disj i0 ob0 i2 ob2 b hl0 h7 hb0 h8
       rw[this] at ZT;exact hN2 ZT
     · have := ((h.wok.objs i0 ob0 hl0).dx hb0).2
       omega
   rcases look i ob h1 with hN|⟨hN,ob0,h5,rfl⟩
   · rcases look i' obx h2 with hN' | ⟨hN', ob1, h7, rfl⟩
     · exact hdis i ob i' obx b hN hN' h3 h4
     · exact(one i' ob1 i ob hN' h7 (oldB hN' h4) hN h3).elim
   · rcases look i' obx h2 with hN' | ⟨hN', ob1, h7, rfl⟩
     · exact(one i ob0 i' obx hN h5 (oldB hN h3) hN' h4).elim
     · exact h.wok.disj i ob0 i' ob1 b h5 h7 (oldB hN h3) (oldB hN' h4)
 · exact h.wok.below.trans ⟨hg.os,hg.tape,hg.output,hg.size,fun k hk=>hg.block k (by have:=w0.hK k hk;have:=h.wok.below.size;omega) (fun he=>by
     obtain⟨i,ob,_,h1,h2⟩:=hrow k he.symm;exact((h.wok.objs i ob h1).dx h2).1.1 hk),hdr⟩
 · intro x hx
   rw[hpn x hx];exact h.wok.pins x hx
theorem ba.XM {s:St}{a:Act}{id:Nat}{ob':Ob}(st:SV→Bool)(hvw:∀d,st (.v .vw d)=false)
  (hk:(∃d,SV.refs id d=true∧st d=true)→E'.cur id=E.cur id∧E'.blk id=E.blk id∧Alike s id ob')
  (h:ba P w0 M0 E s a w)(hnd:Nodup s.s=true)(aa:∀b,M0 b→b<w0.w.heap.size)
  (hE:∀i,i≠id→E'.cur i=E.cur i∧E'.blk i=E.blk i∧E'.sub i=E.sub i)(hpn:(∀x∈w0.pin,x.1≠id)∨E'.blk id=E.blk id)(row:Option Nat)(hg:w.grownBy w' row)(hdr:w0.dr→w.drawn≤w'.drawn)
  (hrow:∀g,row=some g→∃ob,s.o.lookup id=some ob∧bE E id g ob)
  (hnew:∀b,bE E' id b ob'→(∃ob,s.o.lookup id=some ob∧bE E id b ob)∨w.heap.size≤b)
  (hob:(∀M v d,bJ w (cB M0 (owned E s.o) M) v d→M≠.vw→bJ w' (cB M0 (owned E' (ins id ob' (iU st s.o))) M) v d)→(∀v d,bm P M0 w E s.o v d→st d=true→bm P M0 w' E' (ins id ob' (iU st s.o)) v d)→kT P w0 M0 w' E' (ins id ob' (iU st s.o)) id ob') :
  ba P w0 M0 E' { n:=s.n,s:=s.s.filter (fun p=>st p.2),o:=ins id ob' (iU st s.o) } a w':=by
 have hN:∀i x,(if i=id then some (some ob') else(none:Option (Option Ob)))=some x→i=id∧x=some ob':=fun i x q=>by
  by_cases hi:i=id
  ·rw[if_pos hi] at q;injection q with q;exact⟨hi,q.symm⟩
  ·rw[if_neg hi] at q;cases q
 refine ba.xj st (fun i=>if i=id then some (some ob') else none) _ (fun i=>?_) hvw (fun i ob q=>?_) (fun i q=>?_) h hnd aa (fun i q=>hE i fun e=>?_) (fun x hx=>?_) row hg hdr (fun g q=>?_) (fun i ob b q hb=>?_) (fun i ob i' obx b q q' _ _=>?_) (fun rep sv _ i ob q=>?_)
 ·rw[ax,gk];by_cases hi:i=id
  ·rw[if_pos hi,if_pos hi]
  ·rw[if_neg hi,if_neg hi]
 ·obtain⟨rfl,e⟩:=hN i _ q;injection e with e;subst e;exact hk
 ·obtain⟨_,e⟩:=hN i _ q;cases e
 ·rw[if_pos e] at q;cases q
 ·by_cases hid:x.1=id
  ·rcases hpn with h1|h1
   ·exact absurd hid (h1 x hx)
   ·rw[hid,h1]
  ·exact(hE x.1 hid).2.1
 ·obtain⟨ob,h1,h2⟩:=hrow g q;exact⟨id,ob,(by rw[if_pos J];intro e;cases e),h1,h2⟩
 ·obtain⟨rfl,e⟩:=hN i _ q;injection e with e;subst e;rcases hnew b hb with⟨ob,h1,h2⟩|h1
  ·exact .inl ⟨i,ob,(by rw[if_pos rfl];intro e;cases e),h1,h2⟩
  ·exact .inr h1
 ·rw[(hN i _ q).1,(hN i' _ q').1]
 ·obtain⟨rfl,e⟩:=hN i _ q;injection e with e;subst e;exact hob rep sv
theorem hZ {id:Nat}{d:SV}(h1:SV.refs id d=true):d.stays true id=false:=by
 cases d with
 | v c x=>cases h1
 | dead=>cases h1
 | _=>show(!(true&&SV.refs id _))=false;rw[h1];rfl
theorem ba.cC {s:St}{a:Act}{id:Nat}{ob':Ob}(kill:Bool)(hkill:kill=false→E'=E∧((∃e xs xs',s.o.lookup id=some (.arr e xs)∧ob'=.arr e xs'∧xs'.length=xs.length)∨(∃e cs cs',s.o.lookup id=some (.box e cs)∧ob'=.box e cs')∨(∃ks vs ks' vs',s.o.lookup id=some (.mp ks vs)∧ob'=.mp ks' vs')))(h:ba P w0 M0 E s a w)(hnd:Nodup s.s=true)(aa:∀b,M0 b→b<w0.w.heap.size)
  (hE:∀i,i≠id→E'.cur i=E.cur i∧E'.blk i=E.blk i)(hpn:(∀x∈w0.pin,x.1≠id)∨E'.blk id=E.blk id)(row:Option Nat)(hg:w.grownBy w' row)(hdr:w0.dr→w.drawn≤w'.drawn)
  (hrow:∀g,row=some g→∃ob,s.o.lookup id=some ob∧bE E id g ob)
  (hnew:∀b,bE E' id b ob'→(∃ob,s.o.lookup id=some ob∧bE E id b ob)∨w.heap.size≤b)
  (hob:(∀M v d,bJ w (cB M0 (owned E s.o) M) v d→M≠.vw→bJ w' (cB M0 (owned E' (ins id ob' (iH kill id s.o))) M) v d)→(∀v d,bm P M0 w E s.o v d→d.stays kill id=true→bm P M0 w' E' (ins id ob' (iH kill id s.o)) v d)→kT P w0 M0 w' E' (ins id ob' (iH kill id s.o)) id ob')(hsub:∀i,i≠id→E'.sub i=E.sub i:=by exact fun _ _=>rfl) :
  ba P w0 M0 E' (s.cC kill id ob') a w':=by
 have hr:(∃d,SV.refs id d=true∧SV.stays kill id d=true)→kill=false:=fun⟨d,h1,h2⟩=>by
  cases kill with
  | false=>rfl
  | true=>rw[hZ h1] at h2;cases h2
 have hk:(∃d,SV.refs id d=true∧SV.stays kill id d=true)→E'.cur id=E.cur id∧E'.blk id=E.blk id∧Alike s id ob':=fun q=>by
  obtain⟨he,hh⟩:=hkill (hr q);refine⟨by rw[he],by rw[he],?_⟩;rcases hh with hh|hh|hh
  ·exact .inl hh
  ·exact .inr (.inl hh)
  ·exact .inr (.inr (.inl hh))
 exact ba.XM (SV.stays kill id) (fun d=>rfl) hk h hnd aa (fun i hi=>⟨(hE i hi).1,(hE i hi).2,hsub i hi⟩) hpn row hg hdr hrow hnew hob
end
end Go.Am
