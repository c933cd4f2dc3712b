/-
  Part of the proof.
-/
import Derived.Test.YtlapahnodhmcpaaGreatJ0
import Derived.Test.YtlapahnodhmcpaaGreatJ9
set_option linter.unusedVariables false
set_option linter.unusedSectionVars false
set_option linter.unusedSimpArgs false
set_option maxRecDepth 100000
set_option maxHeartbeats 40000000
namespace Go.Am
open Go.RowKit
structure Cv where
 sz:Option Nat
 ag:Option Bool
 ze:Option (List Value)
 pl:Option (List (Nat×Nat))
 fd:List (Option (Nat×Nat×Bool))
 se:Option Nat
 bt:Option Nat
def TW (P:Program)(k:TypeId):Option Nat:=match P.underlying k with
 | some (.slice e)=>some e
 | _=>none
def TX (P:Program)(k:TypeId):Option Nat:=match P.info? k with
 | some i=>bif iS P k i.size i.bytes then some i.bytes else none
 | none=>none
def Lg (P:Program)(k:TypeId):Cv:=⟨bW P k,bn P k,zeroOf P k,placesOf P k,(List.range 8).map (ew P k),TW P k,TX P k⟩
def dE (T:List (Nat×Cv))(k:TypeId):Cv:=match T.lookup k with
 | some r=>r
 | none=>⟨none,none,none,none,[],none,none⟩
def fh (P:Program)(T:List (Nat×Cv)):Prop:=(T.map fun p=>(p.1,Lg P p.1))=T∧P.follows .mixedOrders=true
theorem zB {α:Type}{k:Nat}{r:α}:∀{l:List (Nat×α)},l.lookup k=some r→(k,r)∈l
 | [],h=>by cases h
 | (u, e) :: l, h => by
   rw[ak] at h
   split at h
   · rename_i hu;subst hu;cases h;exact Z7 ..
   · exact aac _ (zB h)
theorem oe {P:Program}{T:List (Nat×Cv)}(h:fh P T)(k:TypeId):dE T k=⟨none,none,none,none,[],none,none⟩∨dE T k=Lg P k:=by
 unfold dE
 cases hl:T.lookup k with
 | none=>exact .inl rfl
 | some r =>
   right
   have hm:=zB hl
   rw[←h.1] at hm
   obtain⟨p,_,hp⟩:=aao.1 hm
   cases hp;rfl
section WW
variable {P:Program} {T:List (Nat×Cv)}(h:fh P T){k:TypeId}
include h
theorem k8 {n:Nat}(e:(dE T k).sz=some n):bW P k=some n:=by
 rcases oe h k with q|q<;>rw[q] at e
 ·cases e
 ·exact e
theorem tQ {b:Bool}(e:(dE T k).ag=some b):bn P k=some b:=by
 rcases oe h k with q|q<;>rw[q] at e
 ·cases e
 ·exact e
theorem Lh {l:List Value}(e:(dE T k).ze=some l):zeroOf P k=some l:=by
 rcases oe h k with q|q<;>rw[q] at e
 ·cases e
 ·exact e
theorem R9 {l:List (Nat×Nat)}(e:(dE T k).pl=some l):placesOf P k=some l:=by
 rcases oe h k with q|q<;>rw[q] at e
 ·cases e
 ·exact e
theorem Fo {f:Nat}{x:Nat×Nat×Bool}(e:(dE T k).fd[f]?=some (some x)):ew P k f=some x:=by
 rcases oe h k with q|q<;>rw[q] at e
 ·simp at e
 ·simp only[Lg,Z6] at e
  rcases aaq f 8 with h8|h8
  ·rw[aa5 h8] at e;simpa using e
  ·rw[aaz (by simpa using h8)] at e;cases e
theorem km {e:Nat}(q:(dE T k).se=some e):P.underlying k=some (.slice e):=by
 rcases oe h k with r|r<;>rw[r] at q
 ·cases q
 ·simp only[Lg,TW] at q
  split at q
  ·cases q;assumption
  ·cases q
theorem wQ {n b:Nat}(e:(dE T k).sz=some n)(q:(dE T k).bt=some b):iS P k n b=true:=by
 rcases oe h k with r|r<;>rw[r] at e q
 · cases q
 · simp only [Lg, bW, TX] at e q
   cases hi:P.info? k with
   | none=>rw[hi] at q;cases q
   | some i =>
     rw[hi] at e q
     simp only[aaK,Option.some.injEq] at e
     subst e
     simp only at q
     cases hb:iS P k i.size i.bytes<;>rw[hb] at q<;>cases q
     exact hb
end WW
/- Values forced, so that a run ends in plain lists. -/
section force
variable {R:Type}
def fV (v:SV)(k:SV→Option R):Option R:=match v with
 | .v c d => match c with
   | .pl=>k (.v .pl d)
   | .mx=>k (.v .mx d)
   | .vw=>k (.v .vw d)
 | .own i=>k (.own i)
 | .pel a b c=>k (.pel a b c)
 | .pbox a b=>k (.pbox a b)
 | .omap a=>k (.omap a)
 | .vsl a b c=>k (.vsl a b c)
 | .fn f l=>k (.fn f l)
 | .hid f l=>k (.hid f l)
 | .nst a=>k (.nst a)
 | .nel a b=>k (.nel a b)
 | .dead=>k .dead
theorem sJ (v:SV)(k:SV→Option R):fV v k=k v:=by
 cases v with
 | v c d=>cases c<;>rfl
 | _=>rfl
def TY:List SV→(List SV→Option R)→Option R
 | [],k=>k []
 | v :: r,k=>fV v fun v=>TY r fun r=>k (v :: r)
theorem Fp:∀ (l:List SV)(k:List SV→Option R),TY l k=k l
 | [],k=>rfl
 | v :: r,k=>by unfold TY;rw[sJ,Fp r]
def fS:List (Nat×SV)→(List (Nat×SV)→Option R)→Option R
 | [],k=>k []
 | (t,v) :: r,k=>fV v fun v=>fS r fun r=>k ((t,v) :: r)
theorem Li:∀ (l:List (Nat×SV))(k:List (Nat×SV)→Option R),fS l k=k l
 | [],k=>rfl
 | (t,v) :: r,k=>by unfold fS;rw[sJ,Li r]
def fN (ln:Option (Nat×dV))(k:Option (Nat×dV)→Option R):Option R:=match ln with
 | none=>k none
 | some (j,.no)=>k (some (j,.no))
 | some (j,.arr u)=>k (some (j,.arr u))
 | some (j,.map u)=>k (some (j,.map u))
theorem Hf (ln:Option (Nat×dV))(k:Option (Nat×dV)→Option R):fN ln k=k ln:=by
 cases ln with
 | none=>rfl
 | some p=>obtain⟨j,l⟩:=p;cases l<;>rfl
def fO:List (Nat×Ob)→(List (Nat×Ob)→Option R)→Option R
 | [],k=>k []
 | (t, ob) :: r, k => match ob with
   | .box e cs=>TY cs fun cs=>fO r fun r=>k ((t,.box e cs) :: r)
   | .arr e xs=>fO r fun r=>k ((t,.arr e xs) :: r)
   | .mp ks vs=>fO r fun r=>k ((t,.mp ks vs) :: r)
   | .nar e cs ln=>fN ln fun ln=>fO r fun r=>k ((t,.nar e cs ln) :: r)
   | .nmp ks cs ln=>fN ln fun ln=>fO r fun r=>k ((t,.nmp ks cs ln) :: r)
theorem wR:∀ (l:List (Nat×Ob))(k:List (Nat×Ob)→Option R),fO l k=k l
 | [],k=>rfl
 | (t, ob) :: r, k => by
   unfold fO
   cases ob with
   | box e cs=>simp only[Fp];rw[wR r]
   | arr e xs=>simp only[];rw[wR r]
   | mp ks vs=>simp only[];rw[wR r]
   | nar e cs ln=>simp only[Hf];rw[wR r]
   | nmp ks cs ln=>simp only[Hf];rw[wR r]
def Bb (t:Nat)(d:SV):List (Nat×SV)→(List (Nat×SV)→Option R)→Option R
 | [],k=>k [(t,d)]
 | (u,e) :: r,k=>bif Nat.blt t u then k ((t,d) :: (u,e) :: r) else bif Nat.beq t u then k ((t,d) :: r) else Bb t d r fun r=>k ((u,e) :: r)
theorem og (t:Nat)(d:SV):∀(l:List (Nat×SV))(k:List (Nat×SV)→Option R),Bb t d l k=k (ins t d l)
 | [],k=>rfl
 | (u, e) :: r, k => by
   unfold Bb ins
   by_cases h:t<u
   · have : Nat.blt t u = true := by simpa using h
     rw[this,if_pos h];rfl
   · have h1 : Nat.blt t u = false := by
       cases hq:Nat.blt t u
       · rfl
       · exact absurd (by simpa using hq) h
     rw[h1,if_neg h]
     by_cases h2:t=u
     · subst h2;rw[if_pos rfl,show Nat.beq t t=true by simp];rfl
     · rw [if_neg h2, show Nat.beq t u = false by
         cases hq:Nat.beq t u
         · rfl
         · exact absurd (aaM hq) h2]
       simp only[cond_false]
       rw[og t d r]
def fB (ob:Ob)(k:Ob→Option R):Option R:=match ob with
 | .box e cs=>TY cs fun cs=>k (.box e cs)
 | .arr e xs=>k (.arr e xs)
 | .mp ks vs=>k (.mp ks vs)
 | .nar e cs ln=>fN ln fun ln=>k (.nar e cs ln)
 | .nmp ks cs ln=>fN ln fun ln=>k (.nmp ks cs ln)
theorem Hg (ob:Ob)(k:Ob→Option R):fB ob k=k ob:=by
 cases ob with
 | box e cs=>exact Fp _ _
 | nar e cs ln=>exact Hf ln fun ln=>k (.nar e cs ln)
 | nmp ks cs ln=>exact Hf ln fun ln=>k (.nmp ks cs ln)
 | _=>rfl
def oZ {α:Type}(f:α→(α→Option R)→Option R):List Nat→List (Nat×α)→(List (Nat×α)→Option R)→Option R
 | [],_,k=>k []
 | t :: ts, l, k => match l.lookup t with
   | some d=>f d fun d=>oZ f ts l fun r=>k ((t,d) :: r)
   | none=>none
theorem iV {α:Type}{f:α→(α→Option R)→Option R}(hf:∀d k,f d k=k d):∀(ts:List Nat)(l:List (Nat×α))(k:List (Nat×α)→Option R)(r:R),oZ f ts l k=some r→∃l',k l'=some r∧∀x∈l',l.lookup x.1=some x.2
 | [],_,k,r,h=>⟨[],h,fun x hx=>by cases hx⟩
 | t :: ts, l, k, r, h => by
   unfold oZ at h
   cases hl:l.lookup t with
   | none=>rw[hl] at h;cases h
   | some d =>
     rw[hl] at h
     simp only[hf] at h
     obtain⟨l',h1,h2⟩:=iV hf ts l _ r h
     exact⟨_,h1,fun x hx=>by
       rcases aah.1 hx with rfl|hx
       · exact hl
       · exact h2 x hx⟩
end force
theorem kn {s:St}:∀{l:List (Nat×SV)},(∀x∈l,s.s.lookup x.1=some x.2)→Has s l
 | [],_=>trivial
 | (t,d) :: r,h=>⟨h (t,d) (Z7 ..),kn fun x hx=>h x (aac _ hx)⟩
theorem kN {s:St}:∀{l:List (Nat×Ob)},(∀x∈l,s.o.lookup x.1=some x.2)→vI s l
 | [],_=>trivial
 | (t,d) :: r,h=>⟨h (t,d) (Z7 ..),kN fun x hx=>h x (aac _ hx)⟩
/- One operation. -/
def i64 (ρ:Operand→Option SV)(x:Operand):Option Int:=match bj ρ x with
 | some (.int .i64 a)=>some a
 | _=>none
def bl (b:Bool):Option SV:=some (.v .pl (.sc (.bool b)))
def TZ (op:BinOp)(a b:Int):Option SV:=match op with
 | .lss=>bl (decide (a<b))
 | .leq=>bl (decide (a≤b))
 | .gtr=>bl (decide (b<a))
 | .geq=>bl (decide (b≤a))
 | .eql=>bl (decide (a=b))
 | .neq=>bl (!decide (a=b))
 | _=>none
def C1 (T : List (Nat × Cv)) (o : Oper) (ρ : Operand → Option SV) (ob : List (Nat × Ob)) : Option SV := match o.op with
 | .move x=>ρ x
 | .assign x=>ρ x
 | .pick c x y => match bj ρ c with
   | some (.bool true)=>ρ x
   | some (.bool false)=>ρ y
   | _=>none
 | .binOp op t x y t' => match i64 ρ x, i64 ρ y with
   | some a,some b=>TZ op a b
   | _,_=>none
 | .unOp .not t x => match bj ρ x with
   | some (.bool q)=>bl (!q)
   | _=>none
 | .load t x => match ρ x with
   | some (.v c (.pc cs off)) => match (dE T t).ag with
     | some false => match cs[off]? with
       | some el=>some (.v c el)
       | none=>none
     | some true => match (dE T t).sz with
       | some k=>bif Nat.ble (off+k) cs.length then some (.v c (.agg ((cs.drop off).take k))) else none
       | none=>none
     | none=>none
   | some (.pbox id off) => match ob.lookup id with
     | some (.box e cs) => match (dE T t).ag with
       | some false=>cs[off]?
       | some true => match (dE T t).sz with
         | some k => bif Nat.ble (off + k) cs.length then match jy ob ((cs.drop off).take k) with
           | some (c,az)=>some (.v c (.agg az))
           | none=>none else none
         | none=>none
       | none=>none
     | _=>none
   | _=>none
 | .fieldAddr t x f => match (dE T t).fd[f]? with
   | some (some (fo, fk + 1, fg)) => match ρ x with
     | some (.v c (.pc cs off))=>some (.v c (.pc cs (off+fo)))
     | some (.pbox id off) => match ob.lookup id with
       | some (.box e cs)=>some (.pbox id (off+fo))
       | _=>none
     | _=>none
   | _=>none
 | .nilCheck x => match ρ x with
   | some (.pbox id off) => match ob.lookup id with
     | some (.box e cs)=>some (.pbox id off)
     | _=>none
   | _=>none
 | .build t parts => match (dE T t).pl with
   | some pl => match (dE T t).ze with
     | some zs => bif zs.all Value.oneCell' then match lC ρ ob parts.toList with
       | some (c, ps) => match zq pl (zs.map .sc) ps with
         | some r=>some (.v c (.agg r))
         | none=>none
       | none=>none else none
     | none=>none
   | none=>none
 | .extract x i => match ρ x with
   | some (.v c (.tup vs)) => match vs[i]? with
     | some el=>some (.v c el)
     | none=>none
   | _=>none
 | .field t x f => match (dE T t).fd[f]? with
   | some (some (fo, fk + 1, false)) => match viewAt ρ ob x with
     | some (c, .agg az) => match az[fo]? with
       | some a=>some (.v c a)
       | none=>none
     | _=>none
   | _=>none
 | _=>none
def QT:fQ→Bool
 | .vw=>false
 | _=>true
def Lj (T : List (Nat × Cv)) (o : Oper) (s : St) : Option St := match o.op with
 | .alloc t => match o.dst with
   | some d => match (dE T t).ze with
     | some zs=>bif Nat.blt d s.n&&(Nat.blt d 1000000&&(Nodup s.s&&zs.all Value.oneCell')) then some ((s.cD true d (.box t (zs.map fun z=>.v .pl (.sc z)))).put d (.pbox d 0)) else none
     | none=>none
   | none=>none
 | .store t x y => match o.dst with
   | some _=>none
   | none => match s.ev x with
     | some (.pbox id off) => match s.o.lookup id with
       | some (.box e cs) => match (dE T t).sz with
         | some k => match s.ev y with
           | some (.v c a)=>bif QT c&&(Nodup s.s&&(jj a&&(Nat.beq (cY (.v c a)).length k&&Nat.ble (off+k) cs.length))) then some (s.cD false id (.box e (qW (c3 id cs) off (cY (.v c a))))) else none
           | some (.own j) => match s.o.lookup j with
             | some (.arr e' xs)=>bif Nodup s.s&&(Nat.beq k 1&&Nat.ble (off+1) cs.length) then some (s.cD false id (.box e (qW (c3 id cs) off [.own j]))) else none
             | _=>none
           | _=>none
         | none=>none
       | _=>none
     | _=>none
 | _=>none
def WX {R:Type}(T:List (Nat×Cv))(o:Oper)(s:St)(k:St→Option R):Option R:=match s with
 | ⟨m, l, ob⟩ => match C1 T o (St.ev ⟨m, l, ob⟩) ob with
   | some d => match o.dst with
     | some t=>bif Nat.blt t m then fV d fun d=>Bb t d l fun l=>k ⟨m,l,ob⟩ else none
     | none=>none
   | none => match Lj T o ⟨m, l, ob⟩ with
     | some s'=>fS s'.s fun l=>fO s'.o fun ob=>k ⟨m,l,ob⟩
     | none=>none
section
variable {P:Program} {w0:Fr}{M0:Nat→Prop}{T:List (Nat×Cv)}{o:Oper}{ρ:Operand→Option SV}{ob:List (Nat×Ob)}{d:SV}
theorem Lk {x:Operand}{a:Int}(h:i64 ρ x=some a):bj ρ x=some (.int .i64 a):=by
 unfold i64 at h
 split at h
 ·rename_i b hb;cases h;exact hb
 ·cases h
theorem wT (hT:fh P T) (h:C1 T o ρ ob=some d):Pure P w0 M0 o ρ ob d:=by
 unfold C1 at h
 split at h
 · exact af ‹_› h
 · exact dn ‹_› h
 · split at h
   · exact zi (z:=true) ‹_› ‹_› h
   · exact zi (z:=false) ‹_› ‹_› h
   · cases h
 · split at h
   · rename_i a b ha hb
     have ha:=Lk ha
     have hb:=Lk hb
     unfold TZ bl at h
     split at h<;>cases h
     · exact KG ‹_› ha hb
     · exact KH ‹_› ha hb
     · exact KI ‹_› ha hb
     · exact KJ ‹_› ha hb
     · exact jK ‹_› ha hb
     · exact gU ‹_› ha hb
   · cases h
 · split at h
   · cases h;exact sC ‹_› ‹_›
   · cases h
 · split at h
   · split at h
     · split at h
       · cases h;exact cA ‹_› (tQ hT ‹_›) ‹_› ‹_›
       · cases h
     · split at h
       · rename_i k hk
         cases hb:Nat.ble (_+k) _<;>rw[hb] at h<;>simp only[cond_true,cond_false] at h<;>cases h
         exact aM ‹_› (tQ hT ‹_›) (k8 hT hk) ‹_› (ZZ hb)
       · cases h
     · cases h
   · split at h
     · split at h
       · exact ae ‹_› (tQ hT ‹_›) ‹_› ‹_› h
       · split at h
         · rename_i k hk
           cases hb:Nat.ble (_+k) _<;>rw[hb] at h<;>simp only[cond_true,cond_false] at h
           · cases h
           · split at h
             · cases h;exact eU ‹_› (tQ hT ‹_›) (k8 hT hk) ‹_› ‹_› hb ‹_›
             · cases h
         · cases h
       · cases h
     · cases h
   · cases h
 · split at h
   · split at h
     · cases h;exact b9 ‹_› (Fo hT ‹_›) ‹_›
     · split at h
       · cases h;exact aK ‹_› (Fo hT ‹_›) ‹_› ‹_›
       · cases h
     · cases h
   · cases h
 · split at h
   · split at h
     · cases h;exact gX ‹_› ‹_› ‹_›
     · cases h
   · cases h
 · split at h
   · split at h
     · rename_i zs hz
       cases hb:zs.all Value.oneCell'<;>rw[hb] at h<;>simp only[cond_true,cond_false] at h
       · cases h
       · split at h
         · split at h
           · cases h;exact aF ‹_› (R9 hT ‹_›) (Lh hT hz) hb ‹_› ‹_›
           · cases h
         · cases h
     · cases h
   · cases h
 · split at h
   · split at h
     · cases h;exact nW ‹_› ‹_› ‹_›
     · cases h
   · cases h
 · split at h
   · split at h
     · split at h
       · cases h;exact CQ ‹_› (Fo hT ‹_›) ‹_› ‹_›
       · cases h
     · cases h
   · cases h
 · cases h
theorem Ll {s s':St} (hT:fh P T) (aa:∀ b,M0 b→b<w0.w.heap.size) (h:Lj T o s=some s'):Step P w0 M0 o s s'∧s'.n=s.n:=by
 unfold Lj at h
 split at h
 · split at h
   · split at h
     · rename_i t _ d hd _ zs hz
       cases hb:Nat.blt d s.n&&(Nat.blt d 1000000&&(Nodup s.s&&zs.all Value.oneCell'))<;>rw[hb] at h<;>simp only[cond_true,cond_false] at h<;>cases h
       simp only[aae] at hb
       obtain⟨b1,b2,b3,b4⟩:=hb
       exact⟨cM ‹_› hd b1 b2 b3 (Lh hT hz) b4 aa,rfl⟩
     · cases h
   · cases h
 · split at h
   · cases h
   · split at h
     · split at h
       · split at h
         · rename_i k hk
           split at h
           · rename_i c a hy
             cases hb:QT c&&(Nodup s.s&&(jj a&&(Nat.beq (cY (.v c a)).length k&&Nat.ble (_+k) _)))<;>rw[hb] at h<;>simp only[cond_true,cond_false] at h<;>cases h
             simp only[aae] at hb
             obtain⟨b0,b1,b2,b3,b4⟩:=hb
             exact⟨aV ‹_› ‹_› b1 (k8 hT hk) ‹_› ‹_› hy b2 (by rintro rfl;cases b0) (aaM b3) b4 aa,rfl⟩
           · split at h
             · cases hb : Nodup s.s && (Nat.beq k 1 && Nat.ble (_ + 1) _) <;> rw [hb] at h <;> simp only [cond_true, cond_false] at h <;> cases h
               simp only[aae] at hb
               obtain⟨b1,b2,b3⟩:=hb
               have:=aaM b2
               subst this
               exact⟨aU ‹_› ‹_› b1 (k8 hT hk) ‹_› ‹_› ‹_› ‹_› b3 aa,rfl⟩
             · cases h
           · cases h
         · cases h
       · cases h
     · cases h
 · cases h
theorem Sa {R:Type}{s:St}{k:St→Option R}{r:R}(hT:fh P T)(aa:∀b,M0 b→b<w0.w.heap.size)(h:WX T o s k=some r):∃s',Step P w0 M0 o s s'∧k s'=some r:=by
 unfold WX at h
 obtain⟨m,l,ob⟩:=s
 simp only at h
 split at h
 · rename_i d hd
   split at h
   · rename_i t ht
     cases hb:Nat.blt t m<;>rw[hb] at h<;>simp only[cond_true,cond_false] at h
     · cases h
     · rw [sJ, og] at h
       exact⟨_,lB ht (by simpa using hb) (wT hT hd),h⟩
   · cases h
 · split at h
   · rename_i s' hs
     rw[Li,wR] at h
     obtain⟨h1,h2⟩:=Ll (P:=P) (w0:=w0) (M0:=M0) hT aa hs
     obtain⟨m',l',o'⟩:=s'
     simp only at h2
     subst h2
     exact⟨_,h1,h⟩
   · cases h
/- Control. -/
inductive Fm where
 | seq (y:Code)
 | blk (id:Nat)
 | scope
 | loop (I:Nat→St→Prop)(m:Nat)
 | cut (R:St→Prop)
inductive Cf where
 | code (c:Code)
 | ops (a:Array Oper)(r:List Oper)
 | drw (a:Array Oper)(r:List Oper)(i:Nat)
 | done (e:Exit)
def toQ (P:Program)(w0:Fr)(M0:Nat→Prop)(Q:Exit→St→Prop):List Fm→Exit→St→Prop
 | []=>Q
 | .seq y :: k=>OM P w0 M0 y (toQ P w0 M0 Q k)
 | .blk i :: k=>rA i (toQ P w0 M0 Q k)
 | .scope :: k=>K7 (toQ P w0 M0 Q k)
 | .loop I m :: k=>KR P w0 M0 I m (toQ P w0 M0 Q k)
 | .cut R :: k=>R3 P w0 M0 R (toQ P w0 M0 Q k)
@[reducible] def At (P:Program)(w0:Fr)(M0:Nat→Prop)(Q:Exit→St→Prop)(k:List Fm)(cf:Cf)(s:St):Prop:=match cf with
 | .code c=>ao P w0 M0 c s (toQ P w0 M0 Q k)
 | .ops a r=>ki P w0 M0 a (toQ P w0 M0 Q k .normal) r s
 | .drw a r i=>j9 P w0 M0 a (toQ P w0 M0 Q k .normal) r i s
 | .done e=>toQ P w0 M0 Q k e s
def xr (T : List (Nat × Cv)) : Nat → Cf → List Fm → St → Option (Cf × List Fm × St)
 | 0,cf,k,s=>some (cf,k,s)
 | n + 1, .code c, k, s => match c with
   | .seq x y=>xr T n (.code x) (.seq y :: k) s
   | .block id c=>xr T n (.code c) (.blk id :: k) s
   | .scope c=>xr T n (.code c) (.scope :: k) s
   | .skip=>xr T n (.done .normal) k s
   | .label _=>xr T n (.done .normal) k s
   | .ret=>xr T n (.done .ret) k s
   | .exit id=>xr T n (.done (.exit id)) k s
   | .region _ ops dr => match dr with
     | false=>xr T n (.ops ops ops.toList) k s
     | true=>none
   | .cond x a b => match x with
     | .tmp t => match bj s.ev (.tmp t) with
       | some (.bool true)=>xr T n (.code a) k s
       | some (.bool false)=>xr T n (.code b) k s
       | _=>none
     | _=>none
   | _=>none
 | n + 1, .ops a l, k, s => match l with
   | []=>xr T n (.done .normal) k s
   | o :: r => match guardOf a s.ev o with
     | some true=>WX T o s fun s=>xr T n (.ops a r) k s
     | some false => match o.dst with
       | some t => match s with
         | ⟨m,l,ob⟩=>bif Nat.blt t m then Bb t (.v .pl (.tup [])) l fun l=>xr T n (.ops a r) k ⟨m,l,ob⟩ else none
       | none=>none
     | none=>none
 | n + 1, .drw a l i, k, s => match l with
   | []=>xr T n (.done .normal) k s
   | o :: r => match s with
     | ⟨m, sl, ob⟩ => match guardOf a (St.ev ⟨m, sl, ob⟩) o with
       | some true => match C1 T o (ff a o (St.ev ⟨m, sl, ob⟩)) ob with
         | some d => match o.dst with
           | some t=>bif Nat.blt t m then fV d fun d=>Bb t d sl fun sl=>xr T n (.drw a r (i+1)) k ⟨m,sl,ob⟩ else none
           | none=>none
         | none=>none
       | some false => match o.dst with
         | some t=>bif Nat.blt t m then Bb t (.v .pl (.tup [])) sl fun sl=>xr T n (.drw a r (i+1)) k ⟨m,sl,ob⟩ else none
         | none=>none
       | none=>none
 | n + 1, .done e, k, s => match k with
   | []=>none
   | f :: k => match f with
     | .seq y => match e with
       | .normal=>xr T n (.code y) k s
       | e=>xr T n (.done e) k s
     | .blk id => match e with
       | .exit i=>bif Nat.beq i id then xr T n (.done .normal) k s else xr T n (.done (.exit i)) k s
       | e=>xr T n (.done e) k s
     | .scope => match e with
       | .goto _=>none
       | e=>xr T n (.done e) k s
     | .loop I m => match e with
       | .normal=>none
       | e=>xr T n (.done e) k s
     | .cut R => match e with
       | .normal=>none
       | e=>xr T n (.done e) k s
def QU (T:List (Nat×Cv)) (n:Nat) (ids oids:List Nat) (cf:Cf) (k:List Fm) (s:St):Option (Cf×List Fm×St) :=
 match xr T n cf k s with
 | some (cf, k, s) => match s with
   | ⟨m, l, o⟩ => match cf with
     | .done e => match e, k with
       | .normal,.loop I m' :: k=>oZ fV ids l fun l=>oZ fB oids o fun o=>some (.done .normal,.loop I m' :: k,⟨m,l,o⟩)
       | .normal,.cut R :: k=>oZ fV ids l fun l=>oZ fB oids o fun o=>some (.done .normal,.cut R :: k,⟨m,l,o⟩)
       | e,k=>some (.done e,k,⟨m,l,o⟩)
     | .code c=>oZ fV ids l fun l=>oZ fB oids o fun o=>some (.code c,k,⟨m,l,o⟩)
     | .ops a r=>oZ fV ids l fun l=>oZ fB oids o fun o=>some (.ops a r,k,⟨m,l,o⟩)
     | .drw a r i=>oZ fV ids l fun l=>some (.drw a r i,k,⟨m,l,o⟩)
 | none=>none
variable {Q:Exit→St→Prop}
theorem qZ (hT:fh P T) (aa:∀ b,M0 b→b<w0.w.heap.size):∀ (n:Nat) (cf:Cf) (k:List Fm) (s:St) (r:Cf×List Fm×St),xr T n cf k s=some r→At P w0 M0 Q r.2.1 r.1 r.2.2→At P w0 M0 Q k cf s
 | 0,cf,k,s,r,h,hq=>by cases h;exact hq
 | n + 1, .code c, k, s, r, h, hq => by
   have ih:=fun cf k s h=>qZ hT aa n cf k s r h hq
   unfold xr at h
   cases c with
   | skip=>exact IA (ih _ _ _ h)
   | seq x y=>exact CK (ih _ _ _ h)
   | block id c=>exact Fb (ih _ _ _ h)
   | scope c=>exact Fi (ih _ _ _ h)
   | label l=>exact Fj (ih _ _ _ h)
   | ret=>exact KO (ih _ _ _ h)
   | exit i=>exact IB (ih _ _ _ h)
   | region id ops dr =>
     cases dr with
     | false=>exact KQ _ rfl (ih (.ops ops ops.toList) _ _ h)
     | true=>cases h
   | cond x a b =>
     cases x with
     | tmp t =>
       simp only at h
       split at h
       · exact CN ‹_› (ih _ _ _ h)
       · exact CO ‹_› (ih _ _ _ h)
       · cases h
     | _=>cases h
   | _=>cases h
 | n + 1, .ops a l, k, s, r, h, hq => by
   have ih:=fun cf k s h=>qZ hT aa n cf k s r h hq
   unfold xr at h
   cases l with
   | nil=>exact RY (ih _ _ _ h)
   | cons o l =>
     simp only at h
     split at h
     · rename_i hg
       obtain⟨s',h1,h2⟩:=Sa (P:=P) (w0:=w0) (M0:=M0) hT aa h
       exact⟨s,fJ.refl _,s',.inl ⟨hg,h1⟩,ih (.ops a l) _ _ h2⟩
     · rename_i hg
       split at h
       · rename_i t ht
         obtain⟨m,sl,ob⟩:=s
         simp only at h
         cases hb:Nat.blt t m<;>rw[hb] at h<;>simp only[cond_true,cond_false] at h
         · cases h
         · rw [og] at h
           exact IC hg ht hb (ih (.ops a l) _ _ h)
       · cases h
     · cases h
 | n + 1, .drw a l i, k, s, r, h, hq => by
   have ih:=fun cf k s h=>qZ hT aa n cf k s r h hq
   unfold xr at h
   cases l with
   | nil=>exact RZ (ih _ _ _ h)
   | cons o l =>
     obtain⟨m,sl,ob⟩:=s
     simp only at h
     split at h
     · rename_i hg
       split at h
       · rename_i d hd
         split at h
         · rename_i t ht
           cases hb:Nat.blt t m<;>rw[hb] at h<;>simp only[cond_true,cond_false] at h
           · cases h
           · rw [sJ, og] at h
             have hn:t<m:=by simpa using hb
             exact⟨_,Sub.refl _,.inl ⟨t,ht,hn,true,hg,d,fun _=>wT hT hd,fun h=>(by cases h),ih (.drw a l (i+1)) _ _ h⟩⟩
         · cases h
       · cases h
     · rename_i hg
       split at h
       · rename_i t ht
         cases hb:Nat.blt t m<;>rw[hb] at h<;>simp only[cond_true,cond_false] at h
         · cases h
         · rw [og] at h
           exact ID hg ht hb (ih (.drw a l (i+1)) _ _ h)
       · cases h
     · cases h
 | n + 1, .done e, k, s, r, h, hq => by
   have ih:=fun cf k s h=>qZ hT aa n cf k s r h hq
   unfold xr at h
   cases k with
   | nil=>cases h
   | cons f k =>
     have hd:∀e,xr T n (.done e) k s=some r→toQ P w0 M0 Q k e s:=fun e h=>ih (.done e) k s h
     have hc:∀y,xr T n (.code y) k s=some r→ao P w0 M0 y s (toQ P w0 M0 Q k):=fun y h=>ih (.code y) k s h
     cases f with
     | seq y=>cases e<;>first|exact hc y h|exact hd _ h
     | scope=>cases e<;>first|cases h;done|exact hd _ h
     | loop I m=>cases e<;>first|cases h;done|exact hd _ h
     | cut R=>cases e<;>first|cases h;done|exact hd _ h
     | blk id =>
       cases e with
       | exit i =>
         simp only at h
         cases hb:Nat.beq i id<;>rw[hb] at h<;>simp only[cond_true,cond_false] at h
         · exact A1 (hd _ h) hb
         · have := aaM hb
           subst this
           exact CM (hd _ h)
       | _=>exact hd _ h
theorem tR (hT:fh P T)(aa:∀b,M0 b→b<w0.w.heap.size)(n:Nat)(ids oids:List Nat){cf cf':Cf}{k k':List Fm}{s s':St}(h:QU T n ids oids cf k s=some (cf',k',s'))(hk:At P w0 M0 Q k' cf' s'):At P w0 M0 Q k cf s:=by
 unfold QU at h
 split at h
 · rename_i cf1 k1 s1 hx
   obtain⟨m,l,o⟩:=s1
   refine qZ hT aa n cf k s _ hx ?_
   cases cf1 with
   | done e =>
     simp only at h
     split at h
     · obtain ⟨l', h1, h2⟩ := iV sJ _ _ _ _ h
       obtain⟨o',h3,h4⟩:=iV Hg _ _ _ _ h1
       cases h3
       obtain⟨m2,s2,hi,hI⟩:=hk
       exact⟨m2,s2,(sx (s:=⟨m,l,o⟩) (kn h2) (kN h4)).trans hi,hI⟩
     · obtain ⟨l', h1, h2⟩ := iV sJ _ _ _ _ h
       obtain⟨o',h3,h4⟩:=iV Hg _ _ _ _ h1
       cases h3
       obtain⟨s2,hi,hI⟩:=hk
       exact⟨s2,(sx (s:=⟨m,l,o⟩) (kn h2) (kN h4)).trans hi,hI⟩
     · cases h;exact hk
   | code c =>
     obtain⟨l',h1,h2⟩:=iV sJ _ _ _ _ h
     obtain⟨o',h3,h4⟩:=iV Hg _ _ _ _ h1
     cases h3
     exact ao.imp (sx (s:=⟨m,l,o⟩) (kn h2) (kN h4)) hk
   | ops a r =>
     obtain⟨l',h1,h2⟩:=iV sJ _ _ _ _ h
     obtain⟨o',h3,h4⟩:=iV Hg _ _ _ _ h1
     cases h3
     exact ki.imp (sx (s:=⟨m,l,o⟩) (kn h2) (kN h4)) hk
   | drw a r i =>
     obtain⟨l',h1,h2⟩:=iV sJ _ _ _ _ h
     cases h1
     exact ON m l' o J J (kn h2) hk
 · cases h
section forms
variable {cf':Cf} {k k':List Fm}{s:St}{n':Nat}{l':List (Nat×SV)}{o':List (Nat×Ob)}(hT:fh P T)(aa:∀b,M0 b→b<w0.w.heap.size)(n:Nat)(ids oids:List Nat)
include hT aa
end forms
theorem nx {I:Nat→St→Prop}{m:Nat}{k:List Fm}{s:St}(h:∃m',I m' s∧m'<m):At P w0 M0 Q (.loop I m :: k) (.done .normal) s:=by
 obtain⟨m',hI,hm⟩:=h
 exact⟨m',s,fJ.refl _,hI,hm⟩
theorem cx {R:St→Prop}{k:List Fm}{s:St}(h:R s):At P w0 M0 Q (.cut R :: k) (.done .normal) s:=⟨s,fJ.refl _,h⟩
theorem lp {c:Code}{k:List Fm}{s:St}(I:Nat→St→Prop)(h0:∃m,I m s)(hr:∀m s,I m s→At P w0 M0 Q (.loop I m :: k) (.code c) s):At P w0 M0 Q k (.code (.loop c)) s:=by
 obtain⟨m,h0⟩:=h0
 exact Fe I ⟨m,s,fJ.refl _,h0⟩ hr
theorem ct {x y:Code}{k:List Fm}{s:St}(R:St→Prop)(h:At P w0 M0 Q (.cut R :: k) (.code x) s)(h':∀s,R s→At P w0 M0 Q k (.code y) s):At P w0 M0 Q k (.code (.seq x y)) s:=KZ R h h'
def C2 (a:Array Oper)(o:Oper)(s:St):Option Nat:=match guardOf a s.ev o with
 | some true => match o.dst with
   | some t=>bif Nat.blt t s.n then some t else none
   | none=>none
 | _=>none
theorem oP {a:Array Oper}{r:List Oper}{k:List Fm}{n:Nat}{l:List (Nat×SV)}{t:Nat}(hd:C2 a o ⟨n,l,ob⟩=some t)(h:Pure P w0 M0 o (St.ev ⟨n,l,ob⟩) ob d)(hr:At P w0 M0 Q k (.ops a r) ⟨n,ins t d l,ob⟩):At P w0 M0 Q k (.ops a (o :: r)) ⟨n,l,ob⟩:=by
 unfold C2 at hd
 split at hd
 ·rename_i hg
  split at hd
  ·rename_i u hu
   cases hb:Nat.blt u n<;>rw[hb] at hd<;>simp only[cond_true,cond_false] at hd<;>cases hd
   exact⟨_,fJ.refl _,_,.inl ⟨hg,lB hu (by simpa using hb) h⟩,hr⟩
  ·cases hd
 ·cases hd
theorem oS {a:Array Oper}{r:List Oper}{k:List Fm}{n:Nat}{l:List (Nat×SV)}{s':St}(hg:guardOf a (St.ev ⟨n,l,ob⟩) o=some true)(h:Step P w0 M0 o ⟨n,l,ob⟩ s')(hn:s'.n=n)(hr:At P w0 M0 Q k (.ops a r) ⟨n,s'.s,s'.o⟩):At P w0 M0 Q k (.ops a (o :: r)) ⟨n,l,ob⟩:=by
 subst hn
 exact⟨_,fJ.refl _,_,.inl ⟨hg,h⟩,hr⟩
class Ix (n:Int)(k:outParam Nat):Prop where
 h:n.toNat=k
instance (i:Nat):Ix (i:Int) i:=⟨abl i⟩
instance (i:Nat):Ix (Int.ofNat i) i:=⟨rfl⟩
instance:Ix 0 0:=⟨rfl⟩
instance:Ix 1 1:=⟨rfl⟩
instance:Ix 2 2:=⟨rfl⟩
instance (priority:=low) (n:Int):Ix n n.toNat:=⟨rfl⟩
theorem ee {α:Type} [Inhabited α]{f:α→AV}{l:List α}{ob:List (Nat×Ob)}{x y:Operand}{T e:TypeId}{c:fQ}{k:Nat}{q:IntKind}{n:Int}{i:Nat}(ho:o.op=.indexAddr T x y)(hT:P.underlying T=some (.slice e))(hk:bW P e=some k)
  (hx:viewAt ρ ob x=some (c,.sl (l.map f)))(hy:bj ρ y=some (.int q n)) [hi:Ix n i](h:0≤n∧n<l.length)(hc:∀z,(AV.cells (f z)).length=k) :
  Pure P w0 M0 o ρ ob (.v c (.pc (AV.cells (f (l.getD i default))) 0)):=by
 have:=pb (P:=P) (w0:=w0) (M0:=M0) ho hT hk hx hy h hc
 rwa [hi.h] at this
theorem sK {s:St}{t:Nat}{z:Bool}(h:bj s.ev (.tmp t)=some (.bool z)):fJ P w0 M0 s (s.put t (.v .pl (.sc (.bool z)))):=by
 rintro a w ⟨E,hs⟩
 have hv:a.eval (.tmp t)=.bool z:=ck (ρ:=s.ev) (x:=.tmp t) (ob:=s.o) (ev:=a.eval) (fun x e hx=>hs.ev hx) h
 refine⟨E,hs.size,hs.defers,fun u d hd=>?_,hs.wok⟩
 simp only[St.put] at hd ⊢
 rw[ax] at hd
 split at hd
 · rename_i hu
   subst hu
   cases hd
   unfold bj at h
   cases hl:s.s.lookup u with
   | none=>simp[St.ev,hl] at h
   | some e =>
     refine⟨(hs.slots u e hl).1,?_⟩
     have:a.tmps.getD u undef=.bool z:=hv
     rw[this];exact .sc _ rfl
 · exact hs.slots u d hd
section split
variable {k:List Fm}{n:Nat}{l:List (Nat×SV)}(t:Nat){b:Bool}
theorem YY {c:Code}(hb:bj (St.ev ⟨n,l,ob⟩) (.tmp t)=some (.bool b))(h1:b=true→At P w0 M0 Q k (.code c) ⟨n,ins t (.v .pl (.sc (.bool true))) l,ob⟩)(h0:b=false→At P w0 M0 Q k (.code c) ⟨n,ins t (.v .pl (.sc (.bool false))) l,ob⟩):At P w0 M0 Q k (.code c) ⟨n,l,ob⟩:=by
 cases b
 ·exact ao.imp (sK hb) (h0 rfl)
 ·exact ao.imp (sK hb) (h1 rfl)
theorem Zl {a:Array Oper}{r:List Oper}(hb:bj (St.ev ⟨n,l,ob⟩) (.tmp t)=some (.bool b))(h1:b=true→At P w0 M0 Q k (.ops a r) ⟨n,ins t (.v .pl (.sc (.bool true))) l,ob⟩)(h0:b=false→At P w0 M0 Q k (.ops a r) ⟨n,ins t (.v .pl (.sc (.bool false))) l,ob⟩):At P w0 M0 Q k (.ops a r) ⟨n,l,ob⟩:=by
 cases b
 ·exact ki.imp (sK hb) (h0 rfl)
 ·exact ki.imp (sK hb) (h1 rfl)
end split
end
open Go.RowKit
section
variable {P:Program} {w0:Fr}{M0:Nat→Prop}{o:Oper}{ρ:Operand→Option SV}{ob:List (Nat×Ob)}{x y z:Operand}{T e:TypeId}{k id off:Nat}{c:fQ}{cs:List SV}
theorem fa {α:Type}{f:α→AV}{l:List α}{q':IntKind}{j:Int}(ho:o.op=.slice T x none (some z) none)(hT:P.underlying T=some (.slice e))(hk:bW P e=some k)(hx:viewAt ρ ob x=some (c,.sl (l.map f)))(hz:bj ρ z=some (.int q' j))
  (h:0≤j∧j≤l.length)(hxk:∀z,(AV.cells (f z)).length=k):Pure P w0 M0 o ρ ob (.v c (.sl ((l.take j.toNat).map f))):=by
 have:=sD (P:=P) (w0:=w0) (M0:=M0) ho hT hk hx hz (by simpa using h) (mB hxk)
 rwa [←List.map_take] at this
theorem pq {q:IntKind}{i:Int}{n:Nat}{e':TypeId}(ho:o.op=.indexAddr T x y)(hT:P.underlying T=some (.array n e))(hk:bW P e=some 1)(hx:ρ x=some (.pbox id off))(hl:ob.lookup id=some (.box e' cs))(hy:bj ρ y=some (.int q i))(h:0≤i∧i<n) :
  Pure P w0 M0 o ρ ob (.pbox id (off+i.toNat)) :=
 aE fun E w ev hw hh=>by
  have hr:=hh x _ hx e' cs hl
  have hi:=ck hh hy
  have hel:P.elem T=e:=by simp[Program.elem,hT]
  have hal:P.arrayLen T=n:=by simp[Program.arrayLen,hT]
  have hin:0≤i∧i<(n:Int):=h
  refine⟨_,w,by simp[execOp,ho,hr,hi,run_indexAt_array,hel,hal,hT,hin,dx hk,Addr.add_lit];rfl,.refl _ _,fun e2 cs2 h'=>?_⟩
  rfl
theorem C3 {s:St}(t:Nat)(e:TypeId)(aa:∀b,M0 b→b<w0.w.heap.size)(hnd:Nodup s.s=true)(ht:s.s.lookup t=some (.v .pl (.sc (.slice none 0 0)))):fJ P w0 M0 s ((s.cD true t (.arr e [])).put t (.own t)):=by
 rintro a w ⟨E,hs⟩
 have hsl:=hs.slots t _ ht
 have hv:a.tmps.getD t undef=.slice none 0 0:=by
  have h5:bJ w _ (a.tmps.getD t undef) (.sc (.slice none 0 0)):=hsl.2
  generalize a.tmps.getD t undef=u at h5 ⊢
  cases h5;rfl
 have h1:=hs.nZ (t:=t) (e:=e) (xs:=[]) (v:=.slice none 0 0) hnd aa (w':=w) ⟨rfl,rfl,rfl,Z1 _,fun _ _ _=>rfl⟩ (fun _=>Z1 _) (vals:=[]) (World.ownsRow_nil w _ _ _) (fun b hb=>by cases hb) (fun x hx=>by cases hx) (fun j d hd=>by simp[flat] at hd)
 refine⟨_,h1.size,h1.defers,fun u d hd=>?_,h1.wok⟩
 simp only[St.put] at hd ⊢
 rw[ax] at hd
 split at hd
 ·rename_i hu
  subst hu
  cases hd
  refine⟨hsl.1,?_⟩
  rw[hv];exact e8
 ·exact h1.slots u d hd
theorem Bc {s:St}{y:Code}{Q:Exit→St→Prop}(t:Nat)(e:TypeId)(aa:∀b,M0 b→b<w0.w.heap.size)(hnd:Nodup s.s=true)(ht:s.s.lookup t=some (.v .pl (.sc (.slice none 0 0))))(h:ao P w0 M0 y ((s.cD true t (.arr e [])).put t (.own t)) Q):ao P w0 M0 y s Q :=
 ao.imp (C3 t e aa hnd ht) h
theorem iz (p:SV→Bool):∀(X:List (Nat×SV))(t:Nat)(d:SV),Nodup X=true→X.lookup t=some d→p d=true→(X.filter fun q=>p q.2).lookup t=some d
 | [],t,d,_,h,_=>by simp at h
 | (u, e) :: r, t, d, hn, h, hs => by
   rw[ak] at h
   simp only[Nodup,aae,aaJ] at hn
   rw[aaN]
   by_cases q:t=u
   · rw [if_pos q] at h
     simp only[Option.some.injEq] at h
     subst h
     rw[if_pos hs,ak,if_pos q]
   · rw [if_neg q] at h
     have ih:=iz p r t d hn.2 h hs
     split
     · rw[ak,if_neg q];exact ih
     · exact ih
theorem fz {G:List (Nat×SV)}{t:Nat}(h:(G.all fun p=>p.2.stays true t||Nat.beq p.1 t)=true){u:Nat}{d:SV}(hl:G.lookup u=some d)(hne:u≠t):d.stays true t=true:=by
 have:=aam.1 h _ (dD hl)
 rw[aaO] at this
 rcases this with h1|h1
 ·exact h1
 ·exact absurd (aaM h1) hne
theorem sM {α:Type}{f:α→AV}{l:List α}{X:List (Nat×SV)}{o1 o2:List (Nat×Ob)}{n t u v b:Nat}(ho:o.op=.call { callee:=.builtin .append,args:=#[.tmp u,.tmp v],argTypes:=#[T,T] })(hd:o.dst=some t)(hn:Nat.blt t n=true)(hnd:Nodup X=true)
  (hT:P.underlying T=some (.slice e))(hel:iS P e k b=true)(hu:X.lookup u=some (.v c (.sc (.slice none 0 0))))(hv:X.lookup v=some (.v .pl (.sl (l.map f))))(hf:∀z,(AV.cells (f z)).length=k)
  (hb:(l.map f).length*b≤140737488355328)(hm:(l.map f).length≤4611686018427387904)(hs:∀t' d,X.lookup t'=some d→t'≠t→d.stays true t=true)(ho2:ins t (.arr e (l.map f)) (iE true t o1)=o2)(aa:∀b,M0 b→b<w0.w.heap.size) :
  ∃s',Step P w0 M0 o ⟨n,X,o1⟩ s'∧fJ P w0 M0 s' ⟨n,ins t (.own t) X,o2⟩:=by
 have h1:bj (⟨n,X,o1⟩:St).ev (.tmp u)=some (.slice none 0 0):=by simp only[bj,St.ev,hu];rfl
 have h2:viewAt (⟨n,X,o1⟩:St).ev (⟨n,X,o1⟩:St).o (.tmp v)=some (.pl,.sl (l.map f)):=by simp only[viewAt,St.ev,hv];rfl
 refine⟨_,vJ (s:=⟨n,X,o1⟩) (ys:=l.map f) ho hd hn hnd hT hel h1 aa (gI h2 hf) hb hm,?_⟩
 refine eL J ho2.symm fun t' d ht'=>?_
 rw[ax] at ht'
 show(ins t (SV.own t) _).lookup t'=some d
 rw[ax]
 by_cases q:t'=t
 ·rw[if_pos q] at ht' ⊢;exact ht'
 ·rw[if_neg q] at ht' ⊢
  exact iz (fun e=>e.stays true t) X t' d hnd ht' (hs t' d ht' q)
end
end Go.Am
