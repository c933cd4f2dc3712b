/-
  Part of the proof.
-/
import Derived.Test.YtlapahnodhmcpaaGreatJ0
import Derived.Test.YtlapahnodhmcpaaGreatJ9
set_option linter.unusedVariables false
set_option linter.unusedSectionVars false
set_option linter.unusedSimpArgs false
set_option maxRecDepth 100000
set_option maxHeartbeats 40000000
namespace Go.Am
open Go.RowKit
structure Da where
 sz:Option Nat
 ag:Option Bool
 ze:Option (List Value)
 pl:Option (List (Nat×Nat))
 fd:List (Option (Nat×Nat×Bool))
 se:Option Nat
 bt:Option Nat
def UE (P:Program)(k:TypeId):Option Nat:=match P.underlying k with
 | some (.slice e)=>some e
 | _=>none
def UF (P:Program)(k:TypeId):Option Nat:=match P.info? k with
 | some i=>bif iK P k i.size i.bytes then some i.bytes else none
 | none=>none
def L1 (P:Program)(k:TypeId):Da:=⟨bY P k,bo P k,zeroOf P k,placesOf P k,(List.range 8).map (pv P k),UE P k,UF P k⟩
def dB (T:List (Nat×Da))(k:TypeId):Da:=match T.lookup k with
 | some r=>r
 | none=>⟨none,none,none,none,[],none,none⟩
def eX (P:Program)(T:List (Nat×Da)):Prop:=(T.map fun p=>(p.1,L1 P p.1))=T∧P.follows .mixedOrders=true
theorem Aq {α:Type}{k:Nat}{r:α}:∀{l:List (Nat×α)},l.lookup k=some r→(k,r)∈l
 | [],h=>by cases h
 | (u, e) :: l, h => by
   rw[aj] at h;split at h
   · rename_i hu;subst hu;cases h;exact aaq ..
   · exact aav _ (Aq h)
theorem oG {P:Program}{T:List (Nat×Da)}(h:eX P T)(k:TypeId):dB T k=⟨none,none,none,none,[],none,none⟩∨dB T k=L1 P k:=by
 unfold dB;cases hl:T.lookup k with
 | none=>exact .inl rfl
 | some r =>
   right;have hm:=Aq hl;rw[←h.1] at hm;obtain⟨p,_,hp⟩:=aaG.1 hm;cases hp;rfl
section XN
variable {P:Program} {T:List (Nat×Da)}(h:eX P T){k:TypeId}
include h
theorem lk {n:Nat}(e:(dB T k).sz=some n):bY P k=some n:=by
 rcases oG h k with q|q<;>rw[q] at e
 ·cases e
 ·exact e
theorem uo {b:Bool}(e:(dB T k).ag=some b):bo P k=some b:=by
 rcases oG h k with q|q<;>rw[q] at e
 ·cases e
 ·exact e
theorem L2 {l:List Value}(e:(dB T k).ze=some l):zeroOf P k=some l:=by
 rcases oG h k with q|q<;>rw[q] at e
 ·cases e
 ·exact e
theorem SY {l:List (Nat×Nat)}(e:(dB T k).pl=some l):placesOf P k=some l:=by
 rcases oG h k with q|q<;>rw[q] at e
 ·cases e
 ·exact e
theorem Gd {f:Nat}{x:Nat×Nat×Bool}(e:(dB T k).fd[f]?=some (some x)):pv P k f=some x:=by
 rcases oG h k with q|q<;>rw[q] at e
 ·simp at e
 ·simp only[L1,aap] at e;rcases aaK f 8 with h8|h8
  ·rw[abr h8] at e;simpa using e
  ·rw[aaR (by simpa using h8)] at e;cases e
theorem ky {e:Nat}(q:(dB T k).se=some e):P.underlying k=some (.slice e):=by
 rcases oG h k with r|r<;>rw[r] at q
 ·cases q
 ·simp only[L1,UE] at q;split at q
  ·cases q;assumption
  ·cases q
theorem xu {n b:Nat}(e:(dB T k).sz=some n)(q:(dB T k).bt=some b):iK P k n b=true:=by
 rcases oG h k with r|r<;>rw[r] at e q
 · cases q
 · simp only [L1, bY, UF] at e q
   cases hi:P.info? k with
   | none=>rw[hi] at q;cases q
   | some i =>
     rw[hi] at e q;simp only[aa3,aaj] at e;subst e;simp only at q;cases hb:iK P k i.size i.bytes<;>rw[hb] at q<;>cases q;exact hb
end XN
/- Values forced, so that a run ends in plain lists. -/
section force
variable {R:Type}
def fV (v:SV)(k:SV→Option R):Option R:=match v with
 | .v c d => match c with
   | .pl=>k (.v .pl d)
   | .mx=>k (.v .mx d)
   | .vw=>k (.v .vw d)
 | .own i=>k (.own i)
 | .pel a b c=>k (.pel a b c)
 | .pbox a b=>k (.pbox a b)
 | .omap a=>k (.omap a)
 | .vsl a b c=>k (.vsl a b c)
 | .fn f l=>k (.fn f l)
 | .hid f l=>k (.hid f l)
 | .nst a=>k (.nst a)
 | .nel a b=>k (.nel a b)
 | .dead=>k .dead
theorem s9 (v:SV)(k:SV→Option R):fV v k=k v:=by
 cases v with
 | v c d=>cases c<;>rfl
 | _=>rfl
def UG:List SV→(List SV→Option R)→Option R
 | [],k=>k []
 | v :: r,k=>fV v fun v=>UG r fun r=>k (v :: r)
theorem Ge:∀ (l:List SV)(k:List SV→Option R),UG l k=k l
 | [],k=>rfl
 | v :: r,k=>by unfold UG;rw[s9,Ge r]
def fS:List (Nat×SV)→(List (Nat×SV)→Option R)→Option R
 | [],k=>k []
 | (t,v) :: r,k=>fV v fun v=>fS r fun r=>k ((t,v) :: r)
theorem L3:∀ (l:List (Nat×SV))(k:List (Nat×SV)→Option R),fS l k=k l
 | [],k=>rfl
 | (t,v) :: r,k=>by unfold fS;rw[s9,L3 r]
def fN (ln:Option (Nat×dX))(k:Option (Nat×dX)→Option R):Option R:=match ln with
 | none=>k none
 | some (j,.no)=>k (some (j,.no))
 | some (j,.arr u)=>k (some (j,.arr u))
 | some (j,.map u)=>k (some (j,.map u))
theorem HX (ln:Option (Nat×dX))(k:Option (Nat×dX)→Option R):fN ln k=k ln:=by
 cases ln with
 | none=>rfl
 | some p=>obtain⟨j,l⟩:=p;cases l<;>rfl
def fO:List (Nat×Ob)→(List (Nat×Ob)→Option R)→Option R
 | [],k=>k []
 | (t, ob) :: r, k => match ob with
   | .box e cs=>UG cs fun cs=>fO r fun r=>k ((t,.box e cs) :: r)
   | .arr e xs=>fO r fun r=>k ((t,.arr e xs) :: r)
   | .mp ks vs=>fO r fun r=>k ((t,.mp ks vs) :: r)
   | .nar e cs ln=>fN ln fun ln=>fO r fun r=>k ((t,.nar e cs ln) :: r)
   | .nmp ks cs ln=>fN ln fun ln=>fO r fun r=>k ((t,.nmp ks cs ln) :: r)
theorem xv:∀ (l:List (Nat×Ob))(k:List (Nat×Ob)→Option R),fO l k=k l
 | [],k=>rfl
 | (t, ob) :: r, k => by
   unfold fO;cases ob with
   | box e cs=>simp only[Ge];rw[xv r]
   | arr e xs=>simp only[];rw[xv r]
   | mp ks vs=>simp only[];rw[xv r]
   | nar e cs ln=>simp only[HX];rw[xv r]
   | nmp ks cs ln=>simp only[HX];rw[xv r]
def BS (t:Nat)(d:SV):List (Nat×SV)→(List (Nat×SV)→Option R)→Option R
 | [],k=>k [(t,d)]
 | (u,e) :: r,k=>bif Nat.blt t u then k ((t,d) :: (u,e) :: r) else bif Nat.beq t u then k ((t,d) :: r) else BS t d r fun r=>k ((u,e) :: r)
theorem oH (t:Nat)(d:SV):∀(l:List (Nat×SV))(k:List (Nat×SV)→Option R),BS t d l k=k (ins t d l)
 | [],k=>rfl
 | (u, e) :: r, k => by
   unfold BS ins;by_cases h:t<u
   · have : Nat.blt t u = true := by simpa using h
     rw[this,if_pos h];rfl
   · have h1 : Nat.blt t u = false := by
       cases hq:Nat.blt t u
       · rfl
       · exact absurd (by simpa using hq) h
     rw[h1,if_neg h];by_cases h2:t=u
     · subst h2;rw[if_pos rfl,show Nat.beq t t=true by simp];rfl
     · rw [if_neg h2, show Nat.beq t u = false by
         cases hq:Nat.beq t u
         · rfl
         · exact absurd (aa7 hq) h2]
       simp only[cond_false];rw[oH t d r]
def fB (ob:Ob)(k:Ob→Option R):Option R:=match ob with
 | .box e cs=>UG cs fun cs=>k (.box e cs)
 | .arr e xs=>k (.arr e xs)
 | .mp ks vs=>k (.mp ks vs)
 | .nar e cs ln=>fN ln fun ln=>k (.nar e cs ln)
 | .nmp ks cs ln=>fN ln fun ln=>k (.nmp ks cs ln)
theorem DL (ob:Ob)(k:Ob→Option R):fB ob k=k ob:=by
 cases ob with
 | box e cs=>exact Ge _ _
 | nar e cs ln=>exact HX ln fun ln=>k (.nar e cs ln)
 | nmp ks cs ln=>exact HX ln fun ln=>k (.nmp ks cs ln)
 | _=>rfl
def nF {α:Type}(f:α→(α→Option R)→Option R):List Nat→List (Nat×α)→(List (Nat×α)→Option R)→Option R
 | [],_,k=>k []
 | t :: ts, l, k => match l.lookup t with
   | some d=>f d fun d=>nF f ts l fun r=>k ((t,d) :: r)
   | none=>none
theorem ic {α:Type}{f:α→(α→Option R)→Option R}(hf:∀d k,f d k=k d):∀(ts:List Nat)(l:List (Nat×α))(k:List (Nat×α)→Option R)(r:R),nF f ts l k=some r→∃l',k l'=some r∧∀x∈l',l.lookup x.1=some x.2
 | [],_,k,r,h=>⟨[],h,fun x hx=>by cases hx⟩
 | t :: ts, l, k, r, h => by
   unfold nF at h;cases hl:l.lookup t with
   | none=>rw[hl] at h;cases h
   | some d =>
     rw[hl] at h;simp only[hf] at h;obtain⟨l',h1,h2⟩:=ic hf ts l _ r h;exact⟨_,h1,fun x hx=>by
       rcases aaC.1 hx with rfl|hx
       · exact hl
       · exact h2 x hx⟩
end force
theorem kz {s:St}:∀{l:List (Nat×SV)},(∀x∈l,s.s.lookup x.1=some x.2)→Has s l
 | [],_=>trivial
 | (t,d) :: r,h=>⟨h (t,d) (aaq ..),kz fun x hx=>h x (aav _ hx)⟩
theorem jC {s:St}:∀{l:List (Nat×Ob)},(∀x∈l,s.o.lookup x.1=some x.2)→wg s l
 | [],_=>trivial
 | (t,d) :: r,h=>⟨h (t,d) (aaq ..),jC fun x hx=>h x (aav _ hx)⟩
/- One operation. -/
def i64 (ρ:Operand→Option SV)(x:Operand):Option Int:=match aZ ρ x with
 | some (.int .i64 a)=>some a
 | _=>none
def bl (b:Bool):Option SV:=some (.v .pl (.sc (.bool b)))
def UH (op:BinOp)(a b:Int):Option SV:=match op with
 | .lss=>bl (decide (a<b))
 | .leq=>bl (decide (a≤b))
 | .gtr=>bl (decide (b<a))
 | .geq=>bl (decide (b≤a))
 | .eql=>bl (decide (a=b))
 | .neq=>bl (!decide (a=b))
 | _=>none
def DM (T : List (Nat × Da)) (o : Oper) (ρ : Operand → Option SV) (ob : List (Nat × Ob)) : Option SV := match o.op with
 | .move x=>ρ x
 | .assign x=>ρ x
 | .pick c x y => match aZ ρ c with
   | some (.bool true)=>ρ x
   | some (.bool false)=>ρ y
   | _=>none
 | .binOp op t x y t' => match i64 ρ x, i64 ρ y with
   | some a,some b=>UH op a b
   | _,_=>none
 | .unOp .not t x => match aZ ρ x with
   | some (.bool q)=>bl (!q)
   | _=>none
 | .load t x => match ρ x with
   | some (.v c (.pc cs off)) => match (dB T t).ag with
     | some false => match cs[off]? with
       | some el=>some (.v c el)
       | none=>none
     | some true => match (dB T t).sz with
       | some k=>bif Nat.ble (off+k) cs.length then some (.v c (.agg ((cs.drop off).take k))) else none
       | none=>none
     | none=>none
   | some (.pbox id off) => match ob.lookup id with
     | some (.box e cs) => match (dB T t).ag with
       | some false=>cs[off]?
       | some true => match (dB T t).sz with
         | some k => bif Nat.ble (off + k) cs.length then match jA ob ((cs.drop off).take k) with
           | some (c,az)=>some (.v c (.agg az))
           | none=>none else none
         | none=>none
       | none=>none
     | _=>none
   | _=>none
 | .fieldAddr t x f => match (dB T t).fd[f]? with
   | some (some (fo, fk + 1, fg)) => match ρ x with
     | some (.v c (.pc cs off))=>some (.v c (.pc cs (off+fo)))
     | some (.pbox id off) => match ob.lookup id with
       | some (.box e cs)=>some (.pbox id (off+fo))
       | _=>none
     | _=>none
   | _=>none
 | .nilCheck x => match ρ x with
   | some (.pbox id off) => match ob.lookup id with
     | some (.box e cs)=>some (.pbox id off)
     | _=>none
   | _=>none
 | .build t parts => match (dB T t).pl with
   | some pl => match (dB T t).ze with
     | some zs => bif zs.all Value.oneCell' then match lS ρ ob parts.toList with
       | some (c, ps) => match Ai pl (zs.map .sc) ps with
         | some r=>some (.v c (.agg r))
         | none=>none
       | none=>none else none
     | none=>none
   | none=>none
 | .extract x i => match ρ x with
   | some (.v c (.tup vs)) => match vs[i]? with
     | some el=>some (.v c el)
     | none=>none
   | _=>none
 | .field t x f => match (dB T t).fd[f]? with
   | some (some (fo, fk + 1, false)) => match viewAt ρ ob x with
     | some (c, .agg az) => match az[fo]? with
       | some a=>some (.v c a)
       | none=>none
     | _=>none
   | _=>none
 | _=>none
def RF:fW→Bool
 | .vw=>false
 | _=>true
def L4 (T : List (Nat × Da)) (o : Oper) (s : St) : Option St := match o.op with
 | .alloc t => match o.dst with
   | some d => match (dB T t).ze with
     | some zs=>bif Nat.blt d s.n&&(Nat.blt d 1000000&&(Nodup s.s&&zs.all Value.oneCell')) then some ((s.cC true d (.box t (zs.map fun z=>.v .pl (.sc z)))).put d (.pbox d 0)) else none
     | none=>none
   | none=>none
 | .store t x y => match o.dst with
   | some _=>none
   | none => match s.ev x with
     | some (.pbox id off) => match s.o.lookup id with
       | some (.box e cs) => match (dB T t).sz with
         | some k => match s.ev y with
           | some (.v c a)=>bif RF c&&(Nodup s.s&&(jm a&&(Nat.beq (c3 (.v c a)).length k&&Nat.ble (off+k) cs.length))) then some (s.cC false id (.box e (rH (c5 id cs) off (c3 (.v c a))))) else none
           | some (.own j) => match s.o.lookup j with
             | some (.arr e' xs)=>bif Nodup s.s&&(Nat.beq k 1&&Nat.ble (off+1) cs.length) then some (s.cC false id (.box e (rH (c5 id cs) off [.own j]))) else none
             | _=>none
           | _=>none
         | none=>none
       | _=>none
     | _=>none
 | _=>none
def XO {R:Type}(T:List (Nat×Da))(o:Oper)(s:St)(k:St→Option R):Option R:=match s with
 | ⟨m, l, ob⟩ => match DM T o (St.ev ⟨m, l, ob⟩) ob with
   | some d => match o.dst with
     | some t=>bif Nat.blt t m then fV d fun d=>BS t d l fun l=>k ⟨m,l,ob⟩ else none
     | none=>none
   | none => match L4 T o ⟨m, l, ob⟩ with
     | some s'=>fS s'.s fun l=>fO s'.o fun ob=>k ⟨m,l,ob⟩
     | none=>none
variable{α:Type}{s':St}{a:Array Oper}{r:List Oper}
section
variable {P:Program} {w0:Fr}{M0:Nat→Prop}{T:List (Nat×Da)}{o:Oper}{ρ:Operand→Option SV}{ob:List (Nat×Ob)}{d:SV}
theorem L5 {x:Operand}{a:Int}(h:i64 ρ x=some a):aZ ρ x=some (.int .i64 a):=by
 unfold i64 at h;split at h
 ·rename_i b hb;cases h;exact hb
 ·cases h
theorem xw (hT:eX P T) (h:DM T o ρ ob=some d):Pure P w0 M0 o ρ ob d:=by
 unfold DM at h;split at h
 · exact cH ‹_› h
 · exact hU ‹_› h
 · split at h
   · exact Ab (z:=true) ‹_› ‹_› h
   · exact Ab (z:=false) ‹_› ‹_› h
   · cases h
 · split at h
   · rename_i a b ha hb
     have ha:=L5 ha;have hb:=L5 hb;unfold UH bl at h;split at h<;>cases h
     · exact Lp ‹_› ha hb
     · exact Lq ‹_› ha hb
     · exact Lr ‹_› ha hb
     · exact Ls ‹_› ha hb
     · exact jO ‹_› ha hb
     · exact cZ ‹_› ha hb
   · cases h
 · split at h
   · cases h;exact jT ‹_› ‹_›
   · cases h
 · split at h
   · split at h
     · split at h
       · cases h;exact Ac ‹_› (uo hT ‹_›) ‹_› ‹_›
       · cases h
     · split at h
       · rename_i k hk
         cases hb:Nat.ble (_+k) _<;>rw[hb] at h<;>simp only[cond_true,cond_false] at h<;>cases h;exact aG ‹_› (uo hT ‹_›) (lk hT hk) ‹_› (aah hb)
       · cases h
     · cases h
   · split at h
     · split at h
       · exact ae ‹_› (uo hT ‹_›) ‹_› ‹_› h
       · split at h
         · rename_i k hk
           cases hb:Nat.ble (_+k) _<;>rw[hb] at h<;>simp only[cond_true,cond_false] at h
           · cases h
           · split at h
             · cases h;exact jR ‹_› (uo hT ‹_›) (lk hT hk) ‹_› ‹_› hb ‹_›
             · cases h
         · cases h
       · cases h
     · cases h
   · cases h
 · split at h
   · split at h
     · cases h;exact FY ‹_› (Gd hT ‹_›) ‹_›
     · split at h
       · cases h;exact xk ‹_› (Gd hT ‹_›) ‹_› ‹_›
       · cases h
     · cases h
   · cases h
 · split at h
   · split at h
     · cases h;exact DK ‹_› ‹_› ‹_›
     · cases h
   · cases h
 · split at h
   · split at h
     · rename_i zs hz
       cases hb:zs.all Value.oneCell'<;>rw[hb] at h<;>simp only[cond_true,cond_false] at h
       · cases h
       · split at h
         · split at h
           · cases h;exact aT ‹_› (SY hT ‹_›) (L2 hT hz) hb ‹_› ‹_›
           · cases h
         · cases h
     · cases h
   · cases h
 · split at h
   · split at h
     · cases h;exact BD ‹_› ‹_› ‹_›
     · cases h
   · cases h
 · split at h
   · split at h
     · split at h
       · cases h;exact Dx ‹_› (Gd hT ‹_›) ‹_› ‹_›
       · cases h
     · cases h
   · cases h
 · cases h
theorem L6 {s:St} (hT:eX P T) (aa:∀ b,M0 b→b<w0.w.heap.size) (h:L4 T o s=some s'):Step P w0 M0 o s s'∧s'.n=s.n:=by
 unfold L4 at h;split at h
 · split at h
   · split at h
     · rename_i t _ d hd _ zs hz
       cases hb:Nat.blt d s.n&&(Nat.blt d 1000000&&(Nodup s.s&&zs.all Value.oneCell'))<;>rw[hb] at h<;>simp only[cond_true,cond_false] at h<;>cases h;simp only[aax] at hb;obtain⟨b1,b2,b3,b4⟩:=hb;exact⟨cM ‹_› hd b1 b2 b3 (L2 hT hz) b4 aa,rfl⟩
     · cases h
   · cases h
 · split at h
   · cases h
   · split at h
     · split at h
       · split at h
         · rename_i k hk
           split at h
           · rename_i c a hy
             cases hb:RF c&&(Nodup s.s&&(jm a&&(Nat.beq (c3 (.v c a)).length k&&Nat.ble (_+k) _)))<;>rw[hb] at h<;>simp only[cond_true,cond_false] at h<;>cases h;simp only[aax] at hb;obtain⟨b0,b1,b2,b3,b4⟩:=hb;exact⟨aW ‹_› ‹_› b1 (lk hT hk) ‹_› ‹_› hy b2 (by rintro rfl;cases b0) (aa7 b3) b4 aa,rfl⟩
           · split at h
             · cases hb : Nodup s.s && (Nat.beq k 1 && Nat.ble (_ + 1) _) <;> rw [hb] at h <;> simp only [cond_true, cond_false] at h <;> cases h
               simp only[aax] at hb;obtain⟨b1,b2,b3⟩:=hb;have:=aa7 b2;subst this;exact⟨aV ‹_› ‹_› b1 (lk hT hk) ‹_› ‹_› ‹_› ‹_› b3 aa,rfl⟩
             · cases h
           · cases h
         · cases h
       · cases h
     · cases h
 · cases h
theorem SZ {R:Type}{s:St}{k:St→Option R}{r:R}(hT:eX P T)(aa:∀b,M0 b→b<w0.w.heap.size)(h:XO T o s k=some r):∃s',Step P w0 M0 o s s'∧k s'=some r:=by
 unfold XO at h;obtain⟨m,l,ob⟩:=s;simp only at h;split at h
 · rename_i d hd
   split at h
   · rename_i t ht
     cases hb:Nat.blt t m<;>rw[hb] at h<;>simp only[cond_true,cond_false] at h
     · cases h
     · rw [s9, oH] at h
       exact⟨_,lR ht (by simpa using hb) (xw hT hd),h⟩
   · cases h
 · split at h
   · rename_i s' hs
     rw[L3,xv] at h;obtain⟨h1,h2⟩:=L6 (P:=P) (w0:=w0) (M0:=M0) hT aa hs;obtain⟨m',l',o'⟩:=s';simp only at h2;subst h2;exact⟨_,h1,h⟩
   · cases h
/- Control. -/
inductive Fm where
 | seq (y:Code)
 | blk (id:Nat)
 | scope
 | loop (I:Nat→St→Prop)(m:Nat)
 | cut (R:St→Prop)
inductive Cf where
 | code (c:Code)
 | ops (a:Array Oper)(r:List Oper)
 | drw (a:Array Oper)(r:List Oper)(i:Nat)
 | done (e:Exit)
def toQ (P:Program)(w0:Fr)(M0:Nat→Prop)(Q:Exit→St→Prop):List Fm→Exit→St→Prop
 | []=>Q
 | .seq y :: k=>Pz P w0 M0 y (toQ P w0 M0 Q k)
 | .blk i :: k=>rY i (toQ P w0 M0 Q k)
 | .scope :: k=>LR (toQ P w0 M0 Q k)
 | .loop I m :: k=>LA P w0 M0 I m (toQ P w0 M0 Q k)
 | .cut R :: k=>SQ P w0 M0 R (toQ P w0 M0 Q k)
@[reducible] def At (P:Program)(w0:Fr)(M0:Nat→Prop)(Q:Exit→St→Prop)(k:List Fm)(cf:Cf)(s:St):Prop:=match cf with
 | .code c=>ao P w0 M0 c s (toQ P w0 M0 Q k)
 | .ops a r=>kr P w0 M0 a (toQ P w0 M0 Q k .normal) r s
 | .drw a r i=>kj P w0 M0 a (toQ P w0 M0 Q k .normal) r i s
 | .done e=>toQ P w0 M0 Q k e s
def xr (T : List (Nat × Da)) : Nat → Cf → List Fm → St → Option (Cf × List Fm × St)
 | 0,cf,k,s=>some (cf,k,s)
 | n + 1, .code c, k, s => match c with
   | .seq x y=>xr T n (.code x) (.seq y :: k) s
   | .block id c=>xr T n (.code c) (.blk id :: k) s
   | .scope c=>xr T n (.code c) (.scope :: k) s
   | .skip=>xr T n (.done .normal) k s
   | .label _=>xr T n (.done .normal) k s
   | .ret=>xr T n (.done .ret) k s
   | .exit id=>xr T n (.done (.exit id)) k s
   | .region _ ops dr => match dr with
     | false=>xr T n (.ops ops ops.toList) k s
     | true=>none
   | .cond x a b => match x with
     | .tmp t => match aZ s.ev (.tmp t) with
       | some (.bool true)=>xr T n (.code a) k s
       | some (.bool false)=>xr T n (.code b) k s
       | _=>none
     | _=>none
   | _=>none
 | n + 1, .ops a l, k, s => match l with
   | []=>xr T n (.done .normal) k s
   | o :: r => match guardOf a s.ev o with
     | some true=>XO T o s fun s=>xr T n (.ops a r) k s
     | some false => match o.dst with
       | some t => match s with
         | ⟨m,l,ob⟩=>bif Nat.blt t m then BS t (.v .pl (.tup [])) l fun l=>xr T n (.ops a r) k ⟨m,l,ob⟩ else none
       | none=>none
     | none=>none
 | n + 1, .drw a l i, k, s => match l with
   | []=>xr T n (.done .normal) k s
   | o :: r => match s with
     | ⟨m, sl, ob⟩ => match guardOf a (St.ev ⟨m, sl, ob⟩) o with
       | some true => match DM T o (fq a o (St.ev ⟨m, sl, ob⟩)) ob with
         | some d => match o.dst with
           | some t=>bif Nat.blt t m then fV d fun d=>BS t d sl fun sl=>xr T n (.drw a r (i+1)) k ⟨m,sl,ob⟩ else none
           | none=>none
         | none=>none
       | some false => match o.dst with
         | some t=>bif Nat.blt t m then BS t (.v .pl (.tup [])) sl fun sl=>xr T n (.drw a r (i+1)) k ⟨m,sl,ob⟩ else none
         | none=>none
       | none=>none
 | n + 1, .done e, k, s => match k with
   | []=>none
   | f :: k => match f with
     | .seq y => match e with
       | .normal=>xr T n (.code y) k s
       | e=>xr T n (.done e) k s
     | .blk id => match e with
       | .exit i=>bif Nat.beq i id then xr T n (.done .normal) k s else xr T n (.done (.exit i)) k s
       | e=>xr T n (.done e) k s
     | .scope => match e with
       | .goto _=>none
       | e=>xr T n (.done e) k s
     | .loop I m => match e with
       | .normal=>none
       | e=>xr T n (.done e) k s
     | .cut R => match e with
       | .normal=>none
       | e=>xr T n (.done e) k s
def RG (T:List (Nat×Da)) (n:Nat) (ids oids:List Nat) (cf:Cf) (k:List Fm) (s:St):Option (Cf×List Fm×St) :=
 match xr T n cf k s with
 | some (cf, k, s) => match s with
   | ⟨m, l, o⟩ => match cf with
     | .done e => match e, k with
       | .normal,.loop I m' :: k=>nF fV ids l fun l=>nF fB oids o fun o=>some (.done .normal,.loop I m' :: k,⟨m,l,o⟩)
       | .normal,.cut R :: k=>nF fV ids l fun l=>nF fB oids o fun o=>some (.done .normal,.cut R :: k,⟨m,l,o⟩)
       | e,k=>some (.done e,k,⟨m,l,o⟩)
     | .code c=>nF fV ids l fun l=>nF fB oids o fun o=>some (.code c,k,⟨m,l,o⟩)
     | .ops a r=>nF fV ids l fun l=>nF fB oids o fun o=>some (.ops a r,k,⟨m,l,o⟩)
     | .drw a r i=>nF fV ids l fun l=>some (.drw a r i,k,⟨m,l,o⟩)
 | none=>none
variable {Q:Exit→St→Prop}
theorem rK (hT:eX P T) (aa:∀ b,M0 b→b<w0.w.heap.size):∀ (n:Nat) (cf:Cf) (k:List Fm) (s:St) (r:Cf×List Fm×St),xr T n cf k s=some r→At P w0 M0 Q r.2.1 r.1 r.2.2→At P w0 M0 Q k cf s
 | 0,cf,k,s,r,h,hq=>by cases h;exact hq
 | n + 1, .code c, k, s, r, h, hq => by
   have ih:=fun cf k s h=>rK hT aa n cf k s r h hq
   unfold xr at h;cases c with
   | skip=>exact Ji (ih _ _ _ h)
   | seq x y=>exact Dp (ih _ _ _ h)
   | block id c=>exact F3 (ih _ _ _ h)
   | scope c=>exact F9 (ih _ _ _ h)
   | label l=>exact Ga (ih _ _ _ h)
   | ret=>exact Lx (ih _ _ _ h)
   | exit i=>exact Jj (ih _ _ _ h)
   | region id ops dr =>
     cases dr with
     | false=>exact Lz _ rfl (ih (.ops ops ops.toList) _ _ h)
     | true=>cases h
   | cond x a b =>
     cases x with
     | tmp t =>
       simp only at h;split at h
       · exact Dt ‹_› (ih _ _ _ h)
       · exact Du ‹_› (ih _ _ _ h)
       · cases h
     | _=>cases h
   | _=>cases h
 | n + 1, .ops a l, k, s, r, h, hq => by
   have ih:=fun cf k s h=>rK hT aa n cf k s r h hq
   unfold xr at h;cases l with
   | nil=>exact SL (ih _ _ _ h)
   | cons o l =>
     simp only at h;split at h
     · rename_i hg
       obtain⟨s',h1,h2⟩:=SZ (P:=P) (w0:=w0) (M0:=M0) hT aa h;exact⟨s,fF.refl _,s',.inl ⟨hg,h1⟩,ih (.ops a l) _ _ h2⟩
     · rename_i hg
       split at h
       · rename_i t ht
         obtain⟨m,sl,ob⟩:=s;simp only at h;cases hb:Nat.blt t m<;>rw[hb] at h<;>simp only[cond_true,cond_false] at h
         · cases h
         · rw [oH] at h
           exact Jk hg ht hb (ih (.ops a l) _ _ h)
       · cases h
     · cases h
 | n + 1, .drw a l i, k, s, r, h, hq => by
   have ih:=fun cf k s h=>rK hT aa n cf k s r h hq
   unfold xr at h;cases l with
   | nil=>exact SM (ih _ _ _ h)
   | cons o l =>
     obtain⟨m,sl,ob⟩:=s;simp only at h;split at h
     · rename_i hg
       split at h
       · rename_i d hd
         split at h
         · rename_i t ht
           cases hb:Nat.blt t m<;>rw[hb] at h<;>simp only[cond_true,cond_false] at h
           · cases h
           · rw [s9, oH] at h
             have hn:t<m:=by simpa using hb
             exact⟨_,Sub.refl _,.inl ⟨t,ht,hn,true,hg,d,fun _=>xw hT hd,fun h=>(by cases h),ih (.drw a l (i+1)) _ _ h⟩⟩
         · cases h
       · cases h
     · rename_i hg
       split at h
       · rename_i t ht
         cases hb:Nat.blt t m<;>rw[hb] at h<;>simp only[cond_true,cond_false] at h
         · cases h
         · rw [oH] at h
           exact Jl hg ht hb (ih (.drw a l (i+1)) _ _ h)
       · cases h
     · cases h
 | n + 1, .done e, k, s, r, h, hq => by
   have ih:=fun cf k s h=>rK hT aa n cf k s r h hq
   unfold xr at h;cases k with
   | nil=>cases h
   | cons f k =>
     have hd:∀e,xr T n (.done e) k s=some r→toQ P w0 M0 Q k e s:=fun e h=>ih (.done e) k s h
     have hc:∀y,xr T n (.code y) k s=some r→ao P w0 M0 y s (toQ P w0 M0 Q k):=fun y h=>ih (.code y) k s h
     cases f with
     | seq y=>cases e<;>first|exact hc y h|exact hd _ h
     | scope=>cases e<;>first|cases h;done|exact hd _ h
     | loop I m=>cases e<;>first|cases h;done|exact hd _ h
     | cut R=>cases e<;>first|cases h;done|exact hd _ h
     | blk id =>
       cases e with
       | exit i =>
         simp only at h;cases hb:Nat.beq i id<;>rw[hb] at h<;>simp only[cond_true,cond_false] at h
         · exact BH (hd _ h) hb
         · have := aa7 hb
           subst this;exact Dr (hd _ h)
       | _=>exact hd _ h
theorem uq (hT:eX P T)(aa:∀b,M0 b→b<w0.w.heap.size)(n:Nat)(ids oids:List Nat){cf cf':Cf}{k k':List Fm}{s:St}(h:RG T n ids oids cf k s=some (cf',k',s'))(hk:At P w0 M0 Q k' cf' s'):At P w0 M0 Q k cf s:=by
 unfold RG at h;split at h
 · rename_i cf1 k1 s1 hx
   obtain⟨m,l,o⟩:=s1;refine rK hT aa n cf k s _ hx ?_;cases cf1 with
   | done e =>
     simp only at h;split at h
     · obtain ⟨l', h1, h2⟩ := ic s9 _ _ _ _ h
       obtain⟨o',h3,h4⟩:=ic DL _ _ _ _ h1;cases h3;obtain⟨m2,s2,hi,hI⟩:=hk;exact⟨m2,s2,(sU (s:=⟨m,l,o⟩) (kz h2) (jC h4)).trans hi,hI⟩
     · obtain ⟨l', h1, h2⟩ := ic s9 _ _ _ _ h
       obtain⟨o',h3,h4⟩:=ic DL _ _ _ _ h1;cases h3;obtain⟨s2,hi,hI⟩:=hk;exact⟨s2,(sU (s:=⟨m,l,o⟩) (kz h2) (jC h4)).trans hi,hI⟩
     · cases h;exact hk
   | code c =>
     obtain⟨l',h1,h2⟩:=ic s9 _ _ _ _ h;obtain⟨o',h3,h4⟩:=ic DL _ _ _ _ h1;cases h3;exact ao.imp (sU (s:=⟨m,l,o⟩) (kz h2) (jC h4)) hk
   | ops a r =>
     obtain⟨l',h1,h2⟩:=ic s9 _ _ _ _ h;obtain⟨o',h3,h4⟩:=ic DL _ _ _ _ h1;cases h3;exact kr.imp (sU (s:=⟨m,l,o⟩) (kz h2) (jC h4)) hk
   | drw a r i =>
     obtain⟨l',h1,h2⟩:=ic s9 _ _ _ _ h;cases h1;exact PA m l' o J J (kz h2) hk
 · cases h
section forms
variable {cf':Cf} {k k':List Fm}{s:St}{n':Nat}{l':List (Nat×SV)}{o':List (Nat×Ob)}(hT:eX P T)(aa:∀b,M0 b→b<w0.w.heap.size)(n:Nat)(ids oids:List Nat)
include hT aa
end forms
theorem nx {I:Nat→St→Prop}{m:Nat}{k:List Fm}{s:St}(h:∃m',I m' s∧m'<m):At P w0 M0 Q (.loop I m :: k) (.done .normal) s:=by obtain⟨m',hI,hm⟩:=h;exact⟨m',s,fF.refl _,hI,hm⟩
theorem cx {R:St→Prop}{k:List Fm}{s:St}(h:R s):At P w0 M0 Q (.cut R :: k) (.done .normal) s:=⟨s,fF.refl _,h⟩
theorem lp {c:Code}{k:List Fm}{s:St}(I:Nat→St→Prop)(h0:∃m,I m s)(hr:∀m s,I m s→At P w0 M0 Q (.loop I m :: k) (.code c) s):At P w0 M0 Q k (.code (.loop c)) s:=by obtain⟨m,h0⟩:=h0;exact F5 I ⟨m,s,fF.refl _,h0⟩ hr
theorem ct {x y:Code}{k:List Fm}{s:St}(R:St→Prop)(h:At P w0 M0 Q (.cut R :: k) (.code x) s)(h':∀s,R s→At P w0 M0 Q k (.code y) s):At P w0 M0 Q k (.code (.seq x y)) s:=LK R h h'
def DN (a:Array Oper)(o:Oper)(s:St):Option Nat:=match guardOf a s.ev o with
 | some true => match o.dst with
   | some t=>bif Nat.blt t s.n then some t else none
   | none=>none
 | _=>none
theorem oP {k:List Fm}{n:Nat}{l:List (Nat×SV)}{t:Nat}(hd:DN a o ⟨n,l,ob⟩=some t)(h:Pure P w0 M0 o (St.ev ⟨n,l,ob⟩) ob d)(hr:At P w0 M0 Q k (.ops a r) ⟨n,ins t d l,ob⟩):At P w0 M0 Q k (.ops a (o :: r)) ⟨n,l,ob⟩:=by
 unfold DN at hd;split at hd
 ·rename_i hg;split at hd
  ·rename_i u hu;cases hb:Nat.blt u n<;>rw[hb] at hd<;>simp only[cond_true,cond_false] at hd<;>cases hd;exact⟨_,fF.refl _,_,.inl ⟨hg,lR hu (by simpa using hb) h⟩,hr⟩
  ·cases hd
 ·cases hd
theorem oS {k:List Fm}{n:Nat}{l:List (Nat×SV)}(hg:guardOf a (St.ev ⟨n,l,ob⟩) o=some true)(h:Step P w0 M0 o ⟨n,l,ob⟩ s')(hn:s'.n=n)(hr:At P w0 M0 Q k (.ops a r) ⟨n,s'.s,s'.o⟩):At P w0 M0 Q k (.ops a (o :: r)) ⟨n,l,ob⟩:=by subst hn;exact⟨_,fF.refl _,_,.inl ⟨hg,h⟩,hr⟩
class Ix (n:Int)(k:outParam Nat):Prop where
 h:n.toNat=k
instance (i:Nat):Ix (i:Int) i:=⟨abC i⟩
instance (i:Nat):Ix (Int.ofNat i) i:=⟨rfl⟩
instance:Ix 0 0:=⟨rfl⟩
instance:Ix 1 1:=⟨rfl⟩
instance:Ix 2 2:=⟨rfl⟩
instance (priority:=low) (n:Int):Ix n n.toNat:=⟨rfl⟩
theorem dS  [Inhabited α]{f:α→AV}{l:List α}{ob:List (Nat×Ob)}{x y:Operand}{T e:TypeId}{c:fW}{k:Nat}{q:IntKind}{n:Int}{i:Nat}(ho:o.op=.indexAddr T x y)(hT:P.underlying T=some (.slice e))(hk:bY P e=some k)
  (hx:viewAt ρ ob x=some (c,.sl (l.map f)))(hy:aZ ρ y=some (.int q n)) [hi:Ix n i](h:0≤n∧n<l.length)(hc:∀z,(AV.cells (f z)).length=k) :
  Pure P w0 M0 o ρ ob (.v c (.pc (AV.cells (f (l.getD i default))) 0)):=by
 have:=pI (P:=P) (w0:=w0) (M0:=M0) ho hT hk hx hy h hc;rwa [hi.h] at this
theorem ta {s:St}{t:Nat}{z:Bool}(h:aZ s.ev (.tmp t)=some (.bool z)):fF P w0 M0 s (s.put t (.v .pl (.sc (.bool z)))):=by
 rintro a w ⟨E,hs⟩;have hv:a.eval (.tmp t)=.bool z:=bK (ρ:=s.ev) (x:=.tmp t) (ob:=s.o) (ev:=a.eval) (fun x e hx=>hs.ev hx) h;refine⟨E,hs.size,hs.defers,fun u d hd=>?_,hs.wok⟩;simp only[St.put] at hd ⊢;rw[ax] at hd;split at hd
 · rename_i hu
   subst hu;cases hd;unfold aZ at h;cases hl:s.s.lookup u with
   | none=>simp[St.ev,hl] at h
   | some e =>
     refine⟨(hs.slots u e hl).1,?_⟩;have:a.tmps.getD u undef=.bool z:=hv;rw[this];exact .sc _ rfl
 · exact hs.slots u d hd
section split
variable {k:List Fm}{n:Nat}{l:List (Nat×SV)}(t:Nat){b:Bool}
theorem ZV {c:Code}(hb:aZ (St.ev ⟨n,l,ob⟩) (.tmp t)=some (.bool b))(h1:b=true→At P w0 M0 Q k (.code c) ⟨n,ins t (.v .pl (.sc (.bool true))) l,ob⟩)(h0:b=false→At P w0 M0 Q k (.code c) ⟨n,ins t (.v .pl (.sc (.bool false))) l,ob⟩):At P w0 M0 Q k (.code c) ⟨n,l,ob⟩:=by
 cases b
 ·exact ao.imp (ta hb) (h0 rfl)
 ·exact ao.imp (ta hb) (h1 rfl)
theorem spO (hb:aZ (St.ev ⟨n,l,ob⟩) (.tmp t)=some (.bool b))(h1:b=true→At P w0 M0 Q k (.ops a r) ⟨n,ins t (.v .pl (.sc (.bool true))) l,ob⟩)(h0:b=false→At P w0 M0 Q k (.ops a r) ⟨n,ins t (.v .pl (.sc (.bool false))) l,ob⟩):At P w0 M0 Q k (.ops a r) ⟨n,l,ob⟩:=by
 cases b
 ·exact kr.imp (ta hb) (h0 rfl)
 ·exact kr.imp (ta hb) (h1 rfl)
end split
end
open Go.RowKit
section
variable {P:Program} {w0:Fr}{M0:Nat→Prop}{o:Oper}{ρ:Operand→Option SV}{ob:List (Nat×Ob)}{x y z:Operand}{T e:TypeId}{k id off:Nat}{c:fW}{cs:List SV}
theorem fi {f:α→AV}{l:List α}{q':IntKind}{j:Int}(ho:o.op=.slice T x none (some z) none)(hT:P.underlying T=some (.slice e))(hk:bY P e=some k)(hx:viewAt ρ ob x=some (c,.sl (l.map f)))(hz:aZ ρ z=some (.int q' j))
  (h:0≤j∧j≤l.length)(hxk:∀z,(AV.cells (f z)).length=k):Pure P w0 M0 o ρ ob (.v c (.sl ((l.take j.toNat).map f))):=by
 have:=sZ (P:=P) (w0:=w0) (M0:=M0) ho hT hk hx hz (by simpa using h) (mQ hxk);rwa [←List.map_take] at this
theorem pR {q:IntKind}{i:Int}{n:Nat}{e':TypeId}(ho:o.op=.indexAddr T x y)(hT:P.underlying T=some (.array n e))(hk:bY P e=some 1)(hx:ρ x=some (.pbox id off))(hl:ob.lookup id=some (.box e' cs))(hy:aZ ρ y=some (.int q i))(h:0≤i∧i<n) :
  Pure P w0 M0 o ρ ob (.pbox id (off+i.toNat)) :=
 aD fun E w ev hw hh=>by
  have hr:=hh x _ hx e' cs hl;have hi:=bK hh hy;have hel:P.elem T=e:=by simp[Program.elem,hT]
  have hal:P.arrayLen T=n:=by simp[Program.arrayLen,hT]
  have hin:0≤i∧i<(n:Int):=h;refine⟨_,w,by simp[execOp,ho,hr,hi,run_indexAt_array,hel,hal,hT,hin,dt hk,Addr.add_lit];rfl,.refl _ _,fun e2 cs2 h'=>?_⟩;rfl
theorem DO {s:St}(t:Nat)(e:TypeId)(aa:∀b,M0 b→b<w0.w.heap.size)(hnd:Nodup s.s=true)(ht:s.s.lookup t=some (.v .pl (.sc (.slice none 0 0)))):fF P w0 M0 s ((s.cC true t (.arr e [])).put t (.own t)):=by
 rintro a w ⟨E,hs⟩;have hsl:=hs.slots t _ ht;have hv:a.tmps.getD t undef=.slice none 0 0:=by
  have h5:bJ w _ (a.tmps.getD t undef) (.sc (.slice none 0 0)):=hsl.2;generalize a.tmps.getD t undef=u at h5 ⊢;cases h5;rfl
 have h1:=hs.ox (t:=t) (e:=e) (xs:=[]) (v:=.slice none 0 0) hnd aa (w':=w) ⟨rfl,rfl,rfl,aak _,fun _ _ _=>rfl⟩ (fun _=>aak _) (vals:=[]) (World.ownsRow_nil w _ _ _) (fun b hb=>by cases hb) (fun x hx=>by cases hx) (fun j d hd=>by simp[flat] at hd);refine⟨_,h1.size,h1.defers,fun u d hd=>?_,h1.wok⟩;simp only[St.put] at hd ⊢;rw[ax] at hd;split at hd
 ·rename_i hu;subst hu;cases hd;refine⟨hsl.1,?_⟩;rw[hv];exact ff
 ·exact h1.slots u d hd
theorem BU {s:St}{y:Code}{Q:Exit→St→Prop}(t:Nat)(e:TypeId)(aa:∀b,M0 b→b<w0.w.heap.size)(hnd:Nodup s.s=true)(ht:s.s.lookup t=some (.v .pl (.sc (.slice none 0 0))))(h:ao P w0 M0 y ((s.cC true t (.arr e [])).put t (.own t)) Q):ao P w0 M0 y s Q :=
 ao.imp (DO t e aa hnd ht) h
theorem iE (p:SV→Bool):∀(X:List (Nat×SV))(t:Nat)(d:SV),Nodup X=true→X.lookup t=some d→p d=true→(X.filter fun q=>p q.2).lookup t=some d
 | [],t,d,_,h,_=>by simp at h
 | (u, e) :: r, t, d, hn, h, hs => by
   rw[aj] at h;simp only[Nodup,aax,aa5] at hn;rw[abb];by_cases q:t=u
   · rw [if_pos q] at h
     simp only[aaj] at h;subst h;rw[if_pos hs,aj,if_pos q]
   · rw [if_neg q] at h
     have ih:=iE p r t d hn.2 h hs;split
     · rw[aj,if_neg q];exact ih
     · exact ih
theorem eT {G:List (Nat×SV)}{t:Nat}(h:(G.all fun p=>p.2.stays true t||Nat.beq p.1 t)=true){u:Nat}{d:SV}(hl:G.lookup u=some d)(hne:u≠t):d.stays true t=true:=by
 have:=aaF.1 h _ (dA hl);rw[aba] at this;rcases this with h1|h1
 ·exact h1
 ·exact absurd (aa7 h1) hne
theorem tc {f:α→AV}{l:List α}{X:List (Nat×SV)}{o1 o2:List (Nat×Ob)}{n t u v b:Nat}(ho:o.op=.call { callee:=.builtin .append,args:=#[.tmp u,.tmp v],argTypes:=#[T,T] })(hd:o.dst=some t)(hn:Nat.blt t n=true)(hnd:Nodup X=true)
  (hT:P.underlying T=some (.slice e))(hel:iK P e k b=true)(hu:X.lookup u=some (.v c (.sc (.slice none 0 0))))(hv:X.lookup v=some (.v .pl (.sl (l.map f))))(hf:∀z,(AV.cells (f z)).length=k)
  (hb:(l.map f).length*b≤140737488355328)(hm:(l.map f).length≤4611686018427387904)(hs:∀t' d,X.lookup t'=some d→t'≠t→d.stays true t=true)(ho2:ins t (.arr e (l.map f)) (iH true t o1)=o2)(aa:∀b,M0 b→b<w0.w.heap.size) :
  ∃s',Step P w0 M0 o ⟨n,X,o1⟩ s'∧fF P w0 M0 s' ⟨n,ins t (.own t) X,o2⟩:=by
 have h1:aZ (⟨n,X,o1⟩:St).ev (.tmp u)=some (.slice none 0 0):=by simp only[aZ,St.ev,hu];rfl
 have h2:viewAt (⟨n,X,o1⟩:St).ev (⟨n,X,o1⟩:St).o (.tmp v)=some (.pl,.sl (l.map f)):=by simp only[viewAt,St.ev,hv];rfl
 refine⟨_,wh (s:=⟨n,X,o1⟩) (ys:=l.map f) ho hd hn hnd hT hel h1 aa (eW h2 hf) hb hm,?_⟩;refine eO J ho2.symm fun t' d ht'=>?_
 rw[ax] at ht';show(ins t (SV.own t) _).lookup t'=some d;rw[ax];by_cases q:t'=t
 ·rw[if_pos q] at ht' ⊢;exact ht'
 ·rw[if_neg q] at ht' ⊢;exact iE (fun e=>e.stays true t) X t' d hnd ht' (hs t' d ht' q)
end
end Go.Am
