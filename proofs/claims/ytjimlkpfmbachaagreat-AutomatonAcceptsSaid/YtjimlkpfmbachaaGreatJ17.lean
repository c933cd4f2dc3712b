/-
  Plain functions: a list without repetitions of neighbours.
-/
import Derived.Test.YtjimlkpfmbachaaGreatJ16
import Derived.Test.YtjimlkpfmbachaaGreatJ12
import Derived.Test.YtjimlkpfmbachaaGreatJ15
import Derived.Test.YtjimlkpfmbachaaGreatJ13
set_option linter.unusedVariables false
set_option linter.unusedSectionVars false
set_option linter.unusedSimpArgs false
namespace Go.Wd
open Go.Am Go.Wc
def cod (m:Nat) (x:Nat×Nat):Nat:=x.1*m+x.2
def cnext (a b:Dfa) (c s:Nat):Nat:=a.stp (c / b.n) s*b.n+b.stp (c % b.n) s
def cfin (f:Bool→Bool→Bool) (a b:Dfa) (c:Nat):Bool:=f (a.fn (c / b.n)) (b.fn (c % b.n))
def ft (e x y:Bool):Bool:=x&&y||(e&&(x||y))
abbrev andB (x y:Bool):Bool:=x&&y
abbrev orB (x y:Bool):Bool:=x||y
section
variable {a b:Dfa} {c:Nat} {e:Bool}
theorem cfin_1 (h1:a.fin.getD (c / b.n) default=true) (h2:b.fin.getD (c % b.n) default=true):cfin (ft e) a b c=true:=by
  unfold cfin ft Dfa.fn;rw [h1,h2];rfl
theorem cfin_2 (h1:a.fin.getD (c / b.n) default=true) (h2:e=true):cfin (ft e) a b c=true:=by
  unfold cfin ft Dfa.fn;rw [h1,h2];cases b.fin.getD (c % b.n) default<;>rfl
theorem cfin_3 (h1:a.fin.getD (c / b.n) default=true) (h2:b.fin.getD (c % b.n) default=false) (h3:e=false):cfin (ft e) a b c=false:=by
  unfold cfin ft Dfa.fn;rw [h1,h2,h3];rfl
theorem cfin_4 (h1:a.fin.getD (c / b.n) default=false) (h2:e=true):cfin (ft e) a b c=b.fin.getD (c % b.n) default:=by
  unfold cfin ft Dfa.fn;rw [h1,h2];cases b.fin.getD (c % b.n) default<;>rfl
theorem cfin_5 (h1:a.fin.getD (c / b.n) default=false) (h2:e=false):cfin (ft e) a b c=false:=by
  unfold cfin ft Dfa.fn;rw [h1,h2];cases b.fin.getD (c % b.n) default<;>rfl
end
theorem ft_and:ft false=andB:=by funext x y;cases x<;>cases y<;>rfl
theorem ft_or:ft true=orB:=by funext x y;cases x<;>cases y<;>rfl
theorem cod_div {m i j:Nat} (h:j<m):(i*m+j) / m=i:=by
  rw [Nat.mul_comm,Nat.mul_add_div (by omega),Nat.div_eq_of_lt h];rfl
theorem cod_mod {m i j:Nat} (h:j<m):(i*m+j) % m=j:=by
  rw [Nat.mul_comm,Nat.mul_add_mod,Nat.mod_eq_of_lt h]
theorem cod_lt {n m i j:Nat} (h1:i<n) (h2:j<m):i*m+j<n*m:=by
  have h:(i+1)*m≤n*m:=Nat.mul_le_mul_right m h1
  rw [Nat.succ_mul] at h
  omega
theorem cod_parts {n m c:Nat} (h:c<n*m):c / m<n∧c % m<m:=by
  have hm:0<m:=Nat.pos_of_ne_zero fun e=>by rw [e] at h;omega
  exact ⟨(Nat.div_lt_iff_lt_mul hm).2 h,Nat.mod_lt _ hm⟩
section
variable {a b:Dfa} {f:Bool→Bool→Bool}
theorem cnext_lt (ha:okD a) (hb:okD b) (hk:a.k=b.k):∀ x∈List.range (a.n*b.n),∀ s,s<a.k→cnext a b x s∈List.range (a.n*b.n):=fun x hx s hs=>by
  have h:=cod_parts (List.mem_range.1 hx)
  exact List.mem_range.2 (cod_lt (ha.stp h.1 hs) (hb.stp h.2 (by omega)))
def cl (a b:Dfa):List Nat:=reach (cnext a b) a.k (a.n*b.n) 0
theorem prod_sim (ha:okD a) (hb:okD b) (hk:a.k=b.k):prodP f a b=mkD (cnext a b) a.k (cfin f a b) (cl a b):=by
  have hR:∀ x y x' y',((x:Nat×Nat).2<b.n∧x.1<a.n∧x'=cod b.n x)→((y:Nat×Nat).2<b.n∧y.1<a.n∧y'=cod b.n y)→(x=y↔x'=y'):=by
    rintro x y x' y' ⟨h1,_,rfl⟩ ⟨h2,_,rfl⟩
    refine ⟨fun e=>by rw [e],fun e=>?_⟩
    have e1:=congrArg (· / b.n) e
    have e2:=congrArg (· % b.n) e
    simp only [cod] at e1 e2
    rw [cod_div h1,cod_div h2] at e1
    rw [cod_mod h1,cod_mod h2] at e2
    exact Prod.ext e1 e2
  have hn:∀ (x:Nat×Nat) (y:Nat),(x.2<b.n∧x.1<a.n∧y=cod b.n x)→∀ s,s<a.k→((pnext a b x s).2<b.n∧(pnext a b x s).1<a.n∧cnext a b y s=cod b.n (pnext a b x s)):=by
    rintro x y ⟨h1,h2,rfl⟩ s hs
    refine ⟨hb.stp h1 (by omega),ha.stp h2 hs,?_⟩
    unfold cnext cod
    rw [cod_div h1,cod_mod h1];rfl
  unfold prodP cl
  refine mk_sim hR hn ?_ ?_
  · rintro x y ⟨h1, h2, rfl⟩
    unfold cfin cod
    rw [cod_div h1,cod_mod h1];rfl
  · unfold reach
    exact clos_sim hR hn _ _ (.cons ⟨hb.1.2.1.1,ha.1.2.1.1,by unfold cod;simp⟩ .nil)
theorem prod_cells {l:List Nat} (ha:okD a) (hb:okD b) (hk:a.k=b.k) (h:cl a b=l):prodP f a b=⟨a.size,rowsX (cnext a b) a.k l l,finX (cfin f a b) l⟩:=by
  rw [prod_sim ha hb hk,h]
  unfold mkD rowsX finX
  rw [(kk ha).1]
end
/-! the reference's numbers: nought is none -/
def nz (n:Nat) (l:List Nat):List Nat:=(List.range n).map fun c=>if c∈l then idx l c+1 else 0
theorem nz_len (n:Nat) (l:List Nat):(nz n l).length=n:=by unfold nz;simp
theorem nz_el {n:Nat} {l:List Nat} {i:Nat} (h:i<(nz n l).length):(nz n l)[i]=if i∈l then idx l i+1 else 0:=by simp [nz]
theorem nz_get {n:Nat} {l:List Nat} {c:Nat} (hc:c<n):(nz n l).getD c default=if c∈l then idx l c+1 else 0:=by
  unfold nz;rw [List.getD_eq_getElem?_getD,List.getElem?_map,List.getElem?_range hc];rfl
theorem nz_nil (n:Nat):nz n []=List.replicate n 0:=by
  unfold nz
  refine List.ext_getElem (by simp) fun i h1 h2=>?_
  simp
theorem nz_snoc {n:Nat} {l:List Nat} {c:Nat} (hc:c<n) (h:c ∉ l):(nz n l).set c (l++[c]).length=nz n (l++[c]):=by
  refine List.ext_getElem (by rw [List.length_set,nz_len,nz_len]) fun i h1 h2=>?_
  rw [List.getElem_set,nz_el,nz_el]
  by_cases q:c=i
  · subst q
    rw [if_pos rfl,if_pos (by simp),idx_snoc h,List.length_append];rfl
  · rw [if_neg q]
    by_cases q2:i∈l
    · rw [if_pos q2,if_pos (List.mem_append_left _ q2),idx_pre (List.prefix_append l [c]) q2]
    · rw [if_neg q2,if_neg fun q3=>by rcases List.mem_append.1 q3 with q3|q3;exact q2 q3;exact q (List.mem_singleton.1 q3).symm]
theorem nz_snocI {n:Nat} {l:List Nat} {c:Nat} (hc:c<n) (h:c ∉ l):((nz n l).map natI).set c (natI (l++[c]).length)=(nz n (l++[c])).map natI:=by
  rw [← nz_snoc hc h,List.map_set]
theorem nz_new {n c:Nat} {l:List Nat} (hc:c<n) (h:(nz n l).getD c default=0):c ∉ l:=fun q=>by
  rw [nz_get hc,if_pos q] at h;omega
theorem nz_old {n c:Nat} {l:List Nat} (hc:c<n) (h:(nz n l).getD c default≠0):c∈l:=Decidable.byContradiction fun q=>by
  rw [nz_get hc,if_neg q] at h;exact h rfl
theorem nz_hit {n c:Nat} {l:List Nat} (hc:c<n) (h:c∈l):(nz n l).getD c default=idx l c+1:=by rw [nz_get hc,if_pos h]
/-! joins -/
def joinZ (f:Bool→Bool→Bool) (a b:Dfa):Dfa:=if validD a=true∧validD b=true∧a.size=b.size then joinP f a b else zeroD
def joinE (a b:Dfa):Int:=if validD a=true∧validD b=true∧a.size=b.size then 0 else 1
theorem joinZ_t {f:Bool→Bool→Bool} {a b:Dfa} (h1:validD a=true) (h2:validD b=true) (h3:a.size=b.size):joinZ f a b=joinP f a b:=if_pos ⟨h1,h2,h3⟩
theorem joinE_t {a b:Dfa} (h1:validD a=true) (h2:validD b=true) (h3:a.size=b.size):joinE a b=0:=if_pos ⟨h1,h2,h3⟩
theorem joinZ_f {f:Bool→Bool→Bool} {a b:Dfa} (h:¬ (validD a=true∧validD b=true∧a.size=b.size)):joinZ f a b=zeroD:=if_neg h
theorem joinE_f {a b:Dfa} (h:¬ (validD a=true∧validD b=true∧a.size=b.size)):joinE a b=1:=if_neg h
theorem joinZ_a {f:Bool→Bool→Bool} {a b:Dfa} (h:validD a=false):joinZ f a b=zeroD:=joinZ_f fun q=>by rw [h] at q;cases q.1
theorem joinE_a {a b:Dfa} (h:validD a=false):joinE a b=1:=joinE_f fun q=>by rw [h] at q;cases q.1
theorem joinZ_b {f:Bool→Bool→Bool} {a b:Dfa} (h:validD b=false):joinZ f a b=zeroD:=joinZ_f fun q=>by rw [h] at q;cases q.2.1
theorem joinE_b {a b:Dfa} (h:validD b=false):joinE a b=1:=joinE_f fun q=>by rw [h] at q;cases q.2.1
theorem join_min {f:Bool→Bool→Bool} {a b:Dfa} (ha:okD a) (hb:okD b) (hk:a.k=b.k) (hn:a.n*b.n≤2048):minZ (prodP f a b)=joinP f a b:=minZ_t (ok_valid (prod_ok ha hb hk hn).1)
/-! which word is ahead -/
abbrev ahd (v w:List Nat):Bool:=ahead v w
theorem lex_drop {v w:List Nat} {i:Nat} (hv:i<v.length) (hw:i<w.length):lexB (v.drop i) (w.drop i)=if v.getD i default=w.getD i default then lexB (v.drop (i+1)) (w.drop (i+1)) else decide (v.getD i default<w.getD i default):=by
  rw [List.drop_eq_getElem_cons hv,List.drop_eq_getElem_cons hw,lexB,el_get hv,el_get hw]
theorem ahead_len {v w:List Nat} (h:v.length≠w.length):ahd v w=decide ((v.length:Int)<(w.length:Int)):=(if_pos h:ahead v w=decide (v.length<w.length)).trans (decide_eq_decide.2 Int.ofNat_lt.symm)
theorem ahead_eq {v w:List Nat} (h:v.length=w.length):ahd v w=lexB (v.drop 0) (w.drop 0):=if_neg (by omega)
theorem ahead_next {v w:List Nat} {i:Nat} (hv:i<v.length) (hw:i<w.length) (h:ahd v w=lexB (v.drop i) (w.drop i)) (e:v.getD i default=w.getD i default):ahd v w=lexB (v.drop (i+1)) (w.drop (i+1)):=by
  rw [h,lex_drop hv hw,if_pos e]
theorem ahead_here {v w:List Nat} {i:Nat} (hv:i<v.length) (hw:i<w.length) (h:ahd v w=lexB (v.drop i) (w.drop i)) (e:v.getD i default≠w.getD i default):ahd v w=decide (((v.getD i default:Nat):Int)<((w.getD i default:Nat):Int)):=by
  rw [h,lex_drop hv hw,if_neg e]
  exact decide_eq_decide.2 Int.ofNat_lt.symm
theorem ahead_done {v w:List Nat} {i:Nat} (hv:v.length≤i) (h:ahd v w=lexB (v.drop i) (w.drop i)):ahd v w=false:=by
  rw [h,List.drop_eq_nil_of_le hv,lexB]
end Go.Wd

namespace Go.Wd
open Go.Am Go.Wc
section
variable {a b d:Dfa}
theorem least_len:((leastZ d).getD []).length≤1099511627776:=by
  unfold leastZ
  split
  · rename_i h
    have hd:=valid_ok h
    have hn:d.n=d.next.length:=rfl
    have hb:=hd.1.2.1
    cases hl:leastP d with
    | none=>exact Nat.zero_le _
    | some w =>
      have h1:=seek_word _ _ 0 _ w (fun q hq=>by rw [List.mem_singleton.1 hq];exact Nat.le_refl _) hl
      show w.length≤_
      omega
  · exact Nat.zero_le _
theorem rdiff_z (h1:validD a=true) (h2:validD b=true) (h3:a.size=b.size) (hn:a.n*b.n≤2048):differZ a b=pickW (leastZ (prodP (ft false) a (notZ b))) (leastZ (prodP (ft false) (notZ a) b)):=by
  have ha:=valid_ok h1
  have hb:=valid_ok h2
  have hk:a.k=b.k:=by unfold Dfa.k;rw [h3]
  obtain ⟨ga,ga2,ga3⟩:=not_ok ha
  obtain ⟨gb,gb2,gb3⟩:=not_ok hb
  have na:(notP a).n≤a.n:=(minP_ok (flip_ok ha)).2
  have nb:(notP b).n≤b.n:=(minP_ok (flip_ok hb)).2
  have m1:a.n*(notP b).n≤2048:=Nat.le_trans (Nat.mul_le_mul_left _ nb) hn
  have m2:(notP a).n*b.n≤2048:=Nat.le_trans (Nat.mul_le_mul_right _ na) hn
  have x1:=(prod_ok (f:=fun x y=>x&&y) ha gb (by omega) m1).1
  have y1:=(prod_ok (f:=fun x y=>x&&y) ga hb (by omega) m2).1
  rw [differZ_t h1 h2 h3,← rdiff_eq ha hb h3 hn,show notZ b=notP b from if_pos h2,show notZ a=notP a from if_pos h1,ft_and]
  rw [show prodP andB a (notP b)=prodP (fun x y=>x&&y) a (notP b) from rfl,show prodP andB (notP a) b=prodP (fun x y=>x&&y) (notP a) b from rfl,leastZ_t (ok_valid x1),leastZ_t (ok_valid y1)];rfl
theorem not_facts (h1:validD a=true):okD (notZ a)∧(notZ a).size=a.size∧(notZ a).k=a.k∧(notZ a).n≤a.n:=by
  have ha:=valid_ok h1
  obtain ⟨ga,ga2,ga3⟩:=not_ok ha
  rw [show notZ a=notP a from if_pos h1]
  exact ⟨ga,ga2,ga3,(minP_ok (flip_ok ha)).2⟩
end
theorem pick_v {v w:Option (List Nat)} (h:v.isSome=true) (g:w.isSome=false∨ahd (v.getD []) (w.getD [])=true):pickW v w=v:=by
  cases v with
  | none=>cases h
  | some v =>
    cases w with
    | none=>rfl
    | some w =>
      rcases g with g|g
      · cases g
      · exact if_pos g
theorem pick_w {v w:Option (List Nat)} (g:v.isSome=false∨(w.isSome=true∧ahd (v.getD []) (w.getD [])=false)):pickW v w=w:=by
  cases v with
  | none=>rfl
  | some v =>
    cases w with
    | none=>rcases g with g|g;cases g;cases g.1
    | some w =>
      rcases g with g|g
      · cases g
      · exact if_neg (by rw [show ahead v w=false from g.2];decide)
end Go.Wd
namespace Go.Wd
theorem differ_small {A X:Dfa} (hm:A.next.length*X.next.length≤2048):((differZ A X).getD []).length≤4611686018427387904:=by
  unfold differZ
  split
  · cases hd : diffP A X with
    | none=>exact Nat.zero_le _
    | some w =>
      have h1:=seek_word _ _ 0 _ w (fun q hq=>by rw [List.mem_singleton.1 hq];exact Nat.le_refl _) hd
      have h2:A.n*X.n≤2048:=hm
      show w.length≤_
      omega
  · exact Nat.zero_le _
end Go.Wd

namespace Go.Wd
open Go.Am Go.Wc
def byt (f:Nat→Bool):Nat:=(f 0).toNat+2*(f 1).toNat+4*(f 2).toNat+8*(f 3).toNat+16*(f 4).toNat+32*(f 5).toNat+64*(f 6).toNat+128*(f 7).toNat
def by8 (a b c d e f g h:Bool):Nat:=a.toNat+2*b.toNat+4*c.toNat+8*d.toNat+16*e.toNat+32*f.toNat+64*g.toNat+128*h.toNat
theorem byt_eq (f:Nat→Bool):byt f=by8 (f 0) (f 1) (f 2) (f 3) (f 4) (f 5) (f 6) (f 7):=rfl
theorem by8_lt:∀ a b c d e f g h:Bool,by8 a b c d e f g h<256:=by decide +kernel
theorem byt_lt (f:Nat→Bool):byt f<256:=by8_lt _ _ _ _ _ _ _ _
theorem by8_bits:∀ a b c d e f g h:Bool,(by8 a b c d e f g h).testBit 0=a∧(by8 a b c d e f g h).testBit 1=b∧(by8 a b c d e f g h).testBit 2=c∧(by8 a b c d e f g h).testBit 3=d∧(by8 a b c d e f g h).testBit 4=e∧(by8 a b c d e f g h).testBit 5=f∧(by8 a b c d e f g h).testBit 6=g∧(by8 a b c d e f g h).testBit 7=h:=by decide +kernel
theorem byt_bit (f:Nat→Bool) {t:Nat} (ht:t<8):(byt f).testBit t=f t:=by
  obtain ⟨h0,h1,h2,h3,h4,h5,h6,h7⟩:=by8_bits (f 0) (f 1) (f 2) (f 3) (f 4) (f 5) (f 6) (f 7)
  rw [byt_eq]
  rcases (by omega:t=0∨t=1∨t=2∨t=3∨t=4∨t=5∨t=6∨t=7) with rfl|rfl|rfl|rfl|rfl|rfl|rfl|rfl<;>assumption
theorem byt_ext {f g:Nat→Bool} (h:∀ t,t<8→f t=g t):byt f=byt g:=by
  rw [byt_eq,byt_eq,h 0 (by omega),h 1 (by omega),h 2 (by omega),h 3 (by omega),h 4 (by omega),h 5 (by omega),h 6 (by omega),h 7 (by omega)]
theorem byt_or (f g:Nat→Bool) {t:Nat} (ht:t<8) (hg:∀ u,u<8→g u=(f u||decide (u=t))):byt f ||| 2 ^ t=byt g:=by
  refine Nat.eq_of_testBit_eq fun i=>?_
  rw [Nat.testBit_or,Nat.testBit_two_pow]
  by_cases hi:i<8
  · rw [byt_bit f hi, byt_bit g hi, hg i hi]
    congr 1
    exact decide_eq_decide.2 eq_comm
  · have e1 : (byt f).testBit i = false := Nat.testBit_lt_two_pow (Nat.lt_of_lt_of_le (byt_lt f) (show (256 : Nat) ≤ 2 ^ i from Nat.pow_le_pow_right (show 2 > 0 by decide) (show 8 ≤ i by omega)))
    have e2:(byt g).testBit i=false:=Nat.testBit_lt_two_pow (Nat.lt_of_lt_of_le (byt_lt g) (show (256:Nat)≤2 ^ i from Nat.pow_le_pow_right (show 2 > 0 by decide) (show 8≤i by omega)))
    rw [e1,e2,decide_eq_false (show ¬ t=i by omega)];rfl
def bts (n:Nat) (x:Nat→Bool):List Nat:=(List.range ((n+7) / 8)).map fun j=>byt fun t=>x (8*j+t)
theorem bts_len (n:Nat) (x:Nat→Bool):(bts n x).length=(n+7) / 8:=by unfold bts;simp
theorem bts_get {n j:Nat} (x:Nat→Bool) (hj:j<(n+7) / 8):(bts n x).getD j default=byt fun t=>x (8*j+t):=by
  unfold bts;rw [List.getD_eq_getElem?_getD,List.getElem?_map,List.getElem?_range hj];rfl
theorem bts_set {n k:Nat} (x y:Nat→Bool) (hk:k<n) (hy:∀ i,y i=(x i||decide (i=k))):(bts n x).set (k / 8) ((byt fun t=>x (8*(k / 8)+t)) ||| 2 ^ (k % 8))=bts n y:=by
  refine List.ext_getElem (by rw [List.length_set,bts_len,bts_len]) fun i h1 h2=>?_
  rw [bts_len] at h2
  rw [List.getElem_set]
  simp only [bts,List.getElem_map,List.getElem_range]
  by_cases q:k / 8=i
  · rw [if_pos q,byt_or (g:=fun t=>y (8*i+t)) _ (Nat.mod_lt _ (by decide)) fun u hu=>by
      rw [q,hy]
      congr 1
      exact decide_eq_decide.2 ⟨fun e=>by omega,fun e=>by omega⟩]
  · rw [if_neg q]
    refine byt_ext fun t ht=>?_
    rw [hy,decide_eq_false (show ¬ 8*i+t=k by omega),Bool.or_false]
end Go.Wd

namespace Go.Wd
open Go.Am Go.Wc
theorem or8 {a b:Nat} (ha:a<256) (hb:b<256):(IntKind.wrap .u8 (((BitVec.ofInt 8 (a:Int) ||| BitVec.ofInt 8 (b:Int)).toNat:Nat):Int))=((a ||| b:Nat):Int):=by
  have h1:(BitVec.ofInt 8 (a:Int)).toNat=a:=by rw [BitVec.ofInt_natCast,BitVec.toNat_ofNat];exact Nat.mod_eq_of_lt ha
  have h2:(BitVec.ofInt 8 (b:Int)).toNat=b:=by rw [BitVec.ofInt_natCast,BitVec.toNat_ofNat];exact Nat.mod_eq_of_lt hb
  rw [BitVec.toNat_or,h1,h2]
  have h3:a ||| b<256:=Nat.or_lt_two_pow (n:=8) ha hb
  show (((a ||| b:Nat):Int) % 256:Int)=_
  exact Int.emod_eq_of_lt (Int.natCast_nonneg _) (by omega)
theorem shl8 {t:Nat} (ht:t<8):IntKind.wrap .u8 (1*2 ^ (min t 8))=((2 ^ t:Nat):Int):=by
  rcases (by omega:t=0∨t=1∨t=2∨t=3∨t=4∨t=5∨t=6∨t=7) with rfl|rfl|rfl|rfl|rfl|rfl|rfl|rfl<;>rfl
end Go.Wd

namespace Go.Wd
open Go.Am Go.Wc
def bstr (n:Nat) (x:Nat→Bool):List UInt8:=(bts n x).map fun b=>UInt8.ofNat b
abbrev setV (n:Nat) (x:Nat→Bool):Value:=.string ⟨(bstr n x).toArray⟩
theorem bstr_len (n:Nat) (x:Nat→Bool):(bstr n x).length=(n+7) / 8:=by unfold bstr;rw [List.length_map,bts_len]
theorem bstr_at {n j:Nat} (x:Nat→Bool) (hj:j<(n+7) / 8):((bstr n x).getD j default).toNat=byt fun t=>x (8*j+t):=by
  have h:=bts_get x hj
  rw [← h]
  unfold bstr
  have hl:j<(bts n x).length:=by rw [bts_len];exact hj
  rw [List.getD_eq_getElem?_getD,List.getElem?_map,List.getElem?_eq_getElem hl,el_get hl]
  show (UInt8.ofNat (bts n x)[j]).toNat=(bts n x)[j]
  rw [UInt8.toNat_ofNat']
  refine Nat.mod_eq_of_lt ?_
  rw [← el_get hl,h]
  exact byt_lt _
theorem and8 {a t:Nat} (ha:a<256) (ht:t<8):decide (IntKind.wrap .u8 (((BitVec.ofInt 8 ((a:Int).fdiv (2 ^ (min t 8))) &&& BitVec.ofInt 8 1).toNat:Nat):Int)=1)=a.testBit t:=by
  have e0:((a:Int).fdiv (2 ^ (min t 8)))=((a / 2 ^ t:Nat):Int):=by
    rw [show min t 8=t by omega,Int.fdiv_eq_ediv_of_nonneg _ (Int.le_of_lt (Int.pow_pos (by decide))),Int.natCast_ediv,Int.natCast_pow];rfl
  have hlt:a / 2 ^ t<256:=Nat.lt_of_le_of_lt (Nat.div_le_self _ _) ha
  have h1:(BitVec.ofInt 8 ((a / 2 ^ t:Nat):Int)).toNat=a / 2 ^ t:=by rw [BitVec.ofInt_natCast,BitVec.toNat_ofNat];exact Nat.mod_eq_of_lt hlt
  have h2:(BitVec.ofInt 8 (1:Int)).toNat=1:=rfl
  rw [e0,BitVec.toNat_and,h1,h2,Nat.and_one_is_mod,Nat.testBit_eq_decide_div_mod_eq]
  have h3:a / 2 ^ t % 2<2:=Nat.mod_lt _ (by decide)
  refine decide_eq_decide.2 ?_
  show ((((a / 2 ^ t % 2:Nat):Int) % 256:Int)=1)↔_
  omega
end Go.Wd

namespace Go.Am
open Go
section
variable {P:Program} {w0:Fr} {M0:Nat→Prop}
theorem pure_and {o:Oper} {ρ:Operand→Option SV} {ob:List (Nat×Ob)} {x y:Operand} {T T':TypeId} {k:IntKind} {a b:Int} (ho:o.op=.binOp .and T x y T') (hx:scal ρ x=some (.int k a)) (hy:scal ρ y=some (.int k b)):Pure P w0 M0 o ρ ob (.v .pl (.sc (.int k (k.wrap ((BitVec.ofInt k.bits a &&& BitVec.ofInt k.bits b).toNat:Nat))))) :=
  pure_bin ho hx hy rfl rfl (fun w=>by simp only [binOp_and,Op.intBits,Sem.run_pure])
end
end Go.Am

namespace Go.Wd
open Go.Am Go.Wc
def cut (x:Nat→Bool) (i:Nat):Nat→Bool:=fun k=>x k&&decide (k<i)
theorem cut_zero (n:Nat) (x:Nat→Bool):bts n (cut x 0)=List.replicate ((n+7) / 8) 0:=by
  refine List.ext_getElem (by rw [bts_len,List.length_replicate]) fun i h1 h2=>?_
  simp only [bts,List.getElem_map,List.getElem_range,List.getElem_replicate]
  rw [byt_ext (g:=fun _=>false) fun t _=>by simp [cut]];rfl
theorem cut_set {n i:Nat} {x:Nat→Bool} (hi:i<n) (hx:x i=true):(bts n (cut x i)).set (i / 8) ((byt fun t=>cut x i (8*(i / 8)+t)) ||| 2 ^ (i % 8))=bts n (cut x (i+1)) :=
  bts_set (cut x i) (cut x (i+1)) hi fun k=>by
    unfold cut
    by_cases h1:k=i
    · subst h1;rw [hx];simp
    · have e : decide (k < i + 1) = decide (k < i) := decide_eq_decide.2 (by omega)
      rw [e,decide_eq_false h1,Bool.or_false]
theorem cut_not {n i:Nat} {x:Nat→Bool} (hx:x i=false):bts n (cut x i)=bts n (cut x (i+1)):=by
  congr 1
  funext k
  unfold cut
  by_cases h1:k=i
  · subst h1;rw [hx];rfl
  · have e : decide (k < i + 1) = decide (k < i) := decide_eq_decide.2 (by omega)
    rw [e]
end Go.Wd

namespace Go.Wd
open Go.Am Go.Wc
def kvB (x:List Bool):Value:=setV x.length fun k=>x.getD k false
abbrev encB (x:List Bool):AV:=.sc (kvB x)
theorem setV_eq (n:Nat) (x:Nat→Bool):setV n (cut x n)=kvB ((List.range n).map x):=by
  unfold kvB
  have h1:((List.range n).map x).length=n:=by simp
  have h2:(cut x n)=fun k=>((List.range n).map x).getD k false:=by
    funext k
    show (x k&&decide (k<n))=_
    by_cases q:k<n
    · rw [decide_eq_true q,Bool.and_true,List.getD_eq_getElem?_getD,List.getElem?_map,List.getElem?_range q];rfl
    · rw [decide_eq_false q,Bool.and_false,List.getD_eq_getElem?_getD,List.getElem?_eq_none (by rw [h1];omega)];rfl
  rw [h1,h2]
theorem kvB_fin {n:Nat} {x:List Bool} (h:x.length=n):setV n (cut (fun k=>x.getD k default) n)=kvB x:=by
  rw [setV_eq]
  congr 1
  refine List.ext_getElem (by simp [h]) fun i h1 h2=>?_
  rw [List.getElem_map,List.getElem_range,List.getD_eq_getElem?_getD,List.getElem?_eq_getElem h2];rfl
theorem kvB_next (m:Dfa) (x:List Bool) (s:Nat):setV m.n (cut (fun k=>x.getD (m.stp k s) false) m.n)=kvB (snext m x s):=setV_eq _ _
theorem kvB_at {n:Nat} {x:List Bool} (h:x.length=n):kvB x=setV n fun k=>x.getD k false:=by rw [← h];rfl
theorem bstr_inj {n:Nat} {x y:Nat→Bool} (h:bstr n x=bstr n y) {k:Nat} (hk:k<n):x k=y k:=by
  have h1:=bstr_at x (n:=n) (j:=k / 8) (by omega)
  have h2:=bstr_at y (n:=n) (j:=k / 8) (by omega)
  rw [h,h2] at h1
  have e1:=byt_bit (fun t=>x (8*(k / 8)+t)) (t:=k % 8) (Nat.mod_lt _ (by decide))
  have e2:=byt_bit (fun t=>y (8*(k / 8)+t)) (t:=k % 8) (Nat.mod_lt _ (by decide))
  rw [← h1] at e1
  rw [e1] at e2
  simp only [show 8*(k / 8)+k % 8=k by omega] at e2
  exact e2
theorem kvB_inj {a b:List Bool} (hl:a.length=b.length) (h:kvB a=kvB b):a=b:=by
  unfold kvB at h
  rw [hl] at h
  injection h with h
  injection h with h
  have h:=congrArg Array.toList h
  refine List.ext_getElem hl fun i h1 h2=>?_
  have e:a.getD i false=b.getD i false:=bstr_inj h h2
  rwa [List.getD_eq_getElem?_getD,List.getElem?_eq_getElem h1,List.getD_eq_getElem?_getD,List.getElem?_eq_getElem h2] at e
/-! the reversal, also of what is not valid -/
def revZ (d:Dfa):Dfa:=if validD d=true then revP d else zeroD
def revE (d:Dfa):Int:=if validD d=true then 0 else 1
theorem revZ_t {d:Dfa} (h:validD d=true):revZ d=revP d:=if_pos h
theorem revE_t {d:Dfa} (h:validD d=true):revE d=0:=if_pos h
theorem revZ_f {d:Dfa} (h:validD d=false):revZ d=zeroD:=if_neg (by rw [h];decide)
theorem revE_f {d:Dfa} (h:validD d=false):revE d=1:=if_neg (by rw [h];decide)
def FewD (d:Dfa):Prop:=okD d→∃ U,Few (minP d) U
theorem fewD_small {d:Dfa} (hn:d.n≤11):FewD d:=fun h=>by
  obtain ⟨h1,h2⟩:=minP_ok h
  exact ⟨_,few_small h1 (by omega)⟩
theorem rev_min {d:Dfa} (hd:okD d) (h:FewD d):minZ (subD (minP d))=revP d:=by
  obtain ⟨U,hU⟩:=h hd
  exact minZ_t (ok_valid (subF_ok hU (minP_ok hd).1).1)
/-! the search of the reference -/
theorem at_new {K:Type} [DecidableEq K] [Inhabited K] {l:List K} {z:K} {k:Nat} (hb:∀ j,j<k→l.getD j default≠z) (hk:k=l.length):z ∉ l:=fun h=>by
  obtain ⟨j,hj,e⟩:=List.getElem_of_mem h
  exact hb j (by omega) (by rw [el_get hj,e])
theorem at_old {K:Type} [DecidableEq K] [Inhabited K] {l:List K} {z:K} {k:Nat} (hb:∀ j,j<k→l.getD j default≠z) (hk:k<l.length) (he:l.getD k default=z):z∈l∧idx l z=k:=by
  have hm:z∈l:=by rw [← he];exact el_mem hk
  refine ⟨hm,idx_hit (by rw [List.getElem?_eq_getElem hk,← el_get hk,he]) fun j y hj hy e=>hb j hj ?_⟩
  rw [List.getD_eq_getElem?_getD,hy]
  exact e
end Go.Wd

namespace Go.Wd
open Go.Am Go.Wc
def fillB (m:Dfa) (x:List Bool) (s k:Nat):List Bool:=((List.range k).map fun j=>x.getD (m.stp j s) false)++List.replicate (m.n-k) false
section
variable {m d:Dfa} {x:List Bool} {s k:Nat}
theorem fillB_len (h:k≤m.n):(fillB m x s k).length=m.n:=by unfold fillB;simp;omega
theorem fillB_zero:fillB m x s 0=List.replicate m.n false:=by unfold fillB;simp
theorem fillB_all:fillB m x s m.n=snext m x s:=by unfold fillB snext;simp
theorem fillB_set (h:k<m.n):((fillB m x s k).map bool).set k (bool (x.getD (m.stp k s) default))=(fillB m x s (k+1)).map bool:=by
  rw [← List.map_set]
  congr 1
  unfold fillB
  rw [List.set_append_right _ _ (by simp),show m.n-k=(m.n-(k+1))+1 by omega,List.replicate_succ]
  simp [List.range_succ]
theorem rep_bools (n:Nat):List.replicate n (bool false)=(List.replicate n false).map bool:=by rw [List.map_replicate]
theorem Few.lens {U:List (List Bool)} (h:Few m U) (hf:m.fin.length=m.n):∃ U,Few m U∧∀ x∈U,x.length=m.n:=by
  refine ⟨U.filter fun x=>decide (x.length=m.n),⟨fun x hx s hs=>?_,?_,?_,?_⟩,fun x hx=>of_decide_eq_true (List.mem_filter.1 hx).2⟩
  · exact List.mem_filter.2 ⟨h.cl x (List.mem_filter.1 hx).1 s hs,decide_eq_true (snext_len m x s)⟩
  · exact List.mem_filter.2 ⟨h.start,decide_eq_true hf⟩
  · exact Nat.le_trans (List.length_filter_le _ _) h.le
  · exact Nat.le_trans (List.length_filter_le _ _) h.le2
theorem sub_cells {l:List (List Bool)} (hm:okD m) (h:reach (snext m) m.k (2 ^ m.n) m.fin=l):subD m=⟨m.size,rowsX (snext m) m.k l l,finX sfin l⟩:=by
  unfold subD
  rw [h]
  unfold mkD rowsX finX
  rw [(kk hm).1]
end
end Go.Wd

namespace Go.Wd
open Go.Am Go.Wb
def kbsI (l:List Int):List Int:=l.flatMap kbI
mutual
def tx:Rx→List Int
  | .mk k s l=>(kbI k++kbI (s.length:Int)++kbI (l.length:Int)++kbsI s)++txL l
def txL:List Rx→List Int
  | []=>[]
  | x :: r=>tx x++txL r
end
theorem txL_snoc:∀ (l:List Rx) (x:Rx),txL (l++[x])=txL l++tx x
  | [],x=>by rw [List.nil_append,txL,txL,txL];simp
  | y :: l,x=>by rw [List.cons_append,txL,txL,txL_snoc l x,List.append_assoc]
theorem tx_eq (r:Rx):tx r=(kbI r.kind++kbI (r.syms.length:Int)++kbI (r.kids.length:Int)++kbsI r.syms)++txL r.kids:=by cases r with|mk k s l=>rw [tx];rfl
theorem kbsI_snoc (l:List Int) (x:Int):kbsI (l++[x])=kbsI l++kbI x:=by unfold kbsI;rw [List.flatMap_append];simp
theorem kbsI_len:∀ l:List Int,(kbsI l).length=3*l.length
  | []=>rfl
  | n :: l => by
    have:=kbsI_len l
    unfold kbsI at this ⊢
    rw [List.flatMap_cons,List.length_append,kbI_len,this,List.length_cons];omega
mutual
theorem tx_len:∀ r:Rx,(tx r).length≤12*r.size
  | .mk k s l => by
    have:=txL_len l
    rw [tx,Rx.size,List.length_append,List.length_append,List.length_append,List.length_append,kbI_len,kbI_len,kbI_len,kbsI_len]
    omega
theorem txL_len:∀ l:List Rx,(txL l).length≤12*Rx.sizes l
  | []=>by rw [txL];exact Nat.zero_le _
  | x :: l => by
    have:=txL_len l
    have:=tx_len x
    rw [txL,Rx.sizes,List.length_append]
    omega
end
def tHead (r:Rx):List Int:=kbI r.kind++kbI (r.syms.length:Int)++kbI (r.kids.length:Int)
def tSyms (r:Rx) (i:Nat):List Int:=tHead r++kbsI (r.syms.take i)
def tKids (r:Rx) (j:Nat):List Int:=tSyms r r.syms.length++txL (r.kids.take j)
theorem tHead_len (r:Rx):(tHead r).length=9:=by unfold tHead;simp [kbI_len]
theorem tSyms_zero (r:Rx):tSyms r 0=tHead r:=by unfold tSyms kbsI;simp
theorem tSyms_succ {r:Rx} {i:Nat} (h:i<r.syms.length):tSyms r (i+1)=tSyms r i++kbI (r.syms.getD i default):=by
  unfold tSyms;rw [take_one h,kbsI_snoc,List.append_assoc]
theorem tKids_zero (r:Rx):tKids r 0=tSyms r r.syms.length:=by unfold tKids;rw [List.take_zero,txL];simp
theorem tKids_succ {r:Rx} {j:Nat} (h:j<r.kids.length):tKids r (j+1)=tKids r j++tx (r.kids.getD j default):=by
  unfold tKids;rw [take_one h,txL_snoc,List.append_assoc]
theorem tKids_all (r:Rx):tKids r r.kids.length=tx r:=by
  unfold tKids tSyms tHead;rw [tx_eq,List.take_length,List.take_length]
theorem tSyms_len {r:Rx} {i:Nat} (h:i≤r.syms.length):(tSyms r i).length=9+3*i:=by
  unfold tSyms;rw [List.length_append,tHead_len,kbsI_len,List.length_take,Nat.min_eq_left h]
theorem sizes_take:∀ {l:List Rx} {j:Nat},j<l.length→Rx.sizes (l.take j)+(l.getD j default).size≤Rx.sizes l
  | [],j,h=>by cases h
  | x :: l,0,h=>by rw [List.take_zero,Rx.sizes,Rx.sizes];show 0+x.size≤_;omega
  | x :: l, j + 1, h => by
    have:=sizes_take (l:=l) (j:=j) (by simpa using h)
    rw [List.take_succ_cons,Rx.sizes,Rx.sizes]
    show x.size+Rx.sizes (l.take j)+(l.getD j default).size≤_
    omega
theorem txk_len {r:Rx} {j:Nat} (h:j<r.kids.length):(tKids r j).length+12*(r.kids.getD j default).size≤12*r.size:=by
  have h1:=sizes_take h
  have h2:=txL_len (r.kids.take j)
  have h3:=size_eq r
  unfold tKids
  rw [List.length_append,tSyms_len (Nat.le_refl _)]
  omega
end Go.Wd

namespace Go.Wb
open Go.Am
abbrev noneRx:Rx:=.mk 0 [] []
abbrev emptyRx:Rx:=.mk 1 [] []
theorem take_succ' {α:Type} [Inhabited α] {l:List α} {i:Nat} (h:i<l.length):l.take (i+1)=l.take i++[l.getD i default]:=by
  rw [List.take_add_one,List.getD_eq_getElem?_getD,List.getElem?_eq_getElem h];rfl
def seqF (x:Rx):List Rx:=if x.kind=3 then x.kids else if x.kind=1 then [] else [x]
def seqL (l:List Rx):List Rx:=l.flatMap seqF
theorem seqL_succ {l:List Rx} {i:Nat} (h:i<l.length):seqL (l.take (i+1))=seqL (l.take i)++seqF (l.getD i default):=by
  rw [take_succ' h,seqL,List.flatMap_append];simp [seqL]
theorem seqF_len (x:Rx):(seqF x).length≤x.size:=by
  unfold seqF;have:=kids_len x;have:=size_pos x
  split
  · omega
  · split<;>simp<;>omega
theorem seqL_len:∀ l:List Rx,(seqL l).length≤Rx.sizes l
  | []=>Nat.zero_le _
  | x :: l => by
    have:=seqL_len l
    have:=seqF_len x
    rw [Rx.sizes];simp only [seqL,List.flatMap_cons,List.length_append] at *;omega
theorem sizes_append:∀ (l m:List Rx),Rx.sizes (l++m)=Rx.sizes l+Rx.sizes m
  | [],m=>by rw [List.nil_append,Rx.sizes,Nat.zero_add]
  | x :: l,m=>by rw [List.cons_append,Rx.sizes,Rx.sizes,sizes_append l m];omega
theorem sizes_take_drop (l:List Rx) (i:Nat):Rx.sizes (l.take i)+Rx.sizes (l.drop i)=Rx.sizes l:=by
  rw [← sizes_append,List.take_append_drop]
theorem seqL_room {l:List Rx} {i:Nat} (h:i<l.length):(seqL (l.take i)).length+(l.getD i default).kids.length+1≤Rx.sizes l:=by
  have h1:=seqL_len (l.take i)
  have h2:=sizes_take_drop l i
  have h3:=sizes_step h
  have h4:=kids_len (l.getD i default)
  omega
theorem seqF_3 {x:Rx} (h:x.kind=3):seqF x=x.kids:=if_pos h
theorem seqF_1 {x:Rx} (h:x.kind=1):seqF x=[]:=by unfold seqF;rw [if_neg (by omega),if_pos h]
theorem seqF_x {x:Rx} (h:x.kind≠3) (h1:x.kind≠1):seqF x=[x]:=by unfold seqF;rw [if_neg h,if_neg h1]
def seqE (k:List Rx):Rx:=if k.length=0 then emptyRx else if k.length=1 then k.getD 0 default else .mk 3 [] k
def seqN (l:List Rx):Rx:=if l.any (fun x=>decide (x.kind=0)) then noneRx else seqE (seqL l)
theorem seqN_none {l:List Rx} {i:Nat} (h:i<l.length) (hk:(l.getD i default).kind=0):seqN l=noneRx:=by
  unfold seqN;rw [if_pos (any_yes h (decide_eq_true hk))]
theorem seqN_some {l:List Rx} (h:∀ j,j<l.length→(l.getD j default).kind≠0):seqN l=seqE (seqL l):=by
  unfold seqN;rw [any_no (p:=fun x:Rx=>decide (x.kind=0)) (l:=l) fun j hj=>decide_eq_false (h j hj)];rfl
theorem seqE_0 {k:List Rx} (h:k.length=0):seqE k=emptyRx:=if_pos h
theorem seqE_1 {k:List Rx} (h:k.length=1):seqE k=k.getD 0 default:=by unfold seqE;rw [if_neg (by omega),if_pos h]
theorem seqE_2 {k:List Rx} (h:k.length≠0) (h1:k.length≠1):seqE k=.mk 3 [] k:=by unfold seqE;rw [if_neg h,if_neg h1]
theorem rx_mk (k:Int) (s:List Int) (l:List Rx):rx (.mk k s l)=.agg [int k,ints s,rxs l]:=rx_eq _
def starB (x:Rx):Rx:=if x.kind=4∧(x.kids.getD 0 default).kind=1 then (if x.kids.length=2 then x.kids.getD 1 default else .mk x.kind x.syms (x.kids.drop 1)) else x
def starN (x:Rx):Rx:=if x.kind=0∨x.kind=1 then emptyRx else if x.kind=5 then x else .mk 5 [] [starB x]
def orI:List Int→Int
  | []=>0
  | x :: l=>thn x (orI l)
theorem orI_step {l:List Int} {k:Nat} (h:k<l.length):orI (l.drop k)=thn (l.getD k default) (orI (l.drop (k+1))):=by rw [drop_cons h];rfl
theorem orderI_nn (x:Int):orderI x x=0:=by unfold orderI;rw [if_neg (by omega),if_neg (by omega)]
theorem orderI_lt {x y:Int} (h:x<y):orderI x y=-1:=if_pos h
theorem orderI_gt {x y:Int} (h:y<x):orderI x y=1:=by unfold orderI;rw [if_neg (by omega),if_pos h]
theorem cmpR_or (a b:Rx):orI [orderI a.kind b.kind,orderL a.syms b.syms,cmpRs a.kids b.kids]=cmpR a b:=by
  rw [cmpR_eq];unfold orI orI orI orI thn;repeat' split
  all_goals first|rfl|(simp_all;done)|omega
end Go.Wb

namespace Go.Wb
open Go.Am
def cptN {α:Type} [Inhabited α] (eq:α→α→Bool) (l:List α):Nat→List α
  | 0=>[]
  | i+1=>if 0<i∧eq (l.getD i default) (l.getD (i-1) default)=true then cptN eq l i else cptN eq l i++[l.getD i default]
def cpt {α:Type} [Inhabited α] (eq:α→α→Bool) (l:List α):List α:=cptN eq l l.length
section
variable {α:Type} [Inhabited α] {eq:α→α→Bool} {l:List α}
theorem cptN_len (i:Nat):(cptN eq l i).length≤i:=by
  induction i with
  | zero=>exact Nat.le_refl _
  | succ i ih =>
    rw [cptN]
    split
    · omega
    · rw [List.length_append,List.length_singleton];omega
theorem cptN_dup {i:Nat} (h0:0<i) (h:eq (l.getD i default) (l.getD (i-1) default)=true):cptN eq l (i+1)=cptN eq l i:=by rw [cptN,if_pos ⟨h0,h⟩]
theorem cptN_new {i:Nat} (h:eq (l.getD i default) (l.getD (i-1) default)=false):cptN eq l (i+1)=cptN eq l i++[l.getD i default]:=by
  rw [cptN,if_neg (fun q=>by rw [h] at q;exact absurd q.2 (by decide))]
theorem cptN_one:cptN eq l 1=[l.getD 0 default]:=by rw [cptN,if_neg (by omega)];rfl
theorem cpt_short (h:l.length<2):cpt eq l=l:=by
  match l,h with
  | [],_=>rfl
  | [x],_=>exact cptN_one
theorem cptN_take {i:Nat} (hi:i<l.length) (h:cptN eq l i=l.take i) (hn:eq (l.getD i default) (l.getD (i-1) default)=false):cptN eq l (i+1)=l.take (i+1):=by
  rw [cptN_new hn,h,take_succ' hi]
theorem getD_set_eq {ys:List α} {k:Nat} {v:α} (h:k<ys.length):(ys.set k v).getD k default=v:=by
  rw [List.getD_eq_getElem?_getD,List.getElem?_set_self h];rfl
theorem getD_set_ne' {ys:List α} {k j:Nat} {v:α} (h:k≠j):(ys.set k v).getD j default=ys.getD j default:=by
  rw [List.getD_eq_getElem?_getD,List.getElem?_set_ne h,List.getD_eq_getElem?_getD]
theorem take_set_succ {ys:List α} {k:Nat} {v:α} (h:k<ys.length):(ys.set k v).take (k+1)=ys.take k++[v]:=by
  rw [take_succ' (by simpa using h),getD_set_eq h,List.take_set_of_le (Nat.le_refl _)]
theorem cpt_put {ys:List α} {k q j:Nat} (hk:k<ys.length) (h:cptN eq l (q+j)=ys.take k) (hn:eq (l.getD (q+j) default) (l.getD (q+j-1) default)=false):cptN eq l (q+(j+1))=(ys.set k (l.getD (q+j) default)).take (k+1):=by
  rw [← Nat.add_assoc,cptN_new hn,h,take_set_succ hk]
theorem cpt_skip {ys:List α} {k q j:Nat} (h0:0<q+j) (h:cptN eq l (q+j)=ys.take k) (hn:eq (l.getD (q+j) default) (l.getD (q+j-1) default)=true):cptN eq l (q+(j+1))=ys.take k:=by
  rw [← Nat.add_assoc,cptN_dup h0 hn,h]
theorem cpt_fin {f:α→AV} {ys:List α} {X:List AV} {k n:Nat} (hk:k≤ys.length) (hn:n=l.length) (h:cptN eq l n=ys.take k):((ys.map f).take k++X).take k=(cpt eq l).map f:=by
  subst hn
  rw [List.take_append_of_le_length (by simp;omega),List.take_take,Nat.min_self,← List.map_take,← h];rfl
theorem cpt_all {n:Nat} (hn:n=l.length) (h:cptN eq l n=l.take n):cpt eq l=l:=by
  subst hn;unfold cpt;rw [h,List.take_length]
end
def altF (x:Rx):List Rx:=if x.kind=4 then x.kids else [x]
def altL (l:List Rx):List Rx:=l.flatMap altF
def putS (s:List Int) (x:Rx):List Int:=if x.kind=2 then s++x.syms else s
def putK (k:List Rx) (x:Rx):List Rx:=if x.kind=0∨x.kind=2 then k else k++[x]
def putSs (l:List Rx):List Int:=l.foldl putS []
def putKs (l:List Rx):List Rx:=l.foldl putK []
theorem altL_succ {l:List Rx} {i:Nat} (h:i<l.length):altL (l.take (i+1))=altL (l.take i)++altF (l.getD i default):=by
  rw [take_succ' h,altL,List.flatMap_append];simp [altL]
theorem get_lastm {α:Type} (f:α→AV) (l:List α) (z:AV):(l.map f++[z])[l.length]?=some z:=by
  rw [List.getElem?_append_right (by simp)];simp
theorem set_last {α:Type} {f:α→AV} {l:List α} {z:AV} {v:α}:(l.map f++[z]).set l.length (f v)=(l++[v]).map f:=by
  rw [List.set_append_right _ _ (by simp),List.length_map,Nat.sub_self,List.map_append];rfl
theorem putS_2 {s:List Int} {x:Rx} (h:x.kind=2):putS s x=s++x.syms:=if_pos h
theorem putS_x {s:List Int} {x:Rx} (h:x.kind≠2):putS s x=s:=if_neg h
theorem putK_0 {k:List Rx} {x:Rx} (h:x.kind=0∨x.kind=2):putK k x=k:=if_pos h
theorem putK_x {k:List Rx} {x:Rx} (h:¬ (x.kind=0∨x.kind=2)):putK k x=k++[x]:=if_neg h
end Go.Wb

