/- Rows of clauses that are only read: grown, joined, copied. -/
import Derived.Test.YtmnnpgdeecnfpaaGreatZPg2
import Derived.Test.YtmnnpgdeecnfpaaGreatZPg1
namespace Go.Proofs.YtmnnpgdeecnfpaaGreat
open Go Go.RowKit

structure Rows {α:Type} (k:Nat) (R:List Value->α->Prop) (css:List (List Value)) (ys:List α):Prop where
 hc:css.length=ys.length
 hk:∀ cs∈css,cs.length=k
 hR:∀ i (h:i<ys.length) (h1:i<css.length),R css[i] ys[i]
theorem Rows.nil {α:Type} (k:Nat) (R:List Value->α->Prop):Rows k R [] ([]:List α):=⟨rfl,by simp,fun i h=>by simp at h⟩
theorem Rows.snoc {α:Type} {k:Nat} {R:List Value->α->Prop} {css:List (List Value)} {ys:List α} (h:Rows k R css ys) {cs:List Value} {y:α} (hR:R cs y) (hl:cs.length=k):Rows k R (css++[cs]) (ys++[y]):=by
 refine ⟨by simp [h.hc],fun c hc=>?_,fun i h0 h2=>?_⟩
 ·rcases List.mem_append.1 hc with hc|hc
  ·exact h.hk c hc
  ·simp at hc; subst hc; exact hl
 ·have e2:=h.hc
  by_cases hi:i<ys.length
  ·rw [List.getElem_append_left (by omega),List.getElem_append_left hi]
   exact h.hR i hi (by omega)
  ·have:i=ys.length:=by simp at h0; omega
   subst this
   rw [List.getElem_append_right (by omega),List.getElem_append_right (by omega)]
   simp only [e2,Nat.sub_self,List.getElem_cons_zero]
   exact hR
theorem Rows.append {α:Type} {k:Nat} {R:List Value->α->Prop} {css css':List (List Value)} {ys ys':List α} (h:Rows k R css ys) (h':Rows k R css' ys'):Rows k R (css++css') (ys++ys'):=by
 have e:=h.hc
 have e':=h'.hc
 refine ⟨by simp [e,e'],fun c hc=>?_,fun i h0 h2=>?_⟩
 ·rcases List.mem_append.1 hc with hc|hc
  ·exact h.hk c hc
  ·exact h'.hk c hc
 ·by_cases hi:i<ys.length
  ·rw [List.getElem_append_left (by omega),List.getElem_append_left hi]
   exact h.hR i hi (by omega)
  ·have hi':i - css.length<ys'.length:=by simp at h0; omega
   rw [List.getElem_append_right (by omega),List.getElem_append_right (by omega)]
   have:=h'.hR (i - css.length) hi' (by omega)
   simpa only [e] using this
theorem RowRd.rows {α:Type} {S:Store} {v:Value} {e:TypeId} {k:Nat} {R:List Value->α->Prop} {css:List (List Value)} {ys:List α} (hr:Rows k R css ys) (h:RowRd S v e k css.length css.flatten):RdSl S k R v ys:=by
 obtain ⟨hl,h⟩:=h
 have hcy:=hr.hc
 rcases h with ⟨rfl,h0⟩|⟨g,cap,cur,rfl,hS,hnc,hcm,hcs,ht⟩
 ·have:ys=[]:=List.eq_nil_of_length_eq_zero (by omega)
  subst this
  exact ⟨none,0,rfl,Nat.le_refl _,Nat.zero_le _,.inl rfl⟩
 ·refine ⟨_,cap,by rw [hcy],by omega,hcm,.inr ⟨g,0,cur,e,(0,0),rfl,hS,fun i hi=>?_⟩⟩
  have:=ez k css i hr.hk (by omega)
  have hik:i * k+k<=css.length * k:=by rw [<- Nat.succ_mul]; exact Nat.mul_le_mul_right k (by omega)
  rw [<- ht,List.drop_take,List.take_take,Nat.min_eq_left (by omega)] at this
  rw [cellsAt,Nat.zero_add,this]
  exact hr.hR i hi (by omega)
theorem yt {css:List (List Value)} (h:∀ cs∈css,∀ u∈cs,u.oneCell'=true):∀ u∈css.flatten,u.oneCell'=true:=by
 intro u hu
 obtain ⟨cs,hc,hu⟩:=List.mem_flatten.1 hu
 exact h cs hc u hu
theorem ji {k:Nat}:∀ {css:List (List Value)},(∀ cs∈css,cs.length=k)->css.flatten.length=css.length * k
 | [],_=>by simp
 | c::css,h=>by
  have:=ji (css:=css) fun cs hc=>h cs (List.mem_cons_of_mem _ hc)
  rw [List.flatten_cons,List.length_append,h c (List.mem_cons_self ..),this,List.length_cons,Nat.succ_mul,Nat.add_comm]
section
variable {P:Program} {w w0:World} {X:List Nat} {L:List Item} {S:Store} {K:Value->World->Prop}
attribute [local irreducible] Run CondV GuardV LoadV
/- append(row, other row...) -/
theorem yh (h:Inv w0 X L S w) {T ty e:TypeId} {k by_:Nat} {z v u:Value} {cs:List Bool} {css css2:List (List Value)} (i i2:Nat)
  (hT:mkOf P T=some (e,k,by_,z)) (hk0:0<k) (hi:L[i]?=some (au v e k css)) (hi2:L[i2]?=some (au u e k css2)) (hk2:∀ cs∈css2,cs.length=k) (h1:∀ cs∈css2,∀ u∈cs,u.oneCell'=true)
  (hfit:css.length+css2.length<=4294967296) (hby:by_<=32768) (hk:∀ v' w',Inv w0 X (L.set i (au v' e k (css++css2))) S w'->K v' w') :
  Run P (sBuiltin .append #[T,T] ty cs [v,u]) w K:=by
 have hm:w.ownsRow 0 e k u css2.length css2.flatten:=h.its _ (List.mem_of_getElem? hi2)
 rcases hm.2 with ⟨rfl,h0⟩|⟨g,cap,cur,rfl,_,hg,hnc,hcm,hcs,ht⟩
 ·have:css2=[]:=List.eq_nil_of_length_eq_zero h0
  subst this
  refine wu h i hT hi (hk v w ?_)
  have:L.set i (au v e k (css++[]))=L:=by
   obtain ⟨hlt,e'⟩:=List.getElem?_eq_some_iff.1 hi
   rw [List.append_nil,<- e',List.set_getElem_self]
  rw [this]
  exact h
 ·refine r_append h i css2.flatten hT hk0 hi (ji hk2) (o:=0) ?_ (yt h1) hfit hby fun v' w' hI=>hk _ _ ?_
  ·intro j u hj
   rw [Nat.zero_add]
   rw [<- ht,List.getElem?_take] at hj
   split at hj
   ·simpa [World.cell?,hg] using hj
   ·cases hj
  ·have e:Item.row v' e k (css.length+css2.length) (css.flatten++css2.flatten)=au v' e k (css++css2):=by simp [au]
   rw [<- e]
   exact hI
end
end Go.Proofs.YtmnnpgdeecnfpaaGreat

/- Reslicing; a read slice joined to a row. -/
namespace Go.Proofs.YtmnnpgdeecnfpaaGreat
open Go Go.RowKit

theorem gG {P:Program} {T e:TypeId} {k:Nat} (h:sliceOf P T=some (e,k)):P.underlying T=some (.slice e)/\∃ i,P.info? e=some i/\i.size=k:=by
 unfold sliceOf at h
 split at h
 ·rename_i e1 he
  rw [Option.map_eq_some_iff] at h
  obtain ⟨i,hi,hx⟩:=h
  simp only [Prod.mk.injEq] at hx
  obtain ⟨rfl,rfl⟩:=hx
  exact ⟨he,i,hi,rfl⟩
 ·cases h
section
variable {P:Program} {w:World} {K:Value->World->Prop}
attribute [local irreducible] Run
theorem ew {n y:Nat} {code:BoundsCode} (h:n<=y):(Instr.sliceBound (.int .i64 n) y code).run P w=.ok n w:=by
 have h1:(0:Int)<=(n:Int)/\(n:Int)<=(y:Int):=by omega
 simp [Instr.sliceBound,asIntOf,h]
theorem CJ {T ty e:TypeId} {k h len cap:Nat} {a:Option Addr} (hT:sliceOf P T=some (e,k)) (hh:h<=cap) (hk:K (.slice (if cap=0 then a else a.map (·.add (0 * k))) h cap) w) :
  Run P (sOp (.slice T (.const (.slice a len cap)) none (some (.const (.int .i64 h))) none) ty) w K:=by
 obtain ⟨hu,i,hi,_⟩:=gG hT
 refine Run.of ?_ hk
 simp [sOp,execOp,ev0,evE,Instr.sliceAt,Instr.slice,Instr.sliceBounds,run_underlying hu,ew hh,sizeOf,typeInfo,hi]
theorem C9 {T ty e:TypeId} {k l len cap:Nat} {a:Option Addr} (hT:sliceOf P T=some (e,k)) (hl:l<=len) (hk:K (.slice (if cap=l then a else a.map (·.add (l * k))) (len - l) (cap - l)) w) :
  Run P (sOp (.slice T (.const (.slice a len cap)) (some (.const (.int .i64 l))) none none) ty) w K:=by
 obtain ⟨hu,i,hi,hs⟩:=gG hT
 refine Run.of ?_ hk
 simp [sOp,execOp,ev0,evE,Instr.sliceAt,Instr.slice,Instr.sliceBounds,run_underlying hu,ew hl,sizeOf,typeInfo,hi,hs]
end
theorem RdSl.to {α:Type} {S:Store} {k:Nat} {R:List Value->α->Prop} {a:Option Addr} {cap n h:Nat} {xs:List α} (hx:RdSl S k R (.slice a n cap) xs) (hh:h<=xs.length) :
  RdSl S k R (.slice (if cap=0 then a else a.map (·.add (0 * k))) h cap) (xs.take h):=by
 obtain ⟨a',cap',e,hl,hc,hx⟩:=hx
 simp only [Value.slice.injEq] at e
 obtain ⟨rfl,rfl,rfl⟩:=e
 have e1:(if cap=0 then a else a.map (·.add (0 * k)))=a:=by
  split
  ·rfl
  ·cases a <;> simp [Addr.add]
 rw [e1]
 have e2:h=(xs.take h).length:=by rw [List.length_take]; omega
 refine ⟨a,cap,by rw [<- e2],by omega,hc,?_⟩
 rcases hx with rfl|⟨b,o,c,E,fz,rfl,hS,hR⟩
 ·left; simp
 ·right
  refine ⟨b,o,c,E,fz,rfl,hS,fun i hi=>?_⟩
  rw [List.getElem_take]
  exact hR i (by omega)
theorem RdSl.from {α:Type} {S:Store} {k:Nat} {R:List Value->α->Prop} {a:Option Addr} {cap n l:Nat} {xs:List α} (hx:RdSl S k R (.slice a n cap) xs) (hl:l<=xs.length) :
  RdSl S k R (.slice (if cap=l then a else a.map (·.add (l * k))) (n - l) (cap - l)) (xs.drop l):=by
 obtain ⟨a',cap',e,hlc,hc,hx⟩:=hx
 simp only [Value.slice.injEq] at e
 obtain ⟨rfl,rfl,rfl⟩:=e
 refine ⟨_,cap - l,by rw [List.length_drop],by rw [List.length_drop]; omega,by omega,?_⟩
 by_cases hd:xs.drop l=[]
 ·exact .inl hd
 ·rcases hx with rfl|⟨b,o,c,E,fz,rfl,hS,hR⟩
  ·simp at hd
  ·right
   have hlt:l<xs.length:=by
    rcases Nat.lt_or_ge l xs.length with h|h
    ·exact h
    ·exact absurd (List.drop_eq_nil_of_le h) hd
   refine ⟨b,o+l * k,c,E,fz,?_,hS,fun i hi=>?_⟩
   ·rw [if_neg (by omega)]
    simp [Addr.add]
   ·rw [List.getElem_drop]
    have:=hR (l+i) (by simp at hi; omega)
    rwa [Nat.add_mul,<- Nat.add_assoc] at this
section
variable {P:Program} {w w0:World} {X:List Nat} {L:List Item} {S:Store} {K:Value->World->Prop}
attribute [local irreducible] Run CondV GuardV LoadV
theorem Cu {α:Type} {R:List Value->α->Prop} {xs:List α} {v:Value} {T ty e:TypeId} {k h:Nat} (hT:sliceOf P T=some (e,k)) (hx:RdSl S k R v xs) (hh:h<=xs.length)
  (hk:∀ v',RdSl S k R v' (xs.take h)->K v' w):Run P (sOp (.slice T (.const v) none (some (.const (.int .i64 h))) none) ty) w K:=by
 obtain ⟨a,cap,rfl,hl,hc,hx'⟩:=id hx
 exact CJ hT (by omega) (hk _ (hx.to hh))
theorem dF {α:Type} {R:List Value->α->Prop} {xs:List α} {v:Value} {T ty e:TypeId} {k l:Nat} (hT:sliceOf P T=some (e,k)) (hx:RdSl S k R v xs) (hl:l<=xs.length)
  (hk:∀ v',RdSl S k R v' (xs.drop l)->K v' w):Run P (sOp (.slice T (.const v) (some (.const (.int .i64 l))) none none) ty) w K:=by
 obtain ⟨a,cap,rfl,hl',hc,hx'⟩:=id hx
 exact C9 hT hl (hk _ (hx.from hl))
end
theorem RdSl.exact {α:Type} {S:Store} {k:Nat} {R:List Value->α->Prop} {v:Value} {ys:List α} (h:RdSl S k R v ys) (hk:∀ cs y,R cs y->cs.length=k) :
  ∃ ds:List {cs:List Value // cs.length=k},RdSl S k (fun cs d=>cs=d.val) v ds/\Rows k R (ds.map (·.val)) ys:=by
 obtain ⟨a,cap,rfl,hl,hc,hx⟩:=h
 rcases hx with rfl|⟨b,o,c,E,fz,rfl,hS,hR⟩
 ·exact ⟨[],⟨a,cap,rfl,hl,hc,.inl rfl⟩,Rows.nil _ _⟩
 ·refine ⟨List.ofFn fun i:Fin ys.length=>⟨cellsAt c (o+i.val * k) k,hk _ _ (hR i.val i.isLt)⟩,⟨_,cap,by rw [List.length_ofFn],by rw [List.length_ofFn]; exact hl,hc,.inr ⟨b,o,c,E,fz,rfl,hS,fun i hi=>by simp⟩⟩,⟨by simp,fun cs hcs=>?_,fun i h1 h2=>?_⟩⟩
  ·obtain ⟨d,_,rfl⟩:=List.mem_map.1 hcs
   exact d.property
  ·simp only [List.getElem_map,List.getElem_ofFn]
   exact hR i h1
section
variable {P:Program} {w w0:World} {X:List Nat} {L:List Item} {S:Store} {K:Value->World->Prop}
attribute [local irreducible] Run CondV GuardV LoadV
theorem mh {α:Type} {R:List Value->α->Prop} (h:Inv w0 X L S w) {T ty e:TypeId} {k by_:Nat} {z v u:Value} {cs:List Bool} {css:List (List Value)} {ys:List α} (i:Nat)
  (hT:mkOf P T=some (e,k,by_,z)) (hk0:0<k) (hi:L[i]?=some (au v e k css)) (hr:RdSl S k R u ys) (hlen:∀ cs y,R cs y->cs.length=k) (h1:∀ cs y,R cs y->∀ c∈cs,c.oneCell'=true)
  (hfit:css.length+ys.length<=4294967296) (hby:by_<=32768) (hk:∀ v' w' css2,Rows k R css2 ys->Inv w0 X (L.set i (au v' e k (css++css2))) S w'->K v' w') :
  Run P (sBuiltin .append #[T,T] ty cs [v,u]) w K:=by
 obtain ⟨ds,hd,hR⟩:=hr.exact hlen
 have hdl:ds.length=ys.length:=by have:=hR.hc; simpa using this
 have hone:∀ d∈ds,∀ c∈d.val,c.oneCell'=true:=by
  intro d hd' c hc
  obtain ⟨j,hj,rfl⟩:=List.mem_iff_getElem.1 hd'
  have:=hR.hR j (by omega) (by simpa using hj)
  simp only [List.getElem_map] at this
  exact h1 _ _ this c hc
 obtain ⟨a,cap,rfl,hl',hc',hx⟩:=id hd
 have e1:∀ v',Item.row v' e k (css.length+ds.length) (css.flatten++(ds.map (·.val)).flatten)=au v' e k (css++ds.map (·.val)):=fun v'=>by simp [au]
 rcases hx with rfl|⟨b,o,c,E,fz,rfl,hS,hel⟩
 ·refine wu h i hT hi (hk v w [] (by simpa using hR) ?_)
  have:L.set i (au v e k (css++[]))=L:=by
   obtain ⟨hlt,e'⟩:=List.getElem?_eq_some_iff.1 hi
   rw [List.append_nil,<- e',List.set_getElem_self]
  rw [this]
  exact h
 ·have hfl:(ds.map (·.val)).flatten.length=ds.length * k:=by
   rw [ji (k:=k) (fun cs hcs=>by obtain ⟨d,_,rfl⟩:=List.mem_map.1 hcs; exact d.property),List.length_map]
  refine r_append h i (ds.map (·.val)).flatten hT hk0 hi hfl ?_ ?_ (by omega) hby fun v' w' hI=>hk _ _ _ hR ?_
  ·intro j u hj
   have hj':j<ds.length * k:=by
    rw [<- hfl]
    exact (List.getElem?_eq_some_iff.1 hj).1
   have hq:j / k<ds.length:=(Nat.div_lt_iff_lt_mul hk0).2 hj'
   have hcell:=hel (j / k) hq
   have hflat:=ez k (ds.map (·.val)) (j / k) (fun cs hcs=>by obtain ⟨d,_,rfl⟩:=List.mem_map.1 hcs; exact d.property) (by simpa using hq)
   have hdm:=Nat.div_add_mod j k
   rw [Nat.mul_comm] at hdm
   rw [h.cellS hS]
   have e2:(ds.map (·.val)).flatten[j]?=(ds[j / k].val)[j % k]?:=by
    rw [List.getElem_map] at hflat
    rw [<- hflat,List.getElem?_take,if_pos (Nat.mod_lt _ hk0),List.getElem?_drop]
    congr 1
    omega
   rw [e2] at hj
   have:=cellsAt_get hcell (j % k) u hj
   rw [<- this]
   congr 1
   omega
  ·intro u hu
   obtain ⟨cs,hcs,hu⟩:=List.mem_flatten.1 hu
   obtain ⟨d,hd',rfl⟩:=List.mem_map.1 hcs
   exact hone d hd' u hu
  ·rw [<- e1]
   exact hI
end

end Go.Proofs.YtmnnpgdeecnfpaaGreat

/- Plain functions: texts of terms and clauses, and how texts are read. Fuel runs out: none. -/
namespace Go.Proofs.YtmnnpgdeecnfpaaGreat
open Go Go.RowKit

abbrev Bs:=List UInt8
abbrev bs (s:ByteArray):Bs:=s.data.toList
abbrev st (l:Bs):ByteArray:=⟨l.toArray⟩
theorem wl (l:Bs):bs (st l)=l:=by simp [bs]
theorem fb (l:Bs):(st l).size=l.length:=by simp [ByteArray.size]

def sgn (s:Bs) (i:Nat) (c:Nat):Bool:=match s[i]? with
 | some b=>decide (b.toNat=c)
 | none=>false
def btw (s:Bs) (i:Nat) (a b:Nat):Bool:=match s[i]? with
 | some x=>decide (a<=x.toNat) && decide (x.toNat<=b)
 | none=>false
def sml (s:Bs) (i:Nat):Bool:=btw s i 97 122
def dig (s:Bs) (i:Nat):Bool:=btw s i 48 57
def upp (s:Bs) (i:Nat):Bool:=btw s i 65 90
def cut (s:Bs) (a b:Nat):Bs:=(s.take b).drop a

def rL (s:Bs):Nat->Nat->Nat
 | 0,e=>e
 | n+1,e=>if sml s e=true then rL s n (e+1) else e
def dn (s:Bs) (i:Nat):List ByteArray->Bs->Bs
 | [],b=>b
 | x::l,b=>dn s i l (if decide (i+x.size<=s.length)=true/\cut s i (i+x.size)=bs x/\b.length<x.size then bs x else b)
def oN (s:Bs) (i:Nat):Option (Bs × Nat):=
 let e:=rL s (s.length - i) i
 if i+6<e then none else if i<e then some (cut s i e,e) else
  let b:=dn s i signs []
  if b=[] then none else some (b,i+b.length)
def kR (s:Bs):Nat->Nat->Nat
 | 0,e=>e
 | n+1,e=>if dig s e=true then kR s n (e+1) else e
def vk:Bs->Nat->Nat
 | [],n=>n
 | b::l,n=>vk l (n * 10+(b.toNat - 48))
def DO (s:Bs) (i:Nat):Option (T × Nat):=
 let from_:=if sgn s i 45=true then i+1 else i
 let e:=kR s 4 from_
 let d:=cut s from_ e
 let n:=vk d 0
 if d=[] ∨ (sgn d 0 48=true/\1<d.length) ∨ (i<from_/\n=0) ∨ 999<n then none
 else some (.mk 2 (if i<from_ then -(n:Int) else n) emptyB [],e)
def yr (name:Bs) (kids:List T):T:=.mk 3 0 (st name) kids
def Fm:T:=yr [91,93] []
def ye (a b:T):T:=yr [46] [a,b]
def dw:List T->T->T
 | [],t=>t
 | a::l,t=>ye a (dw l t)
def opF (s:Bs) (i:Nat):Option (Bs × Nat):=
 let from_:=if sgn s i 32=true then i+1 else i
 if s.length<=from_ then none else match oN s from_ with
  | none=>none
  | some (name,next)=>
   let word:=decide (name=[105,115]) || decide (name=[109,111,100])
   if aU (st name)=0 ∨ word≠decide (i<from_) ∨ (word=true/\sgn s next 32=false) then none
   else some (name,if word=true then next+1 else next)
mutual
def dI:Nat->Bs->Nat->Nat->Nat->Option (T × Nat)
 | 0,_,_,_,_=>none
 | f+1,s,i,d,0=>me f s i d
 | f+1,s,i,d,l+1=>match dI f s i d l with
  | none=>none
  | some (t,n)=>zS f s n d l t
def zS:Nat->Bs->Nat->Nat->Nat->T->Option (T × Nat)
 | 0,_,_,_,_,_=>none
 | f+1,s,i,d,l,t=>match opF s i with
  | none=>some (t,i)
  | some (name,after)=>if aU (st name)=((l+1:Nat):Int) then match dI f s after d l with
    | none=>none
    | some (r,e)=>if l=2 then some (yr name [t,r],e) else zS f s e d l (yr name [t,r])
   else some (t,i)
def me:Nat->Bs->Nat->Nat->Option (T × Nat)
 | 0,_,_,_=>none
 | f+1,s,i,d=>if d=0 ∨ s.length<=i then none else if sgn s i 40=true then match dI f s (i+1) d 3 with
    | none=>none
    | some (t,n)=>if sgn s n 41=true then some (t,n+1) else none
  else if sgn s i 91=true/\sgn s (i+1) 93=false then match cW f s (i+1) (d - 1) 93 124 [] with
    | none=>none
    | some (ts,n)=>if sgn s n 93=true then some (dw ts Fm,n+1) else match dI f s (n+1) (d - 1) 3 with
     | none=>none
     | some (t,e)=>if sgn s e 93=true then some (dw ts t,e+1) else none
  else if upp s i=true then some (.mk 1 ((s.getD i 0).toNat - 65) emptyB [],i+1)
  else if dig s i=true ∨ (sgn s i 45=true/\dig s (i+1)=true) then DO s i
  else match oN s i with
   | none=>none
   | some (name,n)=>if sgn s n 40=false then some (yr name [],n) else match cW f s (n+1) (d - 1) 41 41 [] with
    | none=>none
    | some (ts,e)=>some (yr name ts,e+1)
def cW:Nat->Bs->Nat->Nat->Nat->Nat->List T->Option (List T × Nat)
 | 0,_,_,_,_,_,_=>none
 | f+1,s,i,d,e,o,acc=>match dI f s i d 3 with
  | none=>none
  | some (t,n)=>if sgn s n e=true ∨ sgn s n o=true then some (acc++[t],n) else if sgn s n 44=true then cW f s (n+1) d e o (acc++[t]) else none
end

/- texts -/
def gK (t:T):Bool:=decide (t.kind=3) && (decide (t.kids.length=2) && decide (0<aU t.name))
def tT (t:T):Bool:=decide (t.kind=3) && (decide (t.name=st [46]) && decide (t.kids.length=2))
def Dj (t:T):Bool:=decide (t.kind=3) && (decide (t.name=st [91,93]) && decide (t.kids.length=0))
def qg (t:T):Bool:=decide (t.kind=3) && (decide (t.kids.length=0) && decide (0<aU t.name))
def xS (s:Bs):Bool:=sml s 0 || (dig s 0 || (upp s 0 || (sgn s 0 91 || sgn s 0 40)))
def cS (n:Bs):Bs:=if n=[105,115] ∨ n=[109,111,100] then 32::(n++[32]) else n
def uI:Nat->Nat->Bs->Option Bs
 | 0,_,_=>none
 | f+1,n,out=>if 9<n then uI f (n / 10) (UInt8.ofNat (48+n % 10)::out) else some (UInt8.ofNat (48+n)::out)
def Fb (n:Int):Option Bs:=if n<0 then (uI 20 (-n).toNat []).map fun l=>45::l else uI 20 n.toNat []
def Ef (t:T):Option Bs:=if t.kind=1 then (if 0<=t.n/\t.n<=25 then some [UInt8.ofNat (65+t.n.toNat)] else none)
 else if t.kind=2 then (if -999<=t.n/\t.n<=999 then Fb t.n else none) else if t.kids.length=0 then some (bs t.name) else none
mutual
def xr:Nat->T->Option Bs
 | 0,_=>none
 | f+1,t=>if tT t=true then wj f t [] else if gK t=true then match t.kids with
   | [a,b]=>match Bt f a (if aU t.name=3 then 2 else aU t.name),xt f b (aU t.name - 1) with
    | some x,some y=>some (x++cS (bs t.name)++y)
    | _,_=>none
   | _=>none
  else if t.kind=3/\0<t.kids.length then match im f t.kids [] with
   | some x=>some (bs t.name++[40]++x++[41])
   | none=>none
  else Ef t
def wj:Nat->T->List T->Option Bs
 | 0,_,_=>none
 | f+1,t,items=>if tT t=true then match t.kids with
   | [a,b]=>wj f b (items++[a])
   | _=>none
  else match im f items [] with
   | none=>none
   | some x=>if Dj t=true then some ([91]++x++[93]) else match xr f t with
    | none=>none
    | some y=>some ([91]++x++[124]++y++[93])
def im:Nat->List T->Bs->Option Bs
 | 0,_,_=>none
 | _+1,[],out=>some out
 | f+1,t::l,out=>match xr f t with
  | none=>none
  | some x=>im f l (out++x++(if l=[] then [] else [44]))
def jn:Nat->T->Int->Option Bs
 | 0,_,_=>none
 | f+1,t,l=>match xr f t with
  | none=>none
  | some x=>some (if gK t=true/\l<aU t.name then [40]++x++[41] else x)
def Bt:Nat->T->Int->Option Bs
 | 0,_,_=>none
 | f+1,t,l=>if qg t=true then match xr f t with
   | none=>none
   | some x=>some ([40]++x++[41])
  else jn f t l
def xt:Nat->T->Int->Option Bs
 | 0,_,_=>none
 | f+1,t,l=>match jn f t l with
  | none=>none
  | some x=>if x=[] then none else some (if qg t=true ∨ xS x=false then [40]++x++[41] else x)
end
def qN (f:Nat):List T->Bool->Bs->Option Bs
 | [],_,out=>some out
 | t::l,first,out=>match xr f t with
  | none=>none
  | some x=>qN f l false (out++(if first=true then [58,45] else [44])++x)
def BE (f:Nat) (c:C):Option Bs:=match xr f c.head with
 | none=>none
 | some x=>match qN f c.body true x with
  | none=>none
  | some y=>some (y++[46])

/- clauses and programs -/
def gD (f:Nat):Nat->Bs->Nat->List T->Option (List T × Nat)
 | 0,_,_,_=>none
 | k+1,s,i,acc=>if 6<acc.length then none else match dI f s i 30 3 with
  | none=>none
  | some (t,n)=>if sgn s n 44=true then gD f k s (n+1) (acc++[t]) else some (acc++[t],n)
def Ck (f:Nat) (s:Bs) (c:C) (n:Nat):Option C:=
 if n+1=s.length/\sgn s n 46=true/\aH c=true/\wC c<=200/\BE f c=some s then some c else none
def mQ (f:Nat) (s:Bs):Option C:=if 1000<s.length then none else match dI f s 0 30 3 with
 | none=>none
 | some (h,n)=>if sgn s n 58=true/\sgn s (n+1) 45=true then match gD f 8 s (n+2) [] with
   | none=>none
   | some (b,n2)=>Ck f s ⟨h,b⟩ n2
  else Ck f s ⟨h,[]⟩ n
def uQ (s:Bs) (c:Nat):Nat->Nat->Nat->List Bs->List Bs
 | 0,i,from_,acc=>acc++[cut s from_ i]
 | n+1,i,from_,acc=>if sgn s i c=true then uQ s c n (i+1) (i+1) (acc++[cut s from_ i]) else uQ s c n (i+1) from_ acc
def CH (s:Bs):List Bs:=uQ s 10 s.length 0 0 []
def eE (f:Nat):List Bs->List C->Option (List C)
 | [],acc=>some acc
 | l::ls,acc=>match mQ f l with
  | none=>none
  | some c=>eE f ls (acc++[c])
def BG (f:Nat) (s:Bs):Option (List C):=
 let ls:=CH s
 if 21<ls.length ∨ ls.getLast?≠some [] then none else eE f ls.dropLast []
def Dx (s:Bs):Bool:=match BG 60 s with
 | some p=>decide (0<p.length) && (decide (p.length<=8) && p.all fun c=>aH c && decide (wC c<=200))
 | none=>false
end Go.Proofs.YtmnnpgdeecnfpaaGreat

/- More rules: arithmetic, conversions, texts joined and cut. -/
namespace Go.Proofs.YtmnnpgdeecnfpaaGreat
open Go Go.RowKit
section
variable {P:Program} {w w0:World} {X:List Nat} {L:List Item} {S:Store} {K:Value->World->Prop}
theorem sE {T:TypeId} {cx cy:Bool} {k:IntKind} {a b:Int} (h:a<b) (hk:K (.bool true) w):Run P (sBin .lss T cx cy (.int k a) (.int k b)) w K:=by
 refine r_lss ?_
 rw [decide_eq_true h]
 exact hk
theorem bH {T:TypeId} {cx cy:Bool} {k:IntKind} {a b:Int} (h:¬ (a<b)) (hk:K (.bool false) w):Run P (sBin .lss T cx cy (.int k a) (.int k b)) w K:=by
 refine r_lss ?_
 rw [decide_eq_false h]
 exact hk
theorem xU {T:TypeId} {cx cy:Bool} {k:IntKind} {a b:Int} (h:a<=b) (hk:K (.bool true) w):Run P (sBin .leq T cx cy (.int k a) (.int k b)) w K:=by
 refine r_leq ?_
 rw [decide_eq_true h]
 exact hk
theorem CZ {T:TypeId} {cx cy:Bool} {k:IntKind} {a b:Int} (h:¬ (a<=b)) (hk:K (.bool false) w):Run P (sBin .leq T cx cy (.int k a) (.int k b)) w K:=by
 refine r_leq ?_
 rw [decide_eq_false h]
 exact hk
theorem sn {T:TypeId} {cx cy:Bool} {k:IntKind} {a b:Int} (h:b<a) (hk:K (.bool true) w):Run P (sBin .gtr T cx cy (.int k a) (.int k b)) w K:=by
 refine r_gtr ?_
 rw [decide_eq_true h]
 exact hk
theorem eF {T:TypeId} {cx cy:Bool} {k:IntKind} {a b:Int} (h:¬ (b<a)) (hk:K (.bool false) w):Run P (sBin .gtr T cx cy (.int k a) (.int k b)) w K:=by
 refine r_gtr ?_
 rw [decide_eq_false h]
 exact hk
theorem gJ {T:TypeId} {cx cy:Bool} {k:IntKind} {a b:Int} (h:b<=a) (hk:K (.bool true) w):Run P (sBin .geq T cx cy (.int k a) (.int k b)) w K:=by
 refine r_geq ?_
 rw [decide_eq_true h]
 exact hk
theorem pA {T:TypeId} {cx cy:Bool} {k:IntKind} {a b:Int} (h:¬ (b<=a)) (hk:K (.bool false) w):Run P (sBin .geq T cx cy (.int k a) (.int k b)) w K:=by
 refine r_geq ?_
 rw [decide_eq_false h]
 exact hk
theorem bY {T:TypeId} {cx cy:Bool} {k:IntKind} {a b:Int} (h:a=b) (hk:K (.bool true) w):Run P (sBin .eql T cx cy (.int k a) (.int k b)) w K:=by
 refine r_eql ?_
 rw [decide_eq_true h]
 exact hk
theorem bF {T:TypeId} {cx cy:Bool} {k:IntKind} {a b:Int} (h:¬ (a=b)) (hk:K (.bool false) w):Run P (sBin .eql T cx cy (.int k a) (.int k b)) w K:=by
 refine r_eql ?_
 rw [decide_eq_false h]
 exact hk
theorem vV {T:TypeId} {cx cy:Bool} {a b:Int} (hr:-9223372036854775808<=a * b/\a * b<=9223372036854775807) (hk:K (.int .i64 (a * b)) w):Run P (sBin .mul T cx cy (.int .i64 a) (.int .i64 b)) w K:=
 Run.of (by simp [sBin,eqGuard_int,binOp,Op.intArith,IntWalk.i64_in _ hr]) hk
theorem Fr {T:TypeId} {cx cy:Bool} {a b:Nat} (hb:0<b) (ha:a<=9223372036854775807) (hk:K (.int .i64 ((a / b:Nat):Int)) w):Run P (sBin .quo T cx cy (.int .i64 (a:Int)) (.int .i64 (b:Int))) w K:=by
 refine Run.of ?_ hk
 have h0:¬ ((b:Int)=0):=by omega
 have h1:IntKind.i64.wrap ((a:Int).tdiv b)=((a / b:Nat):Int):=by
  rw [IntWalk.i64_quo _ _ (by omega)]; rfl
 simp only [sBin,eqGuard_int,binOp,Op.intDiv,Sem.run_bind,Result.andThen_ok,if_neg h0,Sem.run_pure]
 exact congrArg (fun v=>Result.ok (Next.value (.int .i64 v)) w) h1
theorem Ax {T:TypeId} {cx cy:Bool} {a b:Nat} (hb:0<b) (hk:K (.int .i64 ((a % b:Nat):Int)) w):Run P (sBin .rem T cx cy (.int .i64 (a:Int)) (.int .i64 (b:Int))) w K:=by
 refine Run.of ?_ hk
 have h1:(a:Int).tmod b=((a % b:Nat):Int):=by
  rw [IntWalk.rem_in _ _ (by omega)]; rfl
 have h0:¬ ((b:Int)=0):=by omega
 simp only [sBin,eqGuard_int,binOp,Op.intDiv,Sem.run_bind,Result.andThen_ok,if_neg h0,Sem.run_pure]
 exact congrArg (fun v=>Result.ok (Next.value (.int .i64 v)) w) h1
theorem EV {T:TypeId} {cx cy:Bool} {a b:Nat} (ha:a<4611686018427387904) (hb:b<4611686018427387904) (hk:K (.int .i64 ((a ^^^ b:Nat):Int)) w):Run P (sBin .xor T cx cy (.int .i64 (a:Int)) (.int .i64 (b:Int))) w K:=by
 refine Run.of ?_ hk
 have hx:a ^^^ b<2 ^ 62:=Nat.xor_lt_two_pow (by simpa using ha) (by simpa using hb)
 have e1:(BitVec.ofInt 64 (a:Int)).toNat=a:=by rw [BitVec.toNat_ofInt]; omega
 have e2:(BitVec.ofInt 64 (b:Int)).toNat=b:=by rw [BitVec.toNat_ofInt]; omega
 have h1:IntKind.i64.wrap ((BitVec.ofInt 64 (a:Int) ^^^ BitVec.ofInt 64 (b:Int)).toNat:Int)=((a ^^^ b:Nat):Int):=by
  rw [BitVec.toNat_xor,e1,e2]
  exact IntWalk.i64_in _ (by omega)
 simp only [sBin,eqGuard_int,binOp,Op.intBits,Sem.run_bind,Result.andThen_ok,Sem.run_pure]
 exact congrArg (fun v=>Result.ok (Next.value (.int .i64 v)) w) h1
theorem E9 {T:TypeId} {cx cy:Bool} {k:IntKind} {a b c:Int} (hr:k.wrap (a+b)=c) (hk:K (.int k c) w):Run P (sBin .add T cx cy (.int k a) (.int k b)) w K:=
 Run.of (by simp [sBin,eqGuard_int,binOp,Op.intArith,hr]) hk
theorem DY {T:TypeId} {cx cy:Bool} {k:IntKind} {a b c:Int} (hr:k.wrap (a - b)=c) (hk:K (.int k c) w):Run P (sBin .sub T cx cy (.int k a) (.int k b)) w K:=
 Run.of (by simp [sBin,eqGuard_int,binOp,Op.intArith,hr]) hk
theorem jL {src dst ty:TypeId} {k k':IntKind} {n m:Int} {d:TypeDesc} (hs:P.underlying src=some d) (hd:P.underlying dst=some (.int k')) (hr:k'.wrap n=m) (hk:K (.int k' m) w) :
  Run P (sOp (.convert src dst (.const (.int k n))) ty) w K:=by
 refine Run.of ?_ hk
 simp [sOp,execOp,ev0,evE,convert,run_underlying hs,run_underlying hd,Conv.intToInt,hr]
theorem ES {T ty:TypeId} {n:Int} (hr:-9223372036854775808<=-n/\-n<=9223372036854775807) (hk:K (.int .i64 (-n)) w):Run P (sOp (.unOp .neg T (.const (.int .i64 n))) ty) w K:=
 Run.of (by simp [sOp,execOp,ev0,evE,Op.unary,Op.intArith,Int.zero_sub,IntWalk.i64_in _ hr]) hk
theorem Fc (a b:Bs):st a++st b=st (a++b):=by
 apply ByteArray.ext
 simp [st]
theorem bi {T:TypeId} {cx cy:Bool} {a b:Bs} (hl:a.length+b.length<=9223372036854775807) (hk:K (.string (st (a++b))) w):Run P (sBin .add T cx cy (.string (st a)) (.string (st b))) w K:=by
 refine Run.of ?_ hk
 have h1:¬ (9223372036854775807<(((st a).size+(st b).size:Nat):Int)):=by rw [fb,fb]; omega
 have h2:IntKind.i64.max=9223372036854775807:=by decide
 simp only [sBin,binOp,Op.stringOp,Sem.run_bind,eqGuard_str,Result.andThen_ok,gt_iff_lt,h2,if_neg h1,Sem.run_pure,Fc]
theorem ET (s:Bs) (a b:Nat):(st s).extract a b=st (cut s a b):=by
 apply ByteArray.ext
 apply Array.toList_inj.1
 simp [cut,ByteArray.data_extract,List.drop_take]
theorem si {T ty:TypeId} {s:Bs} {a b:Nat} (hu:P.underlying T=some .string) (hab:a<=b) (hb:b<=s.length) (hk:K (.string (st (cut s a b))) w) :
  Run P (sOp (.slice T (.const (.string (st s))) (some (.const (.int .i64 a))) (some (.const (.int .i64 b))) none) ty) w K:=by
 refine Run.of ?_ hk
 have hb':b<=(st s).size:=by rw [fb]; exact hb
 simp [sOp,execOp,ev0,evE,Instr.sliceAt,Instr.slice,Instr.sliceBounds,run_underlying hu,ew hab,ew hb',ET]
/- a byte out of a text -/
theorem bB {T ty:TypeId} {s:Bs} {i:Nat} (hu:P.underlying T=some .string) (hi:i<s.length) (hk:K (.int .u8 s[i].toNat) w) :
  Run P (sOp (.index T (.const (.string (st s))) (.const (.int .i64 i))) ty) w K:=by
 have hi':i<(st s).size:=by rw [fb]; exact hi
 refine r_indexStr hu hi' ?_
 have:(st s)[i]=s[i]:=by simp [st,ByteArray.getElem_eq_getElem_data]
 rw [this]
 exact hk
theorem bS {T ty:TypeId} {cs:List Bool} {s:Bs} (hu:P.underlying T=some .string) (hk:K (.int .i64 s.length) w):Run P (sBuiltin .len #[T] ty cs [.string (st s)]) w K:=by
 refine r_lenStr hu ?_
 rw [fb]
 exact hk
theorem sB {T:TypeId} {cx cy:Bool} {a b:Bs} (hk:K (.bool (decide (a=b))) w):Run P (sBin .eql T cx cy (.string (st a)) (.string (st b))) w K:=by
 refine r_seql ?_
 have:decide (st a=st b)=decide (a=b):=by
  rw [decide_eq_decide]
  exact ⟨fun h=>by rw [<- wl a,h,wl],fun h=>by rw [h]⟩
 rw [this]
 exact hk
theorem BO {T:TypeId} {cx cy:Bool} {a b:Bs} (hk:K (.bool (!decide (a=b))) w):Run P (sBin .neq T cx cy (.string (st a)) (.string (st b))) w K:=by
 refine r_sneq ?_
 have:decide (st a=st b)=decide (a=b):=by
  rw [decide_eq_decide]
  exact ⟨fun h=>by rw [<- wl a,h,wl],fun h=>by rw [h]⟩
 rw [this]
 exact hk
/- string([]byte{x}) -/
theorem sN (h:Inv w0 X L S w) {T T' D ty e:TypeId} {by_:Nat} {z:Value} {n:Nat} (hT:mkOf P T=some (e,1,by_,z)) (he:P.underlying T'=some (.slice e)) (hb:P.underlying e=some (.int .u8)) (hD:P.underlying D=some .string)
  (hk:∀ w',Inv w0 X L S w'->K (.string (st [UInt8.ofNat n])) w') :
  Run P (sBuildSlice T 1 [(0,.int .u8 (n:Int))]) w fun u w'=>Run P (sOp (.convert T' D (.const u)) ty) w' K:=by
 refine r_slice1 h hT rfl (by omega) (by omega) fun b w' hI=>?_
 have hi:(L++[Item.blk b (.cells (Value.int .u8 (n:Int)).cells e)])[L.length]?=some (.blk b (.cells (Value.int .u8 (n:Int)).cells e)):=by
  rw [List.getElem?_append_right (Nat.le_refl _),Nat.sub_self]; rfl
 have hc:w'.cell? ⟨b,0,none⟩=some (.int .u8 (n:Int)):=by rw [hI.cellL hi]; rfl
 have hl:=run_loadCells_list (P:=P) (w:=w') ⟨b,0,none⟩ [.int .u8 (n:Int)] (fun j v hj=>by
  match j with
  | 0=>simp only [List.getElem?_cons_zero,Option.some.injEq] at hj; subst hj; rw [add_lit]; exact hc
  | j+1=>simp at hj)
 simp only [List.length_cons,List.length_nil] at hl
 refine Run.of (w':=w') ?_ (hk _ (hI.sub (List.sublist_append_left _ _)))
 simp [sOp,execOp,ev0,evE,convert,run_underlying he,run_underlying hb,run_underlying hD,Conv.bytesToString,hl,st]
 rfl
end
end Go.Proofs.YtmnnpgdeecnfpaaGreat
