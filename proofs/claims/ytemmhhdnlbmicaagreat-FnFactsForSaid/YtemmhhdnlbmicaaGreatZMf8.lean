/- The standard order of terms: a total order on well-formed terms. -/
import Derived.Test.YtemmhhdnlbmicaaGreatZMf7
import Derived.Test.YtemmhhdnlbmicaaGreatZMf3
namespace Go.Proofs.YtemmhhdnlbmicaaGreat
open Go Go.RowKit

theorem tW:∀ (a b c:List UInt8),Op.bytesLess a b=true->Op.bytesLess b c=true->Op.bytesLess a c=true
 | _,[],_,h,_=>by simp [Op.bytesLess] at h
 | _,_::_,[],_,h=>by simp [Op.bytesLess] at h
 | [],_::_,_::_,_,_=>by simp [Op.bytesLess]
 | x::a,y::b,z::c,h,h'=>by
  simp only [Op.bytesLess,Bool.or_eq_true,decide_eq_true_eq,Bool.and_eq_true,beq_iff_eq] at h h' ⊢
  rcases h with h|⟨rfl,h⟩
  ·rcases h' with h'|⟨rfl,h'⟩
   ·left; exact UInt8.lt_trans h h'
   ·left; exact h
  ·rcases h' with h'|⟨rfl,h'⟩
   ·left; exact h'
   ·right; exact ⟨rfl,tW a b c h h'⟩
theorem wq:∀ a:List UInt8,Op.bytesLess a a=false
 | []=>by simp [Op.bytesLess]
 | x::a=>by
  simp only [Op.bytesLess,wq a,Bool.and_false,Bool.or_false,decide_eq_false_iff_not]
  exact UInt8.lt_irrefl x
theorem AD:∀ a b:List UInt8,a≠b->Op.bytesLess a b=true ∨ Op.bytesLess b a=true
 | [],[],h=>absurd rfl h
 | [],_::_,_=>.inl (by simp [Op.bytesLess])
 | _::_,[],_=>.inr (by simp [Op.bytesLess])
 | x::a,y::b,h=>by
  simp only [Op.bytesLess,Bool.or_eq_true,decide_eq_true_eq,Bool.and_eq_true,beq_iff_eq]
  by_cases e:x=y
  ·subst e
   rcases AD a b (fun e=>h (by rw [e])) with h1|h1
   ·exact .inl (.inr ⟨rfl,h1⟩)
   ·exact .inr (.inr ⟨rfl,h1⟩)
  ·rcases UInt8.lt_or_lt_of_ne e with h1|h1
   ·exact .inl (.inl h1)
   ·exact .inr (.inl h1)
def bls (a b:ByteArray):Bool:=Op.bytesLess a.toList b.toList
def ed (a b:Int):Int:=if a<b then -1 else if b<a then 1 else 0
def dp (a b:ByteArray):Int:=if bls a b=true then -1 else if bls b a=true then 1 else 0
def rkS (t:T):Int:=if t.kind=3/\0<t.kids.length then 4 else t.kind
def gt (a b:Int):Int:=if a≠0 then a else b
/- the head of a term: all but its kids -/
def hdC (t u:T):Int:=gt (ed (rkS t) (rkS u)) (gt (ed t.n u.n) (gt (ed t.kids.length u.kids.length) (dp t.name u.name)))
mutual
def dQ:T->T->Int
 | .mk k n s ks,u=>gt (hdC (.mk k n s ks) u) (dA ks u.kids)
def dA:List T->List T->Int
 | [],[]=>0
 | [],_::_=>-1
 | _::_,[]=>1
 | t::ts,u::us=>gt (dQ t u) (dA ts us)
end
mutual
def okO:T->Prop
 | .mk k n s ks=>(((k=1 ∨ k=2)/\s=emptyB/\ks=[]) ∨ (k=3/\n=0))/\tY ks
def tY:List T->Prop
 | []=>True
 | t::ts=>okO t/\tY ts
end
theorem AM {t:T} (h:dE t=true):((t.kind=1 ∨ t.kind=2)/\t.name=emptyB/\t.kids=[]) ∨ (t.kind=3/\t.n=0):=by
 unfold dE at h
 by_cases e1:t.kind=1
 ·rw [if_pos e1] at h
  simp only [Bool.and_eq_true,decide_eq_true_eq] at h
  exact .inl ⟨.inl e1,h.2.2.1,List.eq_nil_of_length_eq_zero h.2.2.2⟩
 ·rw [if_neg e1] at h
  by_cases e2:t.kind=2
  ·rw [if_pos e2] at h
   simp only [Bool.and_eq_true,decide_eq_true_eq] at h
   exact .inl ⟨.inr e2,h.2.2.1,List.eq_nil_of_length_eq_zero h.2.2.2⟩
  ·rw [if_neg e2] at h
   by_cases e3:t.kind=3
   ·rw [if_pos e3] at h
    simp only [Bool.and_eq_true,decide_eq_true_eq] at h
    exact .inr ⟨e3,h.1⟩
   ·rw [if_neg e3] at h
    cases h
theorem dv (a b:Int):(a<b/\ed a b=-1) ∨ (b<a/\ed a b=1) ∨ (a=b/\ed a b=0):=by
 unfold ed
 by_cases h:a<b
 ·exact .inl ⟨h,if_pos h⟩
 ·by_cases h':b<a
  ·exact .inr (.inl ⟨h',by rw [if_neg h,if_pos h']⟩)
  ·exact .inr (.inr ⟨by omega,by rw [if_neg h,if_neg h']⟩)
theorem toList_inj {a b:ByteArray} (h:a.toList=b.toList):a=b:=by
 have:=oG a b
 rw [beq_iff_eq.2 h] at this
 exact of_decide_eq_true this.symm
theorem du (a b:ByteArray):(bls a b=true/\dp a b=-1) ∨ (bls b a=true/\bls a b=false/\dp a b=1) ∨ (a=b/\dp a b=0):=by
 unfold dp
 cases h:bls a b with
 | true=>exact .inl ⟨rfl,if_pos rfl⟩
 | false=>
  cases h':bls b a with
  | true=>exact .inr (.inl ⟨rfl,rfl,by simp⟩)
  | false=>
   refine .inr (.inr ⟨?_,by simp⟩)
   refine toList_inj (Decidable.byContradiction fun e=>?_)
   rcases AD _ _ e with h1|h1
   ·rw [bls,h1] at h; cases h
   ·rw [bls,h1] at h'; cases h'
theorem DY {a b:ByteArray} (h:bls a b=true):bls b a=false:=by
 cases h':bls b a with
 | false=>rfl
 | true=>
  have:=tW _ _ _ h h'
  rw [wq] at this
  cases this

/- how three comparisons fit -/
structure TC (a b c:Int):Prop where
 lt:a=-1->b=-1->c=-1
 e1:a=0->c=b
 e2:b=0->c=a
theorem TC.lex {a b c a' b' c':Int} (h:TC a b c) (h':TC a' b' c'):TC (gt a a') (gt b b') (gt c c'):=by
 obtain ⟨h1,h2,h3⟩:=h
 obtain ⟨h4,h5,h6⟩:=h'
 unfold gt
 refine ⟨fun x y=>?_,fun x=>?_,fun x=>?_⟩
 ·by_cases ea:a=0
  ·rw [if_neg (by omega)] at x
   by_cases eb:b=0
   ·rw [if_neg (by omega)] at y
    rw [if_neg (by have:=h2 ea; omega)]
    exact h4 x y
   ·rw [if_pos (by omega)] at y
    have:=h2 ea
    rw [if_pos (by omega)]; omega
  ·rw [if_pos (by omega)] at x
   by_cases eb:b=0
   ·have:=h3 eb
    rw [if_pos (by omega)]; omega
   ·rw [if_pos (by omega)] at y
    have:=h1 x y
    rw [if_pos (by omega)]; omega
 ·by_cases ea:a=0
  ·rw [if_neg (by omega)] at x
   rw [h2 ea,h5 x]
  ·rw [if_pos (by omega)] at x; omega
 ·by_cases eb:b=0
  ·rw [if_neg (by omega)] at x
   rw [h3 eb,h6 x]
  ·rw [if_pos (by omega)] at x; omega
theorem TC.zero:TC 0 0 0:=⟨fun h=>by omega,fun _=>rfl,fun _=>rfl⟩
theorem TC.int (a b c:Int):TC (ed a b) (ed b c) (ed a c):=by
 have h1:=dv a b
 have h2:=dv b c
 have h3:=dv a c
 exact ⟨fun _ _=>by omega,fun _=>by omega,fun _=>by omega⟩
theorem TC.str (a b c:ByteArray):TC (dp a b) (dp b c) (dp a c):=by
 refine ⟨fun x y=>?_,fun x=>?_,fun x=>?_⟩
 ·rcases du a b with h|h|h
  ·rcases du b c with h'|h'|h'
   ·have:=tW _ _ _ h.1 h'.1
    unfold dp
    rw [if_pos (show bls a c=true from this)]
   ·omega
   ·omega
  ·omega
  ·omega
 ·rcases du a b with h|h|h
  ·omega
  ·omega
  ·rw [h.1]
 ·rcases du b c with h|h|h
  ·omega
  ·omega
  ·rw [h.1]
theorem TC.hd (t u v:T):TC (hdC t u) (hdC u v) (hdC t v):=(TC.int _ _ _).lex ((TC.int _ _ _).lex ((TC.int _ _ _).lex (TC.str _ _ _)))
mutual
theorem TC.term:∀ t u v:T,TC (dQ t u) (dQ u v) (dQ t v)
 | .mk k n s ks,.mk k' n' s' ks',v=>by
  rw [dQ,dQ,dQ]
  exact (TC.hd _ _ _).lex (TC.list ks ks' v.kids)
theorem TC.list:∀ t u v:List T,TC (dA t u) (dA u v) (dA t v)
 | [],[],[]=>by simpa [dA] using TC.zero
 | [],[],_::_=>by rw [dA,dA]; exact ⟨fun h=>by omega,fun _=>rfl,fun h=>by omega⟩
 | [],_::_,[]=>by rw [dA,dA,dA]; exact ⟨fun _ h=>by omega,fun h=>by omega,fun h=>by omega⟩
 | [],_::_,_::_=>by rw [dA,dA]; exact ⟨fun h _=>h,fun h=>by omega,fun h=>rfl⟩
 | _::_,[],[]=>by rw [dA,dA]; exact ⟨fun h _=>h,fun h=>by omega,fun h=>rfl⟩
 | _::_,[],_::_=>by rw [dA,dA]; exact ⟨fun h _=>by omega,fun h=>by omega,fun h=>by omega⟩
 | _::_,_::_,[]=>by rw [dA,dA]; exact ⟨fun _ h=>by omega,fun h=>rfl,fun h=>by omega⟩
 | t::ts,u::us,v::vs=>by
  rw [dA,dA,dA]
  exact (TC.term t u v).lex (TC.list ts us vs)
end
theorem lI (a b:Int):-(gt a b)=gt (-a) (-b):=by
 unfold gt
 by_cases h:a=0
 ·subst h; simp
 ·rw [if_pos h,if_pos (by omega)]
theorem mZ (a b:Int):ed b a=-ed a b:=by
 have:=dv a b
 have:=dv b a
 omega
theorem nM (a b:ByteArray):dp b a=-dp a b:=by
 rcases du a b with h|h|h
 ·rw [h.2]
  have:=DY h.1
  unfold dp
  rw [this,if_neg (by decide),if_pos h.1]; rfl
 ·rw [h.2.2]
  unfold dp
  rw [if_pos h.1]
 ·rw [h.2]
  obtain rfl:=h.1
  rw [h.2]; rfl
theorem DZ (t u:T):hdC u t=-hdC t u:=by
 rw [hdC,hdC,lI,lI,lI,mZ (rkS t),mZ t.n,mZ t.kids.length,nM t.name]
mutual
theorem p6:∀ t u:T,dQ u t=-dQ t u
 | .mk k n s ks,.mk k' n' s' ks'=>by
  rw [dQ,dQ,lI,DZ (.mk k n s ks)]
  congr 1
  exact wZ ks ks'
theorem wZ:∀ t u:List T,dA u t=-dA t u
 | [],[]=>by simp [dA]
 | [],_::_=>by simp [dA]
 | _::_,[]=>by simp [dA]
 | t::ts,u::us=>by rw [dA,dA,lI,p6 t u,wZ ts us]
end
theorem jr {a b:Int} (h:gt a b=0):a=0/\b=0:=by
 unfold gt at h
 by_cases e:a=0
 ·rw [if_neg (by omega)] at h; exact ⟨e,h⟩
 ·rw [if_pos e] at h; exact ⟨h,by omega⟩
theorem lL {a b:Int} (h:a=-1 ∨ a=0 ∨ a=1) (h':b=-1 ∨ b=0 ∨ b=1):gt a b=-1 ∨ gt a b=0 ∨ gt a b=1:=by
 unfold gt
 split
 ·exact h
 ·exact h'
theorem pR (a b:Int):ed a b=-1 ∨ ed a b=0 ∨ ed a b=1:=by have:=dv a b; omega
theorem zr (a b:ByteArray):dp a b=-1 ∨ dp a b=0 ∨ dp a b=1:=by
 rcases du a b with h|h|h
 ·exact .inl h.2
 ·exact .inr (.inr h.2.2)
 ·exact .inr (.inl h.2)
theorem E8 (t u:T):hdC t u=-1 ∨ hdC t u=0 ∨ hdC t u=1:=lL (pR _ _) (lL (pR _ _) (lL (pR _ _) (zr _ _)))
mutual
theorem oJ:∀ t u:T,dQ t u=-1 ∨ dQ t u=0 ∨ dQ t u=1
 | .mk k n s ks,u=>by rw [dQ]; exact lL (E8 _ _) (Ap ks u.kids)
theorem Ap:∀ t u:List T,dA t u=-1 ∨ dA t u=0 ∨ dA t u=1
 | [],[]=>by simp [dA]
 | [],_::_=>by simp [dA]
 | _::_,[]=>by simp [dA]
 | t::ts,u::us=>by rw [dA]; exact lL (oJ t u) (Ap ts us)
end
theorem xY {t:T} (h:okO t):((t.kind=1 ∨ t.kind=2)/\t.name=emptyB/\t.kids=[]) ∨ (t.kind=3/\t.n=0):=by
 cases t
 rw [okO] at h
 exact h.1
theorem lZ {t:T} (h:t.kids=[]):rkS t=t.kind:=by
 rw [rkS,h]
 simp
theorem E0 {t u:T} (ht:okO t) (hu:okO u) (h:hdC t u=0):t.kind=u.kind/\t.n=u.n/\t.name=u.name/\t.kids.length=u.kids.length:=by
 rw [hdC] at h
 obtain ⟨h1,h⟩:=jr h
 obtain ⟨h2,h⟩:=jr h
 obtain ⟨h3,h4⟩:=jr h
 have c1:=dv (rkS t) (rkS u)
 have c2:=dv t.n u.n
 have c3:=dv t.kids.length u.kids.length
 have e3:t.kids.length=u.kids.length:=by omega
 have e1:rkS t=rkS u:=by omega
 refine ⟨?_,by omega,?_,e3⟩
 ·rcases xY ht with ⟨_,_,hk⟩|⟨hk,_⟩
  ·have hk':u.kids=[]:=List.eq_nil_of_length_eq_zero (by rw [<- e3,hk]; rfl)
   rw [lZ hk,lZ hk'] at e1
   exact e1
  ·rcases xY hu with ⟨_,_,hk'⟩|⟨hk',_⟩
   ·have hk:t.kids=[]:=List.eq_nil_of_length_eq_zero (by rw [e3,hk']; rfl)
    rw [lZ hk,lZ hk'] at e1
    exact e1
   ·rw [hk,hk']
 ·rcases du t.name u.name with h|h|h
  ·omega
  ·omega
  ·exact h.1
mutual
theorem Cx:∀ t u:T,okO t->okO u->dQ t u=0->t=u
 | .mk k n s ks,.mk k' n' s' ks',ht,hu,h=>by
  rw [dQ] at h
  obtain ⟨h1,h2⟩:=jr h
  obtain ⟨e1,e2,e3,_⟩:=E0 ht hu h1
  rw [okO] at ht hu
  have:=CC ks ks' ht.2 hu.2 h2
  simp only [T.kind,T.n,T.name] at e1 e2 e3
  subst e1 e2 e3 this
  rfl
theorem CC:∀ t u:List T,tY t->tY u->dA t u=0->t=u
 | [],[],_,_,_=>rfl
 | [],_::_,_,_,h=>by simp [dA] at h
 | _::_,[],_,_,h=>by simp [dA] at h
 | t::ts,u::us,ht,hu,h=>by
  rw [dA] at h
  rw [tY] at ht hu
  obtain ⟨h1,h2⟩:=jr h
  rw [Cx t u ht.1 hu.1 h1,CC ts us ht.2 hu.2 h2]
end
theorem Dj (t:T):dQ t t=0:=by
 have:=p6 t t
 omega
theorem Fk {t u v:T} (h:dQ t u<0) (h':dQ u v<0):dQ t v<0:=by
 have h1:=oJ t u
 have h2:=oJ u v
 have:=(TC.term t u v).lt (by omega) (by omega)
 omega
/- facts in order, each once -/
def ix:List T->T->List T
 | [],t=>[t]
 | x::xs,t=>if dQ x t<0 then x::ix xs t else if eqT x t=true then x::xs else t::x::xs
def Sorted:List T->Prop
 | []=>True
 | x::xs=>(∀ y∈xs,dQ x y<0)/\Sorted xs
theorem y8 {l:List T} {t y:T} (h:y∈ix l t):y∈l ∨ y=t:=by
 induction l with
 | nil=>rw [ix] at h; exact .inr (List.mem_singleton.1 h)
 | cons x xs ih=>
  rw [ix] at h
  split at h
  ·rcases List.mem_cons.1 h with h|h
   ·exact .inl (by rw [h]; exact List.mem_cons_self ..)
   ·rcases ih h with h|h
    ·exact .inl (List.mem_cons_of_mem _ h)
    ·exact .inr h
  ·split at h
   ·exact .inl h
   ·rcases List.mem_cons.1 h with h|h
    ·exact .inr h
    ·exact .inl h
theorem Ez (l:List T) (t:T):(ix l t).length<=l.length+1/\l.length<=(ix l t).length:=by
 induction l with
 | nil=>simp [ix]
 | cons x xs ih=>
  rw [ix]
  split
  ·simp only [List.length_cons]; omega
  ·split
   ·simp
   ·simp
theorem zd {l:List T} {t:T} (h:Sorted l) (hl:∀ x∈l,okO x) (ht:okO t):Sorted (ix l t):=by
 induction l with
 | nil=>rw [ix]; exact ⟨fun y hy=>(by cases hy),trivial⟩
 | cons x xs ih=>
  rw [Sorted] at h
  rw [ix]
  split
  ·rename_i hc
   refine ⟨fun y hy=>?_,ih h.2 fun x hx=>hl x (List.mem_cons_of_mem _ hx)⟩
   rcases y8 hy with hy|rfl
   ·exact h.1 y hy
   ·exact hc
  ·split
   ·exact h
   ·rename_i hc he
    have hx:dQ t x<0:=by
     have h1:=oJ x t
     have h2:=p6 x t
     have h3:dQ x t≠0:=fun e=>he ((gl _ _).2 (Cx x t (hl x (List.mem_cons_self ..)) ht e))
     omega
    refine ⟨fun y hy=>?_,h⟩
    rcases List.mem_cons.1 hy with rfl|hy
    ·exact hx
    ·exact Fk hx (h.1 y hy)
theorem Sorted.nodup:∀ {l:List T},Sorted l->l.Nodup
 | [],_=>List.nodup_nil
 | x::xs,h=>by
  rw [List.nodup_cons]
  refine ⟨fun hx=>?_,Sorted.nodup h.2⟩
  have:=h.1 x hx
  rw [Dj] at this
  omega

end Go.Proofs.YtemmhhdnlbmicaaGreat

/- spec.l1Compare. -/
namespace Go.Proofs.YtemmhhdnlbmicaaGreat
open Go Go.RowKit
theorem l9 {a b:Int} (h:a≠0):gt a b=a:=if_pos h
theorem iB (b:Int):gt 0 b=b:=if_neg (by decide)
theorem CP (a:Int):gt a 0=a:=by
 unfold gt
 split <;> omega
theorem gg (a:Int):ed a a=0:=by have:=dv a a; omega
theorem n7 {a b:Int} (h:a≠b):ed a b≠0:=by have:=dv a b; omega
theorem j1 (a:ByteArray):dp a a=0:=by
 have:=nM a a
 omega
theorem BM {a b:ByteArray} (h:a≠b):dp a b≠0:=by
 rcases du a b with h1|h1|h1
 ·omega
 ·omega
 ·exact absurd h1.1 h
theorem tm (t u:T):dQ t u=gt (hdC t u) (dA t.kids u.kids):=by cases t; rw [dQ]; rfl
theorem F7 {t u:T} (h:rkS t≠rkS u):dQ t u=ed (rkS t) (rkS u):=by
 rw [tm,hdC,l9 (n7 h),l9 (n7 h)]
theorem xQ {t:T} (h:okO t):(t.kind=1/\rkS t=1/\t.name=emptyB/\t.kids=[]) ∨ (t.kind=2/\rkS t=2/\t.name=emptyB/\t.kids=[]) ∨ (t.kind=3/\t.n=0/\(rkS t=3 ∨ rkS t=4)):=by
 rcases xY h with ⟨hk,hs,hks⟩|⟨hk,hn⟩
 ·have:=lZ hks
  rcases hk with hk|hk
  ·exact .inl ⟨hk,by omega,hs,hks⟩
  ·exact .inr (.inl ⟨hk,by omega,hs,hks⟩)
 ·refine .inr (.inr ⟨hk,hn,?_⟩)
  rw [rkS]
  split
  ·exact .inr rfl
  ·exact .inl hk
theorem GH {t u:T} (ht:okO t) (hu:okO u) (h:rkS t=rkS u) (hk:t.kind≠3):dQ t u=ed t.n u.n:=by
 have h1:=xQ ht
 have h2:=xQ hu
 have h3:t.name=emptyB/\t.kids=[]/\u.name=emptyB/\u.kids=[]:=by
  rcases h1 with h1|h1|h1
  ·rcases h2 with h2|h2|h2
   ·exact ⟨h1.2.2.1,h1.2.2.2,h2.2.2.1,h2.2.2.2⟩
   ·omega
   ·omega
  ·rcases h2 with h2|h2|h2
   ·omega
   ·exact ⟨h1.2.2.1,h1.2.2.2,h2.2.2.1,h2.2.2.2⟩
   ·omega
  ·exact absurd h1.1 hk
 rw [tm,hdC,h,gg,iB,h3.1,h3.2.1,h3.2.2.1,h3.2.2.2,gg,j1,iB,CP,dA,CP]
theorem D0 {t u:T} (ht:okO t) (hu:okO u) (h:rkS t=rkS u) (hk:t.kind=3):dQ t u=gt (gt (ed t.kids.length u.kids.length) (dp t.name u.name)) (dA t.kids u.kids):=by
 have h1:=xQ ht
 have h2:=xQ hu
 have h3:t.n=u.n:=by
  rcases h1 with h1|h1|h1
  ·omega
  ·omega
  ·rcases h2 with h2|h2|h2 <;> omega
 rw [tm,hdC,h,gg,iB,h3,gg,iB]
theorem Fb {t u:T} (ht:okO t) (hu:okO u) (h:rkS t=rkS u) (hk:t.kind=3) (hl:(t.kids.length:Int)≠u.kids.length):dQ t u=ed t.kids.length u.kids.length:=by
 rw [D0 ht hu h hk,l9 (n7 hl),l9 (n7 hl)]
theorem Ev {t u:T} (ht:okO t) (hu:okO u) (h:rkS t=rkS u) (hk:t.kind=3) (hl:(t.kids.length:Int)=u.kids.length) (hn:t.name≠u.name):dQ t u=dp t.name u.name:=by
 rw [D0 ht hu h hk,hl,gg,iB,l9 (BM hn)]
theorem EU {t u:T} (ht:okO t) (hu:okO u) (h:rkS t=rkS u) (hk:t.kind=3) (hl:(t.kids.length:Int)=u.kids.length) (hn:t.name=u.name):dQ t u=dA t.kids u.kids:=by
 rw [D0 ht hu h hk,hl,gg,iB,hn,j1,iB]
theorem Dd (ts us:List T) (j:Nat) (h:j<ts.length) (h':j<us.length):dA (ts.drop j) (us.drop j)=gt (dQ ts[j] us[j]) (dA (ts.drop (j+1)) (us.drop (j+1))):=by
 rw [List.drop_eq_getElem_cons h,List.drop_eq_getElem_cons h',dA]
theorem tN:∀ {ts:List T},tY ts->∀ t∈ts,okO t
 | _::_,h,t,ht=>by
  rcases List.mem_cons.1 ht with rfl|ht
  ·exact h.1
  ·exact tN h.2 t ht
section
variable {P:Program} {w:World} {K:Value->World->Prop}
attribute [local irreducible] Run
theorem F8 {T:TypeId} {cx cy:Bool} {a b:ByteArray} (hk:K (.bool (bls a b)) w):Run P (ao .lss T cx cy (.string a) (.string b)) w K:=by
 refine Run.of ?_ hk
 simp only [ao,binOp,Op.stringOp,Sem.run_bind,gD,Result.andThen_ok,Sem.run_pure,bls]
theorem Gw {T:TypeId} {cx cy:Bool} {a b:ByteArray} (hk:K (.bool (!(bls a b || decide (a=b)))) w):Run P (ao .gtr T cx cy (.string a) (.string b)) w K:=by
 refine Run.of ?_ hk
 rw [<- oG]
 simp only [ao,binOp,Op.stringOp,Sem.run_bind,gD,Result.andThen_ok,Sem.run_pure,bls]
end
section
attribute [local irreducible] Run CondV ag a4
theorem jZ (a b:Int) (S:av):Pure Tryz.prog Cl [.int .i64 a,.int .i64 b] S (.int .i64 (ed a b)):=by
 intro w hI
 refine uf ?_
 unfold rA
 refine co ?_
 refine bp (fun h=>done hI (by rw [ed,if_pos h])) (fun h=>?_)
 refine dS ?_
 exact bp (fun h'=>done hI (by rw [ed,if_neg h,if_pos h'])) (fun h'=>done hI (by rw [ed,if_neg h,if_neg h']))
theorem s3 (a b:ByteArray) (S:av):Pure Tryz.prog xT [.string a,.string b] S (.int .i64 (dp a b)):=by
 intro w hI
 refine pZ ?_
 unfold mP
 refine F8 ?_
 refine aX (fun h=>done hI (by rw [dp,if_pos h])) (fun h=>?_)
 refine Gw ?_
 rw [h,Bool.false_or]
 refine aX (fun h'=>done hI ?_) (fun h'=>done hI ?_)
 ·rw [Bool.not_eq_true',decide_eq_false_iff_not] at h'
  rcases du a b with h1|h1|h1
  ·rw [h1.1] at h; cases h
  ·rw [h1.2.2]
  ·exact absurd h1.1 h'
 ·rw [Bool.not_eq_false',decide_eq_true_eq] at h'
  rw [h',j1]
theorem gR {t:T} {S:av} {cs:List Value} (h:RdT S cs t):Pure Tryz.prog BL [.agg cs.toArray] S (.int .i64 (rkS t)):=by
 intro w hI
 obtain ⟨kv,rfl,_,_,_,hks⟩:=RdT.iff.1 h
 refine sT ?_
 unfold rr
 refine ca hI fun b1 w' hI=>?_
 refine ⟨fun v w'=>v=.bool (decide (t.kind=3) && decide (0<t.kids.length))/\Inv w [] [.blk b1 (.cells #[.int .i64 t.kind,.int .i64 t.n,.string t.name,kv] ad)] S w',?_,?_⟩
 ·refine az hI 0 rfl bt bj rfl ?_
  refine cw ?_
  by_cases h3:t.kind=3
  ·rw [decide_eq_true h3]
   repeat (first|refine ac ?_|refine af (by decide) ?_|refine ab ?_|refine al ?_|refine ak ?_)
   refine az hI 0 rfl aT aS rfl ?_
   refine a9 hks ay ?_
   refine dS ?_
   repeat (first|refine ac ?_|refine af (by decide) ?_|refine ab ?_|refine al ?_|refine ak ?_)
   refine ⟨?_,hI⟩
   rw [Bool.true_and]
   congr 1
   rw [Bool.eq_iff_iff]
   simp only [decide_eq_true_eq]
   omega
  ·rw [decide_eq_false h3]
   repeat (first|refine ac ?_|refine af (by decide) ?_|refine ab ?_|refine al ?_|refine ak ?_)
   exact ⟨rfl,hI⟩
 intro v _ _ _ _ _ _ _ _ w'
 rintro ⟨rfl,hI⟩
 refine aX (fun hb=>done hI ?_) (fun hb=>?_)
 ·simp only [Bool.and_eq_true,decide_eq_true_eq] at hb
  rw [rkS,if_pos hb]
 ·refine az hI 0 rfl bt bj rfl ?_
  refine done hI ?_
  have:¬ (t.kind=3/\0<t.kids.length):=by
   intro h
   rw [decide_eq_true h.1,decide_eq_true h.2] at hb
   cases hb
  rw [rkS,if_neg this]; rfl
theorem sH:∀ (t u:T) (S:av) (cs ds:List Value),RdT S cs t->RdT S ds u->okO t->okO u->Pure Tryz.prog wb [.agg cs.toArray,.agg ds.toArray] S (.int .i64 (dQ t u)):=by
 refine T.ind fun k n s ks ih u S cs ds h h' ht hu=>?_
 intro w hI
 have hcs:=h
 have hds:=h'
 obtain ⟨kv,rfl,_,_,_,hks⟩:=RdT.iff.1 h
 obtain ⟨kv',rfl,_,_,_,hks'⟩:=RdT.iff.1 h'
 obtain ⟨k',n',s',ks'⟩:=u
 simp only [T.name,T.kids,T.kind,T.n] at hks hks' ⊢
 have hlen:=hks.le
 simp only [maxLen] at hlen
 refine n4 ?_
 unfold lX
 refine ca hI fun b1 w' hI=>?_
 refine ca hI fun b2 w' hI=>?_
 have hI:Inv w [] [.blk b1 (.cells #[.int .i64 k,.int .i64 n,.string s,kv] ad),.blk b2 (.cells #[.int .i64 k',.int .i64 n',.string s',kv'] ad)] S w':=hI
 refine ⟨fun D j6 jW x9 x8 x7 w_=>(D 0=true->x7=.agg #[.int .i64 k,.int .i64 n,.string s,kv])/\(D 1=true->x8=.int .i64 (rkS (.mk k n s ks)))/\(D 2=true->x9=.agg #[.int .i64 k',.int .i64 n',.string s',kv'])/\(D 3=true->jW=.int .i64 (rkS (.mk k' n' s' ks')))/\(D 4=true->j6=.bool (!decide (rkS (.mk k n s ks)=rkS (.mk k' n' s' ks'))))/\Inv w [] [.blk b1 (.cells #[.int .i64 k,.int .i64 n,.string s,kv] ad),.blk b2 (.cells #[.int .i64 k',.int .i64 n',.string s',kv'] ad)] S w_,⟨ae,ae,ae,ae,ae,hI.draw⟩,⟨?_,?_,?_,?_,?_,trivial⟩,?_⟩
 ·intro D a6  j6 jW x9 x8 x7 w_
  rintro ⟨aB,aC,aA,aD,ax,hI⟩
  refine a8 hI 0 ai rfl rfl ?_
  exact ⟨fun _=>rfl,aC,aA,aD,ax,hI⟩
 ·intro D a6 cV j6 jW x9 x8 x7 w_
  rintro ⟨aB,aC,aA,aD,ax,hI⟩
  obtain rfl:=aB cV
  refine Run.callPure iJ iH hI (gR hcs) fun w_ hI=>?_
  exact ⟨aB,fun _=>rfl,aA,aD,ax,hI⟩
 ·intro D a6  j6 jW x9 x8 x7 w_
  rintro ⟨aB,aC,aA,aD,ax,hI⟩
  refine a8 hI 1 ai rfl rfl ?_
  exact ⟨aB,aC,fun _=>rfl,aD,ax,hI⟩
 ·intro D a6 eL gH j6 jW x9 x8 x7 w_
  rintro ⟨aB,aC,aA,aD,ax,hI⟩
  obtain rfl:=aA eL
  refine Run.callPure iJ iH hI (gR hds) fun w_ hI=>?_
  exact ⟨aB,aC,aA,fun _=>rfl,ax,hI⟩
 ·intro D a6 d3 Bh j6 jW x9 x8 x7 w_
  rintro ⟨aB,aC,aA,aD,ax,hI⟩
  obtain rfl:=aC d3
  obtain rfl:=aD Bh
  refine fA ?_
  exact ⟨aB,aC,aA,aD,fun _=>rfl,hI⟩
 intro D fL fJ fP fN fO j6 jW x9 x8 x7 w_
 rintro ⟨aB,aC,aA,aD,ax,hI⟩
 obtain rfl:=ax fL
 obtain rfl:=aD fJ
 obtain rfl:=aA fP
 obtain rfl:=aC fN
 obtain rfl:=aB fO
 clear aB aC aA aD ax
 refine aX (fun hb=>?_) (fun hb=>?_)
 ·simp only [Bool.not_eq_true',decide_eq_false_iff_not] at hb
  rw [F7 hb]
  refine ⟨fun D x4 dy eB fe fl fV w_=>(D 0=true->fV=.agg #[.int .i64 k,.int .i64 n,.string s,kv])/\(D 1=true->fl=.int .i64 (rkS (.mk k n s ks)))/\(D 2=true->fe=.agg #[.int .i64 k',.int .i64 n',.string s',kv'])/\(D 3=true->eB=.int .i64 (rkS (.mk k' n' s' ks')))/\(D 4=true->dy=.int .i64 (ed (rkS (.mk k n s ks)) (rkS (.mk k' n' s' ks'))))/\(D 5=true->x4=.int .i64 (ed (rkS (.mk k n s ks)) (rkS (.mk k' n' s' ks'))))/\Inv w [] [.blk b1 (.cells #[.int .i64 k,.int .i64 n,.string s,kv] ad),.blk b2 (.cells #[.int .i64 k',.int .i64 n',.string s',kv'] ad)] S w_,⟨ae,ae,ae,ae,ae,ae,hI.draw⟩,⟨?_,?_,?_,?_,?_,?_,trivial⟩,?_⟩
  ·intro D a6  x4 dy eB fe fl fV w_
   rintro ⟨aB,aC,aA,aD,ax,aF,hI⟩
   refine a8 hI 0 ai rfl rfl ?_
   exact ⟨fun _=>rfl,aC,aA,aD,ax,aF,hI⟩
  ·intro D a6 cV x4 dy eB fe fl fV w_
   rintro ⟨aB,aC,aA,aD,ax,aF,hI⟩
   obtain rfl:=aB cV
   refine Run.callPure iJ iH hI (gR hcs) fun w_ hI=>?_
   exact ⟨aB,fun _=>rfl,aA,aD,ax,aF,hI⟩
  ·intro D a6  x4 dy eB fe fl fV w_
   rintro ⟨aB,aC,aA,aD,ax,aF,hI⟩
   refine a8 hI 1 ai rfl rfl ?_
   exact ⟨aB,aC,fun _=>rfl,aD,ax,aF,hI⟩
  ·intro D a6 eL gH x4 dy eB fe fl fV w_
   rintro ⟨aB,aC,aA,aD,ax,aF,hI⟩
   obtain rfl:=aA eL
   refine Run.callPure iJ iH hI (gR hds) fun w_ hI=>?_
   exact ⟨aB,aC,aA,fun _=>rfl,ax,aF,hI⟩
  ·intro D a6 d3 Bh FA x4 dy eB fe fl fV w_
   rintro ⟨aB,aC,aA,aD,ax,aF,hI⟩
   obtain rfl:=aC d3
   obtain rfl:=aD Bh
   refine Run.callPure lS lr hI (jZ _ _ S) fun w_ hI=>?_
   exact ⟨aB,aC,aA,aD,fun _=>rfl,aF,hI⟩
  ·intro D a6 dr dW ul ve u5 vw yh x4 dy eB fe fl fV w_
   rintro ⟨aB,aC,aA,aD,ax,aF,hI⟩
   obtain rfl:=ax dr
   exact ⟨aB,aC,aA,aD,ax,fun _=>rfl,hI⟩
  intro D f1 fL fJ fP fN fO x4 dy eB fe fl fV w_
  rintro ⟨aB,aC,aA,aD,ax,aF,hI⟩
  obtain rfl:=aF f1
  obtain rfl:=ax fL
  obtain rfl:=aD fJ
  obtain rfl:=aA fP
  obtain rfl:=aC fN
  obtain rfl:=aB fO
  clear aB aC aA aD ax aF
  exact done hI rfl
 have hrk:rkS (.mk k n s ks)=rkS (.mk k' n' s' ks'):=by simpa using hb
 refine az hI 0 rfl bt bj rfl ?_
 refine fA ?_
 refine aX (fun hb=>?_) (fun hb=>?_)
 ·have hk:k≠3:=by simpa using hb
  rw [GH ht hu hrk hk]
  refine az hI 0 rfl bv bj rfl ?_
  refine az hI 1 rfl bv bj rfl ?_
  refine Run.callPure lS lr hI (jZ _ _ S) fun w' hI=>?_
  exact done hI rfl
 have hk:k=3:=by simpa using hb
 refine az hI 0 rfl aT aS rfl ?_
 refine a9 hks ay ?_
 refine az hI 1 rfl aT aS rfl ?_
 refine a9 hks' ay ?_
 refine fA ?_
 refine aX (fun hb=>?_) (fun hb=>?_)
 ·have hl:(ks.length:Int)≠ks'.length:=by simpa using hb
  rw [Fb ht hu hrk hk hl]
  refine az hI 0 rfl aT aS rfl ?_
  refine a9 hks ay ?_
  refine az hI 1 rfl aT aS rfl ?_
  refine a9 hks' ay ?_
  refine Run.callPure lS lr hI (jZ _ _ S) fun w' hI=>?_
  exact done hI rfl
 have hl:(ks.length:Int)=ks'.length:=by simpa using hb
 refine az hI 0 rfl bk bi rfl ?_
 refine az hI 1 rfl bk bi rfl ?_
 refine pU ?_
 refine aX (fun hb=>?_) (fun hb=>?_)
 ·have hn:s≠s':=by simpa using hb
  rw [Ev ht hu hrk hk hl hn]
  refine az hI 0 rfl bk bi rfl ?_
  refine az hI 1 rfl bk bi rfl ?_
  refine Run.callPure vv uY hI (s3 _ _ S) fun w' hI=>?_
  exact done hI rfl
 have hn:s=s':=by simpa using hb
 have hck:dQ (.mk k n s ks) (.mk k' n' s' ks')=dA ks ks':=EU ht hu hrk hk hl hn
 rw [hck]
 rw [okO] at ht hu
 have htk:=ht.2
 have huk:=hu.2
 refine ⟨fun i w'=>∃ j:Nat,j<=ks.length/\i=.int .i64 j/\dA (ks.drop j) (ks'.drop j)=dA ks ks'/\Inv w [] [.blk b1 (.cells #[.int .i64 k,.int .i64 n,.string s,kv] ad),.blk b2 (.cells #[.int .i64 k',.int .i64 n',.string s',kv'] ad)] S w',
  fun i _=>ks.length - (intOf i).toNat,⟨0,Nat.zero_le _,rfl,rfl,hI⟩,?_⟩
 intro t5 _ _ _ _ _ _ _ _ _ _ _ _ _ _ _ _ _ _ _ _ _ _ _ w'
 rintro ⟨j,hj,rfl,hrel,hI⟩
 refine az hI 0 rfl aT aS rfl ?_
 refine a9 hks ay ?_
 refine co ?_
 refine bp (fun hji=>?_) (fun hji=>?_)
 ·have hj1:j<ks.length:=by omega
  have hj2:j<ks'.length:=by omega
  rw [Dd ks ks' j hj1 hj2] at hrel
  obtain ⟨c1,o1,cap1,cc1,E1,fz1,rfl,hS1,hR1⟩:=hks.at_ hj1
  obtain ⟨c2,o2,cap2,cc2,E2,fz2,rfl,hS2,hR2⟩:=hks'.at_ hj2
  have hcall:=ih _ (List.getElem_mem hj1) ks'[j] S _ _ hR1 hR2 (tN htk _ (List.getElem_mem hj1)) (tN huk _ (List.getElem_mem hj2))
  refine ⟨fun D x6 dM ch cr ct cD cH cF cE cG cB cC w_=>(D 0=true->cC=.pointer (some ⟨b1,3,none⟩))/\(D 1=true->cB=.slice (some ⟨c1,o1,none⟩) ks.length cap1)/\(D 2=true->cG=.int .i64 j)/\(D 3=true->cE=.pointer (some ⟨c1,o1+j * 4,none⟩))/\(D 4=true->cF=.agg (bf cc1 (o1+j * 4) 4).toArray)/\(D 5=true->cH=.pointer (some ⟨b2,3,none⟩))/\(D 6=true->cD=.slice (some ⟨c2,o2,none⟩) ks'.length cap2)/\(D 7=true->ct=.int .i64 j)/\(D 8=true->cr=.pointer (some ⟨c2,o2+j * 4,none⟩))/\(D 9=true->ch=.agg (bf cc2 (o2+j * 4) 4).toArray)/\(D 10=true->dM=.int .i64 (dQ ks[j] ks'[j]))/\(D 11=true->x6=.int .i64 (dQ ks[j] ks'[j]))/\Inv w [] [.blk b1 (.cells #[.int .i64 k,.int .i64 n,.string s,.slice (some ⟨c1,o1,none⟩) ks.length cap1] ad),.blk b2 (.cells #[.int .i64 k',.int .i64 n',.string s',.slice (some ⟨c2,o2,none⟩) ks'.length cap2] ad)] S w_,⟨ae,ae,ae,ae,ae,ae,ae,ae,ae,ae,ae,ae,hI.draw⟩,⟨?_,?_,?_,?_,?_,?_,?_,?_,?_,?_,?_,?_,trivial⟩,?_⟩
  ·intro D a6  x6 dM ch cr ct cD cH cF cE cG cB cC w_
   rintro ⟨aB,aC,aA,aD,ax,aF,aE,aG,aI,aM,ah,aj,hI⟩
   refine bo aT ?_
   exact ⟨fun _=>rfl,aC,aA,aD,ax,aF,aE,aG,aI,aM,ah,aj,hI⟩
  ·intro D a6 cV x6 dM ch cr ct cD cH cF cE cG cB cC w_
   rintro ⟨aB,aC,aA,aD,ax,aF,aE,aG,aI,aM,ah,aj,hI⟩
   obtain rfl:=aB cV
   refine bA hI 0 aS rfl rfl ?_
   exact ⟨aB,fun _=>rfl,aA,aD,ax,aF,aE,aG,aI,aM,ah,aj,hI⟩
  ·intro D a6  x6 dM ch cr ct cD cH cF cE cG cB cC w_
   rintro ⟨aB,aC,aA,aD,ax,aF,aE,aG,aI,aM,ah,aj,hI⟩
   exact ⟨aB,aC,fun _=>rfl,aD,ax,aF,aE,aG,aI,aM,ah,aj,hI⟩
  ·intro D a6 d3 jg x6 dM ch cr ct cD cH cF cE cG cB cC w_
   rintro ⟨aB,aC,aA,aD,ax,aF,aE,aG,aI,aM,ah,aj,hI⟩
   obtain rfl:=aC d3
   obtain rfl:=aA jg
   refine ba ay hj1 ?_
   exact ⟨aB,aC,aA,fun _=>rfl,ax,aF,aE,aG,aI,aM,ah,aj,hI⟩
  ·intro D a6 dg x6 dM ch cr ct cD cH cF cE cG cB cC w_
   rintro ⟨aB,aC,aA,aD,ax,aF,aE,aG,aI,aM,ah,aj,hI⟩
   obtain rfl:=aD dg
   refine cu ai hR1.length (fun j v hj=>by rw [hI.cellS hS1]; exact be rfl j v hj) ?_
   exact ⟨aB,aC,aA,aD,fun _=>rfl,aF,aE,aG,aI,aM,ah,aj,hI⟩
  ·intro D a6  x6 dM ch cr ct cD cH cF cE cG cB cC w_
   rintro ⟨aB,aC,aA,aD,ax,aF,aE,aG,aI,aM,ah,aj,hI⟩
   refine bo aT ?_
   exact ⟨aB,aC,aA,aD,ax,fun _=>rfl,aE,aG,aI,aM,ah,aj,hI⟩
  ·intro D a6 ef x6 dM ch cr ct cD cH cF cE cG cB cC w_
   rintro ⟨aB,aC,aA,aD,ax,aF,aE,aG,aI,aM,ah,aj,hI⟩
   obtain rfl:=aF ef
   refine bA hI 1 aS rfl rfl ?_
   exact ⟨aB,aC,aA,aD,ax,aF,fun _=>rfl,aG,aI,aM,ah,aj,hI⟩
  ·intro D a6  x6 dM ch cr ct cD cH cF cE cG cB cC w_
   rintro ⟨aB,aC,aA,aD,ax,aF,aE,aG,aI,aM,ah,aj,hI⟩
   exact ⟨aB,aC,aA,aD,ax,aF,aE,fun _=>rfl,aI,aM,ah,aj,hI⟩
  ·intro D a6 cA mh x6 dM ch cr ct cD cH cF cE cG cB cC w_
   rintro ⟨aB,aC,aA,aD,ax,aF,aE,aG,aI,aM,ah,aj,hI⟩
   obtain rfl:=aE cA
   obtain rfl:=aG mh
   refine ba ay hj2 ?_
   exact ⟨aB,aC,aA,aD,ax,aF,aE,aG,fun _=>rfl,aM,ah,aj,hI⟩
  ·intro D a6 jc x6 dM ch cr ct cD cH cF cE cG cB cC w_
   rintro ⟨aB,aC,aA,aD,ax,aF,aE,aG,aI,aM,ah,aj,hI⟩
   obtain rfl:=aI jc
   refine cu ai hR2.length (fun j v hj=>by rw [hI.cellS hS2]; exact be rfl j v hj) ?_
   exact ⟨aB,aC,aA,aD,ax,aF,aE,aG,aI,fun _=>rfl,ah,aj,hI⟩
  ·intro D a6 dr fB x6 dM ch cr ct cD cH cF cE cG cB cC w_
   rintro ⟨aB,aC,aA,aD,ax,aF,aE,aG,aI,aM,ah,aj,hI⟩
   obtain rfl:=ax dr
   obtain rfl:=aM fB
   refine Run.callPure kN kU hI hcall fun w_ hI=>?_
   exact ⟨aB,aC,aA,aD,ax,aF,aE,aG,aI,aM,fun _=>rfl,aj,hI⟩
  ·intro D a6 f2 ii ul ve u5 vw yh Ar z0 Dv EZ Ec A2 x6 dM ch cr ct cD cH cF cE cG cB cC w_
   rintro ⟨aB,aC,aA,aD,ax,aF,aE,aG,aI,aM,ah,aj,hI⟩
   obtain rfl:=ah f2
   exact ⟨aB,aC,aA,aD,ax,aF,aE,aG,aI,aM,ah,fun _=>rfl,hI⟩
  intro D eR eX jG io gc gp f1 fL fJ fP fN fO x6 dM ch cr ct cD cH cF cE cG cB cC w_
  rintro ⟨aB,aC,aA,aD,ax,aF,aE,aG,aI,aM,ah,aj,hI⟩
  obtain rfl:=aj eR
  obtain rfl:=ah eX
  obtain rfl:=aM jG
  obtain rfl:=aI io
  obtain rfl:=aG gc
  obtain rfl:=aE gp
  obtain rfl:=aF f1
  obtain rfl:=ax fL
  obtain rfl:=aD fJ
  obtain rfl:=aA fP
  obtain rfl:=aC fN
  obtain rfl:=aB fO
  clear aB aC aA aD ax aF aE aG aI aM ah aj
  refine fA ?_
  refine aX (fun hb=>done hI ?_) (fun hb=>?_)
  ·have hne:dQ ks[j] ks'[j]≠0:=by simpa using hb
   rw [<- hrel,l9 hne]
  ·have he:dQ ks[j] ks'[j]=0:=by simpa using hb
   rw [he,iB] at hrel
   refine bC (by omega) ?_
   exact ⟨⟨j+1,hj1,rfl,hrel,hI⟩,by simp [intOf]; omega⟩
 ·have e1:ks.drop j=[]:=List.drop_eq_nil_of_le (by omega)
  have e2:ks'.drop j=[]:=List.drop_eq_nil_of_le (by omega)
  refine done hI ?_
  rw [<- hrel,e1,e2,dA]
end

end Go.Proofs.YtemmhhdnlbmicaaGreat

/- spec.l16Put, l16Has. -/
namespace Go.Proofs.YtemmhhdnlbmicaaGreat
open Go Go.RowKit
abbrev E5 (ys:List T):Value->List Item->av->Prop:=fun r I' S'=>I'=[]/\RdSl S' 4 (RdT S') r ys
theorem B0 (l:List T) (t:T) (j:Nat) (h:j<l.length) (hc:dQ l[j] t<0):ix (l.drop j) t=l[j]::ix (l.drop (j+1)) t:=by
 rw [List.drop_eq_getElem_cons h,ix,if_pos hc]
theorem C2 (l:List T) (t:T) (j:Nat) (h:j<l.length) (hc:¬ dQ l[j] t<0):ix (l.drop j) t=if eqT l[j] t=true then l.drop j else t::l.drop j:=by
 rw [List.drop_eq_getElem_cons h,ix,if_neg hc]
section
attribute [local irreducible] Run CondV ag a4
theorem zQ {l:List T} {t:T} {S:av} {v:Value} {cs:List Value} {w w0:World} {b3:Nat} {K:Value->World->Prop} (j:Nat) (hI:Inv w0 [] [.blk b3 (.cells cs.toArray ad)] S w) (h:RdSl S 4 (RdT S) v l) (hcs:RdT S cs t) (hj:j<=l.length) (hn:l.length<=1000000)
  (hk:∀ r S' w',Ext w0.heap.size [] S S'->RdSl S' 4 (RdT S') r (l.take j++t::l.drop j)->Inv w0 [] [] S' w'->K r w') :
  Run Tryz.prog (aW dc 0 []) w fun t35 w52=>
  Run Tryz.prog (sOp (.slice dc (.const v) none (some (.const (.int .i64 j))) none) dc) w52 fun t38 w53=>
  Run Tryz.prog (aq .append #[dc,dc] dc [false,false] [t35,t38]) w53 fun t39 w54=>
  Run Tryz.prog (sOp (.load ad (.const (.pointer (some ⟨b3,0,none⟩)))) ad) w54 fun t41 w55=>
  Run Tryz.prog (aW dc 1 [(0,t41)]) w55 fun t42 w56=>
  Run Tryz.prog (aq .append #[dc,dc] dc [false,false] [t39,t42]) w56 fun t43 w57=>
  Run Tryz.prog (sOp (.slice dc (.const v) (some (.const (.int .i64 j))) none none) dc) w57 fun t47 w58=>
  Run Tryz.prog (aq .append #[dc,dc] dc [false,false] [t43,t47]) w58 fun t48 w59=>
  K t48 w59:=by
 have hlc:=hcs.length
 refine dL hI bn fun v0 w hI=>?_
 refine C8 ay h hj fun v1 h1=>?_
 refine iv hI 1 (css:=[]) bn (by omega) rfl h1 (fun _ _=>RdT.length) (fun _ _=>RdT.one) (by simp; omega) (by omega) fun v2 w c1 hR1 hI=>?_
 have hI:Inv w0 [] [.blk b3 (.cells cs.toArray ad),bq v2 ad 4 c1] S w:=by simpa using hI
 have hc1:=hR1.hc
 simp only [List.length_take] at hc1
 refine a8 hI 0 ai rfl (by simpa using hlc) ?_
 refine fi hI 1 cs bn (by omega) (by omega) rfl hlc hcs.one (by omega) (by omega) fun v3 w hI=>?_
 have hR2:=hR1.snoc hcs hlc
 refine zZ ay h hj fun v4 h4=>?_
 refine iv hI 1 (css:=c1++[cs]) bn (by omega) rfl h4 (fun _ _=>RdT.length) (fun _ _=>RdT.one) (by simp; omega) (by omega) fun v5 w c2 hR3 hI=>?_
 have hR:=hR2.append hR3
 have hI:Inv w0 [] ([.blk b3 (.cells cs.toArray ad)]++[bq v5 ad 4 ((c1++[cs])++c2)]) S w:=hI
 obtain ⟨S',hE,hrd,hI⟩:=hI.lendExt
 have hr:RdSl S' 4 (RdT S') v5 ((l.take j++[t])++l.drop j):=(RowRd.rows hR hrd).mono (Sle.refl _) fun _ _ h=>h.mono hE.1
 rw [List.append_assoc] at hr
 exact hk _ _ _ hE hr (hI.pick [false])
theorem xO {l:List T} {t:T} {S:av} {v:Value} {cs:List Value} (h:RdSl S 4 (RdT S) v l) (hcs:RdT S cs t) (hl:∀ x∈l,okO x) (ht:okO t) (hn:l.length<=1000000) :
  Tri Tryz.prog Ca [v,.agg cs.toArray] [] S (E5 (ix l t)):=by
 intro w hI
 have hlc:=hcs.length
 refine tu ?_
 unfold qJ
 refine ca hI fun b3 w' hI=>?_
 have hI:Inv w [] [.blk b3 (.cells cs.toArray ad)] S w':=hI
 refine ⟨fun i w'=>∃ j:Nat,j<=l.length/\i=.int .i64 j/\l.take j++ix (l.drop j) t=ix l t/\Inv w [] [.blk b3 (.cells cs.toArray ad)] S w',
  fun i _=>l.length - (intOf i).toNat,⟨0,Nat.zero_le _,rfl,rfl,hI⟩,?_⟩
 intro t5 _ _ _ _ _ _ _ _ _ _ _ _ _ _ _ w'
 rintro ⟨j,hj,rfl,hrel,hI⟩
 by_cases hj':j<l.length
 ·obtain ⟨b,o,cap,c,E,fz,rfl,hS,hR⟩:=h.at_ hj'
  have hox:=hl _ (List.getElem_mem hj')
  refine ⟨fun D cq dq dz dy eB fe fl fV j6 jW x9 x8 x7 w_=>(D 0=true->x7=.int .i64 j)/\(D 1=true->x8=.slice (some ⟨b,o,none⟩) l.length cap)/\(D 2=true->x9=.int .i64 l.length)/\(D 3=true->jW=.bool true)/\(D 4=true->j6=.bool true)/\(D 5=true->fV=.slice (some ⟨b,o,none⟩) l.length cap)/\(D 6=true->fl=.int .i64 j)/\(D 7=true->fe=.pointer (some ⟨b,o+j * 4,none⟩))/\(D 8=true->eB=.agg (bf c (o+j * 4) 4).toArray)/\(D 9=true->dy=.agg cs.toArray)/\(D 10=true->dz=.int .i64 (dQ l[j] t))/\(D 11=true->dq=.bool (decide (dQ l[j] t<0)))/\(D 12=true->cq=.bool (decide (dQ l[j] t<0)))/\Inv w [] [.blk b3 (.cells cs.toArray ad)] S w_,⟨ae,ae,ae,ae,ae,ae,ae,ae,ae,ae,ae,ae,ae,hI.draw⟩,⟨?_,?_,?_,?_,?_,?_,?_,?_,?_,?_,?_,?_,?_,trivial⟩,?_⟩
  ·intro D a6  cq dq dz dy eB fe fl fV j6 jW x9 x8 x7 w_
   rintro ⟨aB,aC,aA,aD,ax,aF,aE,aG,aI,aM,ah,aj,ar,hI⟩
   exact ⟨fun _=>rfl,aC,aA,aD,ax,aF,aE,aG,aI,aM,ah,aj,ar,hI⟩
  ·intro D a6  cq dq dz dy eB fe fl fV j6 jW x9 x8 x7 w_
   rintro ⟨aB,aC,aA,aD,ax,aF,aE,aG,aI,aM,ah,aj,ar,hI⟩
   exact ⟨aB,fun _=>rfl,aA,aD,ax,aF,aE,aG,aI,aM,ah,aj,ar,hI⟩
  ·intro D a6 d3 cq dq dz dy eB fe fl fV j6 jW x9 x8 x7 w_
   rintro ⟨aB,aC,aA,aD,ax,aF,aE,aG,aI,aM,ah,aj,ar,hI⟩
   obtain rfl:=aC d3
   refine fu ay ?_
   exact ⟨aB,aC,fun _=>rfl,aD,ax,aF,aE,aG,aI,aM,ah,aj,ar,hI⟩
  ·intro D a6 cV jg cq dq dz dy eB fe fl fV j6 jW x9 x8 x7 w_
   rintro ⟨aB,aC,aA,aD,ax,aF,aE,aG,aI,aM,ah,aj,ar,hI⟩
   obtain rfl:=aB cV
   obtain rfl:=aA jg
   refine co ?_; rw [decide_eq_true (show (j:Int)<(l.length:Int) by omega)]
   exact ⟨aB,aC,aA,fun _=>rfl,ax,aF,aE,aG,aI,aM,ah,aj,ar,hI⟩
  ·intro D a6 dg cq dq dz dy eB fe fl fV j6 jW x9 x8 x7 w_
   rintro ⟨aB,aC,aA,aD,ax,aF,aE,aG,aI,aM,ah,aj,ar,hI⟩
   obtain rfl:=aD dg
   exact ⟨aB,aC,aA,aD,fun _=>rfl,aF,aE,aG,aI,aM,ah,aj,ar,hI⟩
  ·intro D a6 dr cq dq dz dy eB fe fl fV j6 jW x9 x8 x7 w_
   rintro ⟨aB,aC,aA,aD,ax,aF,aE,aG,aI,aM,ah,aj,ar,hI⟩
   obtain rfl:=ax dr
   repeat (first|refine ac ?_|refine af (by decide) ?_|refine ab ?_|refine al ?_|refine ak ?_)
   exact ⟨aB,aC,aA,aD,ax,fun _=>rfl,aE,aG,aI,aM,ah,aj,ar,hI⟩
  ·intro D a6 dr cq dq dz dy eB fe fl fV j6 jW x9 x8 x7 w_
   rintro ⟨aB,aC,aA,aD,ax,aF,aE,aG,aI,aM,ah,aj,ar,hI⟩
   obtain rfl:=ax dr
   repeat (first|refine ac ?_|refine af (by decide) ?_|refine ab ?_|refine al ?_|refine ak ?_)
   exact ⟨aB,aC,aA,aD,ax,aF,fun _=>rfl,aG,aI,aM,ah,aj,ar,hI⟩
  ·intro D a6 ef jh me cq dq dz dy eB fe fl fV j6 jW x9 x8 x7 w_
   rintro ⟨aB,aC,aA,aD,ax,aF,aE,aG,aI,aM,ah,aj,ar,hI⟩
   obtain rfl:=aF ef
   obtain rfl:=aE jh
   obtain rfl:=ax me
   repeat (first|refine ac ?_|refine af (by decide) ?_|refine ab ?_|refine al ?_|refine ak ?_)
   refine ba ay hj' ?_
   exact ⟨aB,aC,aA,aD,ax,aF,aE,fun _=>rfl,aI,aM,ah,aj,ar,hI⟩
  ·intro D a6 dl dW cq dq dz dy eB fe fl fV j6 jW x9 x8 x7 w_
   rintro ⟨aB,aC,aA,aD,ax,aF,aE,aG,aI,aM,ah,aj,ar,hI⟩
   obtain rfl:=aG dl
   obtain rfl:=ax dW
   repeat (first|refine ac ?_|refine af (by decide) ?_|refine ab ?_|refine al ?_|refine ak ?_)
   refine cu ai hR.length (fun j v hj=>by rw [hI.cellS hS]; exact be rfl j v hj) ?_
   exact ⟨aB,aC,aA,aD,ax,aF,aE,aG,fun _=>rfl,aM,ah,aj,ar,hI⟩
  ·intro D a6 dr cq dq dz dy eB fe fl fV j6 jW x9 x8 x7 w_
   rintro ⟨aB,aC,aA,aD,ax,aF,aE,aG,aI,aM,ah,aj,ar,hI⟩
   obtain rfl:=ax dr
   repeat (first|refine ac ?_|refine af (by decide) ?_|refine ab ?_|refine al ?_|refine ak ?_)
   refine a8 hI 0 ai rfl (by simpa using hlc) ?_
   exact ⟨aB,aC,aA,aD,ax,aF,aE,aG,aI,fun _=>rfl,ah,aj,ar,hI⟩
  ·intro D a6 jc fB me F1 cq dq dz dy eB fe fl fV j6 jW x9 x8 x7 w_
   rintro ⟨aB,aC,aA,aD,ax,aF,aE,aG,aI,aM,ah,aj,ar,hI⟩
   obtain rfl:=aI jc
   obtain rfl:=aM fB
   obtain rfl:=ax me
   repeat (first|refine ac ?_|refine af (by decide) ?_|refine ab ?_|refine al ?_|refine ak ?_)
   refine Run.callPure kN kU hI (sH _ _ S _ _ hR hcs hox ht) fun w_ hI=>?_
   exact ⟨aB,aC,aA,aD,ax,aF,aE,aG,aI,aM,fun _=>rfl,aj,ar,hI⟩
  ·intro D a6 f2 dW cq dq dz dy eB fe fl fV j6 jW x9 x8 x7 w_
   rintro ⟨aB,aC,aA,aD,ax,aF,aE,aG,aI,aM,ah,aj,ar,hI⟩
   obtain rfl:=ah f2
   obtain rfl:=ax dW
   repeat (first|refine ac ?_|refine af (by decide) ?_|refine ab ?_|refine al ?_|refine ak ?_)
   refine co ?_
   exact ⟨aB,aC,aA,aD,ax,aF,aE,aG,aI,aM,ah,fun _=>rfl,ar,hI⟩
  ·intro D a6 dr Ep cq dq dz dy eB fe fl fV j6 jW x9 x8 x7 w_
   rintro ⟨aB,aC,aA,aD,ax,aF,aE,aG,aI,aM,ah,aj,ar,hI⟩
   obtain rfl:=ax dr
   obtain rfl:=aj Ep
   repeat (first|refine ac ?_|refine af (by decide) ?_|refine ab ?_|refine al ?_|refine ak ?_)
   exact ⟨aB,aC,aA,aD,ax,aF,aE,aG,aI,aM,ah,aj,fun _=>rfl,hI⟩
  intro D i5 eR eX jG io gc gp f1 fL fJ fP fN fO cq dq dz dy eB fe fl fV j6 jW x9 x8 x7 w_
  rintro ⟨aB,aC,aA,aD,ax,aF,aE,aG,aI,aM,ah,aj,ar,hI⟩
  obtain rfl:=ar i5
  obtain rfl:=aj eR
  obtain rfl:=ah eX
  obtain rfl:=aM jG
  obtain rfl:=aI io
  obtain rfl:=aG gc
  obtain rfl:=aE gp
  obtain rfl:=aF f1
  obtain rfl:=ax fL
  obtain rfl:=aD fJ
  obtain rfl:=aA fP
  obtain rfl:=aC fN
  obtain rfl:=aB fO
  clear aB aC aA aD ax aF aE aG aI aM ah aj ar
  refine bp (fun hc=>?_) (fun hc=>?_)
  ·refine bC (by omega) ?_
   refine ⟨⟨j+1,hj',rfl,?_,hI⟩,by simp [intOf]; omega⟩
   rw [<- hrel,B0 l t j hj' hc,List.take_succ_eq_append_getElem hj',List.append_assoc]
   rfl
  rw [C2 l t j hj' hc] at hrel
  refine ⟨fun D dZ eQ dY dX dN dk dO de cU cW df c5 w_=>(D 0=true->c5=.int .i64 j)/\(D 1=true->df=.slice (some ⟨b,o,none⟩) l.length cap)/\(D 2=true->cW=.int .i64 l.length)/\(D 3=true->cU=.bool true)/\(D 4=true->de=.bool true)/\(D 5=true->dO=.slice (some ⟨b,o,none⟩) l.length cap)/\(D 6=true->dk=.int .i64 j)/\(D 7=true->dN=.pointer (some ⟨b,o+j * 4,none⟩))/\(D 8=true->dX=.agg (bf c (o+j * 4) 4).toArray)/\(D 9=true->dY=.agg cs.toArray)/\(D 10=true->eQ=.bool (eqT l[j] t))/\(D 11=true->dZ=.bool (eqT l[j] t))/\Inv w [] [.blk b3 (.cells cs.toArray ad)] S w_,⟨ae,ae,ae,ae,ae,ae,ae,ae,ae,ae,ae,ae,hI.draw⟩,⟨?_,?_,?_,?_,?_,?_,?_,?_,?_,?_,?_,?_,trivial⟩,?_⟩
  ·intro D a6  dZ eQ dY dX dN dk dO de cU cW df c5 w_
   rintro ⟨aB,aC,aA,aD,ax,aF,aE,aG,aI,aM,ah,aj,hI⟩
   exact ⟨fun _=>rfl,aC,aA,aD,ax,aF,aE,aG,aI,aM,ah,aj,hI⟩
  ·intro D a6  dZ eQ dY dX dN dk dO de cU cW df c5 w_
   rintro ⟨aB,aC,aA,aD,ax,aF,aE,aG,aI,aM,ah,aj,hI⟩
   exact ⟨aB,fun _=>rfl,aA,aD,ax,aF,aE,aG,aI,aM,ah,aj,hI⟩
  ·intro D a6 d3 dZ eQ dY dX dN dk dO de cU cW df c5 w_
   rintro ⟨aB,aC,aA,aD,ax,aF,aE,aG,aI,aM,ah,aj,hI⟩
   obtain rfl:=aC d3
   refine fu ay ?_
   exact ⟨aB,aC,fun _=>rfl,aD,ax,aF,aE,aG,aI,aM,ah,aj,hI⟩
  ·intro D a6 cV jg dZ eQ dY dX dN dk dO de cU cW df c5 w_
   rintro ⟨aB,aC,aA,aD,ax,aF,aE,aG,aI,aM,ah,aj,hI⟩
   obtain rfl:=aB cV
   obtain rfl:=aA jg
   refine co ?_; rw [decide_eq_true (show (j:Int)<(l.length:Int) by omega)]
   exact ⟨aB,aC,aA,fun _=>rfl,ax,aF,aE,aG,aI,aM,ah,aj,hI⟩
  ·intro D a6 dg dZ eQ dY dX dN dk dO de cU cW df c5 w_
   rintro ⟨aB,aC,aA,aD,ax,aF,aE,aG,aI,aM,ah,aj,hI⟩
   obtain rfl:=aD dg
   exact ⟨aB,aC,aA,aD,fun _=>rfl,aF,aE,aG,aI,aM,ah,aj,hI⟩
  ·intro D a6 dr dZ eQ dY dX dN dk dO de cU cW df c5 w_
   rintro ⟨aB,aC,aA,aD,ax,aF,aE,aG,aI,aM,ah,aj,hI⟩
   obtain rfl:=ax dr
   repeat (first|refine ac ?_|refine af (by decide) ?_|refine ab ?_|refine al ?_|refine ak ?_)
   exact ⟨aB,aC,aA,aD,ax,fun _=>rfl,aE,aG,aI,aM,ah,aj,hI⟩
  ·intro D a6 dr dZ eQ dY dX dN dk dO de cU cW df c5 w_
   rintro ⟨aB,aC,aA,aD,ax,aF,aE,aG,aI,aM,ah,aj,hI⟩
   obtain rfl:=ax dr
   repeat (first|refine ac ?_|refine af (by decide) ?_|refine ab ?_|refine al ?_|refine ak ?_)
   exact ⟨aB,aC,aA,aD,ax,aF,fun _=>rfl,aG,aI,aM,ah,aj,hI⟩
  ·intro D a6 ef jh me dZ eQ dY dX dN dk dO de cU cW df c5 w_
   rintro ⟨aB,aC,aA,aD,ax,aF,aE,aG,aI,aM,ah,aj,hI⟩
   obtain rfl:=aF ef
   obtain rfl:=aE jh
   obtain rfl:=ax me
   repeat (first|refine ac ?_|refine af (by decide) ?_|refine ab ?_|refine al ?_|refine ak ?_)
   refine ba ay hj' ?_
   exact ⟨aB,aC,aA,aD,ax,aF,aE,fun _=>rfl,aI,aM,ah,aj,hI⟩
  ·intro D a6 dl dW dZ eQ dY dX dN dk dO de cU cW df c5 w_
   rintro ⟨aB,aC,aA,aD,ax,aF,aE,aG,aI,aM,ah,aj,hI⟩
   obtain rfl:=aG dl
   obtain rfl:=ax dW
   repeat (first|refine ac ?_|refine af (by decide) ?_|refine ab ?_|refine al ?_|refine ak ?_)
   refine cu ai hR.length (fun j v hj=>by rw [hI.cellS hS]; exact be rfl j v hj) ?_
   exact ⟨aB,aC,aA,aD,ax,aF,aE,aG,fun _=>rfl,aM,ah,aj,hI⟩
  ·intro D a6 dr dZ eQ dY dX dN dk dO de cU cW df c5 w_
   rintro ⟨aB,aC,aA,aD,ax,aF,aE,aG,aI,aM,ah,aj,hI⟩
   obtain rfl:=ax dr
   repeat (first|refine ac ?_|refine af (by decide) ?_|refine ab ?_|refine al ?_|refine ak ?_)
   refine a8 hI 0 ai rfl (by simpa using hlc) ?_
   exact ⟨aB,aC,aA,aD,ax,aF,aE,aG,aI,fun _=>rfl,ah,aj,hI⟩
  ·intro D a6 jc fB me F1 dZ eQ dY dX dN dk dO de cU cW df c5 w_
   rintro ⟨aB,aC,aA,aD,ax,aF,aE,aG,aI,aM,ah,aj,hI⟩
   obtain rfl:=aI jc
   obtain rfl:=aM fB
   obtain rfl:=ax me
   repeat (first|refine ac ?_|refine af (by decide) ?_|refine ab ?_|refine al ?_|refine ak ?_)
   refine Run.callPure je jf hI (jk _ _ S _ _ hR hcs) fun w_ hI=>?_
   exact ⟨aB,aC,aA,aD,ax,aF,aE,aG,aI,aM,fun _=>rfl,aj,hI⟩
  ·intro D a6 dr ii dZ eQ dY dX dN dk dO de cU cW df c5 w_
   rintro ⟨aB,aC,aA,aD,ax,aF,aE,aG,aI,aM,ah,aj,hI⟩
   obtain rfl:=ax dr
   obtain rfl:=ah ii
   repeat (first|refine ac ?_|refine af (by decide) ?_|refine ab ?_|refine al ?_|refine ak ?_)
   exact ⟨aB,aC,aA,aD,ax,aF,aE,aG,aI,aM,ah,fun _=>rfl,hI⟩
  intro D eR eX jG io gc gp f1 fL fJ fP fN fO dZ eQ dY dX dN dk dO de cU cW df c5 w_
  rintro ⟨aB,aC,aA,aD,ax,aF,aE,aG,aI,aM,ah,aj,hI⟩
  obtain rfl:=aj eR
  obtain rfl:=ah eX
  obtain rfl:=aM jG
  obtain rfl:=aI io
  obtain rfl:=aG gc
  obtain rfl:=aE gp
  obtain rfl:=aF f1
  obtain rfl:=ax fL
  obtain rfl:=aD fJ
  obtain rfl:=aA fP
  obtain rfl:=aC fN
  obtain rfl:=aB fO
  clear aB aC aA aD ax aF aE aG aI aM ah aj
  refine aX (fun he=>?_) (fun he=>?_)
  ·rw [if_pos he,List.take_append_drop] at hrel
   rw [<- hrel]
   exact ⟨_,_,_,rfl,hI.pick [false],Ext.refl _ _ _,rfl,h⟩
  ·rw [if_neg (by rw [he]; decide)] at hrel
   rw [<- hrel]
   exact zQ j hI h hcs hj hn fun r S' w' hE hr hI=>⟨_,_,_,rfl,hI,hE,rfl,hr⟩
 ·have hje:j=l.length:=by omega
  have hv:∃ a m,v=.slice a l.length m:=by
   obtain ⟨a,m,e,_⟩:=h
   exact ⟨a,m,e⟩
  obtain ⟨a,m,rfl⟩:=hv
  rw [List.drop_eq_nil_of_le (by omega),ix] at hrel
  refine ⟨fun D cq dq dz dy eB fe fl fV j6 jW x9 x8 x7 w_=>(D 0=true->x7=.int .i64 j)/\(D 1=true->x8=.slice a l.length m)/\(D 2=true->x9=.int .i64 l.length)/\(D 3=true->jW=.bool false)/\(D 4=true->j6=.bool false)/\(D 5=true->fV=undef)/\(D 6=true->fl=undef)/\(D 7=true->fe=undef)/\(D 8=true->eB=undef)/\(D 9=true->dy=undef)/\(D 10=true->dz=undef)/\(D 11=true->dq=undef)/\(D 12=true->cq=.bool false)/\Inv w [] [.blk b3 (.cells cs.toArray ad)] S w_,⟨ae,ae,ae,ae,ae,ae,ae,ae,ae,ae,ae,ae,ae,hI.draw⟩,⟨?_,?_,?_,?_,?_,?_,?_,?_,?_,?_,?_,?_,?_,trivial⟩,?_⟩
  ·intro D a6  cq dq dz dy eB fe fl fV j6 jW x9 x8 x7 w_
   rintro ⟨aB,aC,aA,aD,ax,aF,aE,aG,aI,aM,ah,aj,ar,hI⟩
   exact ⟨fun _=>rfl,aC,aA,aD,ax,aF,aE,aG,aI,aM,ah,aj,ar,hI⟩
  ·intro D a6  cq dq dz dy eB fe fl fV j6 jW x9 x8 x7 w_
   rintro ⟨aB,aC,aA,aD,ax,aF,aE,aG,aI,aM,ah,aj,ar,hI⟩
   exact ⟨aB,fun _=>rfl,aA,aD,ax,aF,aE,aG,aI,aM,ah,aj,ar,hI⟩
  ·intro D a6 d3 cq dq dz dy eB fe fl fV j6 jW x9 x8 x7 w_
   rintro ⟨aB,aC,aA,aD,ax,aF,aE,aG,aI,aM,ah,aj,ar,hI⟩
   obtain rfl:=aC d3
   refine fu ay ?_
   exact ⟨aB,aC,fun _=>rfl,aD,ax,aF,aE,aG,aI,aM,ah,aj,ar,hI⟩
  ·intro D a6 cV jg cq dq dz dy eB fe fl fV j6 jW x9 x8 x7 w_
   rintro ⟨aB,aC,aA,aD,ax,aF,aE,aG,aI,aM,ah,aj,ar,hI⟩
   obtain rfl:=aB cV
   obtain rfl:=aA jg
   refine co ?_; rw [decide_eq_false (show ¬ (j:Int)<(l.length:Int) by omega)]
   exact ⟨aB,aC,aA,fun _=>rfl,ax,aF,aE,aG,aI,aM,ah,aj,ar,hI⟩
  ·intro D a6 dg cq dq dz dy eB fe fl fV j6 jW x9 x8 x7 w_
   rintro ⟨aB,aC,aA,aD,ax,aF,aE,aG,aI,aM,ah,aj,ar,hI⟩
   obtain rfl:=aD dg
   exact ⟨aB,aC,aA,aD,fun _=>rfl,aF,aE,aG,aI,aM,ah,aj,ar,hI⟩
  ·intro D a6 dr cq dq dz dy eB fe fl fV j6 jW x9 x8 x7 w_
   rintro ⟨aB,aC,aA,aD,ax,aF,aE,aG,aI,aM,ah,aj,ar,hI⟩
   obtain rfl:=ax dr
   repeat (first|refine ac ?_|refine af (by decide) ?_|refine ab ?_|refine al ?_|refine ak ?_)
   exact ⟨aB,aC,aA,aD,ax,fun _=>rfl,aE,aG,aI,aM,ah,aj,ar,hI⟩
  ·intro D a6 dr cq dq dz dy eB fe fl fV j6 jW x9 x8 x7 w_
   rintro ⟨aB,aC,aA,aD,ax,aF,aE,aG,aI,aM,ah,aj,ar,hI⟩
   obtain rfl:=ax dr
   repeat (first|refine ac ?_|refine af (by decide) ?_|refine ab ?_|refine al ?_|refine ak ?_)
   exact ⟨aB,aC,aA,aD,ax,aF,fun _=>rfl,aG,aI,aM,ah,aj,ar,hI⟩
  ·intro D a6 ef jh me cq dq dz dy eB fe fl fV j6 jW x9 x8 x7 w_
   rintro ⟨aB,aC,aA,aD,ax,aF,aE,aG,aI,aM,ah,aj,ar,hI⟩
   obtain rfl:=aF ef
   obtain rfl:=aE jh
   obtain rfl:=ax me
   repeat (first|refine ac ?_|refine af (by decide) ?_|refine ab ?_|refine al ?_|refine ak ?_)
   exact ⟨aB,aC,aA,aD,ax,aF,aE,fun _=>rfl,aI,aM,ah,aj,ar,hI⟩
  ·intro D a6 dl dW cq dq dz dy eB fe fl fV j6 jW x9 x8 x7 w_
   rintro ⟨aB,aC,aA,aD,ax,aF,aE,aG,aI,aM,ah,aj,ar,hI⟩
   obtain rfl:=aG dl
   obtain rfl:=ax dW
   repeat (first|refine ac ?_|refine af (by decide) ?_|refine ab ?_|refine al ?_|refine ak ?_)
   exact ⟨aB,aC,aA,aD,ax,aF,aE,aG,fun _=>rfl,aM,ah,aj,ar,hI⟩
  ·intro D a6 dr cq dq dz dy eB fe fl fV j6 jW x9 x8 x7 w_
   rintro ⟨aB,aC,aA,aD,ax,aF,aE,aG,aI,aM,ah,aj,ar,hI⟩
   obtain rfl:=ax dr
   repeat (first|refine ac ?_|refine af (by decide) ?_|refine ab ?_|refine al ?_|refine ak ?_)
   exact ⟨aB,aC,aA,aD,ax,aF,aE,aG,aI,fun _=>rfl,ah,aj,ar,hI⟩
  ·intro D a6 jc fB me F1 cq dq dz dy eB fe fl fV j6 jW x9 x8 x7 w_
   rintro ⟨aB,aC,aA,aD,ax,aF,aE,aG,aI,aM,ah,aj,ar,hI⟩
   obtain rfl:=aI jc
   obtain rfl:=aM fB
   obtain rfl:=ax me
   repeat (first|refine ac ?_|refine af (by decide) ?_|refine ab ?_|refine al ?_|refine ak ?_)
   exact ⟨aB,aC,aA,aD,ax,aF,aE,aG,aI,aM,fun _=>rfl,aj,ar,hI⟩
  ·intro D a6 f2 dW cq dq dz dy eB fe fl fV j6 jW x9 x8 x7 w_
   rintro ⟨aB,aC,aA,aD,ax,aF,aE,aG,aI,aM,ah,aj,ar,hI⟩
   obtain rfl:=ah f2
   obtain rfl:=ax dW
   repeat (first|refine ac ?_|refine af (by decide) ?_|refine ab ?_|refine al ?_|refine ak ?_)
   exact ⟨aB,aC,aA,aD,ax,aF,aE,aG,aI,aM,ah,fun _=>rfl,ar,hI⟩
  ·intro D a6 dr Ep cq dq dz dy eB fe fl fV j6 jW x9 x8 x7 w_
   rintro ⟨aB,aC,aA,aD,ax,aF,aE,aG,aI,aM,ah,aj,ar,hI⟩
   obtain rfl:=ax dr
   obtain rfl:=aj Ep
   repeat (first|refine ac ?_|refine af (by decide) ?_|refine ab ?_|refine al ?_|refine ak ?_)
   exact ⟨aB,aC,aA,aD,ax,aF,aE,aG,aI,aM,ah,aj,fun _=>rfl,hI⟩
  intro D i5 eR eX jG io gc gp f1 fL fJ fP fN fO cq dq dz dy eB fe fl fV j6 jW x9 x8 x7 w_
  rintro ⟨aB,aC,aA,aD,ax,aF,aE,aG,aI,aM,ah,aj,ar,hI⟩
  obtain rfl:=ar i5
  obtain rfl:=aj eR
  obtain rfl:=ah eX
  obtain rfl:=aM jG
  obtain rfl:=aI io
  obtain rfl:=aG gc
  obtain rfl:=aE gp
  obtain rfl:=aF f1
  obtain rfl:=ax fL
  obtain rfl:=aD fJ
  obtain rfl:=aA fP
  obtain rfl:=aC fN
  obtain rfl:=aB fO
  clear aB aC aA aD ax aF aE aG aI aM ah aj ar
  refine aX (fun hb=>by cases hb) (fun _=>?_)
  refine ⟨fun D dZ eQ dY dX dN dk dO de cU cW df c5 w_=>(D 0=true->c5=.int .i64 j)/\(D 1=true->df=.slice a l.length m)/\(D 2=true->cW=.int .i64 l.length)/\(D 3=true->cU=.bool false)/\(D 4=true->de=.bool false)/\(D 5=true->dO=undef)/\(D 6=true->dk=undef)/\(D 7=true->dN=undef)/\(D 8=true->dX=undef)/\(D 9=true->dY=undef)/\(D 10=true->eQ=undef)/\(D 11=true->dZ=.bool false)/\Inv w [] [.blk b3 (.cells cs.toArray ad)] S w_,⟨ae,ae,ae,ae,ae,ae,ae,ae,ae,ae,ae,ae,hI.draw⟩,⟨?_,?_,?_,?_,?_,?_,?_,?_,?_,?_,?_,?_,trivial⟩,?_⟩
  ·intro D a6  dZ eQ dY dX dN dk dO de cU cW df c5 w_
   rintro ⟨aB,aC,aA,aD,ax,aF,aE,aG,aI,aM,ah,aj,hI⟩
   exact ⟨fun _=>rfl,aC,aA,aD,ax,aF,aE,aG,aI,aM,ah,aj,hI⟩
  ·intro D a6  dZ eQ dY dX dN dk dO de cU cW df c5 w_
   rintro ⟨aB,aC,aA,aD,ax,aF,aE,aG,aI,aM,ah,aj,hI⟩
   exact ⟨aB,fun _=>rfl,aA,aD,ax,aF,aE,aG,aI,aM,ah,aj,hI⟩
  ·intro D a6 d3 dZ eQ dY dX dN dk dO de cU cW df c5 w_
   rintro ⟨aB,aC,aA,aD,ax,aF,aE,aG,aI,aM,ah,aj,hI⟩
   obtain rfl:=aC d3
   refine fu ay ?_
   exact ⟨aB,aC,fun _=>rfl,aD,ax,aF,aE,aG,aI,aM,ah,aj,hI⟩
  ·intro D a6 cV jg dZ eQ dY dX dN dk dO de cU cW df c5 w_
   rintro ⟨aB,aC,aA,aD,ax,aF,aE,aG,aI,aM,ah,aj,hI⟩
   obtain rfl:=aB cV
   obtain rfl:=aA jg
   refine co ?_; rw [decide_eq_false (show ¬ (j:Int)<(l.length:Int) by omega)]
   exact ⟨aB,aC,aA,fun _=>rfl,ax,aF,aE,aG,aI,aM,ah,aj,hI⟩
  ·intro D a6 dg dZ eQ dY dX dN dk dO de cU cW df c5 w_
   rintro ⟨aB,aC,aA,aD,ax,aF,aE,aG,aI,aM,ah,aj,hI⟩
   obtain rfl:=aD dg
   exact ⟨aB,aC,aA,aD,fun _=>rfl,aF,aE,aG,aI,aM,ah,aj,hI⟩
  ·intro D a6 dr dZ eQ dY dX dN dk dO de cU cW df c5 w_
   rintro ⟨aB,aC,aA,aD,ax,aF,aE,aG,aI,aM,ah,aj,hI⟩
   obtain rfl:=ax dr
   repeat (first|refine ac ?_|refine af (by decide) ?_|refine ab ?_|refine al ?_|refine ak ?_)
   exact ⟨aB,aC,aA,aD,ax,fun _=>rfl,aE,aG,aI,aM,ah,aj,hI⟩
  ·intro D a6 dr dZ eQ dY dX dN dk dO de cU cW df c5 w_
   rintro ⟨aB,aC,aA,aD,ax,aF,aE,aG,aI,aM,ah,aj,hI⟩
   obtain rfl:=ax dr
   repeat (first|refine ac ?_|refine af (by decide) ?_|refine ab ?_|refine al ?_|refine ak ?_)
   exact ⟨aB,aC,aA,aD,ax,aF,fun _=>rfl,aG,aI,aM,ah,aj,hI⟩
  ·intro D a6 ef jh me dZ eQ dY dX dN dk dO de cU cW df c5 w_
   rintro ⟨aB,aC,aA,aD,ax,aF,aE,aG,aI,aM,ah,aj,hI⟩
   obtain rfl:=aF ef
   obtain rfl:=aE jh
   obtain rfl:=ax me
   repeat (first|refine ac ?_|refine af (by decide) ?_|refine ab ?_|refine al ?_|refine ak ?_)
   exact ⟨aB,aC,aA,aD,ax,aF,aE,fun _=>rfl,aI,aM,ah,aj,hI⟩
  ·intro D a6 dl dW dZ eQ dY dX dN dk dO de cU cW df c5 w_
   rintro ⟨aB,aC,aA,aD,ax,aF,aE,aG,aI,aM,ah,aj,hI⟩
   obtain rfl:=aG dl
   obtain rfl:=ax dW
   repeat (first|refine ac ?_|refine af (by decide) ?_|refine ab ?_|refine al ?_|refine ak ?_)
   exact ⟨aB,aC,aA,aD,ax,aF,aE,aG,fun _=>rfl,aM,ah,aj,hI⟩
  ·intro D a6 dr dZ eQ dY dX dN dk dO de cU cW df c5 w_
   rintro ⟨aB,aC,aA,aD,ax,aF,aE,aG,aI,aM,ah,aj,hI⟩
   obtain rfl:=ax dr
   repeat (first|refine ac ?_|refine af (by decide) ?_|refine ab ?_|refine al ?_|refine ak ?_)
   exact ⟨aB,aC,aA,aD,ax,aF,aE,aG,aI,fun _=>rfl,ah,aj,hI⟩
  ·intro D a6 jc fB me F1 dZ eQ dY dX dN dk dO de cU cW df c5 w_
   rintro ⟨aB,aC,aA,aD,ax,aF,aE,aG,aI,aM,ah,aj,hI⟩
   obtain rfl:=aI jc
   obtain rfl:=aM fB
   obtain rfl:=ax me
   repeat (first|refine ac ?_|refine af (by decide) ?_|refine ab ?_|refine al ?_|refine ak ?_)
   exact ⟨aB,aC,aA,aD,ax,aF,aE,aG,aI,aM,fun _=>rfl,aj,hI⟩
  ·intro D a6 dr ii dZ eQ dY dX dN dk dO de cU cW df c5 w_
   rintro ⟨aB,aC,aA,aD,ax,aF,aE,aG,aI,aM,ah,aj,hI⟩
   obtain rfl:=ax dr
   obtain rfl:=ah ii
   repeat (first|refine ac ?_|refine af (by decide) ?_|refine ab ?_|refine al ?_|refine ak ?_)
   exact ⟨aB,aC,aA,aD,ax,aF,aE,aG,aI,aM,ah,fun _=>rfl,hI⟩
  intro D eR eX jG io gc gp f1 fL fJ fP fN fO dZ eQ dY dX dN dk dO de cU cW df c5 w_
  rintro ⟨aB,aC,aA,aD,ax,aF,aE,aG,aI,aM,ah,aj,hI⟩
  obtain rfl:=aj eR
  obtain rfl:=ah eX
  obtain rfl:=aM jG
  obtain rfl:=aI io
  obtain rfl:=aG gc
  obtain rfl:=aE gp
  obtain rfl:=aF f1
  obtain rfl:=ax fL
  obtain rfl:=aD fJ
  obtain rfl:=aA fP
  obtain rfl:=aC fN
  obtain rfl:=aB fO
  clear aB aC aA aD ax aF aE aG aI aM ah aj
  refine aX (fun hb=>by cases hb) (fun _=>?_)
  rw [<- hrel]
  refine zQ j hI h hcs hj hn fun r S' w' hE hr hI=>⟨_,_,_,rfl,hI,hE,rfl,?_⟩
  rw [List.drop_eq_nil_of_le (by omega)] at hr
  exact hr
end

end Go.Proofs.YtemmhhdnlbmicaaGreat

/- spec.l16Has, l16Match, l16Full. -/
namespace Go.Proofs.YtemmhhdnlbmicaaGreat
open Go Go.RowKit
def ro:T:=.mk 0 0 ⟨#[]⟩ []
def zv (st:bg) (n:Int):T:=match st[n.toNat]? with
 | some (some t)=>t
 | _=>ro
def gL (st:bg) (x:T):T:=if x.kind=1 then zv st x.n else x
def wN (g:T) (st:bg):T:=.mk g.kind 0 g.name (g.kids.map (gL st))
def stW (st:bg):Prop:=∀ t,some t∈st->wT t<=1048576
theorem D3 (st:bg) (n:Int):zv st n=ro ∨ some (zv st n)∈st:=by
 rw [zv]
 split
 ·rename_i t h
  exact .inr (List.mem_of_getElem? h)
 ·exact .inl rfl
theorem FQ:wT ro<=1048576:=by
 have:wT ro=0:=rfl
 omega
theorem EK {st:bg} (h:stW st) {ks:List T} {j:Nat} (hj:j<ks.length) (hw:wL ks<=1048576):wT (gL st ks[j])<=1048576:=by
 rw [gL]
 split
 ·rcases D3 st ks[j].n with e|e
  ·rw [e]; exact FQ
  ·exact h _ e
 ·have:=i0 (List.getElem_mem hj)
  omega
theorem BK (st:bg) (ks:List T) (j:Nat) (h:j<ks.length):(ks.take (j+1)).map (gL st)=(ks.take j).map (gL st)++[gL st ks[j]]:=by
 rw [List.take_succ_eq_append_getElem h,List.map_append]; rfl
theorem RdT.zero (S:av):RdT S nT ro:=RdT.iff.2 ⟨_,rfl,by simp [inI,T.kind,ro],by simp [inI,T.n,ro],by rw [ro,T.name]; decide +kernel,none,0,rfl,Nat.le_refl _,Nat.zero_le _,.inl rfl⟩
theorem KnownC.get {S:av} {kc:Array Value} {st:bg} (h:KnownC S kc st) (hst:st.length=26) {j:Nat} (hj:j<26):RdT S (bf kc (j * 4) 4) (zv st j):=by
 obtain ⟨h1,h2⟩:=h.2 j (by omega)
 rw [zv,Int.toNat_natCast,List.getElem?_eq_getElem (show j<st.length by omega)]
 cases e:st[j] with
 | none=>
  rw [h1 e]
  exact RdT.zero S
 | some t=>exact h2 t e
/- what is known, as a row of optional terms -/
def KRel (S:av) (cs:List Value) (o:Option T):Prop:=cs.length=4/\(o=none->cs=nT)/\∀ t,o=some t->RdT S cs t
theorem KRel.one {S:av} {cs:List Value} {o:Option T} (h:KRel S cs o):∀ u∈cs,u.oneCell'=true:=by
 cases o with
 | none=>rw [h.2.1 rfl]; simp [nT,Value.oneCell']
 | some t=>exact (h.2.2 t rfl).one
theorem KnownC.rd {S:av} {kb kp:Nat} {kc:Array Value} {st:bg} {E:TypeId} (hS:S kb=some (.cells kc E)) (h:KnownC S kc st) (hst:st.length=26) (hkp:26<=kp) (hkm:kp<=maxLen):RdSl S 4 (KRel S) (kvn kb kp) st:=by
 refine ⟨some ⟨kb,0,none⟩,kp,by rw [hst],by omega,hkm,.inr ⟨kb,0,kc,E,(0,0),rfl,hS,fun i hi=>?_⟩⟩
 obtain ⟨h1,h2⟩:=h.2 i hi
 rw [Nat.zero_add]
 refine ⟨?_,h1,h2⟩
 have:=h.1
 rw [bf,List.length_take,List.length_drop,Array.length_toList]
 omega
theorem KnownC.of_rows {S:av} {cur:Array Value} {css:List (List Value)} {st:bg} (h:Rows 4 (KRel S) css st) (hst:st.length=26) {cap:Nat} (hcap:26<=cap) (hs:cur.size=cap * 4) (ht:cur.toList.take (css.length * 4)=css.flatten):KnownC S cur st:=by
 have hc:=h.hc
 refine ⟨by omega,fun i hi=>?_⟩
 have hi':i<css.length:=by omega
 have hfl:=ge 4 css i h.hk hi'
 have e:bf cur (i * 4) 4=css[i]:=by
  rw [<- hfl,<- ht,List.drop_take,List.take_take,Nat.min_eq_left (by omega)]
  rfl
 have hr:=h.hR i hi hi'
 rw [<- e] at hr
 exact ⟨hr.2.1,hr.2.2⟩
section
attribute [local irreducible] Run CondV ag a4
abbrev GU (r:Bool × bg):Value->List Item->av->Prop:=fun v I' S'=>I'=[]/\∃ kb kp kc,v=.tuple #[kvn kb kp,.bool r.1]/\26<=kp/\kp<=maxLen/\S' kb=some (.cells kc ad)/\KnownC S' kc r.2
theorem KnownC.mono {S S':av} {kc:Array Value} {st:bg} (h:KnownC S kc st) (hs:Sle S S'):KnownC S' kc st:=
 ⟨h.1,fun i hi=>⟨(h.2 i hi).1,fun t ht=>((h.2 i hi).2 t ht).mono hs⟩⟩
theorem tV {g f:T} {S:av} {cs ds:List Value} {kb kp:Nat} {kc:Array Value} {st:bg} (hg:RdT S cs g) (hf:RdT S ds f) (hv:okV g) (hk:okK f) (hst:nF st) (hkp:26<=kp) (hkm:kp<=maxLen)
  (hS:S kb=some (.cells kc ad)) (hkc:KnownC S kc st):Tri Tryz.prog xN [.agg cs.toArray,.agg ds.toArray,kvn kb kp] [] S (GU (bm g f st)):=by
 intro w hI
 have hlg:=hg.length
 have hlf:=hf.length
 refine qE ?_
 unfold mS
 refine ca hI fun b3 w' hI=>?_
 refine ca hI fun b4 w' hI=>?_
 refine dL hI bn fun v0 w' hI=>?_
 have hI:Inv w [] [.blk b3 (.cells cs.toArray ad),.blk b4 (.cells ds.toArray ad),bq v0 ad 4 []] S w':=hI
 have hrd:=hkc.rd hS hst.1 hkp hkm
 refine iv hI 2 (css:=[]) bn (by omega) rfl hrd (fun _ _ h=>h.1) (fun _ _=>KRel.one) (by simp [hst.1]) (by omega) fun v1 w' css hR hI=>?_
 have hI:Inv w [] ([.blk b3 (.cells cs.toArray ad),.blk b4 (.cells ds.toArray ad)]++[bq v1 ad 4 css]) S w':=by simpa using hI
 have hcl:css.length=26:=by rw [hR.hc]; exact hst.1
 obtain ⟨_,ho⟩:=hI.openRow
 rcases ho with ⟨_,h0⟩|⟨nb,cap,cur,rfl,hnc,hcm,hcs,ht,hI⟩
 ·omega
 rw [hcl] at hnc
 have hkc':=KnownC.of_rows hR hst.1 hnc hcs ht
 rw [hcl]
 refine a8 hI 0 ai rfl (by simpa using hlg) ?_
 refine a8 hI 1 ai rfl (by simpa using hlf) ?_
 refine Run.call (A:=[_,_]) jP j5 hI (mt cap _ _ S _ _ nb cur st hg hf hv hk hst hkc') fun v' I' S' w'=>?_
 rintro ⟨rfl,rfl,kc2,rfl,hk2⟩ _ hI
 obtain ⟨S',hI,hE,hins⟩:=Inv.pubExt (A:=[.blk b3 (.cells cs.toArray ad),.blk b4 (.cells ds.toArray ad)]) (L:=[(nb,.cells kc2 ad)]) hI
 exact ⟨_,_,_,rfl,hI.pick [false,false],hE,rfl,nb,cap,kc2,rfl,hnc,hcm,hins _ (List.mem_singleton.2 rfl),hk2.mono hE.1⟩
theorem vz {g:T} {S:av} {cs:List Value} {kb kp:Nat} {kc:Array Value} {st:bg} (hg:RdT S cs g) (hv:okV g) (hw:wT g<=1048576) (hst:nF st) (hsw:stW st)
  (hS:S kb=some (.cells kc ad)) (hkc:KnownC S kc st):Tri Tryz.prog yP [.agg cs.toArray,kvn kb kp] [] S (zT S (wN g st)):=by
 intro w hI
 obtain ⟨kv,rfl,h1,h2,hs,hks⟩:=RdT.iff.1 hg
 obtain ⟨k,n,s,ks⟩:=g
 simp only [T.name,T.kids,T.kind,T.n] at h1 h2 hs hks ⊢
 simp only [wT] at hw
 rw [okV] at hv
 have hvk:=hv.2
 refine sb ?_
 unfold oP
 refine ca hI fun b2 w' hI=>?_
 obtain ⟨hI,hle⟩:=Inv.publishLast (L:=[]) hI
 have hb2:gz S b2 (.cells (Value.agg #[.int .i64 k,.int .i64 n,.string s,kv]).cells ad) b2=some (.cells #[.int .i64 k,.int .i64 n,.string s,kv] ad):=by simp [gz,Value.cells]
 generalize gz S b2 (.cells (Value.agg #[.int .i64 k,.int .i64 n,.string s,kv]).cells ad)=S1 at hI hle hb2
 have hks1:=hks.monoT hle
 have hS1:=hle _ _ hS
 have hkc1:=hkc.mono hle
 refine bw hI bu fun b4 w' hI=>?_
 refine bo bt ?_
 refine eo bj (by rw [hI.cellS hb2]; rfl) ?_
 refine bo bk ?_
 refine eo bi (by rw [hI.cellS hb2]; rfl) ?_
 have hb:∀ {K:Value->World->Prop} {w':World},K (.agg #[.int .i64 k,.int .i64 0,.string s,.slice none 0 0]) w'->Run Tryz.prog (cK ad [(0,.int .i64 k),(2,.string s)]) w' K:=by
  intro K w' hk
  refine Run.of (v:=.agg #[.int .i64 k,.int .i64 0,.string s,.slice none 0 0]) (w':=w') ?_ hk
  unfold cK
  rw [Sem.run_bind,run_build w' ad _ #[.int .i64 k,.int .i64 0,.string s,.slice none 0 0] (by kernel_rfl),Result.andThen_ok]
  rfl
 refine hb ?_
 refine bw hI bu fun b5 w' hI=>?_
 refine bd hI 1 rfl ai rfl rfl (by simp [Value.oneCell']) fun w' hI=>?_
 have hI:=hI.rowNil ad 4
 refine ⟨fun i w'=>∃ (j:Nat) (kvc:Value) (Ls:List bl) (css:List (List Value)),j<=ks.length/\i=.int .i64 j/\Grown 4 TrT Ls css ((ks.take j).map (gL st))/\
   Inv w [] (.blk b4 (.cells #[.int .i64 0,.int .i64 0,.string ⟨#[]⟩,.slice none 0 0] ad)::.blk b5 (.cells #[.int .i64 k,.int .i64 0,.string s,kvc] ad)::bq kvc ad 4 css::bB Ls.flatten) S1 w',
  fun i _=>ks.length - (intOf i).toNat,⟨0,_,[],[],Nat.zero_le _,rfl,Grown.nil _ _,hI⟩,?_⟩
 intro t6 _ _ _ _ _ _ _ _ _ _ _ _ _ _ _ _ _ _ _ _ _ _ _ _ _ _ _ _ w'
 rintro ⟨j,kvc,Ls,css,hj,rfl,hg',hI⟩
 refine bo aT ?_
 refine eo aS (by rw [hI.cellS hb2]; rfl) ?_
 refine a9 hks1 ay ?_
 refine co ?_
 refine bp (fun hji=>?_) (fun hji=>?_)
 ·have hj':j<ks.length:=by omega
  have hjl:(ks.take j).length=j:=by simp; omega
  have hcl:=hg'.hc
  rw [List.length_map] at hcl
  have hm:=List.getElem_mem hj'
  have hwm:=i0 hm
  have hvj:=nP hvk _ hm
  refine bo aT ?_
  refine eo aS (by rw [hI.cellS hb2]; rfl) ?_
  refine ec hI hks1 ay ai hj' (fun _ _=>RdT.length) fun cs0 hcs0=>?_
  refine bw hI bu fun b7 w' hI=>?_
  have hI:=hI.perm (M:=.blk b7 _::(.blk b4 (.cells #[.int .i64 0,.int .i64 0,.string ⟨#[]⟩,.slice none 0 0] ad)::.blk b5 (.cells #[.int .i64 k,.int .i64 0,.string s,kvc] ad)::bq kvc ad 4 css::bB Ls.flatten)) (List.perm_append_comm (l₁:=[_]))
  refine bd hI 0 rfl ai (by simpa using hcs0.length) rfl (by simpa using hcs0.one) fun w' hI=>?_
  refine ⟨fun w'=>∃ c7,RdT S1 c7 (gL st ks[j])/\Inv w [] (.blk b7 (.cells c7.toArray ad)::.blk b4 (.cells #[.int .i64 0,.int .i64 0,.string ⟨#[]⟩,.slice none 0 0] ad)::.blk b5 (.cells #[.int .i64 k,.int .i64 0,.string s,kvc] ad)::bq kvc ad 4 css::bB Ls.flatten) S1 w',?_,?_⟩
  ·obtain ⟨x0,hc0,_⟩:=RdT.iff.1 hcs0
   refine az hI 0 (u:=.int .i64 ks[j].kind) rfl bt bj (by rw [hc0]; rfl) ?_
   refine cw ?_
   refine bp (fun hk1=>?_) (fun hk1=>?_)
   ·have hvn:0<=ks[j].n/\ks[j].n<=25:=by
     have hx:=hvj
     generalize ks[j]=x at hx hk1
     cases x
     rw [okV] at hx
     exact hx.1 hk1
    obtain ⟨m,hm'⟩:∃ m:Nat,ks[j].n=m:=⟨ks[j].n.toNat,by omega⟩
    have hm26:m<26:=by omega
    have hget:=hkc1.get hst.1 hm26
    rw [gL,if_pos hk1,hm']
    refine az hI 0 (u:=.int .i64 ks[j].n) rfl bv bj (by rw [hc0]; rfl) ?_
    rw [hm']
    refine ba ay hm26 ?_
    refine cu (cs:=bf kc (m * 4) 4) ai hget.length (fun i v hi=>by rw [hI.cellS hS1,Nat.zero_add]; exact be rfl i v hi) ?_
    refine bd hI 0 rfl ai (by simpa using hget.length) (by simpa using hcs0.length) (by simpa using hget.one) fun w' hI=>?_
    exact ⟨_,hget,hI⟩
   ·rw [gL,if_neg hk1]
    exact ⟨_,hcs0,hI⟩
  intro _ _ _ _ _ _ _ _ w'
  rintro ⟨c7,hc7,hI⟩
  refine ⟨fun D fF eP fC d4 d5 fM dZ w_=>(D 0=true->dZ=.pointer (some ⟨b5,3,none⟩))/\(D 1=true->fM=kvc)/\(D 2=true->d5=.agg c7.toArray)/\(D 3=true->True)/\(D 4=true->True)/\(D 5=true->True)/\(D 6=true->fF=.pointer (some ⟨b5,3,none⟩))/\(D 7=true->True)/\∃ M cs7 b8,(D 3=true->d4=.agg cs7.toArray/\TrT M cs7 (gL st ks[j]))/\(D 4=true->fC=.slice (some ⟨b8,0,none⟩) 1 1)/\(D 4=true->D 3=true)/\(D 5=true->D 4=true)/\(D 7=true->D 5=true)/\(D 7=true->D 1=true)/\Inv w [] (bx (.blk b7 (.cells c7.toArray ad)) (.blk b4 (.cells #[.int .i64 0,.int .i64 0,.string ⟨#[]⟩,.slice none 0 0] ad)) (.blk b5 (.cells #[.int .i64 k,.int .i64 0,.string s,kvc] ad)) (.blk b5 (.cells #[.int .i64 k,.int .i64 0,.string s,eP] ad)) (bq kvc ad 4 css) (bq eP ad 4 (css++[cs7])) (bB Ls.flatten) M (.blk b8 (.cells cs7.toArray ad)) (D 3) (D 4) (D 5) (D 7)) S1 w_,⟨ae,ae,ae,ae,ae,ae,ae,ae,⟨[],[],0,ae,ae,ae,ae,ae,ae,by simpa [bx,bB] using hI.draw⟩⟩,⟨?_,?_,?_,?_,?_,?_,?_,?_,trivial⟩,?_⟩
  ·intro D a6  fF eP fC d4 d5 fM dZ w_
   rintro ⟨aB,aC,aA,aD,ax,aF,aE,aG,⟨M,cs7,b8,e7,e8,k8,k9,k11,k1,hI⟩⟩
   refine bo aT ?_
   exact ⟨fun _=>rfl,aC,aA,aD,ax,aF,aE,aG,⟨M,cs7,b8,e7,e8,k8,k9,k11,k1,hI⟩⟩
  ·intro D a6 cV fF eP fC d4 d5 fM dZ w_
   rintro ⟨aB,aC,aA,aD,ax,aF,aE,aG,⟨M,cs7,b8,e7,e8,k8,k9,k11,k1,hI⟩⟩
   obtain rfl:=aB cV
   have f11:D 7=false:=Bool.eq_false_iff.2 fun h=>by rw [k1 h] at a6; cases a6
   refine bA (b:=b5) hI 2 (c:=(#[.int .i64 k,.int .i64 0,.string s,kvc])) aS (by rw [f11]; rfl) rfl ?_
   have k1:=fun (_:aw D 1 7=true)=>(rfl:aw D 1 1=true)
   exact ⟨aB,fun _=>rfl,aA,aD,ax,aF,aE,aG,⟨M,cs7,b8,e7,e8,k8,k9,k11,k1,hI⟩⟩
  ·intro D a6  fF eP fC d4 d5 fM dZ w_
   rintro ⟨aB,aC,aA,aD,ax,aF,aE,aG,⟨M,cs7,b8,e7,e8,k8,k9,k11,k1,hI⟩⟩
   refine a8 hI 0 ai rfl (by simpa using hc7.length) ?_
   exact ⟨aB,aC,fun _=>rfl,aD,ax,aF,aE,aG,⟨M,cs7,b8,e7,e8,k8,k9,k11,k1,hI⟩⟩
  ·intro D a6 eL fF eP fC d4 d5 fM dZ w_
   rintro ⟨aB,aC,aA,aD,ax,aF,aE,aG,⟨M,cs7,b8,e7,e8,k8,k9,k11,k1,hI⟩⟩
   obtain rfl:=aA eL
   have f8:D 4=false:=Bool.eq_false_iff.2 fun h=>by rw [k8 h] at a6; cases a6
   have f9:D 5=false:=Bool.eq_false_iff.2 fun h=>by rw [k9 h] at f8; cases f8
   have f11:D 7=false:=Bool.eq_false_iff.2 fun h=>by rw [k11 h] at f9; cases f9
   rw [a6,f8,f9,f11] at hI
   refine Run.call0 er eG hI (fh _ S1 _ hc7 (EK hsw hj' (by omega))) fun v' I' S1 w_=>?_
   rintro ⟨rfl,cs7,M,rfl,rfl,hT⟩ _ hI
   have e7:aw D 3 3=true->Value.agg cs7.toArray=Value.agg cs7.toArray/\TrT M cs7 (gL st ks[j]):=fun _=>⟨rfl,hT⟩
   have k8:=fun (_:aw D 3 4=true)=>(rfl:aw D 3 3=true)
   have hI:Inv w [] (bx (.blk b7 (.cells c7.toArray ad)) (.blk b4 (.cells #[.int .i64 0,.int .i64 0,.string ⟨#[]⟩,.slice none 0 0] ad)) (.blk b5 (.cells #[.int .i64 k,.int .i64 0,.string s,kvc] ad)) (.blk b5 (.cells #[.int .i64 k,.int .i64 0,.string s,eP] ad)) (bq kvc ad 4 css) (bq eP ad 4 (css++[cs7])) (bB Ls.flatten) M (.blk b8 (.cells cs7.toArray ad)) true (D 4) (D 5) (D 7)) S1 w_:=by
    rw [f8,f9,f11]
    simpa [bx] using hI
   exact ⟨aB,aC,aA,fun _=>by first|assumption|trivial,ax,aF,aE,aG,⟨M,cs7,b8,e7,e8,k8,k9,k11,k1,hI⟩⟩
  ·intro D a6 dg fF eP fC d4 d5 fM dZ w_
   rintro ⟨aB,aC,aA,aD,ax,aF,aE,aG,⟨M,cs7,b8,e7,e8,k8,k9,k11,k1,hI⟩⟩
   have Ix:=aD dg
   have f9:D 5=false:=Bool.eq_false_iff.2 fun h=>by rw [k9 h] at a6; cases a6
   have f11:D 7=false:=Bool.eq_false_iff.2 fun h=>by rw [k11 h] at f9; cases f9
   obtain ⟨q7,hT⟩:=e7 dg
   subst q7
   rw [dg,a6,f9,f11] at hI
   refine fq hI bn (by simp [Value.cells,hT.length]) (by omega) (by omega) fun b8 w_ hI=>?_
   have e7:aw D 4 3=true->Value.agg cs7.toArray=Value.agg cs7.toArray/\TrT M cs7 (gL st ks[j]):=fun _=>⟨rfl,hT⟩
   have e8:=fun (_:aw D 4 4=true)=>(rfl:Value.slice (some ⟨b8,0,none⟩) 1 1=_)
   have k8:=fun (_:aw D 4 4=true)=>dg
   have k9:=fun (_:aw D 4 5=true)=>(rfl:aw D 4 4=true)
   have hI:Inv w [] (bx (.blk b7 (.cells c7.toArray ad)) (.blk b4 (.cells #[.int .i64 0,.int .i64 0,.string ⟨#[]⟩,.slice none 0 0] ad)) (.blk b5 (.cells #[.int .i64 k,.int .i64 0,.string s,kvc] ad)) (.blk b5 (.cells #[.int .i64 k,.int .i64 0,.string s,eP] ad)) (bq kvc ad 4 css) (bq eP ad 4 (css++[cs7])) (bB Ls.flatten) M (.blk b8 (.cells cs7.toArray ad)) (D 3) true (D 5) (D 7)) S1 w_:=by
    rw [dg,f9,f11]
    simpa [bx,Value.cells] using hI
   exact ⟨aB,aC,aA,aD,fun _=>by first|assumption|trivial,aF,aE,aG,⟨M,cs7,b8,e7,e8,k8,k9,k11,k1,hI⟩⟩
  ·intro D a6 d3 dW FA fF eP fC d4 d5 fM dZ w_
   rintro ⟨aB,aC,aA,aD,ax,aF,aE,aG,⟨M,cs7,b8,e7,e8,k8,k9,k11,k1,hI⟩⟩
   obtain rfl:=aC d3
   have Iz:=ax dW
   have f11:D 7=false:=Bool.eq_false_iff.2 fun h=>by rw [k11 h] at a6; cases a6
   have q8:=e8 dW
   subst q8
   obtain ⟨_,hT⟩:=e7 FA
   rw [FA,dW,a6,f11] at hI
   have hblk:((bx (.blk b7 (.cells c7.toArray ad)) (.blk b4 (.cells #[.int .i64 0,.int .i64 0,.string ⟨#[]⟩,.slice none 0 0] ad)) (.blk b5 (.cells #[.int .i64 k,.int .i64 0,.string s,fM] ad)) (.blk b5 (.cells #[.int .i64 k,.int .i64 0,.string s,eP] ad)) (bq fM ad 4 css) (bq eP ad 4 (css++[cs7])) (bB Ls.flatten) M (.blk b8 (.cells cs7.toArray ad)) true true false false))[4+(bB Ls.flatten).length+(bB M).length]?=some (.blk b8 (.cells cs7.toArray ad)):=by
    have e4:4+(bB Ls.flatten).length+(bB M).length=((bB Ls.flatten).length+(bB M).length)+1+1+1+1:=by omega
    rw [e4]
    simp only [bx,List.getElem?_cons_succ]
    rw [List.getElem?_append_right (by omega),Nat.add_sub_cancel_left,List.getElem?_append_right (Nat.le_refl _),Nat.sub_self]; rfl
   refine fX hI 3 cs7 bn (by omega) rfl (by rw [hT.length]) (m:=1) (o:=0) ?_ hT.one (by omega) (by omega) fun v' w_ hI=>?_
   ·intro i u hi
    rw [hI.cellL hblk,Nat.zero_add]
    simpa using hi
   rw [gd] at hI
   have k9:=fun (_:aw D 5 5=true)=>dW
   have k11:=fun (_:aw D 5 7=true)=>(rfl:aw D 5 5=true)
   have hI:Inv w [] (bx (.blk b7 (.cells c7.toArray ad)) (.blk b4 (.cells #[.int .i64 0,.int .i64 0,.string ⟨#[]⟩,.slice none 0 0] ad)) (.blk b5 (.cells #[.int .i64 k,.int .i64 0,.string s,fM] ad)) (.blk b5 (.cells #[.int .i64 k,.int .i64 0,.string s,v'] ad)) (bq fM ad 4 css) (bq v' ad 4 (css++[cs7])) (bB Ls.flatten) M (.blk b8 (.cells cs7.toArray ad)) (D 3) (D 4) true (D 7)) S1 w_:=by
    rw [FA,dW,f11]
    exact hI
   exact ⟨aB,aC,aA,aD,ax,fun _=>by first|assumption|trivial,aE,aG,⟨M,cs7,b8,e7,e8,k8,k9,k11,k1,hI⟩⟩
  ·intro D a6 cV gH sq FD FC Gz fF eP fC d4 d5 fM dZ w_
   rintro ⟨aB,aC,aA,aD,ax,aF,aE,aG,⟨M,cs7,b8,e7,e8,k8,k9,k11,k1,hI⟩⟩
   refine bo aT ?_
   exact ⟨aB,aC,aA,aD,ax,aF,fun _=>rfl,aG,⟨M,cs7,b8,e7,e8,k8,k9,k11,k1,hI⟩⟩
  ·intro D a6 cA kH Ha Fq yI Fh Dn C1 Ga fF eP fC d4 d5 fM dZ w_
   rintro ⟨aB,aC,aA,aD,ax,aF,aE,aG,⟨M,cs7,b8,e7,e8,k8,k9,k11,k1,hI⟩⟩
   obtain rfl:=aE cA
   have HJ:=aF kH
   rw [Dn,C1,kH,a6] at hI
   obtain ⟨va,vn,vc,hv9⟩:=Inv.rowSlice hI 3 rfl
   refine fW hI 2 (n:=1) (by rw [hv9]; rfl) (by decide +kernel) rfl (by simp) (by rw [hv9]; simp [Value.cells,Value.oneCell']) fun w_ hI=>?_
   have hcl9:Value.cells eP=#[eP]:=by rw [hv9]; rfl
   rw [hcl9] at hI
   have k1:=fun (_:aw D 7 7=true)=>yI
   have k11:=fun (_:aw D 7 7=true)=>kH
   have hI:Inv w [] (bx (.blk b7 (.cells c7.toArray ad)) (.blk b4 (.cells #[.int .i64 0,.int .i64 0,.string ⟨#[]⟩,.slice none 0 0] ad)) (.blk b5 (.cells #[.int .i64 k,.int .i64 0,.string s,kvc] ad)) (.blk b5 (.cells #[.int .i64 k,.int .i64 0,.string s,eP] ad)) (bq kvc ad 4 css) (bq eP ad 4 (css++[cs7])) (bB Ls.flatten) M (.blk b8 (.cells cs7.toArray ad)) (D 3) (D 4) (D 5) true) S1 w_:=by
    rw [Dn,C1,kH]
    exact hI
   exact ⟨aB,aC,aA,aD,ax,aF,aE,fun _=>trivial,⟨M,cs7,b8,e7,e8,k8,k9,k11,k1,hI⟩⟩
  intro D gc gp f1 fL fJ fP fN fO fF eP fC d4 d5 fM dZ w_
  rintro ⟨aB,aC,aA,aD,ax,aF,aE,aG,⟨M,cs7,b8,e7,e8,k8,k9,k11,k1,hI⟩⟩
  obtain rfl:=aE gp
  have HJ:=aF f1
  have Iz:=ax fL
  have Ix:=aD fJ
  obtain rfl:=aA fP
  obtain rfl:=aC fN
  obtain rfl:=aB fO
  clear aB aC aA aD ax aF aE aG
  obtain ⟨_,hT⟩:=e7 fJ
  rw [fJ,fL,f1,gc] at hI
  refine bC (by omega) ?_
  refine ⟨⟨j+1,eP,Ls++[M],css++[cs7],hj',rfl,?_,?_⟩,by simp [intOf]; omega⟩
  ·rw [BK st ks j hj']
   exact hg'.snoc hT hT.length
  ·simp only [List.flatten_append,List.flatten_cons,List.flatten_nil,List.append_nil,dU]
   refine hI.sub ?_
   simp only [bx]
   rw [<- List.append_assoc]
   exact ((((List.sublist_append_left _ _).cons_cons _).cons_cons _).cons_cons _).cons _
 ·have:j=ks.length:=by omega
  subst this
  rw [List.take_length] at hg'
  obtain ⟨va,vn,vc,hvk'⟩:=hI.rowSlice 2 rfl
  have hv1:kvc.oneCell'=true:=by rw [hvk']; rfl
  refine a8 hI 1 ai rfl rfl ?_
  refine bd hI 0 rfl ai rfl rfl ?_ fun w' hI=>?_
  ·intro u hu
   have hu':u∈([.int .i64 k,.int .i64 0,.string s,kvc]:List Value):=hu
   simp at hu'
   rcases hu' with rfl|rfl|rfl|rfl <;> first|rfl|exact hv1
  refine cz hI 0 ai rfl rfl ?_
  have hI:Inv w [] ([]++(bq kvc ad 4 css::bB Ls.flatten)) S1 w':=hI.sub (List.sublist_append_right [_,_] _)
  obtain ⟨L,hT,hI⟩:=Inv.rowTree hI hg'
  exact ⟨_,_,_,rfl,hI.less hle,Ext.refl _ _ _,rfl,_,L,rfl,rfl,TrT.iff.2 ⟨kvc,rfl,h1,by simp [inI,wN,T.n],hs,hT⟩⟩
end

end Go.Proofs.YtemmhhdnlbmicaaGreat
