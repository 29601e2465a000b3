/- The standard order of terms: a total order on well-formed terms. -/
import Derived.Test.YtgllldjiaglkcaaGreatDoorZMp3
import Derived.Test.YtgllldjiaglkcaaGreatDoorZMp4
namespace Go.Proofs.YtgllldjiaglkcaaGreatDoor
section
open Go Go.RowKit

theorem Im:∀ (a b c:List UInt8),Op.bytesLess a b=true->Op.bytesLess b c=true->Op.bytesLess a c=true
 | _,[],_,h,_=>by simp [Op.bytesLess] at h
 | _,_::_,[],_,h=>by simp [Op.bytesLess] at h
 | [],_::_,_::_,_,_=>by simp [Op.bytesLess]
 | x::a,y::b,z::c,h,h'=>by
  simp only [Op.bytesLess,jR,bk,bu,beq_iff_eq] at h h' ⊢
  rcases h with h|⟨rfl,h⟩
  ·rcases h' with h'|⟨rfl,h'⟩
   ·left; exact UInt8.lt_trans h h'
   ·left; exact h
  ·rcases h' with h'|⟨rfl,h'⟩
   ·left; exact h'
   ·right; exact ⟨rfl,Im a b c h h'⟩
theorem KO:∀ a:List UInt8,Op.bytesLess a a=false
 | []=>by simp [Op.bytesLess]
 | x::a=>by
  simp only [Op.bytesLess,KO a,kY,Bool.or_false,jC]
  exact UInt8.lt_irrefl x
theorem Qv:∀ a b:List UInt8,a≠b->Op.bytesLess a b=true ∨ Op.bytesLess b a=true
 | [],[],h=>absurd rfl h
 | [],_::_,_=>.inl (by simp [Op.bytesLess])
 | _::_,[],_=>.inr (by simp [Op.bytesLess])
 | x::a,y::b,h=>by
  simp only [Op.bytesLess,jR,bk,bu,beq_iff_eq]
  by_cases e:x=y
  ·subst e
   rcases Qv a b (fun e=>h (by rw [e])) with h1|h1
   ·exact .inl (.inr ⟨rfl,h1⟩)
   ·exact .inr (.inr ⟨rfl,h1⟩)
  ·rcases UInt8.lt_or_lt_of_ne e with h1|h1
   ·exact .inl (.inl h1)
   ·exact .inr (.inl h1)
def bls (a b:ByteArray):Bool:=Op.bytesLess a.toList b.toList
def cS (a b:Int):Int:=if a<b then -1 else if b<a then 1 else 0
def cY (a b:ByteArray):Int:=if bls a b=true then -1 else if bls b a=true then 1 else 0
def rkS (t:T):Int:=if t.kind=3/\0<t.kids.length then 4 else t.kind
def iF (a b:Int):Int:=if a≠0 then a else b
def hdC (t u:T):Int:=iF (cS (rkS t) (rkS u)) (iF (cS t.n u.n) (iF (cS t.kids.length u.kids.length) (cY t.name u.name)))
mutual
def dL:T->T->Int
 | .mk k n s ks,u=>iF (hdC (.mk k n s ks) u) (dD ks u.kids)
def dD:List T->List T->Int
 | [],[]=>0
 | [],_::_=>-1
 | _::_,[]=>1
 | t::ts,u::us=>iF (dL t u) (dD ts us)
end
mutual
def okO:T->Prop
 | .mk k n s ks=>(((k=1 ∨ k=2)/\s=emptyB/\ks=[]) ∨ (k=3/\n=0))/\A0 ks
def A0:List T->Prop
 | []=>True
 | t::ts=>okO t/\A0 ts
end
theorem Hd {t:T} (h:ed t=true):((t.kind=1 ∨ t.kind=2)/\t.name=emptyB/\t.kids=[]) ∨ (t.kind=3/\t.n=0):=by
 unfold ed at h
 by_cases e1:t.kind=1
 ·rw [ai e1] at h
  simp only [bu,bk] at h
  exact .inl ⟨.inl e1,h.2.2.1,gO h.2.2.2⟩
 ·rw [ah e1] at h
  by_cases e2:t.kind=2
  ·rw [ai e2] at h
   simp only [bu,bk] at h
   exact .inl ⟨.inr e2,h.2.2.1,gO h.2.2.2⟩
  ·rw [ah e2] at h
   by_cases e3:t.kind=3
   ·rw [ai e3] at h
    simp only [bu,bk] at h
    exact .inr ⟨e3,h.1⟩
   ·rw [ah e3] at h
    cases h
theorem dH (a b:Int):(a<b/\cS a b=-1) ∨ (b<a/\cS a b=1) ∨ (a=b/\cS a b=0):=by
 unfold cS
 by_cases h:a<b
 ·exact .inl ⟨h,ai h⟩
 ·by_cases h':b<a
  ·exact .inr (.inl ⟨h',by rw [ah h,ai h']⟩)
  ·exact .inr (.inr ⟨by omega,by rw [ah h,ah h']⟩)
theorem toList_inj {a b:ByteArray} (h:a.toList=b.toList):a=b:=by
 have:=sv a b
 rw [beq_iff_eq.2 h] at this
 exact of_decide_eq_true this.symm
theorem dQ (a b:ByteArray):(bls a b=true/\cY a b=-1) ∨ (bls b a=true/\bls a b=false/\cY a b=1) ∨ (a=b/\cY a b=0):=by
 unfold cY
 cases h:bls a b with
 | true=>exact .inl ⟨rfl,ai rfl⟩
 | false=>
  cases h':bls b a with
  | true=>exact .inr (.inl ⟨rfl,rfl,by simp⟩)
  | false=>
   refine .inr (.inr ⟨?_,by simp⟩)
   refine toList_inj (Decidable.byContradiction fun e=>?_)
   rcases Qv _ _ e with h1|h1
   ·rw [bls,h1] at h; cases h
   ·rw [bls,h1] at h'; cases h'
theorem Xt {a b:ByteArray} (h:bls a b=true):bls b a=false:=by
 cases h':bls b a with
 | false=>rfl
 | true=>
  have:=Im _ _ _ h h'
  rw [KO] at this
  cases this

structure TC (a b c:Int):Prop where
 lt:a=-1->b=-1->c=-1
 e1:a=0->c=b
 e2:b=0->c=a
theorem TC.lex {a b c a' b' c':Int} (h:TC a b c) (h':TC a' b' c'):TC (iF a a') (iF b b') (iF c c'):=by
 obtain ⟨h1,h2,h3⟩:=h
 obtain ⟨h4,h5,h6⟩:=h'
 unfold iF
 refine ⟨fun x y=>?_,fun x=>?_,fun x=>?_⟩
 ·by_cases ea:a=0
  ·rw [ah (by omega)] at x
   by_cases eb:b=0
   ·rw [ah (by omega)] at y
    rw [ah (by have:=h2 ea; omega)]
    exact h4 x y
   ·rw [ai (by omega)] at y
    have:=h2 ea
    rw [ai (by omega)]; omega
  ·rw [ai (by omega)] at x
   by_cases eb:b=0
   ·have:=h3 eb
    rw [ai (by omega)]; omega
   ·rw [ai (by omega)] at y
    have:=h1 x y
    rw [ai (by omega)]; omega
 ·by_cases ea:a=0
  ·rw [ah (by omega)] at x
   rw [h2 ea,h5 x]
  ·rw [ai (by omega)] at x; omega
 ·by_cases eb:b=0
  ·rw [ah (by omega)] at x
   rw [h3 eb,h6 x]
  ·rw [ai (by omega)] at x; omega
theorem TC.zero:TC 0 0 0:=⟨fun h=>by omega,fun _=>rfl,fun _=>rfl⟩
theorem TC.int (a b c:Int):TC (cS a b) (cS b c) (cS a c):=by
 have h1:=dH a b
 have h2:=dH b c
 have h3:=dH a c
 exact ⟨fun _ _=>by omega,fun _=>by omega,fun _=>by omega⟩
theorem TC.str (a b c:ByteArray):TC (cY a b) (cY b c) (cY a c):=by
 refine ⟨fun x y=>?_,fun x=>?_,fun x=>?_⟩
 ·rcases dQ a b with h|h|h
  ·rcases dQ b c with h'|h'|h'
   ·have:=Im _ _ _ h.1 h'.1
    unfold cY
    rw [ai (show bls a c=true from this)]
   ·omega
   ·omega
  ·omega
  ·omega
 ·rcases dQ a b with h|h|h
  ·omega
  ·omega
  ·rw [h.1]
 ·rcases dQ b c with h|h|h
  ·omega
  ·omega
  ·rw [h.1]
theorem TC.hd (t u v:T):TC (hdC t u) (hdC u v) (hdC t v):=(TC.int _ _ _).lex ((TC.int _ _ _).lex ((TC.int _ _ _).lex (TC.str _ _ _)))
mutual
theorem TC.term:∀ t u v:T,TC (dL t u) (dL u v) (dL t v)
 | .mk k n s ks,.mk k' n' s' ks',v=>by
  rw [dL,dL,dL]
  exact (TC.hd _ _ _).lex (TC.list ks ks' v.kids)
theorem TC.list:∀ t u v:List T,TC (dD t u) (dD u v) (dD t v)
 | [],[],[]=>by simpa [dD] using TC.zero
 | [],[],_::_=>by rw [dD,dD]; exact ⟨fun h=>by omega,fun _=>rfl,fun h=>by omega⟩
 | [],_::_,[]=>by rw [dD,dD,dD]; exact ⟨fun _ h=>by omega,fun h=>by omega,fun h=>by omega⟩
 | [],_::_,_::_=>by rw [dD,dD]; exact ⟨fun h _=>h,fun h=>by omega,fun h=>rfl⟩
 | _::_,[],[]=>by rw [dD,dD]; exact ⟨fun h _=>h,fun h=>by omega,fun h=>rfl⟩
 | _::_,[],_::_=>by rw [dD,dD]; exact ⟨fun h _=>by omega,fun h=>by omega,fun h=>by omega⟩
 | _::_,_::_,[]=>by rw [dD,dD]; exact ⟨fun _ h=>by omega,fun h=>rfl,fun h=>by omega⟩
 | t::ts,u::us,v::vs=>by
  rw [dD,dD,dD]
  exact (TC.term t u v).lex (TC.list ts us vs)
end
theorem uG (a b:Int):-(iF a b)=iF (-a) (-b):=by
 unfold iF
 by_cases h:a=0
 ·subst h; simp
 ·rw [ai h,ai (by omega)]
theorem xQ (a b:Int):cS b a=-cS a b:=by
 have:=dH a b
 have:=dH b a
 omega
theorem AM (a b:ByteArray):cY b a=-cY a b:=by
 rcases dQ a b with h|h|h
 ·rw [h.2]
  have:=Xt h.1
  unfold cY
  rw [this,ah (by decide),ai h.1]; rfl
 ·rw [h.2.2]
  unfold cY
  rw [ai h.1]
 ·rw [h.2]
  obtain rfl:=h.1
  rw [h.2]; rfl
theorem WB (t u:T):hdC u t=-hdC t u:=by
 rw [hdC,hdC,uG,uG,uG,xQ (rkS t),xQ t.n,xQ t.kids.length,AM t.name]
mutual
theorem Br:∀ t u:T,dL u t=-dL t u
 | .mk k n s ks,.mk k' n' s' ks'=>by
  rw [dL,dL,uG,WB (.mk k n s ks)]
  congr 1
  exact Kl ks ks'
theorem Kl:∀ t u:List T,dD u t=-dD t u
 | [],[]=>by simp [dD]
 | [],_::_=>by simp [dD]
 | _::_,[]=>by simp [dD]
 | t::ts,u::us=>by rw [dD,dD,uG,Br t u,Kl ts us]
end
theorem pP {a b:Int} (h:iF a b=0):a=0/\b=0:=by
 unfold iF at h
 by_cases e:a=0
 ·rw [ah (by omega)] at h; exact ⟨e,h⟩
 ·rw [ai e] at h; exact ⟨h,by omega⟩
theorem uP {a b:Int} (h:a=-1 ∨ a=0 ∨ a=1) (h':b=-1 ∨ b=0 ∨ b=1):iF a b=-1 ∨ iF a b=0 ∨ iF a b=1:=by
 unfold iF
 split
 ·exact h
 ·exact h'
theorem BB (a b:Int):cS a b=-1 ∨ cS a b=0 ∨ cS a b=1:=by have:=dH a b; omega
theorem OM (a b:ByteArray):cY a b=-1 ∨ cY a b=0 ∨ cY a b=1:=by
 rcases dQ a b with h|h|h
 ·exact .inl h.2
 ·exact .inr (.inr h.2.2)
 ·exact .inr (.inl h.2)
theorem YY (t u:T):hdC t u=-1 ∨ hdC t u=0 ∨ hdC t u=1:=uP (BB _ _) (uP (BB _ _) (uP (BB _ _) (OM _ _)))
mutual
theorem z7:∀ t u:T,dL t u=-1 ∨ dL t u=0 ∨ dL t u=1
 | .mk k n s ks,u=>by rw [dL]; exact uP (YY _ _) (N5 ks u.kids)
theorem N5:∀ t u:List T,dD t u=-1 ∨ dD t u=0 ∨ dD t u=1
 | [],[]=>by simp [dD]
 | [],_::_=>by simp [dD]
 | _::_,[]=>by simp [dD]
 | t::ts,u::us=>by rw [dD]; exact uP (z7 t u) (N5 ts us)
end
theorem E6 {t:T} (h:okO t):((t.kind=1 ∨ t.kind=2)/\t.name=emptyB/\t.kids=[]) ∨ (t.kind=3/\t.n=0):=by
 cases t
 rw [okO] at h
 exact h.1
theorem pX {t:T} (h:t.kids=[]):rkS t=t.kind:=by
 rw [rkS,h]
 simp
theorem Xx {t u:T} (ht:okO t) (hu:okO u) (h:hdC t u=0):t.kind=u.kind/\t.n=u.n/\t.name=u.name/\t.kids.length=u.kids.length:=by
 rw [hdC] at h
 obtain ⟨h1,h⟩:=pP h
 obtain ⟨h2,h⟩:=pP h
 obtain ⟨h3,h4⟩:=pP h
 have c1:=dH (rkS t) (rkS u)
 have c2:=dH t.n u.n
 have c3:=dH t.kids.length u.kids.length
 have e3:t.kids.length=u.kids.length:=by omega
 have e1:rkS t=rkS u:=by omega
 refine ⟨?_,by omega,?_,e3⟩
 ·rcases E6 ht with ⟨_,_,hk⟩|⟨hk,_⟩
  ·have hk':u.kids=[]:=gO (by rw [<- e3,hk]; rfl)
   rw [pX hk,pX hk'] at e1
   exact e1
  ·rcases E6 hu with ⟨_,_,hk'⟩|⟨hk',_⟩
   ·have hk:t.kids=[]:=gO (by rw [e3,hk']; rfl)
    rw [pX hk,pX hk'] at e1
    exact e1
   ·rw [hk,hk']
 ·rcases dQ t.name u.name with h|h|h
  ·omega
  ·omega
  ·exact h.1
mutual
theorem Mv:∀ t u:T,okO t->okO u->dL t u=0->t=u
 | .mk k n s ks,.mk k' n' s' ks',ht,hu,h=>by
  rw [dL] at h
  obtain ⟨h1,h2⟩:=pP h
  obtain ⟨e1,e2,e3,_⟩:=Xx ht hu h1
  rw [okO] at ht hu
  have:=Ua ks ks' ht.2 hu.2 h2
  simp only [T.kind,T.n,T.name] at e1 e2 e3
  subst e1 e2 e3 this
  rfl
theorem Ua:∀ t u:List T,A0 t->A0 u->dD t u=0->t=u
 | [],[],_,_,_=>rfl
 | [],_::_,_,_,h=>by simp [dD] at h
 | _::_,[],_,_,h=>by simp [dD] at h
 | t::ts,u::us,ht,hu,h=>by
  rw [dD] at h
  rw [A0] at ht hu
  obtain ⟨h1,h2⟩:=pP h
  rw [Mv t u ht.1 hu.1 h1,Ua ts us ht.2 hu.2 h2]
end
theorem K0 (t:T):dL t t=0:=by
 have:=Br t t
 omega
theorem Fh {t u v:T} (h:dL t u<0) (h':dL u v<0):dL t v<0:=by
 have h1:=z7 t u
 have h2:=z7 u v
 have:=(TC.term t u v).lt (by omega) (by omega)
 omega
def eZ:List T->T->List T
 | [],t=>[t]
 | x::xs,t=>if dL x t<0 then x::eZ xs t else if eqT x t=true then x::xs else t::x::xs
def Sorted:List T->Prop
 | []=>True
 | x::xs=>(∀ y∈xs,dL x y<0)/\Sorted xs
theorem sA {l:List T} {t y:T} (h:y∈eZ l t):y∈l ∨ y=t:=by
 induction l with
 | nil=>rw [eZ] at h; exact .inr (cd.1 h)
 | cons x xs ih=>
  rw [eZ] at h
  split at h
  ·rcases bN.1 h with h|h
   ·exact .inl (by rw [h]; exact aS ..)
   ·rcases ih h with h|h
    ·exact .inl (aV _ h)
    ·exact .inr h
  ·split at h
   ·exact .inl h
   ·rcases bN.1 h with h|h
    ·exact .inr h
    ·exact .inl h
theorem Oo (l:List T) (t:T):t∈eZ l t/\∀ y∈l,y∈eZ l t:=by
 induction l with
 | nil=>simp [eZ]
 | cons x xs ih=>
  rw [eZ]
  split
  ·exact ⟨aV _ ih.1,fun y hy=>by
    rcases bN.1 hy with rfl|hy
    ·exact aS ..
    ·exact aV _ (ih.2 y hy)⟩
  ·split
   ·rename_i h
    rw [lU] at h
    subst h
    exact ⟨aS ..,fun y hy=>hy⟩
   ·exact ⟨aS ..,fun y hy=>aV _ hy⟩
theorem Gg (l:List T) (t:T):(eZ l t).length<=l.length+1/\l.length<=(eZ l t).length:=by
 induction l with
 | nil=>simp [eZ]
 | cons x xs ih=>
  rw [eZ]
  split
  ·simp only [bw]; omega
  ·split
   ·simp
   ·simp
theorem sS {l:List T} {t:T} (h:Sorted l) (hl:∀ x∈l,okO x) (ht:okO t):Sorted (eZ l t):=by
 induction l with
 | nil=>rw [eZ]; exact ⟨fun y hy=>(by cases hy),trivial⟩
 | cons x xs ih=>
  rw [Sorted] at h
  rw [eZ]
  split
  ·rename_i hc
   refine ⟨fun y hy=>?_,ih h.2 fun x hx=>hl x (aV _ hx)⟩
   rcases sA hy with hy|rfl
   ·exact h.1 y hy
   ·exact hc
  ·split
   ·exact h
   ·rename_i hc he
    have hx:dL t x<0:=by
     have h1:=z7 x t
     have h2:=Br x t
     have h3:dL x t≠0:=fun e=>he ((lU _ _).2 (Mv x t (hl x (aS ..)) ht e))
     omega
    refine ⟨fun y hy=>?_,h⟩
    rcases bN.1 hy with rfl|hy
    ·exact hx
    ·exact Fh hx (h.1 y hy)
theorem Sorted.nodup:∀ {l:List T},Sorted l->l.Nodup
 | [],_=>Ly
 | x::xs,h=>by
  rw [Be]
  refine ⟨fun hx=>?_,Sorted.nodup h.2⟩
  have:=h.1 x hx
  rw [K0] at this
  omega
end
section
open Go Go.RowKit
theorem nV {a b:Int} (h:a≠0):iF a b=a:=ai h
theorem kA (b:Int):iF 0 b=b:=ah (by decide)
theorem NC (a:Int):iF a 0=a:=by
 unfold iF
 split <;> omega
theorem kl (a:Int):cS a a=0:=by have:=dH a a; omega
theorem yx {a b:Int} (h:a≠b):cS a b≠0:=by have:=dH a b; omega
theorem lP (a:ByteArray):cY a a=0:=by
 have:=AM a a
 omega
theorem Q9 {a b:ByteArray} (h:a≠b):cY a b≠0:=by
 rcases dQ a b with h1|h1|h1
 ·omega
 ·omega
 ·exact absurd h1.1 h
theorem Au (t u:T):dL t u=iF (hdC t u) (dD t.kids u.kids):=by cases t; rw [dL]; rfl
theorem Z4 {t u:T} (h:rkS t≠rkS u):dL t u=cS (rkS t) (rkS u):=by
 rw [Au,hdC,nV (yx h),nV (yx h)]
theorem Mn {t:T} (h:okO t):(t.kind=1/\rkS t=1/\t.name=emptyB/\t.kids=[]) ∨ (t.kind=2/\rkS t=2/\t.name=emptyB/\t.kids=[]) ∨ (t.kind=3/\t.n=0/\(rkS t=3 ∨ rkS t=4)):=by
 rcases E6 h with ⟨hk,hs,hks⟩|⟨hk,hn⟩
 ·have:=pX hks
  rcases hk with hk|hk
  ·exact .inl ⟨hk,by omega,hs,hks⟩
  ·exact .inr (.inl ⟨hk,by omega,hs,hks⟩)
 ·refine .inr (.inr ⟨hk,hn,?_⟩)
  rw [rkS]
  split
  ·exact .inr rfl
  ·exact .inl hk
theorem aaP {t u:T} (ht:okO t) (hu:okO u) (h:rkS t=rkS u) (hk:t.kind≠3):dL t u=cS t.n u.n:=by
 have h1:=Mn ht
 have h2:=Mn hu
 have h3:t.name=emptyB/\t.kids=[]/\u.name=emptyB/\u.kids=[]:=by
  rcases h1 with h1|h1|h1
  ·rcases h2 with h2|h2|h2
   ·exact ⟨h1.2.2.1,h1.2.2.2,h2.2.2.1,h2.2.2.2⟩
   ·omega
   ·omega
  ·rcases h2 with h2|h2|h2
   ·omega
   ·exact ⟨h1.2.2.1,h1.2.2.2,h2.2.2.1,h2.2.2.2⟩
   ·omega
  ·exact absurd h1.1 hk
 rw [Au,hdC,h,kl,kA,h3.1,h3.2.1,h3.2.2.1,h3.2.2.2,kl,lP,kA,NC,dD,NC]
theorem X3 {t u:T} (ht:okO t) (hu:okO u) (h:rkS t=rkS u) (hk:t.kind=3):dL t u=iF (iF (cS t.kids.length u.kids.length) (cY t.name u.name)) (dD t.kids u.kids):=by
 have h1:=Mn ht
 have h2:=Mn hu
 have h3:t.n=u.n:=by
  rcases h1 with h1|h1|h1
  ·omega
  ·omega
  ·rcases h2 with h2|h2|h2 <;> omega
 rw [Au,hdC,h,kl,kA,h3,kl,kA]
theorem Zj {t u:T} (ht:okO t) (hu:okO u) (h:rkS t=rkS u) (hk:t.kind=3) (hl:(t.kids.length:Int)≠u.kids.length):dL t u=cS t.kids.length u.kids.length:=by
 rw [X3 ht hu h hk,nV (yx hl),nV (yx hl)]
theorem Wk {t u:T} (ht:okO t) (hu:okO u) (h:rkS t=rkS u) (hk:t.kind=3) (hl:(t.kids.length:Int)=u.kids.length) (hn:t.name≠u.name):dL t u=cY t.name u.name:=by
 rw [X3 ht hu h hk,hl,kl,kA,nV (Q9 hn)]
theorem Xe {t u:T} (ht:okO t) (hu:okO u) (h:rkS t=rkS u) (hk:t.kind=3) (hl:(t.kids.length:Int)=u.kids.length) (hn:t.name=u.name):dL t u=dD t.kids u.kids:=by
 rw [X3 ht hu h hk,hl,kl,kA,hn,lP,kA]
theorem Li (ts us:List T) (j:Nat) (h:j<ts.length) (h':j<us.length):dD (ts.drop j) (us.drop j)=iF (dL ts[j] us[j]) (dD (ts.drop (j+1)) (us.drop (j+1))):=by
 rw [cU h,cU h',dD]
theorem sG:∀ {ts:List T},A0 ts->∀ t∈ts,okO t
 | _::_,h,t,ht=>by
  rcases bN.1 ht with rfl|ht
  ·exact h.1
  ·exact sG h.2 t ht
section
variable {P:Program} {w:World} {K:Value->World->Prop}
attribute [local irreducible] Run
theorem Wp {T:TypeId} {cx cy:Bool} {a b:ByteArray} (hk:K (.bool (bls a b)) w):Run P (cK .lss T cx cy (.string a) (.string b)) w K:=by
 refine Run.of ?_ hk
 simp only [cK,binOp,Op.stringOp,Sem.run_bind,kI,Result.andThen_ok,Sem.run_pure,bls]
theorem XI {T:TypeId} {cx cy:Bool} {a b:ByteArray} (hk:K (.bool (!(bls a b || decide (a=b)))) w):Run P (cK .gtr T cx cy (.string a) (.string b)) w K:=by
 refine Run.of ?_ hk
 rw [<- sv]
 simp only [cK,binOp,Op.stringOp,Sem.run_bind,kI,Result.andThen_ok,Sem.run_pure,bls]
end
section
attribute [local irreducible] Run CondV az aO
theorem qx (a b:Int) (S:ae):Pure Tryz.prog Si [.int .i64 a,.int .i64 b] S (.int .i64 (cS a b)):=by
 intro w hI
 refine DJ.2 ?_
 dsimp only[DJ,aY]
 refine bH ?_
 refine aL (fun h=>done hI (by rw [cS,ai h])) (fun h=>?_)
 refine dA ?_
 exact aL (fun h'=>done hI (by rw [cS,ah h,ai h'])) (fun h'=>done hI (by rw [cS,ah h,ah h']))
theorem H9 (a b:ByteArray) (S:ae):Pure Tryz.prog Mx [.string a,.string b] S (.int .i64 (cY a b)):=by
 intro w hI
 refine wg.2 ?_
 dsimp only[wg,aY]
 refine Wp ?_
 refine aw (fun h=>done hI (by rw [cY,ai h])) (fun h=>?_)
 refine XI ?_
 rw [h,fV]
 refine aw (fun h'=>done hI ?_) (fun h'=>done hI ?_)
 ·rw [jj,jC] at h'
  rcases dQ a b with h1|h1|h1
  ·rw [h1.1] at h; cases h
  ·rw [h1.2.2]
  ·exact absurd h1.1 h'
 ·rw [rK,bk] at h'
  rw [h',lP]
theorem lY {t:T} {S:ae} {cs:List Value} (h:RdT S cs t):Pure Tryz.prog RR [.agg cs.toArray] S (.int .i64 (rkS t)):=by
 intro w hI
 obtain ⟨kv,rfl,_,_,_,hks⟩:=RdT.iff.1 h
 refine DW.2 ?_
 dsimp only[DW,aM]
 refine bq hI fun b1 w' hI=>?_
 refine ⟨fun v w'=>v=.bool (decide (t.kind=3) && decide (0<t.kids.length))/\Inv w [] [.blk b1 (.cells #[.int .i64 t.kind,.int .i64 t.n,.string t.name,kv] ab)] S w',?_,?_⟩
 ·refine af hI 0 rfl aR aG rfl ?_
  refine bl ?_
  by_cases h3:t.kind=3
  ·rw [aI h3]
   refine rpG ?_
   refine af hI 0 rfl ao aj rfl ?_
   refine aF hks ag ?_
   refine dA ?_
   refine rpG ?_
   refine ⟨?_,hI⟩
   rw [dg]
   congr 1
   rw [mf]
   simp only [bk]
   omega
  ·rw [aP h3]
   refine rpG ?_
   exact ⟨rfl,hI⟩
 intro v _ _ _ _ _ _ _ _ w'
 rintro ⟨rfl,hI⟩
 refine aw (fun hb=>done hI ?_) (fun hb=>?_)
 ·simp only [bu,bk] at hb
  rw [rkS,ai hb]
 ·refine af hI 0 rfl aR aG rfl ?_
  refine done hI ?_
  have:¬ (t.kind=3/\0<t.kids.length):=by
   intro h
   rw [aI h.1,aI h.2] at hb
   cases hb
  rw [rkS,ah this]; rfl
theorem Ee:∀ (t u:T) (S:ae) (cs ds:List Value),RdT S cs t->RdT S ds u->okO t->okO u->Pure Tryz.prog Jg [.agg cs.toArray,.agg ds.toArray] S (.int .i64 (dL t u)):=by
 refine T.ind fun k n s ks ih u S cs ds h h' ht hu=>?_
 intro w hI
 have hcs:=h
 have hds:=h'
 obtain ⟨kv,rfl,_,_,_,hks⟩:=RdT.iff.1 h
 obtain ⟨kv',rfl,_,_,_,hks'⟩:=RdT.iff.1 h'
 obtain ⟨k',n',s',ks'⟩:=u
 simp only [T.name,T.kids,T.kind,T.n] at hks hks' ⊢
 have hlen:=hks.le
 simp only [maxLen] at hlen
 refine uL.2 ?_
 dsimp only[uL,aY]
 refine bq hI fun b1 w' hI=>?_
 refine bq hI fun b2 w' hI=>?_
 have hI:Inv w [] [.blk b1 (.cells #[.int .i64 k,.int .i64 n,.string s,kv] ab),.blk b2 (.cells #[.int .i64 k',.int .i64 n',.string s',kv'] ab)] S w':=hI
 refine ⟨fun D Gi GJ x9 x8 x7 w_=>Fx D 0 [x7=.agg #[.int .i64 k,.int .i64 n,.string s,kv],x8=.int .i64 (rkS (.mk k n s ks)),x9=.agg #[.int .i64 k',.int .i64 n',.string s',kv'],GJ=.int .i64 (rkS (.mk k' n' s' ks')),Gi=.bool (!decide (rkS (.mk k n s ks)=rkS (.mk k' n' s' ks')))]/\Inv w [] [.blk b1 (.cells #[.int .i64 k,.int .i64 n,.string s,kv] ab),.blk b2 (.cells #[.int .i64 k',.int .i64 n',.string s',kv'] ab)] S w_,⟨Fx.nil _ _,hI.draw⟩,⟨?_,?_,?_,?_,?_,trivial⟩,?_⟩
 all_goals (intro D bF; intros; rename_i Gi GJ x9 x8 x7 w_ hA_; have hF_:=hA_.1; obtain ⟨⟨cj,ci,bR,ce,bP,_⟩,hI⟩:=hA_)
 ·refine av hI 0 ad rfl rfl ?_
  exact ⟨hF_.set 0 rfl,hI⟩
 ·obtain rfl:=cj ‹_›
  refine Run.callPure nw nN hI (lY hcs) fun w_ hI=>?_
  exact ⟨hF_.set 1 rfl,hI⟩
 ·refine av hI 1 ad rfl rfl ?_
  exact ⟨hF_.set 2 rfl,hI⟩
 ·obtain rfl:=bR ‹_›
  refine Run.callPure nw nN hI (lY hds) fun w_ hI=>?_
  exact ⟨hF_.set 3 rfl,hI⟩
 ·obtain rfl:=ci ‹_›
  obtain rfl:=ce ‹_›
  refine ef ?_
  exact ⟨hF_.set 4 rfl,hI⟩
 obtain ⟨rfl,rfl,rfl,rfl,rfl,_⟩:=hF_.all
 clear hF_ cj ci bR ce bP
 refine aw (fun hb=>?_) (fun hb=>?_)
 ·simp only [jj,jC] at hb
  rw [Z4 hb]
  refine ⟨fun D x4 pr wJ AJ vC wi w_=>Fx D 0 [wi=.agg #[.int .i64 k,.int .i64 n,.string s,kv],vC=.int .i64 (rkS (.mk k n s ks)),AJ=.agg #[.int .i64 k',.int .i64 n',.string s',kv'],wJ=.int .i64 (rkS (.mk k' n' s' ks')),pr=.int .i64 (cS (rkS (.mk k n s ks)) (rkS (.mk k' n' s' ks'))),x4=.int .i64 (cS (rkS (.mk k n s ks)) (rkS (.mk k' n' s' ks')))]/\Inv w [] [.blk b1 (.cells #[.int .i64 k,.int .i64 n,.string s,kv] ab),.blk b2 (.cells #[.int .i64 k',.int .i64 n',.string s',kv'] ab)] S w_,⟨Fx.nil _ _,hI.draw⟩,⟨?_,?_,?_,?_,?_,?_,trivial⟩,?_⟩
  all_goals (intro D bF; intros; rename_i x4 pr wJ AJ vC wi w_ hA_; have hF_:=hA_.1; obtain ⟨⟨cj,ci,bR,ce,bP,bY,_⟩,hI⟩:=hA_)
  ·refine av hI 0 ad rfl rfl ?_
   exact ⟨hF_.set 0 rfl,hI⟩
  ·obtain rfl:=cj ‹_›
   refine Run.callPure nw nN hI (lY hcs) fun w_ hI=>?_
   exact ⟨hF_.set 1 rfl,hI⟩
  ·refine av hI 1 ad rfl rfl ?_
   exact ⟨hF_.set 2 rfl,hI⟩
  ·obtain rfl:=bR ‹_›
   refine Run.callPure nw nN hI (lY hds) fun w_ hI=>?_
   exact ⟨hF_.set 3 rfl,hI⟩
  ·obtain rfl:=ci ‹_›
   obtain rfl:=ce ‹_›
   refine Run.callPure uC tm hI (qx _ _ S) fun w_ hI=>?_
   exact ⟨hF_.set 4 rfl,hI⟩
  ·obtain rfl:=bP ‹_›
   exact ⟨hF_.set 5 rfl,hI⟩
  obtain ⟨rfl,rfl,rfl,rfl,rfl,rfl,_⟩:=hF_.all
  clear hF_ cj ci bR ce bP bY
  exact done hI rfl
 have hrk:rkS (.mk k n s ks)=rkS (.mk k' n' s' ks'):=by simpa using hb
 refine af hI 0 rfl aR aG rfl ?_
 refine ef ?_
 refine aw (fun hb=>?_) (fun hb=>?_)
 ·have hk:k≠3:=by simpa using hb
  rw [aaP ht hu hrk hk]
  refine af hI 0 rfl bf aG rfl ?_
  refine af hI 1 rfl bf aG rfl ?_
  refine Run.callPure uC tm hI (qx _ _ S) fun w' hI=>?_
  exact done hI rfl
 have hk:k=3:=by simpa using hb
 refine af hI 0 rfl ao aj rfl ?_
 refine aF hks ag ?_
 refine af hI 1 rfl ao aj rfl ?_
 refine aF hks' ag ?_
 refine ef ?_
 refine aw (fun hb=>?_) (fun hb=>?_)
 ·have hl:(ks.length:Int)≠ks'.length:=by simpa using hb
  rw [Zj ht hu hrk hk hl]
  refine af hI 0 rfl ao aj rfl ?_
  refine aF hks ag ?_
  refine af hI 1 rfl ao aj rfl ?_
  refine aF hks' ag ?_
  refine Run.callPure uC tm hI (qx _ _ S) fun w' hI=>?_
  exact done hI rfl
 have hl:(ks.length:Int)=ks'.length:=by simpa using hb
 refine af hI 0 rfl bb aU rfl ?_
 refine af hI 1 rfl bb aU rfl ?_
 refine xW ?_
 refine aw (fun hb=>?_) (fun hb=>?_)
 ·have hn:s≠s':=by simpa using hb
  rw [Wk ht hu hrk hk hl hn]
  refine af hI 0 rfl bb aU rfl ?_
  refine af hI 1 rfl bb aU rfl ?_
  refine Run.callPure IC II hI (H9 _ _ S) fun w' hI=>?_
  exact done hI rfl
 have hn:s=s':=by simpa using hb
 have hck:dL (.mk k n s ks) (.mk k' n' s' ks')=dD ks ks':=Xe ht hu hrk hk hl hn
 rw [hck]
 rw [okO] at ht hu
 have htk:=ht.2
 have huk:=hu.2
 refine ⟨fun i w'=>∃ j:Nat,j<=ks.length/\i=.int .i64 j/\dD (ks.drop j) (ks'.drop j)=dD ks ks'/\Inv w [] [.blk b1 (.cells #[.int .i64 k,.int .i64 n,.string s,kv] ab),.blk b2 (.cells #[.int .i64 k',.int .i64 n',.string s',kv'] ab)] S w',
  fun i _=>ks.length - (intOf i).toNat,⟨0,be _,rfl,rfl,hI⟩,?_⟩
 intro t5 _ _ _ _ _ _ _ _ _ _ _ _ _ _ _ _ _ _ _ _ _ _ _ w'
 rintro ⟨j,hj,rfl,hrel,hI⟩
 refine af hI 0 rfl ao aj rfl ?_
 refine aF hks ag ?_
 refine bH ?_
 refine aL (fun hji=>?_) (fun hji=>?_)
 ·have hj1:j<ks.length:=by omega
  have hj2:j<ks'.length:=by omega
  rw [Li ks ks' j hj1 hj2] at hrel
  obtain ⟨c1,o1,cap1,cc1,E1,fz1,rfl,hS1,hR1⟩:=hks.at_ hj1
  obtain ⟨c2,o2,cap2,cc2,E2,fz2,rfl,hS2,hR2⟩:=hks'.at_ hj2
  have hcall:=ih _ (bz hj1) ks'[j] S _ _ hR1 hR2 (sG htk _ (bz hj1)) (sG huk _ (bz hj2))
  refine ⟨fun D x6 UG G1 Ln z4 x3 CC Cw Du DE DG CS w_=>Fx D 0 [CS=.pointer (some ⟨b1,3,none⟩),DG=.slice (some ⟨c1,o1,none⟩) ks.length cap1,DE=.int .i64 j,Du=.pointer (some ⟨c1,o1+j * 4,none⟩),Cw=.agg (aX cc1 (o1+j * 4) 4).toArray,CC=.pointer (some ⟨b2,3,none⟩),x3=.slice (some ⟨c2,o2,none⟩) ks'.length cap2,z4=.int .i64 j,Ln=.pointer (some ⟨c2,o2+j * 4,none⟩),G1=.agg (aX cc2 (o2+j * 4) 4).toArray,UG=.int .i64 (dL ks[j] ks'[j]),x6=.int .i64 (dL ks[j] ks'[j])]/\Inv w [] [.blk b1 (.cells #[.int .i64 k,.int .i64 n,.string s,.slice (some ⟨c1,o1,none⟩) ks.length cap1] ab),.blk b2 (.cells #[.int .i64 k',.int .i64 n',.string s',.slice (some ⟨c2,o2,none⟩) ks'.length cap2] ab)] S w_,⟨Fx.nil _ _,hI.draw⟩,⟨?_,?_,?_,?_,?_,?_,?_,?_,?_,?_,?_,?_,trivial⟩,?_⟩
  all_goals (intro D bF; intros; rename_i x6 UG G1 Ln z4 x3 CC Cw Du DE DG CS w_ hA_; have hF_:=hA_.1; obtain ⟨⟨cj,ci,bR,ce,bP,bY,bZ,cH,c5,dI,bX,cr,_⟩,hI⟩:=hA_)
  ·refine au ao ?_
   exact ⟨hF_.set 0 rfl,hI⟩
  ·obtain rfl:=cj ‹_›
   refine aN hI 0 aj rfl rfl ?_
   exact ⟨hF_.set 1 rfl,hI⟩
  ·exact ⟨hF_.set 2 rfl,hI⟩
  ·obtain rfl:=ci ‹_›
   obtain rfl:=bR ‹_›
   refine aE ag hj1 ?_
   exact ⟨hF_.set 3 rfl,hI⟩
  ·obtain rfl:=ce ‹_›
   refine bL ad hR1.length (fun j v hj=>by rw [hI.cellS hS1]; exact aH rfl j v hj) ?_
   exact ⟨hF_.set 4 rfl,hI⟩
  ·refine au ao ?_
   exact ⟨hF_.set 5 rfl,hI⟩
  ·obtain rfl:=bY ‹_›
   refine aN hI 1 aj rfl rfl ?_
   exact ⟨hF_.set 6 rfl,hI⟩
  ·exact ⟨hF_.set 7 rfl,hI⟩
  ·obtain rfl:=bZ ‹_›
   obtain rfl:=cH ‹_›
   refine aE ag hj2 ?_
   exact ⟨hF_.set 8 rfl,hI⟩
  ·obtain rfl:=c5 ‹_›
   refine bL ad hR2.length (fun j v hj=>by rw [hI.cellS hS2]; exact aH rfl j v hj) ?_
   exact ⟨hF_.set 9 rfl,hI⟩
  ·obtain rfl:=bP ‹_›
   obtain rfl:=dI ‹_›
   refine Run.callPure tf tq hI hcall fun w_ hI=>?_
   exact ⟨hF_.set 10 rfl,hI⟩
  ·obtain rfl:=bX ‹_›
   exact ⟨hF_.set 11 rfl,hI⟩
  obtain ⟨rfl,rfl,rfl,rfl,rfl,rfl,rfl,rfl,rfl,rfl,rfl,rfl,_⟩:=hF_.all
  clear hF_ cj ci bR ce bP bY bZ cH c5 dI bX cr
  refine ef ?_
  refine aw (fun hb=>done hI ?_) (fun hb=>?_)
  ·have hne:dL ks[j] ks'[j]≠0:=by simpa using hb
   rw [<- hrel,nV hne]
  ·have he:dL ks[j] ks'[j]=0:=by simpa using hb
   rw [he,kA] at hrel
   refine bp (by omega) ?_
   exact ⟨⟨j+1,hj1,rfl,hrel,hI⟩,by simp [intOf]; omega⟩
 ·have e1:ks.drop j=[]:=jT (by omega)
  have e2:ks'.drop j=[]:=jT (by omega)
  refine done hI ?_
  rw [<- hrel,e1,e2,dD]
end
end
section
open Go Go.RowKit
abbrev W7 (ys:List T):Value->List Item->ae->Prop:=fun r I' S'=>I'=[]/\RdSl S' 4 (RdT S') r ys
theorem FV (l:List T) (t:T) (j:Nat) (h:j<l.length) (hc:dL l[j] t<0):eZ (l.drop j) t=l[j]::eZ (l.drop (j+1)) t:=by
 rw [cU h,eZ,ai hc]
theorem BF (l:List T) (t:T) (j:Nat) (h:j<l.length) (hc:¬ dL l[j] t<0):eZ (l.drop j) t=if eqT l[j] t=true then l.drop j else t::l.drop j:=by
 rw [cU h,eZ,ah hc]
section
attribute [local irreducible] Run CondV az aO
theorem NN {l:List T} {t:T} {S:ae} {v:Value} {cs:List Value} {w w0:World} {b3:Nat} {K:Value->World->Prop} (j:Nat) (hI:Inv w0 [] [.blk b3 (.cells cs.toArray ab)] S w) (h:RdSl S 4 (RdT S) v l) (hcs:RdT S cs t) (hj:j<=l.length) (hn:l.length<=1000000)
  (hk:∀ r S' w',Ext w0.heap.size [] S S'->RdSl S' 4 (RdT S') r (l.take j++t::l.drop j)->Inv w0 [] [] S' w'->K r w') :
  Run Tryz.prog (bC cA 0 []) w fun t35 w52=>
  Run Tryz.prog (sOp (.slice cA (.const v) none (some (.const (.int .i64 j))) none) cA) w52 fun t38 w53=>
  Run Tryz.prog (bM .append #[cA,cA] cA [false,false] [t35,t38]) w53 fun t39 w54=>
  Run Tryz.prog (sOp (.load ab (.const (.pointer (some ⟨b3,0,none⟩)))) ab) w54 fun t41 w55=>
  Run Tryz.prog (bC cA 1 [(0,t41)]) w55 fun t42 w56=>
  Run Tryz.prog (bM .append #[cA,cA] cA [false,false] [t39,t42]) w56 fun t43 w57=>
  Run Tryz.prog (sOp (.slice cA (.const v) (some (.const (.int .i64 j))) none none) cA) w57 fun t47 w58=>
  Run Tryz.prog (bM .append #[cA,cA] cA [false,false] [t43,t47]) w58 fun t48 w59=>
  K t48 w59:=by
 have hlc:=hcs.length
 refine fA hI bo fun v0 w hI=>?_
 refine Vn ag h hj fun v1 h1=>?_
 refine mD hI 1 (css:=[]) bo (by omega) rfl h1 (fun _ _=>RdT.length) (fun _ _=>RdT.one) (by simp; omega) (by omega) fun v2 w c1 hR1 hI=>?_
 have hI:Inv w0 [] [.blk b3 (.cells cs.toArray ab),aJ v2 ab 4 c1] S w:=by simpa using hI
 have hc1:=hR1.hc
 simp only [dX] at hc1
 refine av hI 0 ad rfl (by simpa using hlc) ?_
 refine d6 hI 1 cs bo (by omega) (by omega) rfl hlc hcs.one (by omega) (by omega) fun v3 w hI=>?_
 have hR2:=hR1.snoc hcs hlc
 refine sQ ag h hj fun v4 h4=>?_
 refine mD hI 1 (css:=c1++[cs]) bo (by omega) rfl h4 (fun _ _=>RdT.length) (fun _ _=>RdT.one) (by simp; omega) (by omega) fun v5 w c2 hR3 hI=>?_
 have hR:=hR2.append hR3
 have hI:Inv w0 [] ([.blk b3 (.cells cs.toArray ab)]++[aJ v5 ab 4 ((c1++[cs])++c2)]) S w:=hI
 obtain ⟨S',hE,hrd,hI⟩:=hI.lendExt
 have hr:RdSl S' 4 (RdT S') v5 ((l.take j++[t])++l.drop j):=(RowRd.rows hR hrd).mono (Sle.refl _) fun _ _ h=>h.mono hE.1
 rw [eK] at hr
 exact hk _ _ _ hE hr (hI.pick [false])
theorem Nh {l:List T} {t:T} {S:ae} {v:Value} {cs:List Value} (h:RdSl S 4 (RdT S) v l) (hcs:RdT S cs t) (hl:∀ x∈l,okO x) (ht:okO t) (hn:l.length<=1000000) :
  Tri Tryz.prog Sy [v,.agg cs.toArray] [] S (W7 (eZ l t)):=by
 intro w hI
 have hlc:=hcs.length
 refine DX.2 ?_
 dsimp only[DX,aY]
 refine bq hI fun b3 w' hI=>?_
 have hI:Inv w [] [.blk b3 (.cells cs.toArray ab)] S w':=hI
 refine ⟨fun i w'=>∃ j:Nat,j<=l.length/\i=.int .i64 j/\l.take j++eZ (l.drop j) t=eZ l t/\Inv w [] [.blk b3 (.cells cs.toArray ab)] S w',
  fun i _=>l.length - (intOf i).toNat,⟨0,be _,rfl,rfl,hI⟩,?_⟩
 intro t5 _ _ _ _ _ _ _ _ _ _ _ _ _ _ _ w'
 rintro ⟨j,hj,rfl,hrel,hI⟩
 by_cases hj':j<l.length
 ·obtain ⟨b,o,cap,c,E,fz,rfl,hS,hR⟩:=h.at_ hj'
  have hox:=hl _ (bz hj')
  refine ⟨fun D lp rT lN pr wJ AJ vC wi Gi GJ x9 x8 x7 w_=>Fx D 0 [x7=.int .i64 j,x8=.slice (some ⟨b,o,none⟩) l.length cap,x9=.int .i64 l.length,GJ=.bool true,Gi=.bool true,wi=.slice (some ⟨b,o,none⟩) l.length cap,vC=.int .i64 j,AJ=.pointer (some ⟨b,o+j * 4,none⟩),wJ=.agg (aX c (o+j * 4) 4).toArray,pr=.agg cs.toArray,lN=.int .i64 (dL l[j] t),rT=.bool (decide (dL l[j] t<0)),lp=.bool (decide (dL l[j] t<0))]/\Inv w [] [.blk b3 (.cells cs.toArray ab)] S w_,⟨Fx.nil _ _,hI.draw⟩,⟨?_,?_,?_,?_,?_,?_,?_,?_,?_,?_,?_,?_,?_,trivial⟩,?_⟩
  all_goals (intro D bF; intros; rename_i lp rT lN pr wJ AJ vC wi Gi GJ x9 x8 x7 w_ hA_; have hF_:=hA_.1; obtain ⟨⟨cj,ci,bR,ce,bP,bY,bZ,cH,c5,dI,bX,cr,cZ,_⟩,hI⟩:=hA_)
  ·exact ⟨hF_.set 0 rfl,hI⟩
  ·exact ⟨hF_.set 1 rfl,hI⟩
  ·obtain rfl:=ci ‹_›
   refine eV ag ?_
   exact ⟨hF_.set 2 rfl,hI⟩
  ·obtain rfl:=cj ‹_›
   obtain rfl:=bR ‹_›
   refine bH ?_; rw [aI (show (j:Int)<(l.length:Int) by omega)]
   exact ⟨hF_.set 3 rfl,hI⟩
  ·obtain rfl:=ce ‹_›
   exact ⟨hF_.set 4 rfl,hI⟩
  ·obtain rfl:=bP ‹_›
   refine rpG ?_
   exact ⟨hF_.set 5 rfl,hI⟩
  ·obtain rfl:=bP ‹_›
   refine rpG ?_
   exact ⟨hF_.set 6 rfl,hI⟩
  ·obtain rfl:=bY ‹_›
   obtain rfl:=bZ ‹_›
   obtain rfl:=bP ‹_›
   refine rpG ?_
   refine aE ag hj' ?_
   exact ⟨hF_.set 7 rfl,hI⟩
  ·obtain rfl:=cH ‹_›
   obtain rfl:=bP ‹_›
   refine rpG ?_
   refine bL ad hR.length (fun j v hj=>by rw [hI.cellS hS]; exact aH rfl j v hj) ?_
   exact ⟨hF_.set 8 rfl,hI⟩
  ·obtain rfl:=bP ‹_›
   refine rpG ?_
   refine av hI 0 ad rfl (by simpa using hlc) ?_
   exact ⟨hF_.set 9 rfl,hI⟩
  ·obtain rfl:=c5 ‹_›
   obtain rfl:=dI ‹_›
   obtain rfl:=bP ‹_›
   refine rpG ?_
   refine Run.callPure tf tq hI (Ee _ _ S _ _ hR hcs hox ht) fun w_ hI=>?_
   exact ⟨hF_.set 10 rfl,hI⟩
  ·obtain rfl:=bX ‹_›
   obtain rfl:=bP ‹_›
   refine rpG ?_
   refine bH ?_
   exact ⟨hF_.set 11 rfl,hI⟩
  ·obtain rfl:=bP ‹_›
   obtain rfl:=cr ‹_›
   refine rpG ?_
   exact ⟨hF_.set 12 rfl,hI⟩
  obtain ⟨rfl,rfl,rfl,rfl,rfl,rfl,rfl,rfl,rfl,rfl,rfl,rfl,rfl,_⟩:=hF_.all
  clear hF_ cj ci bR ce bP bY bZ cH c5 dI bX cr cZ
  refine aL (fun hc=>?_) (fun hc=>?_)
  ·refine bp (by omega) ?_
   refine ⟨⟨j+1,hj',rfl,?_,hI⟩,by simp [intOf]; omega⟩
   rw [<- hrel,FV l t j hj' hc,fl hj',eK]
   rfl
  rw [BF l t j hj' hc] at hrel
  refine ⟨fun D Ih Km zY lj su jO uk mM gk lK tx uK w_=>Fx D 0 [uK=.int .i64 j,tx=.slice (some ⟨b,o,none⟩) l.length cap,lK=.int .i64 l.length,gk=.bool true,mM=.bool true,uk=.slice (some ⟨b,o,none⟩) l.length cap,jO=.int .i64 j,su=.pointer (some ⟨b,o+j * 4,none⟩),lj=.agg (aX c (o+j * 4) 4).toArray,zY=.agg cs.toArray,Km=.bool (eqT l[j] t),Ih=.bool (eqT l[j] t)]/\Inv w [] [.blk b3 (.cells cs.toArray ab)] S w_,⟨Fx.nil _ _,hI.draw⟩,⟨?_,?_,?_,?_,?_,?_,?_,?_,?_,?_,?_,?_,trivial⟩,?_⟩
  all_goals (intro D bF; intros; rename_i Ih Km zY lj su jO uk mM gk lK tx uK w_ hA_; have hF_:=hA_.1; obtain ⟨⟨cj,ci,bR,ce,bP,bY,bZ,cH,c5,dI,bX,cr,_⟩,hI⟩:=hA_)
  ·exact ⟨hF_.set 0 rfl,hI⟩
  ·exact ⟨hF_.set 1 rfl,hI⟩
  ·obtain rfl:=ci ‹_›
   refine eV ag ?_
   exact ⟨hF_.set 2 rfl,hI⟩
  ·obtain rfl:=cj ‹_›
   obtain rfl:=bR ‹_›
   refine bH ?_; rw [aI (show (j:Int)<(l.length:Int) by omega)]
   exact ⟨hF_.set 3 rfl,hI⟩
  ·obtain rfl:=ce ‹_›
   exact ⟨hF_.set 4 rfl,hI⟩
  ·obtain rfl:=bP ‹_›
   refine rpG ?_
   exact ⟨hF_.set 5 rfl,hI⟩
  ·obtain rfl:=bP ‹_›
   refine rpG ?_
   exact ⟨hF_.set 6 rfl,hI⟩
  ·obtain rfl:=bY ‹_›
   obtain rfl:=bZ ‹_›
   obtain rfl:=bP ‹_›
   refine rpG ?_
   refine aE ag hj' ?_
   exact ⟨hF_.set 7 rfl,hI⟩
  ·obtain rfl:=cH ‹_›
   obtain rfl:=bP ‹_›
   refine rpG ?_
   refine bL ad hR.length (fun j v hj=>by rw [hI.cellS hS]; exact aH rfl j v hj) ?_
   exact ⟨hF_.set 8 rfl,hI⟩
  ·obtain rfl:=bP ‹_›
   refine rpG ?_
   refine av hI 0 ad rfl (by simpa using hlc) ?_
   exact ⟨hF_.set 9 rfl,hI⟩
  ·obtain rfl:=c5 ‹_›
   obtain rfl:=dI ‹_›
   obtain rfl:=bP ‹_›
   refine rpG ?_
   refine Run.callPure oN oL hI (qn _ _ S _ _ hR hcs) fun w_ hI=>?_
   exact ⟨hF_.set 10 rfl,hI⟩
  ·obtain rfl:=bP ‹_›
   obtain rfl:=bX ‹_›
   refine rpG ?_
   exact ⟨hF_.set 11 rfl,hI⟩
  obtain ⟨rfl,rfl,rfl,rfl,rfl,rfl,rfl,rfl,rfl,rfl,rfl,rfl,_⟩:=hF_.all
  clear hF_ cj ci bR ce bP bY bZ cH c5 dI bX cr
  refine aw (fun he=>?_) (fun he=>?_)
  ·rw [ai he,xd] at hrel
   rw [<- hrel]
   exact ⟨_,_,_,rfl,hI.pick [false],Ext.refl _ _ _,rfl,h⟩
  ·rw [ah (by rw [he]; decide)] at hrel
   rw [<- hrel]
   exact NN j hI h hcs hj hn fun r S' w' hE hr hI=>⟨_,_,_,rfl,hI,hE,rfl,hr⟩
 ·have hje:j=l.length:=by omega
  have hv:∃ a m,v=.slice a l.length m:=by
   obtain ⟨a,m,e,_⟩:=h
   exact ⟨a,m,e⟩
  obtain ⟨a,m,rfl⟩:=hv
  rw [jT (by omega),eZ] at hrel
  refine ⟨fun D lp rT lN pr wJ AJ vC wi Gi GJ x9 x8 x7 w_=>Fx D 0 [x7=.int .i64 j,x8=.slice a l.length m,x9=.int .i64 l.length,GJ=.bool false,Gi=.bool false,wi=undef,vC=undef,AJ=undef,wJ=undef,pr=undef,lN=undef,rT=undef,lp=.bool false]/\Inv w [] [.blk b3 (.cells cs.toArray ab)] S w_,⟨Fx.nil _ _,hI.draw⟩,⟨?_,?_,?_,?_,?_,?_,?_,?_,?_,?_,?_,?_,?_,trivial⟩,?_⟩
  all_goals (intro D bF; intros; rename_i lp rT lN pr wJ AJ vC wi Gi GJ x9 x8 x7 w_ hA_; have hF_:=hA_.1; obtain ⟨⟨cj,ci,bR,ce,bP,bY,bZ,cH,c5,dI,bX,cr,cZ,_⟩,hI⟩:=hA_)
  ·exact ⟨hF_.set 0 rfl,hI⟩
  ·exact ⟨hF_.set 1 rfl,hI⟩
  ·obtain rfl:=ci ‹_›
   refine eV ag ?_
   exact ⟨hF_.set 2 rfl,hI⟩
  ·obtain rfl:=cj ‹_›
   obtain rfl:=bR ‹_›
   refine bH ?_; rw [aP (show ¬ (j:Int)<(l.length:Int) by omega)]
   exact ⟨hF_.set 3 rfl,hI⟩
  ·obtain rfl:=ce ‹_›
   exact ⟨hF_.set 4 rfl,hI⟩
  ·obtain rfl:=bP ‹_›
   refine rpG ?_
   exact ⟨hF_.set 5 rfl,hI⟩
  ·obtain rfl:=bP ‹_›
   refine rpG ?_
   exact ⟨hF_.set 6 rfl,hI⟩
  ·obtain rfl:=bY ‹_›
   obtain rfl:=bZ ‹_›
   obtain rfl:=bP ‹_›
   refine rpG ?_
   exact ⟨hF_.set 7 rfl,hI⟩
  ·obtain rfl:=cH ‹_›
   obtain rfl:=bP ‹_›
   refine rpG ?_
   exact ⟨hF_.set 8 rfl,hI⟩
  ·obtain rfl:=bP ‹_›
   refine rpG ?_
   exact ⟨hF_.set 9 rfl,hI⟩
  ·obtain rfl:=c5 ‹_›
   obtain rfl:=dI ‹_›
   obtain rfl:=bP ‹_›
   refine rpG ?_
   exact ⟨hF_.set 10 rfl,hI⟩
  ·obtain rfl:=bX ‹_›
   obtain rfl:=bP ‹_›
   refine rpG ?_
   exact ⟨hF_.set 11 rfl,hI⟩
  ·obtain rfl:=bP ‹_›
   obtain rfl:=cr ‹_›
   refine rpG ?_
   exact ⟨hF_.set 12 rfl,hI⟩
  obtain ⟨rfl,rfl,rfl,rfl,rfl,rfl,rfl,rfl,rfl,rfl,rfl,rfl,rfl,_⟩:=hF_.all
  clear hF_ cj ci bR ce bP bY bZ cH c5 dI bX cr cZ
  refine aw (fun hb=>by cases hb) (fun _=>?_)
  refine ⟨fun D Ih Km zY lj su jO uk mM gk lK tx uK w_=>Fx D 0 [uK=.int .i64 j,tx=.slice a l.length m,lK=.int .i64 l.length,gk=.bool false,mM=.bool false,uk=undef,jO=undef,su=undef,lj=undef,zY=undef,Km=undef,Ih=.bool false]/\Inv w [] [.blk b3 (.cells cs.toArray ab)] S w_,⟨Fx.nil _ _,hI.draw⟩,⟨?_,?_,?_,?_,?_,?_,?_,?_,?_,?_,?_,?_,trivial⟩,?_⟩
  all_goals (intro D bF; intros; rename_i Ih Km zY lj su jO uk mM gk lK tx uK w_ hA_; have hF_:=hA_.1; obtain ⟨⟨cj,ci,bR,ce,bP,bY,bZ,cH,c5,dI,bX,cr,_⟩,hI⟩:=hA_)
  ·exact ⟨hF_.set 0 rfl,hI⟩
  ·exact ⟨hF_.set 1 rfl,hI⟩
  ·obtain rfl:=ci ‹_›
   refine eV ag ?_
   exact ⟨hF_.set 2 rfl,hI⟩
  ·obtain rfl:=cj ‹_›
   obtain rfl:=bR ‹_›
   refine bH ?_; rw [aP (show ¬ (j:Int)<(l.length:Int) by omega)]
   exact ⟨hF_.set 3 rfl,hI⟩
  ·obtain rfl:=ce ‹_›
   exact ⟨hF_.set 4 rfl,hI⟩
  ·obtain rfl:=bP ‹_›
   refine rpG ?_
   exact ⟨hF_.set 5 rfl,hI⟩
  ·obtain rfl:=bP ‹_›
   refine rpG ?_
   exact ⟨hF_.set 6 rfl,hI⟩
  ·obtain rfl:=bY ‹_›
   obtain rfl:=bZ ‹_›
   obtain rfl:=bP ‹_›
   refine rpG ?_
   exact ⟨hF_.set 7 rfl,hI⟩
  ·obtain rfl:=cH ‹_›
   obtain rfl:=bP ‹_›
   refine rpG ?_
   exact ⟨hF_.set 8 rfl,hI⟩
  ·obtain rfl:=bP ‹_›
   refine rpG ?_
   exact ⟨hF_.set 9 rfl,hI⟩
  ·obtain rfl:=c5 ‹_›
   obtain rfl:=dI ‹_›
   obtain rfl:=bP ‹_›
   refine rpG ?_
   exact ⟨hF_.set 10 rfl,hI⟩
  ·obtain rfl:=bP ‹_›
   obtain rfl:=bX ‹_›
   refine rpG ?_
   exact ⟨hF_.set 11 rfl,hI⟩
  obtain ⟨rfl,rfl,rfl,rfl,rfl,rfl,rfl,rfl,rfl,rfl,rfl,rfl,_⟩:=hF_.all
  clear hF_ cj ci bR ce bP bY bZ cH c5 dI bX cr
  refine aw (fun hb=>by cases hb) (fun _=>?_)
  rw [<- hrel]
  refine NN j hI h hcs hj hn fun r S' w' hE hr hI=>⟨_,_,_,rfl,hI,hE,rfl,?_⟩
  rw [jT (by omega)] at hr
  exact hr
end
end
section
open Go Go.RowKit
def ZF (l:List T) (t:T):Bool:=l.any fun x=>eqT x t
def Ai:T:=.mk 0 0 ⟨#[]⟩ []
def xG (st:al) (n:Int):T:=match st[n.toNat]? with
 | some (some t)=>t
 | _=>Ai
def kQ (st:al) (x:T):T:=if x.kind=1 then xG st x.n else x
def vX (g:T) (st:al):T:=.mk g.kind 0 g.name (g.kids.map (kQ st))
def stW (st:al):Prop:=∀ t,some t∈st->wT t<=1048576
theorem XR (st:al) (n:Int):xG st n=Ai ∨ some (xG st n)∈st:=by
 rw [xG]
 split
 ·rename_i t h
  exact .inr (cz h)
 ·exact .inl rfl
theorem Y7:wT Ai<=1048576:=by
 have:wT Ai=0:=rfl
 omega
theorem V1 {st:al} (h:stW st) {ks:List T} {j:Nat} (hj:j<ks.length) (hw:wL ks<=1048576):wT (kQ st ks[j])<=1048576:=by
 rw [kQ]
 split
 ·rcases XR st ks[j].n with e|e
  ·rw [e]; exact Y7
  ·exact h _ e
 ·have:=js (bz hj)
  omega
theorem ST (st:al) (ks:List T) (j:Nat) (h:j<ks.length):(ks.take (j+1)).map (kQ st)=(ks.take j).map (kQ st)++[kQ st ks[j]]:=by
 rw [fl h,Ue]; rfl
theorem RdT.zero (S:ae):RdT S nL Ai:=RdT.iff.2 ⟨_,rfl,by simp [inI,T.kind,Ai],by simp [inI,T.n,Ai],by rw [Ai,T.name]; decide +kernel,none,0,rfl,aW _,be _,.inl rfl⟩
theorem KnownC.get {S:ae} {kc:Array Value} {st:al} (h:KnownC S kc st) (hst:st.length=26) {j:Nat} (hj:j<26):RdT S (aX kc (j * 4) 4) (xG st j):=by
 obtain ⟨h1,h2⟩:=h.2 j (by omega)
 rw [xG,dv,gL (show j<st.length by omega)]
 cases e:st[j] with
 | none=>
  rw [h1 e]
  exact RdT.zero S
 | some t=>exact h2 t e
def KRel (S:ae) (cs:List Value) (o:Option T):Prop:=cs.length=4/\(o=none->cs=nL)/\∀ t,o=some t->RdT S cs t
theorem KRel.one {S:ae} {cs:List Value} {o:Option T} (h:KRel S cs o):∀ u∈cs,u.oneCell'=true:=by
 cases o with
 | none=>rw [h.2.1 rfl]; simp [nL,Value.oneCell']
 | some t=>exact (h.2.2 t rfl).one
theorem KnownC.rd {S:ae} {kb kp:Nat} {kc:Array Value} {st:al} {E:TypeId} (hS:S kb=some (.cells kc E)) (h:KnownC S kc st) (hst:st.length=26) (hkp:26<=kp) (hkm:kp<=maxLen):RdSl S 4 (KRel S) (kvn kb kp) st:=by
 refine ⟨some ⟨kb,0,none⟩,kp,by rw [hst],by omega,hkm,.inr ⟨kb,0,kc,E,(0,0),rfl,hS,fun i hi=>?_⟩⟩
 obtain ⟨h1,h2⟩:=h.2 i hi
 rw [cq]
 refine ⟨?_,h1,h2⟩
 have:=h.1
 rw [aX,dX,vB,Og]
 omega
theorem KnownC.of_rows {S:ae} {cur:Array Value} {css:List (List Value)} {st:al} (h:Rows 4 (KRel S) css st) (hst:st.length=26) {cap:Nat} (hcap:26<=cap) (hs:cur.size=cap * 4) (ht:cur.toList.take (css.length * 4)=css.flatten):KnownC S cur st:=by
 have hc:=h.hc
 refine ⟨by omega,fun i hi=>?_⟩
 have hi':i<css.length:=by omega
 have hfl:=jb 4 css i h.hk hi'
 have e:aX cur (i * 4) 4=css[i]:=by
  rw [<- hfl,<- ht,N3,oX,lm (by omega)]
  rfl
 have hr:=h.hR i hi hi'
 rw [<- e] at hr
 exact ⟨hr.2.1,hr.2.2⟩
section
attribute [local irreducible] Run CondV az aO
abbrev abH (r:Bool × al):Value->List Item->ae->Prop:=fun v I' S'=>I'=[]/\∃ kb kp kc,v=.tuple #[kvn kb kp,.bool r.1]/\26<=kp/\kp<=maxLen/\S' kb=some (.cells kc ab)/\KnownC S' kc r.2
theorem KnownC.mono {S S':ae} {kc:Array Value} {st:al} (h:KnownC S kc st) (hs:Sle S S'):KnownC S' kc st:=
 ⟨h.1,fun i hi=>⟨(h.2 i hi).1,fun t ht=>((h.2 i hi).2 t ht).mono hs⟩⟩
theorem Ht {g f:T} {S:ae} {cs ds:List Value} {kb kp:Nat} {kc:Array Value} {st:al} (hg:RdT S cs g) (hf:RdT S ds f) (hv:okV g) (hk:okK f) (hst:xA st) (hkp:26<=kp) (hkm:kp<=maxLen)
  (hS:S kb=some (.cells kc ab)) (hkc:KnownC S kc st):Tri Tryz.prog LV [.agg cs.toArray,.agg ds.toArray,kvn kb kp] [] S (abH (bt g f st)):=by
 intro w hI
 have hlg:=hg.length
 have hlf:=hf.length
 refine vZ.2 ?_
 dsimp only[vZ,dN]
 refine bq hI fun b3 w' hI=>?_
 refine bq hI fun b4 w' hI=>?_
 refine fA hI bo fun v0 w' hI=>?_
 have hI:Inv w [] [.blk b3 (.cells cs.toArray ab),.blk b4 (.cells ds.toArray ab),aJ v0 ab 4 []] S w':=hI
 have hrd:=hkc.rd hS hst.1 hkp hkm
 refine mD hI 2 (css:=[]) bo (by omega) rfl hrd (fun _ _ h=>h.1) (fun _ _=>KRel.one) (by simp [hst.1]) (by omega) fun v1 w' css hR hI=>?_
 have hI:Inv w [] ([.blk b3 (.cells cs.toArray ab),.blk b4 (.cells ds.toArray ab)]++[aJ v1 ab 4 css]) S w':=by simpa using hI
 have hcl:css.length=26:=by rw [hR.hc]; exact hst.1
 obtain ⟨_,ho⟩:=hI.openRow
 rcases ho with ⟨_,h0⟩|⟨nb,cap,cur,rfl,hnc,hcm,hcs,ht,hI⟩
 ·omega
 rw [hcl] at hnc
 have hkc':=KnownC.of_rows hR hst.1 hnc hcs ht
 rw [hcl]
 refine av hI 0 ad rfl (by simpa using hlg) ?_
 refine av hI 1 ad rfl (by simpa using hlf) ?_
 refine Run.call (A:=[_,_]) yT zX hI (IX cap _ _ S _ _ nb cur st hg hf hv hk hst hkc') fun v' I' S' w'=>?_
 rintro ⟨rfl,rfl,kc2,rfl,hk2⟩ _ hI
 obtain ⟨S',hI,hE,hins⟩:=Inv.pubExt (A:=[.blk b3 (.cells cs.toArray ab),.blk b4 (.cells ds.toArray ab)]) (L:=[(nb,.cells kc2 ab)]) hI
 exact ⟨_,_,_,rfl,hI.pick [false,false],hE,rfl,nb,cap,kc2,rfl,hnc,hcm,hins _ (cd.2 rfl),hk2.mono hE.1⟩
theorem Jz {g:T} {S:ae} {cs:List Value} {kb kp:Nat} {kc:Array Value} {st:al} (hg:RdT S cs g) (hv:okV g) (hw:wT g<=1048576) (hst:xA st) (hsw:stW st)
  (hS:S kb=some (.cells kc ab)) (hkc:KnownC S kc st):Tri Tryz.prog PN [.agg cs.toArray,kvn kb kp] [] S (G5 S (vX g st)):=by
 intro w hI
 obtain ⟨kv,rfl,h1,h2,hs,hks⟩:=RdT.iff.1 hg
 obtain ⟨k,n,s,ks⟩:=g
 simp only [T.name,T.kids,T.kind,T.n] at h1 h2 hs hks ⊢
 simp only [wT] at hw
 rw [okV] at hv
 have hvk:=hv.2
 refine yD.2 ?_
 dsimp only[yD,aY]
 refine bq hI fun b2 w' hI=>?_
 obtain ⟨hI,hle⟩:=Inv.publishLast (L:=[]) hI
 have hb2:mS S b2 (.cells (Value.agg #[.int .i64 k,.int .i64 n,.string s,kv]).cells ab) b2=some (.cells #[.int .i64 k,.int .i64 n,.string s,kv] ab):=by simp [mS,Value.cells]
 generalize mS S b2 (.cells (Value.agg #[.int .i64 k,.int .i64 n,.string s,kv]).cells ab)=S1 at hI hle hb2
 have hks1:=hks.monoT hle
 have hS1:=hle _ _ hS
 have hkc1:=hkc.mono hle
 refine aT hI aZ fun b4 w' hI=>?_
 refine au aR ?_
 refine ct aG (by rw [hI.cellS hb2]; rfl) ?_
 refine au bb ?_
 refine ct aU (by rw [hI.cellS hb2]; rfl) ?_
 have hb:∀ {K:Value->World->Prop} {w':World},K (.agg #[.int .i64 k,.int .i64 0,.string s,.slice none 0 0]) w'->Run Tryz.prog (cB ab [(0,.int .i64 k),(2,.string s)]) w' K:=by
  intro K w' hk
  refine Run.of (v:=.agg #[.int .i64 k,.int .i64 0,.string s,.slice none 0 0]) (w':=w') ?_ hk
  unfold cB
  rw [Sem.run_bind,run_build w' ab _ #[.int .i64 k,.int .i64 0,.string s,.slice none 0 0] (by kernel_rfl),Result.andThen_ok]
  rfl
 refine hb ?_
 refine aT hI aZ fun b5 w' hI=>?_
 refine aC hI 1 rfl ad rfl rfl (by simp [Value.oneCell']) fun w' hI=>?_
 have hI:=hI.rowNil ab 4
 refine ⟨fun i w'=>∃ (j:Nat) (kvc:Value) (Ls:List bm) (css:List (List Value)),j<=ks.length/\i=.int .i64 j/\Grown 4 TrT Ls css ((ks.take j).map (kQ st))/\
   Inv w [] (.blk b4 (.cells #[.int .i64 0,.int .i64 0,.string ⟨#[]⟩,.slice none 0 0] ab)::.blk b5 (.cells #[.int .i64 k,.int .i64 0,.string s,kvc] ab)::aJ kvc ab 4 css::bv Ls.flatten) S1 w',
  fun i _=>ks.length - (intOf i).toNat,⟨0,_,[],[],be _,rfl,Grown.nil _ _,hI⟩,?_⟩
 intro t6 _ _ _ _ _ _ _ _ _ _ _ _ _ _ _ _ _ _ _ _ _ _ _ _ _ _ _ _ w'
 rintro ⟨j,kvc,Ls,css,hj,rfl,hg',hI⟩
 refine au ao ?_
 refine ct aj (by rw [hI.cellS hb2]; rfl) ?_
 refine aF hks1 ag ?_
 refine bH ?_
 refine aL (fun hji=>?_) (fun hji=>?_)
 ·have hj':j<ks.length:=by omega
  have hjl:(ks.take j).length=j:=by simp; omega
  have hcl:=hg'.hc
  rw [kR] at hcl
  have hm:=bz hj'
  have hwm:=js hm
  have hvj:=me hvk _ hm
  refine au ao ?_
  refine ct aj (by rw [hI.cellS hb2]; rfl) ?_
  refine cL hI hks1 ag ad hj' (fun _ _=>RdT.length) fun cs0 hcs0=>?_
  refine aT hI aZ fun b7 w' hI=>?_
  have hI:=hI.perm (M:=.blk b7 _::(.blk b4 (.cells #[.int .i64 0,.int .i64 0,.string ⟨#[]⟩,.slice none 0 0] ab)::.blk b5 (.cells #[.int .i64 k,.int .i64 0,.string s,kvc] ab)::aJ kvc ab 4 css::bv Ls.flatten)) (cu (l₁:=[_]))
  refine aC hI 0 rfl ad (by simpa using hcs0.length) rfl (by simpa using hcs0.one) fun w' hI=>?_
  refine ⟨fun w'=>∃ c7,RdT S1 c7 (kQ st ks[j])/\Inv w [] (.blk b7 (.cells c7.toArray ab)::.blk b4 (.cells #[.int .i64 0,.int .i64 0,.string ⟨#[]⟩,.slice none 0 0] ab)::.blk b5 (.cells #[.int .i64 k,.int .i64 0,.string s,kvc] ab)::aJ kvc ab 4 css::bv Ls.flatten) S1 w',?_,?_⟩
  ·obtain ⟨x0,hc0,_⟩:=RdT.iff.1 hcs0
   refine af hI 0 (u:=.int .i64 ks[j].kind) rfl aR aG (by rw [hc0]; rfl) ?_
   refine bl ?_
   refine aL (fun hk1=>?_) (fun hk1=>?_)
   ·have hvn:0<=ks[j].n/\ks[j].n<=25:=by
     have hx:=hvj
     generalize ks[j]=x at hx hk1
     cases x
     rw [okV] at hx
     exact hx.1 hk1
    obtain ⟨m,hm'⟩:∃ m:Nat,ks[j].n=m:=⟨ks[j].n.toNat,by omega⟩
    have hm26:m<26:=by omega
    have hget:=hkc1.get hst.1 hm26
    rw [kQ,ai hk1,hm']
    refine af hI 0 (u:=.int .i64 ks[j].n) rfl bf aG (by rw [hc0]; rfl) ?_
    rw [hm']
    refine aE ag hm26 ?_
    refine bL (cs:=aX kc (m * 4) 4) ad hget.length (fun i v hi=>by rw [hI.cellS hS1,cq]; exact aH rfl i v hi) ?_
    refine aC hI 0 rfl ad (by simpa using hget.length) (by simpa using hcs0.length) (by simpa using hget.one) fun w' hI=>?_
    exact ⟨_,hget,hI⟩
   ·rw [kQ,ah hk1]
    exact ⟨_,hcs0,hI⟩
  intro _ _ _ _ _ _ _ _ w'
  rintro ⟨c7,hc7,hI⟩
  refine ⟨fun D tI ll AB vN vL JI Ih w_=>Fx D 0 [Ih=.pointer (some ⟨b5,3,none⟩),JI=kvc,vL=.agg c7.toArray,True,True,True,tI=.pointer (some ⟨b5,3,none⟩),True]/\∃ M cs7 b8,(D 3=true->vN=.agg cs7.toArray/\TrT M cs7 (kQ st ks[j]))/\(D 4=true->AB=.slice (some ⟨b8,0,none⟩) 1 1)/\(D 4=true->D 3=true)/\(D 5=true->D 4=true)/\(D 7=true->D 5=true)/\(D 7=true->D 1=true)/\Inv w [] (bi (.blk b7 (.cells c7.toArray ab)) (.blk b4 (.cells #[.int .i64 0,.int .i64 0,.string ⟨#[]⟩,.slice none 0 0] ab)) (.blk b5 (.cells #[.int .i64 k,.int .i64 0,.string s,kvc] ab)) (.blk b5 (.cells #[.int .i64 k,.int .i64 0,.string s,ll] ab)) (aJ kvc ab 4 css) (aJ ll ab 4 (css++[cs7])) (bv Ls.flatten) M (.blk b8 (.cells cs7.toArray ab)) (D 3) (D 4) (D 5) (D 7)) S1 w_,⟨Fx.nil _ _,⟨[],[],0,aQ,aQ,aQ,aQ,aQ,aQ,by simpa [bi,bv] using hI.draw⟩⟩,⟨?_,?_,?_,?_,?_,?_,?_,?_,trivial⟩,?_⟩
  all_goals (intro D bF; intros; rename_i tI ll AB vN vL JI Ih w_ hA_; have hF_:=hA_.1; obtain ⟨⟨cj,ci,bR,ce,bP,bY,bZ,cH,_⟩,⟨M,cs7,b8,e7,e8,k8,k9,k11,k1,hI⟩⟩:=hA_)
  ·refine au ao ?_
   exact ⟨hF_.set 0 rfl,⟨M,cs7,b8,e7,e8,k8,k9,k11,k1,hI⟩⟩
  ·obtain rfl:=cj ‹_›
   have f11:D 7=false:=bB.2 fun h=>by rw [k1 h] at bF; cases bF
   refine aN (b:=b5) hI 2 (c:=(#[.int .i64 k,.int .i64 0,.string s,kvc])) aj (by rw [f11]; rfl) rfl ?_
   have k1:=fun (_:aD D 1 7=true)=>(rfl:aD D 1 1=true)
   exact ⟨hF_.set 1 rfl,⟨M,cs7,b8,e7,e8,k8,k9,k11,k1,hI⟩⟩
  ·refine av hI 0 ad rfl (by simpa using hc7.length) ?_
   exact ⟨hF_.set 2 rfl,⟨M,cs7,b8,e7,e8,k8,k9,k11,k1,hI⟩⟩
  ·obtain rfl:=bR ‹_›
   have f8:D 4=false:=bB.2 fun h=>by rw [k8 h] at bF; cases bF
   have f9:D 5=false:=bB.2 fun h=>by rw [k9 h] at f8; cases f8
   have f11:D 7=false:=bB.2 fun h=>by rw [k11 h] at f9; cases f9
   rw [bF,f8,f9,f11] at hI
   refine Run.call0 fy fB hI (gh _ S1 _ hc7 (V1 hsw hj' (by omega))) fun v' I' S1 w_=>?_
   rintro ⟨rfl,cs7,M,rfl,rfl,hT⟩ _ hI
   have e7:aD D 3 3=true->Value.agg cs7.toArray=Value.agg cs7.toArray/\TrT M cs7 (kQ st ks[j]):=fun _=>⟨rfl,hT⟩
   have k8:=fun (_:aD D 3 4=true)=>(rfl:aD D 3 3=true)
   have hI:Inv w [] (bi (.blk b7 (.cells c7.toArray ab)) (.blk b4 (.cells #[.int .i64 0,.int .i64 0,.string ⟨#[]⟩,.slice none 0 0] ab)) (.blk b5 (.cells #[.int .i64 k,.int .i64 0,.string s,kvc] ab)) (.blk b5 (.cells #[.int .i64 k,.int .i64 0,.string s,ll] ab)) (aJ kvc ab 4 css) (aJ ll ab 4 (css++[cs7])) (bv Ls.flatten) M (.blk b8 (.cells cs7.toArray ab)) true (D 4) (D 5) (D 7)) S1 w_:=by
    rw [f8,f9,f11]
    simpa [bi] using hI
   exact ⟨hF_.set 3 (by first|assumption|trivial),⟨M,cs7,b8,e7,e8,k8,k9,k11,k1,hI⟩⟩
  ·have g3_:=ce ‹_›
   have f9:D 5=false:=bB.2 fun h=>by rw [k9 h] at bF; cases bF
   have f11:D 7=false:=bB.2 fun h=>by rw [k11 h] at f9; cases f9
   obtain ⟨q7,hT⟩:=e7 ‹D 3=true›
   subst q7
   rw [‹D 3=true›,bF,f9,f11] at hI
   refine er hI bo (by simp [Value.cells,hT.length]) (by omega) (by omega) fun b8 w_ hI=>?_
   have e7:aD D 4 3=true->Value.agg cs7.toArray=Value.agg cs7.toArray/\TrT M cs7 (kQ st ks[j]):=fun _=>⟨rfl,hT⟩
   have e8:=fun (_:aD D 4 4=true)=>(rfl:Value.slice (some ⟨b8,0,none⟩) 1 1=_)
   have k8:=fun (_:aD D 4 4=true)=>‹D 3=true›
   have k9:=fun (_:aD D 4 5=true)=>(rfl:aD D 4 4=true)
   have hI:Inv w [] (bi (.blk b7 (.cells c7.toArray ab)) (.blk b4 (.cells #[.int .i64 0,.int .i64 0,.string ⟨#[]⟩,.slice none 0 0] ab)) (.blk b5 (.cells #[.int .i64 k,.int .i64 0,.string s,kvc] ab)) (.blk b5 (.cells #[.int .i64 k,.int .i64 0,.string s,ll] ab)) (aJ kvc ab 4 css) (aJ ll ab 4 (css++[cs7])) (bv Ls.flatten) M (.blk b8 (.cells cs7.toArray ab)) (D 3) true (D 5) (D 7)) S1 w_:=by
    rw [‹D 3=true›,f9,f11]
    simpa [bi,Value.cells] using hI
   exact ⟨hF_.set 4 (by first|assumption|trivial),⟨M,cs7,b8,e7,e8,k8,k9,k11,k1,hI⟩⟩
  ·obtain rfl:=ci ‹_›
   have QG:=bP ‹_›
   have f11:D 7=false:=bB.2 fun h=>by rw [k11 h] at bF; cases bF
   have q8:=e8 ‹D 4=true›
   subst q8
   obtain ⟨_,hT⟩:=e7 ‹D 3=true›
   rw [‹D 3=true›,‹D 4=true›,bF,f11] at hI
   have hblk:((bi (.blk b7 (.cells c7.toArray ab)) (.blk b4 (.cells #[.int .i64 0,.int .i64 0,.string ⟨#[]⟩,.slice none 0 0] ab)) (.blk b5 (.cells #[.int .i64 k,.int .i64 0,.string s,JI] ab)) (.blk b5 (.cells #[.int .i64 k,.int .i64 0,.string s,ll] ab)) (aJ JI ab 4 css) (aJ ll ab 4 (css++[cs7])) (bv Ls.flatten) M (.blk b8 (.cells cs7.toArray ab)) true true false false))[4+(bv Ls.flatten).length+(bv M).length]?=some (.blk b8 (.cells cs7.toArray ab)):=by
    have e4:4+(bv Ls.flatten).length+(bv M).length=((bv Ls.flatten).length+(bv M).length)+1+1+1+1:=by omega
    rw [e4]
    simp only [bi,mB]
    rw [iu (by omega),oV,iu (aW _),eB]; rfl
   refine dZ hI 3 cs7 bo (by omega) rfl (by rw [hT.length]) (m:=1) (o:=0) ?_ hT.one (by omega) (by omega) fun v' w_ hI=>?_
   ·intro i u hi
    rw [hI.cellL hblk,cq]
    simpa using hi
   rw [eF] at hI
   have k9:=fun (_:aD D 5 5=true)=>‹D 4=true›
   have k11:=fun (_:aD D 5 7=true)=>(rfl:aD D 5 5=true)
   have hI:Inv w [] (bi (.blk b7 (.cells c7.toArray ab)) (.blk b4 (.cells #[.int .i64 0,.int .i64 0,.string ⟨#[]⟩,.slice none 0 0] ab)) (.blk b5 (.cells #[.int .i64 k,.int .i64 0,.string s,JI] ab)) (.blk b5 (.cells #[.int .i64 k,.int .i64 0,.string s,v'] ab)) (aJ JI ab 4 css) (aJ v' ab 4 (css++[cs7])) (bv Ls.flatten) M (.blk b8 (.cells cs7.toArray ab)) (D 3) (D 4) true (D 7)) S1 w_:=by
    rw [‹D 3=true›,‹D 4=true›,f11]
    exact hI
   exact ⟨hF_.set 5 (by first|assumption|trivial),⟨M,cs7,b8,e7,e8,k8,k9,k11,k1,hI⟩⟩
  ·refine au ao ?_
   exact ⟨hF_.set 6 rfl,⟨M,cs7,b8,e7,e8,k8,k9,k11,k1,hI⟩⟩
  ·obtain rfl:=bZ ‹_›
   have Ro:=bY ‹_›
   rw [‹D 3=true›,‹D 4=true›,‹D 5=true›,bF] at hI
   obtain ⟨va,vn,vc,hv9⟩:=Inv.rowSlice hI 3 rfl
   refine cW hI 2 (n:=1) (by rw [hv9]; rfl) (by decide +kernel) rfl (by simp) (by rw [hv9]; simp [Value.cells,Value.oneCell']) fun w_ hI=>?_
   have hcl9:Value.cells ll=#[ll]:=by rw [hv9]; rfl
   rw [hcl9] at hI
   have k1:=fun (_:aD D 7 7=true)=>‹D 1=true›
   have k11:=fun (_:aD D 7 7=true)=>‹D 5=true›
   have hI:Inv w [] (bi (.blk b7 (.cells c7.toArray ab)) (.blk b4 (.cells #[.int .i64 0,.int .i64 0,.string ⟨#[]⟩,.slice none 0 0] ab)) (.blk b5 (.cells #[.int .i64 k,.int .i64 0,.string s,kvc] ab)) (.blk b5 (.cells #[.int .i64 k,.int .i64 0,.string s,ll] ab)) (aJ kvc ab 4 css) (aJ ll ab 4 (css++[cs7])) (bv Ls.flatten) M (.blk b8 (.cells cs7.toArray ab)) (D 3) (D 4) (D 5) true) S1 w_:=by
    rw [‹D 3=true›,‹D 4=true›,‹D 5=true›]
    exact hI
   exact ⟨hF_.set 7 trivial,⟨M,cs7,b8,e7,e8,k8,k9,k11,k1,hI⟩⟩
  obtain ⟨rfl,rfl,rfl,g3_,QG,Ro,rfl,_,_⟩:=hF_.all
  have d3_:D 3=true:=by assumption
  have Zx:D 4=true:=by assumption
  have YN:D 5=true:=by assumption
  have AP:D 7=true:=by assumption
  clear hF_ cj ci bR ce bP bY bZ cH
  obtain ⟨_,hT⟩:=e7 d3_
  rw [d3_,Zx,YN,AP] at hI
  refine bp (by omega) ?_
  refine ⟨⟨j+1,ll,Ls++[M],css++[cs7],hj',rfl,?_,?_⟩,by simp [intOf]; omega⟩
  ·rw [ST st ks j hj']
   exact hg'.snoc hT hT.length
  ·simp only [vD,iT,ur,dh,eC]
   refine hI.sub ?_
   simp only [bi]
   rw [<- eK]
   exact ((((dB _ _).cons_cons _).cons_cons _).cons_cons _).cons _
 ·have:j=ks.length:=by omega
  subst this
  rw [fJ] at hg'
  obtain ⟨va,vn,vc,hvk'⟩:=hI.rowSlice 2 rfl
  have hv1:kvc.oneCell'=true:=by rw [hvk']; rfl
  refine av hI 1 ad rfl rfl ?_
  refine aC hI 0 rfl ad rfl rfl ?_ fun w' hI=>?_
  ·intro u hu
   have hu':u∈([.int .i64 k,.int .i64 0,.string s,kvc]:List Value):=hu
   simp at hu'
   rcases hu' with rfl|rfl|rfl|rfl <;> first|rfl|exact hv1
  refine bJ hI 0 ad rfl rfl ?_
  have hI:Inv w [] ([]++(aJ kvc ab 4 css::bv Ls.flatten)) S1 w':=hI.sub (ei [_,_] _)
  obtain ⟨L,hT,hI⟩:=Inv.rowTree hI hg'
  exact ⟨_,_,_,rfl,hI.less hle,Ext.refl _ _ _,rfl,_,L,rfl,rfl,TrT.iff.2 ⟨kvc,rfl,h1,by simp [inI,vX,T.n],hs,hT⟩⟩
end
end
end Go.Proofs.YtgllldjiaglkcaaGreatDoor
