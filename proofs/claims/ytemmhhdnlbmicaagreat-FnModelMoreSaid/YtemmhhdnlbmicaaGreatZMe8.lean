/- The standard order of terms: a total order on well-formed terms. -/
import Derived.Test.YtemmhhdnlbmicaaGreatZMe6
import Derived.Test.YtemmhhdnlbmicaaGreatZMe2
import Derived.Test.YtemmhhdnlbmicaaGreatZMe0
import Derived.Test.YtemmhhdnlbmicaaGreatZMe3
namespace Go.Proofs.YtemmhhdnlbmicaaGreat
open Go Go.RowKit

theorem zd:∀ (a b c:List UInt8),Op.bytesLess a b=true->Op.bytesLess b c=true->Op.bytesLess a c=true
 | _,[],_,h,_=>by simp [Op.bytesLess] at h
 | _,_::_,[],_,h=>by simp [Op.bytesLess] at h
 | [],_::_,_::_,_,_=>by simp [Op.bytesLess]
 | x::a,y::b,z::c,h,h'=>by
  simp only [Op.bytesLess,Bool.or_eq_true,decide_eq_true_eq,Bool.and_eq_true,beq_iff_eq] at h h' ⊢
  rcases h with h|⟨rfl,h⟩
  ·rcases h' with h'|⟨rfl,h'⟩
   ·left; exact UInt8.lt_trans h h'
   ·left; exact h
  ·rcases h' with h'|⟨rfl,h'⟩
   ·left; exact h'
   ·right; exact ⟨rfl,zd a b c h h'⟩
theorem BJ:∀ a:List UInt8,Op.bytesLess a a=false
 | []=>by simp [Op.bytesLess]
 | x::a=>by
  simp only [Op.bytesLess,BJ a,Bool.and_false,Bool.or_false,decide_eq_false_iff_not]
  exact UInt8.lt_irrefl x
theorem Fk:∀ a b:List UInt8,a≠b->Op.bytesLess a b=true ∨ Op.bytesLess b a=true
 | [],[],h=>absurd rfl h
 | [],_::_,_=>.inl (by simp [Op.bytesLess])
 | _::_,[],_=>.inr (by simp [Op.bytesLess])
 | x::a,y::b,h=>by
  simp only [Op.bytesLess,Bool.or_eq_true,decide_eq_true_eq,Bool.and_eq_true,beq_iff_eq]
  by_cases e:x=y
  ·subst e
   rcases Fk a b (fun e=>h (by rw [e])) with h1|h1
   ·exact .inl (.inr ⟨rfl,h1⟩)
   ·exact .inr (.inr ⟨rfl,h1⟩)
  ·rcases UInt8.lt_or_lt_of_ne e with h1|h1
   ·exact .inl (.inl h1)
   ·exact .inr (.inl h1)
def bls (a b:ByteArray):Bool:=Op.bytesLess a.toList b.toList
def cT (a b:Int):Int:=if a<b then -1 else if b<a then 1 else 0
def de (a b:ByteArray):Int:=if bls a b=true then -1 else if bls b a=true then 1 else 0
def rkS (t:T):Int:=if t.kind=3/\0<t.kids.length then 4 else t.kind
def gB (a b:Int):Int:=if a≠0 then a else b
/- the head of a term: all but its kids -/
def hdC (t u:T):Int:=gB (cT (rkS t) (rkS u)) (gB (cT t.n u.n) (gB (cT t.kids.length u.kids.length) (de t.name u.name)))
mutual
def dL:T->T->Int
 | .mk k n s ks,u=>gB (hdC (.mk k n s ks) u) (dI ks u.kids)
def dI:List T->List T->Int
 | [],[]=>0
 | [],_::_=>-1
 | _::_,[]=>1
 | t::ts,u::us=>gB (dL t u) (dI ts us)
end
mutual
def okO:T->Prop
 | .mk k n s ks=>(((k=1 ∨ k=2)/\s=emptyB/\ks=[]) ∨ (k=3/\n=0))/\uv ks
def uv:List T->Prop
 | []=>True
 | t::ts=>okO t/\uv ts
end
theorem sL {t:T} (h:ez t=true):((t.kind=1 ∨ t.kind=2)/\t.name=emptyB/\t.kids=[]) ∨ (t.kind=3/\t.n=0):=by
 unfold ez at h
 by_cases e1:t.kind=1
 ·rw [if_pos e1] at h
  simp only [Bool.and_eq_true,decide_eq_true_eq] at h
  exact .inl ⟨.inl e1,h.2.2.1,List.eq_nil_of_length_eq_zero h.2.2.2⟩
 ·rw [if_neg e1] at h
  by_cases e2:t.kind=2
  ·rw [if_pos e2] at h
   simp only [Bool.and_eq_true,decide_eq_true_eq] at h
   exact .inl ⟨.inr e2,h.2.2.1,List.eq_nil_of_length_eq_zero h.2.2.2⟩
  ·rw [if_neg e2] at h
   by_cases e3:t.kind=3
   ·rw [if_pos e3] at h
    simp only [Bool.and_eq_true,decide_eq_true_eq] at h
    exact .inr ⟨e3,h.1⟩
   ·rw [if_neg e3] at h
    cases h
theorem dK (a b:Int):(a<b/\cT a b=-1) ∨ (b<a/\cT a b=1) ∨ (a=b/\cT a b=0):=by
 unfold cT
 by_cases h:a<b
 ·exact .inl ⟨h,if_pos h⟩
 ·by_cases h':b<a
  ·exact .inr (.inl ⟨h',by rw [if_neg h,if_pos h']⟩)
  ·exact .inr (.inr ⟨by omega,by rw [if_neg h,if_neg h']⟩)
theorem toList_inj {a b:ByteArray} (h:a.toList=b.toList):a=b:=by
 have:=sV a b
 rw [beq_iff_eq.2 h] at this
 exact of_decide_eq_true this.symm
theorem dN (a b:ByteArray):(bls a b=true/\de a b=-1) ∨ (bls b a=true/\bls a b=false/\de a b=1) ∨ (a=b/\de a b=0):=by
 unfold de
 cases h:bls a b with
 | true=>exact .inl ⟨rfl,if_pos rfl⟩
 | false=>
  cases h':bls b a with
  | true=>exact .inr (.inl ⟨rfl,rfl,by simp⟩)
  | false=>
   refine .inr (.inr ⟨?_,by simp⟩)
   refine toList_inj (Decidable.byContradiction fun e=>?_)
   rcases Fk _ _ e with h1|h1
   ·rw [bls,h1] at h; cases h
   ·rw [bls,h1] at h'; cases h'
theorem KR {a b:ByteArray} (h:bls a b=true):bls b a=false:=by
 cases h':bls b a with
 | false=>rfl
 | true=>
  have:=zd _ _ _ h h'
  rw [BJ] at this
  cases this

/- how three comparisons fit -/
structure TC (a b c:Int):Prop where
 lt:a=-1->b=-1->c=-1
 e1:a=0->c=b
 e2:b=0->c=a
theorem TC.lex {a b c a' b' c':Int} (h:TC a b c) (h':TC a' b' c'):TC (gB a a') (gB b b') (gB c c'):=by
 obtain ⟨h1,h2,h3⟩:=h
 obtain ⟨h4,h5,h6⟩:=h'
 unfold gB
 refine ⟨fun x y=>?_,fun x=>?_,fun x=>?_⟩
 ·by_cases ea:a=0
  ·rw [if_neg (by omega)] at x
   by_cases eb:b=0
   ·rw [if_neg (by omega)] at y
    rw [if_neg (by have:=h2 ea; omega)]
    exact h4 x y
   ·rw [if_pos (by omega)] at y
    have:=h2 ea
    rw [if_pos (by omega)]; omega
  ·rw [if_pos (by omega)] at x
   by_cases eb:b=0
   ·have:=h3 eb
    rw [if_pos (by omega)]; omega
   ·rw [if_pos (by omega)] at y
    have:=h1 x y
    rw [if_pos (by omega)]; omega
 ·by_cases ea:a=0
  ·rw [if_neg (by omega)] at x
   rw [h2 ea,h5 x]
  ·rw [if_pos (by omega)] at x; omega
 ·by_cases eb:b=0
  ·rw [if_neg (by omega)] at x
   rw [h3 eb,h6 x]
  ·rw [if_pos (by omega)] at x; omega
theorem TC.zero:TC 0 0 0:=⟨fun h=>by omega,fun _=>rfl,fun _=>rfl⟩
theorem TC.int (a b c:Int):TC (cT a b) (cT b c) (cT a c):=by
 have h1:=dK a b
 have h2:=dK b c
 have h3:=dK a c
 exact ⟨fun _ _=>by omega,fun _=>by omega,fun _=>by omega⟩
theorem TC.str (a b c:ByteArray):TC (de a b) (de b c) (de a c):=by
 refine ⟨fun x y=>?_,fun x=>?_,fun x=>?_⟩
 ·rcases dN a b with h|h|h
  ·rcases dN b c with h'|h'|h'
   ·have:=zd _ _ _ h.1 h'.1
    unfold de
    rw [if_pos (show bls a c=true from this)]
   ·omega
   ·omega
  ·omega
  ·omega
 ·rcases dN a b with h|h|h
  ·omega
  ·omega
  ·rw [h.1]
 ·rcases dN b c with h|h|h
  ·omega
  ·omega
  ·rw [h.1]
theorem TC.hd (t u v:T):TC (hdC t u) (hdC u v) (hdC t v):=(TC.int _ _ _).lex ((TC.int _ _ _).lex ((TC.int _ _ _).lex (TC.str _ _ _)))
mutual
theorem TC.term:∀ t u v:T,TC (dL t u) (dL u v) (dL t v)
 | .mk k n s ks,.mk k' n' s' ks',v=>by
  rw [dL,dL,dL]
  exact (TC.hd _ _ _).lex (TC.list ks ks' v.kids)
theorem TC.list:∀ t u v:List T,TC (dI t u) (dI u v) (dI t v)
 | [],[],[]=>by simpa [dI] using TC.zero
 | [],[],_::_=>by rw [dI,dI]; exact ⟨fun h=>by omega,fun _=>rfl,fun h=>by omega⟩
 | [],_::_,[]=>by rw [dI,dI,dI]; exact ⟨fun _ h=>by omega,fun h=>by omega,fun h=>by omega⟩
 | [],_::_,_::_=>by rw [dI,dI]; exact ⟨fun h _=>h,fun h=>by omega,fun h=>rfl⟩
 | _::_,[],[]=>by rw [dI,dI]; exact ⟨fun h _=>h,fun h=>by omega,fun h=>rfl⟩
 | _::_,[],_::_=>by rw [dI,dI]; exact ⟨fun h _=>by omega,fun h=>by omega,fun h=>by omega⟩
 | _::_,_::_,[]=>by rw [dI,dI]; exact ⟨fun _ h=>by omega,fun h=>rfl,fun h=>by omega⟩
 | t::ts,u::us,v::vs=>by
  rw [dI,dI,dI]
  exact (TC.term t u v).lex (TC.list ts us vs)
end
theorem oc (a b:Int):-(gB a b)=gB (-a) (-b):=by
 unfold gB
 by_cases h:a=0
 ·subst h; simp
 ·rw [if_pos h,if_pos (by omega)]
theorem qp (a b:Int):cT b a=-cT a b:=by
 have:=dK a b
 have:=dK b a
 omega
theorem sR (a b:ByteArray):de b a=-de a b:=by
 rcases dN a b with h|h|h
 ·rw [h.2]
  have:=KR h.1
  unfold de
  rw [this,if_neg (by decide),if_pos h.1]; rfl
 ·rw [h.2.2]
  unfold de
  rw [if_pos h.1]
 ·rw [h.2]
  obtain rfl:=h.1
  rw [h.2]; rfl
theorem KE (t u:T):hdC u t=-hdC t u:=by
 rw [hdC,hdC,oc,oc,oc,qp (rkS t),qp t.n,qp t.kids.length,sR t.name]
mutual
theorem tQ:∀ t u:T,dL u t=-dL t u
 | .mk k n s ks,.mk k' n' s' ks'=>by
  rw [dL,dL,oc,KE (.mk k n s ks)]
  congr 1
  exact B5 ks ks'
theorem B5:∀ t u:List T,dI u t=-dI t u
 | [],[]=>by simp [dI]
 | [],_::_=>by simp [dI]
 | _::_,[]=>by simp [dI]
 | t::ts,u::us=>by rw [dI,dI,oc,tQ t u,B5 ts us]
end
theorem lK {a b:Int} (h:gB a b=0):a=0/\b=0:=by
 unfold gB at h
 by_cases e:a=0
 ·rw [if_neg (by omega)] at h; exact ⟨e,h⟩
 ·rw [if_pos e] at h; exact ⟨h,by omega⟩
theorem ox {a b:Int} (h:a=-1 ∨ a=0 ∨ a=1) (h':b=-1 ∨ b=0 ∨ b=1):gB a b=-1 ∨ gB a b=0 ∨ gB a b=1:=by
 unfold gB
 split
 ·exact h
 ·exact h'
theorem tR (a b:Int):cT a b=-1 ∨ cT a b=0 ∨ cT a b=1:=by have:=dK a b; omega
theorem FR (a b:ByteArray):de a b=-1 ∨ de a b=0 ∨ de a b=1:=by
 rcases dN a b with h|h|h
 ·exact .inl h.2
 ·exact .inr (.inr h.2.2)
 ·exact .inr (.inl h.2)
theorem LK (t u:T):hdC t u=-1 ∨ hdC t u=0 ∨ hdC t u=1:=ox (tR _ _) (ox (tR _ _) (ox (tR _ _) (FR _ _)))
mutual
theorem sC:∀ t u:T,dL t u=-1 ∨ dL t u=0 ∨ dL t u=1
 | .mk k n s ks,u=>by rw [dL]; exact ox (LK _ _) (Fh ks u.kids)
theorem Fh:∀ t u:List T,dI t u=-1 ∨ dI t u=0 ∨ dI t u=1
 | [],[]=>by simp [dI]
 | [],_::_=>by simp [dI]
 | _::_,[]=>by simp [dI]
 | t::ts,u::us=>by rw [dI]; exact ox (sC t u) (Fh ts us)
end
theorem xK {t:T} (h:okO t):((t.kind=1 ∨ t.kind=2)/\t.name=emptyB/\t.kids=[]) ∨ (t.kind=3/\t.n=0):=by
 cases t
 rw [okO] at h
 exact h.1
theorem kY {t:T} (h:t.kids=[]):rkS t=t.kind:=by
 rw [rkS,h]
 simp
theorem KX {t u:T} (ht:okO t) (hu:okO u) (h:hdC t u=0):t.kind=u.kind/\t.n=u.n/\t.name=u.name/\t.kids.length=u.kids.length:=by
 rw [hdC] at h
 obtain ⟨h1,h⟩:=lK h
 obtain ⟨h2,h⟩:=lK h
 obtain ⟨h3,h4⟩:=lK h
 have c1:=dK (rkS t) (rkS u)
 have c2:=dK t.n u.n
 have c3:=dK t.kids.length u.kids.length
 have e3:t.kids.length=u.kids.length:=by omega
 have e1:rkS t=rkS u:=by omega
 refine ⟨?_,by omega,?_,e3⟩
 ·rcases xK ht with ⟨_,_,hk⟩|⟨hk,_⟩
  ·have hk':u.kids=[]:=List.eq_nil_of_length_eq_zero (by rw [<- e3,hk]; rfl)
   rw [kY hk,kY hk'] at e1
   exact e1
  ·rcases xK hu with ⟨_,_,hk'⟩|⟨hk',_⟩
   ·have hk:t.kids=[]:=List.eq_nil_of_length_eq_zero (by rw [e3,hk']; rfl)
    rw [kY hk,kY hk'] at e1
    exact e1
   ·rw [hk,hk']
 ·rcases dN t.name u.name with h|h|h
  ·omega
  ·omega
  ·exact h.1
mutual
theorem CF:∀ t u:T,okO t->okO u->dL t u=0->t=u
 | .mk k n s ks,.mk k' n' s' ks',ht,hu,h=>by
  rw [dL] at h
  obtain ⟨h1,h2⟩:=lK h
  obtain ⟨e1,e2,e3,_⟩:=KX ht hu h1
  rw [okO] at ht hu
  have:=IH ks ks' ht.2 hu.2 h2
  simp only [T.kind,T.n,T.name] at e1 e2 e3
  subst e1 e2 e3 this
  rfl
theorem IH:∀ t u:List T,uv t->uv u->dI t u=0->t=u
 | [],[],_,_,_=>rfl
 | [],_::_,_,_,h=>by simp [dI] at h
 | _::_,[],_,_,h=>by simp [dI] at h
 | t::ts,u::us,ht,hu,h=>by
  rw [dI] at h
  rw [uv] at ht hu
  obtain ⟨h1,h2⟩:=lK h
  rw [CF t u ht.1 hu.1 h1,IH ts us ht.2 hu.2 h2]
end
theorem lB (t:T):dL t t=0:=by
 have:=tQ t t
 omega
theorem sJ {t u v:T} (h:dL t u<0) (h':dL u v<0):dL t v<0:=by
 have h1:=sC t u
 have h2:=sC u v
 have:=(TC.term t u v).lt (by omega) (by omega)
 omega
/- facts in order, each once -/
def eP:List T->T->List T
 | [],t=>[t]
 | x::xs,t=>if dL x t<0 then x::eP xs t else if eqT x t=true then x::xs else t::x::xs
def Sorted:List T->Prop
 | []=>True
 | x::xs=>(∀ y∈xs,dL x y<0)/\Sorted xs
theorem nu {l:List T} {t y:T} (h:y∈eP l t):y∈l ∨ y=t:=by
 induction l with
 | nil=>rw [eP] at h; exact .inr (List.mem_singleton.1 h)
 | cons x xs ih=>
  rw [eP] at h
  split at h
  ·rcases List.mem_cons.1 h with h|h
   ·exact .inl (by rw [h]; exact List.mem_cons_self ..)
   ·rcases ih h with h|h
    ·exact .inl (List.mem_cons_of_mem _ h)
    ·exact .inr h
  ·split at h
   ·exact .inl h
   ·rcases List.mem_cons.1 h with h|h
    ·exact .inr h
    ·exact .inl h
theorem FF (l:List T) (t:T):t∈eP l t/\∀ y∈l,y∈eP l t:=by
 induction l with
 | nil=>simp [eP]
 | cons x xs ih=>
  rw [eP]
  split
  ·exact ⟨List.mem_cons_of_mem _ ih.1,fun y hy=>by
    rcases List.mem_cons.1 hy with rfl|hy
    ·exact List.mem_cons_self ..
    ·exact List.mem_cons_of_mem _ (ih.2 y hy)⟩
  ·split
   ·rename_i h
    rw [iZ] at h
    subst h
    exact ⟨List.mem_cons_self ..,fun y hy=>hy⟩
   ·exact ⟨List.mem_cons_self ..,fun y hy=>List.mem_cons_of_mem _ hy⟩
theorem zN (l:List T) (t:T):(eP l t).length<=l.length+1/\l.length<=(eP l t).length:=by
 induction l with
 | nil=>simp [eP]
 | cons x xs ih=>
  rw [eP]
  split
  ·simp only [List.length_cons]; omega
  ·split
   ·simp
   ·simp
theorem oR {l:List T} {t:T} (h:Sorted l) (hl:∀ x∈l,okO x) (ht:okO t):Sorted (eP l t):=by
 induction l with
 | nil=>rw [eP]; exact ⟨fun y hy=>(by cases hy),trivial⟩
 | cons x xs ih=>
  rw [Sorted] at h
  rw [eP]
  split
  ·rename_i hc
   refine ⟨fun y hy=>?_,ih h.2 fun x hx=>hl x (List.mem_cons_of_mem _ hx)⟩
   rcases nu hy with hy|rfl
   ·exact h.1 y hy
   ·exact hc
  ·split
   ·exact h
   ·rename_i hc he
    have hx:dL t x<0:=by
     have h1:=sC x t
     have h2:=tQ x t
     have h3:dL x t≠0:=fun e=>he ((iZ _ _).2 (CF x t (hl x (List.mem_cons_self ..)) ht e))
     omega
    refine ⟨fun y hy=>?_,h⟩
    rcases List.mem_cons.1 hy with rfl|hy
    ·exact hx
    ·exact sJ hx (h.1 y hy)
theorem Sorted.nodup:∀ {l:List T},Sorted l->l.Nodup
 | [],_=>List.nodup_nil
 | x::xs,h=>by
  rw [List.nodup_cons]
  refine ⟨fun hx=>?_,Sorted.nodup h.2⟩
  have:=h.1 x hx
  rw [lB] at this
  omega

end Go.Proofs.YtemmhhdnlbmicaaGreat

/- spec.l1Compare. -/
namespace Go.Proofs.YtemmhhdnlbmicaaGreat
open Go Go.RowKit
theorem kr {a b:Int} (h:a≠0):gB a b=a:=if_pos h
theorem ix (b:Int):gB 0 b=b:=if_neg (by decide)
theorem DP (a:Int):gB a 0=a:=by
 unfold gB
 split <;> omega
theorem im (a:Int):cT a a=0:=by have:=dK a a; omega
theorem ry {a b:Int} (h:a≠b):cT a b≠0:=by have:=dK a b; omega
theorem i5 (a:ByteArray):de a a=0:=by
 have:=sR a a
 omega
theorem Hc {a b:ByteArray} (h:a≠b):de a b≠0:=by
 rcases dN a b with h1|h1|h1
 ·omega
 ·omega
 ·exact absurd h1.1 h
theorem rA (t u:T):dL t u=gB (hdC t u) (dI t.kids u.kids):=by cases t; rw [dL]; rfl
theorem MO {t u:T} (h:rkS t≠rkS u):dL t u=cT (rkS t) (rkS u):=by
 rw [rA,hdC,kr (ry h),kr (ry h)]
theorem DO {t:T} (h:okO t):(t.kind=1/\rkS t=1/\t.name=emptyB/\t.kids=[]) ∨ (t.kind=2/\rkS t=2/\t.name=emptyB/\t.kids=[]) ∨ (t.kind=3/\t.n=0/\(rkS t=3 ∨ rkS t=4)):=by
 rcases xK h with ⟨hk,hs,hks⟩|⟨hk,hn⟩
 ·have:=kY hks
  rcases hk with hk|hk
  ·exact .inl ⟨hk,by omega,hs,hks⟩
  ·exact .inr (.inl ⟨hk,by omega,hs,hks⟩)
 ·refine .inr (.inr ⟨hk,hn,?_⟩)
  rw [rkS]
  split
  ·exact .inr rfl
  ·exact .inl hk
theorem MV {t u:T} (ht:okO t) (hu:okO u) (h:rkS t=rkS u) (hk:t.kind≠3):dL t u=cT t.n u.n:=by
 have h1:=DO ht
 have h2:=DO hu
 have h3:t.name=emptyB/\t.kids=[]/\u.name=emptyB/\u.kids=[]:=by
  rcases h1 with h1|h1|h1
  ·rcases h2 with h2|h2|h2
   ·exact ⟨h1.2.2.1,h1.2.2.2,h2.2.2.1,h2.2.2.2⟩
   ·omega
   ·omega
  ·rcases h2 with h2|h2|h2
   ·omega
   ·exact ⟨h1.2.2.1,h1.2.2.2,h2.2.2.1,h2.2.2.2⟩
   ·omega
  ·exact absurd h1.1 hk
 rw [rA,hdC,h,im,ix,h3.1,h3.2.1,h3.2.2.1,h3.2.2.2,im,i5,ix,DP,dI,DP]
theorem KZ {t u:T} (ht:okO t) (hu:okO u) (h:rkS t=rkS u) (hk:t.kind=3):dL t u=gB (gB (cT t.kids.length u.kids.length) (de t.name u.name)) (dI t.kids u.kids):=by
 have h1:=DO ht
 have h2:=DO hu
 have h3:t.n=u.n:=by
  rcases h1 with h1|h1|h1
  ·omega
  ·omega
  ·rcases h2 with h2|h2|h2 <;> omega
 rw [rA,hdC,h,im,ix,h3,im,ix]
theorem LU {t u:T} (ht:okO t) (hu:okO u) (h:rkS t=rkS u) (hk:t.kind=3) (hl:(t.kids.length:Int)≠u.kids.length):dL t u=cT t.kids.length u.kids.length:=by
 rw [KZ ht hu h hk,kr (ry hl),kr (ry hl)]
theorem Ky {t u:T} (ht:okO t) (hu:okO u) (h:rkS t=rkS u) (hk:t.kind=3) (hl:(t.kids.length:Int)=u.kids.length) (hn:t.name≠u.name):dL t u=de t.name u.name:=by
 rw [KZ ht hu h hk,hl,im,ix,kr (Hc hn)]
theorem Ku {t u:T} (ht:okO t) (hu:okO u) (h:rkS t=rkS u) (hk:t.kind=3) (hl:(t.kids.length:Int)=u.kids.length) (hn:t.name=u.name):dL t u=dI t.kids u.kids:=by
 rw [KZ ht hu h hk,hl,im,ix,hn,i5,ix]
theorem BM (ts us:List T) (j:Nat) (h:j<ts.length) (h':j<us.length):dI (ts.drop j) (us.drop j)=gB (dL ts[j] us[j]) (dI (ts.drop (j+1)) (us.drop (j+1))):=by
 rw [List.drop_eq_getElem_cons h,List.drop_eq_getElem_cons h',dI]
theorem nl:∀ {ts:List T},uv ts->∀ t∈ts,okO t
 | _::_,h,t,ht=>by
  rcases List.mem_cons.1 ht with rfl|ht
  ·exact h.1
  ·exact nl h.2 t ht
section
variable {P:Program} {w:World} {K:Value->World->Prop}
attribute [local irreducible] Run
theorem KL {T:TypeId} {cx cy:Bool} {a b:ByteArray} (hk:K (.bool (bls a b)) w):Run P (ar .lss T cx cy (.string a) (.string b)) w K:=by
 refine Run.of ?_ hk
 simp only [ar,binOp,Op.stringOp,Sem.run_bind,iy,Result.andThen_ok,Sem.run_pure,bls]
theorem KG {T:TypeId} {cx cy:Bool} {a b:ByteArray} (hk:K (.bool (!(bls a b || decide (a=b)))) w):Run P (ar .gtr T cx cy (.string a) (.string b)) w K:=by
 refine Run.of ?_ hk
 rw [<- sV]
 simp only [ar,binOp,Op.stringOp,Sem.run_bind,iy,Result.andThen_ok,Sem.run_pure,bls]
end
section
attribute [local irreducible] Run CondV ah be
theorem md (a b:Int) (S:aF):Pure Tryz.prog GM [.int .i64 a,.int .i64 b] S (.int .i64 (cT a b)):=by
 intro w hI
 refine zo ?_
 unfold vk
 refine bW ?_
 refine bl (fun h=>done hI (by rw [cT,if_pos h])) (fun h=>?_)
 refine eh ?_
 exact bl (fun h'=>done hI (by rw [cT,if_neg h,if_pos h'])) (fun h'=>done hI (by rw [cT,if_neg h,if_neg h']))
theorem yB (a b:ByteArray) (S:aF):Pure Tryz.prog DZ [.string a,.string b] S (.int .i64 (de a b)):=by
 intro w hI
 refine un ?_
 unfold p5
 refine KL ?_
 refine ba (fun h=>done hI (by rw [de,if_pos h])) (fun h=>?_)
 refine KG ?_
 rw [h,Bool.false_or]
 refine ba (fun h'=>done hI ?_) (fun h'=>done hI ?_)
 ·rw [Bool.not_eq_true',decide_eq_false_iff_not] at h'
  rcases dN a b with h1|h1|h1
  ·rw [h1.1] at h; cases h
  ·rw [h1.2.2]
  ·exact absurd h1.1 h'
 ·rw [Bool.not_eq_false',decide_eq_true_eq] at h'
  rw [h',i5]
theorem i8 {t:T} {S:aF} {cs:List Value} (h:RdT S cs t):Pure Tryz.prog Gy [.agg cs.toArray] S (.int .i64 (rkS t)):=by
 intro w hI
 obtain ⟨kv,rfl,_,_,_,hks⟩:=RdT.iff.1 h
 refine yh ?_
 unfold vw
 refine bQ hI fun b1 w' hI=>?_
 refine ⟨fun v w'=>v=.bool (decide (t.kind=3) && decide (0<t.kids.length))/\Inv w [] [.blk b1 (.cells #[.int .i64 t.kind,.int .i64 t.n,.string t.name,kv] ab)] S w',?_,?_⟩
 ·refine aI hI 0 rfl bD bo rfl ?_
  refine bR ?_
  by_cases h3:t.kind=3
  ·rw [decide_eq_true h3]
   repeat (first|refine ad ?_|refine af (by decide) ?_|refine ac ?_|refine al ?_|refine aj ?_)
   refine aI hI 0 rfl aT aR rfl ?_
   refine a9 hks ay ?_
   refine eh ?_
   repeat (first|refine ad ?_|refine af (by decide) ?_|refine ac ?_|refine al ?_|refine aj ?_)
   refine ⟨?_,hI⟩
   rw [Bool.true_and]
   congr 1
   rw [Bool.eq_iff_iff]
   simp only [decide_eq_true_eq]
   omega
  ·rw [decide_eq_false h3]
   repeat (first|refine ad ?_|refine af (by decide) ?_|refine ac ?_|refine al ?_|refine aj ?_)
   exact ⟨rfl,hI⟩
 intro v _ _ _ _ _ _ _ _ w'
 rintro ⟨rfl,hI⟩
 refine ba (fun hb=>done hI ?_) (fun hb=>?_)
 ·simp only [Bool.and_eq_true,decide_eq_true_eq] at hb
  rw [rkS,if_pos hb]
 ·refine aI hI 0 rfl bD bo rfl ?_
  refine done hI ?_
  have:¬ (t.kind=3/\0<t.kids.length):=by
   intro h
   rw [decide_eq_true h.1,decide_eq_true h.2] at hb
   cases hb
  rw [rkS,if_neg this]; rfl
theorem xe:∀ (t u:T) (S:aF) (cs ds:List Value),RdT S cs t->RdT S ds u->okO t->okO u->Pure Tryz.prog AJ [.agg cs.toArray,.agg ds.toArray] S (.int .i64 (dL t u)):=by
 refine T.ind fun k n s ks ih u S cs ds h h' ht hu=>?_
 intro w hI
 have hcs:=h
 have hds:=h'
 obtain ⟨kv,rfl,_,_,_,hks⟩:=RdT.iff.1 h
 obtain ⟨kv',rfl,_,_,_,hks'⟩:=RdT.iff.1 h'
 obtain ⟨k',n',s',ks'⟩:=u
 simp only [T.name,T.kids,T.kind,T.n] at hks hks' ⊢
 have hlen:=hks.le
 simp only [maxLen] at hlen
 refine tn ?_
 unfold oN
 refine bQ hI fun b1 w' hI=>?_
 refine bQ hI fun b2 w' hI=>?_
 have hI:Inv w [] [.blk b1 (.cells #[.int .i64 k,.int .i64 n,.string s,kv] ab),.blk b2 (.cells #[.int .i64 k',.int .i64 n',.string s',kv'] ab)] S w':=hI
 refine ⟨fun D fo f1 x9 x8 x7 w_=>(D 0=true->x7=.agg #[.int .i64 k,.int .i64 n,.string s,kv])/\(D 1=true->x8=.int .i64 (rkS (.mk k n s ks)))/\(D 2=true->x9=.agg #[.int .i64 k',.int .i64 n',.string s',kv'])/\(D 3=true->f1=.int .i64 (rkS (.mk k' n' s' ks')))/\(D 4=true->fo=.bool (!decide (rkS (.mk k n s ks)=rkS (.mk k' n' s' ks'))))/\Inv w [] [.blk b1 (.cells #[.int .i64 k,.int .i64 n,.string s,kv] ab),.blk b2 (.cells #[.int .i64 k',.int .i64 n',.string s',kv'] ab)] S w_,⟨ae,ae,ae,ae,ae,hI.draw⟩,⟨?_,?_,?_,?_,?_,trivial⟩,?_⟩
 ·intro D aY  fo f1 x9 x8 x7 w_
  rintro ⟨aA,aB,aC,az,av,hI⟩
  refine bb hI 0 ao rfl rfl ?_
  exact ⟨fun _=>rfl,aB,aC,az,av,hI⟩
 ·intro D aY b0 fo f1 x9 x8 x7 w_
  rintro ⟨aA,aB,aC,az,av,hI⟩
  obtain rfl:=aA b0
  refine Run.callPure kA j9 hI (i8 hcs) fun w_ hI=>?_
  exact ⟨aA,fun _=>rfl,aC,az,av,hI⟩
 ·intro D aY  fo f1 x9 x8 x7 w_
  rintro ⟨aA,aB,aC,az,av,hI⟩
  refine bb hI 1 ao rfl rfl ?_
  exact ⟨aA,aB,fun _=>rfl,az,av,hI⟩
 ·intro D aY ec il fo f1 x9 x8 x7 w_
  rintro ⟨aA,aB,aC,az,av,hI⟩
  obtain rfl:=aC ec
  refine Run.callPure kA j9 hI (i8 hds) fun w_ hI=>?_
  exact ⟨aA,aB,aC,fun _=>rfl,av,hI⟩
 ·intro D aY dE mi fo f1 x9 x8 x7 w_
  rintro ⟨aA,aB,aC,az,av,hI⟩
  obtain rfl:=aB dE
  obtain rfl:=az mi
  refine gh ?_
  exact ⟨aA,aB,aC,az,fun _=>rfl,hI⟩
 intro D fC fB fE fM fJ fo f1 x9 x8 x7 w_
 rintro ⟨aA,aB,aC,az,av,hI⟩
 obtain rfl:=av fC
 obtain rfl:=az fB
 obtain rfl:=aC fE
 obtain rfl:=aB fM
 obtain rfl:=aA fJ
 clear aA aB aC az av
 refine ba (fun hb=>?_) (fun hb=>?_)
 ·simp only [Bool.not_eq_true',decide_eq_false_iff_not] at hb
  rw [MO hb]
  refine ⟨fun D x4 dF eH fp eV eT w_=>(D 0=true->eT=.agg #[.int .i64 k,.int .i64 n,.string s,kv])/\(D 1=true->eV=.int .i64 (rkS (.mk k n s ks)))/\(D 2=true->fp=.agg #[.int .i64 k',.int .i64 n',.string s',kv'])/\(D 3=true->eH=.int .i64 (rkS (.mk k' n' s' ks')))/\(D 4=true->dF=.int .i64 (cT (rkS (.mk k n s ks)) (rkS (.mk k' n' s' ks'))))/\(D 5=true->x4=.int .i64 (cT (rkS (.mk k n s ks)) (rkS (.mk k' n' s' ks'))))/\Inv w [] [.blk b1 (.cells #[.int .i64 k,.int .i64 n,.string s,kv] ab),.blk b2 (.cells #[.int .i64 k',.int .i64 n',.string s',kv'] ab)] S w_,⟨ae,ae,ae,ae,ae,ae,hI.draw⟩,⟨?_,?_,?_,?_,?_,?_,trivial⟩,?_⟩
  ·intro D aY  x4 dF eH fp eV eT w_
   rintro ⟨aA,aB,aC,az,av,aE,hI⟩
   refine bb hI 0 ao rfl rfl ?_
   exact ⟨fun _=>rfl,aB,aC,az,av,aE,hI⟩
  ·intro D aY b0 x4 dF eH fp eV eT w_
   rintro ⟨aA,aB,aC,az,av,aE,hI⟩
   obtain rfl:=aA b0
   refine Run.callPure kA j9 hI (i8 hcs) fun w_ hI=>?_
   exact ⟨aA,fun _=>rfl,aC,az,av,aE,hI⟩
  ·intro D aY  x4 dF eH fp eV eT w_
   rintro ⟨aA,aB,aC,az,av,aE,hI⟩
   refine bb hI 1 ao rfl rfl ?_
   exact ⟨aA,aB,fun _=>rfl,az,av,aE,hI⟩
  ·intro D aY ec il x4 dF eH fp eV eT w_
   rintro ⟨aA,aB,aC,az,av,aE,hI⟩
   obtain rfl:=aC ec
   refine Run.callPure kA j9 hI (i8 hds) fun w_ hI=>?_
   exact ⟨aA,aB,aC,fun _=>rfl,av,aE,hI⟩
  ·intro D aY dE mi KO x4 dF eH fp eV eT w_
   rintro ⟨aA,aB,aC,az,av,aE,hI⟩
   obtain rfl:=aB dE
   obtain rfl:=az mi
   refine Run.callPure oS nV hI (md _ _ S) fun w_ hI=>?_
   exact ⟨aA,aB,aC,az,fun _=>rfl,aE,hI⟩
  ·intro D aY cF dM nY tb s0 qY s5 x4 dF eH fp eV eT w_
   rintro ⟨aA,aB,aC,az,av,aE,hI⟩
   obtain rfl:=av cF
   exact ⟨aA,aB,aC,az,av,fun _=>rfl,hI⟩
  intro D fH fC fB fE fM fJ x4 dF eH fp eV eT w_
  rintro ⟨aA,aB,aC,az,av,aE,hI⟩
  obtain rfl:=aE fH
  obtain rfl:=av fC
  obtain rfl:=az fB
  obtain rfl:=aC fE
  obtain rfl:=aB fM
  obtain rfl:=aA fJ
  clear aA aB aC az av aE
  exact done hI rfl
 have hrk:rkS (.mk k n s ks)=rkS (.mk k' n' s' ks'):=by simpa using hb
 refine aI hI 0 rfl bD bo rfl ?_
 refine gh ?_
 refine ba (fun hb=>?_) (fun hb=>?_)
 ·have hk:k≠3:=by simpa using hb
  rw [MV ht hu hrk hk]
  refine aI hI 0 rfl bF bo rfl ?_
  refine aI hI 1 rfl bF bo rfl ?_
  refine Run.callPure oS nV hI (md _ _ S) fun w' hI=>?_
  exact done hI rfl
 have hk:k=3:=by simpa using hb
 refine aI hI 0 rfl aT aR rfl ?_
 refine a9 hks ay ?_
 refine aI hI 1 rfl aT aR rfl ?_
 refine a9 hks' ay ?_
 refine gh ?_
 refine ba (fun hb=>?_) (fun hb=>?_)
 ·have hl:(ks.length:Int)≠ks'.length:=by simpa using hb
  rw [LU ht hu hrk hk hl]
  refine aI hI 0 rfl aT aR rfl ?_
  refine a9 hks ay ?_
  refine aI hI 1 rfl aT aR rfl ?_
  refine a9 hks' ay ?_
  refine Run.callPure oS nV hI (md _ _ S) fun w' hI=>?_
  exact done hI rfl
 have hl:(ks.length:Int)=ks'.length:=by simpa using hb
 refine aI hI 0 rfl bp bm rfl ?_
 refine aI hI 1 rfl bp bm rfl ?_
 refine uf ?_
 refine ba (fun hb=>?_) (fun hb=>?_)
 ·have hn:s≠s':=by simpa using hb
  rw [Ky ht hu hrk hk hl hn]
  refine aI hI 0 rfl bp bm rfl ?_
  refine aI hI 1 rfl bp bm rfl ?_
  refine Run.callPure AZ Bb hI (yB _ _ S) fun w' hI=>?_
  exact done hI rfl
 have hn:s=s':=by simpa using hb
 have hck:dL (.mk k n s ks) (.mk k' n' s' ks')=dI ks ks':=Ku ht hu hrk hk hl hn
 rw [hck]
 rw [okO] at ht hu
 have htk:=ht.2
 have huk:=hu.2
 refine ⟨fun i w'=>∃ j:Nat,j<=ks.length/\i=.int .i64 j/\dI (ks.drop j) (ks'.drop j)=dI ks ks'/\Inv w [] [.blk b1 (.cells #[.int .i64 k,.int .i64 n,.string s,kv] ab),.blk b2 (.cells #[.int .i64 k',.int .i64 n',.string s',kv'] ab)] S w',
  fun i _=>ks.length - (intOf i).toNat,⟨0,Nat.zero_le _,rfl,rfl,hI⟩,?_⟩
 intro t5 _ _ _ _ _ _ _ _ _ _ _ _ _ _ _ _ _ _ _ _ _ _ _ w'
 rintro ⟨j,hj,rfl,hrel,hI⟩
 refine aI hI 0 rfl aT aR rfl ?_
 refine a9 hks ay ?_
 refine bW ?_
 refine bl (fun hji=>?_) (fun hji=>?_)
 ·have hj1:j<ks.length:=by omega
  have hj2:j<ks'.length:=by omega
  rw [BM ks ks' j hj1 hj2] at hrel
  obtain ⟨c1,o1,cap1,cc1,E1,fz1,rfl,hS1,hR1⟩:=hks.at_ hj1
  obtain ⟨c2,o2,cap2,cc2,E2,fz2,rfl,hS2,hR2⟩:=hks'.at_ hj2
  have hcall:=ih _ (List.getElem_mem hj1) ks'[j] S _ _ hR1 hR2 (nl htk _ (List.getElem_mem hj1)) (nl huk _ (List.getElem_mem hj2))
  refine ⟨fun D x6 eJ cE cV cH c4 c5 c8 cY db c9 cZ w_=>(D 0=true->cZ=.pointer (some ⟨b1,3,none⟩))/\(D 1=true->c9=.slice (some ⟨c1,o1,none⟩) ks.length cap1)/\(D 2=true->db=.int .i64 j)/\(D 3=true->cY=.pointer (some ⟨c1,o1+j * 4,none⟩))/\(D 4=true->c8=.agg (bw cc1 (o1+j * 4) 4).toArray)/\(D 5=true->c5=.pointer (some ⟨b2,3,none⟩))/\(D 6=true->c4=.slice (some ⟨c2,o2,none⟩) ks'.length cap2)/\(D 7=true->cH=.int .i64 j)/\(D 8=true->cV=.pointer (some ⟨c2,o2+j * 4,none⟩))/\(D 9=true->cE=.agg (bw cc2 (o2+j * 4) 4).toArray)/\(D 10=true->eJ=.int .i64 (dL ks[j] ks'[j]))/\(D 11=true->x6=.int .i64 (dL ks[j] ks'[j]))/\Inv w [] [.blk b1 (.cells #[.int .i64 k,.int .i64 n,.string s,.slice (some ⟨c1,o1,none⟩) ks.length cap1] ab),.blk b2 (.cells #[.int .i64 k',.int .i64 n',.string s',.slice (some ⟨c2,o2,none⟩) ks'.length cap2] ab)] S w_,⟨ae,ae,ae,ae,ae,ae,ae,ae,ae,ae,ae,ae,hI.draw⟩,⟨?_,?_,?_,?_,?_,?_,?_,?_,?_,?_,?_,?_,trivial⟩,?_⟩
  ·intro D aY  x6 eJ cE cV cH c4 c5 c8 cY db c9 cZ w_
   rintro ⟨aA,aB,aC,az,av,aE,aD,aH,aK,aP,ag,ai,hI⟩
   refine bi aT ?_
   exact ⟨fun _=>rfl,aB,aC,az,av,aE,aD,aH,aK,aP,ag,ai,hI⟩
  ·intro D aY b0 x6 eJ cE cV cH c4 c5 c8 cY db c9 cZ w_
   rintro ⟨aA,aB,aC,az,av,aE,aD,aH,aK,aP,ag,ai,hI⟩
   obtain rfl:=aA b0
   refine bG hI 0 aR rfl rfl ?_
   exact ⟨aA,fun _=>rfl,aC,az,av,aE,aD,aH,aK,aP,ag,ai,hI⟩
  ·intro D aY  x6 eJ cE cV cH c4 c5 c8 cY db c9 cZ w_
   rintro ⟨aA,aB,aC,az,av,aE,aD,aH,aK,aP,ag,ai,hI⟩
   exact ⟨aA,aB,fun _=>rfl,az,av,aE,aD,aH,aK,aP,ag,ai,hI⟩
  ·intro D aY dE gK x6 eJ cE cV cH c4 c5 c8 cY db c9 cZ w_
   rintro ⟨aA,aB,aC,az,av,aE,aD,aH,aK,aP,ag,ai,hI⟩
   obtain rfl:=aB dE
   obtain rfl:=aC gK
   refine bk ay hj1 ?_
   exact ⟨aA,aB,aC,fun _=>rfl,av,aE,aD,aH,aK,aP,ag,ai,hI⟩
  ·intro D aY dB x6 eJ cE cV cH c4 c5 c8 cY db c9 cZ w_
   rintro ⟨aA,aB,aC,az,av,aE,aD,aH,aK,aP,ag,ai,hI⟩
   obtain rfl:=az dB
   refine cU ao hR1.length (fun j v hj=>by rw [hI.cellS hS1]; exact bn rfl j v hj) ?_
   exact ⟨aA,aB,aC,az,fun _=>rfl,aE,aD,aH,aK,aP,ag,ai,hI⟩
  ·intro D aY  x6 eJ cE cV cH c4 c5 c8 cY db c9 cZ w_
   rintro ⟨aA,aB,aC,az,av,aE,aD,aH,aK,aP,ag,ai,hI⟩
   refine bi aT ?_
   exact ⟨aA,aB,aC,az,av,fun _=>rfl,aD,aH,aK,aP,ag,ai,hI⟩
  ·intro D aY dT x6 eJ cE cV cH c4 c5 c8 cY db c9 cZ w_
   rintro ⟨aA,aB,aC,az,av,aE,aD,aH,aK,aP,ag,ai,hI⟩
   obtain rfl:=aE dT
   refine bG hI 1 aR rfl rfl ?_
   exact ⟨aA,aB,aC,az,av,aE,fun _=>rfl,aH,aK,aP,ag,ai,hI⟩
  ·intro D aY  x6 eJ cE cV cH c4 c5 c8 cY db c9 cZ w_
   rintro ⟨aA,aB,aC,az,av,aE,aD,aH,aK,aP,ag,ai,hI⟩
   exact ⟨aA,aB,aC,az,av,aE,aD,fun _=>rfl,aK,aP,ag,ai,hI⟩
  ·intro D aY cJ i7 x6 eJ cE cV cH c4 c5 c8 cY db c9 cZ w_
   rintro ⟨aA,aB,aC,az,av,aE,aD,aH,aK,aP,ag,ai,hI⟩
   obtain rfl:=aD cJ
   obtain rfl:=aH i7
   refine bk ay hj2 ?_
   exact ⟨aA,aB,aC,az,av,aE,aD,aH,fun _=>rfl,aP,ag,ai,hI⟩
  ·intro D aY hY x6 eJ cE cV cH c4 c5 c8 cY db c9 cZ w_
   rintro ⟨aA,aB,aC,az,av,aE,aD,aH,aK,aP,ag,ai,hI⟩
   obtain rfl:=aK hY
   refine cU ao hR2.length (fun j v hj=>by rw [hI.cellS hS2]; exact bn rfl j v hj) ?_
   exact ⟨aA,aB,aC,az,av,aE,aD,aH,aK,fun _=>rfl,ag,ai,hI⟩
  ·intro D aY cF fl x6 eJ cE cV cH c4 c5 c8 cY db c9 cZ w_
   rintro ⟨aA,aB,aC,az,av,aE,aD,aH,aK,aP,ag,ai,hI⟩
   obtain rfl:=av cF
   obtain rfl:=aP fl
   refine Run.callPure nS oC hI hcall fun w_ hI=>?_
   exact ⟨aA,aB,aC,az,av,aE,aD,aH,aK,aP,fun _=>rfl,ai,hI⟩
  ·intro D aY gv lz nY tb s0 qY s5 xu wt Ei BD Bz uE x6 eJ cE cV cH c4 c5 c8 cY db c9 cZ w_
   rintro ⟨aA,aB,aC,az,av,aE,aD,aH,aK,aP,ag,ai,hI⟩
   obtain rfl:=ag gv
   exact ⟨aA,aB,aC,az,av,aE,aD,aH,aK,aP,ag,fun _=>rfl,hI⟩
  intro D fk fw iK gI fK fL fH fC fB fE fM fJ x6 eJ cE cV cH c4 c5 c8 cY db c9 cZ w_
  rintro ⟨aA,aB,aC,az,av,aE,aD,aH,aK,aP,ag,ai,hI⟩
  obtain rfl:=ai fk
  obtain rfl:=ag fw
  obtain rfl:=aP iK
  obtain rfl:=aK gI
  obtain rfl:=aH fK
  obtain rfl:=aD fL
  obtain rfl:=aE fH
  obtain rfl:=av fC
  obtain rfl:=az fB
  obtain rfl:=aC fE
  obtain rfl:=aB fM
  obtain rfl:=aA fJ
  clear aA aB aC az av aE aD aH aK aP ag ai
  refine gh ?_
  refine ba (fun hb=>done hI ?_) (fun hb=>?_)
  ·have hne:dL ks[j] ks'[j]≠0:=by simpa using hb
   rw [<- hrel,kr hne]
  ·have he:dL ks[j] ks'[j]=0:=by simpa using hb
   rw [he,ix] at hrel
   refine bN (by omega) ?_
   exact ⟨⟨j+1,hj1,rfl,hrel,hI⟩,by simp [intOf]; omega⟩
 ·have e1:ks.drop j=[]:=List.drop_eq_nil_of_le (by omega)
  have e2:ks'.drop j=[]:=List.drop_eq_nil_of_le (by omega)
  refine done hI ?_
  rw [<- hrel,e1,e2,dI]
end

end Go.Proofs.YtemmhhdnlbmicaaGreat

/- slices.Delete on a tree of the function's own. -/
namespace Go.Proofs.YtemmhhdnlbmicaaGreat
open Go Go.RowKit
section
variable {P:Program} {w w0:World} {X:List Nat} {L:List Item} {S:aF} {K:Value->World->Prop}
attribute [local irreducible] Run CondV ah be
/- append within the room of a block -/
end
end Go.Proofs.YtemmhhdnlbmicaaGreat

/- slices.Clone and slices.DeleteFunc of terms. -/
namespace Go.Proofs.YtemmhhdnlbmicaaGreat
open Go Go.RowKit

section
variable {P:Program} {w w0:World} {X:List Nat} {L:List Item} {S:aF} {K:Value->World->Prop}
attribute [local irreducible] Run CondV ah be
theorem LZ {T e:TypeId} {k n c:Nat} {cx cy:Bool} {a:Option Addr} (hT:dy P T=some (e,k)) (hk:K (.bool a.isNone) w):Run P (ar .eql T cx cy (.slice a n c) (.slice none 0 0)) w K:=by
 obtain ⟨hu,_⟩:=gr hT
 refine Run.of (v:=.bool a.isNone) (w':=w) ?_ hk
 have he:(Op.equal T (.slice a n c) (.slice none 0 0)).run P w=.ok a.isNone w:=by
  rw [Op.equal,Op.maxDepth,Op.equalIn.eq_def]
  cases a <;> simp [run_underlying hu]
 have hg:∀ x y,(eqGuard .eql T x y (.slice a n c) (.slice none 0 0)).run P w=.ok () w:=fun x y=>by unfold eqGuard; simp
 simp only [ar,binOp,Sem.run_bind,hg,Result.andThen_ok,he,Sem.run_pure]
theorem Run.callVPure {f:FuncId} {fn:Func} {cap args:List Value} {r:Value} (hf:P.funcs[f]?=some fn) (hn:(fn.name == "runtime.NumGoroutine" || fn.body.isNone)=false) (h:Inv w0 X L S w) (hc:Pure P f (args++cap) S r)
  (hk:∀ w',Inv w0 X L S w'->K r w'):Run P (aJ (fv f cap) args) w K:=by
 refine Run.callV (A:=L) (I:=[]) hf hn (by simpa using h) (Post:=fun v I' S'=>v=r/\I'=[]/\S'=S) ?_ fun v' I' S' w'=>?_
 ·intro w1 hI
  exact (hc w1 hI).mono fun e w' ⟨he,hI⟩=>⟨_,_,_,he,hI,Ext.refl _ _ _,rfl,rfl,rfl⟩
 ·rintro ⟨rfl,rfl,rfl⟩ _ hI
  exact hk _ (by simpa using hI)
end
section
attribute [local irreducible] Run CondV ah be
theorem uT {xs:List T} {S:aF} {v:Value} (h:RdSl S 4 (RdT S) v xs) (hl:xs.length<=4000000000):Tri Tryz.prog yT [v] [] S fun r I' S'=>S'=S/\∃ css,I'=[bh r ab 4 css]/\Rows 4 (RdT S) css xs:=by
 intro w hI
 obtain ⟨a,cap,rfl,hlc,hcm,hx⟩:=id h
 refine qf ?_
 unfold mL
 refine LZ ay ?_
 cases a with
 | none=>
  refine ba (fun _=>?_) (fun hb=>by cases hb)
  rcases hx with rfl|⟨b,o,c,E,fz,hc,_⟩
  ·exact ⟨_,_,_,rfl,hI.rowNil ab 4,Ext.refl _ _ _,rfl,[],rfl,Rows.nil _ _⟩
  ·cases hc
 | some a=>
  refine ba (fun hb=>by cases hb) (fun _=>?_)
  refine eO hI bK fun v0 w' hI=>?_
  refine gL (css:=[]) hI 0 bK (by omega) rfl h (fun _ _=>RdT.length) (fun _ _=>RdT.one) (by simp; omega) (by omega) fun v1 w' css2 hR hI=>?_
  exact ⟨_,_,_,rfl,hI,Ext.refl _ _ _,rfl,css2,rfl,hR⟩
end

end Go.Proofs.YtemmhhdnlbmicaaGreat

/- impl.compare: the standard order. -/
namespace Go.Proofs.YtemmhhdnlbmicaaGreat
open Go Go.RowKit
def rkI (t:T):Int:=if t.kind=1 then 0 else if t.kind=2 then 1 else if t.kids.length=0 then 2 else 3
theorem Kv {t:T} (h:okO t):rkI t=rkS t - 1:=by
 rcases xK h with ⟨hk,_,hks⟩|⟨hk,_⟩
 ·rw [kY hks]
  rcases hk with hk|hk
  ·rw [rkI,if_pos hk]; omega
  ·rw [rkI,if_neg (by omega),if_pos hk]; omega
 ·rw [rkI,if_neg (by omega),if_neg (by omega),rkS]
  by_cases h0:t.kids.length=0
  ·rw [if_pos h0,if_neg (by omega)]; omega
  ·rw [if_neg h0,if_pos ⟨hk,by omega⟩]; rfl
def orL:List Int->Int
 | []=>0
 | x::xs=>gB x (orL xs)
theorem HY (a b c:Int):gB (gB a b) c=gB a (gB b c):=by
 unfold gB
 by_cases h:a=0
 ·subst h; simp
 ·simp [h]
theorem Mn {t u:T} (ht:okO t) (hu:okO u):orL [cT (rkI t) (rkI u),cT t.n u.n,cT t.kids.length u.kids.length,de t.name u.name,dI t.kids u.kids]=dL t u:=by
 have e:cT (rkI t) (rkI u)=cT (rkS t) (rkS u):=by
  rw [Kv ht,Kv hu]
  have h1:=dK (rkS t - 1) (rkS u - 1)
  have h2:=dK (rkS t) (rkS u)
  omega
 rw [e,rA,hdC]
 simp only [orL,DP,HY]
section
variable {P:Program} {w w0:World} {X:List Nat} {L:List Item} {S:aF} {K:Value->World->Prop}
attribute [local irreducible] Run CondV ah be
theorem K5 (h:Inv w0 X L S w) {a b c d e:Int}
  (hk:∀ b5 w',Inv w0 X (L++[.blk b5 (.cells #[.int .i64 a,.int .i64 b,.int .i64 c,.int .i64 d,.int .i64 e] fu)]) S w'->K (.slice (some ⟨b5,0,none⟩) 5 5) w') :
  Run Tryz.prog (aS qE 5 [(0,.int .i64 a),(1,.int .i64 b),(2,.int .i64 c),(3,.int .i64 d),(4,.int .i64 e)]) w K:=by
 obtain ⟨hu,i,hi,hz,hs,hb,hzs⟩:=ig o0
 refine Run.of (v:=.slice (some ⟨w.heap.size,0,none⟩) 5 5) (w':={ w with heap:=w.heap.push (.cells #[.int .i64 a,.int .i64 b,.int .i64 c,.int .i64 d,.int .i64 e] fu) }) ?_ (hk _ _ (h.alloc _))
 have hbase:(Array.range 5).map ((Value.int .i64 0).cells[· % (Value.int .i64 0).cells.size]!)=#[.int .i64 0,.int .i64 0,.int .i64 0,.int .i64 0,.int .i64 0]:=by kernel_rfl
 have hf:Instr.fill (fun i=>some (i,1)) ((Array.range 5).map ((Value.int .i64 0).cells[· % (Value.int .i64 0).cells.size]!)) [(0,.int .i64 a),(1,.int .i64 b),(2,.int .i64 c),(3,.int .i64 d),(4,.int .i64 e)]=some #[.int .i64 a,.int .i64 b,.int .i64 c,.int .i64 d,.int .i64 e]:=by
  rw [hbase]; rfl
 simp [aS,Instr.buildSlice,run_underlying hu,sizeOf,typeInfo,hi,hs,zeroValue,hz,hf,newRow,newObj,Sem.run]
end
section
attribute [local irreducible] Run CondV ah be
theorem mB (a:Int) (S:aF):Pure Tryz.prog Bp [.int .i64 a] S (.bool false):=by
 intro w hI
 refine tc ?_
 unfold nN
 refine gh (done hI ?_)
 simp
theorem jM (a:ByteArray) (S:aF):Pure Tryz.prog tN [.string a] S (.bool false):=by
 intro w hI
 refine oX ?_
 unfold ky
 refine uf (done hI ?_)
 simp
theorem gY (a b:Int) (S:aF):Pure Tryz.prog wS [.int .i64 a,.int .i64 b] S (.int .i64 (cT a b)):=by
 intro w hI
 refine ph ?_
 unfold lT
 refine Run.callPure nC no hI (mB a S) fun w' hI=>?_
 refine Run.callPure nC no hI (mB b S) fun w' hI=>?_
 refine ba (fun hb=>by cases hb) (fun _=>?_)
 refine ba (fun hb=>by cases hb) (fun _=>?_)
 refine bW ?_
 refine bl (fun h=>done hI (by rw [cT,if_pos h])) (fun h=>?_)
 refine eh ?_
 exact bl (fun h'=>done hI (by rw [cT,if_neg h,if_pos h'])) (fun h'=>done hI (by rw [cT,if_neg h,if_neg h']))
theorem nT (a b:ByteArray) (S:aF):Pure Tryz.prog qC [.string a,.string b] S (.int .i64 (de a b)):=by
 intro w hI
 refine me ?_
 unfold iV
 refine Run.callPure kq j0 hI (jM a S) fun w' hI=>?_
 refine Run.callPure kq j0 hI (jM b S) fun w' hI=>?_
 refine ba (fun hb=>by cases hb) (fun _=>?_)
 refine ba (fun hb=>by cases hb) (fun _=>?_)
 refine KL ?_
 refine ba (fun h=>done hI (by rw [de,if_pos h])) (fun h=>?_)
 refine KG ?_
 rw [h,Bool.false_or]
 refine ba (fun h'=>done hI ?_) (fun h'=>done hI ?_)
 ·rw [Bool.not_eq_true',decide_eq_false_iff_not] at h'
  rcases dN a b with h1|h1|h1
  ·rw [h1.1] at h; cases h
  ·rw [h1.2.2]
  ·exact absurd h1.1 h'
 ·rw [Bool.not_eq_false',decide_eq_true_eq] at h'
  rw [h',i5]
theorem z6 {t:T} {S:aF} {cs:List Value} (h:RdT S cs t) (_:okO t):Pure Tryz.prog Lf [.agg cs.toArray] S (.int .i64 (rkI t)):=by
 intro w hI
 obtain ⟨kv,rfl,_,_,_,hks⟩:=RdT.iff.1 h
 refine D7 ?_
 unfold Co
 refine bQ hI fun b1 w' hI=>?_
 refine aI hI 0 rfl bD bo rfl ?_
 refine bR ?_
 refine bl (fun h1=>done hI (by rw [rkI,if_pos (show t.kind=1 from h1)])) (fun h1=>?_)
 refine aI hI 0 rfl bD bo rfl ?_
 refine bR ?_
 refine bl (fun h2=>done hI (by rw [rkI,if_neg (show ¬ t.kind=1 from h1),if_pos (show t.kind=2 from h2)])) (fun h2=>?_)
 refine aI hI 0 rfl aT aR rfl ?_
 refine a9 hks ay ?_
 refine bR ?_
 exact bl (fun h3=>done hI (by rw [rkI,if_neg (show ¬ t.kind=1 from h1),if_neg (show ¬ t.kind=2 from h2),if_pos (by omega)])) (fun h3=>done hI (by rw [rkI,if_neg (show ¬ t.kind=1 from h1),if_neg (show ¬ t.kind=2 from h2),if_neg (by omega)]))
theorem K9 {l:List Int} {S:aF} {v:Value} (h:RdSl S 1 oi v l):Pure Tryz.prog G1 [v] S (.int .i64 (orL l)):=by
 intro w hI
 have hlen:=h.le
 simp only [maxLen] at hlen
 refine Ab ?_
 unfold u7
 refine a9 h fZ ?_
 refine ⟨fun i w'=>∃ j:Nat,j<=l.length/\i=.int .i64 j/\orL (l.drop j)=orL l/\Inv w [] [] S w',fun i _=>l.length - (intOf i).toNat,⟨0,Nat.zero_le _,rfl,rfl,hI⟩,?_⟩
 intro t8 _ _ _ _ _ _ _ _ _ _ w'
 rintro ⟨j,hj,rfl,hrel,hI⟩
 refine bW ?_
 refine bl (fun hji=>?_) (fun hji=>?_)
 ·have hj':j<l.length:=by omega
  rw [List.drop_eq_getElem_cons hj',orL] at hrel
  refine i6 hI h fZ bo hj' (fun cs hcs=>hcs) ?_
  refine gh ?_
  refine ba (fun hb=>done hI ?_) (fun hb=>?_)
  ·have hne:l[j]≠0:=by simpa using hb
   rw [<- hrel,kr hne]
  ·have he:l[j]=0:=by simpa using hb
   rw [he,ix] at hrel
   refine bN (by omega) ?_
   exact ⟨⟨j+1,hj',rfl,hrel,hI⟩,by simp [intOf]; omega⟩
 ·refine done hI ?_
  rw [<- hrel,List.drop_eq_nil_of_le (by omega)]; rfl
theorem sm {ts us:List T} {S:aF} {v u:Value} (h:RdSl S 4 (RdT S) v ts) (h':RdSl S 4 (RdT S) u us)
  (hc:∀ t∈ts,∀ u∈us,∀ cs ds,RdT S cs t->RdT S ds u->Pure Tryz.prog gM [.agg cs.toArray,.agg ds.toArray] S (.int .i64 (dL t u))) :
  Pure Tryz.prog ne [v,u,fv gM []] S (.int .i64 (dI ts us)):=by
 intro w hI
 have hlen:=h.le
 simp only [maxLen] at hlen
 refine kV ?_
 unfold hG
 refine a9 h ay ?_
 refine ⟨fun i w'=>∃ j:Nat,j<=ts.length/\j<=us.length/\i=.int .i64 j/\dI (ts.drop j) (us.drop j)=dI ts us/\Inv w [] [] S w',fun i _=>ts.length - (intOf i).toNat,⟨0,Nat.zero_le _,Nat.zero_le _,rfl,rfl,hI⟩,?_⟩
 intro t13 _ _ _ _ _ _ _ _ _ _ _ _ _ _ _ _ _ _ _ _ _ _ _ _ _ w'
 rintro ⟨j,hj,hju,rfl,hrel,hI⟩
 refine bW ?_
 refine bl (fun hji=>?_) (fun hji=>?_)
 ·have hj1:j<ts.length:=by omega
  refine dZ hI h ay ao hj1 (fun _ _=>RdT.length) fun cs hcs=>?_
  have hlc:=hcs.length
  refine bH hI bL fun b8 w' hI=>?_
  refine bg hI 0 rfl ao (by simpa using hlc) rfl (by simpa using hcs.one) fun w' hI=>?_
  refine a9 h' ay ?_
  refine mw ?_
  refine bl (fun hb=>done hI ?_) (fun hb=>?_)
  ·rw [<- hrel,List.drop_eq_nil_of_le (show us.length<=j by omega),List.drop_eq_getElem_cons hj1,dI]
  have hj2:j<us.length:=by omega
  refine dZ hI h' ay ao hj2 (fun _ _=>RdT.length) fun ds hds=>?_
  have hld:=hds.length
  refine bH hI bL fun b9 w' hI=>?_
  refine bg hI 1 rfl ao (by simpa using hld) rfl (by simpa using hds.one) fun w' hI=>?_
  refine bb hI 0 ao rfl (by simpa using hlc) ?_
  refine bb hI 1 ao rfl (by simpa using hld) ?_
  refine Run.callVPure (cap:=[]) lV l6 hI (hc _ (List.getElem_mem hj1) _ (List.getElem_mem hj2) cs ds hcs hds) fun w' hI=>?_
  rw [BM ts us j hj1 hj2] at hrel
  refine gh ?_
  refine ba (fun hb=>done hI ?_) (fun hb=>?_)
  ·have hne:dL ts[j] us[j]≠0:=by simpa using hb
   rw [<- hrel,kr hne]
  ·have he:dL ts[j] us[j]=0:=by simpa using hb
   rw [he,ix] at hrel
   refine bN (by omega) ?_
   exact ⟨⟨j+1,hj1,hj2,rfl,hrel,hI.sub (List.nil_sublist _)⟩,by simp [intOf]; omega⟩
 ·refine a9 h ay ?_
  refine a9 h' ay ?_
  refine bW ?_
  rw [List.drop_eq_nil_of_le (show ts.length<=j by omega)] at hrel
  refine bl (fun hb=>done hI ?_) (fun hb=>done hI ?_)
  ·rw [<- hrel,List.drop_eq_getElem_cons (show j<us.length by omega),dI]
  ·rw [<- hrel,List.drop_eq_nil_of_le (show us.length<=j by omega),dI]
theorem py:∀ (t u:T) (S:aF) (cs ds:List Value),RdT S cs t->RdT S ds u->okO t->okO u->Pure Tryz.prog gM [.agg cs.toArray,.agg ds.toArray] S (.int .i64 (dL t u)):=by
 refine T.ind fun k n s ks ih u S cs ds h h' ht hu=>?_
 intro w hI
 have hcs:=h
 have hds:=h'
 have hor:=Mn ht hu
 obtain ⟨kv,rfl,_,_,_,hks⟩:=RdT.iff.1 h
 obtain ⟨kv',rfl,_,_,_,hks'⟩:=RdT.iff.1 h'
 obtain ⟨k',n',s',ks'⟩:=u
 simp only [T.name,T.kids,T.kind,T.n] at hks hks' ⊢
 have htk:uv ks:=by have h:=ht; rw [okO] at h; exact h.2
 have huk:uv ks':=by have h:=hu; rw [okO] at h; exact h.2
 have hkids:=sm hks hks' fun t ht u hu cs ds h1 h2=>ih t ht u S cs ds h1 h2 (nl htk t ht) (nl huk u hu)
 refine xy ?_
 unfold r3
 refine bQ hI fun b1 w' hI=>?_
 refine bQ hI fun b2 w' hI=>?_
 have hI:Inv w [] [.blk b1 (.cells #[.int .i64 k,.int .i64 n,.string s,kv] ab),.blk b2 (.cells #[.int .i64 k',.int .i64 n',.string s',kv'] ab)] S w':=hI
 refine ⟨fun D x4 ek eK dU dH dv cI cX bZ bS bV cf cd cC cc bY du dw dF eH fp eV eT fo f1 x9 x8 x7 x6 x5 w_=>(D 0=true->x5=.agg #[.int .i64 k,.int .i64 n,.string s,kv])/\(D 1=true->x6=.int .i64 (rkI (T.mk k n s ks)))/\(D 2=true->x7=.agg #[.int .i64 k',.int .i64 n',.string s',kv'])/\(D 3=true->x8=.int .i64 (rkI (T.mk k' n' s' ks')))/\(D 4=true->x9=.int .i64 (cT (rkI (T.mk k n s ks)) (rkI (T.mk k' n' s' ks'))))/\(D 5=true->f1=.pointer (some ⟨b1,1,none⟩))/\(D 6=true->fo=.int .i64 n)/\(D 7=true->eT=.pointer (some ⟨b2,1,none⟩))/\(D 8=true->eV=.int .i64 n')/\(D 9=true->fp=.int .i64 (cT n n'))/\(D 10=true->eH=.pointer (some ⟨b1,3,none⟩))/\(D 11=true->dF=kv)/\(D 12=true->dw=.int .i64 ks.length)/\(D 13=true->du=.pointer (some ⟨b2,3,none⟩))/\(D 14=true->bY=kv')/\(D 15=true->cc=.int .i64 ks'.length)/\(D 16=true->cC=.int .i64 (cT ks.length ks'.length))/\(D 17=true->cd=.pointer (some ⟨b1,2,none⟩))/\(D 18=true->cf=.string s)/\(D 19=true->bV=.pointer (some ⟨b2,2,none⟩))/\(D 20=true->bS=.string s')/\(D 21=true->bZ=.int .i64 (de s s'))/\(D 22=true->cX=.pointer (some ⟨b1,3,none⟩))/\(D 23=true->cI=kv)/\(D 24=true->dv=.pointer (some ⟨b2,3,none⟩))/\(D 25=true->dH=kv')/\(D 26=true->dU=.int .i64 (dI ks ks'))/\(D 27=true->True)/\(D 28=true->ek=.int .i64 (orL [cT (rkI (T.mk k n s ks)) (rkI (T.mk k' n' s' ks')),cT n n',cT ks.length ks'.length,de s s',dI ks ks']))/\(D 29=true->x4=.int .i64 (orL [cT (rkI (T.mk k n s ks)) (rkI (T.mk k' n' s' ks')),cT n n',cT ks.length ks'.length,de s s',dI ks ks']))/\∃ SN,Sle S SN/\(D 27=true->RdSl SN 1 oi eK [cT (rkI (T.mk k n s ks)) (rkI (T.mk k' n' s' ks')),cT n n',cT ks.length ks'.length,de s s',dI ks ks'])/\Inv w [] [.blk b1 (.cells #[.int .i64 k,.int .i64 n,.string s,kv] ab),.blk b2 (.cells #[.int .i64 k',.int .i64 n',.string s',kv'] ab)] SN w_,⟨ae,ae,ae,ae,ae,ae,ae,ae,ae,ae,ae,ae,ae,ae,ae,ae,ae,ae,ae,ae,ae,ae,ae,ae,ae,ae,ae,ae,ae,ae,⟨S,Sle.refl _,ae,hI.draw⟩⟩,⟨?_,?_,?_,?_,?_,?_,?_,?_,?_,?_,?_,?_,?_,?_,?_,?_,?_,?_,?_,?_,?_,?_,?_,?_,?_,?_,?_,?_,?_,?_,trivial⟩,?_⟩
 ·intro D aY  x4 ek eK dU dH dv cI cX bZ bS bV cf cd cC cc bY du dw dF eH fp eV eT fo f1 x9 x8 x7 x6 x5 w_
  rintro ⟨aA,aB,aC,az,av,aE,aD,aH,aK,aP,ag,ai,aG,aM,aO,aN,aV,aU,aW,aX,aZ,a6,a4,a5,a8,bz,bx,bA,bB,bC,⟨SN,hN,e27,hI⟩⟩
  refine bb hI 0 ao rfl rfl ?_
  exact ⟨fun _=>rfl,aB,aC,az,av,aE,aD,aH,aK,aP,ag,ai,aG,aM,aO,aN,aV,aU,aW,aX,aZ,a6,a4,a5,a8,bz,bx,bA,bB,bC,⟨SN,hN,e27,hI⟩⟩
 ·intro D aY b0 x4 ek eK dU dH dv cI cX bZ bS bV cf cd cC cc bY du dw dF eH fp eV eT fo f1 x9 x8 x7 x6 x5 w_
  rintro ⟨aA,aB,aC,az,av,aE,aD,aH,aK,aP,ag,ai,aG,aM,aO,aN,aV,aU,aW,aX,aZ,a6,a4,a5,a8,bz,bx,bA,bB,bC,⟨SN,hN,e27,hI⟩⟩
  obtain rfl:=aA b0
  refine Run.callPure Cl Ct hI (z6 (hcs.mono hN) ht) fun w_ hI=>?_
  exact ⟨aA,fun _=>rfl,aC,az,av,aE,aD,aH,aK,aP,ag,ai,aG,aM,aO,aN,aV,aU,aW,aX,aZ,a6,a4,a5,a8,bz,bx,bA,bB,bC,⟨SN,hN,e27,hI⟩⟩
 ·intro D aY  x4 ek eK dU dH dv cI cX bZ bS bV cf cd cC cc bY du dw dF eH fp eV eT fo f1 x9 x8 x7 x6 x5 w_
  rintro ⟨aA,aB,aC,az,av,aE,aD,aH,aK,aP,ag,ai,aG,aM,aO,aN,aV,aU,aW,aX,aZ,a6,a4,a5,a8,bz,bx,bA,bB,bC,⟨SN,hN,e27,hI⟩⟩
  refine bb hI 1 ao rfl rfl ?_
  exact ⟨aA,aB,fun _=>rfl,az,av,aE,aD,aH,aK,aP,ag,ai,aG,aM,aO,aN,aV,aU,aW,aX,aZ,a6,a4,a5,a8,bz,bx,bA,bB,bC,⟨SN,hN,e27,hI⟩⟩
 ·intro D aY ec il x4 ek eK dU dH dv cI cX bZ bS bV cf cd cC cc bY du dw dF eH fp eV eT fo f1 x9 x8 x7 x6 x5 w_
  rintro ⟨aA,aB,aC,az,av,aE,aD,aH,aK,aP,ag,ai,aG,aM,aO,aN,aV,aU,aW,aX,aZ,a6,a4,a5,a8,bz,bx,bA,bB,bC,⟨SN,hN,e27,hI⟩⟩
  obtain rfl:=aC ec
  refine Run.callPure Cl Ct hI (z6 (hds.mono hN) hu) fun w_ hI=>?_
  exact ⟨aA,aB,aC,fun _=>rfl,av,aE,aD,aH,aK,aP,ag,ai,aG,aM,aO,aN,aV,aU,aW,aX,aZ,a6,a4,a5,a8,bz,bx,bA,bB,bC,⟨SN,hN,e27,hI⟩⟩
 ·intro D aY dE mi KO x4 ek eK dU dH dv cI cX bZ bS bV cf cd cC cc bY du dw dF eH fp eV eT fo f1 x9 x8 x7 x6 x5 w_
  rintro ⟨aA,aB,aC,az,av,aE,aD,aH,aK,aP,ag,ai,aG,aM,aO,aN,aV,aU,aW,aX,aZ,a6,a4,a5,a8,bz,bx,bA,bB,bC,⟨SN,hN,e27,hI⟩⟩
  obtain rfl:=aB dE
  obtain rfl:=az mi
  refine Run.callPure ik ic hI (gY _ _ SN) fun w_ hI=>?_
  exact ⟨aA,aB,aC,az,fun _=>rfl,aE,aD,aH,aK,aP,ag,ai,aG,aM,aO,aN,aV,aU,aW,aX,aZ,a6,a4,a5,a8,bz,bx,bA,bB,bC,⟨SN,hN,e27,hI⟩⟩
 ·intro D aY  x4 ek eK dU dH dv cI cX bZ bS bV cf cd cC cc bY du dw dF eH fp eV eT fo f1 x9 x8 x7 x6 x5 w_
  rintro ⟨aA,aB,aC,az,av,aE,aD,aH,aK,aP,ag,ai,aG,aM,aO,aN,aV,aU,aW,aX,aZ,a6,a4,a5,a8,bz,bx,bA,bB,bC,⟨SN,hN,e27,hI⟩⟩
  refine bi bF ?_
  exact ⟨aA,aB,aC,az,av,fun _=>rfl,aD,aH,aK,aP,ag,ai,aG,aM,aO,aN,aV,aU,aW,aX,aZ,a6,a4,a5,a8,bz,bx,bA,bB,bC,⟨SN,hN,e27,hI⟩⟩
 ·intro D aY dT x4 ek eK dU dH dv cI cX bZ bS bV cf cd cC cc bY du dw dF eH fp eV eT fo f1 x9 x8 x7 x6 x5 w_
  rintro ⟨aA,aB,aC,az,av,aE,aD,aH,aK,aP,ag,ai,aG,aM,aO,aN,aV,aU,aW,aX,aZ,a6,a4,a5,a8,bz,bx,bA,bB,bC,⟨SN,hN,e27,hI⟩⟩
  obtain rfl:=aE dT
  refine bG hI 0 bo rfl rfl ?_
  exact ⟨aA,aB,aC,az,av,aE,fun _=>rfl,aH,aK,aP,ag,ai,aG,aM,aO,aN,aV,aU,aW,aX,aZ,a6,a4,a5,a8,bz,bx,bA,bB,bC,⟨SN,hN,e27,hI⟩⟩
 ·intro D aY  x4 ek eK dU dH dv cI cX bZ bS bV cf cd cC cc bY du dw dF eH fp eV eT fo f1 x9 x8 x7 x6 x5 w_
  rintro ⟨aA,aB,aC,az,av,aE,aD,aH,aK,aP,ag,ai,aG,aM,aO,aN,aV,aU,aW,aX,aZ,a6,a4,a5,a8,bz,bx,bA,bB,bC,⟨SN,hN,e27,hI⟩⟩
  refine bi bF ?_
  exact ⟨aA,aB,aC,az,av,aE,aD,fun _=>rfl,aK,aP,ag,ai,aG,aM,aO,aN,aV,aU,aW,aX,aZ,a6,a4,a5,a8,bz,bx,bA,bB,bC,⟨SN,hN,e27,hI⟩⟩
 ·intro D aY d6 x4 ek eK dU dH dv cI cX bZ bS bV cf cd cC cc bY du dw dF eH fp eV eT fo f1 x9 x8 x7 x6 x5 w_
  rintro ⟨aA,aB,aC,az,av,aE,aD,aH,aK,aP,ag,ai,aG,aM,aO,aN,aV,aU,aW,aX,aZ,a6,a4,a5,a8,bz,bx,bA,bB,bC,⟨SN,hN,e27,hI⟩⟩
  obtain rfl:=aH d6
  refine bG hI 1 bo rfl rfl ?_
  exact ⟨aA,aB,aC,az,av,aE,aD,aH,fun _=>rfl,aP,ag,ai,aG,aM,aO,aN,aV,aU,aW,aX,aZ,a6,a4,a5,a8,bz,bx,bA,bB,bC,⟨SN,hN,e27,hI⟩⟩
 ·intro D aY cJ gi iP x4 ek eK dU dH dv cI cX bZ bS bV cf cd cC cc bY du dw dF eH fp eV eT fo f1 x9 x8 x7 x6 x5 w_
  rintro ⟨aA,aB,aC,az,av,aE,aD,aH,aK,aP,ag,ai,aG,aM,aO,aN,aV,aU,aW,aX,aZ,a6,a4,a5,a8,bz,bx,bA,bB,bC,⟨SN,hN,e27,hI⟩⟩
  obtain rfl:=aD cJ
  obtain rfl:=aK gi
  refine Run.callPure ik ic hI (gY _ _ SN) fun w_ hI=>?_
  exact ⟨aA,aB,aC,az,av,aE,aD,aH,aK,fun _=>rfl,ag,ai,aG,aM,aO,aN,aV,aU,aW,aX,aZ,a6,a4,a5,a8,bz,bx,bA,bB,bC,⟨SN,hN,e27,hI⟩⟩
 ·intro D aY  x4 ek eK dU dH dv cI cX bZ bS bV cf cd cC cc bY du dw dF eH fp eV eT fo f1 x9 x8 x7 x6 x5 w_
  rintro ⟨aA,aB,aC,az,av,aE,aD,aH,aK,aP,ag,ai,aG,aM,aO,aN,aV,aU,aW,aX,aZ,a6,a4,a5,a8,bz,bx,bA,bB,bC,⟨SN,hN,e27,hI⟩⟩
  refine bi aT ?_
  exact ⟨aA,aB,aC,az,av,aE,aD,aH,aK,aP,fun _=>rfl,ai,aG,aM,aO,aN,aV,aU,aW,aX,aZ,a6,a4,a5,a8,bz,bx,bA,bB,bC,⟨SN,hN,e27,hI⟩⟩
 ·intro D aY gv x4 ek eK dU dH dv cI cX bZ bS bV cf cd cC cc bY du dw dF eH fp eV eT fo f1 x9 x8 x7 x6 x5 w_
  rintro ⟨aA,aB,aC,az,av,aE,aD,aH,aK,aP,ag,ai,aG,aM,aO,aN,aV,aU,aW,aX,aZ,a6,a4,a5,a8,bz,bx,bA,bB,bC,⟨SN,hN,e27,hI⟩⟩
  obtain rfl:=ag gv
  refine bG hI 0 aR rfl rfl ?_
  exact ⟨aA,aB,aC,az,av,aE,aD,aH,aK,aP,ag,fun _=>rfl,aG,aM,aO,aN,aV,aU,aW,aX,aZ,a6,a4,a5,a8,bz,bx,bA,bB,bC,⟨SN,hN,e27,hI⟩⟩
 ·intro D aY gZ x4 ek eK dU dH dv cI cX bZ bS bV cf cd cC cc bY du dw dF eH fp eV eT fo f1 x9 x8 x7 x6 x5 w_
  rintro ⟨aA,aB,aC,az,av,aE,aD,aH,aK,aP,ag,ai,aG,aM,aO,aN,aV,aU,aW,aX,aZ,a6,a4,a5,a8,bz,bx,bA,bB,bC,⟨SN,hN,e27,hI⟩⟩
  obtain rfl:=ai gZ
  refine a9 hks ay ?_
  exact ⟨aA,aB,aC,az,av,aE,aD,aH,aK,aP,ag,ai,fun _=>rfl,aM,aO,aN,aV,aU,aW,aX,aZ,a6,a4,a5,a8,bz,bx,bA,bB,bC,⟨SN,hN,e27,hI⟩⟩
 ·intro D aY  x4 ek eK dU dH dv cI cX bZ bS bV cf cd cC cc bY du dw dF eH fp eV eT fo f1 x9 x8 x7 x6 x5 w_
  rintro ⟨aA,aB,aC,az,av,aE,aD,aH,aK,aP,ag,ai,aG,aM,aO,aN,aV,aU,aW,aX,aZ,a6,a4,a5,a8,bz,bx,bA,bB,bC,⟨SN,hN,e27,hI⟩⟩
  refine bi aT ?_
  exact ⟨aA,aB,aC,az,av,aE,aD,aH,aK,aP,ag,ai,aG,fun _=>rfl,aO,aN,aV,aU,aW,aX,aZ,a6,a4,a5,a8,bz,bx,bA,bB,bC,⟨SN,hN,e27,hI⟩⟩
 ·intro D aY g9 x4 ek eK dU dH dv cI cX bZ bS bV cf cd cC cc bY du dw dF eH fp eV eT fo f1 x9 x8 x7 x6 x5 w_
  rintro ⟨aA,aB,aC,az,av,aE,aD,aH,aK,aP,ag,ai,aG,aM,aO,aN,aV,aU,aW,aX,aZ,a6,a4,a5,a8,bz,bx,bA,bB,bC,⟨SN,hN,e27,hI⟩⟩
  obtain rfl:=aM g9
  refine bG hI 1 aR rfl rfl ?_
  exact ⟨aA,aB,aC,az,av,aE,aD,aH,aK,aP,ag,ai,aG,aM,fun _=>rfl,aN,aV,aU,aW,aX,aZ,a6,a4,a5,a8,bz,bx,bA,bB,bC,⟨SN,hN,e27,hI⟩⟩
 ·intro D aY Fr x4 ek eK dU dH dv cI cX bZ bS bV cf cd cC cc bY du dw dF eH fp eV eT fo f1 x9 x8 x7 x6 x5 w_
  rintro ⟨aA,aB,aC,az,av,aE,aD,aH,aK,aP,ag,ai,aG,aM,aO,aN,aV,aU,aW,aX,aZ,a6,a4,a5,a8,bz,bx,bA,bB,bC,⟨SN,hN,e27,hI⟩⟩
  obtain rfl:=aO Fr
  refine a9 hks' ay ?_
  exact ⟨aA,aB,aC,az,av,aE,aD,aH,aK,aP,ag,ai,aG,aM,aO,fun _=>rfl,aV,aU,aW,aX,aZ,a6,a4,a5,a8,bz,bx,bA,bB,bC,⟨SN,hN,e27,hI⟩⟩
 ·intro D aY ku Li Kg x4 ek eK dU dH dv cI cX bZ bS bV cf cd cC cc bY du dw dF eH fp eV eT fo f1 x9 x8 x7 x6 x5 w_
  rintro ⟨aA,aB,aC,az,av,aE,aD,aH,aK,aP,ag,ai,aG,aM,aO,aN,aV,aU,aW,aX,aZ,a6,a4,a5,a8,bz,bx,bA,bB,bC,⟨SN,hN,e27,hI⟩⟩
  obtain rfl:=aG ku
  obtain rfl:=aN Li
  refine Run.callPure ik ic hI (gY _ _ SN) fun w_ hI=>?_
  exact ⟨aA,aB,aC,az,av,aE,aD,aH,aK,aP,ag,ai,aG,aM,aO,aN,fun _=>rfl,aU,aW,aX,aZ,a6,a4,a5,a8,bz,bx,bA,bB,bC,⟨SN,hN,e27,hI⟩⟩
 ·intro D aY  x4 ek eK dU dH dv cI cX bZ bS bV cf cd cC cc bY du dw dF eH fp eV eT fo f1 x9 x8 x7 x6 x5 w_
  rintro ⟨aA,aB,aC,az,av,aE,aD,aH,aK,aP,ag,ai,aG,aM,aO,aN,aV,aU,aW,aX,aZ,a6,a4,a5,a8,bz,bx,bA,bB,bC,⟨SN,hN,e27,hI⟩⟩
  refine bi bp ?_
  exact ⟨aA,aB,aC,az,av,aE,aD,aH,aK,aP,ag,ai,aG,aM,aO,aN,aV,fun _=>rfl,aW,aX,aZ,a6,a4,a5,a8,bz,bx,bA,bB,bC,⟨SN,hN,e27,hI⟩⟩
 ·intro D aY Fu x4 ek eK dU dH dv cI cX bZ bS bV cf cd cC cc bY du dw dF eH fp eV eT fo f1 x9 x8 x7 x6 x5 w_
  rintro ⟨aA,aB,aC,az,av,aE,aD,aH,aK,aP,ag,ai,aG,aM,aO,aN,aV,aU,aW,aX,aZ,a6,a4,a5,a8,bz,bx,bA,bB,bC,⟨SN,hN,e27,hI⟩⟩
  obtain rfl:=aU Fu
  refine bG hI 0 bm rfl rfl ?_
  exact ⟨aA,aB,aC,az,av,aE,aD,aH,aK,aP,ag,ai,aG,aM,aO,aN,aV,aU,fun _=>rfl,aX,aZ,a6,a4,a5,a8,bz,bx,bA,bB,bC,⟨SN,hN,e27,hI⟩⟩
 ·intro D aY  x4 ek eK dU dH dv cI cX bZ bS bV cf cd cC cc bY du dw dF eH fp eV eT fo f1 x9 x8 x7 x6 x5 w_
  rintro ⟨aA,aB,aC,az,av,aE,aD,aH,aK,aP,ag,ai,aG,aM,aO,aN,aV,aU,aW,aX,aZ,a6,a4,a5,a8,bz,bx,bA,bB,bC,⟨SN,hN,e27,hI⟩⟩
  refine bi bp ?_
  exact ⟨aA,aB,aC,az,av,aE,aD,aH,aK,aP,ag,ai,aG,aM,aO,aN,aV,aU,aW,fun _=>rfl,aZ,a6,a4,a5,a8,bz,bx,bA,bB,bC,⟨SN,hN,e27,hI⟩⟩
 ·intro D aY gD x4 ek eK dU dH dv cI cX bZ bS bV cf cd cC cc bY du dw dF eH fp eV eT fo f1 x9 x8 x7 x6 x5 w_
  rintro ⟨aA,aB,aC,az,av,aE,aD,aH,aK,aP,ag,ai,aG,aM,aO,aN,aV,aU,aW,aX,aZ,a6,a4,a5,a8,bz,bx,bA,bB,bC,⟨SN,hN,e27,hI⟩⟩
  obtain rfl:=aX gD
  refine bG hI 1 bm rfl rfl ?_
  exact ⟨aA,aB,aC,az,av,aE,aD,aH,aK,aP,ag,ai,aG,aM,aO,aN,aV,aU,aW,aX,fun _=>rfl,a6,a4,a5,a8,bz,bx,bA,bB,bC,⟨SN,hN,e27,hI⟩⟩
 ·intro D aY s4 MR Mb x4 ek eK dU dH dv cI cX bZ bS bV cf cd cC cc bY du dw dF eH fp eV eT fo f1 x9 x8 x7 x6 x5 w_
  rintro ⟨aA,aB,aC,az,av,aE,aD,aH,aK,aP,ag,ai,aG,aM,aO,aN,aV,aU,aW,aX,aZ,a6,a4,a5,a8,bz,bx,bA,bB,bC,⟨SN,hN,e27,hI⟩⟩
  obtain rfl:=aW s4
  obtain rfl:=aZ MR
  refine Run.callPure pb pk hI (nT _ _ SN) fun w_ hI=>?_
  exact ⟨aA,aB,aC,az,av,aE,aD,aH,aK,aP,ag,ai,aG,aM,aO,aN,aV,aU,aW,aX,aZ,fun _=>rfl,a4,a5,a8,bz,bx,bA,bB,bC,⟨SN,hN,e27,hI⟩⟩
 ·intro D aY  x4 ek eK dU dH dv cI cX bZ bS bV cf cd cC cc bY du dw dF eH fp eV eT fo f1 x9 x8 x7 x6 x5 w_
  rintro ⟨aA,aB,aC,az,av,aE,aD,aH,aK,aP,ag,ai,aG,aM,aO,aN,aV,aU,aW,aX,aZ,a6,a4,a5,a8,bz,bx,bA,bB,bC,⟨SN,hN,e27,hI⟩⟩
  refine bi aT ?_
  exact ⟨aA,aB,aC,az,av,aE,aD,aH,aK,aP,ag,ai,aG,aM,aO,aN,aV,aU,aW,aX,aZ,a6,fun _=>rfl,a5,a8,bz,bx,bA,bB,bC,⟨SN,hN,e27,hI⟩⟩
 ·intro D aY KP x4 ek eK dU dH dv cI cX bZ bS bV cf cd cC cc bY du dw dF eH fp eV eT fo f1 x9 x8 x7 x6 x5 w_
  rintro ⟨aA,aB,aC,az,av,aE,aD,aH,aK,aP,ag,ai,aG,aM,aO,aN,aV,aU,aW,aX,aZ,a6,a4,a5,a8,bz,bx,bA,bB,bC,⟨SN,hN,e27,hI⟩⟩
  obtain rfl:=a4 KP
  refine bG hI 0 aR rfl rfl ?_
  exact ⟨aA,aB,aC,az,av,aE,aD,aH,aK,aP,ag,ai,aG,aM,aO,aN,aV,aU,aW,aX,aZ,a6,a4,fun _=>rfl,a8,bz,bx,bA,bB,bC,⟨SN,hN,e27,hI⟩⟩
 ·intro D aY  x4 ek eK dU dH dv cI cX bZ bS bV cf cd cC cc bY du dw dF eH fp eV eT fo f1 x9 x8 x7 x6 x5 w_
  rintro ⟨aA,aB,aC,az,av,aE,aD,aH,aK,aP,ag,ai,aG,aM,aO,aN,aV,aU,aW,aX,aZ,a6,a4,a5,a8,bz,bx,bA,bB,bC,⟨SN,hN,e27,hI⟩⟩
  refine bi aT ?_
  exact ⟨aA,aB,aC,az,av,aE,aD,aH,aK,aP,ag,ai,aG,aM,aO,aN,aV,aU,aW,aX,aZ,a6,a4,a5,fun _=>rfl,bz,bx,bA,bB,bC,⟨SN,hN,e27,hI⟩⟩
 ·intro D aY Lq x4 ek eK dU dH dv cI cX bZ bS bV cf cd cC cc bY du dw dF eH fp eV eT fo f1 x9 x8 x7 x6 x5 w_
  rintro ⟨aA,aB,aC,az,av,aE,aD,aH,aK,aP,ag,ai,aG,aM,aO,aN,aV,aU,aW,aX,aZ,a6,a4,a5,a8,bz,bx,bA,bB,bC,⟨SN,hN,e27,hI⟩⟩
  obtain rfl:=a8 Lq
  refine bG hI 1 aR rfl rfl ?_
  exact ⟨aA,aB,aC,az,av,aE,aD,aH,aK,aP,ag,ai,aG,aM,aO,aN,aV,aU,aW,aX,aZ,a6,a4,a5,a8,fun _=>rfl,bx,bA,bB,bC,⟨SN,hN,e27,hI⟩⟩
 ·intro D aY KN MT OL x4 ek eK dU dH dv cI cX bZ bS bV cf cd cC cc bY du dw dF eH fp eV eT fo f1 x9 x8 x7 x6 x5 w_
  rintro ⟨aA,aB,aC,az,av,aE,aD,aH,aK,aP,ag,ai,aG,aM,aO,aN,aV,aU,aW,aX,aZ,a6,a4,a5,a8,bz,bx,bA,bB,bC,⟨SN,hN,e27,hI⟩⟩
  obtain rfl:=a5 KN
  obtain rfl:=bz MT
  refine Run.callPure mZ mY hI (hkids.less hN) fun w_ hI=>?_
  exact ⟨aA,aB,aC,az,av,aE,aD,aH,aK,aP,ag,ai,aG,aM,aO,aN,aV,aU,aW,aX,aZ,a6,a4,a5,a8,bz,fun _=>rfl,bA,bB,bC,⟨SN,hN,e27,hI⟩⟩
 ·intro D aY cF fl Mb MY MU x4 ek eK dU dH dv cI cX bZ bS bV cf cd cC cc bY du dw dF eH fp eV eT fo f1 x9 x8 x7 x6 x5 w_
  rintro ⟨aA,aB,aC,az,av,aE,aD,aH,aK,aP,ag,ai,aG,aM,aO,aN,aV,aU,aW,aX,aZ,a6,a4,a5,a8,bz,bx,bA,bB,bC,⟨SN,hN,e27,hI⟩⟩
  obtain rfl:=av cF
  obtain rfl:=aP fl
  obtain rfl:=aV Mb
  obtain rfl:=a6 MY
  obtain rfl:=bx MU
  refine K5 hI fun b5 w_ hI=>?_
  obtain ⟨SN,hI,hE,hb⟩:=Inv.pub1 (A:=[.blk b1 (.cells #[.int .i64 k,.int .i64 n,.string s,kv] ab),.blk b2 (.cells #[.int .i64 k',.int .i64 n',.string s',kv'] ab)]) hI
  have hN:=hN.trans hE.1
  have e27:=fun (_:aw D 27 27=true)=>(⟨some ⟨b5,0,none⟩,5,rfl,by simp,by simp [maxLen],.inr ⟨b5,0,_,fu,(0,0),rfl,hb,fun i hi=>by match i,hi with|0,_|1,_|2,_|3,_|4,_=>rfl⟩⟩:RdSl SN 1 oi (.slice (some ⟨b5,0,none⟩) 5 5) [cT (rkI (T.mk k n s ks)) (rkI (T.mk k' n' s' ks')),cT n n',cT ks.length ks'.length,de s s',dI ks ks'])
  exact ⟨aA,aB,aC,az,av,aE,aD,aH,aK,aP,ag,ai,aG,aM,aO,aN,aV,aU,aW,aX,aZ,a6,a4,a5,a8,bz,bx,fun _=>by first|assumption|trivial,bB,bC,⟨SN,hN,e27,hI⟩⟩
 ·intro D aY Mf Mc x4 ek eK dU dH dv cI cX bZ bS bV cf cd cC cc bY du dw dF eH fp eV eT fo f1 x9 x8 x7 x6 x5 w_
  rintro ⟨aA,aB,aC,az,av,aE,aD,aH,aK,aP,ag,ai,aG,aM,aO,aN,aV,aU,aW,aX,aZ,a6,a4,a5,a8,bz,bx,bA,bB,bC,⟨SN,hN,e27,hI⟩⟩
  have NU:=bA Mf
  refine Run.callPure EC EO hI (K9 (e27 Mf)) fun w_ hI=>?_
  exact ⟨aA,aB,aC,az,av,aE,aD,aH,aK,aP,ag,ai,aG,aM,aO,aN,aV,aU,aW,aX,aZ,a6,a4,a5,a8,bz,bx,bA,fun _=>rfl,bC,⟨SN,hN,e27,hI⟩⟩
 ·intro D aY La OK nY tb s0 qY s5 xu wt Ei BD Bz uE zr yc CY CE MI Mk Mq NB NZ N7 OB Od Ou Ot Oy Oz N3 ND x4 ek eK dU dH dv cI cX bZ bS bV cf cd cC cc bY du dw dF eH fp eV eT fo f1 x9 x8 x7 x6 x5 w_
  rintro ⟨aA,aB,aC,az,av,aE,aD,aH,aK,aP,ag,ai,aG,aM,aO,aN,aV,aU,aW,aX,aZ,a6,a4,a5,a8,bz,bx,bA,bB,bC,⟨SN,hN,e27,hI⟩⟩
  obtain rfl:=bB La
  exact ⟨aA,aB,aC,az,av,aE,aD,aH,aK,aP,ag,ai,aG,aM,aO,aN,aV,aU,aW,aX,aZ,a6,a4,a5,a8,bz,bx,bA,bB,fun _=>rfl,⟨SN,hN,e27,hI⟩⟩
 intro D Mz Mr Mh MB Mv C5 Dm CB D3 Ed CU zL za zG mQ m0 nh iO fk fw iK gI fK fL fH fC fB fE fM fJ x4 ek eK dU dH dv cI cX bZ bS bV cf cd cC cc bY du dw dF eH fp eV eT fo f1 x9 x8 x7 x6 x5 w_
 rintro ⟨aA,aB,aC,az,av,aE,aD,aH,aK,aP,ag,ai,aG,aM,aO,aN,aV,aU,aW,aX,aZ,a6,a4,a5,a8,bz,bx,bA,bB,bC,⟨SN,hN,e27,hI⟩⟩
 obtain rfl:=bC Mz
 obtain rfl:=bB Mr
 have NU:=bA Mh
 obtain rfl:=bx MB
 obtain rfl:=bz Mv
 obtain rfl:=a8 C5
 obtain rfl:=a5 Dm
 obtain rfl:=a4 CB
 obtain rfl:=a6 D3
 obtain rfl:=aZ Ed
 obtain rfl:=aX CU
 obtain rfl:=aW zL
 obtain rfl:=aU za
 obtain rfl:=aV zG
 obtain rfl:=aN mQ
 obtain rfl:=aO m0
 obtain rfl:=aM nh
 obtain rfl:=aG iO
 obtain rfl:=ai fk
 obtain rfl:=ag fw
 obtain rfl:=aP iK
 obtain rfl:=aK gI
 obtain rfl:=aH fK
 obtain rfl:=aD fL
 obtain rfl:=aE fH
 obtain rfl:=av fC
 obtain rfl:=az fB
 obtain rfl:=aC fE
 obtain rfl:=aB fM
 obtain rfl:=aA fJ
 clear aA aB aC az av aE aD aH aK aP ag ai aG aM aO aN aV aU aW aX aZ a6 a4 a5 a8 bz bx bA bB bC
 rw [show orL [cT (rkI (T.mk k n s ks)) (rkI (T.mk k' n' s' ks')),cT n n',cT ks.length ks'.length,de s s',dI ks ks']=dL (T.mk k n s ks) (T.mk k' n' s' ks') from hor]
 exact lD hI hN rfl
end

end Go.Proofs.YtemmhhdnlbmicaaGreat
