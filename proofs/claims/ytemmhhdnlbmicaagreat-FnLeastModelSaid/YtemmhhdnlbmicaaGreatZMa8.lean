/- The standard order of terms: a total order on well-formed terms. -/
import Derived.Test.YtemmhhdnlbmicaaGreatZMa6
import Derived.Test.YtemmhhdnlbmicaaGreatZMa2
import Derived.Test.YtemmhhdnlbmicaaGreatZMa0
import Derived.Test.YtemmhhdnlbmicaaGreatZMa3
namespace Go.Proofs.YtemmhhdnlbmicaaGreat
open Go Go.RowKit

theorem zz:∀ (a b c:List UInt8),Op.bytesLess a b=true->Op.bytesLess b c=true->Op.bytesLess a c=true
 | _,[],_,h,_=>by simp [Op.bytesLess] at h
 | _,_::_,[],_,h=>by simp [Op.bytesLess] at h
 | [],_::_,_::_,_,_=>by simp [Op.bytesLess]
 | x::a,y::b,z::c,h,h'=>by
  simp only [Op.bytesLess,Bool.or_eq_true,decide_eq_true_eq,Bool.and_eq_true,beq_iff_eq] at h h' ⊢
  rcases h with h|⟨rfl,h⟩
  ·rcases h' with h'|⟨rfl,h'⟩
   ·left; exact UInt8.lt_trans h h'
   ·left; exact h
  ·rcases h' with h'|⟨rfl,h'⟩
   ·left; exact h'
   ·right; exact ⟨rfl,zz a b c h h'⟩
theorem Dy:∀ a:List UInt8,Op.bytesLess a a=false
 | []=>by simp [Op.bytesLess]
 | x::a=>by
  simp only [Op.bytesLess,Dy a,Bool.and_false,Bool.or_false,decide_eq_false_iff_not]
  exact UInt8.lt_irrefl x
theorem F7:∀ a b:List UInt8,a≠b->Op.bytesLess a b=true ∨ Op.bytesLess b a=true
 | [],[],h=>absurd rfl h
 | [],_::_,_=>.inl (by simp [Op.bytesLess])
 | _::_,[],_=>.inr (by simp [Op.bytesLess])
 | x::a,y::b,h=>by
  simp only [Op.bytesLess,Bool.or_eq_true,decide_eq_true_eq,Bool.and_eq_true,beq_iff_eq]
  by_cases e:x=y
  ·subst e
   rcases F7 a b (fun e=>h (by rw [e])) with h1|h1
   ·exact .inl (.inr ⟨rfl,h1⟩)
   ·exact .inr (.inr ⟨rfl,h1⟩)
  ·rcases UInt8.lt_or_lt_of_ne e with h1|h1
   ·exact .inl (.inl h1)
   ·exact .inr (.inl h1)
def bls (a b:ByteArray):Bool:=Op.bytesLess a.toList b.toList
def de (a b:Int):Int:=if a<b then -1 else if b<a then 1 else 0
def di (a b:ByteArray):Int:=if bls a b=true then -1 else if bls b a=true then 1 else 0
def rkS (t:T):Int:=if t.kind=3/\0<t.kids.length then 4 else t.kind
def gV (a b:Int):Int:=if a≠0 then a else b
/- the head of a term: all but its kids -/
def hdC (t u:T):Int:=gV (de (rkS t) (rkS u)) (gV (de t.n u.n) (gV (de t.kids.length u.kids.length) (di t.name u.name)))
mutual
def dQ:T->T->Int
 | .mk k n s ks,u=>gV (hdC (.mk k n s ks) u) (dR ks u.kids)
def dR:List T->List T->Int
 | [],[]=>0
 | [],_::_=>-1
 | _::_,[]=>1
 | t::ts,u::us=>gV (dQ t u) (dR ts us)
end
mutual
def okO:T->Prop
 | .mk k n s ks=>(((k=1 ∨ k=2)/\s=emptyB/\ks=[]) ∨ (k=3/\n=0))/\qg ks
def qg:List T->Prop
 | []=>True
 | t::ts=>okO t/\qg ts
end
theorem s0 {t:T} (h:eC t=true):((t.kind=1 ∨ t.kind=2)/\t.name=emptyB/\t.kids=[]) ∨ (t.kind=3/\t.n=0):=by
 unfold eC at h
 by_cases e1:t.kind=1
 ·rw [if_pos e1] at h
  simp only [Bool.and_eq_true,decide_eq_true_eq] at h
  exact .inl ⟨.inl e1,h.2.2.1,List.eq_nil_of_length_eq_zero h.2.2.2⟩
 ·rw [if_neg e1] at h
  by_cases e2:t.kind=2
  ·rw [if_pos e2] at h
   simp only [Bool.and_eq_true,decide_eq_true_eq] at h
   exact .inl ⟨.inr e2,h.2.2.1,List.eq_nil_of_length_eq_zero h.2.2.2⟩
  ·rw [if_neg e2] at h
   by_cases e3:t.kind=3
   ·rw [if_pos e3] at h
    simp only [Bool.and_eq_true,decide_eq_true_eq] at h
    exact .inr ⟨e3,h.1⟩
   ·rw [if_neg e3] at h
    cases h
mutual
theorem Dj:∀ (t:T) (d:Int),eO t d=true->okO t
 | .mk k n s ks,d,h=>by
  rw [eO] at h
  split at h
  ·cases h
  ·rw [Bool.and_eq_true] at h
   rw [okO]
   refine ⟨?_,BP ks (d - 1) h.2⟩
   exact s0 h.1
theorem BP:∀ (ts:List T) (d:Int),eF ts d=true->qg ts
 | [],d,h=>by simp [qg]
 | t::ts,d,h=>by
  rw [eF,Bool.and_eq_true] at h
  rw [qg]
  exact ⟨Dj t d h.1,BP ts d h.2⟩
end
theorem Dw {t:T} (h:eA t=true):okO t:=by
 rw [eA,Bool.and_eq_true] at h
 exact Dj t _ h.1
theorem dT (a b:Int):(a<b/\de a b=-1) ∨ (b<a/\de a b=1) ∨ (a=b/\de a b=0):=by
 unfold de
 by_cases h:a<b
 ·exact .inl ⟨h,if_pos h⟩
 ·by_cases h':b<a
  ·exact .inr (.inl ⟨h',by rw [if_neg h,if_pos h']⟩)
  ·exact .inr (.inr ⟨by omega,by rw [if_neg h,if_neg h']⟩)
theorem toList_inj {a b:ByteArray} (h:a.toList=b.toList):a=b:=by
 have:=tp a b
 rw [beq_iff_eq.2 h] at this
 exact of_decide_eq_true this.symm
theorem d3 (a b:ByteArray):(bls a b=true/\di a b=-1) ∨ (bls b a=true/\bls a b=false/\di a b=1) ∨ (a=b/\di a b=0):=by
 unfold di
 cases h:bls a b with
 | true=>exact .inl ⟨rfl,if_pos rfl⟩
 | false=>
  cases h':bls b a with
  | true=>exact .inr (.inl ⟨rfl,rfl,by simp⟩)
  | false=>
   refine .inr (.inr ⟨?_,by simp⟩)
   refine toList_inj (Decidable.byContradiction fun e=>?_)
   rcases F7 _ _ e with h1|h1
   ·rw [bls,h1] at h; cases h
   ·rw [bls,h1] at h'; cases h'
theorem Ok {a b:ByteArray} (h:bls a b=true):bls b a=false:=by
 cases h':bls b a with
 | false=>rfl
 | true=>
  have:=zz _ _ _ h h'
  rw [Dy] at this
  cases this

/- how three comparisons fit -/
structure TC (a b c:Int):Prop where
 lt:a=-1->b=-1->c=-1
 e1:a=0->c=b
 e2:b=0->c=a
theorem TC.lex {a b c a' b' c':Int} (h:TC a b c) (h':TC a' b' c'):TC (gV a a') (gV b b') (gV c c'):=by
 obtain ⟨h1,h2,h3⟩:=h
 obtain ⟨h4,h5,h6⟩:=h'
 unfold gV
 refine ⟨fun x y=>?_,fun x=>?_,fun x=>?_⟩
 ·by_cases ea:a=0
  ·rw [if_neg (by omega)] at x
   by_cases eb:b=0
   ·rw [if_neg (by omega)] at y
    rw [if_neg (by have:=h2 ea; omega)]
    exact h4 x y
   ·rw [if_pos (by omega)] at y
    have:=h2 ea
    rw [if_pos (by omega)]; omega
  ·rw [if_pos (by omega)] at x
   by_cases eb:b=0
   ·have:=h3 eb
    rw [if_pos (by omega)]; omega
   ·rw [if_pos (by omega)] at y
    have:=h1 x y
    rw [if_pos (by omega)]; omega
 ·by_cases ea:a=0
  ·rw [if_neg (by omega)] at x
   rw [h2 ea,h5 x]
  ·rw [if_pos (by omega)] at x; omega
 ·by_cases eb:b=0
  ·rw [if_neg (by omega)] at x
   rw [h3 eb,h6 x]
  ·rw [if_pos (by omega)] at x; omega
theorem TC.zero:TC 0 0 0:=⟨fun h=>by omega,fun _=>rfl,fun _=>rfl⟩
theorem TC.int (a b c:Int):TC (de a b) (de b c) (de a c):=by
 have h1:=dT a b
 have h2:=dT b c
 have h3:=dT a c
 exact ⟨fun _ _=>by omega,fun _=>by omega,fun _=>by omega⟩
theorem TC.str (a b c:ByteArray):TC (di a b) (di b c) (di a c):=by
 refine ⟨fun x y=>?_,fun x=>?_,fun x=>?_⟩
 ·rcases d3 a b with h|h|h
  ·rcases d3 b c with h'|h'|h'
   ·have:=zz _ _ _ h.1 h'.1
    unfold di
    rw [if_pos (show bls a c=true from this)]
   ·omega
   ·omega
  ·omega
  ·omega
 ·rcases d3 a b with h|h|h
  ·omega
  ·omega
  ·rw [h.1]
 ·rcases d3 b c with h|h|h
  ·omega
  ·omega
  ·rw [h.1]
theorem TC.hd (t u v:T):TC (hdC t u) (hdC u v) (hdC t v):=(TC.int _ _ _).lex ((TC.int _ _ _).lex ((TC.int _ _ _).lex (TC.str _ _ _)))
mutual
theorem TC.term:∀ t u v:T,TC (dQ t u) (dQ u v) (dQ t v)
 | .mk k n s ks,.mk k' n' s' ks',v=>by
  rw [dQ,dQ,dQ]
  exact (TC.hd _ _ _).lex (TC.list ks ks' v.kids)
theorem TC.list:∀ t u v:List T,TC (dR t u) (dR u v) (dR t v)
 | [],[],[]=>by simpa [dR] using TC.zero
 | [],[],_::_=>by rw [dR,dR]; exact ⟨fun h=>by omega,fun _=>rfl,fun h=>by omega⟩
 | [],_::_,[]=>by rw [dR,dR,dR]; exact ⟨fun _ h=>by omega,fun h=>by omega,fun h=>by omega⟩
 | [],_::_,_::_=>by rw [dR,dR]; exact ⟨fun h _=>h,fun h=>by omega,fun h=>rfl⟩
 | _::_,[],[]=>by rw [dR,dR]; exact ⟨fun h _=>h,fun h=>by omega,fun h=>rfl⟩
 | _::_,[],_::_=>by rw [dR,dR]; exact ⟨fun h _=>by omega,fun h=>by omega,fun h=>by omega⟩
 | _::_,_::_,[]=>by rw [dR,dR]; exact ⟨fun _ h=>by omega,fun h=>rfl,fun h=>by omega⟩
 | t::ts,u::us,v::vs=>by
  rw [dR,dR,dR]
  exact (TC.term t u v).lex (TC.list ts us vs)
end
theorem oI (a b:Int):-(gV a b)=gV (-a) (-b):=by
 unfold gV
 by_cases h:a=0
 ·subst h; simp
 ·rw [if_pos h,if_pos (by omega)]
theorem sb (a b:Int):de b a=-de a b:=by
 have:=dT a b
 have:=dT b a
 omega
theorem uV (a b:ByteArray):di b a=-di a b:=by
 rcases d3 a b with h|h|h
 ·rw [h.2]
  have:=Ok h.1
  unfold di
  rw [this,if_neg (by decide),if_pos h.1]; rfl
 ·rw [h.2.2]
  unfold di
  rw [if_pos h.1]
 ·rw [h.2]
  obtain rfl:=h.1
  rw [h.2]; rfl
theorem Ob (t u:T):hdC u t=-hdC t u:=by
 rw [hdC,hdC,oI,oI,oI,sb (rkS t),sb t.n,sb t.kids.length,uV t.name]
mutual
theorem vv:∀ t u:T,dQ u t=-dQ t u
 | .mk k n s ks,.mk k' n' s' ks'=>by
  rw [dQ,dQ,oI,Ob (.mk k n s ks)]
  congr 1
  exact DX ks ks'
theorem DX:∀ t u:List T,dR u t=-dR t u
 | [],[]=>by simp [dR]
 | [],_::_=>by simp [dR]
 | _::_,[]=>by simp [dR]
 | t::ts,u::us=>by rw [dR,dR,oI,vv t u,DX ts us]
end
theorem mO {a b:Int} (h:gV a b=0):a=0/\b=0:=by
 unfold gV at h
 by_cases e:a=0
 ·rw [if_neg (by omega)] at h; exact ⟨e,h⟩
 ·rw [if_pos e] at h; exact ⟨h,by omega⟩
theorem pQ {a b:Int} (h:a=-1 ∨ a=0 ∨ a=1) (h':b=-1 ∨ b=0 ∨ b=1):gV a b=-1 ∨ gV a b=0 ∨ gV a b=1:=by
 unfold gV
 split
 ·exact h
 ·exact h'
theorem vW (a b:Int):de a b=-1 ∨ de a b=0 ∨ de a b=1:=by have:=dT a b; omega
theorem Gr (a b:ByteArray):di a b=-1 ∨ di a b=0 ∨ di a b=1:=by
 rcases d3 a b with h|h|h
 ·exact .inl h.2
 ·exact .inr (.inr h.2.2)
 ·exact .inr (.inl h.2)
theorem Ol (t u:T):hdC t u=-1 ∨ hdC t u=0 ∨ hdC t u=1:=pQ (vW _ _) (pQ (vW _ _) (pQ (vW _ _) (Gr _ _)))
mutual
theorem sS:∀ t u:T,dQ t u=-1 ∨ dQ t u=0 ∨ dQ t u=1
 | .mk k n s ks,u=>by rw [dQ]; exact pQ (Ol _ _) (Ib ks u.kids)
theorem Ib:∀ t u:List T,dR t u=-1 ∨ dR t u=0 ∨ dR t u=1
 | [],[]=>by simp [dR]
 | [],_::_=>by simp [dR]
 | _::_,[]=>by simp [dR]
 | t::ts,u::us=>by rw [dR]; exact pQ (sS t u) (Ib ts us)
end
theorem zn {t:T} (h:okO t):((t.kind=1 ∨ t.kind=2)/\t.name=emptyB/\t.kids=[]) ∨ (t.kind=3/\t.n=0):=by
 cases t
 rw [okO] at h
 exact h.1
theorem mD {t:T} (h:t.kids=[]):rkS t=t.kind:=by
 rw [rkS,h]
 simp
theorem Nu {t u:T} (ht:okO t) (hu:okO u) (h:hdC t u=0):t.kind=u.kind/\t.n=u.n/\t.name=u.name/\t.kids.length=u.kids.length:=by
 rw [hdC] at h
 obtain ⟨h1,h⟩:=mO h
 obtain ⟨h2,h⟩:=mO h
 obtain ⟨h3,h4⟩:=mO h
 have c1:=dT (rkS t) (rkS u)
 have c2:=dT t.n u.n
 have c3:=dT t.kids.length u.kids.length
 have e3:t.kids.length=u.kids.length:=by omega
 have e1:rkS t=rkS u:=by omega
 refine ⟨?_,by omega,?_,e3⟩
 ·rcases zn ht with ⟨_,_,hk⟩|⟨hk,_⟩
  ·have hk':u.kids=[]:=List.eq_nil_of_length_eq_zero (by rw [<- e3,hk]; rfl)
   rw [mD hk,mD hk'] at e1
   exact e1
  ·rcases zn hu with ⟨_,_,hk'⟩|⟨hk',_⟩
   ·have hk:t.kids=[]:=List.eq_nil_of_length_eq_zero (by rw [e3,hk']; rfl)
    rw [mD hk,mD hk'] at e1
    exact e1
   ·rw [hk,hk']
 ·rcases d3 t.name u.name with h|h|h
  ·omega
  ·omega
  ·exact h.1
mutual
theorem Ea:∀ t u:T,okO t->okO u->dQ t u=0->t=u
 | .mk k n s ks,.mk k' n' s' ks',ht,hu,h=>by
  rw [dQ] at h
  obtain ⟨h1,h2⟩:=mO h
  obtain ⟨e1,e2,e3,_⟩:=Nu ht hu h1
  rw [okO] at ht hu
  have:=Lv ks ks' ht.2 hu.2 h2
  simp only [T.kind,T.n,T.name] at e1 e2 e3
  subst e1 e2 e3 this
  rfl
theorem Lv:∀ t u:List T,qg t->qg u->dR t u=0->t=u
 | [],[],_,_,_=>rfl
 | [],_::_,_,_,h=>by simp [dR] at h
 | _::_,[],_,_,h=>by simp [dR] at h
 | t::ts,u::us,ht,hu,h=>by
  rw [dR] at h
  rw [qg] at ht hu
  obtain ⟨h1,h2⟩:=mO h
  rw [Ea t u ht.1 hu.1 h1,Lv ts us ht.2 hu.2 h2]
end
theorem DO (t:T):dQ t t=0:=by
 have:=vv t t
 omega
theorem zp {t u v:T} (h:dQ t u<0) (h':dQ u v<0):dQ t v<0:=by
 have h1:=sS t u
 have h2:=sS u v
 have:=(TC.term t u v).lt (by omega) (by omega)
 omega
/- facts in order, each once -/
def eP:List T->T->List T
 | [],t=>[t]
 | x::xs,t=>if dQ x t<0 then x::eP xs t else if eqT x t=true then x::xs else t::x::xs
def Sorted:List T->Prop
 | []=>True
 | x::xs=>(∀ y∈xs,dQ x y<0)/\Sorted xs
theorem pu {l:List T} {t y:T} (h:y∈eP l t):y∈l ∨ y=t:=by
 induction l with
 | nil=>rw [eP] at h; exact .inr (List.mem_singleton.1 h)
 | cons x xs ih=>
  rw [eP] at h
  split at h
  ·rcases List.mem_cons.1 h with h|h
   ·exact .inl (by rw [h]; exact List.mem_cons_self ..)
   ·rcases ih h with h|h
    ·exact .inl (List.mem_cons_of_mem _ h)
    ·exact .inr h
  ·split at h
   ·exact .inl h
   ·rcases List.mem_cons.1 h with h|h
    ·exact .inr h
    ·exact .inl h
theorem HH (l:List T) (t:T):t∈eP l t/\∀ y∈l,y∈eP l t:=by
 induction l with
 | nil=>simp [eP]
 | cons x xs ih=>
  rw [eP]
  split
  ·exact ⟨List.mem_cons_of_mem _ ih.1,fun y hy=>by
    rcases List.mem_cons.1 hy with rfl|hy
    ·exact List.mem_cons_self ..
    ·exact List.mem_cons_of_mem _ (ih.2 y hy)⟩
  ·split
   ·rename_i h
    rw [jJ] at h
    subst h
    exact ⟨List.mem_cons_self ..,fun y hy=>hy⟩
   ·exact ⟨List.mem_cons_self ..,fun y hy=>List.mem_cons_of_mem _ hy⟩
theorem AS (l:List T) (t:T):(eP l t).length<=l.length+1/\l.length<=(eP l t).length:=by
 induction l with
 | nil=>simp [eP]
 | cons x xs ih=>
  rw [eP]
  split
  ·simp only [List.length_cons]; omega
  ·split
   ·simp
   ·simp
theorem oL {l:List T} {t:T} (h:Sorted l) (hl:∀ x∈l,okO x) (ht:okO t):Sorted (eP l t):=by
 induction l with
 | nil=>rw [eP]; exact ⟨fun y hy=>(by cases hy),trivial⟩
 | cons x xs ih=>
  rw [Sorted] at h
  rw [eP]
  split
  ·rename_i hc
   refine ⟨fun y hy=>?_,ih h.2 fun x hx=>hl x (List.mem_cons_of_mem _ hx)⟩
   rcases pu hy with hy|rfl
   ·exact h.1 y hy
   ·exact hc
  ·split
   ·exact h
   ·rename_i hc he
    have hx:dQ t x<0:=by
     have h1:=sS x t
     have h2:=vv x t
     have h3:dQ x t≠0:=fun e=>he ((jJ _ _).2 (Ea x t (hl x (List.mem_cons_self ..)) ht e))
     omega
    refine ⟨fun y hy=>?_,h⟩
    rcases List.mem_cons.1 hy with rfl|hy
    ·exact hx
    ·exact zp hx (h.1 y hy)
theorem Sorted.nodup:∀ {l:List T},Sorted l->l.Nodup
 | [],_=>List.nodup_nil
 | x::xs,h=>by
  rw [List.nodup_cons]
  refine ⟨fun hx=>?_,Sorted.nodup h.2⟩
  have:=h.1 x hx
  rw [DO] at this
  omega

end Go.Proofs.YtemmhhdnlbmicaaGreat

/- spec.l1Compare. -/
namespace Go.Proofs.YtemmhhdnlbmicaaGreat
open Go Go.RowKit
theorem lu {a b:Int} (h:a≠0):gV a b=a:=if_pos h
theorem iN (b:Int):gV 0 b=b:=if_neg (by decide)
theorem Fo (a:Int):gV a 0=a:=by
 unfold gV
 split <;> omega
theorem iI (a:Int):de a a=0:=by have:=dT a a; omega
theorem tw {a b:Int} (h:a≠b):de a b≠0:=by have:=dT a b; omega
theorem jM (a:ByteArray):di a a=0:=by
 have:=uV a a
 omega
theorem Kx {a b:ByteArray} (h:a≠b):di a b≠0:=by
 rcases d3 a b with h1|h1|h1
 ·omega
 ·omega
 ·exact absurd h1.1 h
theorem tO (t u:T):dQ t u=gV (hdC t u) (dR t.kids u.kids):=by cases t; rw [dQ]; rfl
theorem Py {t u:T} (h:rkS t≠rkS u):dQ t u=de (rkS t) (rkS u):=by
 rw [tO,hdC,lu (tw h),lu (tw h)]
theorem FM {t:T} (h:okO t):(t.kind=1/\rkS t=1/\t.name=emptyB/\t.kids=[]) ∨ (t.kind=2/\rkS t=2/\t.name=emptyB/\t.kids=[]) ∨ (t.kind=3/\t.n=0/\(rkS t=3 ∨ rkS t=4)):=by
 rcases zn h with ⟨hk,hs,hks⟩|⟨hk,hn⟩
 ·have:=mD hks
  rcases hk with hk|hk
  ·exact .inl ⟨hk,by omega,hs,hks⟩
  ·exact .inr (.inl ⟨hk,by omega,hs,hks⟩)
 ·refine .inr (.inr ⟨hk,hn,?_⟩)
  rw [rkS]
  split
  ·exact .inr rfl
  ·exact .inl hk
theorem PO {t u:T} (ht:okO t) (hu:okO u) (h:rkS t=rkS u) (hk:t.kind≠3):dQ t u=de t.n u.n:=by
 have h1:=FM ht
 have h2:=FM hu
 have h3:t.name=emptyB/\t.kids=[]/\u.name=emptyB/\u.kids=[]:=by
  rcases h1 with h1|h1|h1
  ·rcases h2 with h2|h2|h2
   ·exact ⟨h1.2.2.1,h1.2.2.2,h2.2.2.1,h2.2.2.2⟩
   ·omega
   ·omega
  ·rcases h2 with h2|h2|h2
   ·omega
   ·exact ⟨h1.2.2.1,h1.2.2.2,h2.2.2.1,h2.2.2.2⟩
   ·omega
  ·exact absurd h1.1 hk
 rw [tO,hdC,h,iI,iN,h3.1,h3.2.1,h3.2.2.1,h3.2.2.2,iI,jM,iN,Fo,dR,Fo]
theorem N2 {t u:T} (ht:okO t) (hu:okO u) (h:rkS t=rkS u) (hk:t.kind=3):dQ t u=gV (gV (de t.kids.length u.kids.length) (di t.name u.name)) (dR t.kids u.kids):=by
 have h1:=FM ht
 have h2:=FM hu
 have h3:t.n=u.n:=by
  rcases h1 with h1|h1|h1
  ·omega
  ·omega
  ·rcases h2 with h2|h2|h2 <;> omega
 rw [tO,hdC,h,iI,iN,h3,iI,iN]
theorem On {t u:T} (ht:okO t) (hu:okO u) (h:rkS t=rkS u) (hk:t.kind=3) (hl:(t.kids.length:Int)≠u.kids.length):dQ t u=de t.kids.length u.kids.length:=by
 rw [N2 ht hu h hk,lu (tw hl),lu (tw hl)]
theorem NR {t u:T} (ht:okO t) (hu:okO u) (h:rkS t=rkS u) (hk:t.kind=3) (hl:(t.kids.length:Int)=u.kids.length) (hn:t.name≠u.name):dQ t u=di t.name u.name:=by
 rw [N2 ht hu h hk,hl,iI,iN,lu (Kx hn)]
theorem Oa {t u:T} (ht:okO t) (hu:okO u) (h:rkS t=rkS u) (hk:t.kind=3) (hl:(t.kids.length:Int)=u.kids.length) (hn:t.name=u.name):dQ t u=dR t.kids u.kids:=by
 rw [N2 ht hu h hk,hl,iI,iN,hn,jM,iN]
theorem Dk (ts us:List T) (j:Nat) (h:j<ts.length) (h':j<us.length):dR (ts.drop j) (us.drop j)=gV (dQ ts[j] us[j]) (dR (ts.drop (j+1)) (us.drop (j+1))):=by
 rw [List.drop_eq_getElem_cons h,List.drop_eq_getElem_cons h',dR]
theorem pv:∀ {ts:List T},qg ts->∀ t∈ts,okO t
 | _::_,h,t,ht=>by
  rcases List.mem_cons.1 ht with rfl|ht
  ·exact h.1
  ·exact pv h.2 t ht
section
variable {P:Program} {w:World} {K:Value->World->Prop}
attribute [local irreducible] Run
theorem Oe {T:TypeId} {cx cy:Bool} {a b:ByteArray} (hk:K (.bool (bls a b)) w):Run P (aq .lss T cx cy (.string a) (.string b)) w K:=by
 refine Run.of ?_ hk
 simp only [aq,binOp,Op.stringOp,Sem.run_bind,je,Result.andThen_ok,Sem.run_pure,bls]
theorem NM {T:TypeId} {cx cy:Bool} {a b:ByteArray} (hk:K (.bool (!(bls a b || decide (a=b)))) w):Run P (aq .gtr T cx cy (.string a) (.string b)) w K:=by
 refine Run.of ?_ hk
 rw [<- tp]
 simp only [aq,binOp,Op.stringOp,Sem.run_bind,je,Result.andThen_ok,Sem.run_pure,bls]
end
section
attribute [local irreducible] Run CondV ag be
theorem nj (a b:Int) (S:aF):Pure Tryz.prog IX [.int .i64 a,.int .i64 b] S (.int .i64 (de a b)):=by
 intro w hI
 refine Bt ?_
 unfold yf
 refine bU ?_
 refine bk (fun h=>done hI (by rw [de,if_pos h])) (fun h=>?_)
 refine dX ?_
 exact bk (fun h'=>done hI (by rw [de,if_neg h,if_pos h'])) (fun h'=>done hI (by rw [de,if_neg h,if_neg h']))
theorem zD (a b:ByteArray) (S:aF):Pure Tryz.prog E7 [.string a,.string b] S (.int .i64 (di a b)):=by
 intro w hI
 refine vS ?_
 unfold qV
 refine Oe ?_
 refine ba (fun h=>done hI (by rw [di,if_pos h])) (fun h=>?_)
 refine NM ?_
 rw [h,Bool.false_or]
 refine ba (fun h'=>done hI ?_) (fun h'=>done hI ?_)
 ·rw [Bool.not_eq_true',decide_eq_false_iff_not] at h'
  rcases d3 a b with h1|h1|h1
  ·rw [h1.1] at h; cases h
  ·rw [h1.2.2]
  ·exact absurd h1.1 h'
 ·rw [Bool.not_eq_false',decide_eq_true_eq] at h'
  rw [h',jM]
theorem jC {t:T} {S:aF} {cs:List Value} (h:RdT S cs t):Pure Tryz.prog IW [.agg cs.toArray] S (.int .i64 (rkS t)):=by
 intro w hI
 obtain ⟨kv,rfl,_,_,_,hks⟩:=RdT.iff.1 h
 refine AO ?_
 unfold xH
 refine bO hI fun b1 w' hI=>?_
 refine ⟨fun v w'=>v=.bool (decide (t.kind=3) && decide (0<t.kids.length))/\Inv w [] [.blk b1 (.cells #[.int .i64 t.kind,.int .i64 t.n,.string t.name,kv] ac)] S w',?_,?_⟩
 ·refine aJ hI 0 rfl bD bn rfl ?_
  refine bR ?_
  by_cases h3:t.kind=3
  ·rw [decide_eq_true h3]
   repeat (first|refine ad ?_|refine af (by decide) ?_|refine ab ?_|refine ai ?_|refine ah ?_)
   refine aJ hI 0 rfl aS aQ rfl ?_
   refine a9 hks av ?_
   refine dX ?_
   repeat (first|refine ad ?_|refine af (by decide) ?_|refine ab ?_|refine ai ?_|refine ah ?_)
   refine ⟨?_,hI⟩
   rw [Bool.true_and]
   congr 1
   rw [Bool.eq_iff_iff]
   simp only [decide_eq_true_eq]
   omega
  ·rw [decide_eq_false h3]
   repeat (first|refine ad ?_|refine af (by decide) ?_|refine ab ?_|refine ai ?_|refine ah ?_)
   exact ⟨rfl,hI⟩
 intro v _ _ _ _ _ _ _ _ w'
 rintro ⟨rfl,hI⟩
 refine ba (fun hb=>done hI ?_) (fun hb=>?_)
 ·simp only [Bool.and_eq_true,decide_eq_true_eq] at hb
  rw [rkS,if_pos hb]
 ·refine aJ hI 0 rfl bD bn rfl ?_
  refine done hI ?_
  have:¬ (t.kind=3/\0<t.kids.length):=by
   intro h
   rw [decide_eq_true h.1,decide_eq_true h.2] at hb
   cases hb
  rw [rkS,if_neg this]; rfl
theorem yS:∀ (t u:T) (S:aF) (cs ds:List Value),RdT S cs t->RdT S ds u->okO t->okO u->Pure Tryz.prog CG [.agg cs.toArray,.agg ds.toArray] S (.int .i64 (dQ t u)):=by
 refine T.ind fun k n s ks ih u S cs ds h h' ht hu=>?_
 intro w hI
 have hcs:=h
 have hds:=h'
 obtain ⟨kv,rfl,_,_,_,hks⟩:=RdT.iff.1 h
 obtain ⟨kv',rfl,_,_,_,hks'⟩:=RdT.iff.1 h'
 obtain ⟨k',n',s',ks'⟩:=u
 simp only [T.name,T.kids,T.kind,T.n] at hks hks' ⊢
 have hlen:=hks.le
 simp only [maxLen] at hlen
 refine sT ?_
 unfold pk
 refine bO hI fun b1 w' hI=>?_
 refine bO hI fun b2 w' hI=>?_
 have hI:Inv w [] [.blk b1 (.cells #[.int .i64 k,.int .i64 n,.string s,kv] ac),.blk b2 (.cells #[.int .i64 k',.int .i64 n',.string s',kv'] ac)] S w':=hI
 refine ⟨fun D gn gl x9 x8 x7 w_=>(D 0=true->x7=.agg #[.int .i64 k,.int .i64 n,.string s,kv])/\(D 1=true->x8=.int .i64 (rkS (.mk k n s ks)))/\(D 2=true->x9=.agg #[.int .i64 k',.int .i64 n',.string s',kv'])/\(D 3=true->gl=.int .i64 (rkS (.mk k' n' s' ks')))/\(D 4=true->gn=.bool (!decide (rkS (.mk k n s ks)=rkS (.mk k' n' s' ks'))))/\Inv w [] [.blk b1 (.cells #[.int .i64 k,.int .i64 n,.string s,kv] ac),.blk b2 (.cells #[.int .i64 k',.int .i64 n',.string s',kv'] ac)] S w_,⟨ae,ae,ae,ae,ae,hI.draw⟩,⟨?_,?_,?_,?_,?_,trivial⟩,?_⟩
 ·intro D aY  gn gl x9 x8 x7 w_
  rintro ⟨az,ay,aA,aB,aw,hI⟩
  refine bb hI 0 al rfl rfl ?_
  exact ⟨fun _=>rfl,ay,aA,aB,aw,hI⟩
 ·intro D aY ce gn gl x9 x8 x7 w_
  rintro ⟨az,ay,aA,aB,aw,hI⟩
  obtain rfl:=az ce
  refine Run.callPure kX lg hI (jC hcs) fun w_ hI=>?_
  exact ⟨az,fun _=>rfl,aA,aB,aw,hI⟩
 ·intro D aY  gn gl x9 x8 x7 w_
  rintro ⟨az,ay,aA,aB,aw,hI⟩
  refine bb hI 1 al rfl rfl ?_
  exact ⟨az,ay,fun _=>rfl,aB,aw,hI⟩
 ·intro D aY ev iL gn gl x9 x8 x7 w_
  rintro ⟨az,ay,aA,aB,aw,hI⟩
  obtain rfl:=aA ev
  refine Run.callPure kX lg hI (jC hds) fun w_ hI=>?_
  exact ⟨az,ay,aA,fun _=>rfl,aw,hI⟩
 ·intro D aY dI nl gn gl x9 x8 x7 w_
  rintro ⟨az,ay,aA,aB,aw,hI⟩
  obtain rfl:=ay dI
  obtain rfl:=aB nl
  refine gr ?_
  exact ⟨az,ay,aA,aB,fun _=>rfl,hI⟩
 intro D fF fI fK fL fN gn gl x9 x8 x7 w_
 rintro ⟨az,ay,aA,aB,aw,hI⟩
 obtain rfl:=aw fF
 obtain rfl:=aB fI
 obtain rfl:=aA fK
 obtain rfl:=ay fL
 obtain rfl:=az fN
 clear az ay aA aB aw
 refine ba (fun hb=>?_) (fun hb=>?_)
 ·simp only [Bool.not_eq_true',decide_eq_false_iff_not] at hb
  rw [Py hb]
  refine ⟨fun D x4 dC ey eU eE eD w_=>(D 0=true->eD=.agg #[.int .i64 k,.int .i64 n,.string s,kv])/\(D 1=true->eE=.int .i64 (rkS (.mk k n s ks)))/\(D 2=true->eU=.agg #[.int .i64 k',.int .i64 n',.string s',kv'])/\(D 3=true->ey=.int .i64 (rkS (.mk k' n' s' ks')))/\(D 4=true->dC=.int .i64 (de (rkS (.mk k n s ks)) (rkS (.mk k' n' s' ks'))))/\(D 5=true->x4=.int .i64 (de (rkS (.mk k n s ks)) (rkS (.mk k' n' s' ks'))))/\Inv w [] [.blk b1 (.cells #[.int .i64 k,.int .i64 n,.string s,kv] ac),.blk b2 (.cells #[.int .i64 k',.int .i64 n',.string s',kv'] ac)] S w_,⟨ae,ae,ae,ae,ae,ae,hI.draw⟩,⟨?_,?_,?_,?_,?_,?_,trivial⟩,?_⟩
  ·intro D aY  x4 dC ey eU eE eD w_
   rintro ⟨az,ay,aA,aB,aw,aD,hI⟩
   refine bb hI 0 al rfl rfl ?_
   exact ⟨fun _=>rfl,ay,aA,aB,aw,aD,hI⟩
  ·intro D aY ce x4 dC ey eU eE eD w_
   rintro ⟨az,ay,aA,aB,aw,aD,hI⟩
   obtain rfl:=az ce
   refine Run.callPure kX lg hI (jC hcs) fun w_ hI=>?_
   exact ⟨az,fun _=>rfl,aA,aB,aw,aD,hI⟩
  ·intro D aY  x4 dC ey eU eE eD w_
   rintro ⟨az,ay,aA,aB,aw,aD,hI⟩
   refine bb hI 1 al rfl rfl ?_
   exact ⟨az,ay,fun _=>rfl,aB,aw,aD,hI⟩
  ·intro D aY ev iL x4 dC ey eU eE eD w_
   rintro ⟨az,ay,aA,aB,aw,aD,hI⟩
   obtain rfl:=aA ev
   refine Run.callPure kX lg hI (jC hds) fun w_ hI=>?_
   exact ⟨az,ay,aA,fun _=>rfl,aw,aD,hI⟩
  ·intro D aY dI nl Oc x4 dC ey eU eE eD w_
   rintro ⟨az,ay,aA,aB,aw,aD,hI⟩
   obtain rfl:=ay dI
   obtain rfl:=aB nl
   refine Run.callPure oD pW hI (nj _ _ S) fun w_ hI=>?_
   exact ⟨az,ay,aA,aB,fun _=>rfl,aD,hI⟩
  ·intro D aY cK dS qK wn wF wJ vh x4 dC ey eU eE eD w_
   rintro ⟨az,ay,aA,aB,aw,aD,hI⟩
   obtain rfl:=aw cK
   exact ⟨az,ay,aA,aB,aw,fun _=>rfl,hI⟩
  intro D fM fF fI fK fL fN x4 dC ey eU eE eD w_
  rintro ⟨az,ay,aA,aB,aw,aD,hI⟩
  obtain rfl:=aD fM
  obtain rfl:=aw fF
  obtain rfl:=aB fI
  obtain rfl:=aA fK
  obtain rfl:=ay fL
  obtain rfl:=az fN
  clear az ay aA aB aw aD
  exact done hI rfl
 have hrk:rkS (.mk k n s ks)=rkS (.mk k' n' s' ks'):=by simpa using hb
 refine aJ hI 0 rfl bD bn rfl ?_
 refine gr ?_
 refine ba (fun hb=>?_) (fun hb=>?_)
 ·have hk:k≠3:=by simpa using hb
  rw [PO ht hu hrk hk]
  refine aJ hI 0 rfl bI bn rfl ?_
  refine aJ hI 1 rfl bI bn rfl ?_
  refine Run.callPure oD pW hI (nj _ _ S) fun w' hI=>?_
  exact done hI rfl
 have hk:k=3:=by simpa using hb
 refine aJ hI 0 rfl aS aQ rfl ?_
 refine a9 hks av ?_
 refine aJ hI 1 rfl aS aQ rfl ?_
 refine a9 hks' av ?_
 refine gr ?_
 refine ba (fun hb=>?_) (fun hb=>?_)
 ·have hl:(ks.length:Int)≠ks'.length:=by simpa using hb
  rw [On ht hu hrk hk hl]
  refine aJ hI 0 rfl aS aQ rfl ?_
  refine a9 hks av ?_
  refine aJ hI 1 rfl aS aQ rfl ?_
  refine a9 hks' av ?_
  refine Run.callPure oD pW hI (nj _ _ S) fun w' hI=>?_
  exact done hI rfl
 have hl:(ks.length:Int)=ks'.length:=by simpa using hb
 refine aJ hI 0 rfl bo bm rfl ?_
 refine aJ hI 1 rfl bo bm rfl ?_
 refine vI ?_
 refine ba (fun hb=>?_) (fun hb=>?_)
 ·have hn:s≠s':=by simpa using hb
  rw [NR ht hu hrk hk hl hn]
  refine aJ hI 0 rfl bo bm rfl ?_
  refine aJ hI 1 rfl bo bm rfl ?_
  refine Run.callPure Cc C9 hI (zD _ _ S) fun w' hI=>?_
  exact done hI rfl
 have hn:s=s':=by simpa using hb
 have hck:dQ (.mk k n s ks) (.mk k' n' s' ks')=dR ks ks':=Oa ht hu hrk hk hl hn
 rw [hck]
 rw [okO] at ht hu
 have htk:=ht.2
 have huk:=hu.2
 refine ⟨fun i w'=>∃ j:Nat,j<=ks.length/\i=.int .i64 j/\dR (ks.drop j) (ks'.drop j)=dR ks ks'/\Inv w [] [.blk b1 (.cells #[.int .i64 k,.int .i64 n,.string s,kv] ac),.blk b2 (.cells #[.int .i64 k',.int .i64 n',.string s',kv'] ac)] S w',
  fun i _=>ks.length - (intOf i).toNat,⟨0,Nat.zero_le _,rfl,rfl,hI⟩,?_⟩
 intro t5 _ _ _ _ _ _ _ _ _ _ _ _ _ _ _ _ _ _ _ _ _ _ _ w'
 rintro ⟨j,hj,rfl,hrel,hI⟩
 refine aJ hI 0 rfl aS aQ rfl ?_
 refine a9 hks av ?_
 refine bU ?_
 refine bk (fun hji=>?_) (fun hji=>?_)
 ·have hj1:j<ks.length:=by omega
  have hj2:j<ks'.length:=by omega
  rw [Dk ks ks' j hj1 hj2] at hrel
  obtain ⟨c1,o1,cap1,cc1,E1,fz1,rfl,hS1,hR1⟩:=hks.at_ hj1
  obtain ⟨c2,o2,cap2,cc2,E2,fz2,rfl,hS2,hR2⟩:=hks'.at_ hj2
  have hcall:=ih _ (List.getElem_mem hj1) ks'[j] S _ _ hR1 hR2 (pv htk _ (List.getElem_mem hj1)) (pv huk _ (List.getElem_mem hj2))
  refine ⟨fun D x6 eM cG cL ch cM cP cR cN cS cQ cO w_=>(D 0=true->cO=.pointer (some ⟨b1,3,none⟩))/\(D 1=true->cQ=.slice (some ⟨c1,o1,none⟩) ks.length cap1)/\(D 2=true->cS=.int .i64 j)/\(D 3=true->cN=.pointer (some ⟨c1,o1+j * 4,none⟩))/\(D 4=true->cR=.agg (bv cc1 (o1+j * 4) 4).toArray)/\(D 5=true->cP=.pointer (some ⟨b2,3,none⟩))/\(D 6=true->cM=.slice (some ⟨c2,o2,none⟩) ks'.length cap2)/\(D 7=true->ch=.int .i64 j)/\(D 8=true->cL=.pointer (some ⟨c2,o2+j * 4,none⟩))/\(D 9=true->cG=.agg (bv cc2 (o2+j * 4) 4).toArray)/\(D 10=true->eM=.int .i64 (dQ ks[j] ks'[j]))/\(D 11=true->x6=.int .i64 (dQ ks[j] ks'[j]))/\Inv w [] [.blk b1 (.cells #[.int .i64 k,.int .i64 n,.string s,.slice (some ⟨c1,o1,none⟩) ks.length cap1] ac),.blk b2 (.cells #[.int .i64 k',.int .i64 n',.string s',.slice (some ⟨c2,o2,none⟩) ks'.length cap2] ac)] S w_,⟨ae,ae,ae,ae,ae,ae,ae,ae,ae,ae,ae,ae,hI.draw⟩,⟨?_,?_,?_,?_,?_,?_,?_,?_,?_,?_,?_,?_,trivial⟩,?_⟩
  ·intro D aY  x6 eM cG cL ch cM cP cR cN cS cQ cO w_
   rintro ⟨az,ay,aA,aB,aw,aD,aE,aI,aL,aP,aj,ao,hI⟩
   refine bg aS ?_
   exact ⟨fun _=>rfl,ay,aA,aB,aw,aD,aE,aI,aL,aP,aj,ao,hI⟩
  ·intro D aY ce x6 eM cG cL ch cM cP cR cN cS cQ cO w_
   rintro ⟨az,ay,aA,aB,aw,aD,aE,aI,aL,aP,aj,ao,hI⟩
   obtain rfl:=az ce
   refine bE hI 0 aQ rfl rfl ?_
   exact ⟨az,fun _=>rfl,aA,aB,aw,aD,aE,aI,aL,aP,aj,ao,hI⟩
  ·intro D aY  x6 eM cG cL ch cM cP cR cN cS cQ cO w_
   rintro ⟨az,ay,aA,aB,aw,aD,aE,aI,aL,aP,aj,ao,hI⟩
   exact ⟨az,ay,fun _=>rfl,aB,aw,aD,aE,aI,aL,aP,aj,ao,hI⟩
  ·intro D aY dI gJ x6 eM cG cL ch cM cP cR cN cS cQ cO w_
   rintro ⟨az,ay,aA,aB,aw,aD,aE,aI,aL,aP,aj,ao,hI⟩
   obtain rfl:=ay dI
   obtain rfl:=aA gJ
   refine bh av hj1 ?_
   exact ⟨az,ay,aA,fun _=>rfl,aw,aD,aE,aI,aL,aP,aj,ao,hI⟩
  ·intro D aY dF x6 eM cG cL ch cM cP cR cN cS cQ cO w_
   rintro ⟨az,ay,aA,aB,aw,aD,aE,aI,aL,aP,aj,ao,hI⟩
   obtain rfl:=aB dF
   refine cJ al hR1.length (fun j v hj=>by rw [hI.cellS hS1]; exact bl rfl j v hj) ?_
   exact ⟨az,ay,aA,aB,fun _=>rfl,aD,aE,aI,aL,aP,aj,ao,hI⟩
  ·intro D aY  x6 eM cG cL ch cM cP cR cN cS cQ cO w_
   rintro ⟨az,ay,aA,aB,aw,aD,aE,aI,aL,aP,aj,ao,hI⟩
   refine bg aS ?_
   exact ⟨az,ay,aA,aB,aw,fun _=>rfl,aE,aI,aL,aP,aj,ao,hI⟩
  ·intro D aY dV x6 eM cG cL ch cM cP cR cN cS cQ cO w_
   rintro ⟨az,ay,aA,aB,aw,aD,aE,aI,aL,aP,aj,ao,hI⟩
   obtain rfl:=aD dV
   refine bE hI 1 aQ rfl rfl ?_
   exact ⟨az,ay,aA,aB,aw,aD,fun _=>rfl,aI,aL,aP,aj,ao,hI⟩
  ·intro D aY  x6 eM cG cL ch cM cP cR cN cS cQ cO w_
   rintro ⟨az,ay,aA,aB,aw,aD,aE,aI,aL,aP,aj,ao,hI⟩
   exact ⟨az,ay,aA,aB,aw,aD,aE,fun _=>rfl,aL,aP,aj,ao,hI⟩
  ·intro D aY c9 jL x6 eM cG cL ch cM cP cR cN cS cQ cO w_
   rintro ⟨az,ay,aA,aB,aw,aD,aE,aI,aL,aP,aj,ao,hI⟩
   obtain rfl:=aE c9
   obtain rfl:=aI jL
   refine bh av hj2 ?_
   exact ⟨az,ay,aA,aB,aw,aD,aE,aI,fun _=>rfl,aP,aj,ao,hI⟩
  ·intro D aY iM x6 eM cG cL ch cM cP cR cN cS cQ cO w_
   rintro ⟨az,ay,aA,aB,aw,aD,aE,aI,aL,aP,aj,ao,hI⟩
   obtain rfl:=aL iM
   refine cJ al hR2.length (fun j v hj=>by rw [hI.cellS hS2]; exact bl rfl j v hj) ?_
   exact ⟨az,ay,aA,aB,aw,aD,aE,aI,aL,fun _=>rfl,aj,ao,hI⟩
  ·intro D aY cK fw x6 eM cG cL ch cM cP cR cN cS cQ cO w_
   rintro ⟨az,ay,aA,aB,aw,aD,aE,aI,aL,aP,aj,ao,hI⟩
   obtain rfl:=aw cK
   obtain rfl:=aP fw
   refine Run.callPure pe pi hI hcall fun w_ hI=>?_
   exact ⟨az,ay,aA,aB,aw,aD,aE,aI,aL,aP,fun _=>rfl,ao,hI⟩
  ·intro D aY gH mQ qK wn wF wJ vh Bl AA FC Dd Dm vQ x6 eM cG cL ch cM cP cR cN cS cQ cO w_
   rintro ⟨az,ay,aA,aB,aw,aD,aE,aI,aL,aP,aj,ao,hI⟩
   obtain rfl:=aj gH
   exact ⟨az,ay,aA,aB,aw,aD,aE,aI,aL,aP,aj,fun _=>rfl,hI⟩
  intro D ft fm iW gN f0 f1 fM fF fI fK fL fN x6 eM cG cL ch cM cP cR cN cS cQ cO w_
  rintro ⟨az,ay,aA,aB,aw,aD,aE,aI,aL,aP,aj,ao,hI⟩
  obtain rfl:=ao ft
  obtain rfl:=aj fm
  obtain rfl:=aP iW
  obtain rfl:=aL gN
  obtain rfl:=aI f0
  obtain rfl:=aE f1
  obtain rfl:=aD fM
  obtain rfl:=aw fF
  obtain rfl:=aB fI
  obtain rfl:=aA fK
  obtain rfl:=ay fL
  obtain rfl:=az fN
  clear az ay aA aB aw aD aE aI aL aP aj ao
  refine gr ?_
  refine ba (fun hb=>done hI ?_) (fun hb=>?_)
  ·have hne:dQ ks[j] ks'[j]≠0:=by simpa using hb
   rw [<- hrel,lu hne]
  ·have he:dQ ks[j] ks'[j]=0:=by simpa using hb
   rw [he,iN] at hrel
   refine bP (by omega) ?_
   exact ⟨⟨j+1,hj1,rfl,hrel,hI⟩,by simp [intOf]; omega⟩
 ·have e1:ks.drop j=[]:=List.drop_eq_nil_of_le (by omega)
  have e2:ks'.drop j=[]:=List.drop_eq_nil_of_le (by omega)
  refine done hI ?_
  rw [<- hrel,e1,e2,dR]
end

end Go.Proofs.YtemmhhdnlbmicaaGreat

/- slices.Delete on a tree of the function's own. -/
namespace Go.Proofs.YtemmhhdnlbmicaaGreat
open Go Go.RowKit
section
variable {P:Program} {w w0:World} {X:List Nat} {L:List Item} {S:aF} {K:Value->World->Prop}
attribute [local irreducible] Run CondV ag be
/- append within the room of a block -/
end
end Go.Proofs.YtemmhhdnlbmicaaGreat

/- slices.Clone and slices.DeleteFunc of terms. -/
namespace Go.Proofs.YtemmhhdnlbmicaaGreat
open Go Go.RowKit

section
variable {P:Program} {w w0:World} {X:List Nat} {L:List Item} {S:aF} {K:Value->World->Prop}
attribute [local irreducible] Run CondV ag be
theorem Oy {T e:TypeId} {k n c:Nat} {cx cy:Bool} {a:Option Addr} (hT:dD P T=some (e,k)) (hk:K (.bool a.isNone) w):Run P (aq .eql T cx cy (.slice a n c) (.slice none 0 0)) w K:=by
 obtain ⟨hu,_⟩:=gF hT
 refine Run.of (v:=.bool a.isNone) (w':=w) ?_ hk
 have he:(Op.equal T (.slice a n c) (.slice none 0 0)).run P w=.ok a.isNone w:=by
  rw [Op.equal,Op.maxDepth,Op.equalIn.eq_def]
  cases a <;> simp [run_underlying hu]
 have hg:∀ x y,(eqGuard .eql T x y (.slice a n c) (.slice none 0 0)).run P w=.ok () w:=fun x y=>by unfold eqGuard; simp
 simp only [aq,binOp,Sem.run_bind,hg,Result.andThen_ok,he,Sem.run_pure]
theorem Run.callVPure {f:FuncId} {fn:Func} {cap args:List Value} {r:Value} (hf:P.funcs[f]?=some fn) (hn:(fn.name == "runtime.NumGoroutine" || fn.body.isNone)=false) (h:Inv w0 X L S w) (hc:Pure P f (args++cap) S r)
  (hk:∀ w',Inv w0 X L S w'->K r w'):Run P (aG (fv f cap) args) w K:=by
 refine Run.callV (A:=L) (I:=[]) hf hn (by simpa using h) (Post:=fun v I' S'=>v=r/\I'=[]/\S'=S) ?_ fun v' I' S' w'=>?_
 ·intro w1 hI
  exact (hc w1 hI).mono fun e w' ⟨he,hI⟩=>⟨_,_,_,he,hI,Ext.refl _ _ _,rfl,rfl,rfl⟩
 ·rintro ⟨rfl,rfl,rfl⟩ _ hI
  exact hk _ (by simpa using hI)
end
section
attribute [local irreducible] Run CondV ag be
theorem vq {xs:List T} {S:aF} {v:Value} (h:RdSl S 4 (RdT S) v xs) (hl:xs.length<=4000000000):Tri Tryz.prog Aj [v] [] S fun r I' S'=>S'=S/\∃ css,I'=[bj r ac 4 css]/\Rows 4 (RdT S) css xs:=by
 intro w hI
 obtain ⟨a,cap,rfl,hlc,hcm,hx⟩:=id h
 refine r9 ?_
 unfold nr
 refine Oy av ?_
 cases a with
 | none=>
  refine ba (fun _=>?_) (fun hb=>by cases hb)
  rcases hx with rfl|⟨b,o,c,E,fz,hc,_⟩
  ·exact ⟨_,_,_,rfl,hI.rowNil ac 4,Ext.refl _ _ _,rfl,[],rfl,Rows.nil _ _⟩
  ·cases hc
 | some a=>
  refine ba (fun hb=>by cases hb) (fun _=>?_)
  refine fk hI bM fun v0 w' hI=>?_
  refine kr (css:=[]) hI 0 bM (by omega) rfl h (fun _ _=>RdT.length) (fun _ _=>RdT.one) (by simp; omega) (by omega) fun v1 w' css2 hR hI=>?_
  exact ⟨_,_,_,rfl,hI,Ext.refl _ _ _,rfl,css2,rfl,hR⟩
end

end Go.Proofs.YtemmhhdnlbmicaaGreat

/- impl.compare: the standard order. -/
namespace Go.Proofs.YtemmhhdnlbmicaaGreat
open Go Go.RowKit
def rkI (t:T):Int:=if t.kind=1 then 0 else if t.kind=2 then 1 else if t.kids.length=0 then 2 else 3
theorem NZ {t:T} (h:okO t):rkI t=rkS t - 1:=by
 rcases zn h with ⟨hk,_,hks⟩|⟨hk,_⟩
 ·rw [mD hks]
  rcases hk with hk|hk
  ·rw [rkI,if_pos hk]; omega
  ·rw [rkI,if_neg (by omega),if_pos hk]; omega
 ·rw [rkI,if_neg (by omega),if_neg (by omega),rkS]
  by_cases h0:t.kids.length=0
  ·rw [if_pos h0,if_neg (by omega)]; omega
  ·rw [if_neg h0,if_pos ⟨hk,by omega⟩]; rfl
def orL:List Int->Int
 | []=>0
 | x::xs=>gV x (orL xs)
theorem JF (a b c:Int):gV (gV a b) c=gV a (gV b c):=by
 unfold gV
 by_cases h:a=0
 ·subst h; simp
 ·simp [h]
theorem O9 {t u:T} (ht:okO t) (hu:okO u):orL [de (rkI t) (rkI u),de t.n u.n,de t.kids.length u.kids.length,di t.name u.name,dR t.kids u.kids]=dQ t u:=by
 have e:de (rkI t) (rkI u)=de (rkS t) (rkS u):=by
  rw [NZ ht,NZ hu]
  have h1:=dT (rkS t - 1) (rkS u - 1)
  have h2:=dT (rkS t) (rkS u)
  omega
 rw [e,tO,hdC]
 simp only [orL,Fo,JF]
section
variable {P:Program} {w w0:World} {X:List Nat} {L:List Item} {S:aF} {K:Value->World->Prop}
attribute [local irreducible] Run CondV ag be
theorem Od (h:Inv w0 X L S w) {a b c d e:Int}
  (hk:∀ b5 w',Inv w0 X (L++[.blk b5 (.cells #[.int .i64 a,.int .i64 b,.int .i64 c,.int .i64 d,.int .i64 e] fx)]) S w'->K (.slice (some ⟨b5,0,none⟩) 5 5) w') :
  Run Tryz.prog (aT rX 5 [(0,.int .i64 a),(1,.int .i64 b),(2,.int .i64 c),(3,.int .i64 d),(4,.int .i64 e)]) w K:=by
 obtain ⟨hu,i,hi,hz,hs,hb,hzs⟩:=iw p9
 refine Run.of (v:=.slice (some ⟨w.heap.size,0,none⟩) 5 5) (w':={ w with heap:=w.heap.push (.cells #[.int .i64 a,.int .i64 b,.int .i64 c,.int .i64 d,.int .i64 e] fx) }) ?_ (hk _ _ (h.alloc _))
 have hbase:(Array.range 5).map ((Value.int .i64 0).cells[· % (Value.int .i64 0).cells.size]!)=#[.int .i64 0,.int .i64 0,.int .i64 0,.int .i64 0,.int .i64 0]:=by kernel_rfl
 have hf:Instr.fill (fun i=>some (i,1)) ((Array.range 5).map ((Value.int .i64 0).cells[· % (Value.int .i64 0).cells.size]!)) [(0,.int .i64 a),(1,.int .i64 b),(2,.int .i64 c),(3,.int .i64 d),(4,.int .i64 e)]=some #[.int .i64 a,.int .i64 b,.int .i64 c,.int .i64 d,.int .i64 e]:=by
  rw [hbase]; rfl
 simp [aT,Instr.buildSlice,run_underlying hu,sizeOf,typeInfo,hi,hs,zeroValue,hz,hf,newRow,newObj,Sem.run]
end
section
attribute [local irreducible] Run CondV ag be
theorem no (a:Int) (S:aF):Pure Tryz.prog CS [.int .i64 a] S (.bool false):=by
 intro w hI
 refine uK ?_
 unfold px
 refine gr (done hI ?_)
 simp
theorem kq (a:ByteArray) (S:aF):Pure Tryz.prog vi [.string a] S (.bool false):=by
 intro w hI
 refine ow ?_
 unfold ld
 refine vI (done hI ?_)
 simp
theorem ia (a b:Int) (S:aF):Pure Tryz.prog yE [.int .i64 a,.int .i64 b] S (.int .i64 (de a b)):=by
 intro w hI
 refine qo ?_
 unfold mg
 refine Run.callPure oU pw hI (no a S) fun w' hI=>?_
 refine Run.callPure oU pw hI (no b S) fun w' hI=>?_
 refine ba (fun hb=>by cases hb) (fun _=>?_)
 refine ba (fun hb=>by cases hb) (fun _=>?_)
 refine bU ?_
 refine bk (fun h=>done hI (by rw [de,if_pos h])) (fun h=>?_)
 refine dX ?_
 exact bk (fun h'=>done hI (by rw [de,if_neg h,if_pos h'])) (fun h'=>done hI (by rw [de,if_neg h,if_neg h']))
theorem pb (a b:ByteArray) (S:aF):Pure Tryz.prog r3 [.string a,.string b] S (.int .i64 (di a b)):=by
 intro w hI
 refine mY ?_
 unfold js
 refine Run.callPure kV lO hI (kq a S) fun w' hI=>?_
 refine Run.callPure kV lO hI (kq b S) fun w' hI=>?_
 refine ba (fun hb=>by cases hb) (fun _=>?_)
 refine ba (fun hb=>by cases hb) (fun _=>?_)
 refine Oe ?_
 refine ba (fun h=>done hI (by rw [di,if_pos h])) (fun h=>?_)
 refine NM ?_
 rw [h,Bool.false_or]
 refine ba (fun h'=>done hI ?_) (fun h'=>done hI ?_)
 ·rw [Bool.not_eq_true',decide_eq_false_iff_not] at h'
  rcases d3 a b with h1|h1|h1
  ·rw [h1.1] at h; cases h
  ·rw [h1.2.2]
  ·exact absurd h1.1 h'
 ·rw [Bool.not_eq_false',decide_eq_true_eq] at h'
  rw [h',jM]
theorem z6 {t:T} {S:aF} {cs:List Value} (h:RdT S cs t) (_:okO t):Pure Tryz.prog M0 [.agg cs.toArray] S (.int .i64 (rkI t)):=by
 intro w hI
 obtain ⟨kv,rfl,_,_,_,hks⟩:=RdT.iff.1 h
 refine EM ?_
 unfold DM
 refine bO hI fun b1 w' hI=>?_
 refine aJ hI 0 rfl bD bn rfl ?_
 refine bR ?_
 refine bk (fun h1=>done hI (by rw [rkI,if_pos (show t.kind=1 from h1)])) (fun h1=>?_)
 refine aJ hI 0 rfl bD bn rfl ?_
 refine bR ?_
 refine bk (fun h2=>done hI (by rw [rkI,if_neg (show ¬ t.kind=1 from h1),if_pos (show t.kind=2 from h2)])) (fun h2=>?_)
 refine aJ hI 0 rfl aS aQ rfl ?_
 refine a9 hks av ?_
 refine bR ?_
 exact bk (fun h3=>done hI (by rw [rkI,if_neg (show ¬ t.kind=1 from h1),if_neg (show ¬ t.kind=2 from h2),if_pos (by omega)])) (fun h3=>done hI (by rw [rkI,if_neg (show ¬ t.kind=1 from h1),if_neg (show ¬ t.kind=2 from h2),if_neg (by omega)]))
theorem Nn {l:List Int} {S:aF} {v:Value} (h:RdSl S 1 pE v l):Pure Tryz.prog KL [v] S (.int .i64 (orL l)):=by
 intro w hI
 have hlen:=h.le
 simp only [maxLen] at hlen
 refine AW ?_
 unfold xc
 refine a9 h fU ?_
 refine ⟨fun i w'=>∃ j:Nat,j<=l.length/\i=.int .i64 j/\orL (l.drop j)=orL l/\Inv w [] [] S w',fun i _=>l.length - (intOf i).toNat,⟨0,Nat.zero_le _,rfl,rfl,hI⟩,?_⟩
 intro t8 _ _ _ _ _ _ _ _ _ _ w'
 rintro ⟨j,hj,rfl,hrel,hI⟩
 refine bU ?_
 refine bk (fun hji=>?_) (fun hji=>?_)
 ·have hj':j<l.length:=by omega
  rw [List.drop_eq_getElem_cons hj',orL] at hrel
  refine jD hI h fU bn hj' (fun cs hcs=>hcs) ?_
  refine gr ?_
  refine ba (fun hb=>done hI ?_) (fun hb=>?_)
  ·have hne:l[j]≠0:=by simpa using hb
   rw [<- hrel,lu hne]
  ·have he:l[j]=0:=by simpa using hb
   rw [he,iN] at hrel
   refine bP (by omega) ?_
   exact ⟨⟨j+1,hj',rfl,hrel,hI⟩,by simp [intOf]; omega⟩
 ·refine done hI ?_
  rw [<- hrel,List.drop_eq_nil_of_le (by omega)]; rfl
theorem sK {ts us:List T} {S:aF} {v u:Value} (h:RdSl S 4 (RdT S) v ts) (h':RdSl S 4 (RdT S) u us)
  (hc:∀ t∈ts,∀ u∈us,∀ cs ds,RdT S cs t->RdT S ds u->Pure Tryz.prog g8 [.agg cs.toArray,.agg ds.toArray] S (.int .i64 (dQ t u))) :
  Pure Tryz.prog ox [v,u,fv g8 []] S (.int .i64 (dR ts us)):=by
 intro w hI
 have hlen:=h.le
 simp only [maxLen] at hlen
 refine l2 ?_
 unfold ip
 refine a9 h av ?_
 refine ⟨fun i w'=>∃ j:Nat,j<=ts.length/\j<=us.length/\i=.int .i64 j/\dR (ts.drop j) (us.drop j)=dR ts us/\Inv w [] [] S w',fun i _=>ts.length - (intOf i).toNat,⟨0,Nat.zero_le _,Nat.zero_le _,rfl,rfl,hI⟩,?_⟩
 intro t13 _ _ _ _ _ _ _ _ _ _ _ _ _ _ _ _ _ _ _ _ _ _ _ _ _ w'
 rintro ⟨j,hj,hju,rfl,hrel,hI⟩
 refine bU ?_
 refine bk (fun hji=>?_) (fun hji=>?_)
 ·have hj1:j<ts.length:=by omega
  refine ec hI h av al hj1 (fun _ _=>RdT.length) fun cs hcs=>?_
  have hlc:=hcs.length
  refine bH hI bN fun b8 w' hI=>?_
  refine bf hI 0 rfl al (by simpa using hlc) rfl (by simpa using hcs.one) fun w' hI=>?_
  refine a9 h' av ?_
  refine lP ?_
  refine bk (fun hb=>done hI ?_) (fun hb=>?_)
  ·rw [<- hrel,List.drop_eq_nil_of_le (show us.length<=j by omega),List.drop_eq_getElem_cons hj1,dR]
  have hj2:j<us.length:=by omega
  refine ec hI h' av al hj2 (fun _ _=>RdT.length) fun ds hds=>?_
  have hld:=hds.length
  refine bH hI bN fun b9 w' hI=>?_
  refine bf hI 1 rfl al (by simpa using hld) rfl (by simpa using hds.one) fun w' hI=>?_
  refine bb hI 0 al rfl (by simpa using hlc) ?_
  refine bb hI 1 al rfl (by simpa using hld) ?_
  refine Run.callVPure (cap:=[]) jP jE hI (hc _ (List.getElem_mem hj1) _ (List.getElem_mem hj2) cs ds hcs hds) fun w' hI=>?_
  rw [Dk ts us j hj1 hj2] at hrel
  refine gr ?_
  refine ba (fun hb=>done hI ?_) (fun hb=>?_)
  ·have hne:dQ ts[j] us[j]≠0:=by simpa using hb
   rw [<- hrel,lu hne]
  ·have he:dQ ts[j] us[j]=0:=by simpa using hb
   rw [he,iN] at hrel
   refine bP (by omega) ?_
   exact ⟨⟨j+1,hj1,hj2,rfl,hrel,hI.sub (List.nil_sublist _)⟩,by simp [intOf]; omega⟩
 ·refine a9 h av ?_
  refine a9 h' av ?_
  refine bU ?_
  rw [List.drop_eq_nil_of_le (show ts.length<=j by omega)] at hrel
  refine bk (fun hb=>done hI ?_) (fun hb=>done hI ?_)
  ·rw [<- hrel,List.drop_eq_getElem_cons (show j<us.length by omega),dR]
  ·rw [<- hrel,List.drop_eq_nil_of_le (show us.length<=j by omega),dR]
theorem lT:∀ (t u:T) (S:aF) (cs ds:List Value),RdT S cs t->RdT S ds u->okO t->okO u->Pure Tryz.prog g8 [.agg cs.toArray,.agg ds.toArray] S (.int .i64 (dQ t u)):=by
 refine T.ind fun k n s ks ih u S cs ds h h' ht hu=>?_
 intro w hI
 have hcs:=h
 have hds:=h'
 have hor:=O9 ht hu
 obtain ⟨kv,rfl,_,_,_,hks⟩:=RdT.iff.1 h
 obtain ⟨kv',rfl,_,_,_,hks'⟩:=RdT.iff.1 h'
 obtain ⟨k',n',s',ks'⟩:=u
 simp only [T.name,T.kids,T.kind,T.n] at hks hks' ⊢
 have htk:qg ks:=by have h:=ht; rw [okO] at h; exact h.2
 have huk:qg ks':=by have h:=hu; rw [okO] at h; exact h.2
 have hkids:=sK hks hks' fun t ht u hu cs ds h1 h2=>ih t ht u S cs ds h1 h2 (pv htk t ht) (pv huk u hu)
 refine zd ?_
 unfold uz
 refine bO hI fun b1 w' hI=>?_
 refine bO hI fun b2 w' hI=>?_
 have hI:Inv w [] [.blk b1 (.cells #[.int .i64 k,.int .i64 n,.string s,kv] ac),.blk b2 (.cells #[.int .i64 k',.int .i64 n',.string s',kv'] ac)] S w':=hI
 refine ⟨fun D x4 ex eR ed dP dA cT dg b0 bT bX ci cf cF cd bZ dz dr dC ey eU eE eD gn gl x9 x8 x7 x6 x5 w_=>(D 0=true->x5=.agg #[.int .i64 k,.int .i64 n,.string s,kv])/\(D 1=true->x6=.int .i64 (rkI (T.mk k n s ks)))/\(D 2=true->x7=.agg #[.int .i64 k',.int .i64 n',.string s',kv'])/\(D 3=true->x8=.int .i64 (rkI (T.mk k' n' s' ks')))/\(D 4=true->x9=.int .i64 (de (rkI (T.mk k n s ks)) (rkI (T.mk k' n' s' ks'))))/\(D 5=true->gl=.pointer (some ⟨b1,1,none⟩))/\(D 6=true->gn=.int .i64 n)/\(D 7=true->eD=.pointer (some ⟨b2,1,none⟩))/\(D 8=true->eE=.int .i64 n')/\(D 9=true->eU=.int .i64 (de n n'))/\(D 10=true->ey=.pointer (some ⟨b1,3,none⟩))/\(D 11=true->dC=kv)/\(D 12=true->dr=.int .i64 ks.length)/\(D 13=true->dz=.pointer (some ⟨b2,3,none⟩))/\(D 14=true->bZ=kv')/\(D 15=true->cd=.int .i64 ks'.length)/\(D 16=true->cF=.int .i64 (de ks.length ks'.length))/\(D 17=true->cf=.pointer (some ⟨b1,2,none⟩))/\(D 18=true->ci=.string s)/\(D 19=true->bX=.pointer (some ⟨b2,2,none⟩))/\(D 20=true->bT=.string s')/\(D 21=true->b0=.int .i64 (di s s'))/\(D 22=true->dg=.pointer (some ⟨b1,3,none⟩))/\(D 23=true->cT=kv)/\(D 24=true->dA=.pointer (some ⟨b2,3,none⟩))/\(D 25=true->dP=kv')/\(D 26=true->ed=.int .i64 (dR ks ks'))/\(D 27=true->True)/\(D 28=true->ex=.int .i64 (orL [de (rkI (T.mk k n s ks)) (rkI (T.mk k' n' s' ks')),de n n',de ks.length ks'.length,di s s',dR ks ks']))/\(D 29=true->x4=.int .i64 (orL [de (rkI (T.mk k n s ks)) (rkI (T.mk k' n' s' ks')),de n n',de ks.length ks'.length,di s s',dR ks ks']))/\∃ SN,Sle S SN/\(D 27=true->RdSl SN 1 pE eR [de (rkI (T.mk k n s ks)) (rkI (T.mk k' n' s' ks')),de n n',de ks.length ks'.length,di s s',dR ks ks'])/\Inv w [] [.blk b1 (.cells #[.int .i64 k,.int .i64 n,.string s,kv] ac),.blk b2 (.cells #[.int .i64 k',.int .i64 n',.string s',kv'] ac)] SN w_,⟨ae,ae,ae,ae,ae,ae,ae,ae,ae,ae,ae,ae,ae,ae,ae,ae,ae,ae,ae,ae,ae,ae,ae,ae,ae,ae,ae,ae,ae,ae,⟨S,Sle.refl _,ae,hI.draw⟩⟩,⟨?_,?_,?_,?_,?_,?_,?_,?_,?_,?_,?_,?_,?_,?_,?_,?_,?_,?_,?_,?_,?_,?_,?_,?_,?_,?_,?_,?_,?_,?_,trivial⟩,?_⟩
 ·intro D aY  x4 ex eR ed dP dA cT dg b0 bT bX ci cf cF cd bZ dz dr dC ey eU eE eD gn gl x9 x8 x7 x6 x5 w_
  rintro ⟨az,ay,aA,aB,aw,aD,aE,aI,aL,aP,aj,ao,aH,aM,aO,aN,aV,aU,aW,aX,a6,a5,a4,aZ,a8,bz,bA,bB,bx,bC,⟨SN,hN,e27,hI⟩⟩
  refine bb hI 0 al rfl rfl ?_
  exact ⟨fun _=>rfl,ay,aA,aB,aw,aD,aE,aI,aL,aP,aj,ao,aH,aM,aO,aN,aV,aU,aW,aX,a6,a5,a4,aZ,a8,bz,bA,bB,bx,bC,⟨SN,hN,e27,hI⟩⟩
 ·intro D aY ce x4 ex eR ed dP dA cT dg b0 bT bX ci cf cF cd bZ dz dr dC ey eU eE eD gn gl x9 x8 x7 x6 x5 w_
  rintro ⟨az,ay,aA,aB,aw,aD,aE,aI,aL,aP,aj,ao,aH,aM,aO,aN,aV,aU,aW,aX,a6,a5,a4,aZ,a8,bz,bA,bB,bx,bC,⟨SN,hN,e27,hI⟩⟩
  obtain rfl:=az ce
  refine Run.callPure DP Dz hI (z6 (hcs.mono hN) ht) fun w_ hI=>?_
  exact ⟨az,fun _=>rfl,aA,aB,aw,aD,aE,aI,aL,aP,aj,ao,aH,aM,aO,aN,aV,aU,aW,aX,a6,a5,a4,aZ,a8,bz,bA,bB,bx,bC,⟨SN,hN,e27,hI⟩⟩
 ·intro D aY  x4 ex eR ed dP dA cT dg b0 bT bX ci cf cF cd bZ dz dr dC ey eU eE eD gn gl x9 x8 x7 x6 x5 w_
  rintro ⟨az,ay,aA,aB,aw,aD,aE,aI,aL,aP,aj,ao,aH,aM,aO,aN,aV,aU,aW,aX,a6,a5,a4,aZ,a8,bz,bA,bB,bx,bC,⟨SN,hN,e27,hI⟩⟩
  refine bb hI 1 al rfl rfl ?_
  exact ⟨az,ay,fun _=>rfl,aB,aw,aD,aE,aI,aL,aP,aj,ao,aH,aM,aO,aN,aV,aU,aW,aX,a6,a5,a4,aZ,a8,bz,bA,bB,bx,bC,⟨SN,hN,e27,hI⟩⟩
 ·intro D aY ev iL x4 ex eR ed dP dA cT dg b0 bT bX ci cf cF cd bZ dz dr dC ey eU eE eD gn gl x9 x8 x7 x6 x5 w_
  rintro ⟨az,ay,aA,aB,aw,aD,aE,aI,aL,aP,aj,ao,aH,aM,aO,aN,aV,aU,aW,aX,a6,a5,a4,aZ,a8,bz,bA,bB,bx,bC,⟨SN,hN,e27,hI⟩⟩
  obtain rfl:=aA ev
  refine Run.callPure DP Dz hI (z6 (hds.mono hN) hu) fun w_ hI=>?_
  exact ⟨az,ay,aA,fun _=>rfl,aw,aD,aE,aI,aL,aP,aj,ao,aH,aM,aO,aN,aV,aU,aW,aX,a6,a5,a4,aZ,a8,bz,bA,bB,bx,bC,⟨SN,hN,e27,hI⟩⟩
 ·intro D aY dI nl Oc x4 ex eR ed dP dA cT dg b0 bT bX ci cf cF cd bZ dz dr dC ey eU eE eD gn gl x9 x8 x7 x6 x5 w_
  rintro ⟨az,ay,aA,aB,aw,aD,aE,aI,aL,aP,aj,ao,aH,aM,aO,aN,aV,aU,aW,aX,a6,a5,a4,aZ,a8,bz,bA,bB,bx,bC,⟨SN,hN,e27,hI⟩⟩
  obtain rfl:=ay dI
  obtain rfl:=aB nl
  refine Run.callPure iy iC hI (ia _ _ SN) fun w_ hI=>?_
  exact ⟨az,ay,aA,aB,fun _=>rfl,aD,aE,aI,aL,aP,aj,ao,aH,aM,aO,aN,aV,aU,aW,aX,a6,a5,a4,aZ,a8,bz,bA,bB,bx,bC,⟨SN,hN,e27,hI⟩⟩
 ·intro D aY  x4 ex eR ed dP dA cT dg b0 bT bX ci cf cF cd bZ dz dr dC ey eU eE eD gn gl x9 x8 x7 x6 x5 w_
  rintro ⟨az,ay,aA,aB,aw,aD,aE,aI,aL,aP,aj,ao,aH,aM,aO,aN,aV,aU,aW,aX,a6,a5,a4,aZ,a8,bz,bA,bB,bx,bC,⟨SN,hN,e27,hI⟩⟩
  refine bg bI ?_
  exact ⟨az,ay,aA,aB,aw,fun _=>rfl,aE,aI,aL,aP,aj,ao,aH,aM,aO,aN,aV,aU,aW,aX,a6,a5,a4,aZ,a8,bz,bA,bB,bx,bC,⟨SN,hN,e27,hI⟩⟩
 ·intro D aY dV x4 ex eR ed dP dA cT dg b0 bT bX ci cf cF cd bZ dz dr dC ey eU eE eD gn gl x9 x8 x7 x6 x5 w_
  rintro ⟨az,ay,aA,aB,aw,aD,aE,aI,aL,aP,aj,ao,aH,aM,aO,aN,aV,aU,aW,aX,a6,a5,a4,aZ,a8,bz,bA,bB,bx,bC,⟨SN,hN,e27,hI⟩⟩
  obtain rfl:=aD dV
  refine bE hI 0 bn rfl rfl ?_
  exact ⟨az,ay,aA,aB,aw,aD,fun _=>rfl,aI,aL,aP,aj,ao,aH,aM,aO,aN,aV,aU,aW,aX,a6,a5,a4,aZ,a8,bz,bA,bB,bx,bC,⟨SN,hN,e27,hI⟩⟩
 ·intro D aY  x4 ex eR ed dP dA cT dg b0 bT bX ci cf cF cd bZ dz dr dC ey eU eE eD gn gl x9 x8 x7 x6 x5 w_
  rintro ⟨az,ay,aA,aB,aw,aD,aE,aI,aL,aP,aj,ao,aH,aM,aO,aN,aV,aU,aW,aX,a6,a5,a4,aZ,a8,bz,bA,bB,bx,bC,⟨SN,hN,e27,hI⟩⟩
  refine bg bI ?_
  exact ⟨az,ay,aA,aB,aw,aD,aE,fun _=>rfl,aL,aP,aj,ao,aH,aM,aO,aN,aV,aU,aW,aX,a6,a5,a4,aZ,a8,bz,bA,bB,bx,bC,⟨SN,hN,e27,hI⟩⟩
 ·intro D aY el x4 ex eR ed dP dA cT dg b0 bT bX ci cf cF cd bZ dz dr dC ey eU eE eD gn gl x9 x8 x7 x6 x5 w_
  rintro ⟨az,ay,aA,aB,aw,aD,aE,aI,aL,aP,aj,ao,aH,aM,aO,aN,aV,aU,aW,aX,a6,a5,a4,aZ,a8,bz,bA,bB,bx,bC,⟨SN,hN,e27,hI⟩⟩
  obtain rfl:=aI el
  refine bE hI 1 bn rfl rfl ?_
  exact ⟨az,ay,aA,aB,aw,aD,aE,aI,fun _=>rfl,aP,aj,ao,aH,aM,aO,aN,aV,aU,aW,aX,a6,a5,a4,aZ,a8,bz,bA,bB,bx,bC,⟨SN,hN,e27,hI⟩⟩
 ·intro D aY c9 gh jo x4 ex eR ed dP dA cT dg b0 bT bX ci cf cF cd bZ dz dr dC ey eU eE eD gn gl x9 x8 x7 x6 x5 w_
  rintro ⟨az,ay,aA,aB,aw,aD,aE,aI,aL,aP,aj,ao,aH,aM,aO,aN,aV,aU,aW,aX,a6,a5,a4,aZ,a8,bz,bA,bB,bx,bC,⟨SN,hN,e27,hI⟩⟩
  obtain rfl:=aE c9
  obtain rfl:=aL gh
  refine Run.callPure iy iC hI (ia _ _ SN) fun w_ hI=>?_
  exact ⟨az,ay,aA,aB,aw,aD,aE,aI,aL,fun _=>rfl,aj,ao,aH,aM,aO,aN,aV,aU,aW,aX,a6,a5,a4,aZ,a8,bz,bA,bB,bx,bC,⟨SN,hN,e27,hI⟩⟩
 ·intro D aY  x4 ex eR ed dP dA cT dg b0 bT bX ci cf cF cd bZ dz dr dC ey eU eE eD gn gl x9 x8 x7 x6 x5 w_
  rintro ⟨az,ay,aA,aB,aw,aD,aE,aI,aL,aP,aj,ao,aH,aM,aO,aN,aV,aU,aW,aX,a6,a5,a4,aZ,a8,bz,bA,bB,bx,bC,⟨SN,hN,e27,hI⟩⟩
  refine bg aS ?_
  exact ⟨az,ay,aA,aB,aw,aD,aE,aI,aL,aP,fun _=>rfl,ao,aH,aM,aO,aN,aV,aU,aW,aX,a6,a5,a4,aZ,a8,bz,bA,bB,bx,bC,⟨SN,hN,e27,hI⟩⟩
 ·intro D aY gH x4 ex eR ed dP dA cT dg b0 bT bX ci cf cF cd bZ dz dr dC ey eU eE eD gn gl x9 x8 x7 x6 x5 w_
  rintro ⟨az,ay,aA,aB,aw,aD,aE,aI,aL,aP,aj,ao,aH,aM,aO,aN,aV,aU,aW,aX,a6,a5,a4,aZ,a8,bz,bA,bB,bx,bC,⟨SN,hN,e27,hI⟩⟩
  obtain rfl:=aj gH
  refine bE hI 0 aQ rfl rfl ?_
  exact ⟨az,ay,aA,aB,aw,aD,aE,aI,aL,aP,aj,fun _=>rfl,aH,aM,aO,aN,aV,aU,aW,aX,a6,a5,a4,aZ,a8,bz,bA,bB,bx,bC,⟨SN,hN,e27,hI⟩⟩
 ·intro D aY hZ x4 ex eR ed dP dA cT dg b0 bT bX ci cf cF cd bZ dz dr dC ey eU eE eD gn gl x9 x8 x7 x6 x5 w_
  rintro ⟨az,ay,aA,aB,aw,aD,aE,aI,aL,aP,aj,ao,aH,aM,aO,aN,aV,aU,aW,aX,a6,a5,a4,aZ,a8,bz,bA,bB,bx,bC,⟨SN,hN,e27,hI⟩⟩
  obtain rfl:=ao hZ
  refine a9 hks av ?_
  exact ⟨az,ay,aA,aB,aw,aD,aE,aI,aL,aP,aj,ao,fun _=>rfl,aM,aO,aN,aV,aU,aW,aX,a6,a5,a4,aZ,a8,bz,bA,bB,bx,bC,⟨SN,hN,e27,hI⟩⟩
 ·intro D aY  x4 ex eR ed dP dA cT dg b0 bT bX ci cf cF cd bZ dz dr dC ey eU eE eD gn gl x9 x8 x7 x6 x5 w_
  rintro ⟨az,ay,aA,aB,aw,aD,aE,aI,aL,aP,aj,ao,aH,aM,aO,aN,aV,aU,aW,aX,a6,a5,a4,aZ,a8,bz,bA,bB,bx,bC,⟨SN,hN,e27,hI⟩⟩
  refine bg aS ?_
  exact ⟨az,ay,aA,aB,aw,aD,aE,aI,aL,aP,aj,ao,aH,fun _=>rfl,aO,aN,aV,aU,aW,aX,a6,a5,a4,aZ,a8,bz,bA,bB,bx,bC,⟨SN,hN,e27,hI⟩⟩
 ·intro D aY iq x4 ex eR ed dP dA cT dg b0 bT bX ci cf cF cd bZ dz dr dC ey eU eE eD gn gl x9 x8 x7 x6 x5 w_
  rintro ⟨az,ay,aA,aB,aw,aD,aE,aI,aL,aP,aj,ao,aH,aM,aO,aN,aV,aU,aW,aX,a6,a5,a4,aZ,a8,bz,bA,bB,bx,bC,⟨SN,hN,e27,hI⟩⟩
  obtain rfl:=aM iq
  refine bE hI 1 aQ rfl rfl ?_
  exact ⟨az,ay,aA,aB,aw,aD,aE,aI,aL,aP,aj,ao,aH,aM,fun _=>rfl,aN,aV,aU,aW,aX,a6,a5,a4,aZ,a8,bz,bA,bB,bx,bC,⟨SN,hN,e27,hI⟩⟩
 ·intro D aY Hv x4 ex eR ed dP dA cT dg b0 bT bX ci cf cF cd bZ dz dr dC ey eU eE eD gn gl x9 x8 x7 x6 x5 w_
  rintro ⟨az,ay,aA,aB,aw,aD,aE,aI,aL,aP,aj,ao,aH,aM,aO,aN,aV,aU,aW,aX,a6,a5,a4,aZ,a8,bz,bA,bB,bx,bC,⟨SN,hN,e27,hI⟩⟩
  obtain rfl:=aO Hv
  refine a9 hks' av ?_
  exact ⟨az,ay,aA,aB,aw,aD,aE,aI,aL,aP,aj,ao,aH,aM,aO,fun _=>rfl,aV,aU,aW,aX,a6,a5,a4,aZ,a8,bz,bA,bB,bx,bC,⟨SN,hN,e27,hI⟩⟩
 ·intro D aY lp NX LG x4 ex eR ed dP dA cT dg b0 bT bX ci cf cF cd bZ dz dr dC ey eU eE eD gn gl x9 x8 x7 x6 x5 w_
  rintro ⟨az,ay,aA,aB,aw,aD,aE,aI,aL,aP,aj,ao,aH,aM,aO,aN,aV,aU,aW,aX,a6,a5,a4,aZ,a8,bz,bA,bB,bx,bC,⟨SN,hN,e27,hI⟩⟩
  obtain rfl:=aH lp
  obtain rfl:=aN NX
  refine Run.callPure iy iC hI (ia _ _ SN) fun w_ hI=>?_
  exact ⟨az,ay,aA,aB,aw,aD,aE,aI,aL,aP,aj,ao,aH,aM,aO,aN,fun _=>rfl,aU,aW,aX,a6,a5,a4,aZ,a8,bz,bA,bB,bx,bC,⟨SN,hN,e27,hI⟩⟩
 ·intro D aY  x4 ex eR ed dP dA cT dg b0 bT bX ci cf cF cd bZ dz dr dC ey eU eE eD gn gl x9 x8 x7 x6 x5 w_
  rintro ⟨az,ay,aA,aB,aw,aD,aE,aI,aL,aP,aj,ao,aH,aM,aO,aN,aV,aU,aW,aX,a6,a5,a4,aZ,a8,bz,bA,bB,bx,bC,⟨SN,hN,e27,hI⟩⟩
  refine bg bo ?_
  exact ⟨az,ay,aA,aB,aw,aD,aE,aI,aL,aP,aj,ao,aH,aM,aO,aN,aV,fun _=>rfl,aW,aX,a6,a5,a4,aZ,a8,bz,bA,bB,bx,bC,⟨SN,hN,e27,hI⟩⟩
 ·intro D aY Ht x4 ex eR ed dP dA cT dg b0 bT bX ci cf cF cd bZ dz dr dC ey eU eE eD gn gl x9 x8 x7 x6 x5 w_
  rintro ⟨az,ay,aA,aB,aw,aD,aE,aI,aL,aP,aj,ao,aH,aM,aO,aN,aV,aU,aW,aX,a6,a5,a4,aZ,a8,bz,bA,bB,bx,bC,⟨SN,hN,e27,hI⟩⟩
  obtain rfl:=aU Ht
  refine bE hI 0 bm rfl rfl ?_
  exact ⟨az,ay,aA,aB,aw,aD,aE,aI,aL,aP,aj,ao,aH,aM,aO,aN,aV,aU,fun _=>rfl,aX,a6,a5,a4,aZ,a8,bz,bA,bB,bx,bC,⟨SN,hN,e27,hI⟩⟩
 ·intro D aY  x4 ex eR ed dP dA cT dg b0 bT bX ci cf cF cd bZ dz dr dC ey eU eE eD gn gl x9 x8 x7 x6 x5 w_
  rintro ⟨az,ay,aA,aB,aw,aD,aE,aI,aL,aP,aj,ao,aH,aM,aO,aN,aV,aU,aW,aX,a6,a5,a4,aZ,a8,bz,bA,bB,bx,bC,⟨SN,hN,e27,hI⟩⟩
  refine bg bo ?_
  exact ⟨az,ay,aA,aB,aw,aD,aE,aI,aL,aP,aj,ao,aH,aM,aO,aN,aV,aU,aW,fun _=>rfl,a6,a5,a4,aZ,a8,bz,bA,bB,bx,bC,⟨SN,hN,e27,hI⟩⟩
 ·intro D aY gU x4 ex eR ed dP dA cT dg b0 bT bX ci cf cF cd bZ dz dr dC ey eU eE eD gn gl x9 x8 x7 x6 x5 w_
  rintro ⟨az,ay,aA,aB,aw,aD,aE,aI,aL,aP,aj,ao,aH,aM,aO,aN,aV,aU,aW,aX,a6,a5,a4,aZ,a8,bz,bA,bB,bx,bC,⟨SN,hN,e27,hI⟩⟩
  obtain rfl:=aX gU
  refine bE hI 1 bm rfl rfl ?_
  exact ⟨az,ay,aA,aB,aw,aD,aE,aI,aL,aP,aj,ao,aH,aM,aO,aN,aV,aU,aW,aX,fun _=>rfl,a5,a4,aZ,a8,bz,bA,bB,bx,bC,⟨SN,hN,e27,hI⟩⟩
 ·intro D aY tS Qd OZ x4 ex eR ed dP dA cT dg b0 bT bX ci cf cF cd bZ dz dr dC ey eU eE eD gn gl x9 x8 x7 x6 x5 w_
  rintro ⟨az,ay,aA,aB,aw,aD,aE,aI,aL,aP,aj,ao,aH,aM,aO,aN,aV,aU,aW,aX,a6,a5,a4,aZ,a8,bz,bA,bB,bx,bC,⟨SN,hN,e27,hI⟩⟩
  obtain rfl:=aW tS
  obtain rfl:=a6 Qd
  refine Run.callPure qI qu hI (pb _ _ SN) fun w_ hI=>?_
  exact ⟨az,ay,aA,aB,aw,aD,aE,aI,aL,aP,aj,ao,aH,aM,aO,aN,aV,aU,aW,aX,a6,fun _=>rfl,a4,aZ,a8,bz,bA,bB,bx,bC,⟨SN,hN,e27,hI⟩⟩
 ·intro D aY  x4 ex eR ed dP dA cT dg b0 bT bX ci cf cF cd bZ dz dr dC ey eU eE eD gn gl x9 x8 x7 x6 x5 w_
  rintro ⟨az,ay,aA,aB,aw,aD,aE,aI,aL,aP,aj,ao,aH,aM,aO,aN,aV,aU,aW,aX,a6,a5,a4,aZ,a8,bz,bA,bB,bx,bC,⟨SN,hN,e27,hI⟩⟩
  refine bg aS ?_
  exact ⟨az,ay,aA,aB,aw,aD,aE,aI,aL,aP,aj,ao,aH,aM,aO,aN,aV,aU,aW,aX,a6,a5,fun _=>rfl,aZ,a8,bz,bA,bB,bx,bC,⟨SN,hN,e27,hI⟩⟩
 ·intro D aY M3 x4 ex eR ed dP dA cT dg b0 bT bX ci cf cF cd bZ dz dr dC ey eU eE eD gn gl x9 x8 x7 x6 x5 w_
  rintro ⟨az,ay,aA,aB,aw,aD,aE,aI,aL,aP,aj,ao,aH,aM,aO,aN,aV,aU,aW,aX,a6,a5,a4,aZ,a8,bz,bA,bB,bx,bC,⟨SN,hN,e27,hI⟩⟩
  obtain rfl:=a4 M3
  refine bE hI 0 aQ rfl rfl ?_
  exact ⟨az,ay,aA,aB,aw,aD,aE,aI,aL,aP,aj,ao,aH,aM,aO,aN,aV,aU,aW,aX,a6,a5,a4,fun _=>rfl,a8,bz,bA,bB,bx,bC,⟨SN,hN,e27,hI⟩⟩
 ·intro D aY  x4 ex eR ed dP dA cT dg b0 bT bX ci cf cF cd bZ dz dr dC ey eU eE eD gn gl x9 x8 x7 x6 x5 w_
  rintro ⟨az,ay,aA,aB,aw,aD,aE,aI,aL,aP,aj,ao,aH,aM,aO,aN,aV,aU,aW,aX,a6,a5,a4,aZ,a8,bz,bA,bB,bx,bC,⟨SN,hN,e27,hI⟩⟩
  refine bg aS ?_
  exact ⟨az,ay,aA,aB,aw,aD,aE,aI,aL,aP,aj,ao,aH,aM,aO,aN,aV,aU,aW,aX,a6,a5,a4,aZ,fun _=>rfl,bz,bA,bB,bx,bC,⟨SN,hN,e27,hI⟩⟩
 ·intro D aY N4 x4 ex eR ed dP dA cT dg b0 bT bX ci cf cF cd bZ dz dr dC ey eU eE eD gn gl x9 x8 x7 x6 x5 w_
  rintro ⟨az,ay,aA,aB,aw,aD,aE,aI,aL,aP,aj,ao,aH,aM,aO,aN,aV,aU,aW,aX,a6,a5,a4,aZ,a8,bz,bA,bB,bx,bC,⟨SN,hN,e27,hI⟩⟩
  obtain rfl:=a8 N4
  refine bE hI 1 aQ rfl rfl ?_
  exact ⟨az,ay,aA,aB,aw,aD,aE,aI,aL,aP,aj,ao,aH,aM,aO,aN,aV,aU,aW,aX,a6,a5,a4,aZ,a8,fun _=>rfl,bA,bB,bx,bC,⟨SN,hN,e27,hI⟩⟩
 ·intro D aY Nl P9 Ru x4 ex eR ed dP dA cT dg b0 bT bX ci cf cF cd bZ dz dr dC ey eU eE eD gn gl x9 x8 x7 x6 x5 w_
  rintro ⟨az,ay,aA,aB,aw,aD,aE,aI,aL,aP,aj,ao,aH,aM,aO,aN,aV,aU,aW,aX,a6,a5,a4,aZ,a8,bz,bA,bB,bx,bC,⟨SN,hN,e27,hI⟩⟩
  obtain rfl:=aZ Nl
  obtain rfl:=bz P9
  refine Run.callPure n8 nT hI (hkids.less hN) fun w_ hI=>?_
  exact ⟨az,ay,aA,aB,aw,aD,aE,aI,aL,aP,aj,ao,aH,aM,aO,aN,aV,aU,aW,aX,a6,a5,a4,aZ,a8,bz,fun _=>rfl,bB,bx,bC,⟨SN,hN,e27,hI⟩⟩
 ·intro D aY cK fw OZ PT PV x4 ex eR ed dP dA cT dg b0 bT bX ci cf cF cd bZ dz dr dC ey eU eE eD gn gl x9 x8 x7 x6 x5 w_
  rintro ⟨az,ay,aA,aB,aw,aD,aE,aI,aL,aP,aj,ao,aH,aM,aO,aN,aV,aU,aW,aX,a6,a5,a4,aZ,a8,bz,bA,bB,bx,bC,⟨SN,hN,e27,hI⟩⟩
  obtain rfl:=aw cK
  obtain rfl:=aP fw
  obtain rfl:=aV OZ
  obtain rfl:=a5 PT
  obtain rfl:=bA PV
  refine Od hI fun b5 w_ hI=>?_
  obtain ⟨SN,hI,hE,hb⟩:=Inv.pub1 (A:=[.blk b1 (.cells #[.int .i64 k,.int .i64 n,.string s,kv] ac),.blk b2 (.cells #[.int .i64 k',.int .i64 n',.string s',kv'] ac)]) hI
  have hN:=hN.trans hE.1
  have e27:=fun (_:aC D 27 27=true)=>(⟨some ⟨b5,0,none⟩,5,rfl,by simp,by simp [maxLen],.inr ⟨b5,0,_,fx,(0,0),rfl,hb,fun i hi=>by match i,hi with|0,_|1,_|2,_|3,_|4,_=>rfl⟩⟩:RdSl SN 1 pE (.slice (some ⟨b5,0,none⟩) 5 5) [de (rkI (T.mk k n s ks)) (rkI (T.mk k' n' s' ks')),de n n',de ks.length ks'.length,di s s',dR ks ks'])
  exact ⟨az,ay,aA,aB,aw,aD,aE,aI,aL,aP,aj,ao,aH,aM,aO,aN,aV,aU,aW,aX,a6,a5,a4,aZ,a8,bz,bA,fun _=>by first|assumption|trivial,bx,bC,⟨SN,hN,e27,hI⟩⟩
 ·intro D aY O0 O2 x4 ex eR ed dP dA cT dg b0 bT bX ci cf cF cd bZ dz dr dC ey eU eE eD gn gl x9 x8 x7 x6 x5 w_
  rintro ⟨az,ay,aA,aB,aw,aD,aE,aI,aL,aP,aj,ao,aH,aM,aO,aN,aV,aU,aW,aX,a6,a5,a4,aZ,a8,bz,bA,bB,bx,bC,⟨SN,hN,e27,hI⟩⟩
  have QS:=bB O0
  refine Run.callPure Ho HL hI (Nn (e27 O0)) fun w_ hI=>?_
  exact ⟨az,ay,aA,aB,aw,aD,aE,aI,aL,aP,aj,ao,aH,aM,aO,aN,aV,aU,aW,aX,a6,a5,a4,aZ,a8,bz,bA,bB,fun _=>rfl,bC,⟨SN,hN,e27,hI⟩⟩
 ·intro D aY N5 Rw qK wn wF wJ vh Bl AA FC Dd Dm vQ z2 zZ D9 EP Pr O5 O6 QD Q1 Qx Qt Rl QU Qp Rb Q8 Qq Qr x4 ex eR ed dP dA cT dg b0 bT bX ci cf cF cd bZ dz dr dC ey eU eE eD gn gl x9 x8 x7 x6 x5 w_
  rintro ⟨az,ay,aA,aB,aw,aD,aE,aI,aL,aP,aj,ao,aH,aM,aO,aN,aV,aU,aW,aX,a6,a5,a4,aZ,a8,bz,bA,bB,bx,bC,⟨SN,hN,e27,hI⟩⟩
  obtain rfl:=bx N5
  exact ⟨az,ay,aA,aB,aw,aD,aE,aI,aL,aP,aj,ao,aH,aM,aO,aN,aV,aU,aW,aX,a6,a5,a4,aZ,a8,bz,bA,bB,bx,fun _=>rfl,⟨SN,hN,e27,hI⟩⟩
 intro D PA Pa Px O7 Pb Fu ER E0 Fp FX Fe zx Ak Ae nZ n4 oG jh ft fm iW gN f0 f1 fM fF fI fK fL fN x4 ex eR ed dP dA cT dg b0 bT bX ci cf cF cd bZ dz dr dC ey eU eE eD gn gl x9 x8 x7 x6 x5 w_
 rintro ⟨az,ay,aA,aB,aw,aD,aE,aI,aL,aP,aj,ao,aH,aM,aO,aN,aV,aU,aW,aX,a6,a5,a4,aZ,a8,bz,bA,bB,bx,bC,⟨SN,hN,e27,hI⟩⟩
 obtain rfl:=bC PA
 obtain rfl:=bx Pa
 have QS:=bB Px
 obtain rfl:=bA O7
 obtain rfl:=bz Pb
 obtain rfl:=a8 Fu
 obtain rfl:=aZ ER
 obtain rfl:=a4 E0
 obtain rfl:=a5 Fp
 obtain rfl:=a6 FX
 obtain rfl:=aX Fe
 obtain rfl:=aW zx
 obtain rfl:=aU Ak
 obtain rfl:=aV Ae
 obtain rfl:=aN nZ
 obtain rfl:=aO n4
 obtain rfl:=aM oG
 obtain rfl:=aH jh
 obtain rfl:=ao ft
 obtain rfl:=aj fm
 obtain rfl:=aP iW
 obtain rfl:=aL gN
 obtain rfl:=aI f0
 obtain rfl:=aE f1
 obtain rfl:=aD fM
 obtain rfl:=aw fF
 obtain rfl:=aB fI
 obtain rfl:=aA fK
 obtain rfl:=ay fL
 obtain rfl:=az fN
 clear az ay aA aB aw aD aE aI aL aP aj ao aH aM aO aN aV aU aW aX a6 a5 a4 aZ a8 bz bA bB bx bC
 rw [show orL [de (rkI (T.mk k n s ks)) (rkI (T.mk k' n' s' ks')),de n n',de ks.length ks'.length,di s s',dR ks ks']=dQ (T.mk k n s ks) (T.mk k' n' s' ks') from hor]
 exact gQ hI hN rfl
end

end Go.Proofs.YtemmhhdnlbmicaaGreat
