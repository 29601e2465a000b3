/- Code of clauses is within the limits of instructions, and not too long. -/
import Derived.Test.YtjbcdmheajljpaaGreatZLp10
namespace Go.Proofs.YtjbcdmheajljpaaGreat
section
open Go Go.RowKit
mutual
def okH:T->Prop
 | .mk k n s ks=>((k=1/\0<=n/\n<26) ∨ (k=2/\-999<=n/\n<=999) ∨ (k=3/\gJ s=true/\ks.length<=4))/\mV ks
def mV:List T->Prop
 | []=>True
 | t::ts=>okH t/\mV ts
end
theorem okH.kind {t:T} (h:okH t):(t.kind=1/\0<=t.n/\t.n<26) ∨ (t.kind=2/\-999<=t.n/\t.n<=999) ∨ (t.kind=3/\gJ t.name=true/\t.kids.length<=4):=by
 cases t; rw [okH] at h; exact h.1
theorem okH.kids {t:T} (h:okH t):mV t.kids:=by cases t; rw [okH] at h; exact h.2
mutual
theorem DT:∀ (t:T) (d:Int),dx t d=true->okH t
 | .mk k n s ks,d,h=>by
  rw [dx] at h;split at h
  ·cases h
  ·rw [bJ] at h;rw [okH];refine ⟨?_,Bg ks _ h.2⟩;have a:=h.1;unfold eV at a;by_cases g:(T.mk k n s ks).kind=1
   ·rw [af g] at a;simp only [bJ,bE] at a;have l:n<=25:=a.2.1;exact .inl ⟨g,a.1,by omega⟩
   ·rw [ae g] at a;by_cases i:(T.mk k n s ks).kind=2
    ·rw [af i] at a;simp only [bJ,bE] at a;exact .inr (.inl ⟨i,a.1,a.2.1⟩)
    ·rw [ae i] at a;by_cases j:(T.mk k n s ks).kind=3
     ·rw [af j] at a;simp only [bJ,bE] at a;exact .inr (.inr ⟨j,a.2.1,a.2.2⟩)
     ·rw [ae j] at a;cases a
theorem Bg:∀ (ts:List T) (d:Int),dj ts d=true->mV ts
 | [],_,_=>trivial
 | t::ts,d,h=>by
  rw [dj,bJ] at h;rw [mV];exact ⟨DT t d h.1,Bg ts d h.2⟩
end
theorem wR {t:T} (h:cA t=true):okH t:=by
 rw [cA,bJ] at h;exact DT t _ h.1
theorem IA:∀ {ts:List T},(∀ t∈ts,okH t)->mV ts
 | [],_=>trivial
 | t::ts,h=>by rw [mV]; exact ⟨h t (bL ..),IA fun x a=>h x (bV _ a)⟩
def Lm (x:Ist):Prop:=(-999<=x.a/\x.a<=999/\0<=x.b/\x.b<=999)/\
 (((x.op=1 ∨ x.op=2 ∨ x.op=8 ∨ x.op=9 ∨ x.op=10)/\x.name=emptyB) ∨ ((x.op=3 ∨ x.op=7)/\gJ x.name=true/\x.a<=4) ∨
   ((x.op=4 ∨ x.op=5 ∨ x.op=6)/\x.b=0/\x.name=emptyB) ∨ ((x.op=11 ∨ x.op=12)/\x.b=0/\gJ x.name=true/\x.a<=4) ∨ ((x.op=13 ∨ x.op=14)/\x.a=0/\x.b=0/\x.name=emptyB))
def AllL (xs:List Ist):Prop:=∀ x∈xs,Lm x
theorem AllL.nil:AllL []:=fun x a=>(by cases a)
theorem AllL.cons {x:Ist} {xs:List Ist} (h:Lm x) (g:AllL xs):AllL (x::xs):=fun y a=>by
 rcases ek.1 a with rfl|a
 ·exact h
 ·exact g y a
theorem AllL.app {xs ys:List Ist} (h:AllL xs) (g:AllL ys):AllL (xs++ys):=fun y a=>by
 rcases cI.1 a with a|a
 ·exact h y a
 ·exact g y a
theorem O5 {op a:Int} (h:op=4 ∨ op=5 ∨ op=6) (g:-999<=a/\a<=999):Lm ⟨op,a,0,emptyB⟩:=⟨⟨g.1,g.2,eP _,(by decide:(0:Int)<=999)⟩,.inr (.inr (.inl ⟨h,rfl,rfl⟩))⟩
theorem Ei {op a b:Int} (i:op=1 ∨ op=2 ∨ op=8 ∨ op=9 ∨ op=10) (g:-999<=a/\a<=999) (h:0<=b/\b<=999):Lm ⟨op,a,b,emptyB⟩:=⟨⟨g.1,g.2,h.1,h.2⟩,.inl ⟨i,rfl⟩⟩
theorem SD {op b:Int} {n:Nat} {nm:ByteArray} (g:op=3 ∨ op=7) (hn:n<=4) (h:gJ nm=true) (a:0<=b/\b<=999):Lm ⟨op,n,b,nm⟩:=⟨⟨by show -999<=(n:Int); omega,by show (n:Int)<=999; omega,a.1,a.2⟩,.inr (.inl ⟨g,h,by show (n:Int)<=4; omega⟩)⟩
theorem Uj {op:Int} {n:Nat} {nm:ByteArray} (a:op=11 ∨ op=12) (hn:n<=4) (g:gJ nm=true):Lm ⟨op,n,0,nm⟩:=⟨⟨by show -999<=(n:Int); omega,by show (n:Int)<=999; omega,eP _,(by decide:(0:Int)<=999)⟩,.inr (.inr (.inr (.inl ⟨a,rfl,g,by show (n:Int)<=4; omega⟩)))⟩
theorem TZ {op:Int} (a:op=13 ∨ op=14):Lm ⟨op,0,0,emptyB⟩:=⟨⟨(by decide:(-999:Int)<=0),(by decide:(0:Int)<=999),eP _,(by decide:(0:Int)<=999)⟩,.inr (.inr (.inr (.inr ⟨a,rfl,rfl,rfl⟩)))⟩
theorem L9 {s:CS} (h:Wf s) {t:T} (a:okH t) (g:t.kind≠3) (hn:s.next<=999):Lm (AU s t):=by
 unfold AU;have i:=h.four;rcases a.kind with hk|hk|hk
 ·rw [ae (by omega)];split
  ·have:=h.lt t.n;exact O5 (.inr (.inl rfl)) (by omega)
  ·exact O5 (.inl rfl) (by omega)
 ·rw [af hk.1];exact O5 (.inr (.inr rfl)) hk.2
 ·exact absurd hk.1 g
theorem EA (s:CS) (t:T):(eq s t).next<=s.next+1:=by
 unfold eq;split
 ·show s.next<=s.next+1; omega
 ·split
  ·show s.next<=s.next+1; omega
  ·exact eP _
def Pd0 (q:List (T × Int)):Prop:=∀ p∈q,okH p.1/\0<=p.2/\p.1.kind=3
theorem LL:∀ (ts:List T) {s:CS},Wf s->dL ts->mV ts->s.next+ts.length<=999->AllL (kM s ts)/\(bo s ts).1.next<=s.next+ts.length/\Pd0 (bo s ts).2
 | [],s,h,_,_,_=>⟨.nil,by rw [bo]; show s.next<=_; simp,fun p a=>by rw [bo] at a; cases a⟩
 | t::ts,s,h,hg,ht,hn=>by
  rw [mV] at ht;rw [dL] at hg;rw [aO] at hn ⊢;have u:=h.four;obtain ⟨i,o⟩:=ul h hg.1;have key:Lm (Gy s t)/\(ch s t).1.next<=s.next+1/\Pd0 (ch s t).2:=by
   unfold Gy ch;split
   ·rename_i g
    refine ⟨O5 (.inl rfl) (by omega),eP _,fun p a=>?_⟩;rw [cO.1 a];exact ⟨ht.1,by show 0<=s.next; omega,g⟩
   ·rename_i g
    exact ⟨L9 h ht.1 g (by omega),EA s t,fun p a=>(by cases a)⟩
  obtain ⟨j,q,l⟩:=key;obtain ⟨m,r,b3⟩:=LL ts i.wf hg.2 ht.2 (by omega);rw [kM,bo];refine ⟨.cons j m,?_,fun p a=>?_⟩
  ·show (bo (ch s t).1 ts).1.next<=_;omega
  ·rcases cI.1 a with a|a
   ·exact l p a
   ·exact b3 p a
theorem Hs:∀ (ts:List T) (s:CS),(ts.length:Int)+ce (bo s ts).2<=bi ts+(bo s ts).2.length/\(ts.length:Int)+2 * ce (bo s ts).2<=2 * bi ts+(bo s ts).2.length
 | [],s=>by rw [bo]; simp [ce,bi]
 | t::ts,s=>by
  rw [bo,bi,aO];obtain ⟨a,g⟩:=Hs ts (ch s t).1;have hc:=cZ t;show _+((ce ((ch s t).2++(bo (ch s t).1 ts).2):Nat):Int)<=_+(((ch s t).2++(bo (ch s t).1 ts).2).length:Nat)/\_+2 * ((ce ((ch s t).2++(bo (ch s t).1 ts).2):Nat):Int)<=_+(((ch s t).2++(bo (ch s t).1 ts).2).length:Nat)
  rw [eA,bv];have h:((ce (ch s t).2:Nat):Int)+1<=bM t+(ch s t).2.length/\2 * ((ce (ch s t).2:Nat):Int)+1<=2 * bM t+(ch s t).2.length:=by
   unfold ch;split
   ·show (((bM t).toNat+0:Nat):Int)+1<=bM t+((1:Nat):Int)/\2 * (((bM t).toNat+0:Nat):Int)+1<=2 * bM t+((1:Nat):Int)
    omega
   ·show ((0:Nat):Int)+1<=bM t+((0:Nat):Int)/\2 * ((0:Nat):Int)+1<=2 * bM t+((0:Nat):Int)
    omega
  omega
theorem Pd0.w {q:List (T × Int)} (h:Pd0 q):∀ p∈q,okH p.1/\0<=p.2/\p.1.kind=3:=h
theorem Oy:∀ (f:Nat) {s:CS} {q:List (T × Int)},Wf s->PdW q s.next->Pd0 q->s.next+ce q<=999+q.length->s.next<=999->AllL (mf f s q)/\(eD f s q).next+q.length<=s.next+ce q/\((mf f s q).length:Int)+q.length<=2 * ce q
 | 0,s,q,h,hw,h0,hn,_=>by
  rw [mf,eD];have:q.length<=ce q:=by
   clear h hw h0 hn;induction q with
   | nil=>exact be _
   | cons x q r=>rw [ce,aO]; have:=cZ x.1; omega
  exact ⟨.nil,by omega,by simp only [cq]; omega⟩
 | f+1,s,[],h,hw,h0,hn,_=>by
  rw [mf,eD];exact ⟨.nil,by simp [ce],by simp [ce]⟩
 | f+1,s,x::q,h,hw,h0,hn,hn2=>by
  rw [mf,eD];have o:=hw x (bL ..);have g:=h0 x (bL ..);have j:=h.emit ⟨3,x.1.kids.length,x.2,x.1.name⟩;have hk:gJ x.1.name=true/\x.1.kids.length<=4:=by
   have:=g.1.kind;have h3:=g.2.2;rcases this with e|e|e
   ·omega
   ·omega
   ·exact e.2
  have i:(bM x.1).toNat=1+(bi x.1.kids).toNat:=by
   have:=bU x.1.kids;obtain ⟨u,Z⟩:=x;cases u;simp only [bM,T.kids] at this ⊢;omega
  have O:=bU x.1.kids;rw [ce,aO,i] at hn;have U:q.length<=ce q:=by
   clear hw h0 hn;induction q with
   | nil=>exact be _
   | cons x q r=>rw [ce,aO]; have:=cZ x.1; omega
  have V:(x.1.kids.length:Int)<=bi x.1.kids:=by
   have:∀ ts:List T,(ts.length:Int)<=bi ts:=fun ts=>by
    induction ts with
    | nil=>simp [bi]
    | cons t ts r=>rw [bi,aO]; have:=cZ t; omega
   exact this _
  obtain ⟨l,B⟩:=kO x.1.kids j o.1.kids;obtain ⟨C,m,b3⟩:=LL x.1.kids j o.1.kids g.1.kids (by show s.next+_<=_; omega);obtain ⟨s1,s2⟩:=Hs x.1.kids (s.emit ⟨3,x.1.kids.length,x.2,x.1.name⟩);have m:(bo (s.emit ⟨3,x.1.kids.length,x.2,x.1.name⟩) x.1.kids).1.next<=s.next+x.1.kids.length:=m;have Y:s.next<=(bo (s.emit ⟨3,x.1.kids.length,x.2,x.1.name⟩) x.1.kids).1.next:=l.next;obtain ⟨D,G,J⟩:=Oy f (q:=q++(bo (s.emit ⟨3,x.1.kids.length,x.2,x.1.name⟩) x.1.kids).2) l.wf (fun p a=>by
   rcases cI.1 a with a|a
   ·obtain ⟨M,N,d3⟩:=hw p (bV _ a);exact ⟨M,N,by omega⟩
   ·exact B p a) (fun p a=>by
   rcases cI.1 a with a|a
   ·exact h0 p (bV _ a)
   ·exact b3 p a) (by rw [eA,bv]; omega) (by omega)
  rw [eA,bv] at G J;refine ⟨.cons (SD (.inl rfl) hk.2 hk.1 ⟨g.2.1,by omega⟩) (C.app D),?_,?_⟩
  ·rw [ce,aO,i];omega
  ·rw [ce,aO,aO,bv,qC,i];omega
theorem Im:∀ (ts:List T) {s:CS} {i:Int},Wf s->0<=i->i+ts.length<=s.next->s.next<=999->dL ts->mV ts->AllL (fZ s i ts)/\Pd0 (bj s i ts).2/\((fZ s i ts).length:Int)+2 * ce (bj s i ts).2<=2 * bi ts+(bj s i ts).2.length/\(ce (bj s i ts).2:Int)<=bi ts
 | [],s,i,h,_,_,_,_,_=>by
  rw [fZ,bj];exact ⟨.nil,fun p a=>(by cases a),by simp [ce,bi],by simp [ce,bi]⟩
 | t::ts,s,i,h,h0,hl,hn,hg,ht=>by
  rw [mV] at ht;rw [dL] at hg;rw [aO] at hl;obtain ⟨j,B,C⟩:=s6 h (i:=i) ⟨h0,by omega⟩ hg.1;obtain ⟨l,m,b3,D⟩:=Im ts (s:=(bx s i t).1) (i:=i+1) j.wf (by omega) (by omega) (by omega) hg.2 ht.2;have hc:=cZ t;have key:AllL (rV s i t)/\Pd0 (bx s i t).2/\((rV s i t).length:Int)+2 * ce (bx s i t).2<=2 * bM t+(bx s i t).2.length/\(ce (bx s i t).2:Int)<=bM t:=by
   unfold rV bx;rcases ht.1.kind with hk|hk|hk
   ·have g:¬ t.kind=2:=by have:=hk.1; omega
    simp only [ae g,af hk.1];refine ⟨?_,fun p a=>(by cases a),?_,by simp only [ce]; omega⟩
    ·split
     ·have:=h.lt t.n;rename_i u
      exact .cons (Ei (.inl rfl) (by omega) (by omega)) .nil
     ·exact .nil
    ·split <;> simp only [ce,cq,aO] <;> omega
   ·rw [af hk.1,af hk.1];exact ⟨.cons (Ei (.inr (.inl rfl)) hk.2 (by omega)) .nil,fun p a=>(by cases a),by simp only [ce,cq,aO]; omega,by simp only [ce]; omega⟩
   ·have g:¬ t.kind=2:=by have:=hk.1; omega
    have r:¬ t.kind=1:=by have:=hk.1; omega
    simp only [ae g,ae r];refine ⟨.nil,fun p a=>?_,by simp only [ce,cq,aO]; omega,by simp only [ce]; omega⟩;rw [cO.1 a];exact ⟨ht.1,h0,hk.1⟩
  obtain ⟨o,q,G,J⟩:=key;rw [fZ,bj,bi];refine ⟨o.app l,fun p a=>?_,?_,?_⟩
  ·rcases cI.1 a with a|a
   ·exact q p a
   ·exact m p a
  ·show (((rV s i t++fZ (bx s i t).1 (i+1) ts).length:Nat):Int)+2 * ((ce ((bx s i t).2++(bj (bx s i t).1 (i+1) ts).2):Nat):Int)<=_+(((bx s i t).2++(bj (bx s i t).1 (i+1) ts).2).length:Nat)
   rw [eA,bv,bv];omega
  ·show ((ce ((bx s i t).2++(bj (bx s i t).1 (i+1) ts).2):Nat):Int)<=_;rw [eA];omega
def nsT:List T->Nat
 | []=>0
 | t::ts=>(if t.kind=3 then 0 else 1)+nsT ts
def KN:List T->List Int->Prop
 | t::ts,x::vs=>(t.kind=3->0<=x)/\KN ts vs
 | _,_=>True
theorem F7:∀ (ts:List T) (vs:List Int) {s:CS},Wf s->dL ts->mV ts->vs.length=ts.length->KW s.next ts vs->KN ts vs->s.next+nsT ts<=999->AllL (iA s ts vs)/\(cJ s ts vs).next<=s.next+nsT ts
 | [],[],s,h,_,_,_,_,_,_=>by
  rw [iA,cJ]
  ·exact ⟨.nil,by simp [nsT]⟩
  all_goals simp
 | t::ts,x::vs,s,h,hg,ht,hl,hw,h0,hn=>by
  rw [mV] at ht;rw [dL] at hg;rw [KW] at hw;rw [KN] at h0;rw [nsT] at hn;rw [iA,cJ];have m:=h.four;by_cases a:t.kind=3
  ·rw [af a] at hn ⊢;rw [af a];obtain ⟨g,i⟩:=F7 ts vs (h.emit ⟨5,x,0,emptyB⟩) hg.2 ht.2 (by simpa using hl) hw.2 h0.2 (by show s.next+_<=_; omega);have:=hw.1 a;have:=h0.1 a;refine ⟨.cons (O5 (.inr (.inl rfl)) (by omega)) g,?_⟩;have i:(cJ (s.emit ⟨5,x,0,emptyB⟩) ts vs).next<=s.next+nsT ts:=i;rw [nsT,af a]; omega
  ·rw [ae a] at hn ⊢;rw [ae a];have j:=qS h hg.1 a;have l:=EA s t;obtain ⟨g,i⟩:=F7 ts vs j.wf hg.2 ht.2 (by simpa using hl) (.mono j.next ts vs hw.2) h0.2 (by omega);refine ⟨.cons (L9 h ht.1 a (by omega)) g,?_⟩;rw [nsT,ae a]; omega
mutual
theorem HG:∀ (t:T) {s:CS},Wf s->okG t->okH t->t.kind=3->s.next+bM t<=999->AllL (gL t s)/\(aW t s).1.next<=s.next+bM t/\((gL t s).length:Int)+1<=2 * bM t
 | .mk k n nm ks,s,h,hg,ht,j,hn=>by
  have hk:=ht.kind;rw [okG] at hg;rw [okH] at ht;have a:bM (.mk k n nm ks)=1+bi ks:=by rw [bM]
  have G:=h.four;have g:gJ nm=true/\ks.length<=4:=by
   have j:k=3:=j;rcases ht.1 with e|e|e
   ·omega
   ·omega
   ·exact e.2
  obtain ⟨i,l⟩:=qO ks h hg.2;have q:s.next+bi ks+1<=999:=by rw [a] at hn; omega
  obtain ⟨m,B,C,o⟩:=Lz ks h hg.2 ht.2 (by omega);have r:=(i.wf.emit ⟨7,ks.length,(bg ks s).1.next,nm⟩).inc;have J:(((bg ks s).1.emit ⟨7,ks.length,(bg ks s).1.next,nm⟩).inc).next=(bg ks s).1.next+1:=rfl;have u:=i.next;obtain ⟨p,D⟩:=F7 ks (bg ks s).2 r hg.2 ht.2 (gG ..) (.mono (by omega) _ _ l) o (by omega);rw [gL,aW,a];refine ⟨m.app (.cons (SD (.inr rfl) g.2 g.1 (by omega)) p),?_,?_⟩
  ·show (cJ _ ks _).next<=_;omega
  ·rw [bv,aO,qF _ _ _ (gG ..)];omega
theorem Lz:∀ (ts:List T) {s:CS},Wf s->dL ts->mV ts->s.next+bi ts<=999->AllL (jP ts s)/\(bg ts s).1.next+nsT ts<=s.next+bi ts/\((jP ts s).length:Int)+ts.length<=2 * bi ts/\KN ts (bg ts s).2
 | [],s,h,_,_,_=>by
  rw [jP,bg];refine ⟨.nil,by simp [nsT,bi],by simp [bi],?_⟩;rw [KN]; trivial; all_goals simp
 | t::ts,s,h,hg,ht,hn=>by
  rw [mV] at ht;rw [dL] at hg;rw [bi] at hn;have hc:=cZ t;have u:=bU ts;have G:=h.four;have key:Xt s (if t.kind=3 then aW t s else (s,-1)).1/\AllL (if t.kind=3 then gL t s else [])/\(if t.kind=3 then aW t s else (s,-1)).1.next+(if t.kind=3 then 0 else 1:Nat)<=s.next+bM t/\((if t.kind=3 then gL t s else []).length:Int)+1<=2 * bM t/\(t.kind=3->0<=(if t.kind=3 then aW t s else (s,-1)).2):=by
   by_cases a:t.kind=3
   ·rw [af a,af a,af a];obtain ⟨i,m,l⟩:=HG t h hg.1 ht.1 a (by omega);obtain ⟨j,B,C⟩:=jy t h hg.1;exact ⟨j,i,by omega,l,fun _=>by omega⟩
   ·rw [ae a,ae a,ae a];exact ⟨.refl h,.nil,by show s.next+_<=_; omega,by simp only [cq]; omega,fun g=>absurd g a⟩
  rw [jP,bg,nsT,bi];generalize (if t.kind=3 then aW t s else (s,-1))=p at key ⊢;generalize (if t.kind=3 then gL t s else [])=px at key ⊢;obtain ⟨j,i,m,l,o⟩:=key;obtain ⟨q,D,b3,r⟩:=Lz ts j.wf hg.2 ht.2 (by omega);refine ⟨i.app q,?_,?_,?_⟩
  ·show (bg ts p.1).1.next+_<=_;omega
  ·rw [bv,aO];omega
  ·show KN (t::ts) (p.2::(bg ts p.1).2);rw [KN];exact ⟨o,r⟩
end
theorem Ri {s:CS} (h:Wf s) {i:Int} (a:0<=i/\i<=999) {t:T} (j:okG t) (l:okH t) (hn:s.next+bM t<=999):AllL (CV s i t)/\(eY s i t).next<=s.next+bM t/\((CV s i t).length:Int)<=2 * bM t:=by
 have hc:=cZ t;have D:=h.four;unfold CV eY;rcases l.kind with hk|hk|hk
 ·have g:¬ t.kind=2:=by have:=hk.1; omega
  simp only [ae g,af hk.1];split
  ·rename_i q
   have:=h.lt t.n;exact ⟨.cons (Ei (by simp) (by omega) a) .nil,by show s.next<=_; omega,by simp only [aO,cq]; omega⟩
  ·exact ⟨.cons (Ei (by simp) (by omega) a) .nil,by show s.next+1<=_; omega,by simp only [aO,cq]; omega⟩
 ·rw [af hk.1,af hk.1];exact ⟨.cons (Ei (by simp) hk.2 a) .nil,by show s.next<=_; omega,by simp only [aO,cq]; omega⟩
 ·have g:¬ t.kind=2:=by have:=hk.1; omega
  have p:¬ t.kind=1:=by have:=hk.1; omega
  simp only [ae g,ae p];obtain ⟨m,o,r⟩:=HG t h j l hk.1 (by omega);obtain ⟨u,B,C⟩:=jy t h j;exact ⟨m.app (.cons (Ei (by simp) (by omega) a) .nil),o,by rw [bv]; simp only [aO,cq]; omega⟩
theorem Lv:∀ (ts:List T) {s:CS} {i:Int},Wf s->0<=i->i+ts.length<=999->dL ts->mV ts->s.next+bi ts<=999->AllL (mU s i ts)/\(dM s i ts).next<=s.next+bi ts/\((mU s i ts).length:Int)<=2 * bi ts
 | [],s,i,h,_,_,_,_,_=>by
  rw [mU,dM];exact ⟨.nil,by simp [bi],by simp [bi]⟩
 | t::ts,s,i,h,h0,hi,hg,ht,hn=>by
  rw [mV] at ht;rw [dL] at hg;rw [bi] at hn ⊢;rw [aO] at hi;have j:=bU ts;obtain ⟨a,l,m⟩:=Ri h (i:=i) (by omega) hg.1 ht.1 (by omega);obtain ⟨g,o,b3⟩:=Lv ts (i:=i+1) (wd h i hg.1).wf (by omega) (by omega) hg.2 ht.2 (by omega);rw [mU,dM];exact ⟨a.app g,by omega,by rw [bv]; omega⟩
theorem GH:∀ (a:List T) {s:CS},Wf s->dL a->mV a->(∀ g∈a,g.kind=3)->s.next+bi a<=999->AllL (gQ s a)/\(dr s a).next<=s.next+bi a/\((gQ s a).length:Int)<=2 * bi a
 | [],s,h,_,_,_,_=>by
  rw [gQ,dr];exact ⟨.nil,by simp [bi],by simp [bi]⟩
 | g::a,s,h,hg,ht,l,hn=>by
  rw [mV] at ht;rw [dL] at hg;rw [bi] at hn ⊢;have r:=bU a;have t:bM g=1+bi g.kids:=by cases g; rw [bM]; rfl
  have u:=bU g.kids;have hk:gJ g.name=true/\g.kids.length<=4:=by
   have l:=l g (bL ..);rcases ht.1.kind with e|e|e
   ·omega
   ·omega
   ·exact e.2
  have key:AllL (u3 s g)/\(eJ s g).next<=s.next+bM g/\((u3 s g).length:Int)<=2 * bM g:=by
   unfold u3 eJ;split
   ·exact ⟨.cons (TZ (.inl rfl)) .nil,by show s.next<=_; omega,by simp only [aO,cq]; omega⟩
   ·obtain ⟨j,o,p⟩:=Lv g.kids (i:=0) h (by decide) (by omega) hg.1.kids ht.1.kids (by omega);exact ⟨j.app (.cons (Uj (by split <;> simp) hk.2 hk.1) .nil),by show (dM s 0 g.kids).next<=_; omega,by rw [bv]; simp only [aO,cq]; omega⟩
  obtain ⟨j,o,p⟩:=key;obtain ⟨q,B,b3⟩:=GH a (qJ h hg.1).wf hg.2 ht.2 (fun x m=>l x (bV _ m)) (by omega);rw [gQ,dr];exact ⟨j.app q,by omega,by rw [bv]; omega⟩
theorem zT:∀ {ts:List T},(∀ t∈ts,cA t=true)->bi ts<=120 * (ts.length:Int)
 | [],_=>by simp [bi]
 | t::ts,h=>by
  have g:=h t (bL ..);rw [cA,bJ,bE] at g;have:=zT fun x a=>h x (bV _ a);rw [bi,aO];omega
theorem Mq {c:C} (h:a9 c=true):AllL (dK c)/\(dK c).length<=2000:=by
 obtain ⟨i,p⟩:=je h;obtain ⟨q,V,Y⟩:=eH h;have a:=h;rw [a9] at a;simp only [bJ,fS,bE] at a;have v1:cA c.head=true:=a.2.2.1;have v2:∀ t∈c.body,cA t=true:=fun t g=>by
  have:=a.2.1 t g;rw [eI,bJ] at this;exact this.1
 have G:=wR v1;have J:mV c.body:=IA fun t g=>wR (v2 t g);have c1:bM c.head<=120:=by rw [cA,bJ,bE] at v1; exact v1.2
 have c2:=zT v2;have M:c.body.length<=6:=a.1;have N:bM c.head=1+bi c.head.kids:=by cases c.head; rw [bM]; rfl
 have O:bi c.body<=720:=by omega
 have o:(0:Int)+c.head.kids.length<=startC.next:=by show (0:Int)+c.head.kids.length<=4; omega
 obtain ⟨j,l,m⟩:=lc c.head.kids jt (eP _) o i.kids;have m:(bj startC 0 c.head.kids).1.next=4:=m;obtain ⟨r,u,Z,a4⟩:=Im c.head.kids jt (eP _) o (by decide) i.kids G.kids;obtain ⟨B,b2,b3⟩:=Oy (ce (bj startC 0 c.head.kids).2) j.wf l u (by omega) (by omega);have U:=qK (ce (bj startC 0 c.head.kids).2) j.wf l;obtain ⟨D,e2,e3⟩:=GH c.body (s:=fp startC c.head.kids) U.wf p J q (by
  show (eD _ _ _).next+_<=_;omega)
 rw [pa,BE];refine ⟨(r.app (B.app D)).app (.cons (TZ (.inr rfl)) .nil),?_⟩;rw [bv,bv,bv,vh];omega
end
section
open Go Go.RowKit
theorem Ip (s:CS) (ks:List T):(fp s ks).sz<=s.sz+ks.length+8 * bi ks:=by
 have a:=qz ks s 0;have g:=(Mw (ce (bj s 0 ks).2) (bj s 0 ks).1 (bj s 0 ks).2).2;rw [fp];omega
theorem zY {c:C} (h:a9 c=true):bi c.head.kids<=120/\bi c.body<=720:=by
 rw [a9] at h;simp only [bJ,fS,bE] at h;have v1:cA c.head=true:=h.2.2.1;have v2:∀ t∈c.body,cA t=true:=fun t a=>by
  have:=h.2.1 t a;rw [eI,bJ] at this;exact this.1
 have j:bM c.head<=120:=by rw [cA,bJ,bE] at v1; exact v1.2
 have l:=zT v2;have g:c.body.length<=6:=h.1;have i:bM c.head=1+bi c.head.kids:=by cases c.head; rw [bM]; rfl
 omega
def Ba (P:Program) (T:TypeId) (f d:Nat):Bool:=match P.underlying T with
 | some (.struct fs)=>match fs[f]? with
  | some fd=>Nat.beq fd.offset d && jO P fd.type
  | none=>false
 | _=>false
def IsM (S:ag) (v:Value) (s:CS):Prop:=∃ cs:List Value,v=.agg cs.toArray/\MkS S cs s
theorem IsM.mono {S S':ag} {v:Value} {s:CS} (h:IsM S v s) (a:Sle S S'):IsM S' v s:=by
 obtain ⟨cs,e,g⟩:=h;exact ⟨cs,e,g.mono a⟩
theorem PH (n:Nat):Rows 1 jG (List.replicate n [Value.int .i64 (-1)]) (List.replicate n (-1)):=
 ⟨by simp,fun c hc=>by rw [List.eq_of_mem_replicate hc]; rfl,fun i a g=>by simp [jG]⟩
section
attribute [local irreducible] Run CondV aC aU
theorem Na {w:World} {K:Value->World->Prop} {k:Int} (hk:K (.agg #[.slice none 0 0,.int .i64 k,.slice none 0 0]) w):Run Tryz.prog (bR av [(1,.int .i64 k)]) w K:=by
 refine Run.of (v:=.agg #[.slice none 0 0,.int .i64 k,.slice none 0 0]) (w':=w) ?_ hk;unfold bR;rw [Sem.run_bind,run_build w av _ #[.slice none 0 0,.int .i64 k,.slice none 0 0] (by kernel_rfl),Result.andThen_ok];rfl
theorem Cv {S:ag}:Tri Tryz.prog Ik [] [] S (DI startC):=by
 intro w a;refine vd.2 ?_;dsimp only[vd,oD];refine aH a eo fun h w' a=>?_;refine Na ?_;refine aH a eo fun l w' a=>?_;refine al a 1 rfl az rfl rfl (by simp [Value.oneCell']) fun w' a=>?_;have a:=a.rowNil bD 1;have a:Inv w [] [.blk h (.cells #[.slice none 0 0,.int .i64 0,.slice none 0 0] av),.blk l (.cells #[.slice none 0 0,.int .i64 4,.slice none 0 0] av),aB (.slice none 0 0) bD 1 (List.replicate 0 [Value.int .i64 (-1)])] S w':=a;refine ⟨fun i w'=>∃ (j:Nat) (v:Value),j<=26/\i=.int .i64 j/\Inv w [] [.blk h (.cells #[.slice none 0 0,.int .i64 0,.slice none 0 0] av),.blk l (.cells #[v,.int .i64 4,.slice none 0 0] av),aB v bD 1 (List.replicate j [Value.int .i64 (-1)])] S w',fun i _=>26 - (intOf i).toNat,⟨0,_,by omega,rfl,a⟩,?_⟩;intro i _ _ _ _ _ _ _ _ _ w';rintro ⟨j,v,t,rfl,a⟩;refine fY ?_;refine aS (fun m=>?_) (fun m=>?_)
 ·refine ah a 1 rfl dF fG rfl ?_;refine lf (css:=List.replicate j [Value.int .i64 (-1)]) a 2 jl rfl rfl rfl (by rw [List.length_replicate]; omega) (by omega) fun v2 w' a=>?_;rw [show List.replicate j [Value.int .i64 (-1)]++[[Value.int .i64 (-1)]]=List.replicate (j+1) [Value.int .i64 (-1)] from List.replicate_succ'.symm] at a;have a:Inv w [] [.blk h (.cells #[.slice none 0 0,.int .i64 0,.slice none 0 0] av),.blk l (.cells #[v,.int .i64 4,.slice none 0 0] av),aB v2 bD 1 (List.replicate (j+1) [Value.int .i64 (-1)])] S w':=a.pick [true,true,true,false];have g:=gc (a.its (aB v2 bD 1 (List.replicate (j+1) [Value.int .i64 (-1)])) (by simp));refine dG a 1 rfl dF fG rfl g.1 g.2 fun w' a=>?_;refine bF (by omega) ?_;exact ⟨⟨j+1,v2,by omega,rfl,a⟩,by simp [intOf]; omega⟩
 have q:j=26:=by omega
 subst q;have g:=gc (a.its (aB v bD 1 (List.replicate 26 [Value.int .i64 (-1)])) (by simp));refine aq a 1 az rfl rfl ?_;refine al a 0 rfl az rfl rfl (fun u r=>by
  simp only [ek,Ln,or_false] at r;rcases r with rfl|rfl|rfl
  ·exact g.2
  ·rfl
  ·rfl) fun w' a=>?_
 refine bp a 0 az rfl rfl ?_;have a:Inv w [] ([.blk h (.cells #[v,.int .i64 4,.slice none 0 0] av),.blk l (.cells #[v,.int .i64 4,.slice none 0 0] av)]++[aB v bD 1 (List.replicate 26 [Value.int .i64 (-1)])]) S w':=a;obtain ⟨S3,o,p,a⟩:=a.lendExt;exact ⟨_,_,S3,rfl,a.nil,o,rfl,[v,.int .i64 4,.slice none 0 0],rfl,_,_,rfl,RowRd.rows (PH 26) p,⟨none,0,rfl,be _,aK _,.inl rfl⟩⟩
theorem NM {P:Program} {w:World} {K:Value->World->Prop} {T ty:TypeId} {f d:Nat} {cs:Array Value} {x:Value} (h:Ba P T f d=true) (a:cs[d]?=some x) (hk:K x w):Run P (sOp (.field T (.const (.agg cs)) f) ty) w K:=by
 refine Run.of (v:=x) (w':=w) ?_ hk;unfold Ba at h;split at h
 ·rename_i l g
  split at h
  ·rename_i m hf
   rw [bJ] at h;have i:=BL h.1;have j:=(qy (w:=w) h.2).1;rw [<- i] at a;simp [sOp,execOp,ev0,evE,Instr.field,run_underlying g,hf,Go.part,asAgg,j,a]
  ·cases h
 ·cases h
theorem RZ:Ba Tryz.prog av 2 2=true:=by kernel_rfl
theorem Nw {w:World} {K:Value->World->Prop} {ty:TypeId} {v1 v2 a:Value} (hk:K a w):Run Tryz.prog (sOp (.field av (.const (.agg #[v1,v2,a])) 2) ty) w K:=by
 exact NM RZ rfl hk
theorem BM {c:C} {S:ag} {cs:List Value} (h:RdC S cs c) (hv:a9 c=true):Tri Tryz.prog FI [.agg cs.toArray] [] S fun r I' S'=>I'=[]/\RdSl S' 4 (dZ S') r (dK c):=by
 intro w g;obtain ⟨o1,o2,_⟩:=kX hv;obtain ⟨k1,k2,k3⟩:=eH hv;obtain ⟨c1,c2⟩:=zY hv;have a5:=bU c.head.kids;obtain ⟨V,Z⟩:∃ V,V=fp startC c.head.kids:=⟨_,rfl⟩
 obtain ⟨o,a2⟩:∃ o,o=(dr V c.body).emit ⟨14,0,0,emptyB⟩:=⟨_,rfl⟩
 have a0:dK c=o.code:=by rw [dK,a2,Z]
 rw [a0];have a6:startC.sz=4:=rfl;have hz:=Ip startC c.head.kids;have hg:=NT startC c.head.kids;rw [<- Z] at hz hg;have a3:V.sl.length=26:=by rw [hg.len]; rfl
 have a4:0<=V.next:=LA (by decide) hg.next;obtain ⟨hd,kb,rfl,h1,h2⟩:=h;obtain ⟨kv,rfl,_,_,_,h3⟩:=RdT.iff.1 h1;obtain ⟨ka,M,rfl,_⟩:=id h3;obtain ⟨ba,N,rfl,_⟩:=id h2;refine rB.2 ?_;dsimp only[rB,aQ];refine bH g fun b1 w' g=>?_;have g:Inv w [] [.blk b1 (.cells #[.int .i64 c.head.kind,.int .i64 c.head.n,.string c.head.name,.slice ka c.head.kids.length M,.slice ba c.body.length N] ai)] S w':=g;refine ⟨fun D x2 np sX x9 x8 x7 x6 x5 x4 x3 w_=>Fx D 0 [True,x4=.pointer (some ⟨b1,0,none⟩),x5=.pointer (some ⟨b1,3,none⟩),x6=.slice ka c.head.kids.length M,True,x8=.pointer (some ⟨b1,4,none⟩),x9=.slice ba c.body.length N,True,True,True]/\∃ S2,Ext w.heap.size [] S S2/\(D 0=true->IsM S2 x3 startC)/\(D 4=true->IsM S2 x7 V)/\(D 7=true->IsM S2 sX o)/\(D 8=true->RdSl S2 4 (dZ S2) np o.code)/\(D 9=true->RdSl S2 4 (dZ S2) x2 o.code)/\Inv w [] [.blk b1 (.cells #[.int .i64 c.head.kind,.int .i64 c.head.n,.string c.head.name,.slice ka c.head.kids.length M,.slice ba c.body.length N] ai)] S2 w_,⟨Fx.nil _ _,⟨S,Ext.refl _ _ _,aY,aY,aY,aY,aY,g.draw⟩⟩,⟨?_,?_,?_,?_,?_,?_,?_,?_,?_,?_,trivial⟩,?_⟩;all_goals (intro D bw; intros; rename_i x2 np sX x9 x8 x7 x6 x5 x4 x3 w_ a1; have i:=a1.1; obtain ⟨⟨cG,cf,cD,cF,bQ,cE,bZ,cL,dw,dl,_⟩,⟨S2,j,p,q,u,l,m,g⟩⟩:=a1)
 ·refine Run.call0E Fe F1 g Cv fun v' I' S3 w_=>?_;rintro ⟨rfl,B,rfl,G⟩ a g;have p:aE D 0 0=true->IsM S3 (.agg B.toArray) startC:=fun _=>⟨B,rfl,G⟩
  have q:aE D 0 4=true->IsM S3 x7 V:=fun h=>(q h).mono a.1;have u:aE D 0 7=true->IsM S3 sX o:=fun h=>(u h).mono a.1;have l:aE D 0 8=true->RdSl S3 4 (dZ S3) np o.code:=fun h=>(l h).monoK a.1;have m:aE D 0 9=true->RdSl S3 4 (dZ S3) x2 o.code:=fun h=>(m h).monoK a.1;have j:=j.trans a;obtain ⟨S2,O⟩:∃ x,x=S3:=⟨_,rfl⟩
  subst O;exact ⟨i.set 0 (by first|assumption|trivial),⟨S2,j,p,q,u,l,m,g⟩⟩
 ·refine au cC ?_;exact ⟨i.set 1 rfl,⟨S2,j,p,q,u,l,m,g⟩⟩
 ·obtain rfl:=cf ‹_›;refine au ay ?_;exact ⟨i.set 2 rfl,⟨S2,j,p,q,u,l,m,g⟩⟩
 ·obtain rfl:=cD ‹_›;refine aD g 0 ax rfl rfl ?_;exact ⟨i.set 3 rfl,⟨S2,j,p,q,u,l,m,g⟩⟩
 ·have T3:=cG ‹_›;obtain rfl:=cF ‹_›;obtain ⟨B,U,G⟩:=p ‹D 0=true›;rw [U] at p ⊢;refine Run.call0E HN Jb g (Gl G (h3.monoT j.1) (iv o1.kids) rfl (by decide) (by omega)) fun v' I' S3 w_=>?_;rw [<- Z];rintro ⟨rfl,J,rfl,Y⟩ a g;have p:aE D 4 0=true->IsM S3 (.agg B.toArray) startC:=fun h=>(p h).mono a.1;have q:aE D 4 4=true->IsM S3 (.agg J.toArray) V:=fun _=>⟨J,rfl,Y⟩
  have u:aE D 4 7=true->IsM S3 sX o:=fun h=>(u h).mono a.1;have l:aE D 4 8=true->RdSl S3 4 (dZ S3) np o.code:=fun h=>(l h).monoK a.1;have m:aE D 4 9=true->RdSl S3 4 (dZ S3) x2 o.code:=fun h=>(m h).monoK a.1;have j:=j.trans a;obtain ⟨S2,O⟩:∃ x,x=S3:=⟨_,rfl⟩
  subst O;exact ⟨i.set 4 (by first|assumption|trivial),⟨S2,j,p,q,u,l,m,g⟩⟩
 ·refine au bC ?_;exact ⟨i.set 5 rfl,⟨S2,j,p,q,u,l,m,g⟩⟩
 ·obtain rfl:=cE ‹_›;refine aD g 0 ax rfl rfl ?_;exact ⟨i.set 6 rfl,⟨S2,j,p,q,u,l,m,g⟩⟩
 ·have GE:=bQ ‹_›;obtain rfl:=bZ ‹_›;obtain ⟨B,U,G⟩:=q ‹D 4=true›;rw [U] at q ⊢;refine Run.call0E EY Ff g (CM G (h2.monoT j.1) (fun t ht=>⟨o2 t ht,k1 t ht⟩) a3 a4 (by omega)) fun v' I' S3 w_=>?_;rw [<- a2];rintro ⟨rfl,J,rfl,Y⟩ a g;have p:aE D 7 0=true->IsM S3 x3 startC:=fun h=>(p h).mono a.1;have q:aE D 7 4=true->IsM S3 (.agg B.toArray) V:=fun h=>(q h).mono a.1;have u:aE D 7 7=true->IsM S3 (.agg J.toArray) o:=fun _=>⟨J,rfl,Y⟩
  have l:aE D 7 8=true->RdSl S3 4 (dZ S3) np o.code:=fun h=>(l h).monoK a.1;have m:aE D 7 9=true->RdSl S3 4 (dZ S3) x2 o.code:=fun h=>(m h).monoK a.1;have j:=j.trans a;obtain ⟨S2,O⟩:∃ x,x=S3:=⟨_,rfl⟩
  subst O;exact ⟨i.set 7 (by first|assumption|trivial),⟨S2,j,p,q,u,l,m,g⟩⟩
 ·have Cs:=cL ‹_›;obtain ⟨B,U,G⟩:=u ‹D 7=true›;obtain ⟨v1,v2,rfl,q1,q2⟩:=id G;rw [U] at u ⊢;refine Nw ?_;have l:aE D 8 8=true->RdSl S2 4 (dZ S2) v2 o.code:=fun _=>q2;exact ⟨i.set 8 (by first|assumption|trivial),⟨S2,j,p,q,u,l,m,g⟩⟩
 ·have GD:=dw ‹_›;have m:aE D 9 9=true->RdSl S2 4 (dZ S2) np o.code:=fun _=>l ‹D 8=true›;exact ⟨i.set 9 (by first|assumption|trivial),⟨S2,j,p,q,u,l,m,g⟩⟩
 obtain ⟨T3,rfl,rfl,rfl,GE,rfl,rfl,Cs,GD,DC,_⟩:=i.all;clear i cG cf cD cF bQ cE bZ cL dw dl;exact ⟨_,_,S2,rfl,g.nil,j,rfl,m (by assumption)⟩
end
end
section
open Go Go.RowKit
theorem Ng (S:ag) (s:CS):Rows 4 (dZ S) (l5 s) s.code:=by
 refine ⟨vG s,fun c hc=>?_,fun i a g=>?_⟩
 ·unfold l5 at hc;obtain ⟨x,_,rfl⟩:=ng.1 hc;rfl
 ·simp [l5,dZ]
theorem NI:SlM #[] startC:=by
 refine ⟨fun e g=>by simp at g,fun n _ _ a=>?_⟩;exfalso;unfold CS.at_ startC at a;simp only [Hv] at a;split at a <;> simp at a
theorem Qv {c:C} (h:a9 c=true):Wf (fp startC c.head.kids):=by
 obtain ⟨a,l⟩:=je h;obtain ⟨m,o,p⟩:=eH h;have j:(0:Int)+c.head.kids.length<=startC.next:=by show (0:Int)+c.head.kids.length<=4; omega
 obtain ⟨g,i,q⟩:=lc c.head.kids jt (eP _) j a.kids;exact (qK (ce (bj startC 0 c.head.kids).2) g.wf i).wf
section
attribute [local irreducible] Run CondV aC aU
theorem MN {w:World} {K:Value->World->Prop} {m:Nat} {k:Int} (hk:K (.agg #[.map (some m),.int .i64 k,.slice none 0 0]) w):Run Tryz.prog (bR gz [(0,.map (some m)),(1,.int .i64 k)]) w K:=by
 refine Run.of (v:=.agg #[.map (some m),.int .i64 k,.slice none 0 0]) (w':=w) ?_ hk;unfold bR;rw [Sem.run_bind,run_build w gz _ #[.map (some m),.int .i64 k,.slice none 0 0] (by kernel_rfl),Result.andThen_ok];rfl
theorem zz {S:ag}:Tri Tryz.prog CY [] [] S fun r I' S'=>S'=S/\∃ h g,r=.pointer (some ⟨h,0,none⟩)/\I'=dd h g #[] 0 startC (.slice none 0 0):=by
 intro w a;refine p8.2 ?_;dsimp only[p8,oD];refine mu a fun g w' a=>?_;refine MN ?_;refine bH a fun h w' a=>?_;have a:=a.rowNil aF 4;have a:Inv w [] ([.blk g (.map #[] 0)]++[.blk h (.cells #[.map (some g),.int .i64 4,.slice none 0 0] gz)]++[aB (.slice none 0 0) aF 4 (l5 startC)]) S w':=a;have a:Inv w [] (dd h g #[] 0 startC (.slice none 0 0)) S w':=a.perm (bK (l₁:=[_]) (l₂:=[_]) |>.append_right _);exact ⟨_,_,S,rfl,a,Ext.refl _ _ _,rfl,h,g,rfl,rfl⟩
theorem gP {c:C} {S:ag} {cs:List Value} (h:RdC S cs c) (p:a9 c=true):Tri Tryz.prog vI [.agg cs.toArray] [] S fun r I' S'=>I'=[]/\RdSl S' 4 (dZ S') r (dK c):=by
 intro w a;obtain ⟨k1,k2,k3⟩:=eH p;obtain ⟨c1,c2⟩:=zY p;obtain ⟨U,V⟩:=je p;have a0:=bU c.head.kids;have a1:startC.sz=4:=rfl;have hz:=Ip startC c.head.kids;have o:=Qv p;obtain ⟨q,g⟩:∃ q,q=fp startC c.head.kids:=⟨_,rfl⟩
 obtain ⟨j,m⟩:∃ j,j=(dr q c.body).emit ⟨14,0,0,emptyB⟩:=⟨_,rfl⟩
 have i:dK c=j.code:=by rw [dK,m,g]
 rw [i];rw [<- g] at hz o;obtain ⟨hd,M,rfl,Y,Z⟩:=h;obtain ⟨kv,rfl,_,_,_,h3⟩:=RdT.iff.1 Y;refine kQ.2 ?_;dsimp only[kQ,aQ];refine bH a fun J w' a=>?_;have a:Inv w [] [.blk J (.cells #[.int .i64 c.head.kind,.int .i64 c.head.n,.string c.head.name,kv,M] ai)] S w':=a;refine Run.call0 BV Bn a zz fun v' I' S' w'=>?_;rintro ⟨l,N,B,rfl,rfl⟩ _ a;rw [l] at a;refine au cC ?_;refine au ay ?_;refine aD a 0 ax rfl rfl ?_;refine Run.call wI xq a (Gh h3 jt NI U.kids (by omega) (by show (c.head.kids.length:Int)<=4; omega)) fun v' I' S' w'=>?_;rw [<- g];rintro ⟨l,D,G,cv,rfl,O⟩ _ a;rw [l] at a;refine au bC ?_;refine aD a 0 ax rfl rfl ?_;refine Run.call wW we a (EQ Z o O V (by omega)) fun v' I' S' w'=>?_;rw [<- m];rintro ⟨l,D,G,rfl⟩ _ a;rw [l] at a;have a:Inv w [] ([.blk J (.cells #[.int .i64 c.head.kind,.int .i64 c.head.n,.string c.head.name,kv,M] ai),.blk N (.cells #[.map (some B),.int .i64 j.next,v'] gz),.blk B (.map D G)]++[aB v' aF 4 (l5 j)]) S w':=a;obtain ⟨S3,t,u,a⟩:=a.lendExt;exact ⟨_,_,S3,rfl,a.nil,t,rfl,RowRd.rows (Ng S3 j) u⟩
theorem pp {c:C} {S:ag} {cs:List Value} (h:RdC S cs c):Tri Tryz.prog vj [.agg cs.toArray] [] S fun r I' S'=>I'=[]/\∃ v,r=.tuple #[v,.bool (a9 c)]/\RdSl S' 4 (dZ S') v (if a9 c=true then dK c else []):=by
 intro w a;have i:=h.length;refine kL.2 ?_;dsimp only[kL,aQ];refine bH a fun m w' a=>?_;have a:Inv w [] [.blk m (.cells cs.toArray ai)] S w':=a;refine aq a 0 aN rfl (by simpa using i) ?_;refine Run.callPure gE gx a (fO h) fun w' a=>?_;refine cU ?_;refine aI (fun g=>?_) (fun g=>?_)
 ·have g:a9 c=false:=by simpa using g
  rw [g];exact ⟨_,_,S,rfl,a.nil,Ext.refl _ _ _,rfl,_,rfl,⟨none,0,rfl,be _,aK _,.inl rfl⟩⟩
 ·have g:a9 c=true:=by simpa using g
  refine aq a 0 aN rfl (by simpa using i) ?_;refine Run.call0E hG hO a (gP h g) fun v' I' S3 w'=>?_;rintro ⟨rfl,j⟩ l a;rw [g];exact ⟨_,_,S3,rfl,a.nil,l,rfl,v',rfl,j⟩
end
end
section
open Go Go.RowKit
section
variable {S:ag} {ys:List Nat} {v:Value}
attribute [local irreducible] Run CondV aC aU
end
end
section
open Go Go.RowKit
section
variable {S:ag} {ys:List Nat} {v:Value}
attribute [local irreducible] Run CondV aC aU
end
end
section
open Go Go.RowKit
theorem yR:Tryz.prog.underlying aF=some (.struct (Tryz.prog.fieldsOf aF)):=by kernel_rfl
theorem DN:Tryz.prog.stoodInHeld aF=false:=by kernel_rfl
theorem Bd:Tryz.prog.eqGuardType Tryz.prog.depth aF=false:=by kernel_rfl
theorem Lq {w:World} (x:Ist) :
  (Op.equalIn 10000 aF (.agg x.cells.toArray) (.agg x.cells.toArray)).run Tryz.prog w=.ok true w:=by
 obtain ⟨a,b,c,s⟩:=x;rw [show (10000:Nat)=9999+1 from rfl,run_equalIn_struct w 9999 aF _ _ yR DN];have hf:(Tryz.prog.fieldsOf aF).toList=[(Tryz.prog.fieldsOf aF)[0]!,(Tryz.prog.fieldsOf aF)[1]!,(Tryz.prog.fieldsOf aF)[2]!,(Tryz.prog.fieldsOf aF)[3]!]:=by kernel_rfl
 have h:((Tryz.prog.fieldsOf aF)[0]!).type=bD:=by kernel_rfl
 have i:((Tryz.prog.fieldsOf aF)[1]!).type=bD:=by kernel_rfl
 have j:((Tryz.prog.fieldsOf aF)[2]!).type=bD:=by kernel_rfl
 have l:((Tryz.prog.fieldsOf aF)[3]!).type=fb:=by kernel_rfl
 have m:((Tryz.prog.fieldsOf aF)[0]!).offset=0:=by kernel_rfl
 have o:((Tryz.prog.fieldsOf aF)[1]!).offset=1:=by kernel_rfl
 have p:((Tryz.prog.fieldsOf aF)[2]!).offset=2:=by kernel_rfl
 have q:((Tryz.prog.fieldsOf aF)[3]!).offset=3:=by kernel_rfl
 have r:((Tryz.prog.fieldsOf aF)[0]!).name≠"_" := by decide +kernel
 have t:((Tryz.prog.fieldsOf aF)[1]!).name≠"_" := by decide +kernel
 have u:((Tryz.prog.fieldsOf aF)[2]!).name≠"_" := by decide +kernel
 have B:((Tryz.prog.fieldsOf aF)[3]!).name≠"_" := by decide +kernel
 rw [hf];have C:(Op.equalIn (9998+1) fb (.string s) (.string s)).run Tryz.prog w=.ok true w:=by
  rw [run_equalIn_string w 9998 fb s s aR,tt,aP rfl]
 have g:∀ n:Int,(Op.equalIn (9998+1) bD (.int .i64 n) (.int .i64 n)).run Tryz.prog w=.ok true w:=fun n=>by
  rw [run_equalIn_int w 9998 bD .i64 .i64 n n c7]; simp
 rw [show (9999:Nat)=9998+1 from rfl];generalize D:(Tryz.prog.fieldsOf aF)[0]! = g0 at *;generalize G:(Tryz.prog.fieldsOf aF)[1]! = g1 at *;generalize J:(Tryz.prog.fieldsOf aF)[2]! = g2 at *;generalize M:(Tryz.prog.fieldsOf aF)[3]! = g3 at *;simp only [Op.eqFields,r,t,u,B,ne_eq,not_false_eq_true,if_true,Sem.run_bind,h,i,j,l,m,o,p,q];rw [dz aw (v:=.int .i64 a) rfl,Result.andThen_ok,dz aw (v:=.int .i64 a) rfl,Result.andThen_ok,g,Result.andThen_ok];simp only [DV,pQ,if_false,Sem.run_bind];rw [dz aw (v:=.int .i64 b) rfl,Result.andThen_ok,dz aw (v:=.int .i64 b) rfl,Result.andThen_ok,g,Result.andThen_ok];simp only [DV,pQ,if_false,Sem.run_bind];rw [dz aw (v:=.int .i64 c) rfl,Result.andThen_ok,dz aw (v:=.int .i64 c) rfl,Result.andThen_ok,g,Result.andThen_ok];simp only [DV,pQ,if_false,Sem.run_bind];rw [dz aZ (v:=.string s) rfl,Result.andThen_ok,dz aZ (v:=.string s) rfl,Result.andThen_ok,C,Result.andThen_ok];rfl
section
variable {w w0:World} {X:List Nat} {L:List Item} {S:ag} {K:Value->World->Prop} {ys:List Nat} {v:Value}
attribute [local irreducible] Run CondV aC aU
theorem Pg {a g:Bool} (x:Ist):(dh .neq aF a g (.agg x.cells.toArray) (.agg x.cells.toArray)).run Tryz.prog w=.ok (.value (.bool false)) w:=by
 unfold dh;have e:(binOp .neq aF (.agg x.cells.toArray) (.agg x.cells.toArray)).run Tryz.prog w=.ok (.bool false) w:=by
  have h:=Lq (w:=w) x;simp only [binOp,Op.equal,Op.maxDepth,Sem.run_bind];rw [h];rfl
 rw [Sem.run_bind,run_eqGuard_agg w .neq aF _ _ _ _ Bd,Result.andThen_ok,Sem.run_bind,e,Result.andThen_ok];rfl
theorem uJ {l:List Ist} {u v:Value} (h:RdSl S 4 (dZ S) u l) (g:RdSl S 4 (dZ S) v l):Pure Tryz.prog Km [u,v] S (.bool true):=by
 intro w m;have B:=h.le;simp only [maxLen] at B;refine xE.2 ?_;dsimp only[xE,bm];refine aG h cX ?_;refine aG g cX ?_;refine pu ?_;refine aI (fun C=>by simp at C) (fun _=>?_);refine ⟨fun i w'=>∃ k:Nat,k<=l.length/\i=.int .i64 k/\Inv w [] [] S w',fun i _=>l.length - (intOf i).toNat,⟨0,aK _,rfl,m⟩,?_⟩;intro i _ _ _ a0 a1 a2 a3 a4 a5 a6 a7 a8 _ _ _ _ w';rintro ⟨k,hk,rfl,m⟩;refine aG h cX ?_;refine cu ?_;refine aS (fun G=>?_) (fun G=>done m rfl);have p:k<l.length:=by omega
 obtain ⟨b,o,cap,c,E,fz,rfl,hS,hR⟩:=h.at_ p;have O:bB c (o+k * 4) 4=l[k].cells:=hR;obtain ⟨b2,M,t,c2,E2,a9,rfl,N,q⟩:=g.at_ p;have q:bB c2 (M+k * 4) 4=l[k].cells:=q;refine ⟨fun D U V Y Z oQ nq pX xy nr w_=>Fx D 0 [nr=.slice (some ⟨b,o,none⟩) l.length cap,xy=.int .i64 k,pX=.pointer (some ⟨b,o+k * 4,none⟩),nq=.agg l[k].cells.toArray,oQ=.slice (some ⟨b2,M,none⟩) l.length t,Z=.int .i64 k,Y=.pointer (some ⟨b2,M+k * 4,none⟩),V=.agg l[k].cells.toArray,U=.bool false]/\Inv w [] [] S w_,⟨Fx.nil _ _,m.draw⟩,⟨?_,?_,?_,?_,?_,?_,?_,?_,?_,trivial⟩,?_⟩;all_goals (intro D bw; intros; rename_i U V Y Z oQ nq pX xy nr w_ r; have a:=r.1; obtain ⟨⟨cG,cf,cD,cF,bQ,cE,bZ,cL,dw,_⟩,m⟩:=r)
 ·exact ⟨a.set 0 rfl,m⟩
 ·exact ⟨a.set 1 rfl,m⟩
 ·obtain rfl:=cG ‹_›;obtain rfl:=cf ‹_›;refine aT cX p ?_;exact ⟨a.set 2 rfl,m⟩
 ·obtain rfl:=cD ‹_›;refine dX (cs:=l[k].cells) fw rfl (fun j v J=>by rw [m.cellS hS]; exact bd O j v J) ?_;exact ⟨a.set 3 rfl,m⟩
 ·exact ⟨a.set 4 rfl,m⟩
 ·exact ⟨a.set 5 rfl,m⟩
 ·obtain rfl:=bQ ‹_›;obtain rfl:=cE ‹_›;refine aT cX p ?_;exact ⟨a.set 6 rfl,m⟩
 ·obtain rfl:=bZ ‹_›;refine dX (cs:=l[k].cells) fw rfl (fun j v J=>by rw [m.cellS N]; exact bd q j v J) ?_;exact ⟨a.set 7 rfl,m⟩
 ·obtain rfl:=cF ‹_›;obtain rfl:=cL ‹_›;refine Run.of (Pg _) ?_;exact ⟨a.set 8 rfl,m⟩
 obtain ⟨rfl,rfl,rfl,rfl,rfl,rfl,rfl,rfl,rfl,_⟩:=a.all;clear a cG cf cD cF bQ cE bZ cL dw;refine aI (fun C=>by cases C) (fun _=>?_);refine bF (by omega) ?_;exact ⟨⟨k+1,p,rfl,m⟩,by simp [intOf]; omega⟩
theorem Run.pubOC {f:FuncId} {fn:Func} {args:List Value} {c:C} {b:Bool} (hf:Tryz.prog.funcs[f]?=some fn) (hn:(fn.name == "runtime.NumGoroutine" || fn.body.isNone)=false) (a:Inv w0 X L S w)
  (hc:Tri Tryz.prog f args [] S (NG c b)) (hk:∀ cs S' w',Sle S S'->RdC S' cs c->Inv w0 X L S' w'->K (.tuple #[.agg cs.toArray,.bool b]) w'):Run Tryz.prog (fa (.func (.func f) #[] #[]) args) w K:=by
 refine Run.call0 hf hn a hc fun v' I' S' w'=>?_;rintro ⟨cs,M,rfl,rfl,j⟩ i a;obtain ⟨S1,g,h,a,_⟩:=Inv.lendAll M a;exact hk _ _ _ (i.trans g) (j.rd h) a
end
end
section
open Go Go.RowKit
theorem Je {st:aX} {t v:T} (h:dI st t v):∀ v',dI st t v'->v'=v:=by
 induction h with
 | stop g=>
  intro v' i;cases i with
  | stop _=>rfl
  | step a _=>rw [g] at a; cases a
 | step g _ j=>
  intro v' i;cases i with
  | stop a=>rw [g] at a; cases a
  | step a l=>rw [g] at a; cases a; exact j _ l
theorem PW {st:aX} {j:MC} (h:Res st j):match j with
  | .one t u=>∀ i,Res st (.one t i)->i=u
  | .list ts us=>∀ a,Res st (.list ts a)->a=us:=by
 induction h with
 | one q _ r=>
  intro i g;cases g with
  | one l m=>
   obtain rfl:=Je q _ l;rw [r _ m]
 | nil=>
  intro a g;cases g;rfl
 | cons _ _ o p=>
  intro a g;cases g with
  | cons B C=>rw [o _ B,p _ C]
open Classical in
noncomputable def sgR (st:aX) (n:Int):T:=if h:∃ u,Res st (.one (idS n) u) then h.choose else idS n
theorem Oh {st:aX} {n:Int} {u:T} (h:Res st (.one (idS n) u)):sgR st n=u:=by
 have a:∃ u,Res st (.one (idS n) u):=⟨u,h⟩
 rw [sgR,dif_pos a];exact PW h _ a.choose_spec
theorem ON {N:Nat} {st:aX} {j:MC} (q:Res st j):match j with
  | .one t u=>okU N t->u=sbT (sgR st) t
  | .list ts i=>cz N ts->i=sbL (sgR st) ts:=by
 induction q with
 | one p B C=>
  rename_i t v i
  intro a;by_cases hk:t.kind=1
  ·obtain ⟨_,_,l,m⟩:=a.var hk;obtain ⟨k,n,s,ks⟩:=t;simp only [T.kind,T.name,T.kids] at hk l m;subst hk; subst l; subst m;rw [sbT,af rfl];exact (Oh (.one p B)).symm
  ·have r:v=t:=Je (.stop (qQ.2 fun e=>absurd e hk)) _ p;subst r;have o:=C a.kids;obtain ⟨k,n,s,ks⟩:=v;simp only [T.kind] at hk;rw [sbT,ae hk];simp only [T.kids] at o;rw [o];rfl
 | nil=>exact fun _=>rfl
 | cons _ _ g h=>
  intro a;rw [cz] at a;rw [sbL,g a.1,h a.2]
end
section
open Go Go.RowKit
def iy (σ:Int->T) (st:aX):Prop:=∀ (n:Nat) (u:T),st[n]?=some (some u)->σ n=sbT σ u
mutual
def tsz:T->Nat
 | .mk _ _ _ ks=>1+P6 ks
def P6:List T->Nat
 | []=>0
 | t::ts=>tsz t+P6 ts
end
theorem jm (σ:Int->T) {t:T} (h:t.kind=1):sbT σ t=σ t.n:=by
 cases t;rw [sbT];exact af h
theorem qP (σ:Int->T) {t:T} (h:t.kind≠1):sbT σ t=.mk t.kind t.n t.name (sbL σ t.kids):=by
 cases t;rw [sbT];exact ae h
mutual
theorem Q0 {N:Nat} (σ:Int->T):∀ t:T,okU N t->∀ m∈vT t,tsz (σ (m:Int))<=tsz (sbT σ t)
 | .mk k n s ks,h,m,hm=>by
  rw [okU] at h;rw [vT] at hm;rw [sbT];split at hm
  ·rename_i hk
   obtain ⟨a,_⟩:=h.2.1 hk;simp only [cO] at hm;subst hm;rw [af hk,ol a];exact be _
  ·rename_i hk
   have:=JQ σ ks h.2.2.1 m hm;rw [ae hk,tsz];omega
theorem JQ {N:Nat} (σ:Int->T):∀ ts:List T,cz N ts->∀ m∈vTL ts,tsz (σ (m:Int))<=P6 (sbL σ ts)
 | [],_,m,a=>by simp [vTL] at a
 | t::ts,h,m,a=>by
  rw [cz] at h;rw [vTL,cI] at a;rw [sbL,P6];rcases a with a|a
  ·have:=Q0 σ t h.1 m a;omega
  ·have:=JQ σ ts h.2 m a;omega
end
theorem Tu {N:Nat} (σ:Int->T) {t:T} (h:okU N t) (hk:t.kind≠1) {m:Nat} (a:m∈vT t):tsz (σ (m:Int))<tsz (sbT σ t):=by
 rw [uE hk] at a;have:=JQ σ t.kids h.kids m a;rw [qP σ hk,tsz];omega
theorem RG {N:Nat} {st:aX} (g:Good N st) {σ:Int->T} (i:iy σ st) {m n:Nat} (h:Rch st m n):tsz (σ (n:Int))<=tsz (σ (m:Int)):=by
 induction h with
 | refl=>exact be _
 | step a j _ l=>
  rw [i _ _ a];exact g9 l (Q0 σ _ (g.ok _ (fj a)) _ j)
theorem Pr {N:Nat} {st:aX} (a:Good N st) {σ:Int->T} (g:iy σ st) {n:Nat} {t:T} (h:okU N t) (hk:t.kind≠1) (i:gO st n t):σ (n:Int)≠sbT σ t:=by
 obtain ⟨m,j,l⟩:=i;intro e;have o:=RG a g l;have p:=Tu σ h hk j;rw [e] at o;omega
theorem P8 {st:aX} {n:Nat} {t:T} (hk:t.kind=1) (h:look st t=none) (i:gO st n t):t.n.toNat=n:=by
 obtain ⟨m,a,j⟩:=i;rw [i9 hk,cO] at a;subst a;cases j with
 | refl=>rfl
 | step g _ _=>rcases qQ.1 h hk with e|e <;> rw [e] at g <;> cases g
theorem fR {N:Nat} {st:aX} (i:Good N st) {σ:Int->T} (j:iy σ st) {t v:T} (h:dI st t v):okU N t->sbT σ v=sbT σ t:=by
 induction h with
 | stop=>exact fun _=>rfl
 | step g _ o=>
  intro l;obtain ⟨hk,a⟩:=dB.1 g;have m:=(l.var hk).1;rw [o (i.look_ok g).1,jm σ hk,<- j _ _ a,ol m]
theorem HE {σ:Int->T} {st:aX} {n:Nat} {t:T} (hn:st[n]?=some none):iy σ (st.set n (some t))↔iy σ st/\σ (n:Int)=sbT σ t:=by
 have g:n<st.length:=(iu.1 hn).1;constructor
 ·intro h;refine ⟨fun m u a=>h m u ?_,h n t (Ie g)⟩;rw [GI (fun e=>by subst e; rw [hn] at a; cases a)];exact a
 ·rintro ⟨h,i⟩ m u a;by_cases e:n=m
  ·subst e;rw [Ie g,bh,bh] at a;rw [<- a]; exact i
  ·rw [GI e] at a;exact h m u a
def Jeq (σ:Int->T):Job->Prop
 | .one a b=>sbT σ a=sbT σ b
 | .list xs ys=>sbL σ xs=sbL σ ys
theorem Mh {σ:Int->T} {a b:T} (l:a.kind≠1) (m:b.kind≠1):sbT σ a=sbT σ b↔sF a b=true/\sbL σ a.kids=sbL σ b.kids:=by
 rw [qP σ l,qP σ m,T.mk.injEq,OW];constructor
 ·rintro ⟨h,i,j,g⟩;have:=congrArg List.length g;rw [iP,iP] at this;exact ⟨⟨h,i,j,this⟩,g⟩
 ·rintro ⟨⟨h,i,j,_⟩,g⟩;exact ⟨h,i,j,g⟩
theorem Uni.sem {N:Nat} {st t:aX} {j:Job} {r:Bool} (hu:Uni st j r t):Good N st->okJ N j->∀ σ,(r=true->(iy σ t↔iy σ st/\Jeq σ j))/\(r=false->iy σ st->¬ Jeq σ j):=by
 induction hu with
 | same o m C M he=>
  intro g i σ;refine ⟨fun _=>⟨fun l=>⟨l,?_⟩,fun h=>h.1⟩,fun h=>by cases h⟩;show sbT σ _=sbT σ _;rw [<- fR g l o i.1.1,<- fR g l m i.2.1,jm σ C,jm σ M,he]
 | bindA o m hk p J=>
  intro g i σ;have u:=(eh g o i.1).1;have G:=(u.var hk).1;rw [HE (mv g hk (ii o) u),ol G];refine ⟨fun _=>and_congr_right fun l=>?_,fun h=>by cases h⟩;show _↔sbT σ _=sbT σ _;rw [<- fR g l o i.1.1,<- fR g l m i.2.1,jm σ hk]
 | occA o m hk p J=>
  rename_i st a b Z O
  intro g i σ;refine ⟨fun h=>(by cases h),fun _ l=>?_⟩;have u:=(eh g o i.1).1;have V:=(eh g m i.2).1;have G:=(u.var hk).1;show ¬ sbT σ _=sbT σ _;rw [<- fR g l o i.1.1,<- fR g l m i.2.1,jm σ hk];by_cases B:O.kind=1
  ·have e:=P8 B (ii m) J;have C:=(V.var B).1;exact absurd ⟨B,by omega⟩ p
  ·have:=Pr g l V B J
   rwa [ol G] at this
 | bindB o m p hk J=>
  intro g i σ;have u:=(eh g m i.2).1;have G:=(u.var hk).1;rw [HE (mv g hk (ii m) u),ol G];refine ⟨fun _=>and_congr_right fun l=>?_,fun h=>by cases h⟩;show _↔sbT σ _=sbT σ _;rw [<- fR g l o i.1.1,<- fR g l m i.2.1,jm σ hk];exact eq_comm
 | occB o m p hk J=>
  intro g i σ;refine ⟨fun h=>(by cases h),fun _ l=>?_⟩;have u:=(eh g m i.2).1;have V:=(eh g o i.1).1;have G:=(u.var hk).1;show ¬ sbT σ _=sbT σ _;rw [<- fR g l o i.1.1,<- fR g l m i.2.1,jm σ hk];have:=Pr g l V p J;rw [ol G] at this;exact fun e=>this e.symm
 | clash o m C M Y=>
  intro g i σ;refine ⟨fun h=>(by cases h),fun _ l=>?_⟩;show ¬ sbT σ _=sbT σ _;rw [<- fR g l o i.1.1,<- fR g l m i.2.1,Mh C M,Y];exact fun e=>by cases e.1
 | @kids st t a b Z O r o m C M Y _ ih=>
  intro g i σ;obtain ⟨U,i2⟩:=ih g ⟨j0 (eh g o i.1),j0 (eh g m i.2),pj Y⟩ σ;have e:iy σ st->(Jeq σ (.one a b)↔Jeq σ (.list Z.kids O.kids)):=fun l=>by
   show sbT σ a=sbT σ b↔sbL σ Z.kids=sbL σ O.kids;rw [<- fR g l o i.1.1,<- fR g l m i.2.1,Mh C M,Y];simp
  exact ⟨fun D=>(U D).trans (and_congr_right fun l=>(e l).symm),fun D l q=>i2 D l ((e l).1 q)⟩
 | nil=>
  intro g i σ;exact ⟨fun _=>⟨fun h=>⟨h,rfl⟩,fun h=>h.1⟩,fun h=>by cases h⟩
 | stop _ ih=>
  intro g i σ;obtain ⟨_,i2⟩:=ih g ⟨i.1 _ (bL ..),i.2.1 _ (bL ..)⟩ σ;refine ⟨fun h=>(by cases h),fun _ l q=>i2 rfl l ?_⟩;have q:sbL σ (_::_)=sbL σ (_::_):=q;rw [sbL,sbL,rD] at q;exact q.1
 | @go st a2 t a b xs ys r C _ a0 a1=>
  intro g i σ;have j1:okJ N (.one a b):=⟨i.1 _ (bL ..),i.2.1 _ (bL ..)⟩
  have j2:okJ N (.list xs ys):=⟨fun a o=>i.1 a (bV _ o),fun b m=>i.2.1 b (bV _ m),by have:=i.2.2; simpa using this⟩
  obtain ⟨U,_⟩:=a0 g j1 σ;obtain ⟨i3,i4⟩:=a1 (C.good g j1).1 j2 σ;have e:Jeq σ (.list (a::xs) (b::ys))↔Jeq σ (.one a b)/\Jeq σ (.list xs ys):=by
   show sbL σ (a::xs)=sbL σ (b::ys)↔_;rw [sbL,sbL,rD];exact Iff.rfl
  refine ⟨fun D=>?_,fun D l q=>?_⟩
  ·rw [i3 D,U rfl,e,and_assoc]
  ·rw [e] at q;exact i4 D ((U rfl).2 ⟨l,q.1⟩) q.2
theorem PY {N:Nat} {st:aX} (g:Good N st) (κ:Int->T):iy (fun n=>sbT κ (sgR st n)) st:=by
 intro n u hn;have i:=g.ok u (fj hn);obtain ⟨r,h⟩:=OY g u i;have a:Res st (.one (idS (n:Int)) r):=by
  cases h with
  | one j l=>exact .one (.step (dB.2 ⟨rfl,by rw [idS]; exact hn⟩) j) l
 show sbT κ (sgR st n)=_;rw [Oh a,ON h i,GK]
theorem Qm {N:Nat} {st:aX} (l:Good N st) {σ:Int->T} (p:iy σ st) {j:MC} (q:Res st j):match j with
  | .one t u=>okU N t->sbT σ u=sbT σ t
  | .list ts g=>cz N ts->sbL σ g=sbL σ ts:=by
 induction q with
 | one o D r=>
  rename_i t v g
  intro a;have m:=zN l o a;rw [<- fR l p o a];by_cases hk:v.kind=1
  ·obtain ⟨_,_,B,C⟩:=m.var hk;rw [jm σ hk,jm σ (t:=.mk v.kind v.n v.name g) hk];rfl
  ·rw [qP σ hk,qP σ (t:=.mk v.kind v.n v.name g) hk];exact congrArg _ (r m.kids)
 | nil=>exact fun _=>rfl
 | cons _ _ h i=>
  intro a;rw [cz] at a;rw [sbL,sbL,h a.1,i a.2]
mutual
theorem mC {N:Nat} {σ τ:Int->T} (h:∀ n:Int,0<=n->n<N->σ n=τ n):∀ t:T,okU N t->sbT σ t=sbT τ t
 | .mk k n s ks,ho=>by
  rw [okU] at ho;rw [sbT,sbT];by_cases hk:k=1
  ·obtain ⟨a,g,_⟩:=ho.2.1 hk;rw [af hk,af hk,h n a g]
  ·rw [ae hk,ae hk,wm h ks ho.2.2.1]
theorem wm {N:Nat} {σ τ:Int->T} (h:∀ n:Int,0<=n->n<N->σ n=τ n):∀ ts:List T,cz N ts->sbL σ ts=sbL τ ts
 | [],_=>rfl
 | t::ts,ho=>by
  rw [cz] at ho;rw [sbL,sbL,mC h t ho.1,wm h ts ho.2]
end
end
section
open Go Go.RowKit
mutual
theorem Qw {N:Nat} {ρ:Int->T}:∀ t:T,okU N t->sbT ρ t=t->∀ m∈vT t,ρ (m:Int)=idS (m:Int)
 | .mk k n s ks,ho,he,m,hm=>by
  rw [okU] at ho;rw [vT] at hm;rw [sbT] at he;by_cases hk:k=1
  ·rw [af hk,cO] at hm;rw [af hk] at he;obtain ⟨a,_,rfl,rfl⟩:=ho.2.1 hk;rw [hm,ol a,he,idS,hk]
  ·rw [ae hk] at hm he;rw [T.mk.injEq] at he;exact z5 ks ho.2.2.1 he.2.2.2 m hm
theorem z5 {N:Nat} {ρ:Int->T}:∀ ts:List T,cz N ts->sbL ρ ts=ts->∀ m∈vTL ts,ρ (m:Int)=idS (m:Int)
 | [],_,_,m,a=>by simp [vTL] at a
 | t::ts,ho,he,m,a=>by
  rw [cz] at ho;rw [sbL,rD] at he;rw [vTL,cI] at a;rcases a with a|a
  ·exact Qw t ho.1 he.1 m a
  ·exact z5 ts ho.2 he.2 m a
end
mutual
theorem Tj {N:Nat} {σ:Int->T} {f:Int->Int}:∀ t:T,okU N t->(∀ m∈vT t,σ (m:Int)=idS (f (m:Int)))->sbT σ t=mvT f t
 | .mk k n s ks,ho,h=>by
  rw [okU] at ho;rw [vT] at h;rw [sbT,mvT];by_cases hk:k=1
  ·obtain ⟨a,_,rfl,rfl⟩:=ho.2.1 hk;rw [af hk] at h;have:=h n.toNat (cO.2 rfl);rw [ol a] at this;rw [af hk,af hk,this,idS,hk];rfl
  ·rw [ae hk] at h;rw [ae hk,ae hk,Jq ks ho.2.2.1 h]
theorem Jq {N:Nat} {σ:Int->T} {f:Int->Int}:∀ ts:List T,cz N ts->(∀ m∈vTL ts,σ (m:Int)=idS (f (m:Int)))->sbL σ ts=mvL f ts
 | [],_,_=>rfl
 | t::ts,ho,h=>by
  rw [cz] at ho;rw [sbL,mvL,Tj t ho.1 fun m a=>h m (by rw [vTL]; exact ic _ a),Jq ts ho.2 fun m a=>h m (by rw [vTL]; exact iW _ a)]
end
mutual
theorem R1 {N M:Nat} {σ:Int->T}:∀ t:T,okU N t->okU M (sbT σ t)->∀ m∈vT t,okU M (σ (m:Int))
 | .mk k n s ks,ho,h,m,hm=>by
  rw [okU] at ho;rw [vT] at hm;rw [sbT] at h;by_cases hk:k=1
  ·obtain ⟨a,_⟩:=ho.2.1 hk;rw [af hk,cO] at hm;rw [af hk] at h;rw [hm,ol a];exact h
  ·rw [ae hk] at hm h;rw [okU] at h;exact FD ks ho.2.2.1 h.2.2.1 m hm
theorem FD {N M:Nat} {σ:Int->T}:∀ ts:List T,cz N ts->cz M (sbL σ ts)->∀ m∈vTL ts,okU M (σ (m:Int))
 | [],_,_,m,a=>by simp [vTL] at a
 | t::ts,ho,h,m,a=>by
  rw [cz] at ho;rw [sbL,cz] at h;rw [vTL,cI] at a;rcases a with a|a
  ·exact R1 t ho.1 h.1 m a
  ·exact FD ts ho.2 h.2 m a
end
def NW (f:Int->Int) (us:List T):Prop:=∀ a∈vTL us,∀ b∈vTL us,f (a:Int)=f (b:Int)->a=b
theorem PP {N M:Nat} {g vs:List T} (o:cz N g) (B:cz M vs) (j:∃ σ,sbL σ g=vs) (p:∃ σ,sbL σ vs=g):∃ f,vs=mvL f g/\NW f g:=by
 obtain ⟨σ,j⟩:=j;obtain ⟨τ,p⟩:=p;have G:sbL (fun n=>sbT τ (σ n)) g=g:=by rw [<- uR,j,p]
 have i:=z5 g o G;have t:=FD g o (by rw [j]; exact B);have hk:∀ m∈vTL g,σ (m:Int)=idS (σ (m:Int)).n/\τ (σ (m:Int)).n=idS (m:Int):=by
  intro m l;have e:sbT τ (σ (m:Int))=idS (m:Int):=i m l;by_cases h:(σ (m:Int)).kind=1
  ·obtain ⟨_,_,q,r⟩:=(t m l).var h;rw [jm τ h] at e;refine ⟨?_,e⟩;generalize J:σ (m:Int)=x at h q r;cases x;simp only [T.kind,T.name,T.kids] at h q r;subst h q r;rfl
  ·rw [qP τ h] at e;have:(T.kind (.mk (σ (m:Int)).kind (σ (m:Int)).n (σ (m:Int)).name (sbL τ (σ (m:Int)).kids)))=1:=by rw [e]; rfl
   exact absurd this h
 refine ⟨fun n=>(σ n).n,?_,fun a C b D e=>?_⟩
 ·rw [<- j];exact Jq g o fun m l=>(hk m l).1
 ·have u:=(hk a C).2;have e:(σ (a:Int)).n=(σ (b:Int)).n:=e;rw [e,(hk b D).2] at u;simp only [idS,T.mk.injEq,sa,and_true] at u;omega
theorem RL {st:aX} (a:Good st.length st) {ts g:List T} (i:cz st.length ts) (j:Res st (.list ts g)) (w:List T):(∃ σ,iy σ st/\sbL σ ts=w)↔∃ κ,sbL κ g=w:=by
 constructor
 ·rintro ⟨σ,l,m⟩;exact ⟨σ,by rw [<- m]; exact Qm a l j i⟩
 ·rintro ⟨κ,h⟩;refine ⟨_,PY a κ,?_⟩;rw [<- uR,<- ON j i];exact h
end
section
open Go Go.RowKit
def fk (n:Nat):T:=.mk 1 (n:Int) emptyB []
def Low (M:Nat) (st:aX):Prop:=∀ (n:Nat) (u:T),st[n]?=some (some u)->n<M/\okU M u
theorem nj {M:Nat} {st:aX} (a:Low M st) {t v:T} (h:dI st t v) (g:okU M t):okU M v:=by
 induction h with
 | stop=>exact g
 | step hk _ i=>exact i (a _ _ (dB.1 hk).2).2
theorem LQ {M:Nat} {st:aX} (g:Low M st) {n:Nat} {t:T} (hn:n<M) (h:okU M t):Low M (st.set n (some t)):=by
 intro m u a;rw [xK] at a;split at a
 ·split at a
  ·rw [bh,bh] at a;rename_i e _
   subst e;rw [<- a]; exact ⟨hn,h⟩
  ·cases a
 ·exact g m u a
def Um (M:Nat):Job->Prop
 | .one a b=>okU M a/\okU M b
 | .list xs ys=>cz M xs/\cz M ys
theorem Uni.low {M:Nat} {st l:aX} {j:Job} {r:Bool} (u:Uni st j r l):Low M st->Um M j->Low M l:=by
 induction u with
 | same=>exact fun h _=>h
 | occA=>exact fun h _=>h
 | occB=>exact fun h _=>h
 | clash=>exact fun h _=>h
 | nil=>exact fun h _=>h
 | bindA m o hk _ _=>
  intro h a;have g:=(nj h m a.1).var hk;exact LQ h (by omega) (nj h o a.2)
 | bindB m o _ hk _=>
  intro h a;have g:=(nj h o a.2).var hk;exact LQ h (by omega) (nj h m a.1)
 | kids m o _ _ _ _ p=>exact fun h a=>p h ⟨(nj h m a.1).kids,(nj h o a.2).kids⟩
 | stop _ p=>
  intro h a;obtain ⟨g,i⟩:=a;rw [cz] at g i;exact p h ⟨g.1,i.1⟩
 | go _ _ q t=>
  intro h a;obtain ⟨g,i⟩:=a;rw [cz] at g i;exact t (q h ⟨g.1,i.1⟩) ⟨g.2,i.2⟩
theorem Bm {M:Nat} {st:aX} (a:Low M st) {σ τ:Int->T} (h:∀ n:Int,0<=n->n<M->σ n=τ n) (g:iy σ st):iy τ st:=by
 intro n u hn;obtain ⟨j,i⟩:=a n u hn;rw [<- h n (by omega) (by omega),g n u hn];exact mC h u i
open Classical in
noncomputable def uniV (st:aX) (a b:T):Bool × aX:=if h:∃ p:Bool × aX,Uni st (.one a b) p.1 p.2 then h.choose else (false,st)
theorem mp {N:Nat} {st:aX} (i:Good N st) {a b:T} (j:okJ N (.one a b)):Uni st (.one a b) (uniV st a b).1 (uniV st a b).2:=by
 obtain ⟨r,g,l⟩:=RT (unb st) st i (be _) _ j;have h:∃ p:Bool × aX,Uni st (.one a b) p.1 p.2:=⟨(r,g),l⟩
 rw [uniV,dif_pos h];exact h.choose_spec
theorem zO {N:Nat} {st:aX} (g:Good N st) {a b:T} (i:okJ N (.one a b)) {σ:Int->T} (j:iy σ st) (l:sbT σ a=sbT σ b):(uniV st a b).1=true/\iy σ (uniV st a b).2:=by
 have q:=mp g i;obtain ⟨o,p⟩:=q.sem g i σ;have m:(uniV st a b).1=true:=by
  cases h:(uniV st a b).1 with
  | true=>rfl
  | false=>exact absurd l (p h j)
 exact ⟨m,(o m).2 ⟨j,l⟩⟩
theorem v4 {N:Nat} {st:aX} (g:Good N st) {a b:T} (h:okJ N (.one a b)) (i:(uniV st a b).1=true) {σ:Int->T} (j:iy σ (uniV st a b).2):iy σ st/\sbT σ a=sbT σ b:=
 (((mp g h).sem g h σ).1 i).1 j
structure RI where
 sl:Sl
 ar:Sl
 fr:Nat
 st:aX
def env (σ:Int->T) (f:Sl):Sl:=fun k=>(f k).map (sbT σ)
def ev (σ:Int->T) (s:RI):Ev:=⟨env σ s.sl,env σ s.ar⟩
def okSl (M:Nat) (f:Sl):Prop:=∀ k t,f k=some t->okU M t/\wB t
structure okRd (N:Nat) (s:RI):Prop where
 good:Good N s.st
 low:Low s.fr s.st
 le:s.fr<=N
 sl:okSl s.fr s.sl
 ar:okSl s.fr s.ar
theorem okSl.le {M M':Nat} {f:Sl} (h:okSl M f) (a:M<=M'):okSl M' f:=fun k t hk=>⟨eG a t (h k t hk).1,(h k t hk).2⟩
theorem okSl.upS {M:Nat} {f:Sl} (h:okSl M f) {t:T} (a:okU M t/\wB t) (n:Int):okSl M (upS f n t):=fun k u hk=>by
 by_cases e:k=n
 ·subst e;rw [dY,bh] at hk;subst hk; exact a
 ·rw [jb _ _ e] at hk; exact h k u hk
theorem Low.le {M M':Nat} {st:aX} (h:Low M st) (a:M<=M'):Low M' st:=fun n u hn=>⟨by have:=(h n u hn).1; omega,eG a u (h n u hn).2⟩
theorem jC (n:Nat):okU (n+1) (fk n)/\wB (fk n):=by
 unfold fk;rw [okU,cz,wB,wBL];exact ⟨⟨by decide,fun _=>⟨by omega,by omega,rfl,rfl⟩,trivial,by decide⟩,by decide,trivial⟩
theorem tB (M:Nat) (n:Int):okU M (fT n)/\wB (fT n):=by
 unfold fT;rw [okU,cz,wB,wBL];exact ⟨⟨by decide,fun h=>absurd h (by decide),trivial,by decide⟩,by decide,trivial⟩
theorem nt {M:Nat} {nm:ByteArray} {ks:List T} (hn:nm.size<=6) (g:ks.length<=1048576) (h:∀ t∈ks,okU M t/\wB t):okU M (fnT nm ks)/\wB (fnT nm ks):=by
 unfold fnT;rw [okU,wB];exact ⟨⟨by decide,fun h=>absurd h (by decide),lq fun t a=>(h t a).1,hn⟩,g,Pj fun t a=>(h t a).2⟩
theorem g7 (σ:Int->T) (f:Sl) (n:Int) (t:T):env σ (upS f n t)=upS (env σ f) n (sbT σ t):=by
 funext k
 unfold env upS;split <;> rfl
theorem mt {M:Nat} {σ τ:Int->T} {f:Sl} (h:okSl M f) (a:∀ n:Int,0<=n->n<M->σ n=τ n):env σ f=env τ f:=by
 funext k
 unfold env;cases hk:f k with
 | none=>rfl
 | some t=>rw [la,la,mC a t (h k t hk).1]
theorem kP {σ:Int->T} {f:Sl} {k:Int} {t:T} (h:env σ f k=some t):∃ u,f k=some u/\sbT σ u=t:=by
 unfold env at h
 rwa [l0] at h
theorem xc (σ:Int->T) (n:Int):sbT σ (fT n)=fT n:=by rw [fT,sbT,ae (by decide),sbL]
theorem nV (σ:Int->T) (nm:ByteArray) (ks:List T):sbT σ (fnT nm ks)=fnT nm (sbL σ ks):=by rw [fnT,sbT,ae (by decide)]; rfl
theorem Mu (σ:Int->T):sbT σ r4=r4:=by rw [r4,sbT,ae (by decide),sbL]
theorem ji (σ:Int->T) (n:Nat):sbT σ (fk n)=σ (n:Int):=by rw [fk,sbT,af rfl]
def NQ (σ:Int->T) (n:Nat) (t:T):Int->T:=fun m=>if m=(n:Int) then t else σ m
theorem qN (σ:Int->T) (n:Nat) (t:T):∀ m:Int,0<=m->m<n->σ m=NQ σ n t m:=fun m _ h=>by rw [NQ,ae (by omega)]
theorem FQ (σ:Int->T) (n:Nat) (t:T):NQ σ n t (n:Int)=t:=af rfl
def ki:RI->List Ist->Option (RI × List T)
 | s,[]=>some (s,[])
 | s,x::xs=>
  if x.op=4 then (ki ⟨upS s.sl x.a (fk s.fr),s.ar,s.fr+1,s.st⟩ xs).map fun r=>(r.1,fk s.fr::r.2)
  else if x.op=5 then (s.sl x.a).bind fun t=>(ki s xs).map fun r=>(r.1,t::r.2)
  else if x.op=6 then (ki s xs).map fun r=>(r.1,fT x.a::r.2)
  else none
noncomputable def unI (s:RI) (t u:T):Option RI:=if (uniV s.st t u).1=true then some ⟨s.sl,s.ar,s.fr,(uniV s.st t u).2⟩ else none
noncomputable def insI (s:RI) (x:Ist) (more:List Ist):Option RI:=
 if x.op=1 then (s.sl x.b).bind fun t=>(s.sl x.a).bind fun u=>unI s t u
 else if x.op=2 then (s.sl x.b).bind fun t=>unI s t (fT x.a)
 else if x.op=3 then (s.sl x.b).bind fun t=>(ki s more).bind fun r=>unI r.1 t (fnT x.name r.2)
 else if x.op=7 then (ki s more).map fun r=>⟨upS r.1.sl x.b (fnT x.name r.2),r.1.ar,r.1.fr,r.1.st⟩
 else if x.op=8 then some ⟨upS s.sl x.a (fk s.fr),upS s.ar x.b (fk s.fr),s.fr+1,s.st⟩
 else if x.op=9 then (s.sl x.a).map fun u=>⟨s.sl,upS s.ar x.b u,s.fr,s.st⟩
 else if x.op=10 then some ⟨s.sl,upS s.ar x.b (fT x.a),s.fr,s.st⟩
 else none
def vb (a:Sl):Nat->Option (List T)
 | 0=>some []
 | k+1=>(vb a k).bind fun l=>(a (k:Int)).map fun t=>l++[t]
def fE (x:Ist):Int:=if x.op=3 ∨ x.op=7 then x.a else 0
noncomputable def readI:Nat->RI->List Ist->List T->Option (RI × List T)
 | 0,_,_,_=>none
 | _+1,_,[],_=>none
 | f+1,s,x::xs,out=>
  if x.op=14 then (if xs=[] then some (s,out) else none)
  else if x.op=13 then readI f s xs (out++[r4])
  else if x.op=11 ∨ x.op=12 then (if 0<=x.a/\x.a<=4 then (vb s.ar x.a.toNat).bind fun ks=>readI f s xs (out++[fnT x.name ks]) else none)
  else if 0<=fE x/\fE x<=4/\fE x<=xs.length then (insI s x (xs.take (fE x).toNat)).bind fun s'=>readI f s' (xs.drop (fE x).toNat) out
  else none
theorem okRd.fresh {N:Nat} {s:RI} (h:okRd N s) (hf:s.fr+1<=N) (a:Int):okRd N ⟨upS s.sl a (fk s.fr),s.ar,s.fr+1,s.st⟩:=
 ⟨h.good,h.low.le (FJ _),hf,(h.sl.le (FJ _)).upS (jC _) a,h.ar.le (FJ _)⟩
theorem j3 {N:Nat}:∀ (xs:List Ist) {s i:RI} {q:List T},okRd N s->s.fr+xs.length<=N->ki s xs=some (i,q)->okRd N i/\s.fr<=i.fr/\i.fr<=s.fr+xs.length/\i.st=s.st/\i.ar=s.ar/\q.length=xs.length/\∀ t∈q,okU i.fr t/\wB t
 | [],s,i,q,h,hl,g=>by
  rw [ki,bh,di] at g;obtain ⟨rfl,rfl⟩:=g;exact ⟨h,be _,be _,rfl,rfl,rfl,fun t j=>(by cases j)⟩
 | x::xs,s,i,q,h,hl,g=>by
  rw [aO] at hl;rw [ki] at g;split at g
  ·rw [l0] at g;obtain ⟨⟨l,r⟩,B,m⟩:=g;rw [di] at m;obtain ⟨rfl,rfl⟩:=m;obtain ⟨C,o,O,D,G,J,M⟩:=j3 xs (h.fresh (by omega) x.a) (by show s.fr+1+xs.length<=N; omega) B;have o:s.fr+1<=l.fr:=o;have O:l.fr<=s.fr+1+xs.length:=O;refine ⟨C,by show s.fr<=l.fr; omega,by show l.fr<=_; rw [aO]; omega,D,G,by rw [aO,aO,J],fun t j=>?_⟩;rcases ek.1 j with rfl|j
   ·exact ⟨eG o _ (jC _).1,(jC _).2⟩
   ·exact M t j
  ·split at g
   ·rw [l7] at g;obtain ⟨t,j,g⟩:=g;rw [l0] at g;obtain ⟨⟨l,r⟩,B,m⟩:=g;rw [di] at m;obtain ⟨rfl,rfl⟩:=m;obtain ⟨C,o,O,D,G,J,M⟩:=j3 xs h (by omega) B;refine ⟨C,o,by show l.fr<=_; rw [aO]; omega,D,G,by rw [aO,aO,J],fun u p=>?_⟩;rcases ek.1 p with rfl|p
    ·exact ⟨eG o _ (h.sl _ _ j).1,(h.sl _ _ j).2⟩
    ·exact M u p
   ·split at g
    ·rw [l0] at g;obtain ⟨⟨l,r⟩,B,m⟩:=g;rw [di] at m;obtain ⟨rfl,rfl⟩:=m;obtain ⟨C,o,O,D,G,J,M⟩:=j3 xs h (by omega) B;refine ⟨C,o,by show l.fr<=_; rw [aO]; omega,D,G,by rw [aO,aO,J],fun u p=>?_⟩;rcases ek.1 p with rfl|p
     ·exact tB _ _
     ·exact M u p
    ·cases g
theorem Lg {N:Nat} {s a:RI} {t u:T} (h:okRd N s) (j:okU s.fr t/\wB t) (l:okU s.fr u/\wB u) (g:unI s t u=some a):okRd N a/\a.fr=s.fr/\a.sl=s.sl/\a.ar=s.ar:=by
 unfold unI at g;split at g
 ·rw [bh] at g;subst g;have m:okJ N (.one t u):=⟨⟨eG h.le t j.1,j.2⟩,⟨eG h.le u l.1,l.2⟩⟩
  have i:=mp h.good m;exact ⟨⟨(i.good h.good m).1,i.low h.low ⟨j.1,l.1⟩,h.le,h.sl,h.ar⟩,rfl,rfl,rfl⟩
 ·cases g
theorem kr {N:Nat} {s o:RI} {x:Ist} {i:List Ist} (h:okRd N s) (M:s.fr+i.length+1<=N) (O:i.length<=4) (hn:x.name.size<=6) (g:insI s x i=some o):okRd N o/\s.fr<=o.fr/\o.fr<=s.fr+i.length+1:=by
 unfold insI at g;split at g
 ·rw [l7] at g;obtain ⟨t,l,g⟩:=g;rw [l7] at g;obtain ⟨u,p,g⟩:=g;obtain ⟨j,m,_⟩:=Lg h (h.sl _ _ l) (h.sl _ _ p) g;exact ⟨j,by omega,by omega⟩
 split at g
 ·rw [l7] at g;obtain ⟨t,l,g⟩:=g;obtain ⟨j,m,_⟩:=Lg h (h.sl _ _ l) (tB _ _) g;exact ⟨j,by omega,by omega⟩
 split at g
 ·rw [l7] at g;obtain ⟨t,l,g⟩:=g;rw [l7] at g;obtain ⟨⟨B,C⟩,q,g⟩:=g;obtain ⟨j,m,D,_,_,G,r⟩:=j3 i h (by omega) q;obtain ⟨J,U,_⟩:=Lg j ⟨eG m _ (h.sl _ _ l).1,(h.sl _ _ l).2⟩ (nt hn (by omega) r) g;exact ⟨J,by omega,by omega⟩
 split at g
 ·rw [l0] at g;obtain ⟨⟨B,C⟩,q,rfl⟩:=g;obtain ⟨j,m,D,_,_,G,r⟩:=j3 i h (by omega) q;exact ⟨⟨j.good,j.low,j.le,j.sl.upS (nt hn (by omega) r) _,j.ar⟩,m,by show B.fr<=_; omega⟩
 split at g
 ·rw [bh] at g;subst g;have:=h.fresh (by omega) x.a;exact ⟨⟨this.good,this.low,this.le,this.sl,this.ar.upS (jC _) _⟩,FJ _,by show s.fr+1<=_; omega⟩
 split at g
 ·rw [l0] at g;obtain ⟨u,p,rfl⟩:=g;exact ⟨⟨h.good,h.low,h.le,h.sl,h.ar.upS (h.sl _ _ p) _⟩,be _,by show s.fr<=_; omega⟩
 split at g
 ·rw [bh] at g;subst g;exact ⟨⟨h.good,h.low,h.le,h.sl,h.ar.upS (tB _ _) _⟩,be _,by show s.fr<=_; omega⟩
 ·cases g
theorem Fm {M:Nat} {a:Sl} (h:okSl M a):∀ (k:Nat) {ks:List T},vb a k=some ks->ks.length=k/\∀ t∈ks,okU M t/\wB t
 | 0,ks,e=>by
  rw [vb,bh] at e;subst e;exact ⟨rfl,fun t i=>(by cases i)⟩
 | k+1,ks,e=>by
  rw [vb,l7] at e;obtain ⟨l,j,e⟩:=e;rw [l0] at e;obtain ⟨t,i,rfl⟩:=e;obtain ⟨m,o⟩:=Fm h k j;refine ⟨by simp [m],fun u g=>?_⟩;rcases cI.1 g with g|g
  ·exact o u g
  ·rw [cO.1 g]; exact h _ _ i
theorem LO {N:Nat} {v v':Sl} {xs:List Ist} {ks:List T} (G:Des v xs v' ks):∀ {s:RI} {σ:Int->T},okRd N s->s.fr+xs.length<=N->v=env σ s.sl->∃ g i,ki s xs=some (g,i)/\
  (∃ j:Int->T,(∀ n:Int,0<=n->n<s.fr->σ n=j n)/\v'=env j g.sl/\ks=sbL j i)/\∀ τ,Des (env τ s.sl) xs (env τ g.sl) (sbL τ i):=by
 induction G with
 | nil=>
  intro s σ h o l;exact ⟨s,[],rfl,⟨σ,fun _ _ _=>rfl,l,rfl⟩,fun τ=>.nil⟩
 | @var v v' a b nm t xs ks G C=>
  intro s σ h o l;rw [aO] at o;have V:=h.fresh (by omega) a;obtain ⟨g,i,p,⟨j,m,q,r⟩,B⟩:=C (s:=⟨upS s.sl a (fk s.fr),s.ar,s.fr+1,s.st⟩) (σ:=NQ σ s.fr t) V (by show s.fr+1+xs.length<=N; omega) (by
   show upS v a t=env _ (upS s.sl a (fk s.fr));rw [g7,ji,FQ,l,mt h.sl (qN σ s.fr t)])
  refine ⟨g,fk s.fr::i,by rw [ki,af rfl,p]; rfl,⟨j,fun n O U=>?_,q,?_⟩,fun τ=>?_⟩
  ·rw [<- m n O (by show n<((s.fr+1:Nat):Int); omega)];exact qN σ s.fr t n O U
  ·rw [sbL,ji,<- m s.fr (by omega) (by show (s.fr:Int)<((s.fr+1:Nat):Int); omega),FQ,r]
  ·have:=B τ;have e:env τ (upS s.sl a (fk s.fr))=upS (env τ s.sl) a (τ s.fr):=by rw [g7,ji]
   rw [e] at this;rw [sbL,ji];exact .var this
 | @val v v' a b nm t xs ks D G C=>
  intro s σ h o l;rw [aO] at o;obtain ⟨g,i,p,⟨j,m,q,r⟩,B⟩:=C (s:=s) (σ:=σ) h (by omega) l;rw [l] at D;obtain ⟨u,J,M⟩:=kP D;refine ⟨g,u::i,by rw [ki,ae (show ¬ (5:Int)=4 by decide),af rfl,J,p]; rfl,⟨j,m,q,?_⟩,fun τ=>?_⟩
  ·rw [sbL,r,<- M,mC m u (h.sl _ _ J).1]
  ·rw [sbL];exact .val (by show (s.sl a).map _=_; rw [J]; rfl) (B τ)
 | @int v v' a b nm xs ks G C=>
  intro s σ h o l;rw [aO] at o;obtain ⟨g,i,p,⟨j,m,q,r⟩,B⟩:=C (s:=s) (σ:=σ) h (by omega) l;refine ⟨g,fT a::i,by rw [ki,ae (show ¬ (6:Int)=4 by decide),ae (show ¬ (6:Int)=5 by decide),af rfl,p]; rfl,⟨j,m,q,?_⟩,fun τ=>?_⟩
  ·rw [sbL,r,xc]
  ·rw [sbL,xc];exact .int (B τ)
theorem hH {f:Nat} {s i:RI} {op a b:Int} {nm:ByteArray} {ms g:List Ist} {out:List T} (h:op≠14/\op≠13/\op≠11/\op≠12) (j:fE ⟨op,a,b,nm⟩=(ms.length:Int)) (m:ms.length<=4) (l:insI s ⟨op,a,b,nm⟩ ms=some i):readI (f+1) s (⟨op,a,b,nm⟩::(ms++g)) out=readI f i g out:=by
 rw [readI,ae h.1,ae h.2.1,ae (fun e=>by rcases e with e|e; exact h.2.2.1 e; exact h.2.2.2 e),j,af (by rw [bv]; omega),eB,List.take_left,List.drop_left,l];rfl
theorem DH {σ:Int->T} {a:Sl}:∀ (k:Nat) {ks:List T},ks.length=k->(∀ i (h:i<ks.length),env σ a (i:Int)=some ks[i])->∃ g,vb a k=some g/\ks=sbL σ g/\∀ τ i (h:i<(sbL τ g).length),env τ a (i:Int)=some (sbL τ g)[i]
 | 0,ks,hl,_=>⟨[],rfl,jK hl,fun τ i h=>by rw [sbL] at h; exact absurd h (Nat.not_lt_zero _)⟩
 | k+1,ks,hl,h=>by
  obtain ⟨g,r,p,u⟩:=DH (σ:=σ) (a:=a) k (ks:=ks.take k) (by rw [iJ]; omega) (fun i j=>by
   rw [iJ] at j;rw [h i (by omega),Oq])
  obtain ⟨t,q,m⟩:=kP (h k (by omega));have o:g.length=k:=by have:=congrArg List.length p; rw [iP,iJ] at this; omega
  refine ⟨g++[t],by rw [vb,r,nH,q]; rfl,?_,fun τ i j=>?_⟩
  ·rw [j5,th,<- j5,<- p,Ef,L7,m];have:=List.take_append_getElem (l:=ks) (i:=k) (by omega);rw [this,AQ (by omega)]
  ·rw [iP,bv,vh] at j;simp only [j5,th,Ef,L7];by_cases e:i<k
   ·have:=u τ i (by rw [iP]; omega);rw [this,oo (by rw [ut]; omega)];simp only [j5]
   ·have:i=k:=by omega
    subst this;rw [pM (by rw [ut]; omega)];simp only [ut,o,fg,oC];show (a (i:Int)).map _=_;rw [q]; rfl
def lim (x:Ist):Prop:=x.name.size<=6/\(x.op=3 ∨ x.op=7 ∨ x.op=11 ∨ x.op=12->x.a<=4)
theorem Od {N:Nat} {e e':Ev} {xs:List Ist} {o:List T} (hd:Den e xs e' o):∀ {s:RI} {σ:Int->T},okRd N s->e=ev σ s->iy σ s.st->s.fr+xs.length<=N->(∀ x∈xs,lim x)->∀ (j:List Ist) (out:List T) (f:Nat),(xs++j).length<=f->
  ∃ O C G,j.length<=O/\readI f s (xs++j) out=readI O C j (out++G)/\okRd N C/\s.fr<=C.fr/\(∀ t∈G,okU C.fr t/\wB t)/\
   (∃ σ':Int->T,(∀ n:Int,0<=n->n<s.fr->σ n=σ' n)/\iy σ' C.st/\o=sbL σ' G)/\∀ τ,iy τ C.st->iy τ s.st/\∃ l,Den (ev τ s) xs l (sbL τ G):=by
 induction hd with
 | nil=>
  intro s σ h he V hl B j out f hf;exact ⟨f,s,[],hf,by rw [rC,dc],h,be _,fun t r=>(by cases r),⟨σ,fun _ _ _=>rfl,V,rfl⟩,fun τ r=>⟨r,_,.nil⟩⟩
 | @gval e e' a b nm t xs o h1 h2 hd ih=>
  intro s σ h he V hl B j out f hf;subst he;rw [aO] at hl;rw [dQ,aO] at hf;obtain ⟨f,rfl⟩:∃ g,f=g+1:=⟨f - 1,by omega⟩
  obtain ⟨J,p,q1⟩:=kP h1;obtain ⟨t2,a7,q2⟩:=kP h2;have hj:okJ N (.one J t2):=⟨⟨eG h.le _ (h.sl _ _ p).1,(h.sl _ _ p).2⟩,⟨eG h.le _ (h.sl _ _ a7).1,(h.sl _ _ a7).2⟩⟩
  obtain ⟨u1,u2⟩:=zO h.good hj V (q1.trans q2.symm);have D:insI s ⟨1,a,b,nm⟩ []=some ⟨s.sl,s.ar,s.fr,(uniV s.st J t2).2⟩:=by
   rw [insI,af rfl,p,nH,a7,nH,unI,af u1]
  obtain ⟨g1,g2,_⟩:=kr h (by simp; omega) (by simp) (B _ (bL ..)).1 D;obtain ⟨O,C,G,b1,b2,b3,Y,b5,b6,b7⟩:=ih g1 rfl u2 (by show s.fr+xs.length<=N; omega) (fun y hy=>B y (bV _ hy)) j out f (by omega);refine ⟨O,C,G,b1,?_,b3,Y,b5,b6,fun τ r=>?_⟩
  ·rw [dQ,<- b2];exact hH (ms:=[]) ⟨by decide,by decide,by decide,by decide⟩ rfl (by simp) D
  ·obtain ⟨U,l,c2⟩:=b7 τ r;obtain ⟨d1,d2⟩:=v4 h.good hj u1 U;exact ⟨d1,l,.gval (t:=sbT τ J) (by show (s.sl b).map _=_; rw [p]; rfl) (by show (s.sl a).map _=_; rw [a7,d2]; rfl) c2⟩
 | @gint e e' a b nm xs o h1 hd ih=>
  intro s σ h he V hl B j out f hf;subst he;rw [aO] at hl;rw [dQ,aO] at hf;obtain ⟨f,rfl⟩:∃ g,f=g+1:=⟨f - 1,by omega⟩
  obtain ⟨J,p,q1⟩:=kP h1;have hj:okJ N (.one J (fT a)):=⟨⟨eG h.le _ (h.sl _ _ p).1,(h.sl _ _ p).2⟩,tB _ _⟩
  obtain ⟨u1,u2⟩:=zO h.good hj V (q1.trans (xc σ a).symm);have D:insI s ⟨2,a,b,nm⟩ []=some ⟨s.sl,s.ar,s.fr,(uniV s.st J (fT a)).2⟩:=by
   rw [insI,ae (show ¬ (2:Int)=1 by decide),af rfl,p,nH,unI,af u1]
  obtain ⟨g1,g2,_⟩:=kr h (by simp; omega) (by simp) (B _ (bL ..)).1 D;obtain ⟨O,C,G,b1,b2,b3,Y,b5,b6,b7⟩:=ih g1 rfl u2 (by show s.fr+xs.length<=N; omega) (fun y hy=>B y (bV _ hy)) j out f (by omega);refine ⟨O,C,G,b1,?_,b3,Y,b5,b6,fun τ r=>?_⟩
  ·rw [dQ,<- b2];exact hH (ms:=[]) ⟨by decide,by decide,by decide,by decide⟩ rfl (by simp) D
  ·obtain ⟨U,l,c2⟩:=b7 τ r;obtain ⟨d1,d2⟩:=v4 h.good hj u1 U;rw [xc] at d2;exact ⟨d1,l,.gint (by show (s.sl b).map _=_; rw [p]; exact congrArg some d2) c2⟩
 | @gstr e e' n b nm ms xs v' ks o hn h1 a6 hd ih=>
  intro s σ h he V hl B j out f hf;subst he;rw [aO,bv] at hl;rw [dQ,aO,cN,bv] at hf;obtain ⟨f,rfl⟩:∃ g,f=g+1:=⟨f - 1,by omega⟩
  have Z:=B _ (bL ..);have c3:n<=4:=Z.2 (.inl rfl);obtain ⟨J,p,q1⟩:=kP h1;obtain ⟨q,u,a1,⟨σ1,a2,a3,a4⟩,a5⟩:=LO a6 h (by omega) rfl;obtain ⟨o1,o2,o3,o4,o5,o6,o7⟩:=j3 ms h (by omega) a1;have a0:=nt (M:=q.fr) Z.1 (by omega) o7;have a8:okU q.fr J/\wB J:=⟨eG o2 _ (h.sl _ _ p).1,(h.sl _ _ p).2⟩
  have hj:okJ N (.one J (fnT nm u)):=⟨⟨eG o1.le _ a8.1,a8.2⟩,⟨eG o1.le _ a0.1,a0.2⟩⟩
  have a9:iy σ1 q.st:=by rw [o4]; exact Bm h.low a2 V
  obtain ⟨u1,u2⟩:=zO o1.good hj a9 (by rw [nV,<- a4,<- q1]; exact (mC a2 J (h.sl _ _ p).1).symm);have D:insI s ⟨3,n,b,nm⟩ ms=some ⟨q.sl,q.ar,q.fr,(uniV q.st J (fnT nm u)).2⟩:=by
   rw [insI,ae (show ¬ (3:Int)=1 by decide),ae (show ¬ (3:Int)=2 by decide),af rfl,p,nH,a1,nH,unI,af u1]
  obtain ⟨g1,g2,g3⟩:=kr h (by omega) (by omega) Z.1 D;obtain ⟨O,C,G,b1,b2,b3,Y,b5,⟨σ2,b6,b7,b8⟩,b9⟩:=ih (σ:=σ1) g1 (by
   show Ev.mk v' _=Ev.mk _ _;rw [a3]
   congr 1
   show env σ s.ar=env σ1 q.ar;rw [o5]; exact mt h.ar a2) u2 (by show q.fr+xs.length<=N; omega) (fun y hy=>B y (bV _ (iW _ hy))) j out f (by omega)
  refine ⟨O,C,G,b1,?_,b3,g9 o2 Y,b5,⟨σ2,fun m h0 hm=>?_,b7,b8⟩,fun τ r=>?_⟩
  ·rw [dQ,cN,<- b2];exact hH ⟨by decide,by decide,by decide,by decide⟩ (by rw [fE,af (.inl rfl)]; exact hn.symm) (by omega) D
  ·rw [a2 m h0 hm];exact b6 m h0 (by show m<(q.fr:Int); omega)
  ·obtain ⟨U,l,c2⟩:=b9 τ r;obtain ⟨d1,d2⟩:=v4 o1.good hj u1 U;rw [o4] at d1;refine ⟨d1,l,.gstr (ks:=sbL τ u) (v':=env τ q.sl) hn (by show (s.sl b).map _=_; rw [p]; exact congrArg some (d2.trans (nV ..))) (a5 τ) ?_⟩;have:ev τ ⟨q.sl,q.ar,q.fr,(uniV q.st J (fnT nm u)).2⟩=⟨env τ q.sl,(ev τ s).a⟩:=by
    show Ev.mk _ (env τ q.ar)=Ev.mk _ (env τ s.ar);rw [o5]
   rw [<- this]; exact c2
 | @sstr e e' n b nm ms xs v' ks o hn a6 hd ih=>
  intro s σ h he V hl B j out f hf;subst he;rw [aO,bv] at hl;rw [dQ,aO,cN,bv] at hf;obtain ⟨f,rfl⟩:∃ g,f=g+1:=⟨f - 1,by omega⟩
  have Z:=B _ (bL ..);have c3:n<=4:=Z.2 (.inr (.inl rfl));obtain ⟨q,u,a1,⟨σ1,a2,a3,a4⟩,a5⟩:=LO a6 h (by omega) rfl;obtain ⟨o1,o2,o3,o4,o5,o6,o7⟩:=j3 ms h (by omega) a1;have a9:iy σ1 q.st:=by rw [o4]; exact Bm h.low a2 V
  have D:insI s ⟨7,n,b,nm⟩ ms=some ⟨upS q.sl b (fnT nm u),q.ar,q.fr,q.st⟩:=by
   rw [insI,ae (show ¬ (7:Int)=1 by decide),ae (show ¬ (7:Int)=2 by decide),ae (show ¬ (7:Int)=3 by decide),af rfl,a1]; rfl
  obtain ⟨g1,g2,g3⟩:=kr h (by omega) (by omega) Z.1 D;obtain ⟨O,C,G,b1,b2,b3,Y,b5,⟨σ2,b6,b7,b8⟩,b9⟩:=ih (σ:=σ1) g1 (by
   show Ev.mk (upS v' _ _) _=Ev.mk (env σ1 (upS q.sl b (fnT nm u))) _;rw [g7,nV,a3,a4]
   congr 1
   show env σ s.ar=env σ1 q.ar;rw [o5]; exact mt h.ar a2) a9 (by show q.fr+xs.length<=N; omega) (fun y hy=>B y (bV _ (iW _ hy))) j out f (by omega)
  refine ⟨O,C,G,b1,?_,b3,g9 o2 Y,b5,⟨σ2,fun m h0 hm=>?_,b7,b8⟩,fun τ r=>?_⟩
  ·rw [dQ,cN,<- b2];exact hH ⟨by decide,by decide,by decide,by decide⟩ (by rw [fE,af (.inr rfl)]; exact hn.symm) (by omega) D
  ·rw [a2 m h0 hm];exact b6 m h0 (by show m<(q.fr:Int); omega)
  ·obtain ⟨U,l,c2⟩:=b9 τ r;have U:iy τ q.st:=U;rw [o4] at U;refine ⟨U,l,.sstr (ks:=sbL τ u) (v':=env τ q.sl) hn (a5 τ) ?_⟩;have:ev τ ⟨upS q.sl b (fnT nm u),q.ar,q.fr,q.st⟩=⟨upS (env τ q.sl) b (fnT nm (sbL τ u)),(ev τ s).a⟩:=by
    show Ev.mk (env τ (upS q.sl b (fnT nm u))) (env τ q.ar)=Ev.mk _ (env τ s.ar);rw [o5,g7,nV]
   rw [<- this]; exact c2
 | @pvar e e' a b nm t xs o hd ih=>
  intro s σ h he V hl B j out f hf;subst he;rw [aO] at hl;rw [dQ,aO] at hf;obtain ⟨f,rfl⟩:∃ g,f=g+1:=⟨f - 1,by omega⟩
  have D:insI s ⟨8,a,b,nm⟩ []=some ⟨upS s.sl a (fk s.fr),upS s.ar b (fk s.fr),s.fr+1,s.st⟩:=by
   rw [insI,ae (show ¬ (8:Int)=1 by decide),ae (show ¬ (8:Int)=2 by decide),ae (show ¬ (8:Int)=3 by decide),ae (show ¬ (8:Int)=7 by decide),af rfl]
  obtain ⟨g1,g2,g3⟩:=kr h (by simp; omega) (by simp) (B _ (bL ..)).1 D;obtain ⟨O,C,G,b1,b2,b3,Y,b5,⟨σ2,b6,b7,b8⟩,b9⟩:=ih (σ:=NQ σ s.fr t) g1 (by
   show Ev.mk (upS (env σ s.sl) a t) (upS (env σ s.ar) b t)=Ev.mk (env _ (upS s.sl a (fk s.fr))) (env _ (upS s.ar b (fk s.fr)));rw [g7,g7,ji,FQ,mt h.sl (qN σ s.fr t),mt h.ar (qN σ s.fr t)]) (Bm h.low (qN σ s.fr t) V) (by show s.fr+1+xs.length<=N; omega) (fun y hy=>B y (bV _ hy)) j out f (by omega)
  have Y:s.fr+1<=C.fr:=Y;refine ⟨O,C,G,b1,?_,b3,by omega,b5,⟨σ2,fun m h0 hm=>?_,b7,b8⟩,fun τ r=>?_⟩
  ·rw [dQ,<- b2];exact hH (ms:=[]) ⟨by decide,by decide,by decide,by decide⟩ rfl (by simp) D
  ·rw [qN σ s.fr t m h0 hm];exact b6 m h0 (by show m<((s.fr+1:Nat):Int); omega)
  ·obtain ⟨U,l,c2⟩:=b9 τ r;refine ⟨U,l,.pvar (t:=τ s.fr) ?_⟩;have:ev τ ⟨upS s.sl a (fk s.fr),upS s.ar b (fk s.fr),s.fr+1,s.st⟩=⟨upS (ev τ s).v a (τ s.fr),upS (ev τ s).a b (τ s.fr)⟩:=by
    show Ev.mk (env τ (upS s.sl a (fk s.fr))) (env τ (upS s.ar b (fk s.fr)))=Ev.mk _ _;rw [g7,g7,ji]; rfl
   rw [<- this]; exact c2
 | @pval e e' a b nm t xs o h1 hd ih=>
  intro s σ h he V hl B j out f hf;subst he;rw [aO] at hl;rw [dQ,aO] at hf;obtain ⟨f,rfl⟩:∃ g,f=g+1:=⟨f - 1,by omega⟩
  obtain ⟨J,p,q1⟩:=kP h1;have D:insI s ⟨9,a,b,nm⟩ []=some ⟨s.sl,upS s.ar b J,s.fr,s.st⟩:=by
   rw [insI,ae (show ¬ (9:Int)=1 by decide),ae (show ¬ (9:Int)=2 by decide),ae (show ¬ (9:Int)=3 by decide),ae (show ¬ (9:Int)=7 by decide),ae (show ¬ (9:Int)=8 by decide),af rfl,p]; rfl
  obtain ⟨g1,g2,g3⟩:=kr h (by simp; omega) (by simp) (B _ (bL ..)).1 D;obtain ⟨O,C,G,b1,b2,b3,Y,b5,b6,b9⟩:=ih (σ:=σ) g1 (by
   show Ev.mk (env σ s.sl) (upS (env σ s.ar) b t)=Ev.mk _ (env _ (upS s.ar b J));rw [g7,q1]) V (by show s.fr+xs.length<=N; omega) (fun y hy=>B y (bV _ hy)) j out f (by omega)
  refine ⟨O,C,G,b1,?_,b3,Y,b5,b6,fun τ r=>?_⟩
  ·rw [dQ,<- b2];exact hH (ms:=[]) ⟨by decide,by decide,by decide,by decide⟩ rfl (by simp) D
  ·obtain ⟨U,l,c2⟩:=b9 τ r;refine ⟨U,l,.pval (t:=sbT τ J) (by show (s.sl a).map _=_; rw [p]; rfl) ?_⟩;have:ev τ ⟨s.sl,upS s.ar b J,s.fr,s.st⟩=⟨(ev τ s).v,upS (ev τ s).a b (sbT τ J)⟩:=by
    show Ev.mk (env τ s.sl) (env τ (upS s.ar b J))=Ev.mk _ _;rw [g7]; rfl
   rw [<- this]; exact c2
 | @pint e e' a b nm xs o hd ih=>
  intro s σ h he V hl B j out f hf;subst he;rw [aO] at hl;rw [dQ,aO] at hf;obtain ⟨f,rfl⟩:∃ g,f=g+1:=⟨f - 1,by omega⟩
  have D:insI s ⟨10,a,b,nm⟩ []=some ⟨s.sl,upS s.ar b (fT a),s.fr,s.st⟩:=by
   rw [insI,ae (show ¬ (10:Int)=1 by decide),ae (show ¬ (10:Int)=2 by decide),ae (show ¬ (10:Int)=3 by decide),ae (show ¬ (10:Int)=7 by decide),ae (show ¬ (10:Int)=8 by decide),ae (show ¬ (10:Int)=9 by decide),af rfl]
  obtain ⟨g1,g2,g3⟩:=kr h (by simp; omega) (by simp) (B _ (bL ..)).1 D;obtain ⟨O,C,G,b1,b2,b3,Y,b5,b6,b9⟩:=ih (σ:=σ) g1 (by
   show Ev.mk (env σ s.sl) (upS (env σ s.ar) b (fT a))=Ev.mk _ (env _ (upS s.ar b (fT a)));rw [g7,xc]) V (by show s.fr+xs.length<=N; omega) (fun y hy=>B y (bV _ hy)) j out f (by omega)
  refine ⟨O,C,G,b1,?_,b3,Y,b5,b6,fun τ r=>?_⟩
  ·rw [dQ,<- b2];exact hH (ms:=[]) ⟨by decide,by decide,by decide,by decide⟩ rfl (by simp) D
  ·obtain ⟨U,l,c2⟩:=b9 τ r;refine ⟨U,l,.pint ?_⟩;have:ev τ ⟨s.sl,upS s.ar b (fT a),s.fr,s.st⟩=⟨(ev τ s).v,upS (ev τ s).a b (fT a)⟩:=by
    show Ev.mk (env τ s.sl) (env τ (upS s.ar b (fT a)))=Ev.mk _ _;rw [g7,xc]; rfl
   rw [<- this]; exact c2
 | @cut e e' a b nm xs o hd ih=>
  intro s σ h he V hl B j out f hf;subst he;rw [aO] at hl;rw [dQ,aO] at hf;obtain ⟨f,rfl⟩:∃ g,f=g+1:=⟨f - 1,by omega⟩
  obtain ⟨O,C,G,b1,b2,b3,Y,b5,⟨σ2,b6,b7,b8⟩,b9⟩:=ih (σ:=σ) h rfl V (by omega) (fun y hy=>B y (bV _ hy)) j (out++[r4]) f (by omega);refine ⟨O,C,r4::G,b1,?_,b3,Y,fun t r=>?_,⟨σ2,b6,b7,by rw [sbL,Mu,b8]⟩,fun τ r=>?_⟩
  ·rw [dQ,readI,ae (show ¬ (13:Int)=14 by decide),af rfl,b2,cN]; rfl
  ·rcases ek.1 r with rfl|r
   ·exact nt (nm:=⟨#[33]⟩) (ks:=[]) (by decide) (by simp) (fun t r=>(by cases r))
   ·exact b5 t r
  ·obtain ⟨U,l,c2⟩:=b9 τ r;exact ⟨U,l,by rw [sbL,Mu]; exact .cut c2⟩
 | @call e e' op n b nm ks xs o b0 hn h1 hd ih=>
  intro s σ h he V hl B j out f hf;subst he;rw [aO] at hl;rw [dQ,aO] at hf;obtain ⟨f,rfl⟩:∃ g,f=g+1:=⟨f - 1,by omega⟩
  have Z:=B _ (bL ..);have c3:n<=4:=Z.2 (by rcases b0 with e|e <;> simp [e]);obtain ⟨u,a1,a2,a3⟩:=DH (σ:=σ) (a:=s.ar) ks.length rfl h1;obtain ⟨o1,o2⟩:=Fm h.ar _ a1;obtain ⟨O,C,G,b1,b2,b3,Y,b5,⟨σ2,b6,b7,b8⟩,b9⟩:=ih (σ:=σ) h rfl V (by omega) (fun y hy=>B y (bV _ hy)) j (out++[fnT nm u]) f (by omega);have a0:=nt (M:=s.fr) Z.1 (by omega) o2;refine ⟨O,C,fnT nm u::G,b1,?_,b3,Y,fun t r=>?_,⟨σ2,b6,b7,?_⟩,fun τ r=>?_⟩
  ·have h5:¬ op=14:=by omega
   have h6:¬ op=13:=by omega
   rw [dQ,readI,ae h5,ae h6,af b0,af (show 0<=n/\n<=4 by omega)];have e:(Ist.mk op n b nm).a.toNat=ks.length:=by show n.toNat=_; omega
   rw [e,a1,nH,b2,cN]; rfl
  ·rcases ek.1 r with rfl|r
   ·exact ⟨eG Y _ a0.1,a0.2⟩
   ·exact b5 t r
  ·rw [sbL,nV,b8]
   congr 2
   rw [a2];exact wm b6 u (lq fun t r=>(o2 t r).1)
  ·obtain ⟨U,l,c2⟩:=b9 τ r;refine ⟨U,l,?_⟩;rw [sbL,nV];exact .call b0 (by rw [iP,o1]; exact hn) (fun i D=>a3 τ i D) c2
end
end Go.Proofs.YtjbcdmheajljpaaGreat
