/- Matching a general term to a special one: the plain form, and spec.l3Match. -/
import Derived.Test.YtellfcpffcipcaaGreatDoorZCkA
import Derived.Test.YtellfcpffcipcaaGreatDoorZCk3
namespace Go.Proofs.YtellfcpffcipcaaGreatDoor
attribute [local irreducible] Run CondV aF aT
section
open Go Go.RowKit

abbrev au:=List (Option T)
mutual
def cN:T->T->au->Bool × au
 | .mk k n s ks,u,st=>if k=1 then (match st[n.toNat]? with
   | some (some t)=>(eqT t u,st)
   | _=>(true,st.set n.toNat (some u)))
  else if kK (.mk k n s ks) u=true then gx ks u.kids st else (false,st)
def gx:List T->List T->au->Bool × au
 | [],_,st=>(true,st)
 | _::_,[],st=>(true,st)
 | t::ts,u::us,st=>if (cN t u st).1=true then gx ts us (cN t u st).2 else (false,(cN t u st).2)
end
theorem EP (ts us:List T) (st:au) (j:Nat) (h:j<ts.length) (a:j<us.length) :
  gx (ts.drop j) (us.drop j) st=if (cN ts[j] us[j] st).1=true then gx (ts.drop (j+1)) (us.drop (j+1)) (cN ts[j] us[j] st).2 else (false,(cN ts[j] us[j] st).2):=by
 rw [dB h,dB a,gx]
mutual
def okV:T->Prop
 | .mk k n _ ks=>(k=1->0<=n/\n<=25)/\n6 ks
def n6:List T->Prop
 | []=>True
 | t::ts=>okV t/\n6 ts
end
theorem pC:∀ {ts:List T},n6 ts->∀ t∈ts,okV t
 | _::_,h,t,a=>by
  rcases cw.1 a with rfl|a
  ·exact h.1
  ·exact pC h.2 t a
mutual
def okK:T->Prop
 | .mk k _ _ ks=>k≠0/\Cq ks
def Cq:List T->Prop
 | []=>True
 | t::ts=>okK t/\Cq ts
end
theorem wR:∀ {ts:List T},Cq ts->∀ t∈ts,okK t
 | _::_,h,t,a=>by
  rcases cw.1 a with rfl|a
  ·exact h.1
  ·exact wR h.2 t a
theorem Pl {t:T} (h:fp t=true):(t.kind=1->0<=t.n/\t.n<=25)/\t.kind≠0:=by
 unfold fp at h;refine ⟨fun hk=>?_,fun hk=>?_⟩
 ·rw [ai hk] at h;simp only [aZ,bt] at h;exact ⟨h.1,h.2.1⟩
 ·rw [af (by omega),af (by omega),af (by omega)] at h;cases h
mutual
theorem Si:∀ (t:T) (d:Int),ik t d=true->okV t/\okK t
 | .mk k n s ks,d,h=>by
  rw [ik] at h;split at h
  ·cases h
  ·simp only [aZ] at h;obtain ⟨a,f⟩:=h;obtain ⟨g,i⟩:=MC ks (d - 1) f;rw [okV,okK];obtain ⟨j,l⟩:=Pl a;exact ⟨⟨j,g⟩,⟨l,i⟩⟩
theorem MC:∀ (ts:List T) (d:Int),ia ts d=true->n6 ts/\Cq ts
 | [],d,h=>by simp [n6,Cq]
 | t::ts,d,h=>by
  rw [ia,aZ] at h;obtain ⟨a,f⟩:=Si t d h.1;obtain ⟨g,i⟩:=MC ts d h.2;rw [n6,Cq];exact ⟨⟨a,g⟩,⟨f,i⟩⟩
end
theorem lC {t:T} (h:dP t=true):okV t/\okK t:=by
 rw [dP,aZ] at h;exact Si t 30 h.1
def C3 (st:au):Prop:=st.length=26/\∀ t,some t∈st->okK t
theorem YH {st:au} {n:Nat} {u:T} (h:C3 st) (f:okK u):C3 (st.set n (some u)):=by
 refine ⟨by rw [mQ];exact h.1,fun t a=>?_⟩;rcases DS a with a|a
 ·exact h.2 t a
 ·simp only [aY] at a;rw [a];exact f
mutual
theorem np:∀ (t u:T) (st:au),C3 st->okK u->C3 (cN t u st).2
 | .mk k n s ks,u,st,h,hu=>by
  rw [cN];split
  ·split
   ·exact h
   ·exact YH h hu
  ·split
   ·obtain ⟨k',n',f,a⟩:=u;rw [okK] at hu;exact MN ks a st h hu.2
   ·exact h
theorem MN:∀ (ts us:List T) (st:au),C3 st->Cq us->C3 (gx ts us st).2
 | [],_,st,h,_=>by rw [gx]; exact h
 | _::_,[],st,h,_=>by rw [gx]; exact h
 | t::ts,u::us,st,h,hu=>by
  rw [gx];rw [Cq] at hu;split
  ·exact MN ts us _ (np t u st h hu.1) hu.2
  ·exact np t u st h hu.1
end
def p7:List Value:=[ax 0,ax 0,.string ⟨#[]⟩,hV]
def KnownC (S:ae) (c:Array Value) (st:au):Prop:=104<=c.size/\∀ i (h:i<st.length),(st[i]=none->aO c (i * 4) 4=p7)/\(∀ t,st[i]=some t->RdT S (aO c (i * 4) 4) t)
theorem KnownC.set {S:ae} {c:Array Value} {st:au} (h:KnownC S c st) {n:Nat} (hn:n<26) {cs:hZ} {u:T} (f:RdT S cs u):KnownC S (b0 c (n * 4) cs) (st.set n (some u)):=by
 have a:=f.length;have l:=h.1;have m:104<=(b0 c (n * 4) cs).size:=by rw [my _ _ _ (by omega)];exact l
 refine ⟨m,fun i g=>?_⟩;rw [mQ] at g;by_cases e:n=i
 ·subst e;rw [Md];refine ⟨fun h=>(by cases h),fun t j=>?_⟩;simp only [aY] at j;subst j;have:=jE (c:=c) (o:=n * 4) (vs:=cs) (by omega);rw [a] at this;rw [this];exact f
 ·rw [QC e,lB (by omega) (by omega)];exact h.2 i g
section
abbrev kvn (kb kp:Nat):Value:=eF kb 0 26 kp
abbrev kv0 (kb:Nat):Value:=kvn kb 26
theorem yx (kp:Nat):∀ (t u:T) (S:ae) (cs ds:hZ) (Y:Nat) (kc:Array Value) (st:au),RdT S cs t->RdT S ds u->okV t->okK u->C3 st->KnownC S kc st->
  kt Rz [.agg cs.toArray,.agg ds.toArray,kvn Y kp] [ay Y kc ab] S fun r I' S'=>S'=S/\r=.bool (cN t u st).1/\∃ U,I'=[ay Y U ab]/\KnownC S U (cN t u st).2:=by
 refine T.ind fun k n s J ih u S cs ds Y kc st h h' hv hu b9 a4=>?_;intro w f;have c0:=h';obtain ⟨kv,rfl,_,_,_,a8⟩:=RdT.iff.1 h;obtain ⟨a9,rfl,_,_,_,b0⟩:=RdT.iff.1 h';obtain ⟨k',n',O,g⟩:=u;simp only [T.name,T.kids,T.kind,T.n] at a8 b0 ⊢;have c7:=a8.le;simp only [maxLen] at c7;rw [okV] at hv;obtain ⟨d1,d2⟩:=hv;have e9:=hu;rw [okK] at hu;obtain ⟨X,hX⟩:∃ X,X=bS [Item.blk Y (.cells kc ab)]:=⟨_,rfl⟩
 rw [<- hX] at f ⊢;refine AG.2 ?_;dsimp only[AG,dR];refine bq f fun b1 w' f=>?_;refine bq f fun b2 w' f=>?_;have f:Inv w X [ay b1 #[ax k,ax n,.string s,kv] ab,ay b2 #[ax k',ax n',.string O,a9] ab,ay Y kc ab] S w':=f.perm (by
  refine (cT (l₁:=[_,_]) (l₂:=[_])).trans ?_;exact List.Perm.refl _)
 refine ad f 0 rfl aM aw rfl (bn (aJ (fun a5=>?_) (fun a5=>?_)))
 ·obtain ⟨e6,e4⟩:=d1 a5;obtain ⟨j,rfl⟩:∃ j:Nat,n=j:=⟨n.toNat,by omega⟩
  have hj:j<26:=by omega
  have b6:j<st.length:=by rw [b9.1];exact hj
  refine ad f 0 rfl aQ aw rfl (az ag hj (ah aM ?_));rw [dr,vo];obtain ⟨d3,d4⟩:=a4.2 j b6;cases a0:st[j] with
  | none=>
   have a3:=d3 a0;refine aD f 2 aw rfl (by have:=aA a3 0 _ rfl;exact this) (dw (aE (fun hb=>by simp at hb) (fun _=>?_)));refine ad f 0 rfl aQ aw rfl (av f 1 ac rfl rfl (az ag hj ?_));rw [dr];refine rX f 2 rfl ac rfl (by have:=a4.1;exact Uj (by omega)) c0.one fun w' f=>?_;have hm:cN (.mk k j s J) (.mk k' n' O g) st=(true,st.set j (some (.mk k' n' O g))):=by
    rw [cN,ai a5,dq,gd b6,a0]
   rw [hm];exact ⟨_,_,_,rfl,f.pick [false,false,true],Ext.refl _ _ _,rfl,rfl,_,rfl,a4.set hj c0⟩
  | some t0=>
   have hR:=d4 t0 a0;have d9:t0.kind≠0:=by
    have:=b9.2 t0 (by rw [<- a0];exact bJ b6);obtain ⟨a,b,c,d⟩:=t0;rw [okK] at this;exact this.1
   obtain ⟨e5,a3,_,_,_,_⟩:=RdT.iff.1 hR;refine aD f 2 aw rfl (by have:=aA a3 0 _ rfl;exact this) (dw ?_);rw [aS d9];refine aE (fun _=>?_) (fun hb=>by cases hb);refine ⟨fun D x6 pj vz tU qX nX pu ww w_=>Fx D 0 [ww=kvn Y kp,pu=eu b1 1,nX=ax j,qX=eu Y (j * 4),tU=.agg (aO kc (j * 4) 4).toArray,vz=.agg #[ax k',ax n',.string O,a9],pj=.bool (eqT t0 (.mk k' n' O g)),x6=.bool (eqT t0 (.mk k' n' O g))]/\Inv w X [ay b1 #[ax k,ax (j:Int),.string s,kv] ab,ay b2 #[ax k',ax n',.string O,a9] ab,ay Y kc ab] S w_,⟨Fx.nil _ _,f.draw⟩,⟨?_,?_,?_,?_,?_,?_,?_,?_,trivial⟩,?_⟩;all_goals (intro D bw;intros;rename_i x6 pj vz tU qX nX pu ww w_ a7;have l:=a7.1;obtain ⟨⟨co,cn,bP,cj,cA,bQ,bO,cM,_⟩,f⟩:=a7)
   rotate_left;apply ah aQ;rotate_left
   obtain rfl:=cn ‹_›;apply aD f 0 aw rfl rfl;rotate_left
   obtain rfl:=co ‹_›;obtain rfl:=bP ‹_›;apply az ag hj;rw [dr];rotate_left
   obtain rfl:=cj ‹_›;refine cP f 2 (aO kc (j * 4) 4) ac rfl hR.length (fun i v hi=>aA rfl i v hi) ?_;rotate_left
   apply av f 1 ac rfl rfl;rotate_left
   obtain rfl:=cA ‹_›;obtain rfl:=bQ ‹_›;refine Run.callPure qU qJ f (rN t0 _ S _ _ hR c0) fun w_ f=>?_;rotate_left
   obtain rfl:=bO ‹_›;rotate_left
   all_goals try exact ⟨l.set _ (by first|rfl|assumption|trivial),f⟩
   obtain ⟨rfl,rfl,rfl,rfl,rfl,rfl,rfl,rfl,_⟩:=l.all;clear l co cn bP cj cA bQ bO cM;have hm:cN (.mk k j s J) (.mk k' n' O g) st=(eqT t0 (.mk k' n' O g),st):=by
    rw [cN,ai a5,dq,gd b6,a0]
   rw [hm];exact ⟨_,_,_,rfl,f.pick [false,false,true],Ext.refl _ _ _,rfl,rfl,_,rfl,a4⟩
 refine ⟨fun q w'=>q=.bool (!kK (.mk k n s J) (.mk k' n' O g))/\Inv w X [ay b1 #[ax k,ax n,.string s,kv] ab,ay b2 #[ax k',ax n',.string O,a9] ab,ay Y kc ab] S w',?_,?_⟩
 ·refine ad f 0 rfl aM aw rfl (ad f 1 rfl aM aw rfl (dw ?_));by_cases e1:k=k'
  ·rw [aL e1];refine rpG ?_;refine ad f 0 rfl aQ aw rfl (ad f 1 rfl aQ aw rfl (dw ?_));by_cases e2:n=n'
   ·rw [aL e2];refine rpG ?_;refine ad f 0 rfl aW aP rfl (ad f 1 rfl aW aP rfl (Ea ?_));by_cases e3:s=O
    ·rw [aL e3];refine rpG ?_;refine ad f 0 rfl ao aj rfl (aI a8 ag (ad f 1 rfl ao aj rfl (aI b0 ag (dw ?_))));refine rpG ?_;exact ⟨by rw [eM,aL e1,aL e2,aL e3,R6];rfl,f⟩
    ·rw [aS e3];refine rpG ?_;exact ⟨by rw [eM,aL e1,aL e2,aS e3];rfl,f⟩
   ·rw [aS e2];refine rpG ?_;exact ⟨by rw [eM,aL e1,aS e2];rfl,f⟩
  ·rw [aS e1];refine rpG ?_;exact ⟨by rw [eM,aS e1];rfl,f⟩

 intro q;(iterate 27 intro);intro w';rintro ⟨rfl,f⟩;cases hd:kK (.mk k n s J) (.mk k' n' O g)
 ·refine aE (fun _=>?_) (fun hb=>by cases hb);have hm:cN (.mk k n s J) (.mk k' n' O g) st=(false,st):=by rw [cN,af a5,af (by rw [hd];decide)]
  rw [hm];exact ⟨_,_,_,rfl,f.pick [false,false,true],Ext.refl _ _ _,rfl,rfl,_,rfl,a4⟩
 refine aE (fun hb=>by cases hb) (fun _=>?_);have e0:J.length=g.length:=by
  rw [eM] at hd;simp only [aZ,bt] at hd;exact hd.2.2.2
 have hm:cN (.mk k n s J) (.mk k' n' O g) st=gx J g st:=by rw [cN,af a5,ai hd];rfl
 rw [hm];have c8:=hu.2;refine ⟨fun i w'=>∃ (j:Nat) (Z:au) (U:Array Value),j<=J.length/\i=ax j/\gx (J.drop j) (g.drop j) Z=gx J g st/\C3 Z/\KnownC S U Z/\Inv w X [ay b1 #[ax k,ax n,.string s,kv] ab,ay b2 #[ax k',ax n',.string O,a9] ab,ay Y U ab] S w',fun i _=>J.length - (intOf i).toNat,⟨0,st,kc,bf _,rfl,rfl,b9,a4,f⟩,?_⟩;intro t5;(iterate 21 intro);intro w';rintro ⟨j,Z,U,hj,rfl,G,b7,b8,f⟩;refine ad f 0 rfl ao aj rfl (aI a8 ag (bM (aJ (fun d0=>?_) (fun d0=>?_))))
 ·have a6:j<J.length:=by omega
  have b3:j<g.length:=by omega
  obtain ⟨c1,o1,M,a1,E1,e7,rfl,d6,c5⟩:=a8.at_ a6;obtain ⟨c2,o2,N,a2,E2,e8,rfl,d7,c6⟩:=b0.at_ b3;rw [EP J g Z j a6 b3] at G;have b4:=ih _ (bJ a6) g[j] S _ _ Y U Z c5 c6 (pC d2 _ (bJ a6)) (wR c8 _ (bJ b3)) b7 b8;have c9:=np J[j] g[j] Z b7 (wR c8 _ (bJ b3));generalize hr:cN J[j] g[j] Z=r at G b4 c9;refine ⟨fun D ud Bw Eg D5 Fw EV FF DD Hm Sd YD X9 MQ w_=>Fx D 0 [MQ=eu b1 3,X9=eF c1 o1 J.length M,YD=ax j,Sd=eu c1 (o1+j * 4),Hm=.agg (aO a1 (o1+j * 4) 4).toArray,DD=eu b2 3,FF=eF c2 o2 g.length N,EV=ax j,Fw=eu c2 (o2+j * 4),D5=.agg (aO a2 (o2+j * 4) 4).toArray,Eg=kvn Y kp,Bw=.bool r.1,ud=.bool (!r.1)]/\(D 11=false->Inv w X [ay b1 #[ax k,ax n,.string s,eF c1 o1 J.length M] ab,ay b2 #[ax k',ax n',.string O,eF c2 o2 g.length N] ab,ay Y U ab] S w_)/\(D 11=true->∃ V,KnownC S V r.2/\Inv w X [ay b1 #[ax k,ax n,.string s,eF c1 o1 J.length M] ab,ay b2 #[ax k',ax n',.string O,eF c2 o2 g.length N] ab,ay Y V ab] S w_)/\∃ m,Inv w X [ay b1 #[ax k,ax n,.string s,eF c1 o1 J.length M] ab,ay b2 #[ax k',ax n',.string O,eF c2 o2 g.length N] ab,ay Y m ab] S w_,⟨Fx.nil _ _,⟨fun _=>f.draw,aU,U,f.draw⟩⟩,⟨?_,?_,?_,?_,?_,?_,?_,?_,?_,?_,?_,?_,?_,trivial⟩,?_⟩;all_goals (intro D bw;intros;rename_i ud Bw Eg D5 Fw EV FF DD Hm Sd YD X9 MQ w_ a7;have l:=a7.1;obtain ⟨⟨co,cn,bP,cj,cA,bQ,bO,cM,de,dv,bU,cC,cY,_⟩,⟨o,B,m,f⟩⟩:=a7)
  apply ah ao;rotate_left
  obtain rfl:=co ‹_›;apply aD f 0 aj rfl rfl;rotate_left;rotate_left
  obtain rfl:=cn ‹_›;obtain rfl:=bP ‹_›;apply az ag a6;rotate_left
  obtain rfl:=cj ‹_›;refine bV ac c5.length (fun j v hj=>by rw [f.cellS d6];exact aA rfl j v hj) ?_;rotate_left
  apply ah ao;rotate_left
  obtain rfl:=bQ ‹_›;apply aD f 1 aj rfl rfl;rotate_left;rotate_left
  obtain rfl:=bO ‹_›;obtain rfl:=cM ‹_›;apply az ag b3;rotate_left
  obtain rfl:=de ‹_›;refine bV ac c6.length (fun j v hj=>by rw [f.cellS d7];exact aA rfl j v hj) ?_;rotate_left;rotate_left
  obtain rfl:=cA ‹_›;obtain rfl:=dv ‹_›;obtain rfl:=bU ‹_›;refine Run.call (A:=[_,_]) sF sL (o bw) b4 fun v' I' S w_=>?_;rintro ⟨rfl,rfl,V,rfl,b5⟩ _ f;have o:=fun (h:aC D 11 11=false)=>(Bool.noConfusion h:Inv w X [ay b1 #[ax k,ax n,.string s,eF c1 o1 J.length M] ab,ay b2 #[ax k',ax n',.string O,eF c2 o2 g.length N] ab,ay Y U ab] S w_)
  have B:=fun (_:aC D 11 11=true)=>(⟨V,b5,f⟩:∃ V,KnownC S V r.2/\Inv w X [ay b1 #[ax k,ax n,.string s,eF c1 o1 J.length M] ab,ay b2 #[ax k',ax n',.string O,eF c2 o2 g.length N] ab,ay Y V ab] S w_)
  obtain ⟨m,f⟩:∃ m,Inv w X [ay b1 #[ax k,ax n,.string s,eF c1 o1 J.length M] ab,ay b2 #[ax k',ax n',.string O,eF c2 o2 g.length N] ab,ay Y m ab] S w_:=⟨V,f⟩
  rotate_left;obtain rfl:=cC ‹_›;apply cq;rotate_left
  all_goals try exact ⟨l.set _ (by first|rfl|assumption|trivial),o,B,m,f⟩
  obtain ⟨rfl,rfl,rfl,rfl,rfl,rfl,rfl,rfl,rfl,rfl,rfl,rfl,rfl,_⟩:=l.all;have nH:D 11=true:=by assumption
  clear l;obtain ⟨V,b5,f⟩:=B nH;clear o B;refine aE (fun c3=>?_) (fun c4=>?_)
  ·simp only [lg] at c3;rw [c3,af (by decide)] at G;rw [<- G];exact ⟨_,_,_,rfl,f.pick [false,false,true],Ext.refl _ _ _,rfl,rfl,_,rfl,b5⟩
  ·simp only [rW] at c4;rw [c4,ai rfl] at G;refine bA (by omega) ?_;exact ⟨⟨j+1,r.2,V,a6,rfl,G,c9,b5,f⟩,by simp [intOf];omega⟩
 ·have:j=J.length:=by omega
  subst this;rw [dY,e0,dY] at G;rw [<- G];exact ⟨_,_,_,rfl,f.pick [false,false,true],Ext.refl _ _ _,rfl,rfl,_,rfl,b8⟩
end
end
section
open Go Go.RowKit

theorem JF:∀ (a b c:List UInt8),Op.bytesLess a b=true->Op.bytesLess b c=true->Op.bytesLess a c=true
 | _,[],_,h,_=>by simp [Op.bytesLess] at h
 | _,_::_,[],_,h=>by simp [Op.bytesLess] at h
 | [],_::_,_::_,_,_=>by simp [Op.bytesLess]
 | x::a,y::b,z::c,h,f=>by
  simp only [Op.bytesLess,jI,bt,aZ,beq_iff_eq] at h f ⊢;rcases h with h|⟨rfl,h⟩
  ·rcases f with f|⟨rfl,f⟩
   ·left;exact UInt8.lt_trans h f
   ·left;exact h
  ·rcases f with f|⟨rfl,f⟩
   ·left;exact f
   ·right;exact ⟨rfl,JF a b c h f⟩
theorem Mf:∀ a:List UInt8,Op.bytesLess a a=false
 | []=>by simp [Op.bytesLess]
 | x::a=>by
  simp only [Op.bytesLess,Mf a,m5,Bool.or_false,nt];exact UInt8.lt_irrefl x
theorem PU:∀ a b:List UInt8,a≠b->Op.bytesLess a b=true ∨ Op.bytesLess b a=true
 | [],[],h=>absurd rfl h
 | [],_::_,_=>.inl (by simp [Op.bytesLess])
 | _::_,[],_=>.inr (by simp [Op.bytesLess])
 | x::a,y::b,h=>by
  simp only [Op.bytesLess,jI,bt,aZ,beq_iff_eq];by_cases e:x=y
  ·subst e;rcases PU a b (fun e=>h (by rw [e])) with f|f
   ·exact .inl (.inr ⟨rfl,f⟩)
   ·exact .inr (.inr ⟨rfl,f⟩)
  ·rcases UInt8.lt_or_lt_of_ne e with f|f
   ·exact .inl (.inl f)
   ·exact .inr (.inl f)
def bls (a b:ByteArray):Bool:=Op.bytesLess a.toList b.toList
def tY (a b:Int):Int:=if a<b then -1 else if b<a then 1 else 0
def jC (a b:ByteArray):Int:=if bls a b=true then -1 else if bls b a=true then 1 else 0
def rkS (t:T):Int:=if t.kind=3/\0<t.kids.length then 4 else t.kind
def Gq (a b:Int):Int:=if a≠0 then a else b
def hdC (t u:T):Int:=Gq (tY (rkS t) (rkS u)) (Gq (tY t.n u.n) (Gq (tY t.kids.length u.kids.length) (jC t.name u.name)))
mutual
def Ds:T->T->Int
 | .mk k n s ks,u=>Gq (hdC (.mk k n s ks) u) (lD ks u.kids)
def lD:List T->List T->Int
 | [],[]=>0
 | [],_::_=>-1
 | _::_,[]=>1
 | t::ts,u::us=>Gq (Ds t u) (lD ts us)
end
mutual
def okO:T->Prop
 | .mk k n s ks=>(((k=1 ∨ k=2)/\s=emptyB/\ks=[]) ∨ (k=3/\n=0))/\U1 ks
def U1:List T->Prop
 | []=>True
 | t::ts=>okO t/\U1 ts
end
theorem PY {t:T} (h:fp t=true):((t.kind=1 ∨ t.kind=2)/\t.name=emptyB/\t.kids=[]) ∨ (t.kind=3/\t.n=0):=by
 unfold fp at h;by_cases e1:t.kind=1
 ·rw [ai e1] at h;simp only [aZ,bt] at h;exact .inl ⟨.inl e1,h.2.2.1,iy h.2.2.2⟩
 ·rw [af e1] at h;by_cases e2:t.kind=2
  ·rw [ai e2] at h;simp only [aZ,bt] at h;exact .inl ⟨.inr e2,h.2.2.1,iy h.2.2.2⟩
  ·rw [af e2] at h;by_cases a:t.kind=3
   ·rw [ai a] at h;simp only [aZ,bt] at h;exact .inr ⟨a,h.1⟩
   ·rw [af a] at h;cases h
theorem mX (a b:Int):(a<b/\tY a b=-1) ∨ (b<a/\tY a b=1) ∨ (a=b/\tY a b=0):=by
 unfold tY;by_cases h:a<b
 ·exact .inl ⟨h,ai h⟩
 ·by_cases f:b<a
  ·exact .inr (.inl ⟨f,by rw [af h,ai f]⟩)
  ·exact .inr (.inr ⟨by omega,by rw [af h,af f]⟩)
theorem toList_inj {a b:ByteArray} (h:a.toList=b.toList):a=b:=by
 have:=BI a b;rw [beq_iff_eq.2 h] at this;exact of_decide_eq_true this.symm
theorem j9 (a b:ByteArray):(bls a b=true/\jC a b=-1) ∨ (bls b a=true/\bls a b=false/\jC a b=1) ∨ (a=b/\jC a b=0):=by
 unfold jC;cases h:bls a b with
 | true=>exact .inl ⟨rfl,ai rfl⟩
 | false=>
  cases g:bls b a with
  | true=>exact .inr (.inl ⟨rfl,rfl,by simp⟩)
  | false=>
   refine .inr (.inr ⟨?_,by simp⟩);refine toList_inj (Decidable.byContradiction fun e=>?_);rcases PU _ _ e with f|f
   ·rw [bls,f] at h;cases h
   ·rw [bls,f] at g;cases g
theorem ZT {a b:ByteArray} (h:bls a b=true):bls b a=false:=by
 cases f:bls b a with
 | false=>rfl
 | true=>
  have:=JF _ _ _ h f;rw [Mf] at this;cases this

structure TC (a b c:Int):Prop where
 lt:a=-1->b=-1->c=-1
 e1:a=0->c=b
 e2:b=0->c=a
theorem TC.lex {a b c j l m:Int} (h:TC a b c) (q:TC j l m):TC (Gq a j) (Gq b l) (Gq c m):=by
 obtain ⟨r,i,o⟩:=h;obtain ⟨t,B,D⟩:=q;unfold Gq;refine ⟨fun x y=>?_,fun x=>?_,fun x=>?_⟩
 ·by_cases f:a=0
  ·rw [af (by omega)] at x;by_cases g:b=0
   ·rw [af (by omega)] at y;rw [af (by have:=i f;omega)];exact t x y
   ·rw [ai (by omega)] at y;have:=i f;rw [ai (by omega)];omega
  ·rw [ai (by omega)] at x;by_cases g:b=0
   ·have:=o g;rw [ai (by omega)];omega
   ·rw [ai (by omega)] at y;have:=r x y;rw [ai (by omega)];omega
 ·by_cases f:a=0
  ·rw [af (by omega)] at x;rw [i f,B x]
  ·rw [ai (by omega)] at x;omega
 ·by_cases g:b=0
  ·rw [af (by omega)] at x;rw [o g,D x]
  ·rw [ai (by omega)] at x;omega
theorem TC.zero:TC 0 0 0:=⟨fun h=>by omega,fun _=>rfl,fun _=>rfl⟩
theorem TC.int (a b c:Int):TC (tY a b) (tY b c) (tY a c):=by
 have f:=mX a b;have g:=mX b c;have h:=mX a c;exact ⟨fun _ _=>by omega,fun _=>by omega,fun _=>by omega⟩
theorem TC.str (a b c:ByteArray):TC (jC a b) (jC b c) (jC a c):=by
 refine ⟨fun x y=>?_,fun x=>?_,fun x=>?_⟩
 ·rcases j9 a b with h|h|h
  ·rcases j9 b c with f|f|f
   ·have:=JF _ _ _ h.1 f.1;unfold jC;rw [ai (show bls a c=true from this)]
   ·omega
   ·omega
  ·omega
  ·omega
 ·rcases j9 a b with h|h|h
  ·omega
  ·omega
  ·rw [h.1]
 ·rcases j9 b c with h|h|h
  ·omega
  ·omega
  ·rw [h.1]
theorem TC.hd (t u v:T):TC (hdC t u) (hdC u v) (hdC t v):=(TC.int _ _ _).lex ((TC.int _ _ _).lex ((TC.int _ _ _).lex (TC.str _ _ _)))
mutual
theorem TC.term:∀ t u v:T,TC (Ds t u) (Ds u v) (Ds t v)
 | .mk k n s ks,.mk k' n' s' ks',v=>by
  rw [Ds,Ds,Ds];exact (TC.hd _ _ _).lex (TC.list ks ks' v.kids)
theorem TC.list:∀ t u v:List T,TC (lD t u) (lD u v) (lD t v)
 | [],[],[]=>by simpa [lD] using TC.zero
 | [],[],_::_=>by rw [lD,lD]; exact ⟨fun h=>by omega,fun _=>rfl,fun h=>by omega⟩
 | [],_::_,[]=>by rw [lD,lD,lD]; exact ⟨fun _ h=>by omega,fun h=>by omega,fun h=>by omega⟩
 | [],_::_,_::_=>by rw [lD,lD]; exact ⟨fun h _=>h,fun h=>by omega,fun h=>rfl⟩
 | _::_,[],[]=>by rw [lD,lD]; exact ⟨fun h _=>h,fun h=>by omega,fun h=>rfl⟩
 | _::_,[],_::_=>by rw [lD,lD]; exact ⟨fun h _=>by omega,fun h=>by omega,fun h=>by omega⟩
 | _::_,_::_,[]=>by rw [lD,lD]; exact ⟨fun _ h=>by omega,fun h=>rfl,fun h=>by omega⟩
 | t::ts,u::us,v::vs=>by
  rw [lD,lD,lD];exact (TC.term t u v).lex (TC.list ts us vs)
end
theorem vm (a b:Int):-(Gq a b)=Gq (-a) (-b):=by
 unfold Gq;by_cases h:a=0
 ·subst h;simp
 ·rw [ai h,ai (by omega)]
theorem zq (a b:Int):tY b a=-tY a b:=by
 have:=mX a b;have:=mX b a;omega
theorem OO (a b:ByteArray):jC b a=-jC a b:=by
 rcases j9 a b with h|h|h
 ·rw [h.2];have:=ZT h.1;unfold jC;rw [this,af (by decide),ai h.1];rfl
 ·rw [h.2.2];unfold jC;rw [ai h.1]
 ·rw [h.2];obtain rfl:=h.1;rw [h.2];rfl
theorem YW (t u:T):hdC u t=-hdC t u:=by
 rw [hdC,hdC,vm,vm,vm,zq (rkS t),zq t.n,zq t.kids.length,OO t.name]
mutual
theorem M9:∀ t u:T,Ds u t=-Ds t u
 | .mk k n s ks,.mk k' n' s' ks'=>by
  rw [Ds,Ds,vm,YW (.mk k n s ks)]
  congr 1
  exact Mh ks ks'
theorem Mh:∀ t u:List T,lD u t=-lD t u
 | [],[]=>by simp [lD]
 | [],_::_=>by simp [lD]
 | _::_,[]=>by simp [lD]
 | t::ts,u::us=>by rw [lD,lD,vm,M9 t u,Mh ts us]
end
theorem XU (t:T):Ds t t=0:=by
 have:=M9 t t;omega
def Sorted:List T->Prop
 | []=>True
 | x::xs=>(∀ y∈xs,Ds x y<0)/\Sorted xs
theorem Sorted.nodup:∀ {l:List T},Sorted l->l.Nodup
 | [],_=>IQ
 | x::xs,h=>by
  rw [N8];refine ⟨fun a=>?_,Sorted.nodup h.2⟩;have:=h.1 x a;rw [XU] at this;omega
end
section
open Go Go.RowKit
section
variable {P:Program} {w:World} {K:Value->World->Prop}
end
end
section
open Go Go.RowKit
theorem Inv.pubExt {w0 w:World} {X:List Nat} {A:List Item} {S:ae} {L:bz} (h:Inv w0 X (A++bE L) S w) :
  ∃ S',Inv w0 X A S' w/\Ext w0.heap.size X S S'/\Ins S' L:=by
 obtain ⟨S',g,i,j,l⟩:=h.publishAll L;refine ⟨S',g,⟨i,fun b o f=>?_⟩,j⟩;rcases l b o f with a|a
 ·exact .inl a
 ·right;exact h.new b (by rw [cI];exact im _ a)
theorem Inv.pub1 {w0 w:World} {X:List Nat} {A:List Item} {S:ae} {b:Nat} {o:Obj} (h:Inv w0 X (A++[.blk b o]) S w) :
  ∃ S',Inv w0 X A S' w/\Ext w0.heap.size X S S'/\S' b=some o:=by
 obtain ⟨S',a,f,g⟩:=Inv.pubExt (A:=A) (L:=[(b,o)]) h;exact ⟨S',a,f,g _ (cE.2 rfl)⟩
theorem Rows.monoR {α:Type} {k:Nat} {R R':hZ->α->Prop} {css:List (hZ)} {ys:List α} (h:Rows k R css ys) (hR:∀ cs y,R cs y->R' cs y):Rows k R' css ys:=⟨h.hc,h.hk,fun i a f=>hR _ _ (h.hR i a f)⟩
theorem Rows.one {α:Type} {k:Nat} {R:hZ->α->Prop} {cs:hZ} {y:α} (hR:R cs y) (hl:cs.length=k):Rows k R [cs] [y]:=by
 have:=(Rows.nil k R).snoc hR hl;exact this
section
variable {P:Program} {w w0:World} {X:List Nat} {L:List Item} {S:ae} {K:Value->World->Prop}
theorem Run.call0E {f:FuncId} {fn:Func} {args:hZ} {Post:Value->List Item->ae->Prop}
  (hf:P.funcs[f]?=some fn) (hn:(fn.name == "runtime.NumGoroutine" || fn.body.isNone)=false) (h:Inv w0 X L S w) (hc:Tri P f args [] S Post)
  (hk:∀ v I' S' w',Post v I' S'->Ext w0.heap.size X S S'->Inv w0 X (L++I') S' w'->K v w'):Run P (gX (.func (.func f) #[] #[]) args) w K:=by
 refine Run.callP hf hn ((hc w h.nil.begin).mono ?_);rintro e w' ⟨v,I',S',rfl,i,g,j⟩;refine hk v I' S' w' j ⟨g.1,fun b o l=>?_⟩ (Inv.step (A:=L) (B:=[]) (by simpa using h) i g.2);rcases g.2 b o l with a|a|a
 ·exact .inl a
 ·simp [bS] at a
 ·exact .inr (.inr (gM h.size a))
end
theorem Ext.trans {n:Nat} {Y:List Nat} {S S' S'':ae} (h:Ext n Y S S') (f:Ext n Y S' S''):Ext n Y S S'':=by
 refine ⟨h.1.trans f.1,fun b o g=>?_⟩;rcases f.2 b o g with a|a
 ·exact h.2 b o a
 ·exact .inr a
section
variable {P:Program} {w w0:World} {X:List Nat} {A I:List Item} {S:ae} {K:Value->World->Prop}
theorem Tg {f:FuncId} {args:hZ} {Post:Value->List Item->ae->Prop} (h:Inv w0 X (A++I) S w) (hc:Tri P f args I S Post) :
  Calls P f args.toArray w fun e w'=>∃ v I' S',e=.returned v/\Inv w0 X (A++I') S' w'/\Ext w0.heap.size X S S'/\Post v I' S':=by
 refine (hc w (h.sub (eR A I)).begin).mono ?_;rintro e w' ⟨v,I',S',rfl,i,g,j⟩;refine ⟨v,I',S',rfl,Inv.step h i g.2,⟨g.1,fun b o l=>?_⟩,j⟩;rcases g.2 b o l with a|a|a
 ·exact .inl a
 ·exact .inr (h.new b (by rw [cI];exact im _ a))
 ·exact .inr (.inr (gM h.size a))
theorem Run.callE {f:FuncId} {fn:Func} {args:hZ} {Post:Value->List Item->ae->Prop}
  (hf:P.funcs[f]?=some fn) (hn:(fn.name == "runtime.NumGoroutine" || fn.body.isNone)=false) (h:Inv w0 X (A++I) S w) (hc:Tri P f args I S Post)
  (hk:∀ v I' S' w',Post v I' S'->Ext w0.heap.size X S S'->Inv w0 X (A++I') S' w'->K v w'):Run P (gX (.func (.func f) #[] #[]) args) w K:=by
 refine Run.callP hf hn ((Tg h hc).mono ?_);rintro e w' ⟨v,I',S',rfl,a,g,i⟩;exact hk v I' S' w' i g a
theorem Run.callVE {f:FuncId} {fn:Func} {cap args:hZ} {Post:Value->List Item->ae->Prop}
  (hf:P.funcs[f]?=some fn) (hn:(fn.name == "runtime.NumGoroutine" || fn.body.isNone)=false) (h:Inv w0 X (A++I) S w) (hc:Tri P f (args++cap) I S Post)
  (hk:∀ v I' S' w',Post v I' S'->Ext w0.heap.size X S S'->Inv w0 X (A++I') S' w'->K v w'):Run P (gX (fv f cap) args) w K:=by
 unfold Run;rw [M5 hf hn];refine (Tg h hc).mono ?_;rintro e w' ⟨v,I',S',rfl,a,g,i⟩;exact hk v I' S' w' i g a
end
theorem Inv.lendExt {w0 w:World} {X:List Nat} {A:List Item} {S:ae} {v:Value} {e:TypeId} {k:Nat} {css:List (hZ)} (h:Inv w0 X (A++[aK v e k css]) S w) :
  ∃ S',Ext w0.heap.size X S S'/\RowRd S' v e k css.length css.flatten/\Inv w0 X A S' w:=by
 obtain ⟨hl,l⟩:=h.openRow;rcases l with ⟨rfl,r⟩|⟨g,cap,a,rfl,f,i,j,t,B⟩
 ·exact ⟨S,Ext.refl _ _ _,⟨hl,.inl ⟨rfl,r⟩⟩,h.sub (eh _ _)⟩
 ·obtain ⟨S',m,o,q⟩:=Inv.pub1 (A:=A) B;exact ⟨S',o,⟨hl,.inr ⟨g,cap,a,rfl,q,f,i,j,t⟩⟩,m⟩
end
section
open Go Go.RowKit
section
variable {P:Program} {w w0:World} {X:List Nat} {L:List Item} {S:ae} {K:Value->World->Prop}
end
end
section
open Go Go.RowKit

section
variable {P:Program} {w w0:World} {X:List Nat} {L:List Item} {S:ae} {K:Value->World->Prop}
theorem Run.callVPure {f:FuncId} {fn:Func} {cap args:hZ} {r:Value} (hf:P.funcs[f]?=some fn) (hn:(fn.name == "runtime.NumGoroutine" || fn.body.isNone)=false) (h:Inv w0 X L S w) (hc:Pure P f (args++cap) S r)
  (hk:∀ w',Inv w0 X L S w'->K r w'):Run P (gX (fv f cap) args) w K:=by
 refine Run.callV (A:=L) (I:=[]) hf hn (by simpa using h) (Post:=fun v I' S'=>v=r/\I'=[]/\S'=S) ?_ fun j I' S' w'=>?_
 ·intro g a;exact (hc g a).mono fun e w' ⟨i,a⟩=>⟨_,_,_,i,a,Ext.refl _ _ _,rfl,rfl,rfl⟩
 ·rintro ⟨rfl,rfl,rfl⟩ _ a;exact hk _ (by simpa using a)
end
end
section
open Go Go.RowKit
section
variable {P:Program} {w w0:World} {X:List Nat} {L:List Item} {S:ae} {K:Value->World->Prop}
end
end
section
open Go Go.RowKit
end
section
open Go Go.RowKit
section
variable {P:Program} {w:World} {K:Value->World->Prop}
end
end
section
open Go Go.RowKit
def V9:T:=.mk 0 0 ⟨#[]⟩ []
def stW (st:au):Prop:=∀ t,some t∈st->wT t<=1048576
theorem RdT.zero (S:ae):RdT S p7 V9:=RdT.iff.2 ⟨_,rfl,by simp [inI,T.kind,V9],by simp [inI,T.n,V9],by rw [V9,T.name]; decide +kernel,none,0,rfl,be _,bf _,.inl rfl⟩
def KRel (S:ae) (cs:List Value) (o:Option T):Prop:=cs.length=4/\(o=none->cs=p7)/\∀ t,o=some t->RdT S cs t
theorem KRel.one {S:ae} {cs:hZ} {o:Option T} (h:KRel S cs o):∀ u∈cs,u.oneCell'=true:=by
 cases o with
 | none=>rw [h.2.1 rfl];simp [p7,Value.oneCell']
 | some t=>exact (h.2.2 t rfl).one
theorem KnownC.rd {S:ae} {a kp:Nat} {f:Array Value} {st:au} {E:TypeId} (l:S a=some (.cells f E)) (h:KnownC S f st) (g:st.length=26) (m:26<=kp) (j:kp<=maxLen):RdSl S 4 (KRel S) (kvn a kp) st:=by
 refine ⟨some ⟨a,0,none⟩,kp,by rw [g],by omega,j,.inr ⟨a,0,f,E,(0,0),rfl,l,fun i o=>?_⟩⟩;obtain ⟨q,r⟩:=h.2 i o;rw [dr];refine ⟨?_,q,r⟩;have:=h.1;rw [aO,ey,nJ,SZ];omega
section
theorem KnownC.mono {S S':ae} {a:Array Value} {st:au} (h:KnownC S a st) (g:Sle S S'):KnownC S' a st:=
 ⟨h.1,fun i f=>⟨(h.2 i f).1,fun t j=>((h.2 i f).2 t j).mono g⟩⟩
end
end
section
open Go Go.RowKit
mutual
def Li (φ:Int->T):T->T
 | .mk k n s ks=>if k=1 then φ n else .mk k n s (CX φ ks)
def CX (φ:Int->T):List T->List T
 | []=>[]
 | t::ts=>Li φ t::CX φ ts
end
theorem xo (φ:Int->T):∀ ts:List T,CX φ ts=ts.map (Li φ)
 | []=>rfl
 | t::ts=>by rw [CX,xo φ ts];rfl
theorem Vr (φ:Int->T) (a:List T) (j:Nat) (h:j<a.length):CX φ (a.take (j+1))=CX φ (a.take j)++[Li φ a[j]]:=by
 rw [xo,xo,gh h,IY];rfl
def Fun (f:FuncId) (cap:List Value) (S:ae) (φ:Int->T):Prop:=∀ S',Sle S S'->∀ n:Int,0<=n->n<=25->∃ cs,RdT S' cs (φ n)/\Pure Tryz.prog f (ax n::cap) S' (.agg cs.toArray)
theorem Fun.mono {f:FuncId} {cap:hZ} {S S':ae} {φ:Int->T} (h:Fun f cap S φ) (a:Sle S S'):Fun f cap S' φ:=fun S2 g=>h S2 (a.trans g)
abbrev adg (t:T):Value->List Item->ae->Prop:=fun v I' S'=>I'=[]/\∃ cs,v=.agg cs.toArray/\RdT S' cs t
section
theorem Jz {f:FuncId} {fn:Func} (cap:hZ) (φ:Int->T) (hf:Tryz.prog.funcs[f]?=some fn) (hn:(fn.name == "runtime.NumGoroutine" || fn.body.isNone)=false) :
  ∀ (t:T) (S:ae) (cs:hZ),RdT S cs t->okV t->wT t<=1048576->Fun f cap S φ->kt vU [.agg cs.toArray,fv f cap] [] S (adg (Li φ t)):=by
 refine T.ind fun k n s ks ih S cs h hv hw hφ=>?_;intro w a;obtain ⟨kv,rfl,h1,h2,hs,a4⟩:=RdT.iff.1 h;simp only [T.name,T.kids,T.kind,T.n] at h1 h2 hs a4 ⊢;simp only [wT] at hw;rw [okV] at hv;have b9:=hv.2;apply ol.2;dsimp only[ol,bl];refine bq a fun J w' a=>?_;refine aG a aV fun b4 w' a=>?_;refine ad a 0 rfl aM aw rfl (bn ?_);rw [Li];refine aJ (fun a2=>?_) (fun a2=>?_)
 ·rw [ai a2];obtain ⟨b5,a7⟩:=hv.1 a2;apply ad a 0 rfl aQ aw rfl;obtain ⟨ds,a3,hp⟩:=hφ S (Sle.refl S) n b5 a7;refine Run.callVPure hf hn a hp fun w' a=>?_;refine aq a 1 rfl ac (by simpa using a3.length) rfl (by simpa using a3.one) fun w' a=>?_;refine bm a 1 ac rfl (by simpa using a3.length) ?_;exact ⟨_,_,_,rfl,a.pick [false,false],Ext.refl _ _ _,rfl,ds,rfl,a3⟩
 rw [af a2];refine ad a 0 rfl ao aj rfl ?_;refine cX a 0 rfl ao aj rfl rfl rfl fun w' a=>?_;refine aI a4 ag ?_;have a:Inv w [] [ay b4 bb ab,ay J #[ax k,ax n,.string s,hV] ab] S w':=a.perm (List.Perm.swap _ _ _);have a:=a.rowNil ab 4;refine ⟨fun i w'=>∃ (j:Nat) (l:Value) (css:List (hZ)) (S1:ae),j<=ks.length/\i=ax j/\Ext w.heap.size [] S S1/\Rows 4 (RdT S1) css (CX φ (ks.take j))/\
   Inv w [] [ay b4 bb ab,ay J #[ax k,ax n,.string s,l] ab,aK l ab 4 css] S1 w',
  fun i _=>ks.length - (intOf i).toNat,⟨0,_,[],S,bf _,rfl,Ext.refl _ _ _,Rows.nil _ _,a⟩,?_⟩
 intro c4 _ _ _ _ _ _ _ _ _ _ _ _ _ w';rintro ⟨j,l,css,S1,hj,rfl,hE,hg,a⟩;refine bM (aJ (fun b3=>?_) (fun b3=>?_))
 ·have a0:j<ks.length:=by omega
  have c5:(ks.take j).length=j:=by simp;omega
  have c0:=hg.hc;rw [xo,nN] at c0;have hm:=bJ a0;have c6:=lf hm;refine cL a (a4.monoT hE.1) ag ac a0 (fun _ _=>RdT.length) fun N V=>?_;refine aG a aV fun b7 w' a=>?_;have a:=a.perm (M:=.blk b7 _::[ay b4 bb ab,ay J #[ax k,ax n,.string s,l] ab,aK l ab 4 css]) (cT (l₁:=[_]));refine aq a 0 rfl ac (by simpa using V.length) rfl (by simpa using V.one) fun w' a=>?_;refine ⟨fun D kY U lO jW pp oR iU pj w_=>Fx D 0 [pj=eu J 3,iU=l,oR=.agg N.toArray,pp=fv f cap,True,True,True,kY=eu J 3,True]/\∃ SN g G,Ext w.heap.size [] S1 SN/\(D 4=true->jW=.agg g.toArray/\RdT SN g (Li φ ks[j]))/\(D 5=true->lO=eF G 0 1 1)/\(D 5=true->D 4=true)/\(D 6=true->D 5=true)/\(D 8=true->D 6=true)/\(D 8=true->D 1=true)/\Inv w [] (bj (ay b7 N.toArray ab) (ay b4 bb ab) (ay J #[ax k,ax n,.string s,l] ab) (ay J #[ax k,ax n,.string s,U] ab) (aK l ab 4 css) (aK U ab 4 (css++[g])) [] [] (ay G g.toArray ab) false (D 5) (D 6) (D 8)) SN w_,⟨Fx.nil _ _,⟨S1,[],0,Ext.refl _ _ _,aU,aU,aU,aU,aU,aU,by simpa [bj] using a.draw⟩⟩,⟨?_,?_,?_,?_,?_,?_,?_,?_,?_,trivial⟩,?_⟩;all_goals (intro D bw;intros;rename_i kY U lO jW pp oR iU pj w_ a6;have r:=a6.1;obtain ⟨⟨co,cn,bP,cj,cA,bQ,bO,cM,de,_⟩,⟨SN,g,G,O,Y,e8,k8,Z,q,k1,a⟩⟩:=a6)
  apply ah ao;rotate_left
  obtain rfl:=co ‹_›;have B:D 8=false:=bN.2 fun h=>by rw [k1 h] at bw;cases bw
  refine aD (b:=J) a 2 (c:=(#[ax k,ax n,.string s,l])) aj (by rw [B];rfl) rfl ?_;have k1:=fun (_:aC D 1 8=true)=>(rfl:aC D 1 1=true)
  rotate_left;refine av a 0 ac rfl (by simpa using V.length) ?_;rotate_left;rotate_left
  obtain rfl:=bP ‹_›;obtain rfl:=cj ‹_›;have f8:D 5=false:=bN.2 fun h=>by rw [k8 h] at bw;cases bw
  have f9:D 6=false:=bN.2 fun h=>by rw [Z h] at f8;cases f8
  have B:D 8=false:=bN.2 fun h=>by rw [q h] at f9;cases f9
  rw [f8,f9,B] at a;refine Run.callE (I:=[]) lu lJ (by simpa using a) (ih _ (bJ a0) SN N (V.mono O.1) (pC b9 _ (bJ a0)) (by omega) ((hφ.mono hE.1).mono O.1)) fun v' I' SN w_=>?_;rintro ⟨rfl,g,rfl,hT⟩ a1 a;have O:=O.trans a1;have Y:aC D 4 4=true->Value.agg g.toArray=Value.agg g.toArray/\RdT SN g (Li φ ks[j]):=fun _=>⟨rfl,hT⟩
  have k8:=fun (_:aC D 4 5=true)=>(rfl:aC D 4 4=true)
  have a:Inv w [] (bj (ay b7 N.toArray ab) (ay b4 bb ab) (ay J #[ax k,ax n,.string s,l] ab) (ay J #[ax k,ax n,.string s,U] ab) (aK l ab 4 css) (aK U ab 4 (css++[g])) [] [] (ay G g.toArray ab) false (D 5) (D 6) (D 8)) SN w_:=by
   rw [f8,f9,B];simpa [bj] using a
  rotate_left;have Ot:=cA ‹_›;have f9:D 6=false:=bN.2 fun h=>by rw [Z h] at bw;cases bw
  have B:D 8=false:=bN.2 fun h=>by rw [q h] at f9;cases f9
  obtain ⟨q7,hT⟩:=Y ‹D 4=true›;subst q7;rw [bw,f9,B] at a;refine dQ a bx (by simp [Value.cells,hT.length]) (by omega) (by omega) fun G w_ a=>?_;have Y:aC D 5 4=true->Value.agg g.toArray=Value.agg g.toArray/\RdT SN g (Li φ ks[j]):=fun _=>⟨rfl,hT⟩
  have e8:=fun (_:aC D 5 5=true)=>(rfl:Value.slice (some ⟨G,0,none⟩) 1 1=_)
  have k8:=fun (_:aC D 5 5=true)=>‹D 4=true›;have Z:=fun (_:aC D 5 6=true)=>(rfl:aC D 5 5=true)
  have a:Inv w [] (bj (ay b7 N.toArray ab) (ay b4 bb ab) (ay J #[ax k,ax n,.string s,l] ab) (ay J #[ax k,ax n,.string s,U] ab) (aK l ab 4 css) (aK U ab 4 (css++[g])) [] [] (ay G g.toArray ab) false true (D 6) (D 8)) SN w_:=by
   rw [f9,B];simpa [bj,Value.cells] using a
  rotate_left;obtain rfl:=cn ‹_›;have PS:=bQ ‹_›;have B:D 8=false:=bN.2 fun h=>by rw [q h] at bw;cases bw
  have q8:=e8 ‹D 5=true›;subst q8;obtain ⟨_,hT⟩:=Y ‹D 4=true›;rw [‹D 5=true›,bw,B] at a;have a9:((bj (ay b7 N.toArray ab) (ay b4 bb ab) (ay J #[ax k,ax n,.string s,iU] ab) (ay J #[ax k,ax n,.string s,U] ab) (aK iU ab 4 css) (aK U ab 4 (css++[g])) [] [] (ay G g.toArray ab) false true false false))[4]?=some (ay G g.toArray ab):=rfl;refine eT a 3 g bx (by omega) rfl (by rw [hT.length]) (m:=1) (o:=0) ?_ hT.one (by omega) (by omega) fun v' w_ a=>?_
  ·intro i u hi;rw [a.cellL a9,dr];simpa using hi
  rw [fU] at a;have Z:=fun (_:aC D 6 6=true)=>‹D 5=true›;have q:=fun (_:aC D 6 8=true)=>(rfl:aC D 6 6=true)
  have a:Inv w [] (bj (ay b7 N.toArray ab) (ay b4 bb ab) (ay J #[ax k,ax n,.string s,iU] ab) (ay J #[ax k,ax n,.string s,v'] ab) (aK iU ab 4 css) (aK v' ab 4 (css++[g])) [] [] (ay G g.toArray ab) false (D 5) true (D 8)) SN w_:=by
   rw [‹D 5=true›,B];exact a
  rotate_left;apply ah ao;rotate_left
  obtain rfl:=cM ‹_›;have Ky:=bO ‹_›;rw [‹D 5=true›,‹D 6=true›,bw] at a;obtain ⟨va,vn,vc,a5⟩:=Inv.rowSlice a 3 rfl;refine dD a 2 (n:=1) (by rw [a5];rfl) (by decide +kernel) rfl (by simp) (by rw [a5];simp [Value.cells,Value.oneCell']) fun w_ a=>?_;have b0:Value.cells U=#[U]:=by rw [a5];rfl
  rw [b0] at a;have k1:=fun (_:aC D 8 8=true)=>‹D 1=true›;have q:=fun (_:aC D 8 8=true)=>‹D 6=true›;have a:Inv w [] (bj (ay b7 N.toArray ab) (ay b4 bb ab) (ay J #[ax k,ax n,.string s,l] ab) (ay J #[ax k,ax n,.string s,U] ab) (aK l ab 4 css) (aK U ab 4 (css++[g])) [] [] (ay G g.toArray ab) false (D 5) (D 6) true) SN w_:=by
   rw [‹D 5=true›,‹D 6=true›];exact a
  rotate_left
  all_goals try exact ⟨r.set _ (by first|rfl|assumption|trivial),SN,g,G,O,Y,e8,k8,Z,q,k1,a⟩
  obtain ⟨rfl,rfl,rfl,rfl,Ot,PS,Ky,rfl,_,_⟩:=r.all;have c1:D 4=true:=by assumption
  have c2:D 5=true:=by assumption
  have XC:D 6=true:=by assumption
  have Dc:D 8=true:=by assumption
  clear r;obtain ⟨_,hT⟩:=Y c1;rw [c2,XC,Dc] at a;refine bA (by omega) ?_;refine ⟨⟨j+1,U,css++[g],SN,a0,rfl,hE.trans O,?_,?_⟩,by simp [intOf];omega⟩
  ·rw [Vr φ ks j a0];exact (Rows.monoR hg fun _ _ h=>h.mono O.1).snoc hT hT.length
  ·apply a.sub;simp only [bj];exact ((((JV _).cons_cons _).cons_cons _).cons_cons _).cons _
 ·have:j=ks.length:=by omega
  subst this;rw [fM] at hg;obtain ⟨va,vn,vc,a8⟩:=a.rowSlice 2 rfl;have c3:l.oneCell'=true:=by rw [a8];rfl
  refine av a 1 ac rfl rfl (aq a 0 rfl ac rfl rfl ?_ fun w' a=>?_)
  ·intro u hu;have b1:u∈([ax k,ax n,.string s,l]:hZ):=hu;simp at b1;rcases b1 with rfl|rfl|rfl|rfl <;> first|rfl|exact c3
  apply bm a 0 ac rfl rfl;have a:Inv w [] ([]++[aK l ab 4 css]) S1 w':=a.sub (eR [_,_] _);obtain ⟨S2,a1,b6,a⟩:=a.lendExt;exact ⟨_,_,_,rfl,a,hE.trans a1,rfl,_,rfl,RdT.iff.2 ⟨l,rfl,h1,h2,hs,(RowRd.rows hg b6).mono (Sle.refl _) fun _ _ h=>h.mono a1.1⟩⟩
end
end
end Go.Proofs.YtellfcpffcipcaaGreatDoor
