/- Matching with a map: impl.instance. -/
import Derived.Test.YtellfcpffcipcaaGreatDoorZCkA
import Derived.Test.YtellfcpffcipcaaGreatDoorZCk4
namespace Go.Proofs.YtellfcpffcipcaaGreatDoor
attribute [local irreducible] Run CondV aF aT
section
open Go Go.RowKit

def KnownM (S:ae) (es:Array MapEntry) (st:au):Prop:=
 (∀ e∈es.toList,∃ (n:Nat) (t:T) (cs:List Value),e.key=ax n/\e.val=.agg cs.toArray/\RdT S cs t/\st[n]?=some (some t))/\(∀ (n:Nat) (t:T),st[n]?=some (some t)->∃ e∈es.toList,e.key=ax n)/\(es.toList.map (·.key)).Nodup
theorem KnownM.find {S:ae} {g:Array MapEntry} {st:au} (h:KnownM S g st) (n:Nat) :
  (∃ j v t cs,Instr.findNow (.int .i64) (ax n) g.toList 0=some (some (j,v))/\v=.agg cs.toArray/\RdT S cs t/\st[n]?=some (some t)) ∨
  ((∀ t,st[n]?≠some (some t))/\Instr.findNow (.int .i64) (ax n) g.toList 0=some none):=by
 rcases uN (n:=n) g.toList 0 (fun e f=>by obtain ⟨m,_,_,hk,_⟩:=h.1 e f;exact ⟨m,hk⟩) with ⟨j,e,f,hk,hf⟩|⟨hk,hf⟩
 ·obtain ⟨m,t,cs,a,l,hR,o⟩:=h.1 e f;rw [hk] at a;simp only [Value.int.injEq,vH] at a;have:n=m:=by omega
  subst this;exact .inl ⟨j,e.val,t,cs,hf,l,hR,o⟩
 ·refine .inr ⟨fun t i=>?_,hf⟩;obtain ⟨e,f,a⟩:=h.2.1 n t i;exact hk e f a
theorem KnownM.push {S:ae} {o:Array MapEntry} {st:au} (h:KnownM S o st) {n:Nat} (hn:n<st.length) (g:∀ t,st[n]?≠some (some t)) {cs:hZ} {u:T} (B:RdT S cs u) (ck:Nat) :
  KnownM S (o.push { key:=ax n,val:=.agg cs.toArray,born:=ck }) (st.set n (some u)):=by
 refine ⟨fun e f=>?_,fun m t q=>?_,?_⟩
 ·rw [Y2] at f;rcases ci.1 f with f|f
  ·obtain ⟨m,t,i,hk,G,hR,j⟩:=h.1 e f;refine ⟨m,t,i,hk,G,hR,?_⟩;have:n≠m:=fun e=>g t (by rw [e];exact j);rw [C8 this];exact j
  ·simp at f;subst f;exact ⟨n,u,cs,rfl,rfl,B,by rw [QP hn]⟩
 ·rw [Y2];by_cases e:n=m
  ·exact ⟨_,im _ (cE.2 rfl),by rw [e]⟩
  ·rw [C8 e] at q;obtain ⟨x,l,hk⟩:=h.2.1 m t q;exact ⟨x,dO _ l,hk⟩
 ·rw [Y2,IY,qF];refine ⟨h.2.2,by simp,fun a D b r e=>?_⟩;simp only [qD,List.map_nil,cE] at r;subst r;obtain ⟨x,l,rfl⟩:=eV.1 D;obtain ⟨m,t,i,hk,_,_,j⟩:=h.1 x l;rw [hk] at e;simp only [Value.int.injEq,vH] at e;have:m=n:=by omega
  subst this;exact g t j
theorem LT (t u:T):kK t u=kK u t:=by
 rw [kK,kK,qt];simp only [aZ,bt];constructor
 ·rintro ⟨a,b,c,d⟩;exact ⟨a.symm,b.symm,c.symm,d.symm⟩
 ·rintro ⟨a,b,c,d⟩;exact ⟨a.symm,b.symm,c.symm,d.symm⟩
section
theorem pd:∀ (t u:T) (S:ae) (cs ds:hZ) (mb ck:Nat) (es:Array MapEntry) (st:au),RdT S cs t->RdT S ds u->okV t->okK u->C3 st->KnownM S es st->
  kt OS [.agg ds.toArray,.agg cs.toArray,.map (some mb)] [.blk mb (.map es ck)] S fun r I' S'=>S'=S/\r=.bool (cN t u st).1/\∃ O Y,I'=[.blk mb (.map O Y)]/\KnownM S O (cN t u st).2:=by
 refine T.ind fun k' n' s' f ih u S cs ds mb ck es st h' h hv hu b8 a5=>?_;intro w a;have c5:=h;obtain ⟨b3,rfl,_,_,_,a0⟩:=RdT.iff.1 h';obtain ⟨kv,rfl,_,_,_,b4⟩:=RdT.iff.1 h;obtain ⟨k,n,s,J⟩:=u;simp only [T.name,T.kids,T.kind,T.n] at b4 a0 ⊢;have c6:=a0.le;simp only [maxLen] at c6;rw [okV] at hv;obtain ⟨d3,d4⟩:=hv;have e9:=hu;rw [okK] at hu;obtain ⟨X,hX⟩:∃ X,X=bS [Item.blk mb (.map es ck)]:=⟨_,rfl⟩
 rw [<- hX] at a ⊢;refine yJ.2 ?_;dsimp only[yJ,dR];refine bq a fun b1 w' a=>?_;refine bq a fun b2 w' a=>?_;have a:Inv w X [ay b1 #[ax k,ax n,.string s,kv] ab,ay b2 #[ax k',ax n',.string s',b3] ab,.blk mb (.map es ck)] S w':=a.perm (by
  refine (cT (l₁:=[_,_]) (l₂:=[_])).trans ?_;exact List.Perm.refl _)
 refine ad a 1 rfl aM aw rfl (bn (aJ (fun a3=>?_) (fun a3=>?_)))
 ·obtain ⟨e6,e4⟩:=d3 a3;obtain ⟨j,rfl⟩:∃ j:Nat,n'=j:=⟨n'.toNat,by omega⟩
  have hj:j<26:=by omega
  have b5:j<st.length:=by rw [b8.1];exact hj
  apply ad a 1 rfl aQ aw rfl;rcases a5.find j with ⟨q,v,t0,e0,hf,rfl,hR,d0⟩|⟨d1,hf⟩
  ·refine QK (v:=.agg e0.toArray) (ok:=true) a 2 fu gO aV rfl (.inl ⟨q,hf,rfl⟩) (al rfl (al rfl ?_));have c7:=hR.length;refine aG a aV fun b7 w' a=>?_;refine aq a 3 rfl ac (by simpa using c7) rfl (by simpa using hR.one) fun w' a=>?_;refine cq (aE (fun hb=>by cases hb) (fun _=>?_));refine av a 3 ac rfl (by simpa using c7) (av a 0 ac rfl rfl (Run.callPure qK qP a (rD t0 _ S _ _ hR c5) fun w' a=>?_));have hm:cN (.mk k' j s' f) (.mk k n s J) st=(eqT t0 (.mk k n s J),st):=by
    rw [cN,ai a3,dq,d0]
   rw [hm];exact ⟨_,_,_,rfl,a.pick [false,false,true,false],Ext.refl _ _ _,rfl,rfl,_,_,rfl,a5⟩
  ·refine QK (ok:=false) a 2 fu gO aV rfl (.inr ⟨hf,rfl,rfl⟩) (al rfl (al rfl (aG a aV fun b7 w' a=>?_)));refine aq a 3 rfl ac rfl rfl (by simp [Value.oneCell']) fun w' a=>?_;refine cq (aE (fun _=>?_) (fun hb=>by cases hb));refine ad a 1 rfl aQ aw rfl (av a 0 ac rfl rfl (Km a 2 fu gO rfl hf fun w' a=>?_));have hm:cN (.mk k' j s' f) (.mk k n s J) st=(true,st.set j (some (.mk k n s J))):=by
    rw [cN,ai a3,dq,gd b5];cases hq:st[j] with
    | none=>rfl
    | some t=>exact absurd (by rw [gd b5,hq]) (d1 t)
   rw [hm];exact ⟨_,_,_,rfl,a.pick [false,false,true,false],Ext.refl _ _ _,rfl,rfl,_,_,rfl,a5.push b5 d1 c5 ck⟩
 refine ⟨fun q w'=>q=.bool (!kK (.mk k n s J) (.mk k' n' s' f))/\Inv w X [ay b1 #[ax k,ax n,.string s,kv] ab,ay b2 #[ax k',ax n',.string s',b3] ab,.blk mb (.map es ck)] S w',?_,?_⟩
 ·refine ad a 0 rfl aM aw rfl (ad a 1 rfl aM aw rfl (dw ?_));by_cases e1:k=k'
  ·rw [aL e1];refine rpG ?_;refine ad a 0 rfl aQ aw rfl (ad a 1 rfl aQ aw rfl (dw ?_));by_cases e2:n=n'
   ·rw [aL e2];refine rpG ?_;refine ad a 0 rfl aW aP rfl (ad a 1 rfl aW aP rfl (Ea ?_));by_cases e3:s=s'
    ·rw [aL e3];refine rpG ?_;refine ad a 0 rfl ao aj rfl (aI b4 ag (ad a 1 rfl ao aj rfl (aI a0 ag (dw ?_))));refine rpG ?_;exact ⟨by rw [eM,aL e1,aL e2,aL e3,R6];rfl,a⟩
    ·rw [aS e3];refine rpG ?_;exact ⟨by rw [eM,aL e1,aL e2,aS e3];rfl,a⟩
   ·rw [aS e2];refine rpG ?_;exact ⟨by rw [eM,aL e1,aS e2];rfl,a⟩
  ·rw [aS e1];refine rpG ?_;exact ⟨by rw [eM,aS e1];rfl,a⟩

 intro q;(iterate 27 intro);intro w';rintro ⟨rfl,a⟩;cases hd:kK (.mk k n s J) (.mk k' n' s' f)
 ·refine aE (fun _=>?_) (fun hb=>by cases hb);have hm:cN (.mk k' n' s' f) (.mk k n s J) st=(false,st):=by rw [cN,af a3,af (by rw [LT,hd];decide)]
  rw [hm];exact ⟨_,_,_,rfl,a.pick [false,false,true],Ext.refl _ _ _,rfl,rfl,_,_,rfl,a5⟩
 refine aE (fun hb=>by cases hb) (fun _=>?_);have d9:J.length=f.length:=by
  rw [eM] at hd;simp only [aZ,bt] at hd;exact hd.2.2.2
 have hm:cN (.mk k' n' s' f) (.mk k n s J) st=gx f J st:=by rw [cN,af a3,ai (by rw [LT,hd])];rfl
 rw [hm];have c8:=hu.2;refine ad a 1 rfl ao aj rfl (aI a0 ag ?_);refine ⟨fun i w'=>∃ (j:Nat) (V:au) (O:Array MapEntry) (Y:Nat),j<=f.length/\i=ax j/\gx (f.drop j) (J.drop j) V=gx f J st/\C3 V/\KnownM S O V/\Inv w X [ay b1 #[ax k,ax n,.string s,kv] ab,ay b2 #[ax k',ax n',.string s',b3] ab,.blk mb (.map O Y)] S w',fun i _=>f.length - (intOf i).toNat,⟨0,st,es,ck,bf _,rfl,rfl,b8,a5,a⟩,?_⟩;intro e5;(iterate 18 intro);intro w';rintro ⟨j,V,O,Y,hj,rfl,G,a9,b0,a⟩;refine bM (aJ (fun d2=>?_) (fun d2=>?_))
 ·have a4:j<f.length:=by omega
  have a6:j<J.length:=by omega
  obtain ⟨c1,o1,M,a1,E1,e7,rfl,d6,c3⟩:=b4.at_ a6;obtain ⟨c2,o2,N,a2,E2,e8,rfl,d7,c4⟩:=a0.at_ a4;rw [EP f J V j a4 a6] at G;have a7:=ih _ (bJ a4) J[j] S _ _ mb Y O V c4 c3 (pC d4 _ (bJ a4)) (wR c8 _ (bJ a6)) a9 b0;have c9:=np f[j] J[j] V a9 (wR c8 _ (bJ a6));generalize hr:cN f[j] J[j] V=r at G a7 c9;refine ⟨fun D Eg D5 Fw EV FF DD Hm Sd YD X9 MQ Me z5 w_=>Fx D 0 [z5=eu b1 3,Me=eF c1 o1 J.length M,MQ=ax j,X9=eu c1 (o1+j * 4),YD=.agg (aO a1 (o1+j * 4) 4).toArray,Sd=eu b2 3,Hm=eF c2 o2 f.length N,DD=ax j,FF=eu c2 (o2+j * 4),EV=.agg (aO a2 (o2+j * 4) 4).toArray,Fw=.map (some mb),D5=.bool r.1,Eg=.bool (!r.1)]/\(D 11=false->Inv w X [ay b1 #[ax k,ax n,.string s,eF c1 o1 J.length M] ab,ay b2 #[ax k',ax n',.string s',eF c2 o2 f.length N] ab,.blk mb (.map O Y)] S w_)/\(D 11=true->∃ U Z,KnownM S U r.2/\Inv w X [ay b1 #[ax k,ax n,.string s,eF c1 o1 J.length M] ab,ay b2 #[ax k',ax n',.string s',eF c2 o2 f.length N] ab,.blk mb (.map U Z)] S w_)/\∃ g l,Inv w X [ay b1 #[ax k,ax n,.string s,eF c1 o1 J.length M] ab,ay b2 #[ax k',ax n',.string s',eF c2 o2 f.length N] ab,.blk mb (.map g l)] S w_,⟨Fx.nil _ _,⟨fun _=>a.draw,aU,O,Y,a.draw⟩⟩,⟨?_,?_,?_,?_,?_,?_,?_,?_,?_,?_,?_,?_,?_,trivial⟩,?_⟩;all_goals (intro D bw;intros;rename_i Eg D5 Fw EV FF DD Hm Sd YD X9 MQ Me z5 w_ b6;have B:=b6.1;obtain ⟨⟨co,cn,bP,cj,cA,bQ,bO,cM,de,dv,bU,cC,cY,_⟩,⟨m,o,g,l,a⟩⟩:=b6)
  apply ah ao;rotate_left
  obtain rfl:=co ‹_›;apply aD a 0 aj rfl rfl;rotate_left;rotate_left
  obtain rfl:=cn ‹_›;obtain rfl:=bP ‹_›;apply az ag a6;rotate_left
  obtain rfl:=cj ‹_›;refine bV ac c3.length (fun j v hj=>by rw [a.cellS d6];exact aA rfl j v hj) ?_;rotate_left
  apply ah ao;rotate_left
  obtain rfl:=bQ ‹_›;apply aD a 1 aj rfl rfl;rotate_left;rotate_left
  obtain rfl:=bO ‹_›;obtain rfl:=cM ‹_›;apply az ag a4;rotate_left
  obtain rfl:=de ‹_›;refine bV ac c4.length (fun j v hj=>by rw [a.cellS d7];exact aA rfl j v hj) ?_;rotate_left;rotate_left
  obtain rfl:=cA ‹_›;obtain rfl:=dv ‹_›;obtain rfl:=bU ‹_›;refine Run.call (A:=[_,_]) mH mB (m bw) a7 fun v' I' S w_=>?_;rintro ⟨rfl,rfl,U,Z,rfl,a8⟩ _ a;have m:=fun (h:aC D 11 11=false)=>(Bool.noConfusion h:Inv w X [ay b1 #[ax k,ax n,.string s,eF c1 o1 J.length M] ab,ay b2 #[ax k',ax n',.string s',eF c2 o2 f.length N] ab,.blk mb (.map O Y)] S w_)
  have o:=fun (_:aC D 11 11=true)=>(⟨U,Z,a8,a⟩:∃ U Z,KnownM S U r.2/\Inv w X [ay b1 #[ax k,ax n,.string s,eF c1 o1 J.length M] ab,ay b2 #[ax k',ax n',.string s',eF c2 o2 f.length N] ab,.blk mb (.map U Z)] S w_)
  obtain ⟨g,l,a⟩:∃ g l,Inv w X [ay b1 #[ax k,ax n,.string s,eF c1 o1 J.length M] ab,ay b2 #[ax k',ax n',.string s',eF c2 o2 f.length N] ab,.blk mb (.map g l)] S w_:=⟨U,Z,a⟩
  rotate_left;obtain rfl:=cC ‹_›;apply cq;rotate_left
  all_goals try exact ⟨B.set _ (by first|rfl|assumption|trivial),m,o,g,l,a⟩
  obtain ⟨rfl,rfl,rfl,rfl,rfl,rfl,rfl,rfl,rfl,rfl,rfl,rfl,rfl,_⟩:=B.all;have nH:D 11=true:=by assumption
  clear B;obtain ⟨U,Z,a8,a⟩:=o nH;clear m o;refine aE (fun b9=>?_) (fun c0=>?_)
  ·simp only [lg] at b9;rw [b9,af (by decide)] at G;rw [<- G];exact ⟨_,_,_,rfl,a.pick [false,false,true],Ext.refl _ _ _,rfl,rfl,_,_,rfl,a8⟩
  ·simp only [rW] at c0;rw [c0,ai rfl] at G;refine bA (by omega) ?_;exact ⟨⟨j+1,r.2,U,Z,a4,rfl,G,c9,a8,a⟩,by simp [intOf];omega⟩
 ·have:j=f.length:=by omega
  subst this;rw [dY,<- d9,dY] at G;rw [<- G];exact ⟨_,_,_,rfl,a.pick [false,false,true],Ext.refl _ _ _,rfl,rfl,_,_,rfl,b0⟩
end
end
section
open Go Go.RowKit
section
variable {P:Program} {w w0:World} {X:List Nat} {L:List Item} {S:ae} {K:Value->World->Prop}
end
end
section
open Go Go.RowKit

def st0:au:=List.replicate 26 none
theorem Om:C3 st0:=⟨by simp [st0],fun t a=>by simp [st0] at a⟩
theorem KnownM.empty (S:ae):KnownM S #[] st0:=by
 refine ⟨by simp,fun n t a=>?_,by simp⟩;rw [st0,Qc] at a;split at a <;> cases a
theorem Hj:∀ {ts:List T},(∀ t∈ts,okV t)->n6 ts
 | [],_=>by simp [n6]
 | t::ts,h=>by rw [n6];exact ⟨h t (bi ..),Hj fun u a=>h u (bk _ a)⟩
theorem O0:∀ {ts:List T},(∀ t∈ts,okK t)->Cq ts
 | [],_=>by simp [Cq]
 | t::ts,h=>by rw [Cq];exact ⟨h t (bi ..),O0 fun u a=>h u (bk _ a)⟩
theorem xd {c:C} (h:cz c=true):(okV c.head/\okK c.head)/\n6 c.body/\Cq c.body:=by
 rw [cz] at h;simp only [aZ,eX] at h;obtain ⟨_,g,i,_⟩:=h;have f:∀ t∈c.body,okV t/\okK t:=fun t a=>by
  have:=g t a;rw [fi,aZ] at this;exact lC this.1
 exact ⟨lC i,Hj fun t a=>(f t a).1,O0 fun t a=>(f t a).2⟩
theorem aaq (z:Array Value) (f:z=bb) (S:ae):KnownC S ((Array.range 104).map (z[· % z.size]!)) st0:=by
 subst f;refine ⟨by simp,fun i g=>⟨fun _=>?_,fun t a=>?_⟩⟩
 ·simp only [st0,E0] at g;apply ya;intro j;rw [aO,ym]
  match j with
  | 0|1|2|3=>
   rw [ai (by omega),AW,acP,Array.getElem?_map,Array.getElem?_range,ai (by omega)];simp only [zH,VN,bI,cB];first
    | rw [show (i * 4+0) % 4=0 by omega];rfl
    | rw [show (i * 4+1) % 4=1 by omega];rfl
    | rw [show (i * 4+2) % 4=2 by omega];rfl
    | rw [show (i * 4+3) % 4=3 by omega];rfl
  | j+4=>
   rw [af (by omega)];rfl
 ·have e:st0[i]=none:=by simp only [st0,YR]
  rw [e] at a;cases a
section
variable {P:Program} {w w0:World} {X:List Nat} {L:List Item} {S:ae} {K:Value->World->Prop}
theorem sO (h:Inv w0 X L S w) {T ty e:TypeId} {k by_ n:Nat} {z:Value} (j:iP P T=some (e,k,by_,z)) (hn:n<=4294967296) (a:by_<=65536) (f:n * k≠0)
  (hk:∀ b w',Inv w0 X (L++[ay b ((Array.range (n * k)).map (z.cells[· % z.cells.size]!)) e]) S w'->K (eF b 0 n n) w') :
  Run P (sOp (.makeSlice T (.const (ax n)) (.const (ax n))) ty) w K:=by
 obtain ⟨l,i,m,o,q,r,t⟩:=oy j;have B:IntKind.i64.wrap (n:Int)=n:=IntWalk.i64_in _ (by omega);have g:by_ * n<=2 ^ 48:=gM (DY a hn) (by decide);have D:¬ ((n:Int)<0):=by omega
 have G:¬ (281474976710656<(i.bytes:Int) * (n:Int)):=by
  rw [r];have:((by_ * n:Nat):Int)<=((2 ^ 48:Nat):Int):=by exact_mod_cast g
  have e:(((2 ^ 48:Nat)):Int)=281474976710656:=by decide
  rw [e,Int.natCast_mul] at this;omega
 refine Run.of (v:=.slice (some ⟨w.heap.size,0,none⟩) n n) (w':={ w with heap:=w.heap.push (.cells ((Array.range (n * k)).map (z.cells[· % z.cells.size]!)) e) }) ?_ (hk _ _ (h.alloc _));simp [sOp,execOp,ev0,evE,Instr.makeSlice,run_underlying l,asInt,asIntOf,typeInfo,m,B,D,G,sizeOf,q,newRow,newObj,Sem.run,f,zeroValue,o]
end
end
section
open Go Go.RowKit

def abQ (y:T):Prop:=fp y=true/\y.kids=[]/\y.kind≠1
def Fct (x:T):Prop:=x.kind=3/\fp x=true/\∀ y∈x.kids,abQ y
def Gl (g:T):Prop:=g.kind=3/\fp g=true/\∀ y∈g.kids,fp y=true/\y.kids=[]
def StF (st:au):Prop:=st.length=26/\∀ t,some t∈st->abQ t
def bnd (st:au) (n:Int):Prop:=∃ t,st[n.toNat]?=some (some t)
theorem VB {s:ByteArray} (h:nR s=true):s.size<=6:=by
 rw [nR,jI] at h;rcases h with h|h
 ·rw [o5] at h;simp only [aZ,bt] at h;exact h.2.2
 ·simp only [ET,bt] at h;obtain ⟨x,a,rfl⟩:=h;have:∀ y∈signs,y.size<=6:=by decide +kernel
  exact this x a
theorem ME {t:T} (h:fp t=true):t.name.size<=6/\t.kids.length<=4:=by
 unfold fp at h;have f:emptyB.size=0:=by decide +kernel
 by_cases e1:t.kind=1
 ·rw [ai e1] at h;simp only [aZ,bt] at h;rw [h.2.2.1];omega
 ·rw [af e1] at h;by_cases e2:t.kind=2
  ·rw [ai e2] at h;simp only [aZ,bt] at h;rw [h.2.2.1];omega
  ·rw [af e2] at h;by_cases a:t.kind=3
   ·rw [ai a] at h;simp only [aZ,bt] at h;exact ⟨VB h.2.1,h.2.2⟩
   ·rw [af a] at h;cases h
theorem Z1 (t:T):wT t=t.name.size+t.kids.length+wL t.kids:=by cases t; rw [wT]; rfl
theorem VW (t:T):okV t↔(t.kind=1->0<=t.n/\t.n<=25)/\n6 t.kids:=by cases t; rw [okV]; rfl
theorem WE (t:T):okK t↔t.kind≠0/\Cq t.kids:=by cases t; rw [okK]; rfl
theorem WF (t:T):okO t↔(((t.kind=1 ∨ t.kind=2)/\t.name=emptyB/\t.kids=[]) ∨ (t.kind=3/\t.n=0))/\U1 t.kids:=by cases t; rw [okO]; rfl
theorem VX:∀ {ts:List T},(∀ t∈ts,okO t)->U1 ts
 | [],_=>by simp [U1]
 | t::ts,h=>by rw [U1];exact ⟨h t (bi ..),VX fun u a=>h u (bk _ a)⟩
theorem Pp {y:T} (h:fp y=true) (hk:y.kids=[]):okV y/\okK y/\okO y/\wT y<=6:=by
 have a:=Pl h;have f:=PY h;have g:=ME h;refine ⟨(VW y).2 ⟨a.1,by rw [hk];simp [n6]⟩,(WE y).2 ⟨a.2,by rw [hk];simp [Cq]⟩,(WF y).2 ⟨f,by rw [hk];simp [U1]⟩,?_⟩;rw [Z1,hk];simp only [cB,wL];omega
theorem Kp:∀ (ts:List T) (b:Nat),(∀ t∈ts,wT t<=b)->wL ts<=ts.length * b
 | [],b,_=>by simp [wL]
 | t::ts,b,h=>by
  rw [wL,bI,mi];have f:=h t (bi ..);have g:=Kp ts b fun u a=>h u (bk _ a);omega
theorem node_ok {x:T} (f:fp x=true) (hk:∀ y∈x.kids,fp y=true/\y.kids=[]):okV x/\okK x/\okO x/\wT x<=34:=by
 have g:=Pl f;have h:=PY f;have i:=ME f;have hl:=fun y a=>Pp (hk y a).1 (hk y a).2;refine ⟨(VW x).2 ⟨g.1,Hj fun y a=>(hl y a).1⟩,(WE x).2 ⟨g.2,O0 fun y a=>(hl y a).2.1⟩,(WF x).2 ⟨h,VX fun y a=>(hl y a).2.2.1⟩,?_⟩;have j:=Kp x.kids 6 fun y a=>(hl y a).2.2.2;have l:x.kids.length * 6<=4 * 6:=jw 6 i.2;rw [Z1];omega
theorem Fct.ok {x:T} (h:Fct x):okV x/\okK x/\okO x/\wT x<=34:=node_ok h.2.1 fun y a=>⟨(h.2.2 y a).1,(h.2.2 y a).2.1⟩
theorem Gl.ok {x:T} (h:Gl x):okV x/\okK x/\okO x/\wT x<=34:=node_ok h.2.1 h.2.2
theorem StF.ok {st:au} (h:StF st):C3 st/\stW st:=⟨⟨h.1,fun t a=>(Pp (h.2 t a).1 (h.2 t a).2.1).2.1⟩,fun t a=>by have:=(Pp (h.2 t a).1 (h.2 t a).2.1).2.2.2; omega⟩
def ack (hd:T) (gs:List T) (st:au):Prop:=∀ y∈hd.kids,y.kind=1->bnd st y.n ∨ ∃ g∈gs,∃ z∈g.kids,z.kind=1/\z.n=y.n
end
section
open Go Go.RowKit
def IsM (S:ae) (v:Value) (r:Bool × au):Prop:=∃ kb kp kc,v=.tuple #[kvn kb kp,.bool r.1]/\26<=kp/\kp<=maxLen/\S kb=some (.cells kc ab)/\KnownC S kc r.2
def IsKn (S:ae) (v:Value) (st:au):Prop:=∃ kb kp kc,v=kvn kb kp/\26<=kp/\kp<=maxLen/\S kb=some (.cells kc ab)/\KnownC S kc st
theorem IsM.mono {S S':ae} {v:Value} {r:Bool × au} (h:IsM S v r) (a:Sle S S'):IsM S' v r:=by
 obtain ⟨f,kp,g,i,j,l,m,o⟩:=h;exact ⟨f,kp,g,i,j,l,a _ _ m,o.mono a⟩
theorem IsKn.mono {S S':ae} {v:Value} {st:au} (h:IsKn S v st) (a:Sle S S'):IsKn S' v st:=by
 obtain ⟨f,kp,g,i,j,l,m,o⟩:=h;exact ⟨f,kp,g,i,j,l,a _ _ m,o.mono a⟩
theorem IsM.parts {S:ae} {v:Value} {r:Bool × au} (h:IsM S v r):∃ u,v=.tuple #[u,.bool r.1]/\IsKn S u r.2:=by
 obtain ⟨a,kp,f,g,i⟩:=h;exact ⟨_,g,a,kp,f,rfl,i⟩
end
section
open Go Go.RowKit
end
section
open Go Go.RowKit
theorem KnownM.mono {S S':ae} {a:Array MapEntry} {st:au} (h:KnownM S a st) (f:Sle S S'):KnownM S' a st:=
 ⟨fun e g=>by
  obtain ⟨n,t,cs,i,j,l,m⟩:=h.1 e g;exact ⟨n,t,cs,i,j,l.mono f,m⟩,h.2⟩
structure Tell (f:FuncId) (fn:Func) (cap:List Value) {σ:Type} (It:σ->ae->List Item->Prop) (can:σ->Nat->Prop) (step:σ->T->σ) (S0:ae):Prop where
 hf:Tryz.prog.funcs[f]?=some fn
 hn:(fn.name == "runtime.NumGoroutine" || fn.body.isNone)=false
 up:∀ (s:σ) (S S':ae) (I:List Item),Sle S S'->It s S I->It s S' I
 down:∀ (s:σ) (x:T) (n:Nat),Fct x->can s (n+1)->can (step s x) n
 call:∀ (S:ae) (s:σ) (x:T) (cs:List Value) (I:List Item) (n:Nat),Sle S0 S->Fct x->RdT S cs x->It s S I->can s (n+1)->Tri Tryz.prog f (.agg cs.toArray::cap) I S fun r I' S'=>r=.tuple #[]/\It (step s x) S' I'
theorem Tell.mono {f:FuncId} {fn:Func} {cap:hZ} {σ:Type} {It:σ->ae->List Item->Prop} {a:σ->Nat->Prop} {step:σ->T->σ} {S0 S1:ae} (h:Tell f fn cap It a step S0) (g:Sle S0 S1):Tell f fn cap It a step S1:=
 ⟨h.hf,h.hn,h.up,h.down,fun S s x cs I n i=>h.call S s x cs I n (g.trans i)⟩
end
section
open Go Go.RowKit
structure Fs (f:List T):Prop where
 sorted:Sorted f
 fct:∀ x∈f,Fct x
theorem Fs.nil:Fs []:=⟨trivial,by simp⟩
theorem Fs.okO {f:List T} (h:Fs f):∀ x∈f,okO x:=fun x a=>(h.fct x a).ok.2.2.1
structure Pf (p:List C):Prop where
 len:p.length<=20
 parts:∀ c∈p,Gl c.head/\(∀ g∈c.body,Gl g)/\ack c.head c.body st0
 three:∀ c∈p,c.body.length<=3
theorem Pf.take {p:List C} (h:Pf p) (j:Nat):Pf (p.take j):=⟨by have:=h.len; rw [ey]; omega,fun c hc=>h.parts c (zO hc),fun c hc=>h.three c (zO hc)⟩
theorem Fs.w {f:List T} (h:Fs f):wL f<=f.length * 34:=Kp f 34 fun t a=>(h.fct t a).ok.2.2.2
end
section
open Go Go.RowKit
theorem Rows.insert {α:Type} {k:Nat} {R:hZ->α->Prop} {css:List (hZ)} {ys:List α} (h:Rows k R css ys) {cs:hZ} {y:α} (hR:R cs y) (hl:cs.length=k) (i:Nat) :
  Rows k R (css.take i++cs::css.drop i) (ys.take i++y::ys.drop i):=by
 have g:Rows k R (css.take i) (ys.take i):=⟨by simp [h.hc],fun c hc=>h.hk c (zO hc),fun j a f=>by
  rw [IU,IU];exact h.hR j _ _⟩
 have a:Rows k R (css.drop i) (ys.drop i):=⟨by simp [h.hc],fun c hc=>h.hk c (Vf hc),fun j a f=>by
  rw [ZM,ZM];exact h.hR (i+j) _ _⟩
 have:=(g.append (Rows.one hR hl)).append a;simpa using this
end
section
open Go Go.RowKit
end
section
open Go Go.RowKit
end
section
open Go Go.RowKit
end
section
open Go Go.RowKit

abbrev Bs:=List UInt8
abbrev bs (s:ByteArray):Bs:=s.data.toList
abbrev st (l:Bs):ByteArray:=⟨l.toArray⟩
theorem MY (l:Bs):bs (st l)=l:=by simp [bs]
theorem n3 (l:Bs):(st l).size=l.length:=by simp [ByteArray.size]

def sgn (s:Bs) (i:Nat) (c:Nat):Bool:=match s[i]? with
 | some b=>decide (b.toNat=c)
 | none=>false
def btw (s:Bs) (i:Nat) (a b:Nat):Bool:=match s[i]? with
 | some x=>decide (a<=x.toNat) && decide (x.toNat<=b)
 | none=>false
def sml (s:Bs) (i:Nat):Bool:=btw s i 97 122
def dig (s:Bs) (i:Nat):Bool:=btw s i 48 57
def upp (s:Bs) (i:Nat):Bool:=btw s i 65 90
def cut (s:Bs) (a b:Nat):Bs:=(s.take b).drop a

def Gn (s:Bs):Nat->Nat->Nat
 | 0,e=>e
 | n+1,e=>if sml s e=true then Gn s n (e+1) else e
def lM (s:Bs) (i:Nat):List ByteArray->Bs->Bs
 | [],b=>b
 | x::l,b=>lM s i l (if decide (i+x.size<=s.length)=true/\cut s i (i+x.size)=bs x/\b.length<x.size then bs x else b)
def Ci (s:Bs) (i:Nat):Option (Bs × Nat):=
 let e:=Gn s (s.length - i) i
 if i+6<e then none else if i<e then some (cut s i e,e) else
  let b:=lM s i signs []
  if b=[] then none else some (b,i+b.length)
def xJ (s:Bs):Nat->Nat->Nat
 | 0,e=>e
 | n+1,e=>if dig s e=true then xJ s n (e+1) else e
def LH:Bs->Nat->Nat
 | [],n=>n
 | b::l,n=>LH l (n * 10+(b.toNat - 48))
def Yf (s:Bs) (i:Nat):Option (T × Nat):=
 let from_:=if sgn s i 45=true then i+1 else i
 let e:=xJ s 4 from_
 let d:=cut s from_ e
 let n:=LH d 0
 if d=[] ∨ (sgn d 0 48=true/\1<d.length) ∨ (i<from_/\n=0) ∨ 999<n then none
 else some (.mk 2 (if i<from_ then -(n:Int) else n) emptyB [],e)
def SM (name:Bs) (kids:List T):T:=.mk 3 0 (st name) kids
def acF:T:=SM [91,93] []
def RK (a b:T):T:=SM [46] [a,b]
def mf:List T->T->T
 | [],t=>t
 | a::l,t=>RK a (mf l t)
def opF (s:Bs) (i:Nat):Option (Bs × Nat):=
 let from_:=if sgn s i 32=true then i+1 else i
 if s.length<=from_ then none else match Ci s from_ with
  | none=>none
  | some (name,next)=>
   let word:=decide (name=[105,115]) || decide (name=[109,111,100])
   if di (st name)=0 ∨ word≠decide (i<from_) ∨ (word=true/\sgn s next 32=false) then none
   else some (name,if word=true then next+1 else next)
mutual
def ld:Nat->Bs->Nat->Nat->Nat->Option (T × Nat)
 | 0,_,_,_,_=>none
 | f+1,s,i,d,0=>zP f s i d
 | f+1,s,i,d,l+1=>match ld f s i d l with
  | none=>none
  | some (t,n)=>QT f s n d l t
def QT:Nat->Bs->Nat->Nat->Nat->T->Option (T × Nat)
 | 0,_,_,_,_,_=>none
 | f+1,s,i,d,l,t=>match opF s i with
  | none=>some (t,i)
  | some (name,after)=>if di (st name)=((l+1:Nat):Int) then match ld f s after d l with
    | none=>none
    | some (r,e)=>if l=2 then some (SM name [t,r],e) else QT f s e d l (SM name [t,r])
   else some (t,i)
def zP:Nat->Bs->Nat->Nat->Option (T × Nat)
 | 0,_,_,_=>none
 | f+1,s,i,d=>if d=0 ∨ s.length<=i then none else if sgn s i 40=true then match ld f s (i+1) d 3 with
    | none=>none
    | some (t,n)=>if sgn s n 41=true then some (t,n+1) else none
  else if sgn s i 91=true/\sgn s (i+1) 93=false then match lx f s (i+1) (d - 1) 93 124 [] with
    | none=>none
    | some (ts,n)=>if sgn s n 93=true then some (mf ts acF,n+1) else match ld f s (n+1) (d - 1) 3 with
     | none=>none
     | some (t,e)=>if sgn s e 93=true then some (mf ts t,e+1) else none
  else if upp s i=true then some (.mk 1 ((s.getD i 0).toNat - 65) emptyB [],i+1)
  else if dig s i=true ∨ (sgn s i 45=true/\dig s (i+1)=true) then Yf s i
  else match Ci s i with
   | none=>none
   | some (name,n)=>if sgn s n 40=false then some (SM name [],n) else match lx f s (n+1) (d - 1) 41 41 [] with
    | none=>none
    | some (ts,e)=>some (SM name ts,e+1)
def lx:Nat->Bs->Nat->Nat->Nat->Nat->List T->Option (List T × Nat)
 | 0,_,_,_,_,_,_=>none
 | f+1,s,i,d,e,o,acc=>match ld f s i d 3 with
  | none=>none
  | some (t,n)=>if sgn s n e=true ∨ sgn s n o=true then some (acc++[t],n) else if sgn s n 44=true then lx f s (n+1) d e o (acc++[t]) else none
end

def tx (t:T):Bool:=decide (t.kind=3) && (decide (t.kids.length=2) && decide (0<di t.name))
def HU (t:T):Bool:=decide (t.kind=3) && (decide (t.name=st [46]) && decide (t.kids.length=2))
def Ya (t:T):Bool:=decide (t.kind=3) && (decide (t.name=st [91,93]) && decide (t.kids.length=0))
def EI (t:T):Bool:=decide (t.kind=3) && (decide (t.kids.length=0) && decide (0<di t.name))
def OK (s:Bs):Bool:=sml s 0 || (dig s 0 || (upp s 0 || (sgn s 0 91 || sgn s 0 40)))
def lz (n:Bs):Bs:=if n=[105,115] ∨ n=[109,111,100] then 32::(n++[32]) else n
def Lz:Nat->Nat->Bs->Option Bs
 | 0,_,_=>none
 | f+1,n,out=>if 9<n then Lz f (n / 10) (UInt8.ofNat (48+n % 10)::out) else some (UInt8.ofNat (48+n)::out)
def acz (n:Int):Option Bs:=if n<0 then (Lz 20 (-n).toNat []).map fun l=>45::l else Lz 20 n.toNat []
def Y5 (t:T):Option Bs:=if t.kind=1 then (if 0<=t.n/\t.n<=25 then some [UInt8.ofNat (65+t.n.toNat)] else none)
 else if t.kind=2 then (if -999<=t.n/\t.n<=999 then acz t.n else none) else if t.kids.length=0 then some (bs t.name) else none
mutual
def N5:Nat->T->Option Bs
 | 0,_=>none
 | f+1,t=>if HU t=true then LW f t [] else if tx t=true then match t.kids with
   | [a,b]=>match Wh f a (if di t.name=3 then 2 else di t.name),Pt f b (di t.name - 1) with
    | some x,some y=>some (x++lz (bs t.name)++y)
    | _,_=>none
   | _=>none
  else if t.kind=3/\0<t.kids.length then match tG f t.kids [] with
   | some x=>some (bs t.name++[40]++x++[41])
   | none=>none
  else Y5 t
def LW:Nat->T->List T->Option Bs
 | 0,_,_=>none
 | f+1,t,items=>if HU t=true then match t.kids with
   | [a,b]=>LW f b (items++[a])
   | _=>none
  else match tG f items [] with
   | none=>none
   | some x=>if Ya t=true then some ([91]++x++[93]) else match N5 f t with
    | none=>none
    | some y=>some ([91]++x++[124]++y++[93])
def tG:Nat->List T->Bs->Option Bs
 | 0,_,_=>none
 | _+1,[],out=>some out
 | f+1,t::l,out=>match N5 f t with
  | none=>none
  | some x=>tG f l (out++x++(if l=[] then [] else [44]))
def vq:Nat->T->Int->Option Bs
 | 0,_,_=>none
 | f+1,t,l=>match N5 f t with
  | none=>none
  | some x=>some (if tx t=true/\l<di t.name then [40]++x++[41] else x)
def Wh:Nat->T->Int->Option Bs
 | 0,_,_=>none
 | f+1,t,l=>if EI t=true then match N5 f t with
   | none=>none
   | some x=>some ([40]++x++[41])
  else vq f t l
def Pt:Nat->T->Int->Option Bs
 | 0,_,_=>none
 | f+1,t,l=>match vq f t l with
  | none=>none
  | some x=>if x=[] then none else some (if EI t=true ∨ OK x=false then [40]++x++[41] else x)
end
def ED (f:Nat):List T->Bool->Bs->Option Bs
 | [],_,out=>some out
 | t::l,first,out=>match N5 f t with
  | none=>none
  | some x=>ED f l false (out++(if first=true then [58,45] else [44])++x)
def VY (f:Nat) (c:C):Option Bs:=match N5 f c.head with
 | none=>none
 | some x=>match ED f c.body true x with
  | none=>none
  | some y=>some (y++[46])

def sR (f:Nat):Nat->Bs->Nat->List T->Option (List T × Nat)
 | 0,_,_,_=>none
 | k+1,s,i,acc=>if 6<acc.length then none else match ld f s i 30 3 with
  | none=>none
  | some (t,n)=>if sgn s n 44=true then sR f k s (n+1) (acc++[t]) else some (acc++[t],n)
def Xt (f:Nat) (s:Bs) (c:C) (n:Nat):Option C:=
 if n+1=s.length/\sgn s n 46=true/\cz c=true/\wC c<=200/\VY f c=some s then some c else none
def CB (f:Nat) (s:Bs):Option C:=if 1000<s.length then none else match ld f s 0 30 3 with
 | none=>none
 | some (h,n)=>if sgn s n 58=true/\sgn s (n+1) 45=true then match sR f 8 s (n+2) [] with
   | none=>none
   | some (b,n2)=>Xt f s ⟨h,b⟩ n2
  else Xt f s ⟨h,[]⟩ n
def LG (s:Bs) (c:Nat):Nat->Nat->Nat->List Bs->List Bs
 | 0,i,from_,acc=>acc++[cut s from_ i]
 | n+1,i,from_,acc=>if sgn s i c=true then LG s c n (i+1) (i+1) (acc++[cut s from_ i]) else LG s c n (i+1) from_ acc
def Yo (s:Bs):List Bs:=LG s 10 s.length 0 0 []
def pn (f:Nat):List Bs->List C->Option (List C)
 | [],acc=>some acc
 | l::ls,acc=>match CB f l with
  | none=>none
  | some c=>pn f ls (acc++[c])
def VS (f:Nat) (s:Bs):Option (List C):=
 let ls:=Yo s
 if 21<ls.length ∨ ls.getLast?≠some [] then none else pn f ls.dropLast []
def aad (s:Bs):Bool:=match VS 60 s with
 | some p=>decide (0<p.length) && (decide (p.length<=8) && p.all fun c=>cz c && decide (wC c<=200))
 | none=>false
end
section
open Go Go.RowKit
section
variable {P:Program} {w w0:World} {X:List Nat} {L:List Item} {S:ae} {K:Value->World->Prop}
theorem JZ {T:TypeId} {f g:Bool} {k:IntKind} {a b:Int} (h:a<b) (hk:K (.bool true) w):Run P (dH .lss T f g (.int k a) (.int k b)) w K:=by
 apply bM;rw [aL h];exact hk
theorem gN {T:TypeId} {f g:Bool} {k:IntKind} {a b:Int} (h:¬ (a<b)) (hk:K (.bool false) w):Run P (dH .lss T f g (.int k a) (.int k b)) w K:=by
 apply bM;rw [aS h];exact hk
theorem Ow {T:TypeId} {f g:Bool} {k:IntKind} {a b:Int} (h:a<=b) (hk:K (.bool true) w):Run P (dH .leq T f g (.int k a) (.int k b)) w K:=by
 apply gJ;rw [aL h];exact hk
theorem aaf {T:TypeId} {f g:Bool} {k:IntKind} {a b:Int} (h:¬ (a<=b)) (hk:K (.bool false) w):Run P (dH .leq T f g (.int k a) (.int k b)) w K:=by
 apply gJ;rw [aS h];exact hk
theorem Vt {T:TypeId} {f g:Bool} {k:IntKind} {a b:Int} (h:b<a) (hk:K (.bool true) w):Run P (dH .gtr T f g (.int k a) (.int k b)) w K:=by
 apply ew;rw [aL h];exact hk
theorem nD {T:TypeId} {f g:Bool} {k:IntKind} {a b:Int} (h:¬ (b<a)) (hk:K (.bool false) w):Run P (dH .gtr T f g (.int k a) (.int k b)) w K:=by
 apply ew;rw [aS h];exact hk
theorem sG {T:TypeId} {f g:Bool} {k:IntKind} {a b:Int} (h:b<=a) (hk:K (.bool true) w):Run P (dH .geq T f g (.int k a) (.int k b)) w K:=by
 apply iS;rw [aL h];exact hk
theorem Er {T:TypeId} {f g:Bool} {k:IntKind} {a b:Int} (h:¬ (b<=a)) (hk:K (.bool false) w):Run P (dH .geq T f g (.int k a) (.int k b)) w K:=by
 apply iS;rw [aS h];exact hk
theorem iZ {T:TypeId} {f g:Bool} {k:IntKind} {a b:Int} (h:a=b) (hk:K (.bool true) w):Run P (dH .eql T f g (.int k a) (.int k b)) w K:=by
 apply bn;rw [aL h];exact hk
theorem gr {T:TypeId} {f g:Bool} {k:IntKind} {a b:Int} (h:¬ (a=b)) (hk:K (.bool false) w):Run P (dH .eql T f g (.int k a) (.int k b)) w K:=by
 apply bn;rw [aS h];exact hk
theorem Fe {T:TypeId} {f g:Bool} {a b:Int} (h:-9223372036854775808<=a * b/\a * b<=9223372036854775807) (hk:K (ax (a * b)) w):Run P (dH .mul T f g (ax a) (ax b)) w K:=
 Run.of (by simp [dH,dN,binOp,Op.intArith,IntWalk.i64_in _ h]) hk
theorem abY {T:TypeId} {f g:Bool} {a b:Nat} (j:0<b) (l:a<=9223372036854775807) (hk:K (ax ((a / b:Nat):Int)) w):Run P (dH .quo T f g (ax (a:Int)) (ax (b:Int))) w K:=by
 refine Run.of ?_ hk;have h:¬ ((b:Int)=0):=by omega
 have i:IntKind.i64.wrap ((a:Int).tdiv b)=((a / b:Nat):Int):=by
  rw [IntWalk.i64_quo _ _ (by omega)];rfl
 simp only [dH,dN,binOp,Op.intDiv,Sem.run_bind,Result.andThen_ok,af h,Sem.run_pure];exact congrArg (fun v=>Result.ok (Next.value (ax v)) w) i
theorem Vy {T:TypeId} {f g:Bool} {a b:Nat} (j:0<b) (hk:K (ax ((a % b:Nat):Int)) w):Run P (dH .rem T f g (ax (a:Int)) (ax (b:Int))) w K:=by
 refine Run.of ?_ hk;have h:(a:Int).tmod b=((a % b:Nat):Int):=by
  rw [IntWalk.rem_in _ _ (by omega)];rfl
 have i:¬ ((b:Int)=0):=by omega
 simp only [dH,dN,binOp,Op.intDiv,Sem.run_bind,Result.andThen_ok,af i,Sem.run_pure];exact congrArg (fun v=>Result.ok (Next.value (ax v)) w) h
theorem acT {T:TypeId} {f g:Bool} {a b:Nat} (h:a<4611686018427387904) (i:b<4611686018427387904) (hk:K (ax ((a ^^^ b:Nat):Int)) w):Run P (dH .xor T f g (ax (a:Int)) (ax (b:Int))) w K:=by
 refine Run.of ?_ hk;have l:a ^^^ b<2 ^ 62:=Nat.xor_lt_two_pow (by simpa using h) (by simpa using i);have e1:(BitVec.ofInt 64 (a:Int)).toNat=a:=by rw [BitVec.toNat_ofInt];omega
 have e2:(BitVec.ofInt 64 (b:Int)).toNat=b:=by rw [BitVec.toNat_ofInt];omega
 have j:IntKind.i64.wrap ((BitVec.ofInt 64 (a:Int) ^^^ BitVec.ofInt 64 (b:Int)).toNat:Int)=((a ^^^ b:Nat):Int):=by
  rw [BitVec.toNat_xor,e1,e2];exact IntWalk.i64_in _ (by omega)
 simp only [dH,dN,binOp,Op.intBits,Sem.run_bind,Result.andThen_ok,Sem.run_pure];exact congrArg (fun v=>Result.ok (Next.value (ax v)) w) j
theorem acu {T:TypeId} {f g:Bool} {k:IntKind} {a b c:Int} (h:k.wrap (a+b)=c) (hk:K (.int k c) w):Run P (dH .add T f g (.int k a) (.int k b)) w K:=
 Run.of (by simp [dH,dN,binOp,Op.intArith,h]) hk
theorem ZE {T:TypeId} {f g:Bool} {k:IntKind} {a b c:Int} (h:k.wrap (a - b)=c) (hk:K (.int k c) w):Run P (dH .sub T f g (.int k a) (.int k b)) w K:=
 Run.of (by simp [dH,dN,binOp,Op.intArith,h]) hk
theorem vK {a f ty:TypeId} {k k':IntKind} {n m:Int} {d:TypeDesc} (g:P.underlying a=some d) (hd:P.underlying f=some (.int k')) (h:k'.wrap n=m) (hk:K (.int k' m) w) :
  Run P (sOp (.convert a f (.const (.int k n))) ty) w K:=by
 refine Run.of ?_ hk;simp [sOp,execOp,ev0,evE,convert,run_underlying g,run_underlying hd,Conv.intToInt,h]
theorem abT {T ty:TypeId} {n:Int} (a:-9223372036854775808<=-n/\-n<=9223372036854775807) (hk:K (ax (-n)) w):Run P (sOp (.unOp .neg T (.const (ax n))) ty) w K:=
 Run.of (by simp [sOp,execOp,ev0,evE,Op.unary,Op.intArith,Int.zero_sub,IntWalk.i64_in _ a]) hk
theorem ab1 (a b:Bs):st a++st b=st (a++b):=by
 apply ByteArray.ext;simp [st]
theorem fe {T:TypeId} {f g:Bool} {a b:Bs} (hl:a.length+b.length<=9223372036854775807) (hk:K (.string (st (a++b))) w):Run P (dH .add T f g (.string (st a)) (.string (st b))) w K:=by
 refine Run.of ?_ hk;have h:¬ (9223372036854775807<(((st a).size+(st b).size:Nat):Int)):=by rw [n3,n3];omega
 have i:IntKind.i64.max=9223372036854775807:=by decide
 simp only [dH,binOp,Op.stringOp,Sem.run_bind,vG,Result.andThen_ok,gt_iff_lt,i,af h,Sem.run_pure,ab1]
theorem acs (s:Bs) (a b:Nat):(st s).extract a b=st (cut s a b):=by
 apply ByteArray.ext;apply Gw.1;simp [cut,ByteArray.data_extract,List.drop_take]
theorem IG {T ty:TypeId} {s:Bs} {a b:Nat} (h:P.underlying T=some .string) (f:a<=b) (i:b<=s.length) (hk:K (.string (st (cut s a b))) w) :
  Run P (sOp (.slice T (.const (.string (st s))) (some (.const (ax a))) (some (.const (ax b))) none) ty) w K:=by
 refine Run.of ?_ hk;have g:b<=(st s).size:=by rw [n3];exact i
 simp [sOp,execOp,ev0,evE,Instr.sliceAt,Instr.slice,Instr.sliceBounds,run_underlying h,ot f,ot g,acs]
theorem ge {T ty:TypeId} {s:Bs} {i:Nat} (f:P.underlying T=some .string) (g:i<s.length) (hk:K (.int .u8 s[i].toNat) w) :
  Run P (sOp (.index T (.const (.string (st s))) (.const (ax i))) ty) w K:=by
 have a:i<(st s).size:=by rw [n3];exact g
 apply pe f a;have:(st s)[i]=s[i]:=by simp [st,ByteArray.getElem_eq_getElem_data]
 rw [this];exact hk
theorem iL {T ty:TypeId} {cs:List Bool} {s:Bs} (a:P.underlying T=some .string) (hk:K (ax s.length) w):Run P (ce .len #[T] ty cs [.string (st s)]) w K:=by
 apply jy a;rw [n3];exact hk
theorem JX {T:TypeId} {f g:Bool} {a b:Bs} (hk:K (.bool (decide (a=b))) w):Run P (dH .eql T f g (.string (st a)) (.string (st b))) w K:=by
 apply bB;have:decide (st a=st b)=decide (a=b):=by
  rw [dJ];exact ⟨fun h=>by rw [<- MY a,h,MY],fun h=>by rw [h]⟩
 rw [this];exact hk
theorem WV {T:TypeId} {f g:Bool} {a b:Bs} (hk:K (.bool (!decide (a=b))) w):Run P (dH .neq T f g (.string (st a)) (.string (st b))) w K:=by
 apply Ea;have:decide (st a=st b)=decide (a=b):=by
  rw [dJ];exact ⟨fun h=>by rw [<- MY a,h,MY],fun h=>by rw [h]⟩
 rw [this];exact hk
theorem Kn (h:Inv w0 X L S w) {T T' D ty e:TypeId} {by_:Nat} {z:Value} {n:Nat} (g:iP P T=some (e,1,by_,z)) (i:P.underlying T'=some (.slice e)) (l:P.underlying e=some (.int .u8)) (m:P.underlying D=some .string)
  {K:Value->Value->World->Prop} (hk:∀ w',Inv w0 X L S w'->K (.slice (some ⟨w.heap.size,0,none⟩) 1 1) (.string (st [UInt8.ofNat n])) w') :
  Run P (bY T 1 [(0,.int .u8 (n:Int))]) w fun u w'=>Run P (sOp (.convert T' D (.const u)) ty) w' (K u):=by
 refine xi h g rfl (by omega) (by omega) fun w' f=>?_;have o:(L++[Item.blk w.heap.size (.cells (Value.int .u8 (n:Int)).cells e)])[L.length]?=some (.blk w.heap.size (.cells (Value.int .u8 (n:Int)).cells e)):=by
  rw [jr (be _),fH];rfl
 have hc:w'.cell? ⟨w.heap.size,0,none⟩=some (.int .u8 (n:Int)):=by rw [f.cellL o];rfl
 have hl:=run_loadCells_list (P:=P) (w:=w') ⟨w.heap.size,0,none⟩ [.int .u8 (n:Int)] (fun j v a=>by
  match j with
  | 0=>simp only [Mq,aY] at a;subst a;rw [mK];exact hc
  | j+1=>simp at a)
 simp only [bI,cB] at hl;refine Run.of (w':=w') ?_ (hk _ (f.sub (eh _ _)));simp [sOp,execOp,ev0,evE,convert,run_underlying i,run_underlying l,run_underlying m,Conv.bytesToString,hl,st];rfl
end
end
end Go.Proofs.YtellfcpffcipcaaGreatDoor
