/- impl's compiler: structures that are built. -/
import Derived.Test.YtjbcdmheajljpaaGreatZRdA
import Derived.Test.YtjbcdmheajljpaaGreatZRd10
namespace Go.Proofs.YtjbcdmheajljpaaGreat
attribute [local irreducible] Run CondV aI bg
section
open Go Go.RowKit
theorem Fj (ks:List T) (s:CS) (j:Nat) (h:j<ks.length):bw (ks.drop j) s=((bw (ks.drop (j+1)) (if ks[j].kind=3 then bn ks[j] s else (s,-1)).1).1,(if ks[j].kind=3 then bn ks[j] s else (s,-1)).2::(bw (ks.drop (j+1)) (if ks[j].kind=3 then bn ks[j] s else (s,-1)).1).2):=by
 rw [ef h,bw]
theorem mz (ks:List T) (j:Nat) (h:j<ks.length):bo (ks.drop j)=bR ks[j]+bo (ks.drop (j+1)):=by
 rw [ef h,bo]
theorem DZ (ks:List T) (vs:List Int) (s:CS) (j:Nat) (h:j<ks.length) (a:j<vs.length):dd s (ks.drop j) (vs.drop j)=dd (if ks[j].kind=3 then s.emit ⟨5,vs[j],0,emptyB⟩ else fy s ks[j]) (ks.drop (j+1)) (vs.drop (j+1)):=by
 rw [ef h,ef a,dd]
section
def Xx (t:T):Prop:=∀ (S:ai) (cs:List Value) (cb mb ck:Nat) (es:Array MapEntry) (s:CS) (cv:Value),RdT S cs t->Wf s->SlM es s->okG t->t.kind=3->s.sz+8 * bR t<=900000000->
 Tri Tryz.prog As [hV cb,.agg cs.toArray] (d6 cb mb es ck s cv) S fun r I' S'=>r=ee (bn t s).2/\Ec cb mb S (bn t s).1 I' S'
theorem LD:∀ t:T,Xx t:=by
 refine T.ind fun k n nm ks ih S cs Z mb ck es s cv h hw hm ht h3 hl=>?_;intro w a;obtain ⟨X,hX⟩:∃ X,X=cg (d6 Z mb es ck s cv):=⟨_,rfl⟩
 rw [<- hX] at a ⊢;obtain ⟨kv,rfl,_,_,_,N⟩:=RdT.iff.1 h;have c9:fc ks:=ht.kids;simp only [T.name,T.kids,T.kind,T.n] at N ⊢;have d0:=N.le;simp only [maxLen] at d0;have d3:bR (.mk k n nm ks)=1+bo ks:=by rw [bR]
 rw [d3] at hl;have d4:=hw.four;have e6:(ks.length:Int)<=bo ks:=by
  have:∀ ts:List T,(ts.length:Int)<=bo ts:=fun ts=>by
   induction ts with
   | nil=>simp [bo]
   | cons t ts ih=>rw [bo,aP];have:=dw t;omega
  exact this ks
 have e7:0<=s.sz:=by unfold CS.sz;omega
 refine nY.2 ?_;dsimp only[nY,bv];refine bH a fun b3 w' a=>?_;have a:Inv w X ([ei b3 #[ee k,ee n,.string nm,kv] ac]++d6 Z mb es ck s cv) S w':=a.perm (bD (l₁:=[_]));refine ah a 0 rfl az aw rfl ?_;refine aO N ao ?_;refine M3 a iX (n:=ks.length) (by omega) (by omega) fun g c w' hc a=>?_;have a:Inv w X ([ei b3 #[ee k,ee n,.string nm,kv] ac,ei g c bV]++d6 Z mb es ck s cv) S w':=a.perm ((bD (l₁:=[_])).cons _);refine ah a 0 rfl az aw rfl ?_;refine aO N ao ?_;obtain ⟨vs,c1⟩:∃ vs,vs=(bw ks s).2:=⟨_,rfl⟩
 have e8:vs.length=ks.length:=by rw [c1];exact i7 ..
 refine ⟨fun i w'=>∃ (j:Nat) (r:CS) (l:Array MapEntry) (m:Nat) (q:Value) (G:Array Value),j<=ks.length/\i=ee j/\Wf r/\SlM l r/\r.sz+8 * bo (ks.drop j)<=s.sz+8 * bo ks/\bw ks s=((bw (ks.drop j) r).1,vs)/\vs.drop j=(bw (ks.drop j) r).2/\G.size=ks.length/\
   (∀ i (h:i<ks.length) (h':i<vs.length),i<j->ks[i].kind=3->bJ G i 1=[ee vs[i]])/\
   Inv w X ([ei b3 #[ee k,ee n,.string nm,kv] ac,ei g G bV]++d6 Z mb l m r q) S w',fun i _=>ks.length - (intOf i).toNat,
   ⟨0,s,es,ck,cv,c,aT _,rfl,hw,hm,by rw [fe];omega,by rw [fe,c1],by rw [fe,fe,c1],by omega,fun i _ _ h=>absurd h (Nat.not_lt_zero _),a⟩,?_⟩
 intro i _ _ _ _ _ _ _ _ _ _ _ _ _ _ _ _ w';rintro ⟨j,r,l,m,q,G,hj,rfl,a0,b1,c7,O,U,c8,b2,a⟩;refine cd ?_;refine aJ (fun b9=>?_) (fun b9=>?_)
 ·have C:j<ks.length:=by omega
  have b0:j<vs.length:=by omega
  have a5:=nr c9 _ (cO C);have e9:=dw ks[j];have f0:=ch (ks.drop (j+1));rw [mz ks j C] at c7;rw [Fj ks r j C] at O U;simp only [ef b0,uW] at U;refine ⟨fun w'=>∃ (Y:CS) (l:Array MapEntry) (m:Nat) (q:Value) (G:Array Value),Wf Y/\SlM l Y/\Y.sz+8 * bo (ks.drop (j+1))<=s.sz+8 * bo ks/\bw ks s=((bw (ks.drop (j+1)) Y).1,vs)/\vs.drop (j+1)=(bw (ks.drop (j+1)) Y).2/\G.size=ks.length/\
   (∀ i (h:i<ks.length) (h':i<vs.length),i<j+1->ks[i].kind=3->bJ G i 1=[ee vs[i]])/\
   Inv w X ([ei b3 #[ee k,ee n,.string nm,kv] ac,ei g G bV]++d6 Z mb l m Y q) S w',?_,?_⟩
  ·refine dj a N ao af C (fun _ _=>RdT.length) fun ds J=>?_;have c3:=J.length;refine aE a aQ fun b7 w' a=>?_;have a:=a.perm (M:=.blk b7 _::([ei b3 #[ee k,ee n,.string nm,kv] ac,ei g G bV]++d6 Z mb l m r q)) (bD (l₁:=[_]));refine aj a 0 rfl af (by simpa using c3) rfl (by simpa using J.one) fun w' a=>?_;obtain ⟨c2,rfl,_,_,_,_⟩:=RdT.iff.1 J;have a:Inv w X ([ei b7 (ku (ks[j]) c2) ac,ei b3 #[ee k,ee n,.string nm,kv] ac,ei g G bV]++d6 Z mb l m r q) S w':=a;refine ah a 0 rfl aW au rfl ?_;refine a9 ?_;refine aJ (fun D=>?_) (fun D=>?_)
   ·rw [ag D] at O U;have f1:=mE ks[j] r;refine aq a 0 af rfl rfl ?_;refine Run.call n7 n4 a (ih _ (cO C) S _ Z mb m l r q J a0 b1 a5 D (by omega)) fun v' I' S' w'=>?_;rintro ⟨rfl,eS,a1,a6,a7,rfl,a2⟩ _ a;rw [eS] at a;refine aN ff C ?_;refine eV a 2 (n:=1) rfl (by decide +kernel) rfl (by omega) (by simp [Value.cells,Value.oneCell']) fun w' a=>?_;refine ⟨_,a1,a6,a7,_,(lQ ks[j] a0 a5).1.wf,a2,by omega,O,U.2,?_,fun i h1 h2 h3 h4=>?_,a.sub (jd _ _)⟩
    ·rw [gw _ _ _ (by simp [Value.cells];omega)];exact c8
    ·by_cases e:i=j
     ·subst e;have:=gE (c:=G) (o:=0+i * 1) (vs:=[Value.int .i64 (bn ks[i] r).2]) (by simp;omega);rw [cS,Nat.mul_one] at this;rw [U.1];simpa [Value.cells] using this
     ·have:=iF (c:=G) (o:=0+j * 1) (vs:=[Value.int .i64 (bn ks[j] r).2]) (p:=i) (k:=1) (by simp;omega) (by simp;omega);rw [<- b2 i h1 h2 (by omega) h4];exact this
   ·rw [ae D] at O U;exact ⟨r,l,m,q,G,a0,b1,by omega,O,U.2,c8,fun i h1 h2 h3 h4=>b2 i h1 h2 (by
     have:i≠j:=fun e=>by subst e;exact D h4
     omega) h4,a.sub (jd _ _)⟩
  intro _ _ _ _ _ _ _ _ _ _ _ _ _ _ w';rintro ⟨Y,l,m,q,G,q1,q2,q3,q4,q5,q6,q7,a⟩;refine bL (by omega) ?_;exact ⟨⟨j+1,Y,l,m,q,G,C,rfl,q1,q2,q3,q4,q5,q6,q7,a⟩,by simp [intOf];omega⟩
 have c4:j=ks.length:=by omega
 subst c4;have c5:ks.drop ks.length=[]:=eL;rw [c5,bw] at O;rw [c5,bo] at c7;have d1:bw ks s=(r,vs):=O;have f2:=a0.four;have e4:r.next<=900000000/\r.code.length<=900000000:=by
  have hb:r.sz<=900000000:=by omega
  unfold CS.sz at hb;omega
 have c6:=(xt ks s).2;rw [d1] at c6;have c6:r.sz+2 * ks.length<=s.sz+8 * bo ks:=c6;refine Run.call i5 iU a (qL (s:=r) (by omega)) fun v' I' S' w'=>?_;rintro ⟨eS,rfl,rfl⟩ _ a;rw [eS] at a;refine ah a 0 rfl az aw rfl ?_;refine aO N ao ?_;refine ah a 0 rfl bu aV rfl ?_;refine Lu ?_;refine Run.call cL cK a (fq (s:=r.inc) ⟨7,ks.length,r.next,nm⟩ b1 (by show r.code.length<=_;omega)) fun v' I' S' w'=>?_;rintro ⟨eS,a1,a6,a7,rfl,a2⟩ _ a;rw [eS] at a;refine ah a 0 rfl az aw rfl ?_;refine aO N ao ?_;obtain ⟨sf,a4⟩:∃ sf,sf=(r.emit ⟨7,ks.length,r.next,nm⟩).inc:=⟨_,rfl⟩
 have d7:Wf sf:=by rw [a4];exact (a0.emit _).inc
 have f3:sf.sz=r.sz+2:=by rw [a4,zQ,fI];omega
 have d9:bn (.mk k n nm ks) s=(dd sf ks vs,r.next):=by rw [bn,d1,a4]
 have a:Inv w X ([ei b3 #[ee k,ee n,.string nm,kv] ac,ei g G bV]++d6 Z mb a1 a6 sf a7) S w':=by rw [a4];exact a
 have a2:SlM a1 sf:=by rw [a4];exact a2
 rw [d9];refine ⟨fun i w'=>∃ (j:Nat) (r:CS) (l:Array MapEntry) (m:Nat) (q:Value),j<=ks.length/\i=ee j/\Wf r/\SlM l r/\r.sz<=sf.sz+2 * j/\dd sf ks vs=dd r (ks.drop j) (vs.drop j)/\
   Inv w X ([ei b3 #[ee k,ee n,.string nm,kv] ac,ei g G bV]++d6 Z mb l m r q) S w',fun i _=>ks.length - (intOf i).toNat,
   ⟨0,sf,a1,a6,a7,aT _,rfl,d7,a2,by omega,by rw [fe,fe],a⟩,?_⟩
 intro i _ _ _ _ _ _ _ _ _ _ _ _ _ _ _ _ _ _ _ _ w';rintro ⟨j,B,l,m,q,hj,rfl,V,a3,e3,a8,a⟩;refine cd ?_;refine aJ (fun b9=>?_) (fun b9=>?_)
 ·have C:j<ks.length:=by omega
  have b0:j<vs.length:=by omega
  have a5:=nr c9 _ (cO C);rw [DZ ks vs B j C b0] at a8;have f4:=V.four;have e1:B.sz<=900000000:=by omega
  have e5:B.next<=900000000/\B.code.length<=900000000:=by
   have hb:=e1;unfold CS.sz at hb;omega
  refine ⟨fun w'=>∃ (Y:CS) (l:Array MapEntry) (m:Nat) (q:Value),Y=(if ks[j].kind=3 then B.emit ⟨5,vs[j],0,emptyB⟩ else fy B ks[j])/\SlM l Y/\
   Inv w X ([ei b3 #[ee k,ee n,.string nm,kv] ac,ei g G bV]++d6 Z mb l m Y q) S w',?_,?_⟩
  ·refine dj a N ao af C (fun _ _=>RdT.length) fun ds J=>?_;have c3:=J.length;refine aE a aQ fun b7 w' a=>?_;have a:=a.perm (M:=.blk b7 _::([ei b3 #[ee k,ee n,.string nm,kv] ac,ei g G bV]++d6 Z mb l m B q)) (bD (l₁:=[_]));refine aj a 0 rfl af (by simpa using c3) rfl (by simpa using J.one) fun w' a=>?_;obtain ⟨c2,rfl,_,_,_,_⟩:=RdT.iff.1 J;have a:Inv w X ([ei b7 (ku (ks[j]) c2) ac,ei b3 #[ee k,ee n,.string nm,kv] ac,ei g G bV]++d6 Z mb l m B q) S w':=a;refine ah a 0 rfl aW au rfl ?_;refine a9 ?_;refine aJ (fun D=>?_) (fun D=>?_)
   ·refine aN ff C ?_;have e2:=b2 j C b0 C D;refine aG a 2 au rfl (by have:=bf e2 0 _ rfl;rw [cS,Nat.mul_one];exact this) ?_;refine oz ?_;refine Run.call cL cK a (fq ⟨5,vs[j],0,emptyB⟩ a3 (by omega)) fun v' I' S' w'=>?_;rintro ⟨eS,b4,b5,b6,rfl,b8⟩ _ a;rw [eS] at a;exact ⟨_,b4,b5,b6,by rw [ag D],b8,a.sub (jd _ _)⟩
   ·refine aq a 0 af rfl rfl ?_;refine Run.call kF kE a (rF J V a3 a5 D (by omega)) fun v' I' S' w'=>?_;rintro ⟨eS,b4,b5,b6,rfl,b8⟩ _ a;rw [eS] at a;exact ⟨_,b4,b5,b6,by rw [ae D],b8,a.sub (jd _ _)⟩
  intro _ _ _ _ _ _ _ _ _ _ _ _ _ _ _ _ _ _ w';rintro ⟨Y,l,m,q,rfl,q2,a⟩;refine bL (by omega) ?_;have hx:Wf (if ks[j].kind=3 then B.emit ⟨5,vs[j],0,emptyB⟩ else fy B ks[j])/\(if ks[j].kind=3 then B.emit ⟨5,vs[j],0,emptyB⟩ else fy B ks[j]).sz<=B.sz+2:=by
   split
   ·exact ⟨V.emit _,by rw [fI];omega⟩
   ·rename_i d2
    exact ⟨(tL V a5 d2).wf,(DC B ks[j]).2⟩
  exact ⟨⟨j+1,_,l,m,q,C,rfl,hx.1,q2,by have:=hx.2;omega,a8,a⟩,by simp [intOf];omega⟩
 have c4:j=ks.length:=by omega
 subst c4;have e0:dd B [] (vs.drop ks.length)=B:=by rw [dd];all_goals simp
 rw [c5,e0] at a8;rw [a8];exact ⟨_,_,_,rfl,a.sub (fj _ _),Ext.refl _ _ _,rfl,rfl,l,m,q,rfl,a3⟩
end
end
section
open Go Go.RowKit
theorem ER (ks:List T) (s:CS) (j:Nat) (i:Int) (h:j<ks.length):eP s i (ks.drop j)=eP (gb s i ks[j]) (i+1) (ks.drop (j+1)):=by
 rw [ef h,eP]
theorem CB (a:List T) (s:CS) (j:Nat) (h:j<a.length):dR s (a.drop j)=dR (fM s a[j]) (a.drop (j+1)):=by
 rw [ef h,dR]
theorem kq:∀ ts:List T,(ts.length:Int)<=bo ts
 | []=>by simp [bo]
 | t::ts=>by rw [bo,aP];have:=dw t;have:=kq ts;omega
section
set_option maxHeartbeats 1000000 in
theorem Kp {G N U:Nat} {es:Array MapEntry} {s:CS} {cv:Value} {t:T} {S:ai} {cs:nA} (h:RdT S cs t) (hw:Wf s) (hm:SlM es s) (ht:okG t) (hl:s.sz+8 * bR t<=900000000) :
  nB Db [hV G,.agg cs.toArray] (d6 G N es U s cv) S fun _ I' S'=>Ec G N S (fM s t) I' S':=by
 intro w a;obtain ⟨X,hX⟩:∃ X,X=cg (d6 G N es U s cv):=⟨_,rfl⟩
 rw [<- hX] at a ⊢;have hR:=h;obtain ⟨kv,rfl,_,_,_,a8⟩:=RdT.iff.1 h;have c9:fc t.kids:=ht.kids;have c1:=a8.le;simp only [maxLen] at c1;have d0:bR t=1+bo t.kids:=by cases t;rw [bR];rfl
 rw [d0] at hl;have d1:=hw.four;have c2:=kq t.kids;have h6:0<=s.sz:=by unfold CS.sz;omega
 have e0:s.code.length<=900000000:=by
  have hb:s.sz<=900000000:=by omega
  unfold CS.sz at hb;omega
 refine pS.2 ?_;dsimp only[pS,bv];refine bH a fun b3 w' a=>?_;have a:Inv w X ([ei b3 (ku t kv) ac]++d6 G N es U s cv) S w':=a.perm (bD (l₁:=[_]));refine aq a 0 af rfl rfl ?_;refine Run.callPure Gj FP a (Cm hR) fun w' a=>?_;refine aL (fun hc=>?_) (fun hc=>?_)
 ·refine Ka ?_;refine Run.call cL cK a (fq ⟨13,0,0,emptyB⟩ hm (by omega)) fun v' I' S' w'=>?_;rintro ⟨Y,m,p,r,rfl,b1⟩ _ a;rw [Y] at a;have e:fM s t=s.emit ⟨13,0,0,emptyB⟩:=by rw [fM,ag hc]
  exact ⟨_,_,_,rfl,a.sub (fj _ _),Ext.refl _ _ _,rfl,m,p,r,by rw [e],by rw [e];exact b1⟩
 have d2:fM s t=(eP s 0 t.kids).emit ⟨if gi t=true then 12 else 11,t.kids.length,0,t.name⟩:=by rw [fM,ae (by rw [hc];decide)]
 rw [d2];refine ah a 0 rfl az aw rfl ?_;refine aO a8 ao ?_;refine ⟨fun i w'=>∃ (j:Nat) (l:CS) (m:Array MapEntry) (p:Nat) (r:Value),j<=t.kids.length/\i=ee j/\Wf l/\SlM m l/\l.sz+8 * bo (t.kids.drop j)<=s.sz+8 * bo t.kids/\eP s 0 t.kids=eP l j (t.kids.drop j)/\
   Inv w X ([ei b3 (ku t kv) ac]++d6 G N m p l r) S w',fun i _=>t.kids.length - (intOf i).toNat,
   ⟨0,s,es,U,cv,aT _,rfl,hw,hm,by rw [fe];omega,by rw [fe];rfl,a⟩,?_⟩
 intro i _ _ _ _ _ _ _ _ _ _ e1 e2 e3 e4 e5 e6 e7 e8 e9 f0 f1 f2 f3 f4 f5 f6 f7 f8 f9 _ _ _ _ _ _ t7 t6 g0 g1 g2 g3 g4 g5 g6 g7 g8 g9 _ _ _ _ _ _ _ _ _ _ _ _ _ _ _ _ _ _ w';rintro ⟨j,l,es,U,cv,hj,rfl,Z,hm,b2,a6,a⟩;refine cd ?_;refine aJ (fun c6=>?_) (fun c6=>?_)
 ·have a4:j<t.kids.length:=by omega
  obtain ⟨u,hu⟩:∃ u,u=t.kids[j]:=⟨_,rfl⟩
  have a5:okG u:=by rw [hu];exact nr c9 _ (cO a4)
  have h7:=dw u;have h8:=ch (t.kids.drop (j+1));rw [mz t.kids j a4,<- hu] at b2;rw [ER t.kids l j j a4,<- hu] at a6;have h9:=Z.four;have c3:l.next<=900000000/\l.code.length<=900000000:=by
   have hb:l.sz<=900000000:=by omega
   unfold CS.sz at hb;omega
  refine ⟨fun w'=>∃ (m:Array MapEntry) (p:Nat) (r:Value),SlM m (gb l j u)/\
   Inv w X ([ei b3 (ku t kv) ac]++d6 G N m p (gb l j u) r) S w',?_,?_⟩
  ·refine dj a a8 ao af a4 (fun _ _=>RdT.length) fun ds a3=>?_;rw [<- hu] at a3;have d3:=a3.length;refine aE a aQ fun b5 w' a=>?_;have a:=a.perm (M:=.blk b5 _::([ei b3 (ku t kv) ac]++d6 G N es U l cv)) (bD (l₁:=[_]));refine aj a 0 rfl af (by simpa using d3) rfl (by simpa using a3.one) fun w' a=>?_;have d4:=a3;obtain ⟨a2,rfl,_,_,_,_⟩:=RdT.iff.1 a3;have a:Inv w X ([ei b5 (ku u a2) ac,ei b3 (ku t kv) ac]++d6 G N es U l cv) S w':=a;have fin:∀ (m:Array MapEntry) (p:Nat) (r:Value) (sn:CS) (w':World),sn=gb l j u->SlM m sn->Inv w X ([ei b5 (ku u a2) ac,ei b3 (ku t kv) ac]++d6 G N m p sn r) S w'->∃ (m:Array MapEntry) (p:Nat) (r:Value),SlM m (gb l j u)/\
     Inv w X ([ei b3 (ku t kv) ac]++d6 G N m p (gb l j u) r) S w':=fun m p r sn w' e h1 h2=>by
    subst e;exact ⟨m,p,r,h1,h2.sub (jd _ _)⟩
   refine ah a 0 rfl aW au rfl ?_;refine a9 ?_;refine aJ (fun h2=>?_) (fun h2=>?_)
   ·refine ah a 0 rfl aR au rfl ?_;refine lZ ?_;refine Run.call cL cK a (fq ⟨10,u.n,j,emptyB⟩ hm (by omega)) fun v' I' S' w'=>?_;rintro ⟨Y,b4,b6,b7,rfl,a0⟩ _ a;rw [Y] at a;exact fin _ _ _ _ _ (by rw [gb,ag h2]) a0 a
   refine a9 ?_;refine aJ (fun h1=>?_) (fun h1=>?_)
   ·have O:0<=u.n/\u.n<26:=by
     rcases a5.kind with e|e|e
     ·exact e.2
     ·exact absurd e.1 h2
     ·have:=e.1;omega
    have c2:=hm.look O.1 O.2;refine ⟨fun D x7 x6 lM rB kI pN pq oV nL ov ny m8 w_=>Fx D 0 [m8=hV G,ny=hV G,ov=hV G,nL=.map (some N),oV=kh b5 1,pq=ee u.n,pN=.tuple #[ee (atV l u.n),.bool (decide (0<=l.at_ u.n))],kI=.tuple #[ee (atV l u.n),.bool (decide (0<=l.at_ u.n))],rB=ee (atV l u.n),lM=.bool (decide (0<=l.at_ u.n)),x6=ee (atV l u.n),x7=.bool (decide (0<=l.at_ u.n))]/\Inv w X ([ei b5 (ku u a2) ac,ei b3 (ku t kv) ac]++d6 G N es U l cv) S w_,⟨Fx.nil _ _,a.draw⟩,⟨?_,?_,?_,?_,?_,?_,?_,?_,?_,?_,?_,?_,trivial⟩,?_⟩;all_goals (intro D bp;intros;rename_i x7 x6 lM rB kI pN pq oV nL ov ny m8 w_ V;have g:=V.1;obtain ⟨⟨cF,ci,cG,cD,bU,cH,cj,cR,dJ,dQ,cJ,dv,_⟩,a⟩:=V)
    ·exact ⟨g.set 0 rfl,a⟩
    ·obtain rfl:=cF ‹_›;refine bh ?_;exact ⟨g.set 1 rfl,a⟩
    ·obtain rfl:=ci ‹_›;refine ax gr ?_;exact ⟨g.set 2 rfl,a⟩
    ·obtain rfl:=cG ‹_›;refine aG a 2 gP rfl rfl ?_;exact ⟨g.set 3 rfl,a⟩
    ·refine ax aR ?_;exact ⟨g.set 4 rfl,a⟩
    ·obtain rfl:=bU ‹_›;refine aG a 0 au rfl rfl ?_;exact ⟨g.set 5 rfl,a⟩
    ·obtain rfl:=cD ‹_›;obtain rfl:=cH ‹_›;refine Gs a 3 gO dS AN rfl c2 ?_;exact ⟨g.set 6 rfl,a⟩
    ·obtain rfl:=cj ‹_›;exact ⟨g.set 7 rfl,a⟩
    ·obtain rfl:=cR ‹_›;refine aA rfl ?_;exact ⟨g.set 8 rfl,a⟩
    ·obtain rfl:=cR ‹_›;refine aA rfl ?_;exact ⟨g.set 9 rfl,a⟩
    ·obtain rfl:=dJ ‹_›;exact ⟨g.set 10 rfl,a⟩
    ·obtain rfl:=dQ ‹_›;exact ⟨g.set 11 rfl,a⟩
    obtain ⟨rfl,rfl,rfl,rfl,rfl,rfl,rfl,rfl,rfl,rfl,rfl,rfl,_⟩:=g.all;clear g cF ci cG cD bU cH cj cR dJ dQ cJ dv;refine aJ (fun h0=>?_) (fun h0=>?_)
    ·rw [show atV l u.n=l.at_ u.n from ag h0];refine lZ ?_;refine Run.call cL cK a (fq ⟨9,l.at_ u.n,j,emptyB⟩ hm (by omega)) fun v' I' S' w'=>?_;rintro ⟨Y,b4,b6,b7,rfl,a0⟩ _ a;rw [Y] at a;exact fin _ _ _ _ _ (by rw [gb,ae h2,ag h1,ag h0]) a0 a
    have e:gb l j u=(l.put u.n l.next).inc.emit ⟨8,l.next,j,emptyB⟩:=by rw [gb,ae h2,ag h1,ae h0]
    have hf:Instr.findNow (.int .i64) (ee u.n) es.toList 0=some none:=by
     rcases hm.find O.1 O.2 with ⟨q,_⟩|⟨_,q⟩
     ·exact absurd q h0
     ·exact q
    have a7:=hm.push Z.len O h0 (v:=l.next) (by omega) U;generalize c5:es.push { key:=ee u.n,val:=ee l.next,born:=U }=a1 at a7;refine ⟨fun D NO CW Cf zh yD uL tq sT w_=>Fx D 0 [sT=hV G,tq=hV G,uL=hV G,yD=.map (some N),zh=kh b5 1,Cf=ee u.n,CW=hV G,NO=ee l.next,True]/\Inv w X ([ei b5 (ku u a2) ac,ei b3 (ku t kv) ac]++d6 G N (cond (D 8) a1 es) (cond (D 8) (U+1) U) (cond (D 7) l.inc l) cv) S w_,⟨Fx.nil _ _,a.draw⟩,⟨?_,?_,?_,?_,?_,?_,?_,?_,?_,trivial⟩,?_⟩;all_goals (intro D bp;intros;rename_i NO CW Cf zh yD uL tq sT w_ V;have g:=V.1;obtain ⟨⟨cF,ci,cG,cD,bU,cH,cj,cR,dJ,_⟩,a⟩:=V)
    ·exact ⟨g.set 0 rfl,a⟩
    ·obtain rfl:=cF ‹_›;refine bh ?_;exact ⟨g.set 1 rfl,a⟩
    ·obtain rfl:=ci ‹_›;refine ax gr ?_;exact ⟨g.set 2 rfl,a⟩
    ·obtain rfl:=cG ‹_›;refine aG a 2 gP rfl rfl ?_;exact ⟨g.set 3 rfl,a⟩
    ·refine ax aR ?_;exact ⟨g.set 4 rfl,a⟩
    ·obtain rfl:=bU ‹_›;refine aG a 0 au rfl rfl ?_;exact ⟨g.set 5 rfl,a⟩
    ·exact ⟨g.set 6 rfl,a⟩
    ·obtain rfl:=cj ‹_›;rw [bp] at a;refine Run.call i5 iU a (qL (s:=l) (by omega)) fun v' I' S' w_=>?_;rintro ⟨Y,rfl,rfl⟩ _ a;rw [Y] at a;exact ⟨g.set 7 rfl,a⟩
    ·obtain rfl:=cD ‹_›;obtain rfl:=cH ‹_›;obtain rfl:=cR ‹_›;rw [bp] at a;refine pA a 3 gO dS rfl hf fun w_ a=>?_;dsimp only [cond_false] at a;rw [c5] at a;exact ⟨g.set 8 trivial,a⟩
    obtain ⟨rfl,rfl,rfl,rfl,rfl,rfl,rfl,rfl,_,_⟩:=g.all;have nI:D 7=true:=by assumption
    have H7:D 8=true:=by assumption
    clear g cF ci cG cD bU cH cj cR dJ;rw [nI,H7] at a;have a:Inv w X ([ei b5 (ku u a2) ac,ei b3 (ku t kv) ac]++d6 G N a1 (U+1) (l.put u.n l.next).inc cv) S w_:=a;have a0:SlM a1 (l.put u.n l.next).inc:=a7;have d7:(l.put u.n l.next).inc.at_ u.n=l.next:=by show (l.put u.n l.next).at_ u.n=_;rw [iz Z.len O O,ag rfl]
    refine ⟨fun D OD L4 WO Vl Uy To SE TQ TM Tq OB w_=>Fx D 0 [OB=hV G,Tq=hV G,TM=hV G,TQ=hV G,SE=.map (some N),To=kh b5 1,Uy=ee u.n,Vl=ee l.next,WO=ee j,L4=.agg (Ist.cells ⟨8,l.next,j,emptyB⟩).toArray,True]/\∃ s' m p r,s'=(cond (D 10) ((l.put u.n l.next).inc.emit ⟨8,l.next,j,emptyB⟩) (l.put u.n l.next).inc)/\SlM m s'/\(D 10=false->m=a1/\p=U+1/\r=cv)/\Inv w X ([ei b5 (ku u a2) ac,ei b3 (ku t kv) ac]++d6 G N m p s' r) S w_,⟨Fx.nil _ _,⟨_,a1,U+1,cv,rfl,a0,fun _=>⟨rfl,rfl,rfl⟩,a.draw⟩⟩,⟨?_,?_,?_,?_,?_,?_,?_,?_,?_,?_,?_,trivial⟩,?_⟩;all_goals (intro D bp;intros;rename_i OD L4 WO Vl Uy To SE TQ TM Tq OB w_ V;have g:=V.1;obtain ⟨⟨cF,ci,cG,cD,bU,cH,cj,cR,dJ,dQ,cJ,_⟩,⟨s',m,p,r,B,C,J,a⟩⟩:=V)
    ·exact ⟨g.set 0 rfl,⟨s',m,p,r,B,C,J,a⟩⟩
    ·exact ⟨g.set 1 rfl,⟨s',m,p,r,B,C,J,a⟩⟩
    ·obtain rfl:=ci ‹_›;refine bh ?_;exact ⟨g.set 2 rfl,⟨s',m,p,r,B,C,J,a⟩⟩
    ·obtain rfl:=cG ‹_›;refine ax gr ?_;exact ⟨g.set 3 rfl,⟨s',m,p,r,B,C,J,a⟩⟩
    ·obtain rfl:=cD ‹_›;refine aG a 2 gP rfl rfl ?_;exact ⟨g.set 4 rfl,⟨s',m,p,r,B,C,J,a⟩⟩
    ·refine ax aR ?_;exact ⟨g.set 5 rfl,⟨s',m,p,r,B,C,J,a⟩⟩
    ·obtain rfl:=cH ‹_›;refine aG a 0 au rfl rfl ?_;exact ⟨g.set 6 rfl,⟨s',m,p,r,B,C,J,a⟩⟩
    ·obtain rfl:=bU ‹_›;obtain rfl:=cj ‹_›;have b0:=C.look O.1 O.2;have c4:s'.at_ u.n=l.next:=by rw [B];cases D 10 <;> exact d7
     rw [atV,c4,ag (by omega),aD (show 0<=l.next by omega)] at b0;refine fA (c:=false) (ok:=true) (v:=ee l.next) (a.its (.blk N (.map m p)) (by simp)) gO dS AN b0 ?_;exact ⟨g.set 7 rfl,⟨s',m,p,r,B,C,J,a⟩⟩
    ·exact ⟨g.set 8 rfl,⟨s',m,p,r,B,C,J,a⟩⟩
    ·obtain rfl:=cR ‹_›;obtain rfl:=dJ ‹_›;refine lZ ?_;exact ⟨g.set 9 rfl,⟨s',m,p,r,B,C,J,a⟩⟩
    ·obtain rfl:=cF ‹_›;obtain rfl:=dQ ‹_›;obtain ⟨b8,c7,c8⟩:=J bp;rw [b8,c7,c8] at a;rw [b8] at C;rw [bp] at B;have B:s'=(l.put u.n l.next).inc:=B;rw [B] at a C;refine Run.call cL cK a (fq ⟨8,l.next,j,emptyB⟩ C (by show l.code.length<=_;omega)) fun v' I' S' w_=>?_;rintro ⟨Y,m,p,r,rfl,C⟩ _ a;rw [Y] at a;obtain ⟨s',b9⟩:∃ s',s'=(l.put u.n l.next).inc.emit ⟨8,l.next,j,emptyB⟩:=⟨_,rfl⟩
     rw [<- b9] at a C;have B:s'=cond (aF D 10 10) ((l.put u.n l.next).inc.emit ⟨8,l.next,j,emptyB⟩) (l.put u.n l.next).inc:=b9;have J:aF D 10 10=false->m=a1/\p=U+1/\r=cv:=fun h=>by cases h
     exact ⟨g.set 10 (by first|assumption|trivial),⟨s',m,p,r,B,C,J,a⟩⟩
    obtain ⟨rfl,rfl,rfl,rfl,rfl,rfl,rfl,rfl,rfl,rfl,xg,_⟩:=g.all;have C3:D 10=true:=by assumption
    clear g cF ci cG cD bU cH cj cR dJ dQ cJ;rw [C3] at B;exact fin _ _ _ _ _ (by rw [B,e];rfl) C a
   have h3:u.kind=3:=by have:=a5.kind;omega
   have i0:=mE u l;refine aq a 0 af rfl rfl ?_;refine Run.call n7 n4 a (LD u S _ G N U es l cv d4 Z hm a5 h3 (by omega)) fun v' I' S' w'=>?_;rintro ⟨rfl,Y,a1,h4,h5,rfl,a7⟩ _ a;rw [Y] at a;have hx:=(lQ u Z a5).1.wf.four;refine lZ ?_;refine Run.call cL cK a (fq ⟨9,(bn u l).2,j,emptyB⟩ a7 (by
    have hb:(bn u l).1.sz<=900000000:=by omega
    unfold CS.sz at hb;omega)) fun v' I' S' w'=>?_
   rintro ⟨Y,b4,b6,b7,rfl,a0⟩ _ a;rw [Y] at a;exact fin _ _ _ _ _ (by rw [gb,ae h2,ae h1]) a0 a
  intro _ _ _ _ _ _ _ _ _ _ _ _ _ _ _ _ _ _ _ _ _ _ _ _ _ _ _ _ _ _ _ _ _ _ _ _ _ _ _ _ _ _ _ _ _ _ _ _ _ _ _ _ _ _ _ _ _ _ _ _ _ _ _ w';rintro ⟨m,p,r,q2,a⟩;refine bL (by omega) ?_;have hz:=(JE l j u).2;exact ⟨⟨j+1,_,m,p,r,a4,rfl,(AB Z j a5).wf,q2,by omega,a6,a⟩,by simp [intOf];omega⟩
 have d9:j=t.kids.length:=by omega
 subst d9;rw [eL,eP] at a6;rw [eL,bo] at b2;rw [a6];have i1:=Z.four;have c3:l.code.length<=900000000:=by
  have hb:l.sz<=900000000:=by omega
  unfold CS.sz at hb;omega
 refine ⟨fun v w'=>v=ee (if gi t=true then 12 else 11)/\Inv w X ([ei b3 (ku t kv) ac]++d6 G N es U l cv) S w',?_,?_⟩
 ·refine aq a 0 af rfl rfl ?_;refine Run.callPure qo qD a (oB hR) fun w' a=>?_;refine aL (fun hb=>?_) (fun hb=>?_)
  ·exact ⟨by rw [ag hb],a⟩
  ·exact ⟨by rw [ae (by rw [hb];decide)],a⟩
 intro o _ _ w';rintro ⟨rfl,a⟩;refine ah a 0 rfl az aw rfl ?_;refine aO a8 ao ?_;refine ah a 0 rfl bu aV rfl ?_;refine Vh ?_;refine Run.call cL cK a (fq ⟨if gi t=true then 12 else 11,t.kids.length,0,t.name⟩ hm (by omega)) fun v' I' S' w'=>?_;rintro ⟨Y,m,p,r,rfl,b1⟩ _ a;rw [Y] at a;exact ⟨_,_,_,rfl,a.sub (fj _ _),Ext.refl _ _ _,rfl,m,p,r,rfl,b1⟩
theorem K5 {q B D:Nat} {C:Array MapEntry} {s:CS} {cv v:Value} {g:List T} {S:ai} (h:RdSl S 4 (RdT S) v g) (hw:Wf s) (Z:SlM C s) (ht:fc g) (hl:s.sz+8 * bo g<=800000000) :
  nB Dp [hV q,v] (d6 q B C D s cv) S fun r I' S'=>S'=S/\∃ l o,I'=d6 q B l o ((dR s g).emit ⟨14,0,0,emptyB⟩) r:=by
 intro w a;obtain ⟨X,hX⟩:∃ X,X=cg (d6 q B C D s cv):=⟨_,rfl⟩
 rw [<- hX] at a ⊢;have U:=h.le;simp only [maxLen] at U;have a5:=hw.four;have a8:=kq g;refine pl.2 ?_;dsimp only[pl,bv];refine aO h ao ?_;refine ⟨fun i w'=>∃ (j:Nat) (m:CS) (l:Array MapEntry) (o:Nat) (G:Value),j<=g.length/\i=ee j/\Wf m/\SlM l m/\m.sz+8 * bo (g.drop j)<=s.sz+8 * bo g/\dR s g=dR m (g.drop j)/\
   Inv w X (d6 q B l o m G) S w',fun i _=>g.length - (intOf i).toNat,
   ⟨0,s,C,D,cv,aT _,rfl,hw,Z,by rw [fe];omega,by rw [fe],a⟩,?_⟩
 intro i _ _ _ _ _ _ _ _ w';rintro ⟨j,m,C,D,cv,hj,rfl,J,Z,O,t,a⟩;refine cd ?_;refine aJ (fun a4=>?_) (fun a4=>?_)
 ·have p:j<g.length:=by omega
  have V:=nr ht _ (cO p);have a9:=ch (g.drop (j+1));rw [mz g j p] at O;rw [CB g m j p] at t;refine dj a h ao af p (fun _ _=>RdT.length) fun ds N=>?_;have Y:=N.length;refine aE a aQ fun b5 w' a=>?_;have a:=a.perm (M:=.blk b5 _::(d6 q B C D m cv)) (bD (l₁:=[_]));refine aj a 0 rfl af (by simpa using Y) rfl (by simpa using N.one) fun w' a=>?_;have a:Inv w X ([ei b5 ds.toArray ac]++d6 q B C D m cv) S w':=a;refine aq a 0 af rfl (by simpa using Y) ?_;refine Run.call Ak At a (Kp N J Z V (by omega)) fun v' I' S' w'=>?_;rintro ⟨eS,a0,a1,a2,rfl,a3⟩ _ a;rw [eS] at a;refine bL (by omega) ?_;have hz:=(Nt m g[j]).2;exact ⟨⟨j+1,_,a0,a1,a2,p,rfl,(tN J V).wf,a3,by omega,t,a.sub (jd _ _)⟩,by simp [intOf];omega⟩
 have a6:j=g.length:=by omega
 subst a6;rw [eL,dR] at t;rw [eL,bo] at O;rw [t];have b0:=J.four;refine Ka ?_;have a:Inv w X ([]++d6 q B C D m cv) S _:=a;refine Run.call cL cK a (fq ⟨14,0,0,emptyB⟩ Z (by
  have hb:m.sz<=900000000:=by omega
  unfold CS.sz at hb;omega)) fun v' I' S' w'=>?_
 rintro ⟨eS,l,o,G,rfl,a7⟩ _ a;rw [eS] at a;have a:Inv w X (d6 q B l o (m.emit ⟨14,0,0,emptyB⟩) G) S w':=a;refine bh ?_;refine ah a 0 rfl qJ ql rfl ?_;exact ⟨_,_,_,rfl,a,Ext.refl _ _ _,rfl,l,o,rfl⟩
end
end
section
open Go Go.RowKit
theorem RdSl.single {α:Type} {S:ai} {k b:Nat} {R:nA->α->Prop} {cs:nA} {x:α} {E:TypeId} {a:Nat × Nat} (g:S b=some (.cells cs.toArray E a)) (j:cs.length=k) (h:R cs x):RdSl S k R (kt b 0 1 1) [x]:=by
 refine ⟨some ⟨b,0,none⟩,1,rfl,aY _,by simp [maxLen],.inr ⟨b,0,cs.toArray,E,a,rfl,g,fun i l=>?_⟩⟩;have:i=0:=by simp at l;omega
 subst this;have e:bJ cs.toArray (0+0 * k) k=cs:=by
  rw [bJ,l5,cS,fe,<- j,g7]
 rw [e];exact h
def apC {α:Type} (w0:World) (X:List Nat) (A:List Item) (T:TypeId) (k:Nat) (R:ai->List Value->α->Prop) (xs:List α) (y:α) (S:ai) (v0 v1 v2:Value) (w:World):Nat->Prop
 | 0=>Inv w0 X A S w
 | 1=>Inv w0 X (A++[aB v0 T k []]) S w
 | 2=>∃ css,Rows k (R S) css xs/\Inv w0 X (A++[aB v1 T k css]) S w
 | _=>RdSl S k (R S) v2 (xs++[y])/\Inv w0 X A S w
section
variable {α:Type} {w0 w:World} {X:List Nat} {A:List Item} {T:TypeId} {k n:Nat} {R:ai->List Value->α->Prop} {xs:List α} {y:α} {S:ai} {v0 v1 v2:Value}
theorem apC.ex (hR:∀ S S' cs x,Sle S S'->R S cs x->R S' cs x) (h:apC w0 X A T k R xs y S v0 v1 v2 w n) :
  ∃ B,Inv w0 X (A++B) S w/\∀ A' S1 g,Sle S S1->Inv w0 X (A'++B) S1 g->apC w0 X A' T k R xs y S1 v0 v1 v2 g n:=by
 match n,h with
 | 0,h=>exact ⟨[],by rw [dk];exact h,fun A' S1 g _ a=>by rw [dk] at a;exact a⟩
 | 1,h=>exact ⟨_,h,fun A' S1 g _ a=>a⟩
 | 2,⟨css,h1,h2⟩=>exact ⟨_,h2,fun A' S1 g i a=>⟨css,h1.monoR fun _ _ h=>hR _ _ _ _ i h,a⟩⟩
 | n+3,⟨h1,h2⟩=>exact ⟨[],by rw [dk];exact h2,fun A' S1 g i a=>⟨h1.mono i fun _ _ h=>hR _ _ _ _ i h,by rw [dk] at a;exact a⟩⟩
theorem apC.inv (h:apC w0 X A T k R xs y S v0 v1 v2 w n):∃ B,Inv w0 X (A++B) S w:=by
 match n,h with
 | 0,h=>exact ⟨[],by rw [dk];exact h⟩
 | 1,h=>exact ⟨_,h⟩
 | 2,⟨css,h1,h2⟩=>exact ⟨_,h2⟩
 | n+3,⟨h1,h2⟩=>exact ⟨[],by rw [dk];exact h2⟩
end
section
variable {α:Type} {P:Program} {w0 w:World} {X:List Nat} {A:List Item} {k:Nat} {R:ai->List Value->α->Prop} {xs:List α} {y:α} {S:ai} {v0 v1 v2:Value} {K:Value->World->Prop}
theorem ZZ {T e:TypeId} {a:Nat} {z:Value} (h:apC w0 X A e k R xs y S v0 v1 v2 w 0) (g:jX P T=some (e,k,a,z))
  (hk:∀ v w',apC w0 X A e k R xs y S v v1 v2 w' 1->K v w'):Run P (cf T 0 []) w K:=by
 have h:Inv w0 X A S w:=h;exact eZ h g fun v w' i=>hk v w' i
theorem ZU {T ty e:TypeId} {a:Nat} {z u:Value} {cs:List Bool} (h:apC w0 X A e k R xs y S v0 v1 v2 w 1) (m:jX P T=some (e,k,a,z)) (i:0<k) (o:RdSl S k (R S) u xs)
  (g:∀ cs y,R S cs y->cs.length=k) (p:∀ cs y,R S cs y->∀ c∈cs,c.oneCell'=true) (q:xs.length<=4294967296) (j:a<=32768)
  (hk:∀ v w',apC w0 X A e k R xs y S v0 v v2 w' 2->K v w'):Run P (co .append #[T,T] ty cs [v0,u]) w K:=by
 have h:Inv w0 X (A++[aB v0 e k []]) S w:=h;refine ge (css:=[]) h A.length m i (by simp) o g p (by simpa using q) j fun v w' css hR l=>?_;refine hk v w' ⟨css,hR,?_⟩;have e:(A++[aB v0 e k []]).set A.length (aB v e k ([]++css))=A++[aB v e k css]:=by simp
 rw [e] at l;exact l
theorem ZR {T ty e:TypeId} {g:Nat} {z u:Value} {cs:List Bool} (hR:∀ S S' cs x,Sle S S'->R S cs x->R S' cs x) (h:apC w0 X A e k R xs y S v0 v1 v2 w 2) (t:jX P T=some (e,k,g,z)) (m:0<k) (B:RdSl S k (R S) u [y])
  (i:∀ cs y,R S cs y->cs.length=k) (C:∀ cs y,R S cs y->∀ c∈cs,c.oneCell'=true) (G:xs.length+1<=4294967296) (o:g<=32768)
  (hk:∀ v S' w',Ext w0.heap.size X S S'->apC w0 X A e k R xs y S' v0 v1 v w' 3->K v w'):Run P (co .append #[T,T] ty cs [v1,u]) w K:=by
 obtain ⟨css,j,h⟩:=h;have D:=j.hc;refine ge (css:=css) h A.length t m (by simp) B i C (by simp;omega) o fun v w' a p l=>?_;have e:(A++[aB v1 e k css]).set A.length (aB v e k (css++a))=A++[aB v e k (css++a)]:=by simp
 rw [e] at l;obtain ⟨S',r,q,l⟩:=Inv.lendExt l;exact hk v S' w' r ⟨RowRd.rows ((j.append p).monoR fun _ _ h=>hR _ _ _ _ r.1 h) q,l⟩
end
end
section
open Go Go.RowKit
def nwP (w0:World) (X:List Nat) (A:List Item) (T:TypeId) (z:Array Value) (Q:ai->Array Value->Prop) (da ds:Bool) (x:Value) (S:ai) (w:World):Prop:=
 ∃ b q,(da=true->x=hV b)/\(ds=true->da=true)/\(ds=false->q=z)/\(ds=true->Q S q)/\Inv w0 X (A++cond da [ei b q T] []) S w
section
variable {w0 w:World} {X:List Nat} {A:List Item} {T:TypeId} {z:Array Value} {Q:ai->Array Value->Prop} {da ds:Bool} {x:Value} {S:ai}
theorem nwP.mk (h:Inv w0 X A S w) (x:Value):nwP w0 X A T z Q false false x S w:=⟨0,z,fun h=>(by cases h),fun h=>(by cases h),fun _=>rfl,fun h=>(by cases h),by rw [cond_false,dk]; exact h⟩
theorem nwP.ex (a:∀ S S' q,Sle S S'->Q S q->Q S' q) (h:nwP w0 X A T z Q da ds x S w):∃ B,Inv w0 X (A++B) S w/\∀ S' w',Sle S S'->Inv w0 X (A++B) S' w'->nwP w0 X A T z Q da ds x S' w':=by
 obtain ⟨b,q,j,l,m,o,p⟩:=h;exact ⟨_,p,fun S' w' g i=>⟨b,q,j,l,m,fun h=>a _ _ _ g (o h),i⟩⟩
theorem nwP.inv (h:nwP w0 X A T z Q da ds x S w):∃ B,Inv w0 X (A++B) S w:=by
 obtain ⟨b,q,g,i,j,l,a⟩:=h;exact ⟨_,a⟩
theorem nwP.fin (h:nwP w0 X A T z Q true true x S w):∃ b q,x=hV b/\Q S q/\Inv w0 X (A++[ei b q T]) S w:=by
 obtain ⟨b,q,a,j,l,g,i⟩:=h;exact ⟨b,q,a rfl,g rfl,i⟩
end
section
variable {P:Program} {w0 w:World} {X:List Nat} {A:List Item} {T:TypeId} {z:Array Value} {Q:ai->Array Value->Prop} {da ds:Bool} {x:Value} {S:ai} {K:Value->World->Prop}
theorem nwP.alloc {ty:TypeId} {j:Value} (h:nwP w0 X A T z Q da ds x S w) (a:da=false) (m:gZ P T=some j) (g:j.cells=z) (hk:∀ v w',nwP w0 X A T z Q true ds v S w'->K v w'):Run P (sOp (.alloc T) ty) w K:=by
 obtain ⟨b,q,r,p,t,B,l⟩:=h;have i:ds=false:=bA.2 fun e=>by rw [p e] at a;cases a
 rw [a,cond_false,dk] at l;refine aE l m fun b w' o=>hk _ w' ⟨b,z,fun _=>rfl,fun _=>rfl,fun _=>rfl,fun e=>(by rw [i] at e;cases e),?_⟩;rw [cond_true,<- g];exact o
theorem nwP.store {ty:TypeId} {n:Nat} {cs:Array Value} (h:nwP w0 X A T z Q da ds x S w) (a:da=true) (l:ds=false) (m:oL P T=some n) (hn:cs.size=n) (o:z.size=n) (p:∀ u∈cs.toList,u.oneCell'=true) (r:Q S cs)
  (hk:∀ w',nwP w0 X A T z Q da true x S w'->K undef w'):Run P (sOp (.store T (.const x) (.const (.agg cs))) ty) w K:=by
 obtain ⟨b,q,i,B,t,C,j⟩:=h;rw [a,cond_true,t l] at j;rw [i a];refine aj (E:=T) j A.length (by simp) m hn o p fun w' g=>?_;have e:(A++[Item.blk b (.cells z T)]).set A.length (ei b cs T)=A++[ei b cs T]:=by simp
 rw [e] at g;exact hk w' ⟨b,cs,i,fun _=>a,fun e=>(by cases e),fun _=>r,by rw [a];exact g⟩
end
def apP {α:Type} (w0:World) (X:List Nat) (A:Value->List Item) (z:Value) (T:TypeId) (k:Nat) (R:ai->List Value->α->Prop) (xs:List α) (y:α) (S0:ai) (d5 d8:Bool) (v0 v1 v5 v2:Value) (w:World) (n:Nat):Prop:=
 ∃ S1 cv,Ext w0.heap.size X S0 S1/\(d5=true->RdSl S1 k (R S1) v5 [y])/\(d8=false->cv=z)/\(d8=true->RdSl S1 k (R S1) cv (xs++[y]))/\apC w0 X (A cv) T k R xs y S1 v0 v1 v2 w n
section
variable {α:Type} {P:Program} {w0 w:World} {X:List Nat} {A:Value->List Item} {z:Value} {e:TypeId} {k:Nat} {R:ai->List Value->α->Prop} {xs:List α} {y:α} {S0:ai} {d5 d8:Bool} {v0 v1 v5 v2:Value} {n:Nat} {K:Value->World->Prop}
theorem apP.mk {S:ai} (h:Inv w0 X (A z) S w) (v0 v1 v5 v2:Value):apP w0 X A z e k R xs y S false false v0 v1 v5 v2 w 0:=⟨S,z,Ext.refl _ _ _,fun h=>(by cases h),fun _=>rfl,fun h=>(by cases h),h⟩
theorem apP.inv (h:apP w0 X A z e k R xs y S0 d5 d8 v0 v1 v5 v2 w n):∃ S1 cv B,Ext w0.heap.size X S0 S1/\Inv w0 X (A cv++B) S1 w:=by
 obtain ⟨S1,cv,a,j,l,m,g⟩:=h;obtain ⟨B,i⟩:=g.inv;exact ⟨S1,cv,B,a,i⟩
theorem apP.inv0 (h:apP w0 X A z e k R xs y S0 d5 d8 v0 v1 v5 v2 w n) (g:d8=false):∃ S1 B,Ext w0.heap.size X S0 S1/\Inv w0 X (A z++B) S1 w:=by
 obtain ⟨S1,cv,i,m,j,o,l⟩:=h;obtain ⟨B,a⟩:=l.inv;rw [j g] at a;exact ⟨S1,B,i,a⟩
theorem apP.fin (h:apP w0 X A z e k R xs y S0 d5 true v0 v1 v5 v2 w 3):∃ S1 cv,Ext w0.heap.size X S0 S1/\RdSl S1 k (R S1) cv (xs++[y])/\Inv w0 X (A cv) S1 w:=by
 obtain ⟨S1,cv,a,j,l,g,i⟩:=h;exact ⟨S1,cv,a,g rfl,i.2⟩
theorem ZP {T:TypeId} {a:Nat} {g:Value} (h:apP w0 X A z e k R xs y S0 d5 d8 v0 v1 v5 v2 w 0) (i:jX P T=some (e,k,a,g))
  (hk:∀ v w',apP w0 X A z e k R xs y S0 d5 d8 v v1 v5 v2 w' 1->K v w'):Run P (cf T 0 []) w K:=by
 obtain ⟨S1,cv,j,l,m,o,p⟩:=h;exact ZZ p i fun v w' h=>hk v w' ⟨S1,cv,j,l,m,o,h⟩
theorem ZS {T ty:TypeId} {a:Nat} {m u:Value} {cs:List Bool} (hR:∀ S S' cs x,Sle S S'->R S cs x->R S' cs x) (h:apP w0 X A z e k R xs y S0 d5 d8 v0 v1 v5 v2 w 1) (o:jX P T=some (e,k,a,m)) (i:0<k) (p:RdSl S0 k (R S0) u xs)
  (g:∀ S cs y,R S cs y->cs.length=k) (q:∀ S cs y,R S cs y->∀ c∈cs,c.oneCell'=true) (r:xs.length<=4294967296) (j:a<=32768)
  (hk:∀ v w',apP w0 X A z e k R xs y S0 d5 d8 v0 v v5 v2 w' 2->K v w'):Run P (co .append #[T,T] ty cs [v0,u]) w K:=by
 obtain ⟨S1,cv,l,t,B,C,D⟩:=h;exact ZU D o i (p.mono l.1 fun _ _ h=>hR _ _ _ _ l.1 h) (g S1) (q S1) r j fun v w' h=>hk v w' ⟨S1,cv,l,t,B,C,h⟩
theorem ZY {T:TypeId} {o:Nat} {D:Value} {cs:nA} (hR:∀ S S' cs x,Sle S S'->R S cs x->R S' cs x) (h:apP w0 X A z e k R xs y S0 d5 d8 v0 v1 v5 v2 w n) (G:jX P T=some (e,k,o,D)) (p:0<k) (g:k<=65536)
  {v:Value} (i:v.cells=cs.toArray) (q:R S0 cs y) (j:∀ S cs y,R S cs y->cs.length=k)
  (hk:∀ v w',apP w0 X A z e k R xs y S0 true d8 v0 v1 v v2 w' n->K v w'):Run P (cf T 1 [(0,v)]) w K:=by
 obtain ⟨S1,cv,r,O,J,M,N⟩:=h;obtain ⟨B,l,a⟩:=N.ex hR;have C:=j _ _ _ q;refine eO l G (by rw [i];simpa using C) g p fun b w' l=>?_;obtain ⟨S2,l,m,t⟩:=Inv.pub1 l;rw [i] at t;exact hk _ w' ⟨S2,cv,r.trans m,fun _=>RdSl.single t C (hR _ _ _ _ (r.trans m).1 q),J,fun e=>(M e).mono m.1 fun _ _ h=>hR _ _ _ _ m.1 h,a _ S2 w' m.1 l⟩
theorem ZN {T ty:TypeId} {a:Nat} {o:Value} {cs:List Bool} (hR:∀ S S' cs x,Sle S S'->R S cs x->R S' cs x) (h:apP w0 X A z e k R xs y S0 d5 d8 v0 v1 v5 v2 w 2) (p:d5=true) (q:jX P T=some (e,k,a,o)) (j:0<k)
  (g:∀ S cs y,R S cs y->cs.length=k) (r:∀ S cs y,R S cs y->∀ c∈cs,c.oneCell'=true) (t:xs.length+1<=4294967296) (l:a<=32768)
  (hk:∀ v w',apP w0 X A z e k R xs y S0 d5 d8 v0 v1 v5 v w' 3->K v w'):Run P (co .append #[T,T] ty cs [v1,v5]) w K:=by
 obtain ⟨S1,cv,B,m,C,D,G⟩:=h;exact ZR hR G q j (m p) (g S1) (r S1) t l fun v S' w' i h=>hk v w' ⟨S',cv,B.trans i,fun e=>(m e).mono i.1 fun _ _ h=>hR _ _ _ _ i.1 h,C,fun e=>(D e).mono i.1 fun _ _ h=>hR _ _ _ _ i.1 h,h⟩
theorem ZX {U ty E:TypeId} {b d:Nat} {A0:List Item} {C:Value->Array Value} (l:∀ v,A v=A0++[ei b (C v) E]) (h:apP w0 X A z e k R xs y S0 d5 d8 v0 v1 v5 v2 w 3) (q:kA P U=true)
  (r:∀ v v',(C v).setIfInBounds d v'=C v') (g:∀ v,d<(C v).size) (hk:∀ w',apP w0 X A z e k R xs y S0 d5 true v0 v1 v5 v2 w' 3->K undef w') :
  Run P (sOp (.store U (.const (kh b d)) (.const v2)) ty) w K:=by
 obtain ⟨S1,cv,t,B,M,N,j,p⟩:=h;rw [l] at p;obtain ⟨a,m,rfl,_⟩:=id j;refine eV p A0.length (b:=b) (o:=d) (E:=E) (c:=C cv) (n:=1) (v:=.slice a (xs++[y]).length m) rfl (by rw [q];simp) (by simp) (by have:=g cv;omega) (by simp [Value.cells,Value.oneCell']) fun w' i=>?_;have D:cu (C cv) d (Value.slice a (xs++[y]).length m).cells.toList=C (.slice a (xs++[y]).length m):=by
  refine Eq.trans ?_ (r cv _);apply Da.1;simp only [cu,W4];have G:d<(C cv).toList.length:=by simpa using g cv
  rw [sx,ag G];simp [Value.cells]
 rw [D] at i;have J:(A0++[Item.blk b (.cells (C cv) E)]).set A0.length (ei b (C (.slice a (xs++[y]).length m)) E)=A (.slice a (xs++[y]).length m):=by rw [l];simp
 rw [J] at i;exact hk w' ⟨S1,_,t,B,fun e=>(by cases e),fun _=>j,j,i⟩
end
end
section
open Go Go.RowKit
theorem CP {k f:Nat} {x:Value}:∀ (css:List (nA)) (j:Nat) (_:∀ cs∈css,cs.length=k) (h:j<css.length) (_:f<k),css.flatten.set (j * k+f) x=(css.set j (css[j].set f x)).flatten
 | [],j,_,h,_=>by simp at h
 | c::css,0,hk,_,hf=>by
  have:=hk c (bF ..);rw [gR,l5,cS,KX _ _ (by omega)];rfl
 | c::css,j+1,hk,h,hf=>by
  have hc:=hk c (bF ..);have g:=CP (x:=x) css j (fun cs a=>hk cs (bI _ a)) (by simpa using h) hf;have e:(j+1) * k+f=c.length+(j * k+f):=by rw [ip,hc];omega
  rw [gR,e,z0 _ _ (by omega),qx,g];rfl
theorem zp (c:Array Value) (p:Nat) (x:Value) (h:p<c.size):(cu c p [x]).toList=c.toList.set p x:=by
 unfold cu;rw [sx,ag (by simpa using h)];simp
theorem Rows.set {α:Type} {k:Nat} {R:nA->α->Prop} {css:List (nA)} {ys:List α} (h:Rows k R css ys) {cs:nA} {y:α} (j:Nat) (hR:R cs y) (a:cs.length=k):Rows k R (css.set j cs) (ys.set j y):=by
 refine ⟨by rw [jj,jj,h.hc],fun c hc=>?_,fun i g l=>?_⟩
 ·rcases Ag hc with hc|rfl
  ·exact h.hk c hc
  ·exact a
 ·rw [FA,FA];split
  ·exact hR
  ·exact h.hR i (by simpa using g) (by simpa using l)
theorem Rows.take {α:Type} {k:Nat} {R:nA->α->Prop} {css:List (nA)} {ys:List α} (h:Rows k R css ys) (n:Nat):Rows k R (css.take n) (ys.take n):=by
 have:=h.hc;refine ⟨by rw [ig,ig,h.hc],fun c hc=>h.hk c (O6 hc),fun i a g=>?_⟩;rw [ig] at a;simp only [RP];exact h.hR i (by omega) (by omega)
section
variable {P:Program} {w w0:World} {X:List Nat} {L:List Item} {S:ai} {K:Value->World->Prop}
theorem Inv.rowPtr (h:Inv w0 X L S w) {i k:Nat} {e:TypeId} {v:Value} {css:List (nA)} (p:L[i]?=some (aB v e k css)) {j:Nat} (o:j<css.length) (hk:∀ cs∈css,cs.length=k) :
  ∃ g cap,v=kt g 0 css.length cap/\(∀ f u,css[j][f]?=some u->w.cell? ⟨g,j * k+f,none⟩=some u):=by
 have q:w.ownsRow 0 e k v css.length css.flatten:=h.its _ (f0 p);rcases q.2 with ⟨_,B⟩|⟨g,cap,m,rfl,C,r,D,G,J,t⟩
 ·omega
 ·refine ⟨g,cap,rfl,fun f u hf=>?_⟩;rw [cell_of_row w g (j * k+f) m e (0,0) r];have a:=iL k css j hk o;have l:f<k:=by have:=(ie.1 hf).1;have:=hk _ (cO o);omega
  rw [<- a,wA,ag l,xy,<- t,wA] at hf;split at hf
  ·simpa using hf
  ·cases hf
theorem Qq (h:Inv w0 X L S w) {T ty e:TypeId} (i:Nat) {g cap k j f a:Nat} {css:List (nA)} {x:Value} (G:L[i]?=some (aB (kt g 0 css.length cap) e k css)) (O:kA P T=true) (J:j<css.length) (hf:f<k) (U:a=j * k+f)
  (p:∀ cs∈css,cs.length=k) (q:x.cells=#[x]) (V:x.oneCell'=true)
  (hk:∀ w',Inv w0 X (L.set i (aB (kt g 0 css.length cap) e k (css.set j (css[j].set f x)))) S w'->K undef w') :
  Run P (sOp (.store T (.const (kh g a)) (.const x)) ty) w K:=by
 subst U;have m:=(ie.1 G).1;have r:=(ie.1 G).2;have Z:List.Perm L ((L.take i++L.drop (i+1))++[aB (kt g 0 css.length cap) e k css]):=by
  conv=>lhs;rw [<- KO i L,ef m,r]
  rw [cN];exact rA _ (bD (l₁:=[_]))
 have l:=h.perm Z.symm;obtain ⟨_,Y⟩:=Inv.openRow l;rcases Y with ⟨t,_⟩|⟨g',N,B,t,o,C,D,ht,l⟩
 ·cases t
 cases t;have a0:j * k+f<css.length * k:=by
  have:(j+1) * k<=css.length * k:=fK k J;rw [ip] at this;omega
 have M:css.length * k<=cap * k:=fK k o;refine eV l (L.take i++L.drop (i+1)).length (n:=1) (by rw [q];rfl) (by rw [O];rfl) (by rw [jV (aY _),fB];rfl) (by omega) (by rw [q];simpa using V) fun w' l=>hk w' ?_;rw [z0 _ _ (aY _),fB] at l;have l:Inv w0 X ((L.take i++L.drop (i+1))++[ei g (cu B (j * k+f) x.cells.toList) e]) S w':=l;rw [show x.cells.toList=[x] by rw [q]] at l;have l:=Inv.closeRow (n:=css.length) (cap:=cap) (k:=k) l o C (by rw [gw _ _ _ (by simp;omega)];exact D);rw [zp _ _ _ (by omega),List.take_set,ht,CP css j p J hf] at l;refine l.perm ?_;rw [sx,ag m,cN];refine rA _ ?_;rw [show Item.row (kt g 0 css.length cap) e k css.length (css.set j (css[j].set f x)).flatten=aB (kt g 0 css.length cap) e k (css.set j (css[j].set f x)) by simp [aB]];exact (bD (l₁:=[_]))
end
end
section
open Go Go.RowKit
def cZ (_:ai) (cs:List Value) (x:Ist):Prop:=cs=x.cells
theorem Xp (S S':ai) (cs:nA) (x:Ist) (_:Sle S S') (h:cZ S cs x):cZ S' cs x:=h
theorem UY (S:ai) (cs:nA) (x:Ist) (h:cZ S cs x):cs.length=4:=by rw [cZ] at h; rw [h]; rfl
theorem YD (S:ai) (cs:nA) (x:Ist) (h:cZ S cs x):∀ c∈cs,c.oneCell'=true:=by rw [cZ] at h; rw [h]; exact x.one
theorem RdSl.monoK {S S':ai} {v:Value} {xs:List Ist} (a:Sle S S') (h:RdSl S 4 (cZ S) v xs):RdSl S' 4 (cZ S') v xs:=h.mono a fun _ _ h=>h
theorem RdSl.monoN {S S':ai} {v:Value} {xs:List Int} (a:Sle S S') (h:RdSl S 1 kH v xs):RdSl S' 1 kH v xs:=h.mono a fun _ _ h=>h
def MkS (S:ai) (cs:List Value) (s:CS):Prop:=∃ v1 v2,cs=[v1,ee s.next,v2]/\RdSl S 1 kH v1 s.sl/\RdSl S 4 (cZ S) v2 s.code
theorem MkS.mono {S S':ai} {cs:nA} {s:CS} (a:Sle S S') (h:MkS S cs s):MkS S' cs s:=by
 obtain ⟨v1,v2,rfl,g,i⟩:=h;exact ⟨v1,v2,rfl,g.monoN a,i.monoK a⟩
theorem MkS.length {S:ai} {cs:nA} {s:CS} (h:MkS S cs s):cs.length=3:=by obtain ⟨v1,v2,rfl,_⟩:=h; rfl
theorem MkS.one {S:ai} {cs:nA} {s:CS} (h:MkS S cs s):∀ u∈cs,u.oneCell'=true:=by
 obtain ⟨v1,v2,rfl,⟨a,c,rfl,_⟩,⟨i,j,rfl,_⟩⟩:=h;intro u g;simp only [dK,vR,vY] at g;rcases g with rfl|rfl|rfl <;> rfl
abbrev HG (s:CS):Value->List Item->ai->Prop:=fun v I' S'=>I'=[]/\∃ cs,v=.agg cs.toArray/\MkS S' cs s
section
theorem dy {s:CS} (x:Ist) {S:ai} {cs:nA} (h:MkS S cs s) (hl:s.code.length<=1000000000):nB O5 [.agg cs.toArray,.agg x.cells.toArray] [] S (HG (s.emit x)):=by
 intro w l;obtain ⟨v1,v2,rfl,h1,h2⟩:=h;refine Bd.2 ?_;dsimp only[Bd,bv];refine bH l fun O w' l=>?_;refine bH l fun b3 w' l=>?_;refine aE l fJ fun b4 w' l=>?_;obtain ⟨B3,U⟩:∃ B3,B3=Item.blk b3 (.cells x.cells.toArray ay):=⟨_,rfl⟩
 obtain ⟨B4,V⟩:∃ B4,B4=Item.blk b4 (.cells #[nx,ee 0,nx] aC):=⟨_,rfl⟩
 have l:Inv w [] ([B3,B4]++[ei O #[v1,ee s.next,v2] aC]) S w':=by
  rw [U,V];exact l.perm (bD (l₁:=[_,_]) (l₂:=[_]))
 have e3:=congrArg some U;have e4:=congrArg some V;refine ⟨fun D GI Z ux x9 x8 x7 x6 x5 t=>Fx D 0 [True,x6=kh O 2,x7=v2,True,x9=.agg x.cells.toArray,True,True,GI=kh O 2,True]/\∃ o:Nat,o<=3/\D 0=decide (1<=o)/\D 3=decide (2<=o)/\D 6=decide (3<=o)/\(apP w [] (fun cv=>[B3,B4]++[ei O #[v1,ee s.next,cv] aC]) v2 ay 4 cZ s.code x S (D 5) (D 8) x5 x8 ux Z t o/\(D 8=true->D 2=true)),⟨Fx.nil _ _,⟨0,aT _,rfl,rfl,rfl,⟨apP.mk l.draw _ _ _ _,aU⟩⟩⟩,⟨?_,?_,?_,?_,?_,?_,?_,?_,?_,trivial⟩,?_⟩;all_goals (intro D M;intros;rename_i GI Z ux x9 x8 x7 x6 x5 t N;have m:=N.1;obtain ⟨⟨cF,ci,cG,cD,bU,cH,cj,cR,dJ,_⟩,⟨o,p,i,j,g,a⟩⟩:=N)
 ·obtain rfl:o=0:=jv i M;refine ZP a.1 gS fun v t q=>?_;exact ⟨m.set 0 (by first|assumption|trivial),⟨1,by decide,rfl,(by first|exact j|rfl),(by first|exact g|rfl),⟨q,a.2⟩⟩⟩
 ·refine ax vp ?_;exact ⟨m.set 1 rfl,⟨o,p,i,j,g,a⟩⟩
 ·obtain rfl:=ci ‹_›;have dJ:D 8=false:=bA.2 fun h=>by rw [a.2 h] at M;cases M
  obtain ⟨S5,B,r,l⟩:=a.1.inv0 dJ;refine aG l 2 ql rfl rfl ?_;have a:=And.intro a.1 (fun (_:aF D 2 8=true)=>(rfl:aF D 2 2=true));exact ⟨m.set 2 (by first|assumption|trivial),⟨o,p,i,j,g,a⟩⟩
 ·have Tn:=cF ‹_›;have Vf:=cG ‹_›;obtain rfl:o=1:=gg i ‹D 0=true› j M;refine ZS Xp a.1 gS (by omega) (by rw [Vf];exact h2) UY YD (by omega) (by omega) fun v t q=>?_;exact ⟨m.set 3 (by first|assumption|trivial),⟨2,by decide,(by first|exact i|rfl),rfl,(by first|exact g|rfl),⟨q,a.2⟩⟩⟩
 ·obtain ⟨S5,cv,B,r,l⟩:=a.1.inv;refine aq l 0 dF e3 rfl ?_;exact ⟨m.set 4 rfl,⟨o,p,i,j,g,a⟩⟩
 ·obtain rfl:=bU ‹_›;refine ZY Xp a.1 gS (by omega) (by omega) (cs:=x.cells) rfl rfl UY fun v t q=>?_;have a:=And.intro q a.2;exact ⟨m.set 5 (by first|assumption|trivial),⟨o,p,i,j,g,a⟩⟩
 ·have OA:=cD ‹_›;have zM:=cH ‹_›;obtain rfl:o=2:=gg j ‹D 3=true› g M;refine ZN Xp a.1 ‹D 5=true› gS (by omega) UY YD (by omega) (by omega) fun v t q=>?_;exact ⟨m.set 6 (by first|assumption|trivial),⟨3,by decide,(by first|exact i|rfl),(by first|exact j|rfl),rfl,⟨q,a.2⟩⟩⟩
 ·refine ax vp ?_;exact ⟨m.set 7 rfl,⟨o,p,i,j,g,a⟩⟩
 ·obtain rfl:=cR ‹_›;have vV:=cj ‹_›;have Y:=jD p g ‹D 6=true›;have J:=a.1;rw [Y] at J;rw [M] at J;refine ZX (C:=fun cv=>#[v1,ee s.next,cv]) (fun _=>rfl) J ql (fun _ _=>rfl) (fun _=>show 2<3 by decide) fun t a0=>?_;have a1:apP w [] (fun cv=>[B3,B4]++[ei O #[v1,ee s.next,cv] aC]) v2 ay 4 cZ s.code x S (aF D 8 5) (aF D 8 8) x5 x8 ux Z t o:=by rw [Y];exact a0
  have a:=And.intro a1 (fun (_:aF D 8 8=true)=>(‹D 2=true›:aF D 8 2=true));exact ⟨m.set 8 trivial,⟨o,p,i,j,g,a⟩⟩
 obtain rfl:o=3:=jD p g ‹D 6=true›;have H7:D 8=true:=by assumption
 clear i j g;have a:=a.1;rw [H7] at a;obtain ⟨S5,cv,r,G,l⟩:=a.fin;obtain ⟨ca,cc,rfl,_⟩:=id G;refine aq l 2 aH rfl rfl ?_;refine aj l 1 e4 aH rfl rfl ?_ fun w' l=>?_
 ·exact (MkS.one (S:=S5) (s:=s.emit x) ⟨v1,_,rfl,h1.monoN r.1,G⟩)
 refine be l 1 aH rfl rfl ?_;exact ⟨_,_,S5,rfl,l.nil,r,rfl,_,rfl,v1,_,rfl,h1.monoN r.1,G⟩
theorem qw {s:CS} {n k:Int} {S:ai} {cs:nA} (h:MkS S cs s) (Y:s.sl.length=26) (hn:0<=n/\n<26):nB Pi [.agg cs.toArray,ee n,ee k] [] S (HG (s.put n k)):=by
 intro w l;obtain ⟨v1,v2,rfl,B,U⟩:=h;refine Bu.2 ?_;dsimp only[Bu,eX];refine bH l fun b3 w' l=>?_;refine aE l fJ fun r w' l=>?_;refine eZ l iX fun v w' l=>?_;have l:Inv w [] [ei b3 #[v1,ee s.next,v2] aC,ei r #[nx,ee 0,nx] aC,aB v bV 1 []] S w':=l;refine ah l 0 rfl eQ gU rfl ?_;refine ge (css:=[]) l 2 iX (by omega) rfl B (fun _ _ h=>by rw [h];rfl) (fun _ _ h=>by rw [h];simp [Value.oneCell']) (by simp;omega) (by omega) fun t w' css hR l=>?_;have l:Inv w [] [ei b3 #[v1,ee s.next,v2] aC,ei r #[nx,ee 0,nx] aC,aB t bV 1 css] S w':=l;have G:=hR.hc;have q:=fP (l.its (aB t bV 1 css) (by simp));refine cq l 0 rfl eQ gU rfl q.1 q.2 fun w' l=>?_;have l:Inv w [] [ei b3 #[t,ee s.next,v2] aC,ei r #[nx,ee 0,nx] aC,aB t bV 1 css] S w':=l;refine ah l 0 rfl eQ gU rfl ?_;obtain ⟨m,rfl⟩:∃ m:Nat,n=(m:Int):=⟨n.toNat,by omega⟩
 have C:m<css.length:=by omega
 obtain ⟨g,cap,rfl,_⟩:=l.rowPtr (i:=2) rfl C hR.hk;refine aN ff C ?_;refine Qq l 2 (j:=m) (f:=0) rfl au C (by omega) (by omega) hR.hk rfl rfl fun w' l=>?_;have o:=hR.hk _ (cO C);have V:css[m].set 0 (ee k)=[ee k]:=by
  match hc:css[m],o with
  | [a],_=>rfl
 rw [V] at l;refine aq l 0 aH rfl rfl ?_;refine aj l 1 rfl aH rfl rfl ?_ fun w' l=>?_
 ·obtain ⟨Z,c',rfl,_⟩:=U;intro u N;simp only [dK,vR,vY] at N;rcases N with rfl|rfl|rfl <;> rfl
 refine be l 1 aH rfl rfl ?_;have l:Inv w [] ([ei b3 #[kt g 0 css.length cap,ee s.next,v2] aC,ei r #[kt g 0 css.length cap,ee s.next,v2] aC]++[aB (kt g 0 css.length cap) bV 1 (css.set m [ee k])]) S w':=by
  have e:aB (kt g 0 css.length cap) bV 1 (css.set m [ee k])=aB (kt g 0 css.length cap) bV 1 (css.set m [ee k]):=rfl;exact l
 obtain ⟨S3,p,D,l⟩:=l.lendExt;have J:Rows 1 kH (css.set m [ee k]) (s.sl.set m k):=by
  refine ⟨by rw [jj,jj,G],fun c hc=>?_,fun i O B=>?_⟩
  ·rcases Ag hc with hc|rfl
   ·exact hR.hk c hc
   ·rfl
  ·rw [FA,FA];split
   ·rfl
   ·exact hR.hR i (by rw [jj] at O;exact O) (by rw [jj] at B;exact B)
 have M:=RowRd.rows J D;exact ⟨_,_,S3,rfl,l.nil,p,rfl,[kt g 0 css.length cap,ee s.next,v2],rfl,_,_,rfl,by show RdSl S3 1 kH _ (s.sl.set (m:Int).toNat k);rw [dH];exact M,U.monoK p.1⟩
end
end
section
open Go Go.RowKit
structure Gn (s s':CS):Prop where
 next:s.next<=s'.next
 len:s'.sl.length=s.sl.length
theorem Gn.refl (s:CS):Gn s s:=⟨fT _,rfl⟩
theorem Gn.trans {s s' a:CS} (h:Gn s s') (g:Gn s' a):Gn s a:=⟨RZ h.next g.next,g.len.trans h.len⟩
theorem Gn.emit (s:CS) (x:Ist):Gn s (s.emit x):=⟨fT _,rfl⟩
theorem Gn.inc (s:CS):Gn s s.inc:=⟨by show s.next<=s.next+1; omega,rfl⟩
theorem Gn.put (s:CS) (n v:Int):Gn s (s.put n v):=⟨fT _,jj ..⟩
theorem Ll (s:CS) (t:T):Gn s (fy s t):=by
 unfold fy;split
 ·exact .emit s _
 ·split
  ·exact .emit s _
  ·exact ((Gn.put s _ _).trans (.emit _ _)).trans (.inc _)
theorem Rf (s:CS) (t:T):Gn s (cT s t).1:=by
 unfold cT;split
 ·exact (Gn.emit s _).trans (.inc _)
 ·exact Ll s t
theorem EN:∀ (ts:List T) (s:CS),Gn s (bE s ts).1
 | [],s=>.refl s
 | t::ts,s=>by rw [bE];exact (Rf s t).trans (EN ts _)
theorem Oh:∀ (ts:List T) (vs:List Int) (s:CS),Gn s (dd s ts vs)
 | [],vs,s=>by rw [dd];exact .refl s;all_goals simp
 | t::ts,[],s=>by rw [dd];exact .refl s;all_goals simp
 | t::ts,v::vs,s=>by
  rw [dd];have a:Gn s (if t.kind=3 then s.emit ⟨5,v,0,emptyB⟩ else fy s t):=by
   split
   ·exact .emit s _
   ·exact Ll s t
  exact a.trans (Oh ts vs _)
mutual
theorem tG:∀ (t:T) (s:CS),Gn s (bn t s).1/\s.next<=(bn t s).2
 | .mk k n nm ks,s=>by
  rw [bn];have a:=Ga ks s;exact ⟨((a.1.trans (.emit _ _)).trans (.inc _)).trans (Oh ks _ _),a.1.next⟩
theorem Ga:∀ (ts:List T) (s:CS),Gn s (bw ts s).1/\(0<=s.next->∀ i (h:i<ts.length) (q:i<(bw ts s).2.length),(ts[i].kind=3->0<=(bw ts s).2[i])/\(ts[i].kind≠3->(bw ts s).2[i]=-1))
 | [],s=>by rw [bw]; exact ⟨.refl s,fun _ i h=>absurd h (Nat.not_lt_zero _)⟩
 | t::ts,s=>by
  rw [bw];have l:Gn s (if t.kind=3 then bn t s else (s,-1)).1/\(0<=s.next->(t.kind=3->0<=(if t.kind=3 then bn t s else (s,-1)).2)/\(t.kind≠3->(if t.kind=3 then bn t s else (s,-1)).2=-1)):=by
   split
   ·rename_i a
    obtain ⟨p,r⟩:=tG t s;exact ⟨p,fun g=>⟨fun _=>by omega,fun h=>absurd a h⟩⟩
   ·rename_i a
    exact ⟨.refl s,fun _=>⟨fun h=>absurd h a,fun _=>rfl⟩⟩
  have m:=Ga ts (if t.kind=3 then bn t s else (s,-1)).1;refine ⟨l.1.trans m.1,fun g i o j=>?_⟩;cases i with
  | zero=>exact l.2 g
  | succ i=>exact m.2 (RZ g l.1.next) i (by simpa using o) (by simpa using j)
end
theorem Ro (s:CS) (i:Int) (t:T):Gn s (gb s i t):=by
 unfold gb;split
 ·exact .emit s _
 ·split
  ·split
   ·exact .emit s _
   ·exact ((Gn.put s _ _).trans (.inc _)).trans (.emit _ _)
  ·exact (tG t s).1.trans (.emit _ _)
theorem L6:∀ (ts:List T) (s:CS) (i:Int),Gn s (eP s i ts)
 | [],s,i=>.refl s
 | t::ts,s,i=>by rw [eP];exact (Ro s i t).trans (L6 ts _ _)
theorem U4 (s:CS) (g:T):Gn s (fM s g):=by
 unfold fM;split
 ·exact .emit s _
 ·exact (L6 g.kids s 0).trans (.emit _ _)
theorem MR (s:CS) (i:Int) (t:T):Gn s (bP s i t).1:=by
 unfold bP;split
 ·exact .emit s _
 ·split
  ·show Gn s (if 0<=s.at_ t.n then s.emit ⟨1,s.at_ t.n,i,emptyB⟩ else s.put t.n i);split
   ·exact .emit s _
   ·exact .put s _ _
  ·exact .refl s
theorem Iv:∀ (ts:List T) (s:CS) (i:Int),Gn s (bz s i ts).1
 | [],s,i=>.refl s
 | t::ts,s,i=>by rw [bz];exact (MR s i t).trans (Iv ts _ _)
theorem RK:∀ (f:Nat) (s:CS) (q:List (T × Int)),Gn s (fC f s q)
 | 0,s,q=>.refl s
 | f+1,s,[]=>.refl s
 | f+1,s,x::q=>by
  rw [fC];exact ((Gn.emit s _).trans (EN _ _)).trans (RK f _ _)
theorem UP (s:CS) (ks:List T):Gn s (gq s ks):=(Iv ks s 0).trans (RK _ _ _)
end
section
open Go Go.RowKit
def QOK (e:TypeId) (k:Nat) (v:Value) (it:Item) (css:List (List Value)):Prop:=
 (∀ cs∈css,cs.length=k)/\((v=nx/\css=[]/\it=.row (nx) e k 0 []) ∨
  ∃ g o cap cur,v=kt g (o * k) css.length cap/\it=ei g cur e/\css.length<=cap/\cap<=maxLen/\(o+cap) * k<=cur.size/\∀ i (h:i<css.length),bJ cur ((o+i) * k) k=css[i])
section
variable {P:Program} {w w0:World} {X:List Nat} {L:List Item} {S:ai} {K:Value->World->Prop}
theorem QOK.slice {e:TypeId} {k:Nat} {v:Value} {it:Item} {css:List (nA)} (h:QOK e k v it css):∃ a cap,v=.slice a css.length cap:=by
 rcases h.2 with ⟨rfl,rfl,_⟩|⟨g,o,cap,i,rfl,_⟩
 ·exact ⟨none,0,rfl⟩
 ·exact ⟨_,cap,rfl⟩
theorem Inv.toQ (h:Inv w0 X L S w) {i k:Nat} {e:TypeId} {v:Value} {css:List (nA)} (l:L[i]?=some (aB v e k css)) (hk:∀ cs∈css,cs.length=k):∃ it,QOK e k v it css/\Inv w0 X (L.set i it) S w:=by
 have r:w.ownsRow 0 e k v css.length css.flatten:=h.its _ (f0 l);rcases r.2 with ⟨rfl,t⟩|⟨g,cap,a,rfl,J,B,C,D,M,G⟩
 ·have hc:css=[]:=jM t;subst hc;refine ⟨.row (nx) e k 0 [],⟨hk,.inl ⟨rfl,rfl,rfl⟩⟩,?_⟩;have:L.set i (.row (nx) e k 0 [])=L:=by
   apply Oi;intro j;rw [BN];split
   ·rename_i q
    subst q;rw [ag (ie.1 l).1,l];rfl
   ·rfl
  rw [this];exact h
 ·refine ⟨ei g a e,⟨hk,.inr ⟨g,0,cap,a,by rw [l5],rfl,C,D,by rw [cS];omega,fun j o=>?_⟩⟩,?_⟩
  ·rw [cS,<- iL k css j hk o,<- G];unfold bJ;have m:(j+1) * k<=css.length * k:=fK k o;rw [hY,oD] at m;rw [IQ,EZ,AO (by omega)]
  ·refine h.change l (aY _) rfl rfl rfl (fun _ _ _=>rfl) B (fun b p=>.inl ?_) (by simp [Item.foot]);simp only [Item.foot,bM] at p;subst p;simp [Item.foot,Value.ownBlock]
theorem QOK.tail {e:TypeId} {k:Nat} {it:Item} {cs:nA} {css:List (nA)} {a:Option Addr} {n cap:Nat} (h:QOK e k (.slice a n cap) it (cs::css)):QOK e k (.slice (if cap=1 then a else a.map (·.add (1 * k))) (n - 1) (cap - 1)) it css:=by
 refine ⟨fun c hc=>h.1 c (bI _ hc),.inr ?_⟩;rcases h.2 with ⟨_,t,_⟩|⟨g,o,m,j,p,rfl,B,D,q,C⟩
 ·cases t
 ·simp only [Value.slice.injEq,aP] at p B;obtain ⟨rfl,rfl,rfl⟩:=p;by_cases r:cap=1
  ·subst r;have hc:css=[]:=jM (by omega);subst hc;exact ⟨g,o,0,j,by rw [ag rfl];rfl,rfl,aY _,by simp [maxLen],il (fK k (by omega)) q,fun i l=>absurd l (Nat.not_lt_zero _)⟩
  ·refine ⟨g,o+1,cap - 1,j,?_,rfl,by omega,by omega,?_,fun i l=>?_⟩
   ·rw [ae r,jz,add_lit,hY,oD];rfl
   ·rw [show o+1+(cap - 1)=o+cap by omega];exact q
   ·have:=C (i+1) (by simpa using l);rw [show o+(i+1)=o+1+i by omega] at this;simpa using this
theorem Af (t ty e:TypeId) (i:TypeInfo) (G:P.underlying t=some (.slice e)) (J:P.info? e=some i)
  (g o l p:Nat) (q:Array Value) (M:w.heap[g]?=some (.cells q e (0,0)))
  (a:Addr) (m c:Nat) (h:nA) (N:h.length=m * i.size) (r:∀ j u,h[j]?=some u->w.cell? (a.add j)=some u) (O:∀ u∈h,u.oneCell'=true)
  (B:l+m<=p) (C:o+l * i.size+h.length<=q.size) :
  (Builtin.append_ #[t,t] ty #[kt g o l p,.slice (some a) m c]).run P w =
   .ok (kt g o (l+m) p) (w.setRow g (cu q (o+l * i.size) h)):=by
 have hf:=run_firstCells_some (P:=P) w i.size m a m c h N r;have D:=run_storeCells_at P g (o+l * i.size) e h 0 q w M (by simpa using C) O;simp only [s4] at D;simp [Builtin.append_,run_underlying G,sizeOf,typeInfo,J,Builtin.lenOf,B,hf,Addr.add_lit,D,cu]
section
theorem Up {T ty e:TypeId} {k:Nat} {v:Value} {it:Item} {cs:nA} {css:List (nA)} (h:dI P T=some (e,k)) (g:QOK e k v it (cs::css)) (hk:∀ v',QOK e k v' it css->K v' w):Run P (sOp (.slice T (.const v) (some (.const (ee (1:Nat)))) none none) ty) w K:=by
 obtain ⟨a,cap,rfl⟩:=g.slice;exact MP h (by simp) (hk _ g.tail)
theorem WH (h:Inv w0 X L S w) (i:Nat) {T U ty a e:TypeId} {k:Nat} {v:Value} {it:Item} {cs:nA} {css:List (nA)} (r:L[i]?=some it) (t:dI P T=some (e,k)) (B:oL P U=some k) (q:QOK e k v it (cs::css)) {K:Value->Value->World->Prop} (hk:∀ p,K p (.agg cs.toArray) w) :
  Run P (sOp (.indexAddr T (.const v) (.const (ee (0:Nat)))) ty) w fun p w'=>Run P (sOp (.load U (.const p)) a) w' (K p):=by
 rcases q.2 with ⟨_,l,_⟩|⟨g,o,cap,D,rfl,rfl,G,J,M,m⟩
 ·cases l
 ·refine aN t (by simp) ?_;have l:=m 0 (by simp);refine gd h i cs B r (q.1 cs (bF ..)) (fun j u C=>?_) (hk _);have:=bf l j u (by simpa using C);rw [s4] at this;rw [l5,s4];exact this
theorem Se (h:Inv w0 X L S w) {T ty e:TypeId} {k O b o' cp:Nat} {z v:Value} {cs:List Bool} {css:List (nA)} {it:Item} (i:Nat) (a:nA)
  (hT:jX P T=some (e,k,O,z)) (U:0<k) (V:L[i]?=some it) (N:QOK e k v it css) (r:a.length=k)
  (t:∀ j u,a[j]?=some u->w.cell? ⟨b,o'+j,none⟩=some u) (h1:∀ u∈a,u.oneCell'=true) (Y:css.length+1<=4294967296) (Z:O<=32768)
  (hk:∀ v' it' w',QOK e k v' it' (css++[a])->Inv w0 X (L.set i it') S w'->K v' w') :
  Run P (co .append #[T,T] ty cs [v,kt b o' 1 cp]) w K:=by
 have G:∀ c∈css++[a],c.length=k:=fun c hc=>by
  rcases cU.1 hc with hc|hc
  ·exact N.1 c hc
  ·rw [bM.1 hc];exact r
 rcases N.2 with ⟨rfl,rfl,rfl⟩|⟨g,o,cap,p,rfl,rfl,c1,b8,a7,a8⟩
 ·refine fl h i (m:=1) (n:=0) (xs:=[]) a hT U V (by rw [r,oD]) t h1 (by omega) Z fun v' w' hI=>?_;have a1:i<L.length:=(ie.1 V).1;have e1:Item.row v' e k (0+1) ([]++a)=aB v' e k [a]:=by simp [aB]
  rw [e1] at hI;obtain ⟨it',q1,q2⟩:=hI.toQ (i:=i) (by rw [Nl a1]) (fun c hc=>by rw [bM.1 hc];exact r);rw [List.set_set] at q2;exact hk v' it' w' q1 q2
 ·obtain ⟨hu,D,a0,hz,hs,hb,a9⟩:=kN hT;have hg:w.heap[g]?=some (.cells p e):=h.its _ (f0 V);have q:∀ j u,a[j]?=some u->w.cell? ((⟨b,o',none⟩:Addr).add j)=some u:=fun j u B=>by rw [add_lit];exact t j u B
  have a2:a.length=1 * D.size:=by rw [hs,oD];exact r
  by_cases C:css.length+1<=cap
  ·have b9:(o+(css.length+1)) * k<=p.size:=il (fK k (by omega)) a7;have l:o * k+css.length * k+k<=p.size:=by
    have e2:(o+(css.length+1)) * k=o * k+css.length * k+k:=by rw [hY,hY,oD];omega
    omega
   have hr:=Af (P:=P) (w:=w) T ty e D hu a0 g (o * k) css.length cap p hg ⟨b,o',none⟩ 1 cp a a2 q h1 C (by rw [hs,r];exact l);rw [IJ hg,hs] at hr;have b3:=gw p (o * k+css.length * k) a (by rw [r];exact l);refine Run.of (v:=_) (w':=_) (by simp only [co,builtin];simp [hr];rfl) (hk _ (ei g (cu p (o * k+css.length * k) a) e) _ ⟨G,.inr ⟨g,o,cap,_,by rw [bt];rfl,rfl,by rw [bt];exact C,b8,by rw [b3];exact a7,fun j B=>?_⟩⟩ (h.setBlk V _ rfl));rw [bt,lG] at B;by_cases ej:j=css.length
   ·subst ej;have:=gE (c:=p) (o:=o * k+css.length * k) (vs:=a) (by rw [r];exact l);rw [r] at this;rw [hY,this];simp
   ·have J:j<css.length:=by omega
    rw [qR J,<- a8 j J];refine iF (by rw [r];exact l) (.inl ?_);have e3:(j+1) * k<=css.length * k:=fK k J;rw [hY,oD] at e3;rw [hY];omega
  ·have a3:∀ j u,css.flatten[j]?=some u->w.cell? ((⟨g,o * k,none⟩:Addr).add j)=some u:=fun j u B=>by
    rw [add_lit,cell_of_row w g (o * k+j) p e (0,0) hg];have b4:css.flatten.length=css.length * k:=lO N.1;have b5:j<css.length * k:=by rw [<- b4];exact (ie.1 B).1
    have hd:j / k<css.length:=Nat.div_lt_of_lt_mul (by rw [Nat.mul_comm];exact b5);have hm:j % k<k:=AU _ U;have a4:j=(j / k) * k+j % k:=by rw [Nat.mul_comm];exact (Nat.div_add_mod j k).symm
    have h9:=iL k css (j / k) N.1 hd;rw [<- a8 (j / k) hd] at h9;have e5:css.flatten[j]?=(List.take k (css.flatten.drop ((j / k) * k)))[j % k]?:=by
     rw [wA,ag hm,xy,<- a4]
    rw [e5,h9] at B;have:=bf (c:=p) rfl (j % k) u B;rw [hY,Nat.add_assoc,<- a4] at this;exact this
   have hr:=run_append_grow (P:=P) (w:=w) T ty e D z hu a0 hz ⟨g,o * k,none⟩ css.length cap css.flatten (by rw [hs];exact lO N.1) a3 ⟨b,o',none⟩ 1 cp a a2 q (by omega) (by omega) (by
    rw [hb];exact growslice_fits (by omega) (il (Kl Y Z) (by decide)))
   have b6:=grownCap_ge w (css.length+1) cap e;have a5:grownCap w (css.length+1) cap e<=maxLen:=grownCap_le_maxLen w _ cap e (by simp only [maxLen];omega);have M:css.flatten.length=css.length * k:=lO N.1;have b7:(Builtin.zeroCells z.cells (grownCap w (css.length+1) cap e - (css.length+1))).size=(grownCap w (css.length+1) cap e - (css.length+1)) * k:=by rw [size_zeroCells,a9]
   obtain ⟨v2,w2,b0,b1,b2⟩:∃ v2 w2,v2=_/\w2=_/\(Builtin.append_ #[T,T] ty #[kt g (o * k) css.length cap,kt b o' 1 cp]).run P w=.ok v2 w2:=⟨_,_,rfl,rfl,hr⟩
   refine Run.of (v:=v2) (w':=w2) (by simp [co,builtin,b2]) ?_;subst b0 b1;refine (hk _ (.blk w.heap.size (.cells (css.flatten.toArray++a.toArray++Builtin.zeroCells z.cells (grownCap w (css.length+1) cap e - (css.length+1))) e)) _ ⟨G,.inr ⟨w.heap.size,0,_,_,by rw [bt,l5];rfl,rfl,by rw [bt];exact b6,a5,?_,fun j B=>?_⟩⟩ ?_)
   ·rw [cS,Array.size_append,Array.size_append,Pq,Pq,M,r,b7,<- ip,<- hY];exact fK k (by omega)
   ·rw [bt,lG] at B;have a6:(css++[a]).flatten=css.flatten++a:=by simp
    have h9:=iL k (css++[a]) j G (by rw [bt];exact B);rw [<- h9,a6];unfold bJ;have e3:(j+1) * k<=(css.length+1) * k:=fK k B;rw [hY,oD,hY,oD] at e3;simp only [Array.toList_append,cS];rw [Q0 (by rw [bt,M,r];omega),Pb (by rw [mj,bt,M,r];omega)]
   ·refine h.change V (by simp) rfl rfl rfl (fun c hc _=>heap_alloc_old w.drew _ c hc) (heap_alloc_new w.drew _) (fun c hc=>.inr ?_) (by simp [Item.foot]);simp only [Item.foot,bM] at hc;omega
end
end
end
end Go.Proofs.YtjbcdmheajljpaaGreat
