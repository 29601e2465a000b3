/- impl's compiler: structures that are built. -/
import Derived.Test.YtjbcdmheajljpaaGreatZLp7
namespace Go.Proofs.YtjbcdmheajljpaaGreat
section
open Go Go.RowKit
theorem BH (ks:List T) (s:CS) (j:Nat) (h:j<ks.length):bg (ks.drop j) s=((bg (ks.drop (j+1)) (if ks[j].kind=3 then aW ks[j] s else (s,-1)).1).1,(if ks[j].kind=3 then aW ks[j] s else (s,-1)).2::(bg (ks.drop (j+1)) (if ks[j].kind=3 then aW ks[j] s else (s,-1)).1).2):=by
 rw [dR h,bg]
theorem ku (ks:List T) (j:Nat) (h:j<ks.length):bi (ks.drop j)=bM ks[j]+bi (ks.drop (j+1)):=by
 rw [dR h,bi]
theorem Az (ks:List T) (vs:List Int) (s:CS) (j:Nat) (h:j<ks.length) (a:j<vs.length):cJ s (ks.drop j) (vs.drop j)=cJ (if ks[j].kind=3 then s.emit ⟨5,vs[j],0,emptyB⟩ else eq s ks[j]) (ks.drop (j+1)) (vs.drop (j+1)):=by
 rw [dR h,dR a,cJ]
section
attribute [local irreducible] Run CondV aC aU
def Ru (t:T):Prop:=∀ (S:ag) (cs:List Value) (cb mb ck:Nat) (es:Array MapEntry) (s:CS) (cv:Value),RdT S cs t->Wf s->SlM es s->okG t->t.kind=3->s.sz+8 * bM t<=900000000->
 Tri Tryz.prog wg [.pointer (some ⟨cb,0,none⟩),.agg cs.toArray] (dd cb mb es ck s cv) S fun r I' S'=>r=.int .i64 (aW t s).2/\AE cb mb S (aW t s).1 I' S'
theorem Ix:∀ t:T,Ru t:=by
 refine T.ind fun k n nm ks ih S cs Y Z ck es s cv h hw hm ht h3 hl=>?_;intro w a;obtain ⟨X,hX⟩:∃ X,X=bT (dd Y Z es ck s cv):=⟨_,rfl⟩
 rw [<- hX] at a ⊢;obtain ⟨kv,rfl,_,_,_,J⟩:=RdT.iff.1 h;have c8:dL ks:=ht.kids;simp only [T.name,T.kids,T.kind,T.n] at J ⊢;have c9:=J.le;simp only [maxLen] at c9;have d2:bM (.mk k n nm ks)=1+bi ks:=by rw [bM]
 rw [d2] at hl;have d3:=hw.four;have e5:(ks.length:Int)<=bi ks:=by
  have:∀ ts:List T,(ts.length:Int)<=bi ts:=fun ts=>by
   induction ts with
   | nil=>simp [bi]
   | cons t ts ih=>rw [bi,aO]; have:=cZ t; omega
  exact this ks
 have e6:0<=s.sz:=by unfold CS.sz; omega
 refine lp.2 ?_;dsimp only[lp,bm];refine bH a fun b3 w' a=>?_;have a:Inv w X ([.blk b3 (.cells #[.int .i64 k,.int .i64 n,.string nm,kv] ac)]++dd Y Z es ck s cv) S w':=a.perm (bK (l₁:=[_]));refine ah a 0 rfl ay ax rfl ?_;refine aG J ao ?_;refine GG a jl (n:=ks.length) (by omega) (by omega) fun g c w' hc a=>?_;have a:Inv w X ([.blk b3 (.cells #[.int .i64 k,.int .i64 n,.string nm,kv] ac),.blk g (.cells c bD)]++dd Y Z es ck s cv) S w':=a.perm ((bK (l₁:=[_])).cons _);refine ah a 0 rfl ay ax rfl ?_;refine aG J ao ?_;obtain ⟨vs,b9⟩:∃ vs,vs=(bg ks s).2:=⟨_,rfl⟩
 have e7:vs.length=ks.length:=by rw [b9]; exact gG ..
 refine ⟨fun i w'=>∃ (j:Nat) (r:CS) (l:Array MapEntry) (m:Nat) (q:Value) (D:Array Value),j<=ks.length/\i=.int .i64 j/\Wf r/\SlM l r/\r.sz+8 * bi (ks.drop j)<=s.sz+8 * bi ks/\bg ks s=((bg (ks.drop j) r).1,vs)/\vs.drop j=(bg (ks.drop j) r).2/\D.size=ks.length/\
   (∀ i (h:i<ks.length) (h':i<vs.length),i<j->ks[i].kind=3->bB D i 1=[.int .i64 vs[i]])/\
   Inv w X ([.blk b3 (.cells #[.int .i64 k,.int .i64 n,.string nm,kv] ac),.blk g (.cells D bD)]++dd Y Z l m r q) S w',fun i _=>ks.length - (intOf i).toNat,
   ⟨0,s,es,ck,cv,c,aK _,rfl,hw,hm,by rw [dT]; omega,by rw [dT,b9],by rw [dT,dT,b9],by omega,fun i _ _ h=>absurd h (Nat.not_lt_zero _),a⟩,?_⟩
 intro i _ _ _ _ _ _ _ _ _ _ _ _ _ _ _ _ w';rintro ⟨j,r,l,m,q,D,hj,rfl,a0,b0,c6,N,O,c7,b1,a⟩;refine cu ?_;refine aS (fun b8=>?_) (fun b8=>?_)
 ·have B:j<ks.length:=by omega
  have a9:j<vs.length:=by omega
  have a5:=kF c8 _ (cH B);have e8:=cZ ks[j];have e9:=bU (ks.drop (j+1));rw [ku ks j B] at c6;rw [BH ks r j B] at N O;simp only [dR a9,rD] at O;refine ⟨fun w'=>∃ (V:CS) (l:Array MapEntry) (m:Nat) (q:Value) (D:Array Value),Wf V/\SlM l V/\V.sz+8 * bi (ks.drop (j+1))<=s.sz+8 * bi ks/\bg ks s=((bg (ks.drop (j+1)) V).1,vs)/\vs.drop (j+1)=(bg (ks.drop (j+1)) V).2/\D.size=ks.length/\
   (∀ i (h:i<ks.length) (h':i<vs.length),i<j+1->ks[i].kind=3->bB D i 1=[.int .i64 vs[i]])/\
   Inv w X ([.blk b3 (.cells #[.int .i64 k,.int .i64 n,.string nm,kv] ac),.blk g (.cells D bD)]++dd Y Z l m V q) S w',?_,?_⟩
  ·refine dy a J ao ad B (fun _ _=>RdT.length) fun ds G=>?_;have c2:=G.length;refine aH a aM fun b7 w' a=>?_;have a:=a.perm (M:=.blk b7 _::([.blk b3 (.cells #[.int .i64 k,.int .i64 n,.string nm,kv] ac),.blk g (.cells D bD)]++dd Y Z l m r q)) (bK (l₁:=[_]));refine al a 0 rfl ad (by simpa using c2) rfl (by simpa using G.one) fun w' a=>?_;obtain ⟨c1,rfl,_,_,_,_⟩:=RdT.iff.1 G;have a:Inv w X ([.blk b7 (.cells #[.int .i64 ks[j].kind,.int .i64 ks[j].n,.string ks[j].name,c1] ac),.blk b3 (.cells #[.int .i64 k,.int .i64 n,.string nm,kv] ac),.blk g (.cells D bD)]++dd Y Z l m r q) S w':=a;refine ah a 0 rfl bb aw rfl ?_;refine bn ?_;refine aS (fun C=>?_) (fun C=>?_)
   ·rw [af C] at N O;have f0:=kD ks[j] r;refine aq a 0 ad rfl rfl ?_;refine Run.call lP lN a (ih _ (cH B) S _ Y Z m l r q G a0 b0 a5 C (by omega)) fun v' I' S' w'=>?_;rintro ⟨rfl,eS,a1,a6,a7,rfl,a2⟩ _ a;rw [eS] at a;refine aT fI B ?_;refine ef a 2 (n:=1) rfl (by decide +kernel) rfl (by omega) (by simp [Value.cells,Value.oneCell']) fun w' a=>?_;refine ⟨_,a1,a6,a7,_,(jy ks[j] a0 a5).1.wf,a2,by omega,N,O.2,?_,fun i h1 h2 h3 h4=>?_,a.sub (gS _ _)⟩
    ·rw [gW _ _ _ (by simp [Value.cells]; omega)]; exact c7
    ·by_cases e:i=j
     ·subst e;have:=ft (c:=D) (o:=0+i * 1) (vs:=[Value.int .i64 (aW ks[i] r).2]) (by simp; omega);rw [df,Nat.mul_one] at this;rw [O.1];simpa [Value.cells] using this
     ·have:=gj (c:=D) (o:=0+j * 1) (vs:=[Value.int .i64 (aW ks[j] r).2]) (p:=i) (k:=1) (by simp; omega) (by simp; omega);rw [<- b1 i h1 h2 (by omega) h4];exact this
   ·rw [ae C] at N O;exact ⟨r,l,m,q,D,a0,b0,by omega,N,O.2,c7,fun i h1 h2 h3 h4=>b1 i h1 h2 (by
     have:i≠j:=fun e=>by subst e; exact C h4
     omega) h4,a.sub (gS _ _)⟩
  intro _ _ _ _ _ _ _ _ _ _ _ _ _ _ w';rintro ⟨V,l,m,q,D,q1,q2,q3,q4,q5,q6,q7,a⟩;refine bF (by omega) ?_;exact ⟨⟨j+1,V,l,m,q,D,B,rfl,q1,q2,q3,q4,q5,q6,q7,a⟩,by simp [intOf]; omega⟩
 have c3:j=ks.length:=by omega
 subst c3;have c4:ks.drop ks.length=[]:=ew;rw [c4,bg] at N;rw [c4,bi] at c6;have d0:bg ks s=(r,vs):=N;have f1:=a0.four;have e3:r.next<=900000000/\r.code.length<=900000000:=by
  have hb:r.sz<=900000000:=by omega
  unfold CS.sz at hb;omega
 have c5:=(ti ks s).2;rw [d0] at c5;have c5:r.sz+2 * ks.length<=s.sz+8 * bi ks:=c5;refine Run.call gH gy a (nv (s:=r) (by omega)) fun v' I' S' w'=>?_;rintro ⟨eS,rfl,rfl⟩ _ a;rw [eS] at a;refine ah a 0 rfl ay ax rfl ?_;refine aG J ao ?_;refine ah a 0 rfl bk aZ rfl ?_;refine ES ?_;refine Run.call bX bW a (dS (s:=r.inc) ⟨7,ks.length,r.next,nm⟩ b0 (by show r.code.length<=_; omega)) fun v' I' S' w'=>?_;rintro ⟨eS,a1,a6,a7,rfl,a2⟩ _ a;rw [eS] at a;refine ah a 0 rfl ay ax rfl ?_;refine aG J ao ?_;obtain ⟨sf,a4⟩:∃ sf,sf=(r.emit ⟨7,ks.length,r.next,nm⟩).inc:=⟨_,rfl⟩
 have d4:Wf sf:=by rw [a4]; exact (a0.emit _).inc
 have f2:sf.sz=r.sz+2:=by rw [a4,wF,d6]; omega
 have d7:aW (.mk k n nm ks) s=(cJ sf ks vs,r.next):=by rw [aW,d0,a4]
 have a:Inv w X ([.blk b3 (.cells #[.int .i64 k,.int .i64 n,.string nm,kv] ac),.blk g (.cells D bD)]++dd Y Z a1 a6 sf a7) S w':=by rw [a4]; exact a
 have a2:SlM a1 sf:=by rw [a4]; exact a2
 rw [d7];refine ⟨fun i w'=>∃ (j:Nat) (r:CS) (l:Array MapEntry) (m:Nat) (q:Value),j<=ks.length/\i=.int .i64 j/\Wf r/\SlM l r/\r.sz<=sf.sz+2 * j/\cJ sf ks vs=cJ r (ks.drop j) (vs.drop j)/\
   Inv w X ([.blk b3 (.cells #[.int .i64 k,.int .i64 n,.string nm,kv] ac),.blk g (.cells D bD)]++dd Y Z l m r q) S w',fun i _=>ks.length - (intOf i).toNat,
   ⟨0,sf,a1,a6,a7,aK _,rfl,d4,a2,by omega,by rw [dT,dT],a⟩,?_⟩
 intro i _ _ _ _ _ _ _ _ _ _ _ _ _ _ _ _ _ _ _ _ w';rintro ⟨j,u,l,m,q,hj,rfl,U,a3,e2,a8,a⟩;refine cu ?_;refine aS (fun b8=>?_) (fun b8=>?_)
 ·have B:j<ks.length:=by omega
  have a9:j<vs.length:=by omega
  have a5:=kF c8 _ (cH B);rw [Az ks vs u j B a9] at a8;have f3:=U.four;have d9:u.sz<=900000000:=by omega
  have e4:u.next<=900000000/\u.code.length<=900000000:=by
   have hb:=d9;unfold CS.sz at hb;omega
  refine ⟨fun w'=>∃ (V:CS) (l:Array MapEntry) (m:Nat) (q:Value),V=(if ks[j].kind=3 then u.emit ⟨5,vs[j],0,emptyB⟩ else eq u ks[j])/\SlM l V/\
   Inv w X ([.blk b3 (.cells #[.int .i64 k,.int .i64 n,.string nm,kv] ac),.blk g (.cells D bD)]++dd Y Z l m V q) S w',?_,?_⟩
  ·refine dy a J ao ad B (fun _ _=>RdT.length) fun ds G=>?_;have c2:=G.length;refine aH a aM fun b7 w' a=>?_;have a:=a.perm (M:=.blk b7 _::([.blk b3 (.cells #[.int .i64 k,.int .i64 n,.string nm,kv] ac),.blk g (.cells D bD)]++dd Y Z l m u q)) (bK (l₁:=[_]));refine al a 0 rfl ad (by simpa using c2) rfl (by simpa using G.one) fun w' a=>?_;obtain ⟨c1,rfl,_,_,_,_⟩:=RdT.iff.1 G;have a:Inv w X ([.blk b7 (.cells #[.int .i64 ks[j].kind,.int .i64 ks[j].n,.string ks[j].name,c1] ac),.blk b3 (.cells #[.int .i64 k,.int .i64 n,.string nm,kv] ac),.blk g (.cells D bD)]++dd Y Z l m u q) S w':=a;refine ah a 0 rfl bb aw rfl ?_;refine bn ?_;refine aS (fun C=>?_) (fun C=>?_)
   ·refine aT fI B ?_;have e1:=b1 j B a9 B C;refine aD a 2 aw rfl (by have:=bd e1 0 _ rfl; rw [df,Nat.mul_one]; exact this) ?_;refine l4 ?_;refine Run.call bX bW a (dS ⟨5,vs[j],0,emptyB⟩ a3 (by omega)) fun v' I' S' w'=>?_;rintro ⟨eS,b2,b4,b5,rfl,b6⟩ _ a;rw [eS] at a;exact ⟨_,b2,b4,b5,by rw [af C],b6,a.sub (gS _ _)⟩
   ·refine aq a 0 ad rfl rfl ?_;refine Run.call iT iV a (n7 G U a3 a5 C (by omega)) fun v' I' S' w'=>?_;rintro ⟨eS,b2,b4,b5,rfl,b6⟩ _ a;rw [eS] at a;exact ⟨_,b2,b4,b5,by rw [ae C],b6,a.sub (gS _ _)⟩
  intro _ _ _ _ _ _ _ _ _ _ _ _ _ _ _ _ _ _ w';rintro ⟨V,l,m,q,rfl,q2,a⟩;refine bF (by omega) ?_;have hx:Wf (if ks[j].kind=3 then u.emit ⟨5,vs[j],0,emptyB⟩ else eq u ks[j])/\(if ks[j].kind=3 then u.emit ⟨5,vs[j],0,emptyB⟩ else eq u ks[j]).sz<=u.sz+2:=by
   split
   ·exact ⟨U.emit _,by rw [d6]; omega⟩
   ·rename_i d1
    exact ⟨(qS U a5 d1).wf,(zL u ks[j]).2⟩
  exact ⟨⟨j+1,_,l,m,q,B,rfl,hx.1,q2,by have:=hx.2; omega,a8,a⟩,by simp [intOf]; omega⟩
 have c3:j=ks.length:=by omega
 subst c3;have e0:cJ u [] (vs.drop ks.length)=u:=by rw [cJ]; all_goals simp
 rw [c4,e0] at a8;rw [a8];exact ⟨_,_,_,rfl,a.sub (dU _ _),Ext.refl _ _ _,rfl,rfl,l,m,q,rfl,a3⟩
end
end
section
open Go Go.RowKit
theorem zR (ks:List T) (s:CS) (j:Nat) (i:Int) (h:j<ks.length):dM s i (ks.drop j)=dM (eY s i ks[j]) (i+1) (ks.drop (j+1)):=by
 rw [dR h,dM]
theorem yz (a:List T) (s:CS) (j:Nat) (h:j<a.length):dr s (a.drop j)=dr (eJ s a[j]) (a.drop (j+1)):=by
 rw [dR h,dr]
theorem iM:∀ ts:List T,(ts.length:Int)<=bi ts
 | []=>by simp [bi]
 | t::ts=>by rw [bi,aO]; have:=cZ t; have:=iM ts; omega
section
attribute [local irreducible] Run CondV aC aU
set_option maxHeartbeats 1000000 in
theorem Gt {G O V:Nat} {es:Array MapEntry} {s:CS} {cv:Value} {t:T} {S:ag} {cs:List Value} (h:RdT S cs t) (hw:Wf s) (hm:SlM es s) (ht:okG t) (hl:s.sz+8 * bM t<=900000000) :
  Tri Tryz.prog zs [.pointer (some ⟨G,0,none⟩),.agg cs.toArray] (dd G O es V s cv) S fun _ I' S'=>AE G O S (eJ s t) I' S':=by
 intro w a;obtain ⟨X,hX⟩:∃ X,X=bT (dd G O es V s cv):=⟨_,rfl⟩
 rw [<- hX] at a ⊢;have hR:=h;obtain ⟨kv,rfl,_,_,_,a9⟩:=RdT.iff.1 h;have d1:dL t.kids:=ht.kids;have c1:=a9.le;simp only [maxLen] at c1;have d2:bM t=1+bi t.kids:=by cases t; rw [bM]; rfl
 rw [d2] at hl;have d3:=hw.four;have c2:=iM t.kids;have h8:0<=s.sz:=by unfold CS.sz; omega
 have e2:s.code.length<=900000000:=by
  have hb:s.sz<=900000000:=by omega
  unfold CS.sz at hb; omega
 refine mB.2 ?_;dsimp only[mB,bm];refine bH a fun b3 w' a=>?_;have a:Inv w X ([.blk b3 (.cells #[.int .i64 t.kind,.int .i64 t.n,.string t.name,kv] ac)]++dd G O es V s cv) S w':=a.perm (bK (l₁:=[_]));refine aq a 0 ad rfl rfl ?_;refine Run.callPure Ab Ay a (yS hR) fun w' a=>?_;refine aI (fun hc=>?_) (fun hc=>?_)
 ·refine Fa ?_;refine Run.call bX bW a (dS ⟨13,0,0,emptyB⟩ hm (by omega)) fun v' I' S' w'=>?_;rintro ⟨Z,m,p,r,rfl,b1⟩ _ a;rw [Z] at a;have e:eJ s t=s.emit ⟨13,0,0,emptyB⟩:=by rw [eJ,af hc]
  exact ⟨_,_,_,rfl,a.sub (dU _ _),Ext.refl _ _ _,rfl,m,p,r,by rw [e],by rw [e]; exact b1⟩
 have d6:eJ s t=(dM s 0 t.kids).emit ⟨if eX t=true then 12 else 11,t.kids.length,0,t.name⟩:=by rw [eJ,ae (by rw [hc]; decide)]
 rw [d6];refine ah a 0 rfl ay ax rfl ?_;refine aG a9 ao ?_;refine ⟨fun i w'=>∃ (j:Nat) (l:CS) (m:Array MapEntry) (p:Nat) (r:Value),j<=t.kids.length/\i=.int .i64 j/\Wf l/\SlM m l/\l.sz+8 * bi (t.kids.drop j)<=s.sz+8 * bi t.kids/\dM s 0 t.kids=dM l j (t.kids.drop j)/\
   Inv w X ([.blk b3 (.cells #[.int .i64 t.kind,.int .i64 t.n,.string t.name,kv] ac)]++dd G O m p l r) S w',fun i _=>t.kids.length - (intOf i).toNat,
   ⟨0,s,es,V,cv,aK _,rfl,hw,hm,by rw [dT]; omega,by rw [dT]; rfl,a⟩,?_⟩
 intro i _ _ _ _ _ _ _ _ _ _ e3 e4 e5 e6 e7 e8 e9 f0 f1 f2 f3 f4 f5 f6 f7 f8 f9 g0 g1 _ _ _ _ _ _ t7 t6 g2 g3 g4 g5 g6 g7 g8 g9 h4 h5 _ _ _ _ _ _ _ _ _ _ _ _ _ _ _ _ _ _ w';rintro ⟨j,l,es,V,cv,hj,rfl,a0,hm,b2,a7,a⟩;refine cu ?_;refine aS (fun c6=>?_) (fun c6=>?_)
 ·have a5:j<t.kids.length:=by omega
  obtain ⟨u,hu⟩:∃ u,u=t.kids[j]:=⟨_,rfl⟩
  have a6:okG u:=by rw [hu]; exact kF d1 _ (cH a5)
  have h9:=cZ u;have i0:=bU (t.kids.drop (j+1));rw [ku t.kids j a5,<- hu] at b2;rw [zR t.kids l j j a5,<- hu] at a7;have i1:=a0.four;have c3:l.next<=900000000/\l.code.length<=900000000:=by
   have hb:l.sz<=900000000:=by omega
   unfold CS.sz at hb;omega
  refine ⟨fun w'=>∃ (m:Array MapEntry) (p:Nat) (r:Value),SlM m (eY l j u)/\
   Inv w X ([.blk b3 (.cells #[.int .i64 t.kind,.int .i64 t.n,.string t.name,kv] ac)]++dd G O m p (eY l j u) r) S w',?_,?_⟩
  ·refine dy a a9 ao ad a5 (fun _ _=>RdT.length) fun ds a4=>?_;rw [<- hu] at a4;have d7:=a4.length;refine aH a aM fun b5 w' a=>?_;have a:=a.perm (M:=.blk b5 _::([.blk b3 (.cells #[.int .i64 t.kind,.int .i64 t.n,.string t.name,kv] ac)]++dd G O es V l cv)) (bK (l₁:=[_]));refine al a 0 rfl ad (by simpa using d7) rfl (by simpa using a4.one) fun w' a=>?_;have d9:=a4;obtain ⟨a3,rfl,_,_,_,_⟩:=RdT.iff.1 a4;have a:Inv w X ([.blk b5 (.cells #[.int .i64 u.kind,.int .i64 u.n,.string u.name,a3] ac),.blk b3 (.cells #[.int .i64 t.kind,.int .i64 t.n,.string t.name,kv] ac)]++dd G O es V l cv) S w':=a;have fin:∀ (m:Array MapEntry) (p:Nat) (r:Value) (sn:CS) (w':World),sn=eY l j u->SlM m sn->Inv w X ([.blk b5 (.cells #[.int .i64 u.kind,.int .i64 u.n,.string u.name,a3] ac),.blk b3 (.cells #[.int .i64 t.kind,.int .i64 t.n,.string t.name,kv] ac)]++dd G O m p sn r) S w'->∃ (m:Array MapEntry) (p:Nat) (r:Value),SlM m (eY l j u)/\
     Inv w X ([.blk b3 (.cells #[.int .i64 t.kind,.int .i64 t.n,.string t.name,kv] ac)]++dd G O m p (eY l j u) r) S w':=fun m p r sn w' e h1 h2=>by
    subst e;exact ⟨m,p,r,h1,h2.sub (gS _ _)⟩
   refine ah a 0 rfl bb aw rfl ?_;refine bn ?_;refine aS (fun h2=>?_) (fun h2=>?_)
   ·refine ah a 0 rfl aV aw rfl ?_;refine jL ?_;refine Run.call bX bW a (dS ⟨10,u.n,j,emptyB⟩ hm (by omega)) fun v' I' S' w'=>?_;rintro ⟨Z,b4,b6,b7,rfl,a1⟩ _ a;rw [Z] at a;exact fin _ _ _ _ _ (by rw [eY,af h2]) a1 a
   refine bn ?_;refine aS (fun h1=>?_) (fun h1=>?_)
   ·have U:0<=u.n/\u.n<26:=by
     rcases a6.kind with e|e|e
     ·exact e.2
     ·exact absurd e.1 h2
     ·have:=e.1; omega
    have c2:=hm.look U.1 U.2;refine ⟨fun D x7 x6 ot pf oa n6 n9 ox mG oH oE oe w_=>Fx D 0 [oe=.pointer (some ⟨G,0,none⟩),oE=.pointer (some ⟨G,0,none⟩),oH=.pointer (some ⟨G,0,none⟩),mG=.map (some O),ox=.pointer (some ⟨b5,1,none⟩),n9=.int .i64 u.n,n6=.tuple #[.int .i64 (atV l u.n),.bool (decide (0<=l.at_ u.n))],oa=.tuple #[.int .i64 (atV l u.n),.bool (decide (0<=l.at_ u.n))],pf=.int .i64 (atV l u.n),ot=.bool (decide (0<=l.at_ u.n)),x6=.int .i64 (atV l u.n),x7=.bool (decide (0<=l.at_ u.n))]/\Inv w X ([.blk b5 (.cells #[.int .i64 u.kind,.int .i64 u.n,.string u.name,a3] ac),.blk b3 (.cells #[.int .i64 t.kind,.int .i64 t.n,.string t.name,kv] ac)]++dd G O es V l cv) S w_,⟨Fx.nil _ _,a.draw⟩,⟨?_,?_,?_,?_,?_,?_,?_,?_,?_,?_,?_,?_,trivial⟩,?_⟩;all_goals (intro D bw; intros; rename_i x7 x6 ot pf oa n6 n9 ox mG oH oE oe w_ Y; have g:=Y.1; obtain ⟨⟨cG,cf,cD,cF,bQ,cE,bZ,cL,dw,dl,ci,c8,_⟩,a⟩:=Y)
    ·exact ⟨g.set 0 rfl,a⟩
    ·obtain rfl:=cG ‹_›;refine aL ?_;exact ⟨g.set 1 rfl,a⟩
    ·obtain rfl:=cf ‹_›;refine au eZ ?_;exact ⟨g.set 2 rfl,a⟩
    ·obtain rfl:=cD ‹_›;refine aD a 2 fy rfl rfl ?_;exact ⟨g.set 3 rfl,a⟩
    ·refine au aV ?_;exact ⟨g.set 4 rfl,a⟩
    ·obtain rfl:=bQ ‹_›;refine aD a 0 aw rfl rfl ?_;exact ⟨g.set 5 rfl,a⟩
    ·obtain rfl:=cF ‹_›;obtain rfl:=cE ‹_›;refine Co a 3 fx c7 wS rfl c2 ?_;exact ⟨g.set 6 rfl,a⟩
    ·obtain rfl:=bZ ‹_›;exact ⟨g.set 7 rfl,a⟩
    ·obtain rfl:=cL ‹_›;refine aA rfl ?_;exact ⟨g.set 8 rfl,a⟩
    ·obtain rfl:=cL ‹_›;refine aA rfl ?_;exact ⟨g.set 9 rfl,a⟩
    ·obtain rfl:=dw ‹_›;exact ⟨g.set 10 rfl,a⟩
    ·obtain rfl:=dl ‹_›;exact ⟨g.set 11 rfl,a⟩
    obtain ⟨rfl,rfl,rfl,rfl,rfl,rfl,rfl,rfl,rfl,rfl,rfl,rfl,_⟩:=g.all;clear g cG cf cD cF bQ cE bZ cL dw dl ci c8;refine aS (fun h0=>?_) (fun h0=>?_)
    ·rw [show atV l u.n=l.at_ u.n from af h0];refine jL ?_;refine Run.call bX bW a (dS ⟨9,l.at_ u.n,j,emptyB⟩ hm (by omega)) fun v' I' S' w'=>?_;rintro ⟨Z,b4,b6,b7,rfl,a1⟩ _ a;rw [Z] at a;exact fin _ _ _ _ _ (by rw [eY,ae h2,af h1,af h0]) a1 a
    have e:eY l j u=(l.put u.n l.next).inc.emit ⟨8,l.next,j,emptyB⟩:=by rw [eY,ae h2,af h1,ae h0]
    have hf:Instr.findNow (.int .i64) (.int .i64 u.n) es.toList 0=some none:=by
     rcases hm.find U.1 U.2 with ⟨q,_⟩|⟨_,q⟩
     ·exact absurd q h0
     ·exact q
    have a8:=hm.push a0.len U h0 (v:=l.next) (by omega) V;generalize c5:es.push { key:=.int .i64 u.n,val:=.int .i64 l.next,born:=V }=a2 at a8;refine ⟨fun D Lw Bz BT yU yk tU rr rT w_=>Fx D 0 [rT=.pointer (some ⟨G,0,none⟩),rr=.pointer (some ⟨G,0,none⟩),tU=.pointer (some ⟨G,0,none⟩),yk=.map (some O),yU=.pointer (some ⟨b5,1,none⟩),BT=.int .i64 u.n,Bz=.pointer (some ⟨G,0,none⟩),Lw=.int .i64 l.next,True]/\Inv w X ([.blk b5 (.cells #[.int .i64 u.kind,.int .i64 u.n,.string u.name,a3] ac),.blk b3 (.cells #[.int .i64 t.kind,.int .i64 t.n,.string t.name,kv] ac)]++dd G O (cond (D 8) a2 es) (cond (D 8) (V+1) V) (cond (D 7) l.inc l) cv) S w_,⟨Fx.nil _ _,a.draw⟩,⟨?_,?_,?_,?_,?_,?_,?_,?_,?_,trivial⟩,?_⟩;all_goals (intro D bw; intros; rename_i Lw Bz BT yU yk tU rr rT w_ Y; have g:=Y.1; obtain ⟨⟨cG,cf,cD,cF,bQ,cE,bZ,cL,dw,_⟩,a⟩:=Y)
    ·exact ⟨g.set 0 rfl,a⟩
    ·obtain rfl:=cG ‹_›;refine aL ?_;exact ⟨g.set 1 rfl,a⟩
    ·obtain rfl:=cf ‹_›;refine au eZ ?_;exact ⟨g.set 2 rfl,a⟩
    ·obtain rfl:=cD ‹_›;refine aD a 2 fy rfl rfl ?_;exact ⟨g.set 3 rfl,a⟩
    ·refine au aV ?_;exact ⟨g.set 4 rfl,a⟩
    ·obtain rfl:=bQ ‹_›;refine aD a 0 aw rfl rfl ?_;exact ⟨g.set 5 rfl,a⟩
    ·exact ⟨g.set 6 rfl,a⟩
    ·obtain rfl:=bZ ‹_›;rw [bw] at a;refine Run.call gH gy a (nv (s:=l) (by omega)) fun v' I' S' w_=>?_;rintro ⟨Z,rfl,rfl⟩ _ a;rw [Z] at a;exact ⟨g.set 7 rfl,a⟩
    ·obtain rfl:=cF ‹_›;obtain rfl:=cE ‹_›;obtain rfl:=cL ‹_›;rw [bw] at a;refine nb a 3 fx c7 rfl hf fun w_ a=>?_;dsimp only [cond_false] at a;rw [c5] at a;exact ⟨g.set 8 trivial,a⟩
    obtain ⟨rfl,rfl,rfl,rfl,rfl,rfl,rfl,rfl,_,_⟩:=g.all;have sZ:D 7=true:=by assumption
    have Lh:D 8=true:=by assumption
    clear g cG cf cD cF bQ cE bZ cL dw;rw [sZ,Lh] at a;have a:Inv w X ([.blk b5 (.cells #[.int .i64 u.kind,.int .i64 u.n,.string u.name,a3] ac),.blk b3 (.cells #[.int .i64 t.kind,.int .i64 t.n,.string t.name,kv] ac)]++dd G O a2 (V+1) (l.put u.n l.next).inc cv) S w_:=a;have a1:SlM a2 (l.put u.n l.next).inc:=a8;have e0:(l.put u.n l.next).inc.at_ u.n=l.next:=by show (l.put u.n l.next).at_ u.n=_; rw [gn a0.len U U,af rfl]
    refine ⟨fun D Jn Io Qr QP QZ QV Q1 QW QT Q6 Pq w_=>Fx D 0 [Pq=.pointer (some ⟨G,0,none⟩),Q6=.pointer (some ⟨G,0,none⟩),QT=.pointer (some ⟨G,0,none⟩),QW=.pointer (some ⟨G,0,none⟩),Q1=.map (some O),QV=.pointer (some ⟨b5,1,none⟩),QZ=.int .i64 u.n,QP=.int .i64 l.next,Qr=.int .i64 j,Io=.agg (Ist.cells ⟨8,l.next,j,emptyB⟩).toArray,True]/\∃ N m p r,N=(cond (D 10) ((l.put u.n l.next).inc.emit ⟨8,l.next,j,emptyB⟩) (l.put u.n l.next).inc)/\SlM m N/\(D 10=false->m=a2/\p=V+1/\r=cv)/\Inv w X ([.blk b5 (.cells #[.int .i64 u.kind,.int .i64 u.n,.string u.name,a3] ac),.blk b3 (.cells #[.int .i64 t.kind,.int .i64 t.n,.string t.name,kv] ac)]++dd G O m p N r) S w_,⟨Fx.nil _ _,⟨_,a2,V+1,cv,rfl,a1,fun _=>⟨rfl,rfl,rfl⟩,a.draw⟩⟩,⟨?_,?_,?_,?_,?_,?_,?_,?_,?_,?_,?_,trivial⟩,?_⟩;all_goals (intro D bw; intros; rename_i Jn Io Qr QP QZ QV Q1 QW QT Q6 Pq w_ Y; have g:=Y.1; obtain ⟨⟨cG,cf,cD,cF,bQ,cE,bZ,cL,dw,dl,ci,_⟩,⟨N,m,p,r,B,C,J,a⟩⟩:=Y)
    ·exact ⟨g.set 0 rfl,⟨N,m,p,r,B,C,J,a⟩⟩
    ·exact ⟨g.set 1 rfl,⟨N,m,p,r,B,C,J,a⟩⟩
    ·obtain rfl:=cf ‹_›;refine aL ?_;exact ⟨g.set 2 rfl,⟨N,m,p,r,B,C,J,a⟩⟩
    ·obtain rfl:=cD ‹_›;refine au eZ ?_;exact ⟨g.set 3 rfl,⟨N,m,p,r,B,C,J,a⟩⟩
    ·obtain rfl:=cF ‹_›;refine aD a 2 fy rfl rfl ?_;exact ⟨g.set 4 rfl,⟨N,m,p,r,B,C,J,a⟩⟩
    ·refine au aV ?_;exact ⟨g.set 5 rfl,⟨N,m,p,r,B,C,J,a⟩⟩
    ·obtain rfl:=cE ‹_›;refine aD a 0 aw rfl rfl ?_;exact ⟨g.set 6 rfl,⟨N,m,p,r,B,C,J,a⟩⟩
    ·obtain rfl:=bQ ‹_›;obtain rfl:=bZ ‹_›;have b0:=C.look U.1 U.2;have c4:N.at_ u.n=l.next:=by rw [B]; cases D 10 <;> exact e0
     rw [atV,c4,af (by omega),aP (show 0<=l.next by omega)] at b0;refine d4 (c:=false) (ok:=true) (v:=.int .i64 l.next) (a.its (.blk O (.map m p)) (by simp)) fx c7 wS b0 ?_;exact ⟨g.set 7 rfl,⟨N,m,p,r,B,C,J,a⟩⟩
    ·exact ⟨g.set 8 rfl,⟨N,m,p,r,B,C,J,a⟩⟩
    ·obtain rfl:=cL ‹_›;obtain rfl:=dw ‹_›;refine jL ?_;exact ⟨g.set 9 rfl,⟨N,m,p,r,B,C,J,a⟩⟩
    ·obtain rfl:=cG ‹_›;obtain rfl:=dl ‹_›;obtain ⟨b8,c9,d0⟩:=J bw;rw [b8,c9,d0] at a;rw [b8] at C;rw [bw] at B;have B:N=(l.put u.n l.next).inc:=B;rw [B] at a C;refine Run.call bX bW a (dS ⟨8,l.next,j,emptyB⟩ C (by show l.code.length<=_; omega)) fun v' I' S' w_=>?_;rintro ⟨Z,m,p,r,rfl,C⟩ _ a;rw [Z] at a;obtain ⟨N,b9⟩:∃ N,N=(l.put u.n l.next).inc.emit ⟨8,l.next,j,emptyB⟩:=⟨_,rfl⟩
     rw [<- b9] at a C;have B:N=cond (aE D 10 10) ((l.put u.n l.next).inc.emit ⟨8,l.next,j,emptyB⟩) (l.put u.n l.next).inc:=b9;have J:aE D 10 10=false->m=a2/\p=V+1/\r=cv:=fun h=>by cases h
     exact ⟨g.set 10 (by first|assumption|trivial),⟨N,m,p,r,B,C,J,a⟩⟩
    obtain ⟨rfl,rfl,rfl,rfl,rfl,rfl,rfl,rfl,rfl,rfl,Gj,_⟩:=g.all;have CK:D 10=true:=by assumption
    clear g cG cf cD cF bQ cE bZ cL dw dl ci;rw [CK] at B;exact fin _ _ _ _ _ (by rw [B,e]; rfl) C a
   have h3:u.kind=3:=by have:=a6.kind; omega
   have i2:=kD u l;refine aq a 0 ad rfl rfl ?_;refine Run.call lP lN a (Ix u S _ G O V es l cv d9 a0 hm a6 h3 (by omega)) fun v' I' S' w'=>?_;rintro ⟨rfl,Z,a2,h6,h7,rfl,a8⟩ _ a;rw [Z] at a;have hx:=(jy u a0 a6).1.wf.four;refine jL ?_;refine Run.call bX bW a (dS ⟨9,(aW u l).2,j,emptyB⟩ a8 (by
    have hb:(aW u l).1.sz<=900000000:=by omega
    unfold CS.sz at hb;omega)) fun v' I' S' w'=>?_
   rintro ⟨Z,b4,b6,b7,rfl,a1⟩ _ a;rw [Z] at a;exact fin _ _ _ _ _ (by rw [eY,ae h2,ae h1]) a1 a
  intro _ _ _ _ _ _ _ _ _ _ _ _ _ _ _ _ _ _ _ _ _ _ _ _ _ _ _ _ _ _ _ _ _ _ _ _ _ _ _ _ _ _ _ _ _ _ _ _ _ _ _ _ _ _ _ _ _ _ _ _ _ _ _ w';rintro ⟨m,p,r,q2,a⟩;refine bF (by omega) ?_;have hz:=(FN l j u).2;exact ⟨⟨j+1,_,m,p,r,a5,rfl,(wd a0 j a6).wf,q2,by omega,a7,a⟩,by simp [intOf]; omega⟩
 have e1:j=t.kids.length:=by omega
 subst e1;rw [ew,dM] at a7;rw [ew,bi] at b2;rw [a7];have i3:=a0.four;have c3:l.code.length<=900000000:=by
  have hb:l.sz<=900000000:=by omega
  unfold CS.sz at hb;omega
 refine ⟨fun v w'=>v=.int .i64 (if eX t=true then 12 else 11)/\Inv w X ([.blk b3 (.cells #[.int .i64 t.kind,.int .i64 t.n,.string t.name,kv] ac)]++dd G O es V l cv) S w',?_,?_⟩
 ·refine aq a 0 ad rfl rfl ?_;refine Run.callPure nO nK a (me hR) fun w' a=>?_;refine aI (fun hb=>?_) (fun hb=>?_)
  ·exact ⟨by rw [af hb],a⟩
  ·exact ⟨by rw [ae (by rw [hb]; decide)],a⟩
 intro o _ _ w';rintro ⟨rfl,a⟩;refine ah a 0 rfl ay ax rfl ?_;refine aG a9 ao ?_;refine ah a 0 rfl bk aZ rfl ?_;refine OK ?_;refine Run.call bX bW a (dS ⟨if eX t=true then 12 else 11,t.kids.length,0,t.name⟩ hm (by omega)) fun v' I' S' w'=>?_;rintro ⟨Z,m,p,r,rfl,b1⟩ _ a;rw [Z] at a;exact ⟨_,_,_,rfl,a.sub (dU _ _),Ext.refl _ _ _,rfl,m,p,r,rfl,b1⟩
theorem EQ {q u C:Nat} {B:Array MapEntry} {s:CS} {cv v:Value} {g:List T} {S:ag} (h:RdSl S 4 (RdT S) v g) (hw:Wf s) (Y:SlM B s) (ht:dL g) (hl:s.sz+8 * bi g<=800000000) :
  Tri Tryz.prog zr [.pointer (some ⟨q,0,none⟩),v] (dd q u B C s cv) S fun r I' S'=>S'=S/\∃ l o,I'=dd q u l o ((dr s g).emit ⟨14,0,0,emptyB⟩) r:=by
 intro w a;obtain ⟨X,hX⟩:∃ X,X=bT (dd q u B C s cv):=⟨_,rfl⟩
 rw [<- hX] at a ⊢;have O:=h.le;simp only [maxLen] at O;have a5:=hw.four;have a8:=iM g;refine mT.2 ?_;dsimp only[mT,bm];refine aG h ao ?_;refine ⟨fun i w'=>∃ (j:Nat) (m:CS) (l:Array MapEntry) (o:Nat) (D:Value),j<=g.length/\i=.int .i64 j/\Wf m/\SlM l m/\m.sz+8 * bi (g.drop j)<=s.sz+8 * bi g/\dr s g=dr m (g.drop j)/\
   Inv w X (dd q u l o m D) S w',fun i _=>g.length - (intOf i).toNat,
   ⟨0,s,B,C,cv,aK _,rfl,hw,Y,by rw [dT]; omega,by rw [dT],a⟩,?_⟩
 intro i _ _ _ _ _ _ _ _ w';rintro ⟨j,m,B,C,cv,hj,rfl,G,Y,N,t,a⟩;refine cu ?_;refine aS (fun a4=>?_) (fun a4=>?_)
 ·have p:j<g.length:=by omega
  have U:=kF ht _ (cH p);have a9:=bU (g.drop (j+1));rw [ku g j p] at N;rw [yz g m j p] at t;refine dy a h ao ad p (fun _ _=>RdT.length) fun ds J=>?_;have V:=J.length;refine aH a aM fun b5 w' a=>?_;have a:=a.perm (M:=.blk b5 _::(dd q u B C m cv)) (bK (l₁:=[_]));refine al a 0 rfl ad (by simpa using V) rfl (by simpa using J.one) fun w' a=>?_;have a:Inv w X ([.blk b5 (.cells ds.toArray ac)]++dd q u B C m cv) S w':=a;refine aq a 0 ad rfl (by simpa using V) ?_;refine Run.call xn wE a (Gt J G Y U (by omega)) fun v' I' S' w'=>?_;rintro ⟨Z,a0,a1,a2,rfl,a3⟩ _ a;rw [Z] at a;refine bF (by omega) ?_;have hz:=(IM m g[j]).2;exact ⟨⟨j+1,_,a0,a1,a2,p,rfl,(qJ G U).wf,a3,by omega,t,a.sub (gS _ _)⟩,by simp [intOf]; omega⟩
 have a6:j=g.length:=by omega
 subst a6;rw [ew,dr] at t;rw [ew,bi] at N;rw [t];have b0:=G.four;refine Fa ?_;have a:Inv w X ([]++dd q u B C m cv) S _:=a;refine Run.call bX bW a (dS ⟨14,0,0,emptyB⟩ Y (by
  have hb:m.sz<=900000000:=by omega
  unfold CS.sz at hb;omega)) fun v' I' S' w'=>?_
 rintro ⟨Z,l,o,D,rfl,a7⟩ _ a;rw [Z] at a;have a:Inv w X (dd q u l o (m.emit ⟨14,0,0,emptyB⟩) D) S w':=a;refine aL ?_;refine ah a 0 rfl nN g8 rfl ?_;exact ⟨_,_,_,rfl,a,Ext.refl _ _ _,rfl,l,o,rfl⟩
end
end
section
open Go Go.RowKit
theorem RdSl.single {α:Type} {S:ag} {k b:Nat} {R:List Value->α->Prop} {cs:List Value} {x:α} {E:TypeId} {a:Nat × Nat} (g:S b=some (.cells cs.toArray E a)) (j:cs.length=k) (h:R cs x):RdSl S k R (.slice (some ⟨b,0,none⟩) 1 1) [x]:=by
 refine ⟨some ⟨b,0,none⟩,1,rfl,be _,by simp [maxLen],.inr ⟨b,0,cs.toArray,E,a,rfl,g,fun i l=>?_⟩⟩;have:i=0:=by simp at l; omega
 subst this;have e:bB cs.toArray (0+0 * k) k=cs:=by
  rw [bB,mj,df,dT,<- j,iz]
 rw [e];exact h
def apC {α:Type} (w0:World) (X:List Nat) (A:List Item) (T:TypeId) (k:Nat) (R:ag->List Value->α->Prop) (xs:List α) (y:α) (S:ag) (v0 v1 v2:Value) (w:World):Nat->Prop
 | 0=>Inv w0 X A S w
 | 1=>Inv w0 X (A++[aB v0 T k []]) S w
 | 2=>∃ css,Rows k (R S) css xs/\Inv w0 X (A++[aB v1 T k css]) S w
 | _=>RdSl S k (R S) v2 (xs++[y])/\Inv w0 X A S w
section
variable {α:Type} {w0 w:World} {X:List Nat} {A:List Item} {T:TypeId} {k n:Nat} {R:ag->List Value->α->Prop} {xs:List α} {y:α} {S:ag} {v0 v1 v2:Value}
theorem apC.ex (hR:∀ S S' cs x,Sle S S'->R S cs x->R S' cs x) (h:apC w0 X A T k R xs y S v0 v1 v2 w n) :
  ∃ B,Inv w0 X (A++B) S w/\∀ A' S1 g,Sle S S1->Inv w0 X (A'++B) S1 g->apC w0 X A' T k R xs y S1 v0 v1 v2 g n:=by
 match n,h with
 | 0,h=>exact ⟨[],by rw [dc]; exact h,fun A' S1 g _ a=>by rw [dc] at a; exact a⟩
 | 1,h=>exact ⟨_,h,fun A' S1 g _ a=>a⟩
 | 2,⟨css,h1,h2⟩=>exact ⟨_,h2,fun A' S1 g i a=>⟨css,h1.monoR fun _ _ h=>hR _ _ _ _ i h,a⟩⟩
 | n+3,⟨h1,h2⟩=>exact ⟨[],by rw [dc]; exact h2,fun A' S1 g i a=>⟨h1.mono i fun _ _ h=>hR _ _ _ _ i h,by rw [dc] at a; exact a⟩⟩
theorem apC.inv (h:apC w0 X A T k R xs y S v0 v1 v2 w n):∃ B,Inv w0 X (A++B) S w:=by
 match n,h with
 | 0,h=>exact ⟨[],by rw [dc]; exact h⟩
 | 1,h=>exact ⟨_,h⟩
 | 2,⟨css,h1,h2⟩=>exact ⟨_,h2⟩
 | n+3,⟨h1,h2⟩=>exact ⟨[],by rw [dc]; exact h2⟩
end
section
variable {α:Type} {P:Program} {w0 w:World} {X:List Nat} {A:List Item} {k:Nat} {R:ag->List Value->α->Prop} {xs:List α} {y:α} {S:ag} {v0 v1 v2:Value} {K:Value->World->Prop}
attribute [local irreducible] Run
theorem T7 {T e:TypeId} {a:Nat} {z:Value} (h:apC w0 X A e k R xs y S v0 v1 v2 w 0) (g:iB P T=some (e,k,a,z))
  (hk:∀ v w',apC w0 X A e k R xs y S v v1 v2 w' 1->K v w'):Run P (bI T 0 []) w K:=by
 have h:Inv w0 X A S w:=h;exact fc h g fun v w' i=>hk v w' i
theorem Ug {T ty e:TypeId} {a:Nat} {z u:Value} {cs:List Bool} (h:apC w0 X A e k R xs y S v0 v1 v2 w 1) (m:iB P T=some (e,k,a,z)) (i:0<k) (o:RdSl S k (R S) u xs)
  (g:∀ cs y,R S cs y->cs.length=k) (p:∀ cs y,R S cs y->∀ c∈cs,c.oneCell'=true) (q:xs.length<=4294967296) (j:a<=32768)
  (hk:∀ v w',apC w0 X A e k R xs y S v0 v v2 w' 2->K v w'):Run P (bO .append #[T,T] ty cs [v0,u]) w K:=by
 have h:Inv w0 X (A++[aB v0 e k []]) S w:=h;refine hK (css:=[]) h A.length m i (by simp) o g p (by simpa using q) j fun v w' css hR l=>?_;refine hk v w' ⟨css,hR,?_⟩;have e:(A++[aB v0 e k []]).set A.length (aB v e k ([]++css))=A++[aB v e k css]:=by simp
 rw [e] at l;exact l
theorem Ub {T ty e:TypeId} {g:Nat} {z u:Value} {cs:List Bool} (hR:∀ S S' cs x,Sle S S'->R S cs x->R S' cs x) (h:apC w0 X A e k R xs y S v0 v1 v2 w 2) (t:iB P T=some (e,k,g,z)) (m:0<k) (B:RdSl S k (R S) u [y])
  (i:∀ cs y,R S cs y->cs.length=k) (C:∀ cs y,R S cs y->∀ c∈cs,c.oneCell'=true) (G:xs.length+1<=4294967296) (o:g<=32768)
  (hk:∀ v S' w',Ext w0.heap.size X S S'->apC w0 X A e k R xs y S' v0 v1 v w' 3->K v w'):Run P (bO .append #[T,T] ty cs [v1,u]) w K:=by
 obtain ⟨css,j,h⟩:=h;have D:=j.hc;refine hK (css:=css) h A.length t m (by simp) B i C (by simp; omega) o fun v w' a p l=>?_;have e:(A++[aB v1 e k css]).set A.length (aB v e k (css++a))=A++[aB v e k (css++a)]:=by simp
 rw [e] at l;obtain ⟨S',r,q,l⟩:=Inv.lendExt l;exact hk v S' w' r ⟨RowRd.rows ((j.append p).monoR fun _ _ h=>hR _ _ _ _ r.1 h) q,l⟩
end
end
section
open Go Go.RowKit
def nwP (w0:World) (X:List Nat) (A:List Item) (T:TypeId) (z:Array Value) (Q:ag->Array Value->Prop) (da ds:Bool) (x:Value) (S:ag) (w:World):Prop:=
 ∃ b q,(da=true->x=.pointer (some ⟨b,0,none⟩))/\(ds=true->da=true)/\(ds=false->q=z)/\(ds=true->Q S q)/\Inv w0 X (A++cond da [.blk b (.cells q T)] []) S w
section
variable {w0 w:World} {X:List Nat} {A:List Item} {T:TypeId} {z:Array Value} {Q:ag->Array Value->Prop} {da ds:Bool} {x:Value} {S:ag}
theorem nwP.mk (h:Inv w0 X A S w) (x:Value):nwP w0 X A T z Q false false x S w:=⟨0,z,fun h=>(by cases h),fun h=>(by cases h),fun _=>rfl,fun h=>(by cases h),by rw [cond_false,dc]; exact h⟩
theorem nwP.ex (a:∀ S S' q,Sle S S'->Q S q->Q S' q) (h:nwP w0 X A T z Q da ds x S w):∃ B,Inv w0 X (A++B) S w/\∀ S' w',Sle S S'->Inv w0 X (A++B) S' w'->nwP w0 X A T z Q da ds x S' w':=by
 obtain ⟨b,q,j,l,m,o,p⟩:=h;exact ⟨_,p,fun S' w' g i=>⟨b,q,j,l,m,fun h=>a _ _ _ g (o h),i⟩⟩
theorem nwP.inv (h:nwP w0 X A T z Q da ds x S w):∃ B,Inv w0 X (A++B) S w:=by
 obtain ⟨b,q,g,i,j,l,a⟩:=h;exact ⟨_,a⟩
theorem nwP.fin (h:nwP w0 X A T z Q true true x S w):∃ b q,x=.pointer (some ⟨b,0,none⟩)/\Q S q/\Inv w0 X (A++[.blk b (.cells q T)]) S w:=by
 obtain ⟨b,q,a,j,l,g,i⟩:=h;exact ⟨b,q,a rfl,g rfl,i⟩
end
section
variable {P:Program} {w0 w:World} {X:List Nat} {A:List Item} {T:TypeId} {z:Array Value} {Q:ag->Array Value->Prop} {da ds:Bool} {x:Value} {S:ag} {K:Value->World->Prop}
attribute [local irreducible] Run
theorem nwP.alloc {ty:TypeId} {j:Value} (h:nwP w0 X A T z Q da ds x S w) (a:da=false) (m:fW P T=some j) (g:j.cells=z) (hk:∀ v w',nwP w0 X A T z Q true ds v S w'->K v w'):Run P (sOp (.alloc T) ty) w K:=by
 obtain ⟨b,q,r,p,t,u,l⟩:=h;have i:ds=false:=cS.2 fun e=>by rw [p e] at a; cases a
 rw [a,cond_false,dc] at l;refine aH l m fun b w' o=>hk _ w' ⟨b,z,fun _=>rfl,fun _=>rfl,fun _=>rfl,fun e=>(by rw [i] at e; cases e),?_⟩;rw [cond_true,<- g];exact o
theorem nwP.store {ty:TypeId} {n:Nat} {cs:Array Value} (h:nwP w0 X A T z Q da ds x S w) (a:da=true) (l:ds=false) (m:nD P T=some n) (hn:cs.size=n) (o:z.size=n) (p:∀ u∈cs.toList,u.oneCell'=true) (r:Q S cs)
  (hk:∀ w',nwP w0 X A T z Q da true x S w'->K undef w'):Run P (sOp (.store T (.const x) (.const (.agg cs))) ty) w K:=by
 obtain ⟨b,q,i,B,t,C,j⟩:=h;rw [a,cond_true,t l] at j;rw [i a];refine al (E:=T) j A.length (by simp) m hn o p fun w' g=>?_;have e:(A++[Item.blk b (.cells z T)]).set A.length (.blk b (.cells cs T))=A++[.blk b (.cells cs T)]:=by simp
 rw [e] at g;exact hk w' ⟨b,cs,i,fun _=>a,fun e=>(by cases e),fun _=>r,by rw [a]; exact g⟩
end
def apP {α:Type} (w0:World) (X:List Nat) (A:Value->List Item) (z:Value) (T:TypeId) (k:Nat) (R:ag->List Value->α->Prop) (xs:List α) (y:α) (S0:ag) (d5 d8:Bool) (v0 v1 v5 v2:Value) (w:World) (n:Nat):Prop:=
 ∃ S1 cv,Ext w0.heap.size X S0 S1/\(d5=true->RdSl S1 k (R S1) v5 [y])/\(d8=false->cv=z)/\(d8=true->RdSl S1 k (R S1) cv (xs++[y]))/\apC w0 X (A cv) T k R xs y S1 v0 v1 v2 w n
section
variable {α:Type} {P:Program} {w0 w:World} {X:List Nat} {A:Value->List Item} {z:Value} {e:TypeId} {k:Nat} {R:ag->List Value->α->Prop} {xs:List α} {y:α} {S0:ag} {d5 d8:Bool} {v0 v1 v5 v2:Value} {n:Nat} {K:Value->World->Prop}
attribute [local irreducible] Run
theorem apP.mk {S:ag} (h:Inv w0 X (A z) S w) (v0 v1 v5 v2:Value):apP w0 X A z e k R xs y S false false v0 v1 v5 v2 w 0:=⟨S,z,Ext.refl _ _ _,fun h=>(by cases h),fun _=>rfl,fun h=>(by cases h),h⟩
theorem apP.inv (h:apP w0 X A z e k R xs y S0 d5 d8 v0 v1 v5 v2 w n):∃ S1 cv B,Ext w0.heap.size X S0 S1/\Inv w0 X (A cv++B) S1 w:=by
 obtain ⟨S1,cv,a,j,l,m,g⟩:=h;obtain ⟨B,i⟩:=g.inv;exact ⟨S1,cv,B,a,i⟩
theorem apP.inv0 (h:apP w0 X A z e k R xs y S0 d5 d8 v0 v1 v5 v2 w n) (g:d8=false):∃ S1 B,Ext w0.heap.size X S0 S1/\Inv w0 X (A z++B) S1 w:=by
 obtain ⟨S1,cv,i,m,j,o,l⟩:=h;obtain ⟨B,a⟩:=l.inv;rw [j g] at a;exact ⟨S1,B,i,a⟩
theorem apP.fin (h:apP w0 X A z e k R xs y S0 d5 true v0 v1 v5 v2 w 3):∃ S1 cv,Ext w0.heap.size X S0 S1/\RdSl S1 k (R S1) cv (xs++[y])/\Inv w0 X (A cv) S1 w:=by
 obtain ⟨S1,cv,a,j,l,g,i⟩:=h;exact ⟨S1,cv,a,g rfl,i.2⟩
theorem Uo {T:TypeId} {a:Nat} {g:Value} (h:apP w0 X A z e k R xs y S0 d5 d8 v0 v1 v5 v2 w 0) (i:iB P T=some (e,k,a,g))
  (hk:∀ v w',apP w0 X A z e k R xs y S0 d5 d8 v v1 v5 v2 w' 1->K v w'):Run P (bI T 0 []) w K:=by
 obtain ⟨S1,cv,j,l,m,o,p⟩:=h;exact T7 p i fun v w' h=>hk v w' ⟨S1,cv,j,l,m,o,h⟩
theorem Uk {T ty:TypeId} {a:Nat} {m u:Value} {cs:List Bool} (hR:∀ S S' cs x,Sle S S'->R S cs x->R S' cs x) (h:apP w0 X A z e k R xs y S0 d5 d8 v0 v1 v5 v2 w 1) (o:iB P T=some (e,k,a,m)) (i:0<k) (p:RdSl S0 k (R S0) u xs)
  (g:∀ S cs y,R S cs y->cs.length=k) (q:∀ S cs y,R S cs y->∀ c∈cs,c.oneCell'=true) (r:xs.length<=4294967296) (j:a<=32768)
  (hk:∀ v w',apP w0 X A z e k R xs y S0 d5 d8 v0 v v5 v2 w' 2->K v w'):Run P (bO .append #[T,T] ty cs [v0,u]) w K:=by
 obtain ⟨S1,cv,l,t,B,C,D⟩:=h;exact Ug D o i (p.mono l.1 fun _ _ h=>hR _ _ _ _ l.1 h) (g S1) (q S1) r j fun v w' h=>hk v w' ⟨S1,cv,l,t,B,C,h⟩
theorem T6 {T:TypeId} {o:Nat} {C:Value} {cs:List Value} (hR:∀ S S' cs x,Sle S S'->R S cs x->R S' cs x) (h:apP w0 X A z e k R xs y S0 d5 d8 v0 v1 v5 v2 w n) (D:iB P T=some (e,k,o,C)) (p:0<k) (g:k<=65536)
  {v:Value} (i:v.cells=cs.toArray) (q:R S0 cs y) (j:∀ S cs y,R S cs y->cs.length=k)
  (hk:∀ v w',apP w0 X A z e k R xs y S0 true d8 v0 v1 v v2 w' n->K v w'):Run P (bI T 1 [(0,v)]) w K:=by
 obtain ⟨S1,cv,r,N,G,J,M⟩:=h;obtain ⟨B,l,a⟩:=M.ex hR;have u:=j _ _ _ q;refine eQ l D (by rw [i]; simpa using u) g p fun b w' l=>?_;obtain ⟨S2,l,m,t⟩:=Inv.pub1 l;rw [i] at t;exact hk _ w' ⟨S2,cv,r.trans m,fun _=>RdSl.single t u (hR _ _ _ _ (r.trans m).1 q),G,fun e=>(J e).mono m.1 fun _ _ h=>hR _ _ _ _ m.1 h,a _ S2 w' m.1 l⟩
theorem Ul {T ty:TypeId} {a:Nat} {o:Value} {cs:List Bool} (hR:∀ S S' cs x,Sle S S'->R S cs x->R S' cs x) (h:apP w0 X A z e k R xs y S0 d5 d8 v0 v1 v5 v2 w 2) (p:d5=true) (q:iB P T=some (e,k,a,o)) (j:0<k)
  (g:∀ S cs y,R S cs y->cs.length=k) (r:∀ S cs y,R S cs y->∀ c∈cs,c.oneCell'=true) (t:xs.length+1<=4294967296) (l:a<=32768)
  (hk:∀ v w',apP w0 X A z e k R xs y S0 d5 d8 v0 v1 v5 v w' 3->K v w'):Run P (bO .append #[T,T] ty cs [v1,v5]) w K:=by
 obtain ⟨S1,cv,u,m,B,C,D⟩:=h;exact Ub hR D q j (m p) (g S1) (r S1) t l fun v S' w' i h=>hk v w' ⟨S',cv,u.trans i,fun e=>(m e).mono i.1 fun _ _ h=>hR _ _ _ _ i.1 h,B,fun e=>(C e).mono i.1 fun _ _ h=>hR _ _ _ _ i.1 h,h⟩
theorem Uh {U ty E:TypeId} {b d:Nat} {A0:List Item} {C:Value->Array Value} (l:∀ v,A v=A0++[.blk b (.cells (C v) E)]) (h:apP w0 X A z e k R xs y S0 d5 d8 v0 v1 v5 v2 w 3) (q:jO P U=true)
  (r:∀ v v',(C v).setIfInBounds d v'=C v') (g:∀ v,d<(C v).size) (hk:∀ w',apP w0 X A z e k R xs y S0 d5 true v0 v1 v5 v2 w' 3->K undef w') :
  Run P (sOp (.store U (.const (.pointer (some ⟨b,d,none⟩))) (.const v2)) ty) w K:=by
 obtain ⟨S1,cv,t,u,J,M,j,p⟩:=h;rw [l] at p;obtain ⟨a,m,rfl,_⟩:=id j;refine ef p A0.length (b:=b) (o:=d) (E:=E) (c:=C cv) (n:=1) (v:=.slice a (xs++[y]).length m) rfl (by rw [q]; simp) (by simp) (by have:=g cv; omega) (by simp [Value.cells,Value.oneCell']) fun w' i=>?_;have B:bY (C cv) d (Value.slice a (xs++[y]).length m).cells.toList=C (.slice a (xs++[y]).length m):=by
  refine Eq.trans ?_ (r cv _);apply zo.1;simp only [bY,QN];have D:d<(C cv).toList.length:=by simpa using g cv
  rw [wJ,af D];simp [Value.cells]
 rw [B] at i;have G:(A0++[Item.blk b (.cells (C cv) E)]).set A0.length (.blk b (.cells (C (.slice a (xs++[y]).length m)) E))=A (.slice a (xs++[y]).length m):=by rw [l]; simp
 rw [G] at i;exact hk w' ⟨S1,_,t,u,fun e=>(by cases e),fun _=>j,j,i⟩
end
end
section
open Go Go.RowKit
theorem yH {k f:Nat} {x:Value}:∀ (css:List (List Value)) (j:Nat) (_:∀ cs∈css,cs.length=k) (h:j<css.length) (_:f<k),css.flatten.set (j * k+f) x=(css.set j (css[j].set f x)).flatten
 | [],j,_,h,_=>by simp at h
 | c::css,0,hk,_,hf=>by
  have:=hk c (bL ..);rw [iX,mj,df,JI _ _ (by omega)];rfl
 | c::css,j+1,hk,h,hf=>by
  have hc:=hk c (bL ..);have g:=yH (x:=x) css j (fun cs a=>hk cs (bV _ a)) (by simpa using h) hf;have e:(j+1) * k+f=c.length+(j * k+f):=by rw [jc,hc]; omega
  rw [iX,e,List.set_append_right _ _ (by omega),sP,g];rfl
theorem FY (c:Array Value) (p:Nat) (x:Value) (h:p<c.size):(bY c p [x]).toList=c.toList.set p x:=by
 unfold bY;rw [wJ,af (by simpa using h)];simp
theorem Rows.set {α:Type} {k:Nat} {R:List Value->α->Prop} {css:List (List Value)} {ys:List α} (h:Rows k R css ys) {cs:List Value} {y:α} (j:Nat) (hR:R cs y) (a:cs.length=k):Rows k R (css.set j cs) (ys.set j y):=by
 refine ⟨by rw [jR,jR,h.hc],fun c hc=>?_,fun i g l=>?_⟩
 ·rcases Mi hc with hc|rfl
  ·exact h.hk c hc
  ·exact a
 ·rw [LW,LW];split
  ·exact hR
  ·exact h.hR i (by simpa using g) (by simpa using l)
theorem Rows.take {α:Type} {k:Nat} {R:List Value->α->Prop} {css:List (List Value)} {ys:List α} (h:Rows k R css ys) (n:Nat):Rows k R (css.take n) (ys.take n):=by
 have:=h.hc;refine ⟨by rw [iJ,iJ,h.hc],fun c hc=>h.hk c (List.mem_of_mem_take hc),fun i a g=>?_⟩;rw [iJ] at a;simp only [Oq];exact h.hR i (by omega) (by omega)
section
variable {P:Program} {w w0:World} {X:List Nat} {L:List Item} {S:ag} {K:Value->World->Prop}
attribute [local irreducible] Run CondV aC aU
theorem Inv.rowPtr (h:Inv w0 X L S w) {i k:Nat} {e:TypeId} {v:Value} {css:List (List Value)} (p:L[i]?=some (aB v e k css)) {j:Nat} (o:j<css.length) (hk:∀ cs∈css,cs.length=k) :
  ∃ g cap,v=.slice (some ⟨g,0,none⟩) css.length cap/\(∀ f u,css[j][f]?=some u->w.cell? ⟨g,j * k+f,none⟩=some u):=by
 have q:w.ownsRow 0 e k v css.length css.flatten:=h.its _ (fj p);rcases q.2 with ⟨_,B⟩|⟨g,cap,m,rfl,C,r,D,G,J,t⟩
 ·omega
 ·refine ⟨g,cap,rfl,fun f u hf=>?_⟩;rw [cell_of_row w g (j * k+f) m e (0,0) r];have a:=gl k css j hk o;have l:f<k:=by have:=(iu.1 hf).1; have:=hk _ (cH o); omega
  rw [<- a,yI,af l,xI,<- t,yI] at hf;split at hf
  ·simpa using hf
  ·cases hf
theorem Kq (h:Inv w0 X L S w) {T ty e:TypeId} (i:Nat) {g cap k j f a:Nat} {css:List (List Value)} {x:Value} (D:L[i]?=some (aB (.slice (some ⟨g,0,none⟩) css.length cap) e k css)) (N:jO P T=true) (G:j<css.length) (hf:f<k) (O:a=j * k+f)
  (p:∀ cs∈css,cs.length=k) (q:x.cells=#[x]) (U:x.oneCell'=true)
  (hk:∀ w',Inv w0 X (L.set i (aB (.slice (some ⟨g,0,none⟩) css.length cap) e k (css.set j (css[j].set f x)))) S w'->K undef w') :
  Run P (sOp (.store T (.const (.pointer (some ⟨g,a,none⟩))) (.const x)) ty) w K:=by
 subst O;have m:=(iu.1 D).1;have r:=(iu.1 D).2;have Y:List.Perm L ((L.take i++L.drop (i+1))++[aB (.slice (some ⟨g,0,none⟩) css.length cap) e k css]):=by
  conv=>lhs; rw [<- List.take_append_drop i L,dR m,r]
  rw [cN];exact Bx _ (bK (l₁:=[_]))
 have l:=h.perm Y.symm;obtain ⟨_,V⟩:=Inv.openRow l;rcases V with ⟨t,_⟩|⟨g',M,u,t,o,B,C,ht,l⟩
 ·cases t
 cases t;have Z:j * k+f<css.length * k:=by
  have:(j+1) * k<=css.length * k:=fH k G;rw [jc] at this;omega
 have J:css.length * k<=cap * k:=fH k o;refine ef l (L.take i++L.drop (i+1)).length (n:=1) (by rw [q]; rfl) (by rw [N]; rfl) (by rw [kV (be _),fg]; rfl) (by omega) (by rw [q]; simpa using U) fun w' l=>hk w' ?_;rw [List.set_append_right _ _ (be _),fg] at l;have l:Inv w0 X ((L.take i++L.drop (i+1))++[.blk g (.cells (bY u (j * k+f) x.cells.toList) e)]) S w':=l;rw [show x.cells.toList=[x] by rw [q]] at l;have l:=Inv.closeRow (n:=css.length) (cap:=cap) (k:=k) l o B (by rw [gW _ _ _ (by simp; omega)]; exact C);rw [FY _ _ _ (by omega),List.take_set,ht,yH css j p G hf] at l;refine l.perm ?_;rw [wJ,af m,cN];refine Bx _ ?_;rw [show Item.row (.slice (some ⟨g,0,none⟩) css.length cap) e k css.length (css.set j (css[j].set f x)).flatten=aB (.slice (some ⟨g,0,none⟩) css.length cap) e k (css.set j (css[j].set f x)) by simp [aB]];exact (bK (l₁:=[_]))
end
end
section
open Go Go.RowKit
def dZ (_:ag) (cs:List Value) (x:Ist):Prop:=cs=x.cells
theorem Rd (S S':ag) (cs:List Value) (x:Ist) (_:Sle S S') (h:dZ S cs x):dZ S' cs x:=h
theorem Pm (S:ag) (cs:List Value) (x:Ist) (h:dZ S cs x):cs.length=4:=by rw [dZ] at h; rw [h]; rfl
theorem Ti (S:ag) (cs:List Value) (x:Ist) (h:dZ S cs x):∀ c∈cs,c.oneCell'=true:=by rw [dZ] at h; rw [h]; exact x.one
theorem RdSl.monoK {S S':ag} {v:Value} {xs:List Ist} (a:Sle S S') (h:RdSl S 4 (dZ S) v xs):RdSl S' 4 (dZ S') v xs:=h.mono a fun _ _ h=>h
theorem RdSl.monoN {S S':ag} {v:Value} {xs:List Int} (a:Sle S S') (h:RdSl S 1 jG v xs):RdSl S' 1 jG v xs:=h.mono a fun _ _ h=>h
def MkS (S:ag) (cs:List Value) (s:CS):Prop:=∃ v1 v2,cs=[v1,.int .i64 s.next,v2]/\RdSl S 1 jG v1 s.sl/\RdSl S 4 (dZ S) v2 s.code
theorem MkS.mono {S S':ag} {cs:List Value} {s:CS} (a:Sle S S') (h:MkS S cs s):MkS S' cs s:=by
 obtain ⟨v1,v2,rfl,g,i⟩:=h;exact ⟨v1,v2,rfl,g.monoN a,i.monoK a⟩
theorem MkS.length {S:ag} {cs:List Value} {s:CS} (h:MkS S cs s):cs.length=3:=by obtain ⟨v1,v2,rfl,_⟩:=h; rfl
theorem MkS.one {S:ag} {cs:List Value} {s:CS} (h:MkS S cs s):∀ u∈cs,u.oneCell'=true:=by
 obtain ⟨v1,v2,rfl,⟨a,c,rfl,_⟩,⟨i,j,rfl,_⟩⟩:=h;intro u g;simp only [ek,Ln,or_false] at g;rcases g with rfl|rfl|rfl <;> rfl
abbrev DI (s:CS):Value->List Item->ag->Prop:=fun v I' S'=>I'=[]/\∃ cs,v=.agg cs.toArray/\MkS S' cs s
section
attribute [local irreducible] Run CondV aC aU
theorem cP {s:CS} (x:Ist) {S:ag} {cs:List Value} (h:MkS S cs s) (hl:s.code.length<=1000000000):Tri Tryz.prog Kk [.agg cs.toArray,.agg x.cells.toArray] [] S (DI (s.emit x)):=by
 intro w l;obtain ⟨v1,v2,rfl,h1,h2⟩:=h;refine xS.2 ?_;dsimp only[xS,bm];refine bH l fun N w' l=>?_;refine bH l fun b3 w' l=>?_;refine aH l eo fun b4 w' l=>?_;obtain ⟨B3,O⟩:∃ B3,B3=Item.blk b3 (.cells x.cells.toArray aF):=⟨_,rfl⟩
 obtain ⟨B4,U⟩:∃ B4,B4=Item.blk b4 (.cells #[.slice none 0 0,.int .i64 0,.slice none 0 0] av):=⟨_,rfl⟩
 have l:Inv w [] ([B3,B4]++[.blk N (.cells #[v1,.int .i64 s.next,v2] av)]) S w':=by
  rw [O,U];exact l.perm (bK (l₁:=[_,_]) (l₂:=[_]))
 have e3:=congrArg some O;have e4:=congrArg some U;refine ⟨fun D Cq Y Z x9 x8 x7 x6 x5 t=>Fx D 0 [True,x6=.pointer (some ⟨N,2,none⟩),x7=v2,True,x9=.agg x.cells.toArray,True,True,Cq=.pointer (some ⟨N,2,none⟩),True]/\∃ o:Nat,o<=3/\D 0=decide (1<=o)/\D 3=decide (2<=o)/\D 6=decide (3<=o)/\(apP w [] (fun cv=>[B3,B4]++[.blk N (.cells #[v1,.int .i64 s.next,cv] av)]) v2 aF 4 dZ s.code x S (D 5) (D 8) x5 x8 Z Y t o/\(D 8=true->D 2=true)),⟨Fx.nil _ _,⟨0,aK _,rfl,rfl,rfl,⟨apP.mk l.draw _ _ _ _,aY⟩⟩⟩,⟨?_,?_,?_,?_,?_,?_,?_,?_,?_,trivial⟩,?_⟩;all_goals (intro D J; intros; rename_i Cq Y Z x9 x8 x7 x6 x5 t M; have m:=M.1; obtain ⟨⟨cG,cf,cD,cF,bQ,cE,bZ,cL,dw,_⟩,⟨o,p,i,j,g,a⟩⟩:=M)
 ·obtain rfl:o=0:=iI i J;refine Uo a.1 i5 fun v t q=>?_;exact ⟨m.set 0 (by first|assumption|trivial),⟨1,by decide,rfl,(by first|exact j|rfl),(by first|exact g|rfl),⟨q,a.2⟩⟩⟩
 ·refine au rx ?_;exact ⟨m.set 1 rfl,⟨o,p,i,j,g,a⟩⟩
 ·obtain rfl:=cf ‹_›;have dw:D 8=false:=cS.2 fun h=>by rw [a.2 h] at J; cases J
  obtain ⟨S5,B,r,l⟩:=a.1.inv0 dw;refine aD l 2 g8 rfl rfl ?_;have a:=And.intro a.1 (fun (_:aE D 2 8=true)=>(rfl:aE D 2 2=true));exact ⟨m.set 2 (by first|assumption|trivial),⟨o,p,i,j,g,a⟩⟩
 ·have T3:=cG ‹_›;have RP:=cD ‹_›;obtain rfl:o=1:=gF i ‹D 0=true› j J;refine Uk Rd a.1 i5 (by omega) (by rw [RP]; exact h2) Pm Ti (by omega) (by omega) fun v t q=>?_;exact ⟨m.set 3 (by first|assumption|trivial),⟨2,by decide,(by first|exact i|rfl),rfl,(by first|exact g|rfl),⟨q,a.2⟩⟩⟩
 ·obtain ⟨S5,cv,B,r,l⟩:=a.1.inv;refine aq l 0 fw e3 rfl ?_;exact ⟨m.set 4 rfl,⟨o,p,i,j,g,a⟩⟩
 ·obtain rfl:=bQ ‹_›;refine T6 Rd a.1 i5 (by omega) (by omega) (cs:=x.cells) rfl rfl Pm fun v t q=>?_;have a:=And.intro q a.2;exact ⟨m.set 5 (by first|assumption|trivial),⟨o,p,i,j,g,a⟩⟩
 ·have Sx:=cF ‹_›;have Gv:=cE ‹_›;obtain rfl:o=2:=gF j ‹D 3=true› g J;refine Ul Rd a.1 ‹D 5=true› i5 (by omega) Pm Ti (by omega) (by omega) fun v t q=>?_;exact ⟨m.set 6 (by first|assumption|trivial),⟨3,by decide,(by first|exact i|rfl),(by first|exact j|rfl),rfl,⟨q,a.2⟩⟩⟩
 ·refine au rx ?_;exact ⟨m.set 7 rfl,⟨o,p,i,j,g,a⟩⟩
 ·obtain rfl:=cL ‹_›;have BB:=bZ ‹_›;have V:=iH p g ‹D 6=true›;have G:=a.1;rw [V] at G;rw [J] at G;refine Uh (C:=fun cv=>#[v1,.int .i64 s.next,cv]) (fun _=>rfl) G g8 (fun _ _=>rfl) (fun _=>show 2<3 by decide) fun t a0=>?_;have a1:apP w [] (fun cv=>[B3,B4]++[.blk N (.cells #[v1,.int .i64 s.next,cv] av)]) v2 aF 4 dZ s.code x S (aE D 8 5) (aE D 8 8) x5 x8 Z Y t o:=by rw [V]; exact a0
  have a:=And.intro a1 (fun (_:aE D 8 8=true)=>(‹D 2=true›:aE D 8 2=true));exact ⟨m.set 8 trivial,⟨o,p,i,j,g,a⟩⟩
 obtain rfl:o=3:=iH p g ‹D 6=true›;have Lh:D 8=true:=by assumption
 clear i j g;have a:=a.1;rw [Lh] at a;obtain ⟨S5,cv,r,u,l⟩:=a.fin;obtain ⟨ca,cc,rfl,_⟩:=id u;refine aq l 2 az rfl rfl ?_;refine al l 1 e4 az rfl rfl ?_ fun w' l=>?_
 ·exact (MkS.one (S:=S5) (s:=s.emit x) ⟨v1,_,rfl,h1.monoN r.1,u⟩)
 refine bp l 1 az rfl rfl ?_;exact ⟨_,_,S5,rfl,l.nil,r,rfl,_,rfl,v1,_,rfl,h1.monoN r.1,u⟩
theorem ny {s:CS} {n k:Int} {S:ag} {cs:List Value} (h:MkS S cs s) (Y:s.sl.length=26) (hn:0<=n/\n<26):Tri Tryz.prog Kp [.agg cs.toArray,.int .i64 n,.int .i64 k] [] S (DI (s.put n k)):=by
 intro w l;obtain ⟨v1,v2,rfl,B,U⟩:=h;refine y6.2 ?_;dsimp only[y6,fB];refine bH l fun b3 w' l=>?_;refine aH l eo fun r w' l=>?_;refine fc l jl fun v w' l=>?_;have l:Inv w [] [.blk b3 (.cells #[v1,.int .i64 s.next,v2] av),.blk r (.cells #[.slice none 0 0,.int .i64 0,.slice none 0 0] av),aB v bD 1 []] S w':=l;refine ah l 0 rfl dF fG rfl ?_;refine hK (css:=[]) l 2 jl (by omega) rfl B (fun _ _ h=>by rw [h]; rfl) (fun _ _ h=>by rw [h]; simp [Value.oneCell']) (by simp; omega) (by omega) fun t w' css hR l=>?_;have l:Inv w [] [.blk b3 (.cells #[v1,.int .i64 s.next,v2] av),.blk r (.cells #[.slice none 0 0,.int .i64 0,.slice none 0 0] av),aB t bD 1 css] S w':=l;have G:=hR.hc;have q:=gc (l.its (aB t bD 1 css) (by simp));refine dG l 0 rfl dF fG rfl q.1 q.2 fun w' l=>?_;have l:Inv w [] [.blk b3 (.cells #[t,.int .i64 s.next,v2] av),.blk r (.cells #[.slice none 0 0,.int .i64 0,.slice none 0 0] av),aB t bD 1 css] S w':=l;refine ah l 0 rfl dF fG rfl ?_;obtain ⟨m,rfl⟩:∃ m:Nat,n=(m:Int):=⟨n.toNat,by omega⟩
 have C:m<css.length:=by omega
 obtain ⟨g,cap,rfl,_⟩:=l.rowPtr (i:=2) rfl C hR.hk;refine aT fI C ?_;refine Kq l 2 (j:=m) (f:=0) rfl aw C (by omega) (by omega) hR.hk rfl rfl fun w' l=>?_;have o:=hR.hk _ (cH C);have V:css[m].set 0 (.int .i64 k)=[.int .i64 k]:=by
  match hc:css[m],o with
  | [a],_=>rfl
 rw [V] at l;refine aq l 0 az rfl rfl ?_;refine al l 1 rfl az rfl rfl ?_ fun w' l=>?_
 ·obtain ⟨Z,c',rfl,_⟩:=U;intro u N;simp only [ek,Ln,or_false] at N;rcases N with rfl|rfl|rfl <;> rfl
 refine bp l 1 az rfl rfl ?_;have l:Inv w [] ([.blk b3 (.cells #[.slice (some ⟨g,0,none⟩) css.length cap,.int .i64 s.next,v2] av),.blk r (.cells #[.slice (some ⟨g,0,none⟩) css.length cap,.int .i64 s.next,v2] av)]++[aB (.slice (some ⟨g,0,none⟩) css.length cap) bD 1 (css.set m [.int .i64 k])]) S w':=by
  have e:aB (.slice (some ⟨g,0,none⟩) css.length cap) bD 1 (css.set m [.int .i64 k])=aB (.slice (some ⟨g,0,none⟩) css.length cap) bD 1 (css.set m [.int .i64 k]):=rfl;exact l
 obtain ⟨S3,p,D,l⟩:=l.lendExt;have J:Rows 1 jG (css.set m [.int .i64 k]) (s.sl.set m k):=by
  refine ⟨by rw [jR,jR,G],fun c hc=>?_,fun i O B=>?_⟩
  ·rcases Mi hc with hc|rfl
   ·exact hR.hk c hc
   ·rfl
  ·rw [LW,LW];split
   ·rfl
   ·exact hR.hR i (by rw [jR] at O; exact O) (by rw [jR] at B; exact B)
 have M:=RowRd.rows J D;exact ⟨_,_,S3,rfl,l.nil,p,rfl,[.slice (some ⟨g,0,none⟩) css.length cap,.int .i64 s.next,v2],rfl,_,_,rfl,by show RdSl S3 1 jG _ (s.sl.set (m:Int).toNat k); rw [eB]; exact M,U.monoK p.1⟩
end
end
section
open Go Go.RowKit
structure Gn (s s':CS):Prop where
 next:s.next<=s'.next
 len:s'.sl.length=s.sl.length
theorem Gn.refl (s:CS):Gn s s:=⟨eP _,rfl⟩
theorem Gn.trans {s g a:CS} (h:Gn s g) (i:Gn g a):Gn s a:=⟨LA h.next i.next,i.len.trans h.len⟩
theorem Gn.emit (s:CS) (x:Ist):Gn s (s.emit x):=⟨eP _,rfl⟩
theorem Gn.inc (s:CS):Gn s s.inc:=⟨by show s.next<=s.next+1; omega,rfl⟩
theorem Gn.put (s:CS) (n v:Int):Gn s (s.put n v):=⟨eP _,jR ..⟩
theorem Gk (s:CS) (t:T):Gn s (eq s t):=by
 unfold eq;split
 ·exact .emit s _
 ·split
  ·exact .emit s _
  ·exact ((Gn.put s _ _).trans (.emit _ _)).trans (.inc _)
theorem LC (s:CS) (t:T):Gn s (ch s t).1:=by
 unfold ch;split
 ·exact (Gn.emit s _).trans (.inc _)
 ·exact Gk s t
theorem BZ:∀ (ts:List T) (s:CS),Gn s (bo s ts).1
 | [],s=>.refl s
 | t::ts,s=>by rw [bo]; exact (LC s t).trans (BZ ts _)
theorem Jh:∀ (ts:List T) (vs:List Int) (s:CS),Gn s (cJ s ts vs)
 | [],vs,s=>by rw [cJ]; exact .refl s; all_goals simp
 | t::ts,[],s=>by rw [cJ]; exact .refl s; all_goals simp
 | t::ts,v::vs,s=>by
  rw [cJ];have a:Gn s (if t.kind=3 then s.emit ⟨5,v,0,emptyB⟩ else eq s t):=by
   split
   ·exact .emit s _
   ·exact Gk s t
  exact a.trans (Jh ts vs _)
mutual
theorem qM:∀ (t:T) (s:CS),Gn s (aW t s).1/\s.next<=(aW t s).2
 | .mk k n nm ks,s=>by
  rw [aW];have a:=AG ks s;exact ⟨((a.1.trans (.emit _ _)).trans (.inc _)).trans (Jh ks _ _),a.1.next⟩
theorem AG:∀ (ts:List T) (s:CS),Gn s (bg ts s).1/\(0<=s.next->∀ i (h:i<ts.length) (q:i<(bg ts s).2.length),(ts[i].kind=3->0<=(bg ts s).2[i])/\(ts[i].kind≠3->(bg ts s).2[i]=-1))
 | [],s=>by rw [bg]; exact ⟨.refl s,fun _ i h=>absurd h (Nat.not_lt_zero _)⟩
 | t::ts,s=>by
  rw [bg];have l:Gn s (if t.kind=3 then aW t s else (s,-1)).1/\(0<=s.next->(t.kind=3->0<=(if t.kind=3 then aW t s else (s,-1)).2)/\(t.kind≠3->(if t.kind=3 then aW t s else (s,-1)).2=-1)):=by
   split
   ·rename_i a
    obtain ⟨p,r⟩:=qM t s;exact ⟨p,fun g=>⟨fun _=>by omega,fun h=>absurd a h⟩⟩
   ·rename_i a
    exact ⟨.refl s,fun _=>⟨fun h=>absurd h a,fun _=>rfl⟩⟩
  have m:=AG ts (if t.kind=3 then aW t s else (s,-1)).1;refine ⟨l.1.trans m.1,fun g i o j=>?_⟩;cases i with
  | zero=>exact l.2 g
  | succ i=>exact m.2 (LA g l.1.next) i (by simpa using o) (by simpa using j)
end
theorem Mt (s:CS) (i:Int) (t:T):Gn s (eY s i t):=by
 unfold eY;split
 ·exact .emit s _
 ·split
  ·split
   ·exact .emit s _
   ·exact ((Gn.put s _ _).trans (.inc _)).trans (.emit _ _)
  ·exact (qM t s).1.trans (.emit _ _)
theorem GO:∀ (ts:List T) (s:CS) (i:Int),Gn s (dM s i ts)
 | [],s,i=>.refl s
 | t::ts,s,i=>by rw [dM]; exact (Mt s i t).trans (GO ts _ _)
theorem NV (s:CS) (g:T):Gn s (eJ s g):=by
 unfold eJ;split
 ·exact .emit s _
 ·exact (GO g.kids s 0).trans (.emit _ _)
theorem Iu (s:CS) (i:Int) (t:T):Gn s (bx s i t).1:=by
 unfold bx;split
 ·exact .emit s _
 ·split
  ·show Gn s (if 0<=s.at_ t.n then s.emit ⟨1,s.at_ t.n,i,emptyB⟩ else s.put t.n i);split
   ·exact .emit s _
   ·exact .put s _ _
  ·exact .refl s
theorem D8:∀ (ts:List T) (s:CS) (i:Int),Gn s (bj s i ts).1
 | [],s,i=>.refl s
 | t::ts,s,i=>by rw [bj]; exact (Iu s i t).trans (D8 ts _ _)
theorem Mb:∀ (f:Nat) (s:CS) (q:List (T × Int)),Gn s (eD f s q)
 | 0,s,q=>.refl s
 | f+1,s,[]=>.refl s
 | f+1,s,x::q=>by
  rw [eD];exact ((Gn.emit s _).trans (BZ _ _)).trans (Mb f _ _)
theorem NT (s:CS) (ks:List T):Gn s (fp s ks):=(D8 ks s 0).trans (Mb _ _ _)
end
section
open Go Go.RowKit
def QOK (e:TypeId) (k:Nat) (v:Value) (it:Item) (css:List (List Value)):Prop:=
 (∀ cs∈css,cs.length=k)/\((v=.slice none 0 0/\css=[]/\it=.row (.slice none 0 0) e k 0 []) ∨
  ∃ g o cap cur,v=.slice (some ⟨g,o * k,none⟩) css.length cap/\it=.blk g (.cells cur e)/\css.length<=cap/\cap<=maxLen/\(o+cap) * k<=cur.size/\∀ i (h:i<css.length),bB cur ((o+i) * k) k=css[i])
section
variable {P:Program} {w w0:World} {X:List Nat} {L:List Item} {S:ag} {K:Value->World->Prop}
theorem QOK.slice {e:TypeId} {k:Nat} {v:Value} {it:Item} {css:List (List Value)} (h:QOK e k v it css):∃ a cap,v=.slice a css.length cap:=by
 rcases h.2 with ⟨rfl,rfl,_⟩|⟨g,o,cap,i,rfl,_⟩
 ·exact ⟨none,0,rfl⟩
 ·exact ⟨_,cap,rfl⟩
theorem Inv.toQ (h:Inv w0 X L S w) {i k:Nat} {e:TypeId} {v:Value} {css:List (List Value)} (l:L[i]?=some (aB v e k css)) (hk:∀ cs∈css,cs.length=k):∃ it,QOK e k v it css/\Inv w0 X (L.set i it) S w:=by
 have r:w.ownsRow 0 e k v css.length css.flatten:=h.its _ (fj l);rcases r.2 with ⟨rfl,t⟩|⟨g,cap,a,rfl,G,u,B,C,J,D⟩
 ·have hc:css=[]:=jK t;subst hc;refine ⟨.row (.slice none 0 0) e k 0 [],⟨hk,.inl ⟨rfl,rfl,rfl⟩⟩,?_⟩;have:L.set i (.row (.slice none 0 0) e k 0 [])=L:=by
   apply Mp;intro j;rw [xK];split
   ·rename_i q
    subst q;rw [af (iu.1 l).1,l]; rfl
   ·rfl
  rw [this]; exact h
 ·refine ⟨.blk g (.cells a e),⟨hk,.inr ⟨g,0,cap,a,by rw [mj],rfl,B,C,by rw [df]; omega,fun j o=>?_⟩⟩,?_⟩
  ·rw [df,<- gl k css j hk o,<- D];unfold bB;have m:(j+1) * k<=css.length * k:=fH k o;rw [gq,l3] at m;rw [Hr,Fg,AM (by omega)]
  ·refine h.change l (be _) rfl rfl rfl (fun _ _ _=>rfl) u (fun b p=>.inl ?_) (by simp [Item.foot]);simp only [Item.foot,cO] at p;subst p;simp [Item.foot,Value.ownBlock]
theorem QOK.tail {e:TypeId} {k:Nat} {it:Item} {cs:List Value} {css:List (List Value)} {a:Option Addr} {n cap:Nat} (h:QOK e k (.slice a n cap) it (cs::css)):QOK e k (.slice (if cap=1 then a else a.map (·.add (1 * k))) (n - 1) (cap - 1)) it css:=by
 refine ⟨fun c hc=>h.1 c (bV _ hc),.inr ?_⟩;rcases h.2 with ⟨_,t,_⟩|⟨g,o,m,j,p,rfl,u,C,q,B⟩
 ·cases t
 ·simp only [Value.slice.injEq,aO] at p u;obtain ⟨rfl,rfl,rfl⟩:=p;by_cases r:cap=1
  ·subst r;have hc:css=[]:=jK (by omega);subst hc;exact ⟨g,o,0,j,by rw [af rfl]; rfl,rfl,be _,by simp [maxLen],g9 (fH k (by omega)) q,fun i l=>absurd l (Nat.not_lt_zero _)⟩
  ·refine ⟨g,o+1,cap - 1,j,?_,rfl,by omega,by omega,?_,fun i l=>?_⟩
   ·rw [ae r,la,add_lit,gq,l3]; rfl
   ·rw [show o+1+(cap - 1)=o+cap by omega]; exact q
   ·have:=B (i+1) (by simpa using l);rw [show o+(i+1)=o+1+i by omega] at this;simpa using this
theorem vX (t ty e:TypeId) (i:TypeInfo) (G:P.underlying t=some (.slice e)) (J:P.info? e=some i)
  (g o l p:Nat) (q:Array Value) (M:w.heap[g]?=some (.cells q e (0,0)))
  (a:Addr) (m c:Nat) (h:List Value) (N:h.length=m * i.size) (r:∀ j u,h[j]?=some u->w.cell? (a.add j)=some u) (O:∀ u∈h,u.oneCell'=true)
  (B:l+m<=p) (C:o+l * i.size+h.length<=q.size) :
  (Builtin.append_ #[t,t] ty #[.slice (some ⟨g,o,none⟩) l p,.slice (some a) m c]).run P w =
   .ok (.slice (some ⟨g,o,none⟩) (l+m) p) (w.setRow g (bY q (o+l * i.size) h)):=by
 have hf:=run_firstCells_some (P:=P) w i.size m a m c h N r;have D:=run_storeCells_at P g (o+l * i.size) e h 0 q w M (by simpa using C) O;simp only [wU] at D;simp [Builtin.append_,run_underlying G,sizeOf,typeInfo,J,Builtin.lenOf,B,hf,Addr.add_lit,D,bY]
section
attribute [local irreducible] Run CondV aC aU
theorem O1 {T ty e:TypeId} {k:Nat} {v:Value} {it:Item} {cs:List Value} {css:List (List Value)} (h:cY P T=some (e,k)) (g:QOK e k v it (cs::css)) (hk:∀ v',QOK e k v' it css->K v' w):Run P (sOp (.slice T (.const v) (some (.const (.int .i64 (1:Nat)))) none none) ty) w K:=by
 obtain ⟨a,cap,rfl⟩:=g.slice;exact Jc h (by simp) (hk _ g.tail)
theorem P7 (h:Inv w0 X L S w) (i:Nat) {T U ty a e:TypeId} {k:Nat} {v:Value} {it:Item} {cs:List Value} {css:List (List Value)} (r:L[i]?=some it) (t:cY P T=some (e,k)) (B:nD P U=some k) (q:QOK e k v it (cs::css)) {K:Value->Value->World->Prop} (hk:∀ p,K p (.agg cs.toArray) w) :
  Run P (sOp (.indexAddr T (.const v) (.const (.int .i64 (0:Nat)))) ty) w fun p w'=>Run P (sOp (.load U (.const p)) a) w' (K p):=by
 rcases q.2 with ⟨_,l,_⟩|⟨g,o,cap,D,rfl,rfl,G,J,M,m⟩
 ·cases l
 ·refine aT t (by simp) ?_;have l:=m 0 (by simp);refine fo h i cs B r (q.1 cs (bL ..)) (fun j u C=>?_) (hk _);have:=bd l j u (by simpa using C);rw [wU] at this;rw [mj,wU];exact this
theorem Nc (h:Inv w0 X L S w) {T ty e:TypeId} {k O b o' cp:Nat} {z v:Value} {cs:List Bool} {css:List (List Value)} {it:Item} (i:Nat) (a:List Value)
  (hT:iB P T=some (e,k,O,z)) (U:0<k) (V:L[i]?=some it) (N:QOK e k v it css) (r:a.length=k)
  (t:∀ j u,a[j]?=some u->w.cell? ⟨b,o'+j,none⟩=some u) (h1:∀ u∈a,u.oneCell'=true) (Y:css.length+1<=4294967296) (Z:O<=32768)
  (hk:∀ v' it' w',QOK e k v' it' (css++[a])->Inv w0 X (L.set i it') S w'->K v' w') :
  Run P (bO .append #[T,T] ty cs [v,.slice (some ⟨b,o',none⟩) 1 cp]) w K:=by
 have G:∀ c∈css++[a],c.length=k:=fun c hc=>by
  rcases cI.1 hc with hc|hc
  ·exact N.1 c hc
  ·rw [cO.1 hc]; exact r
 rcases N.2 with ⟨rfl,rfl,rfl⟩|⟨g,o,cap,p,rfl,rfl,c1,b8,a7,a8⟩
 ·refine eU h i (m:=1) (n:=0) (xs:=[]) a hT U V (by rw [r,l3]) t h1 (by omega) Z fun v' w' hI=>?_;have a1:i<L.length:=(iu.1 V).1;have e1:Item.row v' e k (0+1) ([]++a)=aB v' e k [a]:=by simp [aB]
  rw [e1] at hI;obtain ⟨it',q1,q2⟩:=hI.toQ (i:=i) (by rw [Ie a1]) (fun c hc=>by rw [cO.1 hc]; exact r);rw [List.set_set] at q2;exact hk v' it' w' q1 q2
 ·obtain ⟨hu,D,a0,hz,hs,hb,a9⟩:=kz hT;have hg:w.heap[g]?=some (.cells p e):=h.its _ (fj V);have q:∀ j u,a[j]?=some u->w.cell? ((⟨b,o',none⟩:Addr).add j)=some u:=fun j u B=>by rw [add_lit]; exact t j u B
  have a2:a.length=1 * D.size:=by rw [hs,l3]; exact r
  by_cases C:css.length+1<=cap
  ·have b9:(o+(css.length+1)) * k<=p.size:=g9 (fH k (by omega)) a7;have l:o * k+css.length * k+k<=p.size:=by
    have e2:(o+(css.length+1)) * k=o * k+css.length * k+k:=by rw [gq,gq,l3]; omega
    omega
   have hr:=vX (P:=P) (w:=w) T ty e D hu a0 g (o * k) css.length cap p hg ⟨b,o',none⟩ 1 cp a a2 q h1 C (by rw [hs,r]; exact l);rw [D9 hg,hs] at hr;have b3:=gW p (o * k+css.length * k) a (by rw [r]; exact l);refine Run.of (v:=_) (w':=_) (by simp only [bO,builtin]; simp [hr]; rfl) (hk _ (.blk g (.cells (bY p (o * k+css.length * k) a) e)) _ ⟨G,.inr ⟨g,o,cap,_,by rw [bv]; rfl,rfl,by rw [bv]; exact C,b8,by rw [b3]; exact a7,fun j B=>?_⟩⟩ (h.setBlk V _ rfl));rw [bv,vh] at B;by_cases ej:j=css.length
   ·subst ej;have:=ft (c:=p) (o:=o * k+css.length * k) (vs:=a) (by rw [r]; exact l);rw [r] at this;rw [gq,this];simp
   ·have J:j<css.length:=by omega
    rw [oo J,<- a8 j J];refine gj (by rw [r]; exact l) (.inl ?_);have e3:(j+1) * k<=css.length * k:=fH k J;rw [gq,l3] at e3;rw [gq];omega
  ·have a3:∀ j u,css.flatten[j]?=some u->w.cell? ((⟨g,o * k,none⟩:Addr).add j)=some u:=fun j u B=>by
    rw [add_lit,cell_of_row w g (o * k+j) p e (0,0) hg];have b4:css.flatten.length=css.length * k:=jD N.1;have b5:j<css.length * k:=by rw [<- b4]; exact (iu.1 B).1
    have hd:j / k<css.length:=Nat.div_lt_of_lt_mul (by rw [Nat.mul_comm]; exact b5);have hm:j % k<k:=wv _ U;have a4:j=(j / k) * k+j % k:=by rw [Nat.mul_comm]; exact (Nat.div_add_mod j k).symm
    have h9:=gl k css (j / k) N.1 hd;rw [<- a8 (j / k) hd] at h9;have e5:css.flatten[j]?=(List.take k (css.flatten.drop ((j / k) * k)))[j % k]?:=by
     rw [yI,af hm,xI,<- a4]
    rw [e5,h9] at B;have:=bd (c:=p) rfl (j % k) u B;rw [gq,Nat.add_assoc,<- a4] at this;exact this
   have hr:=run_append_grow (P:=P) (w:=w) T ty e D z hu a0 hz ⟨g,o * k,none⟩ css.length cap css.flatten (by rw [hs]; exact jD N.1) a3 ⟨b,o',none⟩ 1 cp a a2 q (by omega) (by omega) (by
    rw [hb];exact growslice_fits (by omega) (g9 (Nat.mul_le_mul Y Z) (by decide)))
   have b6:=grownCap_ge w (css.length+1) cap e;have a5:grownCap w (css.length+1) cap e<=maxLen:=grownCap_le_maxLen w _ cap e (by simp only [maxLen]; omega);have M:css.flatten.length=css.length * k:=jD N.1;have b7:(Builtin.zeroCells z.cells (grownCap w (css.length+1) cap e - (css.length+1))).size=(grownCap w (css.length+1) cap e - (css.length+1)) * k:=by rw [size_zeroCells,a9]
   obtain ⟨v2,w2,b0,b1,b2⟩:∃ v2 w2,v2=_/\w2=_/\(Builtin.append_ #[T,T] ty #[.slice (some ⟨g,o * k,none⟩) css.length cap,.slice (some ⟨b,o',none⟩) 1 cp]).run P w=.ok v2 w2:=⟨_,_,rfl,rfl,hr⟩
   refine Run.of (v:=v2) (w':=w2) (by simp [bO,builtin,b2]) ?_;subst b0 b1;refine (hk _ (.blk w.heap.size (.cells (css.flatten.toArray++a.toArray++Builtin.zeroCells z.cells (grownCap w (css.length+1) cap e - (css.length+1))) e)) _ ⟨G,.inr ⟨w.heap.size,0,_,_,by rw [bv,mj]; rfl,rfl,by rw [bv]; exact b6,a5,?_,fun j B=>?_⟩⟩ ?_)
   ·rw [df,Array.size_append,Array.size_append,List.size_toArray,List.size_toArray,M,r,b7,<- jc,<- gq];exact fH k (by omega)
   ·rw [bv,vh] at B;have a6:(css++[a]).flatten=css.flatten++a:=by simp
    have h9:=gl k (css++[a]) j G (by rw [bv]; exact B);rw [<- h9,a6];unfold bB;have e3:(j+1) * k<=(css.length+1) * k:=fH k B;rw [gq,l3,gq,l3] at e3;simp only [Array.toList_append,df];rw [OO (by rw [bv,M,r]; omega),JR (by rw [tu,bv,M,r]; omega)]
   ·refine h.change V (by simp) rfl rfl rfl (fun c hc _=>heap_alloc_old w.drew _ c hc) (heap_alloc_new w.drew _) (fun c hc=>.inr ?_) (by simp [Item.foot]);simp only [Item.foot,cO] at hc;omega
end
end
end
end Go.Proofs.YtjbcdmheajljpaaGreat
