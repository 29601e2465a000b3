/- spec.l13One. -/
import Derived.Test.YtellfcpffcipcaaGreatDoorZCkA
import Derived.Test.YtellfcpffcipcaaGreatDoorZCk30
namespace Go.Proofs.YtellfcpffcipcaaGreatDoor
attribute [local irreducible] Run CondV aF aT
section
open Go Go.RowKit
theorem Inv.lendRowE {w0 w:World} {X:List Nat} {A:List Item} {S:ae} {v:Value} {e:TypeId} {k n:Nat} {xs:hZ} (h:Inv w0 X (A++[.row v e k n xs]) S w) :
  ∃ S',Ext w0.heap.size X S S'/\RowRd S' v e k n xs/\Inv w0 X A S' w:=by
 obtain ⟨hl,l⟩:=h.openRow;rcases l with ⟨rfl,r⟩|⟨g,cap,a,rfl,f,i,j,t,B⟩
 ·exact ⟨S,Ext.refl _ _ _,⟨hl,.inl ⟨rfl,r⟩⟩,h.sub (eh _ _)⟩
 ·obtain ⟨S',m,o,q⟩:=Inv.pub1 (A:=A) B;exact ⟨S',o,⟨hl,.inr ⟨g,cap,a,rfl,q,f,i,j,t⟩⟩,m⟩
theorem OneR.inv {p:List C} {s q:Se} {e:Int} (h:OneR p s q e):∃ g rest u,s.st.goals=g::rest/\Res s.st.binds (.one g.1 u)/\
  (((bL u=false ∨ fC u=true)/\s=q/\e=0) ∨ (bL u=true/\fC u=false/\
   ((bW u=false/\∃ o,TakeR p s ⟨u,rest,hH p u,s.st.binds⟩ o/\((o=some q/\e=-1) ∨ (o=none/\s=q/\e=-2))) ∨
       (bW u=true/\∃ c st,Blt s.st.binds u c st/\((c=1/\s=q/\e=-2) ∨ (c≠0/\c≠1/\s=q/\e=0) ∨ (c=0/\q=⟨⟨rest,st,s.st.chs⟩,s.steps++[⟨u,-1,0⟩],s.saved⟩/\e=-1)))))):=by
 cases h with
 | big a f i=>exact ⟨_,_,_,a,f,.inl ⟨i,rfl,rfl⟩⟩
 | took a f i j l m=>exact ⟨_,_,_,a,f,.inr ⟨i,j,.inl ⟨l,_,m,.inl ⟨rfl,rfl⟩⟩⟩⟩
 | stuck a f i j l m=>exact ⟨_,_,_,a,f,.inr ⟨i,j,.inl ⟨l,_,m,.inr ⟨rfl,rfl,rfl⟩⟩⟩⟩
 | fail a f i j l m=>exact ⟨_,_,_,a,f,.inr ⟨i,j,.inr ⟨l,_,_,m,.inl ⟨rfl,rfl,rfl⟩⟩⟩⟩
 | err a f i j l m r t=>exact ⟨_,_,_,a,f,.inr ⟨i,j,.inr ⟨l,_,_,m,.inr (.inl ⟨r,t,rfl,rfl⟩)⟩⟩⟩
 | solved a f i j l m=>exact ⟨_,_,_,a,f,.inr ⟨i,j,.inr ⟨l,_,_,m,.inr (.inr ⟨rfl,rfl,rfl⟩)⟩⟩⟩
def acD (s':Se) (e:Int):Value->List Item->ae->Prop:=fun q I' S'=>I'=[]/\∃ cs:List Value,q=.tuple #[.agg cs.toArray,ax e]/\RdSe S' cs s'
def PTk (s:Se) (o:Option Se) (S:ae) (v:Value):Prop:=∃ cs:List Value,v=.tuple #[.agg cs.toArray,.bool o.isSome]/\RdSe S cs (o.getD s)
theorem PTk.mono {s:Se} {o:Option Se} {S S':ae} {v:Value} (h:PTk s o S v) (a:Sle S S'):PTk s o S' v:=by
 obtain ⟨cs,e,h⟩:=h;exact ⟨cs,e,h.mono a⟩
def IsSe (s:Se) (S:ae) (v:Value):Prop:=∃ cs:List Value,v=.agg cs.toArray/\RdSe S cs s
theorem IsSe.mono {s:Se} {S S':ae} {v:Value} (h:IsSe s S v) (a:Sle S S'):IsSe s S' v:=by
 obtain ⟨cs,e,h⟩:=h;exact ⟨cs,e,h.mono a⟩
def IsCh (c:Ch) (S:ae) (v:Value):Prop:=∃ cs:List Value,v=.agg cs.toArray/\RdCh S cs c
theorem IsCh.mono {c:Ch} {S S':ae} {v:Value} (h:IsCh c S v) (a:Sle S S'):IsCh c S' v:=by
 obtain ⟨cs,e,h⟩:=h;exact ⟨cs,e,h.mono a⟩
abbrev zT4:Array Value:=bb
abbrev zG5:Array Value:=#[ax 0,ax 0,.string ⟨#[]⟩,hV,ax 0]
section
set_option maxHeartbeats 4000000 in
theorem Oe {p:List C} (hp:∀ cl∈p,BF cl) (l1:p.length<=1000000) {k:Nat} (hk:k<=900) {s s':Se} {e:Int} (h:OneR p s s' e) (e9:qC p.length s) (hx:okXk k s)
  {S:ae} {u:Value} {ss:hZ} (hP:RdSl S 5 (RdC S) u p) (hs:RdSe S ss s):kt US [u,.agg ss.toArray] [] S (acD s' e):=by
 intro w a;obtain ⟨g,rest,t,j4,d1,U⟩:=h.inv;obtain ⟨gs,sb,sc,st,sv,rfl,d2,d9,g3,g4,g5⟩:=id hs;have f5:=e9.st.goals;have f6:=hx.goals;have h5:=hx.ng;rw [j4] at d2 f5 f6 h5;obtain ⟨b8,c0,rfl,_⟩:=id d2;obtain ⟨b1,b2,rfl,_⟩:=id d9;obtain ⟨N,O,rfl,_⟩:=id g3;obtain ⟨a2,a3,rfl,_⟩:=id g4;obtain ⟨a0,a1,rfl,_⟩:=id g5;have k3:=hx.nb;have l4:=hx.nc;have l0:=hx.ns;have c6:=hx.pos;have a9:=e9.st.good;have h6:=f5 g (bi ..);have e5:=kz a9 d1 h6.1;have f7:okM t:=Res.okM hx.tab d1 (f6 g (bi ..));apply Gj.2;dsimp only[Gj,bl];refine bq a fun b3 w' a=>?_;refine aG a eP fun b4 w' a=>?_;obtain ⟨B3,f2⟩:∃ B:Item,B=ay b3 #[.slice b8 (g::rest).length c0,.slice b1 s.st.binds.length b2,.slice N s.st.chs.length O,.slice a2 s.steps.length a3,.slice a0 s.saved.length a1] aX:=⟨_,rfl⟩
 obtain ⟨B4,g6⟩:∃ B:Item,B=ay b4 zSe aX:=⟨_,rfl⟩
 have e3:=congrArg some f2;have e4:=congrArg some g6;have a:Inv w [] [B3,B4] S w':=by rw [f2,g6];exact a
 have c7:∀ {S1:ae} {B:List Item} {w':World} {K:Value->World->Prop},Inv w [] ([B3,B4]++B) S1 w'->(∀ w',Inv w [] ([B3,ay b4 #[.slice b8 (g::rest).length c0,.slice b1 s.st.binds.length b2,.slice N s.st.chs.length O,.slice a2 s.steps.length a3,.slice a0 s.saved.length a1] aX]++B) S1 w'->K undef w')->
   Run Tryz.prog (sOp (.load aX (.const (ee b3))) aX) w' fun v w'=>Run Tryz.prog (sOp (.store aX (.const (ee b4)) (.const v)) 0) w' K:=by
  intro S1 B w' K a hk;apply av a 0 bh e3 rfl;exact aq a 1 e4 bh rfl rfl (YP rfl rfl rfl rfl rfl) fun w' a=>hk w' a
 have b0:∀ {S1:ae},Sle S S1->RdSe S1 [.slice b8 (g::rest).length c0,.slice b1 s.st.binds.length b2,.slice N s.st.chs.length O,.slice a2 s.steps.length a3,.slice a0 s.saved.length a1] s:=fun j1=>hs.mono j1;refine ah cD (ah iW (aD a 0 iu e3 rfl (cL (i:=0) a d2 mO HV (by simp) (fun _ _=>RdG.length) fun j2 c4=>?_)));have c4:RdG S j2 g:=c4;refine aG a Ua fun b6 w' a=>?_;refine aq a 2 rfl HV (by simpa using c4.length) rfl (by simpa using c4.one) fun w' a=>?_;obtain ⟨l2,rfl,g7⟩:=id c4;have h7:=g7;obtain ⟨e0,rfl,_⟩:=RdT.iff.1 g7;refine ah NS (cP a 2 (hJ g.1 e0) ac rfl rfl Nw (ah cD (ah mz (aD a 0 aj e3 rfl (Run.call0E BB AK a (Rf c6 a9 d1 h6 h7 d9) fun v' I' S1 w'=>?_)))));rintro ⟨rfl,ts,g1,j0,rfl,g2⟩ hE a;refine al (v:=.agg ts.toArray) rfl (al (v:=.bool (bL t)) rfl (aG a aV fun b7 w' a=>?_));have a:Inv w [] [B3,B4,ay b6 #[ax g.1.kind,ax g.1.n,.string g.1.name,e0,ax g.2] lZ,ay b7 zT4 ab] S1 w':=a;refine aq a 3 rfl ac (by simpa using g1) rfl (by simpa using j0) fun w' a=>?_;obtain ⟨B7,g8⟩:∃ B:Item,B=ay b7 ts.toArray ab:=⟨_,rfl⟩
 have e7:=congrArg some g8;have a:Inv w [] [B3,B4,B7] S1 w':=by rw [g8];exact a.pick [true,true,false,true]
 refine ⟨fun q w'=>q=.bool (!bL t || fC t)/\Inv w [] [B3,B4,B7] S1 w',?_,?_⟩
 ·apply cq;cases d4:bL t with
  | false=>
   refine rpG ?_;exact ⟨rfl,a⟩
  | true=>
   refine rpG ?_;refine av a 2 ac e7 (by simpa using g1) (Run.callPure s0 sX a (pV (g2 d4)) fun w' a=>?_);refine rpG ?_;exact ⟨rfl,a⟩
 intro q _ _ _ _ _ w';rintro ⟨rfl,a⟩;rcases U with ⟨i8,rfl,rfl⟩|⟨d4,k8,U⟩
 ·have hq:(!bL t || fC t)=true:=by rcases i8 with h|h <;> rw [h] <;> simp
  refine aE (fun _=>?_) (fun hb=>by rw [hq] at hb;cases hb);refine c7 (B:=[B7]) a fun w' a=>?_;apply bm a 1 bh rfl rfl;exact ⟨_,[],S1,rfl,a.nil,hE,rfl,_,rfl,b0 hE.1⟩
 have hq:(!bL t || fC t)=false:=by rw [d4,k8];rfl
 refine aE (fun hb=>by rw [hq] at hb;cases hb) (fun _=>?_);have h8:=g2 d4;have c8:=h8;have k4:=a;obtain ⟨c3,rfl,_,_,_,j5⟩:=RdT.iff.1 h8;have a:=k4;have hw:=gG d4 e5;have e7:some B7=some (ay b7 (gn t c3) ab):=e7;refine ad a 2 e7 aW aP rfl (ad a 2 e7 ao aj rfl (aI j5 ag (Run.callPure jq jn a (ij _ _ S1) fun w' a=>?_)));rw [aap f7];apply cq;rcases U with ⟨d6,o,hT,U⟩|⟨d6,c,i9,hB,U⟩
 ·rw [d6];refine aE (fun _=>?_) (fun hb=>by cases hb);obtain ⟨c,e1⟩:∃ c:Ch,c=⟨t,rest,hH p t,s.st.binds⟩:=⟨_,rfl⟩
  rw [<- e1] at hT;have hc:od c:=by
   rw [e1];exact ⟨a9,⟨e5,by simp only;omega⟩,fun x hx=>f5 x (bk _ hx)⟩
  have hr:okRk k c:=by
   rw [e1];simp only [bI] at h5;exact ⟨k3,by simp only;omega,hx.tab,f7,fun x hx=>f6 x (bk _ hx),c6⟩
  have h9:=hP.monoC hE.1;refine ⟨fun D P4 x9 vC uk lS uB sT uv qW nh s6 tV rf qp lL oF nz pD mn nj w_=>Fx D 0 [nj=u,mn=.agg #[.slice b8 (g::rest).length c0,.slice b1 s.st.binds.length b2,.slice N s.st.chs.length O,.slice a2 s.steps.length a3,.slice a0 s.saved.length a1],pD=.agg (gn t c3),nz=ee b3,oF=ee b3,lL=.slice b8 (g::rest).length c0,RdSl S 5 (RdG S) qp rest,rf=u,tV=.agg (gn t c3),True,nh=ee b3,qW=eu b3 1,uv=.slice b1 s.st.binds.length b2,True,True,True,True,vC=.bool o.isSome,True,True,P4=.bool o.isSome]/\∃ S2,Ext w.heap.size [] S1 S2/\(D 9=true->RdSl S2 1 gW s6 (hH p t))/\(D 13=true->IsCh c S2 sT)/\(D 14=true->PTk s o S2 uB)/\(D 15=true->PTk s o S2 lS)/\(D 16=true->IsSe (o.getD s) S2 uk)/\nwP w [] [B3,B4,B7] aX zSe (fun S q=>IsSe (o.getD s) S (.agg q)) (D 18) (D 19) x9 S2 w_,⟨Fx.nil _ _,⟨S1,Ext.refl _ _ _,aU,aU,aU,aU,aU,nwP.mk a.draw _⟩⟩,⟨?_,?_,?_,?_,?_,?_,?_,?_,?_,?_,?_,?_,?_,?_,?_,?_,?_,?_,?_,?_,?_,trivial⟩,?_⟩;all_goals (intro D bw;intros;rename_i P4 x9 vC uk lS uB sT uv qW nh s6 tV rf qp lL oF nz pD mn nj w_ c2;have f:=c2.1;obtain ⟨⟨co,cn,bP,cj,cA,bQ,bO,cM,de,dv,bU,cC,cY,dK,dd,ek,eH,fl,gZ,fI,iI,_⟩,⟨S2,j,f9,r,J,m,G,Y⟩⟩:=c2)
  rotate_left;obtain ⟨R,a⟩:=Y.inv;refine av a 0 bh e3 rfl ?_;rotate_left
  obtain ⟨R,a⟩:=Y.inv;refine av a 2 ac e7 rfl ?_;rotate_left
  apply ah cD;rotate_left
  obtain rfl:=cj ‹_›;apply ah iW;rotate_left
  obtain rfl:=cA ‹_›;obtain ⟨R,a⟩:=Y.inv;refine aD a 0 iu e3 rfl ?_;rotate_left
  obtain rfl:=bQ ‹_›;refine ju (l:=1) mO d2 (by simp) fun v' d0=>?_;have d0:RdSl S 5 (RdG S) v' rest:=d0;rotate_left;rotate_left
  obtain ⟨R,a⟩:=Y.inv;refine av a 2 ac e7 rfl ?_;rotate_left
  obtain rfl:=cM ‹_›;obtain rfl:=de ‹_›;obtain ⟨R,a,c5⟩:=nwP.ex (Q:=fun S q=>IsSe (o.getD s) S (.agg q)) (fun _ _ _ hs h=>IsSe.mono h hs) Y;refine Run.call0E Tq Tm a (R9 (h9.monoC j.1) (c8.mono j.1) (by omega)) fun v I' S3 w_=>?_;rintro ⟨rfl,eS⟩ _ a;rw [eS] at a;obtain ⟨S3,Z,j6,a⟩:=Inv.lendRowE a;have Y:=c5 S3 _ Z.1 a;have f9:aC D 9 9=true->RdSl S3 1 gW v (hH p t):=fun _=>j6.ints;have r:aC D 9 13=true->IsCh c S3 sT:=fun h=>(r h).mono Z.1;have J:aC D 9 14=true->PTk s o S3 uB:=fun h=>(J h).mono Z.1;have m:aC D 9 15=true->PTk s o S3 lS:=fun h=>(m h).mono Z.1;have G:aC D 9 16=true->IsSe (o.getD s) S3 uk:=fun h=>(G h).mono Z.1;obtain ⟨S2,rfl,j⟩:∃ S2,S2=S3/\Ext w.heap.size [] S1 S2:=⟨S3,rfl,j.trans Z⟩
  rotate_left;apply ah cD;rotate_left
  obtain rfl:=bU ‹_›;apply ah mz;rotate_left
  obtain rfl:=cC ‹_›;obtain ⟨R,a⟩:=Y.inv;refine aD a 0 aj e3 rfl ?_;rotate_left
  obtain rfl:=bP ‹_›;have Ky:=bO ‹_›;have K2:=dv ‹_›;obtain rfl:=cY ‹_›;have i0:=f9 ‹D 9=true›;obtain ⟨fa,fc,rfl,_⟩:=id i0;obtain ⟨qa,qc,rfl,_⟩:=id Ky;apply Mc;have r:aC D 13 13=true->IsCh c S2 (.agg #[ax t.kind,ax t.n,.string t.name,c3,.slice qa rest.length qc,.slice fa (hH p t).length fc,.slice b1 s.st.binds.length b2]):=fun _=>by
   rw [e1];exact ⟨[ax t.kind,ax t.n,.string t.name,c3,.slice qa rest.length qc,.slice fa (hH p t).length fc,.slice b1 s.st.binds.length b2],rfl,_,_,_,_,rfl,c8.mono j.1,Ky.monoG (hE.trans j).1,i0,d9.monoO (hE.trans j).1⟩
  rotate_left;obtain rfl:=co ‹_›;obtain rfl:=cn ‹_›;have j9:=dK ‹_›;obtain ⟨j7,rfl,j8⟩:=r ‹D 13=true›;obtain ⟨R,a,c5⟩:=nwP.ex (Q:=fun S q=>IsSe (o.getD s) S (.agg q)) (fun _ _ _ hs h=>IsSe.mono h hs) Y;refine Run.call0E C4 AQ a (x0 hp (by omega) hc hr hT (by omega) (by omega) (by rw [e9.len];omega) (h9.monoC j.1) (b0 (hE.trans j).1) j8) fun v I' S3 w_=>?_;rintro ⟨rfl,hg⟩ Z a;rw [dc] at a;have Y:=c5 S3 _ Z.1 a;have f9:aC D 14 9=true->RdSl S3 1 gW s6 (hH p t):=fun h=>(f9 h).mono Z.1 fun _ _ h=>h;have r:aC D 14 13=true->IsCh c S3 (.agg j7.toArray):=fun h=>(r h).mono Z.1;have J:aC D 14 14=true->PTk s o S3 v:=fun _=>hg;have m:aC D 14 15=true->PTk s o S3 lS:=fun h=>(m h).mono Z.1;have G:aC D 14 16=true->IsSe (o.getD s) S3 uk:=fun h=>(G h).mono Z.1;obtain ⟨S2,rfl,j⟩:∃ S2,S2=S3/\Ext w.heap.size [] S1 S2:=⟨S3,rfl,j.trans Z⟩
  rotate_left;have Eb:=dd ‹_›;have m:aC D 15 15=true->PTk s o S2 uB:=fun _=>J ‹D 14=true›;rotate_left
  have W6:=ek ‹_›;obtain ⟨ns,rfl,b5⟩:=m ‹D 15=true›;refine al (v:=.agg ns.toArray) rfl ?_;have G:aC D 16 16=true->IsSe (o.getD s) S2 (.agg ns.toArray):=fun _=>⟨ns,rfl,b5⟩
  rotate_left;have W6:=ek ‹_›;obtain ⟨ns,rfl,b5⟩:=m ‹D 15=true›;refine al (v:=.bool o.isSome) rfl ?_;rotate_left
  refine nwP.alloc Y bw eP rfl fun v w_ Y=>?_;rotate_left
  have k0:=gZ ‹_›;have Uq:=eH ‹_›;obtain ⟨ns,rfl,b5⟩:=G ‹D 16=true›;refine nwP.store Y ‹D 18=true› bw bh (by simpa using b5.length) rfl (by simpa using b5.one) ⟨ns,rfl,b5⟩ fun w_ Y=>?_;rotate_left
  obtain rfl:=fl ‹_›;rotate_left
  all_goals try exact ⟨f.set _ (by first|rfl|assumption|trivial),S2,j,f9,r,J,m,G,Y⟩
  obtain ⟨rfl,rfl,rfl,rfl,rfl,rfl,Ky,rfl,rfl,K2,rfl,rfl,rfl,j9,Eb,W6,Uq,rfl,k0,_,rfl,_⟩:=f.all;have k5:D 18=true:=by assumption
  have k6:D 19=true:=by assumption
  clear f;rw [k5,k6] at Y;obtain ⟨b9,q9,rfl,⟨ns,k1,b5⟩,a⟩:=Y.fin;obtain rfl:=Value.agg.inj k1;have f8:=b5.length;rcases U with ⟨rfl,rfl⟩|⟨rfl,rfl,rfl⟩
  ·refine aE (fun _=>?_) (fun hb=>by cases hb);refine av a 3 bh rfl (by simpa using f8) (aq a 1 e4 bh (by simpa using f8) rfl (by simpa using b5.one) fun w' a=>?_);refine bm a 1 bh rfl (by simpa using f8) ?_;exact ⟨_,[],S2,rfl,a.nil,hE.trans j,rfl,ns,rfl,b5⟩
  ·refine aE (fun hb=>by cases hb) (fun _=>?_);refine c7 (B:=[B7,_]) a fun w' a=>?_;apply bm a 1 bh rfl rfl;exact ⟨_,[],S2,rfl,a.nil,hE.trans j,rfl,_,rfl,b0 (hE.trans j).1⟩
 ·rw [d6];refine aE (fun hb=>by cases hb) (fun _=>?_);have i1:=d9.monoO hE.1;refine fg a bx fun v0 w' a=>?_;refine ah cD (ah mz (aD a 0 aj e3 rfl (fZ (css:=[]) a 3 bx (by omega) rfl i1 (fun _ _=>RdO.length) (fun _ _=>RdO.one) (by simp;omega) (by omega) fun v w' css hR a=>?_)));have a:Inv w [] ([B3,B4,B7]++[aK v ab 4 css]) S1 w':=a;obtain ⟨kb,cap,l3,rfl,q1,q2,f0,a⟩:=Inv.tab a hR c6;apply av a 2 ac e7 rfl;refine Run.callE BA Bq a (tT (kp:=cap) (by omega) c6 q1 q2 a9 ⟨e5,by omega⟩ f7.okN d6 hB c8 f0) fun v' I' S' w'=>?_;rintro ⟨eS,rfl,kc,rfl,f0⟩ _ a;rw [eS] at a;have c4:=hB.good a9 d6 ⟨e5,by omega⟩;have i2:=c4.len;refine bn (aJ (fun d7=>?_) (fun d7=>?_))
  ·rcases U with ⟨_,rfl,rfl⟩|⟨_,h1,_⟩|⟨h0,_⟩
   ·refine c7 (B:=[B7,_]) a fun w' a=>?_;apply bm a 1 bh rfl rfl;exact ⟨_,[],S1,rfl,a.nil,hE,rfl,_,rfl,b0 hE.1⟩
   ·exact absurd d7 h1
   ·omega
  refine dw (aE (fun f1=>?_) (fun f1=>?_))
  ·rcases U with ⟨h1,_⟩|⟨_,_,rfl,rfl⟩|⟨h0,_⟩
   ·exact absurd h1 d7
   ·refine c7 (B:=[B7,_]) a fun w' a=>?_;apply bm a 1 bh rfl rfl;exact ⟨_,[],S1,rfl,a.nil,hE,rfl,_,rfl,b0 hE.1⟩
   ·exact absurd h0 (by simpa using f1)
  rcases U with ⟨h1,_⟩|⟨h0,_⟩|⟨_,rfl,rfl⟩
  ·exact absurd h1 d7
  ·exact absurd h0 (by simpa using f1)
  obtain ⟨S3,a,Z,k2⟩:=Inv.pub1 a;have e6:=hE.trans Z;have k7:RdSl S3 4 (RdO S3) (kvU kb s.st.binds.length cap) i9:=by
   have:=(f0.rd (cap:=cap) k2 (by rw [i2];exact q1) q2).mono (Sle.refl _) fun _ _ h=>RdO.mono Z.1 h;rw [i2] at this;exact this
  have a:Inv w [] [ay b3 #[.slice b8 (g::rest).length c0,.slice b1 s.st.binds.length b2,.slice N s.st.chs.length O,.slice a2 s.steps.length a3,.slice a0 s.saved.length a1] aX,B4,B7] S3 w':=by rw [<- f2];exact a
  refine ⟨fun D yn xL yr AF xA yf Ar ze ud Bw w_=>Fx D 0 [Bw=ee b3,ud=ee b3,ze=.slice b8 (g::rest).length c0,RdSl S 5 (RdG S) Ar rest,yf=kvU kb s.st.binds.length cap,xA=ee b3,AF=eu b3 2,yr=.slice N s.st.chs.length O,∃ ga gc,xL=.agg #[.slice ga rest.length gc,kvU kb s.st.binds.length cap,.slice N s.st.chs.length O]/\RdSl S 5 (RdG S) (.slice ga rest.length gc) rest,yn=ee b3,True]/\∃ q3,(D 10=true->D 2=true/\D 7=true)/\(D 10=false->q3=#[.slice b8 (g::rest).length c0,.slice b1 s.st.binds.length b2,.slice N s.st.chs.length O,.slice a2 s.steps.length a3,.slice a0 s.saved.length a1])/\(D 10=true->∃ gv,q3=#[gv,kvU kb s.st.binds.length cap,.slice N s.st.chs.length O,.slice a2 s.steps.length a3,.slice a0 s.saved.length a1]/\RdSl S 5 (RdG S) gv rest)/\Inv w [] [ay b3 q3 aX,B4,B7] S3 w_,⟨Fx.nil _ _,⟨_,aU,fun _=>rfl,aU,a.draw⟩⟩,⟨?_,?_,?_,?_,?_,?_,?_,?_,?_,?_,?_,trivial⟩,?_⟩;all_goals (intro D bw;intros;rename_i yn xL yr AF xA yf Ar ze ud Bw w_ c2;have f:=c2.1;obtain ⟨⟨co,cn,bP,cj,cA,bQ,bO,cM,de,dv,bU,_⟩,⟨q3,V,a4,a5,a⟩⟩:=c2)
  apply ah cD;rotate_left
  obtain rfl:=co ‹_›;apply ah iW;rotate_left
  obtain rfl:=cn ‹_›;have g0:D 10=false:=bN.2 fun h=>by rw [(V h).1] at bw;cases bw
  have d3:=a;rw [a4 g0] at d3;apply aD d3 0 iu rfl rfl;have V:aC D 2 10=true->aC D 2 2=true/\aC D 2 7=true:=fun h=>⟨rfl,(V h).2⟩
  rotate_left;obtain rfl:=bP ‹_›;refine ju (l:=1) mO d2 (by simp) fun v' d0=>?_;have d0:RdSl S 5 (RdG S) v' rest:=d0;rotate_left;rotate_left
  apply ah cD;rotate_left
  obtain rfl:=bQ ‹_›;apply ah eD;rotate_left
  obtain rfl:=bO ‹_›;have g0:D 10=false:=bN.2 fun h=>by rw [(V h).2] at bw;cases bw
  have d3:=a;rw [a4 g0] at d3;apply aD d3 0 er rfl rfl;have V:aC D 7 10=true->aC D 7 2=true/\aC D 7 7=true:=fun h=>⟨(V h).1,rfl⟩
  rotate_left;have SV:=cj ‹_›;obtain rfl:=cA ‹_›;obtain rfl:=cM ‹_›;obtain ⟨ga,gc,rfl,_⟩:=id SV;apply VC;have hq:∃ i6 i7,Value.agg #[.slice ga rest.length gc,kvU kb s.st.binds.length cap,.slice N s.st.chs.length O]=.agg #[.slice i6 rest.length i7,kvU kb s.st.binds.length cap,.slice N s.st.chs.length O]/\RdSl S 5 (RdG S) (.slice i6 rest.length i7) rest:=⟨ga,gc,rfl,SV⟩
  rotate_left;apply ah cD;rotate_left
  obtain rfl:=dv ‹_›;have Db:=de ‹_›;obtain ⟨ga,gc,rfl,f3⟩:=Db;rw [a4 bw] at a;refine rX a 0 rfl cO rfl rfl (by simp [Value.cells,Value.oneCell']) fun w_ a=>?_;have a:Inv w [] [ay b3 #[.slice ga rest.length gc,kvU kb s.st.binds.length cap,.slice N s.st.chs.length O,.slice a2 s.steps.length a3,.slice a0 s.saved.length a1] aX,B4,B7] S3 w_:=a;have V:aC D 10 10=true->aC D 10 2=true/\aC D 10 7=true:=fun _=>⟨by assumption,by assumption⟩
  obtain ⟨q3,g9⟩:∃ q3,q3=#[.slice ga rest.length gc,kvU kb s.st.binds.length cap,.slice N s.st.chs.length O,.slice a2 s.steps.length a3,.slice a0 s.saved.length a1]:=⟨_,rfl⟩
  rw [<- g9] at a;have a4:aC D 10 10=false->q3=#[.slice b8 (g::rest).length c0,.slice b1 s.st.binds.length b2,.slice N s.st.chs.length O,.slice a2 s.steps.length a3,.slice a0 s.saved.length a1]:=fun h=>Bool.noConfusion h;have a5:aC D 10 10=true->∃ gv,q3=#[gv,kvU kb s.st.binds.length cap,.slice N s.st.chs.length O,.slice a2 s.steps.length a3,.slice a0 s.saved.length a1]/\RdSl S 5 (RdG S) gv rest:=fun _=>⟨_,g9,f3⟩
  rotate_left
  all_goals try exact ⟨f.set _ (by first|rfl|assumption|trivial),q3,V,a4,a5,a⟩
  obtain ⟨rfl,rfl,rfl,SV,rfl,rfl,rfl,rfl,Db,rfl,_,_⟩:=f.all;have Dg:D 10=true:=by assumption
  clear f;obtain ⟨gv,rfl,f3⟩:=a5 Dg;obtain ⟨sp,h2⟩:∃ sp:Sp,sp=⟨t,-1,0⟩:=⟨_,rfl⟩
  have i3:RdSp S3 [ax t.kind,ax t.n,.string t.name,c3,ax (-1),ax 0] sp:=by
   rw [h2];exact ⟨_,rfl,c8.mono Z.1⟩
  have i4:=g4.monoSp e6.1;have a:Inv w [] ([B4,B7]++[ay b3 #[gv,kvU kb s.st.binds.length cap,.slice N s.st.chs.length O,.slice a2 s.steps.length a3,.slice a0 s.saved.length a1] aX]) S3 w_:=a.perm (by
   refine List.Perm.symm (List.Perm.trans (List.Perm.swap _ _ _) ?_);exact (List.Perm.swap _ _ _).cons _)
  refine ⟨fun D FT Ee DV FU FS xB wx xD wV w_=>Fx D 0 [True,xD=eu b3 3,wx=.slice a2 s.steps.length a3,True,FS=.agg (gn t c3),FU=.agg #[ax t.kind,ax t.n,.string t.name,c3,ax (-1),ax 0],True,True,FT=eu b3 3,True]/\∃ n_:Nat,n_<=3/\D 0=decide (1<=n_)/\D 3=decide (2<=n_)/\D 7=decide (3<=n_)/\((D 9=true->D 2=true)/\apP w [] (fun cv=>[B4,B7]++[ay b3 #[gv,kvU kb s.st.binds.length cap,.slice N s.st.chs.length O,cv,.slice a0 s.saved.length a1] aX]) (.slice a2 s.steps.length a3) kI 6 RdSp s.steps sp S3 (D 6) (D 9) wV xB DV Ee w_ n_),⟨Fx.nil _ _,⟨0,bf _,rfl,rfl,rfl,(aU),apP.mk a.draw _ _ _ _⟩⟩,⟨?_,?_,?_,?_,?_,?_,?_,?_,?_,?_,trivial⟩,?_⟩;all_goals (intro D bw;intros;rename_i FT Ee DV FU FS xB wx xD wV w_ c2;have f:=c2.1;obtain ⟨⟨co,cn,bP,cj,cA,bQ,bO,cM,de,dv,_⟩,⟨n_,c1,a7,a8,a6,M⟩⟩:=c2)
  ·obtain rfl:n_=0:=Af a7 bw;obtain ⟨k9,M⟩:=M;refine abH M gH fun v w_ M=>?_;exact ⟨f.set 0 (by first|assumption|trivial),1,by decide,rfl,(by first|exact a8|rfl),(by first|exact a6|rfl),k9,M⟩
  apply ah iQ;rotate_left
  obtain rfl:=cn ‹_›;obtain ⟨k9,M⟩:=M;have n9:D 9=false:=bN.2 fun h=>by rw [k9 h] at bw;cases bw
  obtain ⟨S5,R,e2,a⟩:=M.inv0 n9;apply aD a 2 jG rfl rfl;have M:=And.intro (fun (_:aC D 2 9=true)=>(rfl:aC D 2 2=true)) M
  rotate_left
  ·have l5:=co ‹_›;obtain rfl:=bP ‹_›;obtain rfl:n_=1:=iY a7 ‹D 0=true› a8 bw;obtain ⟨k9,M⟩:=M;refine abw spM M gH (by omega) i4 spL spO (by omega) (by omega) fun v w_ M=>?_;exact ⟨f.set 3 (by first|assumption|trivial),2,by decide,(by first|exact a7|rfl),rfl,(by first|exact a6|rfl),k9,M⟩
  obtain ⟨k9,h3⟩:=M;obtain ⟨S5,cv,R,e2,a⟩:=h3.inv;refine av a 1 ac e7 rfl ?_;have M:=And.intro k9 h3;rotate_left
  obtain rfl:=cA ‹_›;apply Vi;rotate_left
  obtain rfl:=bQ ‹_›;obtain ⟨k9,M⟩:=M;refine aaV spM M gH (by omega) (by omega) rfl i3 spL fun v w_ M=>?_;have M:=And.intro k9 M;rotate_left
  ·have SV:=cj ‹_›;have Ky:=bO ‹_›;obtain rfl:n_=2:=iY a8 ‹D 3=true› a6 bw;obtain ⟨k9,M⟩:=M;refine aaW spM M ‹D 6=true› gH (by omega) spL spO (by omega) (by omega) fun v w_ M=>?_;exact ⟨f.set 7 (by first|assumption|trivial),3,by decide,(by first|exact a7|rfl),(by first|exact a8|rfl),rfl,k9,M⟩
  apply ah iQ;rotate_left
  obtain rfl:=de ‹_›;have Fi:=cM ‹_›;have i5:=pH c1 a6 ‹D 7=true›;obtain ⟨k9,f4⟩:=M;rw [i5] at f4;rw [bw] at f4;refine abo (C:=fun cv=>#[gv,kvU kb s.st.binds.length cap,.slice N s.st.chs.length O,cv,.slice a0 s.saved.length a1]) (fun _=>rfl) f4 jG (fun _ _=>rfl) (fun _=>show 3<5 by decide) fun w_ j3=>?_;have M:(aC D 9 9=true->aC D 9 2=true)/\apP w [] (fun cv=>[B4,B7]++[ay b3 #[gv,kvU kb s.st.binds.length cap,.slice N s.st.chs.length O,cv,.slice a0 s.saved.length a1] aX]) (.slice a2 s.steps.length a3) kI 6 RdSp s.steps sp S3 (aC D 9 6) (aC D 9 9) wV xB DV Ee w_ n_:=⟨fun _=>by assumption,by rw [i5];exact j3⟩
  rotate_left
  all_goals try exact ⟨f.set _ (by first|rfl|assumption|trivial),n_,c1,a7,a8,a6,M⟩
  obtain rfl:n_=3:=pH c1 a6 ‹D 7=true›;have Og:D 9=true:=by assumption
  clear a7 a8 a6;obtain ⟨_,M⟩:=M;rw [Og] at M;obtain ⟨S5,cv,e2,h4,a⟩:=M.fin;have c9:=e6.trans e2;have e8:RdSe S5 [gv,kvU kb s.st.binds.length cap,.slice N s.st.chs.length O,cv,.slice a0 s.saved.length a1] ⟨⟨rest,i9,s.st.chs⟩,s.steps++[⟨t,-1,0⟩],s.saved⟩:=
   ⟨_,_,_,_,_,rfl,f3.monoG c9.1,k7.monoO e2.1,g3.monoCh c9.1,by rw [h2] at h4;exact h4,g5.monoVS c9.1⟩
  refine av a 2 bh rfl rfl (aq a 0 e4 bh rfl rfl (by simpa using e8.one) fun w' a=>?_);apply bm a 0 bh rfl rfl;exact ⟨_,[],S5,rfl,a.nil,c9,rfl,_,rfl,e8⟩
end
end
section
open Go Go.RowKit
theorem BldR.inv1 {st:au} {j:List Sp} {o:Option (List PF × List Sp)} (h:BldR st .one j o):∃ x l u,j=x::l/\Res st (.one x.goal u)/\((bL u=false/\o=none) ∨
  (bL u=true/\∃ g,BldR st (.many x.body.toNat) l g/\((g=none/\o=none) ∨ ∃ m q,g=some (m,q)/\o=some ([.mk u x.clause m],q)))):=by
 cases h with
 | big a f=>exact ⟨_,_,_,rfl,a,.inl ⟨f,rfl⟩⟩
 | bad a f i=>exact ⟨_,_,_,rfl,a,.inr ⟨f,_,i,.inl ⟨rfl,rfl⟩⟩⟩
 | node a f i=>exact ⟨_,_,_,rfl,a,.inr ⟨f,_,i,.inr ⟨_,_,rfl,rfl⟩⟩⟩
theorem BldR.inv0 {st:au} {l:List Sp} {o:Option (List PF × List Sp)} (h:BldR st (.many 0) l o):o=some ([],l):=by
 cases h with
 | nil=>rfl
theorem BldR.invS {st:au} {n:Nat} {l:List Sp} {o:Option (List PF × List Sp)} (h:BldR st (.many (n+1)) l o):∃ a,BldR st .one l a/\((a=none/\o=none) ∨
  ∃ k j f,a=some ([k],j)/\BldR st (.many n) j f/\((f=none/\o=none) ∨ ∃ m q,f=some (m,q)/\o=some (k::m,q))):=by
 cases h with
 | stop h=>exact ⟨_,h,.inl ⟨rfl,rfl⟩⟩
 | next g i=>exact ⟨_,g,.inr ⟨_,_,_,rfl,i,.inl ⟨rfl,rfl⟩⟩⟩
 | cons g i=>exact ⟨_,g,.inr ⟨_,_,_,rfl,i,.inr ⟨_,_,rfl,rfl⟩⟩⟩
theorem RowRd.one {S:ae} {v:Value} {e:TypeId} {k n:Nat} {xs:hZ} (h:RowRd S v e k n xs):v.oneCell'=true:=by
 obtain ⟨_,⟨rfl,_⟩|⟨g,cap,a,rfl,_⟩⟩:=h <;> rfl
theorem Inv.rowOne {w0 w:World} {X:List Nat} {L:List Item} {S:ae} {v:Value} {e:TypeId} {k n i:Nat} {xs:hZ} (h:Inv w0 X L S w) (f:L[i]?=some (.row v e k n xs)):v.cells=#[v]/\v.oneCell'=true:=by
 have a:w.ownsRow 0 e k v n xs:=h.its _ (cJ f);obtain ⟨_,a⟩:=a;rcases a with ⟨rfl,_⟩|⟨g,cap,j,rfl,_⟩ <;> exact ⟨rfl,rfl⟩
theorem uR {l:hZ} (h:l.length=4):∃ a b c d,l=[a,b,c,d]:=by
 match l,h with
 | [a,b,c,d],_=>exact ⟨a,b,c,d,rfl⟩
theorem aaU {l:hZ} (h:l.length=6):∃ a b c d e f,l=[a,b,c,d,e,f]:=by
 match l,h with
 | [a,b,c,d,e,f],_=>exact ⟨a,b,c,d,e,f,rfl⟩
theorem MF {a b c d:Value} {i:Int} {v:Value} (h:∀ x∈[a,b,c,d],x.oneCell'=true) (g:v.oneCell'=true):∀ x∈(#[a,b,c,d,ax i,v]:Array Value).toList,x.oneCell'=true:=by
 intro x f;simp only [cw,ic,g9] at f h;rcases f with rfl|rfl|rfl|rfl|rfl|rfl
 ·exact h _ (.inl rfl)
 ·exact h _ (.inr (.inl rfl))
 ·exact h _ (.inr (.inr (.inl rfl)))
 ·exact h _ (.inr (.inr (.inr rfl)))
 ·rfl
 ·exact g
abbrev zP6:Array Value:=#[ax 0,ax 0,.string ⟨#[]⟩,hV,ax 0,hV]
def acQ (steps:List Sp) (o:Option (List PF × List Sp)):Value->List Item->ae->Prop:=fun q I' S'=>I'=[]/\∃ (cs:List Value) (a:Nat),q=.tuple #[.agg cs.toArray,ax (a:Int),.bool o.isSome]/\cs.length=6/\(∀ u∈cs,u.oneCell'=true)/\
 ∀ ks l2,o=some (ks,l2)->a<=steps.length/\l2=steps.drop a/\∃ x,ks=[x]/\RdF S' cs x
section
set_option maxHeartbeats 2000000 in
theorem Ir {N:Nat} (f7:0<N) {st:au} (hg:Good N st) {steps:List Sp} (f8:okLp N steps) (i5:steps.length<=100000):∀ (L a:Nat),steps.length - a<=L->∀ o,BldR st .one (steps.drop a) o->
  ∀ (S:ae) (v vb:Value),RdSl S 6 (RdSp S) v steps->RdSl S 4 (RdO S) vb st->kt OB [v,ax (a:Int),vb] [] S (acQ steps o):=by
 intro L;induction L with
 | zero=>
  intro a ha o h;obtain ⟨x,l,u,hl,_⟩:=h.inv1;have:=congrArg List.length hl;rw [nJ] at this;simp at this;omega
 | succ L ih=>
 intro a ha o h S v vb hv c7 w f;obtain ⟨x,l,t,hl,d1,a6⟩:=h.inv1;have a9:a<steps.length:=by
  have:=congrArg List.length hl;rw [nJ] at this;simp at this;omega
 rw [dB a9,gV] at hl;obtain ⟨hx,rfl⟩:=hl;have h7:x∈steps:=by rw [<- hx];exact bJ a9
 obtain ⟨⟨g2,g3⟩,i6,i7,i8,i9⟩:=f8 x h7;obtain ⟨n,hn⟩:∃ n:Nat,x.body=n:=⟨x.body.toNat,by omega⟩
 rw [hn,dq] at a6;obtain ⟨va,b0,rfl,_⟩:=id hv;obtain ⟨sb,so,j4,sc,sE,j5,d2,d3,d4⟩:=hv.at_ a9;rw [hx] at d4;have h8:va=some ⟨sb,so,none⟩:=by
  simp only [Value.slice.injEq] at d2;exact d2.1
 obtain ⟨j6,a7,d6⟩:=d4;have f2:=d6;obtain ⟨g4,rfl,_⟩:=RdT.iff.1 d6;have h9:sc[so+a * 6+4]?=some (ax x.clause):=aA a7 4 _ rfl;have i1:sc[so+a * 6+5]?=some (ax x.body):=aA a7 5 _ rfl;have b8:∀ {ty:TypeId} {K:Value->World->Prop} {w':World},K (eu sb (so+a * 6)) w'->Run Tryz.prog (sOp (.indexAddr ve (.const (.slice va steps.length b0)) (.const (ax (a:Int)))) ty) w' K:=
  fun hk=>by rw [h8];exact az N0 a9 hk
 apply yH.2;dsimp only[yH,dR];refine aG f fG fun b6 w' f=>?_;obtain ⟨B6,d7⟩:∃ B:Item,B=ay b6 zP6 ar:=⟨_,rfl⟩
 have e6:=congrArg some d7;have f:Inv w [] [B6] S w':=by rw [d7];exact f
 refine b8 ?_;refine ah KB ?_;refine bV ac (cs:=(hJ x.goal g4)) rfl (fun j v hj=>by
  rw [f.cellS d3,vo];refine aA a7 j v ?_;rw [vA (fS.1 hj).1];exact hj) ?_
 refine Run.call0E BB AK f (Rf f7 hg d1 ⟨g2,g3⟩ f2 c7) fun v' I' S1 w'=>?_;rintro ⟨rfl,ts,f9,a8,rfl,g0⟩ hE f;obtain ⟨M,O,U,V,rfl⟩:=uR f9;refine al (v:=.agg [M,O,U,V].toArray) rfl (al (v:=.bool (bL t)) rfl (aG f aV fun b9 w' f=>?_));have f:Inv w [] [B6,ay b9 bb ab] S1 w':=f;refine aq f 1 rfl ac rfl rfl (by simpa using a8) fun w' f=>?_;obtain ⟨B9,d9⟩:∃ B:Item,B=ay b9 #[M,O,U,V] ab:=⟨_,rfl⟩
 have e9:=congrArg some d9;have f:Inv w [] [B6,B9] S1 w':=by rw [d9];exact f
 have b2:=hE.1 _ _ d3;refine ⟨fun D zY og rr kY gQ lO jW pp w_=>Fx D 0 [pp=.agg #[M,O,U,V],jW=.slice va steps.length b0,lO=ax (a:Int),gQ=eu sb (so+a * 6),kY=eu sb (so+a * 6+4),rr=ax x.clause,og=.agg #[M,O,U,V,ax x.clause,hV],True,True]/\nwP w [] [B6,B9] ar zP6 (fun _ q=>q=#[M,O,U,V,ax x.clause,hV]) (D 7) (D 8) zY S1 w_,⟨Fx.nil _ _,nwP.mk f.draw _⟩,⟨?_,?_,?_,?_,?_,?_,?_,?_,?_,trivial⟩,?_⟩;all_goals (intro D bw;intros;rename_i zY og rr kY gQ lO jW pp w_ c8;have g:=c8.1;obtain ⟨⟨co,cn,bP,cj,cA,bQ,bO,cM,de,_⟩,J⟩:=c8)
 ·obtain ⟨R,f⟩:=J.inv;refine av f 1 ac e9 rfl ?_;exact ⟨g.set 0 rfl,J⟩
 ·exact ⟨g.set 1 rfl,J⟩
 ·exact ⟨g.set 2 rfl,J⟩
 ·cases cn ‹_›;cases bP ‹_›;apply b8;exact ⟨g.set 3 rfl,J⟩
 ·cases cj ‹_›;apply ah K6;exact ⟨g.set 4 rfl,J⟩
 ·cases cA ‹_›;obtain ⟨R,f⟩:=J.inv;refine cS aw ((f.cellS b2).trans h9) ?_;exact ⟨g.set 5 rfl,J⟩
 ·cases co ‹_›;cases bQ ‹_›;apply xe;exact ⟨g.set 6 rfl,J⟩
 ·refine nwP.alloc J bw fG rfl fun v w_ J=>?_;exact ⟨g.set 7 (by first|assumption|trivial),J⟩
 ·have Fi:=cM ‹_›;cases bO ‹_›;refine nwP.store J ‹D 7=true› bw bp rfl rfl (MF a8 rfl) rfl fun w_ J=>?_;exact ⟨g.set 8 trivial,J⟩
 obtain ⟨rfl,rfl,rfl,rfl,rfl,rfl,rfl,Fi,_,_⟩:=g.all;have CQ:D 7=true:=by assumption
 have Dc:D 8=true:=by assumption
 clear g;rw [CQ,Dc] at J;obtain ⟨r,j7,rfl,rfl,f⟩:=J.fin;have f:Inv w [] [B6,B9,ay r #[M,O,U,V,ax x.clause,hV] ar] S1 w_:=f;refine b8 (ah KQ (cS aw ((f.cellS b2).trans i1) ?_));rw [hn];refine bA (by omega) ?_;rw [show ((a:Int)+1)=((a+1:Nat):Int) by omega];obtain ⟨oM,g5⟩:∃ oM:Option (List PF × List Sp),(bL t=true->BldR st (.many n) (steps.drop (a+1)) oM)/\(bL t=false->oM=none)/\((oM=none/\o=none) ∨ ∃ ks l1,oM=some (ks,l1)/\o=some ([.mk t x.clause ks],l1))/\(oM≠none->bL t=true):=by
  rcases a6 with ⟨G,Z⟩|⟨G,o',Z,h3⟩
  ·exact ⟨none,fun e=>(by rw [G] at e;cases e),fun _=>rfl,.inl ⟨rfl,Z⟩,fun e=>absurd rfl e⟩
  ·exact ⟨o',fun _=>Z,fun e=>(by rw [G] at e;cases e),h3,fun _=>G⟩
 obtain ⟨e0,e2,b1,j0⟩:=g5;have f:=f.rowNil ar 6;have f:Inv w [] [B6,ay r #[M,O,U,V,ax x.clause,hV] ar,aK (hV) ar 6 []] S1 w_:=f.pick [true,false,true,true];refine ⟨fun i k1 q1 w'=>∃ (j aa:Nat) (Y:Bool) (S2:ae) (kv:Value) (css:List (hZ)),i=ax (j:Int)/\k1=.bool Y/\q1=ax (aa:Int)/\j<=n/\css.length<=j/\Ext w.heap.size [] S1 S2/\(Y=false->oM=none)/\
   (Y=true->bL t=true/\aa<=steps.length/\a+1<=aa/\∃ dn o',Rows 6 (RdF S2) css dn/\BldR st (.many (n - j)) (steps.drop aa) o'/\(∀ ks l2,o'=some (ks,l2)->oM=some (dn++ks,l2))/\(o'=none->oM=none))/\
   Inv w [] [B6,ay r #[M,O,U,V,ax x.clause,kv] ar,aK kv ar 6 css] S2 w',fun i _ _ _=>n - (intOf i).toNat,
  ⟨0,a+1,bL t,S1,_,[],rfl,rfl,rfl,bf _,be _,Ext.refl _ _ _,e2,fun hs=>⟨hs,by omega,be _,[],oM,Rows.nil _ _,e0 hs,fun ks l2 e=>e,fun e=>e⟩,f⟩,?_⟩
 intro j1 _ _ j2 _ t1;(iterate 24 intro);intro w';rintro ⟨j,aa,Y,S2,kv,css,rfl,rfl,rfl,hj,j3,a5,hf,ht,f⟩;refine ⟨fun q w'=>q=.bool (decide ((j:Int)<(n:Int)) && Y)/\Inv w [] [B6,ay r #[M,O,U,V,ax x.clause,kv] ar,aK kv ar 6 css] S2 w',?_,?_⟩
 ·apply bM;cases hd:decide ((j:Int)<(n:Int)) with
  | true=>
   refine rpG ?_;exact ⟨rfl,f⟩
  | false=>
   refine rpG ?_;exact ⟨rfl,f⟩
 intro q _ _ _ _ _ w';rintro ⟨rfl,f⟩;refine aE (fun hb=>?_) (fun hb=>?_)
 ·rw [aZ,bt] at hb;obtain ⟨j8,e3⟩:=hb;obtain ⟨b4,e4,g6,dn,o',hR,hB,b5,b7⟩:=ht e3;obtain ⟨m,hm⟩:∃ m,n - j=m+1:=⟨n - j - 1,by omega⟩
  rw [hm] at hB;obtain ⟨o1,e5,e7⟩:=hB.invS;refine Run.call0E yR xW f (ih aa (by omega) o1 e5 S2 _ vb (hv.monoSp (hE.trans a5).1) (c7.monoO (hE.trans a5).1)) fun v' I' S3 w'=>?_;rintro ⟨rfl,c6,a',rfl,g1,c9,b3⟩ a0 f;obtain ⟨c1,c2,c3,c4,c5,c6,rfl⟩:=aaU g1;refine al (v:=.agg [c1,c2,c3,c4,c5,c6].toArray) rfl (al (v:=ax (a':Int)) rfl (al (v:=.bool o1.isSome) rfl (aG f fG fun d0 w' f=>?_)));refine aq f 3 rfl bp rfl rfl (by simpa using c9) fun w' f=>?_;refine ad f 1 rfl bH bT rfl (av f 3 bp rfl rfl (ei (css:=css) f 2 [c1,c2,c3,c4,c5,c6] kC (by omega) (by omega) rfl rfl c9 (by omega) (by omega) fun v' w' f=>?_));have f:Inv w [] [B6,ay r #[M,O,U,V,ax x.clause,kv] ar,aK v' ar 6 (css++[[c1,c2,c3,c4,c5,c6]])] S3 w':=f.pick [true,true,true];obtain ⟨g7,g8⟩:=f.rowOne (i:=2) rfl;refine cX f 1 rfl bH bT rfl g7 g8 fun w' f=>?_;refine bA (by omega) ?_;rw [show ((j:Int)+1)=((j+1:Nat):Int) by omega];refine ⟨⟨j+1,a',o1.isSome,S3,v',_,rfl,rfl,rfl,by omega,by simp;omega,a5.trans a0,fun e1=>?_,fun e1=>?_,f⟩,by simp only [intOf,dq];omega⟩
  ·rcases e7 with ⟨_,ho⟩|⟨k,l1,o2,rfl,_⟩
   ·exact b7 ho
   ·cases e1
  ·rcases e7 with ⟨rfl,ho⟩|⟨k,l1,o2,rfl,i2,f6⟩
   ·cases e1
   ·obtain ⟨p1,p2,x',e8,g9⟩:=b3 _ _ rfl;simp only [gV,i0] at e8;subst e8;obtain ⟨j9,h4⟩:=e5.suf _ _ rfl;have k2:aa<=a':=by
     have:=congrArg List.length h4;rw [p2,bK,nJ,nJ] at this;omega
    refine ⟨b4,p1,by omega,dn++[k],o2,(hR.monoR fun _ _ h=>h.mono a0.1).snoc g9 rfl,?_,fun ks l2 e=>?_,fun e=>?_⟩
    ·rw [show n - (j+1)=m by omega,<- p2];exact i2
    ·rcases f6 with ⟨G,_⟩|⟨i3,i4,G,Z⟩
     ·rw [G] at e;cases e
     ·rw [G] at e;simp only [aY,cV] at e;obtain ⟨rfl,rfl⟩:=e;rw [b5 _ _ Z,eY];rfl
    ·rcases f6 with ⟨_,G⟩|⟨i3,i4,G,Z⟩
     ·exact b7 G
     ·rw [G] at e;cases e
 ·obtain ⟨S3,a0,f0,f⟩:=Inv.lendExt (A:=[B6,ay r #[M,O,U,V,ax x.clause,kv] ar]) f;have f3:=f0.one;refine av f 1 bp rfl rfl (aq (cs:=#[M,O,U,V,ax x.clause,kv]) f 0 e6 bp rfl rfl (MF a8 f3) fun w' f=>?_);apply bm f 0 bp rfl rfl;have f4:Y=o.isSome/\∀ ks l2,o=some (ks,l2)->aa<=steps.length/\l2=steps.drop aa/\∃ x',ks=[x']/\RdF S3 [M,O,U,V,ax x.clause,kv] x':=by
   cases c0:Y with
   | false=>
    have h0:=hf c0;rcases b1 with ⟨_,Z⟩|⟨_,_,G,_⟩
    ·subst Z;exact ⟨rfl,fun ks l2 e=>by cases e⟩
    ·rw [h0] at G;cases G
   | true=>
    obtain ⟨b4,e4,g6,dn,o',hR,hB,b5,b7⟩:=ht c0;rw [c0,Bool.and_true,nt] at hb;rw [show n - j=0 by omega] at hB;have G:=b5 _ _ hB.inv0;rcases b1 with ⟨Z,_⟩|⟨ks,l1,Z,h3⟩
    ·rw [G] at Z;cases Z
    ·rw [G] at Z;simp only [dc,aY,cV] at Z;obtain ⟨rfl,rfl⟩:=Z;subst h3;refine ⟨rfl,fun ks l2 e=>?_⟩;simp only [aY,cV] at e;obtain ⟨rfl,rfl⟩:=e;refine ⟨e4,rfl,_,rfl,RdF.iff.2 ?_⟩;have f5:=(g0 b4).mono (a5.trans a0).1;obtain ⟨k0,f1,_⟩:=RdT.iff.1 f5;simp only [gV,i0] at f1;obtain ⟨rfl,rfl,rfl,rfl⟩:=f1;exact ⟨_,_,rfl,f5,⟨by simp only [PF.clause];omega,by simp only [PF.clause];omega⟩,RowRd.rows (hR.monoR fun _ _ h=>h.mono a0.1) f0⟩
  obtain ⟨h5,h6⟩:=f4;refine ⟨_,[],S3,rfl,f.nil,(hE.trans a5).trans a0,rfl,[M,O,U,V,ax x.clause,kv],aa,by rw [h5],rfl,MF a8 f3,h6⟩
end
end
end Go.Proofs.YtellfcpffcipcaaGreatDoor
