/- spec.l13Take. -/
import Derived.Test.YtellfcpffcipcaaGreatDoorZCkA
import Derived.Test.YtellfcpffcipcaaGreatDoorZCk29
namespace Go.Proofs.YtellfcpffcipcaaGreatDoor
attribute [local irreducible] Run CondV aF aT
section
open Go Go.RowKit
abbrev zSe:Array Value:=#[hV,hV,hV,hV,hV]
def acL (s:Se) (o:Option Se):Value->List Item->ae->Prop:=fun q I' S'=>I'=[]/\∃ cs:List Value,q=.tuple #[.agg cs.toArray,.bool o.isSome]/\RdSe S' cs (o.getD s)
theorem adn {a b c d e:Value}:∀ (j:Nat) (v:Value),([a,b,c]:hZ)[j]?=some v->(#[a,b,c,d,e]:Array Value)[0+j]?=some v
 | 0,v,h=>by simpa using h
 | 1,v,h=>by simpa using h
 | 2,v,h=>by simpa using h
 | n+3,v,h=>by simp at h
theorem YP {a b c d e:Value} (g:a.oneCell'=true) (h:b.oneCell'=true) (i:c.oneCell'=true) (j:d.oneCell'=true) (l:e.oneCell'=true):∀ x∈(#[a,b,c,d,e]:Array Value).toList,x.oneCell'=true:=by
 intro x f;simp only [cw,ic,g9] at f;rcases f with rfl|rfl|rfl|rfl|rfl <;> assumption
section
set_option maxHeartbeats 4000000 in
theorem x0 {p:List C} (hp:∀ cl∈p,BF cl) {k:Nat} (hk:k<=1000) {c:Ch} (hc:od c) (hr:okRk k c) {s:Se} {o:Option Se} (h:TakeR p s c o) (hn:s.st.chs.length<=1000) (i5:s.steps.length<=1000) (Z:s.saved.length<=1000)
  {S:ae} {u:Value} {ss cs:hZ} (hP:RdSl S 5 (RdC S) u p) (hs:RdSe S ss s) (c7:RdCh S cs c):kt P0 [u,.agg ss.toArray,.agg cs.toArray] [] S (acL s o):=by
 intro w G;obtain ⟨gs,sb,sc,st,sv,rfl,g2,g3,d1,d2,d3⟩:=id hs;obtain ⟨a6,a7,rfl,_⟩:=id d1;obtain ⟨a8,a9,rfl,_⟩:=id d2;obtain ⟨M,N,rfl,_⟩:=id d3;obtain ⟨pa,c0,rfl,_⟩:=id hP;obtain ⟨hd,rv,lv,bv,rfl,d7,g4,i6,g5⟩:=id c7;have c3:=d7;obtain ⟨kv,rfl,_⟩:=RdT.iff.1 d7;apply Ac.2;dsimp only[Ac,dR];refine bq G fun b4 w' G=>?_;refine bq G fun b5 w' G=>?_;refine aG G eP fun b6 w' G=>?_;obtain ⟨B4,d9⟩:∃ B:Item,B=ay b4 #[gs,sb,.slice a6 s.st.chs.length a7,.slice a8 s.steps.length a9,.slice M s.saved.length N] aX:=⟨_,rfl⟩
 obtain ⟨B5,e0⟩:∃ B:Item,B=ay b5 #[ax c.goal.kind,ax c.goal.n,.string c.goal.name,kv,rv,lv,bv] dp:=⟨_,rfl⟩
 obtain ⟨B6,e1⟩:∃ B:Item,B=ay b6 zSe aX:=⟨_,rfl⟩
 have e4:=congrArg some d9;have e5:=congrArg some e0;have e6:=congrArg some e1;have G:Inv w [] [B4,B5,B6] S w':=by rw [d9,e0,e1];exact G
 have h4:RdS6 S [gs,sb,.slice a6 s.st.chs.length a7] s.st:=⟨_,_,_,rfl,g2,g3,d1⟩
 obtain ⟨o1,hF,ho⟩:∃ o1,FirstL p s.st.chs c c.left o1/\((o1=none/\o=none) ∨ ∃ u i l,o1=some (u,i,l)/\o=some (lN p s c u i l)):=by
  cases h with
  | no h=>exact ⟨_,h,.inl ⟨rfl,rfl⟩⟩
  | yes h=>exact ⟨_,h,.inr ⟨_,_,_,rfl,rfl⟩⟩
 refine ah cD (cP G 0 [gs,sb,.slice a6 s.st.chs.length a7] cO e4 rfl adn (av G 1 eE e5 rfl (Run.call0E KK KI G (HO hp hk hc hr hF hn hP h4 c7) fun v' I' S1 w'=>?_)));rintro ⟨rfl,ns,b2,rfl,b3,a4⟩ hE G;have h5:=b3.length;refine al (v:=.agg ns.toArray) rfl (al (v:=ax (o1.elim (-1) (·.2.1))) rfl (al (v:=b2) rfl (al (v:=.bool o1.isSome) rfl (aG G jm fun b8 w' G=>?_))));refine aq G 3 rfl cO (by simpa using h5) rfl (by simpa using b3.one) fun w' G=>?_;have G:Inv w [] [B4,B5,B6,ay b8 ns.toArray cF] S1 w':=G;apply cq;rcases ho with ⟨rfl,rfl⟩|⟨u1,i,l,rfl,rfl⟩
 ·refine aE (fun _=>?_) (fun hb=>by cases hb);refine av G 0 bh e4 rfl (aq (cs:=#[gs,sb,.slice a6 s.st.chs.length a7,.slice a8 s.steps.length a9,.slice M s.saved.length N]) G 2 e6 bh rfl rfl (by simpa using hs.one) fun w' G=>?_);apply bm G 2 bh rfl rfl;exact ⟨_,[],S1,rfl,G.nil,hE,rfl,_,rfl,hs.mono hE.1⟩
 refine aE (fun hb=>by cases hb) (fun _=>?_);simp only [Ty] at b3 a4 ⊢;obtain ⟨n,cl,i7,rfl,b7,g6,_⟩:=hF.of _ _ _ rfl;obtain ⟨gu,bu,cu,rfl,e2,e3,e7⟩:=b3;have f5:n<p.length:=(fS.1 b7).1;have h6:p[n]=cl:=(fS.1 b7).2;have hm:=hp cl (cJ b7);have j2:=hm.ln;obtain ⟨pb,po,i8,pc,pE,i9,e9,g7,f0⟩:=hP.at_ f5;have h7:pa=some ⟨pb,po,none⟩:=by
  simp only [Value.slice.injEq] at e9;exact e9.1
 rw [h6] at f0;obtain ⟨j0,g8,g9,hh,hb⟩:=f0.cells;have d4:pc[po+n * 5+4]?=some g8:=aA g9 4 _ rfl;have f6:=hE.1 _ _ g7;obtain ⟨h0,h1,rfl,_⟩:=id hb;have h8:∀ {ty:TypeId} {K:Value->World->Prop} {w':World},K (eu pb (po+n * 5)) w'->Run Tryz.prog (sOp (.indexAddr VM (.const (.slice pa p.length c0)) (.const (ax (n:Int)))) ty) w' K:=fun hk=>by rw [h7];exact az cr f5 hk
 obtain ⟨B8,f1⟩:∃ B:Item,B=ay b8 #[gu,bu,cu] cF:=⟨_,rfl⟩
 have e8:=congrArg some f1;have G:Inv w [] [B4,B5,B6,B8] S1 w':=by rw [f1];exact G
 obtain ⟨sp,f2⟩:∃ sp:Sp,sp=⟨c.goal,(n:Int),(cl.body.length:Int)⟩:=⟨_,rfl⟩
 have f7:RdSp S1 [ax c.goal.kind,ax c.goal.n,.string c.goal.name,kv,ax (n:Int),ax (cl.body.length:Int)] sp:=by
  rw [f2];exact ⟨_,rfl,c3.mono hE.1⟩
 have f8:=d2.monoSp hE.1;refine ⟨fun D M0 oF nz pD mn nj lS oC j7 jt oH lK mC r7 og rr kY gQ lO jW pp O=>Fx D 0 [pp=.agg #[gu,bu,cu],True,lO=eu b4 3,gQ=.slice a8 s.steps.length a9,True,rr=ee b5,og=.agg (gn c.goal kv),r7=ax (n:Int),mC=.slice pa p.length c0,lK=ax (n:Int),oH=eu pb (po+n * 5),jt=eu pb (po+n * 5+4),j7=.slice h0 cl.body.length h1,oC=ax (cl.body.length:Int),lS=.agg #[ax c.goal.kind,ax c.goal.n,.string c.goal.name,kv,ax (n:Int),ax (cl.body.length:Int)],True,True,pD=eu b4 4,nz=.slice M s.saved.length N,True,True,True]/\∃ J:Nat,J<=3/\D 1=decide (1<=J)/\D 4=decide (2<=J)/\D 16=decide (3<=J)/\(anP w [] [B4,B5,B6,B8] kI 6 RdSp s.steps sp S1 aX zSe (fun S v=>∃ u,v=.agg #[gu,bu,cu,u,.slice M s.saved.length N]/\RdSl S 6 (RdSp S) u (s.steps++[sp])) (D 15) (D 19) (D 20) (D 21) jW kY nj mn oF M0 O J),⟨Fx.nil _ _,⟨0,bf _,rfl,rfl,rfl,anP.mk G.draw _ _ _ _ _ _⟩⟩,⟨?_,?_,?_,?_,?_,?_,?_,?_,?_,?_,?_,?_,?_,?_,?_,?_,?_,?_,?_,?_,?_,?_,trivial⟩,?_⟩;all_goals (intro D bw;intros;rename_i M0 oF nz pD mn nj lS oC j7 jt oH lK mC r7 og rr kY gQ lO jW pp O a1;have r:=a1.1;obtain ⟨⟨co,cn,bP,cj,cA,bQ,bO,cM,de,dv,bU,cC,cY,dK,dd,ek,eH,fl,gZ,fI,iI,jU,_⟩,⟨J,t,g,j,f,q⟩⟩:=a1)
 obtain ⟨S2,R,U,G⟩:=q.inv;refine av G 3 cO e8 rfl ?_;rotate_left
 ·obtain rfl:J=0:=Af g bw;refine an0 q gH fun v O q=>?_;exact ⟨r.set 1 (by first|assumption|trivial),1,by decide,rfl,(by first|exact j|rfl),(by first|exact f|rfl),q⟩
 apply ah iQ;rotate_left
 obtain rfl:=bP ‹_›;obtain ⟨S2,R,U,G⟩:=q.inv;refine aD G 0 jG e4 rfl ?_;rotate_left
 ·have j3:=cn ‹_›;obtain rfl:=cj ‹_›;obtain rfl:J=1:=iY g ‹D 1=true› j bw;refine an3 spM q gH (by omega) f8 spL spO (by omega) (by omega) fun v O q=>?_;exact ⟨r.set 4 (by first|assumption|trivial),2,by decide,(by first|exact g|rfl),rfl,(by first|exact f|rfl),q⟩
 apply ah oI;rotate_left
 obtain rfl:=bQ ‹_›;obtain ⟨S2,R,U,G⟩:=q.inv;refine cP G 1 (hJ c.goal kv) ac e5 rfl aaa ?_;rotate_left;rotate_left;rotate_left;rotate_left
 obtain rfl:=de ‹_›;obtain rfl:=dv ‹_›;apply h8;rotate_left
 obtain rfl:=bU ‹_›;apply ah bF;rotate_left
 obtain rfl:=cC ‹_›;obtain ⟨S2,R,U,G⟩:=q.inv;refine cS aj ((G.cellS (U.1 _ _ f6)).trans d4) ?_;rotate_left
 obtain rfl:=cY ‹_›;apply fJ ag;rotate_left
 obtain rfl:=bO ‹_›;obtain rfl:=cM ‹_›;obtain rfl:=dK ‹_›;apply XY;rotate_left
 obtain rfl:=dd ‹_›;refine an5 spM (fun _ _ _ hs hq=>hq.imp fun _ h=>⟨h.1,h.2.monoSp hs⟩) q gH (by omega) (by omega) rfl f7 spL fun v O q=>?_;rotate_left
 ·have Ot:=cA ‹_›;have W6:=ek ‹_›;obtain rfl:J=2:=iY j ‹D 4=true› f bw;refine an6 spM (fun _ _ _ hs hq=>hq.imp fun _ h=>⟨h.1,h.2.monoSp hs⟩) q ‹D 15=true› gH (by omega) spL spO (by omega) (by omega) fun v O q=>?_;exact ⟨r.set 16 (by first|assumption|trivial),3,by decide,(by first|exact g|rfl),(by first|exact j|rfl),rfl,q⟩
 apply ah iT;rotate_left
 obtain rfl:=fl ‹_›;obtain ⟨S2,R,U,G⟩:=q.inv;refine aD G 0 jX e4 rfl ?_;rotate_left
 obtain rfl:=co ‹_›;have Uq:=eH ‹_›;obtain rfl:=gZ ‹_›;have Z:=pH t f ‹D 16=true›;rw [Z] at q;obtain ⟨ra,rm,c1⟩:=q.res;rw [c1];apply MD;have q:=q.bld (vb':=.agg #[gu,bu,cu,mn,.slice M s.saved.length N]) fun S2 _ h=>⟨_,rfl,h⟩
 rw [c1] at q;rw [<- Z] at q
 rotate_left;refine anP.alloc spM q bw eP rfl fun v O q=>?_;rotate_left
 have j4:=iI ‹_›;have j5:=fI ‹_›;obtain ⟨S2,uu,rfl,h2⟩:=q.val ‹D 19=true›;refine anP.store spM q ‹D 20=true› bw bh rfl rfl (YP e2.sl e3.sl e7.sl h2.sl rfl) ‹D 19=true› rfl fun O q=>?_;rotate_left
 all_goals try exact ⟨r.set _ (by first|rfl|assumption|trivial),J,t,g,j,f,q⟩
 obtain rfl:J=3:=pH t f ‹D 16=true›;have h9:D 20=true:=by assumption
 have i0:D 21=true:=by assumption
 clear g j f;rw [h9,i0] at q;obtain ⟨S2,V,j1,U,rfl,⟨su,f3,h3⟩,G⟩:=q.fin;obtain rfl:=Value.agg.inj f3;have Y:=hE.trans U;have c4:RdSl S2 7 (RdCh S2) cu s.st.chs:=by
  have:=e7.monoCh U.1;rw [g6] at this;simpa only [qk,ai,dc] using this
 obtain ⟨b0,b1,rfl,_⟩:=id c4;refine ⟨fun w'=>∃ S5 cc vv,Ext w.heap.size [] S2 S5/\RdSl S5 7 (RdCh S5) cc (s.st.chs++(if l=[] then [] else [⟨c.goal,c.rest,l,c.binds⟩]))/\RdSl S5 1 (RdVS S5) vv (s.saved++(if l=[] then [] else [s.steps]))/\
  Inv w [] [B4,B5,B6,B8,ay V #[gu,bu,cc,su,vv] aX] S5 w',?_,?_⟩
 ·refine aI a4 cU (ew (aJ (fun c9=>?_) (fun c9=>?_)))
  ·have f9:l≠[]:=fun e=>by rw [e] at c9;simp at c9
   rw [af f9,af f9];obtain ⟨mc,f4⟩:∃ mc:Ch,mc=⟨c.goal,c.rest,l,c.binds⟩:=⟨_,rfl⟩
   rw [<- f4];refine av G 1 eE e5 rfl (aG G om fun d6 w' G=>?_);have G:Inv w [] [B4,B5,B6,B8,ay V #[gu,bu,.slice b0 s.st.chs.length b1,su,.slice M s.saved.length N] aX,ay d6 zCh dp] S2 w':=G;refine aq G 5 rfl eE rfl rfl (by simpa using c7.one) fun w' G=>?_;refine cX G 5 rfl eB ft rfl (by obtain ⟨a,m,rfl,_⟩:=a4;rfl) a4.sl fun w' G=>?_;obtain ⟨B13,c2⟩:∃ B:Item,B=ay d6 #[ax c.goal.kind,ax c.goal.n,.string c.goal.name,kv,rv,b2,bv] dp:=⟨_,rfl⟩
   have i1:=congrArg some c2;have G:Inv w [] ([B4,B5,B6,B8,B13]++[ay V #[gu,bu,.slice b0 s.st.chs.length b1,su,.slice M s.saved.length N] aX]) S2 w':=by
    rw [c2];exact G.perm ((((List.Perm.swap _ _ _).cons _).cons _).cons _ |>.cons _)
   have i2:RdCh S2 [ax c.goal.kind,ax c.goal.n,.string c.goal.name,kv,rv,b2,bv] mc:=by
    rw [f4];exact ⟨_,_,_,_,rfl,c3.mono Y.1,g4.monoG Y.1,a4.mono U.1 fun _ _ h=>h,g5.monoO Y.1⟩
   have g0:=d1.monoCh Y.1;refine ⟨fun D xN yU xj xH vC uk uB sT uv qW O=>Fx D 0 [True,uv=ee b4,sT=eu b4 2,uB=.slice a6 s.st.chs.length a7,True,vC=.agg #[ax c.goal.kind,ax c.goal.n,.string c.goal.name,kv,rv,b2,bv],True,True,yU=ee V,xN=eu V 2,True]/\∃ J:Nat,J<=3/\D 0=decide (1<=J)/\D 4=decide (2<=J)/\D 7=decide (3<=J)/\(apP w [] (fun cv=>[B4,B5,B6,B8,B13]++[ay V #[gu,bu,cv,su,.slice M s.saved.length N] aX]) (.slice b0 s.st.chs.length b1) dp 7 RdCh s.st.chs mc S2 (D 6) (D 10) qW uk xH xj O J),⟨Fx.nil _ _,⟨0,bf _,rfl,rfl,rfl,apP.mk G.draw _ _ _ _⟩⟩,⟨?_,?_,?_,?_,?_,?_,?_,?_,?_,?_,?_,trivial⟩,?_⟩;all_goals (intro D bw;intros;rename_i xN yU xj xH vC uk uB sT uv qW O a1;have r:=a1.1;obtain ⟨⟨co,cn,bP,cj,cA,bQ,bO,cM,de,dv,bU,_⟩,⟨J,t,g,j,f,q⟩⟩:=a1)
   ·obtain rfl:J=0:=Af g bw;refine abH q fP fun v O q=>?_;exact ⟨r.set 0 (by first|assumption|trivial),1,by decide,rfl,(by first|exact j|rfl),(by first|exact f|rfl),q⟩
   apply ah cD;rotate_left
   obtain rfl:=cn ‹_›;apply ah eD;rotate_left
   obtain rfl:=bP ‹_›;obtain ⟨S5,cv,R,a0,G⟩:=q.inv;refine aD G 0 er e4 rfl ?_;rotate_left
   ·have i3:=co ‹_›;obtain rfl:=cj ‹_›;obtain rfl:J=1:=iY g ‹D 0=true› j bw;refine abw chM q fP (by omega) g0 chL chO (by omega) (by omega) fun v O q=>?_;exact ⟨r.set 4 (by first|assumption|trivial),2,by decide,(by first|exact g|rfl),rfl,(by first|exact f|rfl),q⟩
   obtain ⟨S5,cv,R,a0,G⟩:=q.inv;refine av G 4 eE i1 rfl ?_;rotate_left
   obtain rfl:=bQ ‹_›;refine aaV chM q fP (by omega) (by omega) rfl i2 chL fun v O q=>?_;rotate_left
   ·have Ot:=cA ‹_›;have Ky:=bO ‹_›;obtain rfl:J=2:=iY j ‹D 4=true› f bw;refine aaW chM q ‹D 6=true› fP (by omega) chL chO (by omega) (by omega) fun v O q=>?_;exact ⟨r.set 7 (by first|assumption|trivial),3,by decide,(by first|exact g|rfl),(by first|exact j|rfl),rfl,q⟩
   apply ah cD;rotate_left
   obtain rfl:=de ‹_›;apply ah eD;rotate_left
   obtain rfl:=dv ‹_›;have Fi:=cM ‹_›;have Z:=pH t f ‹D 7=true›;have a2:=q;rw [Z] at a2;rw [bw] at a2;refine abo (C:=fun cv=>#[gu,bu,cv,su,.slice M s.saved.length N]) (fun _=>rfl) a2 er (fun _ _=>rfl) (fun _=>show 2<5 by decide) fun O d0=>?_;have q:apP w [] (fun cv=>[B4,B5,B6,B8,B13]++[ay V #[gu,bu,cv,su,.slice M s.saved.length N] aX]) (.slice b0 s.st.chs.length b1) dp 7 RdCh s.st.chs mc S2 (aC D 10 6) (aC D 10 10) qW uk xH xj O J:=by rw [Z];exact d0
   rotate_left
   all_goals try exact ⟨r.set _ (by first|rfl|assumption|trivial),J,t,g,j,f,q⟩
   obtain rfl:J=3:=pH t f ‹D 7=true›;have Dg:D 10=true:=by assumption
   clear g j f;rw [Dg] at q;obtain ⟨S5,cc,a0,a5,G⟩:=q.fin;have a3:=Y.trans a0;have g1:=d3.monoVS a3.1;have i4:RdVS S5 [.slice a8 s.steps.length a9] s.steps:=⟨_,rfl,d2.monoSp a3.1⟩
   refine ⟨fun D FF DD Hm Sd YD X9 MQ Me z5 O=>Fx D 0 [True,Me=eu b4 4,MQ=.slice M s.saved.length N,True,YD=eu b4 3,Sd=.slice a8 s.steps.length a9,True,True,FF=eu V 4,True]/\∃ J:Nat,J<=3/\D 0=decide (1<=J)/\D 3=decide (2<=J)/\D 7=decide (3<=J)/\(apP w [] (fun cv=>[B4,B5,B6,B8,B13]++[ay V #[gu,bu,cc,su,cv] aX]) (.slice M s.saved.length N) ve 1 RdVS s.saved s.steps S5 (D 6) (D 9) z5 X9 Hm DD O J),⟨Fx.nil _ _,⟨0,bf _,rfl,rfl,rfl,apP.mk G.draw _ _ _ _⟩⟩,⟨?_,?_,?_,?_,?_,?_,?_,?_,?_,?_,trivial⟩,?_⟩;all_goals (intro D bw;intros;rename_i FF DD Hm Sd YD X9 MQ Me z5 O a1;have r:=a1.1;obtain ⟨⟨co,cn,bP,cj,cA,bQ,bO,cM,de,dv,_⟩,⟨J,t,g,j,f,q⟩⟩:=a1)
   ·obtain rfl:J=0:=Af g bw;refine abH q mA fun v O q=>?_;exact ⟨r.set 0 (by first|assumption|trivial),1,by decide,rfl,(by first|exact j|rfl),(by first|exact f|rfl),q⟩
   apply ah iT;rotate_left
   obtain rfl:=cn ‹_›;obtain ⟨S6,cv,R,b9,G⟩:=q.inv;refine aD G 0 jX e4 rfl ?_;rotate_left
   ·have i3:=co ‹_›;obtain rfl:=bP ‹_›;obtain rfl:J=1:=iY g ‹D 0=true› j bw;refine abw vsM q mA (by omega) g1 vsL vsO (by omega) (by omega) fun v O q=>?_;exact ⟨r.set 3 (by first|assumption|trivial),2,by decide,(by first|exact g|rfl),rfl,(by first|exact f|rfl),q⟩
   apply ah iQ;rotate_left
   obtain rfl:=cA ‹_›;obtain ⟨S6,cv,R,b9,G⟩:=q.inv;refine aD G 0 jG e4 rfl ?_;rotate_left
   obtain rfl:=bQ ‹_›;refine aaV vsM q mA (by omega) (by omega) rfl i4 vsL fun v O q=>?_;rotate_left
   ·have SV:=cj ‹_›;have Ky:=bO ‹_›;obtain rfl:J=2:=iY j ‹D 3=true› f bw;refine aaW vsM q ‹D 6=true› mA (by omega) vsL vsO (by omega) (by omega) fun v O q=>?_;exact ⟨r.set 7 (by first|assumption|trivial),3,by decide,(by first|exact g|rfl),(by first|exact j|rfl),rfl,q⟩
   apply ah iT;rotate_left
   obtain rfl:=de ‹_›;have Fi:=cM ‹_›;have Z:=pH t f ‹D 7=true›;have a2:=q;rw [Z] at a2;rw [bw] at a2;refine abo (C:=fun cv=>#[gu,bu,cc,su,cv]) (fun _=>rfl) a2 jX (fun _ _=>rfl) (fun _=>show 4<5 by decide) fun O d0=>?_;have q:apP w [] (fun cv=>[B4,B5,B6,B8,B13]++[ay V #[gu,bu,cc,su,cv] aX]) (.slice M s.saved.length N) ve 1 RdVS s.saved s.steps S5 (aC D 9 6) (aC D 9 9) z5 X9 Hm DD O J:=by rw [Z];exact d0
   rotate_left
   all_goals try exact ⟨r.set _ (by first|rfl|assumption|trivial),J,t,g,j,f,q⟩
   obtain rfl:J=3:=pH t f ‹D 7=true›;have Og:D 9=true:=by assumption
   clear g j f;rw [Og] at q;obtain ⟨S6,vv,b9,c8,G⟩:=q.fin;exact ⟨S6,cc,vv,a0.trans b9,a5.monoCh b9.1,c8,G.pick [true,true,true,true,false,true]⟩
  ·have c5:l=[]:=iy (by omega);rw [ai c5,ai c5,dc,dc];exact ⟨S2,_,_,Ext.refl _ _ _,c4,d3.monoVS Y.1,G⟩
 (iterate 26 intro);intro w';rintro ⟨S5,cc,vv,a0,a5,c8,G⟩;have a3:=Y.trans a0;have c6:RdSe S5 [gu,bu,cc,su,vv] (lN p s c u1 n l):=by
  refine ⟨_,_,_,_,_,rfl,e2.monoG (U.trans a0).1,e3.monoO (U.trans a0).1,a5,?_,c8⟩;have e:(lN p s c u1 (n:Int) l).steps=s.steps++[sp]:=by
   rw [f2];simp only [lN,dq,b7,Ty]
  rw [e];exact h3.monoSp a0.1
 refine av G 4 bh rfl rfl (aq (cs:=#[gu,bu,cc,su,vv]) G 2 e6 bh rfl rfl (by simpa using c6.one) fun w' G=>?_);apply bm G 2 bh rfl rfl;exact ⟨_,[],S5,rfl,G.nil,a3,rfl,_,rfl,c6⟩
end
end
section
open Go Go.RowKit
theorem BackR.inv {p:List C} {cs:List Ch} {j:List (List Sp)} {o:Option Se} (h:BackR p cs j o) (g:cs≠[]):∃ a c f t i,cs=a++[c]/\j=f++[t]/\TakeR p ⟨⟨[],[],a⟩,t,f⟩ c i/\
  ((∃ s,i=some s/\o=some s) ∨ (i=none/\BackR p a f o)):=by
 cases h with
 | nil=>exact absurd rfl g
 | hit h=>exact ⟨_,_,_,_,_,rfl,rfl,h,.inl ⟨_,rfl,rfl⟩⟩
 | miss h l=>exact ⟨_,_,_,_,_,rfl,rfl,h,.inr ⟨rfl,l⟩⟩
theorem BackR.none {p:List C} {cs:List Ch} {f:List (List Sp)} {o:Option Se} (h:BackR p cs f o) (a:cs=[]):o=Option.none:=by
 cases h with
 | nil=>rfl
 | hit h=>simp at a
 | miss h g=>simp at a
def acb (b:Nat) (w:World):Nat:=
 match w.heap[b]? with
 | some (Obj.cells c _ _)=>(match c[2]? with
  | some (Value.slice _ n _)=>n
  | _=>0)
 | _=>0
theorem WZ {w0 w:World} {X:List Nat} {L:List Item} {S:ae} {c:Array Value} {a:Option Addr} {n m b i:Nat} {E:TypeId} (f:Inv w0 X L S w) (g:L[i]?=some (ay b c E)) (hc:c[2]?=some (.slice a n m)):acb b w=n:=by
 have h:w.heap[b]?=_:=f.its _ (cJ g);unfold acb;rw [h];simp only [hc]
def ab0 (o:Option Se):Value->List Item->ae->Prop:=fun q I' S'=>I'=[]/\∃ cs:List Value,q=.tuple #[.agg cs.toArray,.bool o.isSome]/\cs.length=5/\(∀ u∈cs,u.oneCell'=true)/\∀ t,o=some t->RdSe S' cs t
section
set_option maxHeartbeats 2000000 in
theorem Lx {p:List C} (hp:∀ cl∈p,BF cl) {k:Nat} (hk:k<=1000) {s:Se} {o:Option Se} (h:BackR p s.st.chs s.saved o) (N:∀ c∈s.st.chs,od c/\okRk k c) (hn:s.st.chs.length<=1000) (a4:s.saved.length=s.st.chs.length) (hv:∀ l∈s.saved,l.length<=1000)
  {S:ae} {u:Value} {ss:hZ} (hP:RdSl S 5 (RdC S) u p) (hs:RdSe S ss s):kt Sq [u,.agg ss.toArray] [] S (ab0 o):=by
 intro w a;apply Ca.2;dsimp only[Ca,bl];refine bq a fun b3 w' a=>?_;refine aG a eP fun b4 w' a=>?_;obtain ⟨B4,b5⟩:∃ B:Item,B=ay b4 zSe aX:=⟨_,rfl⟩
 have e4:=congrArg some b5;have a:Inv w [] [ay b3 ss.toArray aX,B4] S w':=by rw [b5];exact a
 refine ⟨fun w'=>∃ (S1:ae) (cs:hZ) (s:Se),Ext w.heap.size [] S S1/\RdSe S1 cs s/\BackR p s.st.chs s.saved o/\(∀ c∈s.st.chs,od c/\okRk k c)/\s.st.chs.length<=1000/\s.saved.length=s.st.chs.length/\(∀ l∈s.saved,l.length<=1000)/\
  Inv w [] [ay b3 cs.toArray aX,B4] S1 w',acb b3,⟨S,ss,s,Ext.refl _ _ _,hs,h,N,hn,a4,hv,a⟩,?_⟩
 clear hs;intro _ _ _ _ _ _ _ _ _ _ _ _ _ t8 f2 f3 f4 f5 f6 f7 f8 f9 g0 g1 g2 g3 g4 g5 g6 g7;(iterate 18 intro);intro w';rintro ⟨S1,cs,s,hE,hs,h,N,hn,a4,hv,a⟩;obtain ⟨gs,sb,sc,st,sv,rfl,g8,g9,a7,h0,a8⟩:=id hs;obtain ⟨b6,c0,rfl,_⟩:=id a7;obtain ⟨V,a2,rfl,_⟩:=id a8;have d6:=WZ a (i:=0) (n:=s.st.chs.length) rfl rfl;obtain ⟨B3,c1⟩:∃ B:Item,B=ay b3 #[gs,sb,.slice b6 s.st.chs.length c0,st,.slice V s.saved.length a2] aX:=⟨_,rfl⟩
 have e3:=congrArg some c1;have a:Inv w [] [B3,B4] S1 w':=by rw [c1];exact a
 refine ah cD (ah eD (aD a 0 er e3 rfl (fJ jV (ew (aJ (fun a6=>?_) (fun a6=>?_))))))
 ·have d7:s.st.chs≠[]:=fun e=>by rw [e] at a6;simp at a6
  obtain ⟨f,c,m,t,o1,ec,es,hT,a9⟩:=h.inv d7;have h3:s.st.chs.length=f.length+1:=by rw [ec];simp
  have h4:s.saved.length=m.length+1:=by rw [es];simp
  have b0:m.length=f.length:=by omega
  refine ah cD (ah eD (aD a 0 er e3 rfl (fJ jV (je (by omega) ?_))));rw [show ((s.st.chs.length:Int) - 1)=(f.length:Int) by omega];refine ah cD (ah eD (aD a 0 er e3 rfl ?_));have d9:f.length<s.st.chs.length:=by omega
  refine cL a a7 jV eE d9 (fun _ _=>RdCh.length) fun ds a1=>?_;have e0:s.st.chs[f.length]=c:=by
   have:∀ (l:List Ch) (h:f.length<l.length),l=f++[c]->l[f.length]=c:=by
    intro l h e;subst e;rw [gF (be _)];simp
   exact this _ _ ec
  rw [e0] at a1;have c7:c∈s.st.chs:=by rw [ec];simp
  refine aG a om fun b7 w' a=>?_;have a:Inv w [] [B3,B4,ay b7 zCh dp] S1 w':=a;have c8:=a1.length;refine aq a 2 rfl eE (by simpa using c8) rfl (by simpa using a1.one) fun w' a=>?_;obtain ⟨B7,c2⟩:∃ B:Item,B=ay b7 ds.toArray dp:=⟨_,rfl⟩
  have e7:=congrArg some c2;have a:Inv w [] [B3,B4,B7] S1 w':=by rw [c2];exact a
  obtain ⟨lb,lo,h1,d2,lE,h2,c3,d3,c4⟩:=a8.at_ (show f.length<s.saved.length by omega);have e1:V=some ⟨lb,lo,none⟩:=by
   simp only [Value.slice.injEq] at c3;exact c3.1
  have e2:s.saved[f.length]'(by omega)=t:=by
   have:∀ (l:List (List Sp)) (h:f.length<l.length),l=m++[t]->l[f.length]=t:=by
    intro l h e;subst e;rw [gF (by omega)];simp [b0]
   exact this _ _ es
  rw [e2] at c4;obtain ⟨tv,d4,c5⟩:=c4;obtain ⟨r,G,rfl,_⟩:=id c5;have b1:d2[lo+f.length * 1]?=some (.slice r t.length G):=aA d4 0 _ rfl;have e5:∀ {ty:TypeId} {K:Value->World->Prop} {w':World},K (eu lb (lo+f.length * 1)) w'->Run Tryz.prog (sOp (.indexAddr Ng (.const (.slice V s.saved.length a2)) (.const (ax (f.length:Int)))) ty) w' K:=
   fun hk=>by rw [e1];exact az yo (by omega) hk
  have e6:∀ v,RdSl S1 7 (RdCh S1) v (s.st.chs.take f.length)->RdSl S1 7 (RdCh S1) v f:=by
   intro v h;rw [ec,H6 rfl] at h;exact h
  have e9:∀ v,RdSl S1 1 (RdVS S1) v (s.saved.take f.length)->RdSl S1 1 (RdVS S1) v m:=by
   intro v h;rw [es,H6 b0] at h;exact h
  refine ⟨fun D x8 nj lS oC j7 jt oH lK mC r7 og rr kY gQ lO jW pp w_=>Fx D 0 [pp=ee b3,jW=eu b3 2,lO=.slice b6 s.st.chs.length c0,gQ=ax (f.length:Int),RdSl S1 7 (RdCh S1) kY f,∃ J,rr=.agg #[hV,hV,J]/\RdSl S1 7 (RdCh S1) J f,og=eu b3 4,r7=.slice V s.saved.length a2,mC=ax (f.length:Int),lK=eu lb (lo+f.length * 1),oH=.slice r t.length G,jt=eu b3 4,j7=.slice V s.saved.length a2,oC=ax (f.length:Int),RdSl S1 1 (RdVS S1) lS m,∃ J Y,nj=.agg #[hV,hV,J,.slice r t.length G,Y]/\RdSl S1 7 (RdCh S1) J f/\RdSl S1 1 (RdVS S1) Y m,True,True]/\nwP w [] [B3,B4,B7] aX zSe (fun _ q=>∃ J Y,q=#[hV,hV,J,.slice r t.length G,Y]/\RdSl S1 7 (RdCh S1) J f/\RdSl S1 1 (RdVS S1) Y m) (D 16) (D 17) x8 S1 w_,⟨Fx.nil _ _,nwP.mk a.draw _⟩,⟨?_,?_,?_,?_,?_,?_,?_,?_,?_,?_,?_,?_,?_,?_,?_,?_,?_,?_,trivial⟩,?_⟩;all_goals (intro D bw;intros;rename_i x8 nj lS oC j7 jt oH lK mC r7 og rr kY gQ lO jW pp w_ b2;have g:=b2.1;obtain ⟨⟨co,cn,bP,cj,cA,bQ,bO,cM,de,dv,bU,cC,cY,dK,dd,ek,eH,fl,_⟩,j⟩:=b2)
  apply ah cD;rotate_left
  obtain rfl:=co ‹_›;apply ah eD;rotate_left
  obtain rfl:=cn ‹_›;obtain ⟨R,a⟩:=j.inv;refine aD a 0 er e3 rfl ?_;rotate_left;rotate_left
  obtain rfl:=bP ‹_›;obtain rfl:=cj ‹_›;refine MZ jV a7 (by omega) fun v' U=>?_;have U:=e6 _ U;rotate_left
  have Ot:=cA ‹_›;obtain ⟨ca,J,rfl,_⟩:=id Ot;apply Tp;have hq:∃ a0,Value.agg #[hV,hV,.slice ca f.length J]=.agg #[hV,hV,a0]/\RdSl S1 7 (RdCh S1) a0 f:=⟨_,rfl,Ot⟩
  rotate_left;apply ah iT;rotate_left
  obtain rfl:=bO ‹_›;obtain ⟨R,a⟩:=j.inv;refine aD a 0 jX e3 rfl ?_;rotate_left;rotate_left
  obtain rfl:=cM ‹_›;obtain rfl:=de ‹_›;apply e5;rotate_left
  obtain rfl:=dv ‹_›;obtain ⟨R,a⟩:=j.inv;refine cS jG ((a.cellS d3).trans b1) ?_;rotate_left
  apply ah iT;rotate_left
  obtain rfl:=cC ‹_›;obtain ⟨R,a⟩:=j.inv;refine aD a 0 jX e3 rfl ?_;rotate_left;rotate_left
  obtain rfl:=cY ‹_›;obtain rfl:=dK ‹_›;refine MZ yo a8 (by omega) fun v' U=>?_;have U:=e9 _ U;rotate_left
  have PS:=bQ ‹_›;obtain rfl:=bU ‹_›;have Eb:=dd ‹_›;obtain ⟨J,rfl,M⟩:=PS;obtain ⟨la,lc,rfl,_⟩:=id Eb;apply MD;have hq:∃ a0 d1,Value.agg #[hV,hV,J,.slice r t.length G,.slice la m.length lc]=.agg #[hV,hV,a0,.slice r t.length G,d1]/\RdSl S1 7 (RdCh S1) a0 f/\RdSl S1 1 (RdVS S1) d1 m:=⟨_,_,rfl,M,Eb⟩
  rotate_left;refine nwP.alloc j bw eP rfl fun v w_ j=>?_;rotate_left
  have Uq:=eH ‹_›;have W6:=ek ‹_›;obtain ⟨J,Y,rfl,M,a3⟩:=W6;refine nwP.store j ‹D 16=true› bw bh rfl rfl (YP rfl rfl M.sl rfl a3.sl) ⟨J,Y,rfl,M,a3⟩ fun w_ j=>?_;rotate_left
  all_goals try exact ⟨g.set _ (by first|rfl|assumption|trivial),j⟩
  obtain ⟨rfl,rfl,rfl,rfl,Ot,PS,rfl,rfl,rfl,rfl,rfl,rfl,rfl,rfl,Eb,W6,Uq,_,_⟩:=g.all;have f0:D 16=true:=by assumption
  have f1:D 17=true:=by assumption
  clear g;rw [f0,f1] at j;obtain ⟨b8,q8,rfl,⟨J,Y,rfl,M,a3⟩,a⟩:=j.fin;obtain ⟨B8,c6⟩:∃ B:Item,B=ay b8 #[hV,hV,J,.slice r t.length G,Y] aX:=⟨_,rfl⟩
  have e8:=congrArg some c6;have a:Inv w [] [B3,B4,B7,B8] S1 w_:=by rw [c6];exact a
  have hy:RdSe S1 [hV,hV,J,.slice r t.length G,Y] ⟨⟨[],[],f⟩,t,m⟩:=⟨_,_,_,_,_,rfl,RdSl.nil0 ..,RdSl.nil0 ..,M,c5,a3⟩
  refine av a 3 bh e8 rfl (av a 2 eE e7 (by simpa using c8) (Run.call0E C4 AQ a (x0 hp hk (N c c7).1 (N c c7).2 hT (by simp only;omega) (hv t (by rw [es];simp)) (by simp only;omega) (hP.monoC hE.1) hy a1) fun v' I' S2 w'=>?_));rintro ⟨rfl,ns,rfl,O⟩ a5 a;have Z:=O.length;refine al (v:=.agg ns.toArray) rfl (al (v:=.bool o1.isSome) rfl (aG a eP fun b9 w' a=>?_));refine aq a 4 rfl bh (by simpa using Z) rfl (by simpa using O.one) fun w' a=>?_;have a:Inv w [] [B3,B4,B7,B8,ay b9 ns.toArray aX] S2 w':=a;rcases a9 with ⟨s1,rfl,rfl⟩|⟨rfl,hB⟩
  ·refine aE (fun _=>?_) (fun hb=>by cases hb);refine av a 4 bh rfl (by simpa using Z) (aq a 1 e4 bh (by simpa using Z) rfl (by simpa using O.one) fun w' a=>?_);refine bm a 1 bh rfl (by simpa using Z) ?_;exact ⟨_,[],S2,rfl,a.nil,hE.trans a5,rfl,ns,rfl,Z,O.one,fun t e=>by rw [aY] at e;subst e;exact O⟩
  ·refine aE (fun hb=>by cases hb) (fun _=>?_);refine av a 3 bh e8 rfl (aq a 0 e3 bh rfl rfl (by simpa using hy.one) fun w' a=>?_);have a:Inv w [] [ay b3 #[hV,hV,J,.slice r t.length G,Y] aX,B4,B7,B8,ay b9 ns.toArray aX] S2 w':=a;obtain ⟨ca,cm,rfl,_⟩:=id M;have c9:=WZ a (i:=0) (n:=f.length) rfl rfl;refine ⟨⟨S2,_,⟨⟨[],[],f⟩,t,m⟩,hE.trans a5,hy.mono a5.1,hB,fun d hd=>N d (by rw [ec];exact dO _ hd),by simp only;omega,b0,fun l hl=>hv l (by rw [es];exact dO _ hl),a.pick [true,true]⟩,?_⟩;rw [c9,d6];omega
 ·have d0:s.st.chs=[]:=iy (by omega);have ho:=h.none d0;subst ho;refine av a 0 bh e3 rfl (aq a 1 e4 bh rfl rfl (by simpa using hs.one) fun w' a=>?_);apply bm a 1 bh rfl rfl;exact ⟨_,[],S1,rfl,a.nil,hE,rfl,_,rfl,hs.length,hs.one,fun t e=>by cases e⟩
end
end
end Go.Proofs.YtellfcpffcipcaaGreatDoor
