/- spec's compiler: goals and heads. -/
import Derived.Test.YtjbcdmheajljpaaGreatZRdA
import Derived.Test.YtjbcdmheajljpaaGreatZRd12
namespace Go.Proofs.YtjbcdmheajljpaaGreat
attribute [local irreducible] Run CondV aI bg
section
open Go Go.RowKit
section
set_option maxHeartbeats 1000000 in
theorem NT {s:CS} {t:T} {i:Int} {S:ai} {cs ds:List Value} (h:MkS S cs s) (hd:RdT S ds t) (ho:okU 26 t) (hl:s.sl.length=26) (a3:0<=s.next) (a4:s.sz+8 * bR t<=800000000) :
  Tri Tryz.prog SX [.agg cs.toArray,.agg ds.toArray,.int .i64 i] [] S (HG (gb s i t)):=by
 intro w a;have b0:=h.length;have b1:=hd;obtain ⟨kv,rfl,_,_,_,b7⟩:=RdT.iff.1 hd;have b8:=dw t;have hb:s.sz<=900000000:=by omega
 have b5:s.next<=900000000/\s.code.length<=900000000:=by
  unfold CS.sz at hb;omega
 refine Ea.2 ?_;dsimp only[Ea,eX];refine bH a fun b3 w' a=>?_;refine bH a fun b4 w' a=>?_;refine aE a fJ fun b6 w' a=>?_;obtain ⟨B4,a2⟩:∃ B4,B4=Item.blk b4 (.cells #[.int .i64 t.kind,.int .i64 t.n,.string t.name,kv] ac):=⟨_,rfl⟩
 have U:=congrArg some a2;have a:Inv w [] [.blk b3 (.cells cs.toArray aC),B4,.blk b6 (.cells #[.slice none 0 0,.int .i64 0,.slice none 0 0] aC)] S w':=by rw [a2]; exact a
 refine ah a 1 U aW au rfl ?_;refine a9 ?_;refine aJ (fun h2=>?_) (fun h2=>?_)
 ·refine aq a 0 aH rfl (by simpa using b0) ?_;refine ah a 1 U aR au rfl ?_;refine lZ ?_;refine Run.call0E dX dY a (dy ⟨10,t.n,i,emptyB⟩ h (by omega)) fun v' I' S2 w'=>?_;rintro ⟨rfl,o,rfl,g⟩ p a;refine aj a 2 rfl aH (by simpa using g.length) rfl (by simpa using g.one) fun w' a=>?_;refine be a 2 aH rfl (by simpa using g.length) ?_;have e:gb s i t=s.emit ⟨10,t.n,i,emptyB⟩:=by rw [gb,ag h2]
  rw [e];exact ⟨_,_,S2,rfl,a.nil,p,rfl,o,rfl,g⟩
 refine ⟨fun q w'=>q=.bool (decide (t.kind=1/\0<=s.at_ t.n))/\Inv w [] [.blk b3 (.cells cs.toArray aC),B4,.blk b6 (.cells #[.slice none 0 0,.int .i64 0,.slice none 0 0] aC)] S w',?_,?_⟩
 ·refine ah a 1 U aW au rfl ?_;refine a9 ?_;by_cases M:t.kind=1
  ·rw [aD M];refine rpG ?_;obtain ⟨v1,v2,rfl,g1,g2⟩:=id h;have hv:=ho.var M;obtain ⟨m,hm⟩:∃ m:Nat,t.n=(m:Int):=⟨t.n.toNat,by omega⟩
   have N:m<s.sl.length:=by omega
   refine ah a 0 rfl eQ gU rfl ?_;refine ah a 1 U aR au rfl ?_;rw [hm,A4 N];refine jq a g1 ff au N (fun cs a6=>a6) ?_;refine iK ?_;refine rpG ?_;refine ⟨?_,a⟩;simp [M]
  ·rw [aM M];refine rpG ?_;refine ⟨?_,a⟩;simp [M]
 intro z _ _ _ _ _ _ _ _ _ _ _ _ w';rintro ⟨rfl,a⟩;obtain ⟨v1,v2,rfl,g1,g2⟩:=id h;refine aJ (fun Z=>?_) (fun Z=>?_)
 ·obtain ⟨M,h0⟩:=Z;have e:gb s i t=s.emit ⟨9,s.at_ t.n,i,emptyB⟩:=by rw [gb,ae h2,ag M,ag h0]
  have hv:=ho.var M;obtain ⟨m,hm⟩:∃ m:Nat,t.n=(m:Int):=⟨t.n.toNat,by omega⟩
  have N:m<s.sl.length:=by omega
  have hJ:=a;obtain ⟨bq,oq,cap,c,E,fz,rfl,a7,a8⟩:=g1.at_ N;have a:=hJ;clear hJ;have b2:=A4 N;rw [e];refine ⟨fun D yS uC qg uh oN uq xG CJ zb uQ w_=>Fx D 0 [uQ=.agg #[.slice (some ⟨bq,oq,none⟩) s.sl.length cap,.int .i64 s.next,v2],zb=.pointer (some ⟨b3,0,none⟩),CJ=.slice (some ⟨bq,oq,none⟩) s.sl.length cap,xG=.pointer (some ⟨b4,1,none⟩),uq=.int .i64 (m:Int),oN=.pointer (some ⟨bq,oq+m * 1,none⟩),uh=.int .i64 (s.at_ t.n),qg=.int .i64 i,uC=.agg (Ist.cells ⟨9,s.at_ t.n,i,emptyB⟩).toArray,True,True]/\∃ G:Nat,G<=2/\D 9=decide (1<=G)/\D 10=decide (2<=G)/\(emS w [] (fun c=>[.blk b3 (.cells #[.slice (some ⟨bq,oq,none⟩) s.sl.length cap,.int .i64 s.next,v2] aC),B4,.blk b6 (.cells c aC)]) S #[.slice none 0 0,.int .i64 0,.slice none 0 0] (s.emit ⟨9,s.at_ t.n,i,emptyB⟩) yS w_ G),⟨Fx.nil _ _,⟨0,aT _,rfl,rfl,a.draw⟩⟩,⟨?_,?_,?_,?_,?_,?_,?_,?_,?_,?_,?_,trivial⟩,?_⟩;all_goals (intro D bp; intros; rename_i yS uC qg uh oN uq xG CJ zb uQ w_ a1; have B:=a1.1; obtain ⟨⟨cF,ci,cG,cD,bU,cH,cj,cR,dJ,dQ,cJ,_⟩,⟨G,C,j,l,J⟩⟩:=a1)
  ·obtain ⟨S5,c5,O,a⟩:=J.any;refine aq a 0 aH rfl rfl ?_;exact ⟨B.set 0 rfl,⟨G,C,j,l,J⟩⟩
  ·refine ax eQ ?_;exact ⟨B.set 1 rfl,⟨G,C,j,l,J⟩⟩
  ·obtain rfl:=ci ‹_›;obtain ⟨S5,c5,O,a⟩:=J.any;refine aG a 0 gU rfl rfl ?_;exact ⟨B.set 2 rfl,⟨G,C,j,l,J⟩⟩
  ·refine ax aR ?_;exact ⟨B.set 3 rfl,⟨G,C,j,l,J⟩⟩
  ·obtain rfl:=cD ‹_›;obtain ⟨S5,c5,O,a⟩:=J.any;refine aG (v:=.int .i64 (m:Int)) a 1 au U (by rw [<- hm]; rfl) ?_;exact ⟨B.set 4 rfl,⟨G,C,j,l,J⟩⟩
  ·obtain rfl:=cG ‹_›;obtain rfl:=bU ‹_›;refine aN ff N ?_;exact ⟨B.set 5 rfl,⟨G,C,j,l,J⟩⟩
  ·obtain rfl:=cH ‹_›;obtain ⟨S5,c5,O,a⟩:=J.any;refine eD (v:=.int .i64 (s.at_ t.n)) au (by rw [a.cellS (O _ _ a7),hm,b2]; exact bf a8 0 _ rfl) ?_;exact ⟨B.set 6 rfl,⟨G,C,j,l,J⟩⟩
  ·exact ⟨B.set 7 rfl,⟨G,C,j,l,J⟩⟩
  ·obtain rfl:=cj ‹_›;obtain rfl:=cR ‹_›;refine lZ ?_;exact ⟨B.set 8 rfl,⟨G,C,j,l,J⟩⟩
  ·obtain rfl:=cF ‹_›;obtain rfl:=dJ ‹_›;obtain rfl:G=0:=jv j bp;refine Run.call0E dX dY J (dy ⟨9,s.at_ t.n,i,emptyB⟩ h (by omega)) fun v' I' S2 w_=>?_;rintro ⟨rfl,o,rfl,g⟩ p a;have a0:emS w [] (fun c=>[.blk b3 (.cells #[.slice (some ⟨bq,oq,none⟩) s.sl.length cap,.int .i64 s.next,v2] aC),B4,.blk b6 (.cells c aC)]) S #[.slice none 0 0,.int .i64 0,.slice none 0 0] (s.emit ⟨9,s.at_ t.n,i,emptyB⟩) (.agg o.toArray) w_ 1:=⟨S2,o,rfl,g,p,a⟩
   exact ⟨B.set 9 (by first|assumption|trivial),⟨1,by decide,rfl,(by first|exact l|rfl),a0⟩⟩
  ·have Ds:=dQ ‹_›;obtain rfl:G=1:=gg j ‹D 9=true› l bp;obtain ⟨S2,o,rfl,g,p,a⟩:=J;refine aj a 2 rfl aH (by simpa using g.length) rfl (by simpa using g.one) fun w_ a=>?_;have a0:emS w [] (fun c=>[.blk b3 (.cells #[.slice (some ⟨bq,oq,none⟩) s.sl.length cap,.int .i64 s.next,v2] aC),B4,.blk b6 (.cells c aC)]) S #[.slice none 0 0,.int .i64 0,.slice none 0 0] (s.emit ⟨9,s.at_ t.n,i,emptyB⟩) (.agg o.toArray) w_ 2:=⟨S2,o,g,p,a⟩
   exact ⟨B.set 10 trivial,⟨2,by decide,(by first|exact j|rfl),rfl,a0⟩⟩
  obtain rfl:G=2:=jD C l ‹D 10=true›;clear j l;obtain ⟨S2,o,g,p,a⟩:=J;refine be a 2 aH rfl (by simpa using g.length) ?_;exact ⟨_,_,S2,rfl,a.nil,p,rfl,o,rfl,g⟩
 refine ah a 1 U aW au rfl ?_;refine a9 ?_;refine aJ (fun M=>?_) (fun M=>?_)
 ·have hv:=ho.var M;have h0:¬ 0<=s.at_ t.n:=fun h0=>Z ⟨M,h0⟩;have e:gb s i t=(s.put t.n s.next).inc.emit ⟨8,s.next,i,emptyB⟩:=by rw [gb,ae h2,ag M,ae h0]
  refine aq a 0 aH rfl rfl ?_;refine ah a 1 U aR au rfl ?_;refine ah a 0 rfl dG au rfl ?_;refine Run.call0E te s8 a (qw (n:=t.n) (k:=s.next) h hl (by omega)) fun v' I' S2 w'=>?_;rintro ⟨rfl,o,rfl,g⟩ p a;refine aj a 0 rfl aH (by simpa using g.length) rfl (by simpa using g.one) fun w' a=>?_;obtain ⟨z1,z2,rfl,y1,y2⟩:=id g;refine ah a 0 rfl dG au rfl ?_;have en:(s.put t.n s.next).next=s.next:=rfl;rw [en];refine bL (by omega) ?_;refine cq a 0 rfl dG au rfl rfl rfl fun w' a=>?_;have a:Inv w [] [.blk b3 (.cells #[z1,.int .i64 (s.next+1),z2] aC),B4,.blk b6 (.cells #[.slice none 0 0,.int .i64 0,.slice none 0 0] aC)] S2 w':=a;have r:MkS S2 [z1,.int .i64 (s.next+1),z2] (s.put t.n s.next).inc:=⟨z1,z2,rfl,y1,y2⟩
  refine aq a 0 aH rfl rfl ?_;refine ah a 0 rfl dG au rfl ?_;refine jl (by omega) ?_;rw [show s.next+1 - 1=s.next by omega];refine lZ ?_;refine Run.call0E dX dY a (dy ⟨8,s.next,i,emptyB⟩ r (by show s.code.length<=_; omega)) fun v' I' S3 w'=>?_;rintro ⟨rfl,V,rfl,r⟩ Y a;refine aj a 2 rfl aH (by simpa using r.length) rfl (by simpa using r.one) fun w' a=>?_;refine be a 2 aH rfl (by simpa using r.length) ?_;rw [e];exact ⟨_,_,S3,rfl,a.nil,p.trans Y,rfl,V,rfl,r⟩
 ·have h3:t.kind=3:=by have:=ho.three; omega
  have e:gb s i t=(bn t s).1.emit ⟨9,(bn t s).2,i,emptyB⟩:=by rw [gb,ae h2,ae M]
  refine aq a 0 aH rfl rfl ?_;refine aq a 1 af U rfl ?_;refine Run.call0E yg yY a (Hk t S _ _ s h b1 ho hl a3 a4) fun v' I' S2 w'=>?_;rintro ⟨rfl,o,rfl,g⟩ p a;refine aA rfl ?_;refine aA rfl ?_;refine aj a 0 rfl aH (by simpa using g.length) rfl (by simpa using g.one) fun w' a=>?_;refine aq a 0 aH rfl (by simpa using g.length) ?_;refine lZ ?_;have b9:=(mE t s).2;have c1:=(tG t s).1.next;refine Run.call0E dX dY a (dy ⟨9,(bn t s).2,i,emptyB⟩ g (by
   have a5:(bn t s).1.sz<=900000000:=by omega
   unfold CS.sz at a5;omega)) fun v' I' S3 w'=>?_
  rintro ⟨rfl,V,rfl,r⟩ Y a;refine aj a 2 rfl aH (by simpa using r.length) rfl (by simpa using r.one) fun w' a=>?_;refine be a 2 aH rfl (by simpa using r.length) ?_;rw [e];exact ⟨_,_,S3,rfl,a.nil,p.trans Y,rfl,V,rfl,r⟩
set_option maxHeartbeats 1000000 in
theorem Hw {s:CS} {J:List T} {S:ai} {cs:nA} {v:Value} (h:MkS S cs s) (c7:RdSl S 4 (RdT S) v J) (ho:∀ t∈J,okU 26 t/\t.kind=3) (hl:s.sl.length=26) (e0:0<=s.next) (g4:s.sz+8 * bo J<=800000000) :
  nB Md [.agg cs.toArray,v] [] S (HG ((dR s J).emit ⟨14,0,0,emptyB⟩)):=by
 intro w l;have h5:=h.length;have d6:=c7.le;simp only [maxLen] at d6;have h6:0<=s.sz:=by unfold CS.sz;omega
 have h7:=kq J;refine zk.2 ?_;dsimp only[zk,bv];refine bH l fun b2 w' l=>?_;refine aE l fJ fun b4 w' l=>?_;obtain ⟨B4,d1⟩:∃ B4,B4=Item.blk b4 (.cells #[nx,ee 0,nx] aC):=⟨_,rfl⟩
 have e4:=congrArg some d1;have l:Inv w [] [ei b2 cs.toArray aC,B4] S w':=by rw [d1];exact l
 refine ⟨fun i w'=>∃ (j:Nat) (B:CS) (a2:nA) (Sj:ai),j<=J.length/\i=ee j/\Ext w.heap.size [] S Sj/\MkS Sj a2 B/\B.sl.length=26/\0<=B.next/\B.sz+8 * bo (J.drop j)<=s.sz+8 * bo J/\dR s J=dR B (J.drop j)/\
   Inv w [] [ei b2 a2.toArray aC,B4] Sj w',fun i _=>J.length - (intOf i).toNat,
   ⟨0,s,cs,S,aT _,rfl,Ext.refl _ _ _,h,hl,e0,by rw [fe];omega,by rw [fe],l⟩,?_⟩
 intro i _ _ _ _ _ _ _ _ _ _ _ _ _ _ _ _ _ _ _ _ _ _ _ _ _ _ _ _ _ _ _ _ _ _ _ _ _ _ _ _ _ _ _ _ _ _ _ _ w';rintro ⟨j,B,a2,Sj,hj,rfl,c2,b0,c8,e1,e2,b1,l⟩;have c1:=c7.monoT c2.1;have a6:=b0.length;refine aO c1 ao ?_;refine cd ?_;have hb:B.sz<=900000000:=by have:=ch (J.drop j);omega
 have g1:B.next<=900000000/\B.code.length<=900000000:=by
  unfold CS.sz at hb;omega
 refine aJ (fun e9=>?_) (fun e9=>?_)
 ·have a7:j<J.length:=by omega
  obtain ⟨g,hg⟩:∃ g,g=J[j]:=⟨_,rfl⟩
  have d7:okU 26 g/\g.kind=3:=by rw [hg];exact ho _ (cO a7)
  have h8:=ch (J.drop (j+1));rw [mz J j a7,<- hg] at e2;rw [CB J B j a7,<- hg] at b1;have h9:bR g=1+bo g.kids:=by cases g;rw [bR];rfl
  refine ⟨fun w'=>∃ (a9:nA) (Sn:ai),Ext w.heap.size [] Sj Sn/\MkS Sn a9 (fM B g)/\Inv w [] [ei b2 a9.toArray aC,B4] Sn w',?_,?_⟩
  ·refine dj l c1 ao af a7 (fun _ _=>RdT.length) fun ds a5=>?_;rw [<- hg] at a5;have f3:=a5.length;refine aE l aQ fun b6 w' l=>?_;refine aj l 2 rfl af (by simpa using f3) rfl (by simpa using a5.one) fun w' l=>?_;have f4:=a5;obtain ⟨ka,kn,kc,h3,d2,d3⟩:∃ ka kn kc,kn=g.kids.length/\ds=(kB g (.slice ka kn kc))/\RdSl Sj 4 (RdT Sj) (.slice ka kn kc) g.kids:=by
    obtain ⟨h4,e,_,_,_,b9⟩:=RdT.iff.1 a5;obtain ⟨a,c,rfl,_⟩:=id b9;exact ⟨a,_,c,rfl,e,b9⟩
   subst d2;obtain ⟨B6,b5⟩:∃ B6,B6=Item.blk b6 (.cells (ku g (.slice ka kn kc)) ac):=⟨_,rfl⟩
   have e6:=congrArg some b5;have l:Inv w [] [ei b2 a2.toArray aC,B4,B6] Sj w':=by rw [b5];exact l
   refine aq l 2 af e6 rfl ?_;refine Run.callPure EU EQ l (Cz f4) fun w' l=>?_;refine aL (fun hc=>?_) (fun hc=>?_)
   ·refine aq l 0 aH rfl (by simpa using a6) ?_;refine Ka ?_;refine Run.call0E dX dY l (dy ⟨13,0,0,emptyB⟩ b0 (by omega)) fun v' I' S2 w'=>?_;rintro ⟨rfl,a3,rfl,p⟩ a4 l;refine aj l 0 rfl aH (by simpa using p.length) (by simpa using a6) (by simpa using p.one) fun w' l=>?_;have e:fM B g=B.emit ⟨13,0,0,emptyB⟩:=by rw [fM,ag hc]
    rw [e];exact ⟨a3,S2,a4,p,l.pick [true,true,false]⟩
   have e:fM B g=(eP B 0 g.kids).emit ⟨if gi g=true then 12 else 11,g.kids.length,0,g.name⟩:=by rw [fM,ae (by rw [hc];decide)]
   rw [e];have d9:∀ t∈g.kids,okU 26 t:=iQ d7.1.kids;have f5:=d3.le;simp only [maxLen] at f5;refine ⟨fun i w'=>∃ (m:Nat) (U:CS) (M:nA) (Sm:ai),m<=g.kids.length/\i=ee m/\Ext w.heap.size [] Sj Sm/\MkS Sm M U/\U.sl.length=26/\0<=U.next/\U.sz+8 * bo (g.kids.drop m)<=B.sz+8 * bo g.kids/\eP B 0 g.kids=eP U m (g.kids.drop m)/\
     Inv w [] [ei b2 M.toArray aC,B4,B6] Sm w',fun i _=>g.kids.length - (intOf i).toNat,
     ⟨0,B,a2,Sj,aT _,rfl,Ext.refl _ _ _,b0,c8,e1,by rw [fe];omega,by rw [fe];rfl,l⟩,?_⟩
   intro i _ _ g5 g6 g7 g8 g9 h0 h1 h2 _ _ _ _ _ w';rintro ⟨m,U,M,Sm,hm,rfl,c3,c4,c9,e3,e5,b3,l⟩;have b8:=d3.monoT c3.1;have a0:=c4.length;refine ah l 2 e6 az aw rfl ?_;refine aO b8 ao ?_;refine cd ?_;have f6:U.sz<=900000000:=by have:=ch (g.kids.drop m);omega
   have g2:U.next<=900000000/\U.code.length<=900000000:=by
    unfold CS.sz at f6;omega
   refine aJ (fun f0=>?_) (fun f0=>?_)
   ·have a1:m<g.kids.length:=by omega
    obtain ⟨u,hu⟩:∃ u,u=g.kids[m]:=⟨_,rfl⟩
    have f7:okU 26 u:=by rw [hu];exact d9 _ (cO a1)
    have g3:=ch (g.kids.drop (m+1));rw [mz g.kids m a1,<- hu] at e5;rw [ER g.kids U m m a1,<- hu] at b3;obtain ⟨bq,oq,cap,c,E,fz,f1,f2,b7⟩:=b8.at_ a1;rw [<- hu] at b7;obtain ⟨du,d4⟩:∃ du,du=bJ c (oq+m * 4) 4:=⟨_,rfl⟩
    rw [<- d4] at b7;rw [f1] at b5;have e6:=congrArg some b5;refine ⟨fun D qg uh oN uq xG CJ zb uQ w_=>Fx D 0 [uQ=.agg M.toArray,zb=kh b6 3,CJ=kt bq oq g.kids.length cap,xG=ee (m:Int),uq=kh bq (oq+m * 4),oN=.agg du.toArray,uh=ee (m:Int),True,True]/\∃ Z:Nat,Z<=2/\D 7=decide (1<=Z)/\D 8=decide (2<=Z)/\(emS w [] (fun c=>[ei b2 c aC,B4,B6]) Sm M.toArray (gb U m u) qg w_ Z/\(D 8=true->D 0=true)),⟨Fx.nil _ _,⟨0,aT _,rfl,rfl,⟨l.draw,aU⟩⟩⟩,⟨?_,?_,?_,?_,?_,?_,?_,?_,?_,trivial⟩,?_⟩;all_goals (intro D bp;intros;rename_i qg uh oN uq xG CJ zb uQ w_ d0;have G:=d0.1;obtain ⟨⟨cF,ci,cG,cD,bU,cH,cj,cR,dJ,_⟩,⟨Z,N,r,q,O⟩⟩:=d0)
    ·have dJ:D 8=false:=bA.2 fun h=>by rw [O.2 h] at bp;cases bp
     obtain ⟨S6,C,l⟩:=O.1.inv (SP q dJ);refine aq l 0 aH rfl (by simpa using a0) ?_;have O:=And.intro O.1 (fun (_:aF D 0 8=true)=>(rfl:aF D 0 0=true));exact ⟨G.set 0 rfl,⟨Z,N,r,q,O⟩⟩
    ·refine ax az ?_;exact ⟨G.set 1 rfl,⟨Z,N,r,q,O⟩⟩
    ·obtain rfl:=ci ‹_›;obtain ⟨S6,c6,C,l⟩:=O.1.any;refine aG l 2 aw e6 rfl ?_;exact ⟨G.set 2 rfl,⟨Z,N,r,q,O⟩⟩
    ·exact ⟨G.set 3 rfl,⟨Z,N,r,q,O⟩⟩
    ·obtain rfl:=cG ‹_›;obtain rfl:=cD ‹_›;refine aN ao a1 ?_;exact ⟨G.set 4 rfl,⟨Z,N,r,q,O⟩⟩
    ·obtain rfl:=bU ‹_›;obtain ⟨S6,c6,C,l⟩:=O.1.any;refine eE (cs:=du) af b7.length (fun f v hf=>by rw [l.cellS (C _ _ f2)];exact bf d4.symm f v hf) ?_;exact ⟨G.set 5 rfl,⟨Z,N,r,q,O⟩⟩
    ·exact ⟨G.set 6 rfl,⟨Z,N,r,q,O⟩⟩
    ·obtain rfl:=cF ‹_›;obtain rfl:=cH ‹_›;obtain rfl:=cj ‹_›;obtain rfl:Z=0:=jv r bp;refine Run.call0E PJ Pl O.1 (NT (i:=(m:Int)) c4 b7 f7 c9 e3 (by omega)) fun v' I' S6 w_=>?_;rintro ⟨rfl,V,rfl,Y⟩ C l;have c5:emS w [] (fun c=>[ei b2 c aC,B4,B6]) Sm M.toArray (gb U m u) (.agg V.toArray) w_ 1:=⟨S6,V,rfl,Y,C,l⟩
     exact ⟨G.set 7 (by first|assumption|trivial),⟨1,by decide,rfl,(by first|exact q|rfl),⟨c5,O.2⟩⟩⟩
    ·have Ch:=cR ‹_›;obtain rfl:Z=1:=gg r ‹D 7=true› q bp;obtain ⟨S6,V,rfl,Y,C,l⟩:=O.1;refine aj l 0 rfl aH (by simpa using Y.length) (by simpa using a0) (by simpa using Y.one) fun w_ l=>?_;have c5:emS w [] (fun c=>[ei b2 c aC,B4,B6]) Sm M.toArray (gb U m u) (.agg V.toArray) w_ 2:=⟨S6,V,Y,C,l⟩
     exact ⟨G.set 8 trivial,⟨2,by decide,(by first|exact r|rfl),rfl,⟨c5,fun _=>‹D 0=true›⟩⟩⟩
    obtain rfl:Z=2:=jD N q ‹D 8=true›;clear r q;obtain ⟨S6,V,Y,C,l⟩:=O.1;refine bL (by omega) ?_;have a8:=Ro U m u;have f8:=(JE U m u).2;exact ⟨⟨m+1,_,V,S6,a1,rfl,c3.trans C,Y,by rw [a8.len];exact c9,by have:=a8.next;omega,by omega,b3,l⟩,by simp [intOf];omega⟩
   have f9:m=g.kids.length:=by omega
   subst f9;rw [eL,eP] at b3;rw [b3];refine ⟨fun o w'=>o=ee (if gi g=true then 12 else 11)/\Inv w [] [ei b2 M.toArray aC,B4,B6] Sm w',?_,?_⟩
   ·refine ah l 2 e6 bu aV rfl ?_;refine ah l 2 e6 az aw rfl ?_;refine aO b8 ao ?_;refine Run.callPure mZ nw l (kO _ _ Sm) fun w' l=>?_;have eb:gi g=gJ g.name g.kids.length:=by rw [gi,aD d7.2,fk]
    refine aL (fun hb=>?_) (fun hb=>?_)
    ·exact ⟨by rw [ag (by rw [eb];exact hb)],l⟩
    ·exact ⟨by rw [ae (by rw [eb,hb];decide)],l⟩
   intro o _ _ _ _ _ _ w';rintro ⟨rfl,l⟩;refine aq l 0 aH rfl (by simpa using a0) ?_;refine ah l 2 e6 az aw rfl ?_;refine aO b8 ao ?_;refine ah l 2 e6 bu aV rfl ?_;refine Vh ?_;refine Run.call0E dX dY l (dy ⟨if gi g=true then 12 else 11,g.kids.length,0,g.name⟩ c4 (by omega)) fun v' I' S2 w'=>?_;rintro ⟨rfl,a3,rfl,p⟩ a4 l;refine aj l 0 rfl aH (by simpa using p.length) (by simpa using a0) (by simpa using p.one) fun w' l=>?_;exact ⟨a3,S2,c3.trans a4,p,l.pick [true,true,false]⟩
  intro _ _ _ _ _ _ _ _ _ _ _ _ _ _ _ _ _ _ _ _ _ _ _ _ _ _ _ _ _ _ _ _ _ _ _ _ _ _ _ _ _ _ w';rintro ⟨a9,Sn,e7,e8,l⟩;refine bL (by omega) ?_;have a8:=U4 B g;have f8:=(Nt B g).2;exact ⟨⟨j+1,_,a9,Sn,a7,rfl,c2.trans e7,e8,by rw [a8.len];exact c8,by have:=a8.next;omega,by omega,b1,l⟩,by simp [intOf];omega⟩
 have g0:j=J.length:=by omega
 subst g0;rw [eL,dR] at b1;rw [b1];refine aq l 0 aH rfl (by simpa using a6) ?_;refine Ka ?_;refine Run.call0E dX dY l (dy ⟨14,0,0,emptyB⟩ b0 (by omega)) fun v' I' S2 w'=>?_;rintro ⟨rfl,a3,rfl,p⟩ a4 l;refine aj l 1 e4 aH (by simpa using p.length) rfl (by simpa using p.one) fun w' l=>?_;refine be l 1 aH rfl (by simpa using p.length) ?_;exact ⟨_,_,S2,rfl,l.nil,c2.trans a4,rfl,a3,rfl,p⟩
end
end
section
open Go Go.RowKit
theorem IV:∀ (ts:List T) (s:CS),∀ x∈(bE s ts).2,x.1∈ts
 | [],s,x,h=>by rw [bE] at h;cases h
 | t::ts,s,x,h=>by
  rw [bE] at h;rcases cU.1 h with h|h
  ·unfold cT at h;split at h
   ·rw [bM.1 h];exact bF ..
   ·cases h
  ·exact bI _ (IV ts _ x h)
section
variable {P:Program} {w w0:World} {X:List Nat} {L:List Item} {S:ai} {K:Value->World->Prop}
theorem Ti (h:Inv w0 X L S w) (i:Nat) {T ty e:TypeId} {cs:List Bool} {k n:Nat} {v:Value} {xs:nA} {Ek:TypeId × Nat} (j:L[i]?=some (.row v e k n xs)) (a:dI P T=some Ek) (hk:K (ee (n:Int)) w) :
  Run P (co .len #[T] ty cs [v]) w K:=by
 have l:w.ownsRow 0 e k v n xs:=h.its (.row v e k n xs) (f0 j);rcases l.2 with ⟨rfl,hn⟩|⟨g,cap,m,rfl,_⟩
 ·subst hn;exact iP a hk
 ·exact iP a hk
end
section
set_option maxHeartbeats 2000000 in
theorem K1 {s:CS} {ks:List T} {S:ai} {cs:List Value} {v:Value} (h:MkS S cs s) (e2:RdSl S 4 (RdT S) v ks) (ho:∀ t∈ks,okU 26 t) (hl:s.sl.length=26) (g5:0<=s.next) (j8:s.sz+16 * bo ks<=800000000) :
  Tri Tryz.prog Qd [.agg cs.toArray,v] [] S (HG (gq s ks)):=by
 intro w a;have l1:=h.length;have f4:=e2.le;simp only [maxLen] at f4;have l2:0<=s.sz:=by unfold CS.sz; omega
 have l3:=kq ks;refine BT.2 ?_;dsimp only[BT,bv];refine bH a fun b2 w' a=>?_;refine aE a fJ fun b4 w' a=>?_;refine eZ a lL fun Y w' a=>?_;obtain ⟨B4,e7⟩:∃ B4,B4=Item.blk b4 (.cells #[.slice none 0 0,.int .i64 0,.slice none 0 0] aC):=⟨_,rfl⟩
 have e4:=congrArg some e7;have a:Inv w [] [.blk b2 (.cells cs.toArray aC),B4,aB Y cY 5 []] S w':=by rw [e7]; exact a
 refine ⟨fun i Y w'=>∃ (j:Nat) (l:CS) (a5:List Value) (Sj:ai) (css:List (List Value)) (q:List (T × Int)),j<=ks.length/\i=.int .i64 j/\Ext w.heap.size [] S Sj/\MkS Sj a5 l/\l.sl.length=26/\0<=l.next/\l.sz<=s.sz+j/\q.length<=j/\(∀ x∈q,okU 26 x.1)/\bz s 0 ks=((bz l j (ks.drop j)).1,q++(bz l j (ks.drop j)).2)/\Rows 5 (RdQ Sj) css q/\
   Inv w [] [.blk b2 (.cells a5.toArray aC),B4,aB Y cY 5 css] Sj w',fun i _ _=>ks.length - (intOf i).toNat,
   ⟨0,s,cs,S,[],[],aT _,rfl,Ext.refl _ _ _,h,hl,g5,by omega,by simp,fun x hx=>by simp at hx,by rw [fe,gW]; rfl,Rows.nil _ _,a⟩,?_⟩
 intro i _ _ Y _ _ _ _ _ _ _ _ _ _ _ _ _ _ _ j9 k0 k1 k2 k3 k4 k5 k6 k7 k8 _ _ _ _ _ _ _ _ _ _ _ _ _ _ _ _ _ _ _ _ _ _ _ _ _ _ _ _ _ _ _ _ w';rintro ⟨j,l,a5,Sj,css,q,hj,rfl,c8,U,c9,g6,g7,k9,a8,hA,hR,a⟩;have c6:=e2.monoT c8.1;have c7:=U.length;refine aO c6 ao ?_;refine cd ?_;refine aJ (fun d0=>?_) (fun d0=>?_)
 ·have c1:j<ks.length:=by omega
  obtain ⟨u,hu⟩:∃ u,u=ks[j]:=⟨_,rfl⟩
  have c2:okU 26 u:=by rw [hu]; exact ho _ (cO c1)
  rw [CH ks l j j c1,<- hu] at hA;have l4:=hR.hc;have hb:l.sz<=900000000:=by omega
  have f5:l.next<=900000000/\l.code.length<=900000000:=by
   unfold CS.sz at hb;omega
  refine ⟨fun Y w'=>∃ (p:List Value) (Sn:ai) (css:List (List Value)),Ext w.heap.size [] Sj Sn/\MkS Sn p (bP l j u).1/\Rows 5 (RdQ Sn) css (q++(bP l j u).2)/\
    Inv w [] [.blk b2 (.cells p.toArray aC),B4,aB Y cY 5 css] Sn w',?_,?_⟩
  ·refine dj a c6 ao af c1 (fun _ _=>RdT.length) fun ds a3=>?_;rw [<- hu] at a3;have i3:=a3.length;refine aE a aQ fun b8 w' a=>?_;refine aj a 3 rfl af (by simpa using i3) rfl (by simpa using a3.one) fun w' a=>?_;have f6:=a3;obtain ⟨b0,rfl,_,_,_,j3⟩:=RdT.iff.1 a3;obtain ⟨B8,f0⟩:∃ B8,B8=Item.blk b8 (.cells #[.int .i64 u.kind,.int .i64 u.n,.string u.name,b0] ac):=⟨_,rfl⟩
   have e8:=congrArg some f0;have a:Inv w [] [.blk b2 (.cells a5.toArray aC),B4,aB Y cY 5 css,B8] Sj w':=by rw [f0]; exact a
   have fin:∀ (p:List Value) (Sn:ai) (V:CS) (w':World),bP l j u=(V,[])->Ext w.heap.size [] Sj Sn->MkS Sn p V->Inv w [] [.blk b2 (.cells p.toArray aC),B4,aB Y cY 5 css,B8] Sn w'->∃ (p:List Value) (Sn:ai) (css:List (List Value)),Ext w.heap.size [] Sj Sn/\MkS Sn p (bP l j u).1/\Rows 5 (RdQ Sn) css (q++(bP l j u).2)/\
     Inv w [] [.blk b2 (.cells p.toArray aC),B4,aB Y cY 5 css] Sn w':=fun p Sn V w' e Z h2 h3=>by
    rw [e];exact ⟨p,Sn,css,Z,h2,by rw [dk]; exact hR.monoR fun _ _ h=>h.mono Z.1,h3.pick [true,true,true,false]⟩
   refine ah a 3 e8 aW au rfl ?_;refine a9 ?_;refine aJ (fun h2=>?_) (fun h2=>?_)
   ·refine aq a 0 aH rfl (by simpa using c7) ?_;refine ah a 3 e8 aR au rfl ?_;refine lZ ?_;refine Run.call0E dX dY a (dy ⟨2,u.n,j,emptyB⟩ U (by omega)) fun v' I' S2 w'=>?_;rintro ⟨rfl,G,rfl,o⟩ B a;refine aj a 0 rfl aH (by simpa using o.length) (by simpa using c7) (by simpa using o.one) fun w' a=>?_;exact fin G S2 _ _ (by rw [bP,ag h2]) B o a
   refine ⟨fun q w'=>q=.bool (decide (u.kind=1/\0<=l.at_ u.n))/\Inv w [] [.blk b2 (.cells a5.toArray aC),B4,aB Y cY 5 css,B8] Sj w',?_,?_⟩
   ·refine ah a 3 e8 aW au rfl ?_;refine a9 ?_;by_cases Z:u.kind=1
    ·rw [aD Z];refine rpG ?_;obtain ⟨v1,v2,rfl,g1,g2⟩:=id U;have hv:=c2.var Z;obtain ⟨m,hm⟩:∃ m:Nat,u.n=(m:Int):=⟨u.n.toNat,by omega⟩
     have a7:m<l.sl.length:=by omega
     refine ah a 0 rfl eQ gU rfl ?_;refine ah a 3 e8 aR au rfl ?_;rw [hm,A4 a7];refine jq a g1 ff au a7 (fun cs d1=>d1) ?_;refine iK ?_;refine rpG ?_;refine ⟨?_,a⟩;simp [Z]
    ·rw [aM Z];refine rpG ?_;refine ⟨?_,a⟩;simp [Z]
   intro z _ _ _ _ _ _ _ _ _ _ _ _ w';rintro ⟨rfl,a⟩;refine aJ (fun d2=>?_) (fun d2=>?_)
   ·obtain ⟨Z,h0⟩:=d2;have e:bP l j u=(l.emit ⟨1,l.at_ u.n,j,emptyB⟩,[]):=by rw [bP,ae h2,ag Z,ag h0]
    have hv:=c2.var Z;obtain ⟨m,hm⟩:∃ m:Nat,u.n=(m:Int):=⟨u.n.toNat,by omega⟩
    have a7:m<l.sl.length:=by omega
    obtain ⟨v1,v2,rfl,g1,g2⟩:=id U;obtain ⟨bq,oq,cap,c,E,fz,rfl,h8,h9⟩:=g1.at_ a7;have i4:=A4 a7;refine ⟨fun D uL tq sT qU tw pW qN wt rp lM w_=>Fx D 0 [lM=.agg #[.slice (some ⟨bq,oq,none⟩) l.sl.length cap,.int .i64 l.next,v2],rp=.pointer (some ⟨b2,0,none⟩),wt=.slice (some ⟨bq,oq,none⟩) l.sl.length cap,qN=.pointer (some ⟨b8,1,none⟩),pW=.int .i64 (m:Int),tw=.pointer (some ⟨bq,oq+m * 1,none⟩),qU=.int .i64 (l.at_ u.n),sT=.int .i64 (j:Int),tq=.agg (Ist.cells ⟨1,l.at_ u.n,j,emptyB⟩).toArray,True,True]/\∃ n_:Nat,n_<=2/\D 9=decide (1<=n_)/\D 10=decide (2<=n_)/\(emS w [] (fun c=>[.blk b2 (.cells c aC),B4,aB Y cY 5 css,B8]) Sj #[.slice (some ⟨bq,oq,none⟩) l.sl.length cap,.int .i64 l.next,v2] (l.emit ⟨1,l.at_ u.n,j,emptyB⟩) uL w_ n_/\(D 10=true->D 0=true/\D 2=true)),⟨Fx.nil _ _,⟨0,aT _,rfl,rfl,⟨a.draw,aU⟩⟩⟩,⟨?_,?_,?_,?_,?_,?_,?_,?_,?_,?_,?_,trivial⟩,?_⟩;all_goals (intro D bp; intros; rename_i uL tq sT qU tw pW qN wt rp lM w_ e3; have M:=e3.1; obtain ⟨⟨cF,ci,cG,cD,bU,cH,cj,cR,dJ,dQ,cJ,_⟩,⟨n_,O,C,r,J⟩⟩:=e3)
    ·have dQ:D 10=false:=bA.2 fun h=>by rw [(J.2 h).1] at bp; cases bp
     obtain ⟨S5,b7,a⟩:=J.1.inv (SP r dQ);refine aq a 0 aH rfl rfl ?_;have J:=And.intro J.1 (fun (h:aF D 0 10=true)=>(⟨rfl,(J.2 h).2⟩:aF D 0 0=true/\aF D 0 2=true));exact ⟨M.set 0 rfl,⟨n_,O,C,r,J⟩⟩
    ·refine ax eQ ?_;exact ⟨M.set 1 rfl,⟨n_,O,C,r,J⟩⟩
    ·obtain rfl:=ci ‹_›;have dQ:D 10=false:=bA.2 fun h=>by rw [(J.2 h).2] at bp; cases bp
     obtain ⟨S5,b7,a⟩:=J.1.inv (SP r dQ);refine aG a 0 gU rfl rfl ?_;have J:=And.intro J.1 (fun (h:aF D 2 10=true)=>(⟨(J.2 h).1,rfl⟩:aF D 2 0=true/\aF D 2 2=true));exact ⟨M.set 2 rfl,⟨n_,O,C,r,J⟩⟩
    ·refine ax aR ?_;exact ⟨M.set 3 rfl,⟨n_,O,C,r,J⟩⟩
    ·obtain rfl:=cD ‹_›;obtain ⟨S5,c5,b7,a⟩:=J.1.any;refine aG (v:=.int .i64 (m:Int)) a 3 au e8 (by rw [<- hm]; rfl) ?_;exact ⟨M.set 4 rfl,⟨n_,O,C,r,J⟩⟩
    ·obtain rfl:=cG ‹_›;obtain rfl:=bU ‹_›;refine aN ff a7 ?_;exact ⟨M.set 5 rfl,⟨n_,O,C,r,J⟩⟩
    ·obtain rfl:=cH ‹_›;obtain ⟨S5,c5,b7,a⟩:=J.1.any;refine eD (v:=.int .i64 (l.at_ u.n)) au (by rw [a.cellS (b7 _ _ h8),hm,i4]; exact bf h9 0 _ rfl) ?_;exact ⟨M.set 6 rfl,⟨n_,O,C,r,J⟩⟩
    ·exact ⟨M.set 7 rfl,⟨n_,O,C,r,J⟩⟩
    ·obtain rfl:=cj ‹_›;obtain rfl:=cR ‹_›;refine lZ ?_;exact ⟨M.set 8 rfl,⟨n_,O,C,r,J⟩⟩
    ·obtain rfl:=cF ‹_›;obtain rfl:=dJ ‹_›;obtain rfl:n_=0:=jv C bp;refine Run.call0E dX dY J.1 (dy ⟨1,l.at_ u.n,j,emptyB⟩ U (by omega)) fun v' I' S2 w_=>?_;rintro ⟨rfl,G,rfl,o⟩ B a;have d7:emS w [] (fun c=>[.blk b2 (.cells c aC),B4,aB Y cY 5 css,B8]) Sj #[.slice (some ⟨bq,oq,none⟩) l.sl.length cap,.int .i64 l.next,v2] (l.emit ⟨1,l.at_ u.n,j,emptyB⟩) (.agg G.toArray) w_ 1:=⟨S2,G,rfl,o,B,a⟩
     exact ⟨M.set 9 (by first|assumption|trivial),⟨1,by decide,rfl,(by first|exact r|rfl),⟨d7,J.2⟩⟩⟩
    ·have Ds:=dQ ‹_›;obtain rfl:n_=1:=gg C ‹D 9=true› r bp;obtain ⟨S2,G,rfl,o,B,a⟩:=J.1;refine aj a 0 rfl aH (by simpa using o.length) rfl (by simpa using o.one) fun w_ a=>?_;have d7:emS w [] (fun c=>[.blk b2 (.cells c aC),B4,aB Y cY 5 css,B8]) Sj #[.slice (some ⟨bq,oq,none⟩) l.sl.length cap,.int .i64 l.next,v2] (l.emit ⟨1,l.at_ u.n,j,emptyB⟩) (.agg G.toArray) w_ 2:=⟨S2,G,o,B,a⟩
     exact ⟨M.set 10 trivial,⟨2,by decide,(by first|exact C|rfl),rfl,⟨d7,fun _=>⟨‹D 0=true›,‹D 2=true›⟩⟩⟩⟩
    obtain rfl:n_=2:=jD O r ‹D 10=true›;clear C r;obtain ⟨S2,G,o,B,a⟩:=J.1;exact fin G S2 _ _ e B o a
   refine ah a 3 e8 aW au rfl ?_;refine a9 ?_;obtain ⟨v1,v2,rfl,g1,g2⟩:=id U;refine aJ (fun Z=>?_) (fun Z=>?_)
   ·have hv:=c2.var Z;have h0:¬ 0<=l.at_ u.n:=fun h0=>d2 ⟨Z,h0⟩;have e:bP l j u=(l.put u.n j,[]):=by rw [bP,ae h2,ag Z,ae h0]
    refine aq a 0 aH rfl rfl ?_;refine ah a 3 e8 aR au rfl ?_;refine Run.call0E te s8 a (qw (n:=u.n) (k:=(j:Int)) U c9 (by omega)) fun v' I' S2 w'=>?_;rintro ⟨rfl,G,rfl,o⟩ B a;refine aj a 0 rfl aH (by simpa using o.length) rfl (by simpa using o.one) fun w' a=>?_;exact fin G S2 _ _ e B o a
   ·have e:bP l j u=(l,[(u,(j:Int))]):=by rw [bP,ae h2,ae Z]
    refine aq a 3 af e8 rfl ?_;refine BL ?_;refine dB (css:=css) a 2 [.int .i64 u.kind,.int .i64 u.n,.string u.name,b0,.int .i64 j] lL (by omega) (by omega) rfl rfl ?_ (by omega) (by omega) fun h7 w' a=>?_
    ·exact RdQ.one (S:=Sj) (x:=(u,(j:Int))) ⟨[.int .i64 u.kind,.int .i64 u.n,.string u.name,b0],rfl,f6⟩
    have b6:Rows 5 (RdQ Sj) (css++[[.int .i64 u.kind,.int .i64 u.n,.string u.name,b0,.int .i64 j]]) (q++[(u,(j:Int))]):=hR.snoc ⟨_,rfl,f6⟩ rfl;generalize css++[[.int .i64 u.kind,.int .i64 u.n,.string u.name,b0,.int .i64 j]]=a4 at a b6;rw [e];exact ⟨[v1,.int .i64 l.next,v2],Sj,a4,Ext.refl _ _ _,U,b6,a.pick [true,true,true,false,false]⟩
  intro Y _ _ _ _ _ _ _ _ _ _ _ _ _ _ _ _ _ _ _ _ _ _ _ _ _ _ _ _ _ _ _ _ _ _ _ _ _ _ _ _ _ _ _ _ _ _ _ _ _ _ _ _ _ w';rintro ⟨p,Sn,css,b5,a6,hR,a⟩;refine bL (by omega) ?_;have hg:=MR l j u;have hz:=(FD l j u).2;refine ⟨⟨j+1,(bP l j u).1,p,Sn,css,q++(bP l j u).2,c1,rfl,c8.trans b5,a6,by rw [hg.len]; exact c9,by have:=hg.next; omega,by omega,?_,?_,?_,hR,a⟩,by simp [intOf]; omega⟩
  ·have:(bP l j u).2.length<=1:=by
    unfold bP;split
    ·exact aT _
    ·split
     ·exact aT _
     ·exact aY _
   rw [bt]; omega
  ·intro x hx;rcases cU.1 hx with hx|hx
   ·exact a8 x hx
   ·unfold bP at hx;split at hx
    ·cases hx
    ·split at hx
     ·cases hx
     ·rw [bM.1 hx]; exact c2
  ·rw [hA,cN]; rfl
 have i5:j=ks.length:=by omega
 subst i5;rw [eL,bz,dk] at hA;have hA:bz s 0 ks=(l,q):=hA;have f7:=tM ks s 0;rw [hA] at f7;obtain ⟨d3,i0,f1,i1⟩:=f7;have d3:s.sz<=l.sz:=d3;have f1:((cQ q:Nat):Int)<=bo ks:=f1;have f8:gq s ks=fC (cQ q) l q:=by rw [gq,hA]
 rw [f8];have hB:l.sz+8 * cQ q<=800000000/\0<=l.sz:=by omega
 clear d3 i0 i1 g7 hA f8;refine ⟨fun i Y w'=>∃ (m f:Nat) (V:CS) (p:List Value) (Sn:ai) (css:List (List Value)) (N:List (T × Int)),m<=N.length/\i=.int .i64 m/\Ext w.heap.size [] S Sn/\MkS Sn p V/\V.sl.length=26/\0<=V.next/\m+cQ (N.drop m)<=cQ q/\cQ (N.drop m)<=f/\V.sz+8 * cQ (N.drop m)<=800000000+2 * (N.drop m).length/\fC (cQ q) l q=fC f V (N.drop m)/\(∀ x∈N,okU 26 x.1)/\Rows 5 (RdQ Sn) css N/\
   Inv w [] [.blk b2 (.cells p.toArray aC),B4,aB Y cY 5 css] Sn w',fun i _ _=>cQ q - (intOf i).toNat,
   ⟨0,cQ q,l,a5,Sj,css,q,aT _,rfl,c8,U,c9,g6,by rw [fe]; omega,by rw [fe]; exact aY _,by rw [fe]; omega,by rw [fe],a8,hR,a⟩,?_⟩
 intro i _ _ Y _ _ _ _ _ _ _ _ _ _ _ _ _ _ _ _ _ _ _ _ _ _ _ _ _ _ _ _ _ _ _ _ _ _ _ w';rintro ⟨m,f,V,p,Sn,css,N,hm,rfl,b5,a6,g8,g9,h4,hf,h5,a1,a8,hR,a⟩;have a0:=a6.length;have l5:=hR.hc;have l6:=jg (N.drop m);have l7:(N.drop m).length=N.length - m:=mj ..;refine Ti a 2 rfl Ck ?_;refine cd ?_;refine aJ (fun d0=>?_) (fun d0=>?_)
 ·have c3:m<css.length:=by omega
  have d9:m<N.length:=by omega
  obtain ⟨x,hx⟩:∃ x,x=N[m]:=⟨_,rfl⟩
  obtain ⟨q2,d4⟩:∃ q2,q2=N.drop (m+1):=⟨_,rfl⟩
  have hd:N.drop m=x::q2:=by rw [hx,d4,ef d9]
  rw [hd,cQ] at h4 hf;rw [hd,cQ,aP] at h5;rw [hd] at a1;have f9:okU 26 x.1:=by rw [hx]; exact a8 _ (cO d9)
  have e0:RdQ Sn css[m] x:=by rw [hx]; exact hR.hR m d9 c3
  have g0:=hR.hk _ (cO c3);obtain ⟨g,cap,rfl,b1⟩:=a.rowPtr (i:=2) rfl c3 hR.hk;obtain ⟨cm,i2⟩:∃ cm,cm=css[m]:=⟨_,rfl⟩
  rw [<- i2] at e0 g0 b1;obtain ⟨ds,d1,a3⟩:=id e0;obtain ⟨kx,f2,_,_,_,d6⟩:=RdT.iff.1 a3;subst f2;subst d1;have i6:=d6.le;simp only [maxLen] at i6;have l8:(bR x.1).toNat=1+(bo x.1.kids).toNat:=by
   have:=ch x.1.kids;obtain ⟨x1,x2⟩:=x;cases x1;simp only [bR,T.kids] at this ⊢;omega
  have l9:=ch x.1.kids;have j4:=kq x.1.kids;have j5:=jg q2;have j6:q2.length=N.length - (m+1):=by rw [d4,mj]
  have f5:V.next<=810000000/\V.code.length<=810000000:=by
   have hb:V.sz<=810000000:=by omega
   unfold CS.sz at hb;omega
  obtain ⟨f,rfl⟩:∃ g,f=g+1:=⟨f - 1,by omega⟩
  rw [fC] at a1;obtain ⟨se,b3⟩:∃ se,se=V.emit ⟨3,x.1.kids.length,x.2,x.1.name⟩:=⟨_,rfl⟩
  have m0:se.sz=V.sz+1:=by rw [b3,fI]
  have g3:se.sl.length=26:=by rw [b3]; exact g8
  have i7:0<=se.next:=by rw [b3]; exact g9
  rw [<- b3] at a1;have i8:=(yT x.1.kids se).2;have i9:=qF x.1.kids se;have j0:=tP x.1.kids se;have e1:=EN x.1.kids se;have g4:=IV x.1.kids se;refine aN Ck c3 ?_;refine eE (cs:=[.int .i64 x.1.kind,.int .i64 x.1.n,.string x.1.name,kx]++[.int .i64 x.2]) Ez g0 (fun f v hf=>by rw [cS]; exact b1 f v hf) ?_;refine aE a Qf fun b9 w' a=>?_;refine aj a 3 rfl Ez rfl rfl (by simpa using e0.one) fun w' a=>?_;obtain ⟨B9,f3⟩:∃ B9,B9=Item.blk b9 (.cells #[.int .i64 x.1.kind,.int .i64 x.1.n,.string x.1.name,kx,.int .i64 x.2] cY):=⟨_,rfl⟩
  have e9:=congrArg some f3;have a:Inv w [] [.blk b2 (.cells p.toArray aC),B4,aB (.slice (some ⟨g,0,none⟩) css.length cap) cY 5 css,B9] Sn w':=by rw [f3]; exact a
  refine aq a 0 aH rfl (by simpa using a0) ?_;refine ax qC ?_;refine ax az ?_;refine aG a 3 aw e9 rfl ?_;refine aO d6 ao ?_;refine ah a 3 e9 Lf au rfl ?_;refine ax qC ?_;refine ax bu ?_;refine aG a 3 aV e9 rfl ?_;refine Lu ?_;refine Run.call0E dX dY a (dy ⟨3,x.1.kids.length,x.2,x.1.name⟩ a6 (by omega)) fun v' I' S2 w'=>?_;rintro ⟨rfl,G,rfl,o⟩ B a;rw [<- b3] at o;refine aj a 0 rfl aH (by simpa using o.length) (by simpa using a0) (by simpa using o.one) fun w' a=>?_;refine aq a 0 aH rfl (by simpa using o.length) ?_;refine ax qC ?_;refine ax az ?_;refine aG a 3 aw e9 rfl ?_;refine Run.call0E Bq CM a (zC o (d6.monoT B.1) (iQ f9.kids) g3 i7 (by omega)) fun v' I' S3 w'=>?_;rintro ⟨rfl,h6,lu,rfl,a2,e5⟩ e6 a;refine aA rfl ?_;refine aA rfl ?_;refine aE a fJ fun l0 w' a=>?_;refine aj a 4 rfl aH (by simpa using a2.length) rfl (by simpa using a2.one) fun w' a=>?_;refine aq a 4 aH rfl (by simpa using a2.length) ?_;refine aj a 0 rfl aH (by simpa using a2.length) (by simpa using o.length) (by simpa using a2.one) fun w' a=>?_;obtain ⟨A,hA⟩:∃ A,A=bE se x.1.kids:=⟨_,rfl⟩
  rw [<- hA] at a1 i8 i9 j0 e1 g4 e5 a2;have j7:=jg A.2;refine ge (css:=css) a 2 lL (by omega) rfl e5 (fun _ _ h=>h.length) (fun _ _ h=>h.one) (by omega) (by omega) fun h7 w' a4 b6 a=>?_;refine bL (by omega) ?_;have j1:Rows 5 (RdQ S3) (css++a4) (N++A.2):=(hR.monoR fun _ _ h=>(h.mono B.1).mono e6.1).append b6;have c4:(N++A.2).drop (m+1)=q2++A.2:=by rw [d4,Q0 (by omega)]
  refine ⟨⟨m+1,f,A.1,h6,S3,css++a4,N++A.2,by rw [bt]; omega,rfl,(b5.trans B).trans e6,a2,by rw [e1.len]; exact g3,by have:=e1.next; omega,?_,?_,?_,?_,?_,j1,a.pick [true,true,true,false,false]⟩,by simp [intOf]; omega⟩
  ·rw [c4,fS]; omega
  ·rw [c4,fS]; omega
  ·rw [c4,fS,bt]; omega
  ·rw [c4]; exact a1
  ·intro y hy;rcases cU.1 hy with hy|hy
   ·exact a8 y hy
   ·exact iQ f9.kids _ (g4 y hy)
 have j2:m=N.length:=by omega
 subst j2;have e:fC f V []=V:=by cases f <;> rfl
 rw [eL,e] at a1;rw [a1];refine aq a 0 aH rfl (by simpa using a0) ?_;refine aj a 1 e4 aH (by simpa using a0) rfl (by simpa using a6.one) fun w' a=>?_;refine be a 1 aH rfl (by simpa using a0) ?_;exact ⟨_,_,Sn,rfl,a.nil,b5,rfl,p,rfl,a6⟩
end
end
section
open Go Go.RowKit
theorem LX (s:CS) (ks:List T):(gq s ks).sz<=s.sz+ks.length+8 * bo ks:=by
 have a:=tM ks s 0;have g:=(Q5 (cQ (bz s 0 ks).2) (bz s 0 ks).1 (bz s 0 ks).2).2;rw [gq];omega
theorem FB {c:C} (h:aZ c=true):bo c.head.kids<=120/\bo c.body<=720:=by
 rw [aZ] at h;simp only [bQ,fF,bK] at h;have v1:bY c.head=true:=h.2.2.1;have v2:∀ t∈c.body,bY t=true:=fun t a=>by
  have:=h.2.1 t a;rw [fa,bQ] at this;exact this.1
 have j:bR c.head<=120:=by rw [bY,bQ,bK] at v1;exact v1.2
 have l:=wS v2;have g:c.body.length<=6:=h.1;have i:bR c.head=1+bo c.head.kids:=by cases c.head;rw [bR];rfl
 omega
def F8 (P:Program) (T:TypeId) (f d:Nat):Bool:=match P.underlying T with
 | some (.struct fs)=>match fs[f]? with
  | some fd=>Nat.beq fd.offset d && kA P fd.type
  | none=>false
 | _=>false
def IsM (S:ai) (v:Value) (s:CS):Prop:=∃ cs:List Value,v=.agg cs.toArray/\MkS S cs s
theorem IsM.mono {S S':ai} {v:Value} {s:CS} (h:IsM S v s) (a:Sle S S'):IsM S' v s:=by
 obtain ⟨cs,e,g⟩:=h;exact ⟨cs,e,g.mono a⟩
theorem VG (n:Nat):Rows 1 kH (List.replicate n [Value.int .i64 (-1)]) (List.replicate n (-1)):=
 ⟨by simp,fun c hc=>by rw [List.eq_of_mem_replicate hc];rfl,fun i a g=>by simp [kH]⟩
section
theorem SS {w:World} {K:Value->World->Prop} {k:Int} (hk:K (.agg #[nx,ee k,nx]) w):Run Tryz.prog (cr aC [(1,ee k)]) w K:=by
 refine Run.of (v:=.agg #[nx,ee k,nx]) (w':=w) ?_ hk;unfold cr;rw [Sem.run_bind,run_build w aC _ #[nx,ee k,nx] (by kernel_rfl),Result.andThen_ok];rfl
theorem Hg {S:ai}:nB Nj [] [] S (HG startC):=by
 intro w a;refine xA.2 ?_;dsimp only[xA,nR];refine aE a fJ fun h w' a=>?_;refine SS ?_;refine aE a fJ fun l w' a=>?_;refine aj a 1 rfl aH rfl rfl (by simp [Value.oneCell']) fun w' a=>?_;have a:=a.rowNil bV 1;have a:Inv w [] [ei h #[nx,ee 0,nx] aC,ei l #[nx,ee 4,nx] aC,aB (nx) bV 1 (List.replicate 0 [Value.int .i64 (-1)])] S w':=a;refine ⟨fun i w'=>∃ (j:Nat) (v:Value),j<=26/\i=ee j/\Inv w [] [ei h #[nx,ee 0,nx] aC,ei l #[v,ee 4,nx] aC,aB v bV 1 (List.replicate j [Value.int .i64 (-1)])] S w',fun i _=>26 - (intOf i).toNat,⟨0,_,by omega,rfl,a⟩,?_⟩;intro i _ _ _ _ _ _ _ _ _ w';rintro ⟨j,v,t,rfl,a⟩;refine jK ?_;refine aJ (fun m=>?_) (fun m=>?_)
 ·refine ah a 1 rfl eQ gU rfl ?_;refine vy (css:=List.replicate j [Value.int .i64 (-1)]) a 2 iX rfl rfl rfl (by rw [Bf];omega) (by omega) fun v2 w' a=>?_;rw [show List.replicate j [Value.int .i64 (-1)]++[[Value.int .i64 (-1)]]=List.replicate (j+1) [Value.int .i64 (-1)] from List.replicate_succ'.symm] at a;have a:Inv w [] [ei h #[nx,ee 0,nx] aC,ei l #[v,ee 4,nx] aC,aB v2 bV 1 (List.replicate (j+1) [Value.int .i64 (-1)])] S w':=a.pick [true,true,true,false];have g:=fP (a.its (aB v2 bV 1 (List.replicate (j+1) [Value.int .i64 (-1)])) (by simp));refine cq a 1 rfl eQ gU rfl g.1 g.2 fun w' a=>?_;refine bL (by omega) ?_;exact ⟨⟨j+1,v2,by omega,rfl,a⟩,by simp [intOf];omega⟩
 have q:j=26:=by omega
 subst q;have g:=fP (a.its (aB v bV 1 (List.replicate 26 [Value.int .i64 (-1)])) (by simp));refine aq a 1 aH rfl rfl ?_;refine aj a 0 rfl aH rfl rfl (fun u r=>by
  simp only [dK,vR,vY] at r;rcases r with rfl|rfl|rfl
  ·exact g.2
  ·rfl
  ·rfl) fun w' a=>?_
 refine be a 0 aH rfl rfl ?_;have a:Inv w [] ([ei h #[v,ee 4,nx] aC,ei l #[v,ee 4,nx] aC]++[aB v bV 1 (List.replicate 26 [Value.int .i64 (-1)])]) S w':=a;obtain ⟨S3,o,p,a⟩:=a.lendExt;exact ⟨_,_,S3,rfl,a.nil,o,rfl,[v,ee 4,nx],rfl,_,_,rfl,RowRd.rows (VG 26) p,⟨none,0,rfl,aY _,aT _,.inl rfl⟩⟩
theorem UB {P:Program} {w:World} {K:Value->World->Prop} {T ty:TypeId} {f d:Nat} {cs:Array Value} {x:Value} (h:F8 P T f d=true) (a:cs[d]?=some x) (hk:K x w):Run P (sOp (.field T (.const (.agg cs)) f) ty) w K:=by
 refine Run.of (v:=x) (w':=w) ?_ hk;unfold F8 at h;split at h
 ·rename_i l g
  split at h
  ·rename_i m hf
   rw [bQ] at h;have i:=Ey h.1;have j:=(tF (w:=w) h.2).1;rw [<- i] at a;simp [sOp,execOp,ev0,evE,Instr.field,run_underlying g,hf,Go.part,asAgg,j,a]
  ·cases h
 ·cases h
theorem XX:F8 Tryz.prog aC 2 2=true:=by kernel_rfl
theorem R7 {w:World} {K:Value->World->Prop} {ty:TypeId} {v1 v2 a:Value} (hk:K a w):Run Tryz.prog (sOp (.field aC (.const (.agg #[v1,v2,a])) 2) ty) w K:=by
 exact UB XX rfl hk
theorem sv {c:C} {S:ai} {cs:nA} (h:RdC S cs c) (hv:aZ c=true):nB Ks [.agg cs.toArray] [] S fun r I' S'=>I'=[]/\RdSl S' 4 (cZ S') r (dV c):=by
 intro w g;obtain ⟨o1,o2,_⟩:=jx hv;obtain ⟨k1,k2,k3⟩:=eU hv;obtain ⟨c1,c2⟩:=FB hv;have a6:=ch c.head.kids;obtain ⟨Y,a0⟩:∃ Y,Y=gq startC c.head.kids:=⟨_,rfl⟩
 obtain ⟨o,a3⟩:∃ o,o=(dR Y c.body).emit ⟨14,0,0,emptyB⟩:=⟨_,rfl⟩
 have a1:dV c=o.code:=by rw [dV,a3,a0]
 rw [a1];have a7:startC.sz=4:=rfl;have hz:=LX startC c.head.kids;have hg:=UP startC c.head.kids;rw [<- a0] at hz hg;have a4:Y.sl.length=26:=by rw [hg.len];rfl
 have a5:0<=Y.next:=RZ (by decide) hg.next;obtain ⟨hd,kb,rfl,h1,h2⟩:=h;obtain ⟨kv,rfl,_,_,_,h3⟩:=RdT.iff.1 h1;obtain ⟨ka,N,rfl,_⟩:=id h3;obtain ⟨ba,O,rfl,_⟩:=id h2;refine uI.2 ?_;dsimp only[uI,bd];refine bH g fun b1 w' g=>?_;have g:Inv w [] [ei b1 #[ee c.head.kind,ee c.head.n,.string c.head.name,.slice ka c.head.kids.length N,.slice ba c.body.length O] ad] S w':=g;refine ⟨fun D x2 my ux x9 x8 x7 x6 x5 x4 x3 w_=>Fx D 0 [True,x4=hV b1,x5=kh b1 3,x6=.slice ka c.head.kids.length N,True,x8=kh b1 4,x9=.slice ba c.body.length O,True,True,True]/\∃ S2,Ext w.heap.size [] S S2/\(D 0=true->IsM S2 x3 startC)/\(D 4=true->IsM S2 x7 Y)/\(D 7=true->IsM S2 ux o)/\(D 8=true->RdSl S2 4 (cZ S2) my o.code)/\(D 9=true->RdSl S2 4 (cZ S2) x2 o.code)/\Inv w [] [ei b1 #[ee c.head.kind,ee c.head.n,.string c.head.name,.slice ka c.head.kids.length N,.slice ba c.body.length O] ad] S2 w_,⟨Fx.nil _ _,⟨S,Ext.refl _ _ _,aU,aU,aU,aU,aU,g.draw⟩⟩,⟨?_,?_,?_,?_,?_,?_,?_,?_,?_,?_,trivial⟩,?_⟩;all_goals (intro D bp;intros;rename_i x2 my ux x9 x8 x7 x6 x5 x4 x3 w_ a2;have i:=a2.1;obtain ⟨⟨cF,ci,cG,cD,bU,cH,cj,cR,dJ,dQ,_⟩,⟨S2,j,p,q,B,l,m,g⟩⟩:=a2)
 ·refine Run.call0E Jo Lv g Hg fun v' I' S3 w_=>?_;rintro ⟨rfl,G,rfl,J⟩ a g;have p:aF D 0 0=true->IsM S3 (.agg G.toArray) startC:=fun _=>⟨G,rfl,J⟩
  have q:aF D 0 4=true->IsM S3 x7 Y:=fun h=>(q h).mono a.1;have B:aF D 0 7=true->IsM S3 ux o:=fun h=>(B h).mono a.1;have l:aF D 0 8=true->RdSl S3 4 (cZ S3) my o.code:=fun h=>(l h).monoK a.1;have m:aF D 0 9=true->RdSl S3 4 (cZ S3) x2 o.code:=fun h=>(m h).monoK a.1;have j:=j.trans a;obtain ⟨S2,U⟩:∃ x,x=S3:=⟨_,rfl⟩
  subst U;exact ⟨i.set 0 (by first|assumption|trivial),⟨S2,j,p,q,B,l,m,g⟩⟩
 ·refine ax cV ?_;exact ⟨i.set 1 rfl,⟨S2,j,p,q,B,l,m,g⟩⟩
 ·obtain rfl:=ci ‹_›;refine ax az ?_;exact ⟨i.set 2 rfl,⟨S2,j,p,q,B,l,m,g⟩⟩
 ·obtain rfl:=cG ‹_›;refine aG g 0 aw rfl rfl ?_;exact ⟨i.set 3 rfl,⟨S2,j,p,q,B,l,m,g⟩⟩
 ·have Tn:=cF ‹_›;obtain rfl:=cD ‹_›;obtain ⟨G,V,J⟩:=p ‹D 0=true›;rw [V] at p ⊢;refine Run.call0E NQ LS g (K1 J (h3.monoT j.1) (iQ o1.kids) rfl (by decide) (by omega)) fun v' I' S3 w_=>?_;rw [<- a0];rintro ⟨rfl,M,rfl,Z⟩ a g;have p:aF D 4 0=true->IsM S3 (.agg G.toArray) startC:=fun h=>(p h).mono a.1;have q:aF D 4 4=true->IsM S3 (.agg M.toArray) Y:=fun _=>⟨M,rfl,Z⟩
  have B:aF D 4 7=true->IsM S3 ux o:=fun h=>(B h).mono a.1;have l:aF D 4 8=true->RdSl S3 4 (cZ S3) my o.code:=fun h=>(l h).monoK a.1;have m:aF D 4 9=true->RdSl S3 4 (cZ S3) x2 o.code:=fun h=>(m h).monoK a.1;have j:=j.trans a;obtain ⟨S2,U⟩:∃ x,x=S3:=⟨_,rfl⟩
  subst U;exact ⟨i.set 4 (by first|assumption|trivial),⟨S2,j,p,q,B,l,m,g⟩⟩
 ·refine ax bS ?_;exact ⟨i.set 5 rfl,⟨S2,j,p,q,B,l,m,g⟩⟩
 ·obtain rfl:=cH ‹_›;refine aG g 0 aw rfl rfl ?_;exact ⟨i.set 6 rfl,⟨S2,j,p,q,B,l,m,g⟩⟩
 ·have Dr:=bU ‹_›;obtain rfl:=cj ‹_›;obtain ⟨G,V,J⟩:=q ‹D 4=true›;rw [V] at q ⊢;refine Run.call0E JB Jz g (Hw J (h2.monoT j.1) (fun t ht=>⟨o2 t ht,k1 t ht⟩) a4 a5 (by omega)) fun v' I' S3 w_=>?_;rw [<- a3];rintro ⟨rfl,M,rfl,Z⟩ a g;have p:aF D 7 0=true->IsM S3 x3 startC:=fun h=>(p h).mono a.1;have q:aF D 7 4=true->IsM S3 (.agg G.toArray) Y:=fun h=>(q h).mono a.1;have B:aF D 7 7=true->IsM S3 (.agg M.toArray) o:=fun _=>⟨M,rfl,Z⟩
  have l:aF D 7 8=true->RdSl S3 4 (cZ S3) my o.code:=fun h=>(l h).monoK a.1;have m:aF D 7 9=true->RdSl S3 4 (cZ S3) x2 o.code:=fun h=>(m h).monoK a.1;have j:=j.trans a;obtain ⟨S2,U⟩:∃ x,x=S3:=⟨_,rfl⟩
  subst U;exact ⟨i.set 7 (by first|assumption|trivial),⟨S2,j,p,q,B,l,m,g⟩⟩
 ·have Ch:=cR ‹_›;obtain ⟨G,V,J⟩:=B ‹D 7=true›;obtain ⟨v1,v2,rfl,q1,q2⟩:=id J;rw [V] at B ⊢;refine R7 ?_;have l:aF D 8 8=true->RdSl S2 4 (cZ S2) v2 o.code:=fun _=>q2;exact ⟨i.set 8 (by first|assumption|trivial),⟨S2,j,p,q,B,l,m,g⟩⟩
 ·have z4:=dJ ‹_›;have m:aF D 9 9=true->RdSl S2 4 (cZ S2) my o.code:=fun _=>l ‹D 8=true›;exact ⟨i.set 9 (by first|assumption|trivial),⟨S2,j,p,q,B,l,m,g⟩⟩
 obtain ⟨Tn,rfl,rfl,rfl,Dr,rfl,rfl,Ch,z4,Ds,_⟩:=i.all;clear i cF ci cG cD bU cH cj cR dJ dQ;exact ⟨_,_,S2,rfl,g.nil,j,rfl,m (by assumption)⟩
theorem lA {c:C} {S:ai} {cs:nA} (h:RdC S cs c) (o:wC c<=1048576):nB xU [.agg cs.toArray] [] S fun r I' S'=>I'=[]/\∃ v,r=.tuple #[v,.bool (aZ c)]/\RdSl S' 4 (cZ S') v (if aZ c=true then dV c else []):=by
 intro w a;have l:=h.length;refine nz.2 ?_;dsimp only[nz,bd];refine bH a fun m w' a=>?_;have a:Inv w [] [ei m cs.toArray ad] S w':=a;refine aq a 0 aK rfl (by simpa using l) ?_;refine Run.callPure oS pF a (mS h o) fun w' a=>?_;refine c8 ?_;refine aL (fun g=>?_) (fun g=>?_)
 ·have g:aZ c=false:=by simpa using g
  refine eZ a gS fun v w' a=>?_;have a:Inv w [] ([ei m cs.toArray ad]++[aB v ay 4 []]) S w':=a;obtain ⟨S3,j,i,a⟩:=a.lendExt;rw [g];exact ⟨_,_,S3,rfl,a.nil,j,rfl,v,rfl,RowRd.rows (Rows.nil _ _) i⟩
 ·have g:aZ c=true:=by simpa using g
  refine aq a 0 aK rfl (by simpa using l) ?_;refine Run.call0E vd uM a (sv h g) fun v' I' S3 w'=>?_;rintro ⟨rfl,i⟩ j a;rw [g];exact ⟨_,_,S3,rfl,a.nil,j,rfl,v',rfl,i⟩
end
end
section
open Go Go.RowKit
theorem Sk (S:ai) (s:CS):Rows 4 (cZ S) (oy s) s.code:=by
 refine ⟨xR s,fun c hc=>?_,fun i a g=>?_⟩
 ·unfold oy at hc;obtain ⟨x,_,rfl⟩:=ob.1 hc;rfl
 ·simp [oy,cZ]
theorem Vc:SlM #[] startC:=by
 refine ⟨fun e g=>by simp at g,fun n _ _ a=>?_⟩;exfalso;unfold CS.at_ startC at a;simp only [LK] at a;split at a <;> simp at a
theorem Ww {c:C} (h:aZ c=true):Wf (gq startC c.head.kids):=by
 obtain ⟨a,l⟩:=jE h;obtain ⟨m,o,p⟩:=eU h;have j:(0:Int)+c.head.kids.length<=startC.next:=by show (0:Int)+c.head.kids.length<=4;omega
 obtain ⟨g,i,q⟩:=lP c.head.kids ji (fT _) j a.kids;exact (qr (cQ (bz startC 0 c.head.kids).2) g.wf i).wf
section
theorem SC {w:World} {K:Value->World->Prop} {m:Nat} {k:Int} (hk:K (.agg #[.map (some m),ee k,nx]) w):Run Tryz.prog (cr iW [(0,.map (some m)),(1,ee k)]) w K:=by
 refine Run.of (v:=.agg #[.map (some m),ee k,nx]) (w':=w) ?_ hk;unfold cr;rw [Sem.run_bind,run_build w iW _ #[.map (some m),ee k,nx] (by kernel_rfl),Result.andThen_ok];rfl
theorem C9 {S:ai}:nB HD [] [] S fun r I' S'=>S'=S/\∃ h g,r=hV h/\I'=d6 h g #[] 0 startC (nx):=by
 intro w a;refine ti.2 ?_;dsimp only[ti,nR];refine pp a fun g w' a=>?_;refine SC ?_;refine bH a fun h w' a=>?_;have a:=a.rowNil ay 4;have a:Inv w [] ([.blk g (.map #[] 0)]++[ei h #[.map (some g),ee 4,nx] iW]++[aB (nx) ay 4 (oy startC)]) S w':=a;have a:Inv w [] (d6 h g #[] 0 startC (nx)) S w':=a.perm (bD (l₁:=[_]) (l₂:=[_]) |>.append_right _);exact ⟨_,_,S,rfl,a,Ext.refl _ _ _,rfl,h,g,rfl,rfl⟩
theorem mg {c:C} {S:ai} {cs:nA} (h:RdC S cs c) (p:aZ c=true):nB wR [.agg cs.toArray] [] S fun r I' S'=>I'=[]/\RdSl S' 4 (cZ S') r (dV c):=by
 intro w a;obtain ⟨k1,k2,k3⟩:=eU p;obtain ⟨c1,c2⟩:=FB p;obtain ⟨V,Y⟩:=jE p;have a0:=ch c.head.kids;have a1:startC.sz=4:=rfl;have hz:=LX startC c.head.kids;have o:=Ww p;obtain ⟨q,g⟩:∃ q,q=gq startC c.head.kids:=⟨_,rfl⟩
 obtain ⟨j,m⟩:∃ j,j=(dR q c.body).emit ⟨14,0,0,emptyB⟩:=⟨_,rfl⟩
 have i:dV c=j.code:=by rw [dV,m,g]
 rw [i];rw [<- g] at hz o;obtain ⟨hd,N,rfl,Z,h2⟩:=h;obtain ⟨kv,rfl,_,_,_,h3⟩:=RdT.iff.1 Z;refine mQ.2 ?_;dsimp only[mQ,bd];refine bH a fun M w' a=>?_;have a:Inv w [] [ei M #[ee c.head.kind,ee c.head.n,.string c.head.name,kv,N] ad] S w':=a;refine Run.call0 ES Gl a C9 fun v' I' S' w'=>?_;rintro ⟨l,O,D,rfl,rfl⟩ _ a;rw [l] at a;refine ax cV ?_;refine ax az ?_;refine aG a 0 aw rfl rfl ?_;refine Run.call A5 Av a (La h3 ji Vc V.kids (by omega) (by show (c.head.kids.length:Int)<=4;omega)) fun v' I' S' w'=>?_;rw [<- g];rintro ⟨l,G,J,cv,rfl,U⟩ _ a;rw [l] at a;refine ax bS ?_;refine aG a 0 aw rfl rfl ?_;refine Run.call Aw zY a (K5 h2 o U Y (by omega)) fun v' I' S' w'=>?_;rw [<- m];rintro ⟨l,G,J,rfl⟩ _ a;rw [l] at a;have a:Inv w [] ([ei M #[ee c.head.kind,ee c.head.n,.string c.head.name,kv,N] ad,ei O #[.map (some D),ee j.next,v'] iW,.blk D (.map G J)]++[aB v' ay 4 (oy j)]) S w':=a;obtain ⟨S3,t,B,a⟩:=a.lendExt;exact ⟨_,_,S3,rfl,a.nil,t,rfl,RowRd.rows (Sk S3 j) B⟩
theorem lC {c:C} {S:ai} {cs:nA} (h:RdC S cs c):nB xF [.agg cs.toArray] [] S fun r I' S'=>I'=[]/\∃ v,r=.tuple #[v,.bool (aZ c)]/\RdSl S' 4 (cZ S') v (if aZ c=true then dV c else []):=by
 intro w a;have i:=h.length;refine mW.2 ?_;dsimp only[mW,bd];refine bH a fun m w' a=>?_;have a:Inv w [] [ei m cs.toArray ad] S w':=a;refine aq a 0 aK rfl (by simpa using i) ?_;refine Run.callPure kL kW a (jC h) fun w' a=>?_;refine c8 ?_;refine aL (fun g=>?_) (fun g=>?_)
 ·have g:aZ c=false:=by simpa using g
  rw [g];exact ⟨_,_,S,rfl,a.nil,Ext.refl _ _ _,rfl,_,rfl,⟨none,0,rfl,aY _,aT _,.inl rfl⟩⟩
 ·have g:aZ c=true:=by simpa using g
  refine aq a 0 aK rfl (by simpa using i) ?_;refine Run.call0E mT mI a (mg h g) fun v' I' S3 w'=>?_;rintro ⟨rfl,j⟩ l a;rw [g];exact ⟨_,_,S3,rfl,a.nil,l,rfl,v',rfl,j⟩
end
end
section
open Go Go.RowKit
section
variable {S:ai} {ys:List Nat} {v:Value}
end
end
section
open Go Go.RowKit
section
variable {S:ai} {ys:List Nat} {v:Value}
end
end
section
open Go Go.RowKit
theorem Cv:Tryz.prog.underlying ay=some (.struct (Tryz.prog.fieldsOf ay)):=by kernel_rfl
theorem H6:Tryz.prog.stoodInHeld ay=false:=by kernel_rfl
theorem F2:Tryz.prog.eqGuardType Tryz.prog.depth ay=false:=by kernel_rfl
theorem Q8 {w:World} (x:Ist) :
  (Op.equalIn 10000 ay (.agg x.cells.toArray) (.agg x.cells.toArray)).run Tryz.prog w=.ok true w:=by
 obtain ⟨a,b,c,s⟩:=x;rw [show (10000:Nat)=9999+1 from rfl,run_equalIn_struct w 9999 ay _ _ Cv H6];have hf:(Tryz.prog.fieldsOf ay).toList=[(Tryz.prog.fieldsOf ay)[0]!,(Tryz.prog.fieldsOf ay)[1]!,(Tryz.prog.fieldsOf ay)[2]!,(Tryz.prog.fieldsOf ay)[3]!]:=by kernel_rfl
 have h:((Tryz.prog.fieldsOf ay)[0]!).type=bV:=by kernel_rfl
 have i:((Tryz.prog.fieldsOf ay)[1]!).type=bV:=by kernel_rfl
 have j:((Tryz.prog.fieldsOf ay)[2]!).type=bV:=by kernel_rfl
 have l:((Tryz.prog.fieldsOf ay)[3]!).type=fx:=by kernel_rfl
 have m:((Tryz.prog.fieldsOf ay)[0]!).offset=0:=by kernel_rfl
 have o:((Tryz.prog.fieldsOf ay)[1]!).offset=1:=by kernel_rfl
 have p:((Tryz.prog.fieldsOf ay)[2]!).offset=2:=by kernel_rfl
 have q:((Tryz.prog.fieldsOf ay)[3]!).offset=3:=by kernel_rfl
 have r:((Tryz.prog.fieldsOf ay)[0]!).name≠"_" := by decide +kernel
 have t:((Tryz.prog.fieldsOf ay)[1]!).name≠"_" := by decide +kernel
 have B:((Tryz.prog.fieldsOf ay)[2]!).name≠"_" := by decide +kernel
 have C:((Tryz.prog.fieldsOf ay)[3]!).name≠"_" := by decide +kernel
 rw [hf];have D:(Op.equalIn (9998+1) fx (.string s) (.string s)).run Tryz.prog w=.ok true w:=by
  rw [run_equalIn_string w 9998 fx s s bm,zI,aD rfl]
 have g:∀ n:Int,(Op.equalIn (9998+1) bV (ee n) (ee n)).run Tryz.prog w=.ok true w:=fun n=>by
  rw [run_equalIn_int w 9998 bV .i64 .i64 n n dS];simp
 rw [show (9999:Nat)=9998+1 from rfl];generalize G:(Tryz.prog.fieldsOf ay)[0]! = g0 at *;generalize J:(Tryz.prog.fieldsOf ay)[1]! = g1 at *;generalize M:(Tryz.prog.fieldsOf ay)[2]! = g2 at *;generalize N:(Tryz.prog.fieldsOf ay)[3]! = g3 at *;simp only [Op.eqFields,r,t,B,C,ne_eq,not_false_eq_true,if_true,Sem.run_bind,h,i,j,l,m,o,p,q];rw [eJ au (v:=ee a) rfl,Result.andThen_ok,eJ au (v:=ee a) rfl,Result.andThen_ok,g,Result.andThen_ok];simp only [Ih,ta,if_false,Sem.run_bind];rw [eJ au (v:=ee b) rfl,Result.andThen_ok,eJ au (v:=ee b) rfl,Result.andThen_ok,g,Result.andThen_ok];simp only [Ih,ta,if_false,Sem.run_bind];rw [eJ au (v:=ee c) rfl,Result.andThen_ok,eJ au (v:=ee c) rfl,Result.andThen_ok,g,Result.andThen_ok];simp only [Ih,ta,if_false,Sem.run_bind];rw [eJ aV (v:=.string s) rfl,Result.andThen_ok,eJ aV (v:=.string s) rfl,Result.andThen_ok,D,Result.andThen_ok];rfl
section
variable {w w0:World} {X:List Nat} {L:List Item} {S:ai} {K:Value->World->Prop} {ys:List Nat} {v:Value}
theorem Va {a g:Bool} (x:Ist):(el .neq ay a g (.agg x.cells.toArray) (.agg x.cells.toArray)).run Tryz.prog w=.ok (.value (.bool false)) w:=by
 unfold el;have e:(binOp .neq ay (.agg x.cells.toArray) (.agg x.cells.toArray)).run Tryz.prog w=.ok (.bool false) w:=by
  have h:=Q8 (w:=w) x;simp only [binOp,Op.equal,Op.maxDepth,Sem.run_bind];rw [h];rfl
 rw [Sem.run_bind,run_eqGuard_agg w .neq ay _ _ _ _ F2,Result.andThen_ok,Sem.run_bind,e,Result.andThen_ok];rfl
theorem xz {l:List Ist} {u v:Value} (h:RdSl S 4 (cZ S) u l) (g:RdSl S 4 (cZ S) v l):ru PK [u,v] S (.bool true):=by
 intro w m;have B:=h.le;simp only [maxLen] at B;refine BD.2 ?_;dsimp only[BD,bv];refine aO h bx ?_;refine aO g bx ?_;refine jN ?_;refine aL (fun C=>by simp at C) (fun _=>?_);refine ⟨fun i w'=>∃ k:Nat,k<=l.length/\i=ee k/\Inv w [] [] S w',fun i _=>l.length - (intOf i).toNat,⟨0,aT _,rfl,m⟩,?_⟩;intro i _ _ _ a0 a1 a2 a3 a4 a5 a6 a7 a8 _ _ _ _ w';rintro ⟨k,hk,rfl,m⟩;refine aO h bx ?_;refine cd ?_;refine aJ (fun G=>?_) (fun G=>done m rfl);have p:k<l.length:=by omega
 obtain ⟨b,o,cap,c,E,fz,rfl,hS,hR⟩:=h.at_ p;have O:bJ c (o+k * 4) 4=l[k].cells:=hR;obtain ⟨b2,M,t,c2,E2,a9,rfl,N,q⟩:=g.at_ p;have q:bJ c2 (M+k * 4) 4=l[k].cells:=q;refine ⟨fun D U V Y Z oM lT mY oX lS w_=>Fx D 0 [lS=kt b o l.length cap,oX=ee k,mY=kh b (o+k * 4),lT=.agg l[k].cells.toArray,oM=kt b2 M l.length t,Z=ee k,Y=kh b2 (M+k * 4),V=.agg l[k].cells.toArray,U=.bool false]/\Inv w [] [] S w_,⟨Fx.nil _ _,m.draw⟩,⟨?_,?_,?_,?_,?_,?_,?_,?_,?_,trivial⟩,?_⟩;all_goals (intro D bp;intros;rename_i U V Y Z oM lT mY oX lS w_ r;have a:=r.1;obtain ⟨⟨cF,ci,cG,cD,bU,cH,cj,cR,dJ,_⟩,m⟩:=r)
 ·exact ⟨a.set 0 rfl,m⟩
 ·exact ⟨a.set 1 rfl,m⟩
 ·obtain rfl:=cF ‹_›;obtain rfl:=ci ‹_›;refine aN bx p ?_;exact ⟨a.set 2 rfl,m⟩
 ·obtain rfl:=cG ‹_›;refine eE (cs:=l[k].cells) dF rfl (fun j v J=>by rw [m.cellS hS];exact bf O j v J) ?_;exact ⟨a.set 3 rfl,m⟩
 ·exact ⟨a.set 4 rfl,m⟩
 ·exact ⟨a.set 5 rfl,m⟩
 ·obtain rfl:=bU ‹_›;obtain rfl:=cH ‹_›;refine aN bx p ?_;exact ⟨a.set 6 rfl,m⟩
 ·obtain rfl:=cj ‹_›;refine eE (cs:=l[k].cells) dF rfl (fun j v J=>by rw [m.cellS N];exact bf q j v J) ?_;exact ⟨a.set 7 rfl,m⟩
 ·obtain rfl:=cD ‹_›;obtain rfl:=cR ‹_›;refine Run.of (Va _) ?_;exact ⟨a.set 8 rfl,m⟩
 obtain ⟨rfl,rfl,rfl,rfl,rfl,rfl,rfl,rfl,rfl,_⟩:=a.all;clear a cF ci cG cD bU cH cj cR dJ;refine aL (fun C=>by cases C) (fun _=>?_);refine bL (by omega) ?_;exact ⟨⟨k+1,p,rfl,m⟩,by simp [intOf];omega⟩
theorem Run.pubOC {f:FuncId} {fn:Func} {args:nA} {c:C} {b:Bool} (hf:Tryz.prog.funcs[f]?=some fn) (hn:(fn.name == "runtime.NumGoroutine" || fn.body.isNone)=false) (a:Inv w0 X L S w)
  (hc:nB f args [] S (VH c b)) (hk:∀ cs S' w',Sle S S'->RdC S' cs c->Inv w0 X L S' w'->K (.tuple #[.agg cs.toArray,.bool b]) w'):Run Tryz.prog (gn (.func (.func f) #[] #[]) args) w K:=by
 refine Run.call0 hf hn a hc fun v' I' S' w'=>?_;rintro ⟨cs,M,rfl,rfl,j⟩ i a;obtain ⟨S1,g,h,a,_⟩:=Inv.lendAll M a;exact hk _ _ _ (i.trans g) (j.rd h) a
end
end
end Go.Proofs.YtjbcdmheajljpaaGreat
