/- spec's compiler: structures that are built. -/
import Derived.Test.YtjbcdmheajljpaaGreatZCv8
namespace Go.Proofs.YtjbcdmheajljpaaGreat
section
open Go Go.RowKit
section
attribute [local irreducible] Run CondV aw aI
abbrev IU (s:CS × Int):Value->List Item->af->Prop:=fun r I' S'=>I'=[]/\∃ cs',r=.tuple #[.agg cs'.toArray,.int .i64 s.2]/\MkS S' cs' s.1
theorem Gf (s:CS) (t:T):(bA s [t]).1=(co s t).1:=by rw [bA,bA]
set_option maxHeartbeats 2000000 in
theorem wn:∀ (t:T) (S:af) (cs ds:List Value) (s:CS),MkS S cs s->RdT S ds t->okU 26 t->s.sl.length=26->0<=s.next->s.sz+8 * bT t<=800000000->Tri Tryz.prog AB [.agg cs.toArray,.agg ds.toArray] [] S (IU (aY t s)):=by
 refine T.ind fun k n nm p ih S cs ds s h hd ho hl g9 i9=>?_;intro w g;have o3:=h.length;obtain ⟨kv,rfl,_,_,_,c5⟩:=RdT.iff.1 hd;have h7:∀ t∈p,okU 26 t:=fO ho.kids;simp only [T.name,T.kids,T.kind,T.n] at c5 ⊢;have h8:=c5.le;simp only [maxLen] at h8;have j1:bT (.mk k n nm p)=1+bi p:=by rw [bT]
 rw [j1] at i9;have o4:=fW p;have o5:0<=s.sz:=by unfold CS.sz; omega
 refine oX.2 ?_;dsimp only[oX,a6];refine bB g fun b2 w' g=>?_;refine bB g fun b3 w' g=>?_;refine aF g dg fun b4 w' g=>?_;refine ey g iX fun lv w' g=>?_;obtain ⟨B3,h1⟩:∃ B3,B3=Item.blk b3 (.cells #[.int .i64 k,.int .i64 n,.string nm,kv] ac):=⟨_,rfl⟩
 have e3:=congrArg some h1;obtain ⟨B4,h2⟩:∃ B4,B4=Item.blk b4 (.cells #[.slice none 0 0,.int .i64 0,.slice none 0 0] aj):=⟨_,rfl⟩
 have e4:=congrArg some h2;have g:Inv w [] [.blk b2 (.cells cs.toArray aj),B3,B4,ax lv ce 1 []] S w':=by rw [h1,h2]; exact g
 obtain ⟨vs,e1⟩:∃ vs,vs=(bE p s).2:=⟨_,rfl⟩
 have o6:vs.length=p.length:=by rw [e1]; exact qn ..
 have j2:∀ i (h:i<p.length) (h':i<vs.length),(p[i].kind=3->0<=vs[i])/\(p[i].kind≠3->vs[i]=-1):=by subst e1; exact (tL p s).2 g9
 refine ⟨fun i lv w'=>∃ (j:Nat) (o:CS) (a0:List Value) (Sj:af) (css:List (List Value)),j<=p.length/\i=.int .i64 j/\Ext w.heap.size [] S Sj/\MkS Sj a0 o/\o.sl.length=26/\0<=o.next/\o.sz+8 * bi (p.drop j)<=s.sz+8 * bi p/\bE p s=((bE (p.drop j) o).1,vs)/\vs.drop j=(bE (p.drop j) o).2/\Rows 1 gL css (vs.take j)/\
   Inv w [] [.blk b2 (.cells a0.toArray aj),B3,B4,ax lv ce 1 css] Sj w',fun i _ _=>p.length - (intOf i).toNat,
   ⟨0,s,cs,S,[],aQ _,rfl,Ext.refl _ _ _,h,hl,g9,by rw [dk]; omega,by rw [dk,e1],by rw [dk,dk,e1],Rows.nil _ _,g⟩,?_⟩
 intro i _ _ lv _ _ _ _ k8 k9 l0 l1 l2 l3 l4 l5 l6 l7 _ _ _ _ _ _ _ _ _ _ _ _ _ w';rintro ⟨j,o,a0,Sj,css,hj,rfl,d6,a9,f2,i4,g6,b8,b0,hR,g⟩;have d2:=c5.monoT d6.1;have e8:=a9.length;refine ag g 1 e3 av ar rfl ?_;refine aL d2 ao ?_;refine cq ?_;refine aR (fun f6=>?_) (fun f6=>?_)
 ·have Z:j<p.length:=by omega
  have a8:j<vs.length:=by omega
  obtain ⟨u,hu⟩:∃ u,u=p[j]:=⟨_,rfl⟩
  have e6:okU 26 u:=by rw [hu]; exact h7 _ (cr Z)
  have j3:=ih u (by rw [hu]; exact cr Z);have o8:=bW (p.drop (j+1));rw [hK p j Z,<- hu] at g6;rw [vD p o j Z,<- hu] at b8 b0;simp only [dr a8,wY] at b0;have o9:=de u;refine ⟨fun z w'=>z=.int .i64 vs[j]/\∃ (M:List Value) (Sn:af),Ext w.heap.size [] Sj Sn/\MkS Sn M (if u.kind=3 then aY u o else (o,-1)).1/\Inv w [] [.blk b2 (.cells M.toArray aj),B3,B4,ax lv ce 1 css] Sn w',?_,?_⟩
  ·refine ag g 1 e3 av ar rfl ?_;refine Ia g d2 ao aV az Z (u:=.int .i64 u.kind) (fun cs d9=>by
    rw [<- hu] at d9;obtain ⟨_,rfl,_⟩:=RdT.iff.1 d9;rfl) ?_
   refine bo ?_;refine aR (fun h3=>?_) (fun h3=>?_)
   ·rw [ai h3] at b8 b0 ⊢;have hJ:=g;obtain ⟨bq,oq,cap,c,E,fz,rfl,f7,c2⟩:=d2.at_ Z;have g:=hJ;clear hJ;rw [<- hu] at c2;obtain ⟨du,h4⟩:∃ du,du=bd c (oq+j * 4) 4:=⟨_,rfl⟩
    rw [<- h4] at c2;refine ⟨fun D x8 qS iJ iI nM ri uy uu sK kZ sJ w_=>Fx D 0 [sJ=.agg a0.toArray,kZ=.pointer (some ⟨b3,3,none⟩),sK=.slice (some ⟨bq,oq,none⟩) p.length cap,uu=.int .i64 (j:Int),uy=.pointer (some ⟨bq,oq+j * 4,none⟩),ri=.agg du.toArray,True,True,True,True,True,True]/\∃ S2 a,Ext w.heap.size [] Sj S2/\(D 6=false->S2=Sj)/\(D 6=true->nM=.tuple #[.agg (List.toArray a),.int .i64 (aY u o).2]/\MkS S2 a (aY u o).1)/\(D 7=true->D 6=true/\iI=.tuple #[.agg (List.toArray a),.int .i64 (aY u o).2])/\(D 8=true->D 6=true/\iJ=.agg (List.toArray a))/\(D 9=true->qS=.int .i64 (aY u o).2)/\(D 10=true->D 0=true/\D 6=true)/\(D 11=true->x8=.int .i64 (aY u o).2)/\Inv w [] [.blk b2 (.cells (cond (D 10) (List.toArray a) a0.toArray) aj),B3,B4,ax lv ce 1 css] S2 w_,⟨Fx.nil _ _,⟨Sj,[],Ext.refl _ _ _,fun _=>rfl,aP,aP,aP,aP,aP,aP,g.draw⟩⟩,⟨?_,?_,?_,?_,?_,?_,?_,?_,?_,?_,?_,?_,trivial⟩,?_⟩;all_goals (intro D bm; intros; rename_i x8 qS iJ iI nM ri uy uu sK kZ sJ w_ a4; have m:=a4.1; obtain ⟨⟨c9,cX,cZ,c4,cY,c8,cB,df,dK,eF,cW,dR,_⟩,⟨S2,a,U,k6,N,C,G,O,r,Y,g⟩⟩:=a4)
    ·have cW:D 10=false:=bS.2 fun h=>by rw [(r h).1] at bm; cases bm
     refine au (c:=a0.toArray) g 0 aq (by rw [cW]; rfl) (by simpa using e8) ?_;have r:=fun (h:aB D 0 10=true)=>(⟨rfl,(r h).2⟩:aB D 0 0=true/\aB D 0 6=true)
     exact ⟨m.set 0 rfl,⟨S2,a,U,k6,N,C,G,O,r,Y,g⟩⟩
    ·refine ay av ?_;exact ⟨m.set 1 rfl,⟨S2,a,U,k6,N,C,G,O,r,Y,g⟩⟩
    ·obtain rfl:=cX ‹_›;refine aJ g 1 ar e3 rfl ?_;exact ⟨m.set 2 rfl,⟨S2,a,U,k6,N,C,G,O,r,Y,g⟩⟩
    ·exact ⟨m.set 3 rfl,⟨S2,a,U,k6,N,C,G,O,r,Y,g⟩⟩
    ·obtain rfl:=cZ ‹_›;obtain rfl:=c4 ‹_›;refine aN ao Z ?_;exact ⟨m.set 4 rfl,⟨S2,a,U,k6,N,C,G,O,r,Y,g⟩⟩
    ·obtain rfl:=cY ‹_›;refine dC (cs:=du) ad c2.length (fun f v hf=>by rw [g.cellS (U.1 _ _ f7)]; exact aX h4.symm f v hf) ?_;exact ⟨m.set 5 rfl,⟨S2,a,U,k6,N,C,G,O,r,Y,g⟩⟩
    ·obtain rfl:=c9 ‹_›;obtain rfl:=c8 ‹_›;have cW:D 10=false:=bS.2 fun h=>by rw [(r h).2] at bm; cases bm
     rw [k6 bm,cW] at g;refine Run.call0E pY pm g (j3 Sj a0 du o a9 c2 e6 f2 i4 (by omega)) fun v' I' S2 w_=>?_;rintro ⟨rfl,a,rfl,f3⟩ f4 g;have g:Inv w [] [.blk b2 (.cells (cond (aB D 6 10) (List.toArray a) a0.toArray) aj),B3,B4,ax lv ce 1 css] S2 w_:=by
      show Inv w [] [.blk b2 (.cells (cond (D 10) (List.toArray a) a0.toArray) aj),B3,B4,ax lv ce 1 css] S2 w_;rw [cW]; exact g
     have k6:aB D 6 6=false->S2=Sj:=fun h=>absurd (show true=false from h) (by decide);have N:=fun (_:aB D 6 6=true)=>(⟨rfl,f3⟩:Value.tuple #[.agg (List.toArray a),.int .i64 (aY u o).2]=.tuple #[.agg (List.toArray a),.int .i64 (aY u o).2]/\MkS S2 a (aY u o).1)
     have C:=fun (h:aB D 6 7=true)=>(absurd (C h).1 (by rw [bm]; decide):aB D 6 6=true/\iI=.tuple #[.agg (List.toArray a),.int .i64 (aY u o).2])
     have G:=fun (h:aB D 6 8=true)=>(absurd (G h).1 (by rw [bm]; decide):aB D 6 6=true/\iJ=.agg (List.toArray a))
     have r:=fun (h:aB D 6 10=true)=>(absurd (r h).2 (by rw [bm]; decide):aB D 6 0=true/\aB D 6 6=true)
     have U:=f4;exact ⟨m.set 6 (by first|assumption|trivial),⟨S2,a,U,k6,N,C,G,O,r,Y,g⟩⟩
    ·have zK:=cB ‹_›;have C:=fun (_:aB D 7 7=true)=>(⟨‹D 6=true›,(N ‹D 6=true›).1⟩:aB D 7 6=true/\nM=.tuple #[.agg (List.toArray a),.int .i64 (aY u o).2])
     exact ⟨m.set 7 (by first|assumption|trivial),⟨S2,a,U,k6,N,C,G,O,r,Y,g⟩⟩
    ·have zJ:=df ‹_›;obtain ⟨e2,c7⟩:=C ‹D 7=true›;subst c7;refine aA rfl ?_;have G:=fun (_:aB D 8 8=true)=>(⟨e2,rfl⟩:aB D 8 6=true/\Value.agg (List.toArray a)=.agg (List.toArray a))
     exact ⟨m.set 8 (by first|assumption|trivial),⟨S2,a,U,k6,N,C,G,O,r,Y,g⟩⟩
    ·have zJ:=df ‹_›;obtain ⟨e2,c7⟩:=C ‹D 7=true›;subst c7;refine aA rfl ?_;have O:=fun (_:aB D 9 9=true)=>(rfl:Value.int .i64 (aY u o).2=.int .i64 (aY u o).2)
     exact ⟨m.set 9 (by first|assumption|trivial),⟨S2,a,U,k6,N,C,G,O,r,Y,g⟩⟩
    ·have wZ:=dK ‹_›;obtain ⟨e2,h5⟩:=G ‹D 8=true›;subst h5;have hM:=(N e2).2;rw [bm] at g;refine al g 0 rfl aq (by simpa using hM.length) (by simpa using e8) (by simpa using hM.one) fun w_ g=>?_;have r:=fun (_:aB D 10 10=true)=>(⟨‹D 0=true›,‹D 6=true›⟩:aB D 10 0=true/\aB D 10 6=true)
     exact ⟨m.set 10 trivial,⟨S2,a,U,k6,N,C,G,O,r,Y,g⟩⟩
    ·have xN:=eF ‹_›;have Y:=fun (_:aB D 11 11=true)=>(O ‹D 9=true›:qS=.int .i64 (aY u o).2)
     exact ⟨m.set 11 (by first|assumption|trivial),⟨S2,a,U,k6,N,C,G,O,r,Y,g⟩⟩
    obtain ⟨rfl,rfl,rfl,rfl,rfl,rfl,zK,zJ,wZ,xN,_,II,_⟩:=m.all;have JF:D 6=true:=by assumption
    have CZ:D 10=true:=by assumption
    have vo:D 11=true:=by assumption
    clear m c9 cX cZ c4 cY c8 cB df dK eF cW dR;rw [CZ] at g;obtain ⟨_,hM⟩:=N JF;rw [Y vo];exact ⟨by rw [b0.1],a,S2,U,hM,g⟩
   ·rw [ah h3] at b8 b0 ⊢;exact ⟨by rw [b0.1],a0,Sj,Ext.refl _ _ _,a9,g⟩
  intro z _ _ _ _ _ _ _ _ _ _ _ _ _ _ _ _ _ w';rintro ⟨rfl,M,Sn,c1,b1,g⟩;have i0:=hR.hc;rw [mL] at i0;refine nF (css:=css) g 3 iX rfl rfl rfl (by omega) (by omega) fun n9 w' g=>?_;refine bz (by omega) ?_;have hg:Gn o (if u.kind=3 then aY u o else (o,-1)).1/\(if u.kind=3 then aY u o else (o,-1)).1.sz<=o.sz+8 * bT u:=by
   split
   ·exact ⟨(mg u o).1,by have:=(hH u o).2; omega⟩
   ·exact ⟨.refl o,by show o.sz<=_; omega⟩
  refine ⟨⟨j+1,_,M,Sn,_,Z,rfl,d6.trans c1,b1,by rw [hg.1.len]; exact f2,by have:=hg.1.next; omega,by have:=hg.2; omega,b8,b0.2,?_,g⟩,by simp [intOf]; omega⟩;rw [mK a8];exact hR.snoc (cs:=[.int .i64 vs[j]]) rfl rfl
 have f9:j=p.length:=by omega
 subst f9;have g0:p.drop p.length=[]:=dV;rw [g0,bE] at b8;rw [g0,bi] at g6;have i1:bE p s=(o,vs):=b8;rw [Ei (by omega)] at hR;have g3:=(oZ p s).2;rw [i1] at g3;have g3:o.sz+2 * p.length<=s.sz+8 * bi p:=g3;have j4:o.sz<=900000000:=by omega
 have k4:o.next<=900000000/\o.code.length<=900000000:=by
  have hb:=j4;unfold CS.sz at hb;omega
 have g:Inv w [] ([.blk b2 (.cells a0.toArray aj),B3,B4]++[ax lv ce 1 css]) Sj _:=g;obtain ⟨S4,f8,j0,g⟩:=g.lendExt;have g4:RdSl S4 1 gL lv vs:=RowRd.rows hR j0;have a9:=a9.mono f8.1;obtain ⟨v1,v2,rfl,g1,g2⟩:=id a9;refine ag g 0 rfl bV az rfl ?_;refine bz (by omega) ?_;refine dl g 0 rfl bV az rfl rfl rfl fun w' g=>?_;have g:Inv w [] [.blk b2 (.cells #[v1,.int .i64 (o.next+1),v2] aj),B3,B4] S4 w':=g;refine au g 0 aq rfl rfl ?_;refine ag g 1 e3 av ar rfl ?_;have i2:=c5.monoT (d6.trans f8).1;refine aL i2 ao ?_;refine ag g 1 e3 aW aO rfl ?_;refine zw ?_;have i3:MkS S4 [v1,.int .i64 (o.next+1),v2] o.inc:=⟨v1,v2,rfl,g1,g2⟩
 refine Run.call0E ch cg g (bR (s:=o.inc) ⟨7,p.length,o.next,nm⟩ i3 (by show o.code.length<=_; omega)) fun v' I' S5 w'=>?_;rintro ⟨rfl,f5,rfl,c3⟩ g7 g;refine al g 0 rfl aq (by simpa using c3.length) rfl (by simpa using c3.one) fun w' g=>?_;have g:Inv w [] [.blk b2 (.cells f5.toArray aj),B3,B4] S5 w':=g;have f0:=(d6.trans f8).trans g7;have g4:=g4.monoN g7.1;obtain ⟨sf,d0⟩:∃ sf,sf=(o.emit ⟨7,p.length,o.next,nm⟩).inc:=⟨_,rfl⟩
 have p0:sf.sz=o.sz+2:=by rw [d0,qK,dc]; omega
 have j5:aY (.mk k n nm p) s=(cM sf p vs,o.next):=by rw [aY,i1,d0]
 have c3:MkS S5 f5 sf:=by rw [d0]; exact c3
 have k0:sf.sl.length=26:=by rw [d0]; exact f2
 have k1:0<=sf.next:=by rw [d0]; show 0<=o.next+1; omega
 rw [j5];clear a9 i3 hR;refine ⟨fun i w'=>∃ (j:Nat) (V:CS) (M:List Value) (Sn:af),j<=p.length/\i=.int .i64 j/\Ext w.heap.size [] S5 Sn/\MkS Sn M V/\V.sl.length=26/\0<=V.next/\V.sz<=sf.sz+2 * j/\cM sf p vs=cM V (p.drop j) (vs.drop j)/\
   Inv w [] [.blk b2 (.cells M.toArray aj),B3,B4] Sn w',fun i _=>p.length - (intOf i).toNat,
   ⟨0,sf,f5,S5,aQ _,rfl,Ext.refl _ _ _,c3,k0,k1,by omega,by rw [dk,dk],g⟩,?_⟩
 intro i _ _ _ l8 l9 m0 m1 m2 m3 m4 m5 m6 m7 m8 m9 n0 n1 n2 n3 n4 n5 n6 n7 _ _ _ _ _ _ _ _ _ _ w';rintro ⟨j,V,M,Sn,hj,rfl,c1,b1,g8,i5,n8,d7,g⟩;have d3:=c5.monoT (f0.trans c1).1;have f1:=g4.monoN c1.1;have a2:=b1.length;refine ag g 1 e3 av ar rfl ?_;refine aL d3 ao ?_;refine cq ?_;refine aR (fun f6=>?_) (fun f6=>?_)
 ·have Z:j<p.length:=by omega
  have a8:j<vs.length:=by omega
  obtain ⟨u,hu⟩:∃ u,u=p[j]:=⟨_,rfl⟩
  have e6:okU 26 u:=by rw [hu]; exact h7 _ (cr Z)
  have e7:=j2 j Z a8;rw [<- hu] at e7;rw [uq p vs V j Z a8,<- hu] at d7;have k2:V.sz<=900000000:=by omega
  have k5:V.next<=900000000/\V.code.length<=900000000:=by
   have hb:=k2;unfold CS.sz at hb;omega
  refine ⟨fun w'=>∃ (d4:List Value) (Sm:af),Ext w.heap.size [] Sn Sm/\MkS Sm d4 (if u.kind=3 then V.emit ⟨5,vs[j],0,emptyB⟩ else dJ V u)/\Inv w [] [.blk b2 (.cells d4.toArray aj),B3,B4] Sm w',?_,?_⟩
  ·refine i7 g f1 el az a8 (fun cs d9=>d9) ?_;refine jI ?_;refine aR (fun h0=>?_) (fun h0=>?_)
   ·have h3:u.kind=3:=by
     rcases e6.three with e|e|e
     ·have:=e7.2 (by omega); omega
     ·have:=e7.2 (by omega); omega
     ·exact e
    rw [ai h3];have hJ:=g;obtain ⟨bq,oq,cap,c,E,fz,rfl,f7,c2⟩:=f1.at_ a8;have g:=hJ;clear hJ;refine ⟨fun D Ir Ie Ih Iw Ig Iy IC w_=>Fx D 0 [IC=.agg M.toArray,Iy=.slice (some ⟨bq,oq,none⟩) vs.length cap,Ig=.int .i64 (j:Int),Iw=.pointer (some ⟨bq,oq+j * 1,none⟩),Ih=.int .i64 vs[j],Ie=.agg (Ist.cells ⟨5,vs[j],0,emptyB⟩).toArray,True,True]/\∃ n_:Nat,n_<=2/\D 6=decide (1<=n_)/\D 7=decide (2<=n_)/\(emS w [] (fun c=>[.blk b2 (.cells c aj),B3,B4]) Sn M.toArray (V.emit ⟨5,vs[j],0,emptyB⟩) Ir w_ n_/\(D 7=true->D 0=true)),⟨Fx.nil _ _,⟨0,aQ _,rfl,rfl,⟨g.draw,aP⟩⟩⟩,⟨?_,?_,?_,?_,?_,?_,?_,?_,trivial⟩,?_⟩;all_goals (intro D bm; intros; rename_i Ir Ie Ih Iw Ig Iy IC w_ a4; have m:=a4.1; obtain ⟨⟨c9,cX,cZ,c4,cY,c8,cB,df,_⟩,⟨n_,b7,a3,a1,hS⟩⟩:=a4)
    ·have df:D 7=false:=bS.2 fun h=>by rw [hS.2 h] at bm; cases bm
     obtain ⟨S6,a7,g⟩:=hS.1.inv (Fe a1 df);refine au g 0 aq rfl (by simpa using a2) ?_;have hS:=And.intro hS.1 (fun (_:aB D 0 7=true)=>(rfl:aB D 0 0=true));exact ⟨m.set 0 rfl,⟨n_,b7,a3,a1,hS⟩⟩
    ·exact ⟨m.set 1 rfl,⟨n_,b7,a3,a1,hS⟩⟩
    ·exact ⟨m.set 2 rfl,⟨n_,b7,a3,a1,hS⟩⟩
    ·obtain rfl:=cX ‹_›;obtain rfl:=cZ ‹_›;refine aN el a8 ?_;exact ⟨m.set 3 rfl,⟨n_,b7,a3,a1,hS⟩⟩
    ·obtain rfl:=c4 ‹_›;obtain ⟨S6,c6,a7,g⟩:=hS.1.any;refine dq (v:=.int .i64 vs[j]) az (by rw [g.cellS (a7 _ _ f7)]; exact aX c2 0 _ rfl) ?_;exact ⟨m.set 4 rfl,⟨n_,b7,a3,a1,hS⟩⟩
    ·obtain rfl:=cY ‹_›;refine jg ?_;exact ⟨m.set 5 rfl,⟨n_,b7,a3,a1,hS⟩⟩
    ·obtain rfl:=c9 ‹_›;obtain rfl:=c8 ‹_›;obtain rfl:n_=0:=s9 a3 bm;refine Run.call0E ch cg hS.1 (bR ⟨5,vs[j],0,emptyB⟩ b1 (by omega)) fun v' I' S6 w_=>?_;rintro ⟨rfl,b5,rfl,b6⟩ a7 g;have g5:emS w [] (fun c=>[.blk b2 (.cells c aj),B3,B4]) Sn M.toArray (V.emit ⟨5,vs[j],0,emptyB⟩) (.agg b5.toArray) w_ 1:=⟨S6,b5,rfl,b6,a7,g⟩
     exact ⟨m.set 6 (by first|assumption|trivial),⟨1,by decide,rfl,(by first|exact a1|rfl),⟨g5,hS.2⟩⟩⟩
    ·have zK:=cB ‹_›;obtain rfl:n_=1:=fK a3 ‹D 6=true› a1 bm;obtain ⟨S6,b5,rfl,b6,a7,g⟩:=hS.1;refine al g 0 rfl aq (by simpa using b6.length) (by simpa using a2) (by simpa using b6.one) fun w_ g=>?_;have g5:emS w [] (fun c=>[.blk b2 (.cells c aj),B3,B4]) Sn M.toArray (V.emit ⟨5,vs[j],0,emptyB⟩) (.agg b5.toArray) w_ 2:=⟨S6,b5,b6,a7,g⟩
     exact ⟨m.set 7 trivial,⟨2,by decide,(by first|exact a3|rfl),rfl,⟨g5,fun _=>‹D 0=true›⟩⟩⟩
    obtain rfl:n_=2:=qF b7 a1 ‹D 7=true›;clear a3 a1;obtain ⟨S6,b5,b6,a7,g⟩:=hS.1;exact ⟨b5,S6,a7,b6,g⟩
   ·have h3:u.kind≠3:=fun e=>h0 (e7.1 e);rw [ah h3];have hJ:=g;obtain ⟨ka,kc,rfl,o0,o1,o2⟩:=id d3;have g:=hJ;clear hJ;have k3:(bA V [u]).1=dJ V u:=by rw [Gf,co,ah h3]
    refine ⟨fun D Hm np Ks Jx H8 Jy Kg JZ Kd JG JJ IO Ii w_=>Fx D 0 [Ii=.agg M.toArray,IO=.pointer (some ⟨b3,3,none⟩),JJ=.slice ka p.length kc,JG=.int .i64 (j:Int),Kd=.int .i64 (j:Int),JZ=.int .i64 ((j+1:Nat):Int),True,True,True,True,True,True,True,True]/\∃ S2 a u2,Ext w.heap.size [] Sn S2/\(D 7=false->S2=Sn)/\(D 6=true->RdSl Sn 4 (RdT Sn) Kg [u])/\(D 7=true->Jy=.tuple #[.agg (List.toArray a),u2]/\MkS S2 a (bA V [u]).1)/\(D 8=true->D 7=true/\H8=.tuple #[.agg (List.toArray a),u2])/\(D 9=true->D 7=true/\Jx=.agg (List.toArray a))/\(D 12=true->D 7=true)/\nwP w [] [.blk b2 (.cells M.toArray aj),B3,B4] aj #[.slice none 0 0,.int .i64 0,.slice none 0 0] (fun _ q=>q=List.toArray a) (D 11) (D 12) np S2 w_,⟨Fx.nil _ _,⟨Sn,[],undef,Ext.refl _ _ _,fun _=>rfl,aP,aP,aP,aP,aP,nwP.mk g.draw _⟩⟩,⟨?_,?_,?_,?_,?_,?_,?_,?_,?_,?_,?_,?_,?_,?_,trivial⟩,?_⟩;all_goals (intro D bm; intros; rename_i Hm np Ks Jx H8 Jy Kg JZ Kd JG JJ IO Ii w_ a4; have m:=a4.1; obtain ⟨⟨c9,cX,cZ,c4,cY,c8,cB,df,dK,eF,cW,dR,gZ,kX,_⟩,⟨S2,a,u2,U,k7,N,C,G,O,J,hN⟩⟩:=a4)
    ·obtain ⟨B,g⟩:=hN.inv;refine au g 0 aq rfl (by simpa using a2) ?_;exact ⟨m.set 0 rfl,⟨S2,a,u2,U,k7,N,C,G,O,J,hN⟩⟩
    ·refine ay av ?_;exact ⟨m.set 1 rfl,⟨S2,a,u2,U,k7,N,C,G,O,J,hN⟩⟩
    ·obtain rfl:=cX ‹_›;obtain ⟨B,g⟩:=hN.inv;refine aJ g 1 ar e3 rfl ?_;exact ⟨m.set 2 rfl,⟨S2,a,u2,U,k7,N,C,G,O,J,hN⟩⟩
    ·exact ⟨m.set 3 rfl,⟨S2,a,u2,U,k7,N,C,G,O,J,hN⟩⟩
    ·exact ⟨m.set 4 rfl,⟨S2,a,u2,U,k7,N,C,G,O,J,hN⟩⟩
    ·obtain rfl:=cY ‹_›;refine bz (by omega) ?_;exact ⟨m.set 5 rfl,⟨S2,a,u2,U,k7,N,C,G,O,J,hN⟩⟩
    ·obtain rfl:=cZ ‹_›;obtain rfl:=c4 ‹_›;obtain rfl:=c8 ‹_›;refine CD ao d3 (l:=j) (h:=j+1) (by omega) (by omega) fun v9 h9=>?_;have e9:(p.take (j+1)).drop j=[u]:=by rw [mK Z,List.drop_left' (by rw [mL]; omega),hu]
     rw [e9] at h9;have N:=fun (_:aB D 6 6=true)=>h9;exact ⟨m.set 6 (by first|assumption|trivial),⟨S2,a,u2,U,k7,N,C,G,O,J,hN⟩⟩
    ·obtain rfl:=c9 ‹_›;have zK:=cB ‹_›;have gZ:D 12=false:=bS.2 fun h=>by rw [J h] at bm; cases bm
     obtain ⟨b9,q9,y1,y2,y3,y4,g⟩:=hN;rw [k7 bm] at g;refine Run.call0E rM r3 g (o7 b1 (N ‹D 6=true›) (fun t ht=>by rw [fl.1 ht]; exact e6) g8 i5 (by simp only [EU]; omega)) fun v' I' S2 w_=>?_;rintro ⟨rfl,a,u2,rfl,f3,_⟩ f4 g;rw [cS] at g;have hN:nwP w [] [.blk b2 (.cells M.toArray aj),B3,B4] aj #[.slice none 0 0,.int .i64 0,.slice none 0 0] (fun _ q=>q=List.toArray a) (aB D 7 11) (aB D 7 12) np S2 w_:=⟨b9,q9,y1,y2,y3,fun h=>(by have h:D 12=true:=h; rw [gZ] at h; cases h),g⟩
     have k7:aB D 7 7=false->S2=Sn:=fun h=>absurd (show true=false from h) (by decide);have C:=fun (_:aB D 7 7=true)=>(⟨rfl,f3⟩:Value.tuple #[.agg (List.toArray a),u2]=.tuple #[.agg (List.toArray a),u2]/\MkS S2 a (bA V [u]).1)
     have G:=fun (h:aB D 7 8=true)=>(absurd (G h).1 (by rw [bm]; decide):aB D 7 7=true/\H8=.tuple #[.agg (List.toArray a),u2])
     have O:=fun (h:aB D 7 9=true)=>(absurd (O h).1 (by rw [bm]; decide):aB D 7 7=true/\Jx=.agg (List.toArray a))
     have J:=fun (_:aB D 7 12=true)=>(rfl:aB D 7 7=true)
     have U:=f4;exact ⟨m.set 7 (by first|assumption|trivial),⟨S2,a,u2,U,k7,N,C,G,O,J,hN⟩⟩
    ·have zJ:=df ‹_›;have G:=fun (_:aB D 8 8=true)=>(⟨‹D 7=true›,(C ‹D 7=true›).1⟩:aB D 8 7=true/\Jy=.tuple #[.agg (List.toArray a),u2])
     exact ⟨m.set 8 (by first|assumption|trivial),⟨S2,a,u2,U,k7,N,C,G,O,J,hN⟩⟩
    ·have wZ:=dK ‹_›;obtain ⟨e5,d1⟩:=G ‹D 8=true›;subst d1;refine aA rfl ?_;have O:=fun (_:aB D 9 9=true)=>(⟨e5,rfl⟩:aB D 9 7=true/\Value.agg (List.toArray a)=.agg (List.toArray a))
     exact ⟨m.set 9 (by first|assumption|trivial),⟨S2,a,u2,U,k7,N,C,G,O,J,hN⟩⟩
    ·have wZ:=dK ‹_›;obtain ⟨e5,d1⟩:=G ‹D 8=true›;subst d1;refine aA rfl ?_;exact ⟨m.set 10 (by first|assumption|trivial),⟨S2,a,u2,U,k7,N,C,G,O,J,hN⟩⟩
    ·refine hN.alloc bm dg rfl fun v9 w_ hN=>?_;exact ⟨m.set 11 (by first|assumption|trivial),⟨S2,a,u2,U,k7,N,C,G,O,J,hN⟩⟩
    ·have II:=dR ‹_›;have xN:=eF ‹_›;obtain ⟨e5,h6⟩:=O ‹D 9=true›;subst h6;have hM:=(C e5).2;refine hN.store ‹D 11=true› bm aq (by simpa using hM.length) rfl (by simpa using hM.one) rfl fun w_ hN=>?_;have J:=fun (_:aB D 12 12=true)=>(‹D 7=true›:aB D 12 7=true)
     exact ⟨m.set 12 trivial,⟨S2,a,u2,U,k7,N,C,G,O,J,hN⟩⟩
    ·have Dp:=cW ‹_›;exact ⟨m.set 13 (by first|assumption|trivial),⟨S2,a,u2,U,k7,N,C,G,O,J,hN⟩⟩
    obtain ⟨rfl,rfl,rfl,rfl,rfl,rfl,zK,zJ,wZ,xN,Dp,II,_,KT,_⟩:=m.all;have sW:D 7=true:=by assumption
    have vo:D 11=true:=by assumption
    have Gi:D 12=true:=by assumption
    clear m c9 cX cZ c4 cY c8 cB df dK eF cW dR gZ kX;rw [vo,Gi] at hN;obtain ⟨_,hM⟩:=C sW;obtain ⟨b9,q9,rfl,rfl,g⟩:=hN.fin;rw [k3] at hM;refine au g 3 aq rfl (by simpa using hM.length) ?_;refine al g 0 rfl aq (by simpa using hM.length) (by simpa using a2) (by simpa using hM.one) fun w' g=>?_;exact ⟨a,S2,U,hM,g.pick [true,true,true,false]⟩
  intro _ _ _ _ _ _ _ _ _ _ _ _ _ _ _ _ _ _ _ _ _ _ _ _ _ _ w';rintro ⟨d4,Sm,i6,i8,g⟩;refine bz (by omega) ?_;have hg:Gn V (if u.kind=3 then V.emit ⟨5,vs[j],0,emptyB⟩ else dJ V u)/\(if u.kind=3 then V.emit ⟨5,vs[j],0,emptyB⟩ else dJ V u).sz<=V.sz+2:=by
   split
   ·exact ⟨.emit V _,by rw [dc]; omega⟩
   ·exact ⟨yp V u,(ti V u).2⟩
  exact ⟨⟨j+1,_,d4,Sm,Z,rfl,c1.trans i6,i8,by rw [hg.1.len]; exact g8,by have:=hg.1.next; omega,by have:=hg.2; omega,d7,g⟩,by simp [intOf]; omega⟩
 have f9:j=p.length:=by omega
 subst f9;have e0:cM V [] (vs.drop p.length)=V:=by rw [cM]; all_goals simp
 rw [g0,e0] at d7;rw [d7];refine au g 0 aq rfl (by simpa using a2) ?_;refine al g 2 e4 aq (by simpa using a2) rfl (by simpa using b1.one) fun w' g=>?_;refine a5 g 2 aq rfl (by simpa using a2) ?_;exact ⟨_,_,Sn,rfl,g.nil,f0.trans c1,rfl,M,rfl,b1⟩
end
end
section
open Go Go.RowKit
section
attribute [local irreducible] Run CondV aw aI
set_option maxHeartbeats 1000000 in
theorem Aw {s:CS} {t:T} {i:Int} {S:af} {cs ds:List Value} (h:MkS S cs s) (hd:RdT S ds t) (ho:okU 26 t) (hl:s.sl.length=26) (a2:0<=s.next) (a3:s.sz+8 * bT t<=800000000) :
  Tri Tryz.prog Fu [.agg cs.toArray,.agg ds.toArray,.int .i64 i] [] S (xf (eN s i t)):=by
 intro w a;have a9:=h.length;have b0:=hd;obtain ⟨kv,rfl,_,_,_,b5⟩:=RdT.iff.1 hd;have b7:=de t;have hb:s.sz<=900000000:=by omega
 have b2:s.next<=900000000/\s.code.length<=900000000:=by
  unfold CS.sz at hb;omega
 refine tX.2 ?_;dsimp only[tX,gW];refine bB a fun b3 w' a=>?_;refine bB a fun b4 w' a=>?_;refine aF a dg fun b6 w' a=>?_;obtain ⟨B4,a1⟩:∃ B4,B4=Item.blk b4 (.cells #[.int .i64 t.kind,.int .i64 t.n,.string t.name,kv] ac):=⟨_,rfl⟩
 have O:=congrArg some a1;have a:Inv w [] [.blk b3 (.cells cs.toArray aj),B4,.blk b6 (.cells #[.slice none 0 0,.int .i64 0,.slice none 0 0] aj)] S w':=by rw [a1]; exact a
 refine ag a 1 O aV az rfl ?_;refine bo ?_;refine aR (fun h2=>?_) (fun h2=>?_)
 ·refine au a 0 aq rfl (by simpa using a9) ?_;refine ag a 1 O aM az rfl ?_;refine gM ?_;refine Run.call0E ch cg a (bR ⟨10,t.n,i,emptyB⟩ h (by omega)) fun v' I' S2 w'=>?_;rintro ⟨rfl,o,rfl,g⟩ p a;refine al a 2 rfl aq (by simpa using g.length) rfl (by simpa using g.one) fun w' a=>?_;refine a5 a 2 aq rfl (by simpa using g.length) ?_;have e:eN s i t=s.emit ⟨10,t.n,i,emptyB⟩:=by rw [eN,ai h2]
  rw [e];exact ⟨_,_,S2,rfl,a.nil,p,rfl,o,rfl,g⟩
 refine ⟨fun q w'=>q=.bool (decide (t.kind=1/\0<=s.at_ t.n))/\Inv w [] [.blk b3 (.cells cs.toArray aj),B4,.blk b6 (.cells #[.slice none 0 0,.int .i64 0,.slice none 0 0] aj)] S w',?_,?_⟩
 ·refine ag a 1 O aV az rfl ?_;refine bo ?_;by_cases J:t.kind=1
  ·rw [bb J];refine rpG ?_;obtain ⟨v1,v2,rfl,g1,g2⟩:=id h;have hv:=ho.var J;obtain ⟨m,hm⟩:∃ m:Nat,t.n=(m:Int):=⟨t.n.toNat,by omega⟩
   have M:m<s.sl.length:=by omega
   refine ag a 0 rfl cH fi rfl ?_;refine ag a 1 O aM az rfl ?_;rw [hm,qM M];refine i7 a g1 el az M (fun cs a6=>a6) ?_;refine jI ?_;refine rpG ?_;refine ⟨?_,a⟩;simp [J]
  ·rw [bk J];refine rpG ?_;refine ⟨?_,a⟩;simp [J]
 intro z _ _ _ _ _ _ _ _ _ _ _ _ w';rintro ⟨rfl,a⟩;obtain ⟨v1,v2,rfl,g1,g2⟩:=id h;refine aR (fun Y=>?_) (fun Y=>?_)
 ·obtain ⟨J,h0⟩:=Y;have e:eN s i t=s.emit ⟨9,s.at_ t.n,i,emptyB⟩:=by rw [eN,ah h2,ai J,ai h0]
  have hv:=ho.var J;obtain ⟨m,hm⟩:∃ m:Nat,t.n=(m:Int):=⟨t.n.toNat,by omega⟩
  have M:m<s.sl.length:=by omega
  have hJ:=a;obtain ⟨bq,oq,cap,c,E,fz,rfl,a7,a8⟩:=g1.at_ M;have a:=hJ;clear hJ;have b1:=qM M;rw [e];refine ⟨fun D z4 mU th qS iJ nM ri uy uu sK w_=>Fx D 0 [sK=.agg #[.slice (some ⟨bq,oq,none⟩) s.sl.length cap,.int .i64 s.next,v2],uu=.pointer (some ⟨b3,0,none⟩),uy=.slice (some ⟨bq,oq,none⟩) s.sl.length cap,ri=.pointer (some ⟨b4,1,none⟩),nM=.int .i64 (m:Int),iJ=.pointer (some ⟨bq,oq+m * 1,none⟩),qS=.int .i64 (s.at_ t.n),th=.int .i64 i,mU=.agg (Ist.cells ⟨9,s.at_ t.n,i,emptyB⟩).toArray,True,True]/\∃ C:Nat,C<=2/\D 9=decide (1<=C)/\D 10=decide (2<=C)/\(emS w [] (fun c=>[.blk b3 (.cells #[.slice (some ⟨bq,oq,none⟩) s.sl.length cap,.int .i64 s.next,v2] aj),B4,.blk b6 (.cells c aj)]) S #[.slice none 0 0,.int .i64 0,.slice none 0 0] (s.emit ⟨9,s.at_ t.n,i,emptyB⟩) z4 w_ C),⟨Fx.nil _ _,⟨0,aQ _,rfl,rfl,a.draw⟩⟩,⟨?_,?_,?_,?_,?_,?_,?_,?_,?_,?_,?_,trivial⟩,?_⟩;all_goals (intro D bm; intros; rename_i z4 mU th qS iJ nM ri uy uu sK w_ a0; have u:=a0.1; obtain ⟨⟨c9,cX,cZ,c4,cY,c8,cB,df,dK,eF,cW,_⟩,⟨C,B,j,l,G⟩⟩:=a0)
  ·obtain ⟨S5,c5,N,a⟩:=G.any;refine au a 0 aq rfl rfl ?_;exact ⟨u.set 0 rfl,⟨C,B,j,l,G⟩⟩
  ·refine ay cH ?_;exact ⟨u.set 1 rfl,⟨C,B,j,l,G⟩⟩
  ·obtain rfl:=cX ‹_›;obtain ⟨S5,c5,N,a⟩:=G.any;refine aJ a 0 fi rfl rfl ?_;exact ⟨u.set 2 rfl,⟨C,B,j,l,G⟩⟩
  ·refine ay aM ?_;exact ⟨u.set 3 rfl,⟨C,B,j,l,G⟩⟩
  ·obtain rfl:=c4 ‹_›;obtain ⟨S5,c5,N,a⟩:=G.any;refine aJ (v:=.int .i64 (m:Int)) a 1 az O (by rw [<- hm]; rfl) ?_;exact ⟨u.set 4 rfl,⟨C,B,j,l,G⟩⟩
  ·obtain rfl:=cZ ‹_›;obtain rfl:=cY ‹_›;refine aN el M ?_;exact ⟨u.set 5 rfl,⟨C,B,j,l,G⟩⟩
  ·obtain rfl:=c8 ‹_›;obtain ⟨S5,c5,N,a⟩:=G.any;refine dq (v:=.int .i64 (s.at_ t.n)) az (by rw [a.cellS (N _ _ a7),hm,b1]; exact aX a8 0 _ rfl) ?_;exact ⟨u.set 6 rfl,⟨C,B,j,l,G⟩⟩
  ·exact ⟨u.set 7 rfl,⟨C,B,j,l,G⟩⟩
  ·obtain rfl:=cB ‹_›;obtain rfl:=df ‹_›;refine gM ?_;exact ⟨u.set 8 rfl,⟨C,B,j,l,G⟩⟩
  ·obtain rfl:=c9 ‹_›;obtain rfl:=dK ‹_›;obtain rfl:C=0:=s9 j bm;refine Run.call0E ch cg G (bR ⟨9,s.at_ t.n,i,emptyB⟩ h (by omega)) fun v' I' S2 w_=>?_;rintro ⟨rfl,o,rfl,g⟩ p a;have Z:emS w [] (fun c=>[.blk b3 (.cells #[.slice (some ⟨bq,oq,none⟩) s.sl.length cap,.int .i64 s.next,v2] aj),B4,.blk b6 (.cells c aj)]) S #[.slice none 0 0,.int .i64 0,.slice none 0 0] (s.emit ⟨9,s.at_ t.n,i,emptyB⟩) (.agg o.toArray) w_ 1:=⟨S2,o,rfl,g,p,a⟩
   exact ⟨u.set 9 (by first|assumption|trivial),⟨1,by decide,rfl,(by first|exact l|rfl),Z⟩⟩
  ·have xN:=eF ‹_›;obtain rfl:C=1:=fK j ‹D 9=true› l bm;obtain ⟨S2,o,rfl,g,p,a⟩:=G;refine al a 2 rfl aq (by simpa using g.length) rfl (by simpa using g.one) fun w_ a=>?_;have Z:emS w [] (fun c=>[.blk b3 (.cells #[.slice (some ⟨bq,oq,none⟩) s.sl.length cap,.int .i64 s.next,v2] aj),B4,.blk b6 (.cells c aj)]) S #[.slice none 0 0,.int .i64 0,.slice none 0 0] (s.emit ⟨9,s.at_ t.n,i,emptyB⟩) (.agg o.toArray) w_ 2:=⟨S2,o,g,p,a⟩
   exact ⟨u.set 10 trivial,⟨2,by decide,(by first|exact j|rfl),rfl,Z⟩⟩
  obtain rfl:C=2:=qF B l ‹D 10=true›;clear j l;obtain ⟨S2,o,g,p,a⟩:=G;refine a5 a 2 aq rfl (by simpa using g.length) ?_;exact ⟨_,_,S2,rfl,a.nil,p,rfl,o,rfl,g⟩
 refine ag a 1 O aV az rfl ?_;refine bo ?_;refine aR (fun J=>?_) (fun J=>?_)
 ·have hv:=ho.var J;have h0:¬ 0<=s.at_ t.n:=fun h0=>Y ⟨J,h0⟩;have e:eN s i t=(s.put t.n s.next).inc.emit ⟨8,s.next,i,emptyB⟩:=by rw [eN,ah h2,ai J,ah h0]
  refine au a 0 aq rfl rfl ?_;refine ag a 1 O aM az rfl ?_;refine ag a 0 rfl bV az rfl ?_;refine Run.call0E lr lx a (kl (n:=t.n) (k:=s.next) h hl (by omega)) fun v' I' S2 w'=>?_;rintro ⟨rfl,o,rfl,g⟩ p a;refine al a 0 rfl aq (by simpa using g.length) rfl (by simpa using g.one) fun w' a=>?_;obtain ⟨z1,z2,rfl,y1,y2⟩:=id g;refine ag a 0 rfl bV az rfl ?_;have en:(s.put t.n s.next).next=s.next:=rfl;rw [en];refine bz (by omega) ?_;refine dl a 0 rfl bV az rfl rfl rfl fun w' a=>?_;have a:Inv w [] [.blk b3 (.cells #[z1,.int .i64 (s.next+1),z2] aj),B4,.blk b6 (.cells #[.slice none 0 0,.int .i64 0,.slice none 0 0] aj)] S2 w':=a;have r:MkS S2 [z1,.int .i64 (s.next+1),z2] (s.put t.n s.next).inc:=⟨z1,z2,rfl,y1,y2⟩
  refine au a 0 aq rfl rfl ?_;refine ag a 0 rfl bV az rfl ?_;refine ld (by omega) ?_;rw [show s.next+1 - 1=s.next by omega];refine gM ?_;refine Run.call0E ch cg a (bR ⟨8,s.next,i,emptyB⟩ r (by show s.code.length<=_; omega)) fun v' I' S3 w'=>?_;rintro ⟨rfl,U,rfl,r⟩ V a;refine al a 2 rfl aq (by simpa using r.length) rfl (by simpa using r.one) fun w' a=>?_;refine a5 a 2 aq rfl (by simpa using r.length) ?_;rw [e];exact ⟨_,_,S3,rfl,a.nil,p.trans V,rfl,U,rfl,r⟩
 ·have h3:t.kind=3:=by have:=ho.three; omega
  have e:eN s i t=(aY t s).1.emit ⟨9,(aY t s).2,i,emptyB⟩:=by rw [eN,ah h2,ah J]
  refine au a 0 aq rfl rfl ?_;refine au a 1 ad O rfl ?_;refine Run.call0E pY pm a (wn t S _ _ s h b0 ho hl a2 a3) fun v' I' S2 w'=>?_;rintro ⟨rfl,o,rfl,g⟩ p a;refine aA rfl ?_;refine aA rfl ?_;refine al a 0 rfl aq (by simpa using g.length) rfl (by simpa using g.one) fun w' a=>?_;refine au a 0 aq rfl (by simpa using g.length) ?_;refine gM ?_;have b8:=(hH t s).2;have b9:=(mg t s).1.next;refine Run.call0E ch cg a (bR ⟨9,(aY t s).2,i,emptyB⟩ g (by
   have a4:(aY t s).1.sz<=900000000:=by omega
   unfold CS.sz at a4;omega)) fun v' I' S3 w'=>?_
  rintro ⟨rfl,U,rfl,r⟩ V a;refine al a 2 rfl aq (by simpa using r.length) rfl (by simpa using r.one) fun w' a=>?_;refine a5 a 2 aq rfl (by simpa using r.length) ?_;rw [e];exact ⟨_,_,S3,rfl,a.nil,p.trans V,rfl,U,rfl,r⟩
set_option maxHeartbeats 1000000 in
theorem v7 {s:CS} {J:List T} {S:af} {cs:List Value} {v:Value} (h:MkS S cs s) (d2:RdSl S 4 (RdT S) v J) (ho:∀ t∈J,okU 26 t/\t.kind=3) (hl:s.sl.length=26) (e7:0<=s.next) (g9:s.sz+8 * bi J<=800000000) :
  Tri Tryz.prog BH [.agg cs.toArray,v] [] S (xf ((dP s J).emit ⟨14,0,0,emptyB⟩)):=by
 intro w l;have i0:=h.length;have e2:=d2.le;simp only [maxLen] at e2;have i1:0<=s.sz:=by unfold CS.sz; omega
 have i2:=fW J;refine pW.2 ?_;dsimp only[pW,a6];refine bB l fun b2 w' l=>?_;refine aF l dg fun b4 w' l=>?_;obtain ⟨B4,d7⟩:∃ B4,B4=Item.blk b4 (.cells #[.slice none 0 0,.int .i64 0,.slice none 0 0] aj):=⟨_,rfl⟩
 have e4:=congrArg some d7;have l:Inv w [] [.blk b2 (.cells cs.toArray aj),B4] S w':=by rw [d7]; exact l
 refine ⟨fun i w'=>∃ (j:Nat) (B:CS) (a2:List Value) (Sj:af),j<=J.length/\i=.int .i64 j/\Ext w.heap.size [] S Sj/\MkS Sj a2 B/\B.sl.length=26/\0<=B.next/\B.sz+8 * bi (J.drop j)<=s.sz+8 * bi J/\dP s J=dP B (J.drop j)/\
   Inv w [] [.blk b2 (.cells a2.toArray aj),B4] Sj w',fun i _=>J.length - (intOf i).toNat,
   ⟨0,s,cs,S,aQ _,rfl,Ext.refl _ _ _,h,hl,e7,by rw [dk]; omega,by rw [dk],l⟩,?_⟩
 intro i _ _ _ _ _ _ _ _ _ _ _ _ _ _ _ _ _ _ _ _ _ _ _ _ _ _ _ _ _ _ _ _ _ _ _ _ _ _ _ _ _ _ _ _ _ _ _ _ w';rintro ⟨j,B,a2,Sj,hj,rfl,c5,b3,d3,e8,e9,b5,l⟩;have c3:=d2.monoT c5.1;have a8:=b3.length;refine aL c3 ao ?_;refine cq ?_;have hb:B.sz<=900000000:=by have:=bW (J.drop j); omega
 have g6:B.next<=900000000/\B.code.length<=900000000:=by
  unfold CS.sz at hb;omega
 refine aR (fun f4=>?_) (fun f4=>?_)
 ·have a9:j<J.length:=by omega
  obtain ⟨g,hg⟩:∃ g,g=J[j]:=⟨_,rfl⟩
  have e3:okU 26 g/\g.kind=3:=by rw [hg]; exact ho _ (cr a9)
  have i3:=bW (J.drop (j+1));rw [hK J j a9,<- hg] at e9;rw [rp J B j a9,<- hg] at b5;have i4:bT g=1+bi g.kids:=by cases g; rw [bT]; rfl
  refine ⟨fun w'=>∃ (b1:List Value) (Sn:af),Ext w.heap.size [] Sj Sn/\MkS Sn b1 (fE B g)/\Inv w [] [.blk b2 (.cells b1.toArray aj),B4] Sn w',?_,?_⟩
  ·refine dx l c3 ao ad a9 (fun _ _=>RdT.length) fun ds a7=>?_;rw [<- hg] at a7;have f8:=a7.length;refine aF l aZ fun b6 w' l=>?_;refine al l 2 rfl ad (by simpa using f8) rfl (by simpa using a7.one) fun w' l=>?_;have f9:=a7;obtain ⟨ka,kn,kc,h8,d9,e0⟩:∃ ka kn kc,kn=g.kids.length/\ds=[.int .i64 g.kind,.int .i64 g.n,.string g.name,.slice ka kn kc]/\RdSl Sj 4 (RdT Sj) (.slice ka kn kc) g.kids:=by
    obtain ⟨h9,e,_,_,_,c2⟩:=RdT.iff.1 a7;obtain ⟨a,c,rfl,_⟩:=id c2;exact ⟨a,_,c,rfl,e,c2⟩
   subst d9;obtain ⟨B6,b8⟩:∃ B6,B6=Item.blk b6 (.cells #[.int .i64 g.kind,.int .i64 g.n,.string g.name,.slice ka kn kc] ac):=⟨_,rfl⟩
   have e6:=congrArg some b8;have l:Inv w [] [.blk b2 (.cells a2.toArray aj),B4,B6] Sj w':=by rw [b8]; exact l
   refine au l 2 ad e6 rfl ?_;refine Run.callPure up vz l (r2 f9) fun w' l=>?_;refine aE (fun hc=>?_) (fun hc=>?_)
   ·refine au l 0 aq rfl (by simpa using a8) ?_;refine zp ?_;refine Run.call0E ch cg l (bR ⟨13,0,0,emptyB⟩ b3 (by omega)) fun v' I' S2 w'=>?_;rintro ⟨rfl,a3,rfl,p⟩ a4 l;refine al l 0 rfl aq (by simpa using p.length) (by simpa using a8) (by simpa using p.one) fun w' l=>?_;have e:fE B g=B.emit ⟨13,0,0,emptyB⟩:=by rw [fE,ai hc]
    rw [e];exact ⟨a3,S2,a4,p,l.pick [true,true,false]⟩
   have e:fE B g=(dT B 0 g.kids).emit ⟨if dM g=true then 12 else 11,g.kids.length,0,g.name⟩:=by rw [fE,ah (by rw [hc]; decide)]
   rw [e];have e5:∀ t∈g.kids,okU 26 t:=fO e3.1.kids;have g0:=e0.le;simp only [maxLen] at g0;refine ⟨fun i w'=>∃ (m:Nat) (U:CS) (M:List Value) (Sm:af),m<=g.kids.length/\i=.int .i64 m/\Ext w.heap.size [] Sj Sm/\MkS Sm M U/\U.sl.length=26/\0<=U.next/\U.sz+8 * bi (g.kids.drop m)<=B.sz+8 * bi g.kids/\dT B 0 g.kids=dT U m (g.kids.drop m)/\
     Inv w [] [.blk b2 (.cells M.toArray aj),B4,B6] Sm w',fun i _=>g.kids.length - (intOf i).toNat,
     ⟨0,B,a2,Sj,aQ _,rfl,Ext.refl _ _ _,b3,d3,e8,by rw [dk]; omega,by rw [dk]; rfl,l⟩,?_⟩
   intro i _ _ h0 h1 h2 h3 h4 h5 h6 h7 _ _ _ _ _ w';rintro ⟨m,U,M,Sm,hm,rfl,c7,d0,d4,f0,f1,b7,l⟩;have c1:=e0.monoT c7.1;have a0:=d0.length;refine ag l 2 e6 av ar rfl ?_;refine aL c1 ao ?_;refine cq ?_;have g1:U.sz<=900000000:=by have:=bW (g.kids.drop m); omega
   have g7:U.next<=900000000/\U.code.length<=900000000:=by
    unfold CS.sz at g1;omega
   refine aR (fun f5=>?_) (fun f5=>?_)
   ·have a1:m<g.kids.length:=by omega
    obtain ⟨u,hu⟩:∃ u,u=g.kids[m]:=⟨_,rfl⟩
    have g2:okU 26 u:=by rw [hu]; exact e5 _ (cr a1)
    have g8:=bW (g.kids.drop (m+1));rw [hK g.kids m a1,<- hu] at f1;rw [uG g.kids U m m a1,<- hu] at b7;obtain ⟨bq,oq,cap,c,E,fz,f6,f7,b9⟩:=c1.at_ a1;rw [<- hu] at b9;obtain ⟨du,e1⟩:∃ du,du=bd c (oq+m * 4) 4:=⟨_,rfl⟩
    rw [<- e1] at b9;rw [f6] at b8;have e6:=congrArg some b8;refine ⟨fun D th qS iJ nM ri uy uu sK w_=>Fx D 0 [sK=.agg M.toArray,uu=.pointer (some ⟨b6,3,none⟩),uy=.slice (some ⟨bq,oq,none⟩) g.kids.length cap,ri=.int .i64 (m:Int),nM=.pointer (some ⟨bq,oq+m * 4,none⟩),iJ=.agg du.toArray,qS=.int .i64 (m:Int),True,True]/\∃ Z:Nat,Z<=2/\D 7=decide (1<=Z)/\D 8=decide (2<=Z)/\(emS w [] (fun c=>[.blk b2 (.cells c aj),B4,B6]) Sm M.toArray (eN U m u) th w_ Z/\(D 8=true->D 0=true)),⟨Fx.nil _ _,⟨0,aQ _,rfl,rfl,⟨l.draw,aP⟩⟩⟩,⟨?_,?_,?_,?_,?_,?_,?_,?_,?_,trivial⟩,?_⟩;all_goals (intro D bm; intros; rename_i th qS iJ nM ri uy uu sK w_ d6; have G:=d6.1; obtain ⟨⟨c9,cX,cZ,c4,cY,c8,cB,df,dK,_⟩,⟨Z,N,r,q,O⟩⟩:=d6)
    ·have dK:D 8=false:=bS.2 fun h=>by rw [O.2 h] at bm; cases bm
     obtain ⟨S6,C,l⟩:=O.1.inv (Fe q dK);refine au l 0 aq rfl (by simpa using a0) ?_;have O:=And.intro O.1 (fun (_:aB D 0 8=true)=>(rfl:aB D 0 0=true));exact ⟨G.set 0 rfl,⟨Z,N,r,q,O⟩⟩
    ·refine ay av ?_;exact ⟨G.set 1 rfl,⟨Z,N,r,q,O⟩⟩
    ·obtain rfl:=cX ‹_›;obtain ⟨S6,c6,C,l⟩:=O.1.any;refine aJ l 2 ar e6 rfl ?_;exact ⟨G.set 2 rfl,⟨Z,N,r,q,O⟩⟩
    ·exact ⟨G.set 3 rfl,⟨Z,N,r,q,O⟩⟩
    ·obtain rfl:=cZ ‹_›;obtain rfl:=c4 ‹_›;refine aN ao a1 ?_;exact ⟨G.set 4 rfl,⟨Z,N,r,q,O⟩⟩
    ·obtain rfl:=cY ‹_›;obtain ⟨S6,c6,C,l⟩:=O.1.any;refine dC (cs:=du) ad b9.length (fun f v hf=>by rw [l.cellS (C _ _ f7)]; exact aX e1.symm f v hf) ?_;exact ⟨G.set 5 rfl,⟨Z,N,r,q,O⟩⟩
    ·exact ⟨G.set 6 rfl,⟨Z,N,r,q,O⟩⟩
    ·obtain rfl:=c9 ‹_›;obtain rfl:=c8 ‹_›;obtain rfl:=cB ‹_›;obtain rfl:Z=0:=s9 r bm;refine Run.call0E DR Cz O.1 (Aw (i:=(m:Int)) d0 b9 g2 d4 f0 (by omega)) fun v' I' S6 w_=>?_;rintro ⟨rfl,V,rfl,Y⟩ C l;have d1:emS w [] (fun c=>[.blk b2 (.cells c aj),B4,B6]) Sm M.toArray (eN U m u) (.agg V.toArray) w_ 1:=⟨S6,V,rfl,Y,C,l⟩
     exact ⟨G.set 7 (by first|assumption|trivial),⟨1,by decide,rfl,(by first|exact q|rfl),⟨d1,O.2⟩⟩⟩
    ·have zJ:=df ‹_›;obtain rfl:Z=1:=fK r ‹D 7=true› q bm;obtain ⟨S6,V,rfl,Y,C,l⟩:=O.1;refine al l 0 rfl aq (by simpa using Y.length) (by simpa using a0) (by simpa using Y.one) fun w_ l=>?_;have d1:emS w [] (fun c=>[.blk b2 (.cells c aj),B4,B6]) Sm M.toArray (eN U m u) (.agg V.toArray) w_ 2:=⟨S6,V,Y,C,l⟩
     exact ⟨G.set 8 trivial,⟨2,by decide,(by first|exact r|rfl),rfl,⟨d1,fun _=>‹D 0=true›⟩⟩⟩
    obtain rfl:Z=2:=qF N q ‹D 8=true›;clear r q;obtain ⟨S6,V,Y,C,l⟩:=O.1;refine bz (by omega) ?_;have b0:=EP U m u;have g3:=(ze U m u).2;exact ⟨⟨m+1,_,V,S6,a1,rfl,c7.trans C,Y,by rw [b0.len]; exact d4,by have:=b0.next; omega,by omega,b7,l⟩,by simp [intOf]; omega⟩
   have g4:m=g.kids.length:=by omega
   subst g4;rw [dV,dT] at b7;rw [b7];refine ⟨fun o w'=>o=.int .i64 (if dM g=true then 12 else 11)/\Inv w [] [.blk b2 (.cells M.toArray aj),B4,B6] Sm w',?_,?_⟩
   ·refine ag l 2 e6 aW aO rfl ?_;refine ag l 2 e6 av ar rfl ?_;refine aL c1 ao ?_;refine Run.callPure ik im l (gl _ _ Sm) fun w' l=>?_;have eb:dM g=eM g.name g.kids.length:=by rw [dM,bb e3.2,dL]
    refine aE (fun hb=>?_) (fun hb=>?_)
    ·exact ⟨by rw [ai (by rw [eb]; exact hb)],l⟩
    ·exact ⟨by rw [ah (by rw [eb,hb]; decide)],l⟩
   intro o _ _ _ _ _ _ w';rintro ⟨rfl,l⟩;refine au l 0 aq rfl (by simpa using a0) ?_;refine ag l 2 e6 av ar rfl ?_;refine aL c1 ao ?_;refine ag l 2 e6 aW aO rfl ?_;refine FV ?_;refine Run.call0E ch cg l (bR ⟨if dM g=true then 12 else 11,g.kids.length,0,g.name⟩ d0 (by omega)) fun v' I' S2 w'=>?_;rintro ⟨rfl,a3,rfl,p⟩ a4 l;refine al l 0 rfl aq (by simpa using p.length) (by simpa using a0) (by simpa using p.one) fun w' l=>?_;exact ⟨a3,S2,c7.trans a4,p,l.pick [true,true,false]⟩
  intro _ _ _ _ _ _ _ _ _ _ _ _ _ _ _ _ _ _ _ _ _ _ _ _ _ _ _ _ _ _ _ _ _ _ _ _ _ _ _ _ _ _ w';rintro ⟨b1,Sn,f2,f3,l⟩;refine bz (by omega) ?_;have b0:=Hc B g;have g3:=(B7 B g).2;exact ⟨⟨j+1,_,b1,Sn,a9,rfl,c5.trans f2,f3,by rw [b0.len]; exact d3,by have:=b0.next; omega,by omega,b5,l⟩,by simp [intOf]; omega⟩
 have g5:j=J.length:=by omega
 subst g5;rw [dV,dP] at b5;rw [b5];refine au l 0 aq rfl (by simpa using a8) ?_;refine zp ?_;refine Run.call0E ch cg l (bR ⟨14,0,0,emptyB⟩ b3 (by omega)) fun v' I' S2 w'=>?_;rintro ⟨rfl,a3,rfl,p⟩ a4 l;refine al l 1 e4 aq (by simpa using p.length) rfl (by simpa using p.one) fun w' l=>?_;refine a5 l 1 aq rfl (by simpa using p.length) ?_;exact ⟨_,_,S2,rfl,l.nil,c5.trans a4,rfl,a3,rfl,p⟩
end
end
section
open Go Go.RowKit
theorem xY:∀ (a:List T) (s:CS),∀ x∈(bA s a).2,x.1∈a
 | [],s,x,h=>by rw [bA] at h; cases h
 | t::a,s,x,h=>by
  rw [bA] at h;rcases dh.1 h with h|h
  ·unfold co at h;split at h
   ·rw [fl.1 h]; exact cQ ..
   ·cases h
  ·exact c7 _ (xY a _ x h)
section
variable {P:Program} {w w0:World} {X:List Nat} {L:List Item} {S:af} {K:Value->World->Prop}
attribute [local irreducible] Run CondV aw aI
theorem Fp (h:Inv w0 X L S w) (i:Nat) {T ty e:TypeId} {cs:List Bool} {k n:Nat} {v:Value} {xs:List Value} {Ek:TypeId × Nat} (j:L[i]?=some (.row v e k n xs)) (a:cf P T=some Ek) (hk:K (.int .i64 (n:Int)) w) :
  Run P (bn .len #[T] ty cs [v]) w K:=by
 have l:w.ownsRow 0 e k v n xs:=h.its (.row v e k n xs) (fw j);rcases l.2 with ⟨rfl,hn⟩|⟨g,cap,m,rfl,_⟩
 ·subst hn;exact gg a hk
 ·exact gg a hk
end
section
attribute [local irreducible] Run CondV aw aI
set_option maxHeartbeats 2000000 in
theorem zk {s:CS} {V:List T} {S:af} {cs:List Value} {v:Value} (h:MkS S cs s) (f1:RdSl S 4 (RdT S) v V) (ho:∀ t∈V,okU 26 t) (hl:s.sl.length=26) (h5:0<=s.next) (k6:s.sz+16 * bi V<=800000000) :
  Tri Tryz.prog DI [.agg cs.toArray,v] [] S (xf (gU s V)):=by
 intro w a;have l9:=h.length;have g0:=f1.le;simp only [maxLen] at g0;have m0:0<=s.sz:=by unfold CS.sz; omega
 have m1:=fW V;refine rD.2 ?_;dsimp only[rD,a6];refine bB a fun b2 w' a=>?_;refine aF a dg fun b4 w' a=>?_;refine ey a gK fun Z w' a=>?_;obtain ⟨B4,f5⟩:∃ B4,B4=Item.blk b4 (.cells #[.slice none 0 0,.int .i64 0,.slice none 0 0] aj):=⟨_,rfl⟩
 have e4:=congrArg some f5;have a:Inv w [] [.blk b2 (.cells cs.toArray aj),B4,ax Z bH 5 []] S w':=by rw [f5]; exact a
 refine ⟨fun i Z w'=>∃ (j:Nat) (l:CS) (a8:List Value) (Sj:af) (css:List (List Value)) (q:List (T × Int)),j<=V.length/\i=.int .i64 j/\Ext w.heap.size [] S Sj/\MkS Sj a8 l/\l.sl.length=26/\0<=l.next/\l.sz<=s.sz+j/\q.length<=j/\(∀ x∈q,okU 26 x.1)/\bG s 0 V=((bG l j (V.drop j)).1,q++(bG l j (V.drop j)).2)/\Rows 5 (RdQ Sj) css q/\
   Inv w [] [.blk b2 (.cells a8.toArray aj),B4,ax Z bH 5 css] Sj w',fun i _ _=>V.length - (intOf i).toNat,
   ⟨0,s,cs,S,[],[],aQ _,rfl,Ext.refl _ _ _,h,hl,h5,by omega,by simp,fun x hx=>by simp at hx,by rw [dk,ss]; rfl,Rows.nil _ _,a⟩,?_⟩
 intro i _ _ Z _ _ _ _ _ _ _ _ _ _ _ _ _ _ _ k7 k8 k9 l0 l1 l2 l3 l4 l5 l6 _ _ _ _ _ _ _ _ _ _ _ _ _ _ _ _ _ _ _ _ _ _ _ _ _ _ _ _ _ _ _ _ w';rintro ⟨j,l,a8,Sj,css,q,hj,rfl,d3,U,d6,h6,h7,l7,b1,hA,hR,a⟩;have d1:=f1.monoT d3.1;have d2:=U.length;refine aL d1 ao ?_;refine cq ?_;refine aR (fun d7=>?_) (fun d7=>?_)
 ·have c3:j<V.length:=by omega
  obtain ⟨u,hu⟩:∃ u,u=V[j]:=⟨_,rfl⟩
  have c6:okU 26 u:=by rw [hu]; exact ho _ (cr c3)
  rw [rE V l j j c3,<- hu] at hA;have m2:=hR.hc;have hb:l.sz<=900000000:=by omega
  have g3:l.next<=900000000/\l.code.length<=900000000:=by
   unfold CS.sz at hb;omega
  refine ⟨fun Z w'=>∃ (p:List Value) (Sn:af) (css:List (List Value)),Ext w.heap.size [] Sj Sn/\MkS Sn p (bD l j u).1/\Rows 5 (RdQ Sn) css (q++(bD l j u).2)/\
    Inv w [] [.blk b2 (.cells p.toArray aj),B4,ax Z bH 5 css] Sn w',?_,?_⟩
  ·refine dx a d1 ao ad c3 (fun _ _=>RdT.length) fun ds a3=>?_;rw [<- hu] at a3;have j0:=a3.length;refine aF a aZ fun b8 w' a=>?_;refine al a 3 rfl ad (by simpa using j0) rfl (by simpa using a3.one) fun w' a=>?_;have g4:=a3;obtain ⟨b3,rfl,_,_,_,k1⟩:=RdT.iff.1 a3;obtain ⟨B8,f6⟩:∃ B8,B8=Item.blk b8 (.cells #[.int .i64 u.kind,.int .i64 u.n,.string u.name,b3] ac):=⟨_,rfl⟩
   have e8:=congrArg some f6;have a:Inv w [] [.blk b2 (.cells a8.toArray aj),B4,ax Z bH 5 css,B8] Sj w':=by rw [f6]; exact a
   have fin:∀ (p:List Value) (Sn:af) (Y:CS) (w':World),bD l j u=(Y,[])->Ext w.heap.size [] Sj Sn->MkS Sn p Y->Inv w [] [.blk b2 (.cells p.toArray aj),B4,ax Z bH 5 css,B8] Sn w'->∃ (p:List Value) (Sn:af) (css:List (List Value)),Ext w.heap.size [] Sj Sn/\MkS Sn p (bD l j u).1/\Rows 5 (RdQ Sn) css (q++(bD l j u).2)/\
     Inv w [] [.blk b2 (.cells p.toArray aj),B4,ax Z bH 5 css] Sn w':=fun p Sn Y w' e h1 h2 h3=>by
    rw [e];exact ⟨p,Sn,css,h1,h2,by rw [cS]; exact hR.monoR fun _ _ h=>h.mono h1.1,h3.pick [true,true,true,false]⟩
   refine ag a 3 e8 aV az rfl ?_;refine bo ?_;refine aR (fun h2=>?_) (fun h2=>?_)
   ·refine au a 0 aq rfl (by simpa using d2) ?_;refine ag a 3 e8 aM az rfl ?_;refine gM ?_;refine Run.call0E ch cg a (bR ⟨2,u.n,j,emptyB⟩ U (by omega)) fun v' I' S2 w'=>?_;rintro ⟨rfl,G,rfl,o⟩ B a;refine al a 0 rfl aq (by simpa using o.length) (by simpa using d2) (by simpa using o.one) fun w' a=>?_;exact fin G S2 _ _ (by rw [bD,ai h2]) B o a
   refine ⟨fun q w'=>q=.bool (decide (u.kind=1/\0<=l.at_ u.n))/\Inv w [] [.blk b2 (.cells a8.toArray aj),B4,ax Z bH 5 css,B8] Sj w',?_,?_⟩
   ·refine ag a 3 e8 aV az rfl ?_;refine bo ?_;by_cases h1:u.kind=1
    ·rw [bb h1];refine rpG ?_;obtain ⟨v1,v2,rfl,g1,g2⟩:=id U;have hv:=c6.var h1;obtain ⟨m,hm⟩:∃ m:Nat,u.n=(m:Int):=⟨u.n.toNat,by omega⟩
     have b0:m<l.sl.length:=by omega
     refine ag a 0 rfl cH fi rfl ?_;refine ag a 3 e8 aM az rfl ?_;rw [hm,qM b0];refine i7 a g1 el az b0 (fun cs d9=>d9) ?_;refine jI ?_;refine rpG ?_;refine ⟨?_,a⟩;simp [h1]
    ·rw [bk h1];refine rpG ?_;refine ⟨?_,a⟩;simp [h1]
   intro z _ _ _ _ _ _ _ _ _ _ _ _ w';rintro ⟨rfl,a⟩;refine aR (fun e0=>?_) (fun e0=>?_)
   ·obtain ⟨h1,h0⟩:=e0;have e:bD l j u=(l.emit ⟨1,l.at_ u.n,j,emptyB⟩,[]):=by rw [bD,ah h2,ai h1,ai h0]
    have hv:=c6.var h1;obtain ⟨m,hm⟩:∃ m:Nat,u.n=(m:Int):=⟨u.n.toNat,by omega⟩
    have b0:m<l.sl.length:=by omega
    obtain ⟨v1,v2,rfl,g1,g2⟩:=id U;obtain ⟨bq,oq,cap,c,E,fz,rfl,i4,i5⟩:=g1.at_ b0;have j1:=qM b0;refine ⟨fun D tK sC sD tp xg xJ xC xT BQ xk w_=>Fx D 0 [xk=.agg #[.slice (some ⟨bq,oq,none⟩) l.sl.length cap,.int .i64 l.next,v2],BQ=.pointer (some ⟨b2,0,none⟩),xT=.slice (some ⟨bq,oq,none⟩) l.sl.length cap,xC=.pointer (some ⟨b8,1,none⟩),xJ=.int .i64 (m:Int),xg=.pointer (some ⟨bq,oq+m * 1,none⟩),tp=.int .i64 (l.at_ u.n),sD=.int .i64 (j:Int),sC=.agg (Ist.cells ⟨1,l.at_ u.n,j,emptyB⟩).toArray,True,True]/\∃ n_:Nat,n_<=2/\D 9=decide (1<=n_)/\D 10=decide (2<=n_)/\(emS w [] (fun c=>[.blk b2 (.cells c aj),B4,ax Z bH 5 css,B8]) Sj #[.slice (some ⟨bq,oq,none⟩) l.sl.length cap,.int .i64 l.next,v2] (l.emit ⟨1,l.at_ u.n,j,emptyB⟩) tK w_ n_/\(D 10=true->D 0=true/\D 2=true)),⟨Fx.nil _ _,⟨0,aQ _,rfl,rfl,⟨a.draw,aP⟩⟩⟩,⟨?_,?_,?_,?_,?_,?_,?_,?_,?_,?_,?_,trivial⟩,?_⟩;all_goals (intro D bm; intros; rename_i tK sC sD tp xg xJ xC xT BQ xk w_ f2; have M:=f2.1; obtain ⟨⟨c9,cX,cZ,c4,cY,c8,cB,df,dK,eF,cW,_⟩,⟨n_,O,C,r,J⟩⟩:=f2)
    ·have eF:D 10=false:=bS.2 fun h=>by rw [(J.2 h).1] at bm; cases bm
     obtain ⟨S5,c2,a⟩:=J.1.inv (Fe r eF);refine au a 0 aq rfl rfl ?_;have J:=And.intro J.1 (fun (h:aB D 0 10=true)=>(⟨rfl,(J.2 h).2⟩:aB D 0 0=true/\aB D 0 2=true));exact ⟨M.set 0 rfl,⟨n_,O,C,r,J⟩⟩
    ·refine ay cH ?_;exact ⟨M.set 1 rfl,⟨n_,O,C,r,J⟩⟩
    ·obtain rfl:=cX ‹_›;have eF:D 10=false:=bS.2 fun h=>by rw [(J.2 h).2] at bm; cases bm
     obtain ⟨S5,c2,a⟩:=J.1.inv (Fe r eF);refine aJ a 0 fi rfl rfl ?_;have J:=And.intro J.1 (fun (h:aB D 2 10=true)=>(⟨(J.2 h).1,rfl⟩:aB D 2 0=true/\aB D 2 2=true));exact ⟨M.set 2 rfl,⟨n_,O,C,r,J⟩⟩
    ·refine ay aM ?_;exact ⟨M.set 3 rfl,⟨n_,O,C,r,J⟩⟩
    ·obtain rfl:=c4 ‹_›;obtain ⟨S5,c5,c2,a⟩:=J.1.any;refine aJ (v:=.int .i64 (m:Int)) a 3 az e8 (by rw [<- hm]; rfl) ?_;exact ⟨M.set 4 rfl,⟨n_,O,C,r,J⟩⟩
    ·obtain rfl:=cZ ‹_›;obtain rfl:=cY ‹_›;refine aN el b0 ?_;exact ⟨M.set 5 rfl,⟨n_,O,C,r,J⟩⟩
    ·obtain rfl:=c8 ‹_›;obtain ⟨S5,c5,c2,a⟩:=J.1.any;refine dq (v:=.int .i64 (l.at_ u.n)) az (by rw [a.cellS (c2 _ _ i4),hm,j1]; exact aX i5 0 _ rfl) ?_;exact ⟨M.set 6 rfl,⟨n_,O,C,r,J⟩⟩
    ·exact ⟨M.set 7 rfl,⟨n_,O,C,r,J⟩⟩
    ·obtain rfl:=cB ‹_›;obtain rfl:=df ‹_›;refine gM ?_;exact ⟨M.set 8 rfl,⟨n_,O,C,r,J⟩⟩
    ·obtain rfl:=c9 ‹_›;obtain rfl:=dK ‹_›;obtain rfl:n_=0:=s9 C bm;refine Run.call0E ch cg J.1 (bR ⟨1,l.at_ u.n,j,emptyB⟩ U (by omega)) fun v' I' S2 w_=>?_;rintro ⟨rfl,G,rfl,o⟩ B a;have e5:emS w [] (fun c=>[.blk b2 (.cells c aj),B4,ax Z bH 5 css,B8]) Sj #[.slice (some ⟨bq,oq,none⟩) l.sl.length cap,.int .i64 l.next,v2] (l.emit ⟨1,l.at_ u.n,j,emptyB⟩) (.agg G.toArray) w_ 1:=⟨S2,G,rfl,o,B,a⟩
     exact ⟨M.set 9 (by first|assumption|trivial),⟨1,by decide,rfl,(by first|exact r|rfl),⟨e5,J.2⟩⟩⟩
    ·have xN:=eF ‹_›;obtain rfl:n_=1:=fK C ‹D 9=true› r bm;obtain ⟨S2,G,rfl,o,B,a⟩:=J.1;refine al a 0 rfl aq (by simpa using o.length) rfl (by simpa using o.one) fun w_ a=>?_;have e5:emS w [] (fun c=>[.blk b2 (.cells c aj),B4,ax Z bH 5 css,B8]) Sj #[.slice (some ⟨bq,oq,none⟩) l.sl.length cap,.int .i64 l.next,v2] (l.emit ⟨1,l.at_ u.n,j,emptyB⟩) (.agg G.toArray) w_ 2:=⟨S2,G,o,B,a⟩
     exact ⟨M.set 10 trivial,⟨2,by decide,(by first|exact C|rfl),rfl,⟨e5,fun _=>⟨‹D 0=true›,‹D 2=true›⟩⟩⟩⟩
    obtain rfl:n_=2:=qF O r ‹D 10=true›;clear C r;obtain ⟨S2,G,o,B,a⟩:=J.1;exact fin G S2 _ _ e B o a
   refine ag a 3 e8 aV az rfl ?_;refine bo ?_;obtain ⟨v1,v2,rfl,g1,g2⟩:=id U;refine aR (fun h1=>?_) (fun h1=>?_)
   ·have hv:=c6.var h1;have h0:¬ 0<=l.at_ u.n:=fun h0=>e0 ⟨h1,h0⟩;have e:bD l j u=(l.put u.n j,[]):=by rw [bD,ah h2,ai h1,ah h0]
    refine au a 0 aq rfl rfl ?_;refine ag a 3 e8 aM az rfl ?_;refine Run.call0E lr lx a (kl (n:=u.n) (k:=(j:Int)) U d6 (by omega)) fun v' I' S2 w'=>?_;rintro ⟨rfl,G,rfl,o⟩ B a;refine al a 0 rfl aq (by simpa using o.length) rfl (by simpa using o.one) fun w' a=>?_;exact fin G S2 _ _ e B o a
   ·have e:bD l j u=(l,[(u,(j:Int))]):=by rw [bD,ah h2,ah h1]
    refine au a 3 ad e8 rfl ?_;refine ru ?_;refine fj (css:=css) a 2 [.int .i64 u.kind,.int .i64 u.n,.string u.name,b3,.int .i64 j] gK (by omega) (by omega) rfl rfl ?_ (by omega) (by omega) fun i3 w' a=>?_
    ·exact RdQ.one (S:=Sj) (x:=(u,(j:Int))) ⟨[.int .i64 u.kind,.int .i64 u.n,.string u.name,b3],rfl,g4⟩
    have c1:Rows 5 (RdQ Sj) (css++[[.int .i64 u.kind,.int .i64 u.n,.string u.name,b3,.int .i64 j]]) (q++[(u,(j:Int))]):=hR.snoc ⟨_,rfl,g4⟩ rfl;generalize css++[[.int .i64 u.kind,.int .i64 u.n,.string u.name,b3,.int .i64 j]]=a4 at a c1;rw [e];exact ⟨[v1,.int .i64 l.next,v2],Sj,a4,Ext.refl _ _ _,U,c1,a.pick [true,true,true,false,false]⟩
  intro Z _ _ _ _ _ _ _ _ _ _ _ _ _ _ _ _ _ _ _ _ _ _ _ _ _ _ _ _ _ _ _ _ _ _ _ _ _ _ _ _ _ _ _ _ _ _ _ _ _ _ _ _ _ w';rintro ⟨p,Sn,css,b7,a9,hR,a⟩;refine bz (by omega) ?_;have hg:=BI l j u;have hz:=(vw l j u).2;refine ⟨⟨j+1,(bD l j u).1,p,Sn,css,q++(bD l j u).2,c3,rfl,d3.trans b7,a9,by rw [hg.len]; exact d6,by have:=hg.next; omega,by omega,?_,?_,?_,hR,a⟩,by simp [intOf]; omega⟩
  ·have:(bD l j u).2.length<=1:=by
    unfold bD;split
    ·exact aQ _
    ·split
     ·exact aQ _
     ·exact a7 _
   rw [bv]; omega
  ·intro x hx;rcases dh.1 hx with hx|hx
   ·exact b1 x hx
   ·unfold bD at hx;split at hx
    ·cases hx
    ·split at hx
     ·cases hx
     ·rw [fl.1 hx]; exact c6
  ·rw [hA,d4]; rfl
 have j2:j=V.length:=by omega
 subst j2;rw [dV,bG,cS] at hA;have hA:bG s 0 V=(l,q):=hA;have g5:=mi V s 0;rw [hA] at g5;obtain ⟨e1,i6,f7,i8⟩:=g5;have e1:s.sz<=l.sz:=e1;have f7:((cU q:Nat):Int)<=bi V:=f7;have g6:gU s V=eE (cU q) l q:=by rw [gU,hA]
 rw [g6];have hB:l.sz+8 * cU q<=800000000/\0<=l.sz:=by omega
 clear e1 i6 i8 h7 hA g6;refine ⟨fun i Z w'=>∃ (m f:Nat) (Y:CS) (p:List Value) (Sn:af) (css:List (List Value)) (N:List (T × Int)),m<=N.length/\i=.int .i64 m/\Ext w.heap.size [] S Sn/\MkS Sn p Y/\Y.sl.length=26/\0<=Y.next/\m+cU (N.drop m)<=cU q/\cU (N.drop m)<=f/\Y.sz+8 * cU (N.drop m)<=800000000+2 * (N.drop m).length/\eE (cU q) l q=eE f Y (N.drop m)/\(∀ x∈N,okU 26 x.1)/\Rows 5 (RdQ Sn) css N/\
   Inv w [] [.blk b2 (.cells p.toArray aj),B4,ax Z bH 5 css] Sn w',fun i _ _=>cU q - (intOf i).toNat,
   ⟨0,cU q,l,a8,Sj,css,q,aQ _,rfl,d3,U,d6,h6,by rw [dk]; omega,by rw [dk]; exact a7 _,by rw [dk]; omega,by rw [dk],b1,hR,a⟩,?_⟩
 intro i _ _ Z _ _ _ _ _ _ _ _ _ _ _ _ _ _ _ _ _ _ _ _ _ _ _ _ _ _ _ _ _ _ _ _ _ _ _ w';rintro ⟨m,f,Y,p,Sn,css,N,hm,rfl,b7,a9,h8,h9,i0,hf,i1,a1,b1,hR,a⟩;have a0:=a9.length;have m3:=hR.hc;have m4:=fq (N.drop m);have m5:(N.drop m).length=N.length - m:=BB ..;refine Fp a 2 rfl sF ?_;refine cq ?_;refine aR (fun d7=>?_) (fun d7=>?_)
 ·have c7:m<css.length:=by omega
  have e6:m<N.length:=by omega
  obtain ⟨x,hx⟩:∃ x,x=N[m]:=⟨_,rfl⟩
  obtain ⟨q2,e2⟩:∃ q2,q2=N.drop (m+1):=⟨_,rfl⟩
  have hd:N.drop m=x::q2:=by rw [hx,e2,dr e6]
  rw [hd,cU] at i0 hf;rw [hd,cU,bg] at i1;rw [hd] at a1;have g7:okU 26 x.1:=by rw [hx]; exact b1 _ (cr e6)
  have e7:RdQ Sn css[m] x:=by rw [hx]; exact hR.hR m e6 c7
  have g8:=hR.hk _ (cr c7);obtain ⟨g,cap,rfl,b5⟩:=a.rowPtr (i:=2) rfl c7 hR.hk;obtain ⟨cm,i9⟩:∃ cm,cm=css[m]:=⟨_,rfl⟩
  rw [<- i9] at e7 g8 b5;obtain ⟨ds,d9,a3⟩:=id e7;obtain ⟨kx,f8,_,_,_,e3⟩:=RdT.iff.1 a3;subst f8;subst d9;have j3:=e3.le;simp only [maxLen] at j3;have m6:(bT x.1).toNat=1+(bi x.1.kids).toNat:=by
   have:=bW x.1.kids;obtain ⟨x1,x2⟩:=x;cases x1;simp only [bT,T.kids] at this ⊢;omega
  have m7:=bW x.1.kids;have k2:=fW x.1.kids;have k3:=fq q2;have k4:q2.length=N.length - (m+1):=by rw [e2,BB]
  have g3:Y.next<=810000000/\Y.code.length<=810000000:=by
   have hb:Y.sz<=810000000:=by omega
   unfold CS.sz at hb;omega
  obtain ⟨f,rfl⟩:∃ g,f=g+1:=⟨f - 1,by omega⟩
  rw [eE] at a1;obtain ⟨se,b6⟩:∃ se,se=Y.emit ⟨3,x.1.kids.length,x.2,x.1.name⟩:=⟨_,rfl⟩
  have m8:se.sz=Y.sz+1:=by rw [b6,dc]
  have g9:se.sl.length=26:=by rw [b6]; exact h8
  have j5:0<=se.next:=by rw [b6]; exact h9
  rw [<- b6] at a1;have j6:=(n9 x.1.kids se).2;have j7:=kC x.1.kids se;have j8:=rc x.1.kids se;have f0:=vt x.1.kids se;have h4:=xY x.1.kids se;refine aN sF c7 ?_;refine dC (cs:=[.int .i64 x.1.kind,.int .i64 x.1.n,.string x.1.name,kx]++[.int .i64 x.2]) um g8 (fun f v hf=>by rw [ct]; exact b5 f v hf) ?_;refine aF a DS fun b9 w' a=>?_;refine al a 3 rfl um rfl rfl (by simpa using e7.one) fun w' a=>?_;obtain ⟨B9,f9⟩:∃ B9,B9=Item.blk b9 (.cells #[.int .i64 x.1.kind,.int .i64 x.1.n,.string x.1.name,kx,.int .i64 x.2] bH):=⟨_,rfl⟩
  have e9:=congrArg some f9;have a:Inv w [] [.blk b2 (.cells p.toArray aj),B4,ax (.slice (some ⟨g,0,none⟩) css.length cap) bH 5 css,B9] Sn w':=by rw [f9]; exact a
  refine au a 0 aq rfl (by simpa using a0) ?_;refine ay j4 ?_;refine ay av ?_;refine aJ a 3 ar e9 rfl ?_;refine aL e3 ao ?_;refine ag a 3 e9 yH az rfl ?_;refine ay j4 ?_;refine ay aW ?_;refine aJ a 3 aO e9 rfl ?_;refine zw ?_;refine Run.call0E ch cg a (bR ⟨3,x.1.kids.length,x.2,x.1.name⟩ a9 (by omega)) fun v' I' S2 w'=>?_;rintro ⟨rfl,G,rfl,o⟩ B a;rw [<- b6] at o;refine al a 0 rfl aq (by simpa using o.length) (by simpa using a0) (by simpa using o.one) fun w' a=>?_;refine au a 0 aq rfl (by simpa using o.length) ?_;refine ay j4 ?_;refine ay av ?_;refine aJ a 3 ar e9 rfl ?_;refine Run.call0E rM r3 a (o7 o (e3.monoT B.1) (fO g7.kids) g9 j5 (by omega)) fun v' I' S3 w'=>?_;rintro ⟨rfl,i2,lu,rfl,a2,f3⟩ f4 a;refine aA rfl ?_;refine aA rfl ?_;refine aF a dg fun l8 w' a=>?_;refine al a 4 rfl aq (by simpa using a2.length) rfl (by simpa using a2.one) fun w' a=>?_;refine au a 4 aq rfl (by simpa using a2.length) ?_;refine al a 0 rfl aq (by simpa using a2.length) (by simpa using o.length) (by simpa using a2.one) fun w' a=>?_;obtain ⟨A,hA⟩:∃ A,A=bA se x.1.kids:=⟨_,rfl⟩
  rw [<- hA] at a1 j6 j7 j8 f0 h4 f3 a2;have k5:=fq A.2;refine gq (css:=css) a 2 gK (by omega) rfl f3 (fun _ _ h=>h.length) (fun _ _ h=>h.one) (by omega) (by omega) fun i3 w' a4 c1 a=>?_;refine bz (by omega) ?_;have j9:Rows 5 (RdQ S3) (css++a4) (N++A.2):=(hR.monoR fun _ _ h=>(h.mono B.1).mono f4.1).append c1;have d0:(N++A.2).drop (m+1)=q2++A.2:=by rw [e2,G8 (by omega)]
  refine ⟨⟨m+1,f,A.1,i2,S3,css++a4,N++A.2,by rw [bv]; omega,rfl,(b7.trans B).trans f4,a2,by rw [f0.len]; exact g9,by have:=f0.next; omega,?_,?_,?_,?_,?_,j9,a.pick [true,true,true,false,false]⟩,by simp [intOf]; omega⟩
  ·rw [d0,fx]; omega
  ·rw [d0,fx]; omega
  ·rw [d0,fx,bv]; omega
  ·rw [d0]; exact a1
  ·intro y hy;rcases dh.1 hy with hy|hy
   ·exact b1 y hy
   ·exact fO g7.kids _ (h4 y hy)
 have k0:m=N.length:=by omega
 subst k0;have e:eE f Y []=Y:=by cases f <;> rfl
 rw [dV,e] at a1;rw [a1];refine au a 0 aq rfl (by simpa using a0) ?_;refine al a 1 e4 aq (by simpa using a0) rfl (by simpa using a9.one) fun w' a=>?_;refine a5 a 1 aq rfl (by simpa using a0) ?_;exact ⟨_,_,Sn,rfl,a.nil,b7,rfl,p,rfl,a9⟩
end
end
section
open Go Go.RowKit
mutual
def okH:T->Prop
 | .mk k n s ks=>((k=1/\0<=n/\n<26) ∨ (k=2/\-999<=n/\n<=999) ∨ (k=3/\gE s=true/\ks.length<=4))/\I6 ks
def I6:List T->Prop
 | []=>True
 | t::ts=>okH t/\I6 ts
end
theorem okH.kind {t:T} (h:okH t):(t.kind=1/\0<=t.n/\t.n<26) ∨ (t.kind=2/\-999<=t.n/\t.n<=999) ∨ (t.kind=3/\gE t.name=true/\t.kids.length<=4):=by
 cases t; rw [okH] at h; exact h.1
theorem okH.kids {t:T} (h:okH t):I6 t.kids:=by cases t; rw [okH] at h; exact h.2
def Lm (x:Ist):Prop:=(-999<=x.a/\x.a<=999/\0<=x.b/\x.b<=999)/\
 (((x.op=1 ∨ x.op=2 ∨ x.op=8 ∨ x.op=9 ∨ x.op=10)/\x.name=emptyB) ∨ ((x.op=3 ∨ x.op=7)/\gE x.name=true/\x.a<=4) ∨
   ((x.op=4 ∨ x.op=5 ∨ x.op=6)/\x.b=0/\x.name=emptyB) ∨ ((x.op=11 ∨ x.op=12)/\x.b=0/\gE x.name=true/\x.a<=4) ∨ ((x.op=13 ∨ x.op=14)/\x.a=0/\x.b=0/\x.name=emptyB))
def AllL (xs:List Ist):Prop:=∀ x∈xs,Lm x
theorem AllL.nil:AllL []:=fun x a=>(by cases a)
theorem AllL.cons {x:Ist} {xs:List Ist} (h:Lm x) (g:AllL xs):AllL (x::xs):=fun y a=>by
 rcases fm.1 a with rfl|a
 ·exact h
 ·exact g y a
theorem AllL.app {xs ys:List Ist} (h:AllL xs) (g:AllL ys):AllL (xs++ys):=fun y a=>by
 rcases dh.1 a with a|a
 ·exact h y a
 ·exact g y a
def Pd0 (q:List (T × Int)):Prop:=∀ p∈q,okH p.1/\0<=p.2/\p.1.kind=3
theorem Pd0.w {q:List (T × Int)} (h:Pd0 q):∀ p∈q,okH p.1/\0<=p.2/\p.1.kind=3:=h
theorem BC:∀ {a:List T},(∀ t∈a,cD t=true)->bi a<=120 * (a.length:Int)
 | [],_=>by simp [bi]
 | t::a,h=>by
  have i:=h t (cQ ..);rw [cD,bJ,bQ] at i;have:=BC fun x g=>h x (c7 _ g);rw [bi,bg];omega
end
section
open Go Go.RowKit
theorem z3 (s:CS) (a:List T):(gU s a).sz<=s.sz+a.length+8 * bi a:=by
 have g:=mi a s 0;have h:=(Eg (cU (bG s 0 a).2) (bG s 0 a).1 (bG s 0 a).2).2;rw [gU];omega
theorem uB {c:C} (h:a4 c=true):bi c.head.kids<=120/\bi c.body<=720:=by
 rw [a4] at h;simp only [bJ,gR,bQ] at h;have v1:cD c.head=true:=h.2.2.1;have v2:∀ t∈c.body,cD t=true:=fun t a=>by
  have:=h.2.1 t a;rw [dF,bJ] at this;exact this.1
 have j:bT c.head<=120:=by rw [cD,bJ,bQ] at v1; exact v1.2
 have l:=BC v2;have g:c.body.length<=6:=h.1;have i:bT c.head=1+bi c.head.kids:=by cases c.head; rw [bT]; rfl
 omega
def tt (P:Program) (T:TypeId) (f d:Nat):Bool:=match P.underlying T with
 | some (.struct fs)=>match fs[f]? with
  | some fd=>Nat.beq fd.offset d && iv P fd.type
  | none=>false
 | _=>false
def IsM (S:af) (v:Value) (s:CS):Prop:=∃ cs:List Value,v=.agg cs.toArray/\MkS S cs s
theorem IsM.mono {S S':af} {v:Value} {s:CS} (h:IsM S v s) (a:Sle S S'):IsM S' v s:=by
 obtain ⟨cs,e,g⟩:=h;exact ⟨cs,e,g.mono a⟩
theorem Gm (n:Nat):Rows 1 gL (List.replicate n [Value.int .i64 (-1)]) (List.replicate n (-1)):=
 ⟨by simp,fun c hc=>by rw [List.eq_of_mem_replicate hc]; rfl,fun i a g=>by simp [gL]⟩
section
attribute [local irreducible] Run CondV aw aI
theorem FT {w:World} {K:Value->World->Prop} {k:Int} (hk:K (.agg #[.slice none 0 0,.int .i64 k,.slice none 0 0]) w):Run Tryz.prog (bP aj [(1,.int .i64 k)]) w K:=by
 refine Run.of (v:=.agg #[.slice none 0 0,.int .i64 k,.slice none 0 0]) (w':=w) ?_ hk;unfold bP;rw [Sem.run_bind,run_build w aj _ #[.slice none 0 0,.int .i64 k,.slice none 0 0] (by kernel_rfl),Result.andThen_ok];rfl
theorem vY {S:af}:Tri Tryz.prog z6 [] [] S (xf startC):=by
 intro w a;refine py.2 ?_;dsimp only[py,mB];refine aF a dg fun h w' a=>?_;refine FT ?_;refine aF a dg fun l w' a=>?_;refine al a 1 rfl aq rfl rfl (by simp [Value.oneCell']) fun w' a=>?_;have a:=a.rowNil ce 1;have a:Inv w [] [.blk h (.cells #[.slice none 0 0,.int .i64 0,.slice none 0 0] aj),.blk l (.cells #[.slice none 0 0,.int .i64 4,.slice none 0 0] aj),ax (.slice none 0 0) ce 1 (List.replicate 0 [Value.int .i64 (-1)])] S w':=a;refine ⟨fun i w'=>∃ (j:Nat) (v:Value),j<=26/\i=.int .i64 j/\Inv w [] [.blk h (.cells #[.slice none 0 0,.int .i64 0,.slice none 0 0] aj),.blk l (.cells #[v,.int .i64 4,.slice none 0 0] aj),ax v ce 1 (List.replicate j [Value.int .i64 (-1)])] S w',fun i _=>26 - (intOf i).toNat,⟨0,_,by omega,rfl,a⟩,?_⟩;intro i _ _ _ _ _ _ _ _ _ w';rintro ⟨j,v,t,rfl,a⟩;refine fI ?_;refine aR (fun m=>?_) (fun m=>?_)
 ·refine ag a 1 rfl cH fi rfl ?_;refine nF (css:=List.replicate j [Value.int .i64 (-1)]) a 2 iX rfl rfl rfl (by rw [List.length_replicate]; omega) (by omega) fun v2 w' a=>?_;rw [show List.replicate j [Value.int .i64 (-1)]++[[Value.int .i64 (-1)]]=List.replicate (j+1) [Value.int .i64 (-1)] from List.replicate_succ'.symm] at a;have a:Inv w [] [.blk h (.cells #[.slice none 0 0,.int .i64 0,.slice none 0 0] aj),.blk l (.cells #[v,.int .i64 4,.slice none 0 0] aj),ax v2 ce 1 (List.replicate (j+1) [Value.int .i64 (-1)])] S w':=a.pick [true,true,true,false];have g:=ki (a.its (ax v2 ce 1 (List.replicate (j+1) [Value.int .i64 (-1)])) (by simp));refine dl a 1 rfl cH fi rfl g.1 g.2 fun w' a=>?_;refine bz (by omega) ?_;exact ⟨⟨j+1,v2,by omega,rfl,a⟩,by simp [intOf]; omega⟩
 have q:j=26:=by omega
 subst q;have g:=ki (a.its (ax v ce 1 (List.replicate 26 [Value.int .i64 (-1)])) (by simp));refine au a 1 aq rfl rfl ?_;refine al a 0 rfl aq rfl rfl (fun u r=>by
  simp only [fm,ED,or_false] at r;rcases r with rfl|rfl|rfl
  ·exact g.2
  ·rfl
  ·rfl) fun w' a=>?_
 refine a5 a 0 aq rfl rfl ?_;have a:Inv w [] ([.blk h (.cells #[v,.int .i64 4,.slice none 0 0] aj),.blk l (.cells #[v,.int .i64 4,.slice none 0 0] aj)]++[ax v ce 1 (List.replicate 26 [Value.int .i64 (-1)])]) S w':=a;obtain ⟨S3,o,p,a⟩:=a.lendExt;exact ⟨_,_,S3,rfl,a.nil,o,rfl,[v,.int .i64 4,.slice none 0 0],rfl,_,_,rfl,RowRd.rows (Gm 26) p,⟨none,0,rfl,a7 _,aQ _,.inl rfl⟩⟩
theorem Gd {P:Program} {w:World} {K:Value->World->Prop} {T ty:TypeId} {f d:Nat} {cs:Array Value} {x:Value} (h:tt P T f d=true) (a:cs[d]?=some x) (hk:K x w):Run P (sOp (.field T (.const (.agg cs)) f) ty) w K:=by
 refine Run.of (v:=x) (w':=w) ?_ hk;unfold tt at h;split at h
 ·rename_i l g
  split at h
  ·rename_i m hf
   rw [bJ] at h;have i:=uY h.1;have j:=(mf (w:=w) h.2).1;rw [<- i] at a;simp [sOp,execOp,ev0,evE,Instr.field,run_underlying g,hf,Go.part,asAgg,j,a]
  ·cases h
 ·cases h
theorem Ji:tt Tryz.prog aj 2 2=true:=by kernel_rfl
theorem FS {w:World} {K:Value->World->Prop} {ty:TypeId} {v1 v2 a:Value} (hk:K a w):Run Tryz.prog (sOp (.field aj (.const (.agg #[v1,v2,a])) 2) ty) w K:=by
 exact Gd Ji rfl hk
theorem uh {c:C} {S:af} {cs:List Value} (h:RdC S cs c) (hv:a4 c=true):Tri Tryz.prog y5 [.agg cs.toArray] [] S fun r I' S'=>I'=[]/\RdSl S' 4 (dB S') r (jw c):=by
 intro w g;obtain ⟨o1,o2,_⟩:=nh hv;obtain ⟨k1,k2,k3⟩:=jZ hv;obtain ⟨c1,c2⟩:=uB hv;have a6:=bW c.head.kids;obtain ⟨V,Z⟩:∃ V,V=gU startC c.head.kids:=⟨_,rfl⟩
 obtain ⟨o,a2⟩:∃ o,o=(dP V c.body).emit ⟨14,0,0,emptyB⟩:=⟨_,rfl⟩
 have a0:jw c=o.code:=by rw [jw,a2,Z]
 rw [a0];have a7:startC.sz=4:=rfl;have hz:=z3 startC c.head.kids;have hg:=Hf startC c.head.kids;rw [<- Z] at hz hg;have a3:V.sl.length=26:=by rw [hg.len]; rfl
 have a5:0<=V.next:=EK (by decide) hg.next;obtain ⟨hd,kb,rfl,h1,h2⟩:=h;obtain ⟨kv,rfl,_,_,_,h3⟩:=RdT.iff.1 h1;obtain ⟨ka,M,rfl,_⟩:=id h3;obtain ⟨ba,N,rfl,_⟩:=id h2;refine mD.2 ?_;dsimp only[mD,aG];refine bB g fun b1 w' g=>?_;have g:Inv w [] [.blk b1 (.cells #[.int .i64 c.head.kind,.int .i64 c.head.n,.string c.head.name,.slice ka c.head.kids.length M,.slice ba c.body.length N] ae)] S w':=g;refine ⟨fun D x2 np zI x9 x8 x7 x6 x5 x4 x3 w_=>Fx D 0 [True,x4=.pointer (some ⟨b1,0,none⟩),x5=.pointer (some ⟨b1,3,none⟩),x6=.slice ka c.head.kids.length M,True,x8=.pointer (some ⟨b1,4,none⟩),x9=.slice ba c.body.length N,True,True,True]/\∃ S2,Ext w.heap.size [] S S2/\(D 0=true->IsM S2 x3 startC)/\(D 4=true->IsM S2 x7 V)/\(D 7=true->IsM S2 zI o)/\(D 8=true->RdSl S2 4 (dB S2) np o.code)/\(D 9=true->RdSl S2 4 (dB S2) x2 o.code)/\Inv w [] [.blk b1 (.cells #[.int .i64 c.head.kind,.int .i64 c.head.n,.string c.head.name,.slice ka c.head.kids.length M,.slice ba c.body.length N] ae)] S2 w_,⟨Fx.nil _ _,⟨S,Ext.refl _ _ _,aP,aP,aP,aP,aP,g.draw⟩⟩,⟨?_,?_,?_,?_,?_,?_,?_,?_,?_,?_,trivial⟩,?_⟩;all_goals (intro D bm; intros; rename_i x2 np zI x9 x8 x7 x6 x5 x4 x3 w_ a1; have i:=a1.1; obtain ⟨⟨c9,cX,cZ,c4,cY,c8,cB,df,dK,eF,_⟩,⟨S2,j,p,q,u,l,m,g⟩⟩:=a1)
 ·refine Run.call0E yu yI g vY fun v' I' S3 w_=>?_;rintro ⟨rfl,B,rfl,G⟩ a g;have p:aB D 0 0=true->IsM S3 (.agg B.toArray) startC:=fun _=>⟨B,rfl,G⟩
  have q:aB D 0 4=true->IsM S3 x7 V:=fun h=>(q h).mono a.1;have u:aB D 0 7=true->IsM S3 zI o:=fun h=>(u h).mono a.1;have l:aB D 0 8=true->RdSl S3 4 (dB S3) np o.code:=fun h=>(l h).monoK a.1;have m:aB D 0 9=true->RdSl S3 4 (dB S3) x2 o.code:=fun h=>(m h).monoK a.1;have j:=j.trans a;obtain ⟨S2,O⟩:∃ x,x=S3:=⟨_,rfl⟩
  subst O;exact ⟨i.set 0 (by first|assumption|trivial),⟨S2,j,p,q,u,l,m,g⟩⟩
 ·refine ay cn ?_;exact ⟨i.set 1 rfl,⟨S2,j,p,q,u,l,m,g⟩⟩
 ·obtain rfl:=cX ‹_›;refine ay av ?_;exact ⟨i.set 2 rfl,⟨S2,j,p,q,u,l,m,g⟩⟩
 ·obtain rfl:=cZ ‹_›;refine aJ g 0 ar rfl rfl ?_;exact ⟨i.set 3 rfl,⟨S2,j,p,q,u,l,m,g⟩⟩
 ·have KM:=c9 ‹_›;obtain rfl:=c4 ‹_›;obtain ⟨B,U,G⟩:=p ‹D 0=true›;rw [U] at p ⊢;refine Run.call0E AH Cf g (zk G (h3.monoT j.1) (fO o1.kids) rfl (by decide) (by omega)) fun v' I' S3 w_=>?_;rw [<- Z];rintro ⟨rfl,J,rfl,Y⟩ a g;have p:aB D 4 0=true->IsM S3 (.agg B.toArray) startC:=fun h=>(p h).mono a.1;have q:aB D 4 4=true->IsM S3 (.agg J.toArray) V:=fun _=>⟨J,rfl,Y⟩
  have u:aB D 4 7=true->IsM S3 zI o:=fun h=>(u h).mono a.1;have l:aB D 4 8=true->RdSl S3 4 (dB S3) np o.code:=fun h=>(l h).monoK a.1;have m:aB D 4 9=true->RdSl S3 4 (dB S3) x2 o.code:=fun h=>(m h).monoK a.1;have j:=j.trans a;obtain ⟨S2,O⟩:∃ x,x=S3:=⟨_,rfl⟩
  subst O;exact ⟨i.set 4 (by first|assumption|trivial),⟨S2,j,p,q,u,l,m,g⟩⟩
 ·refine ay aT ?_;exact ⟨i.set 5 rfl,⟨S2,j,p,q,u,l,m,g⟩⟩
 ·obtain rfl:=c8 ‹_›;refine aJ g 0 ar rfl rfl ?_;exact ⟨i.set 6 rfl,⟨S2,j,p,q,u,l,m,g⟩⟩
 ·have CU:=cY ‹_›;obtain rfl:=cB ‹_›;obtain ⟨B,U,G⟩:=q ‹D 4=true›;rw [U] at q ⊢;refine Run.call0E yS zo g (v7 G (h2.monoT j.1) (fun t ht=>⟨o2 t ht,k1 t ht⟩) a3 a5 (by omega)) fun v' I' S3 w_=>?_;rw [<- a2];rintro ⟨rfl,J,rfl,Y⟩ a g;have p:aB D 7 0=true->IsM S3 x3 startC:=fun h=>(p h).mono a.1;have q:aB D 7 4=true->IsM S3 (.agg B.toArray) V:=fun h=>(q h).mono a.1;have u:aB D 7 7=true->IsM S3 (.agg J.toArray) o:=fun _=>⟨J,rfl,Y⟩
  have l:aB D 7 8=true->RdSl S3 4 (dB S3) np o.code:=fun h=>(l h).monoK a.1;have m:aB D 7 9=true->RdSl S3 4 (dB S3) x2 o.code:=fun h=>(m h).monoK a.1;have j:=j.trans a;obtain ⟨S2,O⟩:∃ x,x=S3:=⟨_,rfl⟩
  subst O;exact ⟨i.set 7 (by first|assumption|trivial),⟨S2,j,p,q,u,l,m,g⟩⟩
 ·have zJ:=df ‹_›;obtain ⟨B,U,G⟩:=u ‹D 7=true›;obtain ⟨v1,v2,rfl,q1,q2⟩:=id G;rw [U] at u ⊢;refine FS ?_;have l:aB D 8 8=true->RdSl S2 4 (dB S2) v2 o.code:=fun _=>q2;exact ⟨i.set 8 (by first|assumption|trivial),⟨S2,j,p,q,u,l,m,g⟩⟩
 ·have wZ:=dK ‹_›;have m:aB D 9 9=true->RdSl S2 4 (dB S2) np o.code:=fun _=>l ‹D 8=true›;exact ⟨i.set 9 (by first|assumption|trivial),⟨S2,j,p,q,u,l,m,g⟩⟩
 obtain ⟨KM,rfl,rfl,rfl,CU,rfl,rfl,zJ,wZ,xN,_⟩:=i.all;clear i c9 cX cZ c4 cY c8 cB df dK eF;exact ⟨_,_,S2,rfl,g.nil,j,rfl,m (by assumption)⟩
theorem ln {c:C} {S:af} {cs:List Value} (h:RdC S cs c) (o:wC c<=1048576):Tri Tryz.prog pl [.agg cs.toArray] [] S fun r I' S'=>I'=[]/\∃ v,r=.tuple #[v,.bool (a4 c)]/\RdSl S' 4 (dB S') v (if a4 c=true then jw c else []):=by
 intro w a;have l:=h.length;refine iy.2 ?_;dsimp only[iy,aG];refine bB a fun m w' a=>?_;have a:Inv w [] [.blk m (.cells cs.toArray ae)] S w':=a;refine au a 0 aC rfl (by simpa using l) ?_;refine Run.callPure jM jk a (ig h o) fun w' a=>?_;refine dD ?_;refine aE (fun g=>?_) (fun g=>?_)
 ·have g:a4 c=false:=by simpa using g
  refine ey a fC fun v w' a=>?_;have a:Inv w [] ([.blk m (.cells cs.toArray ae)]++[ax v aK 4 []]) S w':=a;obtain ⟨S3,j,i,a⟩:=a.lendExt;rw [g];exact ⟨_,_,S3,rfl,a.nil,j,rfl,v,rfl,RowRd.rows (Rows.nil _ _) i⟩
 ·have g:a4 c=true:=by simpa using g
  refine au a 0 aC rfl (by simpa using l) ?_;refine Run.call0E wG wc a (uh h g) fun p I' S3 w'=>?_;rintro ⟨rfl,i⟩ j a;rw [g];exact ⟨_,_,S3,rfl,a.nil,j,rfl,p,rfl,i⟩
end
end
section
open Go Go.RowKit
theorem FF (S:af) (s:CS):Rows 4 (dB S) (i9 s) s.code:=by
 refine ⟨od s,fun c hc=>?_,fun i a g=>?_⟩
 ·unfold i9 at hc;obtain ⟨x,_,rfl⟩:=mF.1 hc;rfl
 ·simp [i9,dB]
theorem GO:SlM #[] startC:=by
 refine ⟨fun e g=>by simp at g,fun n _ _ a=>?_⟩;exfalso;unfold CS.at_ startC at a;simp only [Ej] at a;split at a <;> simp at a
theorem Hv {c:C} (h:a4 c=true):Wf (gU startC c.head.kids):=by
 obtain ⟨a,l⟩:=tx h;obtain ⟨m,o,p⟩:=jZ h;have j:(0:Int)+c.head.kids.length<=startC.next:=by show (0:Int)+c.head.kids.length<=4; omega
 obtain ⟨g,i,q⟩:=vd c.head.kids AP (mT _) j a.kids;exact (Eo (cU (bG startC 0 c.head.kids).2) g.wf i).wf
section
attribute [local irreducible] Run CondV aw aI
theorem E6 {w:World} {K:Value->World->Prop} {m:Nat} {k:Int} (hk:K (.agg #[.map (some m),.int .i64 k,.slice none 0 0]) w):Run Tryz.prog (bP fh [(0,.map (some m)),(1,.int .i64 k)]) w K:=by
 refine Run.of (v:=.agg #[.map (some m),.int .i64 k,.slice none 0 0]) (w':=w) ?_ hk;unfold bP;rw [Sem.run_bind,run_build w fh _ #[.map (some m),.int .i64 k,.slice none 0 0] (by kernel_rfl),Result.andThen_ok];rfl
theorem sU {S:af}:Tri Tryz.prog wJ [] [] S fun r I' S'=>S'=S/\∃ h g,r=.pointer (some ⟨h,0,none⟩)/\I'=cj h g #[] 0 startC (.slice none 0 0):=by
 intro w a;refine l9.2 ?_;dsimp only[l9,mB];refine EX a fun g w' a=>?_;refine E6 ?_;refine bB a fun h w' a=>?_;have a:=a.rowNil aK 4;have a:Inv w [] ([.blk g (.map #[] 0)]++[.blk h (.cells #[.map (some g),.int .i64 4,.slice none 0 0] fh)]++[ax (.slice none 0 0) aK 4 (i9 startC)]) S w':=a;have a:Inv w [] (cj h g #[] 0 startC (.slice none 0 0)) S w':=a.perm (dy (l₁:=[_]) (l₂:=[_]) |>.append_right _);exact ⟨_,_,S,rfl,a,Ext.refl _ _ _,rfl,h,g,rfl,rfl⟩
theorem mw {c:C} {S:af} {cs:List Value} (h:RdC S cs c) (p:a4 c=true):Tri Tryz.prog nQ [.agg cs.toArray] [] S fun r I' S'=>I'=[]/\RdSl S' 4 (dB S') r (jw c):=by
 intro w a;obtain ⟨k1,k2,k3⟩:=jZ p;obtain ⟨c1,c2⟩:=uB p;obtain ⟨V,Y⟩:=tx p;have a0:=bW c.head.kids;have a1:startC.sz=4:=rfl;have hz:=z3 startC c.head.kids;have o:=Hv p;obtain ⟨t,g⟩:∃ t,t=gU startC c.head.kids:=⟨_,rfl⟩
 obtain ⟨j,m⟩:∃ j,j=(dP t c.body).emit ⟨14,0,0,emptyB⟩:=⟨_,rfl⟩
 have i:jw c=j.code:=by rw [jw,m,g]
 rw [i];rw [<- g] at hz o;obtain ⟨hd,N,rfl,Z,h2⟩:=h;obtain ⟨kv,rfl,_,_,_,h3⟩:=RdT.iff.1 Z;refine io.2 ?_;dsimp only[io,aG];refine bB a fun M w' a=>?_;have a:Inv w [] [.blk M (.cells #[.int .i64 c.head.kind,.int .i64 c.head.n,.string c.head.name,kv,N] ae)] S w':=a;refine Run.call0 tB tS a sU fun q I' S' w'=>?_;rintro ⟨l,O,D,rfl,rfl⟩ _ a;rw [l] at a;refine ay cn ?_;refine ay av ?_;refine aJ a 0 ar rfl rfl ?_;refine Run.call qq qy a (yy h3 AP GO V.kids (by omega) (by show (c.head.kids.length:Int)<=4; omega)) fun q I' S' w'=>?_;rw [<- g];rintro ⟨l,G,J,cv,rfl,U⟩ _ a;rw [l] at a;refine ay aT ?_;refine aJ a 0 ar rfl rfl ?_;refine Run.call qx qC a (zj h2 o U Y (by omega)) fun q I' S' w'=>?_;rw [<- m];rintro ⟨l,G,J,rfl⟩ _ a;rw [l] at a;have a:Inv w [] ([.blk M (.cells #[.int .i64 c.head.kind,.int .i64 c.head.n,.string c.head.name,kv,N] ae),.blk O (.cells #[.map (some D),.int .i64 j.next,q] fh),.blk D (.map G J)]++[ax q aK 4 (i9 j)]) S w':=a;obtain ⟨S3,u,B,a⟩:=a.lendExt;exact ⟨_,_,S3,rfl,a.nil,u,rfl,RowRd.rows (FF S3 j) B⟩
theorem gB {c:C} {S:af} {cs:List Value} (h:RdC S cs c):Tri Tryz.prog pD [.agg cs.toArray] [] S fun r I' S'=>I'=[]/\∃ v,r=.tuple #[v,.bool (a4 c)]/\RdSl S' 4 (dB S') v (if a4 c=true then jw c else []):=by
 intro w a;have i:=h.length;refine ir.2 ?_;dsimp only[ir,aG];refine bB a fun m w' a=>?_;have a:Inv w [] [.blk m (.cells cs.toArray ae)] S w':=a;refine au a 0 aC rfl (by simpa using i) ?_;refine Run.callPure jq jE a (iD h) fun w' a=>?_;refine dD ?_;refine aE (fun g=>?_) (fun g=>?_)
 ·have g:a4 c=false:=by simpa using g
  rw [g];exact ⟨_,_,S,rfl,a.nil,Ext.refl _ _ _,rfl,_,rfl,⟨none,0,rfl,a7 _,aQ _,.inl rfl⟩⟩
 ·have g:a4 c=true:=by simpa using g
  refine au a 0 aC rfl (by simpa using i) ?_;refine Run.call0E nH ng a (mw h g) fun o I' S3 w'=>?_;rintro ⟨rfl,j⟩ l a;rw [g];exact ⟨_,_,S3,rfl,a.nil,l,rfl,o,rfl,j⟩
end
end
section
open Go Go.RowKit
abbrev zCl:Array Value:=#[.int .i64 0,.int .i64 0,.string ⟨#[]⟩,.slice none 0 0,.slice none 0 0]
theorem sI (m:Int):∀ a:List T,(fD m a).length=a.length
 | []=>rfl
 | t::a=>by rw [fD,bg,sI m a,bg]
theorem BJ (m:Int) (c:C):wC (Hj m c)=wC c:=by
 show wT (dU m c.head)+(fD m c.body).length+wL (fD m c.body)=_;rw [Bi,tI,sI];rfl
section
variable {S:af} {ys:List Nat} {v:Value}
attribute [local irreducible] Run CondV aw aI
end
end
end Go.Proofs.YtjbcdmheajljpaaGreat
