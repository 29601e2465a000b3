/- spec.DrawRenumberClause. -/
import Derived.Test.YtjbcdmheajljpaaGreatZCv9
namespace Go.Proofs.YtjbcdmheajljpaaGreat
section
open Go Go.RowKit
section
variable {S:af} {ys:List Nat} {v:Value}
attribute [local irreducible] Run CondV aw aI
theorem je (h:RdSl S 1 jy v ys):Tri Tryz.prog kj [v] [] S fun v' I' S'=>I'=[]/\∃ cs c,v'=.agg cs.toArray/\RdC S' cs c/\wC c<=2000:=by
 intro w a;refine fG.2 ?_;dsimp only[fG,aG];refine aF a bZ fun V w' a=>?_;refine Run.call0E zF zG a (Dw h) fun v1 I' S1 w'=>?_;rintro ⟨rfl,br,sl,e5,rfl,rfl,a2⟩ _ a;have a:Inv w [] [.blk V (.cells zCl ae),rdI br sl 0] S1 w':=a;refine Run.callL vN we a (uA (p:=0) a2 (by omega)) rfl fun v2 I' S w'=>?_;rintro ⟨p1,e6,rfl,cs,c0,rfl,hc,c5,c6,c7⟩ a9 a;have a2:=a2.monoU a9.1;obtain ⟨f1,ks,rfl,h1,h2⟩:=hc;have b3:=h1;obtain ⟨kv,rfl,g1,g2,g3,g4⟩:=RdT.iff.1 h1;obtain ⟨ak,mk,rfl,_⟩:=id g4;obtain ⟨ab,mb,rfl,_⟩:=id h2;have a:Inv w [] [.blk V (.cells zCl ae),rdI br sl p1] S w':=a;refine aF a bZ fun b4 w' a=>?_;refine al a 2 rfl aC rfl rfl (by simp [Value.oneCell']) fun w' a=>?_;have a:Inv w [] [.blk b4 (.cells #[.int .i64 c0.head.kind,.int .i64 c0.head.n,.string c0.head.name,.slice ak c0.head.kids.length mk,.slice ab c0.body.length mb] ae),.blk V (.cells zCl ae),rdI br sl p1] S w':=(a.last 0 rfl).last 0 rfl;refine Run.callL bL bK a (cV (n:=3) (p:=p1) a2 (by omega) (by omega)) rfl fun v' I' S w'=>?_;rintro ⟨rfl,rfl,k,hk,rfl⟩ _ a;obtain ⟨J,d3⟩:∃ J,J=p1+1:=⟨_,rfl⟩
 rw [<- d3] at a;obtain ⟨m,d6⟩:∃ m:Int,m=(k:Int):=⟨_,rfl⟩
 rw [<- d6];have b5:0<=m:=by omega
 have b7:m<=1000000:=by omega
 have hN:26<=1000000:=by omega
 have hw:wT c0.head+c0.body.length+wL c0.body<=500:=c5;obtain ⟨kv,d7⟩:∃ kv,kv=Value.slice ak c0.head.kids.length mk:=⟨_,rfl⟩
 rw [<- d7] at a b3;obtain ⟨ks,d9⟩:∃ ks,ks=Value.slice ab c0.body.length mb:=⟨_,rfl⟩
 rw [<- d9] at a h2;have a:Inv w [] [.blk b4 (.cells #[.int .i64 c0.head.kind,.int .i64 c0.head.n,.string c0.head.name,kv,ks] ae),.blk V (.cells zCl ae),rdI br sl J] S w':=a;refine ay cn ?_;refine ew a 0 [.int .i64 c0.head.kind,.int .i64 c0.head.n,.string c0.head.name,kv] ad rfl rfl FA ?_;refine Run.call0 kD kf a (mX hN m b5 b7 _ S _ b3 c6 (by omega)) fun v' I' S w'=>?_;rintro ⟨rfl,e9,N,rfl,rfl,a0⟩ _ a;obtain ⟨l,a6⟩:∃ l,l=dU m c0.head:=⟨_,rfl⟩
 rw [<- a6] at a0;obtain ⟨C,rfl,_⟩:=TrT.iff.1 a0;refine gF ?_;refine aF a bZ fun O w' a=>?_;have a:=a.perm (M:=.blk b4 _::.blk V _::.blk O _::rdI br sl J::aS N) (((dy (l₁:=[_])).cons _).cons _);refine al a 2 rfl aC rfl rfl ?_ fun w' a=>?_
 ·intro u hu;have b9:u∈([.int .i64 l.kind,.int .i64 l.n,.string l.name,C,.slice none 0 0]:List Value):=hu;simp at b9;have o1:C.oneCell'=true:=a0.one C (by simp);rcases b9 with rfl|rfl|rfl|rfl|rfl <;> first|rfl|exact o1
 have a:=a.rowNil ac 4;have a:=a.perm (M:=.blk b4 (.cells #[.int .i64 c0.head.kind,.int .i64 c0.head.n,.string c0.head.name,kv,ks] ae)::.blk V (.cells #[.int .i64 0,.int .i64 0,.string ⟨#[]⟩,.slice none 0 0,.slice none 0 0] ae)::.blk O (.cells #[.int .i64 l.kind,.int .i64 l.n,.string l.name,C,.slice none 0 0] ae)::ax (.slice none 0 0) ac 4 []::rdI br sl J::aS N) ((((dy (l₁:=[_])).cons _).cons _).cons _);refine ⟨fun i w'=>∃ (j:Nat) (q:Value) (Ls:List aU) (css:List (List Value)),j<=c0.body.length/\i=.int .i64 j/\Grown 4 TrT Ls css (fD m (c0.body.take j))/\
   Inv w [] (.blk b4 (.cells #[.int .i64 c0.head.kind,.int .i64 c0.head.n,.string c0.head.name,kv,ks] ae)::.blk V (.cells #[.int .i64 0,.int .i64 0,.string ⟨#[]⟩,.slice none 0 0,.slice none 0 0] ae)::.blk O (.cells #[.int .i64 l.kind,.int .i64 l.n,.string l.name,C,q] ae)::ax q ac 4 css::rdI br sl J::aS (N::Ls).flatten) S w',
  fun i _=>c0.body.length - (intOf i).toNat,⟨0,_,[],[],aQ _,rfl,Grown.nil _ _,by simp only [eP,kH,cS]; exact a⟩,?_⟩
 intro t4 _ _ _ _ _ _ _ _ _ _ _ _ _ _ _ _ _ _ _ w';rintro ⟨j,q,Ls,css,hj,rfl,hg,a⟩;refine ag a 0 rfl aT ar rfl ?_;refine aL h2 ao ?_;refine cq ?_;refine aR (fun d2=>?_) (fun d2=>?_)
 ·have a1:j<c0.body.length:=by omega
  have f2:(c0.body.take j).length=j:=by simp; omega
  have e1:=hg.hc;rw [gp,A6] at e1;have hm:=cr a1;have f3:=ji hm;obtain ⟨b,o,cap,c,E,fz,rfl,hS,hR⟩:=h2.at_ a1;refine ⟨fun D qS iJ nM ri uy uu sK kZ sJ iI tl sg w_=>Fx D 0 [sg=.pointer (some ⟨O,4,none⟩),tl=q,iI=.pointer (some ⟨b4,4,none⟩),sJ=.slice (some ⟨b,o,none⟩) c0.body.length cap,kZ=.int .i64 j,sK=.pointer (some ⟨b,o+j * 4,none⟩),uu=.agg (bd c (o+j * 4) 4).toArray,uy=.int .i64 m,True,True,True,qS=.pointer (some ⟨O,4,none⟩),True]/\∃ M g B,(D 8=true->ri=.agg g.toArray/\TrT M g (dU m c0.body[j]))/\(D 9=true->nM=.slice (some ⟨B,0,none⟩) 1 1)/\(D 9=true->D 8=true)/\(D 10=true->D 9=true)/\(D 12=true->D 10=true)/\(D 12=true->D 1=true)/\Inv w [] (aH (.blk b4 (.cells #[.int .i64 c0.head.kind,.int .i64 c0.head.n,.string c0.head.name,kv,.slice (some ⟨b,o,none⟩) c0.body.length cap] ae)) (.blk V (.cells #[.int .i64 0,.int .i64 0,.string ⟨#[]⟩,.slice none 0 0,.slice none 0 0] ae)) (.blk O (.cells #[.int .i64 l.kind,.int .i64 l.n,.string l.name,C,q] ae)) (.blk O (.cells #[.int .i64 l.kind,.int .i64 l.n,.string l.name,C,iJ] ae)) (ax q ac 4 css) (ax iJ ac 4 (css++[g])) (rdI br sl J::aS (N::Ls).flatten) M (.blk B (.cells g.toArray ac)) (D 8) (D 9) (D 10) (D 12)) S w_,⟨Fx.nil _ _,⟨[],[],0,aP,aP,aP,aP,aP,aP,by simpa [aH,aS] using a.draw⟩⟩,⟨?_,?_,?_,?_,?_,?_,?_,?_,?_,?_,?_,?_,?_,trivial⟩,?_⟩;all_goals (intro D bm; intros; rename_i qS iJ nM ri uy uu sK kZ sJ iI tl sg w_ b0; have t:=b0.1; obtain ⟨⟨c9,cX,cZ,c4,cY,c8,cB,df,dK,eF,cW,dR,gZ,_⟩,⟨M,g,B,U,e8,Z,Y,r,k1,a⟩⟩:=b0)
  ·refine ay aT ?_;exact ⟨t.set 0 rfl,⟨M,g,B,U,e8,Z,Y,r,k1,a⟩⟩
  ·obtain rfl:=c9 ‹_›;have G:D 12=false:=bS.2 fun h=>by rw [k1 h] at bm; cases bm
   refine aJ (b:=O) a 2 (c:=(#[.int .i64 l.kind,.int .i64 l.n,.string l.name,C,q])) ar (by rw [G]; rfl) rfl ?_;have k1:=fun (_:aB D 1 12=true)=>(rfl:aB D 1 1=true)
   exact ⟨t.set 1 rfl,⟨M,g,B,U,e8,Z,Y,r,k1,a⟩⟩
  ·refine ay aT ?_;exact ⟨t.set 2 rfl,⟨M,g,B,U,e8,Z,Y,r,k1,a⟩⟩
  ·obtain rfl:=cZ ‹_›;refine aJ a 0 ar rfl rfl ?_;exact ⟨t.set 3 rfl,⟨M,g,B,U,e8,Z,Y,r,k1,a⟩⟩
  ·exact ⟨t.set 4 rfl,⟨M,g,B,U,e8,Z,Y,r,k1,a⟩⟩
  ·obtain rfl:=c4 ‹_›;obtain rfl:=cY ‹_›;refine aN ao a1 ?_;exact ⟨t.set 5 rfl,⟨M,g,B,U,e8,Z,Y,r,k1,a⟩⟩
  ·obtain rfl:=c8 ‹_›;refine dC ad hR.length (fun j v hj=>by rw [a.cellS hS]; exact aX rfl j v hj) ?_;exact ⟨t.set 6 rfl,⟨M,g,B,U,e8,Z,Y,r,k1,a⟩⟩
  ·exact ⟨t.set 7 rfl,⟨M,g,B,U,e8,Z,Y,r,k1,a⟩⟩
  ·obtain rfl:=cB ‹_›;obtain rfl:=df ‹_›;have f8:D 9=false:=bS.2 fun h=>by rw [Z h] at bm; cases bm
   have f9:D 10=false:=bS.2 fun h=>by rw [Y h] at f8; cases f8
   have G:D 12=false:=bS.2 fun h=>by rw [r h] at f9; cases f9
   rw [bm,f8,f9,G] at a;refine Run.call0 kD kf a (mX hN m b5 b7 _ S _ hR (c7 _ (cr a1)) (by omega)) fun v' I' S w_=>?_;rintro ⟨rfl,g,M,rfl,rfl,hT⟩ _ a;have U:aB D 8 8=true->Value.agg g.toArray=Value.agg g.toArray/\TrT M g (dU m c0.body[j]):=fun _=>⟨rfl,hT⟩
   have Z:=fun (_:aB D 8 9=true)=>(rfl:aB D 8 8=true)
   have a:Inv w [] (aH (.blk b4 (.cells #[.int .i64 c0.head.kind,.int .i64 c0.head.n,.string c0.head.name,kv,.slice (some ⟨b,o,none⟩) c0.body.length cap] ae)) (.blk V (.cells #[.int .i64 0,.int .i64 0,.string ⟨#[]⟩,.slice none 0 0,.slice none 0 0] ae)) (.blk O (.cells #[.int .i64 l.kind,.int .i64 l.n,.string l.name,C,q] ae)) (.blk O (.cells #[.int .i64 l.kind,.int .i64 l.n,.string l.name,C,iJ] ae)) (ax q ac 4 css) (ax iJ ac 4 (css++[g])) (rdI br sl J::aS (N::Ls).flatten) M (.blk B (.cells g.toArray ac)) true (D 9) (D 10) (D 12)) S w_:=by
    rw [f8,f9,G];simpa [aH] using a
   exact ⟨t.set 8 (by first|assumption|trivial),⟨M,g,B,U,e8,Z,Y,r,k1,a⟩⟩
  ·have wZ:=dK ‹_›;have f9:D 10=false:=bS.2 fun h=>by rw [Y h] at bm; cases bm
   have G:D 12=false:=bS.2 fun h=>by rw [r h] at f9; cases f9
   obtain ⟨q7,hT⟩:=U ‹D 8=true›;subst q7;rw [‹D 8=true›,bm,f9,G] at a;refine dI a bw (by simp [Value.cells,hT.length]) (by omega) (by omega) fun B w_ a=>?_;have U:aB D 9 8=true->Value.agg g.toArray=Value.agg g.toArray/\TrT M g (dU m c0.body[j]):=fun _=>⟨rfl,hT⟩
   have e8:=fun (_:aB D 9 9=true)=>(rfl:Value.slice (some ⟨B,0,none⟩) 1 1=_)
   have Z:=fun (_:aB D 9 9=true)=>‹D 8=true›;have Y:=fun (_:aB D 9 10=true)=>(rfl:aB D 9 9=true)
   have a:Inv w [] (aH (.blk b4 (.cells #[.int .i64 c0.head.kind,.int .i64 c0.head.n,.string c0.head.name,kv,.slice (some ⟨b,o,none⟩) c0.body.length cap] ae)) (.blk V (.cells #[.int .i64 0,.int .i64 0,.string ⟨#[]⟩,.slice none 0 0,.slice none 0 0] ae)) (.blk O (.cells #[.int .i64 l.kind,.int .i64 l.n,.string l.name,C,q] ae)) (.blk O (.cells #[.int .i64 l.kind,.int .i64 l.n,.string l.name,C,iJ] ae)) (ax q ac 4 css) (ax iJ ac 4 (css++[g])) (rdI br sl J::aS (N::Ls).flatten) M (.blk B (.cells g.toArray ac)) (D 8) true (D 10) (D 12)) S w_:=by
    rw [‹D 8=true›,f9,G];simpa [aH,Value.cells] using a
   exact ⟨t.set 9 (by first|assumption|trivial),⟨M,g,B,U,e8,Z,Y,r,k1,a⟩⟩
  ·obtain rfl:=cX ‹_›;have xN:=eF ‹_›;have G:D 12=false:=bS.2 fun h=>by rw [r h] at bm; cases bm
   have q8:=e8 ‹D 9=true›;subst q8;obtain ⟨_,hT⟩:=U ‹D 8=true›;rw [‹D 8=true›,‹D 9=true›,bm,G] at a;have c1:((aH (.blk b4 (.cells #[.int .i64 c0.head.kind,.int .i64 c0.head.n,.string c0.head.name,kv,.slice (some ⟨b,o,none⟩) c0.body.length cap] ae)) (.blk V (.cells #[.int .i64 0,.int .i64 0,.string ⟨#[]⟩,.slice none 0 0,.slice none 0 0] ae)) (.blk O (.cells #[.int .i64 l.kind,.int .i64 l.n,.string l.name,C,tl] ae)) (.blk O (.cells #[.int .i64 l.kind,.int .i64 l.n,.string l.name,C,iJ] ae)) (ax tl ac 4 css) (ax iJ ac 4 (css++[g])) (rdI br sl J::aS (N::Ls).flatten) M (.blk B (.cells g.toArray ac)) true true false false))[4+(rdI br sl J::aS (N::Ls).flatten).length+(aS M).length]?=some (.blk B (.cells g.toArray ac)):=by
    have e4:4+(rdI br sl J::aS (N::Ls).flatten).length+(aS M).length=((rdI br sl J::aS (N::Ls).flatten).length+(aS M).length)+1+1+1+1:=by omega
    rw [e4];simp only [aH,iq];rw [fP (by omega),pE,fP (a7 _),dY]; rfl
   refine dH a 3 g bw (by omega) rfl (by rw [hT.length]) (m:=1) (o:=0) ?_ hT.one (by omega) (by omega) fun v' w_ a=>?_
   ·intro i u hi;rw [a.cellL c1,ct];simpa using hi
   rw [dZ] at a;have Y:=fun (_:aB D 10 10=true)=>‹D 9=true›;have r:=fun (_:aB D 10 12=true)=>(rfl:aB D 10 10=true)
   have a:Inv w [] (aH (.blk b4 (.cells #[.int .i64 c0.head.kind,.int .i64 c0.head.n,.string c0.head.name,kv,.slice (some ⟨b,o,none⟩) c0.body.length cap] ae)) (.blk V (.cells #[.int .i64 0,.int .i64 0,.string ⟨#[]⟩,.slice none 0 0,.slice none 0 0] ae)) (.blk O (.cells #[.int .i64 l.kind,.int .i64 l.n,.string l.name,C,tl] ae)) (.blk O (.cells #[.int .i64 l.kind,.int .i64 l.n,.string l.name,C,v'] ae)) (ax tl ac 4 css) (ax v' ac 4 (css++[g])) (rdI br sl J::aS (N::Ls).flatten) M (.blk B (.cells g.toArray ac)) (D 8) (D 9) true (D 12)) S w_:=by
    rw [‹D 8=true›,‹D 9=true›,G];exact a
   exact ⟨t.set 10 (by first|assumption|trivial),⟨M,g,B,U,e8,Z,Y,r,k1,a⟩⟩
  ·refine ay aT ?_;exact ⟨t.set 11 rfl,⟨M,g,B,U,e8,Z,Y,r,k1,a⟩⟩
  ·obtain rfl:=dR ‹_›;have Dp:=cW ‹_›;rw [‹D 8=true›,‹D 9=true›,‹D 10=true›,bm] at a;obtain ⟨va,vn,vc,a8⟩:=Inv.rowSlice a 3 rfl;refine di a 2 (n:=1) (by rw [a8]; rfl) (by decide +kernel) rfl (by simp) (by rw [a8]; simp [Value.cells,Value.oneCell']) fun w_ a=>?_;have c2:Value.cells iJ=#[iJ]:=by rw [a8]; rfl
   rw [c2] at a;have k1:=fun (_:aB D 12 12=true)=>‹D 1=true›;have r:=fun (_:aB D 12 12=true)=>‹D 10=true›;have a:Inv w [] (aH (.blk b4 (.cells #[.int .i64 c0.head.kind,.int .i64 c0.head.n,.string c0.head.name,kv,.slice (some ⟨b,o,none⟩) c0.body.length cap] ae)) (.blk V (.cells #[.int .i64 0,.int .i64 0,.string ⟨#[]⟩,.slice none 0 0,.slice none 0 0] ae)) (.blk O (.cells #[.int .i64 l.kind,.int .i64 l.n,.string l.name,C,q] ae)) (.blk O (.cells #[.int .i64 l.kind,.int .i64 l.n,.string l.name,C,iJ] ae)) (ax q ac 4 css) (ax iJ ac 4 (css++[g])) (rdI br sl J::aS (N::Ls).flatten) M (.blk B (.cells g.toArray ac)) (D 8) (D 9) (D 10) true) S w_:=by
    rw [‹D 8=true›,‹D 9=true›,‹D 10=true›];exact a
   exact ⟨t.set 12 trivial,⟨M,g,B,U,e8,Z,Y,r,k1,a⟩⟩
  obtain ⟨rfl,rfl,rfl,rfl,rfl,rfl,rfl,rfl,wZ,xN,Dp,rfl,_,_⟩:=t.all;have wl:D 8=true:=by assumption
  have FO:D 9=true:=by assumption
  have CZ:D 10=true:=by assumption
  have Gi:D 12=true:=by assumption
  clear t c9 cX cZ c4 cY c8 cB df dK eF cW dR gZ;obtain ⟨_,hT⟩:=U wl;rw [wl,FO,CZ,Gi] at a;refine bz (by omega) ?_;refine ⟨⟨j+1,iJ,Ls++[M],css++[g],a1,rfl,?_,?_⟩,by simp [intOf]; omega⟩
  ·rw [sx m c0.body j a1];exact hg.snoc hT hT.length
  ·rw [<- gC,oc,cG];simp only [eP,kH,cS];refine a.sub ?_;simp only [aH,eP];rw [gC,<- d4];exact ((((ii _ _).cons_cons _).cons_cons _).cons_cons _).cons_cons _ |>.cons_cons _
 ·have:j=c0.body.length:=by omega
  subst this;rw [mS] at hg;obtain ⟨va,vn,vc,e0⟩:=a.rowSlice 3 rfl;have f4:q.oneCell'=true:=by rw [e0]; rfl
  have o1:C.oneCell'=true:=a0.one C (by simp);refine au a 2 aC rfl rfl ?_;have a:Inv w [] (.blk V (.cells zCl ae)::ax q ac 4 css::rdI br sl J::aS (N::Ls).flatten) S w':=a.sub (List.Sublist.cons _ (List.Sublist.cons_cons _ (List.Sublist.cons _ (List.Sublist.refl _))));rw [eP,cG] at a;have a:=a.perm (M:=(.blk V (.cells zCl ae)::rdI br sl J::aS N)++(ax q ac 4 css::aS Ls.flatten)) ((zal87 (l₁:=rdI br sl J::aS N)).cons _);obtain ⟨L,hT,a⟩:=Inv.rowTree a hg;have a:Inv w [] ([.blk V (.cells zCl ae),rdI br sl J]++aS (N++L)) S w':=by
   rw [cG];exact a
  rw [a6] at a0;have e2:TrC (N++L) [.int .i64 l.kind,.int .i64 l.n,.string l.name,C,q] (Hj m c0):=⟨_,q,N,L,by rw [a6]; rfl,rfl,a0,hT⟩
  obtain ⟨S5,a,a4,b1⟩:=a.pubExt;have e3:=e2.rd b1;have c3:=a2.monoU a4.1;have a4:=a9.trans a4;refine Run.callL wo wF a (uO (p:=J) c3 e3 (by rw [BJ]; omega) (by omega)) rfl fun v5 I' S6 w'=>?_;rintro ⟨p3,f0,rfl,ds,d,rfl,a3,d0⟩ d1 a;rw [BJ] at d0;have a:Inv w [] [.blk V (.cells zCl ae),rdI br sl p3] S6 w':=a;refine al a 0 rfl aC (by simpa using a3.length) rfl (by simpa using a3.one) fun w' a=>?_;refine a5 a 0 aC rfl (by simpa using a3.length) ?_;exact ⟨_,[],S6,rfl,a.nil,a4.trans d1,rfl,_,d,rfl,a3,by omega⟩
end
end
section
open Go Go.RowKit
theorem Ak:Tryz.prog.underlying aK=some (.struct (Tryz.prog.fieldsOf aK)):=by kernel_rfl
theorem Fq:Tryz.prog.stoodInHeld aK=false:=by kernel_rfl
theorem DP:Tryz.prog.eqGuardType Tryz.prog.depth aK=false:=by kernel_rfl
theorem HJ {w:World} (x:Ist) :
  (Op.equalIn 10000 aK (.agg x.cells.toArray) (.agg x.cells.toArray)).run Tryz.prog w=.ok true w:=by
 obtain ⟨a,b,c,s⟩:=x;rw [show (10000:Nat)=9999+1 from rfl,run_equalIn_struct w 9999 aK _ _ Ak Fq];have hf:(Tryz.prog.fieldsOf aK).toList=[(Tryz.prog.fieldsOf aK)[0]!,(Tryz.prog.fieldsOf aK)[1]!,(Tryz.prog.fieldsOf aK)[2]!,(Tryz.prog.fieldsOf aK)[3]!]:=by kernel_rfl
 have h:((Tryz.prog.fieldsOf aK)[0]!).type=ce:=by kernel_rfl
 have i:((Tryz.prog.fieldsOf aK)[1]!).type=ce:=by kernel_rfl
 have j:((Tryz.prog.fieldsOf aK)[2]!).type=ce:=by kernel_rfl
 have l:((Tryz.prog.fieldsOf aK)[3]!).type=eO:=by kernel_rfl
 have m:((Tryz.prog.fieldsOf aK)[0]!).offset=0:=by kernel_rfl
 have o:((Tryz.prog.fieldsOf aK)[1]!).offset=1:=by kernel_rfl
 have p:((Tryz.prog.fieldsOf aK)[2]!).offset=2:=by kernel_rfl
 have q:((Tryz.prog.fieldsOf aK)[3]!).offset=3:=by kernel_rfl
 have r:((Tryz.prog.fieldsOf aK)[0]!).name≠"_" := by decide +kernel
 have t:((Tryz.prog.fieldsOf aK)[1]!).name≠"_" := by decide +kernel
 have u:((Tryz.prog.fieldsOf aK)[2]!).name≠"_" := by decide +kernel
 have B:((Tryz.prog.fieldsOf aK)[3]!).name≠"_" := by decide +kernel
 rw [hf];have C:(Op.equalIn (9998+1) eO (.string s) (.string s)).run Tryz.prog w=.ok true w:=by
  rw [run_equalIn_string w 9998 eO s s aD,vC,bb rfl]
 have g:∀ n:Int,(Op.equalIn (9998+1) ce (.int .i64 n) (.int .i64 n)).run Tryz.prog w=.ok true w:=fun n=>by
  rw [run_equalIn_int w 9998 ce .i64 .i64 n n eY]; simp
 rw [show (9999:Nat)=9998+1 from rfl];generalize D:(Tryz.prog.fieldsOf aK)[0]! = g0 at *;generalize G:(Tryz.prog.fieldsOf aK)[1]! = g1 at *;generalize J:(Tryz.prog.fieldsOf aK)[2]! = g2 at *;generalize M:(Tryz.prog.fieldsOf aK)[3]! = g3 at *;simp only [Op.eqFields,r,t,u,B,ne_eq,not_false_eq_true,if_true,Sem.run_bind,h,i,j,l,m,o,p,q];rw [eX az (v:=.int .i64 a) rfl,Result.andThen_ok,eX az (v:=.int .i64 a) rfl,Result.andThen_ok,g,Result.andThen_ok];simp only [Bool.not_true,sB,if_false,Sem.run_bind];rw [eX az (v:=.int .i64 b) rfl,Result.andThen_ok,eX az (v:=.int .i64 b) rfl,Result.andThen_ok,g,Result.andThen_ok];simp only [Bool.not_true,sB,if_false,Sem.run_bind];rw [eX az (v:=.int .i64 c) rfl,Result.andThen_ok,eX az (v:=.int .i64 c) rfl,Result.andThen_ok,g,Result.andThen_ok];simp only [Bool.not_true,sB,if_false,Sem.run_bind];rw [eX aO (v:=.string s) rfl,Result.andThen_ok,eX aO (v:=.string s) rfl,Result.andThen_ok,C,Result.andThen_ok];rfl
section
variable {w w0:World} {X:List Nat} {L:List Item} {S:af} {K:Value->World->Prop} {ys:List Nat} {v:Value}
attribute [local irreducible] Run CondV aw aI
theorem GE {a g:Bool} (x:Ist):(cw .neq aK a g (.agg x.cells.toArray) (.agg x.cells.toArray)).run Tryz.prog w=.ok (.value (.bool false)) w:=by
 unfold cw;have e:(binOp .neq aK (.agg x.cells.toArray) (.agg x.cells.toArray)).run Tryz.prog w=.ok (.bool false) w:=by
  have h:=HJ (w:=w) x;simp only [binOp,Op.equal,Op.maxDepth,Sem.run_bind];rw [h];rfl
 rw [Sem.run_bind,run_eqGuard_agg w .neq aK _ _ _ _ DP,Result.andThen_ok,Sem.run_bind,e,Result.andThen_ok];rfl
theorem j2 {l:List Ist} {u v:Value} (h:RdSl S 4 (dB S) u l) (g:RdSl S 4 (dB S) v l):Pure Tryz.prog CW [u,v] S (.bool true):=by
 intro w m;have B:=h.le;simp only [maxLen] at B;refine sA.2 ?_;dsimp only[sA,a6];refine aL h ie ?_;refine aL g ie ?_;refine BU ?_;refine aE (fun C=>by simp at C) (fun _=>?_);refine ⟨fun i w'=>∃ k:Nat,k<=l.length/\i=.int .i64 k/\Inv w [] [] S w',fun i _=>l.length - (intOf i).toNat,⟨0,aQ _,rfl,m⟩,?_⟩;intro i _ _ _ a0 a1 a2 a3 a4 a5 a7 a8 a9 _ _ _ _ w';rintro ⟨k,hk,rfl,m⟩;refine aL h ie ?_;refine cq ?_;refine aR (fun G=>?_) (fun G=>done m rfl);have p:k<l.length:=by omega
 obtain ⟨b,o,cap,c,E,fz,rfl,hS,hR⟩:=h.at_ p;have O:bd c (o+k * 4) 4=l[k].cells:=hR;obtain ⟨b2,M,t,c2,E2,b0,rfl,N,q⟩:=g.at_ p;have q:bd c2 (M+k * 4) 4=l[k].cells:=q;refine ⟨fun D U V Y Z qB mc sG D7 te w_=>Fx D 0 [te=.slice (some ⟨b,o,none⟩) l.length cap,D7=.int .i64 k,sG=.pointer (some ⟨b,o+k * 4,none⟩),mc=.agg l[k].cells.toArray,qB=.slice (some ⟨b2,M,none⟩) l.length t,Z=.int .i64 k,Y=.pointer (some ⟨b2,M+k * 4,none⟩),V=.agg l[k].cells.toArray,U=.bool false]/\Inv w [] [] S w_,⟨Fx.nil _ _,m.draw⟩,⟨?_,?_,?_,?_,?_,?_,?_,?_,?_,trivial⟩,?_⟩;all_goals (intro D bm; intros; rename_i U V Y Z qB mc sG D7 te w_ r; have a:=r.1; obtain ⟨⟨c9,cX,cZ,c4,cY,c8,cB,df,dK,_⟩,m⟩:=r)
 ·exact ⟨a.set 0 rfl,m⟩
 ·exact ⟨a.set 1 rfl,m⟩
 ·obtain rfl:=c9 ‹_›;obtain rfl:=cX ‹_›;refine aN ie p ?_;exact ⟨a.set 2 rfl,m⟩
 ·obtain rfl:=cZ ‹_›;refine dC (cs:=l[k].cells) ml rfl (fun j v J=>by rw [m.cellS hS]; exact aX O j v J) ?_;exact ⟨a.set 3 rfl,m⟩
 ·exact ⟨a.set 4 rfl,m⟩
 ·exact ⟨a.set 5 rfl,m⟩
 ·obtain rfl:=cY ‹_›;obtain rfl:=c8 ‹_›;refine aN ie p ?_;exact ⟨a.set 6 rfl,m⟩
 ·obtain rfl:=cB ‹_›;refine dC (cs:=l[k].cells) ml rfl (fun j v J=>by rw [m.cellS N]; exact aX q j v J) ?_;exact ⟨a.set 7 rfl,m⟩
 ·obtain rfl:=c4 ‹_›;obtain rfl:=df ‹_›;refine Run.of (GE _) ?_;exact ⟨a.set 8 rfl,m⟩
 obtain ⟨rfl,rfl,rfl,rfl,rfl,rfl,rfl,rfl,rfl,_⟩:=a.all;clear a c9 cX cZ c4 cY c8 cB df dK;refine aE (fun C=>by cases C) (fun _=>?_);refine bz (by omega) ?_;exact ⟨⟨k+1,p,rfl,m⟩,by simp [intOf]; omega⟩
theorem Run.pubOC {f:FuncId} {fn:Func} {args:List Value} {c:C} {b:Bool} (hf:Tryz.prog.funcs[f]?=some fn) (hn:(fn.name == "runtime.NumGoroutine" || fn.body.isNone)=false) (a:Inv w0 X L S w)
  (hc:Tri Tryz.prog f args [] S (Gl c b)) (hk:∀ cs S' w',Sle S S'->RdC S' cs c->Inv w0 X L S' w'->K (.tuple #[.agg cs.toArray,.bool b]) w'):Run Tryz.prog (dX (.func (.func f) #[] #[]) args) w K:=by
 refine Run.call0 hf hn a hc fun l I' S' w'=>?_;rintro ⟨cs,M,rfl,rfl,j⟩ i a;obtain ⟨S1,g,h,a,_⟩:=Inv.lendAll M a;exact hk _ _ _ (i.trans g) (j.rd h) a
theorem zx (h:RdSl S 1 jy v ys):Pure Tryz.prog bO [v] S (.bool true):=by
 intro w a;refine fZ.2 ?_;dsimp only[fZ,aG];refine aL h dv ?_;refine eD ?_;refine aR (fun _=>done a rfl) (fun _=>?_);refine Run.call0E jU jO a (je h) fun v1 I' S1 w'=>?_;rintro ⟨rfl,cs,c,rfl,hc,O⟩ M a;have a:Inv w [] [] S1 w':=a;have j:=hc.length;refine aF a bZ fun b3 w' a=>?_;refine al a 0 rfl aC (by simpa using j) rfl (by simpa using hc.one) fun w' a=>?_;refine au a 0 aC rfl (by simpa using j) ?_;have a:Inv w [] [.blk b3 (.cells cs.toArray ae)] S1 w':=a;refine Run.pubOC mu mx a (km hc (by omega)) fun xs S2 w' l u a=>?_;have hc:=hc.mono l;have C:=u.length;refine aA (v:=.agg xs.toArray) rfl ?_;refine aA (v:=.bool (a4 c)) rfl ?_;refine aF a bZ fun B w' a=>?_;refine al a 1 rfl aC (by simpa using C) rfl (by simpa using u.one) fun w' a=>?_;refine au a 0 aC rfl (by simpa using j) ?_;have a:Inv w [] [.blk b3 (.cells cs.toArray ae),.blk B (.cells xs.toArray ae)] S2 w':=a;refine Run.call0E iH iz a (gB hc) fun N I' S3 w'=>?_;rintro ⟨rfl,U,rfl,g⟩ m a;have a:Inv w [] [.blk b3 (.cells cs.toArray ae),.blk B (.cells xs.toArray ae)] S3 w':=a;have hc:=hc.mono m.1;have u:=u.mono m.1;refine aA (v:=U) rfl ?_;refine aA (v:=.bool (a4 c)) rfl ?_;refine au a 1 aC rfl (by simpa using C) ?_;refine Run.call0E iH iz a (gB u) fun N I' S4 w'=>?_;rintro ⟨rfl,V,rfl,i⟩ o a;have a:Inv w [] [.blk b3 (.cells cs.toArray ae),.blk B (.cells xs.toArray ae)] S4 w':=a;have hc:=hc.mono o.1;have g:=g.monoK o.1;refine aA (v:=V) rfl ?_;refine aA (v:=.bool (a4 (GZ c))) rfl ?_;refine au a 0 aC rfl (by simpa using j) ?_;refine Run.call0E nl nu a (ln hc (by omega)) fun N I' S5 w'=>?_;rintro ⟨rfl,Y,rfl,r⟩ p a;have a:Inv w [] [.blk b3 (.cells cs.toArray ae),.blk B (.cells xs.toArray ae)] S5 w':=a;have g:=g.monoK p.1;have i:=i.monoK p.1;have D:Sle S S5:=M.1.trans (l.trans (m.1.trans (o.1.trans p.1)));refine aA (v:=Y) rfl ?_;refine aA (v:=.bool (a4 c)) rfl ?_;refine ⟨fun t w'=>t=.bool (!a4 c)/\Inv w [] [.blk b3 (.cells cs.toArray ae),.blk B (.cells xs.toArray ae)] S5 w',?_,?_⟩
 ·refine Gj tk ?_;rw [beq_self_eq_true];refine rpG ?_;refine Run.callPure lU lh a (j2 g r) fun w' a=>?_;refine dD ?_;refine rpG ?_;refine dD ?_;refine rpG ?_;exact ⟨rfl,a⟩
 intro z _ _ _ _ _ _ _ _ _ _ _ _ w';rintro ⟨rfl,a⟩;refine aE (fun _=>?_) (fun q=>?_)
 ·refine I8 tk ?_;rw [beq_self_eq_true];refine rpG ?_;refine Run.callPure lU lh a (j2 g r) fun w' a=>?_;refine rpG ?_;exact rt a D rfl
 rw [Bool.not_eq_false'] at q;have G:GZ c=wD (bu c) c:=by rw [GZ,ai q]
 have J:=FK q;rw [G,ai J,G6 q] at i;rw [ai q] at g;rw [G,J,q];refine rpG ?_;refine Run.callPure lU lh a (j2 g i) fun w' a=>?_;refine rpG ?_;exact rt a D rfl
end
end
section
open Go Go.ChangeShapes Go.WideShapes Go.ChangeAt Go.RowKit

theorem Tryz.own:ownKnob Tryz.prog.godebug=none:=by kernel_rfl
theorem Tryz.kids:Kids Tryz.prog (·<Tryz.prog.types.size):=kids_rows (by kernel_rfl) (by kernel_rfl)
theorem Tryz.full:∀ t e,t<Tryz.prog.types.size->Tryz.prog.underlying t=some (.slice e)->0<Tryz.prog.cellsOf e:=slices_full_of Tryz.prog (by kernel_rfl)
section
variable {H:Type} {enc:TypeId × Value->H} {W W':World}
theorem Ar {P:Program}:∀ {i:List TypeId} {vs:List Value} {ds:List (DataW H)} {a:List MemPlace},DataW.TrodAll enc P W 0 (fun _=>true) true i vs ds a->(∀ p∈a,W.sameAt W' p)->
  DataW.TrodAll enc P W' 0 (fun _=>true) true i vs ds a
 | [],[],[],_,h,_=>h
 | _::_,_::_,_::_,_,⟨p,q,⟨n,h1⟩,h2,e⟩,hs=>
  ⟨p,q,⟨n,DataW.trod_carry n _ _ _ h1 fun x g=>hs x (by rw [e]; exact iF _ g)⟩,Ar h2 fun x g=>hs x (by rw [e]; exact kG _ g),e⟩
theorem Ht {p:MemPlace} (h:∀ b,b<W.heap.size->W'.heap[b]?=W.heap[b]?) (a:p.block<W.heap.size):W.sameAt W' p:=by
 cases p with
 | cell b g=>simp only [World.sameAt,World.cell?]; rw [h b a]
 | map b=>exact h b a
theorem E1 {f:Func} {s:ChangeSpec} {args:Array Value} {ds i:List (DataW H)} {a p q:List MemPlace}
  (C:DataW.Whole enc Tryz.prog f.params.toList s.vars false W args.toList ds i a) (J:DataW.TrodAll enc Tryz.prog W 0 (fun _=>true) true f.params.toList args.toList ds p)
  (D:DataW.TrodVars enc Tryz.prog W (fun _=>true) s.vars i q) (l:a=p++q) (G:s.vars=[]) (m:∀ t∈f.params.toList,t<Tryz.prog.types.size) (M:f.resultTypes=#[IJ])
  (N:(s.fn H (ds++i)).results=[.lit (.bool true)]) (O:(s.fn H (ds++i)).args=ds) (o:(s.fn H (ds++i)).vars=[]) (r:Inv W [] [] (D0 W) W') :
  s.post enc Tryz.prog f false true false false W args (.bool true) W':=by
 have g:∀ b,b<W.heap.size->W'.heap[b]?=W.heap[b]?:=fun b l=>r.same b l;have j:=C.lt;rw [G] at D;obtain ⟨V,U⟩:=trodVars_none D;subst U;rw [cS] at l;subst l;have B:=Ar (W':=W') J fun x u=>Ht g (j x u);refine ⟨ds,i,a,[],a,[],C,?_,?_,?_,E7 r.os r.output g,fun h=>by cases h⟩
 ·rw [N,M];exact trodAll_mk1 (shut_bool tk true)
 ·rw [O];exact DataW.TrodAll.respare Tryz.kids Tryz.full m B fun x u=>by simpa using j x u
 ·rw [G,o];rfl
end
end
end Go.Proofs.YtjbcdmheajljpaaGreat
