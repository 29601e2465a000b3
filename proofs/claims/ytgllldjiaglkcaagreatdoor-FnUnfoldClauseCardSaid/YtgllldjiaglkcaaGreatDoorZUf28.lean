/- impl.UnfoldClause. -/
import Derived.Test.YtgllldjiaglkcaaGreatDoorZUf25
import Derived.Lib.Overlaps
namespace Go.Proofs.YtgllldjiaglkcaaGreatDoor
section
open Go Go.RowKit
theorem Grown.append {α:Type} {k:Nat} {R:bh->List Value->α->Prop} {Ls Ls':List bh} {css a:List (List Value)} {ys g:List α} (h:Grown k R Ls css ys) (l:Grown k R Ls' a g):Grown k R (Ls++Ls') (css++a) (ys++g):=by
 have e:=h.hc;have r:=l.hc;have f:=h.hL;have t:=l.hL;refine ⟨by simp [f,t],by simp [e,r],fun c hc=>?_,fun i q B D=>?_⟩
 ·rcases bF.1 hc with hc|hc
  ·exact h.hk c hc
  ·exact l.hk c hc
 ·by_cases o:i<ys.length
  ·rw [fA (by omega),fA (by omega),fA o];exact h.hR i o (by omega) (by omega)
  ·have m:i - ys.length<g.length:=by simp at q; omega
   rw [eZ (by omega),eZ (by omega),eZ (by omega)];have:=l.hR (i - ys.length) m (by omega) (by omega);simpa only [e,f] using this
theorem Grown.one {Ls:List bh} {css:List (List Value)} {ys:List C} (h:Grown 5 TrC Ls css ys):∀ cs∈css,∀ u∈cs,u.oneCell'=true:=by
 intro cs a;obtain ⟨i,f,rfl⟩:=mT.1 a;have g:=h.hc;have l:=h.hL;exact (h.hR i (by omega) (by omega) f).one
attribute [local irreducible] Run CondV aq aK
theorem sL {p:List C} {S:ae} {v:Value} (h:RdSl S 5 (RdC S) v p) (Y:p.length+wP p<=1048576):Tri Tryz.prog ER [v] [] S fun r I' S'=>S'=S/\∃ Ls css,I'=aA r ac 5 css::aV Ls.flatten/\Grown 5 TrC Ls css p:=by
 intro w a;refine rx.2 ?_;dsimp only[rx,aO];refine aJ h bf ?_;refine ⟨fun i t w'=>∃ (k:Nat) (Ls:List bh) (css:List (List Value)),k<=p.length/\i=.int .i64 k/\Grown 5 TrC Ls css (p.take k)/\Inv w [] (aA t ac 5 css::aV Ls.flatten) S w',
  fun i _ _=>p.length - (intOf i).toNat,⟨0,[],[],bk _,rfl,Grown.nil _ _,a.rowNil ac 5⟩,?_⟩
 intro Z _ D _ _ _ _ _ _ _ _ _ w';rintro ⟨k,Ls,css,hk,rfl,o,a⟩;refine bS ?_;refine aL (fun B=>?_) (fun B=>?_)
 ·have f:k<p.length:=by omega
  have N:(p.take k).length=k:=by simp; omega
  have O:=o.hc;refine co a h bf aH f (fun _ _=>RdC.length) fun cs g=>?_;have U:=bG f;have V:=KT U;have m:=g.length;refine aQ a cX fun G w' a=>?_;have a:=a.perm (M:=.blk G _::(aA D ac 5 css::aV Ls.flatten)) (cj (l₁:=[_]));refine au a 0 rfl aH (by simpa using m) rfl (by simpa using g.one) fun w' a=>?_;refine aC a 0 aH rfl (by simpa using m) ?_;have a:Inv w [] (aA D ac 5 css::aV Ls.flatten) S w':=a.sub (fH _ _);refine Run.call0 s0 sC a (sd g (by omega)) fun J I' S' w'=>?_;rintro ⟨rfl,l,L,rfl,rfl,q⟩ _ a;refine de a 0 l dd (by omega) (by omega) rfl q.length q.one (by omega) (by omega) fun J w' a=>?_;refine bC (by omega) ?_;refine ⟨⟨k+1,Ls++[L],css++[l],f,rfl,?_,?_⟩,by simp [intOf]; omega⟩
  ·rw [eV f];exact o.snoc q q.length
  ·simp only [mG,fh,k0,bV,cK];exact a
 ·have:k=p.length:=by omega
  subst this;rw [d4] at o;exact ⟨_,_,_,rfl,a,Ext.refl _ _ _,rfl,Ls,css,rfl,o⟩
set_option maxHeartbeats 2000000 in
theorem sQ {p r:List C} {S:ae} {v:Value} {i:Int} {b:Bool} (hr:UB p i r b) (h:RdSl S 5 (RdC S) v p) (hw:p.length+wP p<=1048576):Tri Tryz.prog AX [v,.int .i64 i] [] S (QR r b):=by
 intro w a;refine mX.2 ?_;dsimp only[mX,bm];refine Run.callPure Ew GW a (Bl i h hw) fun w' a=>?_;refine cw ?_;rcases hr with ⟨hu,rfl,rfl⟩|⟨hu,os,b4,a0⟩
 ·rw [hu];refine aD (fun _=>?_) (fun hb=>by cases hb);exact ⟨_,_,_,rfl,a,Ext.refl _ _ _,_,[],rfl,rfl,TrSl.nil (by simp [maxLen])⟩
 rw [hu];refine aD (fun hb=>by cases hb) (fun _=>?_);obtain ⟨g2,j,hj,rfl,d3⟩:=mt hu;obtain ⟨g,gs,b6,k9⟩:=im d3;obtain ⟨i6,a2⟩:=pw g2;obtain ⟨d6,i7,d7⟩:=OY hu b4;rw [yJ hj b6] at b4;rw [cu] at b4;have e5:∀ os,qh p j os=(p.take j++jh os)++p.drop (j+1):=fun os=>by rw [qh,cu]
 rw [e5] at a0 d7;have e6:p[j].body≠[]:=by rw [b6]; simp
 have h4:0<p[j].body.length:=by rw [b6]; simp
 have h5:p[j].body[0]=g:=by simp [b6]
 obtain ⟨vb,vo,c0,rfl⟩:=h.some (by omega);obtain ⟨c1,E1,l0,d9,g3,g4,e0⟩:=h.clauseAt hj;have e7:=e0.length;have h6:(p.take j).length+wP (p.take j)<=1048576:=by
  have:=Rj (b:=6000) (p:=p.take j) fun c hc=>(a2 c (lB hc)).2;have h2:(p.take j).length<=20:=by simp only [cM]; omega
  have h3:(p.take j).length * 6000<=20 * 6000:=gM _ h2;omega
 have h7:(p.drop (j+1)).length+wP (p.drop (j+1))<=1048576:=by
  have:=Rj (b:=6000) (p:=p.drop (j+1)) fun c hc=>(a2 c (xz hc)).2;have h2:(p.drop (j+1)).length<=20:=by simp only [mi]; omega
  have h3:(p.drop (j+1)).length * 6000<=20 * 6000:=gM _ h2;omega
 refine IV bf h (by omega) fun v3 e3=>?_;refine Run.call0 rZ rY a (sL e3 h6) fun v4 I' S' w'=>?_;rintro ⟨eS,Ls0,b1,rfl,d0⟩ _ a;rw [eS] at a;have a:Inv w [] (aA v4 ac 5 b1::aV Ls0.flatten) S w':=a;refine Lf a h bf aU al hj fun f9 a8=>?_;obtain ⟨hd,g5,rfl,h1,h2⟩:=a8;obtain ⟨kv,rfl,_⟩:=RdT.iff.1 h1;refine ⟨g5,rfl,?_⟩;refine co (i:=0) a h2 ah ad h4 (fun _ _=>RdT.length) fun f9 a8=>?_;rw [h5] at a8;refine Run.callPure uW uO a (l7 a8) fun w' a=>?_;refine Run.call0 ll lq a (kl (bN g) h (by omega)) fun v1 I' S' w'=>?_;rintro ⟨rfl,eS⟩ _ a;rw [eS] at a;have a:Inv w [] ((aA v4 ac 5 b1::aV Ls0.flatten)++[dk v1 (jF p g)]) S w':=a;obtain ⟨S1,c6,g6,a⟩:=a.lendExtR;have c9:=g6.ints;have c3:∀ n∈jF p g,∃ m:Nat,n=m/\m<p.length:=fun n hn=>EO hn;have h8:(jF p g).length<=p.length:=ja _ p 0;generalize jF p g=ks at c9 c3 h8 b4;obtain ⟨l1,g7⟩:=b4;refine aJ c9 cA ?_;refine ⟨fun i t w'=>∃ (m:Nat) (Ls:List bh) (css:List (List Value)) (Sm:ae),m<=ks.length/\i=.int .i64 m/\(os.take m).all jp=true/\Grown 5 TrC Ls css (p.take j++jh (os.take m))/\Ext w.heap.size [] S1 Sm/\Inv w [] (aA t ac 5 css::aV Ls.flatten) Sm w',
  fun i _ _=>ks.length - (intOf i).toNat,⟨0,Ls0,b1,S1,bk _,rfl,by rw [sS]; rfl,by rw [sS,jh,bV]; exact d0,Ext.refl _ _ _,a⟩,?_⟩
 intro j1 _ t6 _ _ _ _ _ _ _ _ _ _ _ _ j2 j3 t9 j4 j5 j6 j7 j8 j9 k1 k2 k3 k4 k5 k6 k7 _ _ _ _ w';rintro ⟨m,Ls,css,Sm,hm,rfl,c4,b2,b0,a⟩;refine bS ?_;have h9:=b2.hc;have i9:=KE (os:=os.take m) fun o ho=>d6 o (lB ho);have l4:(os.take m).length<=20:=by simp only [cM]; omega
 have i0:css.length<=40:=by
  rw [h9,bA,cM];omega
 refine aL (fun g0=>?_) (fun g0=>?_)
 ·have b7:m<ks.length:=by omega
  have b8:m<os.length:=by omega
  obtain ⟨n,hn,c7⟩:=c3 _ (bG b7);obtain ⟨_,l2,b3⟩:=g7 m b7 b8;have i1:p[ks[m].toNat]=p[n]:=by congr 1; omega
  rw [i1] at b3;have a4:=IM b8;have f0:=a2 _ (bG hj);have f1:=a2 _ (bG c7);have a9:jp os[m]=false->r=[]/\b=false:=fun hk=>by
   have:os.all jp=false:=by
    cases ha:os.all jp with
    | false=>rfl
    | true=>
     rw [dD] at ha;rw [ha _ (bG b8)] at hk;cases hk
   rcases a0 with ⟨_,h1,h2⟩|⟨h1,_⟩
   ·exact ⟨h1,h2⟩
   ·rw [this] at h1; cases h1
  have a5:jp os[m]=true->(os.take (m+1)).all jp=true:=fun hk=>JW b8 c4 hk;generalize os[m]=o at b3 a4 a9 a5;obtain ⟨c2,E2,l3,e1,g8,g9,e2⟩:=h.clauseAt c7;have f2:=e2.length;have a3:=c6.trans b0;refine ⟨fun t w'=>∃ Ls' a6 SN,Grown 5 TrC Ls' a6 (p.take j++jh (os.take (m+1)))/\(os.take (m+1)).all jp=true/\Ext w.heap.size [] S1 SN/\Inv w [] (aA t ac 5 a6::aV Ls'.flatten) SN w',?_,?_⟩
  ·refine fg a (c9.mono b0.1 fun _ _ h=>h) cA aG b7 (fun cs g1=>g1) ?_;rw [hn];refine ⟨fun D Io Mh x9 sx F0 Aa sr Ea Ah FB tU xC oJ qd vj sy w_=>Fx D 0 [sy=.slice (some ⟨vb,vo,none⟩) p.length c0,vj=.int .i64 j,qd=.pointer (some ⟨vb,vo+j * 5,none⟩),oJ=.agg (List.toArray d9),xC=.slice (some ⟨vb,vo,none⟩) p.length c0,tU=.int .i64 n,FB=.pointer (some ⟨vb,vo+n * 5,none⟩),Ah=.agg (List.toArray e1),True,True,True,F0=.bool (iB o),sx=.bool (xI o),True,True,Mh=.bool (iB o),Io=.bool (xI o)]/\∃ SN G N V U,Ext w.heap.size [] Sm SN/\(D 8=true->Ea=.tuple #[.agg N.toArray,.bool (iB o),.bool (xI o)]/\TrC G N (clO o))/\(D 9=true->D 8=true/\sr=.tuple #[.agg N.toArray,.bool (iB o),.bool (xI o)])/\(D 10=true->D 8=true/\Aa=.agg N.toArray)/\(D 13=true->x9=.pointer (some ⟨V,0,none⟩))/\(D 14=true->D 8=true/\D 13=true/\U=N.toArray)/\U.size=5/\Inv w [] (aA t6 ac 5 css::(cond (D 13) [.blk V (.cells U ac)] []++(aV Ls.flatten++cond (D 8) (aV G) []))) SN w_,⟨Fx.nil _ _,⟨Sm,[],[],0,#[.int .i64 0,.int .i64 0,.string ⟨#[]⟩,.slice none 0 0,.slice none 0 0],Ext.refl _ _ _,aI,aI,aI,aI,aI,rfl,(by have:=a.draw; simpa using this)⟩⟩,⟨?_,?_,?_,?_,?_,?_,?_,?_,?_,?_,?_,?_,?_,?_,?_,?_,?_,trivial⟩,?_⟩;all_goals (intro D bH; intros; rename_i Io Mh x9 sx F0 Aa sr Ea Ah FB tU xC oJ qd vj sy w_ d1; have O:=d1.1; obtain ⟨⟨cI,cJ,cH,cD,cL,cN,cq,dg,dG,dL,cT,dn,dN,fE,gy,gP,iH,_⟩,⟨SN,G,N,V,U,Y,Z,e9,l,B,f,J,a⟩⟩:=d1)
   ·exact ⟨O.set 0 rfl,⟨SN,G,N,V,U,Y,Z,e9,l,B,f,J,a⟩⟩
   ·exact ⟨O.set 1 rfl,⟨SN,G,N,V,U,Y,Z,e9,l,B,f,J,a⟩⟩
   ·obtain rfl:=cI ‹_›;obtain rfl:=cJ ‹_›;refine az (i:=j) bf hj ?_;exact ⟨O.set 2 rfl,⟨SN,G,N,V,U,Y,Z,e9,l,B,f,J,a⟩⟩
   ·obtain rfl:=cH ‹_›;refine ci (cs:=d9) aH e7 (fun j v hj=>by rw [a.cellS ((a3.trans Y).1 _ _ g3)]; exact aF g4 j v hj) ?_;exact ⟨O.set 3 rfl,⟨SN,G,N,V,U,Y,Z,e9,l,B,f,J,a⟩⟩
   ·exact ⟨O.set 4 rfl,⟨SN,G,N,V,U,Y,Z,e9,l,B,f,J,a⟩⟩
   ·exact ⟨O.set 5 rfl,⟨SN,G,N,V,U,Y,Z,e9,l,B,f,J,a⟩⟩
   ·obtain rfl:=cL ‹_›;obtain rfl:=cN ‹_›;refine az (i:=n) bf c7 ?_;exact ⟨O.set 6 rfl,⟨SN,G,N,V,U,Y,Z,e9,l,B,f,J,a⟩⟩
   ·obtain rfl:=cq ‹_›;refine ci (cs:=e1) aH f2 (fun j v hj=>by rw [a.cellS ((a3.trans Y).1 _ _ g8)]; exact aF g9 j v hj) ?_;exact ⟨O.set 7 rfl,⟨SN,G,N,V,U,Y,Z,e9,l,B,f,J,a⟩⟩
   ·obtain rfl:=cD ‹_›;obtain rfl:=dg ‹_›;rw [bH] at a;refine Run.call0E Fq En a (yk f0.1 f1.1 (by omega) (by omega) e6 b3 (e0.mono (a3.trans Y).1) (e2.mono (a3.trans Y).1)) fun v' I' SN w_=>?_;rintro ⟨N,G,rfl,rfl,hG⟩ f5 a;have Y:=Y.trans f5;have e9:=fun (h:ao D 8 9=true)=>(absurd (e9 h).1 (by rw [bH]; decide):ao D 8 8=true/\sr=.tuple #[.agg N.toArray,.bool (iB o),.bool (xI o)])
    have l:=fun (h:ao D 8 10=true)=>(absurd (l h).1 (by rw [bH]; decide):ao D 8 8=true/\Aa=.agg N.toArray)
    have f:=fun (h:ao D 8 14=true)=>(absurd (f h).1 (by rw [bH]; decide):ao D 8 8=true/\ao D 8 13=true/\U=N.toArray)
    have Z:=fun (_:ao D 8 8=true)=>(⟨rfl,hG⟩:Value.tuple #[.agg N.toArray,.bool (iB o),.bool (xI o)]=.tuple #[.agg N.toArray,.bool (iB o),.bool (xI o)]/\TrC G N (clO o))
    have a:Inv w [] (aA t6 ac 5 css::(cond (D 13) [.blk V (.cells U ac)] []++(aV Ls.flatten++cond true (aV G) []))) SN w_:=by simpa using a
    exact ⟨O.set 8 (by first|assumption|trivial),⟨SN,G,N,V,U,Y,Z,e9,l,B,f,J,a⟩⟩
   ·have DH:=dG ‹_›;have e9:=fun (_:ao D 9 9=true)=>(⟨‹D 8=true›,(Z ‹D 8=true›).1⟩:ao D 9 8=true/\Ea=.tuple #[.agg N.toArray,.bool (iB o),.bool (xI o)])
    exact ⟨O.set 9 (by first|assumption|trivial),⟨SN,G,N,V,U,Y,Z,e9,l,B,f,J,a⟩⟩
   ·have Eb:=dL ‹_›;obtain ⟨f8,q5⟩:=e9 ‹D 9=true›;subst q5;refine av rfl ?_;have l:=fun (_:ao D 10 10=true)=>(⟨f8,rfl⟩:ao D 10 8=true/\Value.agg N.toArray=.agg N.toArray)
    exact ⟨O.set 10 (by first|assumption|trivial),⟨SN,G,N,V,U,Y,Z,e9,l,B,f,J,a⟩⟩
   ·have Eb:=dL ‹_›;obtain ⟨f8,q5⟩:=e9 ‹D 9=true›;subst q5;refine av rfl ?_;exact ⟨O.set 11 rfl,⟨SN,G,N,V,U,Y,Z,e9,l,B,f,J,a⟩⟩
   ·have Eb:=dL ‹_›;obtain ⟨f8,q5⟩:=e9 ‹D 9=true›;subst q5;refine av rfl ?_;exact ⟨O.set 12 rfl,⟨SN,G,N,V,U,Y,Z,e9,l,B,f,J,a⟩⟩
   ·rw [bH] at a;refine aQ a cX fun V w_ a=>?_;have B:=fun (_:ao D 13 13=true)=>(rfl:Value.pointer (some ⟨V,0,none⟩)=.pointer (some ⟨V,0,none⟩))
    obtain ⟨U,a1⟩:∃ q:Array Value,q=#[.int .i64 0,.int .i64 0,.string ⟨#[]⟩,.slice none 0 0,.slice none 0 0]:=⟨_,rfl⟩
    have J:U.size=5:=by rw [a1]; rfl
    have f:=fun (h:ao D 13 14=true)=>(absurd (f h).2.1 (by rw [bH]; decide):ao D 13 8=true/\ao D 13 13=true/\U=N.toArray)
    have a:Inv w [] ((aA t6 ac 5 css::(aV Ls.flatten++cond (D 8) (aV G) []))++[.blk V (.cells U ac)]) SN w_:=by rw [a1]; exact a
    have a:=a.perm (M:=aA t6 ac 5 css::(cond true [.blk V (.cells U ac)] []++(aV Ls.flatten++cond (D 8) (aV G) []))) ((cj (l₁:=[.blk V (.cells U ac)]) (l₂:=aV Ls.flatten++cond (D 8) (aV G) [])).cons _);exact ⟨O.set 13 (by first|assumption|trivial),⟨SN,G,N,V,U,Y,Z,e9,l,B,f,J,a⟩⟩
   ·have Yy:=fE ‹_›;have AB:=cT ‹_›;have q8:=B ‹D 13=true›;obtain ⟨f8,q7⟩:=l ‹D 10=true›;have hT:=(Z f8).2;subst q8;subst q7;rw [‹D 13=true›] at a;refine au a 1 rfl aH (by simpa using hT.length) J (by simpa using hT.one) fun w_ a=>?_;have J:N.toArray.size=5:=by simpa using hT.length
    obtain ⟨U,a1⟩:∃ q:Array Value,q=N.toArray:=⟨_,rfl⟩
    have f:=fun (_:ao D 14 14=true)=>(⟨f8,‹D 13=true›,a1⟩:ao D 14 8=true/\ao D 14 13=true/\U=N.toArray)
    have a:Inv w [] (aA t6 ac 5 css::(cond (ao D 14 13) [.blk V (.cells U ac)] []++(aV Ls.flatten++cond (D 8) (aV G) []))) SN w_:=by rw [show ao D 14 13=D 13 from rfl,‹D 13=true›,a1]; exact a
    rw [<- a1] at J;exact ⟨O.set 14 trivial,⟨SN,G,N,V,U,Y,Z,e9,l,B,f,J,a⟩⟩
   ·obtain rfl:=dn ‹_›;exact ⟨O.set 15 rfl,⟨SN,G,N,V,U,Y,Z,e9,l,B,f,J,a⟩⟩
   ·obtain rfl:=dN ‹_›;exact ⟨O.set 16 rfl,⟨SN,G,N,V,U,Y,Z,e9,l,B,f,J,a⟩⟩
   obtain ⟨rfl,rfl,rfl,rfl,rfl,rfl,rfl,rfl,DH,Eb,AB,rfl,rfl,Yy,_,rfl,rfl,_⟩:=O.all;have FO:D 8=true:=by assumption
   have f3:D 13=true:=by assumption
   have i2:D 14=true:=by assumption
   clear O cI cJ cH cD cL cN cq dg dG dL cT dn dN fE gy gP iH;have q8:=B f3;subst q8;obtain ⟨_,_,qe⟩:=f i2;subst qe;have hT:=(Z FO).2;rw [f3,FO] at a;clear Z e9 l B f;have a:Inv w [] ([aA t6 ac 5 css,.blk V (.cells N.toArray ac)]++(aV Ls.flatten++aV G)) SN w_:=a;refine ⟨fun t w'=>t=.bool (!jp o)/\Inv w [] ([aA t6 ac 5 css,.blk V (.cells N.toArray ac)]++(aV Ls.flatten++aV G)) SN w',?_,?_⟩
   ·rw [<- TN];cases hf:iB o
    ·refine rpG ?_;exact ⟨rfl,a⟩
    refine rpG ?_;refine cw ?_;refine rpG ?_;exact ⟨rfl,a⟩
   intro t _ _ _ _ w';rintro ⟨rfl,a⟩;cases hk:jp o
   ·refine aD (fun _=>?_) (fun hb=>by cases hb);obtain ⟨rfl,rfl⟩:=a9 hk;exact ⟨_,_,_,rfl,a.sub (K0 _),c6.trans (b0.trans Y),_,[],rfl,rfl,TrSl.nil (by simp [maxLen])⟩
   refine aD (fun hb=>by cases hb) (fun _=>?_);cases hf:iB o
   ·refine aD (fun hb=>by cases hb) (fun _=>?_);refine ⟨Ls,css,SN,?_,a5 hk,b0.trans Y,a.sub ?_⟩
    ·rw [a4,OI hf,bV];exact b2
    ·exact (((dt _ _).cons _).cons_cons _)
   ·refine aD (fun _=>?_) (fun hb=>by cases hb);refine aC a 1 aH rfl (by simpa using hT.length) ?_;refine de a 0 N dd (by omega) (by omega) rfl hT.length hT.one (by omega) (by omega) fun v' w' a=>?_;refine ⟨Ls++[G],css++[N],SN,?_,a5 hk,b0.trans Y,?_⟩
    ·rw [a4,Mm hf hk,<- dx];exact b2.snoc hT hT.length
    ·have a:Inv w [] (aA v' ac 5 (css++[N])::(aV Ls.flatten++aV G)) SN w':=a.sub ((fH _ _).cons_cons _);simp only [mG,fh,k0,bV,cK];exact a
  intro k8 _ _ _ _ _ _ _ _ _ _ _ _ _ _ _ _ _ _ _ _ _ _ _ _ _ _ _ _ _ _ _ w';rintro ⟨Ls',a6,SN,f6,d2,f7,a⟩;refine bC (by omega) ?_;exact ⟨⟨m+1,Ls',a6,SN,b7,rfl,d2,f6,f7,a⟩,by simp [intOf]; omega⟩
 ·have i3:m=os.length:=by omega
  subst i3;rw [d4] at c4 b2;refine bC (by omega) ?_;rw [show ((j:Int)+1)=((j+1:Nat):Int) by omega];refine fk bf h (by omega) fun v8 Z=>?_;have a3:=c6.trans b0;refine Run.call0 rZ rY a (sL (Z.monoC a3.1) h7) fun v9 I' S' w'=>?_;rintro ⟨eS,Ls2,a7,rfl,b5⟩ _ a;rw [eS] at a;have i4:=b5.hc;have j0:a7.length<=20:=by rw [i4,mi]; omega
  have a:=a.perm (M:=aA t6 ac 5 css::aA v9 ac 5 a7::(aV Ls.flatten++aV Ls2.flatten)) (List.Perm.cons _ (zal132 (l₁:=aV Ls.flatten) (l₂:=aV Ls2.flatten)).symm);refine ND a 0 1 dd (by omega) rfl rfl b5.hk b5.one (by omega) (by omega) fun c5 w' a=>?_;have i5:=b2.append b5;have a:Inv w [] (aA c5 ac 5 (css++a7)::(aV Ls.flatten++aV Ls2.flatten)) Sm w':=a.sub ((fH _ _).cons_cons _);have a:Inv w [] ([]++(aA c5 ac 5 (css++a7)::aV (Ls++Ls2).flatten)) Sm w':=by
   rw [mG,cK];exact a
  obtain ⟨M,hT,a⟩:=Inv.rowTree (R:=TrC) a i5;obtain ⟨S2,i8,e4,a,c8⟩:=Inv.lendAll M a;have f4:RdSl S2 5 (RdC S2) c5 ((p.take j++jh os)++p.drop (j+1)):=hT.rd e4 fun _ _ _ hi h=>h.rd hi;generalize hq:(p.take j++jh os)++p.drop (j+1)=q at f4 d7 a0 hT;rw [c4] at a0;refine Run.callPure jj jI a (iF f4) fun w' a=>?_;have a:=c8 _ _ a;refine cw ?_;rcases a0 with ⟨h0,_⟩|⟨_,⟨hv,rfl,rfl⟩|⟨hv,rfl,rfl⟩⟩
  ·cases h0
  ·rw [hv];refine aD (fun hb=>by cases hb) (fun _=>?_);exact ⟨_,_,_,rfl,a,a3,_,M,rfl,rfl,hT⟩
  ·rw [hv];refine aD (fun _=>?_) (fun hb=>by cases hb);exact ⟨_,_,_,rfl,a.sub (K0 _),a3,_,[],rfl,rfl,TrSl.nil (by simp [maxLen])⟩
end
section
open Go Go.RowKit
section
variable {P:Program} {w w0:World} {X:List Nat} {L:List Item} {S:ae} {K:Value->World->Prop}
attribute [local irreducible] Run CondV aq aK
end
section
attribute [local irreducible] Run CondV aq aK
end
end
section
open Go Go.RowKit
section
variable {P:Program} {w w0:World} {X:List Nat} {L:List Item} {S:ae} {K:Value->World->Prop}
attribute [local irreducible] Run CondV aq aK
end
section
attribute [local irreducible] Run CondV aq aK
end
end
section
open Go Go.RowKit
section
variable {P:Program} {w:World} {K:Value->World->Prop}
attribute [local irreducible] Run
end
section
attribute [local irreducible] Run CondV aq aK
end
end
section
open Go Go.RowKit
section
variable {P:Program} {w w0:World} {X:List Nat} {L:List Item} {S:ae} {K:Value->World->Prop}
attribute [local irreducible] Run CondV aq aK
end
section
attribute [local irreducible] Run CondV aq aK
end
end
section
open Go Go.RowKit

def Ye (y:T):Prop:=eB y=true/\y.kids=[]/\y.kind≠1
def Fct (x:T):Prop:=x.kind=3/\eB x=true/\∀ y∈x.kids,Ye y
def Gl (g:T):Prop:=g.kind=3/\eB g=true/\∀ y∈g.kids,eB y=true/\y.kids=[]
def StF (st:aj):Prop:=st.length=26/\∀ t,some t∈st->Ye t
def bnd (st:aj) (n:Int):Prop:=∃ t,st[n.toNat]?=some (some t)
theorem Pl {s:ByteArray} (h:lJ s=true):s.size<=6:=by
 rw [lJ,jc] at h;rcases h with h|h
 ·rw [my] at h;simp only [bM,bD] at h;exact h.2.2
 ·simp only [Gd,bD] at h;obtain ⟨x,a,rfl⟩:=h;have:∀ y∈signs,y.size<=6:=by decide +kernel
  exact this x a
theorem Jg {t:T} (h:eB t=true):t.name.size<=6/\t.kids.length<=4:=by
 unfold eB at h;have f:emptyB.size=0:=by decide +kernel
 by_cases e1:t.kind=1
 ·rw [ai e1] at h;simp only [bM,bD] at h;rw [h.2.2.1]; omega
 ·rw [ag e1] at h;by_cases e2:t.kind=2
  ·rw [ai e2] at h;simp only [bM,bD] at h;rw [h.2.2.1]; omega
  ·rw [ag e2] at h;by_cases a:t.kind=3
   ·rw [ai a] at h;simp only [bM,bD] at h;exact ⟨Pl h.2.1,h.2.2⟩
   ·rw [ag a] at h;cases h
theorem Wk (t:T):wT t=t.name.size+t.kids.length+wL t.kids:=by cases t; rw [wT]; rfl
theorem R8 (t:T):okV t↔(t.kind=1->0<=t.n/\t.n<=25)/\AC t.kids:=by cases t; rw [okV]; rfl
theorem R5 (t:T):okK t↔t.kind≠0/\PK t.kids:=by cases t; rw [okK]; rfl
theorem Sg (t:T):okO t↔(((t.kind=1 ∨ t.kind=2)/\t.name=emptyB/\t.kids=[]) ∨ (t.kind=3/\t.n=0))/\QH t.kids:=by cases t; rw [okO]; rfl
theorem Sw:∀ {ts:List T},(∀ t∈ts,okO t)->QH ts
 | [],_=>by simp [QH]
 | t::ts,h=>by rw [QH]; exact ⟨h t (aM ..),Sw fun u a=>h u (aR _ a)⟩
theorem LI {y:T} (h:eB y=true) (hk:y.kids=[]):okV y/\okK y/\okO y/\wT y<=6:=by
 have a:=Qf h;have f:=NO h;have g:=Jg h;refine ⟨(R8 y).2 ⟨a.1,by rw [hk]; simp [AC]⟩,(R5 y).2 ⟨a.2,by rw [hk]; simp [PK]⟩,(Sg y).2 ⟨f,by rw [hk]; simp [QH]⟩,?_⟩;rw [Wk,hk];simp only [bW,wL];omega
theorem GC:∀ (ts:List T) (b:Nat),(∀ t∈ts,wT t<=b)->wL ts<=ts.length * b
 | [],b,_=>by simp [wL]
 | t::ts,b,h=>by
  rw [wL,bq,iX];have f:=h t (aM ..);have g:=GC ts b fun u a=>h u (aR _ a);omega
theorem node_ok {x:T} (f:eB x=true) (hk:∀ y∈x.kids,eB y=true/\y.kids=[]):okV x/\okK x/\okO x/\wT x<=34:=by
 have g:=Qf f;have h:=NO f;have i:=Jg f;have hl:=fun y a=>LI (hk y a).1 (hk y a).2;refine ⟨(R8 x).2 ⟨g.1,L9 fun y a=>(hl y a).1⟩,(R5 x).2 ⟨g.2,RD fun y a=>(hl y a).2.1⟩,(Sg x).2 ⟨h,Sw fun y a=>(hl y a).2.2.1⟩,?_⟩;have l:=GC x.kids 6 fun y a=>(hl y a).2.2.2;have m:x.kids.length * 6<=4 * 6:=gM 6 i.2;rw [Wk];omega
theorem Fct.ok {x:T} (h:Fct x):okV x/\okK x/\okO x/\wT x<=34:=node_ok h.2.1 fun y a=>⟨(h.2.2 y a).1,(h.2.2 y a).2.1⟩
theorem Gl.ok {x:T} (h:Gl x):okV x/\okK x/\okO x/\wT x<=34:=node_ok h.2.1 h.2.2
theorem StF.ok {st:aj} (h:StF st):aaZ st/\stW st:=⟨⟨h.1,fun t a=>(LI (h.2 t a).1 (h.2 t a).2.1).2.1⟩,fun t a=>by have:=(LI (h.2 t a).1 (h.2 t a).2.1).2.2.2; omega⟩
def YZ (hd:T) (gs:List T) (st:aj):Prop:=∀ y∈hd.kids,y.kind=1->bnd st y.n ∨ ∃ g∈gs,∃ z∈g.kids,z.kind=1/\z.n=y.n
end
section
open Go Go.RowKit
def IsM (S:ae) (v:Value) (r:Bool × aj):Prop:=∃ kb kp kc,v=.tuple #[kvn kb kp,.bool r.1]/\26<=kp/\kp<=maxLen/\S kb=some (.cells kc ab)/\KnownC S kc r.2
def IsKn (S:ae) (v:Value) (st:aj):Prop:=∃ kb kp kc,v=kvn kb kp/\26<=kp/\kp<=maxLen/\S kb=some (.cells kc ab)/\KnownC S kc st
theorem IsM.mono {S S':ae} {v:Value} {r:Bool × aj} (h:IsM S v r) (a:Sle S S'):IsM S' v r:=by
 obtain ⟨f,kp,g,i,l,m,o,q⟩:=h;exact ⟨f,kp,g,i,l,m,a _ _ o,q.mono a⟩
theorem IsKn.mono {S S':ae} {v:Value} {st:aj} (h:IsKn S v st) (a:Sle S S'):IsKn S' v st:=by
 obtain ⟨f,kp,g,i,l,m,o,q⟩:=h;exact ⟨f,kp,g,i,l,m,a _ _ o,q.mono a⟩
theorem IsM.parts {S:ae} {v:Value} {r:Bool × aj} (h:IsM S v r):∃ u,v=.tuple #[u,.bool r.1]/\IsKn S u r.2:=by
 obtain ⟨a,kp,f,g,i⟩:=h;exact ⟨_,g,a,kp,f,rfl,i⟩
section
attribute [local irreducible] Run CondV aq aK
end
end
section
open Go Go.RowKit
section
attribute [local irreducible] Run CondV aq aK
end
end
section
open Go Go.RowKit
theorem KnownM.mono {S S':ae} {a:Array MapEntry} {st:aj} (h:KnownM S a st) (f:Sle S S'):KnownM S' a st:=
 ⟨fun e g=>by
  obtain ⟨n,t,cs,i,l,m,o⟩:=h.1 e g;exact ⟨n,t,cs,i,l,m.mono f,o⟩,h.2⟩
structure Tell (f:FuncId) (fn:Func) (cap:List Value) {σ:Type} (It:σ->ae->List Item->Prop) (can:σ->Nat->Prop) (step:σ->T->σ) (S0:ae):Prop where
 hf:Tryz.prog.funcs[f]?=some fn
 hn:(fn.name == "runtime.NumGoroutine" || fn.body.isNone)=false
 up:∀ (s:σ) (S S':ae) (I:List Item),Sle S S'->It s S I->It s S' I
 down:∀ (s:σ) (x:T) (n:Nat),Fct x->can s (n+1)->can (step s x) n
 call:∀ (S:ae) (s:σ) (x:T) (cs:List Value) (I:List Item) (n:Nat),Sle S0 S->Fct x->RdT S cs x->It s S I->can s (n+1)->Tri Tryz.prog f (.agg cs.toArray::cap) I S fun r I' S'=>r=.tuple #[]/\It (step s x) S' I'
theorem Tell.mono {f:FuncId} {fn:Func} {cap:List Value} {σ:Type} {It:σ->ae->List Item->Prop} {a:σ->Nat->Prop} {step:σ->T->σ} {S0 S1:ae} (h:Tell f fn cap It a step S0) (g:Sle S0 S1):Tell f fn cap It a step S1:=
 ⟨h.hf,h.hn,h.up,h.down,fun S s x cs I n i=>h.call S s x cs I n (g.trans i)⟩
section
attribute [local irreducible] Run CondV aq aK
end
end
section
open Go Go.RowKit
structure Fs (f:List T):Prop where
 sorted:Sorted f
 fct:∀ x∈f,Fct x
theorem Fs.nil:Fs []:=⟨trivial,by simp⟩
theorem Fs.okO {f:List T} (h:Fs f):∀ x∈f,okO x:=fun x a=>(h.fct x a).ok.2.2.1
structure Pf (p:List C):Prop where
 len:p.length<=20
 parts:∀ c∈p,Gl c.head/\(∀ g∈c.body,Gl g)/\YZ c.head c.body st0
 three:∀ c∈p,c.body.length<=3
theorem Pf.take {p:List C} (h:Pf p) (j:Nat):Pf (p.take j):=⟨by have:=h.len; rw [cM]; omega,fun c hc=>h.parts c (lB hc),fun c hc=>h.three c (lB hc)⟩
theorem Fs.w {f:List T} (h:Fs f):wL f<=f.length * 34:=GC f 34 fun t a=>(h.fct t a).ok.2.2.2
end
section
open Go Go.RowKit
theorem Rows.insert {α:Type} {k:Nat} {R:List Value->α->Prop} {css:List (List Value)} {ys:List α} (h:Rows k R css ys) {cs:List Value} {y:α} (hR:R cs y) (hl:cs.length=k) (i:Nat) :
  Rows k R (css.take i++cs::css.drop i) (ys.take i++y::ys.drop i):=by
 have g:Rows k R (css.take i) (ys.take i):=⟨by simp [h.hc],fun c hc=>h.hk c (lB hc),fun j a f=>by
  rw [C3,C3];exact h.hR j _ _⟩
 have a:Rows k R (css.drop i) (ys.drop i):=⟨by simp [h.hc],fun c hc=>h.hk c (xz hc),fun j a f=>by
  rw [RW,RW];exact h.hR (i+j) _ _⟩
 have:=(g.append (Rows.one hR hl)).append a;simpa using this
section
attribute [local irreducible] Run CondV aq aK
end
end
section
open Go Go.RowKit
section
attribute [local irreducible] Run CondV aq aK
end
end
section
open Go Go.RowKit
section
attribute [local irreducible] Run CondV aq aK
end
end
section
open Go Go.RowKit
section
attribute [local irreducible] Run CondV aq aK
end
end
section
open Go Go.RowKit
section
variable {S:ae} {ys:List Nat} {v:Value}
attribute [local irreducible] Run CondV aq aK
end
end
section
open Go Go.RowKit
section
variable {S:ae} {w w0:World} {X:List Nat} {L:List Item} {K:Value->World->Prop}
attribute [local irreducible] Run CondV aq aK
theorem Zo (h:Inv w0 X L S w) {cs:List Value} {t:T} (hc:RdT S cs t) (hk:∀ v S' w',Ext w0.heap.size X S S'->RdSl S' 4 (RdT S') v [t]->Inv w0 X L S' w'->K v w'):Run Tryz.prog (cd uy 1 [(0,.agg cs.toArray)]) w K:=by
 refine dB h bn (by simp [Value.cells,hc.length]) (by omega) (by omega) fun b w' a=>?_;obtain ⟨S1,a,f,g⟩:=a.pub1;exact hk _ S1 w' f (UG g (hc.mono f.1)) a
end
end
section
open Go Go.RowKit
def okQ (s:ByteArray):Bool:=match re 60 8 (bs s) 0 [] with
 | some (q,n)=>decide (n=s.size) && (dZ q && (decide (wL q<=300) && decide (s.size<=1000)))
 | none=>false
theorem Wi {s:ByteArray} (h:okQ s=true):∃ q,re 60 8 (bs s) 0 []=some (q,s.size)/\dZ q=true/\wL q<=300/\s.size<=1000:=by
 unfold okQ at h;split at h
 ·rename_i q n a
  simp only [bM,bD] at h;obtain ⟨rfl,f,g,i⟩:=h;exact ⟨q,a,f,g,i⟩
 ·cases h
theorem PX {q:List T} (h:dZ q=true):q.length<=6:=by
 rw [dZ,bM] at h;have:=h.1;simp at this;omega
def LightT (n m:Nat) (q:List T):Prop:=q.length<=n/\∀ t∈q,wT t<=m
theorem LightT.le {n m:Nat} {q:List T} (h:LightT n m q):q.length+wL q<=n+n * m:=by
 have:∀ q:List T,(∀ c∈q,wT c<=m)->wL q<=q.length * m:=by
  intro q;induction q with
  | nil=>intro _; simp [wL]
  | cons c q g=>
   intro h;have a:=h c (aM ..);have f:=g fun d hd=>h d (aR _ hd);simp only [wL,bq,iX];omega
 have a:=this q h.2;have f:q.length * m<=n * m:=gM _ h.1;have:=h.1;omega
section
variable {w0 w:World} {X:List Nat} {L A:List Item} {S:ae}
theorem Th {v:Value} {css:List (List Value)} {q:List T} (a:Inv w0 X (aA v ab 4 css::A) S w) (hR:Rows 4 (RdT S) css q) :
  ∃ S',Ext w0.heap.size X S S'/\Inv w0 X A S' w/\RdSl S' 4 (RdT S') v q:=by
 have a:Inv w0 X (A++[aA v ab 4 css]) S w:=a.last 0 rfl;obtain ⟨S',g,f,a⟩:=Inv.lendExt a;exact ⟨S',g,a,RowRd.rows (hR.monoR fun _ _ h=>RdT.mono g.1 h) f⟩
end
section
variable {br:Nat} {sl:Value} {ys:List Nat} {S:ae}
attribute [local irreducible] Run CondV aq aK
theorem Bz {s:ByteArray} (h:okQ s=true):Tri Tryz.prog FN [.string s] [] S fun v I' S'=>I'=[]/\∃ u q,v=.tuple #[u,.bool true]/\RdSl S' 4 (RdT S') u q/\LightT 6 300 q:=by
 intro w f;obtain ⟨q,hq,D,a0,hs⟩:=Wi h;have V:=PX D;have Y:(bs s).length=s.size:=(nt (bs s)).symm;refine r5.2 ?_;dsimp only[r5,aO];refine jw aZ ?_;refine mz (by omega) ?_;refine aD (fun N=>by cases N) (fun _=>?_);refine Run.call0E yM ya f (wg (i:=0) hq (gz (LT Y) (by omega)) (bk _)) fun v I' S1 w'=>?_;rintro ⟨rfl,u,rfl,o⟩ J f;have f:Inv w [] [] S1 w':=f;refine av (v:=u) rfl ?_;refine av (v:=.int .i64 (s.size:Int)) rfl ?_;refine ⟨fun t w'=>t=.bool false/\Inv w [] [] S1 w',?_,?_⟩
 ·refine jw aZ ?_;refine fW ?_;rw [aN rfl];refine rpG ?_;refine Run.callPure Do DQ f (xp o (by omega)) fun w' f=>?_;rw [D];refine cw ?_;refine rpG ?_;exact ⟨rfl,f⟩
 intro Z _ _ _ _ _ _ _ _ w';rintro ⟨rfl,f⟩;refine aD (fun N=>by cases N) (fun _=>?_);refine ei f bn fun v0 w' f=>?_;refine ⟨fun a b w'=>∃ (j:Nat) (S2:ae) (css:List (List Value)),a=.int .i64 (j:Int)/\j<=q.length/\Ext w.heap.size [] S S2/\Sle S1 S2/\Rows 4 (RdT S2) css (q.take j)/\Inv w [] [aA b ab 4 css] S2 w',
  fun a _ _=>q.length - (intOf a).toNat,⟨0,S1,[],rfl,bk _,J,Sle.refl _,Rows.nil _ _,f⟩,?_⟩
 intro t7 _ _ t6 _ _ _ _ _ _ _ _ _ _ _ _ w';rintro ⟨j,S2,css,rfl,hj,r,B,hR,f⟩;have o:=o.monoT B;have a1:=hR.hc;refine aJ o ah ?_;refine bS ?_;refine aL (fun O=>?_) (fun O=>?_)
 ·have l:j<q.length:=by omega
  have hm:=iJ (bG l);have a2:(q.take j).length=j:=by rw [cM]; omega
  refine co f o ah ad l (fun _ _=>RdT.length) fun cs U=>?_;refine Run.call0E fP fO f (il _ S2 cs U (by omega)) fun v' I' S3 w'=>?_;rintro ⟨rfl,ds,M,rfl,rfl,hT⟩ g f;obtain ⟨S3,f,g,G⟩:=f.pubExt;have m:=hT.rd G;refine de (css:=css) f 0 ds bn (by omega) (by omega) rfl m.length m.one (by omega) (by omega) fun v' w' f=>?_;refine bC (by omega) ?_;exact ⟨⟨j+1,S3,_,rfl,l,r.trans g,B.trans g.1,by rw [eV l]; exact (hR.monoR fun _ _ h=>RdT.mono g.1 h).snoc m m.length,f⟩,by simp [intOf]; omega⟩
 ·have:j=q.length:=by omega
  subst this;rw [d4] at hR;obtain ⟨S3,g,f,hr⟩:=Th f hR;exact ⟨_,[],S3,rfl,f,r.trans g,rfl,_,q,rfl,hr,V,fun t ht=>by have:=iJ ht; omega⟩
abbrev XB (br:Nat) (sl:Value) (p k:Nat):Value->List Item->ae->Prop:=fun v I' S'=>∃ p',p'<=p+k/\I'=[rdI br sl p']/\∃ u g ps q,v=.tuple #[u,g]/\RdSl S' 5 (RdC S') u ps/\Light 8 200 ps/\0<ps.length/\RdSl S' 4 (RdT S') g q/\LightT 6 300 q
end
end
section
open Go Go.RowKit
section
variable {br:Nat} {sl:Value} {ys:List Nat} {S:ae}
attribute [local irreducible] Run CondV aq aK
end
end
section
open Go Go.RowKit
mutual
def pvT:PF->List Int->List Int
 | .mk g _ ks,l=>pvL ks (fp g l)
def pvL:List PF->List Int->List Int
 | [],l=>l
 | p::ps,l=>pvL ps (pvT p l)
end
mutual
def pcT:PF->Int
 | .mk g _ ks=>dF g+pcL ks
def pcL:List PF->Int
 | []=>0
 | p::ps=>pcT p+pcL ps
end
section
attribute [local irreducible] Run CondV aq aK
end
end
section
open Go Go.RowKit
inductive BKd where
 | one
 | many (n:Nat)
inductive BldR (st:aj):BKd->List Sp->Option (List PF × List Sp)->Prop
 | big {x:Sp} {l:List Sp} {u:T}:Res st (.one x.goal u)->bv u=false->BldR st .one (x::l) none
 | bad {x:Sp} {l:List Sp} {u:T}:Res st (.one x.goal u)->bv u=true->BldR st (.many x.body.toNat) l none->BldR st .one (x::l) none
 | node {x:Sp} {l l1:List Sp} {u:T} {ks:List PF}:Res st (.one x.goal u)->bv u=true->BldR st (.many x.body.toNat) l (some (ks,l1))->BldR st .one (x::l) (some ([.mk u x.clause ks],l1))
 | nil {l:List Sp}:BldR st (.many 0) l (some ([],l))
 | stop {n:Nat} {l:List Sp}:BldR st .one l none->BldR st (.many (n+1)) l none
 | next {n:Nat} {l l1:List Sp} {k:PF}:BldR st .one l (some ([k],l1))->BldR st (.many n) l1 none->BldR st (.many (n+1)) l none
 | cons {n:Nat} {l l1 l2:List Sp} {k:PF} {ks:List PF}:BldR st .one l (some ([k],l1))->BldR st (.many n) l1 (some (ks,l2))->BldR st (.many (n+1)) l (some (k::ks,l2))
theorem BldR.suf {st:aj} {j:BKd} {l:List Sp} {o:Option (List PF × List Sp)} (h:BldR st j l o):∀ ks f,o=some (ks,f)->∃ a,l=a++f:=by
 induction h with
 | big=>intro ks f h; cases h
 | bad=>intro ks f h; cases h
 | stop=>intro ks f h; cases h
 | next=>intro ks f h; cases h
 | nil=>
  intro ks f h;simp only [aY,cE] at h;obtain ⟨rfl,rfl⟩:=h;exact ⟨[],rfl⟩
 | @node x _ _ _ _ _ _ _ m=>
  intro ks f h;simp only [aY,cE] at h;obtain ⟨rfl,rfl⟩:=h;obtain ⟨a,rfl⟩:=m _ _ rfl;exact ⟨x::a,rfl⟩
 | cons _ _ g i=>
  intro ks f h;simp only [aY,cE] at h;obtain ⟨rfl,rfl⟩:=h;obtain ⟨a,rfl⟩:=g _ _ rfl;obtain ⟨b,rfl⟩:=i _ _ rfl;exact ⟨a++b,by rw [dx]⟩
def tM:Nat->List Sp->Prop
 | 0,_=>True
 | _+1,[]=>False
 | k+1,x::l=>tM (k+x.body.toNat) l
theorem Rp:∀ (b a:List Sp) (k:Nat),openP (a++b)->pend (a++b)=0->pend a=k->(∀ x∈b,0<=x.body)->tM k b
 | [],a,k,_,h0,hk,_=>by
  rw [bV] at h0;have:k=0:=by omega
  subst this;trivial
 | x::b,a,k,ho,h0,hk,hb=>by
  have g:=ho a (x::b) rfl (by simp);obtain ⟨m,rfl⟩:∃ m:Nat,k=m+1:=⟨k - 1,by omega⟩
  have h:=hb x (aM ..);rw [tM];refine Rp b (a++[x]) _ ?_ ?_ ?_ fun y f=>hb y (aR _ f)
  ·rw [dx]; exact ho
  ·rw [dx]; exact h0
  ·rw [AQ]; omega
theorem Xb {N:Nat} {st:aj} (Y:Good N st):∀ (L:Nat) (l:List Sp),l.length<=L->okLp N l->
  (∀ m,tM (m+1) l->∃ o,BldR st .one l o/\∀ ks i,o=some (ks,i)->∃ k,ks=[k]/\tM m i)/\
  (∀ n m,tM (m+n) l->∃ o,BldR st (.many n) l o/\∀ ks i,o=some (ks,i)->ks.length=n/\tM m i):=by
 intro L;induction L with
 | zero=>
  intro l hl _;have:=gF (Nat.le_zero.1 hl);subst this;refine ⟨fun m h=>h.elim,fun n m h=>?_⟩;cases n with
  | zero=>
   refine ⟨_,.nil,fun ks i e=>?_⟩;simp only [aY,cE] at e;obtain ⟨rfl,rfl⟩:=e;exact ⟨rfl,h⟩
  | succ n=>exact h.elim
 | succ L ih=>
  intro l hl f;have q:∀ (l:List Sp),l.length<=L+1->okLp N l->∀ m,tM (m+1) l->∃ o,BldR st .one l o/\∀ ks i,o=some (ks,i)->∃ k,ks=[k]/\tM m i:=by
   intro l hl f m r;cases l with
   | nil=>exact r.elim
   | cons x l=>
    obtain ⟨⟨ho,_⟩,_⟩:=f x (aM ..);obtain ⟨u,O⟩:=Kj Y x.goal ho;cases B:bv u with
    | false=>exact ⟨_,.big O B,fun _ _ e=>by cases e⟩
    | true=>
     rw [tM] at r;obtain ⟨o,g,t⟩:=(ih l (by simpa using hl) fun y J=>f y (aR _ J)).2 x.body.toNat m r
     match o,g,t with
     | none,g,_=>exact ⟨_,.bad O B g,fun _ _ e=>by cases e⟩
     | some (ks,l1),g,t=>
      refine ⟨_,.node O B g,fun M i e=>?_⟩;simp only [aY,cE] at e;obtain ⟨rfl,rfl⟩:=e;exact ⟨_,rfl,(t _ _ rfl).2⟩
  refine ⟨q l hl f,?_⟩;intro n;induction n generalizing l with
  | zero=>
   intro m r;refine ⟨_,.nil,fun ks i e=>?_⟩;simp only [aY,cE] at e;obtain ⟨rfl,rfl⟩:=e;exact ⟨rfl,r⟩
  | succ n V=>
   intro m r;obtain ⟨o,g,t⟩:=q l hl f (m+n) r
   match o,g,t with
   | none,g,_=>exact ⟨_,.stop g,fun _ _ e=>by cases e⟩
   | some (ks,l1),g,t=>
    obtain ⟨k,rfl,hk⟩:=t _ _ rfl;obtain ⟨a,rfl⟩:=g.suf _ _ rfl;have U:l1.length<=L+1:=by rw [bA] at hl; omega
    obtain ⟨o,D,G⟩:=V l1 U (fun y J=>f y (fb _ J)) m hk
    match o,D,G with
    | none,D,_=>exact ⟨_,.next g D,fun _ _ e=>by cases e⟩
    | some (ks,i),D,G=>
     refine ⟨_,.cons g D,fun M Z e=>?_⟩;simp only [aY,cE] at e;obtain ⟨rfl,rfl⟩:=e;exact ⟨by rw [bq,(G _ _ rfl).1],(G _ _ rfl).2⟩
theorem YS {n k:Nat} {s:Se} (l:tk n s) (g:okP s) (m:s.st.goals=[]) (i:okXk k s):∃ o,BldR s.st.binds .one s.steps o/\∀ ks f,o=some (ks,f)->∃ x,ks=[x]:=by
 have hn:tM 1 s.steps:=by
  refine Rp s.steps [] 1 g.openP ?_ rfl fun x a=>(i.steps x a).2.1;have:=g.goals;rw [m] at this;simpa using this.symm
 obtain ⟨o,q,r⟩:=(Xb l.st.good _ s.steps (aS _) i.steps).1 0 hn;exact ⟨o,q,fun ks f e=>(r ks f e).imp fun _ h=>h.1⟩
mutual
def pwT:PF->Prop
 | .mk g _ ks=>wT g<=840/\pwL ks
def pwL:List PF->Prop
 | []=>True
 | p::ps=>pwT p/\pwL ps
end
theorem BldR.size {N:Nat} {st:aj} (G:Good N st) {j:BKd} {l:List Sp} {o:Option (List PF × List Sp)} (h:BldR st j l o):okLp N l->∀ ks f,o=some (ks,f)->pcL ks+120 * (f.length:Int)<=120 * (l.length:Int)/\pwL ks:=by
 induction h with
 | big=>intro _ ks f h; cases h
 | bad=>intro _ ks f h; cases h
 | stop=>intro _ ks f h; cases h
 | next=>intro _ ks f h; cases h
 | nil=>
  intro _ ks f h;simp only [aY,cE] at h;obtain ⟨rfl,rfl⟩:=h;exact ⟨by rw [pcL]; omega,trivial⟩
 | @node x l _ u _ V g _ Y=>
  intro i ks f h;simp only [aY,cE] at h;obtain ⟨rfl,rfl⟩:=h;obtain ⟨B,J⟩:=Y (fun y m=>i y (aR _ m)) _ _ rfl;have q:okU N u:=fj G V (i x (aM ..)).1.1;have U:=fF g q;rw [bv,bM] at g;have hc:=of_decide_eq_true g.1;refine ⟨?_,?_⟩
  ·rw [pcL,pcL,pcT,bq]; omega
  ·rw [pwL,pwT,pwL]; exact ⟨⟨U,J⟩,trivial⟩
 | @cons _ l l1 f k Z B _ r t=>
  intro i ks l3 h;simp only [aY,cE] at h;obtain ⟨rfl,rfl⟩:=h;obtain ⟨a,e⟩:=B.suf _ _ rfl;obtain ⟨M,D⟩:=r i _ _ rfl;obtain ⟨q3,O⟩:=t (fun y m=>i y (by rw [e]; exact fb _ m)) _ _ rfl;rw [pcL,pcL] at M;rw [pwL] at D;refine ⟨?_,?_⟩
  ·rw [pcL]; omega
  ·rw [pwL]; exact ⟨D.1,O⟩
end
section
open Go Go.RowKit
section
attribute [local irreducible] Run CondV aq aK
end
end
section
open Go Go.RowKit
def RdSp (S:ae) (cs:List Value) (x:Sp):Prop:=∃ hd,cs=hd++[.int .i64 x.clause,.int .i64 x.body]/\RdT S hd x.goal
theorem RdSp.length {S:ae} {cs:List Value} {x:Sp} (h:RdSp S cs x):cs.length=6:=by
 obtain ⟨hd,rfl,h⟩:=h; simp [h.length]
theorem RdSp.one {S:ae} {cs:List Value} {x:Sp} (h:RdSp S cs x):∀ u∈cs,u.oneCell'=true:=by
 obtain ⟨hd,rfl,h⟩:=h;intro u a;rcases bF.1 a with a|a
 ·exact h.one u a
 ·simp only [bY,i6,i9] at a;rcases a with rfl|rfl <;> rfl
theorem RdSp.mono {S S':ae} {cs:List Value} {x:Sp} (a:Sle S S') (h:RdSp S cs x):RdSp S' cs x:=by
 obtain ⟨hd,rfl,h⟩:=h; exact ⟨hd,rfl,h.mono a⟩
theorem RdSl.monoSp {S S':ae} {v:Value} {xs:List Sp} (a:Sle S S') (h:RdSl S 6 (RdSp S) v xs):RdSl S' 6 (RdSp S') v xs:=h.mono a fun _ _=>RdSp.mono a
def RdVS (S:ae) (cs:List Value) (l:List Sp):Prop:=∃ v,cs=[v]/\RdSl S 6 (RdSp S) v l
theorem RdVS.length {S:ae} {cs:List Value} {l:List Sp} (h:RdVS S cs l):cs.length=1:=by
 obtain ⟨v,rfl,h⟩:=h; rfl
theorem RdVS.one {S:ae} {cs:List Value} {l:List Sp} (h:RdVS S cs l):∀ u∈cs,u.oneCell'=true:=by
 obtain ⟨v,rfl,h⟩:=h;intro u a;rw [bK] at a;subst a;exact h.sl
theorem RdVS.mono {S S':ae} {cs:List Value} {l:List Sp} (a:Sle S S') (h:RdVS S cs l):RdVS S' cs l:=by
 obtain ⟨v,rfl,h⟩:=h; exact ⟨v,rfl,h.monoSp a⟩
theorem RdSl.monoVS {S S':ae} {v:Value} {xs:List (List Sp)} (a:Sle S S') (h:RdSl S 1 (RdVS S) v xs):RdSl S' 1 (RdVS S') v xs:=h.mono a fun _ _=>RdVS.mono a
def RdSe (S:ae) (cs:List Value) (s:Se):Prop:=∃ g b c t v,cs=[g,b,c,t,v]/\RdSl S 5 (RdG S) g s.st.goals/\RdSl S 4 (RdO S) b s.st.binds/\RdSl S 7 (RdCh S) c s.st.chs/\RdSl S 6 (RdSp S) t s.steps/\RdSl S 1 (RdVS S) v s.saved
theorem RdSe.length {S:ae} {cs:List Value} {s:Se} (h:RdSe S cs s):cs.length=5:=by
 obtain ⟨g,b,c,t,v,rfl,_⟩:=h; rfl
theorem RdSe.one {S:ae} {cs:List Value} {s:Se} (h:RdSe S cs s):∀ u∈cs,u.oneCell'=true:=by
 obtain ⟨g,b,c,t,v,rfl,f,i,l,m,o⟩:=h;intro u a;simp only [bY,i6,i9] at a;rcases a with rfl|rfl|rfl|rfl|rfl
 ·exact f.sl
 ·exact i.sl
 ·exact l.sl
 ·exact m.sl
 ·exact o.sl
theorem RdSe.mono {S S':ae} {cs:List Value} {s:Se} (a:Sle S S') (h:RdSe S cs s):RdSe S' cs s:=by
 obtain ⟨g,b,c,t,v,rfl,f,i,l,m,o⟩:=h;exact ⟨g,b,c,t,v,rfl,f.monoG a,i.monoO a,l.monoCh a,m.monoSp a,o.monoVS a⟩
def apC {α:Type} (w0:World) (X:List Nat) (A:List Item) (T:TypeId) (k:Nat) (R:ae->List Value->α->Prop) (xs:List α) (y:α) (S:ae) (v0 v1 v2:Value) (w:World):Nat->Prop
 | 0=>Inv w0 X A S w
 | 1=>Inv w0 X (A++[aA v0 T k []]) S w
 | 2=>∃ css,Rows k (R S) css xs/\Inv w0 X (A++[aA v1 T k css]) S w
 | _=>RdSl S k (R S) v2 (xs++[y])/\Inv w0 X A S w
section
variable {α:Type} {w0 w:World} {X:List Nat} {A:List Item} {T:TypeId} {k n:Nat} {R:ae->List Value->α->Prop} {xs:List α} {y:α} {S:ae} {v0 v1 v2:Value}
theorem apC.ex (hR:∀ S S' cs x,Sle S S'->R S cs x->R S' cs x) (h:apC w0 X A T k R xs y S v0 v1 v2 w n) :
  ∃ B,Inv w0 X (A++B) S w/\∀ A' S1 f,Sle S S1->Inv w0 X (A'++B) S1 f->apC w0 X A' T k R xs y S1 v0 v1 v2 f n:=by
 match n,h with
 | 0,h=>exact ⟨[],by rw [bV]; exact h,fun A' S1 f _ a=>by rw [bV] at a; exact a⟩
 | 1,h=>exact ⟨_,h,fun A' S1 f _ a=>a⟩
 | 2,⟨css,h1,h2⟩=>exact ⟨_,h2,fun A' S1 f g a=>⟨css,h1.monoR fun _ _ h=>hR _ _ _ _ g h,a⟩⟩
 | n+3,⟨h1,h2⟩=>exact ⟨[],by rw [bV]; exact h2,fun A' S1 f g a=>⟨h1.mono g fun _ _ h=>hR _ _ _ _ g h,by rw [bV] at a; exact a⟩⟩
theorem apC.inv (h:apC w0 X A T k R xs y S v0 v1 v2 w n):∃ B,Inv w0 X (A++B) S w:=by
 match n,h with
 | 0,h=>exact ⟨[],by rw [bV]; exact h⟩
 | 1,h=>exact ⟨_,h⟩
 | 2,⟨css,h1,h2⟩=>exact ⟨_,h2⟩
 | n+3,⟨h1,h2⟩=>exact ⟨[],by rw [bV]; exact h2⟩
end
section
variable {α:Type} {P:Program} {w0 w:World} {X:List Nat} {A:List Item} {k:Nat} {R:ae->List Value->α->Prop} {xs:List α} {y:α} {S:ae} {v0 v1 v2:Value} {K:Value->World->Prop}
attribute [local irreducible] Run
end
section
variable {w:World} {K:Value->World->Prop}
attribute [local irreducible] Run
end
end
section
open Go Go.RowKit
def nwP (w0:World) (X:List Nat) (A:List Item) (T:TypeId) (z:Array Value) (Q:ae->Array Value->Prop) (da ds:Bool) (x:Value) (S:ae) (w:World):Prop:=
 ∃ b q,(da=true->x=.pointer (some ⟨b,0,none⟩))/\(ds=true->da=true)/\(ds=false->q=z)/\(ds=true->Q S q)/\Inv w0 X (A++cond da [.blk b (.cells q T)] []) S w
section
variable {w0 w:World} {X:List Nat} {A:List Item} {T:TypeId} {z:Array Value} {Q:ae->Array Value->Prop} {da ds:Bool} {x:Value} {S:ae}
theorem nwP.mk (h:Inv w0 X A S w) (x:Value):nwP w0 X A T z Q false false x S w:=⟨0,z,fun h=>(by cases h),fun h=>(by cases h),fun _=>rfl,fun h=>(by cases h),by rw [cond_false,bV]; exact h⟩
theorem nwP.ex (a:∀ S S' q,Sle S S'->Q S q->Q S' q) (h:nwP w0 X A T z Q da ds x S w):∃ B,Inv w0 X (A++B) S w/\∀ S' w',Sle S S'->Inv w0 X (A++B) S' w'->nwP w0 X A T z Q da ds x S' w':=by
 obtain ⟨b,q,i,l,m,o,r⟩:=h;exact ⟨_,r,fun S' w' f g=>⟨b,q,i,l,m,fun h=>a _ _ _ f (o h),g⟩⟩
theorem nwP.inv (h:nwP w0 X A T z Q da ds x S w):∃ B,Inv w0 X (A++B) S w:=by
 obtain ⟨b,q,f,g,i,l,a⟩:=h;exact ⟨_,a⟩
theorem nwP.fin (h:nwP w0 X A T z Q true true x S w):∃ b q,x=.pointer (some ⟨b,0,none⟩)/\Q S q/\Inv w0 X (A++[.blk b (.cells q T)]) S w:=by
 obtain ⟨b,q,a,i,l,f,g⟩:=h;exact ⟨b,q,a rfl,f rfl,g⟩
end
section
variable {P:Program} {w0 w:World} {X:List Nat} {A:List Item} {T:TypeId} {z:Array Value} {Q:ae->Array Value->Prop} {da ds:Bool} {x:Value} {S:ae} {K:Value->World->Prop}
attribute [local irreducible] Run
theorem nwP.alloc {ty:TypeId} {g:Value} (h:nwP w0 X A T z Q da ds x S w) (hd:da=false) (l:iI P T=some g) (a:g.cells=z) (hk:∀ v w',nwP w0 X A T z Q true ds v S w'->K v w'):Run P (sOp (.alloc T) ty) w K:=by
 obtain ⟨b,q,r,o,t,B,i⟩:=h;have f:ds=false:=bx.2 fun e=>by rw [o e] at hd; cases hd
 rw [hd,cond_false,bV] at i;refine aQ i l fun b w' m=>hk _ w' ⟨b,z,fun _=>rfl,fun _=>rfl,fun _=>rfl,fun e=>(by rw [f] at e; cases e),?_⟩;rw [cond_true,<- a];exact m
theorem nwP.store {ty:TypeId} {n:Nat} {cs:Array Value} (h:nwP w0 X A T z Q da ds x S w) (hd:da=true) (i:ds=false) (l:sk P T=some n) (hn:cs.size=n) (m:z.size=n) (o:∀ u∈cs.toList,u.oneCell'=true) (r:Q S cs)
  (hk:∀ w',nwP w0 X A T z Q da true x S w'->K undef w'):Run P (sOp (.store T (.const x) (.const (.agg cs))) ty) w K:=by
 obtain ⟨b,q,f,B,t,D,g⟩:=h;rw [hd,cond_true,t i] at g;rw [f hd];refine au (E:=T) g A.length (by simp) l hn m o fun w' a=>?_;have e:(A++[Item.blk b (.cells z T)]).set A.length (.blk b (.cells cs T))=A++[.blk b (.cells cs T)]:=by simp
 rw [e] at a;exact hk w' ⟨b,cs,f,fun _=>hd,fun e=>(by cases e),fun _=>r,by rw [hd]; exact a⟩
end
def apP {α:Type} (w0:World) (X:List Nat) (A:Value->List Item) (z:Value) (T:TypeId) (k:Nat) (R:ae->List Value->α->Prop) (xs:List α) (y:α) (S0:ae) (d5 d8:Bool) (v0 v1 v5 v2:Value) (w:World) (n:Nat):Prop:=
 ∃ S1 cv,Ext w0.heap.size X S0 S1/\(d5=true->RdSl S1 k (R S1) v5 [y])/\(d8=false->cv=z)/\(d8=true->RdSl S1 k (R S1) cv (xs++[y]))/\apC w0 X (A cv) T k R xs y S1 v0 v1 v2 w n
section
variable {α:Type} {P:Program} {w0 w:World} {X:List Nat} {A:Value->List Item} {z:Value} {e:TypeId} {k:Nat} {R:ae->List Value->α->Prop} {xs:List α} {y:α} {S0:ae} {d5 d8:Bool} {v0 v1 v5 v2:Value} {n:Nat} {K:Value->World->Prop}
attribute [local irreducible] Run
theorem apP.mk {S:ae} (h:Inv w0 X (A z) S w) (v0 v1 v5 v2:Value):apP w0 X A z e k R xs y S false false v0 v1 v5 v2 w 0:=⟨S,z,Ext.refl _ _ _,fun h=>(by cases h),fun _=>rfl,fun h=>(by cases h),h⟩
theorem apP.inv (h:apP w0 X A z e k R xs y S0 d5 d8 v0 v1 v5 v2 w n):∃ S1 cv B,Ext w0.heap.size X S0 S1/\Inv w0 X (A cv++B) S1 w:=by
 obtain ⟨S1,cv,a,i,l,m,f⟩:=h;obtain ⟨B,g⟩:=f.inv;exact ⟨S1,cv,B,a,g⟩
theorem apP.inv0 (h:apP w0 X A z e k R xs y S0 d5 d8 v0 v1 v5 v2 w n) (hd:d8=false):∃ S1 B,Ext w0.heap.size X S0 S1/\Inv w0 X (A z++B) S1 w:=by
 obtain ⟨S1,cv,f,l,g,m,i⟩:=h;obtain ⟨B,a⟩:=i.inv;rw [g hd] at a;exact ⟨S1,B,f,a⟩
theorem apP.fin (h:apP w0 X A z e k R xs y S0 d5 true v0 v1 v5 v2 w 3):∃ S1 cv,Ext w0.heap.size X S0 S1/\RdSl S1 k (R S1) cv (xs++[y])/\Inv w0 X (A cv) S1 w:=by
 obtain ⟨S1,cv,a,i,l,f,g⟩:=h;exact ⟨S1,cv,a,f rfl,g.2⟩
end
end
section
open Go Go.RowKit
theorem WO {c d:List Value} {n i k:Nat} (h:c.take n=d.take n) (a:i+k<=n):(c.drop i).take k=(d.drop i).take k:=by
 have e:∀ l:List Value,(l.drop i).take k=((l.take n).drop i).take k:=fun l=>by
  rw [GU,lD,lw (by omega)]
 rw [e c,e d,h]
theorem KnU.grown {S:ae} {c a:Array Value} {st:aj} {m:Nat} {z:Array Value} (o:z=#[.int .i64 0,.int .i64 0,.string ⟨#[]⟩,.slice none 0 0]) (h:KnU S a st) (t:(st.length+m) * 4<=c.size)
  (q:c.toList.take ((st.length+m) * 4)=a.toList.take (st.length * 4)++(Builtin.zeroCells z m).toList):KnU S c (st++List.replicate m none):=by
 have D:=KnU.zero z o S m;have g:z.size=4:=by rw [o]; rfl
 have l:Builtin.zeroCells z m=(Array.range (m * 4)).map (z[· % z.size]!):=by rw [Builtin.zeroCells,g]
 have J:=h.1;have f:(a.toList.take (st.length * 4)).length=st.length * 4:=by rw [cM]; have:a.toList.length=a.size:=rfl; omega
 refine KnU.of (by rw [bA,Ju]; exact t) fun i B=>?_;rw [bA,Ju] at B;by_cases hl:i<st.length
 ·rw [fA hl];have e:aX c (i * 4) 4=aX a (i * 4) 4:=by
   rw [aX,aX];refine WO (n:=st.length * 4) ?_ (by omega);have:=congrArg (List.take (st.length * 4)) q;rw [lD,lw (by omega),Gf (by omega),lD,Nat.min_self] at this;exact this
  rw [e];exact h.rdO i hl
 ·rw [eZ (by omega),Ue];have G:i - st.length<(List.replicate m (none:Option T)).length:=by rw [Ju]; omega
  have r:=D.rdO (i - st.length) G;rw [Ue] at r;have e:aX c (i * 4) 4=aX ((Array.range (m * 4)).map (z[· % z.size]!)) ((i - st.length) * 4) 4:=by
   rw [aX,aX,<- l];have e1:(c.toList.drop (i * 4)).take 4=((c.toList.take ((st.length+m) * 4)).drop (i * 4)).take 4:=by
    rw [GU,lD,lw (by omega)]
   rw [e1,q,List.drop_append,f,vK (by rw [f]; omega),fZ];rw [show i * 4 - st.length * 4=(i - st.length) * 4 by omega]
  rw [e];exact r
section
variable {P:Program} {w w0:World} {X:List Nat} {A:List Item} {S S1:ae} {K:Value->World->Prop}
attribute [local irreducible] Run CondV aq aK
end
end
section
open Go Go.RowKit
def tmC (w0:World) (X:List Nat) (A:List Item) (S:ae) (N m:Nat) (b st:aj) (AE sy qd oJ Io:Value) (w':World):Nat->Prop
 | 0=>Inv w0 X A S w'
 | 1=>Inv w0 X (A++[aA AE ab 4 []]) S w'
 | 2=>∃ css,Rows 4 (RdO S) css b/\Inv w0 X (A++[aA sy ab 4 css]) S w'
 | 3=>qd=.int .i64 (m:Int)/\∃ css,Rows 4 (RdO S) css b/\Inv w0 X (A++[aA sy ab 4 css]) S w'
 | 4=>∃ g cap cur,oJ=kvU g N cap/\N<=cap/\cap<=maxLen/\KnU S cur st/\Inv w0 X (A++[.blk g (.cells cur ab)]) S w'
 | _=>∃ g cap cur,Io=kvU g N cap/\N<=cap/\cap<=maxLen/\KnU S cur st/\Inv w0 X (A++[.blk g (.cells cur ab)]) S w'
theorem tmC.inv {w0 w':World} {X:List Nat} {A:List Item} {S:ae} {N m:Nat} {b st:aj} {AE a f g Io:Value}:∀ {n:Nat},tmC w0 X A S N m b st AE a f g Io w' n->∃ R,Inv w0 X (A++R) S w'
 | 0,h=>⟨[],by rw [bV]; exact h⟩
 | 1,h=>⟨_,h⟩
 | 2,⟨_,_,h⟩=>⟨_,h⟩
 | 3,⟨_,_,_,h⟩=>⟨_,h⟩
 | 4,⟨_,_,_,_,_,_,_,h⟩=>⟨_,h⟩
 | _+5,⟨_,_,_,_,_,_,_,h⟩=>⟨_,h⟩
def unC (w0:World) (X:List Nat) (A:List Item) (S:ae) (g:Nat) (cur:Array Value) (st:aj) (t:T) (r:Bool) (Aa sx:Value) (w':World):Nat->Prop
 | 0=>Inv w0 X (A++[.blk g (.cells cur ab)]) S w'
 | 1=>∃ S1 cs,Aa=.agg cs.toArray/\Ext w0.heap.size X S S1/\RdT S1 cs t/\Inv w0 X (A++[.blk g (.cells cur ab)]) S1 w'
 | _=>sx=.bool r/\∃ S1 cur',Ext w0.heap.size X S S1/\KnU S1 cur' st/\Inv w0 X (A++[.blk g (.cells cur' ab)]) S1 w'
theorem unC.inv {w0 w':World} {X:List Nat} {A:List Item} {S:ae} {g:Nat} {a:Array Value} {st:aj} {t:T} {r:Bool} {Aa f:Value}:∀ {n:Nat},unC w0 X A S g a st t r Aa f w' n->∃ R S1,Inv w0 X (A++R) S1 w'
 | 0,h=>⟨_,_,h⟩
 | 1,⟨_,_,_,_,_,h⟩=>⟨_,_,h⟩
 | _+2,⟨_,_,_,_,_,h⟩=>⟨_,_,h⟩
section
attribute [local irreducible] Run CondV aq aK
end
end
end Go.Proofs.YtgllldjiaglkcaaGreatDoor
