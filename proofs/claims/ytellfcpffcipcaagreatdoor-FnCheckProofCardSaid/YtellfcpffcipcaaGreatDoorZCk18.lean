/- CallBuiltin on both sides: whether a goal holds without binding anything. -/
import Derived.Test.YtellfcpffcipcaaGreatDoorZCkA
import Derived.Test.YtellfcpffcipcaaGreatDoorZCk17
namespace Go.Proofs.YtellfcpffcipcaaGreatDoor
attribute [local irreducible] Run CondV aF aT
section
open Go Go.RowKit
def YO:au:=List.replicate 26 none
theorem Ay:∀ n:Nat,unb (List.replicate n none)=n
 | 0=>rfl
 | n+1=>by rw [List.replicate_succ,unb,Ay n]
theorem mq (N:Nat):Good N (List.replicate N none):=⟨by simp,fun t a=>by simp at a,fun t a=>by simp at a,fun n=>n,fun n u f=>by
 have:=cJ f;simp at this⟩
theorem KnU.zero (z:Array Value) (f:z=bb) (S:ae) (N:Nat):KnU S ((Array.range (N * 4)).map (z[· % z.size]!)) (List.replicate N none):=by
 subst f;refine ⟨by simp,fun i g=>⟨fun _=>?_,fun t a=>?_⟩⟩
 ·simp only [E0] at g;apply ya;intro j;rw [aO,ym]
  match j with
  | 0|1|2|3=>
   rw [ai (by omega),AW,acP,Array.getElem?_map,Array.getElem?_range,ai (by omega)];simp only [zH,VN,bI,cB];first
    | rw [show (i * 4+0) % 4=0 by omega];rfl
    | rw [show (i * 4+1) % 4=1 by omega];rfl
    | rw [show (i * 4+2) % 4=2 by omega];rfl
    | rw [show (i * 4+3) % 4=3 by omega];rfl
  | j+4=>
   rw [af (by omega)];rfl
 ·have e:(List.replicate N (none:Option T))[i]=none:=by simp
  rw [e] at a;cases a
def wo (code:Int) (st:au):Bool:=decide (code=0) && st.all Option.isNone
def VU (f:Bool):Value->List Item->ae->Prop:=fun q _ _=>∃ a n cap c,q=.tuple #[.slice a n cap,ax c]/\(decide (c=0) && decide (n=0))=f
theorem P2 {st:au} {j:Nat} (h:j<st.length):(st.take (j+1)).all Option.isNone=((st.take j).all Option.isNone && st[j].isNone):=by
 rw [gh h,List.all_append];simp
theorem Qb {st:au} {j:Nat} (h:j<st.length) {t:T} (a:st[j]=some t):st.all Option.isNone=false:=by
 rw [Zf];exact ⟨st[j],bJ h,by rw [a];simp⟩
section
variable {w:World} {K:Value->World->Prop}
theorem EB {n:Int} {cs:hZ} (f:cs.length=4) (hk:K (.agg (([Value.int .i64 n]:hZ)++cs).toArray) w):Run Tryz.prog (bZ eo [(0,ax n),(1,.agg cs.toArray)]) w K:=by
 match cs,f with
 | [a,b,c,d],_=>
  refine Run.of (v:=.agg #[ax n,a,b,c,d]) (w':=w) ?_ hk;unfold bZ;rw [Sem.run_bind,run_build w eo _ #[ax n,a,b,c,d] (by kernel_rfl),Result.andThen_ok];rfl
set_option maxHeartbeats 1000000 in
theorem xS {g:T} {code:Int} {f:au} (hv:dP g=true) (r:bW g=true) (ho:okU 26 g/\wT g<=1048576) (hn:okN g) (hB:Blt YO g code f) {S:ae} {cs:hZ} (h:RdT S cs g) :
  kt Gp [.agg cs.toArray] [] S (VU (wo code f)):=by
 intro w a;have d4:=h.length;have h0:=h;have J:=hB.good (mq 26) r ho;obtain ⟨kv,rfl,_,_,_,b7⟩:=RdT.iff.1 h;have c2:=r;rw [bW,aZ] at r;obtain ⟨b8,c0⟩:=r;apply rh.2;dsimp only[rh,aR];refine bq a fun b1 w' a=>?_;refine fg a xu fun O w' a=>?_;obtain ⟨a4,n4,c4,G⟩:=a.rowSlice 1 rfl;have c3:n4=0:=by
  have hm:w'.ownsRow 0 eo 5 O 0 []:=a.its (.row O eo 5 0 []) (by simp);rcases hm.2 with ⟨e1,e2⟩|⟨g1,c1,u1,e1,_⟩
  ·rw [G] at e1;simp only [Value.slice.injEq] at e1;omega
  ·rw [G] at e1;simp only [Value.slice.injEq] at e1;omega
 rw [c3] at G;have a:Inv w [] [ay b1 (gn g kv) ab,.row O eo 5 0 []] S w':=a;refine ⟨fun q w'=>q=.bool false/\Inv w [] [ay b1 (gn g kv) ab,.row O eo 5 0 []] S w',?_,?_⟩
 ·refine av a 0 ac rfl rfl (Run.callPure i9 ja a (iq h0 (Hr ho.2)) fun w' a=>?_);rw [hv];apply cq;refine rpG ?_;refine ad a 0 rfl aM aw rfl (dw ?_);rw [b8];refine rpG ?_;refine ad a 0 rfl aW aP rfl (ad a 0 rfl ao aj rfl (aI b7 ag (Run.callPure jq jn a (ij _ _ S) fun w' a=>?_)));rw [c0];apply cq;refine rpG ?_;exact ⟨rfl,a⟩
 intro q;(iterate 16 intro);intro w';rintro ⟨rfl,a⟩;refine aE (fun r=>by cases r) (fun _=>?_);refine sO (n:=26) a bx (by omega) (by omega) (by omega) fun kb w' a=>?_;refine av a 0 ac rfl rfl (Run.callE (A:=[_,_]) BA Bq a (tT (kp:=26) (by omega) (by omega) (be _) (by decide) (mq 26) ho hn c2 hB h0 (KnU.zero _ rfl S 26)) fun v' I' S1 w'=>?_);rintro ⟨rfl,rfl,U,rfl,V⟩ a6 a;refine dw (aE (fun hc=>?_) (fun hc=>?_))
 ·refine ⟨_,_,_,rfl,a.nil,Ext.refl _ _ _,a4,0,c4,code,by rw [G],?_⟩;have:code≠0:=by simpa using hc
  rw [wo,aS this];rfl
 have c5:code=0:=by simpa using hc
 subst c5;have b2:=J.len;refine fg a xu fun v7 w' a=>?_;refine ⟨fun t8 N w'=>∃ (j:Nat) (css:List (hZ)) (S2:ae),j<=26/\t8=ax j/\css.length<=j/\decide (css.length=0)=(f.take j).all Option.isNone/\Ext w.heap.size [] S1 S2/\
   Inv w [] [ay b1 (gn g kv) ab,.row O eo 5 0 [],ay kb U ab,aK N eo 5 css] S2 w',
  fun t8 _ _=>26 - (intOf t8).toNat,⟨0,[],S1,bf _,rfl,be _,by simp,Ext.refl _ _ _,a⟩,?_⟩
 intro t8 _ _ N;(iterate 37 intro);intro w';rintro ⟨j,css,S2,hj,rfl,d3,a8,B,a⟩;refine fJ ag (bM (aJ (fun b6=>?_) (fun b6=>?_)))
 ·have b3:j<26:=by omega
  have Z:j<f.length:=by omega
  have V:=V.mono B.1;have l:=V.rdO j Z;have d2:=l.length;have m:=P2 (st:=f) Z;refine ⟨fun N w'=>∃ (css:List (hZ)) (S2:ae),css.length<=j+1/\decide (css.length=0)=(f.take (j+1)).all Option.isNone/\Ext w.heap.size [] S1 S2/\
   Inv w [] [ay b1 (gn g kv) ab,.row O eo 5 0 [],ay kb U ab,aK N eo 5 css] S2 w',?_,?_⟩
  ·apply az ag b3;rw [dr];apply ah aM;cases hs:f[j] with
   | none=>
    rw [hs] at l m;refine aD (v:=ax 0) a 2 aw rfl (aA (k:=4) l 0 _ rfl) (bn ?_);rw [aL rfl];refine aE (fun _=>?_) (fun r=>by cases r);exact ⟨css,S2,by omega,by rw [a8,m];simp,B,a⟩
   | some t=>
    rw [hs] at l m;have l:RdT S2 (aO U (j * 4) 4) t:=l;have b4:=Qb Z hs;have a0:some t∈f:=by rw [<- hs];exact bJ Z
    have a3:=J.ok t a0;have c6:=J.w t a0;have c8:=a3.kind;refine aD (v:=ax t.kind) a 2 aw rfl (aA rfl 0 _ l.f0) (bn ?_);rw [aS c8];refine aE (fun r=>by cases r) (fun _=>?_);apply az ag b3;rw [dr];refine cP a 2 (aO U (j * 4) 4) ac rfl l.length (fun i v hi=>aA rfl i v hi) ?_;obtain ⟨u,Y⟩:=Di J t a3;have a5:FC 26 26 f t u:=Nh J Y ⟨a3,c6⟩;have a:=a.perm (M:=[ay b1 (gn g kv) ab,.row O eo 5 0 [],aK N eo 5 css]++[ay kb U ab]) (((List.Perm.swap ..).cons _).cons _);refine Run.callE (A:=[_,_,_]) qz qg a (a5 S2 _ kb U 120 l V (by omega) (by omega)) fun v' I' S3 w'=>?_;rintro ⟨rfl,ds,D,a9,rfl,b5⟩ b0 a;refine al (v:=.agg ds.toArray) rfl (al (v:=ax _) rfl (aG a aV fun b9 w' a=>?_));refine aq a 4 rfl ac (by simpa using D) rfl (by simpa using a9) fun w' a=>?_;have a:Inv w [] [ay b1 (gn g kv) ab,.row O eo 5 0 [],aK N eo 5 css,ay kb U ab,ay b9 ds.toArray ab] S3 w':=a;refine ⟨fun q w'=>∃ b,q=.bool b/\Inv w [] [ay b1 (gn g kv) ab,.row O eo 5 0 [],aK N eo 5 css,ay kb U ab,ay b9 ds.toArray ab] S3 w',?_,?_⟩
    ·apply bM;by_cases o:ez u<=120
     ·rw [ai o,aS (by omega)];refine rpG ?_;refine av a 4 ac rfl (by simpa using D) (Run.callPure i9 ja a (iq (b5 o) (by omega)) fun w' a=>?_);apply cq;refine rpG ?_;exact ⟨_,rfl,a⟩
     ·rw [af o,aL (by omega)];refine rpG ?_;exact ⟨_,rfl,a⟩
    intro q _ _ _ _ _ _ w';rintro ⟨b,rfl,a⟩;refine aE (fun r=>?_) (fun r=>?_)
    ·refine ⟨_,_,_,rfl,a.nil,(a6.trans (B.trans b0)),a4,0,c4,5,by rw [G],?_⟩;rw [wo,b4];rfl
    ·refine av a 4 ac rfl (by simpa using D) (EB D ?_);obtain ⟨xs,a1⟩:∃ xs:hZ,xs=[Value.int .i64 (j:Int)]++ds:=⟨_,rfl⟩
     have c9:xs.length=5:=by rw [a1];simp [D]
     have d0:∀ u∈xs,u.oneCell'=true:=by
      intro u Y;rw [a1] at Y;rcases ci.1 Y with Y|Y
      ·simp at Y;subst Y;rfl
      ·exact a9 u Y
     rw [<- a1];refine ei (css:=css) a 2 xs xu (by omega) (by omega) rfl c9 d0 (by omega) (by omega) fun v' w' a=>?_;have a:Inv w [] [ay b1 (gn g kv) ab,.row O eo 5 0 [],aK v' eo 5 (css++[xs]),ay kb U ab,ay b9 ds.toArray ab] S3 w':=a;refine ⟨css++[xs],S3,by simp;omega,?_,B.trans b0,?_⟩
     ·rw [m];simp
     ·exact (a.pick [true,true,true,true]).perm (((List.Perm.swap ..).cons _).cons _)
  intro N;(iterate 33 intro);intro w';rintro ⟨css,S2,h1,h2,h3,a⟩;refine bA (by omega) ?_;exact ⟨⟨j+1,css,S2,by omega,rfl,h1,h2,h3,a⟩,by simp [intOf];omega⟩
 ·have:j=26:=by omega
  subst this;obtain ⟨a7,n7,c7,a2⟩:=a.rowSlice 3 rfl;have d1:n7=css.length:=by
   have hm:w'.ownsRow 0 eo 5 N css.length css.flatten:=a.its (aK N eo 5 css) (by simp);rcases hm.2 with ⟨e1,e2⟩|⟨g1,c1,u1,e1,_⟩
   ·rw [a2] at e1;simp only [Value.slice.injEq] at e1;omega
   ·rw [a2] at e1;simp only [Value.slice.injEq] at e1;omega
  refine ⟨_,_,_,rfl,a.nil,a6.trans B,a7,n7,c7,0,by rw [a2],?_⟩;rw [d1,a8,wo,<- b2,fM]
set_option maxHeartbeats 1000000 in
theorem BU {st:au} (N:Good 26 st) {S:ae} {sb:Nat} (a4:StS S S sb st):kt LK [ee sb] [] S
  fun q _ _=>∃ a n cap b,q=.tuple #[.slice a n cap,.bool b]/\(b && decide (n=0))=st.all Option.isNone:=by
 intro w f;have f:Inv w [] [] S w:=f;have a1:=N.len;refine vX.2 ?_;dsimp only[vX,aR];have f:=f.rowNil eo 5;refine ⟨fun t9 r w'=>∃ (j:Nat) (css:List (hZ)) (S2:ae),j<=26/\t9=ax j/\css.length<=j/\decide (css.length=0)=(st.take j).all Option.isNone/\Ext w.heap.size [] S S2/\Inv w [] [aK r eo 5 css] S2 w',
  fun t9 _ _=>26 - (intOf t9).toNat,⟨0,[],S,bf _,rfl,be _,by simp,Ext.refl _ _ _,f⟩,?_⟩
 intro t9 _ r;(iterate 33 intro);intro w';rintro ⟨j,css,S2,hj,rfl,b3,O,m,f⟩;have B:=a4.up m.1;obtain ⟨mb,tv,es,ck,E,a6,Z,a0⟩:=id B;refine bM (aJ (fun a5=>?_) (fun a5=>?_))
 ·have b5:j<26:=by omega
  have l:j<st.length:=by omega
  have g:=P2 (st:=st) l;refine ⟨fun r w'=>∃ (css:List (hZ)) (S2:ae),css.length<=j+1/\decide (css.length=0)=(st.take (j+1)).all Option.isNone/\Ext w.heap.size [] S S2/\Inv w [] [aK r eo 5 css] S2 w',?_,?_⟩
  ·refine aH (ah qq (cS (v:=.map (some mb)) yy (by rw [f.cellS a6];rfl) ?_));cases M:st[j] with
   | none=>
    rw [M] at g;have hf:Instr.findNow (.int .i64) (ax j) es.toList 0=some none:=by
     rcases a0.find j with ⟨_,_,u,_,_,_,_,h⟩|⟨_,hf⟩
     ·rw [gd l,M] at h;cases h
     ·exact hf
    refine oO (c:=true) (v:=.agg bb) (ok:=false) ((f.pub _ _ Z).1) fu gO aV (.inr ⟨hf,rfl,rfl⟩) ?_;refine al (v:=.agg bb) rfl (al (v:=.bool false) rfl (aG f aV fun b6 w' f=>?_));refine aq f 1 rfl ac rfl rfl (by simp [Value.oneCell']) fun w' f=>?_;refine cq (aE (fun _=>?_) (fun Y=>by cases Y));exact ⟨css,S2,by omega,by rw [O,g];simp,m,f.pick [true]⟩
   | some t=>
    rw [M] at g;have a2:=Qb l M;have D:some t∈st:=by rw [<- M];exact bJ l
    have a3:=N.ok t D;have a8:=N.w t D;obtain ⟨cs,hf,hR⟩:∃ cs,(∃ i,Instr.findNow (.int .i64) (ax j) es.toList 0=some (some (i,.agg (List.toArray cs))))/\RdT S2 cs t:=by
     rcases a0.find j with ⟨i,v,u,cs,hf,rfl,hR,h⟩|⟨b2,_⟩
     ·rw [gd l,M] at h;cases h;exact ⟨cs,⟨i,hf⟩,hR⟩
     ·exact absurd (by rw [gd l,M]) (b2 t)
    obtain ⟨i,hf⟩:=hf;refine oO (c:=true) (v:=.agg cs.toArray) (ok:=true) ((f.pub _ _ Z).1) fu gO aV (.inl ⟨i,hf,rfl⟩) (al (v:=.agg cs.toArray) rfl (al (v:=.bool true) rfl (aG f aV fun b6 w' f=>?_)));refine aq f 1 rfl ac (by simpa using hR.length) rfl (by simpa using hR.one) fun w' f=>?_;refine cq (aE (fun Y=>by cases Y) (fun _=>?_));refine av f 1 ac rfl (by simpa using hR.length) ?_;obtain ⟨u,h⟩:=Di N t a3;refine Run.call0E kF kD f (zd N h ⟨a3,a8⟩ hR B) fun v' I' S3 w'=>?_;rintro ⟨rfl,ds,o,U,rfl,b4⟩ V f;refine al (v:=.agg ds.toArray) rfl (al (v:=.bool (bL u)) rfl (aG f aV fun b8 w' f=>?_));refine aq f 2 rfl ac (by simpa using o) rfl (by simpa using U) fun w' f=>?_;have f:Inv w [] [aK r eo 5 css,ay b6 cs.toArray ab,ay b8 ds.toArray ab] S3 w':=f;refine cq (aE (fun Y=>?_) (fun Y=>?_))
    ·refine ⟨_,_,_,rfl,f.nil,m.trans V,none,0,0,false,rfl,?_⟩;rw [a2];rfl
    ·refine av f 2 ac rfl (by simpa using o) (EB o ?_);obtain ⟨xs,G⟩:∃ xs:hZ,xs=[Value.int .i64 (j:Int)]++ds:=⟨_,rfl⟩
     have a9:xs.length=5:=by rw [G];simp [o]
     have b0:∀ u∈xs,u.oneCell'=true:=by
      intro u h;rw [G] at h;rcases ci.1 h with h|h
      ·simp at h;subst h;rfl
      ·exact U u h
     rw [<- G];refine ei (css:=css) f 0 xs xu (by omega) (by omega) rfl a9 b0 (by omega) (by omega) fun v' w' f=>?_;refine ⟨css++[xs],S3,by simp;omega,?_,m.trans V,f.pick [true]⟩;rw [g];simp
  intro r;(iterate 32 intro);intro w';rintro ⟨css,S2,h1,h2,h3,f⟩;refine bA (by omega) ?_;exact ⟨⟨j+1,css,S2,by omega,rfl,h1,h2,h3,f⟩,by simp [intOf];omega⟩
 ·have:j=26:=by omega
  subst this;obtain ⟨a7,n7,c7,J⟩:=f.rowSlice 0 rfl;have b1:n7=css.length:=by
   have hm:w'.ownsRow 0 eo 5 r css.length css.flatten:=f.its (aK r eo 5 css) (by simp);rcases hm.2 with ⟨e1,e2⟩|⟨g1,c1,u1,e1,_⟩
   ·rw [J] at e1;simp only [Value.slice.injEq] at e1;omega
   ·rw [J] at e1;simp only [Value.slice.injEq] at e1;omega
  refine ⟨_,_,_,rfl,f.nil,m,a7,n7,c7,true,by rw [J],?_⟩;rw [b1,O,<- a1,fM,dz]
set_option maxHeartbeats 1000000 in
theorem xM {g:T} {f:Bool} (hv:dP g=true) (V:okU 26 g/\wT g<=1048576) (hn:okN g) (hf:(bW g=false/\f=false) ∨ (bW g=true/\∃ code m,Blt YO g code m/\f=wo code m)) {S:ae} {cs:hZ} (h:RdT S cs g) :
  kt G0 [.agg cs.toArray] [] S (VU f):=by
 intro w i;have t:=h.length;apply rC.2;dsimp only[rC,aR];refine bq i fun J w' i=>?_;have i:Inv w [] [ay J cs.toArray ab] S w':=i;refine ⟨fun q w'=>q=.bool (!bW g)/\Inv w [] [ay J cs.toArray ab] S w',?_,?_⟩
 ·refine av i 0 ac rfl (by simpa using t) (Run.callPure oJ pf i (me h) fun w' i=>?_);rw [hv];apply cq;refine rpG ?_;refine av i 0 ac rfl (by simpa using t) (Run.callPure lG lq i (jQ h) fun w' i=>?_);apply cq;refine rpG ?_;exact ⟨rfl,i⟩
 intro q _ _ _ _ _ _ _ w';rintro ⟨rfl,i⟩;rcases hf with ⟨j,rfl⟩|⟨j,code,m,Z,rfl⟩
 ·rw [j];refine aE (fun _=>?_) (fun j=>by cases j);exact ⟨_,_,_,rfl,i.nil,Ext.refl _ _ _,none,0,0,6,rfl,rfl⟩
 rw [j];refine aE (fun j=>by cases j) (fun _=>?_);have N:=Z.good (mq 26) j V;refine Run.call0E yl yA i (wa S) fun Y I' S' w'=>?_;rintro ⟨rfl,sb,mb,rfl,rfl⟩ a0 i;refine av i 0 ac rfl (by simpa using t) (Run.callE (A:=[_]) tI ui i (AU (by omega) (mq 26) V hn j Z h (KnownM.none _ 26) (by rw [Ay];simp)) fun Y I' S' w'=>?_);rintro ⟨rfl,rfl,D,ck,tv,tr,rfl,G,_,_⟩ a1 i;refine dw (aE (fun hc=>?_) (fun hc=>?_))
 ·refine ⟨_,_,_,rfl,i.nil,Ext.refl _ _ _,none,0,0,code,rfl,?_⟩;have:code≠0:=by simpa using hc
  rw [wo,aS this];rfl
 have O:code=0:=by simpa using hc
 subst O;have i:=i.perm (M:=[ay J cs.toArray ab,dI tv tr]++bE [(sb,.cells #[.map (some mb),tv] dA),(mb,.map D ck)]) (List.Perm.cons _ (cT (l₁:=[dI tv tr]) (l₂:=bE [(sb,.cells #[.map (some mb),tv] dA),(mb,.map D ck)])));obtain ⟨S3,i,r,o⟩:=Inv.pubExt i;have U:StS S3 S3 sb m:=⟨mb,tv,D,ck,dA,o _ (bi ..),o _ (bk _ (bi ..)),G.up r.1⟩
 refine Run.call0E JP Je i (BU N U) fun Y I' S4 w'=>?_;rintro ⟨a,n,cap,b,rfl,l⟩ B i;refine al (v:=.slice a n cap) rfl (al (v:=.bool b) rfl (cq (aE (fun j=>?_) (fun j=>?_))))
 ·have j:b=false:=by simpa using j
  refine ⟨_,_,_,rfl,i.nil,r.trans B,none,0,0,5,rfl,?_⟩;rw [j,jZ] at l;rw [wo,<- l];rfl
 ·have j:b=true:=by simpa using j
  refine ⟨_,_,_,rfl,i.nil,r.trans B,a,n,cap,0,rfl,?_⟩;rw [j,dz] at l;rw [wo,<- l]
end
end
section
open Go Go.RowKit
structure Ch where
 goal:T
 rest:List (T × Int)
 left:List Int
 binds:au
structure St6 where
 goals:List (T × Int)
 binds:au
 chs:List Ch
def RdCh (S:ae) (cs:List Value) (c:Ch):Prop:=∃ hd g l b,cs=hd++[g,l,b]/\RdT S hd c.goal/\RdSl S 5 (RdG S) g c.rest/\RdSl S 1 gW l c.left/\RdSl S 4 (RdO S) b c.binds
theorem RdSl.sl {α:Type} {S:ae} {k:Nat} {R:hZ->α->Prop} {v:Value} {xs:List α} (h:RdSl S k R v xs):v.oneCell'=true:=by
 obtain ⟨a,m,rfl,_⟩:=h;rfl
theorem RdSl.monoO {S S':ae} {v:Value} {st:au} (a:Sle S S') (h:RdSl S 4 (RdO S) v st):RdSl S' 4 (RdO S') v st:=h.mono a fun _ _=>RdO.mono a
theorem RdCh.length {S:ae} {cs:hZ} {c:Ch} (h:RdCh S cs c):cs.length=7:=by
 obtain ⟨hd,g,l,b,rfl,h,_⟩:=h;simp [h.length]
theorem RdCh.one {S:ae} {cs:hZ} {c:Ch} (h:RdCh S cs c):∀ u∈cs,u.oneCell'=true:=by
 obtain ⟨hd,g,l,b,rfl,h,f,i,j⟩:=h;intro u a;rcases ci.1 a with a|a
 ·exact h.one u a
 ·simp only [cw,ic,g9] at a;rcases a with rfl|rfl|rfl
  ·exact f.sl
  ·exact i.sl
  ·exact j.sl
theorem RdCh.mono {S S':ae} {cs:hZ} {c:Ch} (a:Sle S S') (h:RdCh S cs c):RdCh S' cs c:=by
 obtain ⟨hd,g,l,b,rfl,h,f,i,j⟩:=h;exact ⟨hd,g,l,b,rfl,h.mono a,f.monoG a,i.mono a fun _ _ h=>h,j.monoO a⟩
theorem RdSl.monoCh {S S':ae} {v:Value} {cs:List Ch} (a:Sle S S') (h:RdSl S 7 (RdCh S) v cs):RdSl S' 7 (RdCh S') v cs:=h.mono a fun _ _=>RdCh.mono a
def RdS6 (S:ae) (cs:List Value) (s:St6):Prop:=∃ g b c,cs=[g,b,c]/\RdSl S 5 (RdG S) g s.goals/\RdSl S 4 (RdO S) b s.binds/\RdSl S 7 (RdCh S) c s.chs
theorem RdS6.length {S:ae} {cs:hZ} {s:St6} (h:RdS6 S cs s):cs.length=3:=by
 obtain ⟨g,b,c,rfl,_⟩:=h;rfl
theorem RdS6.one {S:ae} {cs:hZ} {s:St6} (h:RdS6 S cs s):∀ u∈cs,u.oneCell'=true:=by
 obtain ⟨g,b,c,rfl,f,i,j⟩:=h;intro u a;simp only [cw,ic,g9] at a;rcases a with rfl|rfl|rfl
 ·exact f.sl
 ·exact i.sl
 ·exact j.sl
theorem RdS6.mono {S S':ae} {cs:hZ} {s:St6} (a:Sle S S') (h:RdS6 S cs s):RdS6 S' cs s:=by
 obtain ⟨g,b,c,rfl,f,i,j⟩:=h;exact ⟨g,b,c,rfl,f.monoG a,i.monoO a,j.monoCh a⟩
theorem RdSl.nil0 {α:Type} (S:ae) (k:Nat) (R:hZ->α->Prop):RdSl S k R (hV) []:=⟨none,0,rfl,be _,bf _,.inl rfl⟩
section
variable {w:World} {K:Value->World->Prop}
theorem KE {a:Option Addr} {n m:Nat} (hk:K (.agg #[hV,.slice a n m,hV]) w) :
  Run Tryz.prog (bZ cF [(1,.slice a n m)]) w K:=by
 refine Run.of (v:=.agg #[hV,.slice a n m,hV]) (w':=w) ?_ hk;unfold bZ;rw [Sem.run_bind,run_build w cF _ #[hV,.slice a n m,hV] (by kernel_rfl),Result.andThen_ok];rfl
end
section
abbrev acr (s:St6):Value->List Item->ae->Prop:=fun q I' S'=>I'=[]/\∃ cs,q=.agg cs.toArray/\RdS6 S' cs s
theorem KR {ts:List T} {S:ae} {v:Value} (h:RdSl S 4 (RdT S) v ts) (r:∀ t∈ts,okU 26 t/\wT t<=1048576) (hl:ts.length<=1000000) :
  kt SD [v] [] S (acr ⟨ts.map (fun t=>(bD 0 t,0)),List.replicate 26 none,[]⟩):=by
 intro w a;apply Bo.2;dsimp only[Bo,aR];refine aG a jm fun m w' a=>?_;refine sO (n:=26) a bx (by omega) (by omega) (by omega) fun o w' a=>?_;have hk:=KnU.zero _ rfl S 26;obtain ⟨S1,a,i,j⟩:=Inv.pub1 (A:=[_]) a;have l:RdSl S1 4 (RdO S) (eF o 0 26 26) (List.replicate 26 none):=hk.rd (cap:=26) j (by simp) (by simp [maxLen]);refine KE (aG a jm fun q w' a=>?_);have a:Inv w [] [ay m #[hV,hV,hV] cF,ay q #[hV,hV,hV] cF] S1 w':=a;refine aq a 1 rfl cO rfl rfl (by simp [Value.oneCell']) fun w' a=>?_;refine Run.call0E CO CE a (yT (N:=26) (by omega) 0 (by omega) (by omega) 0 (h.monoT i.1) (RdSl.nil0 ..) r hl (by simp)) fun B I' S2 w'=>?_;rintro ⟨rfl,g⟩ f a;rw [dc] at g;obtain ⟨D,G,rfl,_⟩:=id g;have a:Inv w [] [ay m #[hV,hV,hV] cF,ay q #[hV,eF o 0 26 26,hV] cF] S2 w':=a;refine cX a 1 rfl iW iu rfl rfl rfl fun w' a=>?_;refine av a 1 cO rfl rfl (aq a 0 rfl cO rfl rfl (by simp [Value.oneCell']) fun w' a=>?_);apply bm a 0 cO rfl rfl;exact ⟨_,_,_,rfl,a.pick [false,false],i.trans f,rfl,_,rfl,_,_,_,rfl,g,(l.mono f.1 fun _ _ h=>RdO.mono (i.1.trans f.1) h),RdSl.nil0 ..⟩
end
end
section
open Go Go.RowKit
theorem Good.grow {N:Nat} {st:au} (h:Good N st) (k:Nat):Good (N+k) (st++List.replicate k none):=by
 have g:∀ t,some t∈st++List.replicate k none->some t∈st:=fun t a=>by
  rcases ci.1 a with a|a
  ·exact a
  ·have:=Wa a;cases this
 obtain ⟨r,i⟩:=h.rk;refine ⟨by simp [h.len],fun t a=>iK (s3 ..) t (h.ok t (g t a)),fun t a=>h.w t (g t a),r,fun n u f=>?_⟩;apply i n u;rw [YF] at f;split at f
 ·exact f
 ·have:=Wa (cJ f);cases this
def GC (b:au) (cl:C):au:=b++List.replicate (mt cl).toNat none
def zm (cl:C):Prop:=(okU (mt cl).toNat cl.head/\wT cl.head<=1048576)/\∀ t∈cl.body,okU (mt cl).toNat t/\wT t<=1048576
def qk (chs:List Ch) (c:Ch) (cl:C) (l:List Int) (st:au):St6:=
 ⟨cl.body.map (fun t=>(bD c.binds.length t,(chs.length:Int)))++c.rest,st,chs++(if l=[] then [] else [⟨c.goal,c.rest,l,c.binds⟩])⟩
inductive TryL (p:List C) (chs:List Ch) (c:Ch):List Int->Option St6->Prop
 | nil:TryL p chs c [] none
 | hit {i:Nat} {l:List Int} {cl:C} {st:au}:p[i]?=some cl->Uni (GC c.binds cl) (.one c.goal (bD c.binds.length cl.head)) true st->TryL p chs c ((i:Int)::l) (some (qk chs c cl l st))
 | miss {i:Nat} {l:List Int} {cl:C} {st:au} {o:Option St6}:p[i]?=some cl->Uni (GC c.binds cl) (.one c.goal (bD c.binds.length cl.head)) false st->TryL p chs c l o->TryL p chs c ((i:Int)::l) o
theorem TryL.inv {p:List C} {chs:List Ch} {c:Ch} {x:Int} {l:List Int} {o:Option St6} (h:TryL p chs c (x::l) o) :
  ∃ (i:Nat) (cl:C) (r:Bool) (st:au),x=i/\p[i]?=some cl/\Uni (GC c.binds cl) (.one c.goal (bD c.binds.length cl.head)) r st/\((r=true/\o=some (qk chs c cl l st)) ∨ (r=false/\TryL p chs c l o)):=by
 cases h with
 | hit a f=>exact ⟨_,_,_,_,rfl,a,f,.inl ⟨rfl,rfl⟩⟩
 | miss a f g=>exact ⟨_,_,_,_,rfl,a,f,.inr ⟨rfl,g⟩⟩
structure od (c:Ch):Prop where
 good:Good c.binds.length c.binds
 goal:okU c.binds.length c.goal/\wT c.goal<=1048576
 rest:∀ g∈c.rest,okU c.binds.length g.1/\wT g.1<=1048576
structure abZ (s:St6):Prop where
 good:Good s.binds.length s.binds
 goals:∀ g∈s.goals,okU s.binds.length g.1/\wT g.1<=1048576
 chs:∀ c∈s.chs,od c
theorem xf {c:Ch} (hc:od c) (cl:C):Good (c.binds.length+(mt cl).toNat) (GC c.binds cl):=hc.good.grow _
theorem Hl {c:Ch} {cl:C} (hc:od c) (a:zm cl):okJ (c.binds.length+(mt cl).toNat) (.one c.goal (bD c.binds.length cl.head)):=by
 refine ⟨⟨iK (s3 ..) _ hc.goal.1,hc.goal.2⟩,?_,?_⟩
 ·have:=mp c.binds.length cl.head a.1.1;rw [vR] at this;exact this
 ·rw [pm];exact a.1.2
theorem TryL.ex {p:List C} (f:∀ cl∈p,zm cl) (chs:List Ch) {c:Ch} (hc:od c):∀ l:List Int,(∀ i∈l,0<=i/\i<p.length)->∃ o,TryL p chs c l o
 | [],_=>⟨none,.nil⟩
 | i::l,hl=>by
  obtain ⟨q,t⟩:=hl i (bi ..);obtain ⟨n,rfl⟩:∃ n:Nat,i=n:=⟨i.toNat,by omega⟩
  have hn:n<p.length:=by omega
  have h:p[n]?=some p[n]:=gd hn;have a:=f _ (bJ hn);obtain ⟨r,st,g⟩:=Hv _ _ (xf hc p[n]) (be _) _ (Hl hc a);cases r with
  | true=>exact ⟨_,.hit h g⟩
  | false=>
   obtain ⟨o,m⟩:=TryL.ex f chs hc l fun i j=>hl i (bk _ j);exact ⟨o,.miss h g m⟩
theorem TryL.ok {p:List C} (r:∀ cl∈p,zm cl) {chs:List Ch} (B:∀ c∈chs,od c) {c:Ch} (hc:od c) {l:List Int} {o:Option St6} (h:TryL p chs c l o):∀ s,o=some s->abZ s:=by
 induction h with
 | nil=>intro s h;cases h
 | miss _ _ _ M=>exact M
 | @hit i l cl st N O=>
  intro s m;simp only [aY] at m;subst m;have j:=r _ (cJ N);obtain ⟨q,_⟩:=O.good (xf hc cl) (Hl hc j);have f:=q.len;refine ⟨by rw [qk,f];exact q,fun g a=>?_,fun d hd=>?_⟩
  ·rw [qk] at a ⊢;simp only at a ⊢;rw [f];rcases ci.1 a with a|a
   ·obtain ⟨t,D,rfl⟩:=eV.1 a;obtain ⟨G,J⟩:=j.2 t D;have:=mp c.binds.length t G;rw [vR] at this;exact ⟨this,by rw [pm];exact J⟩
   ·exact ⟨iK (s3 ..) _ (hc.rest g a).1,(hc.rest g a).2⟩
  ·rw [qk] at hd;rcases ci.1 hd with hd|hd
   ·exact B d hd
   ·split at hd
    ·cases hd
    ·rw [cE] at hd;subst hd;exact ⟨hc.good,hc.goal,hc.rest⟩
end
section
open Go Go.RowKit
structure Sp where
 goal:T
 clause:Int
 body:Int
structure Se where
 st:St6
 steps:List Sp
 saved:List (List Sp)
inductive FirstL (p:List C) (chs:List Ch) (c:Ch):List Int->Option (St6 × Int × List Int)->Prop
 | nil:FirstL p chs c [] none
 | hit {i:Int} {l:List Int} {s:St6}:TryL p chs c [i] (some s)->FirstL p chs c (i::l) (some (s,i,l))
 | miss {i:Int} {l:List Int} {o:Option (St6 × Int × List Int)}:TryL p chs c [i] none->FirstL p chs c l o->FirstL p chs c (i::l) o
theorem FirstL.ex {p:List C} (f:∀ cl∈p,zm cl) (chs:List Ch) {c:Ch} (hc:od c):∀ l:List Int,(∀ i∈l,0<=i/\i<p.length)->∃ o,FirstL p chs c l o
 | [],_=>⟨none,.nil⟩
 | i::l,hl=>by
  obtain ⟨o,g⟩:=TryL.ex f chs hc [i] fun j a=>by
   rw [cE] at a;subst a;exact hl j (bi ..)
  cases o with
  | some s=>exact ⟨_,.hit g⟩
  | none=>
   obtain ⟨o,h⟩:=FirstL.ex f chs hc l fun j a=>hl j (bk _ a);exact ⟨o,.miss g h⟩
theorem FirstL.ok {p:List C} (f:∀ cl∈p,zm cl) {chs:List Ch} (g:∀ c∈chs,od c) {c:Ch} (hc:od c) {l:List Int} {o:Option (St6 × Int × List Int)} (h:FirstL p chs c l o) :
  ∀ s i r,o=some (s,i,r)->abZ s/\i∈l/\(∀ j∈r,j∈l):=by
 induction h with
 | nil=>intro s i r h;cases h
 | miss _ _ B=>
  intro s i r h;obtain ⟨m,q,t⟩:=B s i r h;exact ⟨m,bk _ q,fun j a=>bk _ (t j a)⟩
 | hit D=>
  intro s i r h;simp only [aY,cV] at h;obtain ⟨rfl,rfl,rfl⟩:=h;exact ⟨D.ok f g hc _ rfl,bi ..,fun j a=>bk _ a⟩
def lN (p:List C) (s:Se) (c:Ch) (u:St6) (i:Int) (l:List Int):Se:=
 ⟨⟨u.goals,u.binds,s.st.chs++(if l=[] then [] else [⟨c.goal,c.rest,l,c.binds⟩])⟩,s.steps++[⟨c.goal,i,((p[i.toNat]?).elim 0 fun cl=>(cl.body.length:Int))⟩],s.saved++(if l=[] then [] else [s.steps])⟩
inductive TakeR (p:List C) (s:Se) (c:Ch):Option Se->Prop
 | no:FirstL p s.st.chs c c.left none->TakeR p s c none
 | yes {u:St6} {i:Int} {l:List Int}:FirstL p s.st.chs c c.left (some (u,i,l))->TakeR p s c (some (lN p s c u i l))
structure qC (n:Nat) (s:Se):Prop where
 st:abZ s.st
 left:∀ c∈s.st.chs,∀ i∈c.left,0<=i/\i<n
 len:s.saved.length=s.st.chs.length
theorem TakeR.ex {p:List C} (f:∀ cl∈p,zm cl) (s:Se) {c:Ch} (hc:od c) (hl:∀ i∈c.left,0<=i/\i<p.length):∃ o,TakeR p s c o:=by
 obtain ⟨o,a⟩:=FirstL.ex f s.st.chs hc c.left hl;cases o with
 | none=>exact ⟨_,.no a⟩
 | some x=>exact ⟨_,.yes (u:=x.1) (i:=x.2.1) (l:=x.2.2) a⟩
theorem TakeR.ok {p:List C} (r:∀ cl∈p,zm cl) {s:Se} (g:∀ c∈s.st.chs,od c) (hf:∀ c∈s.st.chs,∀ i∈c.left,0<=i/\i<p.length) (hn:s.saved.length=s.st.chs.length) {c:Ch} (hc:od c)
  (hl:∀ i∈c.left,0<=i/\i<p.length) {o:Option Se} (h:TakeR p s c o):∀ a,o=some a->qC p.length a:=by
 intro a f;cases h with
 | no _=>cases f
 | @yes u i l B=>
  simp only [aY] at f;subst f;obtain ⟨q,D,t⟩:=B.ok r g hc u i l rfl;refine ⟨⟨q.good,q.goals,fun d hd=>?_⟩,fun d hd j m=>?_,?_⟩
  ·rcases ci.1 hd with hd|hd
   ·exact g d hd
   ·split at hd
    ·cases hd
    ·rw [cE] at hd;subst hd;exact ⟨hc.good,hc.goal,hc.rest⟩
  ·rcases ci.1 hd with hd|hd
   ·exact hf d hd j m
   ·split at hd
    ·cases hd
    ·rw [cE] at hd;subst hd;exact hl j (t j m)
  ·simp only [lN,bK];split <;> simp [hn]
inductive BackR (p:List C):List Ch->List (List Sp)->Option Se->Prop
 | nil {ss:List (List Sp)}:BackR p [] ss none
 | hit {cs:List Ch} {ss:List (List Sp)} {c:Ch} {t:List Sp} {s:Se}:TakeR p ⟨⟨[],[],cs⟩,t,ss⟩ c (some s)->BackR p (cs++[c]) (ss++[t]) (some s)
 | miss {cs:List Ch} {ss:List (List Sp)} {c:Ch} {t:List Sp} {o:Option Se}:TakeR p ⟨⟨[],[],cs⟩,t,ss⟩ c none->BackR p cs ss o->BackR p (cs++[c]) (ss++[t]) o
theorem BackR.ex {p:List C} (r:∀ cl∈p,zm cl):∀ (n:Nat) (cs:List Ch) (a:List (List Sp)),cs.length=n->a.length=n->(∀ c∈cs,od c)->(∀ c∈cs,∀ i∈c.left,0<=i/\i<p.length)->
  ∃ o,BackR p cs a o/\∀ s,o=some s->qC p.length s:=by
 intro n;induction n with
 | zero=>
  intro cs a h _ _ _;have:=iy h;subst this;exact ⟨none,.nil,fun s h=>by cases h⟩
 | succ n J=>
  intro cs a j l m hf;obtain ⟨cs,c,rfl⟩:=Yi cs |>.resolve_left fun e=>by rw [e] at j;cases j
  obtain ⟨a,t,rfl⟩:=Yi a |>.resolve_left fun e=>by rw [e] at l;cases l
  simp only [List.concat_eq_append,bK,sg,zL] at j l m hf ⊢;have hc:=m c (by simp);have hl:=hf c (by simp);have f:∀ c∈cs,od c:=fun d hd=>m d (dO _ hd);have g:∀ c∈cs,∀ i∈c.left,0<=i/\i<p.length:=fun d hd=>hf d (dO _ hd);obtain ⟨o,q⟩:=TakeR.ex r ⟨⟨[],[],cs⟩,t,a⟩ hc hl;cases o with
  | some s=>exact ⟨_,.hit q,fun B e=>q.ok r f g (by simp only;omega) hc hl B e⟩
  | none=>
   obtain ⟨o,D,G⟩:=J cs a j l f g;exact ⟨o,.miss q D,G⟩
end
section
open Go Go.RowKit
def hH (p:List C) (g:T):List Int:=ig (fun c=>kX (cW c.head) (cW g)) p 0
theorem sH (p:List C) (g:T):∀ i∈hH p g,0<=i/\i<p.length:=by
 intro i a;obtain ⟨j,f,rfl,h,_⟩:=Iq _ p 0 i a;omega
inductive OneR (p:List C) (s:Se):Se->Int->Prop
 | big {g:T × Int} {rest:List (T × Int)} {u:T}:s.st.goals=g::rest->Res s.st.binds (.one g.1 u)->(bL u=false ∨ fC u=true)->OneR p s s 0
 | took {g:T × Int} {rest:List (T × Int)} {u:T} {s':Se}:s.st.goals=g::rest->Res s.st.binds (.one g.1 u)->bL u=true->fC u=false->bW u=false->
   TakeR p s ⟨u,rest,hH p u,s.st.binds⟩ (some s')->OneR p s s' (-1)
 | stuck {g:T × Int} {rest:List (T × Int)} {u:T}:s.st.goals=g::rest->Res s.st.binds (.one g.1 u)->bL u=true->fC u=false->bW u=false->
   TakeR p s ⟨u,rest,hH p u,s.st.binds⟩ none->OneR p s s (-2)
 | fail {g:T × Int} {rest:List (T × Int)} {u:T} {st:au}:s.st.goals=g::rest->Res s.st.binds (.one g.1 u)->bL u=true->fC u=false->bW u=true->
   Blt s.st.binds u 1 st->OneR p s s (-2)
 | err {g:T × Int} {rest:List (T × Int)} {u:T} {st:au} {c:Int}:s.st.goals=g::rest->Res s.st.binds (.one g.1 u)->bL u=true->fC u=false->bW u=true->
   Blt s.st.binds u c st->c≠0->c≠1->OneR p s s 0
 | solved {g:T × Int} {rest:List (T × Int)} {u:T} {st:au}:s.st.goals=g::rest->Res s.st.binds (.one g.1 u)->bL u=true->fC u=false->bW u=true->
   Blt s.st.binds u 0 st->OneR p s ⟨⟨rest,st,s.st.chs⟩,s.steps++[⟨u,-1,0⟩],s.saved⟩ (-1)
theorem OneR.ex {p:List C} (O:∀ cl∈p,zm cl) {s:Se} (a:qC p.length s) (Y:s.st.goals≠[]):∃ N k,OneR p s N k/\qC p.length N:=by
 obtain ⟨g,rest,f⟩:∃ g rest,s.st.goals=g::rest:=by
  cases h:s.st.goals with
  | nil=>exact absurd h Y
  | cons g rest=>exact ⟨g,rest,rfl⟩
 have j:=a.st.goals;rw [f] at j;have r:=j g (bi ..);obtain ⟨us,J⟩:=Ak a.st.good [g.1] (by simp only [du];exact ⟨r.1,trivial⟩);obtain ⟨u,m⟩:∃ u,Res s.st.binds (.one g.1 u):=by
  cases J with
  | cons h _=>exact ⟨_,h⟩
 have l:okU s.st.binds.length u:=kz a.st.good m r.1;cases i:bL u with
 | false=>exact ⟨_,_,.big f m (.inl i),a⟩
 | true=>
  have Z:=gG i l;cases hc:fC u with
  | true=>exact ⟨_,_,.big f m (.inr hc),a⟩
  | false=>
   cases q:bW u with
   | false=>
    have t:od ⟨u,rest,hH p u,s.st.binds⟩:=⟨a.st.good,⟨l,by simp only;omega⟩,fun x G=>j x (bk _ G)⟩
    obtain ⟨o,M⟩:=TakeR.ex O s t (sH p u);cases o with
    | none=>exact ⟨_,_,.stuck f m i hc q M,a⟩
    | some N=>exact ⟨_,_,.took f m i hc q M,M.ok O a.st.chs a.left a.len t (sH p u) _ rfl⟩
   | true=>
    obtain ⟨c,st,D⟩:=Blt.ex a.st.good q ⟨l,by omega⟩;by_cases U:c=1
    ·subst U;exact ⟨_,_,.fail f m i hc q D,a⟩
    by_cases V:c=0
    ·subst V;refine ⟨_,_,.solved f m i hc q D,?_⟩;have B:=D.good a.st.good q ⟨l,by omega⟩;have hl:=B.len;exact ⟨⟨by simp only [hl];exact B,fun x G=>by simp only [hl];exact j x (bk _ G),a.st.chs⟩,a.left,a.len⟩
    ·exact ⟨_,_,.err f m i hc q D V U,a⟩
end
section
open Go Go.RowKit
inductive Srch (p:List C):Nat->Se->Option Se->Prop
 | done {n:Nat} {s:Se}:s.st.goals=[]->Srch p n s (some s)
 | out {s:Se}:s.st.goals≠[]->Srch p 0 s none
 | halt {n:Nat} {s s':Se}:s.st.goals≠[]->OneR p s s' 0->Srch p (n+1) s none
 | step {n:Nat} {s s':Se} {o:Option Se}:s.st.goals≠[]->OneR p s s' (-1)->Srch p n s' o->Srch p (n+1) s o
 | stop {n:Nat} {s s':Se}:s.st.goals≠[]->OneR p s s' (-2)->BackR p s'.st.chs s'.saved none->Srch p (n+1) s none
 | back {n:Nat} {s s' t:Se} {o:Option Se}:s.st.goals≠[]->OneR p s s' (-2)->BackR p s'.st.chs s'.saved (some t)->Srch p n t o->Srch p (n+1) s o
theorem OneR.code {p:List C} {s a:Se} {k:Int} (h:OneR p s a k):k=0 ∨ k=-1 ∨ k=-2:=by
 cases h <;> simp
theorem Srch.ex {p:List C} (q:∀ cl∈p,zm cl):∀ (n:Nat) (s:Se),qC p.length s->∃ o,Srch p n s o/\∀ t,o=some t->qC p.length t:=by
 intro n;induction n with
 | zero=>
  intro s g;by_cases a:s.st.goals=[]
  ·exact ⟨_,.done a,fun t h=>by rw [aY] at h;subst h;exact g⟩
  ·exact ⟨_,.out a,fun t h=>by cases h⟩
 | succ n r=>
  intro s g;by_cases a:s.st.goals=[]
  ·exact ⟨_,.done a,fun t h=>by rw [aY] at h;subst h;exact g⟩
  obtain ⟨l,k,f,i⟩:=OneR.ex q g a;rcases f.code with rfl|rfl|rfl
  ·exact ⟨_,.halt a f,fun t h=>by cases h⟩
  ·obtain ⟨o,j,m⟩:=r l i;exact ⟨o,.step a f j,m⟩
  ·obtain ⟨o,j,m⟩:=BackR.ex q _ l.st.chs l.saved rfl i.len i.st.chs i.left;cases o with
   | none=>exact ⟨_,.stop a f j,fun t h=>by cases h⟩
   | some t=>
    obtain ⟨o,B,D⟩:=r t (m t rfl);exact ⟨o,.back a f j B,D⟩
def jh (t:T):Se:=⟨⟨[(bD 0 t,0)],List.replicate 26 none,[]⟩,[],[]⟩
theorem MV {t:T} (h:okU 26 t) (i:wT t<=1048576) (n:Nat):qC n (jh t):=by
 refine ⟨⟨?_,fun g f=>?_,fun c hc=>(by cases hc)⟩,fun c hc=>(by cases hc),rfl⟩
 ·have:=(⟨by simp,fun t a=>by simp at a,fun t a=>by simp at a,fun n=>n,fun n u j=>by
   have:=cJ j;simp at this⟩:Good 26 (List.replicate 26 none))
  simp only [jh,E0];exact this
 ·simp only [jh,cE] at f;subst f;simp only [jh,E0];have:=mp 0 t h;exact ⟨this,by rw [pm];exact i⟩
end
section
open Go Go.RowKit
def rM:List Sp->Int
 | []=>1
 | x::xs=>x.body - 1+rM xs
theorem EH:∀ (a b:List Sp),rM (a++b)=rM a+rM b - 1
 | [],b=>by rw [u9,rM];omega
 | x::a,b=>by rw [i8,rM,rM,EH a b];omega
theorem Ef (a:List Sp) (x:Sp):rM (a++[x])=rM a+x.body - 1:=by
 rw [EH];simp only [rM];omega
def openP (l:List Sp):Prop:=∀ a b,l=a++b->b≠[]->0<rM a
theorem openP.nil:openP []:=by
 intro a b h f;have:=congrArg List.length h;cases b with
 | nil=>exact absurd rfl f
 | cons y b=>simp at this
theorem openP.snoc {l:List Sp} (h:openP l) (g:0<rM l) (x:Sp):openP (l++[x]):=by
 intro a b e i;obtain ⟨f,y,rfl⟩:=(Yi b).resolve_left i;rw [List.concat_eq_append,<- eY] at e;have e2:=List.append_inj_left' e (by simp);subst e2;cases f with
 | nil=>rw [dc] at g;exact g
 | cons z f=>exact h a (z::f) rfl (by simp)
structure okP (s:Se):Prop where
 goals:(s.st.goals.length:Int)=rM s.steps
 openP:openP s.steps
 saved:∀ i (h:i<s.st.chs.length) (h':i<s.saved.length),(s.st.chs[i].rest.length:Int)+1=rM s.saved[i]/\Go.Proofs.YtellfcpffcipcaaGreatDoor.openP s.saved[i]
theorem zM (t:T):okP (jh t):=⟨rfl,openP.nil,fun i h=>by simp [jh] at h⟩
def WK (p:List C) (i:Int):Int:=(p[i.toNat]?).elim 0 fun cl=>(cl.body.length:Int)
theorem TryL.goals {p:List C} {chs:List Ch} {c:Ch} {i:Int} {s:St6} (h:TryL p chs c [i] (some s)):(s.goals.length:Int)=WK p i+c.rest.length:=by
 cases h with
 | hit a _=>simp [qk,WK,a]
 | miss _ _ h=>cases h
theorem FirstL.goals {p:List C} {chs:List Ch} {c:Ch} {l:List Int} {o:Option (St6 × Int × List Int)} (h:FirstL p chs c l o):∀ s i r,o=some (s,i,r)->(s.goals.length:Int)=WK p i+c.rest.length:=by
 induction h with
 | nil=>intro s i r h;cases h
 | miss _ _ a=>exact a
 | hit f=>
  intro s i r h;simp only [aY,cV] at h;obtain ⟨rfl,rfl,rfl⟩:=h;exact f.goals
theorem TakeR.okP {p:List C} {s j:Se} {c:Ch} (h:TakeR p s c (some j)) (hn:s.saved.length=s.st.chs.length) (q:(c.rest.length:Int)+1=rM s.steps) (m:openP s.steps)
  (o:∀ i (h:i<s.st.chs.length) (B:i<s.saved.length),(s.st.chs[i].rest.length:Int)+1=rM s.saved[i]/\Go.Proofs.YtellfcpffcipcaaGreatDoor.openP s.saved[i]):okP j:=by
 cases h with
 | @yes u i l t=>
  have r:=t.goals u i l rfl;refine ⟨?_,?_,?_⟩
  ·simp only [lN,Ef];rw [r,WK];omega
  ·exact m.snoc (by omega) _
  ·intro k a f;simp only [lN] at a f ⊢;by_cases hl:l=[]
   ·subst hl;simp only [ai,dc] at a f ⊢;exact o k a f
   ·simp only [af hl,bK,sg] at a f ⊢;by_cases hk:k<s.st.chs.length
    ·rw [iO hk,iO (by omega)];exact o k hk (by omega)
    ·have g:k=s.st.chs.length:=by omega
     subst g;rw [gF (be _),gF (by omega)];simp only [hn,fH,pi];exact ⟨q,m⟩
end
section
open Go Go.RowKit
def okB (cs:List Ch) (ss:List (List Sp)):Prop:=∀ i (h:i<cs.length) (h':i<ss.length),(cs[i].rest.length:Int)+1=rM ss[i]/\openP ss[i]
theorem okB.last {cs:List Ch} {a:List (List Sp)} {c:Ch} {t:List Sp} (h:okB (cs++[c]) (a++[t])) (hl:cs.length=a.length):okB cs a/\(c.rest.length:Int)+1=rM t/\openP t:=by
 constructor
 ·intro i f g;have:=h i (by simp;omega) (by simp;omega);rw [iO f,iO g] at this;exact this
 ·have:=h cs.length (by simp) (by simp [hl]);rw [gF (be _),gF (by omega)] at this;simp only [hl,fH,pi] at this;exact this
theorem BackR.okP {p:List C} {cs:List Ch} {a:List (List Sp)} {o:Option Se} (h:BackR p cs a o):cs.length=a.length->okB cs a->∀ s,o=some s->okP s:=by
 induction h with
 | nil=>intro _ _ s h;cases h
 | hit l=>
  intro hl f s h;simp only [bK,sg,zL] at hl;obtain ⟨g,i,j⟩:=f.last hl;rw [aY] at h;subst h;exact l.okP hl.symm i j g
 | miss _ _ m=>
  intro hl f;simp only [bK,sg,zL] at hl;exact m hl (f.last hl).1
theorem OneR.okP {p:List C} {s i:Se} {k:Int} (h:OneR p s i k) (hn:s.saved.length=s.st.chs.length) (a:okP s):okP i:=by
 have f:=a.goals;cases h with
 | big=>exact a
 | stuck=>exact a
 | fail=>exact a
 | err=>exact a
 | took g _ _ _ _ j=>
  rw [g] at f;refine j.okP hn ?_ a.openP a.saved;simp only [bI] at f ⊢;omega
 | solved g _ _ _ _ _=>
  rw [g] at f;simp only [bI] at f;refine ⟨?_,a.openP.snoc (by omega) _,a.saved⟩;simp only [Ef];omega
theorem OneR.ok {p:List C} (r:∀ cl∈p,zm cl) {s q:Se} {k:Int} (h:OneR p s q k) (a:qC p.length s):qC p.length q:=by
 have f:=a.st.goals;cases h with
 | big=>exact a
 | stuck=>exact a
 | fail=>exact a
 | err=>exact a
 | took m o i _ _ B=>
  rw [m] at f;have g:=kz a.st.good o (f _ (bi ..)).1;have t:=gG i g;exact B.ok r a.st.chs a.left a.len ⟨a.st.good,⟨g,by simp only;omega⟩,fun x l=>f x (bk _ l)⟩ (sH p _) _ rfl
 | solved m o i _ D G=>
  rw [m] at f;have g:=kz a.st.good o (f _ (bi ..)).1;have t:=gG i g;have j:=G.good a.st.good D ⟨g,by omega⟩;have hl:=j.len;exact ⟨⟨by simp only [hl];exact j,fun x l=>by simp only [hl];exact f x (bk _ l),a.st.chs⟩,a.left,a.len⟩
theorem BackR.ok {p:List C} (g:∀ cl∈p,zm cl) {cs:List Ch} {f:List (List Sp)} {o:Option Se} (h:BackR p cs f o):cs.length=f.length->(∀ c∈cs,od c)->(∀ c∈cs,∀ i∈c.left,0<=i/\i<p.length)->∀ s,o=some s->qC p.length s:=by
 induction h with
 | nil=>intro _ _ _ s h;cases h
 | hit j=>
  intro hl a hf s h;simp only [bK,sg,zL] at hl;exact j.ok g (fun d hd=>a d (dO _ hd)) (fun d hd=>hf d (dO _ hd)) hl.symm (a _ (by simp)) (hf _ (by simp)) s h
 | miss _ _ l=>
  intro hl a hf;simp only [bK,sg,zL] at hl;exact l hl (fun d hd=>a d (dO _ hd)) (fun d hd=>hf d (dO _ hd))
theorem Srch.ok {p:List C} (j:∀ cl∈p,zm cl) {n:Nat} {s:Se} {o:Option Se} (h:Srch p n s o):qC p.length s->okP s->∀ t,o=some t->qC p.length t/\okP t/\t.st.goals=[]:=by
 induction h with
 | done q=>intro f i t h;rw [aY] at h;subst h;exact ⟨f,i,q⟩
 | out=>intro _ _ t h;cases h
 | halt=>intro _ _ t h;cases h
 | stop=>intro _ _ t h;cases h
 | step q f _ r=>exact fun g l=>r (f.ok j g) (f.okP g.len l)
 | back q f i _ r=>
  intro g l;have a:=f.ok j g;have m:=f.okP g.len l;exact r (i.ok j a.len.symm a.st.chs a.left _ rfl) (i.okP a.len.symm m.saved _ rfl)
end
section
open Go Go.ChangeShapes Go.WideShapes Go.ChangeAt Go.RowKit

inductive PF where
 | mk (goal:T) (clause:Int) (kids:List PF)
def PF.goal:PF->T
 | .mk g _ _=>g
def PF.clause:PF->Int
 | .mk _ c _=>c
def PF.kids:PF->List PF
 | .mk _ _ ks=>ks
theorem PF.ind {p:PF->Prop} (h:∀ g c f,(∀ t∈f,p t)->p (.mk g c f)) (t:PF):p t:=
 PF.rec (motive_1:=p) (motive_2:=fun l=>∀ t∈l,p t) (fun g c f j=>h g c f j) (by simp) (fun a l m o t i=>by
  rcases cw.1 i with rfl|i
  ·exact m
  ·exact o t i) t
inductive RdF (S:ae):List Value->PF->Prop
 | nil {a0 a1 a2 a3:Value} {g:T} {c:Int} {a:Option Addr} {cap:Nat} (hg:RdT S [a0,a1,a2,a3] g) (hn:inI c) (hc:cap<=maxLen) :
   RdF S [a0,a1,a2,a3,.int .i64 c,.slice a 0 cap] (.mk g c [])
 | cons {a0 a1 a2 a3:Value} {g:T} {n:Int} {kids:List PF} {b o cap:Nat} {c:Array Value} {E:TypeId} {fz:Nat × Nat} (hg:RdT S [a0,a1,a2,a3] g) (hn:inI n) (hl:kids.length<=cap) (hc:cap<=maxLen)
   (hS:S b=some (.cells c E fz)) (h:∀ i (h:i<kids.length),RdF S (aO c (o+i * 6) 6) kids[i]) :
   RdF S [a0,a1,a2,a3,.int .i64 n,.slice (some ⟨b,o,none⟩) kids.length cap] (.mk g n kids)
theorem RdF.iff {S:ae} {cs:hZ} {x:PF}:RdF S cs x ↔
  ∃ kv i,cs=[ax x.goal.kind,ax x.goal.n,.string x.goal.name,kv,ax x.clause,i]/\RdT S [ax x.goal.kind,ax x.goal.n,.string x.goal.name,kv] x.goal/\inI x.clause/\RdSl S 6 (RdF S) i x.kids:=by
 constructor
 ·intro h;cases h with
  | nil f hn hc=>
   obtain ⟨kv,e,_⟩:=RdT.iff.1 f;simp only [gV,i0] at e;obtain ⟨rfl,rfl,rfl,rfl⟩:=e;exact ⟨_,_,rfl,f,hn,_,_,rfl,bf _,hc,.inl rfl⟩
  | cons f hn hl hc j h=>
   obtain ⟨kv,e,_⟩:=RdT.iff.1 f;simp only [gV,i0] at e;obtain ⟨rfl,rfl,rfl,rfl⟩:=e;exact ⟨_,_,rfl,f,hn,_,_,rfl,hl,hc,.inr ⟨_,_,_,_,_,rfl,j,h⟩⟩
 ·obtain ⟨g,n,kids⟩:=x;rintro ⟨kv,i,rfl,f,hn,a,cap,rfl,hl,hc,h⟩;rcases h with h|⟨b,o,c,E,l,rfl,j,h⟩
  ·simp only [PF.kids] at h;subst h;exact RdF.nil f hn hc
  ·exact RdF.cons f hn hl hc j h
theorem RdF.length {S:ae} {cs:hZ} {x:PF} (h:RdF S cs x):cs.length=6:=by
 obtain ⟨_,_,rfl,_⟩:=RdF.iff.1 h;rfl
theorem RdF.one {S:ae} {cs:hZ} {x:PF} (h:RdF S cs x):∀ u∈cs,u.oneCell'=true:=by
 obtain ⟨kv,i,rfl,g,_,a,cap,rfl,_⟩:=RdF.iff.1 h;have:=g.one kv (by simp);intro u f;simp at f;rcases f with rfl|rfl|rfl|rfl|rfl|rfl <;> first|rfl|exact this
theorem RdF.mono {S S':ae} (a:Sle S S') {cs:hZ} {x:PF} (h:RdF S cs x):RdF S' cs x:=by
 induction h with
 | nil f hn hc=>exact RdF.nil (f.mono a) hn hc
 | cons f hn hl hc g _ i=>exact RdF.cons (f.mono a) hn hl hc (a _ _ g) i
inductive TrF:bz->List Value->PF->Prop
 | nil {L:bz} {a0 a1 a2 a3:Value} {g:T} {n:Int} {a:Option Addr} {cap:Nat} (hg:TrT L [a0,a1,a2,a3] g) (hn:inI n) (hc:cap<=maxLen) :
   TrF L [a0,a1,a2,a3,.int .i64 n,.slice a 0 cap] (.mk g n [])
 | cons {L:bz} {a0 a1 a2 a3:Value} {g:T} {n:Int} {kids:List PF} {b cap:Nat} {c:Array Value} {E:TypeId} {Ls:List bz} (hg:TrT L [a0,a1,a2,a3] g) (hn:inI n) (hl:kids.length<=cap) (hc:cap<=maxLen)
   (hLs:Ls.length=kids.length) (hsz:cap * 6<=c.size) (h:∀ i (h:i<kids.length) (h':i<Ls.length),TrF Ls[i] (aO c (i * 6) 6) kids[i]) :
   TrF (L++(b,.cells c E)::Ls.flatten) [a0,a1,a2,a3,.int .i64 n,.slice (some ⟨b,0,none⟩) kids.length cap] (.mk g n kids)
theorem TrF.iff {L:bz} {cs:hZ} {x:PF}:TrF L cs x ↔
  ∃ L1 L2 kv l,L=L1++L2/\cs=[ax x.goal.kind,ax x.goal.n,.string x.goal.name,kv,ax x.clause,l]/\TrT L1 [ax x.goal.kind,ax x.goal.n,.string x.goal.name,kv] x.goal/\inI x.clause/\TrSl 6 TrF L2 l x.kids:=by
 constructor
 ·intro h;cases h with
  | nil f hn hc=>
   obtain ⟨kv,e,_⟩:=TrT.iff.1 f;simp only [gV,i0] at e;obtain ⟨rfl,rfl,rfl,rfl⟩:=e;exact ⟨_,[],_,_,(dc _).symm,rfl,f,hn,_,_,rfl,bf _,hc,.inl ⟨rfl,rfl⟩⟩
  | cons f hn hl hc i j h=>
   obtain ⟨kv,e,_⟩:=TrT.iff.1 f;simp only [gV,i0] at e;obtain ⟨rfl,rfl,rfl,rfl⟩:=e;exact ⟨_,_,_,_,rfl,rfl,f,hn,_,_,rfl,hl,hc,.inr ⟨_,_,_,_,rfl,rfl,i,j,h⟩⟩
 ·obtain ⟨g,n,kids⟩:=x;rintro ⟨L1,L2,kv,l,rfl,rfl,f,hn,a,cap,rfl,hl,hc,h⟩;rcases h with ⟨h,rfl⟩|⟨b,c,E,Ls,rfl,rfl,i,j,h⟩
  ·simp only [PF.kids] at h;subst h;rw [dc];exact TrF.nil f hn hc
  ·exact TrF.cons f hn hl hc i j h
theorem TrF.length {L:bz} {cs:hZ} {x:PF} (h:TrF L cs x):cs.length=6:=by
 obtain ⟨_,_,_,_,_,rfl,_⟩:=TrF.iff.1 h;rfl
theorem TrF.one {L:bz} {cs:hZ} {x:PF} (h:TrF L cs x):∀ u∈cs,u.oneCell'=true:=by
 obtain ⟨_,_,kv,i,_,rfl,g,_,a,cap,rfl,_⟩:=TrF.iff.1 h;have:=g.one kv (by simp);intro u f;simp at f;rcases f with rfl|rfl|rfl|rfl|rfl|rfl <;> first|rfl|exact this
theorem TrF.rd {S:ae} {L:bz} {cs:hZ} {x:PF} (h:TrF L cs x) (a:Ins S L):RdF S cs x:=by
 induction h with
 | nil f hn hc=>exact RdF.nil (f.rd a) hn hc
 | cons f hn hl hc l m h q=>
  refine RdF.cons (f.rd a.left) hn hl hc (a.right _ (bi ..)) (o:=0) fun i g=>?_;rw [dr];exact q i g (by omega) (Ho (fun p j=>a.right p (bk _ j)) (by omega))
mutual
def wF:PF->Nat
 | .mk g _ ks=>wT g+ks.length+wFL ks
def wFL:List PF->Nat
 | []=>0
 | t::ts=>wF t+wFL ts
end
theorem Hh:∀ {ts:List PF} {t:PF},t∈ts->wF t<=wFL ts
 | x::xs,t,h=>by
  simp only [wFL];rcases cw.1 h with rfl|h
  ·omega
  ·have:=Hh h;omega
theorem wg {a b c d e f:Value}:∀ (j:Nat) (v:Value),([a,b,c,d]:hZ)[j]?=some v->(#[a,b,c,d,e,f]:Array Value)[0+j]?=some v
 | 0,_,h|1,_,h|2,_,h|3,_,h=>h
 | j+4,_,h=>by simp at h
section
variable {H:Type} {enc:TypeId × Value->H} {W:World} {sp:Nat->Bool} {held:Bool}
end
end
end Go.Proofs.YtellfcpffcipcaaGreatDoor
