/- impl's reader: instructions that tell of slots. -/
import Derived.Test.YtjbcdmheajljpaaGreatZRdA
import Derived.Test.YtjbcdmheajljpaaGreatZRd14
namespace Go.Proofs.YtjbcdmheajljpaaGreat
open Go Go.RowKit
abbrev xb (rb sb mb lb ab fr:Nat) (esL:Array MapEntry) (ckL:Nat) (esA:Array MapEntry) (ckA:Nat) (es:Array MapEntry) (ck:Nat) (tv:Value) (tr:List Int):List Item:=[ei rb #[hV sb,.map (some lb),.map (some ab),ee (fr:Int)] av,.blk lb (.map esL ckL),.blk ab (.map esA ckA)]++dz sb mb es ck tv tr
structure RdM (S:ai) (s:RI) (esL esA es:Array MapEntry) (tr:List Int):Prop where
 sl:SlT S esL s.sl
 ar:SlT S esA s.ar
 st:KnownM S es s.st
 tr:tr.length+unb s.st<=1000000
def RdI (rb sb mb lb ab:Nat) (S:ai) (s:RI) (I:List Item):Prop:=∃ esL ckL esA ckA es ck tv tr,I=xb rb sb mb lb ab s.fr esL ckL esA ckA es ck tv tr/\RdM S s esL esA es tr
def vS (rb sb mb lb ab:Nat) (o:Option RI):Value->List Item->ai->Prop:=fun q I' S'=>match o with
 | none=>q=.bool false
 | some s'=>q=.bool true/\RdI rb sb mb lb ab S' s' I'
theorem Jx {r B C D G:Nat} {S:ai} {s:RI} {t u:T} {o:Option RI} {a:Array MapEntry} {j:Nat} {g:Array MapEntry} {l:Nat} {h:Array MapEntry} {m:Nat} {p:Value} {i:List Int} (J:o=unI s t u) (M:SlT S a s.sl) (q:SlT S g s.ar) (N:KnownM S h (uniV s.st t u).2) (O:i.length+unb (uniV s.st t u).2<=1000000) :
  vS r B C D G o (.bool (uniV s.st t u).1) (xb r B C D G s.fr a j g l h m p i) S:=by
 rw [J,unI];cases U:(uniV s.st t u).1 with
 | false=>rw [ae (by decide)];rfl
 | true=>rw [ag rfl];exact ⟨rfl,a,j,g,l,h,m,p,i,rfl,M,q,N,O⟩
def unS (w:World) (X:List Nat) (S:ai) (H:List Item) (sb mb:Nat) (es:Array MapEntry) (ck:Nat) (tv:Value) (tr:List Int) (st':bb) (w':World):Nat->Prop
 | 0=>Inv w X (H++dz sb mb es ck tv tr) S w'
 | _=>∃ es' ck' tv' tr',KnownM S es' st'/\tr'.length+unb st'<=1000000/\Inv w X (H++dz sb mb es' ck' tv' tr') S w'
theorem unS.any {w:World} {X:List Nat} {S:ai} {H:List Item} {l m:Nat} {a:Array MapEntry} {g:Nat} {i:Value} {tr:List Int} {j:bb} {w':World}:∀ {k:Nat},unS w X S H l m a g i tr j w' k->∃ a g i tr,Inv w X (H++dz l m a g i tr) S w'
 | 0,h=>⟨_,_,_,_,h⟩
 | _+1,⟨_,_,_,_,_,_,h⟩=>⟨_,_,_,_,h⟩
def un2S (w:World) (X:List Nat) (S:ai) (H:List Item) (sb mb:Nat) (es:Array MapEntry) (ck:Nat) (tv:Value) (tr:List Int) (st':bb) (w':World) (k:Nat):Prop:=unS w X S H sb mb es ck tv tr st' w' (k - 1)
theorem un2S.any {w:World} {X:List Nat} {S:ai} {H:List Item} {l m:Nat} {a:Array MapEntry} {g:Nat} {i:Value} {tr:List Int} {j:bb} {w':World} {k:Nat} (h:un2S w X S H l m a g i tr j w' k):∃ a g i tr,Inv w X (H++dz l m a g i tr) S w':=unS.any h
def mpS (w:World) (X:List Nat) (S:ai) (H:List Item) (m:Nat) (es:Array MapEntry) (ck:Nat) (R:List Item) (sl:Sl) (n:Int) (u:T) (w':World):Nat->Prop
 | 0=>Inv w X (H++.blk m (.map es ck)::R) S w'
 | _=>∃ es' ck',SlT S es' (upS sl n u)/\Inv w X (H++.blk m (.map es' ck')::R) S w'
theorem mpS.any {w:World} {X:List Nat} {S:ai} {H:List Item} {m:Nat} {a:Array MapEntry} {g:Nat} {R:List Item} {sl:Sl} {n:Int} {u:T} {w':World}:∀ {k:Nat},mpS w X S H m a g R sl n u w' k->∃ a g,Inv w X (H++.blk m (.map a g)::R) S w'
 | 0,h=>⟨_,_,h⟩
 | _+1,⟨_,_,_,h⟩=>⟨_,_,h⟩
def mp2S (w:World) (X:List Nat) (S:ai) (H:List Item) (m:Nat) (es:Array MapEntry) (ck:Nat) (R:List Item) (sl:Sl) (n:Int) (u:T) (w':World) (k:Nat):Prop:=mpS w X S H m es ck R sl n u w' (k - 1)
theorem mp2S.any {w:World} {X:List Nat} {S:ai} {H:List Item} {m:Nat} {a:Array MapEntry} {g:Nat} {R:List Item} {sl:Sl} {n:Int} {u:T} {w':World} {k:Nat} (h:mp2S w X S H m a g R sl n u w' k):∃ a g,Inv w X (H++.blk m (.map a g)::R) S w':=mpS.any h
theorem Oc {M C:Nat} {p r:Value} {o:Option (RI × List T)} {q:Value} {I':List Item} {S':ai} (h:VC M C p r o q I' S'):∃ (a:Nat) (g:Array MapEntry) (i:Nat) (m:Sl) (us:List T) (t:Option Addr) (B:Nat) (j:Bool),I'=[ei M #[p,.map (some C),r,ee (a:Int)] av,.blk C (.map g i)]/\q=.tuple #[.slice t us.length B,.bool j]/\SlT S' g m/\RdSl S' 4 (RdT S') (.slice t us.length B) us/\
  ((j=true/\∃ l,o=some (l,us)/\m=l.sl/\a=l.fr) ∨ (j=false/\o=none)):=by
 obtain ⟨a,g,i,e,h⟩:=h;cases o with
 | none=>
  obtain ⟨D,G,J⟩:=h;exact ⟨a,g,i,G,[],none,0,false,e,D,J,⟨none,0,rfl,aY _,aT _,.inl rfl⟩,.inr ⟨rfl,rfl⟩⟩
 | some d=>
  obtain ⟨l,us⟩:=d;obtain ⟨O,U,u,D,N⟩:=h;obtain ⟨t,B,rfl,_⟩:=id N;exact ⟨a,g,i,l.sl,us,t,B,true,e,D,U,N,.inl ⟨rfl,l,rfl,rfl,O⟩⟩
theorem SlT.look2 {S:ai} {g:Array MapEntry} {sl:Sl} (h:SlT S g sl) (n:Int):∃ (a:nA) (ok:Bool) (u:T),((∃ j,Instr.findNow (.int .i64) (ee n) g.toList 0=some (some (j,.agg (List.toArray a)))/\ok=true) ∨ (Instr.findNow (.int .i64) (ee n) g.toList 0=some none/\(Value.agg (List.toArray a))=.agg et/\ok=false))/\a.length=4/\(∀ x∈a,x.oneCell'=true)/\RdT S a u/\((ok=true/\sl n=some u) ∨ (ok=false/\sl n=none)):=by
 rw [qm g.toList 0 h.1];cases i:sl n with
 | none=>exact ⟨[.int .i64 0,.int .i64 0,.string ⟨#[]⟩,.slice none 0 0],false,.mk 0 0 ⟨#[]⟩ [],.inr ⟨by rw [h.no i],rfl,rfl⟩,rfl,by simp [Value.oneCell'],RdT.iff.2 ⟨_,rfl,by simp [inI,T.kind],by simp [inI,T.n],by rw [T.name];decide +kernel,⟨none,0,rfl,aY _,aT _,.inl rfl⟩⟩,.inr ⟨rfl,rfl⟩⟩
 | some t=>
  obtain ⟨j,cs,e,hR⟩:=h.get i;exact ⟨cs,true,t,.inl ⟨j,by rw [e],rfl⟩,hR.length,hR.one,hR,.inl ⟨rfl,rfl⟩⟩
theorem wn {S:ai} {nm:ByteArray} {us:List T} {a:Option Addr} {c:Nat} (h:RdSl S 4 (RdT S) (.slice a us.length c) us) (hn:nm.size<=maxLen):RdT S [ee 3,ee 0,.string nm,.slice a us.length c] (fnT nm us):=
 RdT.iff.2 ⟨_,rfl,by simp [inI,T.kind,fnT],by simp [inI,T.n,fnT],hn,h⟩
section
variable {S:ai}
attribute [local irreducible] Run CondV aI bg
theorem HW {w:World} {K:Value->World->Prop} {a:Int} {s:ByteArray} {p:Option Addr} {n m:Nat} (hk:K (.agg #[ee a,ee 0,.string s,.slice p n m]) w):Run Tryz.prog (cr ac [(0,ee a),(2,.string s),(3,.slice p n m)]) w K:=by
 refine Run.of (v:=.agg #[ee a,ee 0,.string s,.slice p n m]) (w':=w) ?_ hk;unfold cr;rw [Sem.run_bind,run_build w ac _ #[ee a,ee 0,.string s,.slice p n m] (by kernel_rfl),Result.andThen_ok];rfl
set_option maxHeartbeats 4000000 in
theorem N1 {N V C U B G:Nat} (hN:N<=1000000) {s:RI} (hs:okRd N s) {x:Ist} (hx:inI x.a/\x.name.size<=6) {xs:List Ist} {v:Value} (h:RdSl S 4 (cZ S) v xs) (h4:xs.length<=4) (h5:s.fr+xs.length+1<=N) (g1:∀ y∈xs,okI y) {Y:Array MapEntry} {a0:Nat} {r:Array MapEntry} {J:Nat} {es:Array MapEntry} {ck:Nat} {O:Value} {tr:List Int} (hm:RdM S s Y r es tr) :
  nB yE [hV V,.agg x.cells.toArray,v] (xb V C U B G s.fr Y a0 r J es ck O tr) S (vS V C U B G (insI s x xs)):=by
 intro w j;obtain ⟨X,hX⟩:∃ X,X=cg (xb V C U B G s.fr Y a0 r J es ck O tr):=⟨_,rfl⟩
 rw [<- hX] at j ⊢;refine nv.2 ?_;dsimp only[nv,eX];refine bH j fun b4 w' j=>?_;obtain ⟨B4,g3⟩:∃ B4,B4=Item.blk b4 (.cells #[ee x.op,ee x.a,ee x.b,.string x.name] ay):=⟨_,rfl⟩
 have e4:=congrArg some g3;have j:Inv w X [B4,ei V #[hV C,.map (some B),.map (some G),ee (s.fr:Int)] av,.blk B (.map Y a0),.blk G (.map r J),ei C #[.map (some U),O] aX,.blk U (.map es ck),cA O tr] S w':=by rw [g3];exact j.perm (bD (l₁:=[_]))
 obtain ⟨vv,ok,t,f2,e9,g9,e1,f3⟩:=hm.sl.look2 x.b;refine ⟨fun D x8 x7 rP ja lS oO rj pr oM lT mY oX w_=>Fx D 0 [oX=hV V,mY=hV V,lT=kh V 1,oM=.map (some B),pr=kh b4 2,rj=ee x.b,oO=.tuple #[.agg vv.toArray,.bool ok],lS=.tuple #[.agg vv.toArray,.bool ok],ja=.agg vv.toArray,rP=.bool ok,True,True,x8=.bool ok]/\∃ o:Nat,o<=2/\D 10=decide (1<=o)/\D 11=decide (2<=o)/\(alS w X S [B4,ei V #[hV C,.map (some B),.map (some G),ee (s.fr:Int)] av,.blk B (.map Y a0),.blk G (.map r J),ei C #[.map (some U),O] aX,.blk U (.map es ck),cA O tr] vv x7 w_ o),⟨Fx.nil _ _,⟨0,aT _,rfl,rfl,j.draw⟩⟩,⟨?_,?_,?_,?_,?_,?_,?_,?_,?_,?_,?_,?_,?_,trivial⟩,?_⟩;all_goals (intro D bp;intros;rename_i x8 x7 rP ja lS oO rj pr oM lT mY oX w_ Z;have g:=Z.1;obtain ⟨⟨cF,ci,cG,cD,bU,cH,cj,cR,dJ,dQ,cJ,dv,eG,_⟩,⟨o,l,i,p,m⟩⟩:=Z)
 ·exact ⟨g.set 0 rfl,⟨o,l,i,p,m⟩⟩
 ·obtain rfl:=cF ‹_›;refine bh ?_;exact ⟨g.set 1 rfl,⟨o,l,i,p,m⟩⟩
 ·obtain rfl:=ci ‹_›;refine ax eM ?_;exact ⟨g.set 2 rfl,⟨o,l,i,p,m⟩⟩
 ·obtain rfl:=cG ‹_›;have j:=m.any;refine aG j 1 dp rfl rfl ?_;exact ⟨g.set 3 rfl,⟨o,l,i,p,m⟩⟩
 ·refine ax dL ?_;exact ⟨g.set 4 rfl,⟨o,l,i,p,m⟩⟩
 ·obtain rfl:=bU ‹_›;have j:=m.any;refine aG j 0 au e4 rfl ?_;exact ⟨g.set 5 rfl,⟨o,l,i,p,m⟩⟩
 ·obtain rfl:=cD ‹_›;obtain rfl:=cH ‹_›;have j:=m.any;refine fA (c:=true) (ok:=ok) (v:=.agg vv.toArray) (j.its (.blk B (.map Y a0)) (by simp)) cX dS aQ f2 ?_;exact ⟨g.set 6 rfl,⟨o,l,i,p,m⟩⟩
 ·obtain rfl:=cj ‹_›;exact ⟨g.set 7 rfl,⟨o,l,i,p,m⟩⟩
 ·obtain rfl:=cR ‹_›;refine aA rfl ?_;exact ⟨g.set 8 rfl,⟨o,l,i,p,m⟩⟩
 ·obtain rfl:=cR ‹_›;refine aA rfl ?_;exact ⟨g.set 9 rfl,⟨o,l,i,p,m⟩⟩
 ·obtain rfl:o=0:=jv i bp;refine aE m aQ fun b w_ j=>?_;have m:alS w X S [B4,ei V #[hV C,.map (some B),.map (some G),ee (s.fr:Int)] av,.blk B (.map Y a0),.blk G (.map r J),ei C #[.map (some U),O] aX,.blk U (.map es ck),cA O tr] vv (hV b) w_ 1:=⟨b,rfl,j.perm (bD (l₁:=[_]))⟩
  exact ⟨g.set 10 (by first|assumption|trivial),⟨1,by decide,rfl,(by first|exact p|rfl),m⟩⟩
 ·have xg:=cJ ‹_›;obtain rfl:=dJ ‹_›;obtain rfl:o=1:=gg i ‹D 10=true› p bp;obtain ⟨b,rfl,j⟩:=m;refine aj j 0 rfl af (by simpa using e9) rfl (by simpa using g9) fun w_ j=>?_;have m:alS w X S [B4,ei V #[hV C,.map (some B),.map (some G),ee (s.fr:Int)] av,.blk B (.map Y a0),.blk G (.map r J),ei C #[.map (some U),O] aX,.blk U (.map es ck),cA O tr] vv (hV b) w_ 2:=⟨b,rfl,j⟩
  exact ⟨g.set 11 trivial,⟨2,by decide,(by first|exact i|rfl),rfl,m⟩⟩
 ·obtain rfl:=dQ ‹_›;exact ⟨g.set 12 rfl,⟨o,l,i,p,m⟩⟩
 obtain rfl:o=2:=jD l p ‹D 11=true›;have r4:D 12=true:=by assumption
 clear i p;obtain ⟨b7,rfl,j⟩:=m;obtain rfl:=eG r4;have j:Inv w X [ei b7 vv.toArray ac,B4,ei V #[hV C,.map (some B),.map (some G),ee (s.fr:Int)] av,.blk B (.map Y a0),.blk G (.map r J),ei C #[.map (some U),O] aX,.blk U (.map es ck),cA O tr] S w_:=j;have c3:∀ (L:List Item) (S2:ai) (w2:World),Inv w X L S2 w2->Ext w.heap.size X S S2->insI s x xs=none->∃ v I' S',Ending.returned (.bool false)=Ending.returned v/\Inv w X I' S' w2/\Ext w.heap.size X S S'/\vS V C U B G (insI s x xs) v I' S':=fun L S2 w2 h1 h2 h3=>⟨_,L,S2,rfl,h1,h2,by rw [h3];rfl⟩
 refine ⟨fun w'=>∃ I' s',insI s x xs=some s'/\RdI V C U B G S s' I'/\Inv w X I' S w',?_,?_⟩
 rotate_left
 intro _ _ _ _ _ _ _ _ _ _ _ _ _ _ _ _ _ _ _ _ _ _ _ _ _ _ _ _ _ _ _ _ _ _ _ _ _ _ _ _ _ _ _ _ _ _ _ _ _ _ _ _ _ _ _ _ _ _ _ _ _ _ _ _ _ _ _ _ _ _ _ _ _ _ _ _ _ _ _ _ _ _ _ _ _ _ _ _ _ _ _ _ _ _ _ _ _ _ _ _ _ _ _ _ _ _ _ _ _ _ _ _ _ _ _ _ _ _ _ _ _ _ _ _ _ _ _ _ _ _ _ _ _ _ _ _ _ _ _ _ _ _ _ _ _ _ _ w';rintro ⟨I',s',e,hR,j⟩;exact ⟨_,I',S,rfl,j,Ext.refl _ _ _,by rw [e];exact ⟨rfl,hR⟩⟩;refine ah j 1 e4 ew au rfl ?_;refine a9 ?_;refine aJ (fun h1=>?_) (fun h1=>?_)
 ·obtain ⟨uu,c2,u,c1,e5,f0,e6,f4⟩:=hm.sl.look2 x.a;refine ⟨fun D ux x9 yS uC uQ qg uh oN uq xG CJ zb w_=>Fx D 0 [zb=hV V,CJ=hV V,xG=kh V 1,uq=.map (some B),oN=kh b4 1,uh=ee x.a,qg=.tuple #[.agg uu.toArray,.bool c2],uQ=.tuple #[.agg uu.toArray,.bool c2],uC=.agg uu.toArray,yS=.bool c2,True,True,ux=.bool c2]/\∃ o:Nat,o<=2/\D 10=decide (1<=o)/\D 11=decide (2<=o)/\(alS w X S [ei b7 vv.toArray ac,B4,ei V #[hV C,.map (some B),.map (some G),ee (s.fr:Int)] av,.blk B (.map Y a0),.blk G (.map r J),ei C #[.map (some U),O] aX,.blk U (.map es ck),cA O tr] uu x9 w_ o),⟨Fx.nil _ _,⟨0,aT _,rfl,rfl,j.draw⟩⟩,⟨?_,?_,?_,?_,?_,?_,?_,?_,?_,?_,?_,?_,?_,trivial⟩,?_⟩;all_goals (intro D bp;intros;rename_i ux x9 yS uC uQ qg uh oN uq xG CJ zb w_ Z;have g:=Z.1;obtain ⟨⟨cF,ci,cG,cD,bU,cH,cj,cR,dJ,dQ,cJ,dv,eG,_⟩,⟨o,l,i,p,m⟩⟩:=Z)
  ·exact ⟨g.set 0 rfl,⟨o,l,i,p,m⟩⟩
  ·obtain rfl:=cF ‹_›;refine bh ?_;exact ⟨g.set 1 rfl,⟨o,l,i,p,m⟩⟩
  ·obtain rfl:=ci ‹_›;refine ax eM ?_;exact ⟨g.set 2 rfl,⟨o,l,i,p,m⟩⟩
  ·obtain rfl:=cG ‹_›;have j:=m.any;refine aG j 2 dp rfl rfl ?_;exact ⟨g.set 3 rfl,⟨o,l,i,p,m⟩⟩
  ·refine ax bZ ?_;exact ⟨g.set 4 rfl,⟨o,l,i,p,m⟩⟩
  ·obtain rfl:=bU ‹_›;have j:=m.any;refine aG j 1 au e4 rfl ?_;exact ⟨g.set 5 rfl,⟨o,l,i,p,m⟩⟩
  ·obtain rfl:=cD ‹_›;obtain rfl:=cH ‹_›;have j:=m.any;refine fA (c:=true) (ok:=c2) (v:=.agg uu.toArray) (j.its (.blk B (.map Y a0)) (by simp)) cX dS aQ c1 ?_;exact ⟨g.set 6 rfl,⟨o,l,i,p,m⟩⟩
  ·obtain rfl:=cj ‹_›;exact ⟨g.set 7 rfl,⟨o,l,i,p,m⟩⟩
  ·obtain rfl:=cR ‹_›;refine aA rfl ?_;exact ⟨g.set 8 rfl,⟨o,l,i,p,m⟩⟩
  ·obtain rfl:=cR ‹_›;refine aA rfl ?_;exact ⟨g.set 9 rfl,⟨o,l,i,p,m⟩⟩
  ·obtain rfl:o=0:=jv i bp;refine aE m aQ fun b w_ j=>?_;have m:alS w X S [ei b7 vv.toArray ac,B4,ei V #[hV C,.map (some B),.map (some G),ee (s.fr:Int)] av,.blk B (.map Y a0),.blk G (.map r J),ei C #[.map (some U),O] aX,.blk U (.map es ck),cA O tr] uu (hV b) w_ 1:=⟨b,rfl,j.perm (bD (l₁:=[_]))⟩
   exact ⟨g.set 10 (by first|assumption|trivial),⟨1,by decide,rfl,(by first|exact p|rfl),m⟩⟩
  ·have xg:=cJ ‹_›;obtain rfl:=dJ ‹_›;obtain rfl:o=1:=gg i ‹D 10=true› p bp;obtain ⟨b,rfl,j⟩:=m;refine aj j 0 rfl af (by simpa using e5) rfl (by simpa using f0) fun w_ j=>?_;have m:alS w X S [ei b7 vv.toArray ac,B4,ei V #[hV C,.map (some B),.map (some G),ee (s.fr:Int)] av,.blk B (.map Y a0),.blk G (.map r J),ei C #[.map (some U),O] aX,.blk U (.map es ck),cA O tr] uu (hV b) w_ 2:=⟨b,rfl,j⟩
   exact ⟨g.set 11 trivial,⟨2,by decide,(by first|exact i|rfl),rfl,m⟩⟩
  ·obtain rfl:=dQ ‹_›;exact ⟨g.set 12 rfl,⟨o,l,i,p,m⟩⟩
  obtain rfl:o=2:=jD l p ‹D 11=true›;have r4:D 12=true:=by assumption
  clear i p;obtain ⟨b9,rfl,j⟩:=m;obtain rfl:=eG r4;rcases f3 with ⟨rfl,b3⟩|⟨rfl,b3⟩
  ·rcases f4 with ⟨rfl,d0⟩|⟨rfl,d0⟩
   ·have a8:insI s x xs=unI s t u:=by
     rw [insI,ag h1,b3];show (s.sl x.a).bind _=_;rw [d0];rfl
    have hj:okJ N (.one t u):=⟨⟨cP hs.le t (hs.sl _ _ b3).1,(hs.sl _ _ b3).2⟩,⟨cP hs.le u (hs.sl _ _ d0).1,(hs.sl _ _ d0).2⟩⟩
    have e8:=oH hN hs.good hj (lN hs.good hj);have j:Inv w X ([ei b9 uu.toArray ac,ei b7 vv.toArray ac,B4,ei V #[hV C,.map (some B),.map (some G),ee (s.fr:Int)] av,.blk B (.map Y a0),.blk G (.map r J)]++dz C U es ck O tr) S w_:=j;refine ⟨fun D x6 rp lM rB pN pq oV nL ov ny m8 kI mx nH w_=>Fx D 0 [nH=.bool true,mx=.bool true,kI=.bool true,m8=.bool true,ny=.bool true,ov=hV V,nL=hV V,oV=hV V,pq=hV C,pN=.agg vv.toArray,rB=.agg uu.toArray,True,rp=.bool (uniV s.st t u).1,x6=.bool (uniV s.st t u).1]/\∃ o:Nat,o<=1/\D 11=decide (1<=o)/\(unS w X S [ei b9 uu.toArray ac,ei b7 vv.toArray ac,B4,ei V #[hV C,.map (some B),.map (some G),ee (s.fr:Int)] av,.blk B (.map Y a0),.blk G (.map r J)] C U es ck O tr (uniV s.st t u).2 w_ o/\(D 11=true->lM=.bool (uniV s.st t u).1)),⟨Fx.nil _ _,⟨0,aT _,rfl,⟨j.draw,aU⟩⟩⟩,⟨?_,?_,?_,?_,?_,?_,?_,?_,?_,?_,?_,?_,?_,?_,trivial⟩,?_⟩;all_goals (intro D bp;intros;rename_i x6 rp lM rB pN pq oV nL ov ny m8 kI mx nH w_ Z;have g:=Z.1;obtain ⟨⟨cF,ci,cG,cD,bU,cH,cj,cR,dJ,dQ,cJ,dv,eG,gL,_⟩,⟨o,l,i,m⟩⟩:=Z)
    ·exact ⟨g.set 0 rfl,⟨o,l,i,m⟩⟩
    ·obtain rfl:=cF ‹_›;exact ⟨g.set 1 rfl,⟨o,l,i,m⟩⟩
    ·obtain rfl:=ci ‹_›;refine rpG ?_;exact ⟨g.set 2 rfl,⟨o,l,i,m⟩⟩
    ·obtain rfl:=ci ‹_›;obtain rfl:=cG ‹_›;refine rpG ?_;exact ⟨g.set 3 rfl,⟨o,l,i,m⟩⟩
    ·obtain rfl:=cD ‹_›;exact ⟨g.set 4 rfl,⟨o,l,i,m⟩⟩
    ·obtain rfl:=bU ‹_›;refine rpG ?_;exact ⟨g.set 5 rfl,⟨o,l,i,m⟩⟩
    ·obtain rfl:=cH ‹_›;obtain rfl:=bU ‹_›;refine rpG ?_;refine bh ?_;exact ⟨g.set 6 rfl,⟨o,l,i,m⟩⟩
    ·obtain rfl:=cj ‹_›;obtain rfl:=bU ‹_›;refine rpG ?_;refine ax kZ ?_;exact ⟨g.set 7 rfl,⟨o,l,i,m⟩⟩
    ·obtain rfl:=cR ‹_›;obtain rfl:=bU ‹_›;refine rpG ?_;obtain ⟨b0,b1,d9,e0,j⟩:=m.1.any;refine aG j 3 jB rfl rfl ?_;exact ⟨g.set 8 rfl,⟨o,l,i,m⟩⟩
    ·obtain rfl:=bU ‹_›;refine rpG ?_;obtain ⟨b0,b1,d9,e0,j⟩:=m.1.any;refine aq j 1 af rfl (by simpa using e9) ?_;exact ⟨g.set 9 rfl,⟨o,l,i,m⟩⟩
    ·obtain rfl:=bU ‹_›;refine rpG ?_;obtain ⟨b0,b1,d9,e0,j⟩:=m.1.any;refine aq j 0 af rfl (by simpa using e5) ?_;exact ⟨g.set 10 rfl,⟨o,l,i,m⟩⟩
    ·obtain rfl:=dJ ‹_›;obtain rfl:=dQ ‹_›;obtain rfl:=cJ ‹_›;obtain rfl:=bU ‹_›;obtain rfl:o=0:=jv i bp;refine rpG ?_;refine Run.callE i6 iY m.1 (e8 S _ _ C U ck es O tr e1 e6 hm.st hm.tr) fun v' I' S' w_=>?_;rintro ⟨eS,rfl,d3,d4,d6,d7,rfl,c5,b5,g2⟩ _ j;rw [eS] at j;have b2:unS w X S [ei b9 uu.toArray ac,ei b7 vv.toArray ac,B4,ei V #[hV C,.map (some B),.map (some G),ee (s.fr:Int)] av,.blk B (.map Y a0),.blk G (.map r J)] C U es ck O tr (uniV s.st t u).2 w_ 1:=⟨d3,d4,d6,d7,c5,b5,j⟩
     exact ⟨g.set 11 (by first|assumption|trivial),⟨1,by decide,rfl,⟨b2,fun _=>rfl⟩⟩⟩
    ·obtain rfl:=bU ‹_›;have SR:=dv ‹_›;obtain rfl:=m.2 ‹D 11=true›;refine rpG ?_;exact ⟨g.set 12 rfl,⟨o,l,i,m⟩⟩
    ·obtain rfl:=eG ‹_›;exact ⟨g.set 13 rfl,⟨o,l,i,m⟩⟩
    obtain rfl:o=1:=jD l i ‹D 11=true›;have X6:D 13=true:=by assumption
    clear i;obtain rfl:=gL X6;obtain ⟨d3,d4,d6,d7,c5,b5,j⟩:=m.1;exact ⟨_,_,S,rfl,j.pick [false,false,false,true,true,true,true,true,true],Ext.refl _ _ _,Jx a8 hm.sl hm.ar c5 b5⟩
   ·have a8:insI s x xs=none:=by
     rw [insI,ag h1,b3];show (s.sl x.a).bind _=_;rw [d0];rfl
    refine ⟨fun D x6 rp lM rB pN pq oV nL ov ny m8 kI mx nH w_=>Fx D 0 [nH=.bool true,mx=.bool true,kI=.bool false,m8=.bool false,ny=.bool false,ov=undef,nL=undef,oV=undef,pq=undef,pN=undef,rB=undef,lM=undef,rp=.bool false,x6=.bool false]/\Inv w X [ei b9 uu.toArray ac,ei b7 vv.toArray ac,B4,ei V #[hV C,.map (some B),.map (some G),ee (s.fr:Int)] av,.blk B (.map Y a0),.blk G (.map r J),ei C #[.map (some U),O] aX,.blk U (.map es ck),cA O tr] S w_,⟨Fx.nil _ _,j.draw⟩,⟨?_,?_,?_,?_,?_,?_,?_,?_,?_,?_,?_,?_,?_,?_,trivial⟩,?_⟩;all_goals (intro D bp;intros;rename_i x6 rp lM rB pN pq oV nL ov ny m8 kI mx nH w_ Z;have g:=Z.1;obtain ⟨⟨cF,ci,cG,cD,bU,cH,cj,cR,dJ,dQ,cJ,dv,eG,gL,_⟩,j⟩:=Z)
    ·exact ⟨g.set 0 rfl,j⟩
    ·obtain rfl:=cF ‹_›;exact ⟨g.set 1 rfl,j⟩
    ·obtain rfl:=ci ‹_›;refine rpG ?_;exact ⟨g.set 2 rfl,j⟩
    ·obtain rfl:=ci ‹_›;obtain rfl:=cG ‹_›;refine rpG ?_;exact ⟨g.set 3 rfl,j⟩
    ·obtain rfl:=cD ‹_›;exact ⟨g.set 4 rfl,j⟩
    ·obtain rfl:=bU ‹_›;refine rpG ?_;exact ⟨g.set 5 rfl,j⟩
    ·obtain rfl:=cH ‹_›;obtain rfl:=bU ‹_›;refine rpG ?_;exact ⟨g.set 6 rfl,j⟩
    ·obtain rfl:=cj ‹_›;obtain rfl:=bU ‹_›;refine rpG ?_;exact ⟨g.set 7 rfl,j⟩
    ·obtain rfl:=cR ‹_›;obtain rfl:=bU ‹_›;refine rpG ?_;exact ⟨g.set 8 rfl,j⟩
    ·obtain rfl:=bU ‹_›;refine rpG ?_;exact ⟨g.set 9 rfl,j⟩
    ·obtain rfl:=bU ‹_›;refine rpG ?_;exact ⟨g.set 10 rfl,j⟩
    ·obtain rfl:=dJ ‹_›;obtain rfl:=dQ ‹_›;obtain rfl:=cJ ‹_›;obtain rfl:=bU ‹_›;refine rpG ?_;exact ⟨g.set 11 rfl,j⟩
    ·obtain rfl:=bU ‹_›;obtain rfl:=dv ‹_›;refine rpG ?_;exact ⟨g.set 12 rfl,j⟩
    ·obtain rfl:=eG ‹_›;exact ⟨g.set 13 rfl,j⟩
    obtain ⟨rfl,rfl,rfl,rfl,rfl,rfl,rfl,rfl,rfl,rfl,rfl,rfl,rfl,rfl,_⟩:=g.all;clear g cF ci cG cD bU cH cj cR dJ dQ cJ dv eG gL;exact c3 _ _ _ j (Ext.refl _ _ _) a8
  ·have a8:insI s x xs=none:=by
    rw [insI,ag h1,b3];rfl
   refine ⟨fun D x6 rp lM rB pN pq oV nL ov ny m8 kI mx nH w_=>Fx D 0 [nH=.bool false,mx=.bool false,kI=undef,m8=.bool false,ny=.bool false,ov=undef,nL=undef,oV=undef,pq=undef,pN=undef,rB=undef,lM=undef,rp=.bool false,x6=.bool false]/\Inv w X [ei b9 uu.toArray ac,ei b7 vv.toArray ac,B4,ei V #[hV C,.map (some B),.map (some G),ee (s.fr:Int)] av,.blk B (.map Y a0),.blk G (.map r J),ei C #[.map (some U),O] aX,.blk U (.map es ck),cA O tr] S w_,⟨Fx.nil _ _,j.draw⟩,⟨?_,?_,?_,?_,?_,?_,?_,?_,?_,?_,?_,?_,?_,?_,trivial⟩,?_⟩;all_goals (intro D bp;intros;rename_i x6 rp lM rB pN pq oV nL ov ny m8 kI mx nH w_ Z;have g:=Z.1;obtain ⟨⟨cF,ci,cG,cD,bU,cH,cj,cR,dJ,dQ,cJ,dv,eG,gL,_⟩,j⟩:=Z)
   ·exact ⟨g.set 0 rfl,j⟩
   ·obtain rfl:=cF ‹_›;exact ⟨g.set 1 rfl,j⟩
   ·obtain rfl:=ci ‹_›;refine rpG ?_;exact ⟨g.set 2 rfl,j⟩
   ·obtain rfl:=ci ‹_›;obtain rfl:=cG ‹_›;refine rpG ?_;exact ⟨g.set 3 rfl,j⟩
   ·obtain rfl:=cD ‹_›;exact ⟨g.set 4 rfl,j⟩
   ·obtain rfl:=bU ‹_›;refine rpG ?_;exact ⟨g.set 5 rfl,j⟩
   ·obtain rfl:=cH ‹_›;obtain rfl:=bU ‹_›;refine rpG ?_;exact ⟨g.set 6 rfl,j⟩
   ·obtain rfl:=cj ‹_›;obtain rfl:=bU ‹_›;refine rpG ?_;exact ⟨g.set 7 rfl,j⟩
   ·obtain rfl:=cR ‹_›;obtain rfl:=bU ‹_›;refine rpG ?_;exact ⟨g.set 8 rfl,j⟩
   ·obtain rfl:=bU ‹_›;refine rpG ?_;exact ⟨g.set 9 rfl,j⟩
   ·obtain rfl:=bU ‹_›;refine rpG ?_;exact ⟨g.set 10 rfl,j⟩
   ·obtain rfl:=dJ ‹_›;obtain rfl:=dQ ‹_›;obtain rfl:=cJ ‹_›;obtain rfl:=bU ‹_›;refine rpG ?_;exact ⟨g.set 11 rfl,j⟩
   ·obtain rfl:=bU ‹_›;obtain rfl:=dv ‹_›;refine rpG ?_;exact ⟨g.set 12 rfl,j⟩
   ·obtain rfl:=eG ‹_›;exact ⟨g.set 13 rfl,j⟩
   obtain ⟨rfl,rfl,rfl,rfl,rfl,rfl,rfl,rfl,rfl,rfl,rfl,rfl,rfl,rfl,_⟩:=g.all;clear g cF ci cG cD bU cH cj cR dJ dQ cJ dv eG gL;exact c3 _ _ _ j (Ext.refl _ _ _) a8
 refine a9 ?_;refine aJ (fun h2=>?_) (fun h2=>?_)
 ·rcases f3 with ⟨rfl,b3⟩|⟨rfl,b3⟩
  ·have a8:insI s x xs=unI s t (eH x.a):=by
    rw [insI,ae h1,ag h2,b3];rfl
   have hj:okJ N (.one t (eH x.a)):=⟨⟨cP hs.le t (hs.sl _ _ b3).1,(hs.sl _ _ b3).2⟩,g8 N x.a⟩
   have e8:=oH hN hs.good hj (lN hs.good hj);have j:Inv w X ([ei b7 vv.toArray ac,B4,ei V #[hV C,.map (some B),.map (some G),ee (s.fr:Int)] av,.blk B (.map Y a0),.blk G (.map r J)]++dz C U es ck O tr) S _:=j;refine ⟨fun D x6 OB NO CW Cf zh yD uL tq sT qU tw pW w_=>Fx D 0 [pW=.bool true,tw=.bool true,qU=hV V,sT=hV V,tq=hV V,uL=hV C,yD=.agg vv.toArray,zh=kh b4 1,Cf=ee x.a,True,True,OB=.bool (uniV s.st t (eH x.a)).1,x6=.bool (uniV s.st t (eH x.a)).1]/\∃ o:Nat,o<=2/\D 9=decide (1<=o)/\D 10=decide (2<=o)/\(un2S w X S [ei b7 vv.toArray ac,B4,ei V #[hV C,.map (some B),.map (some G),ee (s.fr:Int)] av,.blk B (.map Y a0),.blk G (.map r J)] C U es ck O tr (uniV s.st t (eH x.a)).2 w_ o/\(D 9=true->CW=.agg #[ee 2,ee x.a,.string ⟨#[]⟩,nx])/\(D 10=true->NO=.bool (uniV s.st t (eH x.a)).1)),⟨Fx.nil _ _,⟨0,aT _,rfl,rfl,⟨j.draw,aU,aU⟩⟩⟩,⟨?_,?_,?_,?_,?_,?_,?_,?_,?_,?_,?_,?_,?_,trivial⟩,?_⟩;all_goals (intro D bp;intros;rename_i x6 OB NO CW Cf zh yD uL tq sT qU tw pW w_ Z;have g:=Z.1;obtain ⟨⟨cF,ci,cG,cD,bU,cH,cj,cR,dJ,dQ,cJ,dv,eG,_⟩,⟨o,l,i,p,m⟩⟩:=Z)
   ·exact ⟨g.set 0 rfl,⟨o,l,i,p,m⟩⟩
   ·obtain rfl:=cF ‹_›;exact ⟨g.set 1 rfl,⟨o,l,i,p,m⟩⟩
   ·obtain rfl:=ci ‹_›;refine rpG ?_;exact ⟨g.set 2 rfl,⟨o,l,i,p,m⟩⟩
   ·obtain rfl:=cG ‹_›;obtain rfl:=ci ‹_›;refine rpG ?_;refine bh ?_;exact ⟨g.set 3 rfl,⟨o,l,i,p,m⟩⟩
   ·obtain rfl:=cD ‹_›;obtain rfl:=ci ‹_›;refine rpG ?_;refine ax kZ ?_;exact ⟨g.set 4 rfl,⟨o,l,i,p,m⟩⟩
   ·obtain rfl:=bU ‹_›;obtain rfl:=ci ‹_›;refine rpG ?_;obtain ⟨b0,b1,d9,e0,j⟩:=m.1.any;refine aG j 2 jB rfl rfl ?_;exact ⟨g.set 5 rfl,⟨o,l,i,p,m⟩⟩
   ·obtain rfl:=ci ‹_›;refine rpG ?_;obtain ⟨b0,b1,d9,e0,j⟩:=m.1.any;refine aq j 0 af rfl (by simpa using e9) ?_;exact ⟨g.set 6 rfl,⟨o,l,i,p,m⟩⟩
   ·obtain rfl:=ci ‹_›;refine rpG ?_;refine ax bZ ?_;exact ⟨g.set 7 rfl,⟨o,l,i,p,m⟩⟩
   ·obtain rfl:=cR ‹_›;obtain rfl:=ci ‹_›;refine rpG ?_;obtain ⟨b0,b1,d9,e0,j⟩:=m.1.any;refine aG j 1 au e4 rfl ?_;exact ⟨g.set 8 rfl,⟨o,l,i,p,m⟩⟩
   ·obtain rfl:=dJ ‹_›;obtain rfl:=ci ‹_›;obtain rfl:o=0:=jv i bp;refine rpG ?_;have j:Inv w X ([ei b7 vv.toArray ac,B4,ei V #[hV C,.map (some B),.map (some G),ee (s.fr:Int)] av,.blk B (.map Y a0),.blk G (.map r J)]++dz C U es ck O tr) S w_:=m.1;refine Run.callPure sL tC j (qA _ S) fun w_ j=>?_;have b2:un2S w X S [ei b7 vv.toArray ac,B4,ei V #[hV C,.map (some B),.map (some G),ee (s.fr:Int)] av,.blk B (.map Y a0),.blk G (.map r J)] C U es ck O tr (uniV s.st t (eH x.a)).2 w_ 1:=j;exact ⟨g.set 9 (by first|assumption|trivial),⟨1,by decide,rfl,(by first|exact p|rfl),⟨b2,fun _=>rfl,m.2.2⟩⟩⟩
   ·obtain rfl:=cH ‹_›;obtain rfl:=cj ‹_›;have Ds:=dQ ‹_›;obtain rfl:=ci ‹_›;obtain rfl:o=1:=gg i ‹D 9=true› p bp;obtain rfl:=m.2.1 ‹D 9=true›;refine rpG ?_;have j:Inv w X ([ei b7 vv.toArray ac,B4,ei V #[hV C,.map (some B),.map (some G),ee (s.fr:Int)] av,.blk B (.map Y a0),.blk G (.map r J)]++dz C U es ck O tr) S w_:=m.1;refine Run.callE i6 iY j (e8 S _ _ C U ck es O tr e1 (qn S x.a hx.1) hm.st hm.tr) fun v' I' S' w_=>?_;rintro ⟨eS,rfl,d3,d4,d6,d7,rfl,c5,b5,g2⟩ _ j;rw [eS] at j;have b2:un2S w X S [ei b7 vv.toArray ac,B4,ei V #[hV C,.map (some B),.map (some G),ee (s.fr:Int)] av,.blk B (.map Y a0),.blk G (.map r J)] C U es ck O tr (uniV s.st t (eH x.a)).2 w_ 2:=⟨d3,d4,d6,d7,c5,b5,j⟩
    exact ⟨g.set 10 (by first|assumption|trivial),⟨2,by decide,(by first|exact i|rfl),rfl,⟨b2,m.2.1,fun _=>rfl⟩⟩⟩
   ·obtain rfl:=ci ‹_›;have xg:=cJ ‹_›;obtain rfl:=m.2.2 ‹D 10=true›;refine rpG ?_;exact ⟨g.set 11 rfl,⟨o,l,i,p,m⟩⟩
   ·obtain rfl:=dv ‹_›;exact ⟨g.set 12 rfl,⟨o,l,i,p,m⟩⟩
   obtain rfl:o=2:=jD l p ‹D 10=true›;have r4:D 12=true:=by assumption
   clear i p;obtain rfl:=eG r4;obtain ⟨d3,d4,d6,d7,c5,b5,j⟩:=m.1;exact ⟨_,_,S,rfl,j.pick [false,false,true,true,true,true,true,true],Ext.refl _ _ _,Jx a8 hm.sl hm.ar c5 b5⟩
  ·have a8:insI s x xs=none:=by
    rw [insI,ae h1,ag h2,b3];rfl
   refine ⟨fun D x6 OB NO CW Cf zh yD uL tq sT qU tw pW w_=>Fx D 0 [pW=.bool false,tw=.bool false,qU=undef,sT=undef,tq=undef,uL=undef,yD=undef,zh=undef,Cf=undef,CW=undef,NO=undef,OB=.bool false,x6=.bool false]/\Inv w X [ei b7 vv.toArray ac,B4,ei V #[hV C,.map (some B),.map (some G),ee (s.fr:Int)] av,.blk B (.map Y a0),.blk G (.map r J),ei C #[.map (some U),O] aX,.blk U (.map es ck),cA O tr] S w_,⟨Fx.nil _ _,j.draw⟩,⟨?_,?_,?_,?_,?_,?_,?_,?_,?_,?_,?_,?_,?_,trivial⟩,?_⟩;all_goals (intro D bp;intros;rename_i x6 OB NO CW Cf zh yD uL tq sT qU tw pW w_ Z;have g:=Z.1;obtain ⟨⟨cF,ci,cG,cD,bU,cH,cj,cR,dJ,dQ,cJ,dv,eG,_⟩,j⟩:=Z)
   ·exact ⟨g.set 0 rfl,j⟩
   ·obtain rfl:=cF ‹_›;exact ⟨g.set 1 rfl,j⟩
   ·obtain rfl:=ci ‹_›;refine rpG ?_;exact ⟨g.set 2 rfl,j⟩
   ·obtain rfl:=cG ‹_›;obtain rfl:=ci ‹_›;refine rpG ?_;exact ⟨g.set 3 rfl,j⟩
   ·obtain rfl:=cD ‹_›;obtain rfl:=ci ‹_›;refine rpG ?_;exact ⟨g.set 4 rfl,j⟩
   ·obtain rfl:=bU ‹_›;obtain rfl:=ci ‹_›;refine rpG ?_;exact ⟨g.set 5 rfl,j⟩
   ·obtain rfl:=ci ‹_›;refine rpG ?_;exact ⟨g.set 6 rfl,j⟩
   ·obtain rfl:=ci ‹_›;refine rpG ?_;exact ⟨g.set 7 rfl,j⟩
   ·obtain rfl:=cR ‹_›;obtain rfl:=ci ‹_›;refine rpG ?_;exact ⟨g.set 8 rfl,j⟩
   ·obtain rfl:=dJ ‹_›;obtain rfl:=ci ‹_›;refine rpG ?_;exact ⟨g.set 9 rfl,j⟩
   ·obtain rfl:=cH ‹_›;obtain rfl:=cj ‹_›;obtain rfl:=dQ ‹_›;obtain rfl:=ci ‹_›;refine rpG ?_;exact ⟨g.set 10 rfl,j⟩
   ·obtain rfl:=ci ‹_›;obtain rfl:=cJ ‹_›;refine rpG ?_;exact ⟨g.set 11 rfl,j⟩
   ·obtain rfl:=dv ‹_›;exact ⟨g.set 12 rfl,j⟩
   obtain ⟨rfl,rfl,rfl,rfl,rfl,rfl,rfl,rfl,rfl,rfl,rfl,rfl,rfl,_⟩:=g.all;clear g cF ci cG cD bU cH cj cR dJ dQ cJ dv eG;exact c3 _ _ _ j (Ext.refl _ _ _) a8
 refine a9 ?_;refine aJ (fun h3=>?_) (fun h3=>?_)
 ·skip
  have j:Inv w X ([ei b7 vv.toArray ac,B4,.blk G (.map r J),ei C #[.map (some U),O] aX,.blk U (.map es ck),cA O tr]++[ei V #[hV C,.map (some B),.map (some G),ee (s.fr:Int)] av,.blk B (.map Y a0)]) S _:=j.perm ((bD (l₁:=[_,_,_,_]) (l₂:=[_,_])).append_left [_,_]);refine Run.callE kr jS j (xx h hm.sl (by omega) g1) fun q I' S2 w'=>?_;rintro hD c4 j;obtain ⟨d2,b6,b8,f6,us,ua,uc,h0,rfl,rfl,e7,f7,f8⟩:=Oc hD;have j:Inv w X [ei b7 vv.toArray ac,B4,ei V #[hV C,.map (some B),.map (some G),ee (d2:Int)] av,.blk B (.map b6 b8),.blk G (.map r J),ei C #[.map (some U),O] aX,.blk U (.map es ck),cA O tr] S2 w':=j.perm ((bD (l₁:=[_,_]) (l₂:=[_,_,_,_])).append_left [_,_]);refine aA rfl ?_;refine aA rfl ?_;have e1:=e1.mono c4.1;rcases f3 with ⟨rfl,b3⟩|⟨rfl,b3⟩
  ·rcases f8 with ⟨rfl,s1,d1,rfl,rfl⟩|⟨rfl,d1⟩
   ·have a8:insI s x xs=unI s1 t (fnT x.name us):=by
     rw [insI,ae h1,ae h2,ag h3,b3];show (im s xs).bind _=_;rw [d1];rfl
    obtain ⟨a1,a2,a3,a4,a5,a6,a7⟩:=mo xs hs (by omega) d1;have hf:=gT (M:=N) (ks:=us) hx.2 (by omega) fun y hy=>⟨cP a1.le y (a7 y hy).1,(a7 y hy).2⟩
    have hj:okJ N (.one t (fnT x.name us)):=⟨⟨cP hs.le t (hs.sl _ _ b3).1,(hs.sl _ _ b3).2⟩,hf⟩
    have e8:=oH hN a1.good hj (lN a1.good hj);have g0:=wn (nm:=x.name) f7 (by simp only [maxLen];omega);have g5:KnownM S2 es s1.st:=by rw [a4];exact hm.st.up c4.1
    have g6:tr.length+unb s1.st<=1000000:=by rw [a4];exact hm.tr
    have g7:SlT S2 r s1.ar:=by rw [a5];exact hm.ar.up c4.1
    have j:Inv w X ([ei b7 vv.toArray ac,B4,ei V #[hV C,.map (some B),.map (some G),ee (s1.fr:Int)] av,.blk B (.map b6 b8),.blk G (.map r J)]++dz C U es ck O tr) S2 _:=j;refine ⟨fun D x6 Ir Ij Fo DH DK Eh GH DL G1 NY Ly RQ Rv Rd OD L4 w_=>Fx D 0 [L4=.bool true,OD=.bool true,Rd=.bool true,Rv=.bool true,RQ=.bool true,Ly=hV V,NY=hV V,G1=hV V,DL=hV C,GH=.agg vv.toArray,Eh=kh b4 3,DK=.string x.name,DH=.slice ua us.length uc,Fo=.agg #[ee 3,ee 0,.string x.name,.slice ua us.length uc],True,Ir=.bool (uniV s1.st t (fnT x.name us)).1,x6=.bool (uniV s1.st t (fnT x.name us)).1]/\∃ o:Nat,o<=1/\D 14=decide (1<=o)/\(unS w X S2 [ei b7 vv.toArray ac,B4,ei V #[hV C,.map (some B),.map (some G),ee (s1.fr:Int)] av,.blk B (.map b6 b8),.blk G (.map r J)] C U es ck O tr (uniV s1.st t (fnT x.name us)).2 w_ o/\(D 14=true->Ij=.bool (uniV s1.st t (fnT x.name us)).1)),⟨Fx.nil _ _,⟨0,aT _,rfl,⟨j.draw,aU⟩⟩⟩,⟨?_,?_,?_,?_,?_,?_,?_,?_,?_,?_,?_,?_,?_,?_,?_,?_,?_,trivial⟩,?_⟩;all_goals (intro D bp;intros;rename_i x6 Ir Ij Fo DH DK Eh GH DL G1 NY Ly RQ Rv Rd OD L4 w_ Z;have g:=Z.1;obtain ⟨⟨cF,ci,cG,cD,bU,cH,cj,cR,dJ,dQ,cJ,dv,eG,gL,kz,kX,lU,_⟩,⟨o,l,i,m⟩⟩:=Z)
    ·exact ⟨g.set 0 rfl,⟨o,l,i,m⟩⟩
    ·obtain rfl:=cF ‹_›;exact ⟨g.set 1 rfl,⟨o,l,i,m⟩⟩
    ·obtain rfl:=ci ‹_›;refine rpG ?_;exact ⟨g.set 2 rfl,⟨o,l,i,m⟩⟩
    ·obtain rfl:=ci ‹_›;obtain rfl:=cG ‹_›;refine rpG ?_;exact ⟨g.set 3 rfl,⟨o,l,i,m⟩⟩
    ·obtain rfl:=cD ‹_›;exact ⟨g.set 4 rfl,⟨o,l,i,m⟩⟩
    ·obtain rfl:=bU ‹_›;refine rpG ?_;exact ⟨g.set 5 rfl,⟨o,l,i,m⟩⟩
    ·obtain rfl:=cH ‹_›;obtain rfl:=bU ‹_›;refine rpG ?_;refine bh ?_;exact ⟨g.set 6 rfl,⟨o,l,i,m⟩⟩
    ·obtain rfl:=cj ‹_›;obtain rfl:=bU ‹_›;refine rpG ?_;refine ax kZ ?_;exact ⟨g.set 7 rfl,⟨o,l,i,m⟩⟩
    ·obtain rfl:=cR ‹_›;obtain rfl:=bU ‹_›;refine rpG ?_;obtain ⟨b0,b1,d9,e0,j⟩:=m.1.any;refine aG j 2 jB rfl rfl ?_;exact ⟨g.set 8 rfl,⟨o,l,i,m⟩⟩
    ·obtain rfl:=bU ‹_›;refine rpG ?_;obtain ⟨b0,b1,d9,e0,j⟩:=m.1.any;refine aq j 0 af rfl (by simpa using e9) ?_;exact ⟨g.set 9 rfl,⟨o,l,i,m⟩⟩
    ·obtain rfl:=bU ‹_›;refine rpG ?_;refine ax fu ?_;exact ⟨g.set 10 rfl,⟨o,l,i,m⟩⟩
    ·obtain rfl:=cJ ‹_›;obtain rfl:=bU ‹_›;refine rpG ?_;obtain ⟨b0,b1,d9,e0,j⟩:=m.1.any;refine aG j 1 aV e4 rfl ?_;exact ⟨g.set 11 rfl,⟨o,l,i,m⟩⟩
    ·obtain rfl:=bU ‹_›;refine rpG ?_;exact ⟨g.set 12 rfl,⟨o,l,i,m⟩⟩
    ·obtain rfl:=dv ‹_›;obtain rfl:=eG ‹_›;obtain rfl:=bU ‹_›;refine rpG ?_;refine HW ?_;exact ⟨g.set 13 rfl,⟨o,l,i,m⟩⟩
    ·obtain rfl:=dJ ‹_›;obtain rfl:=dQ ‹_›;obtain rfl:=gL ‹_›;obtain rfl:=bU ‹_›;obtain rfl:o=0:=jv i bp;refine rpG ?_;refine Run.callE i6 iY m.1 (e8 S2 _ _ C U ck es O tr e1 g0 g5 g6) fun v' I' S' w_=>?_;rintro ⟨eS,rfl,d3,d4,d6,d7,rfl,c5,b5,g2⟩ _ j;rw [eS] at j;have b2:unS w X S2 [ei b7 vv.toArray ac,B4,ei V #[hV C,.map (some B),.map (some G),ee (s1.fr:Int)] av,.blk B (.map b6 b8),.blk G (.map r J)] C U es ck O tr (uniV s1.st t (fnT x.name us)).2 w_ 1:=⟨d3,d4,d6,d7,c5,b5,j⟩
     exact ⟨g.set 14 (by first|assumption|trivial),⟨1,by decide,rfl,⟨b2,fun _=>rfl⟩⟩⟩
    ·obtain rfl:=bU ‹_›;have Z3:=kz ‹_›;obtain rfl:=m.2 ‹D 14=true›;refine rpG ?_;exact ⟨g.set 15 rfl,⟨o,l,i,m⟩⟩
    ·obtain rfl:=kX ‹_›;exact ⟨g.set 16 rfl,⟨o,l,i,m⟩⟩
    obtain rfl:o=1:=jD l i ‹D 14=true›;have ZV:D 16=true:=by assumption
    clear i;obtain rfl:=lU ZV;obtain ⟨d3,d4,d6,d7,c5,b5,j⟩:=m.1;exact ⟨_,_,S2,rfl,j.pick [false,false,true,true,true,true,true,true],c4,Jx a8 e7 g7 c5 b5⟩
   ·have a8:insI s x xs=none:=by
     rw [insI,ae h1,ae h2,ag h3,b3];show (im s xs).bind _=_;rw [d1];rfl
    refine ⟨fun D x6 Ir Ij Fo DH DK Eh GH DL G1 NY Ly RQ Rv Rd OD L4 w_=>Fx D 0 [L4=.bool true,OD=.bool true,Rd=.bool false,Rv=.bool false,RQ=.bool false,Ly=undef,NY=undef,G1=undef,DL=undef,GH=undef,Eh=undef,DK=undef,DH=undef,Fo=undef,Ij=undef,Ir=.bool false,x6=.bool false]/\Inv w X [ei b7 vv.toArray ac,B4,ei V #[hV C,.map (some B),.map (some G),ee (d2:Int)] av,.blk B (.map b6 b8),.blk G (.map r J),ei C #[.map (some U),O] aX,.blk U (.map es ck),cA O tr] S2 w_,⟨Fx.nil _ _,j.draw⟩,⟨?_,?_,?_,?_,?_,?_,?_,?_,?_,?_,?_,?_,?_,?_,?_,?_,?_,trivial⟩,?_⟩;all_goals (intro D bp;intros;rename_i x6 Ir Ij Fo DH DK Eh GH DL G1 NY Ly RQ Rv Rd OD L4 w_ Z;have g:=Z.1;obtain ⟨⟨cF,ci,cG,cD,bU,cH,cj,cR,dJ,dQ,cJ,dv,eG,gL,kz,kX,lU,_⟩,j⟩:=Z)
    ·exact ⟨g.set 0 rfl,j⟩
    ·obtain rfl:=cF ‹_›;exact ⟨g.set 1 rfl,j⟩
    ·obtain rfl:=ci ‹_›;refine rpG ?_;exact ⟨g.set 2 rfl,j⟩
    ·obtain rfl:=ci ‹_›;obtain rfl:=cG ‹_›;refine rpG ?_;exact ⟨g.set 3 rfl,j⟩
    ·obtain rfl:=cD ‹_›;exact ⟨g.set 4 rfl,j⟩
    ·obtain rfl:=bU ‹_›;refine rpG ?_;exact ⟨g.set 5 rfl,j⟩
    ·obtain rfl:=cH ‹_›;obtain rfl:=bU ‹_›;refine rpG ?_;exact ⟨g.set 6 rfl,j⟩
    ·obtain rfl:=cj ‹_›;obtain rfl:=bU ‹_›;refine rpG ?_;exact ⟨g.set 7 rfl,j⟩
    ·obtain rfl:=cR ‹_›;obtain rfl:=bU ‹_›;refine rpG ?_;exact ⟨g.set 8 rfl,j⟩
    ·obtain rfl:=bU ‹_›;refine rpG ?_;exact ⟨g.set 9 rfl,j⟩
    ·obtain rfl:=bU ‹_›;refine rpG ?_;exact ⟨g.set 10 rfl,j⟩
    ·obtain rfl:=cJ ‹_›;obtain rfl:=bU ‹_›;refine rpG ?_;exact ⟨g.set 11 rfl,j⟩
    ·obtain rfl:=bU ‹_›;refine rpG ?_;exact ⟨g.set 12 rfl,j⟩
    ·obtain rfl:=dv ‹_›;obtain rfl:=eG ‹_›;obtain rfl:=bU ‹_›;refine rpG ?_;exact ⟨g.set 13 rfl,j⟩
    ·obtain rfl:=dJ ‹_›;obtain rfl:=dQ ‹_›;obtain rfl:=gL ‹_›;obtain rfl:=bU ‹_›;refine rpG ?_;exact ⟨g.set 14 rfl,j⟩
    ·obtain rfl:=bU ‹_›;obtain rfl:=kz ‹_›;refine rpG ?_;exact ⟨g.set 15 rfl,j⟩
    ·obtain rfl:=kX ‹_›;exact ⟨g.set 16 rfl,j⟩
    obtain ⟨rfl,rfl,rfl,rfl,rfl,rfl,rfl,rfl,rfl,rfl,rfl,rfl,rfl,rfl,rfl,rfl,rfl,_⟩:=g.all;clear g cF ci cG cD bU cH cj cR dJ dQ cJ dv eG gL kz kX lU;exact c3 _ _ _ j c4 a8
  ·have a8:insI s x xs=none:=by
    rw [insI,ae h1,ae h2,ag h3,b3];rfl
   refine ⟨fun D x6 Ir Ij Fo DH DK Eh GH DL G1 NY Ly RQ Rv Rd OD L4 w_=>Fx D 0 [L4=.bool false,OD=.bool false,Rd=undef,Rv=.bool false,RQ=.bool false,Ly=undef,NY=undef,G1=undef,DL=undef,GH=undef,Eh=undef,DK=undef,DH=undef,Fo=undef,Ij=undef,Ir=.bool false,x6=.bool false]/\Inv w X [ei b7 vv.toArray ac,B4,ei V #[hV C,.map (some B),.map (some G),ee (d2:Int)] av,.blk B (.map b6 b8),.blk G (.map r J),ei C #[.map (some U),O] aX,.blk U (.map es ck),cA O tr] S2 w_,⟨Fx.nil _ _,j.draw⟩,⟨?_,?_,?_,?_,?_,?_,?_,?_,?_,?_,?_,?_,?_,?_,?_,?_,?_,trivial⟩,?_⟩;all_goals (intro D bp;intros;rename_i x6 Ir Ij Fo DH DK Eh GH DL G1 NY Ly RQ Rv Rd OD L4 w_ Z;have g:=Z.1;obtain ⟨⟨cF,ci,cG,cD,bU,cH,cj,cR,dJ,dQ,cJ,dv,eG,gL,kz,kX,lU,_⟩,j⟩:=Z)
   ·exact ⟨g.set 0 rfl,j⟩
   ·obtain rfl:=cF ‹_›;exact ⟨g.set 1 rfl,j⟩
   ·obtain rfl:=ci ‹_›;refine rpG ?_;exact ⟨g.set 2 rfl,j⟩
   ·obtain rfl:=ci ‹_›;obtain rfl:=cG ‹_›;refine rpG ?_;exact ⟨g.set 3 rfl,j⟩
   ·obtain rfl:=cD ‹_›;exact ⟨g.set 4 rfl,j⟩
   ·obtain rfl:=bU ‹_›;refine rpG ?_;exact ⟨g.set 5 rfl,j⟩
   ·obtain rfl:=cH ‹_›;obtain rfl:=bU ‹_›;refine rpG ?_;exact ⟨g.set 6 rfl,j⟩
   ·obtain rfl:=cj ‹_›;obtain rfl:=bU ‹_›;refine rpG ?_;exact ⟨g.set 7 rfl,j⟩
   ·obtain rfl:=cR ‹_›;obtain rfl:=bU ‹_›;refine rpG ?_;exact ⟨g.set 8 rfl,j⟩
   ·obtain rfl:=bU ‹_›;refine rpG ?_;exact ⟨g.set 9 rfl,j⟩
   ·obtain rfl:=bU ‹_›;refine rpG ?_;exact ⟨g.set 10 rfl,j⟩
   ·obtain rfl:=cJ ‹_›;obtain rfl:=bU ‹_›;refine rpG ?_;exact ⟨g.set 11 rfl,j⟩
   ·obtain rfl:=bU ‹_›;refine rpG ?_;exact ⟨g.set 12 rfl,j⟩
   ·obtain rfl:=dv ‹_›;obtain rfl:=eG ‹_›;obtain rfl:=bU ‹_›;refine rpG ?_;exact ⟨g.set 13 rfl,j⟩
   ·obtain rfl:=dJ ‹_›;obtain rfl:=dQ ‹_›;obtain rfl:=gL ‹_›;obtain rfl:=bU ‹_›;refine rpG ?_;exact ⟨g.set 14 rfl,j⟩
   ·obtain rfl:=bU ‹_›;obtain rfl:=kz ‹_›;refine rpG ?_;exact ⟨g.set 15 rfl,j⟩
   ·obtain rfl:=kX ‹_›;exact ⟨g.set 16 rfl,j⟩
   obtain ⟨rfl,rfl,rfl,rfl,rfl,rfl,rfl,rfl,rfl,rfl,rfl,rfl,rfl,rfl,rfl,rfl,rfl,_⟩:=g.all;clear g cF ci cG cD bU cH cj cR dJ dQ cJ dv eG gL kz kX lU;exact c3 _ _ _ j c4 a8
 refine a9 ?_;refine aJ (fun h7=>?_) (fun h7=>?_)
 ·skip
  have j:Inv w X ([ei b7 vv.toArray ac,B4,.blk G (.map r J),ei C #[.map (some U),O] aX,.blk U (.map es ck),cA O tr]++[ei V #[hV C,.map (some B),.map (some G),ee (s.fr:Int)] av,.blk B (.map Y a0)]) S _:=j.perm ((bD (l₁:=[_,_,_,_]) (l₂:=[_,_])).append_left [_,_]);refine Run.callE kr jS j (xx h hm.sl (by omega) g1) fun q I' S2 w'=>?_;rintro hD c4 j;obtain ⟨d2,b6,b8,f6,us,ua,uc,h0,rfl,rfl,e7,f7,f8⟩:=Oc hD;have j:Inv w X [ei b7 vv.toArray ac,B4,ei V #[hV C,.map (some B),.map (some G),ee (d2:Int)] av,.blk B (.map b6 b8),.blk G (.map r J),ei C #[.map (some U),O] aX,.blk U (.map es ck),cA O tr] S2 w':=j.perm ((bD (l₁:=[_,_]) (l₂:=[_,_,_,_])).append_left [_,_]);refine aA rfl ?_;refine aA rfl ?_;have e1:=e1.mono c4.1;have g0:=wn (nm:=x.name) f7 (by simp only [maxLen];omega);have j:Inv w X ([ei b7 vv.toArray ac,B4,ei V #[hV C,.map (some B),.map (some G),ee (d2:Int)] av]++.blk B (.map b6 b8)::[.blk G (.map r J),ei C #[.map (some U),O] aX,.blk U (.map es ck),cA O tr]) S2 _:=j;refine ⟨fun D Yq YQ Yl Y2 VP SK Ut Ue Vm Uh w_=>Fx D 0 [Uh=hV V,Vm=hV V,Ue=kh V 1,Ut=.map (some B),SK=kh b4 2,VP=ee x.b,Y2=kh b4 3,Yl=.string x.name,YQ=.slice ua us.length uc,Yq=.agg #[ee 3,ee 0,.string x.name,.slice ua us.length uc],True]/\∃ o:Nat,o<=1/\D 10=decide (1<=o)/\(mpS w X S2 [ei b7 vv.toArray ac,B4,ei V #[hV C,.map (some B),.map (some G),ee (d2:Int)] av] B b6 b8 [.blk G (.map r J),ei C #[.map (some U),O] aX,.blk U (.map es ck),cA O tr] f6 x.b (fnT x.name us) w_ o),⟨Fx.nil _ _,⟨0,aT _,rfl,j.draw⟩⟩,⟨?_,?_,?_,?_,?_,?_,?_,?_,?_,?_,?_,trivial⟩,?_⟩;all_goals (intro D bp;intros;rename_i Yq YQ Yl Y2 VP SK Ut Ue Vm Uh w_ Z;have g:=Z.1;obtain ⟨⟨cF,ci,cG,cD,bU,cH,cj,cR,dJ,dQ,cJ,_⟩,⟨o,l,i,m⟩⟩:=Z)
  ·exact ⟨g.set 0 rfl,⟨o,l,i,m⟩⟩
  ·obtain rfl:=cF ‹_›;refine bh ?_;exact ⟨g.set 1 rfl,⟨o,l,i,m⟩⟩
  ·obtain rfl:=ci ‹_›;refine ax eM ?_;exact ⟨g.set 2 rfl,⟨o,l,i,m⟩⟩
  ·obtain rfl:=cG ‹_›;obtain ⟨b0,b1,j⟩:=m.any;refine aG j 2 dp rfl rfl ?_;exact ⟨g.set 3 rfl,⟨o,l,i,m⟩⟩
  ·refine ax dL ?_;exact ⟨g.set 4 rfl,⟨o,l,i,m⟩⟩
  ·obtain rfl:=bU ‹_›;obtain ⟨b0,b1,j⟩:=m.any;refine aG j 1 au e4 rfl ?_;exact ⟨g.set 5 rfl,⟨o,l,i,m⟩⟩
  ·refine ax fu ?_;exact ⟨g.set 6 rfl,⟨o,l,i,m⟩⟩
  ·obtain rfl:=cj ‹_›;obtain ⟨b0,b1,j⟩:=m.any;refine aG j 1 aV e4 rfl ?_;exact ⟨g.set 7 rfl,⟨o,l,i,m⟩⟩
  ·exact ⟨g.set 8 rfl,⟨o,l,i,m⟩⟩
  ·obtain rfl:=cR ‹_›;obtain rfl:=dJ ‹_›;refine HW ?_;exact ⟨g.set 9 rfl,⟨o,l,i,m⟩⟩
  ·obtain rfl:=cD ‹_›;obtain rfl:=cH ‹_›;obtain rfl:=dQ ‹_›;obtain rfl:o=0:=jv i bp;refine mR (cs:=[ee 3,ee 0,.string x.name,.slice ua us.length uc]) m 3 cX dS rfl e7 g0 fun w_ c7 c8 c9 j=>?_;have b2:mpS w X S2 [ei b7 vv.toArray ac,B4,ei V #[hV C,.map (some B),.map (some G),ee (d2:Int)] av] B b6 b8 [.blk G (.map r J),ei C #[.map (some U),O] aX,.blk U (.map es ck),cA O tr] f6 x.b (fnT x.name us) w_ 1:=⟨c7,c8,c9,j⟩
   exact ⟨g.set 10 trivial,⟨1,by decide,rfl,b2⟩⟩
  obtain rfl:o=1:=jD l i ‹D 10=true›;clear i;obtain ⟨e2,e3,c6,j⟩:=m;rcases f8 with ⟨rfl,s1,d1,rfl,rfl⟩|⟨rfl,d1⟩
  ·obtain ⟨a1,a2,a3,a4,a5,a6,a7⟩:=mo xs hs (by omega) d1;have a8:insI s x xs=some ⟨upS s1.sl x.b (fnT x.name us),s1.ar,s1.fr,s1.st⟩:=by rw [insI,ae h1,ae h2,ae h3,ag h7,d1];rfl
   refine ⟨_,_,S2,rfl,j.pick [false,false,true,true,true,true,true,true],c4,?_⟩;rw [a8];exact ⟨rfl,e2,e3,r,J,es,ck,O,tr,rfl,c6,by show SlT S2 r s1.ar;rw [a5];exact hm.ar.up c4.1,by show KnownM S2 es s1.st;rw [a4];exact hm.st.up c4.1,by show tr.length+unb s1.st<=_;rw [a4];exact hm.tr⟩
  ·exact c3 _ _ _ j c4 (by rw [insI,ae h1,ae h2,ae h3,ag h7,d1];rfl)
 refine a9 ?_;refine aJ (fun h8=>?_) (fun h8=>?_)
 ·have j:Inv w X (ei V #[hV C,.map (some B),.map (some G),ee (s.fr:Int)] av::.blk B (.map Y a0)::[.blk G (.map r J),ei C #[.map (some U),O] aX,.blk U (.map es ck),cA O tr,ei b7 vv.toArray ac,B4]) S _:=j.perm (bD (l₁:=[_,_,_,_,_,_]) (l₂:=[_,_]));refine ⟨fun D ZD Y9 Yt Yg Yp Yy YR YI w_=>Fx D 0 [YI=hV V,YR=hV V,Yy=kh V 1,Yp=.map (some B),Yg=kh b4 1,Yt=ee x.a,Y9=hV V,True,True]/\∃ o:Nat,o<=2/\D 7=decide (1<=o)/\D 8=decide (2<=o)/\(nvS w X S V B (hV C) (.map (some G)) s.fr a0 Y s.sl x.a [.blk G (.map r J),ei C #[.map (some U),O] aX,.blk U (.map es ck),cA O tr,ei b7 vv.toArray ac,B4] w_ o/\(D 7=true->ZD=.agg #[ee 1,ee (s.fr:Int),.string ⟨#[]⟩,nx])),⟨Fx.nil _ _,⟨0,aT _,rfl,rfl,⟨j.draw,aU⟩⟩⟩,⟨?_,?_,?_,?_,?_,?_,?_,?_,?_,trivial⟩,?_⟩;all_goals (intro D bp;intros;rename_i ZD Y9 Yt Yg Yp Yy YR YI w_ Z;have g:=Z.1;obtain ⟨⟨cF,ci,cG,cD,bU,cH,cj,cR,dJ,_⟩,⟨o,l,i,p,m⟩⟩:=Z)
  ·exact ⟨g.set 0 rfl,⟨o,l,i,p,m⟩⟩
  ·obtain rfl:=cF ‹_›;refine bh ?_;exact ⟨g.set 1 rfl,⟨o,l,i,p,m⟩⟩
  ·obtain rfl:=ci ‹_›;refine ax eM ?_;exact ⟨g.set 2 rfl,⟨o,l,i,p,m⟩⟩
  ·obtain rfl:=cG ‹_›;obtain ⟨f5,b0,b1,j⟩:=m.1.any;refine aG j 0 dp rfl rfl ?_;exact ⟨g.set 3 rfl,⟨o,l,i,p,m⟩⟩
  ·refine ax bZ ?_;exact ⟨g.set 4 rfl,⟨o,l,i,p,m⟩⟩
  ·obtain rfl:=bU ‹_›;obtain ⟨f5,b0,b1,j⟩:=m.1.any;refine aG j 7 au e4 rfl ?_;exact ⟨g.set 5 rfl,⟨o,l,i,p,m⟩⟩
  ·exact ⟨g.set 6 rfl,⟨o,l,i,p,m⟩⟩
  ·obtain rfl:=cj ‹_›;obtain rfl:o=0:=jv i bp;refine FF m.1 (by omega) fun w_ j=>?_;have b2:nvS w X S V B (hV C) (.map (some G)) s.fr a0 Y s.sl x.a [.blk G (.map r J),ei C #[.map (some U),O] aX,.blk U (.map es ck),cA O tr,ei b7 vv.toArray ac,B4] w_ 1:=j;exact ⟨g.set 7 (by first|assumption|trivial),⟨1,by decide,rfl,(by first|exact p|rfl),⟨b2,fun _=>rfl⟩⟩⟩
  ·obtain rfl:=cD ‹_›;obtain rfl:=cH ‹_›;have Ch:=cR ‹_›;obtain rfl:o=1:=gg i ‹D 7=true› p bp;obtain rfl:=m.2 ‹D 7=true›;have j:Inv w X (ei V #[hV C,.map (some B),.map (some G),ee ((s.fr+1:Nat):Int)] av::.blk B (.map Y a0)::[.blk G (.map r J),ei C #[.map (some U),O] aX,.blk U (.map es ck),cA O tr,ei b7 vv.toArray ac,B4]) S w_:=m.1;refine mR (cs:=[ee 1,ee (s.fr:Int),.string ⟨#[]⟩,nx]) j 1 cX dS rfl hm.sl (DP S s.fr (by omega)) fun w_ c7 c8 c9 j=>?_;have b2:nvS w X S V B (hV C) (.map (some G)) s.fr a0 Y s.sl x.a [.blk G (.map r J),ei C #[.map (some U),O] aX,.blk U (.map es ck),cA O tr,ei b7 vv.toArray ac,B4] w_ 2:=⟨c7,c8,c9,j⟩
   exact ⟨g.set 8 trivial,⟨2,by decide,(by first|exact i|rfl),rfl,⟨b2,m.2⟩⟩⟩
  obtain rfl:o=2:=jD l p ‹D 8=true›;clear i p;obtain ⟨b6,b8,g4,j⟩:=m.1;obtain ⟨uu,c2,c1,e5,f0,h6,f9⟩:=g4.look x.a;have e6:=f9 _ (fb s.sl x.a (dx s.fr));have j:Inv w X ([ei V #[hV C,.map (some B),.map (some G),ee ((s.fr+1:Nat):Int)] av,.blk B (.map b6 b8)]++.blk G (.map r J)::[ei C #[.map (some U),O] aX,.blk U (.map es ck),cA O tr,ei b7 vv.toArray ac,B4]) S w_:=j;refine ⟨fun D UH TS Sc TF KL UQ Uc SI YK Zx Zc ZB Yn w_=>Fx D 0 [Yn=hV V,ZB=hV V,Zc=kh V 2,Zx=.map (some G),YK=kh b4 2,SI=ee x.b,Uc=hV V,UQ=hV V,KL=kh V 1,TF=.map (some B),Sc=kh b4 1,TS=ee x.a,UH=.agg uu.toArray,True]/\∃ o:Nat,o<=1/\D 13=decide (1<=o)/\(mpS w X S [ei V #[hV C,.map (some B),.map (some G),ee ((s.fr+1:Nat):Int)] av,.blk B (.map b6 b8)] G r J [ei C #[.map (some U),O] aX,.blk U (.map es ck),cA O tr,ei b7 vv.toArray ac,B4] s.ar x.b (dx s.fr) w_ o),⟨Fx.nil _ _,⟨0,aT _,rfl,j.draw⟩⟩,⟨?_,?_,?_,?_,?_,?_,?_,?_,?_,?_,?_,?_,?_,?_,trivial⟩,?_⟩;all_goals (intro D bp;intros;rename_i UH TS Sc TF KL UQ Uc SI YK Zx Zc ZB Yn w_ Z;have g:=Z.1;obtain ⟨⟨cF,ci,cG,cD,bU,cH,cj,cR,dJ,dQ,cJ,dv,eG,gL,_⟩,⟨o,l,i,m⟩⟩:=Z)
  ·exact ⟨g.set 0 rfl,⟨o,l,i,m⟩⟩
  ·obtain rfl:=cF ‹_›;refine bh ?_;exact ⟨g.set 1 rfl,⟨o,l,i,m⟩⟩
  ·obtain rfl:=ci ‹_›;refine ax lm ?_;exact ⟨g.set 2 rfl,⟨o,l,i,m⟩⟩
  ·obtain rfl:=cG ‹_›;obtain ⟨b0,b1,j⟩:=m.any;refine aG j 0 dp rfl rfl ?_;exact ⟨g.set 3 rfl,⟨o,l,i,m⟩⟩
  ·refine ax dL ?_;exact ⟨g.set 4 rfl,⟨o,l,i,m⟩⟩
  ·obtain rfl:=bU ‹_›;obtain ⟨b0,b1,j⟩:=m.any;refine aG j 7 au e4 rfl ?_;exact ⟨g.set 5 rfl,⟨o,l,i,m⟩⟩
  ·exact ⟨g.set 6 rfl,⟨o,l,i,m⟩⟩
  ·obtain rfl:=cj ‹_›;refine bh ?_;exact ⟨g.set 7 rfl,⟨o,l,i,m⟩⟩
  ·obtain rfl:=cR ‹_›;refine ax eM ?_;exact ⟨g.set 8 rfl,⟨o,l,i,m⟩⟩
  ·obtain rfl:=dJ ‹_›;obtain ⟨b0,b1,j⟩:=m.any;refine aG j 0 dp rfl rfl ?_;exact ⟨g.set 9 rfl,⟨o,l,i,m⟩⟩
  ·refine ax bZ ?_;exact ⟨g.set 10 rfl,⟨o,l,i,m⟩⟩
  ·obtain rfl:=cJ ‹_›;obtain ⟨b0,b1,j⟩:=m.any;refine aG j 7 au e4 rfl ?_;exact ⟨g.set 11 rfl,⟨o,l,i,m⟩⟩
  ·obtain rfl:=dQ ‹_›;obtain rfl:=dv ‹_›;obtain ⟨b0,b1,j⟩:=m.any;refine fA (c:=false) (ok:=c2) (v:=.agg uu.toArray) (j.its (.blk B (.map b6 b8)) (by simp)) cX dS aQ c1 ?_;exact ⟨g.set 12 rfl,⟨o,l,i,m⟩⟩
  ·obtain rfl:=cD ‹_›;obtain rfl:=cH ‹_›;obtain rfl:=eG ‹_›;obtain rfl:o=0:=jv i bp;refine mR (cs:=uu) m 2 cX dS rfl hm.ar e6 fun w_ c7 c8 c9 j=>?_;have b2:mpS w X S [ei V #[hV C,.map (some B),.map (some G),ee ((s.fr+1:Nat):Int)] av,.blk B (.map b6 b8)] G r J [ei C #[.map (some U),O] aX,.blk U (.map es ck),cA O tr,ei b7 vv.toArray ac,B4] s.ar x.b (dx s.fr) w_ 1:=⟨c7,c8,c9,j⟩
   exact ⟨g.set 13 trivial,⟨1,by decide,rfl,b2⟩⟩
  obtain rfl:o=1:=jD l i ‹D 13=true›;clear i;obtain ⟨e2,e3,c6,j⟩:=m;exact ⟨_,⟨upS s.sl x.a (dx s.fr),upS s.ar x.b (dx s.fr),s.fr+1,s.st⟩,by rw [insI,ae h1,ae h2,ae h3,ae h7,ag h8],⟨b6,b8,e2,e3,es,ck,O,tr,rfl,g4,c6,hm.st,hm.tr⟩,j.pick [true,true,true,true,true,true,false,false]⟩
 refine a9 ?_;refine aJ (fun h9=>?_) (fun h9=>?_)
 ·obtain ⟨uu,c2,u,c1,e5,f0,e6,f4⟩:=hm.sl.look2 x.a;refine ⟨fun D p8 DS YG YA Qz YO Zk YZ YF YL Ml P3 w_=>Fx D 0 [P3=hV V,Ml=hV V,YL=kh V 1,YF=.map (some B),YZ=kh b4 1,Zk=ee x.a,YO=.tuple #[.agg uu.toArray,.bool c2],Qz=.tuple #[.agg uu.toArray,.bool c2],YA=.agg uu.toArray,YG=.bool c2,True,True,p8=.bool c2]/\∃ o:Nat,o<=2/\D 10=decide (1<=o)/\D 11=decide (2<=o)/\(alS w X S [ei b7 vv.toArray ac,B4,ei V #[hV C,.map (some B),.map (some G),ee (s.fr:Int)] av,.blk B (.map Y a0),.blk G (.map r J),ei C #[.map (some U),O] aX,.blk U (.map es ck),cA O tr] uu DS w_ o),⟨Fx.nil _ _,⟨0,aT _,rfl,rfl,j.draw⟩⟩,⟨?_,?_,?_,?_,?_,?_,?_,?_,?_,?_,?_,?_,?_,trivial⟩,?_⟩;all_goals (intro D bp;intros;rename_i p8 DS YG YA Qz YO Zk YZ YF YL Ml P3 w_ Z;have g:=Z.1;obtain ⟨⟨cF,ci,cG,cD,bU,cH,cj,cR,dJ,dQ,cJ,dv,eG,_⟩,⟨o,l,i,p,m⟩⟩:=Z)
  ·exact ⟨g.set 0 rfl,⟨o,l,i,p,m⟩⟩
  ·obtain rfl:=cF ‹_›;refine bh ?_;exact ⟨g.set 1 rfl,⟨o,l,i,p,m⟩⟩
  ·obtain rfl:=ci ‹_›;refine ax eM ?_;exact ⟨g.set 2 rfl,⟨o,l,i,p,m⟩⟩
  ·obtain rfl:=cG ‹_›;have j:=m.any;refine aG j 2 dp rfl rfl ?_;exact ⟨g.set 3 rfl,⟨o,l,i,p,m⟩⟩
  ·refine ax bZ ?_;exact ⟨g.set 4 rfl,⟨o,l,i,p,m⟩⟩
  ·obtain rfl:=bU ‹_›;have j:=m.any;refine aG j 1 au e4 rfl ?_;exact ⟨g.set 5 rfl,⟨o,l,i,p,m⟩⟩
  ·obtain rfl:=cD ‹_›;obtain rfl:=cH ‹_›;have j:=m.any;refine fA (c:=true) (ok:=c2) (v:=.agg uu.toArray) (j.its (.blk B (.map Y a0)) (by simp)) cX dS aQ c1 ?_;exact ⟨g.set 6 rfl,⟨o,l,i,p,m⟩⟩
  ·obtain rfl:=cj ‹_›;exact ⟨g.set 7 rfl,⟨o,l,i,p,m⟩⟩
  ·obtain rfl:=cR ‹_›;refine aA rfl ?_;exact ⟨g.set 8 rfl,⟨o,l,i,p,m⟩⟩
  ·obtain rfl:=cR ‹_›;refine aA rfl ?_;exact ⟨g.set 9 rfl,⟨o,l,i,p,m⟩⟩
  ·obtain rfl:o=0:=jv i bp;refine aE m aQ fun b w_ j=>?_;have m:alS w X S [ei b7 vv.toArray ac,B4,ei V #[hV C,.map (some B),.map (some G),ee (s.fr:Int)] av,.blk B (.map Y a0),.blk G (.map r J),ei C #[.map (some U),O] aX,.blk U (.map es ck),cA O tr] uu (hV b) w_ 1:=⟨b,rfl,j.perm (bD (l₁:=[_]))⟩
   exact ⟨g.set 10 (by first|assumption|trivial),⟨1,by decide,rfl,(by first|exact p|rfl),m⟩⟩
  ·have xg:=cJ ‹_›;obtain rfl:=dJ ‹_›;obtain rfl:o=1:=gg i ‹D 10=true› p bp;obtain ⟨b,rfl,j⟩:=m;refine aj j 0 rfl af (by simpa using e5) rfl (by simpa using f0) fun w_ j=>?_;have m:alS w X S [ei b7 vv.toArray ac,B4,ei V #[hV C,.map (some B),.map (some G),ee (s.fr:Int)] av,.blk B (.map Y a0),.blk G (.map r J),ei C #[.map (some U),O] aX,.blk U (.map es ck),cA O tr] uu (hV b) w_ 2:=⟨b,rfl,j⟩
   exact ⟨g.set 11 trivial,⟨2,by decide,(by first|exact i|rfl),rfl,m⟩⟩
  ·obtain rfl:=dQ ‹_›;exact ⟨g.set 12 rfl,⟨o,l,i,p,m⟩⟩
  obtain rfl:o=2:=jD l p ‹D 11=true›;have r4:D 12=true:=by assumption
  clear i p;obtain ⟨b9,rfl,j⟩:=m;obtain rfl:=eG r4;have j:Inv w X ([ei b9 uu.toArray ac,ei b7 vv.toArray ac,B4,ei V #[hV C,.map (some B),.map (some G),ee (s.fr:Int)] av,.blk B (.map Y a0)]++.blk G (.map r J)::[ei C #[.map (some U),O] aX,.blk U (.map es ck),cA O tr]) S w_:=j;refine ⟨fun D ZF ZC Y5 Zu Yv Zv Zp w_=>Fx D 0 [Zp=hV V,Zv=hV V,Yv=kh V 2,Zu=.map (some G),Y5=kh b4 2,ZC=ee x.b,ZF=.agg uu.toArray,True]/\∃ o:Nat,o<=1/\D 7=decide (1<=o)/\(mpS w X S [ei b9 uu.toArray ac,ei b7 vv.toArray ac,B4,ei V #[hV C,.map (some B),.map (some G),ee (s.fr:Int)] av,.blk B (.map Y a0)] G r J [ei C #[.map (some U),O] aX,.blk U (.map es ck),cA O tr] s.ar x.b u w_ o),⟨Fx.nil _ _,⟨0,aT _,rfl,j.draw⟩⟩,⟨?_,?_,?_,?_,?_,?_,?_,?_,trivial⟩,?_⟩;all_goals (intro D bp;intros;rename_i ZF ZC Y5 Zu Yv Zv Zp w_ Z;have g:=Z.1;obtain ⟨⟨cF,ci,cG,cD,bU,cH,cj,cR,_⟩,⟨o,l,i,m⟩⟩:=Z)
  ·exact ⟨g.set 0 rfl,⟨o,l,i,m⟩⟩
  ·obtain rfl:=cF ‹_›;refine bh ?_;exact ⟨g.set 1 rfl,⟨o,l,i,m⟩⟩
  ·obtain rfl:=ci ‹_›;refine ax lm ?_;exact ⟨g.set 2 rfl,⟨o,l,i,m⟩⟩
  ·obtain rfl:=cG ‹_›;obtain ⟨b0,b1,j⟩:=m.any;refine aG j 3 dp rfl rfl ?_;exact ⟨g.set 3 rfl,⟨o,l,i,m⟩⟩
  ·refine ax dL ?_;exact ⟨g.set 4 rfl,⟨o,l,i,m⟩⟩
  ·obtain rfl:=bU ‹_›;obtain ⟨b0,b1,j⟩:=m.any;refine aG j 2 au e4 rfl ?_;exact ⟨g.set 5 rfl,⟨o,l,i,m⟩⟩
  ·obtain ⟨b0,b1,j⟩:=m.any;refine aq j 0 af rfl (by simpa using e5) ?_;exact ⟨g.set 6 rfl,⟨o,l,i,m⟩⟩
  ·obtain rfl:=cD ‹_›;obtain rfl:=cH ‹_›;obtain rfl:=cj ‹_›;obtain rfl:o=0:=jv i bp;refine mR (cs:=uu) m 5 cX dS rfl hm.ar e6 fun w_ c7 c8 c9 j=>?_;have b2:mpS w X S [ei b9 uu.toArray ac,ei b7 vv.toArray ac,B4,ei V #[hV C,.map (some B),.map (some G),ee (s.fr:Int)] av,.blk B (.map Y a0)] G r J [ei C #[.map (some U),O] aX,.blk U (.map es ck),cA O tr] s.ar x.b u w_ 1:=⟨c7,c8,c9,j⟩
   exact ⟨g.set 7 trivial,⟨1,by decide,rfl,b2⟩⟩
  obtain rfl:o=1:=jD l i ‹D 7=true›;clear i;obtain ⟨e2,e3,c6,j⟩:=m;rcases f4 with ⟨rfl,d0⟩|⟨rfl,d0⟩
  ·refine ⟨_,_,S,rfl,j.pick [false,false,false,true,true,true,true,true,true],Ext.refl _ _ _,?_⟩;have a8:insI s x xs=some ⟨s.sl,upS s.ar x.b u,s.fr,s.st⟩:=by rw [insI,ae h1,ae h2,ae h3,ae h7,ae h8,ag h9,d0];rfl
   rw [a8];exact ⟨rfl,Y,a0,e2,e3,es,ck,O,tr,rfl,hm.sl,c6,hm.st,hm.tr⟩
  ·exact c3 _ _ _ j (Ext.refl _ _ _) (by rw [insI,ae h1,ae h2,ae h3,ae h7,ae h8,ag h9,d0];rfl)
 refine a9 ?_;refine aJ (fun f1=>?_) (fun f1=>?_)
 ·have j:Inv w X ([ei b7 vv.toArray ac,B4,ei V #[hV C,.map (some B),.map (some G),ee (s.fr:Int)] av,.blk B (.map Y a0)]++.blk G (.map r J)::[ei C #[.map (some U),O] aX,.blk U (.map es ck),cA O tr]) S _:=j;refine ⟨fun D TG Ur TO Zb Zo ZE YN Zd Yz w_=>Fx D 0 [Yz=hV V,Zd=hV V,YN=kh V 2,ZE=.map (some G),Zo=kh b4 2,Zb=ee x.b,TO=kh b4 1,Ur=ee x.a,True,True]/\∃ o:Nat,o<=2/\D 8=decide (1<=o)/\D 9=decide (2<=o)/\(mp2S w X S [ei b7 vv.toArray ac,B4,ei V #[hV C,.map (some B),.map (some G),ee (s.fr:Int)] av,.blk B (.map Y a0)] G r J [ei C #[.map (some U),O] aX,.blk U (.map es ck),cA O tr] s.ar x.b (eH x.a) w_ o/\(D 8=true->TG=.agg #[ee 2,ee x.a,.string ⟨#[]⟩,nx])),⟨Fx.nil _ _,⟨0,aT _,rfl,rfl,⟨j.draw,aU⟩⟩⟩,⟨?_,?_,?_,?_,?_,?_,?_,?_,?_,?_,trivial⟩,?_⟩;all_goals (intro D bp;intros;rename_i TG Ur TO Zb Zo ZE YN Zd Yz w_ Z;have g:=Z.1;obtain ⟨⟨cF,ci,cG,cD,bU,cH,cj,cR,dJ,dQ,_⟩,⟨o,l,i,p,m⟩⟩:=Z)
  ·exact ⟨g.set 0 rfl,⟨o,l,i,p,m⟩⟩
  ·obtain rfl:=cF ‹_›;refine bh ?_;exact ⟨g.set 1 rfl,⟨o,l,i,p,m⟩⟩
  ·obtain rfl:=ci ‹_›;refine ax lm ?_;exact ⟨g.set 2 rfl,⟨o,l,i,p,m⟩⟩
  ·obtain rfl:=cG ‹_›;obtain ⟨b0,b1,j⟩:=m.1.any;refine aG j 2 dp rfl rfl ?_;exact ⟨g.set 3 rfl,⟨o,l,i,p,m⟩⟩
  ·refine ax dL ?_;exact ⟨g.set 4 rfl,⟨o,l,i,p,m⟩⟩
  ·obtain rfl:=bU ‹_›;obtain ⟨b0,b1,j⟩:=m.1.any;refine aG j 1 au e4 rfl ?_;exact ⟨g.set 5 rfl,⟨o,l,i,p,m⟩⟩
  ·refine ax bZ ?_;exact ⟨g.set 6 rfl,⟨o,l,i,p,m⟩⟩
  ·obtain rfl:=cj ‹_›;obtain ⟨b0,b1,j⟩:=m.1.any;refine aG j 1 au e4 rfl ?_;exact ⟨g.set 7 rfl,⟨o,l,i,p,m⟩⟩
  ·obtain rfl:=cR ‹_›;obtain rfl:o=0:=jv i bp;have j:Inv w X ([ei b7 vv.toArray ac,B4,ei V #[hV C,.map (some B),.map (some G),ee (s.fr:Int)] av,.blk B (.map Y a0)]++.blk G (.map r J)::[ei C #[.map (some U),O] aX,.blk U (.map es ck),cA O tr]) S w_:=m.1;refine Run.callPure sL tC j (qA _ S) fun w_ j=>?_;have b2:mp2S w X S [ei b7 vv.toArray ac,B4,ei V #[hV C,.map (some B),.map (some G),ee (s.fr:Int)] av,.blk B (.map Y a0)] G r J [ei C #[.map (some U),O] aX,.blk U (.map es ck),cA O tr] s.ar x.b (eH x.a) w_ 1:=j;exact ⟨g.set 8 (by first|assumption|trivial),⟨1,by decide,rfl,(by first|exact p|rfl),⟨b2,fun _=>rfl⟩⟩⟩
  ·obtain rfl:=cD ‹_›;obtain rfl:=cH ‹_›;have z4:=dJ ‹_›;obtain rfl:o=1:=gg i ‹D 8=true› p bp;obtain rfl:=m.2 ‹D 8=true›;have j:Inv w X ([ei b7 vv.toArray ac,B4,ei V #[hV C,.map (some B),.map (some G),ee (s.fr:Int)] av,.blk B (.map Y a0)]++.blk G (.map r J)::[ei C #[.map (some U),O] aX,.blk U (.map es ck),cA O tr]) S w_:=m.1;refine mR (cs:=[ee 2,ee x.a,.string ⟨#[]⟩,nx]) j 4 cX dS rfl hm.ar (qn S x.a hx.1) fun w_ c7 c8 c9 j=>?_;have b2:mp2S w X S [ei b7 vv.toArray ac,B4,ei V #[hV C,.map (some B),.map (some G),ee (s.fr:Int)] av,.blk B (.map Y a0)] G r J [ei C #[.map (some U),O] aX,.blk U (.map es ck),cA O tr] s.ar x.b (eH x.a) w_ 2:=⟨c7,c8,c9,j⟩
   exact ⟨g.set 9 trivial,⟨2,by decide,(by first|exact i|rfl),rfl,⟨b2,m.2⟩⟩⟩
  obtain rfl:o=2:=jD l p ‹D 9=true›;clear i p;obtain ⟨e2,e3,c6,j⟩:=m.1;exact ⟨_,⟨s.sl,upS s.ar x.b (eH x.a),s.fr,s.st⟩,by rw [insI,ae h1,ae h2,ae h3,ae h7,ae h8,ae h9,ag f1],⟨Y,a0,e2,e3,es,ck,O,tr,rfl,hm.sl,c6,hm.st,hm.tr⟩,j.pick [false,false,true,true,true,true,true,true]⟩
 exact c3 _ _ _ j (Ext.refl _ _ _) (by rw [insI,ae h1,ae h2,ae h3,ae h7,ae h8,ae h9,ae f1])
end
end Go.Proofs.YtjbcdmheajljpaaGreat
