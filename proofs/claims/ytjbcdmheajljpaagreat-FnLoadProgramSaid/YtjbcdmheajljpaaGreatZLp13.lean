/- impl's reader: instructions that tell of slots. -/
import Derived.Test.YtjbcdmheajljpaaGreatZLp12
namespace Go.Proofs.YtjbcdmheajljpaaGreat
open Go Go.RowKit
abbrev tV (rb sb mb lb ab fr:Nat) (esL:Array MapEntry) (ckL:Nat) (esA:Array MapEntry) (ckA:Nat) (es:Array MapEntry) (ck:Nat) (tv:Value) (tr:List Int):List Item:=[.blk rb (.cells #[.pointer (some ⟨sb,0,none⟩),.map (some lb),.map (some ab),.int .i64 (fr:Int)] aj),.blk lb (.map esL ckL),.blk ab (.map esA ckA)]++cQ sb mb es ck tv tr
structure RdM (S:ag) (s:RI) (esL esA es:Array MapEntry) (tr:List Int):Prop where
 sl:SlT S esL s.sl
 ar:SlT S esA s.ar
 st:KnownM S es s.st
 tr:tr.length+unb s.st<=1000000
def RdI (rb sb mb lb ab:Nat) (S:ag) (s:RI) (I:List Item):Prop:=∃ esL ckL esA ckA es ck tv tr,I=tV rb sb mb lb ab s.fr esL ckL esA ckA es ck tv tr/\RdM S s esL esA es tr
def sI (rb sb mb lb ab:Nat) (o:Option RI):Value->List Item->ag->Prop:=fun q I' S'=>match o with
 | none=>q=.bool false
 | some s'=>q=.bool true/\RdI rb sb mb lb ab S' s' I'
theorem Gb {r B C D G:Nat} {S:ag} {s:RI} {t u:T} {o:Option RI} {a:Array MapEntry} {j:Nat} {g:Array MapEntry} {l:Nat} {h:Array MapEntry} {m:Nat} {p:Value} {i:List Int} (J:o=unI s t u) (M:SlT S a s.sl) (q:SlT S g s.ar) (N:KnownM S h (uniV s.st t u).2) (O:i.length+unb (uniV s.st t u).2<=1000000) :
  sI r B C D G o (.bool (uniV s.st t u).1) (tV r B C D G s.fr a j g l h m p i) S:=by
 rw [J,unI];cases U:(uniV s.st t u).1 with
 | false=>rw [ae (by decide)]; rfl
 | true=>rw [af rfl]; exact ⟨rfl,a,j,g,l,h,m,p,i,rfl,M,q,N,O⟩
def unS (w:World) (X:List Nat) (S:ag) (H:List Item) (sb mb:Nat) (es:Array MapEntry) (ck:Nat) (tv:Value) (tr:List Int) (st':aX) (w':World):Nat->Prop
 | 0=>Inv w X (H++cQ sb mb es ck tv tr) S w'
 | _=>∃ es' ck' tv' tr',KnownM S es' st'/\tr'.length+unb st'<=1000000/\Inv w X (H++cQ sb mb es' ck' tv' tr') S w'
theorem unS.any {w:World} {X:List Nat} {S:ag} {H:List Item} {l m:Nat} {a:Array MapEntry} {g:Nat} {i:Value} {tr:List Int} {j:aX} {w':World}:∀ {k:Nat},unS w X S H l m a g i tr j w' k->∃ a g i tr,Inv w X (H++cQ l m a g i tr) S w'
 | 0,h=>⟨_,_,_,_,h⟩
 | _+1,⟨_,_,_,_,_,_,h⟩=>⟨_,_,_,_,h⟩
def un2S (w:World) (X:List Nat) (S:ag) (H:List Item) (sb mb:Nat) (es:Array MapEntry) (ck:Nat) (tv:Value) (tr:List Int) (st':aX) (w':World) (k:Nat):Prop:=unS w X S H sb mb es ck tv tr st' w' (k - 1)
theorem un2S.any {w:World} {X:List Nat} {S:ag} {H:List Item} {l m:Nat} {a:Array MapEntry} {g:Nat} {i:Value} {tr:List Int} {j:aX} {w':World} {k:Nat} (h:un2S w X S H l m a g i tr j w' k):∃ a g i tr,Inv w X (H++cQ l m a g i tr) S w':=unS.any h
def mpS (w:World) (X:List Nat) (S:ag) (H:List Item) (m:Nat) (es:Array MapEntry) (ck:Nat) (R:List Item) (sl:Sl) (n:Int) (u:T) (w':World):Nat->Prop
 | 0=>Inv w X (H++.blk m (.map es ck)::R) S w'
 | _=>∃ es' ck',SlT S es' (upS sl n u)/\Inv w X (H++.blk m (.map es' ck')::R) S w'
theorem mpS.any {w:World} {X:List Nat} {S:ag} {H:List Item} {m:Nat} {a:Array MapEntry} {g:Nat} {R:List Item} {sl:Sl} {n:Int} {u:T} {w':World}:∀ {k:Nat},mpS w X S H m a g R sl n u w' k->∃ a g,Inv w X (H++.blk m (.map a g)::R) S w'
 | 0,h=>⟨_,_,h⟩
 | _+1,⟨_,_,_,h⟩=>⟨_,_,h⟩
def mp2S (w:World) (X:List Nat) (S:ag) (H:List Item) (m:Nat) (es:Array MapEntry) (ck:Nat) (R:List Item) (sl:Sl) (n:Int) (u:T) (w':World) (k:Nat):Prop:=mpS w X S H m es ck R sl n u w' (k - 1)
theorem mp2S.any {w:World} {X:List Nat} {S:ag} {H:List Item} {m:Nat} {a:Array MapEntry} {g:Nat} {R:List Item} {sl:Sl} {n:Int} {u:T} {w':World} {k:Nat} (h:mp2S w X S H m a g R sl n u w' k):∃ a g,Inv w X (H++.blk m (.map a g)::R) S w':=mpS.any h
theorem Hw {N D:Nat} {p r:Value} {o:Option (RI × List T)} {q:Value} {I':List Item} {S':ag} (h:NY N D p r o q I' S'):∃ (a:Nat) (g:Array MapEntry) (i:Nat) (t:Sl) (l:List T) (B:Option Addr) (C:Nat) (j:Bool),I'=[.blk N (.cells #[p,.map (some D),r,.int .i64 (a:Int)] aj),.blk D (.map g i)]/\q=.tuple #[.slice B l.length C,.bool j]/\SlT S' g t/\RdSl S' 4 (RdT S') (.slice B l.length C) l/\
  ((j=true/\∃ m,o=some (m,l)/\t=m.sl/\a=m.fr) ∨ (j=false/\o=none)):=by
 obtain ⟨a,g,i,e,h⟩:=h;cases o with
 | none=>
  obtain ⟨G,J,M⟩:=h;exact ⟨a,g,i,J,[],none,0,false,e,G,M,⟨none,0,rfl,be _,aK _,.inl rfl⟩,.inr ⟨rfl,rfl⟩⟩
 | some d=>
  obtain ⟨m,l⟩:=d;obtain ⟨U,V,u,G,O⟩:=h;obtain ⟨B,C,rfl,_⟩:=id O;exact ⟨a,g,i,m.sl,l,B,C,true,e,G,V,O,.inl ⟨rfl,m,rfl,rfl,U⟩⟩
theorem SlT.look2 {S:ag} {g:Array MapEntry} {sl:Sl} (h:SlT S g sl) (n:Int):∃ (a:List Value) (ok:Bool) (u:T),((∃ j,Instr.findNow (.int .i64) (.int .i64 n) g.toList 0=some (some (j,.agg (List.toArray a)))/\ok=true) ∨ (Instr.findNow (.int .i64) (.int .i64 n) g.toList 0=some none/\(Value.agg (List.toArray a))=.agg #[.int .i64 0,.int .i64 0,.string ⟨#[]⟩,.slice none 0 0]/\ok=false))/\a.length=4/\(∀ x∈a,x.oneCell'=true)/\RdT S a u/\((ok=true/\sl n=some u) ∨ (ok=false/\sl n=none)):=by
 rw [nJ g.toList 0 h.1];cases i:sl n with
 | none=>exact ⟨[.int .i64 0,.int .i64 0,.string ⟨#[]⟩,.slice none 0 0],false,.mk 0 0 ⟨#[]⟩ [],.inr ⟨by rw [h.no i],rfl,rfl⟩,rfl,by simp [Value.oneCell'],RdT.iff.2 ⟨_,rfl,by simp [inI,T.kind],by simp [inI,T.n],by rw [T.name]; decide +kernel,⟨none,0,rfl,be _,aK _,.inl rfl⟩⟩,.inr ⟨rfl,rfl⟩⟩
 | some t=>
  obtain ⟨j,cs,e,hR⟩:=h.get i;exact ⟨cs,true,t,.inl ⟨j,by rw [e],rfl⟩,hR.length,hR.one,hR,.inl ⟨rfl,rfl⟩⟩
theorem Gd {S:ag} {nm:ByteArray} {g:List T} {a:Option Addr} {c:Nat} (h:RdSl S 4 (RdT S) (.slice a g.length c) g) (hn:nm.size<=maxLen):RdT S [.int .i64 3,.int .i64 0,.string nm,.slice a g.length c] (fnT nm g):=
 RdT.iff.2 ⟨_,rfl,by simp [inI,T.kind,fnT],by simp [inI,T.n,fnT],hn,h⟩
section
variable {S:ag}
attribute [local irreducible] Run CondV aC aU
theorem DY {w:World} {K:Value->World->Prop} {a:Int} {s:ByteArray} {p:Option Addr} {n m:Nat} (hk:K (.agg #[.int .i64 a,.int .i64 0,.string s,.slice p n m]) w):Run Tryz.prog (bR ac [(0,.int .i64 a),(2,.string s),(3,.slice p n m)]) w K:=by
 refine Run.of (v:=.agg #[.int .i64 a,.int .i64 0,.string s,.slice p n m]) (w':=w) ?_ hk;unfold bR;rw [Sem.run_bind,run_build w ac _ #[.int .i64 a,.int .i64 0,.string s,.slice p n m] (by kernel_rfl),Result.andThen_ok];rfl
set_option maxHeartbeats 4000000 in
theorem Iy {N V C U B G:Nat} (hN:N<=1000000) {s:RI} (hs:okRd N s) {x:Ist} (hx:inI x.a/\x.name.size<=6) {xs:List Ist} {v:Value} (h:RdSl S 4 (dZ S) v xs) (h4:xs.length<=4) (h6:s.fr+xs.length+1<=N) (g3:∀ y∈xs,okI y) {Y:Array MapEntry} {a0:Nat} {r:Array MapEntry} {J:Nat} {es:Array MapEntry} {ck:Nat} {O:Value} {tr:List Int} (hm:RdM S s Y r es tr) :
  Tri Tryz.prog uG [.pointer (some ⟨V,0,none⟩),.agg x.cells.toArray,v] (tV V C U B G s.fr Y a0 r J es ck O tr) S (sI V C U B G (insI s x xs)):=by
 intro w j;obtain ⟨X,hX⟩:∃ X,X=bT (tV V C U B G s.fr Y a0 r J es ck O tr):=⟨_,rfl⟩
 rw [<- hX] at j ⊢;refine kU.2 ?_;dsimp only[kU,fB];refine bH j fun b4 w' j=>?_;obtain ⟨B4,g5⟩:∃ B4,B4=Item.blk b4 (.cells #[.int .i64 x.op,.int .i64 x.a,.int .i64 x.b,.string x.name] aF):=⟨_,rfl⟩
 have e4:=congrArg some g5;have j:Inv w X [B4,.blk V (.cells #[.pointer (some ⟨C,0,none⟩),.map (some B),.map (some G),.int .i64 (s.fr:Int)] aj),.blk B (.map Y a0),.blk G (.map r J),.blk C (.cells #[.map (some U),O] aJ),.blk U (.map es ck),cg O tr] S w':=by rw [g5]; exact j.perm (bK (l₁:=[_]))
 obtain ⟨vv,ok,t,f4,f1,h0,e3,f6⟩:=hm.sl.look2 x.b;refine ⟨fun D x8 x7 tq io nr pT rU ry oQ nq pX xy w_=>Fx D 0 [xy=.pointer (some ⟨V,0,none⟩),pX=.pointer (some ⟨V,0,none⟩),nq=.pointer (some ⟨V,1,none⟩),oQ=.map (some B),ry=.pointer (some ⟨b4,2,none⟩),rU=.int .i64 x.b,pT=.tuple #[.agg vv.toArray,.bool ok],nr=.tuple #[.agg vv.toArray,.bool ok],io=.agg vv.toArray,tq=.bool ok,True,True,x8=.bool ok]/\∃ o:Nat,o<=2/\D 10=decide (1<=o)/\D 11=decide (2<=o)/\(alS w X S [B4,.blk V (.cells #[.pointer (some ⟨C,0,none⟩),.map (some B),.map (some G),.int .i64 (s.fr:Int)] aj),.blk B (.map Y a0),.blk G (.map r J),.blk C (.cells #[.map (some U),O] aJ),.blk U (.map es ck),cg O tr] vv x7 w_ o),⟨Fx.nil _ _,⟨0,aK _,rfl,rfl,j.draw⟩⟩,⟨?_,?_,?_,?_,?_,?_,?_,?_,?_,?_,?_,?_,?_,trivial⟩,?_⟩;all_goals (intro D bw; intros; rename_i x8 x7 tq io nr pT rU ry oQ nq pX xy w_ Z; have g:=Z.1; obtain ⟨⟨cG,cf,cD,cF,bQ,cE,bZ,cL,dw,dl,ci,c8,dN,_⟩,⟨o,l,i,p,m⟩⟩:=Z)
 ·exact ⟨g.set 0 rfl,⟨o,l,i,p,m⟩⟩
 ·obtain rfl:=cG ‹_›;refine aL ?_;exact ⟨g.set 1 rfl,⟨o,l,i,p,m⟩⟩
 ·obtain rfl:=cf ‹_›;refine au dD ?_;exact ⟨g.set 2 rfl,⟨o,l,i,p,m⟩⟩
 ·obtain rfl:=cD ‹_›;have j:=m.any;refine aD j 1 cK rfl rfl ?_;exact ⟨g.set 3 rfl,⟨o,l,i,p,m⟩⟩
 ·refine au jz ?_;exact ⟨g.set 4 rfl,⟨o,l,i,p,m⟩⟩
 ·obtain rfl:=bQ ‹_›;have j:=m.any;refine aD j 0 aw e4 rfl ?_;exact ⟨g.set 5 rfl,⟨o,l,i,p,m⟩⟩
 ·obtain rfl:=cF ‹_›;obtain rfl:=cE ‹_›;have j:=m.any;refine d4 (c:=true) (ok:=ok) (v:=.agg vv.toArray) (j.its (.blk B (.map Y a0)) (by simp)) cj c7 aM f4 ?_;exact ⟨g.set 6 rfl,⟨o,l,i,p,m⟩⟩
 ·obtain rfl:=bZ ‹_›;exact ⟨g.set 7 rfl,⟨o,l,i,p,m⟩⟩
 ·obtain rfl:=cL ‹_›;refine aA rfl ?_;exact ⟨g.set 8 rfl,⟨o,l,i,p,m⟩⟩
 ·obtain rfl:=cL ‹_›;refine aA rfl ?_;exact ⟨g.set 9 rfl,⟨o,l,i,p,m⟩⟩
 ·obtain rfl:o=0:=iI i bw;refine aH m aM fun b w_ j=>?_;have m:alS w X S [B4,.blk V (.cells #[.pointer (some ⟨C,0,none⟩),.map (some B),.map (some G),.int .i64 (s.fr:Int)] aj),.blk B (.map Y a0),.blk G (.map r J),.blk C (.cells #[.map (some U),O] aJ),.blk U (.map es ck),cg O tr] vv (.pointer (some ⟨b,0,none⟩)) w_ 1:=⟨b,rfl,j.perm (bK (l₁:=[_]))⟩
  exact ⟨g.set 10 (by first|assumption|trivial),⟨1,by decide,rfl,(by first|exact p|rfl),m⟩⟩
 ·have Gj:=ci ‹_›;obtain rfl:=dw ‹_›;obtain rfl:o=1:=gF i ‹D 10=true› p bw;obtain ⟨b,rfl,j⟩:=m;refine al j 0 rfl ad (by simpa using f1) rfl (by simpa using h0) fun w_ j=>?_;have m:alS w X S [B4,.blk V (.cells #[.pointer (some ⟨C,0,none⟩),.map (some B),.map (some G),.int .i64 (s.fr:Int)] aj),.blk B (.map Y a0),.blk G (.map r J),.blk C (.cells #[.map (some U),O] aJ),.blk U (.map es ck),cg O tr] vv (.pointer (some ⟨b,0,none⟩)) w_ 2:=⟨b,rfl,j⟩
  exact ⟨g.set 11 trivial,⟨2,by decide,(by first|exact i|rfl),rfl,m⟩⟩
 ·obtain rfl:=dl ‹_›;exact ⟨g.set 12 rfl,⟨o,l,i,p,m⟩⟩
 obtain rfl:o=2:=iH l p ‹D 11=true›;have AF:D 12=true:=by assumption
 clear i p;obtain ⟨b7,rfl,j⟩:=m;obtain rfl:=dN AF;have j:Inv w X [.blk b7 (.cells vv.toArray ac),B4,.blk V (.cells #[.pointer (some ⟨C,0,none⟩),.map (some B),.map (some G),.int .i64 (s.fr:Int)] aj),.blk B (.map Y a0),.blk G (.map r J),.blk C (.cells #[.map (some U),O] aJ),.blk U (.map es ck),cg O tr] S w_:=j;have c2:∀ (L:List Item) (S2:ag) (w2:World),Inv w X L S2 w2->Ext w.heap.size X S S2->insI s x xs=none->∃ v I' S',Ending.returned (.bool false)=Ending.returned v/\Inv w X I' S' w2/\Ext w.heap.size X S S'/\sI V C U B G (insI s x xs) v I' S':=fun L S2 w2 h1 h2 h3=>⟨_,L,S2,rfl,h1,h2,by rw [h3]; rfl⟩
 refine ⟨fun w'=>∃ I' s',insI s x xs=some s'/\RdI V C U B G S s' I'/\Inv w X I' S w',?_,?_⟩
 rotate_left
 intro _ _ _ _ _ _ _ _ _ _ _ _ _ _ _ _ _ _ _ _ _ _ _ _ _ _ _ _ _ _ _ _ _ _ _ _ _ _ _ _ _ _ _ _ _ _ _ _ _ _ _ _ _ _ _ _ _ _ _ _ _ _ _ _ _ _ _ _ _ _ _ _ _ _ _ _ _ _ _ _ _ _ _ _ _ _ _ _ _ _ _ _ _ _ _ _ _ _ _ _ _ _ _ _ _ _ _ _ _ _ _ _ _ _ _ _ _ _ _ _ _ _ _ _ _ _ _ _ _ _ _ _ _ _ _ _ _ _ _ _ _ _ _ _ _ _ _ w';rintro ⟨I',s',e,hR,j⟩;exact ⟨_,I',S,rfl,j,Ext.refl _ _ _,by rw [e]; exact ⟨rfl,hR⟩⟩;refine ah j 1 e4 jA aw rfl ?_;refine bn ?_;refine aS (fun h1=>?_) (fun h1=>?_)
 ·obtain ⟨uu,c1,u,b8,e7,f2,e8,f7⟩:=hm.sl.look2 x.a;refine ⟨fun D sX x9 Aq xZ yy qe s0 ra xp z4 DZ Du w_=>Fx D 0 [Du=.pointer (some ⟨V,0,none⟩),DZ=.pointer (some ⟨V,0,none⟩),z4=.pointer (some ⟨V,1,none⟩),xp=.map (some B),ra=.pointer (some ⟨b4,1,none⟩),s0=.int .i64 x.a,qe=.tuple #[.agg uu.toArray,.bool c1],yy=.tuple #[.agg uu.toArray,.bool c1],xZ=.agg uu.toArray,Aq=.bool c1,True,True,sX=.bool c1]/\∃ o:Nat,o<=2/\D 10=decide (1<=o)/\D 11=decide (2<=o)/\(alS w X S [.blk b7 (.cells vv.toArray ac),B4,.blk V (.cells #[.pointer (some ⟨C,0,none⟩),.map (some B),.map (some G),.int .i64 (s.fr:Int)] aj),.blk B (.map Y a0),.blk G (.map r J),.blk C (.cells #[.map (some U),O] aJ),.blk U (.map es ck),cg O tr] uu x9 w_ o),⟨Fx.nil _ _,⟨0,aK _,rfl,rfl,j.draw⟩⟩,⟨?_,?_,?_,?_,?_,?_,?_,?_,?_,?_,?_,?_,?_,trivial⟩,?_⟩;all_goals (intro D bw; intros; rename_i sX x9 Aq xZ yy qe s0 ra xp z4 DZ Du w_ Z; have g:=Z.1; obtain ⟨⟨cG,cf,cD,cF,bQ,cE,bZ,cL,dw,dl,ci,c8,dN,_⟩,⟨o,l,i,p,m⟩⟩:=Z)
  ·exact ⟨g.set 0 rfl,⟨o,l,i,p,m⟩⟩
  ·obtain rfl:=cG ‹_›;refine aL ?_;exact ⟨g.set 1 rfl,⟨o,l,i,p,m⟩⟩
  ·obtain rfl:=cf ‹_›;refine au dD ?_;exact ⟨g.set 2 rfl,⟨o,l,i,p,m⟩⟩
  ·obtain rfl:=cD ‹_›;have j:=m.any;refine aD j 2 cK rfl rfl ?_;exact ⟨g.set 3 rfl,⟨o,l,i,p,m⟩⟩
  ·refine au dJ ?_;exact ⟨g.set 4 rfl,⟨o,l,i,p,m⟩⟩
  ·obtain rfl:=bQ ‹_›;have j:=m.any;refine aD j 1 aw e4 rfl ?_;exact ⟨g.set 5 rfl,⟨o,l,i,p,m⟩⟩
  ·obtain rfl:=cF ‹_›;obtain rfl:=cE ‹_›;have j:=m.any;refine d4 (c:=true) (ok:=c1) (v:=.agg uu.toArray) (j.its (.blk B (.map Y a0)) (by simp)) cj c7 aM b8 ?_;exact ⟨g.set 6 rfl,⟨o,l,i,p,m⟩⟩
  ·obtain rfl:=bZ ‹_›;exact ⟨g.set 7 rfl,⟨o,l,i,p,m⟩⟩
  ·obtain rfl:=cL ‹_›;refine aA rfl ?_;exact ⟨g.set 8 rfl,⟨o,l,i,p,m⟩⟩
  ·obtain rfl:=cL ‹_›;refine aA rfl ?_;exact ⟨g.set 9 rfl,⟨o,l,i,p,m⟩⟩
  ·obtain rfl:o=0:=iI i bw;refine aH m aM fun b w_ j=>?_;have m:alS w X S [.blk b7 (.cells vv.toArray ac),B4,.blk V (.cells #[.pointer (some ⟨C,0,none⟩),.map (some B),.map (some G),.int .i64 (s.fr:Int)] aj),.blk B (.map Y a0),.blk G (.map r J),.blk C (.cells #[.map (some U),O] aJ),.blk U (.map es ck),cg O tr] uu (.pointer (some ⟨b,0,none⟩)) w_ 1:=⟨b,rfl,j.perm (bK (l₁:=[_]))⟩
   exact ⟨g.set 10 (by first|assumption|trivial),⟨1,by decide,rfl,(by first|exact p|rfl),m⟩⟩
  ·have Gj:=ci ‹_›;obtain rfl:=dw ‹_›;obtain rfl:o=1:=gF i ‹D 10=true› p bw;obtain ⟨b,rfl,j⟩:=m;refine al j 0 rfl ad (by simpa using e7) rfl (by simpa using f2) fun w_ j=>?_;have m:alS w X S [.blk b7 (.cells vv.toArray ac),B4,.blk V (.cells #[.pointer (some ⟨C,0,none⟩),.map (some B),.map (some G),.int .i64 (s.fr:Int)] aj),.blk B (.map Y a0),.blk G (.map r J),.blk C (.cells #[.map (some U),O] aJ),.blk U (.map es ck),cg O tr] uu (.pointer (some ⟨b,0,none⟩)) w_ 2:=⟨b,rfl,j⟩
   exact ⟨g.set 11 trivial,⟨2,by decide,(by first|exact i|rfl),rfl,m⟩⟩
  ·obtain rfl:=dl ‹_›;exact ⟨g.set 12 rfl,⟨o,l,i,p,m⟩⟩
  obtain rfl:o=2:=iH l p ‹D 11=true›;have AF:D 12=true:=by assumption
  clear i p;obtain ⟨b9,rfl,j⟩:=m;obtain rfl:=dN AF;rcases f6 with ⟨rfl,b2⟩|⟨rfl,b2⟩
  ·rcases f7 with ⟨rfl,d1⟩|⟨rfl,d1⟩
   ·have a8:insI s x xs=unI s t u:=by
     rw [insI,af h1,b2];show (s.sl x.a).bind _=_;rw [d1]; rfl
    have hj:okJ N (.one t u):=⟨⟨eG hs.le t (hs.sl _ _ b2).1,(hs.sl _ _ b2).2⟩,⟨eG hs.le u (hs.sl _ _ d1).1,(hs.sl _ _ d1).2⟩⟩
    have f0:=mg hN hs.good hj (mp hs.good hj);have j:Inv w X ([.blk b9 (.cells uu.toArray ac),.blk b7 (.cells vv.toArray ac),B4,.blk V (.cells #[.pointer (some ⟨C,0,none⟩),.map (some B),.map (some G),.int .i64 (s.fr:Int)] aj),.blk B (.map Y a0),.blk G (.map r J)]++cQ C U es ck O tr) S w_:=j;refine ⟨fun D x6 pD ot pf n6 n9 ox mG oH oE oe oa pd py w_=>Fx D 0 [py=.bool true,pd=.bool true,oa=.bool true,oe=.bool true,oE=.bool true,oH=.pointer (some ⟨V,0,none⟩),mG=.pointer (some ⟨V,0,none⟩),ox=.pointer (some ⟨V,0,none⟩),n9=.pointer (some ⟨C,0,none⟩),n6=.agg vv.toArray,pf=.agg uu.toArray,True,pD=.bool (uniV s.st t u).1,x6=.bool (uniV s.st t u).1]/\∃ o:Nat,o<=1/\D 11=decide (1<=o)/\(unS w X S [.blk b9 (.cells uu.toArray ac),.blk b7 (.cells vv.toArray ac),B4,.blk V (.cells #[.pointer (some ⟨C,0,none⟩),.map (some B),.map (some G),.int .i64 (s.fr:Int)] aj),.blk B (.map Y a0),.blk G (.map r J)] C U es ck O tr (uniV s.st t u).2 w_ o/\(D 11=true->ot=.bool (uniV s.st t u).1)),⟨Fx.nil _ _,⟨0,aK _,rfl,⟨j.draw,aY⟩⟩⟩,⟨?_,?_,?_,?_,?_,?_,?_,?_,?_,?_,?_,?_,?_,?_,trivial⟩,?_⟩;all_goals (intro D bw; intros; rename_i x6 pD ot pf n6 n9 ox mG oH oE oe oa pd py w_ Z; have g:=Z.1; obtain ⟨⟨cG,cf,cD,cF,bQ,cE,bZ,cL,dw,dl,ci,c8,dN,fJ,_⟩,⟨o,l,i,m⟩⟩:=Z)
    ·exact ⟨g.set 0 rfl,⟨o,l,i,m⟩⟩
    ·obtain rfl:=cG ‹_›;exact ⟨g.set 1 rfl,⟨o,l,i,m⟩⟩
    ·obtain rfl:=cf ‹_›;refine rpG ?_;exact ⟨g.set 2 rfl,⟨o,l,i,m⟩⟩
    ·obtain rfl:=cf ‹_›;obtain rfl:=cD ‹_›;refine rpG ?_;exact ⟨g.set 3 rfl,⟨o,l,i,m⟩⟩
    ·obtain rfl:=cF ‹_›;exact ⟨g.set 4 rfl,⟨o,l,i,m⟩⟩
    ·obtain rfl:=bQ ‹_›;refine rpG ?_;exact ⟨g.set 5 rfl,⟨o,l,i,m⟩⟩
    ·obtain rfl:=cE ‹_›;obtain rfl:=bQ ‹_›;refine rpG ?_;refine aL ?_;exact ⟨g.set 6 rfl,⟨o,l,i,m⟩⟩
    ·obtain rfl:=bZ ‹_›;obtain rfl:=bQ ‹_›;refine rpG ?_;refine au jk ?_;exact ⟨g.set 7 rfl,⟨o,l,i,m⟩⟩
    ·obtain rfl:=cL ‹_›;obtain rfl:=bQ ‹_›;refine rpG ?_;obtain ⟨a9,b0,e1,e2,j⟩:=m.1.any;refine aD j 3 hZ rfl rfl ?_;exact ⟨g.set 8 rfl,⟨o,l,i,m⟩⟩
    ·obtain rfl:=bQ ‹_›;refine rpG ?_;obtain ⟨a9,b0,e1,e2,j⟩:=m.1.any;refine aq j 1 ad rfl (by simpa using f1) ?_;exact ⟨g.set 9 rfl,⟨o,l,i,m⟩⟩
    ·obtain rfl:=bQ ‹_›;refine rpG ?_;obtain ⟨a9,b0,e1,e2,j⟩:=m.1.any;refine aq j 0 ad rfl (by simpa using e7) ?_;exact ⟨g.set 10 rfl,⟨o,l,i,m⟩⟩
    ·obtain rfl:=dw ‹_›;obtain rfl:=dl ‹_›;obtain rfl:=ci ‹_›;obtain rfl:=bQ ‹_›;obtain rfl:o=0:=iI i bw;refine rpG ?_;refine Run.callE gA gB m.1 (f0 S _ _ C U ck es O tr e3 e8 hm.st hm.tr) fun v' I' S' w_=>?_;rintro ⟨eS,rfl,d6,d7,d9,e0,rfl,c4,b3,g4⟩ _ j;rw [eS] at j;have b1:unS w X S [.blk b9 (.cells uu.toArray ac),.blk b7 (.cells vv.toArray ac),B4,.blk V (.cells #[.pointer (some ⟨C,0,none⟩),.map (some B),.map (some G),.int .i64 (s.fr:Int)] aj),.blk B (.map Y a0),.blk G (.map r J)] C U es ck O tr (uniV s.st t u).2 w_ 1:=⟨d6,d7,d9,e0,c4,b3,j⟩
     exact ⟨g.set 11 (by first|assumption|trivial),⟨1,by decide,rfl,⟨b1,fun _=>rfl⟩⟩⟩
    ·obtain rfl:=bQ ‹_›;have Rv:=c8 ‹_›;obtain rfl:=m.2 ‹D 11=true›;refine rpG ?_;exact ⟨g.set 12 rfl,⟨o,l,i,m⟩⟩
    ·obtain rfl:=dN ‹_›;exact ⟨g.set 13 rfl,⟨o,l,i,m⟩⟩
    obtain rfl:o=1:=iH l i ‹D 11=true›;have T4:D 13=true:=by assumption
    clear i;obtain rfl:=fJ T4;obtain ⟨d6,d7,d9,e0,c4,b3,j⟩:=m.1;exact ⟨_,_,S,rfl,j.pick [false,false,false,true,true,true,true,true,true],Ext.refl _ _ _,Gb a8 hm.sl hm.ar c4 b3⟩
   ·have a8:insI s x xs=none:=by
     rw [insI,af h1,b2];show (s.sl x.a).bind _=_;rw [d1]; rfl
    refine ⟨fun D x6 pD ot pf n6 n9 ox mG oH oE oe oa pd py w_=>Fx D 0 [py=.bool true,pd=.bool true,oa=.bool false,oe=.bool false,oE=.bool false,oH=undef,mG=undef,ox=undef,n9=undef,n6=undef,pf=undef,ot=undef,pD=.bool false,x6=.bool false]/\Inv w X [.blk b9 (.cells uu.toArray ac),.blk b7 (.cells vv.toArray ac),B4,.blk V (.cells #[.pointer (some ⟨C,0,none⟩),.map (some B),.map (some G),.int .i64 (s.fr:Int)] aj),.blk B (.map Y a0),.blk G (.map r J),.blk C (.cells #[.map (some U),O] aJ),.blk U (.map es ck),cg O tr] S w_,⟨Fx.nil _ _,j.draw⟩,⟨?_,?_,?_,?_,?_,?_,?_,?_,?_,?_,?_,?_,?_,?_,trivial⟩,?_⟩;all_goals (intro D bw; intros; rename_i x6 pD ot pf n6 n9 ox mG oH oE oe oa pd py w_ Z; have g:=Z.1; obtain ⟨⟨cG,cf,cD,cF,bQ,cE,bZ,cL,dw,dl,ci,c8,dN,fJ,_⟩,j⟩:=Z)
    ·exact ⟨g.set 0 rfl,j⟩
    ·obtain rfl:=cG ‹_›;exact ⟨g.set 1 rfl,j⟩
    ·obtain rfl:=cf ‹_›;refine rpG ?_;exact ⟨g.set 2 rfl,j⟩
    ·obtain rfl:=cf ‹_›;obtain rfl:=cD ‹_›;refine rpG ?_;exact ⟨g.set 3 rfl,j⟩
    ·obtain rfl:=cF ‹_›;exact ⟨g.set 4 rfl,j⟩
    ·obtain rfl:=bQ ‹_›;refine rpG ?_;exact ⟨g.set 5 rfl,j⟩
    ·obtain rfl:=cE ‹_›;obtain rfl:=bQ ‹_›;refine rpG ?_;exact ⟨g.set 6 rfl,j⟩
    ·obtain rfl:=bZ ‹_›;obtain rfl:=bQ ‹_›;refine rpG ?_;exact ⟨g.set 7 rfl,j⟩
    ·obtain rfl:=cL ‹_›;obtain rfl:=bQ ‹_›;refine rpG ?_;exact ⟨g.set 8 rfl,j⟩
    ·obtain rfl:=bQ ‹_›;refine rpG ?_;exact ⟨g.set 9 rfl,j⟩
    ·obtain rfl:=bQ ‹_›;refine rpG ?_;exact ⟨g.set 10 rfl,j⟩
    ·obtain rfl:=dw ‹_›;obtain rfl:=dl ‹_›;obtain rfl:=ci ‹_›;obtain rfl:=bQ ‹_›;refine rpG ?_;exact ⟨g.set 11 rfl,j⟩
    ·obtain rfl:=bQ ‹_›;obtain rfl:=c8 ‹_›;refine rpG ?_;exact ⟨g.set 12 rfl,j⟩
    ·obtain rfl:=dN ‹_›;exact ⟨g.set 13 rfl,j⟩
    obtain ⟨rfl,rfl,rfl,rfl,rfl,rfl,rfl,rfl,rfl,rfl,rfl,rfl,rfl,rfl,_⟩:=g.all;clear g cG cf cD cF bQ cE bZ cL dw dl ci c8 dN fJ;exact c2 _ _ _ j (Ext.refl _ _ _) a8
  ·have a8:insI s x xs=none:=by
    rw [insI,af h1,b2]; rfl
   refine ⟨fun D x6 pD ot pf n6 n9 ox mG oH oE oe oa pd py w_=>Fx D 0 [py=.bool false,pd=.bool false,oa=undef,oe=.bool false,oE=.bool false,oH=undef,mG=undef,ox=undef,n9=undef,n6=undef,pf=undef,ot=undef,pD=.bool false,x6=.bool false]/\Inv w X [.blk b9 (.cells uu.toArray ac),.blk b7 (.cells vv.toArray ac),B4,.blk V (.cells #[.pointer (some ⟨C,0,none⟩),.map (some B),.map (some G),.int .i64 (s.fr:Int)] aj),.blk B (.map Y a0),.blk G (.map r J),.blk C (.cells #[.map (some U),O] aJ),.blk U (.map es ck),cg O tr] S w_,⟨Fx.nil _ _,j.draw⟩,⟨?_,?_,?_,?_,?_,?_,?_,?_,?_,?_,?_,?_,?_,?_,trivial⟩,?_⟩;all_goals (intro D bw; intros; rename_i x6 pD ot pf n6 n9 ox mG oH oE oe oa pd py w_ Z; have g:=Z.1; obtain ⟨⟨cG,cf,cD,cF,bQ,cE,bZ,cL,dw,dl,ci,c8,dN,fJ,_⟩,j⟩:=Z)
   ·exact ⟨g.set 0 rfl,j⟩
   ·obtain rfl:=cG ‹_›;exact ⟨g.set 1 rfl,j⟩
   ·obtain rfl:=cf ‹_›;refine rpG ?_;exact ⟨g.set 2 rfl,j⟩
   ·obtain rfl:=cf ‹_›;obtain rfl:=cD ‹_›;refine rpG ?_;exact ⟨g.set 3 rfl,j⟩
   ·obtain rfl:=cF ‹_›;exact ⟨g.set 4 rfl,j⟩
   ·obtain rfl:=bQ ‹_›;refine rpG ?_;exact ⟨g.set 5 rfl,j⟩
   ·obtain rfl:=cE ‹_›;obtain rfl:=bQ ‹_›;refine rpG ?_;exact ⟨g.set 6 rfl,j⟩
   ·obtain rfl:=bZ ‹_›;obtain rfl:=bQ ‹_›;refine rpG ?_;exact ⟨g.set 7 rfl,j⟩
   ·obtain rfl:=cL ‹_›;obtain rfl:=bQ ‹_›;refine rpG ?_;exact ⟨g.set 8 rfl,j⟩
   ·obtain rfl:=bQ ‹_›;refine rpG ?_;exact ⟨g.set 9 rfl,j⟩
   ·obtain rfl:=bQ ‹_›;refine rpG ?_;exact ⟨g.set 10 rfl,j⟩
   ·obtain rfl:=dw ‹_›;obtain rfl:=dl ‹_›;obtain rfl:=ci ‹_›;obtain rfl:=bQ ‹_›;refine rpG ?_;exact ⟨g.set 11 rfl,j⟩
   ·obtain rfl:=bQ ‹_›;obtain rfl:=c8 ‹_›;refine rpG ?_;exact ⟨g.set 12 rfl,j⟩
   ·obtain rfl:=dN ‹_›;exact ⟨g.set 13 rfl,j⟩
   obtain ⟨rfl,rfl,rfl,rfl,rfl,rfl,rfl,rfl,rfl,rfl,rfl,rfl,rfl,rfl,_⟩:=g.all;clear g cG cf cD cF bQ cE bZ cL dw dl ci c8 dN fJ;exact c2 _ _ _ j (Ext.refl _ _ _) a8
 refine bn ?_;refine aS (fun h2=>?_) (fun h2=>?_)
 ·rcases f6 with ⟨rfl,b2⟩|⟨rfl,b2⟩
  ·have a8:insI s x xs=unI s t (fT x.a):=by
    rw [insI,ae h1,af h2,b2]; rfl
   have hj:okJ N (.one t (fT x.a)):=⟨⟨eG hs.le t (hs.sl _ _ b2).1,(hs.sl _ _ b2).2⟩,tB N x.a⟩
   have f0:=mg hN hs.good hj (mp hs.good hj);have j:Inv w X ([.blk b7 (.cells vv.toArray ac),B4,.blk V (.cells #[.pointer (some ⟨C,0,none⟩),.map (some B),.map (some G),.int .i64 (s.fr:Int)] aj),.blk B (.map Y a0),.blk G (.map r J)]++cQ C U es ck O tr) S _:=j;refine ⟨fun D x6 Pq Lw Bz BT yU yk tU rr rT pE rY oG w_=>Fx D 0 [oG=.bool true,rY=.bool true,pE=.pointer (some ⟨V,0,none⟩),rT=.pointer (some ⟨V,0,none⟩),rr=.pointer (some ⟨V,0,none⟩),tU=.pointer (some ⟨C,0,none⟩),yk=.agg vv.toArray,yU=.pointer (some ⟨b4,1,none⟩),BT=.int .i64 x.a,True,True,Pq=.bool (uniV s.st t (fT x.a)).1,x6=.bool (uniV s.st t (fT x.a)).1]/\∃ o:Nat,o<=2/\D 9=decide (1<=o)/\D 10=decide (2<=o)/\(un2S w X S [.blk b7 (.cells vv.toArray ac),B4,.blk V (.cells #[.pointer (some ⟨C,0,none⟩),.map (some B),.map (some G),.int .i64 (s.fr:Int)] aj),.blk B (.map Y a0),.blk G (.map r J)] C U es ck O tr (uniV s.st t (fT x.a)).2 w_ o/\(D 9=true->Bz=.agg #[.int .i64 2,.int .i64 x.a,.string ⟨#[]⟩,.slice none 0 0])/\(D 10=true->Lw=.bool (uniV s.st t (fT x.a)).1)),⟨Fx.nil _ _,⟨0,aK _,rfl,rfl,⟨j.draw,aY,aY⟩⟩⟩,⟨?_,?_,?_,?_,?_,?_,?_,?_,?_,?_,?_,?_,?_,trivial⟩,?_⟩;all_goals (intro D bw; intros; rename_i x6 Pq Lw Bz BT yU yk tU rr rT pE rY oG w_ Z; have g:=Z.1; obtain ⟨⟨cG,cf,cD,cF,bQ,cE,bZ,cL,dw,dl,ci,c8,dN,_⟩,⟨o,l,i,p,m⟩⟩:=Z)
   ·exact ⟨g.set 0 rfl,⟨o,l,i,p,m⟩⟩
   ·obtain rfl:=cG ‹_›;exact ⟨g.set 1 rfl,⟨o,l,i,p,m⟩⟩
   ·obtain rfl:=cf ‹_›;refine rpG ?_;exact ⟨g.set 2 rfl,⟨o,l,i,p,m⟩⟩
   ·obtain rfl:=cD ‹_›;obtain rfl:=cf ‹_›;refine rpG ?_;refine aL ?_;exact ⟨g.set 3 rfl,⟨o,l,i,p,m⟩⟩
   ·obtain rfl:=cF ‹_›;obtain rfl:=cf ‹_›;refine rpG ?_;refine au jk ?_;exact ⟨g.set 4 rfl,⟨o,l,i,p,m⟩⟩
   ·obtain rfl:=bQ ‹_›;obtain rfl:=cf ‹_›;refine rpG ?_;obtain ⟨a9,b0,e1,e2,j⟩:=m.1.any;refine aD j 2 hZ rfl rfl ?_;exact ⟨g.set 5 rfl,⟨o,l,i,p,m⟩⟩
   ·obtain rfl:=cf ‹_›;refine rpG ?_;obtain ⟨a9,b0,e1,e2,j⟩:=m.1.any;refine aq j 0 ad rfl (by simpa using f1) ?_;exact ⟨g.set 6 rfl,⟨o,l,i,p,m⟩⟩
   ·obtain rfl:=cf ‹_›;refine rpG ?_;refine au dJ ?_;exact ⟨g.set 7 rfl,⟨o,l,i,p,m⟩⟩
   ·obtain rfl:=cL ‹_›;obtain rfl:=cf ‹_›;refine rpG ?_;obtain ⟨a9,b0,e1,e2,j⟩:=m.1.any;refine aD j 1 aw e4 rfl ?_;exact ⟨g.set 8 rfl,⟨o,l,i,p,m⟩⟩
   ·obtain rfl:=dw ‹_›;obtain rfl:=cf ‹_›;obtain rfl:o=0:=iI i bw;refine rpG ?_;have j:Inv w X ([.blk b7 (.cells vv.toArray ac),B4,.blk V (.cells #[.pointer (some ⟨C,0,none⟩),.map (some B),.map (some G),.int .i64 (s.fr:Int)] aj),.blk B (.map Y a0),.blk G (.map r J)]++cQ C U es ck O tr) S w_:=m.1;refine Run.callPure qg qi j (nQ _ S) fun w_ j=>?_;have b1:un2S w X S [.blk b7 (.cells vv.toArray ac),B4,.blk V (.cells #[.pointer (some ⟨C,0,none⟩),.map (some B),.map (some G),.int .i64 (s.fr:Int)] aj),.blk B (.map Y a0),.blk G (.map r J)] C U es ck O tr (uniV s.st t (fT x.a)).2 w_ 1:=j;exact ⟨g.set 9 (by first|assumption|trivial),⟨1,by decide,rfl,(by first|exact p|rfl),⟨b1,fun _=>rfl,m.2.2⟩⟩⟩
   ·obtain rfl:=cE ‹_›;obtain rfl:=bZ ‹_›;have DC:=dl ‹_›;obtain rfl:=cf ‹_›;obtain rfl:o=1:=gF i ‹D 9=true› p bw;obtain rfl:=m.2.1 ‹D 9=true›;refine rpG ?_;have j:Inv w X ([.blk b7 (.cells vv.toArray ac),B4,.blk V (.cells #[.pointer (some ⟨C,0,none⟩),.map (some B),.map (some G),.int .i64 (s.fr:Int)] aj),.blk B (.map Y a0),.blk G (.map r J)]++cQ C U es ck O tr) S w_:=m.1;refine Run.callE gA gB j (f0 S _ _ C U ck es O tr e3 (zE S x.a hx.1) hm.st hm.tr) fun v' I' S' w_=>?_;rintro ⟨eS,rfl,d6,d7,d9,e0,rfl,c4,b3,g4⟩ _ j;rw [eS] at j;have b1:un2S w X S [.blk b7 (.cells vv.toArray ac),B4,.blk V (.cells #[.pointer (some ⟨C,0,none⟩),.map (some B),.map (some G),.int .i64 (s.fr:Int)] aj),.blk B (.map Y a0),.blk G (.map r J)] C U es ck O tr (uniV s.st t (fT x.a)).2 w_ 2:=⟨d6,d7,d9,e0,c4,b3,j⟩
    exact ⟨g.set 10 (by first|assumption|trivial),⟨2,by decide,(by first|exact i|rfl),rfl,⟨b1,m.2.1,fun _=>rfl⟩⟩⟩
   ·obtain rfl:=cf ‹_›;have Gj:=ci ‹_›;obtain rfl:=m.2.2 ‹D 10=true›;refine rpG ?_;exact ⟨g.set 11 rfl,⟨o,l,i,p,m⟩⟩
   ·obtain rfl:=c8 ‹_›;exact ⟨g.set 12 rfl,⟨o,l,i,p,m⟩⟩
   obtain rfl:o=2:=iH l p ‹D 10=true›;have AF:D 12=true:=by assumption
   clear i p;obtain rfl:=dN AF;obtain ⟨d6,d7,d9,e0,c4,b3,j⟩:=m.1;exact ⟨_,_,S,rfl,j.pick [false,false,true,true,true,true,true,true],Ext.refl _ _ _,Gb a8 hm.sl hm.ar c4 b3⟩
  ·have a8:insI s x xs=none:=by
    rw [insI,ae h1,af h2,b2]; rfl
   refine ⟨fun D x6 Pq Lw Bz BT yU yk tU rr rT pE rY oG w_=>Fx D 0 [oG=.bool false,rY=.bool false,pE=undef,rT=undef,rr=undef,tU=undef,yk=undef,yU=undef,BT=undef,Bz=undef,Lw=undef,Pq=.bool false,x6=.bool false]/\Inv w X [.blk b7 (.cells vv.toArray ac),B4,.blk V (.cells #[.pointer (some ⟨C,0,none⟩),.map (some B),.map (some G),.int .i64 (s.fr:Int)] aj),.blk B (.map Y a0),.blk G (.map r J),.blk C (.cells #[.map (some U),O] aJ),.blk U (.map es ck),cg O tr] S w_,⟨Fx.nil _ _,j.draw⟩,⟨?_,?_,?_,?_,?_,?_,?_,?_,?_,?_,?_,?_,?_,trivial⟩,?_⟩;all_goals (intro D bw; intros; rename_i x6 Pq Lw Bz BT yU yk tU rr rT pE rY oG w_ Z; have g:=Z.1; obtain ⟨⟨cG,cf,cD,cF,bQ,cE,bZ,cL,dw,dl,ci,c8,dN,_⟩,j⟩:=Z)
   ·exact ⟨g.set 0 rfl,j⟩
   ·obtain rfl:=cG ‹_›;exact ⟨g.set 1 rfl,j⟩
   ·obtain rfl:=cf ‹_›;refine rpG ?_;exact ⟨g.set 2 rfl,j⟩
   ·obtain rfl:=cD ‹_›;obtain rfl:=cf ‹_›;refine rpG ?_;exact ⟨g.set 3 rfl,j⟩
   ·obtain rfl:=cF ‹_›;obtain rfl:=cf ‹_›;refine rpG ?_;exact ⟨g.set 4 rfl,j⟩
   ·obtain rfl:=bQ ‹_›;obtain rfl:=cf ‹_›;refine rpG ?_;exact ⟨g.set 5 rfl,j⟩
   ·obtain rfl:=cf ‹_›;refine rpG ?_;exact ⟨g.set 6 rfl,j⟩
   ·obtain rfl:=cf ‹_›;refine rpG ?_;exact ⟨g.set 7 rfl,j⟩
   ·obtain rfl:=cL ‹_›;obtain rfl:=cf ‹_›;refine rpG ?_;exact ⟨g.set 8 rfl,j⟩
   ·obtain rfl:=dw ‹_›;obtain rfl:=cf ‹_›;refine rpG ?_;exact ⟨g.set 9 rfl,j⟩
   ·obtain rfl:=cE ‹_›;obtain rfl:=bZ ‹_›;obtain rfl:=dl ‹_›;obtain rfl:=cf ‹_›;refine rpG ?_;exact ⟨g.set 10 rfl,j⟩
   ·obtain rfl:=cf ‹_›;obtain rfl:=ci ‹_›;refine rpG ?_;exact ⟨g.set 11 rfl,j⟩
   ·obtain rfl:=c8 ‹_›;exact ⟨g.set 12 rfl,j⟩
   obtain ⟨rfl,rfl,rfl,rfl,rfl,rfl,rfl,rfl,rfl,rfl,rfl,rfl,rfl,_⟩:=g.all;clear g cG cf cD cF bQ cE bZ cL dw dl ci c8 dN;exact c2 _ _ _ j (Ext.refl _ _ _) a8
 refine bn ?_;refine aS (fun h3=>?_) (fun h3=>?_)
 ·skip
  have j:Inv w X ([.blk b7 (.cells vv.toArray ac),B4,.blk G (.map r J),.blk C (.cells #[.map (some U),O] aJ),.blk U (.map es ck),cg O tr]++[.blk V (.cells #[.pointer (some ⟨C,0,none⟩),.map (some B),.map (some G),.int .i64 (s.fr:Int)] aj),.blk B (.map Y a0)]) S _:=j.perm ((bK (l₁:=[_,_,_,_]) (l₂:=[_,_])).append_left [_,_]);refine Run.callE ip ix j (ve h hm.sl (by omega) g3) fun q I' S2 w'=>?_;rintro hD c3 j;obtain ⟨d3,b5,b6,f8,us,ua,uc,h5,rfl,rfl,e9,f9,g0⟩:=Hw hD;have j:Inv w X [.blk b7 (.cells vv.toArray ac),B4,.blk V (.cells #[.pointer (some ⟨C,0,none⟩),.map (some B),.map (some G),.int .i64 (d3:Int)] aj),.blk B (.map b5 b6),.blk G (.map r J),.blk C (.cells #[.map (some U),O] aJ),.blk U (.map es ck),cg O tr] S2 w':=j.perm ((bK (l₁:=[_,_]) (l₂:=[_,_,_,_])).append_left [_,_]);refine aA rfl ?_;refine aA rfl ?_;have e3:=e3.mono c3.1;rcases f6 with ⟨rfl,b2⟩|⟨rfl,b2⟩
  ·rcases g0 with ⟨rfl,s1,d2,rfl,rfl⟩|⟨rfl,d2⟩
   ·have a8:insI s x xs=unI s1 t (fnT x.name us):=by
     rw [insI,ae h1,ae h2,af h3,b2];show (ki s xs).bind _=_;rw [d2]; rfl
    obtain ⟨a1,a2,a3,a4,a5,a6,a7⟩:=j3 xs hs (by omega) d2;have hf:=nt (M:=N) (ks:=us) hx.2 (by omega) fun y hy=>⟨eG a1.le y (a7 y hy).1,(a7 y hy).2⟩
    have hj:okJ N (.one t (fnT x.name us)):=⟨⟨eG hs.le t (hs.sl _ _ b2).1,(hs.sl _ _ b2).2⟩,hf⟩
    have f0:=mg hN a1.good hj (mp a1.good hj);have g2:=Gd (nm:=x.name) f9 (by simp only [maxLen]; omega);have g7:KnownM S2 es s1.st:=by rw [a4]; exact hm.st.up c3.1
    have g8:tr.length+unb s1.st<=1000000:=by rw [a4]; exact hm.tr
    have g9:SlT S2 r s1.ar:=by rw [a5]; exact hm.ar.up c3.1
    have j:Inv w X ([.blk b7 (.cells vv.toArray ac),B4,.blk V (.cells #[.pointer (some ⟨C,0,none⟩),.map (some B),.map (some G),.int .i64 (s1.fr:Int)] aj),.blk B (.map b5 b6),.blk G (.map r J)]++cQ C U es ck O tr) S2 _:=j;refine ⟨fun D x6 H1 Ht Dr CP Cw Ej Cr zm zH Em CB GF LT Lu Jn Io w_=>Fx D 0 [Io=.bool true,Jn=.bool true,Lu=.bool true,LT=.bool true,GF=.bool true,CB=.pointer (some ⟨V,0,none⟩),Em=.pointer (some ⟨V,0,none⟩),zH=.pointer (some ⟨V,0,none⟩),zm=.pointer (some ⟨C,0,none⟩),Cr=.agg vv.toArray,Ej=.pointer (some ⟨b4,3,none⟩),Cw=.string x.name,CP=.slice ua us.length uc,Dr=.agg #[.int .i64 3,.int .i64 0,.string x.name,.slice ua us.length uc],True,H1=.bool (uniV s1.st t (fnT x.name us)).1,x6=.bool (uniV s1.st t (fnT x.name us)).1]/\∃ o:Nat,o<=1/\D 14=decide (1<=o)/\(unS w X S2 [.blk b7 (.cells vv.toArray ac),B4,.blk V (.cells #[.pointer (some ⟨C,0,none⟩),.map (some B),.map (some G),.int .i64 (s1.fr:Int)] aj),.blk B (.map b5 b6),.blk G (.map r J)] C U es ck O tr (uniV s1.st t (fnT x.name us)).2 w_ o/\(D 14=true->Ht=.bool (uniV s1.st t (fnT x.name us)).1)),⟨Fx.nil _ _,⟨0,aK _,rfl,⟨j.draw,aY⟩⟩⟩,⟨?_,?_,?_,?_,?_,?_,?_,?_,?_,?_,?_,?_,?_,?_,?_,?_,?_,trivial⟩,?_⟩;all_goals (intro D bw; intros; rename_i x6 H1 Ht Dr CP Cw Ej Cr zm zH Em CB GF LT Lu Jn Io w_ Z; have g:=Z.1; obtain ⟨⟨cG,cf,cD,cF,bQ,cE,bZ,cL,dw,dl,ci,c8,dN,fJ,il,im,iQ,_⟩,⟨o,l,i,m⟩⟩:=Z)
    ·exact ⟨g.set 0 rfl,⟨o,l,i,m⟩⟩
    ·obtain rfl:=cG ‹_›;exact ⟨g.set 1 rfl,⟨o,l,i,m⟩⟩
    ·obtain rfl:=cf ‹_›;refine rpG ?_;exact ⟨g.set 2 rfl,⟨o,l,i,m⟩⟩
    ·obtain rfl:=cf ‹_›;obtain rfl:=cD ‹_›;refine rpG ?_;exact ⟨g.set 3 rfl,⟨o,l,i,m⟩⟩
    ·obtain rfl:=cF ‹_›;exact ⟨g.set 4 rfl,⟨o,l,i,m⟩⟩
    ·obtain rfl:=bQ ‹_›;refine rpG ?_;exact ⟨g.set 5 rfl,⟨o,l,i,m⟩⟩
    ·obtain rfl:=cE ‹_›;obtain rfl:=bQ ‹_›;refine rpG ?_;refine aL ?_;exact ⟨g.set 6 rfl,⟨o,l,i,m⟩⟩
    ·obtain rfl:=bZ ‹_›;obtain rfl:=bQ ‹_›;refine rpG ?_;refine au jk ?_;exact ⟨g.set 7 rfl,⟨o,l,i,m⟩⟩
    ·obtain rfl:=cL ‹_›;obtain rfl:=bQ ‹_›;refine rpG ?_;obtain ⟨a9,b0,e1,e2,j⟩:=m.1.any;refine aD j 2 hZ rfl rfl ?_;exact ⟨g.set 8 rfl,⟨o,l,i,m⟩⟩
    ·obtain rfl:=bQ ‹_›;refine rpG ?_;obtain ⟨a9,b0,e1,e2,j⟩:=m.1.any;refine aq j 0 ad rfl (by simpa using f1) ?_;exact ⟨g.set 9 rfl,⟨o,l,i,m⟩⟩
    ·obtain rfl:=bQ ‹_›;refine rpG ?_;refine au pH ?_;exact ⟨g.set 10 rfl,⟨o,l,i,m⟩⟩
    ·obtain rfl:=ci ‹_›;obtain rfl:=bQ ‹_›;refine rpG ?_;obtain ⟨a9,b0,e1,e2,j⟩:=m.1.any;refine aD j 1 aZ e4 rfl ?_;exact ⟨g.set 11 rfl,⟨o,l,i,m⟩⟩
    ·obtain rfl:=bQ ‹_›;refine rpG ?_;exact ⟨g.set 12 rfl,⟨o,l,i,m⟩⟩
    ·obtain rfl:=c8 ‹_›;obtain rfl:=dN ‹_›;obtain rfl:=bQ ‹_›;refine rpG ?_;refine DY ?_;exact ⟨g.set 13 rfl,⟨o,l,i,m⟩⟩
    ·obtain rfl:=dw ‹_›;obtain rfl:=dl ‹_›;obtain rfl:=fJ ‹_›;obtain rfl:=bQ ‹_›;obtain rfl:o=0:=iI i bw;refine rpG ?_;refine Run.callE gA gB m.1 (f0 S2 _ _ C U ck es O tr e3 g2 g7 g8) fun v' I' S' w_=>?_;rintro ⟨eS,rfl,d6,d7,d9,e0,rfl,c4,b3,g4⟩ _ j;rw [eS] at j;have b1:unS w X S2 [.blk b7 (.cells vv.toArray ac),B4,.blk V (.cells #[.pointer (some ⟨C,0,none⟩),.map (some B),.map (some G),.int .i64 (s1.fr:Int)] aj),.blk B (.map b5 b6),.blk G (.map r J)] C U es ck O tr (uniV s1.st t (fnT x.name us)).2 w_ 1:=⟨d6,d7,d9,e0,c4,b3,j⟩
     exact ⟨g.set 14 (by first|assumption|trivial),⟨1,by decide,rfl,⟨b1,fun _=>rfl⟩⟩⟩
    ·obtain rfl:=bQ ‹_›;have Ut:=il ‹_›;obtain rfl:=m.2 ‹D 14=true›;refine rpG ?_;exact ⟨g.set 15 rfl,⟨o,l,i,m⟩⟩
    ·obtain rfl:=im ‹_›;exact ⟨g.set 16 rfl,⟨o,l,i,m⟩⟩
    obtain rfl:o=1:=iH l i ‹D 14=true›;have Un:D 16=true:=by assumption
    clear i;obtain rfl:=iQ Un;obtain ⟨d6,d7,d9,e0,c4,b3,j⟩:=m.1;exact ⟨_,_,S2,rfl,j.pick [false,false,true,true,true,true,true,true],c3,Gb a8 e9 g9 c4 b3⟩
   ·have a8:insI s x xs=none:=by
     rw [insI,ae h1,ae h2,af h3,b2];show (ki s xs).bind _=_;rw [d2]; rfl
    refine ⟨fun D x6 H1 Ht Dr CP Cw Ej Cr zm zH Em CB GF LT Lu Jn Io w_=>Fx D 0 [Io=.bool true,Jn=.bool true,Lu=.bool false,LT=.bool false,GF=.bool false,CB=undef,Em=undef,zH=undef,zm=undef,Cr=undef,Ej=undef,Cw=undef,CP=undef,Dr=undef,Ht=undef,H1=.bool false,x6=.bool false]/\Inv w X [.blk b7 (.cells vv.toArray ac),B4,.blk V (.cells #[.pointer (some ⟨C,0,none⟩),.map (some B),.map (some G),.int .i64 (d3:Int)] aj),.blk B (.map b5 b6),.blk G (.map r J),.blk C (.cells #[.map (some U),O] aJ),.blk U (.map es ck),cg O tr] S2 w_,⟨Fx.nil _ _,j.draw⟩,⟨?_,?_,?_,?_,?_,?_,?_,?_,?_,?_,?_,?_,?_,?_,?_,?_,?_,trivial⟩,?_⟩;all_goals (intro D bw; intros; rename_i x6 H1 Ht Dr CP Cw Ej Cr zm zH Em CB GF LT Lu Jn Io w_ Z; have g:=Z.1; obtain ⟨⟨cG,cf,cD,cF,bQ,cE,bZ,cL,dw,dl,ci,c8,dN,fJ,il,im,iQ,_⟩,j⟩:=Z)
    ·exact ⟨g.set 0 rfl,j⟩
    ·obtain rfl:=cG ‹_›;exact ⟨g.set 1 rfl,j⟩
    ·obtain rfl:=cf ‹_›;refine rpG ?_;exact ⟨g.set 2 rfl,j⟩
    ·obtain rfl:=cf ‹_›;obtain rfl:=cD ‹_›;refine rpG ?_;exact ⟨g.set 3 rfl,j⟩
    ·obtain rfl:=cF ‹_›;exact ⟨g.set 4 rfl,j⟩
    ·obtain rfl:=bQ ‹_›;refine rpG ?_;exact ⟨g.set 5 rfl,j⟩
    ·obtain rfl:=cE ‹_›;obtain rfl:=bQ ‹_›;refine rpG ?_;exact ⟨g.set 6 rfl,j⟩
    ·obtain rfl:=bZ ‹_›;obtain rfl:=bQ ‹_›;refine rpG ?_;exact ⟨g.set 7 rfl,j⟩
    ·obtain rfl:=cL ‹_›;obtain rfl:=bQ ‹_›;refine rpG ?_;exact ⟨g.set 8 rfl,j⟩
    ·obtain rfl:=bQ ‹_›;refine rpG ?_;exact ⟨g.set 9 rfl,j⟩
    ·obtain rfl:=bQ ‹_›;refine rpG ?_;exact ⟨g.set 10 rfl,j⟩
    ·obtain rfl:=ci ‹_›;obtain rfl:=bQ ‹_›;refine rpG ?_;exact ⟨g.set 11 rfl,j⟩
    ·obtain rfl:=bQ ‹_›;refine rpG ?_;exact ⟨g.set 12 rfl,j⟩
    ·obtain rfl:=c8 ‹_›;obtain rfl:=dN ‹_›;obtain rfl:=bQ ‹_›;refine rpG ?_;exact ⟨g.set 13 rfl,j⟩
    ·obtain rfl:=dw ‹_›;obtain rfl:=dl ‹_›;obtain rfl:=fJ ‹_›;obtain rfl:=bQ ‹_›;refine rpG ?_;exact ⟨g.set 14 rfl,j⟩
    ·obtain rfl:=bQ ‹_›;obtain rfl:=il ‹_›;refine rpG ?_;exact ⟨g.set 15 rfl,j⟩
    ·obtain rfl:=im ‹_›;exact ⟨g.set 16 rfl,j⟩
    obtain ⟨rfl,rfl,rfl,rfl,rfl,rfl,rfl,rfl,rfl,rfl,rfl,rfl,rfl,rfl,rfl,rfl,rfl,_⟩:=g.all;clear g cG cf cD cF bQ cE bZ cL dw dl ci c8 dN fJ il im iQ;exact c2 _ _ _ j c3 a8
  ·have a8:insI s x xs=none:=by
    rw [insI,ae h1,ae h2,af h3,b2]; rfl
   refine ⟨fun D x6 H1 Ht Dr CP Cw Ej Cr zm zH Em CB GF LT Lu Jn Io w_=>Fx D 0 [Io=.bool false,Jn=.bool false,Lu=undef,LT=.bool false,GF=.bool false,CB=undef,Em=undef,zH=undef,zm=undef,Cr=undef,Ej=undef,Cw=undef,CP=undef,Dr=undef,Ht=undef,H1=.bool false,x6=.bool false]/\Inv w X [.blk b7 (.cells vv.toArray ac),B4,.blk V (.cells #[.pointer (some ⟨C,0,none⟩),.map (some B),.map (some G),.int .i64 (d3:Int)] aj),.blk B (.map b5 b6),.blk G (.map r J),.blk C (.cells #[.map (some U),O] aJ),.blk U (.map es ck),cg O tr] S2 w_,⟨Fx.nil _ _,j.draw⟩,⟨?_,?_,?_,?_,?_,?_,?_,?_,?_,?_,?_,?_,?_,?_,?_,?_,?_,trivial⟩,?_⟩;all_goals (intro D bw; intros; rename_i x6 H1 Ht Dr CP Cw Ej Cr zm zH Em CB GF LT Lu Jn Io w_ Z; have g:=Z.1; obtain ⟨⟨cG,cf,cD,cF,bQ,cE,bZ,cL,dw,dl,ci,c8,dN,fJ,il,im,iQ,_⟩,j⟩:=Z)
   ·exact ⟨g.set 0 rfl,j⟩
   ·obtain rfl:=cG ‹_›;exact ⟨g.set 1 rfl,j⟩
   ·obtain rfl:=cf ‹_›;refine rpG ?_;exact ⟨g.set 2 rfl,j⟩
   ·obtain rfl:=cf ‹_›;obtain rfl:=cD ‹_›;refine rpG ?_;exact ⟨g.set 3 rfl,j⟩
   ·obtain rfl:=cF ‹_›;exact ⟨g.set 4 rfl,j⟩
   ·obtain rfl:=bQ ‹_›;refine rpG ?_;exact ⟨g.set 5 rfl,j⟩
   ·obtain rfl:=cE ‹_›;obtain rfl:=bQ ‹_›;refine rpG ?_;exact ⟨g.set 6 rfl,j⟩
   ·obtain rfl:=bZ ‹_›;obtain rfl:=bQ ‹_›;refine rpG ?_;exact ⟨g.set 7 rfl,j⟩
   ·obtain rfl:=cL ‹_›;obtain rfl:=bQ ‹_›;refine rpG ?_;exact ⟨g.set 8 rfl,j⟩
   ·obtain rfl:=bQ ‹_›;refine rpG ?_;exact ⟨g.set 9 rfl,j⟩
   ·obtain rfl:=bQ ‹_›;refine rpG ?_;exact ⟨g.set 10 rfl,j⟩
   ·obtain rfl:=ci ‹_›;obtain rfl:=bQ ‹_›;refine rpG ?_;exact ⟨g.set 11 rfl,j⟩
   ·obtain rfl:=bQ ‹_›;refine rpG ?_;exact ⟨g.set 12 rfl,j⟩
   ·obtain rfl:=c8 ‹_›;obtain rfl:=dN ‹_›;obtain rfl:=bQ ‹_›;refine rpG ?_;exact ⟨g.set 13 rfl,j⟩
   ·obtain rfl:=dw ‹_›;obtain rfl:=dl ‹_›;obtain rfl:=fJ ‹_›;obtain rfl:=bQ ‹_›;refine rpG ?_;exact ⟨g.set 14 rfl,j⟩
   ·obtain rfl:=bQ ‹_›;obtain rfl:=il ‹_›;refine rpG ?_;exact ⟨g.set 15 rfl,j⟩
   ·obtain rfl:=im ‹_›;exact ⟨g.set 16 rfl,j⟩
   obtain ⟨rfl,rfl,rfl,rfl,rfl,rfl,rfl,rfl,rfl,rfl,rfl,rfl,rfl,rfl,rfl,rfl,rfl,_⟩:=g.all;clear g cG cf cD cF bQ cE bZ cL dw dl ci c8 dN fJ il im iQ;exact c2 _ _ _ j c3 a8
 refine bn ?_;refine aS (fun h7=>?_) (fun h7=>?_)
 ·skip
  have j:Inv w X ([.blk b7 (.cells vv.toArray ac),B4,.blk G (.map r J),.blk C (.cells #[.map (some U),O] aJ),.blk U (.map es ck),cg O tr]++[.blk V (.cells #[.pointer (some ⟨C,0,none⟩),.map (some B),.map (some G),.int .i64 (s.fr:Int)] aj),.blk B (.map Y a0)]) S _:=j.perm ((bK (l₁:=[_,_,_,_]) (l₂:=[_,_])).append_left [_,_]);refine Run.callE ip ix j (ve h hm.sl (by omega) g3) fun q I' S2 w'=>?_;rintro hD c3 j;obtain ⟨d3,b5,b6,f8,us,ua,uc,h5,rfl,rfl,e9,f9,g0⟩:=Hw hD;have j:Inv w X [.blk b7 (.cells vv.toArray ac),B4,.blk V (.cells #[.pointer (some ⟨C,0,none⟩),.map (some B),.map (some G),.int .i64 (d3:Int)] aj),.blk B (.map b5 b6),.blk G (.map r J),.blk C (.cells #[.map (some U),O] aJ),.blk U (.map es ck),cg O tr] S2 w':=j.perm ((bK (l₁:=[_,_]) (l₂:=[_,_,_,_])).append_left [_,_]);refine aA rfl ?_;refine aA rfl ?_;have e3:=e3.mono c3.1;have g2:=Gd (nm:=x.name) f9 (by simp only [maxLen]; omega);have j:Inv w X ([.blk b7 (.cells vv.toArray ac),B4,.blk V (.cells #[.pointer (some ⟨C,0,none⟩),.map (some B),.map (some G),.int .i64 (d3:Int)] aj)]++.blk B (.map b5 b6)::[.blk G (.map r J),.blk C (.cells #[.map (some U),O] aJ),.blk U (.map es ck),cg O tr]) S2 _:=j;refine ⟨fun D TS TE Su SX PE Nj Oa O2 NN GU w_=>Fx D 0 [GU=.pointer (some ⟨V,0,none⟩),NN=.pointer (some ⟨V,0,none⟩),O2=.pointer (some ⟨V,1,none⟩),Oa=.map (some B),Nj=.pointer (some ⟨b4,2,none⟩),PE=.int .i64 x.b,SX=.pointer (some ⟨b4,3,none⟩),Su=.string x.name,TE=.slice ua us.length uc,TS=.agg #[.int .i64 3,.int .i64 0,.string x.name,.slice ua us.length uc],True]/\∃ o:Nat,o<=1/\D 10=decide (1<=o)/\(mpS w X S2 [.blk b7 (.cells vv.toArray ac),B4,.blk V (.cells #[.pointer (some ⟨C,0,none⟩),.map (some B),.map (some G),.int .i64 (d3:Int)] aj)] B b5 b6 [.blk G (.map r J),.blk C (.cells #[.map (some U),O] aJ),.blk U (.map es ck),cg O tr] f8 x.b (fnT x.name us) w_ o),⟨Fx.nil _ _,⟨0,aK _,rfl,j.draw⟩⟩,⟨?_,?_,?_,?_,?_,?_,?_,?_,?_,?_,?_,trivial⟩,?_⟩;all_goals (intro D bw; intros; rename_i TS TE Su SX PE Nj Oa O2 NN GU w_ Z; have g:=Z.1; obtain ⟨⟨cG,cf,cD,cF,bQ,cE,bZ,cL,dw,dl,ci,_⟩,⟨o,l,i,m⟩⟩:=Z)
  ·exact ⟨g.set 0 rfl,⟨o,l,i,m⟩⟩
  ·obtain rfl:=cG ‹_›;refine aL ?_;exact ⟨g.set 1 rfl,⟨o,l,i,m⟩⟩
  ·obtain rfl:=cf ‹_›;refine au dD ?_;exact ⟨g.set 2 rfl,⟨o,l,i,m⟩⟩
  ·obtain rfl:=cD ‹_›;obtain ⟨a9,b0,j⟩:=m.any;refine aD j 2 cK rfl rfl ?_;exact ⟨g.set 3 rfl,⟨o,l,i,m⟩⟩
  ·refine au jz ?_;exact ⟨g.set 4 rfl,⟨o,l,i,m⟩⟩
  ·obtain rfl:=bQ ‹_›;obtain ⟨a9,b0,j⟩:=m.any;refine aD j 1 aw e4 rfl ?_;exact ⟨g.set 5 rfl,⟨o,l,i,m⟩⟩
  ·refine au pH ?_;exact ⟨g.set 6 rfl,⟨o,l,i,m⟩⟩
  ·obtain rfl:=bZ ‹_›;obtain ⟨a9,b0,j⟩:=m.any;refine aD j 1 aZ e4 rfl ?_;exact ⟨g.set 7 rfl,⟨o,l,i,m⟩⟩
  ·exact ⟨g.set 8 rfl,⟨o,l,i,m⟩⟩
  ·obtain rfl:=cL ‹_›;obtain rfl:=dw ‹_›;refine DY ?_;exact ⟨g.set 9 rfl,⟨o,l,i,m⟩⟩
  ·obtain rfl:=cF ‹_›;obtain rfl:=cE ‹_›;obtain rfl:=dl ‹_›;obtain rfl:o=0:=iI i bw;refine kY (cs:=[.int .i64 3,.int .i64 0,.string x.name,.slice ua us.length uc]) m 3 cj c7 rfl e9 g2 fun w_ c6 c9 d0 j=>?_;have b1:mpS w X S2 [.blk b7 (.cells vv.toArray ac),B4,.blk V (.cells #[.pointer (some ⟨C,0,none⟩),.map (some B),.map (some G),.int .i64 (d3:Int)] aj)] B b5 b6 [.blk G (.map r J),.blk C (.cells #[.map (some U),O] aJ),.blk U (.map es ck),cg O tr] f8 x.b (fnT x.name us) w_ 1:=⟨c6,c9,d0,j⟩
   exact ⟨g.set 10 trivial,⟨1,by decide,rfl,b1⟩⟩
  obtain rfl:o=1:=iH l i ‹D 10=true›;clear i;obtain ⟨e5,e6,c5,j⟩:=m;rcases g0 with ⟨rfl,s1,d2,rfl,rfl⟩|⟨rfl,d2⟩
  ·obtain ⟨a1,a2,a3,a4,a5,a6,a7⟩:=j3 xs hs (by omega) d2;have a8:insI s x xs=some ⟨upS s1.sl x.b (fnT x.name us),s1.ar,s1.fr,s1.st⟩:=by rw [insI,ae h1,ae h2,ae h3,af h7,d2]; rfl
   refine ⟨_,_,S2,rfl,j.pick [false,false,true,true,true,true,true,true],c3,?_⟩;rw [a8];exact ⟨rfl,e5,e6,r,J,es,ck,O,tr,rfl,c5,by show SlT S2 r s1.ar; rw [a5]; exact hm.ar.up c3.1,by show KnownM S2 es s1.st; rw [a4]; exact hm.st.up c3.1,by show tr.length+unb s1.st<=_; rw [a4]; exact hm.tr⟩
  ·exact c2 _ _ _ j c3 (by rw [insI,ae h1,ae h2,ae h3,af h7,d2]; rfl)
 refine bn ?_;refine aS (fun h8=>?_) (fun h8=>?_)
 ·have j:Inv w X (.blk V (.cells #[.pointer (some ⟨C,0,none⟩),.map (some B),.map (some G),.int .i64 (s.fr:Int)] aj)::.blk B (.map Y a0)::[.blk G (.map r J),.blk C (.cells #[.map (some U),O] aJ),.blk U (.map es ck),cg O tr,.blk b7 (.cells vv.toArray ac),B4]) S _:=j.perm (bK (l₁:=[_,_,_,_,_,_]) (l₂:=[_,_]));refine ⟨fun D Tz TA R8 SC T0 SW SU Sy w_=>Fx D 0 [Sy=.pointer (some ⟨V,0,none⟩),SU=.pointer (some ⟨V,0,none⟩),SW=.pointer (some ⟨V,1,none⟩),T0=.map (some B),SC=.pointer (some ⟨b4,1,none⟩),R8=.int .i64 x.a,TA=.pointer (some ⟨V,0,none⟩),True,True]/\∃ o:Nat,o<=2/\D 7=decide (1<=o)/\D 8=decide (2<=o)/\(nvS w X S V B (.pointer (some ⟨C,0,none⟩)) (.map (some G)) s.fr a0 Y s.sl x.a [.blk G (.map r J),.blk C (.cells #[.map (some U),O] aJ),.blk U (.map es ck),cg O tr,.blk b7 (.cells vv.toArray ac),B4] w_ o/\(D 7=true->Tz=.agg #[.int .i64 1,.int .i64 (s.fr:Int),.string ⟨#[]⟩,.slice none 0 0])),⟨Fx.nil _ _,⟨0,aK _,rfl,rfl,⟨j.draw,aY⟩⟩⟩,⟨?_,?_,?_,?_,?_,?_,?_,?_,?_,trivial⟩,?_⟩;all_goals (intro D bw; intros; rename_i Tz TA R8 SC T0 SW SU Sy w_ Z; have g:=Z.1; obtain ⟨⟨cG,cf,cD,cF,bQ,cE,bZ,cL,dw,_⟩,⟨o,l,i,p,m⟩⟩:=Z)
  ·exact ⟨g.set 0 rfl,⟨o,l,i,p,m⟩⟩
  ·obtain rfl:=cG ‹_›;refine aL ?_;exact ⟨g.set 1 rfl,⟨o,l,i,p,m⟩⟩
  ·obtain rfl:=cf ‹_›;refine au dD ?_;exact ⟨g.set 2 rfl,⟨o,l,i,p,m⟩⟩
  ·obtain rfl:=cD ‹_›;obtain ⟨f5,a9,b0,j⟩:=m.1.any;refine aD j 0 cK rfl rfl ?_;exact ⟨g.set 3 rfl,⟨o,l,i,p,m⟩⟩
  ·refine au dJ ?_;exact ⟨g.set 4 rfl,⟨o,l,i,p,m⟩⟩
  ·obtain rfl:=bQ ‹_›;obtain ⟨f5,a9,b0,j⟩:=m.1.any;refine aD j 7 aw e4 rfl ?_;exact ⟨g.set 5 rfl,⟨o,l,i,p,m⟩⟩
  ·exact ⟨g.set 6 rfl,⟨o,l,i,p,m⟩⟩
  ·obtain rfl:=bZ ‹_›;obtain rfl:o=0:=iI i bw;refine zP m.1 (by omega) fun w_ j=>?_;have b1:nvS w X S V B (.pointer (some ⟨C,0,none⟩)) (.map (some G)) s.fr a0 Y s.sl x.a [.blk G (.map r J),.blk C (.cells #[.map (some U),O] aJ),.blk U (.map es ck),cg O tr,.blk b7 (.cells vv.toArray ac),B4] w_ 1:=j;exact ⟨g.set 7 (by first|assumption|trivial),⟨1,by decide,rfl,(by first|exact p|rfl),⟨b1,fun _=>rfl⟩⟩⟩
  ·obtain rfl:=cF ‹_›;obtain rfl:=cE ‹_›;have Cs:=cL ‹_›;obtain rfl:o=1:=gF i ‹D 7=true› p bw;obtain rfl:=m.2 ‹D 7=true›;have j:Inv w X (.blk V (.cells #[.pointer (some ⟨C,0,none⟩),.map (some B),.map (some G),.int .i64 ((s.fr+1:Nat):Int)] aj)::.blk B (.map Y a0)::[.blk G (.map r J),.blk C (.cells #[.map (some U),O] aJ),.blk U (.map es ck),cg O tr,.blk b7 (.cells vv.toArray ac),B4]) S w_:=m.1;refine kY (cs:=[.int .i64 1,.int .i64 (s.fr:Int),.string ⟨#[]⟩,.slice none 0 0]) j 1 cj c7 rfl hm.sl (GC S s.fr (by omega)) fun w_ c6 c9 d0 j=>?_;have b1:nvS w X S V B (.pointer (some ⟨C,0,none⟩)) (.map (some G)) s.fr a0 Y s.sl x.a [.blk G (.map r J),.blk C (.cells #[.map (some U),O] aJ),.blk U (.map es ck),cg O tr,.blk b7 (.cells vv.toArray ac),B4] w_ 2:=⟨c6,c9,d0,j⟩
   exact ⟨g.set 8 trivial,⟨2,by decide,(by first|exact i|rfl),rfl,⟨b1,m.2⟩⟩⟩
  obtain rfl:o=2:=iH l p ‹D 8=true›;clear i p;obtain ⟨b5,b6,g6,j⟩:=m.1;obtain ⟨uu,c1,b8,e7,f2,i0,g1⟩:=g6.look x.a;have e8:=g1 _ (dY s.sl x.a (fk s.fr));have j:Inv w X ([.blk V (.cells #[.pointer (some ⟨C,0,none⟩),.map (some B),.map (some G),.int .i64 ((s.fr+1:Nat):Int)] aj),.blk B (.map b5 b6)]++.blk G (.map r J)::[.blk C (.cells #[.map (some U),O] aJ),.blk U (.map es ck),cg O tr,.blk b7 (.cells vv.toArray ac),B4]) S w_:=j;refine ⟨fun D R9 Td TK SO Tc Sw Tx Se Tn SV SY Sh SL w_=>Fx D 0 [SL=.pointer (some ⟨V,0,none⟩),Sh=.pointer (some ⟨V,0,none⟩),SY=.pointer (some ⟨V,2,none⟩),SV=.map (some G),Tn=.pointer (some ⟨b4,2,none⟩),Se=.int .i64 x.b,Tx=.pointer (some ⟨V,0,none⟩),Sw=.pointer (some ⟨V,0,none⟩),Tc=.pointer (some ⟨V,1,none⟩),SO=.map (some B),TK=.pointer (some ⟨b4,1,none⟩),Td=.int .i64 x.a,R9=.agg uu.toArray,True]/\∃ o:Nat,o<=1/\D 13=decide (1<=o)/\(mpS w X S [.blk V (.cells #[.pointer (some ⟨C,0,none⟩),.map (some B),.map (some G),.int .i64 ((s.fr+1:Nat):Int)] aj),.blk B (.map b5 b6)] G r J [.blk C (.cells #[.map (some U),O] aJ),.blk U (.map es ck),cg O tr,.blk b7 (.cells vv.toArray ac),B4] s.ar x.b (fk s.fr) w_ o),⟨Fx.nil _ _,⟨0,aK _,rfl,j.draw⟩⟩,⟨?_,?_,?_,?_,?_,?_,?_,?_,?_,?_,?_,?_,?_,?_,trivial⟩,?_⟩;all_goals (intro D bw; intros; rename_i R9 Td TK SO Tc Sw Tx Se Tn SV SY Sh SL w_ Z; have g:=Z.1; obtain ⟨⟨cG,cf,cD,cF,bQ,cE,bZ,cL,dw,dl,ci,c8,dN,fJ,_⟩,⟨o,l,i,m⟩⟩:=Z)
  ·exact ⟨g.set 0 rfl,⟨o,l,i,m⟩⟩
  ·obtain rfl:=cG ‹_›;refine aL ?_;exact ⟨g.set 1 rfl,⟨o,l,i,m⟩⟩
  ·obtain rfl:=cf ‹_›;refine au jn ?_;exact ⟨g.set 2 rfl,⟨o,l,i,m⟩⟩
  ·obtain rfl:=cD ‹_›;obtain ⟨a9,b0,j⟩:=m.any;refine aD j 0 cK rfl rfl ?_;exact ⟨g.set 3 rfl,⟨o,l,i,m⟩⟩
  ·refine au jz ?_;exact ⟨g.set 4 rfl,⟨o,l,i,m⟩⟩
  ·obtain rfl:=bQ ‹_›;obtain ⟨a9,b0,j⟩:=m.any;refine aD j 7 aw e4 rfl ?_;exact ⟨g.set 5 rfl,⟨o,l,i,m⟩⟩
  ·exact ⟨g.set 6 rfl,⟨o,l,i,m⟩⟩
  ·obtain rfl:=bZ ‹_›;refine aL ?_;exact ⟨g.set 7 rfl,⟨o,l,i,m⟩⟩
  ·obtain rfl:=cL ‹_›;refine au dD ?_;exact ⟨g.set 8 rfl,⟨o,l,i,m⟩⟩
  ·obtain rfl:=dw ‹_›;obtain ⟨a9,b0,j⟩:=m.any;refine aD j 0 cK rfl rfl ?_;exact ⟨g.set 9 rfl,⟨o,l,i,m⟩⟩
  ·refine au dJ ?_;exact ⟨g.set 10 rfl,⟨o,l,i,m⟩⟩
  ·obtain rfl:=ci ‹_›;obtain ⟨a9,b0,j⟩:=m.any;refine aD j 7 aw e4 rfl ?_;exact ⟨g.set 11 rfl,⟨o,l,i,m⟩⟩
  ·obtain rfl:=dl ‹_›;obtain rfl:=c8 ‹_›;obtain ⟨a9,b0,j⟩:=m.any;refine d4 (c:=false) (ok:=c1) (v:=.agg uu.toArray) (j.its (.blk B (.map b5 b6)) (by simp)) cj c7 aM b8 ?_;exact ⟨g.set 12 rfl,⟨o,l,i,m⟩⟩
  ·obtain rfl:=cF ‹_›;obtain rfl:=cE ‹_›;obtain rfl:=dN ‹_›;obtain rfl:o=0:=iI i bw;refine kY (cs:=uu) m 2 cj c7 rfl hm.ar e8 fun w_ c6 c9 d0 j=>?_;have b1:mpS w X S [.blk V (.cells #[.pointer (some ⟨C,0,none⟩),.map (some B),.map (some G),.int .i64 ((s.fr+1:Nat):Int)] aj),.blk B (.map b5 b6)] G r J [.blk C (.cells #[.map (some U),O] aJ),.blk U (.map es ck),cg O tr,.blk b7 (.cells vv.toArray ac),B4] s.ar x.b (fk s.fr) w_ 1:=⟨c6,c9,d0,j⟩
   exact ⟨g.set 13 trivial,⟨1,by decide,rfl,b1⟩⟩
  obtain rfl:o=1:=iH l i ‹D 13=true›;clear i;obtain ⟨e5,e6,c5,j⟩:=m;exact ⟨_,⟨upS s.sl x.a (fk s.fr),upS s.ar x.b (fk s.fr),s.fr+1,s.st⟩,by rw [insI,ae h1,ae h2,ae h3,ae h7,af h8],⟨b5,b6,e5,e6,es,ck,O,tr,rfl,g6,c5,hm.st,hm.tr⟩,j.pick [true,true,true,true,true,true,false,false]⟩
 refine bn ?_;refine aS (fun h9=>?_) (fun h9=>?_)
 ·obtain ⟨uu,c1,u,b8,e7,f2,e8,f7⟩:=hm.sl.look2 x.a;refine ⟨fun D sY HL Sr Tg Th Tk Sf R6 Si TV TM Tp w_=>Fx D 0 [Tp=.pointer (some ⟨V,0,none⟩),TM=.pointer (some ⟨V,0,none⟩),TV=.pointer (some ⟨V,1,none⟩),Si=.map (some B),R6=.pointer (some ⟨b4,1,none⟩),Sf=.int .i64 x.a,Tk=.tuple #[.agg uu.toArray,.bool c1],Th=.tuple #[.agg uu.toArray,.bool c1],Tg=.agg uu.toArray,Sr=.bool c1,True,True,sY=.bool c1]/\∃ o:Nat,o<=2/\D 10=decide (1<=o)/\D 11=decide (2<=o)/\(alS w X S [.blk b7 (.cells vv.toArray ac),B4,.blk V (.cells #[.pointer (some ⟨C,0,none⟩),.map (some B),.map (some G),.int .i64 (s.fr:Int)] aj),.blk B (.map Y a0),.blk G (.map r J),.blk C (.cells #[.map (some U),O] aJ),.blk U (.map es ck),cg O tr] uu HL w_ o),⟨Fx.nil _ _,⟨0,aK _,rfl,rfl,j.draw⟩⟩,⟨?_,?_,?_,?_,?_,?_,?_,?_,?_,?_,?_,?_,?_,trivial⟩,?_⟩;all_goals (intro D bw; intros; rename_i sY HL Sr Tg Th Tk Sf R6 Si TV TM Tp w_ Z; have g:=Z.1; obtain ⟨⟨cG,cf,cD,cF,bQ,cE,bZ,cL,dw,dl,ci,c8,dN,_⟩,⟨o,l,i,p,m⟩⟩:=Z)
  ·exact ⟨g.set 0 rfl,⟨o,l,i,p,m⟩⟩
  ·obtain rfl:=cG ‹_›;refine aL ?_;exact ⟨g.set 1 rfl,⟨o,l,i,p,m⟩⟩
  ·obtain rfl:=cf ‹_›;refine au dD ?_;exact ⟨g.set 2 rfl,⟨o,l,i,p,m⟩⟩
  ·obtain rfl:=cD ‹_›;have j:=m.any;refine aD j 2 cK rfl rfl ?_;exact ⟨g.set 3 rfl,⟨o,l,i,p,m⟩⟩
  ·refine au dJ ?_;exact ⟨g.set 4 rfl,⟨o,l,i,p,m⟩⟩
  ·obtain rfl:=bQ ‹_›;have j:=m.any;refine aD j 1 aw e4 rfl ?_;exact ⟨g.set 5 rfl,⟨o,l,i,p,m⟩⟩
  ·obtain rfl:=cF ‹_›;obtain rfl:=cE ‹_›;have j:=m.any;refine d4 (c:=true) (ok:=c1) (v:=.agg uu.toArray) (j.its (.blk B (.map Y a0)) (by simp)) cj c7 aM b8 ?_;exact ⟨g.set 6 rfl,⟨o,l,i,p,m⟩⟩
  ·obtain rfl:=bZ ‹_›;exact ⟨g.set 7 rfl,⟨o,l,i,p,m⟩⟩
  ·obtain rfl:=cL ‹_›;refine aA rfl ?_;exact ⟨g.set 8 rfl,⟨o,l,i,p,m⟩⟩
  ·obtain rfl:=cL ‹_›;refine aA rfl ?_;exact ⟨g.set 9 rfl,⟨o,l,i,p,m⟩⟩
  ·obtain rfl:o=0:=iI i bw;refine aH m aM fun b w_ j=>?_;have m:alS w X S [.blk b7 (.cells vv.toArray ac),B4,.blk V (.cells #[.pointer (some ⟨C,0,none⟩),.map (some B),.map (some G),.int .i64 (s.fr:Int)] aj),.blk B (.map Y a0),.blk G (.map r J),.blk C (.cells #[.map (some U),O] aJ),.blk U (.map es ck),cg O tr] uu (.pointer (some ⟨b,0,none⟩)) w_ 1:=⟨b,rfl,j.perm (bK (l₁:=[_]))⟩
   exact ⟨g.set 10 (by first|assumption|trivial),⟨1,by decide,rfl,(by first|exact p|rfl),m⟩⟩
  ·have Gj:=ci ‹_›;obtain rfl:=dw ‹_›;obtain rfl:o=1:=gF i ‹D 10=true› p bw;obtain ⟨b,rfl,j⟩:=m;refine al j 0 rfl ad (by simpa using e7) rfl (by simpa using f2) fun w_ j=>?_;have m:alS w X S [.blk b7 (.cells vv.toArray ac),B4,.blk V (.cells #[.pointer (some ⟨C,0,none⟩),.map (some B),.map (some G),.int .i64 (s.fr:Int)] aj),.blk B (.map Y a0),.blk G (.map r J),.blk C (.cells #[.map (some U),O] aJ),.blk U (.map es ck),cg O tr] uu (.pointer (some ⟨b,0,none⟩)) w_ 2:=⟨b,rfl,j⟩
   exact ⟨g.set 11 trivial,⟨2,by decide,(by first|exact i|rfl),rfl,m⟩⟩
  ·obtain rfl:=dl ‹_›;exact ⟨g.set 12 rfl,⟨o,l,i,p,m⟩⟩
  obtain rfl:o=2:=iH l p ‹D 11=true›;have AF:D 12=true:=by assumption
  clear i p;obtain ⟨b9,rfl,j⟩:=m;obtain rfl:=dN AF;have j:Inv w X ([.blk b9 (.cells uu.toArray ac),.blk b7 (.cells vv.toArray ac),B4,.blk V (.cells #[.pointer (some ⟨C,0,none⟩),.map (some B),.map (some G),.int .i64 (s.fr:Int)] aj),.blk B (.map Y a0)]++.blk G (.map r J)::[.blk C (.cells #[.map (some U),O] aJ),.blk U (.map es ck),cg O tr]) S w_:=j;refine ⟨fun D Sp Sz Sv SZ So TN SE w_=>Fx D 0 [SE=.pointer (some ⟨V,0,none⟩),TN=.pointer (some ⟨V,0,none⟩),So=.pointer (some ⟨V,2,none⟩),SZ=.map (some G),Sv=.pointer (some ⟨b4,2,none⟩),Sz=.int .i64 x.b,Sp=.agg uu.toArray,True]/\∃ o:Nat,o<=1/\D 7=decide (1<=o)/\(mpS w X S [.blk b9 (.cells uu.toArray ac),.blk b7 (.cells vv.toArray ac),B4,.blk V (.cells #[.pointer (some ⟨C,0,none⟩),.map (some B),.map (some G),.int .i64 (s.fr:Int)] aj),.blk B (.map Y a0)] G r J [.blk C (.cells #[.map (some U),O] aJ),.blk U (.map es ck),cg O tr] s.ar x.b u w_ o),⟨Fx.nil _ _,⟨0,aK _,rfl,j.draw⟩⟩,⟨?_,?_,?_,?_,?_,?_,?_,?_,trivial⟩,?_⟩;all_goals (intro D bw; intros; rename_i Sp Sz Sv SZ So TN SE w_ Z; have g:=Z.1; obtain ⟨⟨cG,cf,cD,cF,bQ,cE,bZ,cL,_⟩,⟨o,l,i,m⟩⟩:=Z)
  ·exact ⟨g.set 0 rfl,⟨o,l,i,m⟩⟩
  ·obtain rfl:=cG ‹_›;refine aL ?_;exact ⟨g.set 1 rfl,⟨o,l,i,m⟩⟩
  ·obtain rfl:=cf ‹_›;refine au jn ?_;exact ⟨g.set 2 rfl,⟨o,l,i,m⟩⟩
  ·obtain rfl:=cD ‹_›;obtain ⟨a9,b0,j⟩:=m.any;refine aD j 3 cK rfl rfl ?_;exact ⟨g.set 3 rfl,⟨o,l,i,m⟩⟩
  ·refine au jz ?_;exact ⟨g.set 4 rfl,⟨o,l,i,m⟩⟩
  ·obtain rfl:=bQ ‹_›;obtain ⟨a9,b0,j⟩:=m.any;refine aD j 2 aw e4 rfl ?_;exact ⟨g.set 5 rfl,⟨o,l,i,m⟩⟩
  ·obtain ⟨a9,b0,j⟩:=m.any;refine aq j 0 ad rfl (by simpa using e7) ?_;exact ⟨g.set 6 rfl,⟨o,l,i,m⟩⟩
  ·obtain rfl:=cF ‹_›;obtain rfl:=cE ‹_›;obtain rfl:=bZ ‹_›;obtain rfl:o=0:=iI i bw;refine kY (cs:=uu) m 5 cj c7 rfl hm.ar e8 fun w_ c6 c9 d0 j=>?_;have b1:mpS w X S [.blk b9 (.cells uu.toArray ac),.blk b7 (.cells vv.toArray ac),B4,.blk V (.cells #[.pointer (some ⟨C,0,none⟩),.map (some B),.map (some G),.int .i64 (s.fr:Int)] aj),.blk B (.map Y a0)] G r J [.blk C (.cells #[.map (some U),O] aJ),.blk U (.map es ck),cg O tr] s.ar x.b u w_ 1:=⟨c6,c9,d0,j⟩
   exact ⟨g.set 7 trivial,⟨1,by decide,rfl,b1⟩⟩
  obtain rfl:o=1:=iH l i ‹D 7=true›;clear i;obtain ⟨e5,e6,c5,j⟩:=m;rcases f7 with ⟨rfl,d1⟩|⟨rfl,d1⟩
  ·refine ⟨_,_,S,rfl,j.pick [false,false,false,true,true,true,true,true,true],Ext.refl _ _ _,?_⟩;have a8:insI s x xs=some ⟨s.sl,upS s.ar x.b u,s.fr,s.st⟩:=by rw [insI,ae h1,ae h2,ae h3,ae h7,ae h8,af h9,d1]; rfl
   rw [a8];exact ⟨rfl,Y,a0,e5,e6,es,ck,O,tr,rfl,hm.sl,c5,hm.st,hm.tr⟩
  ·exact c2 _ _ _ j (Ext.refl _ _ _) (by rw [insI,ae h1,ae h2,ae h3,ae h7,ae h8,af h9,d1]; rfl)
 refine bn ?_;refine aS (fun f3=>?_) (fun f3=>?_)
 ·have j:Inv w X ([.blk b7 (.cells vv.toArray ac),B4,.blk V (.cells #[.pointer (some ⟨C,0,none⟩),.map (some B),.map (some G),.int .i64 (s.fr:Int)] aj),.blk B (.map Y a0)]++.blk G (.map r J)::[.blk C (.cells #[.map (some U),O] aJ),.blk U (.map es ck),cg O tr]) S _:=j;refine ⟨fun D St TC Tw Tq TI TL R7 SJ SP w_=>Fx D 0 [SP=.pointer (some ⟨V,0,none⟩),SJ=.pointer (some ⟨V,0,none⟩),R7=.pointer (some ⟨V,2,none⟩),TL=.map (some G),TI=.pointer (some ⟨b4,2,none⟩),Tq=.int .i64 x.b,Tw=.pointer (some ⟨b4,1,none⟩),TC=.int .i64 x.a,True,True]/\∃ o:Nat,o<=2/\D 8=decide (1<=o)/\D 9=decide (2<=o)/\(mp2S w X S [.blk b7 (.cells vv.toArray ac),B4,.blk V (.cells #[.pointer (some ⟨C,0,none⟩),.map (some B),.map (some G),.int .i64 (s.fr:Int)] aj),.blk B (.map Y a0)] G r J [.blk C (.cells #[.map (some U),O] aJ),.blk U (.map es ck),cg O tr] s.ar x.b (fT x.a) w_ o/\(D 8=true->St=.agg #[.int .i64 2,.int .i64 x.a,.string ⟨#[]⟩,.slice none 0 0])),⟨Fx.nil _ _,⟨0,aK _,rfl,rfl,⟨j.draw,aY⟩⟩⟩,⟨?_,?_,?_,?_,?_,?_,?_,?_,?_,?_,trivial⟩,?_⟩;all_goals (intro D bw; intros; rename_i St TC Tw Tq TI TL R7 SJ SP w_ Z; have g:=Z.1; obtain ⟨⟨cG,cf,cD,cF,bQ,cE,bZ,cL,dw,dl,_⟩,⟨o,l,i,p,m⟩⟩:=Z)
  ·exact ⟨g.set 0 rfl,⟨o,l,i,p,m⟩⟩
  ·obtain rfl:=cG ‹_›;refine aL ?_;exact ⟨g.set 1 rfl,⟨o,l,i,p,m⟩⟩
  ·obtain rfl:=cf ‹_›;refine au jn ?_;exact ⟨g.set 2 rfl,⟨o,l,i,p,m⟩⟩
  ·obtain rfl:=cD ‹_›;obtain ⟨a9,b0,j⟩:=m.1.any;refine aD j 2 cK rfl rfl ?_;exact ⟨g.set 3 rfl,⟨o,l,i,p,m⟩⟩
  ·refine au jz ?_;exact ⟨g.set 4 rfl,⟨o,l,i,p,m⟩⟩
  ·obtain rfl:=bQ ‹_›;obtain ⟨a9,b0,j⟩:=m.1.any;refine aD j 1 aw e4 rfl ?_;exact ⟨g.set 5 rfl,⟨o,l,i,p,m⟩⟩
  ·refine au dJ ?_;exact ⟨g.set 6 rfl,⟨o,l,i,p,m⟩⟩
  ·obtain rfl:=bZ ‹_›;obtain ⟨a9,b0,j⟩:=m.1.any;refine aD j 1 aw e4 rfl ?_;exact ⟨g.set 7 rfl,⟨o,l,i,p,m⟩⟩
  ·obtain rfl:=cL ‹_›;obtain rfl:o=0:=iI i bw;have j:Inv w X ([.blk b7 (.cells vv.toArray ac),B4,.blk V (.cells #[.pointer (some ⟨C,0,none⟩),.map (some B),.map (some G),.int .i64 (s.fr:Int)] aj),.blk B (.map Y a0)]++.blk G (.map r J)::[.blk C (.cells #[.map (some U),O] aJ),.blk U (.map es ck),cg O tr]) S w_:=m.1;refine Run.callPure qg qi j (nQ _ S) fun w_ j=>?_;have b1:mp2S w X S [.blk b7 (.cells vv.toArray ac),B4,.blk V (.cells #[.pointer (some ⟨C,0,none⟩),.map (some B),.map (some G),.int .i64 (s.fr:Int)] aj),.blk B (.map Y a0)] G r J [.blk C (.cells #[.map (some U),O] aJ),.blk U (.map es ck),cg O tr] s.ar x.b (fT x.a) w_ 1:=j;exact ⟨g.set 8 (by first|assumption|trivial),⟨1,by decide,rfl,(by first|exact p|rfl),⟨b1,fun _=>rfl⟩⟩⟩
  ·obtain rfl:=cF ‹_›;obtain rfl:=cE ‹_›;have GD:=dw ‹_›;obtain rfl:o=1:=gF i ‹D 8=true› p bw;obtain rfl:=m.2 ‹D 8=true›;have j:Inv w X ([.blk b7 (.cells vv.toArray ac),B4,.blk V (.cells #[.pointer (some ⟨C,0,none⟩),.map (some B),.map (some G),.int .i64 (s.fr:Int)] aj),.blk B (.map Y a0)]++.blk G (.map r J)::[.blk C (.cells #[.map (some U),O] aJ),.blk U (.map es ck),cg O tr]) S w_:=m.1;refine kY (cs:=[.int .i64 2,.int .i64 x.a,.string ⟨#[]⟩,.slice none 0 0]) j 4 cj c7 rfl hm.ar (zE S x.a hx.1) fun w_ c6 c9 d0 j=>?_;have b1:mp2S w X S [.blk b7 (.cells vv.toArray ac),B4,.blk V (.cells #[.pointer (some ⟨C,0,none⟩),.map (some B),.map (some G),.int .i64 (s.fr:Int)] aj),.blk B (.map Y a0)] G r J [.blk C (.cells #[.map (some U),O] aJ),.blk U (.map es ck),cg O tr] s.ar x.b (fT x.a) w_ 2:=⟨c6,c9,d0,j⟩
   exact ⟨g.set 9 trivial,⟨2,by decide,(by first|exact i|rfl),rfl,⟨b1,m.2⟩⟩⟩
  obtain rfl:o=2:=iH l p ‹D 9=true›;clear i p;obtain ⟨e5,e6,c5,j⟩:=m.1;exact ⟨_,⟨s.sl,upS s.ar x.b (fT x.a),s.fr,s.st⟩,by rw [insI,ae h1,ae h2,ae h3,ae h7,ae h8,ae h9,af f3],⟨Y,a0,e5,e6,es,ck,O,tr,rfl,hm.sl,c5,hm.st,hm.tr⟩,j.pick [false,false,true,true,true,true,true,true]⟩
 exact c2 _ _ _ j (Ext.refl _ _ _) (by rw [insI,ae h1,ae h2,ae h3,ae h7,ae h8,ae h9,ae f3])
end
end Go.Proofs.YtjbcdmheajljpaaGreat
