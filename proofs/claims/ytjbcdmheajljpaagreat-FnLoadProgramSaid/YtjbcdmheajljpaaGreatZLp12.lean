/- impl: binding, unification. -/
import Derived.Test.YtjbcdmheajljpaaGreatZLp11
namespace Go.Proofs.YtjbcdmheajljpaaGreat
section
open Go Go.RowKit
abbrev cQ (sb mb:Nat) (es:Array MapEntry) (ck:Nat) (tv:Value) (tr:List Int):List Item:=[.blk sb (.cells #[.map (some mb),tv] aJ),.blk mb (.map es ck),cg tv tr]
section
attribute [local irreducible] Run CondV aC aU
theorem Cc {N:Nat} {st:aX} (hg:Good N st) {n:Nat} (hf:st[n]?=some none) (a7:n<1000000000) {t:T} (ht:okU N t) {S:ag} {cs:List Value} {p g B:Nat} {C:Array MapEntry} {l:Value} {tr:List Int} (h:RdT S cs t) (hm:KnownM S C st) (b3:tr.length<=1000000) :
  Tri Tryz.prog BQ [.pointer (some ⟨p,0,none⟩),.int .i64 n,.agg cs.toArray] (cQ p g C B l tr) S fun r I' S'=>S'=S/\
   ((¬ gO st n t/\r=.bool true/\∃ a5 b1 b2,I'=cQ p g a5 b1 b2 (tr++[(n:Int)])/\KnownM S a5 (st.set n (some t))) ∨ (gO st n t/\r=.bool false/\I'=cQ p g C B l tr)):=by
 intro w a;have a3:=h.length;obtain ⟨X,hX⟩:∃ X,X=bT (cQ p g C B l tr):=⟨_,rfl⟩
 rw [<- hX] at a ⊢;have hn:∀ u,st[n]?≠some (some u):=fun u hu=>by rw [hf] at hu; cases hu
 have a9:n<st.length:=(iu.1 hf).1;refine ob.2 ?_;dsimp only[ob,fB];refine bH a fun U w' a=>?_;refine aq a 3 ad rfl (by simpa [Value.cells] using a3) ?_;refine mu a fun mm w' a=>?_;have a:Inv w X ([.blk U (.cells cs.toArray ac),cg l tr,.blk mm (.map #[] 0)]++bG [(p,.cells #[.map (some g),l] aJ),(g,.map C B)]) S w':=a.perm (by
  refine (List.Perm.trans ?_ (bK (l₁:=[.blk U (.cells cs.toArray ac),.blk mm (.map #[] 0)]) (l₂:=cQ p g C B l tr)));refine (List.Perm.cons _ (List.Perm.trans (List.Perm.swap _ _ _) (List.Perm.cons _ ?_)));exact bK (l₁:=[cg l tr]) (l₂:=bG [(p,.cells #[.map (some g),l] aJ),(g,.map C B)]))
 obtain ⟨S1,a8,V,J,Y⟩:=Inv.lendAll _ a;have b0:StS S S1 p st:=⟨g,l,C,B,aJ,V _ (bL ..),V _ (bV _ (bL ..)),hm⟩
 have J:Inv w X ([.blk U (.cells cs.toArray ac),cg l tr]++[.blk mm (.map #[] 0)]) S1 w':=J;refine Run.callE ir iO J (EM hg hn a7 t ht S S1 cs mm 0 #[] _ a8 b0 h MetM.empty (fun m hm=>hm.elim)) fun v' I' S' w'=>?_;rintro ⟨eS,G,b4,rfl,a0⟩ _ J;rw [eS] at J;have a:=Y _ _ J;have a:Inv w X ([.blk U (.cells cs.toArray ac)]++cQ p g C B l tr) S w':=(a.pick [true,true,false,true,true]).perm (List.Perm.cons _ (bK (l₁:=bG [(p,.cells #[.map (some g),l] aJ),(g,.map C B)]) (l₂:=[cg l tr])));rcases a0 with ⟨O,rfl⟩|⟨O,rfl,_⟩
 ·refine aI (fun _=>?_) (fun hb=>by cases hb);exact ⟨_,_,_,rfl,a.sub (gS _ _),Ext.refl _ _ _,rfl,.inr ⟨O,rfl,rfl⟩⟩
 refine aI (fun hb=>by cases hb) (fun _=>?_);have Z:Instr.findNow (.int .i64) (.int .i64 n) C.toList 0=some none:=by
  rcases hm.find n with ⟨_,_,u,_,_,_,_,hu⟩|⟨_,hf⟩
  ·exact absurd hu (hn u)
  ·exact hf
 have a4:=hm.push a9 hn h B;generalize a6:C.push { key:=.int .i64 n,val:=.agg cs.toArray,born:=B }=G at a4;have a:Inv w X [.blk U (.cells cs.toArray ac),.blk p (.cells #[.map (some g),l] aJ),.blk g (.map C B),cg l tr] S w':=a;refine ⟨fun D nr sY HL Ol LI Cq w_=>Fx D 0 [Cq=.pointer (some ⟨p,0,none⟩),LI=.pointer (some ⟨p,0,none⟩),Ol=.pointer (some ⟨p,0,none⟩),HL=.map (some g),sY=.int .i64 n,nr=.agg cs.toArray,True]/\Inv w X [.blk U (.cells cs.toArray ac),.blk p (.cells #[.map (some g),l] aJ),.blk g (cond (D 6) (.map G (B+1)) (.map C B)),cg l tr] S w_,⟨Fx.nil _ _,a.draw⟩,⟨?_,?_,?_,?_,?_,?_,?_,trivial⟩,?_⟩;all_goals (intro D bw; intros; rename_i nr sY HL Ol LI Cq w_ a1; have q:=a1.1; obtain ⟨⟨cG,cf,cD,cF,bQ,cE,bZ,_⟩,a⟩:=a1)
 ·exact ⟨q.set 0 rfl,a⟩
 ·obtain rfl:=cG ‹_›;refine aL ?_;exact ⟨q.set 1 rfl,a⟩
 ·obtain rfl:=cf ‹_›;refine au yQ ?_;exact ⟨q.set 2 rfl,a⟩
 ·obtain rfl:=cD ‹_›;refine aD a 1 (by decide +kernel) rfl rfl ?_;exact ⟨q.set 3 rfl,a⟩
 ·exact ⟨q.set 4 rfl,a⟩
 ·refine aq a 0 ad rfl (by simpa using a3) ?_;exact ⟨q.set 5 rfl,a⟩
 ·obtain rfl:=cF ‹_›;obtain rfl:=bQ ‹_›;obtain rfl:=cE ‹_›;rw [bw] at a;refine nb a 2 cj c7 rfl Z fun w_ a=>?_;rw [a6] at a;exact ⟨q.set 6 trivial,a⟩
 obtain ⟨rfl,rfl,rfl,rfl,rfl,rfl,_,_⟩:=q.all;have NE:D 6=true:=by assumption
 clear q cG cf cD cF bQ cE bZ;rw [NE] at a;have a:Inv w X [.blk U (.cells cs.toArray ac),.blk p (.cells #[.map (some g),l] aJ),.blk g (.map G (B+1)),cg l tr] S w_:=a;obtain ⟨va,vn,vc,b6⟩:=a.rowSlice 3 rfl;refine aL ?_;refine au xQ ?_;refine aD a 1 fG rfl rfl ?_;refine eQ a jl rfl (by omega) (by omega) fun b w' a=>?_;refine eU a 3 (k:=1) (o:=0) (m:=1) [.int .i64 n] jl (by omega) rfl rfl ?_ (by simp [Value.oneCell']) (by omega) (by omega) fun M w' a=>?_
 ·intro j u hj;rw [a.cellL (i:=4) rfl]
  match j with
  | 0=>simpa [Value.cells] using hj
  | j+1=>simp at hj
 rw [Eo] at a;have a:Inv w X [.blk U (.cells cs.toArray ac),.blk p (.cells #[.map (some g),l] aJ),.blk g (.map G (B+1)),cg M (tr++[(n:Int)]),.blk b (.cells #[.int .i64 n] bD)] S w':=by
  have e:Item.row M bD 1 (tr.length+1) (ints (tr++[(n:Int)]))=cg M (tr++[(n:Int)]):=by simp [cg]
  rw [<- e];exact a
 obtain ⟨b7,b8,b9,a2⟩:=a.rowSlice 3 rfl;refine aL ?_;refine dG a 1 rfl xQ fG rfl (by rw [a2]; rfl) (by rw [a2]; rfl) fun w' a=>?_;have a:Inv w X ([.blk U (.cells cs.toArray ac)]++(cQ p g G (B+1) M (tr++[(n:Int)])++[.blk b (.cells #[.int .i64 n] bD)])) S w':=a;exact ⟨_,_,_,rfl,(a.sub (dU [_] _)).sub (gR _ _),Ext.refl _ _ _,rfl,.inl ⟨O,rfl,G,B+1,M,rfl,a4⟩⟩
def vM:aX->List Int->aX
 | st,[]=>st
 | st,n::ns=>(vM st ns).set n.toNat none
theorem G1 (st:aX):∀ a b:List Int,vM st (a++b)=vM (vM st b) a
 | [],_=>rfl
 | n::a,b=>by rw [dQ,vM,vM,G1 st a b]
theorem H2 (st:aX):∀ (a:List Int) (i:Nat),(vM st a)[i]?=if (∃ n∈a,n.toNat=i) then st[i]?.map (fun _=>none) else st[i]?
 | [],i=>by rw [vM,ae (by simp)]
 | n::a,i=>by
  rw [vM,xK,H2 st a];have o:(vM st a).length=st.length:=by
   clear i;induction a with
   | nil=>rfl
   | cons m a p=>rw [vM,jR,p]
  by_cases l:n.toNat=i
  ·subst l;have g:∃ m∈n::a,m.toNat=n.toNat:=⟨n,by simp,rfl⟩
   by_cases h:n.toNat<st.length
   ·rw [af rfl,o,af h,af g,z9 h]; rfl
   ·rw [af rfl,o,ae h,af g,NK (by omega)]; rfl
  ·rw [ae l];by_cases h:∃ m∈a,m.toNat=i
   ·obtain ⟨m,g,j⟩:=h;rw [af ⟨m,g,j⟩,af ⟨m,bV _ g,j⟩]
   ·rw [ae h,ae];rintro ⟨m,g,j⟩;rcases ek.1 g with rfl|g
    ·exact l j
    ·exact h ⟨m,g,j⟩
def Tr (st st':aX) (tr tr':List Int):Prop:=∃ ns,tr'=tr++ns/\vM st' ns=st/\(∀ n∈ns,∃ j:Nat,n=(j:Int)/\st[j]?=some none)/\ns.length+unb st'<=unb st
theorem Tr.refl (st:aX) (tr:List Int):Tr st st tr tr:=⟨[],(dc _).symm,rfl,by simp,by simp⟩
theorem Tr.bind {st:aX} {tr:List Int} {n:Nat} {t:T} (h:st[n]?=some none):Tr st (st.set n (some t)) tr (tr++[(n:Int)]):=by
 refine ⟨[(n:Int)],rfl,?_,fun m a=>⟨n,cO.1 a,h⟩,by have:=qL st n t h; simp only [aO,cq]; omega⟩;rw [vM,vM,eB,List.set_set];apply Mp;intro i;rw [xK];by_cases e:n=i
 ·subst e;rw [af rfl,h,af (iu.1 h).1]
 ·rw [ae e]
theorem Tr.trans {a b c:aX} {x y z:List Int} (h:Tr a b x y) (i:Tr b c y z):Tr a c x z:=by
 obtain ⟨l,rfl,rfl,m,p⟩:=h;obtain ⟨ms,rfl,rfl,o,q⟩:=i;refine ⟨l++ms,by rw [cN],by rw [G1],fun n hn=>?_,by rw [bv]; omega⟩;rcases cI.1 hn with hn|hn
 ·exact m n hn
 ·obtain ⟨j,rfl,g⟩:=o n hn;refine ⟨j,rfl,?_⟩;rw [H2];split
  ·rw [g]; rfl
  ·exact g
def UI (st:aX) (a b:T) (r:Bool) (st':aX):Prop:=∀ (S:ag) (cs ds:List Value) (sb mb ck:Nat) (es:Array MapEntry) (tv:Value) (tr:List Int),RdT S cs a->RdT S ds b->KnownM S es st->tr.length+unb st<=1000000->
 Tri Tryz.prog zw [.pointer (some ⟨sb,0,none⟩),.agg cs.toArray,.agg ds.toArray] (cQ sb mb es ck tv tr) S fun q I' S'=>S'=S/\q=.bool r/\∃ es' ck' tv' tr',I'=cQ sb mb es' ck' tv' tr'/\KnownM S es' st'/\tr'.length+unb st'<=1000000/\Tr st st' tr tr'
set_option maxHeartbeats 1000000 in
theorem EV {N:Nat} (hN:N<=1000000) {st a0:aX} {a b a' b':T} {r:Bool} (hg:Good N st) (hj:okJ N (.one a b)) (e6:dI st a a') (e7:dI st b b') (he:Rs UI st a' b' r a0):UI st a b r a0:=by
 intro S cs ds sb mb ck es tv tr h h' a9 c9 w g;have g3:=h.length;have g4:=h'.length;have f3:=eh hg e6 hj.1;have f4:=eh hg e7 hj.2;obtain ⟨X,hX⟩:∃ X,X=bT (cQ sb mb es ck tv tr):=⟨_,rfl⟩
 rw [<- hX] at g ⊢;refine nf.2 ?_;dsimp only[nf,fB];refine bH g fun b1 w' g=>?_;refine bH g fun b2 w' g=>?_;have g:Inv w X ([.blk b1 (.cells cs.toArray ac),.blk b2 (.cells ds.toArray ac),cg tv tr]++bG [(sb,.cells #[.map (some mb),tv] aJ),(mb,.map es ck)]) S w':=g.perm (by
  refine (List.Perm.trans ?_ (bK (l₁:=[.blk b1 (.cells cs.toArray ac),.blk b2 (.cells ds.toArray ac)]) (l₂:=cQ sb mb es ck tv tr)));exact List.Perm.cons _ (List.Perm.cons _ (bK (l₁:=[cg tv tr]) (l₂:=bG [(sb,.cells #[.map (some mb),tv] aJ),(mb,.map es ck)]))))
 obtain ⟨S1,i0,e4,g,e9⟩:=Inv.lendAll _ g;have g5:StS S S1 sb st:=⟨mb,tv,es,ck,aJ,e4 _ (bL ..),e4 _ (bV _ (bL ..)),a9⟩
 refine ⟨fun D LI Cq np sX x9 x8 w_=>Fx D 0 [x8=.pointer (some ⟨sb,0,none⟩),x9=.agg cs.toArray,True,np=.pointer (some ⟨sb,0,none⟩),Cq=.agg ds.toArray,True,True,True]/\∃ p t,(D 2=true->sX=.agg (List.toArray p)/\RdT S p a')/\(D 5=true->LI=.agg (List.toArray t)/\RdT S t b')/\(D 6=true->D 1=true/\D 2=true)/\(D 7=true->D 4=true/\D 5=true)/\Inv w X [.blk b1 (.cells (cond (D 6) (List.toArray p) cs.toArray) ac),.blk b2 (.cells (cond (D 7) (List.toArray t) ds.toArray) ac),cg tv tr] S1 w_,⟨Fx.nil _ _,⟨[],[],aY,aY,aY,aY,g.draw⟩⟩,⟨?_,?_,?_,?_,?_,?_,?_,?_,trivial⟩,?_⟩;all_goals (intro D bw; intros; rename_i LI Cq np sX x9 x8 w_ d0; have l:=d0.1; obtain ⟨⟨cG,cf,cD,cF,bQ,cE,bZ,cL,_⟩,⟨p,t,e2,e5,k6,k7,g⟩⟩:=d0)
 ·exact ⟨l.set 0 rfl,⟨p,t,e2,e5,k6,k7,g⟩⟩
 ·have f6:D 6=false:=cS.2 fun h=>by rw [(k6 h).1] at bw; cases bw
  refine aq (c:=cs.toArray) g 0 ad (by rw [f6]; rfl) (by simpa using g3) ?_;have k6:=fun (h:aE D 1 6=true)=>(⟨rfl,(k6 h).2⟩:aE D 1 1=true/\aE D 1 2=true)
  exact ⟨l.set 1 rfl,⟨p,t,e2,e5,k6,k7,g⟩⟩
 ·obtain rfl:=cG ‹_›;obtain rfl:=cf ‹_›;have f6:D 6=false:=cS.2 fun h=>by rw [(k6 h).2] at bw; cases bw
  refine Run.call0 gY gX g (kf hg e6 hj.1.1 g5 h) fun v' I' S' w_=>?_;rintro ⟨eS,rfl,p,rfl,b9⟩ _ g;rw [eS] at g;have e2:=fun (_:aE D 2 2=true)=>(⟨rfl,b9⟩:Value.agg (List.toArray p)=Value.agg (List.toArray p)/\RdT S p a')
  have k6:=fun (h:aE D 2 6=true)=>(⟨(k6 h).1,rfl⟩:aE D 2 1=true/\aE D 2 2=true)
  have g:Inv w X [.blk b1 (.cells (cond (D 6) (List.toArray p) cs.toArray) ac),.blk b2 (.cells (cond (D 7) (List.toArray t) ds.toArray) ac),cg tv tr] S1 w_:=by rw [f6] at g ⊢; simpa using g
  exact ⟨l.set 2 (by first|assumption|trivial),⟨p,t,e2,e5,k6,k7,g⟩⟩
 ·exact ⟨l.set 3 rfl,⟨p,t,e2,e5,k6,k7,g⟩⟩
 ·have f7:D 7=false:=cS.2 fun h=>by rw [(k7 h).1] at bw; cases bw
  refine aq (c:=ds.toArray) g 1 ad (by rw [f7]; rfl) (by simpa using g4) ?_;have k7:=fun (h:aE D 4 7=true)=>(⟨rfl,(k7 h).2⟩:aE D 4 4=true/\aE D 4 5=true)
  exact ⟨l.set 4 rfl,⟨p,t,e2,e5,k6,k7,g⟩⟩
 ·obtain rfl:=cF ‹_›;obtain rfl:=bQ ‹_›;have f7:D 7=false:=cS.2 fun h=>by rw [(k7 h).2] at bw; cases bw
  refine Run.call0 gY gX g (kf hg e7 hj.2.1 g5 h') fun v' I' S' w_=>?_;rintro ⟨eS,rfl,t,rfl,c3⟩ _ g;rw [eS] at g;have e5:=fun (_:aE D 5 5=true)=>(⟨rfl,c3⟩:Value.agg (List.toArray t)=Value.agg (List.toArray t)/\RdT S t b')
  have k7:=fun (h:aE D 5 7=true)=>(⟨(k7 h).1,rfl⟩:aE D 5 4=true/\aE D 5 5=true)
  have g:Inv w X [.blk b1 (.cells (cond (D 6) (List.toArray p) cs.toArray) ac),.blk b2 (.cells (cond (D 7) (List.toArray t) ds.toArray) ac),cg tv tr] S1 w_:=by rw [f7] at g ⊢; simpa using g
  exact ⟨l.set 5 (by first|assumption|trivial),⟨p,t,e2,e5,k6,k7,g⟩⟩
 ·have RP:=cD ‹_›;obtain ⟨q2,d2⟩:=e2 ‹D 2=true›;rw [bw] at g;subst q2;refine al g 0 rfl ad (by simpa using d2.length) (by simpa using g3) (by simpa using d2.one) fun w_ g=>?_;have k6:=fun (_:aE D 6 6=true)=>(⟨‹D 1=true›,‹D 2=true›⟩:aE D 6 1=true/\aE D 6 2=true)
  exact ⟨l.set 6 trivial,⟨p,t,e2,e5,k6,k7,g⟩⟩
 ·have Gv:=cE ‹_›;obtain ⟨q5,g0⟩:=e5 ‹D 5=true›;rw [bw] at g;subst q5;refine al g 1 rfl ad (by simpa using g0.length) (by simpa using g4) (by simpa using g0.one) fun w_ g=>?_;have k7:=fun (_:aE D 7 7=true)=>(⟨‹D 4=true›,‹D 5=true›⟩:aE D 7 4=true/\aE D 7 5=true)
  exact ⟨l.set 7 trivial,⟨p,t,e2,e5,k6,k7,g⟩⟩
 obtain ⟨rfl,rfl,RP,rfl,rfl,Gv,_,_,_⟩:=l.all;have T2:D 2=true:=by assumption
 have Q7:D 5=true:=by assumption
 have NE:D 6=true:=by assumption
 have sZ:D 7=true:=by assumption
 clear l cG cf cD cF bQ cE bZ cL;obtain ⟨_,b9⟩:=e2 T2;obtain ⟨_,c3⟩:=e5 Q7;rw [NE,sZ] at g;clear e2 e5 k6 k7;have g:=e9 _ _ g;have g:Inv w X ([.blk b1 (.cells p.toArray ac),.blk b2 (.cells t.toArray ac)]++cQ sb mb es ck tv tr) S w_:=g.perm (List.Perm.cons _ (List.Perm.cons _ (bK (l₁:=bG [(sb,.cells #[.map (some mb),tv] aJ),(mb,.map es ck)]) (l₂:=[cg tv tr]))));have h5:=b9;have h6:=c3;obtain ⟨kv,rfl,_,_,_,d3⟩:=RdT.iff.1 b9;obtain ⟨f0,rfl,_,_,_,d4⟩:=RdT.iff.1 c3;obtain ⟨k,n,s,ks⟩:=a';obtain ⟨k',n',s',o⟩:=b';unfold Rs at he;simp only [T.name,T.kids,T.kind,T.n] at d3 d4 g he ⊢;have g6:=d3.le;simp only [maxLen] at g6;have c6:=fun h=>mv hg h (ii e6) f3.1;have c7:=fun h=>mv hg h (ii e7) f4.1;have i3:=hg.len;refine ⟨fun q w'=>q=.bool (decide (k=1/\k'=1/\n=n'))/\Inv w X ([.blk b1 (.cells #[.int .i64 k,.int .i64 n,.string s,kv] ac),.blk b2 (.cells #[.int .i64 k',.int .i64 n',.string s',f0] ac)]++cQ sb mb es ck tv tr) S w',?_,?_⟩
 ·refine ah g 0 rfl bb aw rfl ?_;refine bn ?_;by_cases e1:k=1
  ·rw [aP e1];refine rpG ?_;refine ah g 1 rfl bb aw rfl ?_;refine bn ?_;by_cases e2:k'=1
   ·rw [aP e2];refine rpG ?_;refine ah g 0 rfl aV aw rfl ?_;refine ah g 1 rfl aV aw rfl ?_;refine bn ?_;refine rpG ?_;exact ⟨by simp [e1,e2],g⟩
   ·rw [bf e2];refine rpG ?_;exact ⟨by simp [e2],g⟩
  ·rw [bf e1];refine rpG ?_;exact ⟨by simp [e1],g⟩
 intro q _ _ _ _ _ _ _ _ _ _ _ _ _ _ _ w';rintro ⟨rfl,g⟩;refine aS (fun a4=>?_) (fun a4=>?_)
 ·have:r=true/\a0=st:=by
   rcases he with ⟨_,_,_,m,h2⟩|⟨_,m,_⟩|⟨m,_,_⟩|⟨m,_,_⟩
   ·exact ⟨m,h2⟩
   ·exact absurd a4.2 m
   ·exact absurd a4.1 m
   ·exact absurd a4.1 m
  obtain ⟨rfl,rfl⟩:=this;exact ⟨_,_,_,rfl,g.sub (dU [_,_] _),Ext.refl _ _ _,rfl,rfl,es,ck,tv,tr,rfl,a9,c9,Tr.refl _ _⟩
 refine ah g 0 rfl bb aw rfl ?_;refine bn ?_;refine aS (fun a7=>?_) (fun a7=>?_)
 ·have Z:(¬ gO st n.toNat (.mk k' n' s' o)/\r=true/\a0=st.set n.toNat (some (.mk k' n' s' o))) ∨ (gO st n.toNat (.mk k' n' s' o)/\r=false/\a0=st):=by
   rcases he with ⟨m,h2,h3,_⟩|⟨_,_,m⟩|⟨m,_,_⟩|⟨m,_,_⟩
   ·exact absurd ⟨m,h2,h3⟩ a4
   ·exact m
   ·exact absurd a7 m
   ·exact absurd a7 m
  obtain ⟨f1,f2,_⟩:=f3.1.var a7;have c6:=c6 a7;simp only [T.n] at f1 f2 c6;obtain ⟨j,rfl⟩:∃ j:Nat,n=j:=⟨n.toNat,by omega⟩
  rw [eB] at c6 Z;refine ah g 0 rfl aV aw rfl ?_;refine aq g 1 ad rfl rfl ?_;refine Run.callE (A:=[_,_]) oB ou g (Cc hg c6 (by omega) f4.1 h6 a9 (by omega)) fun v' I' S' w'=>?_;rintro ⟨eS,b0⟩ _ g;rw [eS] at g;have h7:=qL st j (.mk k' n' s' o) c6;rcases Z with ⟨m,rfl,rfl⟩|⟨m,rfl,rfl⟩
  ·rcases b0 with ⟨_,rfl,O,U,V,rfl,b3⟩|⟨h2,_⟩
   ·exact ⟨_,_,_,rfl,g.sub (dU [_,_] _),Ext.refl _ _ _,rfl,rfl,O,U,V,_,rfl,b3,by simp; omega,Tr.bind (by assumption)⟩
   ·exact absurd h2 m
  ·rcases b0 with ⟨h2,_⟩|⟨_,rfl,rfl⟩
   ·exact absurd m h2
   ·exact ⟨_,_,_,rfl,g.sub (dU [_,_] _),Ext.refl _ _ _,rfl,rfl,es,ck,tv,tr,rfl,a9,c9,Tr.refl _ _⟩
 refine ah g 1 rfl bb aw rfl ?_;refine bn ?_;refine aS (fun d1=>?_) (fun d1=>?_)
 ·have Z:(¬ gO st n'.toNat (.mk k n s ks)/\r=true/\a0=st.set n'.toNat (some (.mk k n s ks))) ∨ (gO st n'.toNat (.mk k n s ks)/\r=false/\a0=st):=by
   rcases he with ⟨m,_⟩|⟨m,_,_⟩|⟨_,_,m⟩|⟨_,m,_⟩
   ·exact absurd m a7
   ·exact absurd m a7
   ·exact m
   ·exact absurd d1 m
  obtain ⟨f1,f2,_⟩:=f4.1.var d1;have c7:=c7 d1;simp only [T.n] at f1 f2 c7;obtain ⟨j,rfl⟩:∃ j:Nat,n'=j:=⟨n'.toNat,by omega⟩
  rw [eB] at c7 Z;refine ah g 1 rfl aV aw rfl ?_;refine aq g 0 ad rfl rfl ?_;refine Run.callE (A:=[_,_]) oB ou g (Cc hg c7 (by omega) f3.1 h5 a9 (by omega)) fun v' I' S' w'=>?_;rintro ⟨eS,b0⟩ _ g;rw [eS] at g;have h7:=qL st j (.mk k n s ks) c7;rcases Z with ⟨m,rfl,rfl⟩|⟨m,rfl,rfl⟩
  ·rcases b0 with ⟨_,rfl,O,U,V,rfl,b3⟩|⟨h2,_⟩
   ·exact ⟨_,_,_,rfl,g.sub (dU [_,_] _),Ext.refl _ _ _,rfl,rfl,O,U,V,_,rfl,b3,by simp; omega,Tr.bind (by assumption)⟩
   ·exact absurd h2 m
  ·rcases b0 with ⟨h2,_⟩|⟨_,rfl,rfl⟩
   ·exact absurd m h2
   ·exact ⟨_,_,_,rfl,g.sub (dU [_,_] _),Ext.refl _ _ _,rfl,rfl,es,ck,tv,tr,rfl,a9,c9,Tr.refl _ _⟩
 have Z:(sF (.mk k n s ks) (.mk k' n' s' o)=false/\r=false/\a0=st) ∨ (sF (.mk k n s ks) (.mk k' n' s' o)=true/\Chain UI st ks o r a0):=by
  rcases he with ⟨m,_⟩|⟨m,_,_⟩|⟨_,m,_⟩|⟨_,_,m⟩
  ·exact absurd m a7
  ·exact absurd m a7
  ·exact absurd m d1
  ·exact m
 refine ⟨fun q w'=>q=.bool (!sF (.mk k n s ks) (.mk k' n' s' o))/\Inv w X ([.blk b1 (.cells #[.int .i64 k,.int .i64 n,.string s,kv] ac),.blk b2 (.cells #[.int .i64 k',.int .i64 n',.string s',f0] ac)]++cQ sb mb es ck tv tr) S w',?_,?_⟩
 ·refine ah g 0 rfl bb aw rfl ?_;refine ah g 1 rfl bb aw rfl ?_;refine pu ?_;by_cases e1:k=k'
  ·rw [aP e1];refine rpG ?_;refine ah g 0 rfl aV aw rfl ?_;refine ah g 1 rfl aV aw rfl ?_;refine pu ?_;by_cases e2:n=n'
   ·rw [aP e2];refine rpG ?_;refine ah g 0 rfl bk aZ rfl ?_;refine ah g 1 rfl bk aZ rfl ?_;refine NX ?_;by_cases e3:s=s'
    ·rw [aP e3];refine rpG ?_;refine ah g 0 rfl ay ax rfl ?_;refine aG d3 ao ?_;refine ah g 1 rfl ay ax rfl ?_;refine aG d4 ao ?_;refine pu ?_;refine rpG ?_;exact ⟨by rw [zG,aP e1,aP e2,aP e3,TP]; rfl,g⟩
    ·rw [bf e3];refine rpG ?_;exact ⟨by rw [zG,aP e1,aP e2,bf e3]; rfl,g⟩
   ·rw [bf e2];refine rpG ?_;exact ⟨by rw [zG,aP e1,bf e2]; rfl,g⟩
  ·rw [bf e1];refine rpG ?_;exact ⟨by rw [zG,bf e1]; rfl,g⟩
 intro q _ _ _ _ _ _ _ _ _ _ _ _ _ _ _ _ _ _ _ _ _ _ _ _ _ _ _ _ w';rintro ⟨rfl,g⟩;cases hd:sF (.mk k n s ks) (.mk k' n' s' o)
 ·refine aI (fun _=>?_) (fun hb=>by cases hb);have:r=false/\a0=st:=by
   rcases Z with ⟨_,m⟩|⟨m,_⟩
   ·exact m
   ·rw [hd] at m; cases m
  obtain ⟨rfl,rfl⟩:=this;exact ⟨_,_,_,rfl,g.sub (dU [_,_] _),Ext.refl _ _ _,rfl,rfl,es,ck,tv,tr,rfl,a9,c9,Tr.refl _ _⟩
 refine aI (fun hb=>by cases hb) (fun _=>?_);have g7:ks.length=o.length:=pj hd;have h8:Chain UI st ks o r a0:=by
  rcases Z with ⟨m,_⟩|⟨_,m⟩
  ·rw [hd] at m; cases m
  ·exact m
 refine ah g 0 rfl ay ax rfl ?_;refine aG d3 ao ?_;refine ⟨fun i w'=>∃ (j:Nat) (b4:aX) (a8:Array MapEntry) (b5:Nat) (b6:Value) (a3:List Int),j<=ks.length/\i=.int .i64 j/\Chain UI b4 (ks.drop j) (o.drop j) r a0/\KnownM S a8 b4/\a3.length+unb b4<=1000000/\Tr st b4 tr a3/\Inv w X ([.blk b1 (.cells #[.int .i64 k,.int .i64 n,.string s,kv] ac),.blk b2 (.cells #[.int .i64 k',.int .i64 n',.string s',f0] ac)]++cQ sb mb a8 b5 b6 a3) S w',fun i _=>ks.length - (intOf i).toNat,⟨0,st,es,ck,tv,tr,aK _,rfl,h8,a9,c9,Tr.refl _ _,g⟩,?_⟩;intro h9 _ _ _ _ _ _ _ _ _ _ _ _ _ _ _ _ _ _ w';rintro ⟨j,b4,a8,b5,b6,a3,hj,rfl,c4,d9,e0,e8,g⟩;refine cu ?_;refine aS (fun g8=>?_) (fun g8=>?_)
 ·have d7:j<ks.length:=by omega
  have f5:j<o.length:=by omega
  obtain ⟨c1,o1,a5,a1,E1,i1,rfl,g9,g1⟩:=d3.at_ d7;obtain ⟨c2,o2,a6,a2,E2,i2,rfl,h0,d2⟩:=d4.at_ f5;rw [dR d7,dR f5] at c4;obtain ⟨r1,b7,b8,h4,g2⟩:=c4.head;have b8:=b8 S _ _ sb mb b5 a8 b6 a3 g1 d2 d9 e0;refine ⟨fun D SF TU TH SB H1 Ht Dr CP Cw Ej Cr zm zH w_=>Fx D 0 [zH=.pointer (some ⟨sb,0,none⟩),zm=.pointer (some ⟨b1,3,none⟩),Cr=.slice (some ⟨c1,o1,none⟩) ks.length a5,Ej=.int .i64 j,Cw=.pointer (some ⟨c1,o1+j * 4,none⟩),CP=.agg (bB a1 (o1+j * 4) 4).toArray,Dr=.pointer (some ⟨b2,3,none⟩),Ht=.slice (some ⟨c2,o2,none⟩) o.length a6,H1=.int .i64 j,SB=.pointer (some ⟨c2,o2+j * 4,none⟩),TH=.agg (bB a2 (o2+j * 4) 4).toArray,TU=.bool r1,SF=.bool (!r1)]/\(D 11=false->Inv w X ([.blk b1 (.cells #[.int .i64 k,.int .i64 n,.string s,.slice (some ⟨c1,o1,none⟩) ks.length a5] ac),.blk b2 (.cells #[.int .i64 k',.int .i64 n',.string s',.slice (some ⟨c2,o2,none⟩) o.length a6] ac)]++cQ sb mb a8 b5 b6 a3) S w_)/\(D 11=true->∃ O U V Y,KnownM S O b7/\Y.length+unb b7<=1000000/\Tr b4 b7 a3 Y/\Inv w X ([.blk b1 (.cells #[.int .i64 k,.int .i64 n,.string s,.slice (some ⟨c1,o1,none⟩) ks.length a5] ac),.blk b2 (.cells #[.int .i64 k',.int .i64 n',.string s',.slice (some ⟨c2,o2,none⟩) o.length a6] ac)]++cQ sb mb O U V Y) S w_)/\∃ u B C G,Inv w X ([.blk b1 (.cells #[.int .i64 k,.int .i64 n,.string s,.slice (some ⟨c1,o1,none⟩) ks.length a5] ac),.blk b2 (.cells #[.int .i64 k',.int .i64 n',.string s',.slice (some ⟨c2,o2,none⟩) o.length a6] ac)]++cQ sb mb u B C G) S w_,⟨Fx.nil _ _,⟨fun _=>g.draw,aY,a8,b5,b6,a3,g.draw⟩⟩,⟨?_,?_,?_,?_,?_,?_,?_,?_,?_,?_,?_,?_,?_,trivial⟩,?_⟩;all_goals (intro D bw; intros; rename_i SF TU TH SB H1 Ht Dr CP Cw Ej Cr zm zH w_ d0; have l:=d0.1; obtain ⟨⟨cG,cf,cD,cF,bQ,cE,bZ,cL,dw,dl,ci,c8,dN,_⟩,⟨J,M,u,B,C,G,g⟩⟩:=d0)
  ·exact ⟨l.set 0 rfl,⟨J,M,u,B,C,G,g⟩⟩
  ·refine au ay ?_;exact ⟨l.set 1 rfl,⟨J,M,u,B,C,G,g⟩⟩
  ·obtain rfl:=cf ‹_›;refine aD g 0 ax rfl rfl ?_;exact ⟨l.set 2 rfl,⟨J,M,u,B,C,G,g⟩⟩
  ·exact ⟨l.set 3 rfl,⟨J,M,u,B,C,G,g⟩⟩
  ·obtain rfl:=cD ‹_›;obtain rfl:=cF ‹_›;refine aT ao d7 ?_;exact ⟨l.set 4 rfl,⟨J,M,u,B,C,G,g⟩⟩
  ·obtain rfl:=bQ ‹_›;refine dX ad g1.length (fun j v hj=>by rw [g.cellS g9]; exact bd rfl j v hj) ?_;exact ⟨l.set 5 rfl,⟨J,M,u,B,C,G,g⟩⟩
  ·refine au ay ?_;exact ⟨l.set 6 rfl,⟨J,M,u,B,C,G,g⟩⟩
  ·obtain rfl:=bZ ‹_›;refine aD g 1 ax rfl rfl ?_;exact ⟨l.set 7 rfl,⟨J,M,u,B,C,G,g⟩⟩
  ·exact ⟨l.set 8 rfl,⟨J,M,u,B,C,G,g⟩⟩
  ·obtain rfl:=cL ‹_›;obtain rfl:=dw ‹_›;refine aT ao f5 ?_;exact ⟨l.set 9 rfl,⟨J,M,u,B,C,G,g⟩⟩
  ·obtain rfl:=dl ‹_›;refine dX ad d2.length (fun j v hj=>by rw [g.cellS h0]; exact bd rfl j v hj) ?_;exact ⟨l.set 10 rfl,⟨J,M,u,B,C,G,g⟩⟩
  ·obtain rfl:=cG ‹_›;obtain rfl:=cE ‹_›;obtain rfl:=ci ‹_›;refine Run.callE (A:=[_,_]) gA gB (J bw) b8 fun v' I' S' w_=>?_;rintro ⟨eS,rfl,O,U,V,Y,rfl,b3,c5,d6⟩ _ g;rw [eS] at g;have J:=fun (h:aE D 11 11=false)=>(Bool.noConfusion h:Inv w X ([.blk b1 (.cells #[.int .i64 k,.int .i64 n,.string s,.slice (some ⟨c1,o1,none⟩) ks.length a5] ac),.blk b2 (.cells #[.int .i64 k',.int .i64 n',.string s',.slice (some ⟨c2,o2,none⟩) o.length a6] ac)]++cQ sb mb a8 b5 b6 a3) S w_)
   have M:=fun (_:aE D 11 11=true)=>(⟨O,U,V,Y,b3,c5,d6,g⟩:∃ O U V Y,KnownM S O b7/\Y.length+unb b7<=1000000/\Tr b4 b7 a3 Y/\Inv w X ([.blk b1 (.cells #[.int .i64 k,.int .i64 n,.string s,.slice (some ⟨c1,o1,none⟩) ks.length a5] ac),.blk b2 (.cells #[.int .i64 k',.int .i64 n',.string s',.slice (some ⟨c2,o2,none⟩) o.length a6] ac)]++cQ sb mb O U V Y) S w_)
   obtain ⟨u,B,C,G,g⟩:∃ u B C G,Inv w X ([.blk b1 (.cells #[.int .i64 k,.int .i64 n,.string s,.slice (some ⟨c1,o1,none⟩) ks.length a5] ac),.blk b2 (.cells #[.int .i64 k',.int .i64 n',.string s',.slice (some ⟨c2,o2,none⟩) o.length a6] ac)]++cQ sb mb u B C G) S w_:=⟨O,U,V,Y,g⟩
   exact ⟨l.set 11 rfl,⟨J,M,u,B,C,G,g⟩⟩
  ·obtain rfl:=c8 ‹_›;refine cU ?_;exact ⟨l.set 12 rfl,⟨J,M,u,B,C,G,g⟩⟩
  obtain ⟨rfl,rfl,rfl,rfl,rfl,rfl,rfl,rfl,rfl,rfl,rfl,rfl,rfl,_⟩:=l.all;have r6:D 11=true:=by assumption
  clear l cG cf cD cF bQ cE bZ cL dw dl ci c8 dN;obtain ⟨O,U,V,Y,b3,c5,d6,g⟩:=M r6;clear J M;refine aI (fun f8=>?_) (fun f9=>?_)
  ·simp only [rn] at f8;obtain ⟨rfl,rfl⟩:=h4 f8;exact ⟨_,_,_,rfl,g.sub (dU [_,_] _),Ext.refl _ _ _,rfl,rfl,O,U,V,Y,rfl,b3,c5,e8.trans d6⟩
  ·simp only [Po] at f9;refine bF (by omega) ?_;exact ⟨⟨j+1,b7,O,U,V,Y,d7,rfl,g2 f9,b3,c5,e8.trans d6,g⟩,by simp [intOf]; omega⟩
 ·have:j=ks.length:=by omega
  subst this;rw [ew,g7,ew] at c4;obtain ⟨rfl,rfl⟩:=c4.done;exact ⟨_,_,_,rfl,g.sub (dU [_,_] _),Ext.refl _ _ _,rfl,rfl,a8,b5,b6,a3,rfl,d9,e0,e8⟩
theorem mg {N:Nat} (m:N<=1000000) {st g:aX} {a b:T} {r:Bool} (h:Good N st) (i:okJ N (.one a b)) (o:Uni st (.one a b) r g):UI st a b r g:=
 Uni.calls (N:=N) (Call:=UI) (fun _ _ _ _ _ _ _ h i j l p=>EV m h i j l p) o h i
end
end
section
open Go Go.RowKit
def fsI (n:Int):List MapEntry->Nat->Option (Nat × Value)
 | [],_=>none
 | e::l,i=>match e.key with
  | .int .i64 m=>if n=m then some (i,e.val) else fsI n l (i+1)
  | _=>fsI n l (i+1)
theorem nJ {n:Int}:∀ (l:List MapEntry) (i:Nat),(∀ e∈l,∃ m,e.key=.int .i64 m)->Instr.findNow (.int .i64) (.int .i64 n) l i=some (fsI n l i)
 | [],i,_=>rfl
 | e::l,i,h=>by
  obtain ⟨m,g⟩:=h e (bL ..);have j:Instr.sameNow (.int .i64) (.int .i64 n) e.key=some (n == m):=by rw [g]; rfl
  have p:=nJ (n:=n) l (i+1) fun e o=>h e (bV _ o);rw [fsI,g];by_cases a:n=m
  ·have q:(n == m)=true:=by simpa using a
   rw [Instr.findNow,j,q];simp only [af a]
  ·have r:(n == m)=false:=by simpa using a
   rw [Instr.findNow,j,r];simp only [ae a];exact p
theorem Pa (n:Int) (e:MapEntry):∀ (l:List MapEntry) (i:Nat),fsI n (l++[e]) i=match fsI n l i with
  | some x=>some x
  | none=>fsI n [e] (i+l.length)
 | [],i=>rfl
 | x::l,i=>by
  rw [dQ,fsI,fsI];have a:=Pa n e l (i+1);have g:i+1+l.length=i+(x::l).length:=by rw [aO]; omega
  rw [g] at a;split
  ·split
   ·rfl
   ·exact a
  ·exact a
theorem Li {n:Int} {j:Nat} {old v:Value}:∀ (l:List MapEntry) (i:Nat),fsI n l i=some (j,old)->
  i<=j/\(∃ x,l[j - i]?=some x/\x.key=.int .i64 n)/\∀ m,fsI m (l.modify (j - i) fun e=>{ e with key:=.int .i64 n,val:=v }) i=if m=n then some (j,v) else fsI m l i
 | [],i,h=>by cases h
 | x::l,i,h=>by
  rw [fsI] at h;have q:fsI n l (i+1)=some (j,old)->(∀ m,(∀ k,x.key=.int .i64 k->m=n->m≠k)->True)->(∀ k,x.key=.int .i64 k->n≠k)->i<=j/\(∃ y,(x::l)[j - i]?=some y/\y.key=.int .i64 n)/\∀ m,fsI m ((x::l).modify (j - i) fun e=>{ e with key:=.int .i64 n,val:=v }) i=if m=n then some (j,v) else fsI m (x::l) i:=fun h _ r=>by
   obtain ⟨D,⟨y,t,u⟩,B⟩:=Li l (i+1) h;have e:j - i=(j - (i+1))+1:=by omega
   refine ⟨by omega,⟨y,by rw [e,lY]; exact t,u⟩,fun m=>?_⟩;rw [e,List.modify_succ_cons,fsI,fsI,B m];split
   ·rename_i k hk
    by_cases a:m=n
    ·rw [af a,af a,ae (by rw [a]; exact r k hk)]
    ·rw [ae a,ae a]
   ·rfl
  split at h
  ·rename_i k hk
   split at h
   ·rename_i g
    rw [bh,di] at h;obtain ⟨rfl,rfl⟩:=h;refine ⟨be _,⟨x,by rw [fg]; rfl,by rw [hk,g]⟩,fun m=>?_⟩;rw [fg,List.modify_zero_cons,fsI,fsI,hk];simp only [g];by_cases a:m=k
    ·rw [af a,af a]
    ·rw [ae a,ae a,ae a]
   ·rename_i g
    exact q h (fun _ _=>trivial) fun C o=>by
     rw [hk,Value.int.injEq] at o;rw [<- o.2]; exact g
  ·rename_i p
   exact q h (fun _ _=>trivial) fun k hk=>absurd hk (p k)
def SlT (S:ag) (es:Array MapEntry) (sl:Sl):Prop:=
 (∀ e∈es.toList,∃ m,e.key=.int .i64 m)/\∀ n,match sl n with
  | some t=>∃ j cs,fsI n es.toList 0=some (j,.agg (List.toArray cs))/\RdT S cs t
  | none=>fsI n es.toList 0=none
theorem SlT.get {S:ag} {a:Array MapEntry} {sl:Sl} (h:SlT S a sl) {n:Int} {t:T} (g:sl n=some t):∃ j cs,fsI n a.toList 0=some (j,.agg (List.toArray cs))/\RdT S cs t:=by
 have:=h.2 n;rw [g] at this;exact this
theorem SlT.no {S:ag} {a:Array MapEntry} {sl:Sl} (h:SlT S a sl) {n:Int} (g:sl n=none):fsI n a.toList 0=none:=by
 have:=h.2 n;rw [g] at this;exact this
theorem SlT.of {S:ag} {a:Array MapEntry} {sl:Sl} (h:∀ e∈a.toList,∃ m,e.key=.int .i64 m) (i:∀ n t,sl n=some t->∃ j cs,fsI n a.toList 0=some (j,.agg (List.toArray cs))/\RdT S cs t) (l:∀ n,sl n=none->fsI n a.toList 0=none):SlT S a sl:=by
 refine ⟨h,fun n=>?_⟩;cases g:sl n with
 | none=>exact l n g
 | some t=>exact i n t g
theorem SlT.up {S S':ag} {a:Array MapEntry} {sl:Sl} (h:SlT S a sl) (g:Sle S S'):SlT S' a sl:=
 .of h.1 (fun n t i=>by obtain ⟨j,cs,e,hR⟩:=h.get i; exact ⟨j,cs,e,hR.mono g⟩) fun n=>h.no
theorem SlT.empty (S:ag):SlT S #[] (fun _=>none):=.of (fun e a=>by simp at a) (fun _ _ h=>by cases h) fun _ _=>rfl
theorem SlT.look {S:ag} {g:Array MapEntry} {sl:Sl} (h:SlT S g sl) (n:Int):∃ (a:List Value) (ok:Bool),((∃ j,Instr.findNow (.int .i64) (.int .i64 n) g.toList 0=some (some (j,.agg (List.toArray a)))/\ok=true) ∨ (Instr.findNow (.int .i64) (.int .i64 n) g.toList 0=some none/\(Value.agg (List.toArray a))=.agg #[.int .i64 0,.int .i64 0,.string ⟨#[]⟩,.slice none 0 0]/\ok=false))/\a.length=4/\(∀ x∈a,x.oneCell'=true)/\ok=(sl n).isSome/\∀ t,sl n=some t->RdT S a t:=by
 rw [nJ g.toList 0 h.1];cases i:sl n with
 | none=>exact ⟨[.int .i64 0,.int .i64 0,.string ⟨#[]⟩,.slice none 0 0],false,.inr ⟨by rw [h.no i],rfl,rfl⟩,rfl,by simp [Value.oneCell'],rfl,fun t e=>by cases e⟩
 | some t=>
  obtain ⟨j,cs,e,hR⟩:=h.get i;exact ⟨cs,true,.inl ⟨j,by rw [e],rfl⟩,hR.length,hR.one,rfl,fun u l=>by cases l; exact hR⟩
theorem SlT.push {S:ag} {i:Array MapEntry} {sl:Sl} (h:SlT S i sl) {n:Int} {cs:List Value} {u:T} (hn:fsI n i.toList 0=none) (o:RdT S cs u) (l:Nat):SlT S (i.push { key:=.int .i64 n,val:=.agg cs.toArray,born:=l }) (upS sl n u):=by
 have hf:∀ m,fsI m (i.push { key:=.int .i64 n,val:=.agg cs.toArray,born:=l }).toList 0=if m=n then some (i.toList.length,.agg cs.toArray) else fsI m i.toList 0:=fun m=>by
  rw [FK,Pa];by_cases a:m=n
  ·rw [af a,a,hn];simp only [fsI,af trivial,df]
  ·rw [ae a];cases j:fsI m i.toList 0 with
   | some x=>rfl
   | none=>simp only [fsI,ae a]
 refine .of (fun e j=>?_) (fun m t g=>?_) fun m g=>?_
 ·rw [FK,cI,cO] at j;rcases j with j|rfl
  ·exact h.1 e j
  ·exact ⟨n,rfl⟩
 ·rw [hf];by_cases a:m=n
  ·rw [a,dY] at g;cases g;rw [af a];exact ⟨_,cs,rfl,o⟩
  ·rw [ae a];rw [jb _ _ a] at g;exact h.get g
 ·rw [hf];by_cases a:m=n
  ·rw [a,dY] at g; cases g
  ·rw [ae a];rw [jb _ _ a] at g;exact h.no g
theorem SlT.set {S:ag} {i:Array MapEntry} {sl:Sl} (h:SlT S i sl) {n:Int} {cs:List Value} {u:T} {j:Nat} {old:Value} (hn:fsI n i.toList 0=some (j,old)) (o:RdT S cs u):SlT S (i.modify j fun e=>{ e with key:=.int .i64 n,val:=.agg cs.toArray }) (upS sl n u):=by
 obtain ⟨_,⟨x,p,q⟩,hf⟩:=Li (v:=.agg cs.toArray) i.toList 0 hn;rw [Nat.sub_zero] at hf p;refine .of (fun e l=>?_) (fun m t a=>?_) fun m a=>?_
 ·rw [Array.toList_modify] at l;obtain ⟨k,hk,rfl⟩:=Lx.1 l;rw [List.getElem_modify];split
  ·exact ⟨n,rfl⟩
  ·exact h.1 _ (cH _)
 ·rw [Array.toList_modify,hf];by_cases g:m=n
  ·rw [g,dY] at a;cases a;rw [af g];exact ⟨_,cs,rfl,o⟩
  ·rw [ae g];rw [jb _ _ g] at a;exact h.get a
 ·rw [Array.toList_modify,hf];by_cases g:m=n
  ·rw [g,dY] at a; cases a
  ·rw [ae g];rw [jb _ _ g] at a;exact h.no a
section
variable {P:Program} {w w0:World} {X:List Nat} {L:List Item} {S:ag} {K:Value->World->Prop}
attribute [local irreducible] Run CondV aC aU
theorem kY (h:Inv w0 X L S w) {Tm r Z ty:TypeId} {b a:Nat} {g:Array MapEntry} {n:Int} {cs:List Value} {sl:Sl} {u:T} (i:Nat) (O:P.underlying Tm=some (.map r Z)) (m:P.underlying r=some (.int .i64))
  (t:L[i]?=some (.blk b (.map g a))) (B:SlT S g sl) (U:RdT S cs u)
  (hk:∀ w' q N,SlT S q (upS sl n u)->Inv w0 X (L.set i (.blk b (.map q N))) S w'->K undef w') :
  Run P (sOp (.mapUpdate Tm (.const (.map (some b))) (.const (.int .i64 n)) (.const (.agg cs.toArray))) ty) w K:=by
 have Y:w.heap[b]?=some (.map g a):=h.its _ (fj t);have l:=nJ (n:=n) g.toList 0 B.1;cases hf:fsI n g.toList 0 with
 | none=>
  rw [hf] at l;exact nb h i O m t l fun w' hI=>hk w' _ _ (B.push hf U a) hI
 | some p=>
  obtain ⟨j,old⟩:=p;rw [hf] at l;obtain ⟨_,⟨x,V,C⟩,_⟩:=Li (v:=old) g.toList 0 hf;rw [Nat.sub_zero] at V;have D:g[j]?=some x:=by simpa using V
  have G:∀ e,(Instr.checkKey e 10000 r (.int .i64 n)).run P w=.ok () w:=fun e=>by
   rw [show (10000:Nat)=9999+1 from rfl,Instr.checkKey];simp [run_underlying m]
  have hg:(getObj b).run P w=.ok (.map g a) w:=by simp [getObj,Sem.run,Y]
  have J:=gC (P:=P) (w:=w) m l;have o:(Instr.keyThatStays (.int .i64 n) (.int .i64 n)).run P w=.ok (.int .i64 n) w:=by
   have:Instr.sameBits 10000 (.int .i64 n) (.int .i64 n)=true:=by simp [Instr.sameBits]
   simp [Instr.keyThatStays,this]
  refine Run.ofSkip (w':={ w with heap:=w.heap.setIfInBounds b (.map (g.modify j fun e=>{ e with key:=.int .i64 n,val:=.agg cs.toArray }) a) }) ?_ (hk _ _ _ (B.set hf U) (h.setBlk t _ rfl));have M:(setObj b (.map (g.modify j fun e=>{ e with key:=.int .i64 n,val:=.agg cs.toArray }) a)).run P w=.ok () { w with heap:=w.heap.setIfInBounds b (.map (g.modify j fun e=>{ e with key:=.int .i64 n,val:=.agg cs.toArray }) a) }:=by simp [setObj,Sem.run,Y]
  simp [sOp,execOp,ev0,evE,Instr.mapUpdate,run_underlying O,hg,G,J,D,C,o,M]
end
end
section
open Go Go.RowKit
theorem GC (S:ag) (n:Nat) (h:n<=1000000000):RdT S [.int .i64 1,.int .i64 (n:Int),.string ⟨#[]⟩,.slice none 0 0] (fk n):=
 RdT.iff.2 ⟨_,rfl,by simp [inI,T.kind,fk],by simp only [inI,T.n,fk]; omega,by rw [fk,T.name]; decide +kernel,⟨none,0,rfl,be _,aK _,.inl rfl⟩⟩
theorem zE (S:ag) (n:Int) (h:inI n):RdT S [.int .i64 2,.int .i64 n,.string ⟨#[]⟩,.slice none 0 0] (fT n):=
 RdT.iff.2 ⟨_,rfl,by simp [inI,T.kind,fT],h,by rw [fT,T.name]; decide +kernel,⟨none,0,rfl,be _,aK _,.inl rfl⟩⟩
def okI (x:Ist):Prop:=inI x.a/\x.name.size<=maxLen
def nvS (w:World) (X:List Nat) (S:ag) (rb lb:Nat) (p r:Value) (fr ckL:Nat) (esL:Array MapEntry) (sl:Sl) (n:Int) (R:List Item) (w':World):Nat->Prop
 | 0=>Inv w X (.blk rb (.cells #[p,.map (some lb),r,.int .i64 (fr:Int)] aj)::.blk lb (.map esL ckL)::R) S w'
 | 1=>Inv w X (.blk rb (.cells #[p,.map (some lb),r,.int .i64 ((fr+1:Nat):Int)] aj)::.blk lb (.map esL ckL)::R) S w'
 | _=>∃ es' ck',SlT S es' (upS sl n (fk fr))/\Inv w X (.blk rb (.cells #[p,.map (some lb),r,.int .i64 ((fr+1:Nat):Int)] aj)::.blk lb (.map es' ck')::R) S w'
theorem nvS.any {w:World} {X:List Nat} {S:ag} {j a:Nat} {p r:Value} {fr g:Nat} {i:Array MapEntry} {sl:Sl} {n:Int} {R:List Item} {w':World}:∀ {k:Nat},nvS w X S j a p r fr g i sl n R w' k->∃ f l m,Inv w X (.blk j (.cells #[p,.map (some a),r,.int .i64 f] aj)::.blk a (.map l m)::R) S w'
 | 0,h=>⟨_,_,_,h⟩
 | 1,h=>⟨_,_,_,h⟩
 | _+2,⟨_,_,_,h⟩=>⟨_,_,_,h⟩
def rwS (w:World) (X:List Nat) (S:ag) (H:List Item) (lv:Value) (css:List (List Value)) (R:List Item) (cs:List Value) (x y:Value) (w':World):Nat->Prop
 | 0=>Inv w X (H++aB lv ac 4 css::R) S w'
 | 1=>∃ g,x=.slice (some ⟨g,0,none⟩) 1 1/\Inv w X ((H++aB lv ac 4 css::R)++[.blk g (.cells cs.toArray ac)]) S w'
 | _=>Inv w X (H++aB y ac 4 (css++[cs])::R) S w'
theorem rwS.any {w:World} {X:List Nat} {S:ag} {H:List Item} {g:Value} {css:List (List Value)} {R:List Item} {cs:List Value} {x y:Value} {w':World}:∀ {k:Nat},rwS w X S H g css R cs x y w' k->∃ v a R',Inv w X (H++aB v ac 4 a::(R++R')) S w'
 | 0,h=>⟨g,css,[],by rw [dc]; exact h⟩
 | 1,⟨_,_,h⟩=>⟨g,css,_,by rw [cN] at h; exact h⟩
 | _+2,h=>⟨y,_,[],by rw [dc]; exact h⟩
def alS (w:World) (X:List Nat) (S:ag) (L:List Item) (cs:List Value) (x:Value) (w':World):Nat->Prop
 | 0=>Inv w X L S w'
 | 1=>∃ b,x=.pointer (some ⟨b,0,none⟩)/\Inv w X (.blk b (.cells #[.int .i64 0,.int .i64 0,.string ⟨#[]⟩,.slice none 0 0] ac)::L) S w'
 | _=>∃ b,x=.pointer (some ⟨b,0,none⟩)/\Inv w X (.blk b (.cells cs.toArray ac)::L) S w'
theorem alS.any {w:World} {X:List Nat} {S:ag} {L:List Item} {cs:List Value} {x:Value} {w':World}:∀ {k:Nat},alS w X S L cs x w' k->Inv w X L S w'
 | 0,h=>h
 | 1,⟨_,_,h⟩=>h.sub (gS _ _)
 | _+2,⟨_,_,h⟩=>h.sub (gS _ _)
section
variable {w w0:World} {X:List Nat} {L R:List Item} {S:ag} {K:Value->World->Prop}
attribute [local irreducible] Run CondV aC aU
theorem GB {g fr:Nat} {p q r:Value} (h:fr<=1000000000):Tri Tryz.prog kI [.pointer (some ⟨g,0,none⟩)] [.blk g (.cells #[p,q,r,.int .i64 (fr:Int)] aj)] S fun v I' S'=>S'=S/\v=.agg #[.int .i64 1,.int .i64 (fr:Int),.string ⟨#[]⟩,.slice none 0 0]/\I'=[.blk g (.cells #[p,q,r,.int .i64 ((fr+1:Nat):Int)] aj)]:=by
 intro w a;obtain ⟨X,i⟩:∃ X,X=bT [Item.blk g (.cells #[p,q,r,.int .i64 (fr:Int)] aj)]:=⟨_,rfl⟩
 rw [<- i] at a ⊢;refine jZ.2 ?_;dsimp only[jZ,aQ];refine aH a aM fun j w' a=>?_;refine aL ?_;refine ah a 0 rfl mh aw rfl ?_;refine bF (by omega) ?_;refine aL ?_;refine dG a 0 rfl mh aw rfl rfl rfl fun w' a=>?_;refine aL ?_;refine ah a 0 rfl mh aw rfl ?_;refine jx (by omega) ?_;rw [show (fr:Int)+1 - 1=(fr:Int) by omega];refine Run.callPure rG rX a (pP _ S) fun w' a=>?_;refine al a 1 rfl ad rfl rfl (by simp [Value.oneCell']) fun w' a=>?_;refine bp a 1 ad rfl rfl ?_;have a:Inv w X [.blk g (.cells #[p,q,r,.int .i64 ((fr+1:Nat):Int)] aj)] S w':=by
  have a:=a.pick [true,false];rw [Int.natCast_add];exact a
 exact ⟨_,_,S,rfl,a,Ext.refl _ _ _,rfl,rfl,rfl⟩
theorem zP {g fr:Nat} {p q r:Value} (a:Inv w0 X (.blk g (.cells #[p,q,r,.int .i64 (fr:Int)] aj)::R) S w) (h:fr<=1000000000)
  (hk:∀ w',Inv w0 X (.blk g (.cells #[p,q,r,.int .i64 ((fr+1:Nat):Int)] aj)::R) S w'->K (.agg #[.int .i64 1,.int .i64 (fr:Int),.string ⟨#[]⟩,.slice none 0 0]) w') :
  Run Tryz.prog (fa (.func (.func kI) #[] #[]) [.pointer (some ⟨g,0,none⟩)]) w K:=by
 have a:=a.perm (M:=R++[.blk g (.cells #[p,q,r,.int .i64 (fr:Int)] aj)]) (bK (l₂:=[_]));refine Run.call rl rj a (GB h) fun v' I' S' w'=>?_;rintro ⟨i,rfl,rfl⟩ _ a;rw [i] at a;exact hk w' (a.perm (bK (l₁:=[_])))
theorem nQ (n:Int) (S:ag):Pure Tryz.prog Kz [.int .i64 n] S (.agg #[.int .i64 2,.int .i64 n,.string ⟨#[]⟩,.slice none 0 0]):=by
 intro w a;refine yq.2 ?_;dsimp only[yq,aQ];refine aH a aM fun g w' a=>?_;refine pA ?_;refine al a 0 rfl ad rfl rfl (by simp [Value.oneCell']) fun w' a=>?_;refine bp a 0 ad rfl rfl ?_;exact done a rfl
end
end
section
open Go Go.RowKit
def NY (rb lb:Nat) (p r:Value) (o:Option (RI × List T)):Value->List Item->ag->Prop:=fun q I' S'=>∃ (fr':Nat) (es':Array MapEntry) (ck':Nat),I'=[.blk rb (.cells #[p,.map (some lb),r,.int .i64 (fr':Int)] aj),.blk lb (.map es' ck')]/\match o with
 | none=>q=.tuple #[.slice none 0 0,.bool false]/\∃ sl',SlT S' es' sl'
 | some (s',us)=>fr'=s'.fr/\SlT S' es' s'.sl/\∃ u,q=.tuple #[u,.bool true]/\RdSl S' 4 (RdT S') u us
theorem BN {A B:Type} (o:Option (A × List B)) (out:List B) (t:B):((o.map fun q=>(q.1,t::q.2)).map fun q=>(q.1,out++q.2))=o.map fun q=>(q.1,(out++[t])++q.2):=by
 cases o with
 | none=>rfl
 | some q=>simp
section
variable {S:ag}
attribute [local irreducible] Run CondV aC aU
set_option maxHeartbeats 1000000 in
theorem ve {V O b1:Nat} {p r v:Value} {a7:Array MapEntry} {s:RI} {xs:List Ist} (h:RdSl S 4 (dZ S) v xs) (hm:SlT S a7 s.sl) (e1:s.fr+xs.length<=1000000000) (c4:∀ x∈xs,okI x) :
  Tri Tryz.prog oJ [.pointer (some ⟨V,0,none⟩),v] [.blk V (.cells #[p,.map (some O),r,.int .i64 (s.fr:Int)] aj),.blk O (.map a7 b1)] S (NY V O p r (ki s xs)):=by
 intro w l;obtain ⟨X,hX⟩:∃ X,X=bT [Item.blk V (.cells #[p,.map (some O),r,.int .i64 (s.fr:Int)] aj),.blk O (.map a7 b1)]:=⟨_,rfl⟩
 rw [<- hX] at l ⊢;have b7:=h.le;simp only [maxLen] at b7;refine iF.2 ?_;dsimp only[iF,bm];refine aG h cX ?_;have l:=l.rowNil ac 4;refine ⟨fun i lv w'=>∃ (j:Nat) (U:RI) (out:List T) (css:List (List Value)) (Y:Array MapEntry) (ck:Nat),j<=xs.length/\i=.int .i64 j/\ki s xs=(ki U (xs.drop j)).map (fun q=>(q.1,out++q.2))/\SlT S Y U.sl/\U.fr<=s.fr+j/\out.length=j/\Rows 4 (RdT S) css out/\
   Inv w X [.blk V (.cells #[p,.map (some O),r,.int .i64 (U.fr:Int)] aj),.blk O (.map Y ck),aB lv ac 4 css] S w',fun i _ _=>xs.length - (intOf i).toNat,
   ⟨0,s,[],[],a7,b1,aK _,rfl,by rw [dT]; simp,hm,by omega,rfl,Rows.nil _ _,l⟩,?_⟩
 intro i _ _ _ _ _ _ _ _ _ _ _ _ _ _ _ _ _ e2 t9 e3 e4 e5 e6 e7 e9 f0 f1 f2 f3 _ _ lv f4 f6 f7 f8 f9 g0 g1 g2 g3 g4 g5 g6 g7 g8 g9 h0 h1 h2 _ _ _ _ _ _ _ _ w';rintro ⟨j,U,out,css,Y,ck,hj,rfl,hD,hm,h3,c5,hR,l⟩;have h8:=hR.hc;refine cu ?_;refine aS (fun c6=>?_) (fun c6=>?_)
 ·have a9:j<xs.length:=by omega
  obtain ⟨x,hx⟩:∃ x,x=xs[j]:=⟨_,rfl⟩
  have b9:okI x:=by rw [hx]; exact c4 _ (cH a9)
  rw [dR a9,<- hx,ki] at hD;refine ⟨fun lv w'=>∃ (sn:RI) (t:T) (css:List (List Value)) (Y:Array MapEntry) (ck:Nat),ki s xs=(ki sn (xs.drop (j+1))).map (fun q=>(q.1,(out++[t])++q.2))/\SlT S Y sn.sl/\sn.fr<=U.fr+1/\Rows 4 (RdT S) css (out++[t])/\
   Inv w X [.blk V (.cells #[p,.map (some O),r,.int .i64 (sn.fr:Int)] aj),.blk O (.map Y ck),aB lv ac 4 css] S w',?_,?_⟩
  ·refine dy l h cX fw a9 (fun cs x h=>Pm S cs x h) fun ds b4=>?_;rw [<- hx] at b4;obtain rfl:ds=x.cells:=b4;refine aH l Dz fun b8 w' l=>?_;refine al l 3 rfl fw rfl rfl (by simpa using x.one) fun w' l=>?_;obtain ⟨B8,b5⟩:∃ B8,B8=Item.blk b8 (.cells #[.int .i64 x.op,.int .i64 x.a,.int .i64 x.b,.string x.name] aF):=⟨_,rfl⟩
   have e8:=congrArg some b5;have l:Inv w X [.blk V (.cells #[p,.map (some O),r,.int .i64 (U.fr:Int)] aj),.blk O (.map Y ck),aB lv ac 4 css,B8] S w':=by rw [b5]; exact l
   refine ah l 3 e8 jA aw rfl ?_;refine bn ?_;refine aS (fun h4=>?_) (fun h4=>?_)
   ·rw [af h4,BN] at hD;refine ⟨fun D lo DL tq io pT rU ry oQ Z=>Fx D 0 [oQ=.pointer (some ⟨V,0,none⟩),ry=.pointer (some ⟨V,0,none⟩),rU=.pointer (some ⟨V,1,none⟩),pT=.map (some O),io=.pointer (some ⟨b8,1,none⟩),tq=.int .i64 x.a,DL=.pointer (some ⟨V,0,none⟩),True,True]/\∃ N:Nat,N<=2/\D 7=decide (1<=N)/\D 8=decide (2<=N)/\(nvS w X S V O p r U.fr ck Y U.sl x.a [aB lv ac 4 css,B8] Z N/\(D 7=true->lo=.agg #[.int .i64 1,.int .i64 (U.fr:Int),.string ⟨#[]⟩,.slice none 0 0])),⟨Fx.nil _ _,⟨0,aK _,rfl,rfl,⟨l.draw,aY⟩⟩⟩,⟨?_,?_,?_,?_,?_,?_,?_,?_,?_,trivial⟩,?_⟩;all_goals (intro D bw; intros; rename_i lo DL tq io pT rU ry oQ Z a0; have G:=a0.1; obtain ⟨⟨cG,cf,cD,cF,bQ,cE,bZ,cL,dw,_⟩,⟨N,J,B,C,M⟩⟩:=a0)
    ·exact ⟨G.set 0 rfl,⟨N,J,B,C,M⟩⟩
    ·obtain rfl:=cG ‹_›;refine aL ?_;exact ⟨G.set 1 rfl,⟨N,J,B,C,M⟩⟩
    ·obtain rfl:=cf ‹_›;refine au dD ?_;exact ⟨G.set 2 rfl,⟨N,J,B,C,M⟩⟩
    ·obtain rfl:=cD ‹_›;obtain ⟨f5,d3,d6,l⟩:=M.1.any;refine aD l 0 cK rfl rfl ?_;exact ⟨G.set 3 rfl,⟨N,J,B,C,M⟩⟩
    ·refine au dJ ?_;exact ⟨G.set 4 rfl,⟨N,J,B,C,M⟩⟩
    ·obtain rfl:=bQ ‹_›;obtain ⟨f5,d3,d6,l⟩:=M.1.any;refine aD l 3 aw e8 rfl ?_;exact ⟨G.set 5 rfl,⟨N,J,B,C,M⟩⟩
    ·exact ⟨G.set 6 rfl,⟨N,J,B,C,M⟩⟩
    ·obtain rfl:=bZ ‹_›;obtain rfl:N=0:=iI B bw;refine zP M.1 (by omega) fun Z l=>?_;have a5:nvS w X S V O p r U.fr ck Y U.sl x.a [aB lv ac 4 css,B8] Z 1:=l;exact ⟨G.set 7 (by first|assumption|trivial),⟨1,by decide,rfl,(by first|exact C|rfl),⟨a5,fun _=>rfl⟩⟩⟩
    ·obtain rfl:=cF ‹_›;obtain rfl:=cE ‹_›;have Cs:=cL ‹_›;obtain rfl:N=1:=gF B ‹D 7=true› C bw;obtain rfl:=M.2 ‹D 7=true›;have l:Inv w X (.blk V (.cells #[p,.map (some O),r,.int .i64 ((U.fr+1:Nat):Int)] aj)::.blk O (.map Y ck)::[aB lv ac 4 css,B8]) S Z:=M.1;refine kY (cs:=[.int .i64 1,.int .i64 (U.fr:Int),.string ⟨#[]⟩,.slice none 0 0]) l 1 cj c7 rfl hm (GC S U.fr (by omega)) fun Z c9 d0 d1 l=>?_;have a5:nvS w X S V O p r U.fr ck Y U.sl x.a [aB lv ac 4 css,B8] Z 2:=⟨c9,d0,d1,l⟩
     exact ⟨G.set 8 trivial,⟨2,by decide,(by first|exact B|rfl),rfl,⟨a5,M.2⟩⟩⟩
    obtain rfl:N=2:=iH J C ‹D 8=true›;clear B C;obtain ⟨a1,a2,b6,l⟩:=M.1;obtain ⟨vv,ok,a4,a3,a8,hk,a6⟩:=b6.look x.a;have b3:=a6 _ (dY U.sl x.a (fk U.fr));have l:Inv w X ([.blk V (.cells #[p,.map (some O),r,.int .i64 ((U.fr+1:Nat):Int)] aj),.blk O (.map a1 a2)]++aB lv ac 4 css::[B8]) S Z:=l;refine ⟨fun D x6 qe s0 ra xp z4 DZ Du yy tF AV Z=>Fx D 0 [AV=lv,tF=.pointer (some ⟨V,0,none⟩),yy=.pointer (some ⟨V,0,none⟩),Du=.pointer (some ⟨V,1,none⟩),DZ=.map (some O),z4=.pointer (some ⟨b8,1,none⟩),xp=.int .i64 x.a,ra=.agg vv.toArray,True,True,True]/\∃ N:Nat,N<=2/\D 8=decide (1<=N)/\D 9=decide (2<=N)/\(rwS w X S [.blk V (.cells #[p,.map (some O),r,.int .i64 ((U.fr+1:Nat):Int)] aj),.blk O (.map a1 a2)] lv css [B8] vv s0 qe Z N/\(D 10=true->D 0=true/\D 9=true/\x6=qe)/\(D 10=false->x6=lv)),⟨Fx.nil _ _,⟨0,aK _,rfl,rfl,⟨l.draw,aY,fun _=>rfl⟩⟩⟩,⟨?_,?_,?_,?_,?_,?_,?_,?_,?_,?_,?_,trivial⟩,?_⟩;all_goals (intro D bw; intros; rename_i x6 qe s0 ra xp z4 DZ Du yy tF AV Z a0; have G:=a0.1; obtain ⟨⟨cG,cf,cD,cF,bQ,cE,bZ,cL,dw,dl,ci,_⟩,⟨N,J,B,C,M⟩⟩:=a0)
    ·have c1:D 10=false:=cS.2 fun h=>by rw [(M.2.1 h).1] at bw; cases bw
     have q6:=M.2.2 c1;have M:=And.intro M.1 (And.intro (fun (h:aE D 0 10=true)=>(⟨rfl,(M.2.1 h).2⟩:aE D 0 0=true/\aE D 0 9=true/\x6=qe)) M.2.2);exact ⟨G.set 0 (by first|assumption|trivial),⟨N,J,B,C,M⟩⟩
    ·exact ⟨G.set 1 rfl,⟨N,J,B,C,M⟩⟩
    ·obtain rfl:=cf ‹_›;refine aL ?_;exact ⟨G.set 2 rfl,⟨N,J,B,C,M⟩⟩
    ·obtain rfl:=cD ‹_›;refine au dD ?_;exact ⟨G.set 3 rfl,⟨N,J,B,C,M⟩⟩
    ·obtain rfl:=cF ‹_›;obtain ⟨v5,b0,R5,l⟩:=M.1.any;refine aD l 0 cK rfl rfl ?_;exact ⟨G.set 4 rfl,⟨N,J,B,C,M⟩⟩
    ·refine au dJ ?_;exact ⟨G.set 5 rfl,⟨N,J,B,C,M⟩⟩
    ·obtain rfl:=cE ‹_›;obtain ⟨v5,b0,R5,l⟩:=M.1.any;refine aD l 3 aw e8 rfl ?_;exact ⟨G.set 6 rfl,⟨N,J,B,C,M⟩⟩
    ·obtain rfl:=bQ ‹_›;obtain rfl:=bZ ‹_›;obtain ⟨v5,b0,R5,l⟩:=M.1.any;refine d4 (c:=false) (ok:=ok) (v:=.agg vv.toArray) (l.its (.blk O (.map a1 a2)) (by simp)) cj c7 aM a4 ?_;exact ⟨G.set 7 rfl,⟨N,J,B,C,M⟩⟩
    ·obtain rfl:=cL ‹_›;obtain rfl:N=0:=iI B bw;refine eQ M.1 bA (by simpa [Value.cells] using a3) (by omega) (by omega) fun g Z l=>?_;have a5:rwS w X S [.blk V (.cells #[p,.map (some O),r,.int .i64 ((U.fr+1:Nat):Int)] aj),.blk O (.map a1 a2)] lv css [B8] vv (.slice (some ⟨g,0,none⟩) 1 1) qe Z 1:=⟨g,rfl,l⟩
     exact ⟨G.set 8 (by first|assumption|trivial),⟨1,by decide,rfl,(by first|exact C|rfl),⟨a5,M.2⟩⟩⟩
    ·have T3:=cG ‹_›;have GD:=dw ‹_›;obtain rfl:N=1:=gF B ‹D 8=true› C bw;obtain ⟨g,rfl,l⟩:=M.1;refine eU l 2 (k:=4) (o:=0) (m:=1) (n:=css.length) (xs:=css.flatten) vv bA (by omega) (by rw [T3]; rfl) (by rw [a3]) (fun j u hj=>by rw [l.cellL (i:=4) rfl,df]; simpa using hj) a8 (by omega) (by omega) fun v' Z l=>?_;have e:Item.row v' ac 4 (css.length+1) (css.flatten++vv)=aB v' ac 4 (css++[vv]):=fq ..;have l:Inv w X [.blk V (.cells #[p,.map (some O),r,.int .i64 ((U.fr+1:Nat):Int)] aj),.blk O (.map a1 a2),Item.row v' ac 4 (css.length+1) (css.flatten++vv),B8] S Z:=l.pick [true,true,true,true,false];rw [e] at l;have a5:rwS w X S [.blk V (.cells #[p,.map (some O),r,.int .i64 ((U.fr+1:Nat):Int)] aj),.blk O (.map a1 a2)] lv css [B8] vv (.slice (some ⟨g,0,none⟩) 1 1) v' Z 2:=l;exact ⟨G.set 9 (by first|assumption|trivial),⟨2,by decide,(by first|exact B|rfl),rfl,⟨a5,fun h=>absurd (M.2.1 h).2.1 (by rw [bw]; decide),M.2.2⟩⟩⟩
    ·have DC:=dl ‹_›;have M:=And.intro M.1 (And.intro (fun (_:aE D 10 10=true)=>(⟨‹D 0=true›,‹D 9=true›,rfl⟩:aE D 10 0=true/\aE D 10 9=true/\qe=qe)) (fun (h:aE D 10 10=false)=>(Bool.noConfusion h:qe=lv)));exact ⟨G.set 10 (by first|assumption|trivial),⟨N,J,B,C,M⟩⟩
    obtain rfl:N=2:=iH J C ‹D 9=true›;have CK:D 10=true:=by assumption
    clear B C;have d9:=(M.2.1 CK).2.2;subst d9;have l:Inv w X [.blk V (.cells #[p,.map (some O),r,.int .i64 ((U.fr+1:Nat):Int)] aj),.blk O (.map a1 a2),aB x6 ac 4 (css++[vv]),B8] S Z:=M.1;exact ⟨_,fk U.fr,_,a1,a2,hD,b6,be _,hR.snoc b3 a3,l.pick [true,true,true,false]⟩
   rw [ae h4] at hD;refine bn ?_;refine aS (fun h5=>?_) (fun h5=>?_)
   ·rw [af h5] at hD;obtain ⟨vv,ok,a4,a3,a8,hk,a6⟩:=hm.look x.a;refine ⟨fun D sX x9 n6 n9 py ox mG oH oE oe oa pd Z=>Fx D 0 [pd=.pointer (some ⟨V,0,none⟩),oa=.pointer (some ⟨V,0,none⟩),oe=.pointer (some ⟨V,1,none⟩),oE=.map (some O),oH=.pointer (some ⟨b8,1,none⟩),mG=.int .i64 x.a,ox=.tuple #[.agg vv.toArray,.bool ok],py=.tuple #[.agg vv.toArray,.bool ok],n9=.agg vv.toArray,n6=.bool ok,True,True,sX=.bool ok]/\∃ N:Nat,N<=2/\D 10=decide (1<=N)/\D 11=decide (2<=N)/\(alS w X S [.blk V (.cells #[p,.map (some O),r,.int .i64 (U.fr:Int)] aj),.blk O (.map Y ck),aB lv ac 4 css,B8] vv x9 Z N),⟨Fx.nil _ _,⟨0,aK _,rfl,rfl,l.draw⟩⟩,⟨?_,?_,?_,?_,?_,?_,?_,?_,?_,?_,?_,?_,?_,trivial⟩,?_⟩;all_goals (intro D bw; intros; rename_i sX x9 n6 n9 py ox mG oH oE oe oa pd Z a0; have G:=a0.1; obtain ⟨⟨cG,cf,cD,cF,bQ,cE,bZ,cL,dw,dl,ci,c8,dN,_⟩,⟨N,J,B,C,M⟩⟩:=a0)
    ·exact ⟨G.set 0 rfl,⟨N,J,B,C,M⟩⟩
    ·obtain rfl:=cG ‹_›;refine aL ?_;exact ⟨G.set 1 rfl,⟨N,J,B,C,M⟩⟩
    ·obtain rfl:=cf ‹_›;refine au dD ?_;exact ⟨G.set 2 rfl,⟨N,J,B,C,M⟩⟩
    ·obtain rfl:=cD ‹_›;have l:=M.any;refine aD l 0 cK rfl rfl ?_;exact ⟨G.set 3 rfl,⟨N,J,B,C,M⟩⟩
    ·refine au dJ ?_;exact ⟨G.set 4 rfl,⟨N,J,B,C,M⟩⟩
    ·obtain rfl:=bQ ‹_›;have l:=M.any;refine aD l 3 aw e8 rfl ?_;exact ⟨G.set 5 rfl,⟨N,J,B,C,M⟩⟩
    ·obtain rfl:=cF ‹_›;obtain rfl:=cE ‹_›;have l:=M.any;refine d4 (c:=true) (ok:=ok) (v:=.agg vv.toArray) (l.its (.blk O (.map Y ck)) (by simp)) cj c7 aM a4 ?_;exact ⟨G.set 6 rfl,⟨N,J,B,C,M⟩⟩
    ·obtain rfl:=bZ ‹_›;exact ⟨G.set 7 rfl,⟨N,J,B,C,M⟩⟩
    ·obtain rfl:=cL ‹_›;refine aA rfl ?_;exact ⟨G.set 8 rfl,⟨N,J,B,C,M⟩⟩
    ·obtain rfl:=cL ‹_›;refine aA rfl ?_;exact ⟨G.set 9 rfl,⟨N,J,B,C,M⟩⟩
    ·obtain rfl:N=0:=iI B bw;refine aH M aM fun b Z l=>?_;have M:alS w X S [.blk V (.cells #[p,.map (some O),r,.int .i64 (U.fr:Int)] aj),.blk O (.map Y ck),aB lv ac 4 css,B8] vv (.pointer (some ⟨b,0,none⟩)) Z 1:=⟨b,rfl,l.perm (bK (l₁:=[_]))⟩
     exact ⟨G.set 10 (by first|assumption|trivial),⟨1,by decide,rfl,(by first|exact C|rfl),M⟩⟩
    ·have Gj:=ci ‹_›;obtain rfl:=dw ‹_›;obtain rfl:N=1:=gF B ‹D 10=true› C bw;obtain ⟨b,rfl,l⟩:=M;refine al l 0 rfl ad (by simpa using a3) rfl (by simpa using a8) fun Z l=>?_;have M:alS w X S [.blk V (.cells #[p,.map (some O),r,.int .i64 (U.fr:Int)] aj),.blk O (.map Y ck),aB lv ac 4 css,B8] vv (.pointer (some ⟨b,0,none⟩)) Z 2:=⟨b,rfl,l⟩
     exact ⟨G.set 11 trivial,⟨2,by decide,(by first|exact B|rfl),rfl,M⟩⟩
    ·obtain rfl:=dl ‹_›;exact ⟨G.set 12 rfl,⟨N,J,B,C,M⟩⟩
    obtain rfl:N=2:=iH J C ‹D 11=true›;have AF:D 12=true:=by assumption
    clear B C;obtain ⟨b,rfl,l⟩:=M;obtain rfl:=dN AF;refine cU ?_;refine aI (fun hb=>?_) (fun hb=>?_)
    ·have c2:ok=false:=by simpa using hb
     rw [c2] at hk;have hn:U.sl x.a=none:=by
      cases h:U.sl x.a with
      | none=>rfl
      | some t=>rw [h] at hk; cases hk
     rw [hn] at hD;have l:Inv w X [.blk V (.cells #[p,.map (some O),r,.int .i64 (U.fr:Int)] aj),.blk O (.map Y ck)] S Z:=l.pick [false,true,true,false,false];exact ⟨_,_,S,rfl,l,Ext.refl _ _ _,U.fr,Y,ck,rfl,by rw [hD]; exact ⟨rfl,_,hm⟩⟩
    ·have c3:ok=true:=by simpa using hb
     rw [c3] at hk;obtain ⟨t,ht⟩:=Option.isSome_iff_exists.1 hk.symm;have b3:=a6 t ht;rw [ht] at hD;have hD:ki s xs=((ki U (xs.drop (j+1))).map fun q=>(q.1,t::q.2)).map (fun q=>(q.1,out++q.2)):=hD;rw [BN] at hD;refine aq l 0 ad rfl (by simpa using a3) ?_;refine dC (css:=css) l 3 vv bA (by omega) (by omega) rfl a3 a8 (by omega) (by omega) fun d2 w' l=>?_;exact ⟨U,t,css++[vv],Y,ck,hD,hm,by omega,hR.snoc b3 a3,l.pick [false,true,true,true,false,false]⟩
   rw [ae h5] at hD;refine bn ?_;refine aS (fun h6=>?_) (fun h6=>?_)
   ·rw [af h6,BN] at hD;refine ah l 3 e8 dJ aw rfl ?_;refine Run.callPure qg qi l (nQ _ S) fun w' l=>?_;refine dC (css:=css) l 2 [.int .i64 2,.int .i64 x.a,.string ⟨#[]⟩,.slice none 0 0] bA (by omega) (by omega) rfl rfl (zE S x.a b9.1).one (by omega) (by omega) fun d2 w' l=>?_;exact ⟨U,fT x.a,_,Y,ck,hD,hm,by omega,hR.snoc (zE S x.a b9.1) rfl,l.pick [true,true,true,false,false]⟩
   ·rw [ae h6] at hD;have l:Inv w X [.blk V (.cells #[p,.map (some O),r,.int .i64 (U.fr:Int)] aj),.blk O (.map Y ck)] S w':=l.pick [true,true,false,false];exact ⟨_,_,S,rfl,l,Ext.refl _ _ _,U.fr,Y,ck,rfl,by rw [hD]; exact ⟨rfl,_,hm⟩⟩
  intro _ _ _ _ _ _ _ _ _ _ _ _ _ _ _ _ _ _ _ _ _ _ _ _ _ _ _ _ _ _ lv _ _ _ _ _ _ _ _ _ _ _ _ _ _ _ _ _ _ _ _ _ _ _ _ _ w';rintro ⟨sn,t,css,Y,ck,hD,hm,h7,hR,l⟩;refine bF (by omega) ?_;exact ⟨⟨j+1,sn,out++[t],css,Y,ck,a9,rfl,hD,hm,by omega,by rw [bv,c5]; rfl,hR,l⟩,by simp [intOf]; omega⟩
 have e0:j=xs.length:=by omega
 subst e0;rw [ew,ki] at hD;have hD:ki s xs=some (U,out):=by rw [hD]; simp
 have l:Inv w X ([.blk V (.cells #[p,.map (some O),r,.int .i64 (U.fr:Int)] aj),.blk O (.map Y ck)]++[aB lv ac 4 css]) S w':=l;obtain ⟨S3,b2,d7,l⟩:=l.lendExt;refine ⟨_,_,S3,rfl,l,b2,U.fr,Y,ck,rfl,?_⟩;rw [hD];exact ⟨rfl,hm.up b2.1,lv,rfl,RowRd.rows (hR.monoR fun _ _ h=>h.mono b2.1) d7⟩
end
end
section
open Go Go.RowKit
theorem KnownM.up {S S':ag} {a:Array MapEntry} {st:aX} (h:KnownM S a st) (g:Sle S S'):KnownM S' a st:=
 ⟨fun e i=>by
  obtain ⟨n,t,cs,j,l,m,o⟩:=h.1 e i;exact ⟨n,t,cs,j,l,m.mono g,o⟩,h.2⟩
theorem StS.up {S S':ag} {g:Nat} {st:aX} (h:StS S S g st) (a:Sle S S'):StS S' S' g st:=by
 obtain ⟨i,j,l,m,E,o,p,q⟩:=h;exact ⟨i,j,l,m,E,a _ _ o,a _ _ p,q.up a⟩
def okR (u:T) (deep count:Int):Bool:=decide (count+bM u<=120) && zA u (31 - deep)
def RC (st:aX) (sb:Nat) (t u:T):Prop:=∀ (S:ag) (cs:List Value) (cb:Nat) (deep count:Int),RdT S cs t->StS S S sb st->1<=deep->deep<=1000000->0<=count->count<=1000000->
 Tri Tryz.prog rm [.pointer (some ⟨sb,0,none⟩),.agg cs.toArray,.int .i64 deep,.pointer (some ⟨cb,0,none⟩)] [.blk cb (.cells #[.int .i64 count] bD)] S fun q I' S'=>
  ∃ (cs':List Value) (c':Int),q=.tuple #[.agg cs'.toArray,.bool (okR u deep count)]/\I'=[.blk cb (.cells #[.int .i64 c'] bD)]/\cs'.length=4/\(∀ x∈cs',x.oneCell'=true)/\(okR u deep count=true->c'=count+bM u/\RdT S' cs' u)
section
attribute [local irreducible] Run CondV aC aU
theorem BI {N:Nat} {st:aX} {sb:Nat} {t v:T} {o:List T} (hg:Good N st) (a8:dI st t v) (a9:okU N t/\wB t) (e0:o.length=v.kids.length)
  (hk:∀ i (h:i<o.length) (h':i<v.kids.length),RC st sb v.kids[i] o[i]):RC st sb t (.mk v.kind v.n v.name o):=by
 intro S cs r l g h b0 e2 e3 e4 e5 w a;have b6:=h.length;have d0:=eh hg a8 a9;obtain ⟨X,hX⟩:∃ X,X=bT [Item.blk r (.cells #[.int .i64 g] bD)]:=⟨_,rfl⟩
 rw [<- hX] at a ⊢;have f0:=bU o;have B:okR (.mk v.kind v.n v.name o) l g=(decide (g+(1+bi o)<=120) && (if 31 - l<1 then false else zx o (31 - l - 1))):=by
  rw [okR,Fh,zA]
 refine jB.2 ?_;dsimp only[jB,xU];refine bH a fun G w' a=>?_;refine aH a aM fun J w' a=>?_;have a:Inv w X ([.blk G (.cells cs.toArray ac),.blk J (.cells #[.int .i64 0,.int .i64 0,.string ⟨#[]⟩,.slice none 0 0] ac)]++[.blk r (.cells #[.int .i64 g] bD)]) S w':=a.perm (bK (l₁:=[_,_]) (l₂:=[_]));refine aq a 0 ad rfl (by simpa using b6) ?_;refine Run.call0 gY gX a (kf hg a8 a9.1 b0 h) fun v' I' S' w'=>?_;rintro ⟨eS,rfl,e6,rfl,O⟩ _ a;rw [eS] at a;clear eS;refine al a 0 rfl ad (by simpa using O.length) (by simpa using b6) (by simpa using O.one) fun w' a=>?_;obtain ⟨kv,rfl,c7,c8,hs,a7⟩:=RdT.iff.1 O;have a:Inv w X [.blk G (.cells #[.int .i64 v.kind,.int .i64 v.n,.string v.name,kv] ac),.blk J (.cells #[.int .i64 0,.int .i64 0,.string ⟨#[]⟩,.slice none 0 0] ac),.blk r (.cells #[.int .i64 g] bD)] S w':=a;have d6:=a7.le;have f1:v.kids.length<=1048576:=((NU v).1 d0.2).1;refine aL ?_;refine aD a 2 aw rfl rfl ?_;refine bF (by omega) ?_;refine aL ?_;refine ef a 2 (n:=1) rfl (by decide +kernel) rfl (by simp) (by simp [Value.cells,Value.oneCell']) fun w' a=>?_;have a:Inv w X [.blk G (.cells #[.int .i64 v.kind,.int .i64 v.n,.string v.name,kv] ac),.blk J (.cells #[.int .i64 0,.int .i64 0,.string ⟨#[]⟩,.slice none 0 0] ac),.blk r (.cells #[.int .i64 (g+1)] bD)] S w':=a;refine ⟨fun q w'=>q=.bool (decide (120<g+1 ∨ 30<l))/\Inv w X [.blk G (.cells #[.int .i64 v.kind,.int .i64 v.n,.string v.name,kv] ac),.blk J (.cells #[.int .i64 0,.int .i64 0,.string ⟨#[]⟩,.slice none 0 0] ac),.blk r (.cells #[.int .i64 (g+1)] bD)] S w',?_,?_⟩
 ·refine aL ?_;refine aD a 2 aw rfl rfl ?_;refine fC ?_;by_cases e1:120<g+1
  ·rw [aP e1];refine rpG ?_;exact ⟨by rw [aP (Or.inl e1)],a⟩
  ·rw [bf e1];refine rpG ?_;refine fC ?_;refine rpG ?_;refine ⟨?_,a⟩
   congr 1
   rw [rZ,bE,bE];omega
 intro q _ _ _ _ _ _ _ w';rintro ⟨rfl,a⟩;refine aS (fun b2=>?_) (fun c3=>?_)
 ·have Y:okR (.mk v.kind v.n v.name o) l g=false:=by
   rw [B];rcases b2 with e|e
   ·rw [bf (by omega),ig]
   ·rw [af (by omega),Bi]
  refine vA ?_;refine al a 1 rfl ad rfl rfl ub fun w' a=>?_;refine bp a 1 ad rfl rfl ?_;exact ⟨_,_,_,rfl,a.pick [false,false,true],Ext.refl _ _ _,[.int .i64 0,.int .i64 0,.string ⟨#[]⟩,.slice none 0 0],g+1,by rw [Y],rfl,rfl,ub,fun h=>by rw [Y] at h; cases h⟩
 have d1:g+1<=120:=by omega
 have f2:l<=30:=by omega
 rw [ae (by omega)] at B;refine ah a 0 rfl bb aw rfl ?_;refine ah a 0 rfl aV aw rfl ?_;refine ah a 0 rfl bk aZ rfl ?_;refine pb ?_;refine aH a aM fun p w' a=>?_;have a:Inv w X [.blk G (.cells #[.int .i64 v.kind,.int .i64 v.n,.string v.name,kv] ac),.blk J (.cells #[.int .i64 0,.int .i64 0,.string ⟨#[]⟩,.slice none 0 0] ac),.blk p _,.blk r (.cells #[.int .i64 (g+1)] bD)] S w':=a.perm (((bK (l₁:=[_]) (l₂:=[_])).cons _).cons _);refine al a 2 rfl ad rfl rfl (by simp [Value.oneCell']) fun w' a=>?_;have a:=a.rowNil ac 4;have a:Inv w X [.blk G (.cells #[.int .i64 v.kind,.int .i64 v.n,.string v.name,kv] ac),.blk J (.cells #[.int .i64 0,.int .i64 0,.string ⟨#[]⟩,.slice none 0 0] ac),.blk p (.cells #[.int .i64 v.kind,.int .i64 v.n,.string v.name,.slice none 0 0] ac),aB (.slice none 0 0) ac 4 [],.blk r (.cells #[.int .i64 (g+1)] bD)] S w':=a.perm ((((bK (l₁:=[_]) (l₂:=[_])).cons _).cons _).cons _);refine ah a 0 rfl ay ax rfl ?_;refine aG a7 ao ?_;refine ⟨fun i w'=>∃ (j:Nat) (c:Int) (m:Value) (css:List (List Value)) (S1:ag),j<=o.length/\i=.int .i64 j/\Ext w.heap.size X S S1/\c=g+1+bi (o.take j)/\c<=120/\(∀ k (_:k<o.length),k<j->zA o[k] (31 - l - 1)=true)/\Rows 4 (RdT S1) css (o.take j)/\
   Inv w X [.blk G (.cells #[.int .i64 v.kind,.int .i64 v.n,.string v.name,kv] ac),.blk J (.cells #[.int .i64 0,.int .i64 0,.string ⟨#[]⟩,.slice none 0 0] ac),.blk p (.cells #[.int .i64 v.kind,.int .i64 v.n,.string v.name,m] ac),aB m ac 4 css,.blk r (.cells #[.int .i64 c] bD)] S1 w',
  fun i _=>o.length - (intOf i).toNat,⟨0,g+1,_,[],S,aK _,rfl,Ext.refl _ _ _,by simp [bi],d1,fun k _ h=>by omega,Rows.nil _ _,a⟩,?_⟩
 intro e7 _ _ _ _ _ _ _ _ _ _ _ _ _ _ _ _ _ _ _ _ _ _ _ _ _ _ w';rintro ⟨j,c,m,css,S1,hj,rfl,hE,hc,c1,a2,hR,a⟩;have d7:=bU (o.take j);refine cu ?_;refine aS (fun c4=>?_) (fun c4=>?_)
 ·have Z:j<o.length:=by omega
  have b7:j<v.kids.length:=by omega
  have d2:=hR.hc;rw [iJ] at d2;refine dy a (a7.monoT hE.1) ao ad b7 (fun _ _=>RdT.length) fun c5 V=>?_;have a3:=V.length;refine aH a aM fun c6 w' a=>?_;have a:=a.perm (M:=.blk c6 _::[.blk G (.cells #[.int .i64 v.kind,.int .i64 v.n,.string v.name,kv] ac),.blk J (.cells #[.int .i64 0,.int .i64 0,.string ⟨#[]⟩,.slice none 0 0] ac),.blk p (.cells #[.int .i64 v.kind,.int .i64 v.n,.string v.name,m] ac),aB m ac 4 css,.blk r (.cells #[.int .i64 c] bD)]) (bK (l₁:=[_]));refine al a 0 rfl ad (by simpa using a3) rfl (by simpa using V.one) fun w' a=>?_;refine aq a 0 ad rfl (by simpa using a3) ?_;refine bF (by omega) ?_;have a:Inv w X ([.blk G (.cells #[.int .i64 v.kind,.int .i64 v.n,.string v.name,kv] ac),.blk J (.cells #[.int .i64 0,.int .i64 0,.string ⟨#[]⟩,.slice none 0 0] ac),.blk p (.cells #[.int .i64 v.kind,.int .i64 v.n,.string v.name,m] ac),aB m ac 4 css]++[.blk r (.cells #[.int .i64 c] bD)]) S1 w':=a.pick [false,true,true,true,true,true];refine Run.callE js jr a (hk j Z b7 S1 c5 r (l+1) c V (b0.up hE.1) (by omega) (by omega) (by omega) (by omega)) fun v' I' S2 w'=>?_;rintro ⟨U,c2,rfl,rfl,a0,b1,a5⟩ a6 a;refine aA rfl ?_;refine aA rfl ?_;refine aH a aM fun b3 w' a=>?_;have a:=a.perm (M:=.blk b3 _::[.blk G (.cells #[.int .i64 v.kind,.int .i64 v.n,.string v.name,kv] ac),.blk J (.cells #[.int .i64 0,.int .i64 0,.string ⟨#[]⟩,.slice none 0 0] ac),.blk p (.cells #[.int .i64 v.kind,.int .i64 v.n,.string v.name,m] ac),aB m ac 4 css,.blk r (.cells #[.int .i64 c2] bD)]) (bK (l₁:=[_]));refine al a 0 rfl ad (by simpa using a0) rfl (by simpa using b1) fun w' a=>?_;refine cU ?_;have f3:=Nq o j Z;have d9:=EN o (j+1);refine aI (fun hb=>?_) (fun hb=>?_)
  ·have D:okR o[j] (l+1) c=false:=by simpa using hb
   have Y:okR (.mk v.kind v.n v.name o) l g=false:=by
    rw [B];rw [okR,RW] at D;rcases D with e|e
    ·have e:=of_decide_eq_false e;rw [bf (by omega),ig]
    ·have:zx o (31 - l - 1)=false:=by
      rw [Ah,List.all_eq_false];exact ⟨o[j],cH Z,by rw [show 31 - l - 1=31 - (l+1) by omega,e]; decide⟩
     rw [this,Bi]
   refine vA ?_;have a:Inv w X [.blk b3 (.cells U.toArray ac),.blk G (.cells #[.int .i64 v.kind,.int .i64 v.n,.string v.name,kv] ac),.blk J (.cells #[.int .i64 0,.int .i64 0,.string ⟨#[]⟩,.slice none 0 0] ac),.blk p (.cells #[.int .i64 v.kind,.int .i64 v.n,.string v.name,m] ac),aB m ac 4 css,.blk r (.cells #[.int .i64 c2] bD)] S2 w':=a;refine al a 2 rfl ad rfl rfl ub fun w' a=>?_;refine bp a 2 ad rfl rfl ?_;exact ⟨_,_,_,rfl,a.pick [false,false,false,false,false,true],hE.trans a6,[.int .i64 0,.int .i64 0,.string ⟨#[]⟩,.slice none 0 0],c2,by rw [Y],rfl,rfl,ub,fun h=>by rw [Y] at h; cases h⟩
  ·have D:okR o[j] (l+1) c=true:=by simpa using hb
   obtain ⟨e9,c9⟩:=a5 D;rw [okR,bJ,bE] at D;refine ah (b:=p) (c:=#[.int .i64 v.kind,.int .i64 v.n,.string v.name,m]) a 3 rfl ay ax rfl ?_;refine aq a 0 ad rfl (by simpa using a0) ?_;refine dC a 4 U bA (by omega) (by omega) rfl a0 b1 (by omega) (by omega) fun u w' a=>?_;have C:=gc (a.its (aB u ac 4 (css++[U])) (by simp));refine dG (b:=p) (c:=#[.int .i64 v.kind,.int .i64 v.n,.string v.name,m]) a 3 rfl ay ax rfl C.1 C.2 fun w' a=>?_;have a:Inv w X [.blk G (.cells #[.int .i64 v.kind,.int .i64 v.n,.string v.name,kv] ac),.blk J (.cells #[.int .i64 0,.int .i64 0,.string ⟨#[]⟩,.slice none 0 0] ac),.blk p (.cells #[.int .i64 v.kind,.int .i64 v.n,.string v.name,u] ac),aB u ac 4 (css++[U]),.blk r (.cells #[.int .i64 c2] bD)] S2 w':=a.pick [false,true,true,true,true,true];refine bF (by omega) ?_;refine ⟨⟨j+1,c2,u,css++[U],S2,Z,rfl,hE.trans a6,by omega,by omega,fun k a1 e8=>?_,?_,a⟩,by simp [intOf]; omega⟩
   ·by_cases e:k=j
    ·subst e;rw [show 31 - l - 1=31 - (l+1) by omega];exact D.2
    ·exact a2 k a1 (by omega)
   ·rw [ia Z];exact (hR.monoR fun _ _ h=>RdT.mono a6.1 h).snoc c9 a0
 ·have d3:j=o.length:=by omega
  subst d3;rw [iz] at hR hc;have b9:okR (.mk v.kind v.n v.name o) l g=true:=by
   rw [B,aP (by omega),eL,Ah,fS];intro x hx;obtain ⟨k,a1,rfl⟩:=Lx.1 hx;exact a2 k a1 a1
  refine aq (b:=p) (c:=#[.int .i64 v.kind,.int .i64 v.n,.string v.name,m]) a 2 ad rfl rfl ?_;have C:=gc (a.its (aB m ac 4 css) (by simp));have a4:∀ x∈([.int .i64 v.kind,.int .i64 v.n,.string v.name,m]:List Value),x.oneCell'=true:=by
   intro x hx;simp at hx;rcases hx with rfl|rfl|rfl|rfl <;> first|rfl|exact C.2
  refine al a 1 rfl ad rfl rfl a4 fun w' a=>?_;refine bp (c:=#[.int .i64 v.kind,.int .i64 v.n,.string v.name,m]) a 1 ad rfl rfl ?_;have a:Inv w X ([.blk r (.cells #[.int .i64 c] bD)]++[aB m ac 4 css]) S1 w':=(a.pick [false,false,false,true,true]).perm (List.Perm.swap ..);obtain ⟨S3,b4,a5,a⟩:=a.lendExt;have d4:=RowRd.rows (hR.monoR fun _ _ h=>RdT.mono b4.1 h) a5;exact ⟨_,_,_,rfl,a,hE.trans b4,[.int .i64 v.kind,.int .i64 v.n,.string v.name,m],c,by rw [b9],rfl,rfl,a4,fun _=>⟨by rw [Fh]; omega,RdT.iff.2 ⟨m,rfl,c7,c8,hs,d4⟩⟩⟩
theorem zB {N:Nat} {st:aX} (o:Nat) (p:Good N st) {j:MC} (B:Res st j):match j with
  | .one t u=>(okU N t/\wB t)->RC st o t u
  | .list ts us=>(∀ t∈ts,okU N t/\wB t)->us.length=ts.length/\∀ i (h:i<us.length) (q:i<ts.length),RC st o ts[i] us[i]:=by
 induction B with
 | one r _ G=>
  intro a;have g:=G (j0 (eh p r a));exact BI p r a g.1 g.2
 | nil=>exact fun _=>⟨rfl,fun i h _=>by simp at h⟩
 | cons _ _ l m=>
  intro a;obtain ⟨g,D⟩:=m fun t C=>a t (bV _ C);refine ⟨by simp [g],fun i h q=>?_⟩;cases i with
  | zero=>exact l (a _ (bL ..))
  | succ i=>exact D i (by simpa using h) (by simpa using q)
theorem CZ {N:Nat} {st:aX} (J:Good N st) {t u:T} (M:Res st (.one t u)) (O:okU N t/\wB t) {S:ag} {cs:List Value} {m:Nat} (h:RdT S cs t) (o:StS S S m st) :
  Tri Tryz.prog tR [.pointer (some ⟨m,0,none⟩),.agg cs.toArray] [] S fun q I' S'=>I'=[]/\∃ g:List Value,g.length=4/\(∀ x∈g,x.oneCell'=true)/\q=.tuple #[.agg g.toArray,.bool (ez u)]/\(ez u=true->RdT S' g u):=by
 intro w a;have C:=h.length;have a:Inv w [] [] S w:=a;have D:RC st m t u:=zB m J M O;have e:okR u 1 0=ez u:=by rw [okR,ez,En]; rfl
 refine kE.2 ?_;dsimp only[kE,bm];refine bH a fun b3 w' a=>?_;refine aH a aM fun G w' a=>?_;have V:fW Tryz.prog bD=some (.int .i64 0):=by kernel_rfl
 refine aH a V fun B w' a=>?_;refine ef a 2 (n:=1) rfl (by decide +kernel) rfl (by simp [Value.cells]) (by simp [Value.cells,Value.oneCell']) fun w' a=>?_;have a:Inv w [] ([.blk b3 (.cells cs.toArray ac),.blk G (.cells #[.int .i64 0,.int .i64 0,.string ⟨#[]⟩,.slice none 0 0] ac)]++[.blk B (.cells #[.int .i64 0] bD)]) S w':=a;refine aq a 0 ad rfl (by simpa using C) ?_;refine Run.callE js jr a (D S cs B 1 0 h o (by omega) (by omega) (by omega) (by omega)) fun v' I' S2 w'=>?_;rintro ⟨p,U,rfl,rfl,i,j,l⟩ r a;rw [e] at l ⊢;refine aA rfl ?_;refine aA rfl ?_;have a:Inv w [] [.blk b3 (.cells cs.toArray ac),.blk G (.cells #[.int .i64 0,.int .i64 0,.string ⟨#[]⟩,.slice none 0 0] ac),.blk B (.cells #[.int .i64 U] bD)] S2 w':=a;refine al a 1 rfl ad (by simpa using i) rfl (by simpa using j) fun w' a=>?_;refine bp a 1 ad rfl (by simpa using i) ?_;exact ⟨_,_,_,rfl,a.nil,r,rfl,p,i,j,rfl,fun h=>(l h).2⟩
end
end
end Go.Proofs.YtjbcdmheajljpaaGreat
