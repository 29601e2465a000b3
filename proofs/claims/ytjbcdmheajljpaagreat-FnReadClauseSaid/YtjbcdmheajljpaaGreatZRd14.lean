/- impl: binding, unification. -/
import Derived.Test.YtjbcdmheajljpaaGreatZRdA
import Derived.Test.YtjbcdmheajljpaaGreatZRd13
namespace Go.Proofs.YtjbcdmheajljpaaGreat
attribute [local irreducible] Run CondV aI bg
section
open Go Go.RowKit
abbrev dz (sb mb:Nat) (es:Array MapEntry) (ck:Nat) (tv:Value) (tr:List Int):List Item:=[ei sb #[.map (some mb),tv] aX,.blk mb (.map es ck),cA tv tr]
section
theorem Gv {N:Nat} {st:bb} (hg:Good N st) {n:Nat} (hf:st[n]?=some none) (a7:n<1000000000) {t:T} (ht:okU N t) {S:ai} {cs:nA} {p g B:Nat} {C:Array MapEntry} {l:Value} {tr:List Int} (h:RdT S cs t) (hm:KnownM S C st) (b3:tr.length<=1000000) :
  nB Fz [hV p,ee n,.agg cs.toArray] (dz p g C B l tr) S fun r I' S'=>S'=S/\
   ((¬ gA st n t/\r=.bool true/\∃ a5 b1 b2,I'=dz p g a5 b1 b2 (tr++[(n:Int)])/\KnownM S a5 (st.set n (some t))) ∨ (gA st n t/\r=.bool false/\I'=dz p g C B l tr)):=by
 intro w a;have a3:=h.length;obtain ⟨X,hX⟩:∃ X,X=cg (dz p g C B l tr):=⟨_,rfl⟩
 rw [<- hX] at a ⊢;have hn:∀ u,st[n]?≠some (some u):=fun u hu=>by rw [hf] at hu;cases hu
 have a9:n<st.length:=(ie.1 hf).1;refine qO.2 ?_;dsimp only[qO,eX];refine bH a fun U w' a=>?_;refine aq a 3 af rfl (by simpa [Value.cells] using a3) ?_;refine pp a fun mm w' a=>?_;have a:Inv w X ([ei U cs.toArray ac,cA l tr,.blk mm (.map #[] 0)]++bO [(p,.cells #[.map (some g),l] aX),(g,.map C B)]) S w':=a.perm (by
  refine (List.Perm.trans ?_ (bD (l₁:=[ei U cs.toArray ac,.blk mm (.map #[] 0)]) (l₂:=dz p g C B l tr)));refine (List.Perm.cons _ (List.Perm.trans (List.Perm.swap _ _ _) (List.Perm.cons _ ?_)));exact bD (l₁:=[cA l tr]) (l₂:=bO [(p,.cells #[.map (some g),l] aX),(g,.map C B)]))
 obtain ⟨S1,a8,V,J,Y⟩:=Inv.lendAll _ a;have b0:StS S S1 p st:=⟨g,l,C,B,aX,V _ (bF ..),V _ (bI _ (bF ..)),hm⟩
 have J:Inv w X ([ei U cs.toArray ac,cA l tr]++[.blk mm (.map #[] 0)]) S1 w':=J;refine Run.callE ki jU J (Kr hg hn a7 t ht S S1 cs mm 0 #[] _ a8 b0 h MetM.empty (fun m hm=>hm.elim)) fun v' I' S' w'=>?_;rintro ⟨eS,G,b4,rfl,a0⟩ _ J;rw [eS] at J;have a:=Y _ _ J;have a:Inv w X ([ei U cs.toArray ac]++dz p g C B l tr) S w':=(a.pick [true,true,false,true,true]).perm (List.Perm.cons _ (bD (l₁:=bO [(p,.cells #[.map (some g),l] aX),(g,.map C B)]) (l₂:=[cA l tr])));rcases a0 with ⟨O,rfl⟩|⟨O,rfl,_⟩
 ·refine aL (fun _=>?_) (fun hb=>by cases hb);exact ⟨_,_,_,rfl,a.sub (jd _ _),Ext.refl _ _ _,rfl,.inr ⟨O,rfl,rfl⟩⟩
 refine aL (fun hb=>by cases hb) (fun _=>?_);have Z:Instr.findNow (.int .i64) (ee n) C.toList 0=some none:=by
  rcases hm.find n with ⟨_,_,u,_,_,_,_,hu⟩|⟨_,hf⟩
  ·exact absurd hu (hn u)
  ·exact hf
 have a4:=hm.push a9 hn h B;generalize a6:C.push { key:=ee n,val:=.agg cs.toArray,born:=B }=G at a4;have a:Inv w X [ei U cs.toArray ac,ei p #[.map (some g),l] aX,.blk g (.map C B),cA l tr] S w':=a;refine ⟨fun D lS p8 DS L7 QJ GI w_=>Fx D 0 [GI=hV p,QJ=hV p,L7=hV p,DS=.map (some g),p8=ee n,lS=.agg cs.toArray,True]/\Inv w X [ei U cs.toArray ac,ei p #[.map (some g),l] aX,.blk g (cond (D 6) (.map G (B+1)) (.map C B)),cA l tr] S w_,⟨Fx.nil _ _,a.draw⟩,⟨?_,?_,?_,?_,?_,?_,?_,trivial⟩,?_⟩;all_goals (intro D bp;intros;rename_i lS p8 DS L7 QJ GI w_ a1;have q:=a1.1;obtain ⟨⟨cF,ci,cG,cD,bU,cH,cj,_⟩,a⟩:=a1)
 ·exact ⟨q.set 0 rfl,a⟩
 ·obtain rfl:=cF ‹_›;refine bh ?_;exact ⟨q.set 1 rfl,a⟩
 ·obtain rfl:=ci ‹_›;refine ax CN ?_;exact ⟨q.set 2 rfl,a⟩
 ·obtain rfl:=cG ‹_›;refine aG a 1 (by decide +kernel) rfl rfl ?_;exact ⟨q.set 3 rfl,a⟩
 ·exact ⟨q.set 4 rfl,a⟩
 ·refine aq a 0 af rfl (by simpa using a3) ?_;exact ⟨q.set 5 rfl,a⟩
 ·obtain rfl:=cD ‹_›;obtain rfl:=bU ‹_›;obtain rfl:=cH ‹_›;rw [bp] at a;refine pA a 2 cX dS rfl Z fun w_ a=>?_;rw [a6] at a;exact ⟨q.set 6 trivial,a⟩
 obtain ⟨rfl,rfl,rfl,rfl,rfl,rfl,_,_⟩:=q.all;have F5:D 6=true:=by assumption
 clear q cF ci cG cD bU cH cj;rw [F5] at a;have a:Inv w X [ei U cs.toArray ac,ei p #[.map (some g),l] aX,.blk g (.map G (B+1)),cA l tr] S w_:=a;obtain ⟨va,vn,vc,b6⟩:=a.rowSlice 3 rfl;refine bh ?_;refine ax Cl ?_;refine aG a 1 gU rfl rfl ?_;refine eO a iX rfl (by omega) (by omega) fun b w' a=>?_;refine fl a 3 (k:=1) (o:=0) (m:=1) [ee n] iX (by omega) rfl rfl ?_ (by simp [Value.oneCell']) (by omega) (by omega) fun M w' a=>?_
 ·intro j u hj;rw [a.cellL (i:=4) rfl]
  match j with
  | 0=>simpa [Value.cells] using hj
  | j+1=>simp at hj
 rw [z9] at a;have a:Inv w X [ei U cs.toArray ac,ei p #[.map (some g),l] aX,.blk g (.map G (B+1)),cA M (tr++[(n:Int)]),ei b #[ee n] bV] S w':=by
  have e:Item.row M bV 1 (tr.length+1) (ints (tr++[(n:Int)]))=cA M (tr++[(n:Int)]):=by simp [cA]
  rw [<- e];exact a
 obtain ⟨b7,b8,b9,a2⟩:=a.rowSlice 3 rfl;refine bh ?_;refine cq a 1 rfl Cl gU rfl (by rw [a2];rfl) (by rw [a2];rfl) fun w' a=>?_;have a:Inv w X ([ei U cs.toArray ac]++(dz p g G (B+1) M (tr++[(n:Int)])++[ei b #[ee n] bV])) S w':=a;exact ⟨_,_,_,rfl,(a.sub (fj [_] _)).sub (gV _ _),Ext.refl _ _ _,rfl,.inl ⟨O,rfl,G,B+1,M,rfl,a4⟩⟩
def xc:bb->List Int->bb
 | st,[]=>st
 | st,n::ns=>(xc st ns).set n.toNat none
theorem Mv (st:bb):∀ a b:List Int,xc st (a++b)=xc (xc st b) a
 | [],_=>rfl
 | n::a,b=>by rw [dg,xc,xc,Mv st a b]
theorem Nv (st:bb):∀ (a:List Int) (i:Nat),(xc st a)[i]?=if (∃ n∈a,n.toNat=i) then st[i]?.map (fun _=>none) else st[i]?
 | [],i=>by rw [xc,ae (by simp)]
 | n::a,i=>by
  rw [xc,BN,Nv st a];have o:(xc st a).length=st.length:=by
   clear i;induction a with
   | nil=>rfl
   | cons m a p=>rw [xc,jj,p]
  by_cases l:n.toNat=i
  ·subst l;have g:∃ m∈n::a,m.toNat=n.toNat:=⟨n,by simp,rfl⟩
   by_cases h:n.toNat<st.length
   ·rw [ag rfl,o,ag h,ag g,me h];rfl
   ·rw [ag rfl,o,ae h,ag g,QV (by omega)];rfl
  ·rw [ae l];by_cases h:∃ m∈a,m.toNat=i
   ·obtain ⟨m,g,j⟩:=h;rw [ag ⟨m,g,j⟩,ag ⟨m,bI _ g,j⟩]
   ·rw [ae h,ae];rintro ⟨m,g,j⟩;rcases dK.1 g with rfl|g
    ·exact l j
    ·exact h ⟨m,g,j⟩
def Tr (st st':bb) (tr tr':List Int):Prop:=∃ ns,tr'=tr++ns/\xc st' ns=st/\(∀ n∈ns,∃ j:Nat,n=(j:Int)/\st[j]?=some none)/\ns.length+unb st'<=unb st
theorem Tr.refl (st:bb) (tr:List Int):Tr st st tr tr:=⟨[],(dk _).symm,rfl,by simp,by simp⟩
theorem Tr.bind {st:bb} {tr:List Int} {n:Nat} {t:T} (h:st[n]?=some none):Tr st (st.set n (some t)) tr (tr++[(n:Int)]):=by
 refine ⟨[(n:Int)],rfl,?_,fun m a=>⟨n,bM.1 a,h⟩,by have:=tZ st n t h;simp only [aP,ce];omega⟩;rw [xc,xc,dH,List.set_set];apply Oi;intro i;rw [BN];by_cases e:n=i
 ·subst e;rw [ag rfl,h,ag (ie.1 h).1]
 ·rw [ae e]
theorem Tr.trans {a b c:bb} {x y z:List Int} (h:Tr a b x y) (i:Tr b c y z):Tr a c x z:=by
 obtain ⟨l,rfl,rfl,m,p⟩:=h;obtain ⟨ms,rfl,rfl,o,q⟩:=i;refine ⟨l++ms,by rw [cN],by rw [Mv],fun n hn=>?_,by rw [bt];omega⟩;rcases cU.1 hn with hn|hn
 ·exact m n hn
 ·obtain ⟨j,rfl,g⟩:=o n hn;refine ⟨j,rfl,?_⟩;rw [Nv];split
  ·rw [g];rfl
  ·exact g
def UI (st:bb) (a b:T) (r:Bool) (st':bb):Prop:=∀ (S:ai) (cs ds:List Value) (sb mb ck:Nat) (es:Array MapEntry) (tv:Value) (tr:List Int),RdT S cs a->RdT S ds b->KnownM S es st->tr.length+unb st<=1000000->
 Tri Tryz.prog Dm [hV sb,.agg cs.toArray,.agg ds.toArray] (dz sb mb es ck tv tr) S fun q I' S'=>S'=S/\q=.bool r/\∃ es' ck' tv' tr',I'=dz sb mb es' ck' tv' tr'/\KnownM S es' st'/\tr'.length+unb st'<=1000000/\Tr st st' tr tr'
set_option maxHeartbeats 1000000 in
theorem KR {N:Nat} (hN:N<=1000000) {st a3:bb} {a b a' b':T} {r:Bool} (hg:Good N st) (hj:okJ N (.one a b)) (e8:eq st a a') (e9:eq st b b') (he:Uw UI st a' b' r a3):UI st a b r a3:=by
 intro S cs ds sb mb ck es tv tr h h' b3 d1 w g;have g5:=h.length;have g6:=h'.length;have f5:=eB hg e8 hj.1;have f8:=eB hg e9 hj.2;obtain ⟨X,hX⟩:∃ X,X=cg (dz sb mb es ck tv tr):=⟨_,rfl⟩
 rw [<- hX] at g ⊢;refine pP.2 ?_;dsimp only[pP,eX];refine bH g fun b1 w' g=>?_;refine bH g fun b2 w' g=>?_;have g:Inv w X ([ei b1 cs.toArray ac,ei b2 ds.toArray ac,cA tv tr]++bO [(sb,.cells #[.map (some mb),tv] aX),(mb,.map es ck)]) S w':=g.perm (by
  refine (List.Perm.trans ?_ (bD (l₁:=[ei b1 cs.toArray ac,ei b2 ds.toArray ac]) (l₂:=dz sb mb es ck tv tr)));exact List.Perm.cons _ (List.Perm.cons _ (bD (l₁:=[cA tv tr]) (l₂:=bO [(sb,.cells #[.map (some mb),tv] aX),(mb,.map es ck)]))))
 obtain ⟨S1,i2,e7,g,f1⟩:=Inv.lendAll _ g;have g7:StS S S1 sb st:=⟨mb,tv,es,ck,aX,e7 _ (bF ..),e7 _ (bI _ (bF ..)),b3⟩
 refine ⟨fun D QJ GI my ux x9 x8 w_=>Fx D 0 [x8=hV sb,x9=.agg cs.toArray,True,my=hV sb,GI=.agg ds.toArray,True,True,True]/\∃ p t,(D 2=true->ux=.agg (List.toArray p)/\RdT S p a')/\(D 5=true->QJ=.agg (List.toArray t)/\RdT S t b')/\(D 6=true->D 1=true/\D 2=true)/\(D 7=true->D 4=true/\D 5=true)/\Inv w X [ei b1 (cond (D 6) (List.toArray p) cs.toArray) ac,ei b2 (cond (D 7) (List.toArray t) ds.toArray) ac,cA tv tr] S1 w_,⟨Fx.nil _ _,⟨[],[],aU,aU,aU,aU,g.draw⟩⟩,⟨?_,?_,?_,?_,?_,?_,?_,?_,trivial⟩,?_⟩;all_goals (intro D bp;intros;rename_i QJ GI my ux x9 x8 w_ d2;have l:=d2.1;obtain ⟨⟨cF,ci,cG,cD,bU,cH,cj,cR,_⟩,⟨p,t,e2,e5,k6,k7,g⟩⟩:=d2)
 ·exact ⟨l.set 0 rfl,⟨p,t,e2,e5,k6,k7,g⟩⟩
 ·have f6:D 6=false:=bA.2 fun h=>by rw [(k6 h).1] at bp;cases bp
  refine aq (c:=cs.toArray) g 0 af (by rw [f6];rfl) (by simpa using g5) ?_;have k6:=fun (h:aF D 1 6=true)=>(⟨rfl,(k6 h).2⟩:aF D 1 1=true/\aF D 1 2=true)
  exact ⟨l.set 1 rfl,⟨p,t,e2,e5,k6,k7,g⟩⟩
 ·obtain rfl:=cF ‹_›;obtain rfl:=ci ‹_›;have f6:D 6=false:=bA.2 fun h=>by rw [(k6 h).2] at bp;cases bp
  refine Run.call0 js jr g (mq hg e8 hj.1.1 g7 h) fun v' I' S' w_=>?_;rintro ⟨eS,rfl,p,rfl,c4⟩ _ g;rw [eS] at g;have e2:=fun (_:aF D 2 2=true)=>(⟨rfl,c4⟩:Value.agg (List.toArray p)=Value.agg (List.toArray p)/\RdT S p a')
  have k6:=fun (h:aF D 2 6=true)=>(⟨(k6 h).1,rfl⟩:aF D 2 1=true/\aF D 2 2=true)
  have g:Inv w X [ei b1 (cond (D 6) (List.toArray p) cs.toArray) ac,ei b2 (cond (D 7) (List.toArray t) ds.toArray) ac,cA tv tr] S1 w_:=by rw [f6] at g ⊢;simpa using g
  exact ⟨l.set 2 (by first|assumption|trivial),⟨p,t,e2,e5,k6,k7,g⟩⟩
 ·exact ⟨l.set 3 rfl,⟨p,t,e2,e5,k6,k7,g⟩⟩
 ·have f7:D 7=false:=bA.2 fun h=>by rw [(k7 h).1] at bp;cases bp
  refine aq (c:=ds.toArray) g 1 af (by rw [f7];rfl) (by simpa using g6) ?_;have k7:=fun (h:aF D 4 7=true)=>(⟨rfl,(k7 h).2⟩:aF D 4 4=true/\aF D 4 5=true)
  exact ⟨l.set 4 rfl,⟨p,t,e2,e5,k6,k7,g⟩⟩
 ·obtain rfl:=cD ‹_›;obtain rfl:=bU ‹_›;have f7:D 7=false:=bA.2 fun h=>by rw [(k7 h).2] at bp;cases bp
  refine Run.call0 js jr g (mq hg e9 hj.2.1 g7 h') fun v' I' S' w_=>?_;rintro ⟨eS,rfl,t,rfl,c5⟩ _ g;rw [eS] at g;have e5:=fun (_:aF D 5 5=true)=>(⟨rfl,c5⟩:Value.agg (List.toArray t)=Value.agg (List.toArray t)/\RdT S t b')
  have k7:=fun (h:aF D 5 7=true)=>(⟨(k7 h).1,rfl⟩:aF D 5 4=true/\aF D 5 5=true)
  have g:Inv w X [ei b1 (cond (D 6) (List.toArray p) cs.toArray) ac,ei b2 (cond (D 7) (List.toArray t) ds.toArray) ac,cA tv tr] S1 w_:=by rw [f7] at g ⊢;simpa using g
  exact ⟨l.set 5 (by first|assumption|trivial),⟨p,t,e2,e5,k6,k7,g⟩⟩
 ·have Vf:=cG ‹_›;obtain ⟨q2,d4⟩:=e2 ‹D 2=true›;rw [bp] at g;subst q2;refine aj g 0 rfl af (by simpa using d4.length) (by simpa using g5) (by simpa using d4.one) fun w_ g=>?_;have k6:=fun (_:aF D 6 6=true)=>(⟨‹D 1=true›,‹D 2=true›⟩:aF D 6 1=true/\aF D 6 2=true)
  exact ⟨l.set 6 trivial,⟨p,t,e2,e5,k6,k7,g⟩⟩
 ·have zM:=cH ‹_›;obtain ⟨q5,g2⟩:=e5 ‹D 5=true›;rw [bp] at g;subst q5;refine aj g 1 rfl af (by simpa using g2.length) (by simpa using g6) (by simpa using g2.one) fun w_ g=>?_;have k7:=fun (_:aF D 7 7=true)=>(⟨‹D 4=true›,‹D 5=true›⟩:aF D 7 4=true/\aF D 7 5=true)
  exact ⟨l.set 7 trivial,⟨p,t,e2,e5,k6,k7,g⟩⟩
 obtain ⟨rfl,rfl,Vf,rfl,rfl,zM,_,_,_⟩:=l.all;have Yd:D 2=true:=by assumption
 have UE:D 5=true:=by assumption
 have F5:D 6=true:=by assumption
 have nI:D 7=true:=by assumption
 clear l cF ci cG cD bU cH cj cR;obtain ⟨_,c4⟩:=e2 Yd;obtain ⟨_,c5⟩:=e5 UE;rw [F5,nI] at g;clear e2 e5 k6 k7;have g:=f1 _ _ g;have g:Inv w X ([ei b1 p.toArray ac,ei b2 t.toArray ac]++dz sb mb es ck tv tr) S w_:=g.perm (List.Perm.cons _ (List.Perm.cons _ (bD (l₁:=bO [(sb,.cells #[.map (some mb),tv] aX),(mb,.map es ck)]) (l₂:=[cA tv tr]))));have h7:=c4;have h8:=c5;obtain ⟨kv,rfl,_,_,_,d6⟩:=RdT.iff.1 c4;obtain ⟨f2,rfl,_,_,_,d7⟩:=RdT.iff.1 c5;obtain ⟨k,n,s,ks⟩:=a';obtain ⟨k',n',s',o⟩:=b';unfold Uw at he;simp only [T.name,T.kids,T.kind,T.n] at d6 d7 g he ⊢;have g8:=d6.le;simp only [maxLen] at g8;have c9:=fun h=>oU hg h (ij e8) f5.1;have d0:=fun h=>oU hg h (ij e9) f8.1;have i5:=hg.len;refine ⟨fun q w'=>q=.bool (decide (k=1/\k'=1/\n=n'))/\Inv w X ([ei b1 #[ee k,ee n,.string s,kv] ac,ei b2 #[ee k',ee n',.string s',f2] ac]++dz sb mb es ck tv tr) S w',?_,?_⟩
 ·refine ah g 0 rfl aW au rfl ?_;refine a9 ?_;by_cases e1:k=1
  ·rw [aD e1];refine rpG ?_;refine ah g 1 rfl aW au rfl ?_;refine a9 ?_;by_cases e2:k'=1
   ·rw [aD e2];refine rpG ?_;refine ah g 0 rfl aR au rfl ?_;refine ah g 1 rfl aR au rfl ?_;refine a9 ?_;refine rpG ?_;exact ⟨by simp [e1,e2],g⟩
   ·rw [aM e2];refine rpG ?_;exact ⟨by simp [e2],g⟩
  ·rw [aM e1];refine rpG ?_;exact ⟨by simp [e1],g⟩
 intro q _ _ _ _ _ _ _ _ _ _ _ _ _ _ _ w';rintro ⟨rfl,g⟩;refine aJ (fun a5=>?_) (fun a5=>?_)
 ·have:r=true/\a3=st:=by
   rcases he with ⟨_,_,_,m,h2⟩|⟨_,m,_⟩|⟨m,_,_⟩|⟨m,_,_⟩
   ·exact ⟨m,h2⟩
   ·exact absurd a5.2 m
   ·exact absurd a5.1 m
   ·exact absurd a5.1 m
  obtain ⟨rfl,rfl⟩:=this;exact ⟨_,_,_,rfl,g.sub (fj [_,_] _),Ext.refl _ _ _,rfl,rfl,es,ck,tv,tr,rfl,b3,d1,Tr.refl _ _⟩
 refine ah g 0 rfl aW au rfl ?_;refine a9 ?_;refine aJ (fun a8=>?_) (fun a8=>?_)
 ·have a0:(¬ gA st n.toNat (.mk k' n' s' o)/\r=true/\a3=st.set n.toNat (some (.mk k' n' s' o))) ∨ (gA st n.toNat (.mk k' n' s' o)/\r=false/\a3=st):=by
   rcases he with ⟨m,h2,h3,_⟩|⟨_,_,m⟩|⟨m,_,_⟩|⟨m,_,_⟩
   ·exact absurd ⟨m,h2,h3⟩ a5
   ·exact m
   ·exact absurd a8 m
   ·exact absurd a8 m
  obtain ⟨f3,f4,_⟩:=f5.1.var a8;have c9:=c9 a8;simp only [T.n] at f3 f4 c9;obtain ⟨j,rfl⟩:∃ j:Nat,n=j:=⟨n.toNat,by omega⟩
  rw [dH] at c9 a0;refine ah g 0 rfl aR au rfl ?_;refine aq g 1 af rfl rfl ?_;refine Run.callE (A:=[_,_]) rE rG g (Gv hg c9 (by omega) f8.1 h8 b3 (by omega)) fun v' I' S' w'=>?_;rintro ⟨eS,b4⟩ _ g;rw [eS] at g;have h9:=tZ st j (.mk k' n' s' o) c9;rcases a0 with ⟨m,rfl,rfl⟩|⟨m,rfl,rfl⟩
  ·rcases b4 with ⟨_,rfl,U,V,Y,rfl,b5⟩|⟨h2,_⟩
   ·exact ⟨_,_,_,rfl,g.sub (fj [_,_] _),Ext.refl _ _ _,rfl,rfl,U,V,Y,_,rfl,b5,by simp;omega,Tr.bind (by assumption)⟩
   ·exact absurd h2 m
  ·rcases b4 with ⟨h2,_⟩|⟨_,rfl,rfl⟩
   ·exact absurd m h2
   ·exact ⟨_,_,_,rfl,g.sub (fj [_,_] _),Ext.refl _ _ _,rfl,rfl,es,ck,tv,tr,rfl,b3,d1,Tr.refl _ _⟩
 refine ah g 1 rfl aW au rfl ?_;refine a9 ?_;refine aJ (fun d3=>?_) (fun d3=>?_)
 ·have a0:(¬ gA st n'.toNat (.mk k n s ks)/\r=true/\a3=st.set n'.toNat (some (.mk k n s ks))) ∨ (gA st n'.toNat (.mk k n s ks)/\r=false/\a3=st):=by
   rcases he with ⟨m,_⟩|⟨m,_,_⟩|⟨_,_,m⟩|⟨_,m,_⟩
   ·exact absurd m a8
   ·exact absurd m a8
   ·exact m
   ·exact absurd d3 m
  obtain ⟨f3,f4,_⟩:=f8.1.var d3;have d0:=d0 d3;simp only [T.n] at f3 f4 d0;obtain ⟨j,rfl⟩:∃ j:Nat,n'=j:=⟨n'.toNat,by omega⟩
  rw [dH] at d0 a0;refine ah g 1 rfl aR au rfl ?_;refine aq g 0 af rfl rfl ?_;refine Run.callE (A:=[_,_]) rE rG g (Gv hg d0 (by omega) f5.1 h7 b3 (by omega)) fun v' I' S' w'=>?_;rintro ⟨eS,b4⟩ _ g;rw [eS] at g;have h9:=tZ st j (.mk k n s ks) d0;rcases a0 with ⟨m,rfl,rfl⟩|⟨m,rfl,rfl⟩
  ·rcases b4 with ⟨_,rfl,U,V,Y,rfl,b5⟩|⟨h2,_⟩
   ·exact ⟨_,_,_,rfl,g.sub (fj [_,_] _),Ext.refl _ _ _,rfl,rfl,U,V,Y,_,rfl,b5,by simp;omega,Tr.bind (by assumption)⟩
   ·exact absurd h2 m
  ·rcases b4 with ⟨h2,_⟩|⟨_,rfl,rfl⟩
   ·exact absurd m h2
   ·exact ⟨_,_,_,rfl,g.sub (fj [_,_] _),Ext.refl _ _ _,rfl,rfl,es,ck,tv,tr,rfl,b3,d1,Tr.refl _ _⟩
 have a0:(qz (.mk k n s ks) (.mk k' n' s' o)=false/\r=false/\a3=st) ∨ (qz (.mk k n s ks) (.mk k' n' s' o)=true/\Chain UI st ks o r a3):=by
  rcases he with ⟨m,_⟩|⟨m,_,_⟩|⟨_,m,_⟩|⟨_,_,m⟩
  ·exact absurd m a8
  ·exact absurd m a8
  ·exact absurd m d3
  ·exact m
 refine ⟨fun q w'=>q=.bool (!qz (.mk k n s ks) (.mk k' n' s' o))/\Inv w X ([ei b1 #[ee k,ee n,.string s,kv] ac,ei b2 #[ee k',ee n',.string s',f2] ac]++dz sb mb es ck tv tr) S w',?_,?_⟩
 ·refine ah g 0 rfl aW au rfl ?_;refine ah g 1 rfl aW au rfl ?_;refine jN ?_;by_cases e1:k=k'
  ·rw [aD e1];refine rpG ?_;refine ah g 0 rfl aR au rfl ?_;refine ah g 1 rfl aR au rfl ?_;refine jN ?_;by_cases e2:n=n'
   ·rw [aD e2];refine rpG ?_;refine ah g 0 rfl bu aV rfl ?_;refine ah g 1 rfl bu aV rfl ?_;refine Ji ?_;by_cases e3:s=s'
    ·rw [aD e3];refine rpG ?_;refine ah g 0 rfl az aw rfl ?_;refine aO d6 ao ?_;refine ah g 1 rfl az aw rfl ?_;refine aO d7 ao ?_;refine jN ?_;refine rpG ?_;exact ⟨by rw [ot,aD e1,aD e2,aD e3,W5];rfl,g⟩
    ·rw [aM e3];refine rpG ?_;exact ⟨by rw [ot,aD e1,aD e2,aM e3];rfl,g⟩
   ·rw [aM e2];refine rpG ?_;exact ⟨by rw [ot,aD e1,aM e2];rfl,g⟩
  ·rw [aM e1];refine rpG ?_;exact ⟨by rw [ot,aM e1];rfl,g⟩
 intro q _ _ _ _ _ _ _ _ _ _ _ _ _ _ _ _ _ _ _ _ _ _ _ _ _ _ _ _ w';rintro ⟨rfl,g⟩;cases hd:qz (.mk k n s ks) (.mk k' n' s' o)
 ·refine aL (fun _=>?_) (fun hb=>by cases hb);have:r=false/\a3=st:=by
   rcases a0 with ⟨_,m⟩|⟨m,_⟩
   ·exact m
   ·rw [hd] at m;cases m
  obtain ⟨rfl,rfl⟩:=this;exact ⟨_,_,_,rfl,g.sub (fj [_,_] _),Ext.refl _ _ _,rfl,rfl,es,ck,tv,tr,rfl,b3,d1,Tr.refl _ _⟩
 refine aL (fun hb=>by cases hb) (fun _=>?_);have g9:ks.length=o.length:=oP hd;have i0:Chain UI st ks o r a3:=by
  rcases a0 with ⟨m,_⟩|⟨_,m⟩
  ·rw [hd] at m;cases m
  ·exact m
 refine ah g 0 rfl az aw rfl ?_;refine aO d6 ao ?_;refine ⟨fun i w'=>∃ (j:Nat) (b6:bb) (b0:Array MapEntry) (b7:Nat) (b8:Value) (a4:List Int),j<=ks.length/\i=ee j/\Chain UI b6 (ks.drop j) (o.drop j) r a3/\KnownM S b0 b6/\a4.length+unb b6<=1000000/\Tr st b6 tr a4/\Inv w X ([ei b1 #[ee k,ee n,.string s,kv] ac,ei b2 #[ee k',ee n',.string s',f2] ac]++dz sb mb b0 b7 b8 a4) S w',fun i _=>ks.length - (intOf i).toNat,⟨0,st,es,ck,tv,tr,aT _,rfl,i0,b3,d1,Tr.refl _ _,g⟩,?_⟩;intro i1 _ _ _ _ _ _ _ _ _ _ _ _ _ _ _ _ _ _ w';rintro ⟨j,b6,b0,b7,b8,a4,hj,rfl,c6,e4,e6,f0,g⟩;refine cd ?_;refine aJ (fun h0=>?_) (fun h0=>?_)
 ·have e0:j<ks.length:=by omega
  have f9:j<o.length:=by omega
  obtain ⟨c1,o1,a6,a1,E1,i3,rfl,h4,g3⟩:=d6.at_ e0;obtain ⟨c2,o2,a7,a2,E2,i4,rfl,h5,d4⟩:=d7.at_ f9;rw [ef e0,ef f9] at c6;obtain ⟨r1,b9,c3,h6,g4⟩:=c6.head;have c3:=c3 S _ _ sb mb b7 b0 b8 a4 g3 d4 e4 e6;refine ⟨fun D YH Za Ym Xi Ir Ij Fo DH DK Eh GH DL G1 w_=>Fx D 0 [G1=hV sb,DL=kh b1 3,GH=kt c1 o1 ks.length a6,Eh=ee j,DK=kh c1 (o1+j * 4),DH=.agg (bJ a1 (o1+j * 4) 4).toArray,Fo=kh b2 3,Ij=kt c2 o2 o.length a7,Ir=ee j,Xi=kh c2 (o2+j * 4),Ym=.agg (bJ a2 (o2+j * 4) 4).toArray,Za=.bool r1,YH=.bool (!r1)]/\(D 11=false->Inv w X ([ei b1 #[ee k,ee n,.string s,kt c1 o1 ks.length a6] ac,ei b2 #[ee k',ee n',.string s',kt c2 o2 o.length a7] ac]++dz sb mb b0 b7 b8 a4) S w_)/\(D 11=true->∃ U V Y Z,KnownM S U b9/\Z.length+unb b9<=1000000/\Tr b6 b9 a4 Z/\Inv w X ([ei b1 #[ee k,ee n,.string s,kt c1 o1 ks.length a6] ac,ei b2 #[ee k',ee n',.string s',kt c2 o2 o.length a7] ac]++dz sb mb U V Y Z) S w_)/\∃ B C G J,Inv w X ([ei b1 #[ee k,ee n,.string s,kt c1 o1 ks.length a6] ac,ei b2 #[ee k',ee n',.string s',kt c2 o2 o.length a7] ac]++dz sb mb B C G J) S w_,⟨Fx.nil _ _,⟨fun _=>g.draw,aU,b0,b7,b8,a4,g.draw⟩⟩,⟨?_,?_,?_,?_,?_,?_,?_,?_,?_,?_,?_,?_,?_,trivial⟩,?_⟩;all_goals (intro D bp;intros;rename_i YH Za Ym Xi Ir Ij Fo DH DK Eh GH DL G1 w_ d2;have l:=d2.1;obtain ⟨⟨cF,ci,cG,cD,bU,cH,cj,cR,dJ,dQ,cJ,dv,eG,_⟩,⟨M,O,B,C,G,J,g⟩⟩:=d2)
  ·exact ⟨l.set 0 rfl,⟨M,O,B,C,G,J,g⟩⟩
  ·refine ax az ?_;exact ⟨l.set 1 rfl,⟨M,O,B,C,G,J,g⟩⟩
  ·obtain rfl:=ci ‹_›;refine aG g 0 aw rfl rfl ?_;exact ⟨l.set 2 rfl,⟨M,O,B,C,G,J,g⟩⟩
  ·exact ⟨l.set 3 rfl,⟨M,O,B,C,G,J,g⟩⟩
  ·obtain rfl:=cG ‹_›;obtain rfl:=cD ‹_›;refine aN ao e0 ?_;exact ⟨l.set 4 rfl,⟨M,O,B,C,G,J,g⟩⟩
  ·obtain rfl:=bU ‹_›;refine eE af g3.length (fun j v hj=>by rw [g.cellS h4];exact bf rfl j v hj) ?_;exact ⟨l.set 5 rfl,⟨M,O,B,C,G,J,g⟩⟩
  ·refine ax az ?_;exact ⟨l.set 6 rfl,⟨M,O,B,C,G,J,g⟩⟩
  ·obtain rfl:=cj ‹_›;refine aG g 1 aw rfl rfl ?_;exact ⟨l.set 7 rfl,⟨M,O,B,C,G,J,g⟩⟩
  ·exact ⟨l.set 8 rfl,⟨M,O,B,C,G,J,g⟩⟩
  ·obtain rfl:=cR ‹_›;obtain rfl:=dJ ‹_›;refine aN ao f9 ?_;exact ⟨l.set 9 rfl,⟨M,O,B,C,G,J,g⟩⟩
  ·obtain rfl:=dQ ‹_›;refine eE af d4.length (fun j v hj=>by rw [g.cellS h5];exact bf rfl j v hj) ?_;exact ⟨l.set 10 rfl,⟨M,O,B,C,G,J,g⟩⟩
  ·obtain rfl:=cF ‹_›;obtain rfl:=cH ‹_›;obtain rfl:=cJ ‹_›;refine Run.callE (A:=[_,_]) i6 iY (M bp) c3 fun v' I' S' w_=>?_;rintro ⟨eS,rfl,U,V,Y,Z,rfl,b5,c7,d9⟩ _ g;rw [eS] at g;have M:=fun (h:aF D 11 11=false)=>(Bool.noConfusion h:Inv w X ([ei b1 #[ee k,ee n,.string s,kt c1 o1 ks.length a6] ac,ei b2 #[ee k',ee n',.string s',kt c2 o2 o.length a7] ac]++dz sb mb b0 b7 b8 a4) S w_)
   have O:=fun (_:aF D 11 11=true)=>(⟨U,V,Y,Z,b5,c7,d9,g⟩:∃ U V Y Z,KnownM S U b9/\Z.length+unb b9<=1000000/\Tr b6 b9 a4 Z/\Inv w X ([ei b1 #[ee k,ee n,.string s,kt c1 o1 ks.length a6] ac,ei b2 #[ee k',ee n',.string s',kt c2 o2 o.length a7] ac]++dz sb mb U V Y Z) S w_)
   obtain ⟨B,C,G,J,g⟩:∃ B C G J,Inv w X ([ei b1 #[ee k,ee n,.string s,kt c1 o1 ks.length a6] ac,ei b2 #[ee k',ee n',.string s',kt c2 o2 o.length a7] ac]++dz sb mb B C G J) S w_:=⟨U,V,Y,Z,g⟩
   exact ⟨l.set 11 rfl,⟨M,O,B,C,G,J,g⟩⟩
  ·obtain rfl:=dv ‹_›;refine c8 ?_;exact ⟨l.set 12 rfl,⟨M,O,B,C,G,J,g⟩⟩
  obtain ⟨rfl,rfl,rfl,rfl,rfl,rfl,rfl,rfl,rfl,rfl,rfl,rfl,rfl,_⟩:=l.all;have qb:D 11=true:=by assumption
  clear l cF ci cG cD bU cH cj cR dJ dQ cJ dv eG;obtain ⟨U,V,Y,Z,b5,c7,d9,g⟩:=O qb;clear M O;refine aL (fun g0=>?_) (fun g1=>?_)
  ·simp only [ry] at g0;obtain ⟨rfl,rfl⟩:=h6 g0;exact ⟨_,_,_,rfl,g.sub (fj [_,_] _),Ext.refl _ _ _,rfl,rfl,U,V,Y,Z,rfl,b5,c7,f0.trans d9⟩
  ·simp only [RT] at g1;refine bL (by omega) ?_;exact ⟨⟨j+1,b9,U,V,Y,Z,e0,rfl,g4 g1,b5,c7,f0.trans d9,g⟩,by simp [intOf];omega⟩
 ·have:j=ks.length:=by omega
  subst this;rw [eL,g9,eL] at c6;obtain ⟨rfl,rfl⟩:=c6.done;exact ⟨_,_,_,rfl,g.sub (fj [_,_] _),Ext.refl _ _ _,rfl,rfl,b0,b7,b8,a4,rfl,e4,e6,f0⟩
theorem oH {N:Nat} (m:N<=1000000) {st g:bb} {a b:T} {r:Bool} (h:Good N st) (i:okJ N (.one a b)) (o:Uni st (.one a b) r g):UI st a b r g:=
 Uni.calls (N:=N) (Call:=UI) (fun _ _ _ _ _ _ _ h i j l p=>KR m h i j l p) o h i
end
end
section
open Go Go.RowKit
def fsI (n:Int):List MapEntry->Nat->Option (Nat × Value)
 | [],_=>none
 | e::l,i=>match e.key with
  | .int .i64 m=>if n=m then some (i,e.val) else fsI n l (i+1)
  | _=>fsI n l (i+1)
theorem qm {n:Int}:∀ (l:List MapEntry) (i:Nat),(∀ e∈l,∃ m,e.key=ee m)->Instr.findNow (.int .i64) (ee n) l i=some (fsI n l i)
 | [],i,_=>rfl
 | e::l,i,h=>by
  obtain ⟨m,g⟩:=h e (bF ..);have j:Instr.sameNow (.int .i64) (ee n) e.key=some (n == m):=by rw [g];rfl
  have p:=qm (n:=n) l (i+1) fun e o=>h e (bI _ o);rw [fsI,g];by_cases a:n=m
  ·have q:(n == m)=true:=by simpa using a
   rw [Instr.findNow,j,q];simp only [ag a]
  ·have r:(n == m)=false:=by simpa using a
   rw [Instr.findNow,j,r];simp only [ae a];exact p
theorem TT (n:Int) (e:MapEntry):∀ (l:List MapEntry) (i:Nat),fsI n (l++[e]) i=match fsI n l i with
  | some x=>some x
  | none=>fsI n [e] (i+l.length)
 | [],i=>rfl
 | x::l,i=>by
  rw [dg,fsI,fsI];have a:=TT n e l (i+1);have g:i+1+l.length=i+(x::l).length:=by rw [aP];omega
  rw [g] at a;split
  ·split
   ·rfl
   ·exact a
  ·exact a
theorem Qw {n:Int} {j:Nat} {old v:Value}:∀ (l:List MapEntry) (i:Nat),fsI n l i=some (j,old)->
  i<=j/\(∃ x,l[j - i]?=some x/\x.key=ee n)/\∀ m,fsI m (l.modify (j - i) fun e=>{ e with key:=ee n,val:=v }) i=if m=n then some (j,v) else fsI m l i
 | [],i,h=>by cases h
 | x::l,i,h=>by
  rw [fsI] at h;have q:fsI n l (i+1)=some (j,old)->(∀ m,(∀ k,x.key=ee k->m=n->m≠k)->True)->(∀ k,x.key=ee k->n≠k)->i<=j/\(∃ y,(x::l)[j - i]?=some y/\y.key=ee n)/\∀ m,fsI m ((x::l).modify (j - i) fun e=>{ e with key:=ee n,val:=v }) i=if m=n then some (j,v) else fsI m (x::l) i:=fun h _ r=>by
   obtain ⟨G,⟨y,t,B⟩,C⟩:=Qw l (i+1) h;have e:j - i=(j - (i+1))+1:=by omega
   refine ⟨by omega,⟨y,by rw [e,mG];exact t,B⟩,fun m=>?_⟩;rw [e,List.modify_succ_cons,fsI,fsI,C m];split
   ·rename_i k hk
    by_cases a:m=n
    ·rw [ag a,ag a,ae (by rw [a];exact r k hk)]
    ·rw [ae a,ae a]
   ·rfl
  split at h
  ·rename_i k hk
   split at h
   ·rename_i g
    rw [bj,c9] at h;obtain ⟨rfl,rfl⟩:=h;refine ⟨aY _,⟨x,by rw [fB];rfl,by rw [hk,g]⟩,fun m=>?_⟩;rw [fB,List.modify_zero_cons,fsI,fsI,hk];simp only [g];by_cases a:m=k
    ·rw [ag a,ag a]
    ·rw [ae a,ae a,ae a]
   ·rename_i g
    exact q h (fun _ _=>trivial) fun D o=>by
     rw [hk,Value.int.injEq] at o;rw [<- o.2];exact g
  ·rename_i p
   exact q h (fun _ _=>trivial) fun k hk=>absurd hk (p k)
def SlT (S:ai) (es:Array MapEntry) (sl:Sl):Prop:=
 (∀ e∈es.toList,∃ m,e.key=ee m)/\∀ n,match sl n with
  | some t=>∃ j cs,fsI n es.toList 0=some (j,.agg (List.toArray cs))/\RdT S cs t
  | none=>fsI n es.toList 0=none
theorem SlT.get {S:ai} {a:Array MapEntry} {sl:Sl} (h:SlT S a sl) {n:Int} {t:T} (g:sl n=some t):∃ j cs,fsI n a.toList 0=some (j,.agg (List.toArray cs))/\RdT S cs t:=by
 have:=h.2 n;rw [g] at this;exact this
theorem SlT.no {S:ai} {a:Array MapEntry} {sl:Sl} (h:SlT S a sl) {n:Int} (g:sl n=none):fsI n a.toList 0=none:=by
 have:=h.2 n;rw [g] at this;exact this
theorem SlT.of {S:ai} {a:Array MapEntry} {sl:Sl} (h:∀ e∈a.toList,∃ m,e.key=ee m) (i:∀ n t,sl n=some t->∃ j cs,fsI n a.toList 0=some (j,.agg (List.toArray cs))/\RdT S cs t) (l:∀ n,sl n=none->fsI n a.toList 0=none):SlT S a sl:=by
 refine ⟨h,fun n=>?_⟩;cases g:sl n with
 | none=>exact l n g
 | some t=>exact i n t g
theorem SlT.up {S S':ai} {a:Array MapEntry} {sl:Sl} (h:SlT S a sl) (g:Sle S S'):SlT S' a sl:=
 .of h.1 (fun n t i=>by obtain ⟨j,cs,e,hR⟩:=h.get i;exact ⟨j,cs,e,hR.mono g⟩) fun n=>h.no
theorem SlT.empty (S:ai):SlT S #[] (fun _=>none):=.of (fun e a=>by simp at a) (fun _ _ h=>by cases h) fun _ _=>rfl
theorem SlT.look {S:ai} {g:Array MapEntry} {sl:Sl} (h:SlT S g sl) (n:Int):∃ (a:nA) (ok:Bool),((∃ j,Instr.findNow (.int .i64) (ee n) g.toList 0=some (some (j,.agg (List.toArray a)))/\ok=true) ∨ (Instr.findNow (.int .i64) (ee n) g.toList 0=some none/\(Value.agg (List.toArray a))=.agg et/\ok=false))/\a.length=4/\(∀ x∈a,x.oneCell'=true)/\ok=(sl n).isSome/\∀ t,sl n=some t->RdT S a t:=by
 rw [qm g.toList 0 h.1];cases i:sl n with
 | none=>exact ⟨[.int .i64 0,.int .i64 0,.string ⟨#[]⟩,.slice none 0 0],false,.inr ⟨by rw [h.no i],rfl,rfl⟩,rfl,by simp [Value.oneCell'],rfl,fun t e=>by cases e⟩
 | some t=>
  obtain ⟨j,cs,e,hR⟩:=h.get i;exact ⟨cs,true,.inl ⟨j,by rw [e],rfl⟩,hR.length,hR.one,rfl,fun u l=>by cases l;exact hR⟩
theorem SlT.push {S:ai} {i:Array MapEntry} {sl:Sl} (h:SlT S i sl) {n:Int} {cs:nA} {u:T} (hn:fsI n i.toList 0=none) (o:RdT S cs u) (l:Nat):SlT S (i.push { key:=ee n,val:=.agg cs.toArray,born:=l }) (upS sl n u):=by
 have hf:∀ m,fsI m (i.push { key:=ee n,val:=.agg cs.toArray,born:=l }).toList 0=if m=n then some (i.toList.length,.agg cs.toArray) else fsI m i.toList 0:=fun m=>by
  rw [Jv,TT];by_cases a:m=n
  ·rw [ag a,a,hn];simp only [fsI,ag trivial,cS]
  ·rw [ae a];cases j:fsI m i.toList 0 with
   | some x=>rfl
   | none=>simp only [fsI,ae a]
 refine .of (fun e j=>?_) (fun m t g=>?_) fun m g=>?_
 ·rw [Jv,cU,bM] at j;rcases j with j|rfl
  ·exact h.1 e j
  ·exact ⟨n,rfl⟩
 ·rw [hf];by_cases a:m=n
  ·rw [a,fb] at g;cases g;rw [ag a];exact ⟨_,cs,rfl,o⟩
  ·rw [ae a];rw [gj _ _ a] at g;exact h.get g
 ·rw [hf];by_cases a:m=n
  ·rw [a,fb] at g;cases g
  ·rw [ae a];rw [gj _ _ a] at g;exact h.no g
theorem SlT.set {S:ai} {i:Array MapEntry} {sl:Sl} (h:SlT S i sl) {n:Int} {cs:nA} {u:T} {j:Nat} {old:Value} (hn:fsI n i.toList 0=some (j,old)) (o:RdT S cs u):SlT S (i.modify j fun e=>{ e with key:=ee n,val:=.agg cs.toArray }) (upS sl n u):=by
 obtain ⟨_,⟨x,p,q⟩,hf⟩:=Qw (v:=.agg cs.toArray) i.toList 0 hn;rw [Je] at hf p;refine .of (fun e l=>?_) (fun m t a=>?_) fun m a=>?_
 ·rw [Array.toList_modify] at l;obtain ⟨k,hk,rfl⟩:=HE.1 l;rw [List.getElem_modify];split
  ·exact ⟨n,rfl⟩
  ·exact h.1 _ (cO _)
 ·rw [Array.toList_modify,hf];by_cases g:m=n
  ·rw [g,fb] at a;cases a;rw [ag g];exact ⟨_,cs,rfl,o⟩
  ·rw [ae g];rw [gj _ _ g] at a;exact h.get a
 ·rw [Array.toList_modify,hf];by_cases g:m=n
  ·rw [g,fb] at a;cases a
  ·rw [ae g];rw [gj _ _ g] at a;exact h.no a
section
variable {P:Program} {w w0:World} {X:List Nat} {L:List Item} {S:ai} {K:Value->World->Prop}
theorem mR (h:Inv w0 X L S w) {Tm r Z ty:TypeId} {b a:Nat} {g:Array MapEntry} {n:Int} {cs:nA} {sl:Sl} {u:T} (i:Nat) (O:P.underlying Tm=some (.map r Z)) (m:P.underlying r=some (.int .i64))
  (t:L[i]?=some (.blk b (.map g a))) (B:SlT S g sl) (U:RdT S cs u)
  (hk:∀ w' q N,SlT S q (upS sl n u)->Inv w0 X (L.set i (.blk b (.map q N))) S w'->K undef w') :
  Run P (sOp (.mapUpdate Tm (.const (.map (some b))) (.const (ee n)) (.const (.agg cs.toArray))) ty) w K:=by
 have Y:w.heap[b]?=some (.map g a):=h.its _ (f0 t);have l:=qm (n:=n) g.toList 0 B.1;cases hf:fsI n g.toList 0 with
 | none=>
  rw [hf] at l;exact pA h i O m t l fun w' hI=>hk w' _ _ (B.push hf U a) hI
 | some p=>
  obtain ⟨j,old⟩:=p;rw [hf] at l;obtain ⟨_,⟨x,V,C⟩,_⟩:=Qw (v:=old) g.toList 0 hf;rw [Je] at V;have D:g[j]?=some x:=by simpa using V
  have G:∀ e,(Instr.checkKey e 10000 r (ee n)).run P w=.ok () w:=fun e=>by
   rw [show (10000:Nat)=9999+1 from rfl,Instr.checkKey];simp [run_underlying m]
  have hg:(getObj b).run P w=.ok (.map g a) w:=by simp [getObj,Sem.run,Y]
  have J:=i0 (P:=P) (w:=w) m l;have o:(Instr.keyThatStays (ee n) (ee n)).run P w=.ok (ee n) w:=by
   have:Instr.sameBits 10000 (ee n) (ee n)=true:=by simp [Instr.sameBits]
   simp [Instr.keyThatStays,this]
  refine Run.ofSkip (w':={ w with heap:=w.heap.setIfInBounds b (.map (g.modify j fun e=>{ e with key:=ee n,val:=.agg cs.toArray }) a) }) ?_ (hk _ _ _ (B.set hf U) (h.setBlk t _ rfl));have M:(setObj b (.map (g.modify j fun e=>{ e with key:=ee n,val:=.agg cs.toArray }) a)).run P w=.ok () { w with heap:=w.heap.setIfInBounds b (.map (g.modify j fun e=>{ e with key:=ee n,val:=.agg cs.toArray }) a) }:=by simp [setObj,Sem.run,Y]
  simp [sOp,execOp,ev0,evE,Instr.mapUpdate,run_underlying O,hg,G,J,D,C,o,M]
end
end
section
open Go Go.RowKit
theorem DP (S:ai) (n:Nat) (h:n<=1000000000):RdT S [ee 1,ee (n:Int),.string ⟨#[]⟩,nx] (dx n):=
 RdT.iff.2 ⟨_,rfl,by simp [inI,T.kind,dx],by simp only [inI,T.n,dx];omega,by rw [dx,T.name];decide +kernel,⟨none,0,rfl,aY _,aT _,.inl rfl⟩⟩
theorem qn (S:ai) (n:Int) (h:inI n):RdT S [ee 2,ee n,.string ⟨#[]⟩,nx] (eH n):=
 RdT.iff.2 ⟨_,rfl,by simp [inI,T.kind,eH],h,by rw [eH,T.name];decide +kernel,⟨none,0,rfl,aY _,aT _,.inl rfl⟩⟩
def okI (x:Ist):Prop:=inI x.a/\x.name.size<=maxLen
def nvS (w:World) (X:List Nat) (S:ai) (rb lb:Nat) (p r:Value) (fr ckL:Nat) (esL:Array MapEntry) (sl:Sl) (n:Int) (R:List Item) (w':World):Nat->Prop
 | 0=>Inv w X (.blk rb (.cells #[p,.map (some lb),r,.int .i64 (fr:Int)] av)::.blk lb (.map esL ckL)::R) S w'
 | 1=>Inv w X (.blk rb (.cells #[p,.map (some lb),r,.int .i64 ((fr+1:Nat):Int)] av)::.blk lb (.map esL ckL)::R) S w'
 | _=>∃ es' ck',SlT S es' (upS sl n (dx fr))/\Inv w X (.blk rb (.cells #[p,.map (some lb),r,.int .i64 ((fr+1:Nat):Int)] av)::.blk lb (.map es' ck')::R) S w'
theorem nvS.any {w:World} {X:List Nat} {S:ai} {j a:Nat} {p r:Value} {fr g:Nat} {i:Array MapEntry} {sl:Sl} {n:Int} {R:List Item} {w':World}:∀ {k:Nat},nvS w X S j a p r fr g i sl n R w' k->∃ f l m,Inv w X (ei j #[p,.map (some a),r,ee f] av::.blk a (.map l m)::R) S w'
 | 0,h=>⟨_,_,_,h⟩
 | 1,h=>⟨_,_,_,h⟩
 | _+2,⟨_,_,_,h⟩=>⟨_,_,_,h⟩
def rwS (w:World) (X:List Nat) (S:ai) (H:List Item) (lv:Value) (css:List (List Value)) (R:List Item) (cs:List Value) (x y:Value) (w':World):Nat->Prop
 | 0=>Inv w X (H++aB lv ac 4 css::R) S w'
 | 1=>∃ g,x=.slice (some ⟨g,0,none⟩) 1 1/\Inv w X ((H++aB lv ac 4 css::R)++[.blk g (.cells cs.toArray ac)]) S w'
 | _=>Inv w X (H++aB y ac 4 (css++[cs])::R) S w'
theorem rwS.any {w:World} {X:List Nat} {S:ai} {H:List Item} {g:Value} {css:List (nA)} {R:List Item} {cs:nA} {x y:Value} {w':World}:∀ {k:Nat},rwS w X S H g css R cs x y w' k->∃ v a R',Inv w X (H++aB v ac 4 a::(R++R')) S w'
 | 0,h=>⟨g,css,[],by rw [dk];exact h⟩
 | 1,⟨_,_,h⟩=>⟨g,css,_,by rw [cN] at h;exact h⟩
 | _+2,h=>⟨y,_,[],by rw [dk];exact h⟩
def alS (w:World) (X:List Nat) (S:ai) (L:List Item) (cs:List Value) (x:Value) (w':World):Nat->Prop
 | 0=>Inv w X L S w'
 | 1=>∃ b,x=.pointer (some ⟨b,0,none⟩)/\Inv w X (.blk b (.cells #[.int .i64 0,.int .i64 0,.string ⟨#[]⟩,.slice none 0 0] ac)::L) S w'
 | _=>∃ b,x=.pointer (some ⟨b,0,none⟩)/\Inv w X (.blk b (.cells cs.toArray ac)::L) S w'
theorem alS.any {w:World} {X:List Nat} {S:ai} {L:List Item} {cs:nA} {x:Value} {w':World}:∀ {k:Nat},alS w X S L cs x w' k->Inv w X L S w'
 | 0,h=>h
 | 1,⟨_,_,h⟩=>h.sub (jd _ _)
 | _+2,⟨_,_,h⟩=>h.sub (jd _ _)
section
variable {w w0:World} {X:List Nat} {L R:List Item} {S:ai} {K:Value->World->Prop}
theorem KZ {g fr:Nat} {p q r:Value} (h:fr<=1000000000):nB nE [hV g] [ei g #[p,q,r,ee (fr:Int)] av] S fun v I' S'=>S'=S/\v=.agg #[ee 1,ee (fr:Int),.string ⟨#[]⟩,nx]/\I'=[ei g #[p,q,r,ee ((fr+1:Nat):Int)] av]:=by
 intro w a;obtain ⟨X,i⟩:∃ X,X=cg [Item.blk g (.cells #[p,q,r,ee (fr:Int)] av)]:=⟨_,rfl⟩
 rw [<- i] at a ⊢;refine mi.2 ?_;dsimp only[mi,bd];refine aE a aQ fun j w' a=>?_;refine bh ?_;refine ah a 0 rfl oC au rfl ?_;refine bL (by omega) ?_;refine bh ?_;refine cq a 0 rfl oC au rfl rfl rfl fun w' a=>?_;refine bh ?_;refine ah a 0 rfl oC au rfl ?_;refine jl (by omega) ?_;rw [show (fr:Int)+1 - 1=(fr:Int) by omega];refine Run.callPure uH u4 a (s5 _ S) fun w' a=>?_;refine aj a 1 rfl af rfl rfl (by simp [Value.oneCell']) fun w' a=>?_;refine be a 1 af rfl rfl ?_;have a:Inv w X [ei g #[p,q,r,ee ((fr+1:Nat):Int)] av] S w':=by
  have a:=a.pick [true,false];rw [Int.natCast_add];exact a
 exact ⟨_,_,S,rfl,a,Ext.refl _ _ _,rfl,rfl,rfl⟩
theorem FF {g fr:Nat} {p q r:Value} (a:Inv w0 X (ei g #[p,q,r,ee (fr:Int)] av::R) S w) (h:fr<=1000000000)
  (hk:∀ w',Inv w0 X (ei g #[p,q,r,ee ((fr+1:Nat):Int)] av::R) S w'->K (.agg #[ee 1,ee (fr:Int),.string ⟨#[]⟩,nx]) w') :
  Run Tryz.prog (gn (.func (.func nE) #[] #[]) [hV g]) w K:=by
 have a:=a.perm (M:=R++[ei g #[p,q,r,ee (fr:Int)] av]) (bD (l₂:=[_]));refine Run.call uv un a (KZ h) fun v' I' S' w'=>?_;rintro ⟨i,rfl,rfl⟩ _ a;rw [i] at a;exact hk w' (a.perm (bD (l₁:=[_])))
theorem qA (n:Int) (S:ai):ru OT [ee n] S (.agg #[ee 2,ee n,.string ⟨#[]⟩,nx]):=by
 intro w a;refine Bt.2 ?_;dsimp only[Bt,bd];refine aE a aQ fun g w' a=>?_;refine sq ?_;refine aj a 0 rfl af rfl rfl (by simp [Value.oneCell']) fun w' a=>?_;refine be a 0 af rfl rfl ?_;exact done a rfl
end
end
section
open Go Go.RowKit
def VC (rb lb:Nat) (p r:Value) (o:Option (RI × List T)):Value->List Item->ai->Prop:=fun q I' S'=>∃ (fr':Nat) (es':Array MapEntry) (ck':Nat),I'=[ei rb #[p,.map (some lb),r,ee (fr':Int)] av,.blk lb (.map es' ck')]/\match o with
 | none=>q=.tuple #[.slice none 0 0,.bool false]/\∃ sl',SlT S' es' sl'
 | some (s',us)=>fr'=s'.fr/\SlT S' es' s'.sl/\∃ u,q=.tuple #[u,.bool true]/\RdSl S' 4 (RdT S') u us
theorem FV {A B:Type} (o:Option (A × List B)) (out:List B) (t:B):((o.map fun q=>(q.1,t::q.2)).map fun q=>(q.1,out++q.2))=o.map fun q=>(q.1,(out++[t])++q.2):=by
 cases o with
 | none=>rfl
 | some q=>simp
section
variable {S:ai}
set_option maxHeartbeats 1000000 in
theorem xx {V O b2:Nat} {p r v:Value} {a7:Array MapEntry} {s:RI} {xs:List Ist} (h:RdSl S 4 (cZ S) v xs) (hm:SlT S a7 s.sl) (e0:s.fr+xs.length<=1000000000) (c5:∀ x∈xs,okI x) :
  nB rI [hV V,v] [ei V #[p,.map (some O),r,ee (s.fr:Int)] av,.blk O (.map a7 b2)] S (VC V O p r (im s xs)):=by
 intro w l;obtain ⟨X,hX⟩:∃ X,X=cg [Item.blk V (.cells #[p,.map (some O),r,ee (s.fr:Int)] av),.blk O (.map a7 b2)]:=⟨_,rfl⟩
 rw [<- hX] at l ⊢;have b9:=h.le;simp only [maxLen] at b9;refine j4.2 ?_;dsimp only[j4,bv];refine aO h bx ?_;have l:=l.rowNil ac 4;refine ⟨fun i lv w'=>∃ (j:Nat) (U:RI) (out:List T) (css:List (nA)) (Y:Array MapEntry) (ck:Nat),j<=xs.length/\i=ee j/\im s xs=(im U (xs.drop j)).map (fun q=>(q.1,out++q.2))/\SlT S Y U.sl/\U.fr<=s.fr+j/\out.length=j/\Rows 4 (RdT S) css out/\
   Inv w X [ei V #[p,.map (some O),r,ee (U.fr:Int)] av,.blk O (.map Y ck),aB lv ac 4 css] S w',fun i _ _=>xs.length - (intOf i).toNat,
   ⟨0,s,[],[],a7,b2,aT _,rfl,by rw [fe];simp,hm,by omega,rfl,Rows.nil _ _,l⟩,?_⟩
 intro i _ _ _ _ _ _ _ _ _ _ _ _ _ _ _ _ _ e1 t9 e2 e3 e4 e5 e6 e7 e9 f0 f1 f2 _ _ lv f3 f4 f6 f7 f8 f9 g0 g1 g2 g3 g4 g5 g6 g7 g8 g9 h0 h1 _ _ _ _ _ _ _ _ w';rintro ⟨j,U,out,css,Y,ck,hj,rfl,hD,hm,h2,c6,hR,l⟩;have h7:=hR.hc;refine cd ?_;refine aJ (fun c7=>?_) (fun c7=>?_)
 ·have b0:j<xs.length:=by omega
  obtain ⟨x,hx⟩:∃ x,x=xs[j]:=⟨_,rfl⟩
  have c1:okI x:=by rw [hx];exact c5 _ (cO b0)
  rw [ef b0,<- hx,im] at hD;refine ⟨fun lv w'=>∃ (sn:RI) (t:T) (css:List (nA)) (Y:Array MapEntry) (ck:Nat),im s xs=(im sn (xs.drop (j+1))).map (fun q=>(q.1,(out++[t])++q.2))/\SlT S Y sn.sl/\sn.fr<=U.fr+1/\Rows 4 (RdT S) css (out++[t])/\
   Inv w X [ei V #[p,.map (some O),r,ee (sn.fr:Int)] av,.blk O (.map Y ck),aB lv ac 4 css] S w',?_,?_⟩
  ·refine dj l h bx dF b0 (fun cs x h=>UY S cs x h) fun ds b5=>?_;rw [<- hx] at b5;obtain rfl:ds=x.cells:=b5;refine aE l tO fun b8 w' l=>?_;refine aj l 3 rfl dF rfl rfl (by simpa using x.one) fun w' l=>?_;obtain ⟨B8,b6⟩:∃ B8,B8=Item.blk b8 (.cells #[ee x.op,ee x.a,ee x.b,.string x.name] ay):=⟨_,rfl⟩
   have e8:=congrArg some b6;have l:Inv w X [ei V #[p,.map (some O),r,ee (U.fr:Int)] av,.blk O (.map Y ck),aB lv ac 4 css,B8] S w':=by rw [b6];exact l
   refine ah l 3 e8 ew au rfl ?_;refine a9 ?_;refine aJ (fun h4=>?_) (fun h4=>?_)
   ·rw [ag h4,FV] at hD;refine ⟨fun D lW BJ rP ja oO rj pr oM Z=>Fx D 0 [oM=hV V,pr=hV V,rj=kh V 1,oO=.map (some O),ja=kh b8 1,rP=ee x.a,BJ=hV V,True,True]/\∃ N:Nat,N<=2/\D 7=decide (1<=N)/\D 8=decide (2<=N)/\(nvS w X S V O p r U.fr ck Y U.sl x.a [aB lv ac 4 css,B8] Z N/\(D 7=true->lW=.agg #[ee 1,ee (U.fr:Int),.string ⟨#[]⟩,nx])),⟨Fx.nil _ _,⟨0,aT _,rfl,rfl,⟨l.draw,aU⟩⟩⟩,⟨?_,?_,?_,?_,?_,?_,?_,?_,?_,trivial⟩,?_⟩;all_goals (intro D bp;intros;rename_i lW BJ rP ja oO rj pr oM Z a0;have G:=a0.1;obtain ⟨⟨cF,ci,cG,cD,bU,cH,cj,cR,dJ,_⟩,⟨N,J,B,C,M⟩⟩:=a0)
    ·exact ⟨G.set 0 rfl,⟨N,J,B,C,M⟩⟩
    ·obtain rfl:=cF ‹_›;refine bh ?_;exact ⟨G.set 1 rfl,⟨N,J,B,C,M⟩⟩
    ·obtain rfl:=ci ‹_›;refine ax eM ?_;exact ⟨G.set 2 rfl,⟨N,J,B,C,M⟩⟩
    ·obtain rfl:=cG ‹_›;obtain ⟨f5,d3,d4,l⟩:=M.1.any;refine aG l 0 dp rfl rfl ?_;exact ⟨G.set 3 rfl,⟨N,J,B,C,M⟩⟩
    ·refine ax bZ ?_;exact ⟨G.set 4 rfl,⟨N,J,B,C,M⟩⟩
    ·obtain rfl:=bU ‹_›;obtain ⟨f5,d3,d4,l⟩:=M.1.any;refine aG l 3 au e8 rfl ?_;exact ⟨G.set 5 rfl,⟨N,J,B,C,M⟩⟩
    ·exact ⟨G.set 6 rfl,⟨N,J,B,C,M⟩⟩
    ·obtain rfl:=cj ‹_›;obtain rfl:N=0:=jv B bp;refine FF M.1 (by omega) fun Z l=>?_;have a5:nvS w X S V O p r U.fr ck Y U.sl x.a [aB lv ac 4 css,B8] Z 1:=l;exact ⟨G.set 7 (by first|assumption|trivial),⟨1,by decide,rfl,(by first|exact C|rfl),⟨a5,fun _=>rfl⟩⟩⟩
    ·obtain rfl:=cD ‹_›;obtain rfl:=cH ‹_›;have Ch:=cR ‹_›;obtain rfl:N=1:=gg B ‹D 7=true› C bp;obtain rfl:=M.2 ‹D 7=true›;have l:Inv w X (ei V #[p,.map (some O),r,ee ((U.fr+1:Nat):Int)] av::.blk O (.map Y ck)::[aB lv ac 4 css,B8]) S Z:=M.1;refine mR (cs:=[ee 1,ee (U.fr:Int),.string ⟨#[]⟩,nx]) l 1 cX dS rfl hm (DP S U.fr (by omega)) fun Z c9 d0 d1 l=>?_;have a5:nvS w X S V O p r U.fr ck Y U.sl x.a [aB lv ac 4 css,B8] Z 2:=⟨c9,d0,d1,l⟩
     exact ⟨G.set 8 trivial,⟨2,by decide,(by first|exact B|rfl),rfl,⟨a5,M.2⟩⟩⟩
    obtain rfl:N=2:=jD J C ‹D 8=true›;clear B C;obtain ⟨a1,a2,b7,l⟩:=M.1;obtain ⟨vv,ok,a4,a3,a8,hk,a6⟩:=b7.look x.a;have b4:=a6 _ (fb U.sl x.a (dx U.fr));have l:Inv w X ([ei V #[p,.map (some O),r,ee ((U.fr+1:Nat):Int)] av,.blk O (.map a1 a2)]++aB lv ac 4 css::[B8]) S Z:=l;refine ⟨fun D x6 qg uh oN uq xG CJ zb uQ sM wz Z=>Fx D 0 [wz=lv,sM=hV V,uQ=hV V,zb=kh V 1,CJ=.map (some O),xG=kh b8 1,uq=ee x.a,oN=.agg vv.toArray,True,True,True]/\∃ N:Nat,N<=2/\D 8=decide (1<=N)/\D 9=decide (2<=N)/\(rwS w X S [ei V #[p,.map (some O),r,ee ((U.fr+1:Nat):Int)] av,.blk O (.map a1 a2)] lv css [B8] vv uh qg Z N/\(D 10=true->D 0=true/\D 9=true/\x6=qg)/\(D 10=false->x6=lv)),⟨Fx.nil _ _,⟨0,aT _,rfl,rfl,⟨l.draw,aU,fun _=>rfl⟩⟩⟩,⟨?_,?_,?_,?_,?_,?_,?_,?_,?_,?_,?_,trivial⟩,?_⟩;all_goals (intro D bp;intros;rename_i x6 qg uh oN uq xG CJ zb uQ sM wz Z a0;have G:=a0.1;obtain ⟨⟨cF,ci,cG,cD,bU,cH,cj,cR,dJ,dQ,cJ,_⟩,⟨N,J,B,C,M⟩⟩:=a0)
    ·have c2:D 10=false:=bA.2 fun h=>by rw [(M.2.1 h).1] at bp;cases bp
     have q6:=M.2.2 c2;have M:=And.intro M.1 (And.intro (fun (h:aF D 0 10=true)=>(⟨rfl,(M.2.1 h).2⟩:aF D 0 0=true/\aF D 0 9=true/\x6=qg)) M.2.2);exact ⟨G.set 0 (by first|assumption|trivial),⟨N,J,B,C,M⟩⟩
    ·exact ⟨G.set 1 rfl,⟨N,J,B,C,M⟩⟩
    ·obtain rfl:=ci ‹_›;refine bh ?_;exact ⟨G.set 2 rfl,⟨N,J,B,C,M⟩⟩
    ·obtain rfl:=cG ‹_›;refine ax eM ?_;exact ⟨G.set 3 rfl,⟨N,J,B,C,M⟩⟩
    ·obtain rfl:=cD ‹_›;obtain ⟨v5,b1,R5,l⟩:=M.1.any;refine aG l 0 dp rfl rfl ?_;exact ⟨G.set 4 rfl,⟨N,J,B,C,M⟩⟩
    ·refine ax bZ ?_;exact ⟨G.set 5 rfl,⟨N,J,B,C,M⟩⟩
    ·obtain rfl:=cH ‹_›;obtain ⟨v5,b1,R5,l⟩:=M.1.any;refine aG l 3 au e8 rfl ?_;exact ⟨G.set 6 rfl,⟨N,J,B,C,M⟩⟩
    ·obtain rfl:=bU ‹_›;obtain rfl:=cj ‹_›;obtain ⟨v5,b1,R5,l⟩:=M.1.any;refine fA (c:=false) (ok:=ok) (v:=.agg vv.toArray) (l.its (.blk O (.map a1 a2)) (by simp)) cX dS aQ a4 ?_;exact ⟨G.set 7 rfl,⟨N,J,B,C,M⟩⟩
    ·obtain rfl:=cR ‹_›;obtain rfl:N=0:=jv B bp;refine eO M.1 bi (by simpa [Value.cells] using a3) (by omega) (by omega) fun g Z l=>?_;have a5:rwS w X S [ei V #[p,.map (some O),r,ee ((U.fr+1:Nat):Int)] av,.blk O (.map a1 a2)] lv css [B8] vv (kt g 0 1 1) qg Z 1:=⟨g,rfl,l⟩
     exact ⟨G.set 8 (by first|assumption|trivial),⟨1,by decide,rfl,(by first|exact C|rfl),⟨a5,M.2⟩⟩⟩
    ·have Tn:=cF ‹_›;have z4:=dJ ‹_›;obtain rfl:N=1:=gg B ‹D 8=true› C bp;obtain ⟨g,rfl,l⟩:=M.1;refine fl l 2 (k:=4) (o:=0) (m:=1) (n:=css.length) (xs:=css.flatten) vv bi (by omega) (by rw [Tn];rfl) (by rw [a3]) (fun j u hj=>by rw [l.cellL (i:=4) rfl,cS];simpa using hj) a8 (by omega) (by omega) fun v' Z l=>?_;have e:Item.row v' ac 4 (css.length+1) (css.flatten++vv)=aB v' ac 4 (css++[vv]):=fO ..;have l:Inv w X [ei V #[p,.map (some O),r,ee ((U.fr+1:Nat):Int)] av,.blk O (.map a1 a2),Item.row v' ac 4 (css.length+1) (css.flatten++vv),B8] S Z:=l.pick [true,true,true,true,false];rw [e] at l;have a5:rwS w X S [ei V #[p,.map (some O),r,ee ((U.fr+1:Nat):Int)] av,.blk O (.map a1 a2)] lv css [B8] vv (kt g 0 1 1) v' Z 2:=l;exact ⟨G.set 9 (by first|assumption|trivial),⟨2,by decide,(by first|exact B|rfl),rfl,⟨a5,fun h=>absurd (M.2.1 h).2.1 (by rw [bp];decide),M.2.2⟩⟩⟩
    ·have Ds:=dQ ‹_›;have M:=And.intro M.1 (And.intro (fun (_:aF D 10 10=true)=>(⟨‹D 0=true›,‹D 9=true›,rfl⟩:aF D 10 0=true/\aF D 10 9=true/\qg=qg)) (fun (h:aF D 10 10=false)=>(Bool.noConfusion h:qg=lv)));exact ⟨G.set 10 (by first|assumption|trivial),⟨N,J,B,C,M⟩⟩
    obtain rfl:N=2:=jD J C ‹D 9=true›;have C3:D 10=true:=by assumption
    clear B C;have d7:=(M.2.1 C3).2.2;subst d7;have l:Inv w X [ei V #[p,.map (some O),r,ee ((U.fr+1:Nat):Int)] av,.blk O (.map a1 a2),aB x6 ac 4 (css++[vv]),B8] S Z:=M.1;exact ⟨_,dx U.fr,_,a1,a2,hD,b7,aY _,hR.snoc b4 a3,l.pick [true,true,true,false]⟩
   rw [ae h4] at hD;refine a9 ?_;refine aJ (fun h5=>?_) (fun h5=>?_)
   ·rw [ag h5] at hD;obtain ⟨vv,ok,a4,a3,a8,hk,a6⟩:=hm.look x.a;refine ⟨fun D ux x9 pN pq nH oV nL ov ny m8 kI mx Z=>Fx D 0 [mx=hV V,kI=hV V,m8=kh V 1,ny=.map (some O),ov=kh b8 1,nL=ee x.a,oV=.tuple #[.agg vv.toArray,.bool ok],nH=.tuple #[.agg vv.toArray,.bool ok],pq=.agg vv.toArray,pN=.bool ok,True,True,ux=.bool ok]/\∃ N:Nat,N<=2/\D 10=decide (1<=N)/\D 11=decide (2<=N)/\(alS w X S [ei V #[p,.map (some O),r,ee (U.fr:Int)] av,.blk O (.map Y ck),aB lv ac 4 css,B8] vv x9 Z N),⟨Fx.nil _ _,⟨0,aT _,rfl,rfl,l.draw⟩⟩,⟨?_,?_,?_,?_,?_,?_,?_,?_,?_,?_,?_,?_,?_,trivial⟩,?_⟩;all_goals (intro D bp;intros;rename_i ux x9 pN pq nH oV nL ov ny m8 kI mx Z a0;have G:=a0.1;obtain ⟨⟨cF,ci,cG,cD,bU,cH,cj,cR,dJ,dQ,cJ,dv,eG,_⟩,⟨N,J,B,C,M⟩⟩:=a0)
    ·exact ⟨G.set 0 rfl,⟨N,J,B,C,M⟩⟩
    ·obtain rfl:=cF ‹_›;refine bh ?_;exact ⟨G.set 1 rfl,⟨N,J,B,C,M⟩⟩
    ·obtain rfl:=ci ‹_›;refine ax eM ?_;exact ⟨G.set 2 rfl,⟨N,J,B,C,M⟩⟩
    ·obtain rfl:=cG ‹_›;have l:=M.any;refine aG l 0 dp rfl rfl ?_;exact ⟨G.set 3 rfl,⟨N,J,B,C,M⟩⟩
    ·refine ax bZ ?_;exact ⟨G.set 4 rfl,⟨N,J,B,C,M⟩⟩
    ·obtain rfl:=bU ‹_›;have l:=M.any;refine aG l 3 au e8 rfl ?_;exact ⟨G.set 5 rfl,⟨N,J,B,C,M⟩⟩
    ·obtain rfl:=cD ‹_›;obtain rfl:=cH ‹_›;have l:=M.any;refine fA (c:=true) (ok:=ok) (v:=.agg vv.toArray) (l.its (.blk O (.map Y ck)) (by simp)) cX dS aQ a4 ?_;exact ⟨G.set 6 rfl,⟨N,J,B,C,M⟩⟩
    ·obtain rfl:=cj ‹_›;exact ⟨G.set 7 rfl,⟨N,J,B,C,M⟩⟩
    ·obtain rfl:=cR ‹_›;refine aA rfl ?_;exact ⟨G.set 8 rfl,⟨N,J,B,C,M⟩⟩
    ·obtain rfl:=cR ‹_›;refine aA rfl ?_;exact ⟨G.set 9 rfl,⟨N,J,B,C,M⟩⟩
    ·obtain rfl:N=0:=jv B bp;refine aE M aQ fun b Z l=>?_;have M:alS w X S [ei V #[p,.map (some O),r,ee (U.fr:Int)] av,.blk O (.map Y ck),aB lv ac 4 css,B8] vv (hV b) Z 1:=⟨b,rfl,l.perm (bD (l₁:=[_]))⟩
     exact ⟨G.set 10 (by first|assumption|trivial),⟨1,by decide,rfl,(by first|exact C|rfl),M⟩⟩
    ·have xg:=cJ ‹_›;obtain rfl:=dJ ‹_›;obtain rfl:N=1:=gg B ‹D 10=true› C bp;obtain ⟨b,rfl,l⟩:=M;refine aj l 0 rfl af (by simpa using a3) rfl (by simpa using a8) fun Z l=>?_;have M:alS w X S [ei V #[p,.map (some O),r,ee (U.fr:Int)] av,.blk O (.map Y ck),aB lv ac 4 css,B8] vv (hV b) Z 2:=⟨b,rfl,l⟩
     exact ⟨G.set 11 trivial,⟨2,by decide,(by first|exact B|rfl),rfl,M⟩⟩
    ·obtain rfl:=dQ ‹_›;exact ⟨G.set 12 rfl,⟨N,J,B,C,M⟩⟩
    obtain rfl:N=2:=jD J C ‹D 11=true›;have r4:D 12=true:=by assumption
    clear B C;obtain ⟨b,rfl,l⟩:=M;obtain rfl:=eG r4;refine c8 ?_;refine aL (fun hb=>?_) (fun hb=>?_)
    ·have c3:ok=false:=by simpa using hb
     rw [c3] at hk;have hn:U.sl x.a=none:=by
      cases h:U.sl x.a with
      | none=>rfl
      | some t=>rw [h] at hk;cases hk
     rw [hn] at hD;have l:Inv w X [ei V #[p,.map (some O),r,ee (U.fr:Int)] av,.blk O (.map Y ck)] S Z:=l.pick [false,true,true,false,false];exact ⟨_,_,S,rfl,l,Ext.refl _ _ _,U.fr,Y,ck,rfl,by rw [hD];exact ⟨rfl,_,hm⟩⟩
    ·have c4:ok=true:=by simpa using hb
     rw [c4] at hk;obtain ⟨t,ht⟩:=Gy.1 hk.symm;have b4:=a6 t ht;rw [ht] at hD;have hD:im s xs=((im U (xs.drop (j+1))).map fun q=>(q.1,t::q.2)).map (fun q=>(q.1,out++q.2)):=hD;rw [FV] at hD;refine aq l 0 af rfl (by simpa using a3) ?_;refine dB (css:=css) l 3 vv bi (by omega) (by omega) rfl a3 a8 (by omega) (by omega) fun d2 w' l=>?_;exact ⟨U,t,css++[vv],Y,ck,hD,hm,by omega,hR.snoc b4 a3,l.pick [false,true,true,true,false,false]⟩
   rw [ae h5] at hD;refine a9 ?_;refine aJ (fun h6=>?_) (fun h6=>?_)
   ·rw [ag h6,FV] at hD;refine ah l 3 e8 bZ au rfl ?_;refine Run.callPure sL tC l (qA _ S) fun w' l=>?_;refine dB (css:=css) l 2 [ee 2,ee x.a,.string ⟨#[]⟩,nx] bi (by omega) (by omega) rfl rfl (qn S x.a c1.1).one (by omega) (by omega) fun d2 w' l=>?_;exact ⟨U,eH x.a,_,Y,ck,hD,hm,by omega,hR.snoc (qn S x.a c1.1) rfl,l.pick [true,true,true,false,false]⟩
   ·rw [ae h6] at hD;have l:Inv w X [ei V #[p,.map (some O),r,ee (U.fr:Int)] av,.blk O (.map Y ck)] S w':=l.pick [true,true,false,false];exact ⟨_,_,S,rfl,l,Ext.refl _ _ _,U.fr,Y,ck,rfl,by rw [hD];exact ⟨rfl,_,hm⟩⟩
  intro _ _ _ _ _ _ _ _ _ _ _ _ _ _ _ _ _ _ _ _ _ _ _ _ _ _ _ _ _ _ lv _ _ _ _ _ _ _ _ _ _ _ _ _ _ _ _ _ _ _ _ _ _ _ _ _ w';rintro ⟨sn,t,css,Y,ck,hD,hm,h3,hR,l⟩;refine bL (by omega) ?_;exact ⟨⟨j+1,sn,out++[t],css,Y,ck,b0,rfl,hD,hm,by omega,by rw [bt,c6];rfl,hR,l⟩,by simp [intOf];omega⟩
 have d9:j=xs.length:=by omega
 subst d9;rw [eL,im] at hD;have hD:im s xs=some (U,out):=by rw [hD];simp
 have l:Inv w X ([ei V #[p,.map (some O),r,ee (U.fr:Int)] av,.blk O (.map Y ck)]++[aB lv ac 4 css]) S w':=l;obtain ⟨S3,b3,d6,l⟩:=l.lendExt;refine ⟨_,_,S3,rfl,l,b3,U.fr,Y,ck,rfl,?_⟩;rw [hD];exact ⟨rfl,hm.up b3.1,lv,rfl,RowRd.rows (hR.monoR fun _ _ h=>h.mono b3.1) d6⟩
end
end
section
open Go Go.RowKit
theorem KnownM.up {S S':ai} {a:Array MapEntry} {st:bb} (h:KnownM S a st) (g:Sle S S'):KnownM S' a st:=
 ⟨fun e i=>by
  obtain ⟨n,t,cs,j,l,m,o⟩:=h.1 e i;exact ⟨n,t,cs,j,l,m.mono g,o⟩,h.2⟩
theorem StS.up {S S':ai} {g:Nat} {st:bb} (h:StS S S g st) (a:Sle S S'):StS S' S' g st:=by
 obtain ⟨i,j,l,m,E,o,p,q⟩:=h;exact ⟨i,j,l,m,E,a _ _ o,a _ _ p,q.up a⟩
def okR (u:T) (deep count:Int):Bool:=decide (count+bR u<=120) && nc u (31 - deep)
def RC (st:bb) (sb:Nat) (t u:T):Prop:=∀ (S:ai) (cs:List Value) (cb:Nat) (deep count:Int),RdT S cs t->StS S S sb st->1<=deep->deep<=1000000->0<=count->count<=1000000->
 Tri Tryz.prog um [hV sb,.agg cs.toArray,ee deep,hV cb] [ei cb #[ee count] bV] S fun q I' S'=>
  ∃ (cs':List Value) (c':Int),q=.tuple #[.agg cs'.toArray,.bool (okR u deep count)]/\I'=[ei cb #[ee c'] bV]/\cs'.length=4/\(∀ x∈cs',x.oneCell'=true)/\(okR u deep count=true->c'=count+bR u/\RdT S' cs' u)
section
theorem E8 {N:Nat} {st:bb} {sb:Nat} {t v:T} {us:List T} (hg:Good N st) (a8:eq st t v) (a9:okU N t/\wB t) (e2:us.length=v.kids.length)
  (hk:∀ i (h:i<us.length) (h':i<v.kids.length),RC st sb v.kids[i] us[i]):RC st sb t (.mk v.kind v.n v.name us):=by
 intro S cs p l g h b0 e3 e4 e5 e6 w a;have b6:=h.length;have d1:=eB hg a8 a9;obtain ⟨X,hX⟩:∃ X,X=cg [Item.blk p (.cells #[ee g] bV)]:=⟨_,rfl⟩
 rw [<- hX] at a ⊢;have f1:=ch us;have B:okR (.mk v.kind v.n v.name us) l g=(decide (g+(1+bo us)<=120) && (if 31 - l<1 then false else De us (31 - l - 1))):=by
  rw [okR,iV,nc]
 refine lB.2 ?_;dsimp only[lB,vg];refine bH a fun G w' a=>?_;refine aE a aQ fun J w' a=>?_;have a:Inv w X ([ei G cs.toArray ac,ei J et ac]++[ei p #[ee g] bV]) S w':=a.perm (bD (l₁:=[_,_]) (l₂:=[_]));refine aq a 0 af rfl (by simpa using b6) ?_;refine Run.call0 js jr a (mq hg a8 a9.1 b0 h) fun v' I' S' w'=>?_;rintro ⟨eS,rfl,e7,rfl,O⟩ _ a;rw [eS] at a;clear eS;refine aj a 0 rfl af (by simpa using O.length) (by simpa using b6) (by simpa using O.one) fun w' a=>?_;obtain ⟨kv,rfl,c7,c9,hs,a7⟩:=RdT.iff.1 O;have a:Inv w X [ei G (ku v kv) ac,ei J et ac,ei p #[ee g] bV] S w':=a;have d7:=a7.le;have f2:v.kids.length<=1048576:=((PF v).1 d1.2).1;refine bh ?_;refine aG a 2 au rfl rfl ?_;refine bL (by omega) ?_;refine bh ?_;refine eV a 2 (n:=1) rfl (by decide +kernel) rfl (by simp) (by simp [Value.cells,Value.oneCell']) fun w' a=>?_;have a:Inv w X [ei G (ku v kv) ac,ei J et ac,ei p #[ee (g+1)] bV] S w':=a;refine ⟨fun q w'=>q=.bool (decide (120<g+1 ∨ 30<l))/\Inv w X [ei G (ku v kv) ac,ei J et ac,ei p #[ee (g+1)] bV] S w',?_,?_⟩
 ·refine bh ?_;refine aG a 2 au rfl rfl ?_;refine fL ?_;by_cases e1:120<g+1
  ·rw [aD e1];refine rpG ?_;exact ⟨by rw [aD (Or.inl e1)],a⟩
  ·rw [aM e1];refine rpG ?_;refine fL ?_;refine rpG ?_;refine ⟨?_,a⟩
   congr 1
   rw [sD,bK,bK];omega
 intro q _ _ _ _ _ _ _ w';rintro ⟨rfl,a⟩;refine aJ (fun b2=>?_) (fun c3=>?_)
 ·have Y:okR (.mk v.kind v.n v.name us) l g=false:=by
   rw [B];rcases b2 with e|e
   ·rw [aM (by omega),jm]
   ·rw [ag (by omega),zR]
  refine j5 ?_;refine aj a 1 rfl af rfl rfl jh fun w' a=>?_;refine be a 1 af rfl rfl ?_;exact ⟨_,_,_,rfl,a.pick [false,false,true],Ext.refl _ _ _,[ee 0,ee 0,.string ⟨#[]⟩,nx],g+1,by rw [Y],rfl,rfl,jh,fun h=>by rw [Y] at h;cases h⟩
 have d2:g+1<=120:=by omega
 have f3:l<=30:=by omega
 rw [ae (by omega)] at B;refine ah a 0 rfl aW au rfl ?_;refine ah a 0 rfl aR au rfl ?_;refine ah a 0 rfl bu aV rfl ?_;refine jO ?_;refine aE a aQ fun o w' a=>?_;have a:Inv w X [ei G (ku v kv) ac,ei J et ac,.blk o _,ei p #[ee (g+1)] bV] S w':=a.perm (((bD (l₁:=[_]) (l₂:=[_])).cons _).cons _);refine aj a 2 rfl af rfl rfl (by simp [Value.oneCell']) fun w' a=>?_;have a:=a.rowNil ac 4;have a:Inv w X [ei G (ku v kv) ac,ei J et ac,ei o (ku v (nx)) ac,aB (nx) ac 4 [],ei p #[ee (g+1)] bV] S w':=a.perm ((((bD (l₁:=[_]) (l₂:=[_])).cons _).cons _).cons _);refine ah a 0 rfl az aw rfl ?_;refine aO a7 ao ?_;refine ⟨fun i w'=>∃ (j:Nat) (c:Int) (m:Value) (css:List (nA)) (S1:ai),j<=us.length/\i=ee j/\Ext w.heap.size X S S1/\c=g+1+bo (us.take j)/\c<=120/\(∀ k (_:k<us.length),k<j->nc us[k] (31 - l - 1)=true)/\Rows 4 (RdT S1) css (us.take j)/\
   Inv w X [ei G (ku v kv) ac,ei J et ac,ei o (ku v m) ac,aB m ac 4 css,ei p #[ee c] bV] S1 w',
  fun i _=>us.length - (intOf i).toNat,⟨0,g+1,_,[],S,aT _,rfl,Ext.refl _ _ _,by simp [bo],d2,fun k _ h=>by omega,Rows.nil _ _,a⟩,?_⟩
 intro e8 _ _ _ _ _ _ _ _ _ _ _ _ _ _ _ _ _ _ _ _ _ _ _ _ _ _ w';rintro ⟨j,c,m,css,S1,hj,rfl,hE,hc,c1,a2,hR,a⟩;have d9:=ch (us.take j);refine cd ?_;refine aJ (fun c4=>?_) (fun c4=>?_)
 ·have Z:j<us.length:=by omega
  have b7:j<v.kids.length:=by omega
  have d3:=hR.hc;rw [ig] at d3;refine dj a (a7.monoT hE.1) ao af b7 (fun _ _=>RdT.length) fun c5 V=>?_;have a3:=V.length;refine aE a aQ fun c6 w' a=>?_;have a:=a.perm (M:=.blk c6 _::[ei G (ku v kv) ac,ei J et ac,ei o (ku v m) ac,aB m ac 4 css,ei p #[ee c] bV]) (bD (l₁:=[_]));refine aj a 0 rfl af (by simpa using a3) rfl (by simpa using V.one) fun w' a=>?_;refine aq a 0 af rfl (by simpa using a3) ?_;refine bL (by omega) ?_;have a:Inv w X ([ei G (ku v kv) ac,ei J et ac,ei o (ku v m) ac,aB m ac 4 css]++[ei p #[ee c] bV]) S1 w':=a.pick [false,true,true,true,true,true];refine Run.callE lI lz a (hk j Z b7 S1 c5 p (l+1) c V (b0.up hE.1) (by omega) (by omega) (by omega) (by omega)) fun v' I' S2 w'=>?_;rintro ⟨U,c2,rfl,rfl,a0,b1,a5⟩ a6 a;refine aA rfl ?_;refine aA rfl ?_;refine aE a aQ fun b3 w' a=>?_;have a:=a.perm (M:=.blk b3 _::[ei G (ku v kv) ac,ei J et ac,ei o (ku v m) ac,aB m ac 4 css,ei p #[ee c2] bV]) (bD (l₁:=[_]));refine aj a 0 rfl af (by simpa using a0) rfl (by simpa using b1) fun w' a=>?_;refine c8 ?_;have f4:=Ay us j Z;have e0:=qG us (j+1);refine aL (fun hb=>?_) (fun hb=>?_)
  ·have D:okR us[j] (l+1) c=false:=by simpa using hb
   have Y:okR (.mk v.kind v.n v.name us) l g=false:=by
    rw [B];rw [okR,SH] at D;rcases D with e|e
    ·have e:=of_decide_eq_false e;rw [aM (by omega),jm]
    ·have:De us (31 - l - 1)=false:=by
      rw [zc,L3];exact ⟨us[j],cO Z,by rw [show 31 - l - 1=31 - (l+1) by omega,e];decide⟩
     rw [this,zR]
   refine j5 ?_;have a:Inv w X [ei b3 U.toArray ac,ei G (ku v kv) ac,ei J et ac,ei o (ku v m) ac,aB m ac 4 css,ei p #[ee c2] bV] S2 w':=a;refine aj a 2 rfl af rfl rfl jh fun w' a=>?_;refine be a 2 af rfl rfl ?_;exact ⟨_,_,_,rfl,a.pick [false,false,false,false,false,true],hE.trans a6,[ee 0,ee 0,.string ⟨#[]⟩,nx],c2,by rw [Y],rfl,rfl,jh,fun h=>by rw [Y] at h;cases h⟩
  ·have D:okR us[j] (l+1) c=true:=by simpa using hb
   obtain ⟨f0,d0⟩:=a5 D;rw [okR,bQ,bK] at D;refine ah (b:=o) (c:=(ku v m)) a 3 rfl az aw rfl ?_;refine aq a 0 af rfl (by simpa using a0) ?_;refine dB a 4 U bi (by omega) (by omega) rfl a0 b1 (by omega) (by omega) fun r w' a=>?_;have C:=fP (a.its (aB r ac 4 (css++[U])) (by simp));refine cq (b:=o) (c:=(ku v m)) a 3 rfl az aw rfl C.1 C.2 fun w' a=>?_;have a:Inv w X [ei G (ku v kv) ac,ei J et ac,ei o (ku v r) ac,aB r ac 4 (css++[U]),ei p #[ee c2] bV] S2 w':=a.pick [false,true,true,true,true,true];refine bL (by omega) ?_;refine ⟨⟨j+1,c2,r,css++[U],S2,Z,rfl,hE.trans a6,by omega,by omega,fun k a1 e9=>?_,?_,a⟩,by simp [intOf];omega⟩
   ·by_cases e:k=j
    ·subst e;rw [show 31 - l - 1=31 - (l+1) by omega];exact D.2
    ·exact a2 k a1 (by omega)
   ·rw [gt Z];exact (hR.monoR fun _ _ h=>RdT.mono a6.1 h).snoc d0 a0
 ·have d4:j=us.length:=by omega
  subst d4;rw [g7] at hR hc;have b9:okR (.mk v.kind v.n v.name us) l g=true:=by
   rw [B,aD (by omega),fk,zc,fF];intro x hx;obtain ⟨k,a1,rfl⟩:=HE.1 hx;exact a2 k a1 a1
  refine aq (b:=o) (c:=(ku v m)) a 2 af rfl rfl ?_;have C:=fP (a.its (aB m ac 4 css) (by simp));have a4:∀ x∈((kB v m):nA),x.oneCell'=true:=by
   intro x hx;simp at hx;rcases hx with rfl|rfl|rfl|rfl <;> first|rfl|exact C.2
  refine aj a 1 rfl af rfl rfl a4 fun w' a=>?_;refine be (c:=(ku v m)) a 1 af rfl rfl ?_;have a:Inv w X ([ei p #[ee c] bV]++[aB m ac 4 css]) S1 w':=(a.pick [false,false,false,true,true]).perm (List.Perm.swap ..);obtain ⟨S3,b4,a5,a⟩:=a.lendExt;have d6:=RowRd.rows (hR.monoR fun _ _ h=>RdT.mono b4.1 h) a5;exact ⟨_,_,_,rfl,a,hE.trans b4,(kB v m),c,by rw [b9],rfl,rfl,a4,fun _=>⟨by rw [iV];omega,RdT.iff.2 ⟨m,rfl,c7,c9,hs,d6⟩⟩⟩
theorem C6 {N:Nat} {st:bb} (o:Nat) (p:Good N st) {j:P5} (B:Res st j):match j with
  | .one t u=>(okU N t/\wB t)->RC st o t u
  | .list ts us=>(∀ t∈ts,okU N t/\wB t)->us.length=ts.length/\∀ i (h:i<us.length) (q:i<ts.length),RC st o ts[i] us[i]:=by
 induction B with
 | one r _ G=>
  intro a;have g:=G (lk (eB p r a));exact E8 p r a g.1 g.2
 | nil=>exact fun _=>⟨rfl,fun i h _=>by simp at h⟩
 | cons _ _ l m=>
  intro a;obtain ⟨g,D⟩:=m fun t C=>a t (bI _ C);refine ⟨by simp [g],fun i h q=>?_⟩;cases i with
  | zero=>exact l (a _ (bF ..))
  | succ i=>exact D i (by simpa using h) (by simpa using q)
theorem GJ {N:Nat} {st:bb} (J:Good N st) {t u:T} (M:Res st (.one t u)) (O:okU N t/\wB t) {S:ai} {cs:nA} {m:Nat} (h:RdT S cs t) (o:StS S S m st) :
  nB ww [hV m,.agg cs.toArray] [] S fun q I' S'=>I'=[]/\∃ g:nA,g.length=4/\(∀ x∈g,x.oneCell'=true)/\q=.tuple #[.agg g.toArray,.bool (dt u)]/\(dt u=true->RdT S' g u):=by
 intro w a;have C:=h.length;have a:Inv w [] [] S w:=a;have D:RC st m t u:=C6 m J M O;have e:okR u 1 0=dt u:=by rw [okR,dt,BI];rfl
 refine nD.2 ?_;dsimp only[nD,bv];refine bH a fun b3 w' a=>?_;refine aE a aQ fun G w' a=>?_;have V:gZ Tryz.prog bV=some (ee 0):=by kernel_rfl
 refine aE a V fun B w' a=>?_;refine eV a 2 (n:=1) rfl (by decide +kernel) rfl (by simp [Value.cells]) (by simp [Value.cells,Value.oneCell']) fun w' a=>?_;have a:Inv w [] ([ei b3 cs.toArray ac,ei G et ac]++[ei B #[ee 0] bV]) S w':=a;refine aq a 0 af rfl (by simpa using C) ?_;refine Run.callE lI lz a (D S cs B 1 0 h o (by omega) (by omega) (by omega) (by omega)) fun v' I' S2 w'=>?_;rintro ⟨p,U,rfl,rfl,i,j,l⟩ r a;rw [e] at l ⊢;refine aA rfl ?_;refine aA rfl ?_;have a:Inv w [] [ei b3 cs.toArray ac,ei G et ac,ei B #[ee U] bV] S2 w':=a;refine aj a 1 rfl af (by simpa using i) rfl (by simpa using j) fun w' a=>?_;refine be a 1 af rfl (by simpa using i) ?_;exact ⟨_,_,_,rfl,a.nil,r,rfl,p,i,j,rfl,fun h=>(l h).2⟩
end
end
end Go.Proofs.YtjbcdmheajljpaaGreat
