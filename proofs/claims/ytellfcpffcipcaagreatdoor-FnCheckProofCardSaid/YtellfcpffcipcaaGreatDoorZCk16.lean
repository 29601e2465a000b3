/- impl: binding, unification. -/
import Derived.Test.YtellfcpffcipcaaGreatDoorZCkA
import Derived.Test.YtellfcpffcipcaaGreatDoorZCk15
namespace Go.Proofs.YtellfcpffcipcaaGreatDoor
attribute [local irreducible] Run CondV aF aT
section
open Go Go.RowKit
abbrev aN (sb mb:Nat) (es:Array MapEntry) (ck:Nat) (tv:Value) (tr:List Int):List Item:=[ay sb #[.map (some mb),tv] dA,.blk mb (.map es ck),dI tv tr]
section
theorem Kc {N:Nat} {st:au} (hg:Good N st) {n:Nat} (hf:st[n]?=some none) (a5:n<1000000000) {t:T} (ht:okU N t) {S:ae} {cs:hZ} {sb mb ck:Nat} {g:Array MapEntry} {tv:Value} {tr:List Int} (h:RdT S cs t) (V:KnownM S g st) (b1:tr.length<=1000000) :
  kt Kd [ee sb,ax n,.agg cs.toArray] (aN sb mb g ck tv tr) S fun r I' S'=>S'=S/\
   ((¬ gY st n t/\r=.bool true/\∃ a3 a9 b0,I'=aN sb mb a3 a9 b0 (tr++[(n:Int)])/\KnownM S a3 (st.set n (some t))) ∨ (gY st n t/\r=.bool false/\I'=aN sb mb g ck tv tr)):=by
 intro w a;have a1:=h.length;obtain ⟨X,hX⟩:∃ X,X=bS (aN sb mb g ck tv tr):=⟨_,rfl⟩
 rw [<- hX] at a ⊢;have hn:∀ u,st[n]?≠some (some u):=fun u hu=>by rw [hf] at hu;cases hu
 have a7:n<st.length:=(fS.1 hf).1;refine uz.2 ?_;dsimp only[uz,dR];refine bq a fun J w' a=>?_;refine av a 3 ac rfl (by simpa [Value.cells] using a1) ?_;refine D8 a fun mm w' a=>?_;have a:Inv w X ([ay J cs.toArray ab,dI tv tr,.blk mm (.map #[] 0)]++bE [(sb,.cells #[.map (some mb),tv] dA),(mb,.map g ck)]) S w':=a.perm (by
  refine (List.Perm.trans ?_ (cT (l₁:=[ay J cs.toArray ab,.blk mm (.map #[] 0)]) (l₂:=aN sb mb g ck tv tr)));refine (List.Perm.cons _ (List.Perm.trans (List.Perm.swap _ _ _) (List.Perm.cons _ ?_)));exact cT (l₁:=[dI tv tr]) (l₂:=bE [(sb,.cells #[.map (some mb),tv] dA),(mb,.map g ck)]))
 obtain ⟨S1,a6,M,q,O⟩:=Inv.lendAll _ a;have a8:StS S S1 sb st:=⟨mb,tv,g,ck,dA,M _ (bi ..),M _ (bk _ (bi ..)),V⟩
 have q:Inv w X ([ay J cs.toArray ab,dI tv tr]++[.blk mm (.map #[] 0)]) S1 w':=q;refine Run.callE lA lh q (PM hg hn a5 t ht S S1 cs mm 0 #[] _ a6 a8 h MetM.empty (fun m V=>V.elim)) fun v' I' S' w'=>?_;rintro ⟨eS,l,b2,rfl,Y⟩ _ q;rw [eS] at q;have a:=O _ _ q;have a:Inv w X ([ay J cs.toArray ab]++aN sb mb g ck tv tr) S w':=(a.pick [true,true,false,true,true]).perm (List.Perm.cons _ (cT (l₁:=bE [(sb,.cells #[.map (some mb),tv] dA),(mb,.map g ck)]) (l₂:=[dI tv tr])));rcases Y with ⟨G,rfl⟩|⟨G,rfl,_⟩
 ·refine aE (fun _=>?_) (fun hb=>by cases hb);exact ⟨_,_,_,rfl,a.sub (kA _ _),Ext.refl _ _ _,rfl,.inr ⟨G,rfl,rfl⟩⟩
 refine aE (fun hb=>by cases hb) (fun _=>?_);have U:Instr.findNow (.int .i64) (ax n) g.toList 0=some none:=by
  rcases V.find n with ⟨_,_,u,_,_,_,_,hu⟩|⟨_,hf⟩
  ·exact absurd hu (hn u)
  ·exact hf
 have a2:=V.push a7 hn h ck;generalize a4:g.push { key:=ax n,val:=.agg cs.toArray,born:=ck }=l at a2;have a:Inv w X [ay J cs.toArray ab,ay sb #[.map (some mb),tv] dA,.blk mb (.map g ck),dI tv tr] S w':=a;refine ⟨fun D pF wi zZ xw Ld M0 w_=>Fx D 0 [M0=ee sb,Ld=ee sb,xw=ee sb,zZ=.map (some mb),wi=ax n,pF=.agg cs.toArray,True]/\Inv w X [ay J cs.toArray ab,ay sb #[.map (some mb),tv] dA,.blk mb (cond (D 6) (.map l (ck+1)) (.map g ck)),dI tv tr] S w_,⟨Fx.nil _ _,a.draw⟩,⟨?_,?_,?_,?_,?_,?_,?_,trivial⟩,?_⟩;all_goals (intro D bw;intros;rename_i pF wi zZ xw Ld M0 w_ Z;have f:=Z.1;obtain ⟨⟨co,cn,bP,cj,cA,bQ,bO,_⟩,a⟩:=Z)
 rotate_left;obtain rfl:=co ‹_›;apply aH;rotate_left
 obtain rfl:=cn ‹_›;apply ah qq;rotate_left
 obtain rfl:=bP ‹_›;refine aD a 1 (by decide +kernel) rfl rfl ?_;rotate_left;rotate_left
 refine av a 0 ac rfl (by simpa using a1) ?_;rotate_left
 obtain rfl:=cj ‹_›;obtain rfl:=cA ‹_›;obtain rfl:=bQ ‹_›;rw [bw] at a;refine Km a 2 fu gO rfl U fun w_ a=>?_;rw [a4] at a;rotate_left
 all_goals try exact ⟨f.set _ (by first|rfl|assumption|trivial),a⟩
 obtain ⟨rfl,rfl,rfl,rfl,rfl,rfl,_,_⟩:=f.all;have XC:D 6=true:=by assumption
 clear f;rw [XC] at a;have a:Inv w X [ay J cs.toArray ab,ay sb #[.map (some mb),tv] dA,.blk mb (.map l (ck+1)),dI tv tr] S w_:=a;obtain ⟨va,vn,vc,b3⟩:=a.rowSlice 3 rfl;refine aH (ah iB (aD a 1 ft rfl rfl (dQ a kr rfl (by omega) (by omega) fun b w' a=>?_)));refine eT a 3 (k:=1) (o:=0) (m:=1) [ax n] kr (by omega) rfl rfl ?_ (by simp [Value.oneCell']) (by omega) (by omega) fun B w' a=>?_
 ·intro j u hj;rw [a.cellL (i:=4) rfl]
  match j with
  | 0=>simpa [Value.cells] using hj
  | j+1=>simp at hj
 rw [sd] at a;have a:Inv w X [ay J cs.toArray ab,ay sb #[.map (some mb),tv] dA,.blk mb (.map l (ck+1)),dI B (tr++[(n:Int)]),ay b #[ax n] cR] S w':=by
  have e:Item.row B cR 1 (tr.length+1) (ints (tr++[(n:Int)]))=dI B (tr++[(n:Int)]):=by simp [dI]
  rw [<- e];exact a
 obtain ⟨b4,b6,b7,a0⟩:=a.rowSlice 3 rfl;refine aH (cX a 1 rfl iB ft rfl (by rw [a0];rfl) (by rw [a0];rfl) fun w' a=>?_);have a:Inv w X ([ay J cs.toArray ab]++(aN sb mb l (ck+1) B (tr++[(n:Int)])++[ay b #[ax n] cR])) S w':=a;exact ⟨_,_,_,rfl,(a.sub (eR [_] _)).sub (eh _ _),Ext.refl _ _ _,rfl,.inl ⟨G,rfl,l,ck+1,B,rfl,a2⟩⟩
def gq:au->List Int->au
 | st,[]=>st
 | st,n::ns=>(gq st ns).set n.toNat none
theorem wD (st:au):∀ a b:List Int,gq st (a++b)=gq (gq st b) a
 | [],_=>rfl
 | n::a,b=>by rw [i8,gq,gq,wD st a b]
theorem rx (st:au):∀ (ns:List Int) (i:Nat),(gq st ns)[i]?=if (∃ n∈ns,n.toNat=i) then st[i]?.map (fun _=>none) else st[i]?
 | [],i=>by rw [gq,af (by simp)]
 | n::ns,i=>by
  rw [gq,CT,rx st ns];have hl:(gq st ns).length=st.length:=by
   clear i;induction ns with
   | nil=>rfl
   | cons m ns j=>rw [gq,mQ,j]
  by_cases h:n.toNat=i
  ·subst h;have a:∃ m∈n::ns,m.toNat=n.toNat:=⟨n,by simp,rfl⟩
   by_cases f:n.toNat<st.length
   ·rw [ai rfl,hl,ai f,ai a,gd f];rfl
   ·rw [ai rfl,hl,af f,ai a,Qh (by omega)];rfl
  ·rw [af h];by_cases f:∃ m∈ns,m.toNat=i
   ·obtain ⟨m,a,g⟩:=f;rw [ai ⟨m,a,g⟩,ai ⟨m,bk _ a,g⟩]
   ·rw [af f,af];rintro ⟨m,a,g⟩;rcases cw.1 a with rfl|a
    ·exact h g
    ·exact f ⟨m,a,g⟩
def Tr (st st':au) (tr tr':List Int):Prop:=∃ ns,tr'=tr++ns/\gq st' ns=st/\(∀ n∈ns,∃ j:Nat,n=(j:Int)/\st[j]?=some none)/\ns.length+unb st'<=unb st
theorem Tr.refl (st:au) (tr:List Int):Tr st st tr tr:=⟨[],(dc _).symm,rfl,by simp,by simp⟩
theorem Tr.bind {st:au} {tr:List Int} {n:Nat} {t:T} (h:st[n]?=some none):Tr st (st.set n (some t)) tr (tr++[(n:Int)]):=by
 refine ⟨[(n:Int)],rfl,?_,fun m a=>⟨n,cE.1 a,h⟩,by have:=wW st n t h;simp only [bI,cB];omega⟩;rw [gq,gq,dq,List.set_set];apply ya;intro i;rw [CT];by_cases e:n=i
 ·subst e;rw [ai rfl,h,ai (fS.1 h).1]
 ·rw [af e]
theorem Tr.trans {a b c:au} {x y z:List Int} (h:Tr a b x y) (g:Tr b c y z):Tr a c x z:=by
 obtain ⟨ns,rfl,rfl,i,o⟩:=h;obtain ⟨l,rfl,rfl,m,q⟩:=g;refine ⟨ns++l,by rw [eY],by rw [wD],fun n hn=>?_,by rw [bK];omega⟩;rcases ci.1 hn with hn|hn
 ·exact i n hn
 ·obtain ⟨j,rfl,f⟩:=m n hn;refine ⟨j,rfl,?_⟩;rw [rx];split
  ·rw [f];rfl
  ·exact f
def UI (st:au) (a b:T) (r:Bool) (st':au):Prop:=∀ (S:ae) (cs ds:List Value) (sb mb ck:Nat) (es:Array MapEntry) (tv:Value) (tr:List Int),RdT S cs a->RdT S ds b->KnownM S es st->tr.length+unb st<=1000000->
 Tri Tryz.prog GQ [ee sb,.agg cs.toArray,.agg ds.toArray] (aN sb mb es ck tv tr) S fun q I' S'=>S'=S/\q=.bool r/\∃ es' ck' tv' tr',I'=aN sb mb es' ck' tv' tr'/\KnownM S es' st'/\tr'.length+unb st'<=1000000/\Tr st st' tr tr'
set_option maxHeartbeats 1000000 in
theorem On {N:Nat} (hN:N<=1000000) {st a4:au} {a b a' b':T} {r:Bool} (hg:Good N st) (hj:okJ N (.one a b)) (e6:dL st a a') (e7:dL st b b') (he:YE UI st a' b' r a4):UI st a b r a4:=by
 intro S cs ds sb mb ck es tv tr h h' b3 c9 w f;have g3:=h.length;have g4:=h'.length;have f3:=dS hg e6 hj.1;have f4:=dS hg e7 hj.2;obtain ⟨X,hX⟩:∃ X,X=bS (aN sb mb es ck tv tr):=⟨_,rfl⟩
 rw [<- hX] at f ⊢;refine rQ.2 ?_;dsimp only[rQ,dR];refine bq f fun b1 w' f=>?_;refine bq f fun b2 w' f=>?_;have f:Inv w X ([ay b1 cs.toArray ab,ay b2 ds.toArray ab,dI tv tr]++bE [(sb,.cells #[.map (some mb),tv] dA),(mb,.map es ck)]) S w':=f.perm (by
  refine (List.Perm.trans ?_ (cT (l₁:=[ay b1 cs.toArray ab,ay b2 ds.toArray ab]) (l₂:=aN sb mb es ck tv tr)));exact List.Perm.cons _ (List.Perm.cons _ (cT (l₁:=[dI tv tr]) (l₂:=bE [(sb,.cells #[.map (some mb),tv] dA),(mb,.map es ck)]))))
 obtain ⟨S1,i3,e4,f,e9⟩:=Inv.lendAll _ f;have g5:StS S S1 sb st:=⟨mb,tv,es,ck,dA,e4 _ (bi ..),e4 _ (bk _ (bi ..)),b3⟩
 refine ⟨fun D Ld M0 zY P4 x9 x8 w_=>Fx D 0 [x8=ee sb,x9=.agg cs.toArray,True,zY=ee sb,M0=.agg ds.toArray,True,True,True]/\∃ o t,(D 2=true->P4=.agg (List.toArray o)/\RdT S o a')/\(D 5=true->Ld=.agg (List.toArray t)/\RdT S t b')/\(D 6=true->D 1=true/\D 2=true)/\(D 7=true->D 4=true/\D 5=true)/\Inv w X [ay b1 (cond (D 6) (List.toArray o) cs.toArray) ab,ay b2 (cond (D 7) (List.toArray t) ds.toArray) ab,dI tv tr] S1 w_,⟨Fx.nil _ _,⟨[],[],aU,aU,aU,aU,f.draw⟩⟩,⟨?_,?_,?_,?_,?_,?_,?_,?_,trivial⟩,?_⟩;all_goals (intro D bw;intros;rename_i Ld M0 zY P4 x9 x8 w_ d0;have g:=d0.1;obtain ⟨⟨co,cn,bP,cj,cA,bQ,bO,cM,_⟩,⟨o,t,e2,e5,k6,k7,f⟩⟩:=d0)
 rotate_left;have f6:D 6=false:=bN.2 fun h=>by rw [(k6 h).1] at bw;cases bw
 refine av (c:=cs.toArray) f 0 ac (by rw [f6];rfl) (by simpa using g3) ?_;have k6:=fun (h:aC D 1 6=true)=>(⟨rfl,(k6 h).2⟩:aC D 1 1=true/\aC D 1 2=true)
 rotate_left;obtain rfl:=co ‹_›;obtain rfl:=cn ‹_›;have f6:D 6=false:=bN.2 fun h=>by rw [(k6 h).2] at bw;cases bw
 refine Run.call0 ku kl f (nU hg e6 hj.1.1 g5 h) fun v' I' S' w_=>?_;rintro ⟨eS,rfl,o,rfl,c3⟩ _ f;rw [eS] at f;have e2:=fun (_:aC D 2 2=true)=>(⟨rfl,c3⟩:Value.agg (List.toArray o)=Value.agg (List.toArray o)/\RdT S o a')
 have k6:=fun (h:aC D 2 6=true)=>(⟨(k6 h).1,rfl⟩:aC D 2 1=true/\aC D 2 2=true)
 have f:Inv w X [ay b1 (cond (D 6) (List.toArray o) cs.toArray) ab,ay b2 (cond (D 7) (List.toArray t) ds.toArray) ab,dI tv tr] S1 w_:=by rw [f6] at f ⊢;simpa using f
 rotate_left;rotate_left;have f7:D 7=false:=bN.2 fun h=>by rw [(k7 h).1] at bw;cases bw
 refine av (c:=ds.toArray) f 1 ac (by rw [f7];rfl) (by simpa using g4) ?_;have k7:=fun (h:aC D 4 7=true)=>(⟨rfl,(k7 h).2⟩:aC D 4 4=true/\aC D 4 5=true)
 rotate_left;obtain rfl:=cj ‹_›;obtain rfl:=cA ‹_›;have f7:D 7=false:=bN.2 fun h=>by rw [(k7 h).2] at bw;cases bw
 refine Run.call0 ku kl f (nU hg e7 hj.2.1 g5 h') fun v' I' S' w_=>?_;rintro ⟨eS,rfl,t,rfl,c4⟩ _ f;rw [eS] at f;have e5:=fun (_:aC D 5 5=true)=>(⟨rfl,c4⟩:Value.agg (List.toArray t)=Value.agg (List.toArray t)/\RdT S t b')
 have k7:=fun (h:aC D 5 7=true)=>(⟨(k7 h).1,rfl⟩:aC D 5 4=true/\aC D 5 5=true)
 have f:Inv w X [ay b1 (cond (D 6) (List.toArray o) cs.toArray) ab,ay b2 (cond (D 7) (List.toArray t) ds.toArray) ab,dI tv tr] S1 w_:=by rw [f7] at f ⊢;simpa using f
 rotate_left;have g9:=bP ‹_›;obtain ⟨q2,d2⟩:=e2 ‹D 2=true›;rw [bw] at f;subst q2;refine aq f 0 rfl ac (by simpa using d2.length) (by simpa using g3) (by simpa using d2.one) fun w_ f=>?_;have k6:=fun (_:aC D 6 6=true)=>(⟨‹D 1=true›,‹D 2=true›⟩:aC D 6 1=true/\aC D 6 2=true)
 rotate_left;have PS:=bQ ‹_›;obtain ⟨q5,g0⟩:=e5 ‹D 5=true›;rw [bw] at f;subst q5;refine aq f 1 rfl ac (by simpa using g0.length) (by simpa using g4) (by simpa using g0.one) fun w_ f=>?_;have k7:=fun (_:aC D 7 7=true)=>(⟨‹D 4=true›,‹D 5=true›⟩:aC D 7 4=true/\aC D 7 5=true)
 rotate_left
 all_goals try exact ⟨g.set _ (by first|rfl|assumption|trivial),o,t,e2,e5,k6,k7,f⟩
 obtain ⟨rfl,rfl,g9,rfl,rfl,PS,_,_,_⟩:=g.all;have h6:D 2=true:=by assumption
 have h7:D 5=true:=by assumption
 have XC:D 6=true:=by assumption
 have CQ:D 7=true:=by assumption
 clear g;obtain ⟨_,c3⟩:=e2 h6;obtain ⟨_,c4⟩:=e5 h7;rw [XC,CQ] at f;clear e2 e5 k6 k7;have f:=e9 _ _ f;have f:Inv w X ([ay b1 o.toArray ab,ay b2 t.toArray ab]++aN sb mb es ck tv tr) S w_:=f.perm (List.Perm.cons _ (List.Perm.cons _ (cT (l₁:=bE [(sb,.cells #[.map (some mb),tv] dA),(mb,.map es ck)]) (l₂:=[dI tv tr]))));have h8:=c3;have h9:=c4;obtain ⟨kv,rfl,_,_,_,d3⟩:=RdT.iff.1 c3;obtain ⟨f0,rfl,_,_,_,d4⟩:=RdT.iff.1 c4;obtain ⟨k,n,s,ks⟩:=a';obtain ⟨k',n',s',m⟩:=b';unfold YE at he;simp only [T.name,T.kids,T.kind,T.n] at d3 d4 f he ⊢;have g6:=d3.le;simp only [maxLen] at g6;have c7:=fun h=>rE hg h (iV e6) f3.1;have c8:=fun h=>rE hg h (iV e7) f4.1;have i6:=hg.len;refine ⟨fun q w'=>q=.bool (decide (k=1/\k'=1/\n=n'))/\Inv w X ([ay b1 #[ax k,ax n,.string s,kv] ab,ay b2 #[ax k',ax n',.string s',f0] ab]++aN sb mb es ck tv tr) S w',?_,?_⟩
 ·refine ad f 0 rfl aM aw rfl (bn ?_);by_cases e1:k=1
  ·rw [aL e1];refine rpG ?_;refine ad f 1 rfl aM aw rfl (bn ?_);by_cases e2:k'=1
   ·rw [aL e2];refine rpG ?_;refine ad f 0 rfl aQ aw rfl (ad f 1 rfl aQ aw rfl (bn ?_));refine rpG ?_;exact ⟨by simp [e1,e2],f⟩
   ·rw [aS e2];refine rpG ?_;exact ⟨by simp [e2],f⟩
  ·rw [aS e1];refine rpG ?_;exact ⟨by simp [e1],f⟩
 intro q _ _ _ _ _ _ _ _ _ _ _ _ _ _ _ w';rintro ⟨rfl,f⟩;refine aJ (fun a6=>?_) (fun a6=>?_)
 ·have:r=true/\a4=st:=by
   rcases he with ⟨_,_,_,l,h2⟩|⟨_,l,_⟩|⟨l,_,_⟩|⟨l,_,_⟩
   ·exact ⟨l,h2⟩
   ·exact absurd a6.2 l
   ·exact absurd a6.1 l
   ·exact absurd a6.1 l
  obtain ⟨rfl,rfl⟩:=this;exact ⟨_,_,_,rfl,f.sub (eR [_,_] _),Ext.refl _ _ _,rfl,rfl,es,ck,tv,tr,rfl,b3,c9,Tr.refl _ _⟩
 refine ad f 0 rfl aM aw rfl (bn (aJ (fun a9=>?_) (fun a9=>?_)))
 ·have a3:(¬ gY st n.toNat (.mk k' n' s' m)/\r=true/\a4=st.set n.toNat (some (.mk k' n' s' m))) ∨ (gY st n.toNat (.mk k' n' s' m)/\r=false/\a4=st):=by
   rcases he with ⟨l,h2,h3,_⟩|⟨_,_,l⟩|⟨l,_,_⟩|⟨l,_,_⟩
   ·exact absurd ⟨l,h2,h3⟩ a6
   ·exact l
   ·exact absurd a9 l
   ·exact absurd a9 l
  obtain ⟨f1,f2,_⟩:=f3.1.var a9;have c7:=c7 a9;simp only [T.n] at f1 f2 c7;obtain ⟨j,rfl⟩:∃ j:Nat,n=j:=⟨n.toNat,by omega⟩
  rw [dq] at c7 a3;refine ad f 0 rfl aQ aw rfl (av f 1 ac rfl rfl (Run.callE (A:=[_,_]) uq ue f (Kc hg c7 (by omega) f4.1 h9 b3 (by omega)) fun v' I' S' w'=>?_));rintro ⟨eS,b4⟩ _ f;rw [eS] at f;have i0:=wW st j (.mk k' n' s' m) c7;rcases a3 with ⟨l,rfl,rfl⟩|⟨l,rfl,rfl⟩
  ·rcases b4 with ⟨_,rfl,V,Y,Z,rfl,b5⟩|⟨h2,_⟩
   ·exact ⟨_,_,_,rfl,f.sub (eR [_,_] _),Ext.refl _ _ _,rfl,rfl,V,Y,Z,_,rfl,b5,by simp;omega,Tr.bind (by assumption)⟩
   ·exact absurd h2 l
  ·rcases b4 with ⟨h2,_⟩|⟨_,rfl,rfl⟩
   ·exact absurd l h2
   ·exact ⟨_,_,_,rfl,f.sub (eR [_,_] _),Ext.refl _ _ _,rfl,rfl,es,ck,tv,tr,rfl,b3,c9,Tr.refl _ _⟩
 refine ad f 1 rfl aM aw rfl (bn (aJ (fun d1=>?_) (fun d1=>?_)))
 ·have a3:(¬ gY st n'.toNat (.mk k n s ks)/\r=true/\a4=st.set n'.toNat (some (.mk k n s ks))) ∨ (gY st n'.toNat (.mk k n s ks)/\r=false/\a4=st):=by
   rcases he with ⟨l,_⟩|⟨l,_,_⟩|⟨_,_,l⟩|⟨_,l,_⟩
   ·exact absurd l a9
   ·exact absurd l a9
   ·exact l
   ·exact absurd d1 l
  obtain ⟨f1,f2,_⟩:=f4.1.var d1;have c8:=c8 d1;simp only [T.n] at f1 f2 c8;obtain ⟨j,rfl⟩:∃ j:Nat,n'=j:=⟨n'.toNat,by omega⟩
  rw [dq] at c8 a3;refine ad f 1 rfl aQ aw rfl (av f 0 ac rfl rfl (Run.callE (A:=[_,_]) uq ue f (Kc hg c8 (by omega) f3.1 h8 b3 (by omega)) fun v' I' S' w'=>?_));rintro ⟨eS,b4⟩ _ f;rw [eS] at f;have i0:=wW st j (.mk k n s ks) c8;rcases a3 with ⟨l,rfl,rfl⟩|⟨l,rfl,rfl⟩
  ·rcases b4 with ⟨_,rfl,V,Y,Z,rfl,b5⟩|⟨h2,_⟩
   ·exact ⟨_,_,_,rfl,f.sub (eR [_,_] _),Ext.refl _ _ _,rfl,rfl,V,Y,Z,_,rfl,b5,by simp;omega,Tr.bind (by assumption)⟩
   ·exact absurd h2 l
  ·rcases b4 with ⟨h2,_⟩|⟨_,rfl,rfl⟩
   ·exact absurd l h2
   ·exact ⟨_,_,_,rfl,f.sub (eR [_,_] _),Ext.refl _ _ _,rfl,rfl,es,ck,tv,tr,rfl,b3,c9,Tr.refl _ _⟩
 have a3:(kK (.mk k n s ks) (.mk k' n' s' m)=false/\r=false/\a4=st) ∨ (kK (.mk k n s ks) (.mk k' n' s' m)=true/\Chain UI st ks m r a4):=by
  rcases he with ⟨l,_⟩|⟨l,_,_⟩|⟨_,l,_⟩|⟨_,_,l⟩
  ·exact absurd l a9
  ·exact absurd l a9
  ·exact absurd l d1
  ·exact l
 refine ⟨fun q w'=>q=.bool (!kK (.mk k n s ks) (.mk k' n' s' m))/\Inv w X ([ay b1 #[ax k,ax n,.string s,kv] ab,ay b2 #[ax k',ax n',.string s',f0] ab]++aN sb mb es ck tv tr) S w',?_,?_⟩
 ·refine ad f 0 rfl aM aw rfl (ad f 1 rfl aM aw rfl (dw ?_));by_cases e1:k=k'
  ·rw [aL e1];refine rpG ?_;refine ad f 0 rfl aQ aw rfl (ad f 1 rfl aQ aw rfl (dw ?_));by_cases e2:n=n'
   ·rw [aL e2];refine rpG ?_;refine ad f 0 rfl aW aP rfl (ad f 1 rfl aW aP rfl (Ea ?_));by_cases e3:s=s'
    ·rw [aL e3];refine rpG ?_;refine ad f 0 rfl ao aj rfl (aI d3 ag (ad f 1 rfl ao aj rfl (aI d4 ag (dw ?_))));refine rpG ?_;exact ⟨by rw [eM,aL e1,aL e2,aL e3,R6];rfl,f⟩
    ·rw [aS e3];refine rpG ?_;exact ⟨by rw [eM,aL e1,aL e2,aS e3];rfl,f⟩
   ·rw [aS e2];refine rpG ?_;exact ⟨by rw [eM,aL e1,aS e2];rfl,f⟩
  ·rw [aS e1];refine rpG ?_;exact ⟨by rw [eM,aS e1];rfl,f⟩
 intro q;(iterate 28 intro);intro w';rintro ⟨rfl,f⟩;cases hd:kK (.mk k n s ks) (.mk k' n' s' m)
 ·refine aE (fun _=>?_) (fun hb=>by cases hb);have:r=false/\a4=st:=by
   rcases a3 with ⟨_,l⟩|⟨l,_⟩
   ·exact l
   ·rw [hd] at l;cases l
  obtain ⟨rfl,rfl⟩:=this;exact ⟨_,_,_,rfl,f.sub (eR [_,_] _),Ext.refl _ _ _,rfl,rfl,es,ck,tv,tr,rfl,b3,c9,Tr.refl _ _⟩
 refine aE (fun hb=>by cases hb) (fun _=>?_);have g7:ks.length=m.length:=rI hd;have i1:Chain UI st ks m r a4:=by
  rcases a3 with ⟨l,_⟩|⟨_,l⟩
  ·rw [hd] at l;cases l
  ·exact l
 refine ad f 0 rfl ao aj rfl (aI d3 ag ?_);refine ⟨fun i w'=>∃ (j:Nat) (b6:au) (b0:Array MapEntry) (b7:Nat) (b8:Value) (a5:List Int),j<=ks.length/\i=ax j/\Chain UI b6 (ks.drop j) (m.drop j) r a4/\KnownM S b0 b6/\a5.length+unb b6<=1000000/\Tr st b6 tr a5/\Inv w X ([ay b1 #[ax k,ax n,.string s,kv] ab,ay b2 #[ax k',ax n',.string s',f0] ab]++aN sb mb b0 b7 b8 a5) S w',fun i _=>ks.length - (intOf i).toNat,⟨0,st,es,ck,tv,tr,bf _,rfl,i1,b3,c9,Tr.refl _ _,f⟩,?_⟩;intro i2;(iterate 18 intro);intro w';rintro ⟨j,b6,b0,b7,b8,a5,hj,rfl,c5,d9,e0,e8,f⟩;refine bM (aJ (fun g8=>?_) (fun g8=>?_))
 ·have d7:j<ks.length:=by omega
  have f5:j<m.length:=by omega
  obtain ⟨c1,o1,a7,a1,E1,i4,rfl,h0,g1⟩:=d3.at_ d7;obtain ⟨c2,o2,a8,a2,E2,i5,rfl,h4,d2⟩:=d4.at_ f5;rw [dB d7,dB f5] at c5;obtain ⟨r1,b9,c0,h5,g2⟩:=c5.head;have c0:=c0 S _ _ sb mb b7 b0 b8 a5 g1 d2 d9 e0;refine ⟨fun D Kb FT Ee DV FU FS xB wx xD wV yn xL yr w_=>Fx D 0 [yr=ee sb,xL=eu b1 3,yn=eF c1 o1 ks.length a7,wV=ax j,xD=eu c1 (o1+j * 4),wx=.agg (aO a1 (o1+j * 4) 4).toArray,xB=eu b2 3,FS=eF c2 o2 m.length a8,FU=ax j,DV=eu c2 (o2+j * 4),Ee=.agg (aO a2 (o2+j * 4) 4).toArray,FT=.bool r1,Kb=.bool (!r1)]/\(D 11=false->Inv w X ([ay b1 #[ax k,ax n,.string s,eF c1 o1 ks.length a7] ab,ay b2 #[ax k',ax n',.string s',eF c2 o2 m.length a8] ab]++aN sb mb b0 b7 b8 a5) S w_)/\(D 11=true->∃ V Y Z a0,KnownM S V b9/\a0.length+unb b9<=1000000/\Tr b6 b9 a5 a0/\Inv w X ([ay b1 #[ax k,ax n,.string s,eF c1 o1 ks.length a7] ab,ay b2 #[ax k',ax n',.string s',eF c2 o2 m.length a8] ab]++aN sb mb V Y Z a0) S w_)/\∃ B G J M,Inv w X ([ay b1 #[ax k,ax n,.string s,eF c1 o1 ks.length a7] ab,ay b2 #[ax k',ax n',.string s',eF c2 o2 m.length a8] ab]++aN sb mb B G J M) S w_,⟨Fx.nil _ _,⟨fun _=>f.draw,aU,b0,b7,b8,a5,f.draw⟩⟩,⟨?_,?_,?_,?_,?_,?_,?_,?_,?_,?_,?_,?_,?_,trivial⟩,?_⟩;all_goals (intro D bw;intros;rename_i Kb FT Ee DV FU FS xB wx xD wV yn xL yr w_ d0;have g:=d0.1;obtain ⟨⟨co,cn,bP,cj,cA,bQ,bO,cM,de,dv,bU,cC,cY,_⟩,⟨O,U,B,G,J,M,f⟩⟩:=d0)
  rotate_left;apply ah ao;rotate_left
  obtain rfl:=cn ‹_›;apply aD f 0 aj rfl rfl;rotate_left;rotate_left
  obtain rfl:=bP ‹_›;obtain rfl:=cj ‹_›;apply az ag d7;rotate_left
  obtain rfl:=cA ‹_›;refine bV ac g1.length (fun j v hj=>by rw [f.cellS h0];exact aA rfl j v hj) ?_;rotate_left
  apply ah ao;rotate_left
  obtain rfl:=bO ‹_›;apply aD f 1 aj rfl rfl;rotate_left;rotate_left
  obtain rfl:=cM ‹_›;obtain rfl:=de ‹_›;apply az ag f5;rotate_left
  obtain rfl:=dv ‹_›;refine bV ac d2.length (fun j v hj=>by rw [f.cellS h4];exact aA rfl j v hj) ?_;rotate_left
  obtain rfl:=co ‹_›;obtain rfl:=bQ ‹_›;obtain rfl:=bU ‹_›;refine Run.callE (A:=[_,_]) fV fX (O bw) c0 fun v' I' S' w_=>?_;rintro ⟨eS,rfl,V,Y,Z,a0,rfl,b5,c6,d6⟩ _ f;rw [eS] at f;have O:=fun (h:aC D 11 11=false)=>(Bool.noConfusion h:Inv w X ([ay b1 #[ax k,ax n,.string s,eF c1 o1 ks.length a7] ab,ay b2 #[ax k',ax n',.string s',eF c2 o2 m.length a8] ab]++aN sb mb b0 b7 b8 a5) S w_)
  have U:=fun (_:aC D 11 11=true)=>(⟨V,Y,Z,a0,b5,c6,d6,f⟩:∃ V Y Z a0,KnownM S V b9/\a0.length+unb b9<=1000000/\Tr b6 b9 a5 a0/\Inv w X ([ay b1 #[ax k,ax n,.string s,eF c1 o1 ks.length a7] ab,ay b2 #[ax k',ax n',.string s',eF c2 o2 m.length a8] ab]++aN sb mb V Y Z a0) S w_)
  obtain ⟨B,G,J,M,f⟩:∃ B G J M,Inv w X ([ay b1 #[ax k,ax n,.string s,eF c1 o1 ks.length a7] ab,ay b2 #[ax k',ax n',.string s',eF c2 o2 m.length a8] ab]++aN sb mb B G J M) S w_:=⟨V,Y,Z,a0,f⟩
  rotate_left;obtain rfl:=cC ‹_›;apply cq;rotate_left
  all_goals try exact ⟨g.set _ (by first|rfl|assumption|trivial),O,U,B,G,J,M,f⟩
  obtain ⟨rfl,rfl,rfl,rfl,rfl,rfl,rfl,rfl,rfl,rfl,rfl,rfl,rfl,_⟩:=g.all;have nH:D 11=true:=by assumption
  clear g;obtain ⟨V,Y,Z,a0,b5,c6,d6,f⟩:=U nH;clear O U;refine aE (fun f8=>?_) (fun f9=>?_)
  ·simp only [lg] at f8;obtain ⟨rfl,rfl⟩:=h5 f8;exact ⟨_,_,_,rfl,f.sub (eR [_,_] _),Ext.refl _ _ _,rfl,rfl,V,Y,Z,a0,rfl,b5,c6,e8.trans d6⟩
  ·simp only [rW] at f9;refine bA (by omega) ?_;exact ⟨⟨j+1,b9,V,Y,Z,a0,d7,rfl,g2 f9,b5,c6,e8.trans d6,f⟩,by simp [intOf];omega⟩
 ·have:j=ks.length:=by omega
  subst this;rw [dY,g7,dY] at c5;obtain ⟨rfl,rfl⟩:=c5.done;exact ⟨_,_,_,rfl,f.sub (eR [_,_] _),Ext.refl _ _ _,rfl,rfl,b0,b7,b8,a5,rfl,d9,e0,e8⟩
theorem jS {N:Nat} (l:N<=1000000) {st f:au} {a b:T} {r:Bool} (g:Good N st) (h:okJ N (.one a b)) (m:Uni st (.one a b) r f):UI st a b r f:=
 Uni.calls (N:=N) (Call:=UI) (fun _ _ _ _ _ _ _ g h i j o=>On l g h i j o) m g h
end
end
section
open Go Go.RowKit
theorem Gc {n:Int}:∀ (l:List MapEntry) (i j:Nat) (v:Value),(∀ e∈l,∃ m,e.key=ax m)->Instr.findNow (.int .i64) (ax n) l i=some (some (j,v))->i<=j/\∃ e,l[j - i]?=some e/\e.key=ax n
 | [],i,j,v,_,h=>by simp [Instr.findNow] at h
 | e::l,i,j,v,hk,h=>by
  obtain ⟨m,f⟩:=hk e (bi ..);have t:Instr.sameNow (.int .i64) (ax n) e.key=some (n == m):=by rw [f];rfl
  rw [Instr.findNow,t] at h;by_cases a:n=m
  ·subst a;simp only [Tl,aY,cV] at h;obtain ⟨rfl,rfl⟩:=h;exact ⟨be _,e,by simp,f⟩
  ·have B:(n == m)=false:=by simpa using a
   rw [B] at h;obtain ⟨D,o,q,r⟩:=Gc l (i+1) j v (fun e g=>hk e (bk _ g)) h;refine ⟨by omega,o,?_,r⟩;have:j - i=(j - (i+1))+1:=by omega
   rw [this,nL];exact q
theorem KnownM.erase {S:ae} {a:Array MapEntry} {st:au} (h:KnownM S a st) {n j:Nat} {v:Value} (hf:Instr.findNow (.int .i64) (ax n) a.toList 0=some (some (j,v))) :
  KnownM S (a.eraseIdxIfInBounds j) (st.set n none):=by
 obtain ⟨_,e,i,l⟩:=Gc a.toList 0 j v (fun e i=>by obtain ⟨m,_,_,hk,_⟩:=h.1 e i;exact ⟨m,hk⟩) hf;rw [Nat.sub_zero] at i;have q:j<a.toList.length:=(fS.1 i).1;have r:a.toList[j]=e:=(fS.1 i).2;have B:List.Perm a.toList (e::a.toList.eraseIdx j):=by
  rw [YN];have e1:a.toList=a.toList.take j++e::a.toList.drop (j+1):=by
   conv=>lhs;rw [<- Pw j a.toList,dB q,r]
  conv=>lhs;rw [e1]
  exact zal125
 have g:((e::a.toList.eraseIdx j).map (·.key)).Nodup:=(B.map _).nodup_iff.1 h.2.2;rw [qD,N8] at g;refine ⟨fun x f=>?_,fun m t o=>?_,?_⟩
 ·rw [acg] at f;obtain ⟨m,t,cs,hk,G,hR,J⟩:=h.1 x (B.mem_iff.2 (bk _ f));refine ⟨m,t,cs,hk,G,hR,?_⟩;have:n≠m:=by
   rintro rfl;exact g.1 (eV.2 ⟨x,f,by rw [hk,l]⟩)
  rw [C8 this];exact J
 ·rw [acg];have D:n≠m:=by
   rintro rfl;rw [CT] at o;simp at o
  rw [C8 D] at o;obtain ⟨x,f,hk⟩:=h.2.1 m t o;rcases cw.1 (B.mem_iff.1 f) with rfl|f
  ·rw [l] at hk;simp only [Value.int.injEq,vH] at hk;exact absurd (by omega) D
  ·exact ⟨x,f,hk⟩
 ·rw [acg];exact g.2
theorem KnownM.clear {S:ae} {f:Array MapEntry} {st:au} (h:KnownM S f st) {n:Nat} (hn:∀ t,st[n]?≠some (some t)):KnownM S f (st.set n none):=by
 refine ⟨fun x i=>?_,fun m t a=>?_,h.2.2⟩
 ·obtain ⟨m,t,cs,hk,j,hR,g⟩:=h.1 x i;refine ⟨m,t,cs,hk,j,hR,?_⟩;have:n≠m:=by rintro rfl;exact hn t g
  rw [C8 this];exact g
 ·have l:n≠m:=by
   rintro rfl;rw [CT] at a;simp at a
  rw [C8 l] at a;exact h.2.1 m t a
theorem Dy (st:au) (l:List Int) (n:Int):gq st (l++[n])=(gq st l).set n.toNat none:=by
 have hl:(gq st l).length=st.length:=by
  induction l with
  | nil=>rfl
  | cons m ns j=>rw [gq,mQ,j]
 apply ya;intro i;rw [rx,CT,rx,hl];by_cases h:n.toNat=i
 ·subst h;rw [ai ⟨n,by simp,rfl⟩,ai rfl];by_cases f:n.toNat<st.length
  ·rw [ai f,gd f];rfl
  ·rw [af f,Qh (by omega)];rfl
 ·rw [af h];by_cases f:∃ m∈l,m.toNat=i
  ·obtain ⟨m,a,g⟩:=f;rw [ai ⟨m,dO _ a,g⟩,ai ⟨m,a,g⟩]
  ·rw [af f,af];rintro ⟨m,a,g⟩;rcases ci.1 a with a|a
   ·exact f ⟨m,a,g⟩
   ·rw [cE] at a;subst a;exact h g
section
variable {P:Program} {w w0:World} {X:List Nat} {L:List Item} {S:ae} {K:Value->World->Prop}
theorem QN (h:Inv w0 X L S w) {T B N ty U:TypeId} {cs:List Bool} {b a:Nat} {g:Array MapEntry} {n:Int} {o:Option (Nat × Value)} (i:Nat) (D:P.underlying T=some (.map B N)) (m:P.underlying B=some (.int .i64))
  (G:L[i]?=some (.blk b (.map g a))) (hf:Instr.findNow (.int .i64) (ax n) g.toList 0=some o)
  (hk:∀ w',Inv w0 X (L.set i (.blk b (.map (match o with|some (j,_)=>g.eraseIdxIfInBounds j|none=>g) a))) S w'->K (.tuple #[]) w') :
  Run P (ce .delete #[T,U] ty cs [.map (some b),ax n]) w K:=by
 have J:w.heap[b]?=some (.map g a):=h.its _ (cJ G);have q:∀ e,(Instr.checkKey e 10000 B (ax n)).run P w=.ok () w:=fun e=>by
  rw [show (10000:Nat)=9999+1 from rfl,Instr.checkKey];simp [run_underlying m]
 have M:(getObj b).run P w=.ok (.map g a) w:=by simp [getObj,Sem.run,J]
 have r:=jF (P:=P) (w:=w) m hf;obtain ⟨f,l⟩:∃ f,f=(match o with|some (j,_)=>g.eraseIdxIfInBounds j|none=>g):=⟨_,rfl⟩
 rw [<- l] at hk;have t:(setObj b (.map f a)).run P w=.ok () { w with heap:=w.heap.setIfInBounds b (.map f a) }:=by simp [setObj,Sem.run,J]
 refine Run.of (w':={ w with heap:=w.heap.setIfInBounds b (.map f a) }) ?_ (hk _ (h.setBlk G _ rfl));cases o with
 | none=>
  subst l;simp [ce,builtin,Builtin.delete_,run_underlying D,M,q,r,t]
 | some p=>
  obtain ⟨j,v⟩:=p;subst l;simp [ce,builtin,Builtin.delete_,run_underlying D,M,q,r,t]
end
section
theorem zk {st:au} {S:ae} {sb mb ck mark:Nat} {M:Array MapEntry} {tv:Value} {tr:List Int} (V:KnownM S M st) (D:mark<=tr.length) (Y:∀ n∈tr.drop mark,0<=n) (a8:tr.length<=100000000) :
  kt HA [ee sb,ax mark] (aN sb mb M ck tv tr) S fun q I' S'=>S'=S/\q=.tuple #[]/\∃ o a5,I'=aN sb mb o ck a5 (tr.take mark)/\KnownM S o (gq st (tr.drop mark)):=by
 intro w f;obtain ⟨X,hX⟩:∃ X,X=bS (aN sb mb M ck tv tr):=⟨_,rfl⟩
 rw [<- hX] at f ⊢;have a1:Inv w X ([ay sb #[.map (some mb),tv] dA,.blk mb (.map M ck)]++[.row tv cR 1 tr.length (ints tr)]) S w:=f;refine tR.2 ?_;dsimp only[tR,bl];refine aH ?_;refine ad f 0 rfl iB ft rfl ?_;obtain ⟨S1,a9,a0,f,J⟩:=Inv.lend a1;have a2:=a0.ints;refine ju cU a2 D fun v' N=>?_;refine aI N cU ?_;refine ⟨fun i w'=>∃ (k:Nat) (o:Array MapEntry),k<=(tr.drop mark).length/\i=ax k/\KnownM S o (gq st ((tr.drop mark).take k))/\Inv w X [ay sb #[.map (some mb),tv] dA,.blk mb (.map o ck)] S1 w',
  fun i _=>(tr.drop mark).length - (intOf i).toNat,⟨0,M,bf _,rfl,V,f⟩,?_⟩
 intro i _ _ _ _ _ _ _ _ _ _ w';rintro ⟨k,o,hk,rfl,h,f⟩;have b0:(tr.drop mark).length<=100000000:=by rw [nJ];omega
 refine bM (aJ (fun Z=>?_) (fun Z=>?_))
 ·have r:k<(tr.drop mark).length:=by omega
  have hm:=bJ r;have h0:=Y _ hm;refine gj f N cU aw r (fun cs G=>G) (aH (ad f 0 rfl qq yy rfl ?_));obtain ⟨m,O⟩:∃ m:Nat,(tr.drop mark)[k]=(m:Int):=⟨((tr.drop mark)[k]).toNat,by omega⟩
  have B:gq st ((tr.drop mark).take (k+1))=(gq st ((tr.drop mark).take k)).set m none:=by
   rw [gh r,Dy,O,dq]
  rw [O];rcases h.find m with ⟨j,v,t,cs,hf,_,_,_⟩|⟨a6,hf⟩
  ·refine QN f 1 fu gO rfl hf fun w' f=>?_;refine bA (by omega) ?_;exact ⟨⟨k+1,_,r,rfl,by rw [B];exact h.erase hf,f⟩,by simp only [intOf];omega⟩
  ·refine QN f 1 fu gO rfl hf fun w' f=>?_;refine bA (by omega) ?_;exact ⟨⟨k+1,_,r,rfl,by rw [B];exact h.clear a6,f⟩,by simp only [intOf];omega⟩
 ·have:k=(tr.drop mark).length:=by omega
  subst this;rw [fM] at h;have f:=J _ _ f;refine aH (ad f 0 rfl iB ft rfl ?_);obtain ⟨hl,ho⟩:=Inv.openRow f;have hit:(ints tr).take mark=ints (tr.take mark):=by
   have:∀ (l:List Int) (m:Nat),(ints l).take m=ints (l.take m):=by
    intro l;induction l with
    | nil=>intro m;simp [ints]
    | cons a l ih=>
     intro m;cases m with
     | zero=>simp [ints]
     | succ m=>have:=ih m;simp only [ints,Iw,tf,List.singleton_append] at *;rw [this]
   exact this tr mark
  have a3:(tr.take mark).length=mark:=by rw [ey];omega
  rcases ho with ⟨rfl,h1⟩|⟨g,cap,U,rfl,b1,a7,G,ht,f⟩
  ·have a4:tr=[]:=iy h1;subst a4;obtain rfl:mark=0:=by simpa using D
   refine Jt cU (be _) (aH (cX f 0 rfl iB ft rfl rfl rfl fun w' f=>?_));exact ⟨_,_,S,rfl,f,Ext.refl _ _ _,rfl,rfl,o,_,rfl,h⟩
  ·refine Jt cU (by omega) ?_;have e1:(if cap=0 then (some (⟨g,0,none⟩:Addr)) else (some (⟨g,0,none⟩:Addr)).map (·.add (0 * 1)))=some ⟨g,0,none⟩:=by
    split
    ·rfl
    ·simp [Addr.add]
   rw [e1];refine aH (cX f 0 rfl iB ft rfl rfl rfl fun w' f=>?_);have f:Inv w X ([ay sb #[.map (some mb),eF g 0 mark cap] dA,.blk mb (.map o ck)]++[ay g U cR]) S w':=f;have f:=Inv.closeRow (n:=mark) (k:=1) (cap:=cap) f (by omega) a7 G;have e2:U.toList.take (mark * 1)=ints (tr.take mark):=by
    rw [<- hit,<- ht,lW,Nat.mul_one,Nat.mul_one,kJ D]
   rw [e2] at f;refine ⟨_,_,S,rfl,f,Ext.refl _ _ _,rfl,rfl,o,eF g 0 mark cap,?_,h⟩;simp only [aN,dI,a3];rfl
end
end
end Go.Proofs.YtellfcpffcipcaaGreatDoor
