/- spec.l3Unify. -/
import Derived.Test.YtellfcpffcipcaaGreatDoorZCkA
import Derived.Test.YtellfcpffcipcaaGreatDoorZCk11
namespace Go.Proofs.YtellfcpffcipcaaGreatDoor
attribute [local irreducible] Run CondV aF aT
section
open Go Go.RowKit
inductive Chain (Call:au->T->T->Bool->au->Prop):au->List T->List T->Bool->au->Prop
 | nil {st:au}:Chain Call st [] [] true st
 | stop {st st':au} {a b:T} {xs ys:List T}:Call st a b false st'->Chain Call st (a::xs) (b::ys) false st'
 | go {st st1 st':au} {a b:T} {xs ys:List T} {r:Bool}:Call st a b true st1->Chain Call st1 xs ys r st'->Chain Call st (a::xs) (b::ys) r st'
theorem Chain.head {Call:au->T->T->Bool->au->Prop} {st f:au} {a b:T} {xs ys:List T} {r:Bool} (h:Chain Call st (a::xs) (b::ys) r f) :
  ∃ i g,Call st a b i g/\(i=false->r=false/\f=g)/\(i=true->Chain Call g xs ys r f):=by
 cases h with
 | stop h=>exact ⟨false,_,h,fun _=>⟨rfl,rfl⟩,fun e=>(by cases e)⟩
 | go h j=>exact ⟨true,_,h,fun e=>(by cases e),fun _=>j⟩
theorem Chain.done {Call:au->T->T->Bool->au->Prop} {st a:au} {r:Bool} (h:Chain Call st [] [] r a):r=true/\a=st:=by
 cases h;exact ⟨rfl,rfl⟩
def YE (Call:au->T->T->Bool->au->Prop) (st:au) (a' b':T) (r:Bool) (st':au):Prop:=
 (a'.kind=1/\b'.kind=1/\a'.n=b'.n/\r=true/\st'=st) ∨
 (a'.kind=1/\¬ (b'.kind=1/\a'.n=b'.n)/\((¬ gY st a'.n.toNat b'/\r=true/\st'=st.set a'.n.toNat (some b')) ∨ (gY st a'.n.toNat b'/\r=false/\st'=st))) ∨
 (a'.kind≠1/\b'.kind=1/\((¬ gY st b'.n.toNat a'/\r=true/\st'=st.set b'.n.toNat (some a')) ∨ (gY st b'.n.toNat a'/\r=false/\st'=st))) ∨
 (a'.kind≠1/\b'.kind≠1/\((kK a' b'=false/\r=false/\st'=st) ∨ (kK a' b'=true/\Chain Call st a'.kids b'.kids r st')))
theorem Uni.calls {N:Nat} {Call:au->T->T->Bool->au->Prop} (f:∀ st a b M O r o,Good N st->okJ N (.one a b)->dL st a M->dL st b O->YE Call st M O r o->Call st a b r o) {st o:au} {j:Job} {r:Bool} (U:Uni st j r o) :
  Good N st->okJ N j->match j with
   | .one a b=>Call st a b r o
   | .list xs ys=>Chain Call st xs ys r o:=by
 induction U with
 | same i l q t m=>exact fun h g=>f _ _ _ _ _ _ _ h g i l (.inl ⟨q,t,m,rfl,rfl⟩)
 | bindA i l q t m=>exact fun h g=>f _ _ _ _ _ _ _ h g i l (.inr (.inl ⟨q,t,.inl ⟨m,rfl,rfl⟩⟩))
 | occA i l q t m=>exact fun h g=>f _ _ _ _ _ _ _ h g i l (.inr (.inl ⟨q,t,.inr ⟨m,rfl,rfl⟩⟩))
 | bindB i l q t m=>exact fun h g=>f _ _ _ _ _ _ _ h g i l (.inr (.inr (.inl ⟨q,t,.inl ⟨m,rfl,rfl⟩⟩)))
 | occB i l q t m=>exact fun h g=>f _ _ _ _ _ _ _ h g i l (.inr (.inr (.inl ⟨q,t,.inr ⟨m,rfl,rfl⟩⟩)))
 | clash i l q t m=>exact fun h g=>f _ _ _ _ _ _ _ h g i l (.inr (.inr (.inr ⟨q,t,.inl ⟨m,rfl,rfl⟩⟩)))
 | kids i l q t m _ D=>
  exact fun h g=>f _ _ _ _ _ _ _ h g i l (.inr (.inr (.inr ⟨q,t,.inr ⟨m,D h ⟨kq (dS h i g.1),kq (dS h l g.2),rI m⟩⟩⟩)))
 | nil=>exact fun _ _=>.nil
 | stop _ D=>exact fun h g=>.stop (D h ⟨g.1 _ (bi ..),g.2.1 _ (bi ..)⟩)
 | go i _ G J=>
  intro h g;have B:okJ N (.one _ _):=⟨g.1 _ (bi ..),g.2.1 _ (bi ..)⟩
  exact .go (G h B) (J (i.good h B).1 ⟨fun a V=>g.1 a (bk _ V),fun b Y=>g.2.1 b (bk _ Y),by have:=g.2.2;simpa using this⟩)
def UC (N kp:Nat) (st:au) (a b:T) (r:Bool) (st':au):Prop:=∀ (S:ae) (cs ds:List Value) (kb:Nat) (kc:Array Value),RdT S cs a->RdT S ds b->KnU S kc st->
 Tri Tryz.prog RJ [.agg cs.toArray,.agg ds.toArray,kvU kb N kp] [ay kb kc ab] S fun q I' S'=>S'=S/\q=.bool r/\∃ kc',I'=[ay kb kc' ab]/\KnU S kc' st'
section
set_option maxHeartbeats 1000000 in
theorem Bg {N kp:Nat} (hN:N<=1000000) {st G:au} {a b a' b':T} {r:Bool} (hg:Good N st) (hj:okJ N (.one a b)) (c4:dL st a a') (c5:dL st b b')
  (c6:a'.kind≠1->b'.kind=1->UC N kp st b' a' r G) (he:YE (UC N kp) st a' b' r G):UC N kp st a b r G:=by
 intro S cs ds kb kc h h' U w f;have d6:=h.length;have d7:=h'.length;have f1:=dS hg c4 hj.1;have d9:=dS hg c5 hj.2;have h4:=hg.len;obtain ⟨X,hX⟩:∃ X,X=bS [Item.blk kb (.cells kc ab)]:=⟨_,rfl⟩
 rw [<- hX] at f ⊢;apply Bk.2;dsimp only[Bk,dR];refine bq f fun b1 w' f=>?_;refine bq f fun b2 w' f=>?_;have f:Inv w X ([ay b1 cs.toArray ab,ay b2 ds.toArray ab]++[ay kb kc ab]) S w':=f.perm (cT (l₁:=[_,_]) (l₂:=[_]));refine av f 0 ac rfl (by simpa using d6) (Run.call pR qf f (sU hg c4 hj.1.1 h U) fun v' I' S' w'=>?_);rintro ⟨eS,rfl,c7,rfl,a7⟩ _ f;rw [eS] at f;clear eS;refine aq f 0 rfl ac (by simpa using a7.length) (by simpa using d6) (by simpa using a7.one) fun w' f=>?_;have f:Inv w X ([ay b1 c7.toArray ab,ay b2 ds.toArray ab]++[ay kb kc ab]) S w':=f;refine av f 1 ac rfl (by simpa using d7) (Run.call pR qf f (sU hg c5 hj.2.1 h' U) fun v' I' S' w'=>?_);rintro ⟨eS,rfl,e4,rfl,a8⟩ _ f;rw [eS] at f;clear eS;refine aq f 1 rfl ac (by simpa using a8.length) (by simpa using d7) (by simpa using a8.one) fun w' f=>?_;have f:Inv w X [ay b1 c7.toArray ab,ay b2 e4.toArray ab,ay kb kc ab] S w':=f;have f2:=a7;have b6:=a8;obtain ⟨kv,rfl,_,_,_,b0⟩:=RdT.iff.1 a7;obtain ⟨b5,rfl,_,_,_,b3⟩:=RdT.iff.1 a8;obtain ⟨k,n,s,Z⟩:=a';obtain ⟨k',n',Y,g⟩:=b';unfold YE at he;simp only [T.name,T.kids,T.kind,T.n] at b0 b3 f he c6 ⊢;have e0:=b0.le;simp only [maxLen] at e0;refine ⟨fun q w'=>q=.bool (decide (k=1/\k'=1/\n=n'))/\Inv w X [ay b1 #[ax k,ax n,.string s,kv] ab,ay b2 #[ax k',ax n',.string Y,b5] ab,ay kb kc ab] S w',?_,?_⟩
 ·refine ad f 0 rfl aM aw rfl (bn ?_);by_cases e1:k=1
  ·rw [aL e1];refine rpG ?_;refine ad f 1 rfl aM aw rfl (bn ?_);by_cases e2:k'=1
   ·rw [aL e2];refine rpG ?_;refine ad f 0 rfl aQ aw rfl (ad f 1 rfl aQ aw rfl (bn ?_));refine rpG ?_;exact ⟨by simp [e1,e2],f⟩
   ·rw [aS e2];refine rpG ?_;exact ⟨by simp [e2],f⟩
  ·rw [aS e1];refine rpG ?_;exact ⟨by simp [e1],f⟩
 intro q _ _ _ _ _ _ _ _ _ _ _ _ _ _ w';rintro ⟨rfl,f⟩;refine aJ (fun J=>?_) (fun J=>?_)
 ·have:r=true/\G=st:=by
   rcases he with ⟨_,_,_,l,h2⟩|⟨_,l,_⟩|⟨l,_,_⟩|⟨l,_,_⟩
   ·exact ⟨l,h2⟩
   ·exact absurd J.2 l
   ·exact absurd J.1 l
   ·exact absurd J.1 l
  obtain ⟨rfl,rfl⟩:=this;exact ⟨_,_,_,rfl,f.pick [false,false,true],Ext.refl _ _ _,rfl,rfl,_,rfl,U⟩
 refine ad f 0 rfl aM aw rfl (bn (aJ (fun a5=>?_) (fun a5=>?_)))
 ·have a3:(¬ gY st n.toNat (.mk k' n' Y g)/\r=true/\G=st.set n.toNat (some (.mk k' n' Y g))) ∨ (gY st n.toNat (.mk k' n' Y g)/\r=false/\G=st):=by
   rcases he with ⟨l,h2,h3,_⟩|⟨_,_,l⟩|⟨l,_,_⟩|⟨l,_,_⟩
   ·exact absurd ⟨l,h2,h3⟩ J
   ·exact l
   ·exact absurd a5 l
   ·exact absurd a5 l
  obtain ⟨e6,e7,_⟩:=f1.1.var a5;simp only [T.n] at e6 e7;obtain ⟨j,rfl⟩:∃ j:Nat,n=j:=⟨n.toNat,by omega⟩
  refine ad f 0 rfl aQ aw rfl (av f 1 ac rfl rfl (Run.call (A:=[_,_]) KL Lp f (JU hN hg d9.1 d9.2 j (by omega) b6 U) fun v' I' S' w'=>?_));rintro ⟨eS,rfl,rfl⟩ _ f;rw [eS] at f;clear eS;have f:Inv w X [ay b1 #[ax k,ax j,.string s,kv] ab,ay b2 #[ax k',ax n',.string Y,b5] ab,ay kb kc ab] S w':=f;refine aE (fun hb=>?_) (fun hb=>?_)
  ·have b4:gY st (Int.toNat j) (.mk k' n' Y g):=@of_decide_eq_true _ (Classical.propDecidable _) hb;have:r=false/\G=st:=by
    rcases a3 with ⟨l,_⟩|⟨_,l⟩
    ·exact absurd b4 l
    ·exact l
   obtain ⟨rfl,rfl⟩:=this;exact ⟨_,_,_,rfl,f.pick [false,false,true],Ext.refl _ _ _,rfl,rfl,_,rfl,U⟩
  ·have b4:¬ gY st (Int.toNat j) (.mk k' n' Y g):=@of_decide_eq_false _ (Classical.propDecidable _) hb;have:r=true/\G=st.set (Int.toNat j) (some (.mk k' n' Y g)):=by
    rcases a3 with ⟨_,l⟩|⟨l,_⟩
    ·exact l
    ·exact absurd l b4
   obtain ⟨rfl,rfl⟩:=this;rw [dq];refine ad f 0 rfl aQ aw rfl (av f 1 ac rfl rfl (az ag (by omega) ?_));rw [dr];refine rX f 2 rfl ac rfl (by have:=U.1;exact Uj (by omega)) b6.one fun w' f=>?_;exact ⟨_,_,_,rfl,f.pick [false,false,true],Ext.refl _ _ _,rfl,rfl,_,rfl,U.set (by omega) b6⟩
 refine ad f 1 rfl aM aw rfl (bn (aJ (fun a0=>?_) (fun a0=>?_)))
 ·refine av f 1 ac rfl rfl (av f 0 ac rfl rfl (Run.call (A:=[_,_]) iE iM f (c6 a5 a0 S _ _ kb kc b6 f2 U) fun v' I' S' w'=>?_));rintro ⟨eS,rfl,f5,rfl,c8⟩ _ f;rw [eS] at f;clear eS;exact ⟨_,_,_,rfl,f.pick [false,false,true],Ext.refl _ _ _,rfl,rfl,_,rfl,c8⟩
 have a3:(kK (.mk k n s Z) (.mk k' n' Y g)=false/\r=false/\G=st) ∨ (kK (.mk k n s Z) (.mk k' n' Y g)=true/\Chain (UC N kp) st Z g r G):=by
  rcases he with ⟨l,_⟩|⟨l,_,_⟩|⟨_,l,_⟩|⟨_,_,l⟩
  ·exact absurd l a5
  ·exact absurd l a5
  ·exact absurd l a0
  ·exact l
 refine ⟨fun q w'=>q=.bool (!kK (.mk k n s Z) (.mk k' n' Y g))/\Inv w X [ay b1 #[ax k,ax n,.string s,kv] ab,ay b2 #[ax k',ax n',.string Y,b5] ab,ay kb kc ab] S w',?_,?_⟩
 ·refine ad f 0 rfl aM aw rfl (ad f 1 rfl aM aw rfl (dw ?_));by_cases e1:k=k'
  ·rw [aL e1];refine rpG ?_;refine ad f 0 rfl aQ aw rfl (ad f 1 rfl aQ aw rfl (dw ?_));by_cases e2:n=n'
   ·rw [aL e2];refine rpG ?_;refine ad f 0 rfl aW aP rfl (ad f 1 rfl aW aP rfl (Ea ?_));by_cases e3:s=Y
    ·rw [aL e3];refine rpG ?_;refine ad f 0 rfl ao aj rfl (aI b0 ag (ad f 1 rfl ao aj rfl (aI b3 ag (dw ?_))));refine rpG ?_;exact ⟨by rw [eM,aL e1,aL e2,aL e3,R6];rfl,f⟩
    ·rw [aS e3];refine rpG ?_;exact ⟨by rw [eM,aL e1,aL e2,aS e3];rfl,f⟩
   ·rw [aS e2];refine rpG ?_;exact ⟨by rw [eM,aL e1,aS e2];rfl,f⟩
  ·rw [aS e1];refine rpG ?_;exact ⟨by rw [eM,aS e1];rfl,f⟩
 intro q;(iterate 27 intro);intro w';rintro ⟨rfl,f⟩;cases hd:kK (.mk k n s Z) (.mk k' n' Y g)
 ·refine aE (fun _=>?_) (fun hb=>by cases hb);have:r=false/\G=st:=by
   rcases a3 with ⟨_,l⟩|⟨l,_⟩
   ·exact l
   ·rw [hd] at l;cases l
  obtain ⟨rfl,rfl⟩:=this;exact ⟨_,_,_,rfl,f.pick [false,false,true],Ext.refl _ _ _,rfl,rfl,_,rfl,U⟩
 refine aE (fun hb=>by cases hb) (fun _=>?_);have f3:Z.length=g.length:=rI hd;have f4:Chain (UC N kp) st Z g r G:=by
  rcases a3 with ⟨l,_⟩|⟨_,l⟩
  ·rw [hd] at l;cases l
  ·exact l
 refine ⟨fun i w'=>∃ (j:Nat) (b9:au) (a4:Array Value),j<=Z.length/\i=ax j/\Chain (UC N kp) b9 (Z.drop j) (g.drop j) r G/\KnU S a4 b9/\Inv w X [ay b1 #[ax k,ax n,.string s,kv] ab,ay b2 #[ax k',ax n',.string Y,b5] ab,ay kb a4 ab] S w',fun i _=>Z.length - (intOf i).toNat,⟨0,st,kc,bf _,rfl,f4,U,f⟩,?_⟩;intro t7 _ _ _ f6 f7 f8 f9 g0 g1 g2 g3 g4 g5 g6 g7 g8 _ _ _ _ _ w';rintro ⟨j,b9,a4,hj,rfl,a9,b8,f⟩;refine ad f 0 rfl ao aj rfl (aI b0 ag (bM (aJ (fun e5=>?_) (fun e5=>?_))))
 ·have b7:j<Z.length:=by omega
  have c3:j<g.length:=by omega
  obtain ⟨c1,o1,M,a1,E1,g9,rfl,e8,d2⟩:=b0.at_ b7;obtain ⟨c2,o2,O,a2,E2,h0,rfl,e9,d3⟩:=b3.at_ c3;rw [dB b7,dB c3] at a9;obtain ⟨r1,c0,a6,f0,d4⟩:=a9.head;have a6:=a6 S _ _ kb a4 d2 d3 b8;refine ⟨fun D Qt Kb FT Ee DV FU FS xB wx xD wV yn xL w_=>Fx D 0 [xL=eu b1 3,yn=eF c1 o1 Z.length M,wV=ax j,xD=eu c1 (o1+j * 4),wx=.agg (aO a1 (o1+j * 4) 4).toArray,xB=eu b2 3,FS=eF c2 o2 g.length O,FU=ax j,DV=eu c2 (o2+j * 4),Ee=.agg (aO a2 (o2+j * 4) 4).toArray,FT=kvU kb N kp,Kb=.bool r1,Qt=.bool (!r1)]/\(D 11=false->Inv w X [ay b1 #[ax k,ax n,.string s,eF c1 o1 Z.length M] ab,ay b2 #[ax k',ax n',.string Y,eF c2 o2 g.length O] ab,ay kb a4 ab] S w_)/\(D 11=true->∃ V,KnU S V c0/\Inv w X [ay b1 #[ax k,ax n,.string s,eF c1 o1 Z.length M] ab,ay b2 #[ax k',ax n',.string Y,eF c2 o2 g.length O] ab,ay kb V ab] S w_)/\∃ m,Inv w X [ay b1 #[ax k,ax n,.string s,eF c1 o1 Z.length M] ab,ay b2 #[ax k',ax n',.string Y,eF c2 o2 g.length O] ab,ay kb m ab] S w_,⟨Fx.nil _ _,⟨fun _=>f.draw,aU,a4,f.draw⟩⟩,⟨?_,?_,?_,?_,?_,?_,?_,?_,?_,?_,?_,?_,?_,trivial⟩,?_⟩;all_goals (intro D bw;intros;rename_i Qt Kb FT Ee DV FU FS xB wx xD wV yn xL w_ c9;have B:=c9.1;obtain ⟨⟨co,cn,bP,cj,cA,bQ,bO,cM,de,dv,bU,cC,cY,_⟩,⟨o,t,m,f⟩⟩:=c9)
  apply ah ao;rotate_left
  obtain rfl:=co ‹_›;apply aD f 0 aj rfl rfl;rotate_left;rotate_left
  obtain rfl:=cn ‹_›;obtain rfl:=bP ‹_›;apply az ag b7;rotate_left
  obtain rfl:=cj ‹_›;refine bV ac d2.length (fun j v hj=>by rw [f.cellS e8];exact aA rfl j v hj) ?_;rotate_left
  apply ah ao;rotate_left
  obtain rfl:=bQ ‹_›;apply aD f 1 aj rfl rfl;rotate_left;rotate_left
  obtain rfl:=bO ‹_›;obtain rfl:=cM ‹_›;apply az ag c3;rotate_left
  obtain rfl:=de ‹_›;refine bV ac d3.length (fun j v hj=>by rw [f.cellS e9];exact aA rfl j v hj) ?_;rotate_left;rotate_left
  obtain rfl:=cA ‹_›;obtain rfl:=dv ‹_›;obtain rfl:=bU ‹_›;refine Run.call (A:=[_,_]) iE iM (o bw) a6 fun v' I' S' w_=>?_;rintro ⟨eS,rfl,V,rfl,a0⟩ _ f;rw [eS] at f;have o:=fun (h:aC D 11 11=false)=>(Bool.noConfusion h:Inv w X [ay b1 #[ax k,ax n,.string s,eF c1 o1 Z.length M] ab,ay b2 #[ax k',ax n',.string Y,eF c2 o2 g.length O] ab,ay kb a4 ab] S w_)
  have t:=fun (_:aC D 11 11=true)=>(⟨V,a0,f⟩:∃ V,KnU S V c0/\Inv w X [ay b1 #[ax k,ax n,.string s,eF c1 o1 Z.length M] ab,ay b2 #[ax k',ax n',.string Y,eF c2 o2 g.length O] ab,ay kb V ab] S w_)
  obtain ⟨m,f⟩:∃ m,Inv w X [ay b1 #[ax k,ax n,.string s,eF c1 o1 Z.length M] ab,ay b2 #[ax k',ax n',.string Y,eF c2 o2 g.length O] ab,ay kb m ab] S w_:=⟨V,f⟩
  rotate_left;obtain rfl:=cC ‹_›;apply cq;rotate_left
  all_goals try exact ⟨B.set _ (by first|rfl|assumption|trivial),o,t,m,f⟩
  obtain ⟨rfl,rfl,rfl,rfl,rfl,rfl,rfl,rfl,rfl,rfl,rfl,rfl,rfl,_⟩:=B.all;have nH:D 11=true:=by assumption
  clear B;obtain ⟨V,a0,f⟩:=t nH;clear o t;refine aE (fun d0=>?_) (fun d1=>?_)
  ·simp only [lg] at d0;obtain ⟨rfl,rfl⟩:=f0 d0;exact ⟨_,_,_,rfl,f.pick [false,false,true],Ext.refl _ _ _,rfl,rfl,_,rfl,a0⟩
  ·simp only [rW] at d1;refine bA (by omega) ?_;exact ⟨⟨j+1,c0,V,b7,rfl,d4 d1,a0,f⟩,by simp [intOf];omega⟩
 ·have:j=Z.length:=by omega
  subst this;rw [dY,f3,dY] at a9;obtain ⟨rfl,rfl⟩:=a9.done;exact ⟨_,_,_,rfl,f.pick [false,false,true],Ext.refl _ _ _,rfl,rfl,_,rfl,b8⟩
theorem jT {N kp:Nat} (J:N<=1000000) {st f:au} {a b:T} {r:Bool} (j:Good N st) (l:okJ N (.one a b)) (O:Uni st (.one a b) r f):UC N kp st a b r f:=by
 refine Uni.calls (N:=N) (Call:=UC N kp) (fun st a b o q r f j l h i M=>?_) O j l;refine Bg J j l h i (fun t B=>?_) M;have D:=dS j h l.1;have G:=dS j i l.2;have m:(¬ gY st q.n.toNat o/\r=true/\f=st.set q.n.toNat (some o)) ∨ (gY st q.n.toNat o/\r=false/\f=st):=by
  rcases M with ⟨g,_⟩|⟨g,_,_⟩|⟨_,_,g⟩|⟨_,g,_⟩
  ·exact absurd g t
  ·exact absurd g t
  ·exact g
  ·exact absurd B g
 refine Bg J j ⟨G,D⟩ (.stop (iV i)) (.stop (iV h)) (fun g _=>absurd B g) (.inr (.inl ⟨B,fun g=>t g.1,m⟩))
end
end
section
open Go Go.RowKit
end
section
open Go Go.RowKit
end
section
open Go Go.RowKit
section
theorem ZQ {vs:List Int} {n:Int} (hn:inI n) (hl:vs.length<=1000000000):inI (yd vs n n 0):=by
 rcases LU vs n n 0 with h|h
 ·rw [h];exact hn
 ·simp only [inI] at hn ⊢;omega
theorem Il (vs:List Int) (a8:vs.length<=1000000000):∀ (t:T) (S:ae) (cs:hZ) (v:Value),RdT S cs t->RdSl S 1 gW v vs->wT t<=1048576->kt Ob [.agg cs.toArray,v] [] S (Fd S (jJ vs t)):=by
 refine T.ind fun k n s Y ih S cs v h hv hw=>?_;intro w a;obtain ⟨kv,rfl,h1,h2,hs,a2⟩:=RdT.iff.1 h;simp only [T.name,T.kids,T.kind,T.n] at h1 h2 hs a2 ⊢;simp only [wT] at hw;obtain ⟨N,hN⟩:∃ N,N=if k=1 then yd vs n n 0 else n:=⟨_,rfl⟩
 have b0:inI N:=by
  rw [hN];split
  ·exact ZQ h2 a8
  ·exact h2
 refine yw.2 ?_;dsimp only[yw,bl];refine bq a fun b1 w' a=>?_;refine aG a aV fun b2 w' a=>?_;refine ad a 0 rfl aM aw rfl ?_;refine ad a 0 rfl aQ aw rfl ?_;refine ad a 0 rfl aW aP rfl ?_;refine jp ?_;refine aG a aV fun O w' a=>?_;refine aq a 2 rfl ac rfl rfl (by simp [Value.oneCell']) fun w' a=>?_;refine ⟨fun i w'=>∃ (j:Nat) (l:Int),j<=vs.length/\i=ax j/\(if k=1 then yd (vs.drop j) n l j else l)=N/\
   Inv w [] [ay b1 #[ax k,ax n,.string s,kv] ab,ay b2 bb ab,ay O #[ax k,ax l,.string s,hV] ab] S w',
  fun i _=>vs.length - (intOf i).toNat,⟨0,n,bf _,rfl,hN.symm,a⟩,?_⟩
 intro t6;(iterate 20 intro);intro w';rintro ⟨j,l,hj,rfl,B,a⟩;refine ⟨fun t w'=>t=.bool (decide (j<vs.length) && decide (k=1))/\Inv w [] [ay b1 #[ax k,ax n,.string s,kv] ab,ay b2 bb ab,ay O #[ax k,ax l,.string s,hV] ab] S w',?_,?_⟩
 ·refine aI hv cU (bM ?_);by_cases U:j<vs.length
  ·rw [aL (show (j:Int)<(vs.length:Int) by omega)];refine rpG ?_;refine ad a 0 rfl aM aw rfl (bn ?_);refine rpG ?_;exact ⟨by rw [aL U];rfl,a⟩
  ·rw [aS (show ¬ (j:Int)<(vs.length:Int) by omega)];refine rpG ?_;exact ⟨by rw [aS U];rfl,a⟩
 intro t _ _ _ _ _ _ _ _ w';rintro ⟨rfl,a⟩;refine aE (fun hb=>?_) (fun hb=>?_)
 ·simp only [aZ,bt] at hb;obtain ⟨U,hk⟩:=hb;rw [ai hk,dB U,yd] at B;refine ⟨fun w'=>Inv w [] [ay b1 #[ax k,ax n,.string s,kv] ab,ay b2 bb ab,ay O #[ax k,ax (if vs[j]=n then (j:Int) else l),.string s,hV] ab] S w',?_,?_⟩
  ·obtain ⟨b,o,cap,c,E,fz,rfl,hS,hR⟩:=hv.at_ U;refine ⟨fun D rr kY gQ lO jW pp oR w_=>Fx D 0 [oR=eF b o vs.length cap,pp=ax j,jW=eu b (o+j * 1),lO=ax vs[j],gQ=eu b1 1,kY=ax n,rr=.bool (decide (vs[j]=n))]/\Inv w [] [ay b1 #[ax k,ax n,.string s,kv] ab,ay b2 bb ab,ay O #[ax k,ax l,.string s,hV] ab] S w_,⟨Fx.nil _ _,a.draw⟩,⟨?_,?_,?_,?_,?_,?_,?_,trivial⟩,?_⟩;all_goals (intro D bw;intros;rename_i rr kY gQ lO jW pp oR w_ a1;have g:=a1.1;obtain ⟨⟨co,cn,bP,cj,cA,bQ,bO,_⟩,a⟩:=a1)
   rotate_left;rotate_left;obtain rfl:=co ‹_›;obtain rfl:=cn ‹_›;apply az cU U;rotate_left
   obtain rfl:=bP ‹_›;refine cS aw (by rw [a.cellS hS];exact aA hR 0 _ rfl) ?_;rotate_left
   apply ah aQ;rotate_left
   obtain rfl:=cA ‹_›;apply aD a 0 aw rfl rfl;rotate_left
   obtain rfl:=cj ‹_›;obtain rfl:=bQ ‹_›;apply bn;rotate_left
   all_goals try exact ⟨g.set _ (by first|rfl|assumption|trivial),a⟩
   obtain ⟨rfl,rfl,rfl,rfl,rfl,rfl,rfl,_⟩:=g.all;clear g co cn bP cj cA bQ bO;refine aJ (fun he=>?_) (fun he=>?_)
   ·rw [ai he];exact cX a 2 rfl aQ aw rfl rfl rfl fun w' a=>a
   ·rw [af he];exact a
  intro _ _ _ _ _ _ _ _ _ w' a;refine bA (by omega) ?_;exact ⟨⟨j+1,_,U,rfl,by rw [ai hk];exact B,a⟩,by simp [intOf];omega⟩
 have a4:l=N:=by
  by_cases hk:k=1
  ·rw [ai hk] at B;have:j=vs.length:=by
    have:decide (j<vs.length)=false:=by
     rw [aL hk,Bool.and_true] at hb;exact hb
    have:=of_decide_eq_false this;omega
   rw [this,dY] at B;exact B
  ·rw [af hk] at B;exact B
 clear B hb;subst a4;have a:=a.rowNil ab 4;refine ⟨fun i w'=>∃ (j:Nat) (r:Value) (Ls:List bz) (css:List (hZ)),j<=Y.length/\i=ax j/\Grown 4 TrT Ls css (pO vs (Y.take j))/\
   Inv w [] (ay b1 #[ax k,ax n,.string s,kv] ab::.blk b2 (.cells bb ab)::.blk O (.cells #[ax k,ax l,.string s,r] ab)::aK r ab 4 css::bE Ls.flatten) S w',
  fun i _=>Y.length - (intOf i).toNat,⟨0,_,[],[],bf _,rfl,Grown.nil _ _,a⟩,?_⟩
 intro t7;(iterate 19 intro);intro w';rintro ⟨j,r,Ls,css,hj,rfl,hg,a⟩;refine ad a 0 rfl ao aj rfl (aI a2 ag (bM (aJ (fun U=>?_) (fun U=>?_))))
 ·have a0:j<Y.length:=by omega
  have b6:(Y.take j).length=j:=by simp;omega
  have b4:=hg.hc;rw [wU] at b4;have hm:=bJ a0;have b7:=lf hm;obtain ⟨b,o,cap,c,E,fz,rfl,hS,hR⟩:=a2.at_ a0;refine ⟨fun D qW nh s6 tV rf qp lL oF nz pD mn nj w_=>Fx D 0 [nj=eu O 3,mn=r,pD=eu b1 3,nz=eF b o Y.length cap,oF=ax j,lL=eu b (o+j * 4),qp=.agg (aO c (o+j * 4) 4).toArray,rf=v,True,True,True,qW=eu O 3,True]/\∃ M f G,(D 8=true->tV=.agg f.toArray/\TrT M f (jJ vs Y[j]))/\(D 9=true->s6=eF G 0 1 1)/\(D 9=true->D 8=true)/\(D 10=true->D 9=true)/\(D 12=true->D 10=true)/\(D 12=true->D 1=true)/\Inv w [] (bj (ay b1 #[ax k,ax n,.string s,eF b o Y.length cap] ab) (ay b2 bb ab) (ay O #[ax k,ax l,.string s,r] ab) (ay O #[ax k,ax l,.string s,nh] ab) (aK r ab 4 css) (aK nh ab 4 (css++[f])) (bE Ls.flatten) M (ay G f.toArray ab) (D 8) (D 9) (D 10) (D 12)) S w_,⟨Fx.nil _ _,⟨[],[],0,aU,aU,aU,aU,aU,aU,by simpa [bj,bE] using a.draw⟩⟩,⟨?_,?_,?_,?_,?_,?_,?_,?_,?_,?_,?_,?_,?_,trivial⟩,?_⟩;all_goals (intro D bw;intros;rename_i qW nh s6 tV rf qp lL oF nz pD mn nj w_ a1;have g:=a1.1;obtain ⟨⟨co,cn,bP,cj,cA,bQ,bO,cM,de,dv,bU,cC,cY,_⟩,⟨M,f,G,V,e8,k8,Z,q,k1,a⟩⟩:=a1)
  apply ah ao;rotate_left
  obtain rfl:=co ‹_›;have J:D 12=false:=bN.2 fun h=>by rw [k1 h] at bw;cases bw
  refine aD (b:=O) a 2 (c:=(#[ax k,ax l,.string s,r])) aj (by rw [J];rfl) rfl ?_;have k1:=fun (_:aC D 1 12=true)=>(rfl:aC D 1 1=true)
  rotate_left;apply ah ao;rotate_left
  obtain rfl:=bP ‹_›;apply aD a 0 aj rfl rfl;rotate_left;rotate_left
  obtain rfl:=cj ‹_›;obtain rfl:=cA ‹_›;apply az ag a0;rotate_left
  obtain rfl:=bQ ‹_›;refine bV ac hR.length (fun j v hj=>by rw [a.cellS hS];exact aA rfl j v hj) ?_;rotate_left;rotate_left
  obtain rfl:=bO ‹_›;obtain rfl:=cM ‹_›;have f8:D 9=false:=bN.2 fun h=>by rw [k8 h] at bw;cases bw
  have f9:D 10=false:=bN.2 fun h=>by rw [Z h] at f8;cases f8
  have J:D 12=false:=bN.2 fun h=>by rw [q h] at f9;cases f9
  rw [bw,f8,f9,J] at a;refine Run.call0 yh yZ a (ih _ (bJ a0) S _ _ hR hv (by omega)) fun v' I' S w_=>?_;rintro ⟨rfl,f,M,rfl,rfl,hT⟩ _ a;have V:aC D 8 8=true->Value.agg f.toArray=Value.agg f.toArray/\TrT M f (jJ vs Y[j]):=fun _=>⟨rfl,hT⟩
  have k8:=fun (_:aC D 8 9=true)=>(rfl:aC D 8 8=true)
  have a:Inv w [] (bj (ay b1 #[ax k,ax n,.string s,eF b o Y.length cap] ab) (ay b2 bb ab) (ay O #[ax k,ax l,.string s,r] ab) (ay O #[ax k,ax l,.string s,nh] ab) (aK r ab 4 css) (aK nh ab 4 (css++[f])) (bE Ls.flatten) M (ay G f.toArray ab) true (D 9) (D 10) (D 12)) S w_:=by
   rw [f8,f9,J];simpa [bj] using a
  rotate_left;have Db:=de ‹_›;have f9:D 10=false:=bN.2 fun h=>by rw [Z h] at bw;cases bw
  have J:D 12=false:=bN.2 fun h=>by rw [q h] at f9;cases f9
  obtain ⟨q7,hT⟩:=V ‹D 8=true›;subst q7;rw [‹D 8=true›,bw,f9,J] at a;refine dQ a bx (by simp [Value.cells,hT.length]) (by omega) (by omega) fun G w_ a=>?_;have V:aC D 9 8=true->Value.agg f.toArray=Value.agg f.toArray/\TrT M f (jJ vs Y[j]):=fun _=>⟨rfl,hT⟩
  have e8:=fun (_:aC D 9 9=true)=>(rfl:Value.slice (some ⟨G,0,none⟩) 1 1=_)
  have k8:=fun (_:aC D 9 9=true)=>‹D 8=true›;have Z:=fun (_:aC D 9 10=true)=>(rfl:aC D 9 9=true)
  have a:Inv w [] (bj (ay b1 #[ax k,ax n,.string s,eF b o Y.length cap] ab) (ay b2 bb ab) (ay O #[ax k,ax l,.string s,r] ab) (ay O #[ax k,ax l,.string s,nh] ab) (aK r ab 4 css) (aK nh ab 4 (css++[f])) (bE Ls.flatten) M (ay G f.toArray ab) (D 8) true (D 10) (D 12)) S w_:=by
   rw [‹D 8=true›,f9,J];simpa [bj,Value.cells] using a
  rotate_left;obtain rfl:=cn ‹_›;have K2:=dv ‹_›;have J:D 12=false:=bN.2 fun h=>by rw [q h] at bw;cases bw
  have q8:=e8 ‹D 9=true›;subst q8;obtain ⟨_,hT⟩:=V ‹D 8=true›;rw [‹D 8=true›,‹D 9=true›,bw,J] at a;have a5:((bj (ay b1 #[ax k,ax n,.string s,eF b o Y.length cap] ab) (ay b2 bb ab) (ay O #[ax k,ax l,.string s,mn] ab) (ay O #[ax k,ax l,.string s,nh] ab) (aK mn ab 4 css) (aK nh ab 4 (css++[f])) (bE Ls.flatten) M (ay G f.toArray ab) true true false false))[4+(bE Ls.flatten).length+(bE M).length]?=some (ay G f.toArray ab):=by
   have e4:4+(bE Ls.flatten).length+(bE M).length=((bE Ls.flatten).length+(bE M).length)+1+1+1+1:=by omega
   rw [e4];simp only [bj,nL];rw [jr (by omega),qS,jr (be _),fH];rfl
  refine eT a 3 f bx (by omega) rfl (by rw [hT.length]) (m:=1) (o:=0) ?_ hT.one (by omega) (by omega) fun v' w_ a=>?_
  ·intro i u hi;rw [a.cellL a5,dr];simpa using hi
  rw [fU] at a;have Z:=fun (_:aC D 10 10=true)=>‹D 9=true›;have q:=fun (_:aC D 10 12=true)=>(rfl:aC D 10 10=true)
  have a:Inv w [] (bj (ay b1 #[ax k,ax n,.string s,eF b o Y.length cap] ab) (ay b2 bb ab) (ay O #[ax k,ax l,.string s,mn] ab) (ay O #[ax k,ax l,.string s,v'] ab) (aK mn ab 4 css) (aK v' ab 4 (css++[f])) (bE Ls.flatten) M (ay G f.toArray ab) (D 8) (D 9) true (D 12)) S w_:=by
   rw [‹D 8=true›,‹D 9=true›,J];exact a
  rotate_left;apply ah ao;rotate_left
  obtain rfl:=cC ‹_›;have xE:=bU ‹_›;rw [‹D 8=true›,‹D 9=true›,‹D 10=true›,bw] at a;obtain ⟨va,vn,vc,a3⟩:=Inv.rowSlice a 3 rfl;refine dD a 2 (n:=1) (by rw [a3];rfl) (by decide +kernel) rfl (by simp) (by rw [a3];simp [Value.cells,Value.oneCell']) fun w_ a=>?_;have a6:Value.cells nh=#[nh]:=by rw [a3];rfl
  rw [a6] at a;have k1:=fun (_:aC D 12 12=true)=>‹D 1=true›;have q:=fun (_:aC D 12 12=true)=>‹D 10=true›;have a:Inv w [] (bj (ay b1 #[ax k,ax n,.string s,eF b o Y.length cap] ab) (ay b2 bb ab) (ay O #[ax k,ax l,.string s,r] ab) (ay O #[ax k,ax l,.string s,nh] ab) (aK r ab 4 css) (aK nh ab 4 (css++[f])) (bE Ls.flatten) M (ay G f.toArray ab) (D 8) (D 9) (D 10) true) S w_:=by
   rw [‹D 8=true›,‹D 9=true›,‹D 10=true›];exact a
  rotate_left
  all_goals try exact ⟨g.set _ (by first|rfl|assumption|trivial),M,f,G,V,e8,k8,Z,q,k1,a⟩
  obtain ⟨rfl,rfl,rfl,rfl,rfl,rfl,rfl,rfl,Db,K2,xE,rfl,_,_⟩:=g.all;have Dc:D 8=true:=by assumption
  have Og:D 9=true:=by assumption
  have Dg:D 10=true:=by assumption
  have U2:D 12=true:=by assumption
  clear g;obtain ⟨_,hT⟩:=V Dc;rw [Dc,Og,Dg,U2] at a;refine bA (by omega) ?_;refine ⟨⟨j+1,nh,Ls++[M],css++[f],a0,rfl,?_,?_⟩,by simp [intOf];omega⟩
  ·rw [UX vs Y j a0];exact hg.snoc hT hT.length
  ·simp only [AB,jY,uZ,dc,fy];apply a.sub;simp only [bj];rw [<- eY];exact (((eh _ _).cons_cons _).cons_cons _).cons_cons _ |>.cons_cons _
 ·have:j=Y.length:=by omega
  subst this;rw [fM] at hg;obtain ⟨va,vn,vc,a9⟩:=a.rowSlice 3 rfl;have b5:r.oneCell'=true:=by rw [a9];rfl
  refine av a 2 ac rfl rfl (aq a 1 rfl ac rfl rfl ?_ fun w' a=>?_)
  ·intro u hu;have a7:u∈([ax k,ax l,.string s,r]:hZ):=hu;simp at a7;rcases a7 with rfl|rfl|rfl|rfl <;> first|rfl|exact b5
  apply bm a 1 ac rfl rfl;have a:Inv w [] ([]++(aK r ab 4 css::bE Ls.flatten)) S w':=a.sub (eR [_,_,_] _);obtain ⟨L,hT,a⟩:=Inv.rowTree a hg;exact ⟨_,_,_,rfl,a,Ext.refl _ _ _,rfl,_,L,rfl,rfl,TrT.iff.2 ⟨r,by rw [jJ,<- hN];rfl,by rw [jJ];exact h1,by rw [jJ,<- hN];exact b0,by rw [jJ];exact hs,by rw [jJ];exact hT⟩⟩
end
end
section
open Go Go.RowKit
section
variable {w:World} {K:Value->World->Prop}
end
theorem Sz (ts:List T) (j:Nat) (h:j<ts.length) (l:List Int):ef (ts.drop j) l=ef (ts.drop (j+1)) (hY ts[j] l):=by
 rw [dB h,ef]
section
theorem RdC.zero (S:ae):RdC S [ax 0,ax 0,.string ⟨#[]⟩,hV,hV] ⟨⟨0,0,⟨#[]⟩,[]⟩,[]⟩:=
 ⟨[ax 0,ax 0,.string ⟨#[]⟩,hV],hV,rfl,RdT.iff.2 ⟨_,rfl,by simp [inI,T.kind],by simp [inI,T.n],by rw [T.name];decide +kernel,⟨none,0,rfl,be _,bf _,.inl rfl⟩⟩,⟨none,0,rfl,be _,bf _,.inl rfl⟩⟩
end
end
section
open Go Go.RowKit
mutual
def uX:T->Int->Bool
 | .mk _ _ _ ks,d=>if d<1 then false else Xl ks (d - 1)
def Xl:List T->Int->Bool
 | [],_=>true
 | t::ts,d=>uX t d && Xl ts d
end
theorem Cd:∀ (ts:List T) (d:Int),Xl ts d=ts.all fun t=>uX t d
 | [],_=>rfl
 | t::ts,d=>by rw [Xl,Cd ts d];rfl
def bL (u:T):Bool:=decide (ez u<=120) && uX u 30
theorem Do (us:List T) (j:Nat) (h:j<us.length):dx (us.take (j+1))=dx (us.take j)+ez us[j]:=by
 induction us generalizing j with
 | nil=>simp at h
 | cons u us a=>
  cases j with
  | zero=>simp only [tf,NA,pi,dx];omega
  | succ j=>
   have:=a j (by simpa using h);simp only [tf,Z9,dx] at *;omega
theorem tk (us:List T) (j:Nat):dx (us.take j)<=dx us:=by
 induction us generalizing j with
 | nil=>simp
 | cons u us a=>
  cases j with
  | zero=>simp only [NA];exact eK _
  | succ j=>
   have:=a j;simp only [tf,dx];omega
theorem jz (k n:Int) (s:ByteArray) (a:List T):ez (.mk k n s a)=1+dx a:=rfl
theorem lY {w:World} {v:Value} {e:TypeId} {k n:Nat} {xs:hZ} (h:(Item.row v e k n xs).holds w):v.cells=#[v]/\v.oneCell'=true:=by
 have h:w.ownsRow 0 e k v n xs:=h;rcases h.2 with ⟨rfl,_⟩|⟨g,cap,a,rfl,_⟩ <;> exact ⟨rfl,rfl⟩
section
theorem iF {K:Value->World->Prop} {w:World} (hk:K (.agg bb) w):Run Tryz.prog (bZ ab []) w K:=by
 refine Run.of ?_ hk
 kernel_rfl
theorem OP:∀ (t:T) (d:Int) (S:ae) (cs:hZ),RdT S cs t->-1000000<=d->d<=1000000->ll Uw [.agg cs.toArray,ax d] S (.bool (uX t d)):=by
 refine T.ind fun k n s l M d S cs h N O=>?_;intro w a;obtain ⟨kv,rfl,_,_,_,m⟩:=RdT.iff.1 h;simp only [T.name,T.kids,T.kind,T.n] at m ⊢;have q:=m.le;simp only [maxLen] at q;apply Gh.2;dsimp only[Gh,bl];refine bq a fun U w' a=>?_;rw [uX];refine bM (aJ (fun hd=>?_) (fun hd=>?_))
 ·rw [ai hd];exact done a rfl
 rw [af hd,Cd];refine ⟨fun i w'=>∃ j:Nat,j<=l.length/\i=ax j/\((l.drop j).all fun t=>uX t (d - 1))=(l.all fun t=>uX t (d - 1))/\Inv w [] [ay U #[ax k,ax n,.string s,kv] ab] S w',
  fun i _=>l.length - (intOf i).toNat,⟨0,bf _,rfl,rfl,a⟩,?_⟩
 intro Y;(iterate 17 intro);intro w';rintro ⟨j,Z,rfl,f,a⟩;refine ad a 0 rfl ao aj rfl (aI m ag (bM (aJ (fun B=>?_) (fun B=>?_))))
 ·have o:j<l.length:=by omega
  have g:=HK (fun t=>uX t (d - 1)) l j o;refine ad a 0 rfl ao aj rfl (cL a m ag ac o (fun _ _=>RdT.length) fun cs D=>?_);refine je (by omega) (Run.callPure Fh Ez a (M _ (bJ o) (d - 1) S cs D (by omega) (by omega)) fun w' a=>?_);apply cq;refine aE (fun G=>done a ?_) (fun V=>?_)
  ·have r:uX l[j] (d - 1)=false:=by simpa using G
   rw [<- f,g,r];rfl
  ·have J:uX l[j] (d - 1)=true:=by simpa using V
   refine bA (by omega) ?_;exact ⟨⟨j+1,o,rfl,by rw [<- f,g,J];rfl,a⟩,by simp [intOf];omega⟩
 ·have:j=l.length:=by omega
  subst this;exact done a (by rw [<- f,dY];rfl)
def aea (kb:Nat) (kc:Array Value) (u:T) (room:Int):Value->List Item->ae->Prop:=fun q I' S'=>I'=[ay kb kc ab]/\
 ∃ cs':List Value,cs'.length=4/\(∀ x∈cs',x.oneCell'=true)/\q=.tuple #[.agg cs'.toArray,ax (if ez u<=room then room - ez u else -1)]/\(ez u<=room->RdT S' cs' u)
def FC (N kp:Nat) (st:au) (t u:T):Prop:=∀ (S:ae) (cs:List Value) (kb:Nat) (kc:Array Value) (room:Int),RdT S cs t->KnU S kc st->-1<=room->room<=1000000->
 Tri Tryz.prog JA [.agg cs.toArray,kvU kb N kp,ax room] [ay kb kc ab] S (aea kb kc u room)
theorem mP:∀ x∈([ax 0,ax 0,.string ⟨#[]⟩,hV]:hZ),x.oneCell'=true:=by simp [Value.oneCell']
theorem PZ {N kp:Nat} {st:au} {t v:T} {us:List T} (hg:Good N st) (a3:dL st t v) (a4:okU N t/\wT t<=1048576) (c9:us.length=v.kids.length)
  (hk:∀ i (h:i<us.length) (h':i<v.kids.length),FC N kp st v.kids[i] us[i]):FC N kp st t (.mk v.kind v.n v.name us):=by
 intro S cs r B g h a5 d0 d1 w a;have b2:=h.length;have c3:=dS hg a3 a4;obtain ⟨X,hX⟩:∃ X,X=bS [Item.blk r (.cells B ab)]:=⟨_,rfl⟩
 rw [<- hX] at a ⊢;have d6:=eK us;apply qh.2;dsimp only[qh,dR];refine bq a fun Y w' a=>?_;refine aG a aV fun Z w' a=>?_;have a:Inv w X ([ay Y cs.toArray ab,ay Z bb ab]++[ay r B ab]) S w':=a.perm (cT (l₁:=[_,_]) (l₂:=[_]));refine bM (aJ (fun b7=>?_) (fun b7=>?_))
 ·refine iF (aq a 1 rfl ac rfl rfl mP fun w' a=>?_);apply bm a 1 ac rfl rfl;refine ⟨_,_,_,rfl,a.pick [false,false,true],Ext.refl _ _ _,rfl,_,rfl,mP,?_,fun h=>?_⟩
  ·rw [jz,af (by omega)]
  ·rw [jz] at h;omega
 refine av a 0 ac rfl (by simpa using b2) (Run.call pR qf a (sU hg a3 a4.1 h a5) fun v' I' S' w'=>?_);rintro ⟨eS,rfl,d2,rfl,D⟩ _ a;rw [eS] at a;clear eS;refine aq a 0 rfl ac (by simpa using D.length) (by simpa using b2) (by simpa using D.one) fun w' a=>?_;obtain ⟨kv,rfl,c1,c2,hs,a2⟩:=RdT.iff.1 D;have a:Inv w X [ay Y (gn v kv) ab,ay Z bb ab,ay r B ab] S w':=a;have c6:=a2.le;have d7:v.kids.length<=1048576:=by
  have:=c3.2;cases v;simp only [wT] at this;simp only [T.kids];omega
 refine ad a 0 rfl aM aw rfl ?_;refine ad a 0 rfl aQ aw rfl ?_;refine ad a 0 rfl aW aP rfl ?_;refine jp ?_;refine aG a aV fun O w' a=>?_;have a:Inv w X [ay Y (gn v kv) ab,ay Z bb ab,.blk O _,ay r B ab] S w':=a.perm (((cT (l₁:=[_]) (l₂:=[_])).cons _).cons _);refine aq a 2 rfl ac rfl rfl (by simp [Value.oneCell']) fun w' a=>?_;refine je (by omega) ?_;have a:=a.rowNil ab 4;have a:Inv w X [ay Y (gn v kv) ab,ay Z bb ab,ay O (gn v (hV)) ab,aK (hV) ab 4 [],ay r B ab] S w':=a.perm ((((cT (l₁:=[_]) (l₂:=[_])).cons _).cons _).cons _);refine ⟨fun i l w'=>∃ (j:Nat) (left:Int) (f:Value) (css:List (hZ)) (S1:ae),j<=us.length/\i=ax j/\l=ax left/\Ext w.heap.size X S S1/\css.length=j/\
   ((left=g - 1 - dx (us.take j)/\0<=left/\Rows 4 (RdT S1) css (us.take j)) ∨ (left=-1/\g - 1<dx us))/\
   Inv w X [ay Y (gn v kv) ab,ay Z bb ab,ay O (gn v f) ab,aK f ab 4 css,ay r B ab] S1 w',
  fun i _ _=>us.length - (intOf i).toNat,⟨0,g - 1,_,[],S,bf _,rfl,rfl,Ext.refl _ _ _,rfl,.inl ⟨by simp [dx],by omega,Rows.nil _ _⟩,a⟩,?_⟩
 intro d3 _ _ t9;(iterate 29 intro);intro w';rintro ⟨j,left,f,css,S1,hj,rfl,rfl,hE,b5,a6,a⟩;refine ⟨fun q w'=>q=.bool (decide (j<us.length/\0<=left))/\Inv w X [ay Y (gn v kv) ab,ay Z bb ab,ay O (gn v f) ab,aK f ab 4 css,ay r B ab] S1 w',?_,?_⟩
 ·refine ad a 0 rfl ao aj rfl (aI a2 ag (bM ?_));by_cases e1:(j:Int)<(v.kids.length:Nat)
  ·rw [aL e1];refine rpG ?_;apply iS;refine rpG ?_;refine ⟨?_,a⟩
   congr 1
   rw [qt,bt,bt];omega
  ·rw [aS e1];refine rpG ?_;refine ⟨?_,a⟩;rw [aS (by omega)]
 intro q _ _ _ _ _ _ _ _ w';rintro ⟨rfl,a⟩;refine aJ (fun a9=>?_) (fun a9=>?_)
 ·obtain ⟨a0,d4⟩:=a9;have b4:j<v.kids.length:=by omega
  obtain ⟨hleft,_,hR⟩:left=g - 1 - dx (us.take j)/\0<=left/\Rows 4 (RdT S1) css (us.take j):=by
   rcases a6 with h1|⟨h1,_⟩
   ·exact h1
   ·omega
  have c7:=eK (us.take j);refine ad a 0 rfl ao aj rfl (cL a (a2.monoT hE.1) ag ac b4 (fun _ _=>RdT.length) fun b9 b0=>?_);have a:Inv w X ([ay Y (gn v kv) ab,ay Z bb ab,ay O (gn v f) ab,aK f ab 4 css]++[ay r B ab]) S1 _:=a;refine Run.callE qz qg a (hk j a0 b4 S1 b9 r B left b0 (a5.mono hE.1) (by omega) (by omega)) fun v' I' S2 w'=>?_;rintro ⟨rfl,U,V,a7,rfl,a1⟩ a8 a;refine al rfl (al rfl (aG a aV fun c0 w' a=>?_));have a:=a.perm (M:=.blk c0 _::[ay Y (gn v kv) ab,ay Z bb ab,ay O (gn v f) ab,aK f ab 4 css,ay r B ab]) (cT (l₁:=[_]));refine aq a 0 rfl ac (by simpa using V) rfl (by simpa using a7) fun w' a=>?_;refine ad (b:=O) (c:=(gn v f)) a 3 rfl ao aj rfl (av a 0 ac rfl (by simpa using V) (ei a 4 U bx (by omega) (by omega) rfl V a7 (by omega) (by omega) fun m w' a=>?_));have o:=lY (a.its (aK m ab 4 (css++[U])) (by simp));refine cX (b:=O) (c:=(gn v f)) a 3 rfl ao aj rfl o.1 o.2 fun w' a=>?_;have a:Inv w X [ay Y (gn v kv) ab,ay Z bb ab,ay O (gn v m) ab,aK m ab 4 (css++[U]),ay r B ab] S2 w':=a.pick [false,true,true,true,true,true];refine bA (by omega) ?_;have d9:=Do us j a0;have c8:=tk us (j+1);have e0:=m7 us[j];refine ⟨⟨j+1,_,m,css++[U],S2,a0,rfl,rfl,hE.trans a8,by simp [b5],?_,a⟩,by simp [intOf];omega⟩;by_cases J:ez us[j]<=left
  ·left;rw [ai J];refine ⟨by omega,by omega,?_⟩;rw [gh a0];exact (hR.monoR fun _ _ h=>RdT.mono a8.1 h).snoc (a1 J) V
  ·right;rw [af J];exact ⟨rfl,by omega⟩
 ·refine av (b:=O) (c:=(gn v f)) a 2 ac rfl rfl ?_;have o:=lY (a.its (aK f ab 4 css) (by simp));have G:∀ x∈((hJ v f):hZ),x.oneCell'=true:=by
   intro x hx;simp at hx;rcases hx with rfl|rfl|rfl|rfl <;> first|rfl|exact o.2
  refine aq a 1 rfl ac rfl rfl G fun w' a=>?_;refine bm (c:=(gn v f)) a 1 ac rfl rfl ?_;have a:Inv w X ([ay r B ab]++[aK f ab 4 css]) S1 w':=(a.pick [false,false,false,true,true]).perm (List.Perm.swap ..);rcases a6 with ⟨h1,h2,hR⟩|⟨h1,h2⟩
  ·have c4:j=us.length:=by omega
   rw [c4,fM] at h1 hR;obtain ⟨S3,b1,a1,a⟩:=a.lendExt;have c5:=RowRd.rows (hR.monoR fun _ _ h=>RdT.mono b1.1 h) a1;refine ⟨_,_,_,rfl,a,hE.trans b1,rfl,(hJ v f),rfl,G,?_,fun _=>RdT.iff.2 ⟨f,rfl,c1,c2,hs,c5⟩⟩;rw [jz,ai (by omega),show left=g - (1+dx us) by omega]
  ·refine ⟨_,_,_,rfl,a.sub (eh _ _),hE,rfl,(hJ v f),rfl,G,?_,fun h=>?_⟩
   ·rw [jz,af (by omega),h1]
   ·rw [jz] at h;omega
theorem Nh {N kp:Nat} {st:au} (m:Good N st) {j:Nz} (r:Res st j):match j with
  | .one t u=>(okU N t/\wT t<=1048576)->FC N kp st t u
  | .list ts us=>(∀ t∈ts,okU N t/\wT t<=1048576)->us.length=ts.length/\∀ i (h:i<us.length) (o:i<ts.length),FC N kp st ts[i] us[i]:=by
 induction r with
 | one q _ G=>
  intro a;have f:=G (kq (dS m q a));exact PZ m q a f.1 f.2
 | nil=>exact fun _=>⟨rfl,fun i h _=>by simp at h⟩
 | cons _ _ g l=>
  intro a;obtain ⟨f,D⟩:=l fun t B=>a t (bk _ B);refine ⟨by simp [f],fun i h o=>?_⟩;cases i with
  | zero=>exact g (a _ (bi ..))
  | succ i=>exact D i (by simpa using h) (by simpa using o)
end
end
end Go.Proofs.YtellfcpffcipcaaGreatDoor
