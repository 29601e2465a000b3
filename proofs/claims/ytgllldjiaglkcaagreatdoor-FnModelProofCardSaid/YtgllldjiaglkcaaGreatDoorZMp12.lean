/- impl: binding, unification. -/
import Derived.Test.YtgllldjiaglkcaaGreatDoorZMp11
namespace Go.Proofs.YtgllldjiaglkcaaGreatDoor
section
open Go Go.RowKit
abbrev aA (sb mb:Nat) (es:Array MapEntry) (ck:Nat) (tv:Value) (tr:List Int):List Item:=[.blk sb (.cells #[.map (some mb),tv] cQ),.blk mb (.map es ck),dz tv tr]
section
attribute [local irreducible] Run CondV az aO
theorem Gf {N:Nat} {st:al} (hg:Good N st) {n:Nat} (hf:st[n]?=some none) (hnN:n<1000000000) {t:T} (ht:okU N t) {S:ae} {cs:List Value} {sb mb ck:Nat} {es:Array MapEntry} {tv:Value} {tr:List Int} (h:RdT S cs t) (hm:KnownM S es st) (htr:tr.length<=1000000) :
  Tri Tryz.prog Fv [.pointer (some ⟨sb,0,none⟩),.int .i64 n,.agg cs.toArray] (aA sb mb es ck tv tr) S fun r I' S'=>S'=S/\
   ((¬ i8 st n t/\r=.bool true/\∃ es' ck' tv',I'=aA sb mb es' ck' tv' (tr++[(n:Int)])/\KnownM S es' (st.set n (some t))) ∨ (i8 st n t/\r=.bool false/\I'=aA sb mb es ck tv tr)):=by
 intro w hI
 have hlc:=h.length
 obtain ⟨X,hX⟩:∃ X,X=bE (aA sb mb es ck tv tr):=⟨_,rfl⟩
 rw [<- hX] at hI ⊢
 have hn:∀ u,st[n]?≠some (some u):=fun u hu=>by rw [hf] at hu; cases hu
 have hnl:n<st.length:=(gx.1 hf).1
 refine rJ.2 ?_
 dsimp only[rJ,dN]
 refine bq hI fun b5 w' hI=>?_
 refine av hI 3 ad rfl (by simpa [Value.cells] using hlc) ?_
 refine u4 hI fun mm w' hI=>?_
 have hI:Inv w X ([.blk b5 (.cells cs.toArray ab),dz tv tr,.blk mm (.map #[] 0)]++bv [(sb,.cells #[.map (some mb),tv] cQ),(mb,.map es ck)]) S w':=hI.perm (by
  refine (List.Perm.trans ?_ (cu (l₁:=[.blk b5 (.cells cs.toArray ab),.blk mm (.map #[] 0)]) (l₂:=aA sb mb es ck tv tr)))
  refine (List.Perm.cons _ (List.Perm.trans (List.Perm.swap _ _ _) (List.Perm.cons _ ?_)))
  exact cu (l₁:=[dz tv tr]) (l₂:=bv [(sb,.cells #[.map (some mb),tv] cQ),(mb,.map es ck)]))
 obtain ⟨S1,hle,hins,hI1,hback⟩:=Inv.lendAll _ hI
 have hst:StS S S1 sb st:=⟨mb,tv,es,ck,cQ,hins _ (aS ..),hins _ (aV _ (aS ..)),hm⟩
 have hI1:Inv w X ([.blk b5 (.cells cs.toArray ab),dz tv tr]++[.blk mm (.map #[] 0)]) S1 w':=hI1
 refine Run.callE jq jr hI1 (M9 hg hn hnN t ht S S1 cs mm 0 #[] _ hle hst h MetM.empty (fun m hm=>hm.elim)) fun v' I' S' w'=>?_
 rintro ⟨eS,es2,ck2,rfl,hres⟩ _ hI1
 rw [eS] at hI1
 have hI:=hback _ _ hI1
 have hI:Inv w X ([.blk b5 (.cells cs.toArray ab)]++aA sb mb es ck tv tr) S w':=(hI.pick [true,true,false,true,true]).perm (List.Perm.cons _ (cu (l₁:=bv [(sb,.cells #[.map (some mb),tv] cQ),(mb,.map es ck)]) (l₂:=[dz tv tr])))
 rcases hres with ⟨hocc,rfl⟩|⟨hocc,rfl,_⟩
 ·refine aw (fun _=>?_) (fun hb=>by cases hb)
  exact ⟨_,_,_,rfl,hI.sub (iz _ _),Ext.refl _ _ _,rfl,.inr ⟨hocc,rfl,rfl⟩⟩
 refine aw (fun hb=>by cases hb) (fun _=>?_)
 have hfind:Instr.findNow (.int .i64) (.int .i64 n) es.toList 0=some none:=by
  rcases hm.find n with ⟨_,_,u,_,_,_,_,hu⟩|⟨_,hf⟩
  ·exact absurd hu (hn u)
  ·exact hf
 have hm2:=hm.push hnl hn h ck
 generalize hes2:es.push { key:=.int .i64 n,val:=.agg cs.toArray,born:=ck }=es2 at hm2
 have hI:Inv w X [.blk b5 (.cells cs.toArray ab),.blk sb (.cells #[.map (some mb),tv] cQ),.blk mb (.map es ck),dz tv tr] S w':=hI
 refine ⟨fun D lN pr wJ AJ vC wi w_=>Fx D 0 [wi=.pointer (some ⟨sb,0,none⟩),vC=.pointer (some ⟨sb,0,none⟩),AJ=.pointer (some ⟨sb,0,none⟩),wJ=.map (some mb),pr=.int .i64 n,lN=.agg cs.toArray,True]/\Inv w X [.blk b5 (.cells cs.toArray ab),.blk sb (.cells #[.map (some mb),tv] cQ),.blk mb (cond (D 6) (.map es2 (ck+1)) (.map es ck)),dz tv tr] S w_,⟨Fx.nil _ _,hI.draw⟩,⟨?_,?_,?_,?_,?_,?_,?_,trivial⟩,?_⟩
 all_goals (intro D bF; intros; rename_i lN pr wJ AJ vC wi w_ hA_; have hF_:=hA_.1; obtain ⟨⟨cj,ci,bR,ce,bP,bY,bZ,_⟩,hI⟩:=hA_)
 ·exact ⟨hF_.set 0 rfl,hI⟩
 ·obtain rfl:=cj ‹_›
  refine aB ?_
  exact ⟨hF_.set 1 rfl,hI⟩
 ·obtain rfl:=ci ‹_›
  refine au oH ?_
  exact ⟨hF_.set 2 rfl,hI⟩
 ·obtain rfl:=bR ‹_›
  refine aN hI 1 (by decide +kernel) rfl rfl ?_
  exact ⟨hF_.set 3 rfl,hI⟩
 ·exact ⟨hF_.set 4 rfl,hI⟩
 ·refine av hI 0 ad rfl (by simpa using hlc) ?_
  exact ⟨hF_.set 5 rfl,hI⟩
 ·obtain rfl:=ce ‹_›
  obtain rfl:=bP ‹_›
  obtain rfl:=bY ‹_›
  rw [bF] at hI
  refine GY hI 2 eA fK rfl hfind fun w_ hI=>?_
  rw [hes2] at hI
  exact ⟨hF_.set 6 trivial,hI⟩
 obtain ⟨rfl,rfl,rfl,rfl,rfl,rfl,_,_⟩:=hF_.all
 have PC:D 6=true:=by assumption
 clear hF_ cj ci bR ce bP bY bZ
 rw [PC] at hI
 have hI:Inv w X [.blk b5 (.cells cs.toArray ab),.blk sb (.cells #[.map (some mb),tv] cQ),.blk mb (.map es2 (ck+1)),dz tv tr] S w_:=hI
 obtain ⟨va,vn,vc,hv9⟩:=hI.rowSlice 3 rfl
 refine aB ?_
 refine au f4 ?_
 refine aN hI 1 il rfl rfl ?_
 refine er hI kF rfl (by omega) (by omega) fun b w' hI=>?_
 refine dZ hI 3 (k:=1) (o:=0) (m:=1) [.int .i64 n] kF (by omega) rfl rfl ?_ (by simp [Value.oneCell']) (by omega) (by omega) fun tv2 w' hI=>?_
 ·intro j u hj
  rw [hI.cellL (i:=4) rfl]
  match j with
  | 0=>simpa [Value.cells] using hj
  | j+1=>simp at hj
 rw [u5] at hI
 have hI:Inv w X [.blk b5 (.cells cs.toArray ab),.blk sb (.cells #[.map (some mb),tv] cQ),.blk mb (.map es2 (ck+1)),dz tv2 (tr++[(n:Int)]),.blk b (.cells #[.int .i64 n] bV)] S w':=by
  have e:Item.row tv2 bV 1 (tr.length+1) (ints (tr++[(n:Int)]))=dz tv2 (tr++[(n:Int)]):=by simp [dz]
  rw [<- e]
  exact hI
 obtain ⟨va2,vn2,vc2,hv2⟩:=hI.rowSlice 3 rfl
 refine aB ?_
 refine du hI 1 rfl f4 il rfl (by rw [hv2]; rfl) (by rw [hv2]; rfl) fun w' hI=>?_
 have hI:Inv w X ([.blk b5 (.cells cs.toArray ab)]++(aA sb mb es2 (ck+1) tv2 (tr++[(n:Int)])++[.blk b (.cells #[.int .i64 n] bV)])) S w':=hI
 exact ⟨_,_,_,rfl,(hI.sub (ei [_] _)).sub (dB _ _),Ext.refl _ _ _,rfl,.inl ⟨hocc,rfl,es2,ck+1,tv2,rfl,hm2⟩⟩
def fj:al->List Int->al
 | st,[]=>st
 | st,n::ns=>(fj st ns).set n.toNat none
theorem uD (st:al):∀ a b:List Int,fj st (a++b)=fj (fj st b) a
 | [],_=>rfl
 | n::a,b=>by rw [iR,fj,fj,uD st a b]
theorem pG (st:al):∀ (ns:List Int) (i:Nat),(fj st ns)[i]?=if (∃ n∈ns,n.toNat=i) then st[i]?.map (fun _=>none) else st[i]?
 | [],i=>by rw [fj,ah (by simp)]
 | n::ns,i=>by
  rw [fj,C5,pG st ns]
  have hl:(fj st ns).length=st.length:=by
   clear i
   induction ns with
   | nil=>rfl
   | cons m ns ih=>rw [fj,nZ,ih]
  by_cases h1:n.toNat=i
  ·subst h1
   have h3:∃ m∈n::ns,m.toNat=n.toNat:=⟨n,by simp,rfl⟩
   by_cases h2:n.toNat<st.length
   ·rw [ai rfl,hl,ai h2,ai h3,gL h2]; rfl
   ·rw [ai rfl,hl,ah h2,ai h3,Uh (by omega)]; rfl
  ·rw [ah h1]
   by_cases h2:∃ m∈ns,m.toNat=i
   ·obtain ⟨m,h3,h4⟩:=h2
    rw [ai ⟨m,h3,h4⟩,ai ⟨m,aV _ h3,h4⟩]
   ·rw [ah h2,ah]
    rintro ⟨m,h3,h4⟩
    rcases bN.1 h3 with rfl|h3
    ·exact h1 h4
    ·exact h2 ⟨m,h3,h4⟩
def Tr (st st':al) (tr tr':List Int):Prop:=∃ ns,tr'=tr++ns/\fj st' ns=st/\(∀ n∈ns,∃ j:Nat,n=(j:Int)/\st[j]?=some none)/\ns.length+unb st'<=unb st
theorem Tr.refl (st:al) (tr:List Int):Tr st st tr tr:=⟨[],(dh _).symm,rfl,by simp,by simp⟩
theorem Tr.bind {st:al} {tr:List Int} {n:Nat} {t:T} (h:st[n]?=some none):Tr st (st.set n (some t)) tr (tr++[(n:Int)]):=by
 refine ⟨[(n:Int)],rfl,?_,fun m hm=>⟨n,cd.1 hm,h⟩,by have:=uX st n t h; simp only [bw,bU]; omega⟩
 rw [fj,fj,dv,List.set_set]
 apply wD
 intro i
 rw [C5]
 by_cases e:n=i
 ·subst e
  rw [ai rfl,h,ai (gx.1 h).1]
 ·rw [ah e]
theorem Tr.trans {a b c:al} {x y z:List Int} (h:Tr a b x y) (h':Tr b c y z):Tr a c x z:=by
 obtain ⟨ns,rfl,rfl,h3,h6⟩:=h
 obtain ⟨ms,rfl,rfl,h5,h7⟩:=h'
 refine ⟨ns++ms,by rw [eK],by rw [uD],fun n hn=>?_,by rw [bA]; omega⟩
 rcases bO.1 hn with hn|hn
 ·exact h3 n hn
 ·obtain ⟨j,rfl,hj⟩:=h5 n hn
  refine ⟨j,rfl,?_⟩
  rw [pG]
  split
  ·rw [hj]; rfl
  ·exact hj
def UI (st:al) (a b:T) (r:Bool) (st':al):Prop:=∀ (S:ae) (cs ds:List Value) (sb mb ck:Nat) (es:Array MapEntry) (tv:Value) (tr:List Int),RdT S cs a->RdT S ds b->KnownM S es st->tr.length+unb st<=1000000->
 Tri Tryz.prog EZ [.pointer (some ⟨sb,0,none⟩),.agg cs.toArray,.agg ds.toArray] (aA sb mb es ck tv tr) S fun q I' S'=>S'=S/\q=.bool r/\∃ es' ck' tv' tr',I'=aA sb mb es' ck' tv' tr'/\KnownM S es' st'/\tr'.length+unb st'<=1000000/\Tr st st' tr tr'
set_option maxHeartbeats 1000000 in
theorem Mr {N:Nat} (hN:N<=1000000) {st st':al} {a b a' b':T} {r:Bool} (hg:Good N st) (hj:okJ N (.one a b)) (hwa:dF st a a') (hwb:dF st b b') (he:aab UI st a' b' r st'):UI st a b r st':=by
 intro S cs ds sb mb ck es tv tr h h' hkm htr w hI
 have hlc:=h.length
 have hld:=h'.length
 have hoa:=ik hg hwa hj.1
 have hob:=ik hg hwb hj.2
 obtain ⟨X,hX⟩:∃ X,X=bE (aA sb mb es ck tv tr):=⟨_,rfl⟩
 rw [<- hX] at hI ⊢
 refine qd.2 ?_
 dsimp only[qd,dN]
 refine bq hI fun b1 w' hI=>?_
 refine bq hI fun b2 w' hI=>?_
 have hI:Inv w X ([.blk b1 (.cells cs.toArray ab),.blk b2 (.cells ds.toArray ab),dz tv tr]++bv [(sb,.cells #[.map (some mb),tv] cQ),(mb,.map es ck)]) S w':=hI.perm (by
  refine (List.Perm.trans ?_ (cu (l₁:=[.blk b1 (.cells cs.toArray ab),.blk b2 (.cells ds.toArray ab)]) (l₂:=aA sb mb es ck tv tr)))
  exact List.Perm.cons _ (List.Perm.cons _ (cu (l₁:=[dz tv tr]) (l₂:=bv [(sb,.cells #[.map (some mb),tv] cQ),(mb,.map es ck)]))))
 obtain ⟨S1,hle,hins,hI,hback⟩:=Inv.lendAll _ hI
 have hst:StS S S1 sb st:=⟨mb,tv,es,ck,cQ,hins _ (aS ..),hins _ (aV _ (aS ..)),hkm⟩
 refine ⟨fun D vC wi Gi GJ x9 x8 w_=>Fx D 0 [x8=.pointer (some ⟨sb,0,none⟩),x9=.agg cs.toArray,True,Gi=.pointer (some ⟨sb,0,none⟩),wi=.agg ds.toArray,True,True,True]/\∃ cs' ds',(D 2=true->GJ=.agg (List.toArray cs')/\RdT S cs' a')/\(D 5=true->vC=.agg (List.toArray ds')/\RdT S ds' b')/\(D 6=true->D 1=true/\D 2=true)/\(D 7=true->D 4=true/\D 5=true)/\Inv w X [.blk b1 (.cells (cond (D 6) (List.toArray cs') cs.toArray) ab),.blk b2 (.cells (cond (D 7) (List.toArray ds') ds.toArray) ab),dz tv tr] S1 w_,⟨Fx.nil _ _,⟨[],[],aQ,aQ,aQ,aQ,hI.draw⟩⟩,⟨?_,?_,?_,?_,?_,?_,?_,?_,trivial⟩,?_⟩
 all_goals (intro D bF; intros; rename_i vC wi Gi GJ x9 x8 w_ hA_; have hF_:=hA_.1; obtain ⟨⟨cj,ci,bR,ce,bP,bY,bZ,cH,_⟩,⟨cs',ds',e2,e5,k6,k7,hI⟩⟩:=hA_)
 ·exact ⟨hF_.set 0 rfl,⟨cs',ds',e2,e5,k6,k7,hI⟩⟩
 ·have f6:D 6=false:=bB.2 fun h=>by rw [(k6 h).1] at bF; cases bF
  refine av (c:=cs.toArray) hI 0 ad (by rw [f6]; rfl) (by simpa using hlc) ?_
  have k6:=fun (h:aD D 1 6=true)=>(⟨rfl,(k6 h).2⟩:aD D 1 1=true/\aD D 1 2=true)
  exact ⟨hF_.set 1 rfl,⟨cs',ds',e2,e5,k6,k7,hI⟩⟩
 ·obtain rfl:=cj ‹_›
  obtain rfl:=ci ‹_›
  have f6:D 6=false:=bB.2 fun h=>by rw [(k6 h).2] at bF; cases bF
  refine Run.call0 iV iX hI (lV hg hwa hj.1.1 hst h) fun v' I' S' w_=>?_
  rintro ⟨eS,rfl,cs',rfl,hcs'⟩ _ hI
  rw [eS] at hI
  have e2:=fun (_:aD D 2 2=true)=>(⟨rfl,hcs'⟩:Value.agg (List.toArray cs')=Value.agg (List.toArray cs')/\RdT S cs' a')
  have k6:=fun (h:aD D 2 6=true)=>(⟨(k6 h).1,rfl⟩:aD D 2 1=true/\aD D 2 2=true)
  have hI:Inv w X [.blk b1 (.cells (cond (D 6) (List.toArray cs') cs.toArray) ab),.blk b2 (.cells (cond (D 7) (List.toArray ds') ds.toArray) ab),dz tv tr] S1 w_:=by rw [f6] at hI ⊢; simpa using hI
  exact ⟨hF_.set 2 (by first|assumption|trivial),⟨cs',ds',e2,e5,k6,k7,hI⟩⟩
 ·exact ⟨hF_.set 3 rfl,⟨cs',ds',e2,e5,k6,k7,hI⟩⟩
 ·have f7:D 7=false:=bB.2 fun h=>by rw [(k7 h).1] at bF; cases bF
  refine av (c:=ds.toArray) hI 1 ad (by rw [f7]; rfl) (by simpa using hld) ?_
  have k7:=fun (h:aD D 4 7=true)=>(⟨rfl,(k7 h).2⟩:aD D 4 4=true/\aD D 4 5=true)
  exact ⟨hF_.set 4 rfl,⟨cs',ds',e2,e5,k6,k7,hI⟩⟩
 ·obtain rfl:=ce ‹_›
  obtain rfl:=bP ‹_›
  have f7:D 7=false:=bB.2 fun h=>by rw [(k7 h).2] at bF; cases bF
  refine Run.call0 iV iX hI (lV hg hwb hj.2.1 hst h') fun v' I' S' w_=>?_
  rintro ⟨eS,rfl,ds',rfl,hds'⟩ _ hI
  rw [eS] at hI
  have e5:=fun (_:aD D 5 5=true)=>(⟨rfl,hds'⟩:Value.agg (List.toArray ds')=Value.agg (List.toArray ds')/\RdT S ds' b')
  have k7:=fun (h:aD D 5 7=true)=>(⟨(k7 h).1,rfl⟩:aD D 5 4=true/\aD D 5 5=true)
  have hI:Inv w X [.blk b1 (.cells (cond (D 6) (List.toArray cs') cs.toArray) ab),.blk b2 (.cells (cond (D 7) (List.toArray ds') ds.toArray) ab),dz tv tr] S1 w_:=by rw [f7] at hI ⊢; simpa using hI
  exact ⟨hF_.set 5 (by first|assumption|trivial),⟨cs',ds',e2,e5,k6,k7,hI⟩⟩
 ·have g2_:=bR ‹_›
  obtain ⟨q2,hR2⟩:=e2 ‹D 2=true›
  rw [bF] at hI
  subst q2
  refine aC hI 0 rfl ad (by simpa using hR2.length) (by simpa using hlc) (by simpa using hR2.one) fun w_ hI=>?_
  have k6:=fun (_:aD D 6 6=true)=>(⟨‹D 1=true›,‹D 2=true›⟩:aD D 6 1=true/\aD D 6 2=true)
  exact ⟨hF_.set 6 trivial,⟨cs',ds',e2,e5,k6,k7,hI⟩⟩
 ·have Ro:=bY ‹_›
  obtain ⟨q5,hR5⟩:=e5 ‹D 5=true›
  rw [bF] at hI
  subst q5
  refine aC hI 1 rfl ad (by simpa using hR5.length) (by simpa using hld) (by simpa using hR5.one) fun w_ hI=>?_
  have k7:=fun (_:aD D 7 7=true)=>(⟨‹D 4=true›,‹D 5=true›⟩:aD D 7 4=true/\aD D 7 5=true)
  exact ⟨hF_.set 7 trivial,⟨cs',ds',e2,e5,k6,k7,hI⟩⟩
 obtain ⟨rfl,rfl,g2_,rfl,rfl,Ro,_,_,_⟩:=hF_.all
 have d2_:D 2=true:=by assumption
 have YN:D 5=true:=by assumption
 have PC:D 6=true:=by assumption
 have AP:D 7=true:=by assumption
 clear hF_ cj ci bR ce bP bY bZ cH
 obtain ⟨_,hcs'⟩:=e2 d2_
 obtain ⟨_,hds'⟩:=e5 YN
 rw [PC,AP] at hI
 clear e2 e5 k6 k7
 have hI:=hback _ _ hI
 have hI:Inv w X ([.blk b1 (.cells cs'.toArray ab),.blk b2 (.cells ds'.toArray ab)]++aA sb mb es ck tv tr) S w_:=hI.perm (List.Perm.cons _ (List.Perm.cons _ (cu (l₁:=bv [(sb,.cells #[.map (some mb),tv] cQ),(mb,.map es ck)]) (l₂:=[dz tv tr]))))
 have hcs:=hcs'
 have hds:=hds'
 obtain ⟨kv,rfl,_,_,_,hks⟩:=RdT.iff.1 hcs'
 obtain ⟨kv',rfl,_,_,_,hks'⟩:=RdT.iff.1 hds'
 obtain ⟨k,n,s,ks⟩:=a'
 obtain ⟨k',n',s',ks'⟩:=b'
 unfold aab at he
 simp only [T.name,T.kids,T.kind,T.n] at hks hks' hI he ⊢
 have hlen:=hks.le
 simp only [maxLen] at hlen
 have hfa:=fun h=>yH hg h (pS hwa) hoa.1
 have hfb:=fun h=>yH hg h (pS hwb) hob.1
 have hlN:=hg.len
 refine ⟨fun q w'=>q=.bool (decide (k=1/\k'=1/\n=n'))/\Inv w X ([.blk b1 (.cells #[.int .i64 k,.int .i64 n,.string s,kv] ab),.blk b2 (.cells #[.int .i64 k',.int .i64 n',.string s',kv'] ab)]++aA sb mb es ck tv tr) S w',?_,?_⟩
 ·refine af hI 0 rfl aR aG rfl ?_
  refine bl ?_
  by_cases e1:k=1
  ·rw [aI e1]
   refine rpG ?_
   refine af hI 1 rfl aR aG rfl ?_
   refine bl ?_
   by_cases e2:k'=1
   ·rw [aI e2]
    refine rpG ?_
    refine af hI 0 rfl bf aG rfl ?_
    refine af hI 1 rfl bf aG rfl ?_
    refine bl ?_
    refine rpG ?_
    exact ⟨by simp [e1,e2],hI⟩
   ·rw [aP e2]
    refine rpG ?_
    exact ⟨by simp [e2],hI⟩
  ·rw [aP e1]
   refine rpG ?_
   exact ⟨by simp [e1],hI⟩
 intro q _ _ _ _ _ _ _ _ _ _ _ _ _ _ _ w'
 rintro ⟨rfl,hI⟩
 refine aL (fun hsame=>?_) (fun hsame=>?_)
 ·have:r=true/\st'=st:=by
   rcases he with ⟨_,_,_,h1,h2⟩|⟨_,h1,_⟩|⟨h1,_,_⟩|⟨h1,_,_⟩
   ·exact ⟨h1,h2⟩
   ·exact absurd hsame.2 h1
   ·exact absurd hsame.1 h1
   ·exact absurd hsame.1 h1
  obtain ⟨rfl,rfl⟩:=this
  exact ⟨_,_,_,rfl,hI.sub (ei [_,_] _),Ext.refl _ _ _,rfl,rfl,es,ck,tv,tr,rfl,hkm,htr,Tr.refl _ _⟩
 refine af hI 0 rfl aR aG rfl ?_
 refine bl ?_
 refine aL (fun hk1=>?_) (fun hk1=>?_)
 ·have hend:(¬ i8 st n.toNat (.mk k' n' s' ks')/\r=true/\st'=st.set n.toNat (some (.mk k' n' s' ks'))) ∨ (i8 st n.toNat (.mk k' n' s' ks')/\r=false/\st'=st):=by
   rcases he with ⟨h1,h2,h3,_⟩|⟨_,_,h1⟩|⟨h1,_,_⟩|⟨h1,_,_⟩
   ·exact absurd ⟨h1,h2,h3⟩ hsame
   ·exact h1
   ·exact absurd hk1 h1
   ·exact absurd hk1 h1
  obtain ⟨hn0,hnN,_⟩:=hoa.1.var hk1
  have hfa:=hfa hk1
  simp only [T.n] at hn0 hnN hfa
  obtain ⟨j,rfl⟩:∃ j:Nat,n=j:=⟨n.toNat,by omega⟩
  rw [dv] at hfa hend
  refine af hI 0 rfl bf aG rfl ?_
  refine av hI 1 ad rfl rfl ?_
  refine Run.callE (A:=[_,_]) rz r2 hI (Gf hg hfa (by omega) hob.1 hds hkm (by omega)) fun v' I' S' w'=>?_
  rintro ⟨eS,hres⟩ _ hI
  rw [eS] at hI
  have hun:=uX st j (.mk k' n' s' ks') hfa
  rcases hend with ⟨h1,rfl,rfl⟩|⟨h1,rfl,rfl⟩
  ·rcases hres with ⟨_,rfl,es2,ck2,tv2,rfl,hm2⟩|⟨h2,_⟩
   ·exact ⟨_,_,_,rfl,hI.sub (ei [_,_] _),Ext.refl _ _ _,rfl,rfl,es2,ck2,tv2,_,rfl,hm2,by simp; omega,Tr.bind (by assumption)⟩
   ·exact absurd h2 h1
  ·rcases hres with ⟨h2,_⟩|⟨_,rfl,rfl⟩
   ·exact absurd h1 h2
   ·exact ⟨_,_,_,rfl,hI.sub (ei [_,_] _),Ext.refl _ _ _,rfl,rfl,es,ck,tv,tr,rfl,hkm,htr,Tr.refl _ _⟩
 refine af hI 1 rfl aR aG rfl ?_
 refine bl ?_
 refine aL (fun hk2=>?_) (fun hk2=>?_)
 ·have hend:(¬ i8 st n'.toNat (.mk k n s ks)/\r=true/\st'=st.set n'.toNat (some (.mk k n s ks))) ∨ (i8 st n'.toNat (.mk k n s ks)/\r=false/\st'=st):=by
   rcases he with ⟨h1,_⟩|⟨h1,_,_⟩|⟨_,_,h1⟩|⟨_,h1,_⟩
   ·exact absurd h1 hk1
   ·exact absurd h1 hk1
   ·exact h1
   ·exact absurd hk2 h1
  obtain ⟨hn0,hnN,_⟩:=hob.1.var hk2
  have hfb:=hfb hk2
  simp only [T.n] at hn0 hnN hfb
  obtain ⟨j,rfl⟩:∃ j:Nat,n'=j:=⟨n'.toNat,by omega⟩
  rw [dv] at hfb hend
  refine af hI 1 rfl bf aG rfl ?_
  refine av hI 0 ad rfl rfl ?_
  refine Run.callE (A:=[_,_]) rz r2 hI (Gf hg hfb (by omega) hoa.1 hcs hkm (by omega)) fun v' I' S' w'=>?_
  rintro ⟨eS,hres⟩ _ hI
  rw [eS] at hI
  have hun:=uX st j (.mk k n s ks) hfb
  rcases hend with ⟨h1,rfl,rfl⟩|⟨h1,rfl,rfl⟩
  ·rcases hres with ⟨_,rfl,es2,ck2,tv2,rfl,hm2⟩|⟨h2,_⟩
   ·exact ⟨_,_,_,rfl,hI.sub (ei [_,_] _),Ext.refl _ _ _,rfl,rfl,es2,ck2,tv2,_,rfl,hm2,by simp; omega,Tr.bind (by assumption)⟩
   ·exact absurd h2 h1
  ·rcases hres with ⟨h2,_⟩|⟨_,rfl,rfl⟩
   ·exact absurd h1 h2
   ·exact ⟨_,_,_,rfl,hI.sub (ei [_,_] _),Ext.refl _ _ _,rfl,rfl,es,ck,tv,tr,rfl,hkm,htr,Tr.refl _ _⟩
 have hend:(lr (.mk k n s ks) (.mk k' n' s' ks')=false/\r=false/\st'=st) ∨ (lr (.mk k n s ks) (.mk k' n' s' ks')=true/\Chain UI st ks ks' r st'):=by
  rcases he with ⟨h1,_⟩|⟨h1,_,_⟩|⟨_,h1,_⟩|⟨_,_,h1⟩
  ·exact absurd h1 hk1
  ·exact absurd h1 hk1
  ·exact absurd h1 hk2
  ·exact h1
 refine ⟨fun q w'=>q=.bool (!lr (.mk k n s ks) (.mk k' n' s' ks'))/\Inv w X ([.blk b1 (.cells #[.int .i64 k,.int .i64 n,.string s,kv] ab),.blk b2 (.cells #[.int .i64 k',.int .i64 n',.string s',kv'] ab)]++aA sb mb es ck tv tr) S w',?_,?_⟩
 ·refine af hI 0 rfl aR aG rfl ?_
  refine af hI 1 rfl aR aG rfl ?_
  refine ef ?_
  by_cases e1:k=k'
  ·rw [aI e1]
   refine rpG ?_
   refine af hI 0 rfl bf aG rfl ?_
   refine af hI 1 rfl bf aG rfl ?_
   refine ef ?_
   by_cases e2:n=n'
   ·rw [aI e2]
    refine rpG ?_
    refine af hI 0 rfl bb aU rfl ?_
    refine af hI 1 rfl bb aU rfl ?_
    refine xW ?_
    by_cases e3:s=s'
    ·rw [aI e3]
     refine rpG ?_
     refine af hI 0 rfl ao aj rfl ?_
     refine aF hks ag ?_
     refine af hI 1 rfl ao aj rfl ?_
     refine aF hks' ag ?_
     refine ef ?_
     refine rpG ?_
     exact ⟨by rw [eG,aI e1,aI e2,aI e3,Uy]; rfl,hI⟩
    ·rw [aP e3]
     refine rpG ?_
     exact ⟨by rw [eG,aI e1,aI e2,aP e3]; rfl,hI⟩
   ·rw [aP e2]
    refine rpG ?_
    exact ⟨by rw [eG,aI e1,aP e2]; rfl,hI⟩
  ·rw [aP e1]
   refine rpG ?_
   exact ⟨by rw [eG,aP e1]; rfl,hI⟩
 intro q _ _ _ _ _ _ _ _ _ _ _ _ _ _ _ _ _ _ _ _ _ _ _ _ _ _ _ _ w'
 rintro ⟨rfl,hI⟩
 cases hd:lr (.mk k n s ks) (.mk k' n' s' ks')
 ·refine aw (fun _=>?_) (fun hb=>by cases hb)
  have:r=false/\st'=st:=by
   rcases hend with ⟨_,h1⟩|⟨h1,_⟩
   ·exact h1
   ·rw [hd] at h1; cases h1
  obtain ⟨rfl,rfl⟩:=this
  exact ⟨_,_,_,rfl,hI.sub (ei [_,_] _),Ext.refl _ _ _,rfl,rfl,es,ck,tv,tr,rfl,hkm,htr,Tr.refl _ _⟩
 refine aw (fun hb=>by cases hb) (fun _=>?_)
 have hle2:ks.length=ks'.length:=zb hd
 have hch:Chain UI st ks ks' r st':=by
  rcases hend with ⟨h1,_⟩|⟨_,h1⟩
  ·rw [hd] at h1; cases h1
  ·exact h1
 refine af hI 0 rfl ao aj rfl ?_
 refine aF hks ag ?_
 refine ⟨fun i w'=>∃ (j:Nat) (st1:al) (es1:Array MapEntry) (ck1:Nat) (tv1:Value) (tr1:List Int),j<=ks.length/\i=.int .i64 j/\Chain UI st1 (ks.drop j) (ks'.drop j) r st'/\KnownM S es1 st1/\tr1.length+unb st1<=1000000/\Tr st st1 tr tr1/\Inv w X ([.blk b1 (.cells #[.int .i64 k,.int .i64 n,.string s,kv] ab),.blk b2 (.cells #[.int .i64 k',.int .i64 n',.string s',kv'] ab)]++aA sb mb es1 ck1 tv1 tr1) S w',fun i _=>ks.length - (intOf i).toNat,⟨0,st,es,ck,tv,tr,be _,rfl,hch,hkm,htr,Tr.refl _ _,hI⟩,?_⟩
 intro t80 _ _ _ _ _ _ _ _ _ _ _ _ _ _ _ _ _ _ w'
 rintro ⟨j,st1,es1,ck1,tv1,tr1,hj,rfl,hrel,hkm1,htr1,hT1,hI⟩
 refine bH ?_
 refine aL (fun hji=>?_) (fun hji=>?_)
 ·have hj1:j<ks.length:=by omega
  have hj2:j<ks'.length:=by omega
  obtain ⟨c1,o1,cap1,a1,E1,fz1,rfl,hS1,hR1⟩:=hks.at_ hj1
  obtain ⟨c2,o2,cap2,a2,E2,fz2,rfl,hS2,hR2⟩:=hks'.at_ hj2
  rw [cU hj1,cU hj2] at hrel
  obtain ⟨r1,st2,hcall,hno,hyes⟩:=hrel.head
  have hcall:=hcall S _ _ sb mb ck1 es1 tv1 tr1 hR1 hR2 hkm1 htr1
  refine ⟨fun D P8 OR PD Pl OO P3 PI NM O5 IG IQ Kw GX w_=>Fx D 0 [GX=.pointer (some ⟨sb,0,none⟩),Kw=.pointer (some ⟨b1,3,none⟩),IQ=.slice (some ⟨c1,o1,none⟩) ks.length cap1,IG=.int .i64 j,O5=.pointer (some ⟨c1,o1+j * 4,none⟩),NM=.agg (aX a1 (o1+j * 4) 4).toArray,PI=.pointer (some ⟨b2,3,none⟩),P3=.slice (some ⟨c2,o2,none⟩) ks'.length cap2,OO=.int .i64 j,Pl=.pointer (some ⟨c2,o2+j * 4,none⟩),PD=.agg (aX a2 (o2+j * 4) 4).toArray,OR=.bool r1,P8=.bool (!r1)]/\(D 11=false->Inv w X ([.blk b1 (.cells #[.int .i64 k,.int .i64 n,.string s,.slice (some ⟨c1,o1,none⟩) ks.length cap1] ab),.blk b2 (.cells #[.int .i64 k',.int .i64 n',.string s',.slice (some ⟨c2,o2,none⟩) ks'.length cap2] ab)]++aA sb mb es1 ck1 tv1 tr1) S w_)/\(D 11=true->∃ es2 ck2 tv2 tr2,KnownM S es2 st2/\tr2.length+unb st2<=1000000/\Tr st1 st2 tr1 tr2/\Inv w X ([.blk b1 (.cells #[.int .i64 k,.int .i64 n,.string s,.slice (some ⟨c1,o1,none⟩) ks.length cap1] ab),.blk b2 (.cells #[.int .i64 k',.int .i64 n',.string s',.slice (some ⟨c2,o2,none⟩) ks'.length cap2] ab)]++aA sb mb es2 ck2 tv2 tr2) S w_)/\∃ es3 ck3 tv3 tr3,Inv w X ([.blk b1 (.cells #[.int .i64 k,.int .i64 n,.string s,.slice (some ⟨c1,o1,none⟩) ks.length cap1] ab),.blk b2 (.cells #[.int .i64 k',.int .i64 n',.string s',.slice (some ⟨c2,o2,none⟩) ks'.length cap2] ab)]++aA sb mb es3 ck3 tv3 tr3) S w_,⟨Fx.nil _ _,⟨fun _=>hI.draw,aQ,es1,ck1,tv1,tr1,hI.draw⟩⟩,⟨?_,?_,?_,?_,?_,?_,?_,?_,?_,?_,?_,?_,?_,trivial⟩,?_⟩
  all_goals (intro D bF; intros; rename_i P8 OR PD Pl OO P3 PI NM O5 IG IQ Kw GX w_ hA_; have hF_:=hA_.1; obtain ⟨⟨cj,ci,bR,ce,bP,bY,bZ,cH,c5,dI,bX,cr,cZ,_⟩,⟨hI0,hI1,es3,ck3,tv3,tr3,hI⟩⟩:=hA_)
  ·exact ⟨hF_.set 0 rfl,⟨hI0,hI1,es3,ck3,tv3,tr3,hI⟩⟩
  ·refine au ao ?_
   exact ⟨hF_.set 1 rfl,⟨hI0,hI1,es3,ck3,tv3,tr3,hI⟩⟩
  ·obtain rfl:=ci ‹_›
   refine aN hI 0 aj rfl rfl ?_
   exact ⟨hF_.set 2 rfl,⟨hI0,hI1,es3,ck3,tv3,tr3,hI⟩⟩
  ·exact ⟨hF_.set 3 rfl,⟨hI0,hI1,es3,ck3,tv3,tr3,hI⟩⟩
  ·obtain rfl:=bR ‹_›
   obtain rfl:=ce ‹_›
   refine aE ag hj1 ?_
   exact ⟨hF_.set 4 rfl,⟨hI0,hI1,es3,ck3,tv3,tr3,hI⟩⟩
  ·obtain rfl:=bP ‹_›
   refine bL ad hR1.length (fun j v hj=>by rw [hI.cellS hS1]; exact aH rfl j v hj) ?_
   exact ⟨hF_.set 5 rfl,⟨hI0,hI1,es3,ck3,tv3,tr3,hI⟩⟩
  ·refine au ao ?_
   exact ⟨hF_.set 6 rfl,⟨hI0,hI1,es3,ck3,tv3,tr3,hI⟩⟩
  ·obtain rfl:=bZ ‹_›
   refine aN hI 1 aj rfl rfl ?_
   exact ⟨hF_.set 7 rfl,⟨hI0,hI1,es3,ck3,tv3,tr3,hI⟩⟩
  ·exact ⟨hF_.set 8 rfl,⟨hI0,hI1,es3,ck3,tv3,tr3,hI⟩⟩
  ·obtain rfl:=cH ‹_›
   obtain rfl:=c5 ‹_›
   refine aE ag hj2 ?_
   exact ⟨hF_.set 9 rfl,⟨hI0,hI1,es3,ck3,tv3,tr3,hI⟩⟩
  ·obtain rfl:=dI ‹_›
   refine bL ad hR2.length (fun j v hj=>by rw [hI.cellS hS2]; exact aH rfl j v hj) ?_
   exact ⟨hF_.set 10 rfl,⟨hI0,hI1,es3,ck3,tv3,tr3,hI⟩⟩
  ·obtain rfl:=cj ‹_›
   obtain rfl:=bY ‹_›
   obtain rfl:=bX ‹_›
   refine Run.callE (A:=[_,_]) eW eX (hI0 bF) hcall fun v' I' S' w_=>?_
   rintro ⟨eS,rfl,es2,ck2,tv2,tr2,rfl,hm2,htr2,hT2⟩ _ hI
   rw [eS] at hI
   have hI0:=fun (h:aD D 11 11=false)=>(Bool.noConfusion h:Inv w X ([.blk b1 (.cells #[.int .i64 k,.int .i64 n,.string s,.slice (some ⟨c1,o1,none⟩) ks.length cap1] ab),.blk b2 (.cells #[.int .i64 k',.int .i64 n',.string s',.slice (some ⟨c2,o2,none⟩) ks'.length cap2] ab)]++aA sb mb es1 ck1 tv1 tr1) S w_)
   have hI1:=fun (_:aD D 11 11=true)=>(⟨es2,ck2,tv2,tr2,hm2,htr2,hT2,hI⟩:∃ es2 ck2 tv2 tr2,KnownM S es2 st2/\tr2.length+unb st2<=1000000/\Tr st1 st2 tr1 tr2/\Inv w X ([.blk b1 (.cells #[.int .i64 k,.int .i64 n,.string s,.slice (some ⟨c1,o1,none⟩) ks.length cap1] ab),.blk b2 (.cells #[.int .i64 k',.int .i64 n',.string s',.slice (some ⟨c2,o2,none⟩) ks'.length cap2] ab)]++aA sb mb es2 ck2 tv2 tr2) S w_)
   obtain ⟨es3,ck3,tv3,tr3,hI⟩:∃ es3 ck3 tv3 tr3,Inv w X ([.blk b1 (.cells #[.int .i64 k,.int .i64 n,.string s,.slice (some ⟨c1,o1,none⟩) ks.length cap1] ab),.blk b2 (.cells #[.int .i64 k',.int .i64 n',.string s',.slice (some ⟨c2,o2,none⟩) ks'.length cap2] ab)]++aA sb mb es3 ck3 tv3 tr3) S w_:=⟨es2,ck2,tv2,tr2,hI⟩
   exact ⟨hF_.set 11 rfl,⟨hI0,hI1,es3,ck3,tv3,tr3,hI⟩⟩
  ·obtain rfl:=cr ‹_›
   refine bQ ?_
   exact ⟨hF_.set 12 rfl,⟨hI0,hI1,es3,ck3,tv3,tr3,hI⟩⟩
  obtain ⟨rfl,rfl,rfl,rfl,rfl,rfl,rfl,rfl,rfl,rfl,rfl,rfl,rfl,_⟩:=hF_.all
  have np:D 11=true:=by assumption
  clear hF_ cj ci bR ce bP bY bZ cH c5 dI bX cr cZ
  obtain ⟨es2,ck2,tv2,tr2,hm2,htr2,hT2,hI⟩:=hI1 np
  clear hI0 hI1
  refine aw (fun hne=>?_) (fun he'=>?_)
  ·simp only [jj] at hne
   obtain ⟨rfl,rfl⟩:=hno hne
   exact ⟨_,_,_,rfl,hI.sub (ei [_,_] _),Ext.refl _ _ _,rfl,rfl,es2,ck2,tv2,tr2,rfl,hm2,htr2,hT1.trans hT2⟩
  ·simp only [rK] at he'
   refine bp (by omega) ?_
   exact ⟨⟨j+1,st2,es2,ck2,tv2,tr2,hj1,rfl,hyes he',hm2,htr2,hT1.trans hT2,hI⟩,by simp [intOf]; omega⟩
 ·have:j=ks.length:=by omega
  subst this
  rw [dO,hle2,dO] at hrel
  obtain ⟨rfl,rfl⟩:=hrel.done
  exact ⟨_,_,_,rfl,hI.sub (ei [_,_] _),Ext.refl _ _ _,rfl,rfl,es1,ck1,tv1,tr1,rfl,hkm1,htr1,hT1⟩
theorem iN {N:Nat} (hN:N<=1000000) {st st':al} {a b:T} {r:Bool} (hg:Good N st) (hj:okJ N (.one a b)) (hu:Uni st (.one a b) r st'):UI st a b r st':=
 Uni.calls (N:=N) (Call:=UI) (fun _ _ _ _ _ _ _ hg hj hwa hwb he=>Mr hN hg hj hwa hwb he) hu hg hj
end
end
section
open Go Go.RowKit
theorem CD {n:Int}:∀ (l:List MapEntry) (i j:Nat) (v:Value),(∀ e∈l,∃ m,e.key=.int .i64 m)->Instr.findNow (.int .i64) (.int .i64 n) l i=some (some (j,v))->i<=j/\∃ e,l[j - i]?=some e/\e.key=.int .i64 n
 | [],i,j,v,_,h=>by simp [Instr.findNow] at h
 | e::l,i,j,v,hk,h=>by
  obtain ⟨m,hm⟩:=hk e (aS ..)
  have hs:Instr.sameNow (.int .i64) (.int .i64 n) e.key=some (n == m):=by rw [hm]; rfl
  rw [Instr.findNow,hs] at h
  by_cases hnm:n=m
  ·subst hnm
   simp only [SF,bg,cT] at h
   obtain ⟨rfl,rfl⟩:=h
   exact ⟨aW _,e,by simp,hm⟩
  ·have h2:(n == m)=false:=by simpa using hnm
   rw [h2] at h
   obtain ⟨h3,e',h4,h5⟩:=CD l (i+1) j v (fun e he=>hk e (aV _ he)) h
   refine ⟨by omega,e',?_,h5⟩
   have:j - i=(j - (i+1))+1:=by omega
   rw [this,mB]
   exact h4
theorem KnownM.erase {S:ae} {es:Array MapEntry} {st:al} (h:KnownM S es st) {n j:Nat} {v:Value} (hf:Instr.findNow (.int .i64) (.int .i64 n) es.toList 0=some (some (j,v))) :
  KnownM S (es.eraseIdxIfInBounds j) (st.set n none):=by
 obtain ⟨_,e,he,hke⟩:=CD es.toList 0 j v (fun e he=>by obtain ⟨m,_,_,hk,_⟩:=h.1 e he; exact ⟨m,hk⟩) hf
 rw [Nat.sub_zero] at he
 have hlt:j<es.toList.length:=(gx.1 he).1
 have hje:es.toList[j]=e:=(gx.1 he).2
 have hp:List.Perm es.toList (e::es.toList.eraseIdx j):=by
  rw [Xm]
  have e1:es.toList=es.toList.take j++e::es.toList.drop (j+1):=by
   conv=>lhs; rw [<- xd j es.toList,cU hlt,hje]
  conv=>lhs; rw [e1]
  exact zal125
 have hnd:((e::es.toList.eraseIdx j).map (·.key)).Nodup:=(hp.map _).nodup_iff.1 h.2.2
 rw [AE,Be] at hnd
 refine ⟨fun x hx=>?_,fun m t ht=>?_,?_⟩
 ·rw [aak] at hx
  obtain ⟨m,t,cs,hk,hv,hR,hs⟩:=h.1 x (hp.mem_iff.2 (aV _ hx))
  refine ⟨m,t,cs,hk,hv,hR,?_⟩
  have:n≠m:=by
   rintro rfl
   exact hnd.1 (eU.2 ⟨x,hx,by rw [hk,hke]⟩)
  rw [CT this]
  exact hs
 ·rw [aak]
  have hm:n≠m:=by
   rintro rfl
   rw [C5] at ht
   simp at ht
  rw [CT hm] at ht
  obtain ⟨x,hx,hk⟩:=h.2.1 m t ht
  rcases bN.1 (hp.mem_iff.1 hx) with rfl|hx
  ·rw [hke] at hk
   simp only [Value.int.injEq,xO] at hk
   exact absurd (by omega) hm
  ·exact ⟨x,hx,hk⟩
 ·rw [aak]
  exact hnd.2
theorem KnownM.clear {S:ae} {es:Array MapEntry} {st:al} (h:KnownM S es st) {n:Nat} (hn:∀ t,st[n]?≠some (some t)):KnownM S es (st.set n none):=by
 refine ⟨fun x hx=>?_,fun m t ht=>?_,h.2.2⟩
 ·obtain ⟨m,t,cs,hk,hv,hR,hs⟩:=h.1 x hx
  refine ⟨m,t,cs,hk,hv,hR,?_⟩
  have:n≠m:=by rintro rfl; exact hn t hs
  rw [CT this]
  exact hs
 ·have hm:n≠m:=by
   rintro rfl
   rw [C5] at ht
   simp at ht
  rw [CT hm] at ht
  exact h.2.1 m t ht
theorem Cq (st:al) (l:List Int) (n:Int):fj st (l++[n])=(fj st l).set n.toNat none:=by
 have hl:(fj st l).length=st.length:=by
  induction l with
  | nil=>rfl
  | cons m ns ih=>rw [fj,nZ,ih]
 apply wD
 intro i
 rw [pG,C5,pG,hl]
 by_cases h1:n.toNat=i
 ·subst h1
  rw [ai ⟨n,by simp,rfl⟩,ai rfl]
  by_cases h2:n.toNat<st.length
  ·rw [ai h2,gL h2]; rfl
  ·rw [ah h2,Uh (by omega)]; rfl
 ·rw [ah h1]
  by_cases h2:∃ m∈l,m.toNat=i
  ·obtain ⟨m,h3,h4⟩:=h2
   rw [ai ⟨m,dy _ h3,h4⟩,ai ⟨m,h3,h4⟩]
  ·rw [ah h2,ah]
   rintro ⟨m,h3,h4⟩
   rcases bO.1 h3 with h3|h3
   ·exact h2 ⟨m,h3,h4⟩
   ·rw [cd] at h3
    subst h3
    exact h1 h4
section
variable {P:Program} {w w0:World} {X:List Nat} {L:List Item} {S:ae} {K:Value->World->Prop}
attribute [local irreducible] Run CondV az aO
theorem P7 (h:Inv w0 X L S w) {T kt et ty U:TypeId} {cs:List Bool} {b clock:Nat} {es:Array MapEntry} {n:Int} {o:Option (Nat × Value)} (i:Nat) (hT:P.underlying T=some (.map kt et)) (hkt:P.underlying kt=some (.int .i64))
  (hi:L[i]?=some (.blk b (.map es clock))) (hf:Instr.findNow (.int .i64) (.int .i64 n) es.toList 0=some o)
  (hk:∀ w',Inv w0 X (L.set i (.blk b (.map (match o with|some (j,_)=>es.eraseIdxIfInBounds j|none=>es) clock))) S w'->K (.tuple #[]) w') :
  Run P (bM .delete #[T,U] ty cs [.map (some b),.int .i64 n]) w K:=by
 have hb:w.heap[b]?=some (.map es clock):=h.its _ (cz hi)
 have hck:∀ e,(Instr.checkKey e 10000 kt (.int .i64 n)).run P w=.ok () w:=fun e=>by
  rw [show (10000:Nat)=9999+1 from rfl,Instr.checkKey]
  simp [run_underlying hkt]
 have hg:(getObj b).run P w=.ok (.map es clock) w:=by simp [getObj,Sem.run,hb]
 have hfk:=fF (P:=P) (w:=w) hkt hf
 obtain ⟨es',he'⟩:∃ es',es'=(match o with|some (j,_)=>es.eraseIdxIfInBounds j|none=>es):=⟨_,rfl⟩
 rw [<- he'] at hk
 have hst:(setObj b (.map es' clock)).run P w=.ok () { w with heap:=w.heap.setIfInBounds b (.map es' clock) }:=by simp [setObj,Sem.run,hb]
 refine Run.of (w':={ w with heap:=w.heap.setIfInBounds b (.map es' clock) }) ?_ (hk _ (h.setBlk hi _ rfl))
 cases o with
 | none=>
  subst he'
  simp [bM,builtin,Builtin.delete_,run_underlying hT,hg,hck,hfk,hst]
 | some p=>
  obtain ⟨j,v⟩:=p
  subst he'
  simp [bM,builtin,Builtin.delete_,run_underlying hT,hg,hck,hfk,hst]
end
section
attribute [local irreducible] Run CondV az aO
theorem xh {st:al} {S:ae} {sb mb ck mark:Nat} {es:Array MapEntry} {tv:Value} {tr:List Int} (hkm:KnownM S es st) (hmk:mark<=tr.length) (hnn:∀ n∈tr.drop mark,0<=n) (htr:tr.length<=100000000) :
  Tri Tryz.prog Fp [.pointer (some ⟨sb,0,none⟩),.int .i64 mark] (aA sb mb es ck tv tr) S fun q I' S'=>S'=S/\q=.tuple #[]/\∃ es' tv',I'=aA sb mb es' ck tv' (tr.take mark)/\KnownM S es' (fj st (tr.drop mark)):=by
 intro w hI
 obtain ⟨X,hX⟩:∃ X,X=bE (aA sb mb es ck tv tr):=⟨_,rfl⟩
 rw [<- hX] at hI ⊢
 have hI0:Inv w X ([.blk sb (.cells #[.map (some mb),tv] cQ),.blk mb (.map es ck)]++[.row tv bV 1 tr.length (ints tr)]) S w:=hI
 refine rr.2 ?_
 dsimp only[rr,aY]
 refine aB ?_
 refine af hI 0 rfl f4 il rfl ?_
 obtain ⟨S1,hle,hrr,hI,hback⟩:=Inv.lend hI0
 have hrd:=hrr.ints
 refine sQ dd hrd hmk fun v' hv'=>?_
 refine aF hv' dd ?_
 refine ⟨fun i w'=>∃ (k:Nat) (es':Array MapEntry),k<=(tr.drop mark).length/\i=.int .i64 k/\KnownM S es' (fj st ((tr.drop mark).take k))/\Inv w X [.blk sb (.cells #[.map (some mb),tv] cQ),.blk mb (.map es' ck)] S1 w',
  fun i _=>(tr.drop mark).length - (intOf i).toNat,⟨0,es,be _,rfl,hkm,hI⟩,?_⟩
 intro i _ _ _ _ _ _ _ _ _ _ w'
 rintro ⟨k,es',hk,rfl,hkm',hI⟩
 have hdl:(tr.drop mark).length<=100000000:=by rw [vB]; omega
 refine bH ?_
 refine aL (fun hki=>?_) (fun hki=>?_)
 ·have hk':k<(tr.drop mark).length:=by omega
  have hm:=bz hk'
  have h0:=hnn _ hm
  refine i5 hI hv' dd aG hk' (fun cs hcs=>hcs) ?_
  refine aB ?_
  refine af hI 0 rfl oH wh rfl ?_
  obtain ⟨m,hme⟩:∃ m:Nat,(tr.drop mark)[k]=(m:Int):=⟨((tr.drop mark)[k]).toNat,by omega⟩
  have hstep:fj st ((tr.drop mark).take (k+1))=(fj st ((tr.drop mark).take k)).set m none:=by
   rw [fl hk',Cq,hme,dv]
  rw [hme]
  rcases hkm'.find m with ⟨j,v,t,cs,hf,_,_,_⟩|⟨hno,hf⟩
  ·refine P7 hI 1 eA fK rfl hf fun w' hI=>?_
   refine bp (by omega) ?_
   exact ⟨⟨k+1,_,hk',rfl,by rw [hstep]; exact hkm'.erase hf,hI⟩,by simp only [intOf]; omega⟩
  ·refine P7 hI 1 eA fK rfl hf fun w' hI=>?_
   refine bp (by omega) ?_
   exact ⟨⟨k+1,_,hk',rfl,by rw [hstep]; exact hkm'.clear hno,hI⟩,by simp only [intOf]; omega⟩
 ·have:k=(tr.drop mark).length:=by omega
  subst this
  rw [fJ] at hkm'
  have hI:=hback _ _ hI
  refine aB ?_
  refine af hI 0 rfl f4 il rfl ?_
  obtain ⟨hl,ho⟩:=Inv.openRow hI
  have hit:(ints tr).take mark=ints (tr.take mark):=by
   have:∀ (l:List Int) (m:Nat),(ints l).take m=ints (l.take m):=by
    intro l
    induction l with
    | nil=>intro m; simp [ints]
    | cons a l ih=>
     intro m
     cases m with
     | zero=>simp [ints]
     | succ m=>have:=ih m; simp only [ints,rt,tO,List.singleton_append] at *; rw [this]
   exact this tr mark
  have htl:(tr.take mark).length=mark:=by rw [dX]; omega
  rcases ho with ⟨rfl,h1⟩|⟨g,cap,cur,rfl,hnc,hcm,hcs,ht,hI⟩
  ·have htn:tr=[]:=gO h1
   subst htn
   obtain rfl:mark=0:=by simpa using hmk
   refine Bz dd (aW _) ?_
   refine aB ?_
   refine du hI 0 rfl f4 il rfl rfl rfl fun w' hI=>?_
   exact ⟨_,_,S,rfl,hI,Ext.refl _ _ _,rfl,rfl,es',_,rfl,hkm'⟩
  ·refine Bz dd (by omega) ?_
   have e1:(if cap=0 then (some (⟨g,0,none⟩:Addr)) else (some (⟨g,0,none⟩:Addr)).map (·.add (0 * 1)))=some ⟨g,0,none⟩:=by
    split
    ·rfl
    ·simp [Addr.add]
   rw [e1]
   refine aB ?_
   refine du hI 0 rfl f4 il rfl rfl rfl fun w' hI=>?_
   have hI:Inv w X ([.blk sb (.cells #[.map (some mb),.slice (some ⟨g,0,none⟩) mark cap] cQ),.blk mb (.map es' ck)]++[.blk g (.cells cur bV)]) S w':=hI
   have hI:=Inv.closeRow (n:=mark) (k:=1) (cap:=cap) hI (by omega) hcm hcs
   have e2:cur.toList.take (mark * 1)=ints (tr.take mark):=by
    rw [<- hit,<- ht,oX,Nat.mul_one,Nat.mul_one,lm hmk]
   rw [e2] at hI
   refine ⟨_,_,S,rfl,hI,Ext.refl _ _ _,rfl,rfl,es',.slice (some ⟨g,0,none⟩) mark cap,?_,hkm'⟩
   simp only [aA,dz,htl]
   rfl
end
end
end Go.Proofs.YtgllldjiaglkcaaGreatDoor
