/- Whether proofs are the same: both sides. -/
import Derived.Test.YtbocelianhcfmaaGreatDoorZEg10
import Derived.Test.YtbocelianhcfmaaGreatDoorZEg17
import Derived.Test.YtbocelianhcfmaaGreatDoorZEg25
import Derived.Test.YtbocelianhcfmaaGreatDoorZEg27
import Derived.Test.YtbocelianhcfmaaGreatDoorZEg14
import Derived.Test.YtbocelianhcfmaaGreatDoorZEg26
import Derived.Test.YtbocelianhcfmaaGreatDoorZEg2
import Derived.Test.YtbocelianhcfmaaGreatDoorRows
import Derived.Test.YtbocelianhcfmaaGreatDoorTie
import Derived.Lib.LaidTab
import Derived.ProofKit
import Derived.LaidMore
import Derived.LaidLaws
namespace Go.Proofs.YtbocelianhcfmaaGreatDoor
section
open Go Go.RowKit
attribute [local irreducible] Run CondV ar aI
theorem AW {xs:List PF} (ih:∀ t∈xs,∀ (u:PF) (S:ae) (cs ds:List Value),RdF S cs t->RdF S ds u->Pure Tryz.prog kL [.agg cs.toArray,.agg ds.toArray] S (.bool (eqF t u)))
  {ys:List PF} {S:ae} {v u:Value} (h:RdSl S 6 (RdF S) v xs) (h':RdSl S 6 (RdF S) u ys):Pure Tryz.prog ph [v,u,.func (.func kL) #[] #[]] S (.bool (lg xs ys)):=by
 intro w hI
 have hlen:(xs.length:Int)<=9223372036854775807:=by have:=h.le; simp only [maxLen] at this; omega
 refine iB.2 ?_
 dsimp only[iB,cM]
 refine aK h bl ?_
 refine aK h' bl ?_
 refine dt ?_
 refine av (fun hne=>?_) (fun he=>?_)
 ·exact done hI (by rw [E5 (by simp at hne; omega)])
 have he:xs.length=ys.length:=by simp at he; omega
 refine aK h bl ?_
 refine ⟨fun i w'=>∃ (k:Nat),k<=xs.length/\i=.int .i64 k/\lg (xs.drop k) (ys.drop k)=lg xs ys/\Inv w [] [] S w',fun i _=>xs.length - (intOf i).toNat,⟨0,Nat.zero_le _,rfl,rfl,hI⟩,?_⟩
 intro t17 _ _ _ _ _ _ _ _ _ _ _ _ _ _ _ _ _ _ w'
 rintro ⟨k,hk,rfl,hrel,hI⟩
 refine bD ?_
 refine aN (fun hki=>?_) (fun hki=>?_)
 ·have hk1:k<xs.length:=by omega
  have hk2:k<ys.length:=by omega
  have hstep:lg (xs.drop k) (ys.drop k)=(eqF xs[k] ys[k] && lg (xs.drop (k+1)) (ys.drop (k+1))):=by
   rw [List.drop_eq_getElem_cons hk1,List.drop_eq_getElem_cons hk2,lg]
  refine bP hI h bl aq hk1 (fun _ _=>RdF.length) fun cs hcs=>?_
  have hlc:=hcs.length
  refine aA hI bV fun b8 w' hI=>?_
  refine aj hI 0 rfl aq (by simpa using hlc) rfl (by simpa using hcs.one) fun w' hI=>?_
  refine bP hI h' bl aq hk2 (fun _ _=>RdF.length) fun ds hds=>?_
  have hld:=hds.length
  refine aA hI bV fun b9 w' hI=>?_
  refine aj hI 1 rfl aq (by simpa using hld) rfl (by simpa using hds.one) fun w' hI=>?_
  refine ag hI 0 aq rfl (by simpa using hlc) ?_
  refine ag hI 1 aq rfl (by simpa using hld) ?_
  refine Run.callPure eh eo hI (ih _ (List.getElem_mem hk1) _ S _ _ hcs hds) fun w' hI=>?_
  refine bW ?_
  refine av (fun hne=>?_) (fun he'=>?_)
  ·exact done hI (by rw [<- hrel,hstep]; simp at hne; rw [hne]; rfl)
  ·refine bm (by omega) ?_
   refine ⟨⟨k+1,hk1,rfl,?_,hI.nil⟩,by simp [intOf]; omega⟩
   rw [<- hrel,hstep]
   simp at he'
   rw [he',Bool.true_and]
 ·have:k=xs.length:=by omega
  subst this
  refine done hI ?_
  rw [<- hrel,List.drop_length,he,List.drop_length]
  rfl
theorem gB:∀ (t u:PF) (S:ae) (cs ds:List Value),RdF S cs t->RdF S ds u->Pure Tryz.prog kL [.agg cs.toArray,.agg ds.toArray] S (.bool (eqF t u)):=by
 refine PF.ind fun g n ks ih u S cs ds h h'=>?_
 intro w hI
 obtain ⟨kv,kp,rfl,hg,_,hks⟩:=RdF.iff.1 h
 obtain ⟨kv',kp',rfl,hg',_,hks'⟩:=RdF.iff.1 h'
 obtain ⟨g',n',ks'⟩:=u
 simp only [PF.goal,PF.clause,PF.kids] at hg hg' hks hks' ⊢
 refine oz.2 ?_
 dsimp only[oz,aY]
 refine be hI fun b2 w' hI=>?_
 have hI:Inv w [] [.blk b2 (.cells #[.int .i64 g.kind,.int .i64 g.n,.string g.name,kv,.int .i64 n,kp] af)] S w':=hI
 refine be hI fun b3 w' hI=>?_
 have hI:Inv w [] [.blk b2 (.cells #[.int .i64 g.kind,.int .i64 g.n,.string g.name,kv,.int .i64 n,kp] af),.blk b3 (.cells #[.int .i64 g'.kind,.int .i64 g'.n,.string g'.name,kv',.int .i64 n',kp'] af)] S w':=hI
 refine ao cZ ?_
 refine b0 hI 0 [.int .i64 g.kind,.int .i64 g.n,.string g.name,kv] ac rfl rfl nu ?_
 refine ao cZ ?_
 refine b0 hI 1 [.int .i64 g'.kind,.int .i64 g'.n,.string g'.name,kv'] ac rfl rfl nu ?_
 refine Run.callPure pY qp hI (vx g g' S _ _ hg hg') fun w' hI=>?_
 rw [eqF]
 cases e1:eqT g g'
 ·refine rpG ?_
  exact done hI rfl
 ·refine rpG ?_
  refine ad hI 0 rfl cF aw rfl ?_
  refine ad hI 1 rfl cF aw rfl ?_
  refine bh ?_
  cases e2:decide (n=n')
  ·refine rpG ?_
   exact done hI rfl
  ·refine rpG ?_
   refine ad hI 0 rfl aW aZ rfl ?_
   refine ad hI 1 rfl aW aZ rfl ?_
   refine Run.callPure oO oc hI (AW ih hks hks') fun w' hI=>?_
   refine rpG ?_
   exact done hI rfl
theorem uk:∀ (t u:PF) (S:ae) (cs ds:List Value),RdF S cs t->RdF S ds u->Pure Tryz.prog AG [.agg cs.toArray,.agg ds.toArray] S (.bool (eqF t u)):=by
 refine PF.ind fun g n ks ih u S cs ds h h'=>?_
 intro w hI
 obtain ⟨kv,kp,rfl,hg,_,hks⟩:=RdF.iff.1 h
 obtain ⟨kv',kp',rfl,hg',_,hks'⟩:=RdF.iff.1 h'
 obtain ⟨g',n',ks'⟩:=u
 simp only [PF.goal,PF.clause,PF.kids] at hg hg' hks hks' ⊢
 have hkl:=hks.le
 have hkl':=hks'.le
 simp only [maxLen] at hkl hkl'
 refine nX.2 ?_
 dsimp only[nX,aY]
 refine be hI fun b2 w' hI=>?_
 have hI:Inv w [] [.blk b2 (.cells #[.int .i64 g.kind,.int .i64 g.n,.string g.name,kv,.int .i64 n,kp] af)] S w':=hI
 refine be hI fun b3 w' hI=>?_
 have hI:Inv w [] [.blk b2 (.cells #[.int .i64 g.kind,.int .i64 g.n,.string g.name,kv,.int .i64 n,kp] af),.blk b3 (.cells #[.int .i64 g'.kind,.int .i64 g'.n,.string g'.name,kv',.int .i64 n',kp'] af)] S w':=hI
 obtain ⟨q,hq⟩:∃ q,q=(eqT g g' && (decide (n=n') && decide (ks.length=ks'.length))):=⟨_,rfl⟩
 refine ⟨fun v w'=>v=.bool (!q)/\Inv w [] [.blk b2 (.cells #[.int .i64 g.kind,.int .i64 g.n,.string g.name,kv,.int .i64 n,kp] af),.blk b3 (.cells #[.int .i64 g'.kind,.int .i64 g'.n,.string g'.name,kv',.int .i64 n',kp'] af)] S w',?_,?_⟩
 ·refine ao cZ ?_
  refine b0 hI 0 [.int .i64 g.kind,.int .i64 g.n,.string g.name,kv] ac rfl rfl nu ?_
  refine ao cZ ?_
  refine b0 hI 1 [.int .i64 g'.kind,.int .i64 g'.n,.string g'.name,kv'] ac rfl rfl nu ?_
  refine Run.callPure kQ kS hI (lj g g' S _ _ hg hg') fun w' hI=>?_
  refine bW ?_
  cases e1:eqT g g'
  ·rw [e1] at hq
   refine rpG ?_
   exact ⟨by rw [hq]; rfl,hI⟩
  ·rw [e1] at hq
   refine rpG ?_
   refine ad hI 0 rfl cF aw rfl ?_
   refine ad hI 1 rfl cF aw rfl ?_
   refine dt ?_
   cases e2:decide (n=n')
   ·rw [e2] at hq
    refine rpG ?_
    exact ⟨by rw [hq]; rfl,hI⟩
   ·rw [e2] at hq
    refine rpG ?_
    refine ad hI 0 rfl aW aZ rfl ?_
    refine aK hks bl ?_
    refine ad hI 1 rfl aW aZ rfl ?_
    refine aK hks' bl ?_
    refine dt ?_
    have e3:decide ((ks.length:Int)=(ks'.length:Int))=decide (ks.length=ks'.length):=by rw [decide_eq_decide]; omega
    rw [e3]
    refine rpG ?_
    exact ⟨by rw [hq]; rfl,hI⟩
 intro t27 _ _ _ _ _ _ _ _ _ _ _ _ _ _ _ _ _ _ _ _ _ w'
 rintro ⟨rfl,hI⟩
 have hqq:eqF (.mk g n ks) (.mk g' n' ks')=(q && lg ks ks'):=by
  rw [eqF,hq]
  by_cases hl:ks.length=ks'.length
  ·rw [decide_eq_true hl,Bool.and_true,Bool.and_assoc]
  ·rw [E5 hl]; simp
 rw [hqq]
 cases q with
 | false=>
  refine av (fun _=>?_) (fun hb=>by cases hb)
  exact done hI rfl
 | true=>
 refine av (fun hb=>by cases hb) (fun _=>?_)
 rw [Bool.true_and]
 have hle:ks.length=ks'.length:=by
  have:=hq.symm
  simp only [Bool.and_eq_true,decide_eq_true_eq] at this
  exact this.2.2
 clear hq hqq
 refine ⟨fun i w'=>∃ j:Nat,j<=ks.length/\i=.int .i64 j/\lg (ks.drop j) (ks'.drop j)=lg ks ks'/\Inv w [] [.blk b2 (.cells #[.int .i64 g.kind,.int .i64 g.n,.string g.name,kv,.int .i64 n,kp] af),.blk b3 (.cells #[.int .i64 g'.kind,.int .i64 g'.n,.string g'.name,kv',.int .i64 n',kp'] af)] S w',fun i _=>ks.length - (intOf i).toNat,⟨0,Nat.zero_le _,rfl,rfl,hI⟩,?_⟩
 intro t5 _ _ _ t46 t45 t44 t43 t42 t41 t40 t39 t38 t37 t36 t35 _ _ _ _ _ w'
 rintro ⟨j,hj,rfl,hrel,hI⟩
 refine ad hI 0 rfl aW aZ rfl ?_
 refine aK hks bl ?_
 refine bD ?_
 refine aN (fun hji=>?_) (fun hji=>?_)
 ·have hj1:j<ks.length:=by omega
  have hj2:j<ks'.length:=by omega
  obtain ⟨c1,o1,cap1,a1,E1,fz1,rfl,hS1,hR1⟩:=hks.at_ hj1
  obtain ⟨c2,o2,cap2,a2,E2,fz2,rfl,hS2,hR2⟩:=hks'.at_ hj2
  have hstep:lg (ks.drop j) (ks'.drop j)=(eqF ks[j] ks'[j] && lg (ks.drop (j+1)) (ks'.drop (j+1))):=by
   rw [List.drop_eq_getElem_cons hj1,List.drop_eq_getElem_cons hj2,lg]
  refine ⟨fun D nU mf kB iE jb iD lX gD fN kJ gU iI w_=>Fx D 0 [iI=.pointer (some ⟨b2,5,none⟩),gU=.slice (some ⟨c1,o1,none⟩) ks.length cap1,kJ=.int .i64 j,fN=.pointer (some ⟨c1,o1+j * 6,none⟩),gD=.agg (aL a1 (o1+j * 6) 6).toArray,lX=.pointer (some ⟨b3,5,none⟩),iD=.slice (some ⟨c2,o2,none⟩) ks'.length cap2,jb=.int .i64 j,iE=.pointer (some ⟨c2,o2+j * 6,none⟩),kB=.agg (aL a2 (o2+j * 6) 6).toArray,mf=.bool (eqF ks[j] ks'[j]),nU=.bool (!eqF ks[j] ks'[j])]/\Inv w [] [.blk b2 (.cells #[.int .i64 g.kind,.int .i64 g.n,.string g.name,kv,.int .i64 n,.slice (some ⟨c1,o1,none⟩) ks.length cap1] af),.blk b3 (.cells #[.int .i64 g'.kind,.int .i64 g'.n,.string g'.name,kv',.int .i64 n',.slice (some ⟨c2,o2,none⟩) ks'.length cap2] af)] S w_,⟨Fx.nil _ _,hI.draw⟩,⟨?_,?_,?_,?_,?_,?_,?_,?_,?_,?_,?_,?_,trivial⟩,?_⟩
  all_goals (intro D bw; intros; rename_i nU mf kB iE jb iD lX gD fN kJ gU iI w_ hA_; have hF_:=hA_.1; obtain ⟨⟨bQ,bS,bU,bR,bY,bZ,bO,cG,cS,cT,bL,co,_⟩,hI⟩:=hA_)
  ·refine ao aW ?_
   exact ⟨hF_.set 0 rfl,hI⟩
  ·obtain rfl:=bQ ‹_›
   refine ax hI 0 aZ rfl rfl ?_
   exact ⟨hF_.set 1 rfl,hI⟩
  ·exact ⟨hF_.set 2 rfl,hI⟩
  ·obtain rfl:=bS ‹_›
   obtain rfl:=bU ‹_›
   refine ay bl hj1 ?_
   exact ⟨hF_.set 3 rfl,hI⟩
  ·obtain rfl:=bR ‹_›
   refine ci aq hR1.length (fun j v hj=>by rw [hI.cellS hS1]; exact aD rfl j v hj) ?_
   exact ⟨hF_.set 4 rfl,hI⟩
  ·refine ao aW ?_
   exact ⟨hF_.set 5 rfl,hI⟩
  ·obtain rfl:=bZ ‹_›
   refine ax hI 1 aZ rfl rfl ?_
   exact ⟨hF_.set 6 rfl,hI⟩
  ·exact ⟨hF_.set 7 rfl,hI⟩
  ·obtain rfl:=bO ‹_›
   obtain rfl:=cG ‹_›
   refine ay bl hj2 ?_
   exact ⟨hF_.set 8 rfl,hI⟩
  ·obtain rfl:=cS ‹_›
   refine ci aq hR2.length (fun j v hj=>by rw [hI.cellS hS2]; exact aD rfl j v hj) ?_
   exact ⟨hF_.set 9 rfl,hI⟩
  ·obtain rfl:=bY ‹_›
   obtain rfl:=cT ‹_›
   refine Run.callPure jR jw hI (ih _ (List.getElem_mem hj1) _ S _ _ hR1 hR2) fun w_ hI=>?_
   exact ⟨hF_.set 10 rfl,hI⟩
  ·obtain rfl:=bL ‹_›
   refine bW ?_
   exact ⟨hF_.set 11 rfl,hI⟩
  obtain ⟨rfl,rfl,rfl,rfl,rfl,rfl,rfl,rfl,rfl,rfl,rfl,rfl,_⟩:=hF_.all
  clear hF_ bQ bS bU bR bY bZ bO cG cS cT bL co
  refine av (fun hne=>?_) (fun he'=>?_)
  ·exact done hI (by rw [<- hrel,hstep]; simp at hne; rw [hne]; rfl)
  ·refine bm (by omega) ?_
   refine ⟨⟨j+1,hj1,rfl,?_,hI⟩,by simp [intOf]; omega⟩
   rw [<- hrel,hstep]
   simp at he'
   rw [he',Bool.true_and]
 ·have:j=ks.length:=by omega
  subst this
  refine done hI ?_
  rw [<- hrel,List.drop_length,hle,List.drop_length]
  rfl
end
section
open Go Go.RowKit
def nlC:Bs->Nat
 | []=>0
 | b::l=>(if b.toNat=10 then 1 else 0)+nlC l
theorem l8:∀ a b:Bs,nlC (a++b)=nlC a+nlC b
 | [],b=>by simp [nlC]
 | x::a,b=>by rw [List.cons_append,nlC,nlC,l8 a b]; omega
theorem DS:∀ {a:Bs},noNl a->nlC a=0
 | [],_=>rfl
 | x::a,h=>by
  rw [nlC,if_neg (h x (by simp)),DS fun b hb=>h b (List.mem_cons_of_mem _ hb)]
mutual
theorem LH:∀ (x:PF) (ind:Bs),Fm x->noNl ind->(nlC (lnF x ind):Int)=gr x
 | .mk g c ks,ind,h,hi=>by
  obtain ⟨h1,h2,h3⟩:=h
  have ht:=ug h1
  have hb:=(xI h2).2
  have hk:=JM ks (ind++[32]) h3 (hi.app (noNl.lit (by decide)))
  rw [lnF,l8,l8,l8,l8,DS hi,DS ht.2.2,DS hb,gr]
  simp only [nlC]
  rw [if_pos (by decide)]
  omega
theorem JM:∀ (xs:List PF) (ind:Bs),vG xs->noNl ind->(nlC (oP xs ind):Int)=dv xs
 | [],_,_,_=>by simp [oP,nlC,dv]
 | x::xs,ind,h,hi=>by
  have h1:=LH x ind h.1 hi
  have h2:=JM xs ind h.2 hi
  rw [oP,l8,dv]
  omega
end
theorem LG (x:PF):(nlC (l6 x):Int)=psz x:=by
 unfold l6 psz
 split
 ·rename_i h
  exact LH x [] (oX h).1 (by intro b hb; simp at hb)
 ·rfl
theorem Nu (x:PF):decide (l6 x=[])=!cR x:=by
 have h:=LG x
 cases hv:cR x with
 | false=>simp [l6,hv]
 | true=>
  rw [psz,if_pos hv] at h
  have hp:=nW x
  refine decide_eq_false fun e=>?_
  rw [e] at h
  simp only [nlC] at h
  omega
theorem Nr (x:PF):(l6 x).length<=200000:=by
 unfold l6
 split
 ·rename_i h; exact (oX h).2
 ·simp
theorem La {s:Bs} {i:Nat} (h:i<s.length):nlC (s.take (i+1))=nlC (s.take i)+(if s[i].toNat=10 then 1 else 0):=by
 rw [List.take_succ_eq_append_getElem h,l8]
 rfl
theorem Lh:∀ s:Bs,nlC s<=s.length
 | []=>Nat.le_refl _
 | b::l=>by
  have:=Lh l
  rw [nlC,List.length_cons]
  split <;> omega
section
variable {S:ae} {ys:List Nat} {v:Value}
attribute [local irreducible] Run CondV ar aI
theorem AF (hT:TabS S) (h:RdSl S 1 jd v ys):Pure Tryz.prog bX [v] S (.bool true):=by
 intro w hI
 refine jt.2 ?_
 dsimp only[jt,aE]
 refine aK h di ?_
 refine cY ?_
 refine aN (fun _=>done hI rfl) (fun _=>?_)
 refine Run.call0E nH oG hI (lD h) fun v1 I' S1 w'=>?_
 rintro ⟨rfl,cs,x,rfl,hx,hwx⟩ hE1 hI
 have hxl:=hx.length
 have hT1:=hT.mono hE1.1
 have hfl:=Nr x
 have hnl:=LG x
 have hnil:=Nu x
 have pI:Pure Tryz.prog ql [.agg cs.toArray] S1 (.int .i64 (psz x)):=sF hx
 have pZ:Pure Tryz.prog qC [.agg cs.toArray] S1 (.int .i64 (psz x)):=ue hx (by omega)
 have pV:Pure Tryz.prog oF [.agg cs.toArray] S1 (.bool (cR x)):=j4 hx
 have pU:Pure Tryz.prog nS [.agg cs.toArray] S1 (.bool (cR x)):=eW hx (by omega)
 refine aA hI bV fun b3 w' hI=>?_
 refine aj hI 0 rfl aq (by simpa using hxl) rfl (by simpa using hx.one) fun w' hI=>?_
 have hI:Inv w [] [.blk b3 (.cells cs.toArray af)] S1 w':=hI
 refine ag hI 0 aq rfl (by simpa using hxl) ?_
 refine Run.callPure gN g6 hI (kU hx hT1) fun w' hI=>?_
 refine ⟨fun q w'=>q=.bool false/\Inv w [] [.blk b3 (.cells cs.toArray af)] S1 w',?_,?_⟩
 ·refine ag hI 0 aq rfl (by simpa using hxl) ?_
  refine Run.callPure vj uF hI (Bh hx (by omega)) fun w' hI=>?_
  refine C0 ?_
  rw [show decide (l6 x=l6 x)=true from decide_eq_true rfl]
  refine rpG ?_
  refine rg (b:=[]) ?_
  rw [hnil]
  refine ag hI 0 aq rfl (by simpa using hxl) ?_
  refine Run.callPure iH iJ hI pV fun w' hI=>?_
  refine bW ?_
  refine Hn jf ?_
  rw [show ((!cR x) == !cR x)=true from beq_self_eq_true _]
  refine rpG ?_
  exact ⟨rfl,hI⟩
 intro t25 _ _ _ _ _ _ _ _ _ _ _ w'
 rintro ⟨rfl,hI⟩
 refine av (fun hb=>by cases hb) (fun _=>?_)
 obtain ⟨s,hs⟩:∃ s,s=l6 x:=⟨_,rfl⟩
 rw [<- hs] at hfl hnl ⊢
 refine ⟨fun a b w'=>∃ i:Nat,i<=s.length/\a=.int .i64 (i:Int)/\b=.int .i64 (nlC (s.take i):Int)/\Inv w [] [.blk b3 (.cells cs.toArray af)] S1 w',fun a _ _=>s.length - (intOf a).toNat,⟨0,Nat.zero_le _,rfl,rfl,hI⟩,?_⟩
 intro t6 _ _ t5 _ _ _ _ _ _ _ _ _ _ w'
 rintro ⟨i,hi,rfl,rfl,hI⟩
 refine eQ aF ?_
 rw [gj]
 refine bD ?_
 refine aN (fun hlt=>?_) (fun hlt=>?_)
 ·have hi':i<s.length:=by omega
  have hst:=La hi'
  have hle:=Lh (s.take i)
  rw [List.length_take] at hle
  refine ⟨fun b w'=>b=.int .i64 (nlC (s.take (i+1)):Int)/\Inv w [] [.blk b3 (.cells cs.toArray af)] S1 w',?_,?_⟩
  ·refine dy (i:=i) aF hi' ?_
   refine bh ?_
   refine aN (fun h10=>?_) (fun h10=>?_)
   ·refine bm (by omega) ?_
    exact ⟨by rw [hst,if_pos (by omega)]; rfl,hI⟩
   ·exact ⟨by rw [hst,if_neg (by omega)]; rfl,hI⟩
  intro t5 _ _ _ _ _ _ w'
  rintro ⟨rfl,hI⟩
  refine bm (by omega) ?_
  exact ⟨⟨i+1,hi',rfl,rfl,hI⟩,by simp only [intOf,Int.toNat_natCast]; omega⟩
 ·have:i=s.length:=by omega
  subst this
  rw [List.take_length,hnl]
  refine ⟨fun D x2 tC pu kq rq rP sg pK lW nU mf kB iE jb iD lX gD fN w_=>Fx D 0 [fN=.int .i64 (psz x),gD=.agg cs.toArray,lX=.int .i64 (psz x),iD=.bool true,jb=.bool true,iE=.int .i64 (psz x),kB=.agg cs.toArray,mf=.int .i64 (psz x),nU=.bool true,lW=.bool true,pK=.bool true,sg=.agg cs.toArray,rP=.bool (cR x),rq=.agg cs.toArray,kq=.bool (cR x),pu=.bool true,tC=.bool true,x2=.bool true]/\Inv w [] [.blk b3 (.cells cs.toArray af)] S1 w_,⟨Fx.nil _ _,hI.draw⟩,⟨?_,?_,?_,?_,?_,?_,?_,?_,?_,?_,?_,?_,?_,?_,?_,?_,?_,?_,trivial⟩,?_⟩
  all_goals (intro D bw; intros; rename_i x2 tC pu kq rq rP sg pK lW nU mf kB iE jb iD lX gD fN w_ hA_; have hF_:=hA_.1; obtain ⟨⟨bQ,bS,bU,bR,bY,bZ,bO,cG,cS,cT,bL,co,cO,dJ,dT,dY,ew,dK,_⟩,hI⟩:=hA_)
  ·exact ⟨hF_.set 0 rfl,hI⟩
  ·refine ag hI 0 aq rfl (by simpa using hxl) ?_
   exact ⟨hF_.set 1 rfl,hI⟩
  ·obtain rfl:=bS ‹_›
   refine Run.callPure zo yQ hI pI fun w_ hI=>?_
   exact ⟨hF_.set 2 rfl,hI⟩
  ·obtain rfl:=bQ ‹_›
   obtain rfl:=bU ‹_›
   refine bh ?_
   rw [show decide (psz x=psz x)=true from decide_eq_true rfl]
   exact ⟨hF_.set 3 rfl,hI⟩
  ·obtain rfl:=bR ‹_›
   exact ⟨hF_.set 4 rfl,hI⟩
  ·obtain rfl:=bY ‹_›
   refine au ?_
   exact ⟨hF_.set 5 rfl,hI⟩
  ·obtain rfl:=bY ‹_›
   refine au ?_
   refine ag hI 0 aq rfl (by simpa using hxl) ?_
   exact ⟨hF_.set 6 rfl,hI⟩
  ·obtain rfl:=bO ‹_›
   obtain rfl:=bY ‹_›
   refine au ?_
   refine Run.callPure ym zP hI pZ fun w_ hI=>?_
   exact ⟨hF_.set 7 rfl,hI⟩
  ·obtain rfl:=bZ ‹_›
   obtain rfl:=cG ‹_›
   obtain rfl:=bY ‹_›
   refine au ?_
   refine bh ?_
   rw [show decide (psz x=psz x)=true from decide_eq_true rfl]
   exact ⟨hF_.set 8 rfl,hI⟩
  ·obtain rfl:=bY ‹_›
   obtain rfl:=cS ‹_›
   refine rpG ?_
   exact ⟨hF_.set 9 rfl,hI⟩
  ·obtain rfl:=cT ‹_›
   exact ⟨hF_.set 10 rfl,hI⟩
  ·obtain rfl:=bL ‹_›
   refine au ?_
   refine ag hI 0 aq rfl (by simpa using hxl) ?_
   exact ⟨hF_.set 11 rfl,hI⟩
  ·obtain rfl:=co ‹_›
   obtain rfl:=bL ‹_›
   refine au ?_
   refine Run.callPure iH iJ hI pV fun w_ hI=>?_
   exact ⟨hF_.set 12 rfl,hI⟩
  ·obtain rfl:=bL ‹_›
   refine au ?_
   refine ag hI 0 aq rfl (by simpa using hxl) ?_
   exact ⟨hF_.set 13 rfl,hI⟩
  ·obtain rfl:=dJ ‹_›
   obtain rfl:=bL ‹_›
   refine au ?_
   refine Run.callPure fJ fK hI pU fun w_ hI=>?_
   exact ⟨hF_.set 14 rfl,hI⟩
  ·obtain rfl:=cO ‹_›
   obtain rfl:=dT ‹_›
   obtain rfl:=bL ‹_›
   refine au ?_
   refine y8 jf ?_
   rw [show (cR x == cR x)=true from beq_self_eq_true _]
   exact ⟨hF_.set 15 rfl,hI⟩
  ·obtain rfl:=bL ‹_›
   obtain rfl:=dY ‹_›
   refine rpG ?_
   exact ⟨hF_.set 16 rfl,hI⟩
  ·obtain rfl:=ew ‹_›
   exact ⟨hF_.set 17 rfl,hI⟩
  obtain ⟨rfl,rfl,rfl,rfl,rfl,rfl,rfl,rfl,rfl,rfl,rfl,rfl,rfl,rfl,rfl,rfl,rfl,rfl,_⟩:=hF_.all
  clear hF_ bQ bS bU bR bY bZ bO cG cS cT bL co cO dJ dT dY ew dK
  exact sG hI hE1.1 rfl
theorem yh (hT:TabS S) (h:RdSl S 1 jd v ys):Pure Tryz.prog cA [v] S (.bool true):=by
 intro w hI
 refine ly.2 ?_
 dsimp only[ly,aE]
 refine aK h di ?_
 refine cY ?_
 refine aN (fun _=>done hI rfl) (fun _=>?_)
 refine Run.call0E qK qY hI (pj h) fun v1 I' S1 w'=>?_
 rintro ⟨rfl,cs,x,ds,y,rfl,hx,hy,hwx,hwy⟩ hE1 hI
 have hxl:=hx.length
 have hyl:=hy.length
 have hT1:=hT.mono hE1.1
 refine ai (v:=.agg cs.toArray) rfl ?_
 refine ai (v:=.agg ds.toArray) rfl ?_
 refine aA hI bV fun b3 w' hI=>?_
 refine aA hI bV fun b4 w' hI=>?_
 refine aj hI 0 rfl aq (by simpa using hxl) rfl (by simpa using hx.one) fun w' hI=>?_
 refine aj hI 1 rfl aq (by simpa using hyl) rfl (by simpa using hy.one) fun w' hI=>?_
 have hI:Inv w [] [.blk b3 (.cells cs.toArray af),.blk b4 (.cells ds.toArray af)] S1 w':=hI
 refine ag hI 0 aq rfl (by simpa using hxl) ?_
 refine ag hI 1 aq rfl (by simpa using hyl) ?_
 refine Run.callPure eh eo hI (gB x y S1 cs ds hx hy) fun w' hI=>?_
 have pS:=uk x y S1 cs ds hx hy
 have pR:=gB y x S1 ds cs hy hx
 have pX:=gB x x S1 cs cs hx hx
 rw [(si x x).2 rfl] at pX
 have pF:=kU hx hT1
 have pG:=kU hy hT1
 cases hb:eqF x y with
 | true=>
  obtain rfl:=(si x y).1 hb
  rw [hb] at pS pR
  refine ⟨fun D x2 kB iE jb iD lX gD fN kJ gU iI nC jT mP iM ia iF fC kl lf iT lY ni mD kX i6 lQ pJ mX w_=>Fx D 0 [mX=.bool true,pJ=.agg cs.toArray,lQ=.agg ds.toArray,i6=.bool true,kX=.bool true,mD=.bool true,ni=.bool true,lY=.agg ds.toArray,iT=.agg cs.toArray,lf=.bool true,kl=.bool true,fC=.bool true,iF=.bool true,ia=.agg cs.toArray,iM=.agg cs.toArray,mP=.bool true,jT=.bool true,nC=.bool true,iI=.bool true,gU=.bool false,kJ=.bool false,fN=.agg cs.toArray,gD=.string (st (l6 x)),lX=.agg ds.toArray,iD=.string (st (l6 x)),jb=.bool true,iE=.bool true,kB=.bool true,x2=.bool true]/\Inv w [] [.blk b3 (.cells cs.toArray af),.blk b4 (.cells ds.toArray af)] S1 w_,⟨Fx.nil _ _,hI.draw⟩,⟨?_,?_,?_,?_,?_,?_,?_,?_,?_,?_,?_,?_,?_,?_,?_,?_,?_,?_,?_,?_,?_,?_,?_,?_,?_,?_,?_,?_,?_,trivial⟩,?_⟩
  all_goals (intro D bw; intros; rename_i x2 kB iE jb iD lX gD fN kJ gU iI nC jT mP iM ia iF fC kl lf iT lY ni mD kX i6 lQ pJ mX w_ hA_; have hF_:=hA_.1; obtain ⟨⟨bQ,bS,bU,bR,bY,bZ,bO,cG,cS,cT,bL,co,cO,dJ,dT,dY,ew,dK,fy,dV,eL,jU,oE,oj,rX,ER,GC,Gc,Kc,_⟩,hI⟩:=hA_)
  ·exact ⟨hF_.set 0 rfl,hI⟩
  ·refine ag hI 0 aq rfl (by simpa using hxl) ?_
   exact ⟨hF_.set 1 rfl,hI⟩
  ·refine ag hI 1 aq rfl (by simpa using hyl) ?_
   exact ⟨hF_.set 2 rfl,hI⟩
  ·obtain rfl:=bS ‹_›
   obtain rfl:=bU ‹_›
   refine Run.callPure jR jw hI pS fun w_ hI=>?_
   exact ⟨hF_.set 3 rfl,hI⟩
  ·obtain rfl:=bQ ‹_›
   obtain rfl:=bR ‹_›
   refine y8 jf ?_
   exact ⟨hF_.set 4 rfl,hI⟩
  ·obtain rfl:=bY ‹_›
   exact ⟨hF_.set 5 rfl,hI⟩
  ·obtain rfl:=bZ ‹_›
   refine au ?_
   exact ⟨hF_.set 6 rfl,hI⟩
  ·obtain rfl:=bZ ‹_›
   refine au ?_
   refine ag hI 1 aq rfl (by simpa using hyl) ?_
   exact ⟨hF_.set 7 rfl,hI⟩
  ·obtain rfl:=bZ ‹_›
   refine au ?_
   refine ag hI 0 aq rfl (by simpa using hxl) ?_
   exact ⟨hF_.set 8 rfl,hI⟩
  ·obtain rfl:=cG ‹_›
   obtain rfl:=cS ‹_›
   obtain rfl:=bZ ‹_›
   refine au ?_
   refine Run.callPure eh eo hI pR fun w_ hI=>?_
   exact ⟨hF_.set 9 rfl,hI⟩
  ·obtain rfl:=bO ‹_›
   obtain rfl:=cT ‹_›
   obtain rfl:=bZ ‹_›
   refine au ?_
   refine y8 jf ?_
   exact ⟨hF_.set 10 rfl,hI⟩
  ·obtain rfl:=bZ ‹_›
   obtain rfl:=bL ‹_›
   refine rpG ?_
   exact ⟨hF_.set 11 rfl,hI⟩
  ·obtain rfl:=co ‹_›
   exact ⟨hF_.set 12 rfl,hI⟩
  ·obtain rfl:=cO ‹_›
   refine au ?_
   refine ag hI 0 aq rfl (by simpa using hxl) ?_
   exact ⟨hF_.set 13 rfl,hI⟩
  ·obtain rfl:=cO ‹_›
   refine au ?_
   refine ag hI 0 aq rfl (by simpa using hxl) ?_
   exact ⟨hF_.set 14 rfl,hI⟩
  ·obtain rfl:=dJ ‹_›
   obtain rfl:=dT ‹_›
   obtain rfl:=cO ‹_›
   refine au ?_
   refine Run.callPure eh eo hI pX fun w_ hI=>?_
   exact ⟨hF_.set 15 rfl,hI⟩
  ·obtain rfl:=cO ‹_›
   obtain rfl:=dY ‹_›
   refine rpG ?_
   exact ⟨hF_.set 16 rfl,hI⟩
  ·obtain rfl:=ew ‹_›
   exact ⟨hF_.set 17 rfl,hI⟩
  ·obtain rfl:=dK ‹_›
   refine au ?_
   exact ⟨hF_.set 18 rfl,hI⟩
  ·obtain rfl:=fy ‹_›
   obtain rfl:=dK ‹_›
   refine au ?_
   refine bW ?_
   exact ⟨hF_.set 19 rfl,hI⟩
  ·obtain rfl:=dV ‹_›
   obtain rfl:=dK ‹_›
   refine au ?_
   exact ⟨hF_.set 20 rfl,hI⟩
  ·obtain rfl:=eL ‹_›
   refine au ?_
   refine ag hI 0 aq rfl (by simpa using hxl) ?_
   exact ⟨hF_.set 21 rfl,hI⟩
  ·obtain rfl:=jU ‹_›
   obtain rfl:=eL ‹_›
   refine au ?_
   refine Run.callPure gN g6 hI pF fun w_ hI=>?_
   exact ⟨hF_.set 22 rfl,hI⟩
  ·obtain rfl:=eL ‹_›
   refine au ?_
   refine ag hI 1 aq rfl (by simpa using hyl) ?_
   exact ⟨hF_.set 23 rfl,hI⟩
  ·obtain rfl:=oj ‹_›
   obtain rfl:=eL ‹_›
   refine au ?_
   refine Run.callPure gN g6 hI pG fun w_ hI=>?_
   exact ⟨hF_.set 24 rfl,hI⟩
  ·obtain rfl:=oE ‹_›
   obtain rfl:=rX ‹_›
   obtain rfl:=eL ‹_›
   refine au ?_
   refine rg ?_
   rw [show decide (l6 x=l6 x)=true from decide_eq_true rfl]
   exact ⟨hF_.set 25 rfl,hI⟩
  ·obtain rfl:=eL ‹_›
   obtain rfl:=ER ‹_›
   obtain rfl:=dK ‹_›
   refine au ?_
   refine rpG ?_
   exact ⟨hF_.set 26 rfl,hI⟩
  ·obtain rfl:=dK ‹_›
   obtain rfl:=GC ‹_›
   refine rpG ?_
   exact ⟨hF_.set 27 rfl,hI⟩
  ·obtain rfl:=Gc ‹_›
   exact ⟨hF_.set 28 rfl,hI⟩
  obtain ⟨rfl,rfl,rfl,rfl,rfl,rfl,rfl,rfl,rfl,rfl,rfl,rfl,rfl,rfl,rfl,rfl,rfl,rfl,rfl,rfl,rfl,rfl,rfl,rfl,rfl,rfl,rfl,rfl,rfl,_⟩:=hF_.all
  clear hF_ bQ bS bU bR bY bZ bO cG cS cT bL co cO dJ dT dY ew dK fy dV eL jU oE oj rX ER GC Gc Kc
  exact sG hI hE1.1 rfl
 | false=>
  have hb2:eqF y x=false:=by
   rw [<- Bool.not_eq_true,si]
   rintro rfl
   rw [(si y y).2 rfl] at hb
   cases hb
  rw [hb] at pS
  rw [hb2] at pR
  refine ⟨fun D x2 kB iE jb iD lX gD fN kJ gU iI nC jT mP iM ia iF fC kl lf iT lY ni mD kX i6 lQ pJ mX w_=>Fx D 0 [mX=.bool false,pJ=.agg cs.toArray,lQ=.agg ds.toArray,i6=.bool false,kX=.bool true,mD=.bool true,ni=.bool false,lY=.agg ds.toArray,iT=.agg cs.toArray,lf=.bool false,kl=.bool true,fC=.bool true,iF=.bool true,ia=.agg cs.toArray,iM=.agg cs.toArray,mP=.bool true,jT=.bool true,nC=.bool true,iI=.bool false,gU=.bool true,kJ=.bool true,True,True,True,True,True,iE=.bool true,kB=.bool true,x2=.bool true]/\Inv w [] [.blk b3 (.cells cs.toArray af),.blk b4 (.cells ds.toArray af)] S1 w_,⟨Fx.nil _ _,hI.draw⟩,⟨?_,?_,?_,?_,?_,?_,?_,?_,?_,?_,?_,?_,?_,?_,?_,?_,?_,?_,?_,?_,?_,?_,?_,?_,?_,?_,?_,?_,?_,trivial⟩,?_⟩
  all_goals (intro D bw; intros; rename_i x2 kB iE jb iD lX gD fN kJ gU iI nC jT mP iM ia iF fC kl lf iT lY ni mD kX i6 lQ pJ mX w_ hA_; have hF_:=hA_.1; obtain ⟨⟨bQ,bS,bU,bR,bY,bZ,bO,cG,cS,cT,bL,co,cO,dJ,dT,dY,ew,dK,fy,dV,eL,jU,oE,oj,rX,ER,GC,Gc,Kc,_⟩,hI⟩:=hA_)
  ·exact ⟨hF_.set 0 rfl,hI⟩
  ·refine ag hI 0 aq rfl (by simpa using hxl) ?_
   exact ⟨hF_.set 1 rfl,hI⟩
  ·refine ag hI 1 aq rfl (by simpa using hyl) ?_
   exact ⟨hF_.set 2 rfl,hI⟩
  ·obtain rfl:=bS ‹_›
   obtain rfl:=bU ‹_›
   refine Run.callPure jR jw hI pS fun w_ hI=>?_
   exact ⟨hF_.set 3 rfl,hI⟩
  ·obtain rfl:=bQ ‹_›
   obtain rfl:=bR ‹_›
   refine y8 jf ?_
   exact ⟨hF_.set 4 rfl,hI⟩
  ·obtain rfl:=bY ‹_›
   exact ⟨hF_.set 5 rfl,hI⟩
  ·obtain rfl:=bZ ‹_›
   refine au ?_
   exact ⟨hF_.set 6 rfl,hI⟩
  ·obtain rfl:=bZ ‹_›
   refine au ?_
   refine ag hI 1 aq rfl (by simpa using hyl) ?_
   exact ⟨hF_.set 7 rfl,hI⟩
  ·obtain rfl:=bZ ‹_›
   refine au ?_
   refine ag hI 0 aq rfl (by simpa using hxl) ?_
   exact ⟨hF_.set 8 rfl,hI⟩
  ·obtain rfl:=cG ‹_›
   obtain rfl:=cS ‹_›
   obtain rfl:=bZ ‹_›
   refine au ?_
   refine Run.callPure eh eo hI pR fun w_ hI=>?_
   exact ⟨hF_.set 9 rfl,hI⟩
  ·obtain rfl:=bO ‹_›
   obtain rfl:=cT ‹_›
   obtain rfl:=bZ ‹_›
   refine au ?_
   refine y8 jf ?_
   exact ⟨hF_.set 10 rfl,hI⟩
  ·obtain rfl:=bZ ‹_›
   obtain rfl:=bL ‹_›
   refine rpG ?_
   exact ⟨hF_.set 11 rfl,hI⟩
  ·obtain rfl:=co ‹_›
   exact ⟨hF_.set 12 rfl,hI⟩
  ·obtain rfl:=cO ‹_›
   refine au ?_
   refine ag hI 0 aq rfl (by simpa using hxl) ?_
   exact ⟨hF_.set 13 rfl,hI⟩
  ·obtain rfl:=cO ‹_›
   refine au ?_
   refine ag hI 0 aq rfl (by simpa using hxl) ?_
   exact ⟨hF_.set 14 rfl,hI⟩
  ·obtain rfl:=dJ ‹_›
   obtain rfl:=dT ‹_›
   obtain rfl:=cO ‹_›
   refine au ?_
   refine Run.callPure eh eo hI pX fun w_ hI=>?_
   exact ⟨hF_.set 15 rfl,hI⟩
  ·obtain rfl:=cO ‹_›
   obtain rfl:=dY ‹_›
   refine rpG ?_
   exact ⟨hF_.set 16 rfl,hI⟩
  ·obtain rfl:=ew ‹_›
   exact ⟨hF_.set 17 rfl,hI⟩
  ·obtain rfl:=dK ‹_›
   refine au ?_
   exact ⟨hF_.set 18 rfl,hI⟩
  ·obtain rfl:=fy ‹_›
   obtain rfl:=dK ‹_›
   refine au ?_
   refine bW ?_
   exact ⟨hF_.set 19 rfl,hI⟩
  ·obtain rfl:=dV ‹_›
   obtain rfl:=dK ‹_›
   refine au ?_
   exact ⟨hF_.set 20 rfl,hI⟩
  ·obtain rfl:=eL ‹_›
   refine bn (by decide) ?_
   exact ⟨hF_.set 21 (by first|assumption|trivial),hI⟩
  ·have QI:=jU ‹_›
   obtain rfl:=eL ‹_›
   refine bn (by decide) ?_
   exact ⟨hF_.set 22 (by first|assumption|trivial),hI⟩
  ·obtain rfl:=eL ‹_›
   refine bn (by decide) ?_
   exact ⟨hF_.set 23 (by first|assumption|trivial),hI⟩
  ·have QM:=oj ‹_›
   obtain rfl:=eL ‹_›
   refine bn (by decide) ?_
   exact ⟨hF_.set 24 (by first|assumption|trivial),hI⟩
  ·have QO:=oE ‹_›
   have QS:=rX ‹_›
   obtain rfl:=eL ‹_›
   refine bn (by decide) ?_
   exact ⟨hF_.set 25 (by first|assumption|trivial),hI⟩
  ·obtain rfl:=eL ‹_›
   have QF:=ER ‹_›
   obtain rfl:=dK ‹_›
   refine au ?_
   refine rpG ?_
   exact ⟨hF_.set 26 rfl,hI⟩
  ·obtain rfl:=dK ‹_›
   obtain rfl:=GC ‹_›
   refine rpG ?_
   exact ⟨hF_.set 27 rfl,hI⟩
  ·obtain rfl:=Gc ‹_›
   exact ⟨hF_.set 28 rfl,hI⟩
  obtain ⟨rfl,rfl,rfl,rfl,rfl,rfl,rfl,rfl,rfl,rfl,rfl,rfl,rfl,rfl,rfl,rfl,rfl,rfl,rfl,rfl,rfl,QI,QO,QM,QS,QF,rfl,rfl,rfl,_⟩:=hF_.all
  clear hF_ bQ bS bU bR bY bZ bO cG cS cT bL co cO dJ dT dY ew dK fy dV eL jU oE oj rX ER GC Gc Kc
  exact sG hI hE1.1 rfl
end
end
section
open Go Go.ChangeShapes Go.WideShapes Go.RowKit
def wD:List (String × DataW Unit):=[("math/bits.deBruijn32tab",Rows.laid_math_bits_deBruijn32tab),("math/bits.deBruijn64tab",Rows.laid_math_bits_deBruijn64tab),("internal/strconv.uint64pow10",Rows.laid_internal_strconv_uint64pow10)]
theorem Mo:(Rows.laid_internal_strconv_uint64pow10:DataW Unit)=Lib.tabData .u64 Lib.pow10Tab:=by kernel_rfl
theorem KD:∃ g t e n,Tryz.prog.globalNamed "internal/strconv.uint64pow10" = some g/\(Tryz.prog.globals[g]?).map (·.type)=some t/\Tryz.prog.underlying t=some (.array n e)/\Tryz.prog.underlying e=some (.int .u64)/\Tryz.prog.cellsOf e=1/\Tryz.prog.cellsOf t=n:=by
 have h:(Tryz.prog.globalNamed "internal/strconv.uint64pow10").bind (fun g=>(Tryz.prog.globals[g]?).map (·.type))=some wX:=by kernel_rfl
 obtain ⟨g,hg,ht⟩:=Option.bind_eq_some_iff.1 h
 exact ⟨g,wX,Lo,20,hg,ht,by kernel_rfl,by kernel_rfl,by kernel_rfl,by kernel_rfl⟩
theorem xi {W:World} (h:laidMetH Tryz.prog wD W):TabS (Eu W):=by
 rw [MakeChecks.laidMetH_plain _ _ _ (by kernel_rfl)] at h
 obtain ⟨ps,⟨g0,t0,cs0,f0,p0,q0,hg0,ht0,hv0,hd0,⟨g1,t1,cs1,f1,p1,q1,hg1,ht1,hv1,hd1,⟨g2,t2,cs2,f2,p2,q2,hg2,ht2,hv2,hd2,_,_⟩,_⟩,_⟩,_⟩:=h
 obtain ⟨g,t,e,n,hg,hty,ht,he,hce,hct⟩:=KD
 obtain rfl:=Option.some.inj (hg.symm.trans hg2)
 obtain rfl:=Option.some.inj (hty.symm.trans ht2)
 rw [Mo] at hd2
 have hcs:=Lib.cells_of_tab ht he hce hct hd2
 unfold World.var? at hv2
 rw [hg,Option.bind_some] at hv2
 split at hv2
 ·rename_i cs' E fz hh
  obtain rfl:=Option.some.inj hv2
  refine ⟨g,E,fz,hg,?_⟩
  show W.heap[g]?=_
  rw [hh,<- hcs]
 ·cases hv2
theorem FD (os:Os) (args:Array Value):laidMetH Tryz.prog wD ((World.doorLaid Tryz.prog 24 os).forCall (fun _ _=>0) ⟨#[],args,[]⟩).memory:=
 laidMetH_of_parts3 (fuel:=8) (laidMet_of_run' 8 (by kernel_rfl) (by kernel_rfl)) (by kernel_rfl) (by kernel_rfl)
end
section
open Go Go.ChangeShapes Go.WideShapes Go.ChangeAt Go.RowKit

theorem Tryz.own:ownKnob Tryz.prog.godebug=none:=by kernel_rfl
theorem Tryz.kids:Kids Tryz.prog (·<Tryz.prog.types.size):=kids_rows (by kernel_rfl) (by kernel_rfl)
theorem Tryz.full:∀ t e,t<Tryz.prog.types.size->Tryz.prog.underlying t=some (.slice e)->0<Tryz.prog.cellsOf e:=slices_full_of Tryz.prog (by kernel_rfl)
section
variable {H:Type} {enc:TypeId × Value->H} {W W':World}
theorem GK {P:Program}:∀ {ts:List TypeId} {vs:List Value} {ds:List (DataW H)} {ps:List MemPlace},DataW.TrodAll enc P W 0 (fun _=>true) true ts vs ds ps->(∀ p∈ps,W.sameAt W' p)->
  DataW.TrodAll enc P W' 0 (fun _=>true) true ts vs ds ps
 | [],[],[],_,h,_=>h
 | _::_,_::_,_::_,_,⟨p,q,⟨n,h1⟩,h2,e⟩,hs=>
  ⟨p,q,⟨n,DataW.trod_carry n _ _ _ h1 fun x hx=>hs x (by rw [e]; exact List.mem_append_left _ hx)⟩,GK h2 fun x hx=>hs x (by rw [e]; exact List.mem_append_right _ hx),e⟩
theorem NL {p:MemPlace} (h:∀ b,b<W.heap.size->W'.heap[b]?=W.heap[b]?) (hp:p.block<W.heap.size):W.sameAt W' p:=by
 cases p with
 | cell b off=>simp only [World.sameAt,World.cell?]; rw [h b hp]
 | map b=>exact h b hp
theorem Cn {f:Func} {s:ChangeSpec} {args:Array Value} {ds gs:List (DataW H)} {before p q:List MemPlace}
  (hW:DataW.Whole enc Tryz.prog f.params.toList s.vars false W args.toList ds gs before) (hA:DataW.TrodAll enc Tryz.prog W 0 (fun _=>true) true f.params.toList args.toList ds p)
  (hV:DataW.TrodVars enc Tryz.prog W (fun _=>true) s.vars gs q) (hb:before=p++q) (hv:s.vars=[]) (hts:∀ t∈f.params.toList,t<Tryz.prog.types.size) (hr:f.resultTypes=#[PI])
  (hs:(s.fn H (ds++gs)).results=[.lit (.bool true)]) (ha:(s.fn H (ds++gs)).args=ds) (hsv:(s.fn H (ds++gs)).vars=[]) (hI:Inv W [] [] (Eu W) W') :
  s.post enc Tryz.prog f false true false false W args (.bool true) W':=by
 have hsame:∀ b,b<W.heap.size->W'.heap[b]?=W.heap[b]?:=fun b hb=>hI.same b hb
 have hlt:=hW.lt
 rw [hv] at hV
 obtain ⟨hg,hq⟩:=trodVars_none hV
 subst hq
 rw [List.append_nil] at hb
 subst hb
 have hA':=GK (W':=W') hA fun x hx=>NL hsame (hlt x hx)
 refine ⟨ds,gs,before,[],before,[],hW,?_,?_,?_,KN hI.os hI.output hsame,fun h=>by cases h⟩
 ·rw [hs,hr]
  exact trodAll_mk1 (shut_bool jf true)
 ·rw [ha]
  exact DataW.TrodAll.respare Tryz.kids Tryz.full hts hA' fun x hx=>by simpa using hlt x hx
 ·rw [hv,hsv]
  rfl
end
end
end Go.Proofs.YtbocelianhcfmaaGreatDoor
