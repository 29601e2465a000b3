/- impl.compare: the standard order. -/
import Derived.Test.YtgllldjiaglkcaaGreatDoorZMp14
import Derived.Test.YtgllldjiaglkcaaGreatDoorZMp4
import Derived.Test.YtgllldjiaglkcaaGreatDoorZMp5
import Derived.Test.YtgllldjiaglkcaaGreatDoorZMp2
namespace Go.Proofs.YtgllldjiaglkcaaGreatDoor
section
open Go Go.RowKit
def rkI (t:T):Int:=if t.kind=1 then 0 else if t.kind=2 then 1 else if t.kids.length=0 then 2 else 3
theorem XF {t:T} (h:okO t):rkI t=rkS t - 1:=by
 rcases E6 h with ⟨hk,_,hks⟩|⟨hk,_⟩
 ·rw [pX hks]
  rcases hk with hk|hk
  ·rw [rkI,ai hk]; omega
  ·rw [rkI,ah (by omega),ai hk]; omega
 ·rw [rkI,ah (by omega),ah (by omega),rkS]
  by_cases h0:t.kids.length=0
  ·rw [ai h0,ah (by omega)]; omega
  ·rw [ah h0,ai ⟨hk,by omega⟩]; rfl
def orL:List Int->Int
 | []=>0
 | x::xs=>iF x (orL xs)
theorem Sx (a b c:Int):iF (iF a b) c=iF a (iF b c):=by
 unfold iF
 by_cases h:a=0
 ·subst h; simp
 ·simp [h]
theorem Z6 {t u:T} (ht:okO t) (hu:okO u):orL [cS (rkI t) (rkI u),cS t.n u.n,cS t.kids.length u.kids.length,cY t.name u.name,dD t.kids u.kids]=dL t u:=by
 have e:cS (rkI t) (rkI u)=cS (rkS t) (rkS u):=by
  rw [XF ht,XF hu]
  have h1:=dH (rkS t - 1) (rkS u - 1)
  have h2:=dH (rkS t) (rkS u)
  omega
 rw [e,Au,hdC]
 simp only [orL,NC,Sx]
section
variable {P:Program} {w w0:World} {X:List Nat} {L:List Item} {S:ae} {K:Value->World->Prop}
attribute [local irreducible] Run CondV az aO
theorem XW (h:Inv w0 X L S w) {a b c d e:Int}
  (hk:∀ b5 w',Inv w0 X (L++[.blk b5 (.cells #[.int .i64 a,.int .i64 b,.int .i64 c,.int .i64 d,.int .i64 e] bV)]) S w'->K (.slice (some ⟨b5,0,none⟩) 5 5) w') :
  Run Tryz.prog (bC kw 5 [(0,.int .i64 a),(1,.int .i64 b),(2,.int .i64 c),(3,.int .i64 d),(4,.int .i64 e)]) w K:=by
 obtain ⟨hu,i,hi,hz,hs,hb,hzs⟩:=j0 kF
 refine Run.of (v:=.slice (some ⟨w.heap.size,0,none⟩) 5 5) (w':={ w with heap:=w.heap.push (.cells #[.int .i64 a,.int .i64 b,.int .i64 c,.int .i64 d,.int .i64 e] bV) }) ?_ (hk _ _ (h.alloc _))
 have hbase:(Array.range 5).map ((Value.int .i64 0).cells[· % (Value.int .i64 0).cells.size]!)=#[.int .i64 0,.int .i64 0,.int .i64 0,.int .i64 0,.int .i64 0]:=by kernel_rfl
 have hf:Instr.fill (fun i=>some (i,1)) ((Array.range 5).map ((Value.int .i64 0).cells[· % (Value.int .i64 0).cells.size]!)) [(0,.int .i64 a),(1,.int .i64 b),(2,.int .i64 c),(3,.int .i64 d),(4,.int .i64 e)]=some #[.int .i64 a,.int .i64 b,.int .i64 c,.int .i64 d,.int .i64 e]:=by
  rw [hbase]; rfl
 simp [bC,Instr.buildSlice,run_underlying hu,sizeOf,typeInfo,hi,hs,zeroValue,hz,hf,newRow,newObj,Sem.run]
end
section
attribute [local irreducible] Run CondV az aO
theorem rG (a:Int) (S:ae):Pure Tryz.prog JO [.int .i64 a] S (.bool false):=by
 intro w hI
 refine sX.2 ?_
 dsimp only[sX,aM]
 refine ef (done hI ?_)
 simp
theorem mI (a:ByteArray) (S:ae):Pure Tryz.prog A2 [.string a] S (.bool false):=by
 intro w hI
 refine oq.2 ?_
 dsimp only[oq,aM]
 refine xW (done hI ?_)
 simp
theorem jt (a b:Int) (S:ae):Pure Tryz.prog EF [.int .i64 a,.int .i64 b] S (.int .i64 (cS a b)):=by
 intro w hI
 refine qj.2 ?_
 dsimp only[qj,aY]
 refine Run.callPure tg sH hI (rG a S) fun w' hI=>?_
 refine Run.callPure tg sH hI (rG b S) fun w' hI=>?_
 refine aw (fun hb=>by cases hb) (fun _=>?_)
 refine aw (fun hb=>by cases hb) (fun _=>?_)
 refine bH ?_
 refine aL (fun h=>done hI (by rw [cS,ai h])) (fun h=>?_)
 refine dA ?_
 exact aL (fun h'=>done hI (by rw [cS,ah h,ai h'])) (fun h'=>done hI (by rw [cS,ah h,ah h']))
theorem te (a b:ByteArray) (S:ae):Pure Tryz.prog xY [.string a,.string b] S (.int .i64 (cY a b)):=by
 intro w hI
 refine lB.2 ?_
 dsimp only[lB,aY]
 refine Run.callPure nJ oB hI (mI a S) fun w' hI=>?_
 refine Run.callPure nJ oB hI (mI b S) fun w' hI=>?_
 refine aw (fun hb=>by cases hb) (fun _=>?_)
 refine aw (fun hb=>by cases hb) (fun _=>?_)
 refine Wp ?_
 refine aw (fun h=>done hI (by rw [cY,ai h])) (fun h=>?_)
 refine XI ?_
 rw [h,fV]
 refine aw (fun h'=>done hI ?_) (fun h'=>done hI ?_)
 ·rw [jj,jC] at h'
  rcases dQ a b with h1|h1|h1
  ·rw [h1.1] at h; cases h
  ·rw [h1.2.2]
  ·exact absurd h1.1 h'
 ·rw [rK,bk] at h'
  rw [h',lP]
theorem GM {t:T} {S:ae} {cs:List Value} (h:RdT S cs t) (_:okO t):Pure Tryz.prog V3 [.agg cs.toArray] S (.int .i64 (rkI t)):=by
 intro w hI
 obtain ⟨kv,rfl,_,_,_,hks⟩:=RdT.iff.1 h
 refine JT.2 ?_
 dsimp only[JT,aM]
 refine bq hI fun b1 w' hI=>?_
 refine af hI 0 rfl aR aG rfl ?_
 refine bl ?_
 refine aL (fun h1=>done hI (by rw [rkI,ai (show t.kind=1 from h1)])) (fun h1=>?_)
 refine af hI 0 rfl aR aG rfl ?_
 refine bl ?_
 refine aL (fun h2=>done hI (by rw [rkI,ah (show ¬ t.kind=1 from h1),ai (show t.kind=2 from h2)])) (fun h2=>?_)
 refine af hI 0 rfl ao aj rfl ?_
 refine aF hks ag ?_
 refine bl ?_
 exact aL (fun h3=>done hI (by rw [rkI,ah (show ¬ t.kind=1 from h1),ah (show ¬ t.kind=2 from h2),ai (by omega)])) (fun h3=>done hI (by rw [rkI,ah (show ¬ t.kind=1 from h1),ah (show ¬ t.kind=2 from h2),ah (by omega)]))
theorem X7 {l:List Int} {S:ae} {v:Value} (h:RdSl S 1 jz v l):Pure Tryz.prog SY [v] S (.int .i64 (orL l)):=by
 intro w hI
 have hlen:=h.le
 simp only [maxLen] at hlen
 refine Db.2 ?_
 dsimp only[Db,aM]
 refine aF h dd ?_
 refine ⟨fun i w'=>∃ j:Nat,j<=l.length/\i=.int .i64 j/\orL (l.drop j)=orL l/\Inv w [] [] S w',fun i _=>l.length - (intOf i).toNat,⟨0,be _,rfl,rfl,hI⟩,?_⟩
 intro t8 _ _ _ _ _ _ _ _ _ _ w'
 rintro ⟨j,hj,rfl,hrel,hI⟩
 refine bH ?_
 refine aL (fun hji=>?_) (fun hji=>?_)
 ·have hj':j<l.length:=by omega
  rw [cU hj',orL] at hrel
  refine i5 hI h dd aG hj' (fun cs hcs=>hcs) ?_
  refine ef ?_
  refine aw (fun hb=>done hI ?_) (fun hb=>?_)
  ·have hne:l[j]≠0:=by simpa using hb
   rw [<- hrel,nV hne]
  ·have he:l[j]=0:=by simpa using hb
   rw [he,kA] at hrel
   refine bp (by omega) ?_
   exact ⟨⟨j+1,hj',rfl,hrel,hI⟩,by simp [intOf]; omega⟩
 ·refine done hI ?_
  rw [<- hrel,jT (by omega)]; rfl
theorem zD {ts us:List T} {S:ae} {v u:Value} (h:RdSl S 4 (RdT S) v ts) (h':RdSl S 4 (RdT S) u us)
  (hc:∀ t∈ts,∀ u∈us,∀ cs ds,RdT S cs t->RdT S ds u->Pure Tryz.prog jg [.agg cs.toArray,.agg ds.toArray] S (.int .i64 (dL t u))) :
  Pure Tryz.prog tL [v,u,fv jg []] S (.int .i64 (dD ts us)):=by
 intro w hI
 have hlen:=h.le
 simp only [maxLen] at hlen
 refine jM.2 ?_
 dsimp only[jM,dN]
 refine aF h ag ?_
 refine ⟨fun i w'=>∃ j:Nat,j<=ts.length/\j<=us.length/\i=.int .i64 j/\dD (ts.drop j) (us.drop j)=dD ts us/\Inv w [] [] S w',fun i _=>ts.length - (intOf i).toNat,⟨0,be _,be _,rfl,rfl,hI⟩,?_⟩
 intro t13 _ _ _ _ _ _ _ _ _ _ _ _ _ _ _ _ _ _ _ _ _ _ _ _ _ w'
 rintro ⟨j,hj,hju,rfl,hrel,hI⟩
 refine bH ?_
 refine aL (fun hji=>?_) (fun hji=>?_)
 ·have hj1:j<ts.length:=by omega
  refine cL hI h ag ad hj1 (fun _ _=>RdT.length) fun cs hcs=>?_
  have hlc:=hcs.length
  refine aT hI aZ fun b8 w' hI=>?_
  refine aC hI 0 rfl ad (by simpa using hlc) rfl (by simpa using hcs.one) fun w' hI=>?_
  refine aF h' ag ?_
  refine jS ?_
  refine aL (fun hb=>done hI ?_) (fun hb=>?_)
  ·rw [<- hrel,jT (show us.length<=j by omega),cU hj1,dD]
  have hj2:j<us.length:=by omega
  refine cL hI h' ag ad hj2 (fun _ _=>RdT.length) fun ds hds=>?_
  have hld:=hds.length
  refine aT hI aZ fun b9 w' hI=>?_
  refine aC hI 1 rfl ad (by simpa using hld) rfl (by simpa using hds.one) fun w' hI=>?_
  refine av hI 0 ad rfl (by simpa using hlc) ?_
  refine av hI 1 ad rfl (by simpa using hld) ?_
  refine Run.callVPure (cap:=[]) qW qG hI (hc _ (bz hj1) _ (bz hj2) cs ds hcs hds) fun w' hI=>?_
  rw [Li ts us j hj1 hj2] at hrel
  refine ef ?_
  refine aw (fun hb=>done hI ?_) (fun hb=>?_)
  ·have hne:dL ts[j] us[j]≠0:=by simpa using hb
   rw [<- hrel,nV hne]
  ·have he:dL ts[j] us[j]=0:=by simpa using hb
   rw [he,kA] at hrel
   refine bp (by omega) ?_
   exact ⟨⟨j+1,hj1,hj2,rfl,hrel,hI.sub (MI _)⟩,by simp [intOf]; omega⟩
 ·refine aF h ag ?_
  refine aF h' ag ?_
  refine bH ?_
  rw [jT (show ts.length<=j by omega)] at hrel
  refine aL (fun hb=>done hI ?_) (fun hb=>done hI ?_)
  ·rw [<- hrel,cU (show j<us.length by omega),dD]
  ·rw [<- hrel,jT (show us.length<=j by omega),dD]
theorem wt:∀ (t u:T) (S:ae) (cs ds:List Value),RdT S cs t->RdT S ds u->okO t->okO u->Pure Tryz.prog jg [.agg cs.toArray,.agg ds.toArray] S (.int .i64 (dL t u)):=by
 refine T.ind fun k n s ks ih u S cs ds h h' ht hu=>?_
 intro w hI
 have hcs:=h
 have hds:=h'
 have hor:=Z6 ht hu
 obtain ⟨kv,rfl,_,_,_,hks⟩:=RdT.iff.1 h
 obtain ⟨kv',rfl,_,_,_,hks'⟩:=RdT.iff.1 h'
 obtain ⟨k',n',s',ks'⟩:=u
 simp only [T.name,T.kids,T.kind,T.n] at hks hks' ⊢
 have htk:A0 ks:=by have h:=ht; rw [okO] at h; exact h.2
 have huk:A0 ks':=by have h:=hu; rw [okO] at h; exact h.2
 have hkids:=zD hks hks' fun t ht u hu cs ds h1 h2=>ih t ht u S cs ds h1 h2 (sG htk t ht) (sG huk u hu)
 refine zQ.2 ?_
 dsimp only[zQ,aY]
 refine bq hI fun b1 w' hI=>?_
 refine bq hI fun b2 w' hI=>?_
 have hI:Inv w [] [.blk b1 (.cells #[.int .i64 k,.int .i64 n,.string s,kv] ab),.blk b2 (.cells #[.int .i64 k',.int .i64 n',.string s',kv'] ab)] S w':=hI
 refine ⟨fun D x4 Ih Km zY lj su jO uk mM gk lK tx uK sj oU lp rT lN pr wJ AJ vC wi Gi GJ x9 x8 x7 x6 x5 w_=>Fx D 0 [x5=.agg #[.int .i64 k,.int .i64 n,.string s,kv],x6=.int .i64 (rkI (T.mk k n s ks)),x7=.agg #[.int .i64 k',.int .i64 n',.string s',kv'],x8=.int .i64 (rkI (T.mk k' n' s' ks')),x9=.int .i64 (cS (rkI (T.mk k n s ks)) (rkI (T.mk k' n' s' ks'))),GJ=.pointer (some ⟨b1,1,none⟩),Gi=.int .i64 n,wi=.pointer (some ⟨b2,1,none⟩),vC=.int .i64 n',AJ=.int .i64 (cS n n'),wJ=.pointer (some ⟨b1,3,none⟩),pr=kv,lN=.int .i64 ks.length,rT=.pointer (some ⟨b2,3,none⟩),lp=kv',oU=.int .i64 ks'.length,sj=.int .i64 (cS ks.length ks'.length),uK=.pointer (some ⟨b1,2,none⟩),tx=.string s,lK=.pointer (some ⟨b2,2,none⟩),gk=.string s',mM=.int .i64 (cY s s'),uk=.pointer (some ⟨b1,3,none⟩),jO=kv,su=.pointer (some ⟨b2,3,none⟩),lj=kv',zY=.int .i64 (dD ks ks'),True,Ih=.int .i64 (orL [cS (rkI (T.mk k n s ks)) (rkI (T.mk k' n' s' ks')),cS n n',cS ks.length ks'.length,cY s s',dD ks ks']),x4=.int .i64 (orL [cS (rkI (T.mk k n s ks)) (rkI (T.mk k' n' s' ks')),cS n n',cS ks.length ks'.length,cY s s',dD ks ks'])]/\∃ SN,Sle S SN/\(D 27=true->RdSl SN 1 jz Km [cS (rkI (T.mk k n s ks)) (rkI (T.mk k' n' s' ks')),cS n n',cS ks.length ks'.length,cY s s',dD ks ks'])/\Inv w [] [.blk b1 (.cells #[.int .i64 k,.int .i64 n,.string s,kv] ab),.blk b2 (.cells #[.int .i64 k',.int .i64 n',.string s',kv'] ab)] SN w_,⟨Fx.nil _ _,⟨S,Sle.refl _,aQ,hI.draw⟩⟩,⟨?_,?_,?_,?_,?_,?_,?_,?_,?_,?_,?_,?_,?_,?_,?_,?_,?_,?_,?_,?_,?_,?_,?_,?_,?_,?_,?_,?_,?_,?_,trivial⟩,?_⟩
 all_goals (intro D bF; intros; rename_i x4 Ih Km zY lj su jO uk mM gk lK tx uK sj oU lp rT lN pr wJ AJ vC wi Gi GJ x9 x8 x7 x6 x5 w_ hA_; have hF_:=hA_.1; obtain ⟨⟨cj,ci,bR,ce,bP,bY,bZ,cH,c5,dI,bX,cr,cZ,eo,c8,eQ,fW,hO,jJ,gw,lf,kM,lh,nq,Gr,WN,Xw,WM,Wq,Y4,_⟩,⟨SN,hN,e27,hI⟩⟩:=hA_)
 ·refine av hI 0 ad rfl rfl ?_
  exact ⟨hF_.set 0 rfl,⟨SN,hN,e27,hI⟩⟩
 ·obtain rfl:=cj ‹_›
  refine Run.callPure Kf Kr hI (GM (hcs.mono hN) ht) fun w_ hI=>?_
  exact ⟨hF_.set 1 rfl,⟨SN,hN,e27,hI⟩⟩
 ·refine av hI 1 ad rfl rfl ?_
  exact ⟨hF_.set 2 rfl,⟨SN,hN,e27,hI⟩⟩
 ·obtain rfl:=bR ‹_›
  refine Run.callPure Kf Kr hI (GM (hds.mono hN) hu) fun w_ hI=>?_
  exact ⟨hF_.set 3 rfl,⟨SN,hN,e27,hI⟩⟩
 ·obtain rfl:=ci ‹_›
  obtain rfl:=ce ‹_›
  refine Run.callPure jY j8 hI (jt _ _ SN) fun w_ hI=>?_
  exact ⟨hF_.set 4 rfl,⟨SN,hN,e27,hI⟩⟩
 ·refine au bf ?_
  exact ⟨hF_.set 5 rfl,⟨SN,hN,e27,hI⟩⟩
 ·obtain rfl:=bY ‹_›
  refine aN hI 0 aG rfl rfl ?_
  exact ⟨hF_.set 6 rfl,⟨SN,hN,e27,hI⟩⟩
 ·refine au bf ?_
  exact ⟨hF_.set 7 rfl,⟨SN,hN,e27,hI⟩⟩
 ·obtain rfl:=cH ‹_›
  refine aN hI 1 aG rfl rfl ?_
  exact ⟨hF_.set 8 rfl,⟨SN,hN,e27,hI⟩⟩
 ·obtain rfl:=bZ ‹_›
  obtain rfl:=c5 ‹_›
  refine Run.callPure jY j8 hI (jt _ _ SN) fun w_ hI=>?_
  exact ⟨hF_.set 9 rfl,⟨SN,hN,e27,hI⟩⟩
 ·refine au ao ?_
  exact ⟨hF_.set 10 rfl,⟨SN,hN,e27,hI⟩⟩
 ·obtain rfl:=bX ‹_›
  refine aN hI 0 aj rfl rfl ?_
  exact ⟨hF_.set 11 rfl,⟨SN,hN,e27,hI⟩⟩
 ·obtain rfl:=cr ‹_›
  refine aF hks ag ?_
  exact ⟨hF_.set 12 rfl,⟨SN,hN,e27,hI⟩⟩
 ·refine au ao ?_
  exact ⟨hF_.set 13 rfl,⟨SN,hN,e27,hI⟩⟩
 ·obtain rfl:=eo ‹_›
  refine aN hI 1 aj rfl rfl ?_
  exact ⟨hF_.set 14 rfl,⟨SN,hN,e27,hI⟩⟩
 ·obtain rfl:=c8 ‹_›
  refine aF hks' ag ?_
  exact ⟨hF_.set 15 rfl,⟨SN,hN,e27,hI⟩⟩
 ·obtain rfl:=cZ ‹_›
  obtain rfl:=eQ ‹_›
  refine Run.callPure jY j8 hI (jt _ _ SN) fun w_ hI=>?_
  exact ⟨hF_.set 16 rfl,⟨SN,hN,e27,hI⟩⟩
 ·refine au bb ?_
  exact ⟨hF_.set 17 rfl,⟨SN,hN,e27,hI⟩⟩
 ·obtain rfl:=hO ‹_›
  refine aN hI 0 aU rfl rfl ?_
  exact ⟨hF_.set 18 rfl,⟨SN,hN,e27,hI⟩⟩
 ·refine au bb ?_
  exact ⟨hF_.set 19 rfl,⟨SN,hN,e27,hI⟩⟩
 ·obtain rfl:=gw ‹_›
  refine aN hI 1 aU rfl rfl ?_
  exact ⟨hF_.set 20 rfl,⟨SN,hN,e27,hI⟩⟩
 ·obtain rfl:=jJ ‹_›
  obtain rfl:=lf ‹_›
  refine Run.callPure vd vj hI (te _ _ SN) fun w_ hI=>?_
  exact ⟨hF_.set 21 rfl,⟨SN,hN,e27,hI⟩⟩
 ·refine au ao ?_
  exact ⟨hF_.set 22 rfl,⟨SN,hN,e27,hI⟩⟩
 ·obtain rfl:=lh ‹_›
  refine aN hI 0 aj rfl rfl ?_
  exact ⟨hF_.set 23 rfl,⟨SN,hN,e27,hI⟩⟩
 ·refine au ao ?_
  exact ⟨hF_.set 24 rfl,⟨SN,hN,e27,hI⟩⟩
 ·obtain rfl:=Gr ‹_›
  refine aN hI 1 aj rfl rfl ?_
  exact ⟨hF_.set 25 rfl,⟨SN,hN,e27,hI⟩⟩
 ·obtain rfl:=nq ‹_›
  obtain rfl:=WN ‹_›
  refine Run.callPure sg r8 hI (hkids.less hN) fun w_ hI=>?_
  exact ⟨hF_.set 26 rfl,⟨SN,hN,e27,hI⟩⟩
 ·obtain rfl:=bP ‹_›
  obtain rfl:=dI ‹_›
  obtain rfl:=fW ‹_›
  obtain rfl:=kM ‹_›
  obtain rfl:=Xw ‹_›
  refine XW hI fun b5 w_ hI=>?_
  obtain ⟨SN,hI,hE,hb⟩:=Inv.pub1 (A:=[.blk b1 (.cells #[.int .i64 k,.int .i64 n,.string s,kv] ab),.blk b2 (.cells #[.int .i64 k',.int .i64 n',.string s',kv'] ab)]) hI
  have hN:=hN.trans hE.1
  have e27:=fun (_:aD D 27 27=true)=>(⟨some ⟨b5,0,none⟩,5,rfl,by simp,by simp [maxLen],.inr ⟨b5,0,_,bV,(0,0),rfl,hb,fun i hi=>by match i,hi with|0,_|1,_|2,_|3,_|4,_=>rfl⟩⟩:RdSl SN 1 jz (.slice (some ⟨b5,0,none⟩) 5 5) [cS (rkI (T.mk k n s ks)) (rkI (T.mk k' n' s' ks')),cS n n',cS ks.length ks'.length,cY s s',dD ks ks'])
  exact ⟨hF_.set 27 (by first|assumption|trivial),⟨SN,hN,e27,hI⟩⟩
 ·have ab2:=WM ‹_›
  refine Run.callPure Pw OD hI (X7 (e27 ‹D 27=true›)) fun w_ hI=>?_
  exact ⟨hF_.set 28 rfl,⟨SN,hN,e27,hI⟩⟩
 ·obtain rfl:=Wq ‹_›
  exact ⟨hF_.set 29 rfl,⟨SN,hN,e27,hI⟩⟩
 obtain ⟨rfl,rfl,rfl,rfl,rfl,rfl,rfl,rfl,rfl,rfl,rfl,rfl,rfl,rfl,rfl,rfl,rfl,rfl,rfl,rfl,rfl,rfl,rfl,rfl,rfl,rfl,rfl,ab2,rfl,rfl,_⟩:=hF_.all
 clear hF_ cj ci bR ce bP bY bZ cH c5 dI bX cr cZ eo c8 eQ fW hO jJ gw lf kM lh nq Gr WN Xw WM Wq Y4
 rw [show orL [cS (rkI (T.mk k n s ks)) (rkI (T.mk k' n' s' ks')),cS n n',cS ks.length ks'.length,cY s s',dD ks ks']=dL (T.mk k n s ks) (T.mk k' n' s' ks') from hor]
 exact fT hI hN rfl
end
end
section
open Go Go.RowKit
section
variable {P:Program} {w:World} {K:Value->World->Prop}
attribute [local irreducible] Run
theorem ZT {T:TypeId} {cx cy:Bool} {a:Int} (hk:K (.int .u64 (a / 2)) w):Run P (cK .shr T cx cy (.int .u64 a) (.int .u64 1)) w K:=by
 refine Run.of ?_ hk
 have h1:Op.shift .shr .u64 a .u64 1=pure (.int .u64 (a / 2)):=by
  have e:min (1:Int).toNat IntKind.u64.bits=1:=by decide
  simp only [Op.shift,e]
  rw [ah (by decide),Int.fdiv_eq_ediv_of_nonneg _ (by decide)]
  rfl
 simp [cK,binOp,eqGuard,h1]
end
def Id (l:List T) (t:T) (i:Nat):Prop:=i<=l.length/\(∀ j (h:j<l.length),j<i->dL l[j] t<0)/\(∀ j (h:j<l.length),i<=j->¬ dL l[j] t<0)
theorem KW {l:List T} (h:Sorted l):∀ (a b:Nat) (ha:a<l.length) (hb:b<l.length),a<b->dL l[a] l[b]<0:=by
 induction l with
 | nil=>intro a b ha; simp at ha
 | cons x xs ih=>
  intro a b ha hb hab
  rw [Sorted] at h
  match a,b with
  | 0,b+1=>
   simp only [lG,Lq]
   exact h.1 _ (bz _)
  | a+1,b+1=>
   simp only [Lq]
   exact ih h.2 a b (by simpa using ha) (by simpa using hb) (by omega)
  | _,0=>omega
theorem Tp {l:List T} {t:T} {i:Nat} (h:Id l t i):eZ l t=l.take i++eZ (l.drop i) t:=by
 obtain ⟨h1,h2,_⟩:=h
 have:∀ k,k<=i->l.take k++eZ (l.drop k) t=eZ l t:=by
  intro k
  induction k with
  | zero=>intro _; rfl
  | succ k ih=>
   intro hk
   have hkl:k<l.length:=by omega
   rw [<- ih (by omega),FV l t k hkl (h2 k hkl (by omega)),fl hkl,eK]
   rfl
 exact (this i (aW _)).symm
theorem Ze {l:List T} {t:T} {i:Nat} (h:Id l t i) (hn:∀ hi:i<l.length,eqT l[i] t=false):eZ l t=l.take i++t::l.drop i:=by
 rw [Tp h]
 by_cases hi:i<l.length
 ·rw [BF l t i hi (h.2.2 i hi (aW _)),ah (by rw [hn hi]; decide)]
 ·rw [jT (by omega),eZ]
theorem Wm {l:List T} {t:T} {i:Nat} (h:Id l t i) (hi:i<l.length) (he:eqT l[i] t=true):eZ l t=l:=by
 rw [Tp h,BF l t i hi (h.2.2 i hi (aW _)),ai he,xd]
theorem XS {a b:T} (ha:okO a) (hb:okO b):decide (dL a b=0)=eqT a b:=by
 rw [mf,bk,lU]
 exact ⟨Mv a b ha hb,fun h=>by rw [h]; exact K0 b⟩
def xK (l:List T) (t:T) (i:Nat):Bool:=if h:i<l.length then eqT l[i] t else false
section
attribute [local irreducible] Run CondV az aO
theorem xj {l:List T} {t:T} {S:ae} {v:Value} {cs:List Value} (h:RdSl S 4 (RdT S) v l) (hcs:RdT S cs t) (hl:∀ x∈l,okO x) (ht:okO t) (hs:Sorted l) (hn:l.length<=100000000) :
  ∃ i,Id l t i/\Pure Tryz.prog nn [v,.agg cs.toArray,fv jg []] S (.tuple #[.int .i64 i,.bool (xK l t i)]):=by
 obtain ⟨i0,hi0⟩:∃ i,Id l t i:=by
  have:∀ l:List T,Sorted l->(∀ x∈l,okO x)->∃ i,Id l t i:=by
   intro l
   induction l with
   | nil=>intro _ _; exact ⟨0,aW _,fun j h=>by simp at h,fun j h=>by simp at h⟩
   | cons x xs ih=>
    intro hs hl
    rw [Sorted] at hs
    by_cases hc:dL x t<0
    ·obtain ⟨i,h1,h2,h3⟩:=ih hs.2 fun y hy=>hl y (aV _ hy)
     refine ⟨i+1,by simpa using h1,fun j hj hji=>?_,fun j hj hji=>?_⟩
     ·match j with
      | 0=>exact hc
      | j+1=>simpa using h2 j (by simpa using hj) (by omega)
     ·match j with
      | 0=>omega
      | j+1=>simpa using h3 j (by simpa using hj) (by omega)
    ·refine ⟨0,be _,fun j _ hji=>by omega,fun j hj _=>?_⟩
     match j with
     | 0=>exact hc
     | j+1=>
      intro hlt
      simp only [Lq] at hlt
      exact hc (Fh (hs.1 _ (bz _)) hlt)
  exact this l hs hl
 have huniq:∀ i,Id l t i->i=i0:=by
  intro i hi
  rcases Nat.lt_trichotomy i i0 with h1|h1|h1
  ·exact absurd (hi0.2.1 i (by have:=hi0.1; omega) h1) (hi.2.2 i (by have:=hi0.1; omega) (aW _))
  ·exact h1
  ·exact absurd (hi.2.1 i0 (by have:=hi.1; omega) h1) (hi0.2.2 i0 (by have:=hi.1; omega) (aW _))
 refine ⟨i0,hi0,fun w hI=>?_⟩
 have hlc:=hcs.length
 have hun:Tryz.prog.underlying bV=some (.int .i64):=by kernel_rfl
 refine g6.2 ?_
 dsimp only[g6,dN]
 refine bq hI fun b4 w' hI=>?_
 have hI:Inv w [] [.blk b4 (.cells cs.toArray ab)] S w':=hI
 refine aF h ag ?_
 refine ⟨fun jv iv w'=>∃ i j:Nat,i<=j/\j<=l.length/\jv=.int .i64 j/\iv=.int .i64 i/\(∀ k (h:k<l.length),k<i->dL l[k] t<0)/\(∀ k (h:k<l.length),j<=k->¬ dL l[k] t<0)/\Inv w [] [.blk b4 (.cells cs.toArray ab)] S w',
  fun jv iv _=>(intOf jv).toNat - (intOf iv).toNat,⟨0,l.length,be _,aW _,rfl,rfl,fun k _ hk=>by omega,fun k hk hk2=>by omega,hI⟩,?_⟩
 intro t10 _ t9 _ _ _ _ _ _ _ _ _ _ _ _ _ _ _ _ _ _ _ _ w'
 rintro ⟨i,j,hij,hjl,rfl,rfl,hlo,hhi,hI⟩
 refine bH ?_
 refine aL (fun hlt=>?_) (fun hlt=>?_)
 ·obtain ⟨m,hm⟩:∃ m:Nat,(((i:Int)+(j:Int)) / 2)=(m:Int):=⟨(i+j) / 2,by omega⟩
  have hm1:i<=m/\m<j:=by omega
  have hml:m<l.length:=by omega
  refine bp (by omega) ?_
  refine TT (k:=.u64) (k':=.i64) (by kernel_rfl) (by kernel_rfl) ?_
  rw [IntWalk.u64_in _ (by omega)]
  refine ZT ?_
  rw [hm]
  refine TT (k:=.i64) (k':=.u64) (by kernel_rfl) (by kernel_rfl) ?_
  rw [IntWalk.i64_in _ (by omega)]
  obtain ⟨b,o,cap,c,E,fz,rfl,hS,hR⟩:=h.at_ hml
  have hox:=hl _ (bz hml)
  refine ⟨fun D zY lj su jO uk mM gk lK w_=>Fx D 0 [lK=fv jg [],gk=.slice (some ⟨b,o,none⟩) l.length cap,mM=.int .i64 m,uk=.pointer (some ⟨b,o+m * 4,none⟩),jO=.agg (aX c (o+m * 4) 4).toArray,su=.agg cs.toArray,lj=.int .i64 (dL l[m] t),zY=.bool (decide (dL l[m] t<0))]/\Inv w [] [.blk b4 (.cells cs.toArray ab)] S w_,⟨Fx.nil _ _,hI.draw⟩,⟨?_,?_,?_,?_,?_,?_,?_,?_,trivial⟩,?_⟩
  all_goals (intro D bF; intros; rename_i zY lj su jO uk mM gk lK w_ hA_; have hF_:=hA_.1; obtain ⟨⟨cj,ci,bR,ce,bP,bY,bZ,cH,_⟩,hI⟩:=hA_)
  ·exact ⟨hF_.set 0 rfl,hI⟩
  ·exact ⟨hF_.set 1 rfl,hI⟩
  ·exact ⟨hF_.set 2 rfl,hI⟩
  ·obtain rfl:=ci ‹_›
   obtain rfl:=bR ‹_›
   refine aE ag hml ?_
   exact ⟨hF_.set 3 rfl,hI⟩
  ·obtain rfl:=ce ‹_›
   refine bL ad hR.length (fun j v hj=>by rw [hI.cellS hS]; exact aH rfl j v hj) ?_
   exact ⟨hF_.set 4 rfl,hI⟩
  ·refine av hI 0 ad rfl (by simpa using hlc) ?_
   exact ⟨hF_.set 5 rfl,hI⟩
  ·obtain rfl:=cj ‹_›
   obtain rfl:=bP ‹_›
   obtain rfl:=bY ‹_›
   refine Run.callVPure (cap:=[]) qW qG hI (wt _ _ S _ _ hR hcs hox ht) fun w_ hI=>?_
   exact ⟨hF_.set 6 rfl,hI⟩
  ·obtain rfl:=bZ ‹_›
   refine bH ?_
   exact ⟨hF_.set 7 rfl,hI⟩
  obtain ⟨rfl,rfl,rfl,rfl,rfl,rfl,rfl,rfl,_⟩:=hF_.all
  clear hF_ cj ci bR ce bP bY bZ cH
  refine aL (fun hc=>?_) (fun hc=>?_)
  ·refine bp (by omega) ?_
   refine ⟨⟨m+1,j,by omega,hjl,rfl,rfl,fun k hk hk2=>?_,hhi,hI⟩,by simp [intOf]; omega⟩
   by_cases e:k=m
   ·subst e; exact hc
   ·exact Fh (KW hs k m hk hml (by omega)) hc
  ·refine ⟨⟨i,m,hm1.1,by omega,rfl,rfl,hlo,fun k hk hk2 hc2=>?_,hI⟩,by simp [intOf]; omega⟩
   by_cases e:k=m
   ·subst e; exact hc hc2
   ·exact hc (Fh (KW hs m k hml hk (by omega)) hc2)
 ·have e:j=i:=by omega
  subst e
  have e:j=i0:=huniq j ⟨hjl,hlo,hhi⟩
  subst e
  clear huniq hi0 hlo hhi
  by_cases hi:j<l.length
  ·obtain ⟨b,o,cap,c,E,fz,rfl,hS,hR⟩:=h.at_ hi
   have hox:=hl _ (bz hi)
   have hfb:xK l t j=eqT l[j] t:=dif_pos hi
   rw [hfb]
   refine ⟨fun D x7 x6 nR oK sW vO wB tB mg qB vh tI ll AB vN vL w_=>Fx D 0 [vL=.int .i64 j,vN=.int .i64 j,AB=.int .i64 l.length,ll=.bool true,tI=.bool true,vh=fv jg [],qB=.slice (some ⟨b,o,none⟩) l.length cap,mg=.int .i64 j,tB=.pointer (some ⟨b,o+j * 4,none⟩),wB=.agg (aX c (o+j * 4) 4).toArray,vO=.agg cs.toArray,sW=.int .i64 (dL l[j] t),oK=.bool (eqT l[j] t),nR=.bool (eqT l[j] t),x6=.int .i64 j,x7=.bool (eqT l[j] t)]/\Inv w [] [.blk b4 (.cells cs.toArray ab)] S w_,⟨Fx.nil _ _,hI.draw⟩,⟨?_,?_,?_,?_,?_,?_,?_,?_,?_,?_,?_,?_,?_,?_,?_,?_,trivial⟩,?_⟩
   all_goals (intro D bF; intros; rename_i x7 x6 nR oK sW vO wB tB mg qB vh tI ll AB vN vL w_ hA_; have hF_:=hA_.1; obtain ⟨⟨cj,ci,bR,ce,bP,bY,bZ,cH,c5,dI,bX,cr,cZ,eo,c8,eQ,_⟩,hI⟩:=hA_)
   ·exact ⟨hF_.set 0 rfl,hI⟩
   ·exact ⟨hF_.set 1 rfl,hI⟩
   ·exact ⟨hF_.set 2 rfl,hI⟩
   ·obtain rfl:=ci ‹_›
    obtain rfl:=bR ‹_›
    refine bH ?_; rw [aI (show (j:Int)<(l.length:Int) by omega)]
    exact ⟨hF_.set 3 rfl,hI⟩
   ·obtain rfl:=ce ‹_›
    exact ⟨hF_.set 4 rfl,hI⟩
   ·obtain rfl:=bP ‹_›
    refine rpG ?_
    exact ⟨hF_.set 5 rfl,hI⟩
   ·obtain rfl:=bP ‹_›
    refine rpG ?_
    exact ⟨hF_.set 6 rfl,hI⟩
   ·obtain rfl:=bP ‹_›
    refine rpG ?_
    exact ⟨hF_.set 7 rfl,hI⟩
   ·obtain rfl:=bZ ‹_›
    obtain rfl:=cH ‹_›
    obtain rfl:=bP ‹_›
    refine rpG ?_
    refine aE ag hi ?_
    exact ⟨hF_.set 8 rfl,hI⟩
   ·obtain rfl:=c5 ‹_›
    obtain rfl:=bP ‹_›
    refine rpG ?_
    refine bL ad hR.length (fun j v hj=>by rw [hI.cellS hS]; exact aH rfl j v hj) ?_
    exact ⟨hF_.set 9 rfl,hI⟩
   ·obtain rfl:=bP ‹_›
    refine rpG ?_
    refine av hI 0 ad rfl (by simpa using hlc) ?_
    exact ⟨hF_.set 10 rfl,hI⟩
   ·obtain rfl:=bY ‹_›
    obtain rfl:=dI ‹_›
    obtain rfl:=bX ‹_›
    obtain rfl:=bP ‹_›
    refine rpG ?_
    refine Run.callVPure (cap:=[]) qW qG hI (wt _ _ S _ _ hR hcs hox ht) fun w_ hI=>?_
    exact ⟨hF_.set 11 rfl,hI⟩
   ·obtain rfl:=cr ‹_›
    obtain rfl:=bP ‹_›
    refine rpG ?_
    refine bl ?_
    rw [XS hox ht]
    exact ⟨hF_.set 12 rfl,hI⟩
   ·obtain rfl:=bP ‹_›
    obtain rfl:=cZ ‹_›
    refine rpG ?_
    exact ⟨hF_.set 13 rfl,hI⟩
   ·obtain rfl:=cj ‹_›
    exact ⟨hF_.set 14 rfl,hI⟩
   ·obtain rfl:=eo ‹_›
    exact ⟨hF_.set 15 rfl,hI⟩
   obtain ⟨rfl,rfl,rfl,rfl,rfl,rfl,rfl,rfl,rfl,rfl,rfl,rfl,rfl,rfl,rfl,rfl,_⟩:=hF_.all
   clear hF_ cj ci bR ce bP bY bZ cH c5 dI bX cr cZ eo c8 eQ
   exact done hI rfl
  ·have hfb:xK l t j=false:=dif_neg hi
   rw [hfb]
   refine ⟨fun D x7 x6 nR oK sW vO wB tB mg qB vh tI ll AB vN vL w_=>Fx D 0 [vL=.int .i64 j,vN=.int .i64 j,AB=.int .i64 l.length,ll=.bool false,tI=.bool false,vh=undef,qB=undef,mg=undef,tB=undef,wB=undef,vO=undef,sW=undef,oK=undef,nR=.bool false,x6=.int .i64 j,x7=.bool false]/\Inv w [] [.blk b4 (.cells cs.toArray ab)] S w_,⟨Fx.nil _ _,hI.draw⟩,⟨?_,?_,?_,?_,?_,?_,?_,?_,?_,?_,?_,?_,?_,?_,?_,?_,trivial⟩,?_⟩
   all_goals (intro D bF; intros; rename_i x7 x6 nR oK sW vO wB tB mg qB vh tI ll AB vN vL w_ hA_; have hF_:=hA_.1; obtain ⟨⟨cj,ci,bR,ce,bP,bY,bZ,cH,c5,dI,bX,cr,cZ,eo,c8,eQ,_⟩,hI⟩:=hA_)
   ·exact ⟨hF_.set 0 rfl,hI⟩
   ·exact ⟨hF_.set 1 rfl,hI⟩
   ·exact ⟨hF_.set 2 rfl,hI⟩
   ·obtain rfl:=ci ‹_›
    obtain rfl:=bR ‹_›
    refine bH ?_; rw [aP (show ¬ (j:Int)<(l.length:Int) by omega)]
    exact ⟨hF_.set 3 rfl,hI⟩
   ·obtain rfl:=ce ‹_›
    exact ⟨hF_.set 4 rfl,hI⟩
   ·obtain rfl:=bP ‹_›
    refine rpG ?_
    exact ⟨hF_.set 5 rfl,hI⟩
   ·obtain rfl:=bP ‹_›
    refine rpG ?_
    exact ⟨hF_.set 6 rfl,hI⟩
   ·obtain rfl:=bP ‹_›
    refine rpG ?_
    exact ⟨hF_.set 7 rfl,hI⟩
   ·obtain rfl:=bZ ‹_›
    obtain rfl:=cH ‹_›
    obtain rfl:=bP ‹_›
    refine rpG ?_
    exact ⟨hF_.set 8 rfl,hI⟩
   ·obtain rfl:=c5 ‹_›
    obtain rfl:=bP ‹_›
    refine rpG ?_
    exact ⟨hF_.set 9 rfl,hI⟩
   ·obtain rfl:=bP ‹_›
    refine rpG ?_
    exact ⟨hF_.set 10 rfl,hI⟩
   ·obtain rfl:=bY ‹_›
    obtain rfl:=dI ‹_›
    obtain rfl:=bX ‹_›
    obtain rfl:=bP ‹_›
    refine rpG ?_
    exact ⟨hF_.set 11 rfl,hI⟩
   ·obtain rfl:=cr ‹_›
    obtain rfl:=bP ‹_›
    refine rpG ?_
    exact ⟨hF_.set 12 rfl,hI⟩
   ·obtain rfl:=bP ‹_›
    obtain rfl:=cZ ‹_›
    refine rpG ?_
    exact ⟨hF_.set 13 rfl,hI⟩
   ·obtain rfl:=cj ‹_›
    exact ⟨hF_.set 14 rfl,hI⟩
   ·obtain rfl:=eo ‹_›
    exact ⟨hF_.set 15 rfl,hI⟩
   obtain ⟨rfl,rfl,rfl,rfl,rfl,rfl,rfl,rfl,rfl,rfl,rfl,rfl,rfl,rfl,rfl,rfl,_⟩:=hF_.all
   clear hF_ cj ci bR ce bP bY bZ cH c5 dI bX cr cZ eo c8 eQ
   exact done hI rfl
end
end
section
open Go Go.RowKit
section
variable {P:Program} {w w0:World} {X:List Nat} {L:List Item} {S:ae} {K:Value->World->Prop}
attribute [local irreducible] Run CondV az aO
theorem Ve (h:Inv w0 X L S w) {T kt et ty:TypeId} {b clock:Nat} {es:Array MapEntry} {n:Int} {z v:Value} (hT:P.underlying T=some (.map kt et)) (hkt:P.underlying kt=some (.int .i64))
  (hz:fL P et=some z) (hS:S b=some (.map es clock))
  (hf:(∃ j,Instr.findNow (.int .i64) (.int .i64 n) es.toList 0=some (some (j,v))) ∨ (Instr.findNow (.int .i64) (.int .i64 n) es.toList 0=some none/\v=z))
  (hk:K v w):Run P (sOp (.lookup T (.const (.map (some b))) (.const (.int .i64 n)) false) ty) w K:=by
 have hb:w.heap[b]?=some (.map es clock):=(h.pub _ _ hS).1
 have hck:∀ e,(Instr.checkKey e 10000 kt (.int .i64 n)).run P w=.ok () w:=fun e=>by
  rw [show (10000:Nat)=9999+1 from rfl,Instr.checkKey]
  simp [run_underlying hkt]
 obtain ⟨inf,hi1,hi2⟩:∃ inf,P.info? et=some inf/\inf.zero=some z:=by
  unfold fL at hz
  cases hinf:P.info? et with
  | none=>rw [hinf] at hz; simp at hz
  | some inf=>rw [hinf] at hz; exact ⟨inf,rfl,by simpa using hz⟩
 have hzv:(zeroValue et).run P w=.ok z w:=by simp [zeroValue,typeInfo,hi1,hi2]
 refine Run.of ?_ hk
 have hg:(getObj b).run P w=.ok (.map es clock) w:=by simp [getObj,Sem.run,hb]
 rcases hf with ⟨j,hf⟩|⟨hf,rfl⟩
 ·have hfk:=fF (P:=P) (w:=w) hkt hf
  simp [sOp,execOp,ev0,evE,Instr.lookup,run_underlying hT,hg,hck,hfk]
 ·have hfk:=fF (P:=P) (w:=w) hkt hf
  simp [sOp,execOp,ev0,evE,Instr.lookup,run_underlying hT,hg,hck,hfk,hzv]
theorem WT {T kt et:TypeId} {cx cy:Bool} {b:Nat} (hT:P.underlying T=some (.map kt et)) (hk:K (.bool false) w):Run P (cK .eql T cx cy (.map (some b)) (.map none)) w K:=by
 refine Run.of (v:=.bool false) (w':=w) ?_ hk
 have he:(Op.equal T (.map (some b)) (.map none)).run P w=.ok false w:=by
  rw [Op.equal,Op.maxDepth,Op.equalIn.eq_def]
  simp [run_underlying hT]
 have hg:∀ x y,(eqGuard .eql T x y (.map (some b)) (.map none)).run P w=.ok () w:=fun x y=>by unfold eqGuard; simp
 simp only [cK,binOp,Sem.run_bind,hg,Result.andThen_ok,he,Sem.run_pure]
theorem Ya {T ty kt et:TypeId} {v:Value} (hT:P.underlying T=some (.map kt et)) (hk:K (.iface T v) w):Run P (sOp (.makeInterface T (.const v)) ty) w K:=by
 refine Run.of ?_ hk
 simp [sOp,execOp,ev0,evE,Instr.makeInterface,run_underlying hT]
theorem WA {T U ty kt et:TypeId} {v:Value} (hT:P.underlying T=some (.map kt et)) (hk:K v w):Run P (sOp (.typeAssert (.const (.iface T v)) U T false) ty) w K:=by
 refine Run.of ?_ hk
 simp [sOp,execOp,ev0,evE,Instr.typeAssert,run_underlying hT]
theorem WU (h:Inv w0 X L S w) {f:FuncId} {fn:Func} {t b clock:Nat} {es:Array MapEntry} (hf:P.funcs[f]?=some fn) (hn:(fn.name == "runtime.NumGoroutine")=false) (hb:fn.body.isNone=true)
  (hx:(Extern.findNext fn).isNone=true) (hy:Extern.find fn=some Extern.MapsClone.clone) (hS:S b=some (.map es clock))
  (hk:∀ nb w',Inv w0 X (L++[.blk nb (.map es clock)]) S w'->K (.iface t (.map (some nb))) w'):Run P (eM (.func (.func f) #[] #[]) [.iface t (.map (some b))]) w K:=by
 have hbw:w.heap[b]?=some (.map es clock):=(h.pub _ _ hS).1
 refine Run.of (v:=.iface t (.map (some w.heap.size))) (w':={ w with heap:=w.heap.push (.map es clock) }) ?_ (hk _ _ (h.alloc _))
 have h1:¬ fn.name = "runtime.NumGoroutine" := by simpa using hn
 have h2:fn.body=none:=by simpa using hb
 have h3:Extern.findNext fn=none:=by simpa using hx
 have hg:(getObj b).run P w=.ok (.map es clock) w:=by simp [getObj,Sem.run,hbw]
 have hc:(Extern.MapsClone.clone #[.iface t (.map (some b))]).run P w=.ok (.iface t (.map (some w.heap.size))) { w with heap:=w.heap.push (.map es clock) }:=by
  have e:Extern.MapsClone.clone #[.iface t (.map (some b))]=(getObj b >>= fun o=>match o with
   | .map entries clock=>(newObj (.map entries clock) >>= fun n=>pure (.iface t (.map (some n))))
   | _=>stuck "maps.clone: a map expected"):=rfl
  rw [e]
  simp [hg,newObj,Sem.run,Result.andThen]
 simp [eM,Deferred.ofValue,invoke,callFunc,hf,h1,h2,h3,hy,hc]
end
section
attribute [local irreducible] Run CondV az aO
theorem L8 {S:ae} {mb ck:Nat} {es:Array MapEntry} (hS:S mb=some (.map es ck)):Tri Tryz.prog Eb [.map (some mb)] [] S fun r I' S'=>S'=S/\∃ nb,r=.map (some nb)/\I'=[.blk nb (.map es ck)]:=by
 intro w hI
 refine qm.2 ?_
 dsimp only[qm,aM]
 refine WT (kt:=bV) (et:=ab) (by kernel_rfl) ?_
 refine aw (fun hb=>by cases hb) (fun _=>?_)
 refine Ya (kt:=bV) (et:=ab) (by kernel_rfl) ?_
 refine WU hI Tryz.func292 (by kernel_rfl) (by kernel_rfl) (by kernel_rfl) (by kernel_rfl) hS fun nb w' hI=>?_
 refine WA (kt:=bV) (et:=ab) (by kernel_rfl) ?_
 exact ⟨_,_,_,rfl,hI,Ext.refl _ _ _,rfl,nb,rfl,rfl⟩
end
end
section
open Go Go.RowKit

def GA (y:T):Prop:=ed y=true/\y.kids=[]/\y.kind≠1
def Fct (x:T):Prop:=x.kind=3/\ed x=true/\∀ y∈x.kids,GA y
def Gl (g:T):Prop:=g.kind=3/\ed g=true/\∀ y∈g.kids,ed y=true/\y.kids=[]
def StF (st:al):Prop:=st.length=26/\∀ t,some t∈st->GA t
def bnd (st:al) (n:Int):Prop:=∃ t,st[n.toNat]?=some (some t)
theorem SO {s:ByteArray} (h:lH s=true):s.size<=6:=by
 rw [lH,jR] at h
 rcases h with h|h
 ·rw [m8] at h
  simp only [bu,bk] at h
  exact h.2.2
 ·simp only [Gw,bk] at h
  obtain ⟨x,hx,rfl⟩:=h
  have:∀ y∈signs,y.size<=6:=by decide +kernel
  exact this x hx
theorem px {t:T} (h:ed t=true):t.name.size<=6/\t.kids.length<=4:=by
 unfold ed at h
 have he:emptyB.size=0:=by decide +kernel
 by_cases e1:t.kind=1
 ·rw [ai e1] at h
  simp only [bu,bk] at h
  rw [h.2.2.1]; omega
 ·rw [ah e1] at h
  by_cases e2:t.kind=2
  ·rw [ai e2] at h
   simp only [bu,bk] at h
   rw [h.2.2.1]; omega
  ·rw [ah e2] at h
   by_cases e3:t.kind=3
   ·rw [ai e3] at h
    simp only [bu,bk] at h
    exact ⟨SO h.2.1,h.2.2⟩
   ·rw [ah e3] at h
    cases h
theorem Xl (t:T):wT t=t.name.size+t.kids.length+wL t.kids:=by cases t; rw [wT]; rfl
theorem Uo (t:T):okV t↔(t.kind=1->0<=t.n/\t.n<=25)/\s8 t.kids:=by cases t; rw [okV]; rfl
theorem UF (t:T):okK t↔t.kind≠0/\zZ t.kids:=by cases t; rw [okK]; rfl
theorem Uk (t:T):okO t↔(((t.kind=1 ∨ t.kind=2)/\t.name=emptyB/\t.kids=[]) ∨ (t.kind=3/\t.n=0))/\A0 t.kids:=by cases t; rw [okO]; rfl
theorem Up:∀ {ts:List T},(∀ t∈ts,okO t)->A0 ts
 | [],_=>by simp [A0]
 | t::ts,h=>by rw [A0]; exact ⟨h t (aS ..),Up fun u hu=>h u (aV _ hu)⟩
theorem M6 {y:T} (h:ed y=true) (hk:y.kids=[]):okV y/\okK y/\okO y/\wT y<=6:=by
 have h1:=Fl h
 have h2:=Hd h
 have h3:=px h
 refine ⟨(Uo y).2 ⟨h1.1,by rw [hk]; simp [s8]⟩,(UF y).2 ⟨h1.2,by rw [hk]; simp [zZ]⟩,(Uk y).2 ⟨h2,by rw [hk]; simp [A0]⟩,?_⟩
 rw [Xl,hk]
 simp only [bU,wL]
 omega
theorem yZ:∀ (ts:List T) (b:Nat),(∀ t∈ts,wT t<=b)->wL ts<=ts.length * b
 | [],b,_=>by simp [wL]
 | t::ts,b,h=>by
  rw [wL,bw,lw]
  have h1:=h t (aS ..)
  have h2:=yZ ts b fun u hu=>h u (aV _ hu)
  omega
theorem T9 {x:T} (ho:ed x=true) (hk:∀ y∈x.kids,ed y=true/\y.kids=[]):okV x/\okK x/\okO x/\wT x<=34:=by
 have h1:=Fl ho
 have h2:=Hd ho
 have h3:=px ho
 have hl:=fun y hy=>M6 (hk y hy).1 (hk y hy).2
 refine ⟨(Uo x).2 ⟨h1.1,Fa fun y hy=>(hl y hy).1⟩,(UF x).2 ⟨h1.2,Lz fun y hy=>(hl y hy).2.1⟩,(Uk x).2 ⟨h2,Up fun y hy=>(hl y hy).2.2.1⟩,?_⟩
 have h4:=yZ x.kids 6 fun y hy=>(hl y hy).2.2.2
 have h5:x.kids.length * 6<=4 * 6:=ja 6 h3.2
 rw [Xl]
 omega
theorem Fct.ok {x:T} (h:Fct x):okV x/\okK x/\okO x/\wT x<=34:=T9 h.2.1 fun y hy=>⟨(h.2.2 y hy).1,(h.2.2 y hy).2.1⟩
theorem Gl.ok {x:T} (h:Gl x):okV x/\okK x/\okO x/\wT x<=34:=T9 h.2.1 h.2.2
theorem StF.ok {st:al} (h:StF st):xA st/\stW st:=⟨⟨h.1,fun t ht=>(M6 (h.2 t ht).1 (h.2 t ht).2.1).2.1⟩,fun t ht=>by have:=(M6 (h.2 t ht).1 (h.2 t ht).2.1).2.2.2; omega⟩
theorem Wb:StF st0:=⟨by simp [st0],fun t ht=>by simp [st0] at ht⟩
theorem UJ {y:T} (h:ed y=true) (hk:y.kind=1):0<=y.n/\y.n<=25:=(Fl h).1 hk
theorem DR:∀ (ts us:List T) (st:al),st.length=26->(∀ y∈ts,ed y=true/\y.kids=[])->ts.length=us.length->
  (fe ts us st).2.length=26/\(∀ x,some x∈(fe ts us st).2->some x∈st ∨ x∈us)/\(∀ n,bnd st n->bnd (fe ts us st).2 n)/\((fe ts us st).1=true->∀ y∈ts,y.kind=1->bnd (fe ts us st).2 y.n)
 | [],us,st,hst,_,_=>by
  rw [fe]
  exact ⟨hst,fun x hx=>.inl hx,fun n h=>h,fun _ y hy=>by cases hy⟩
 | _::_,[],st,_,_,hl=>by simp at hl
 | t::ts,u::us,st,hst,hk,hl=>by
  obtain ⟨ho,hks⟩:=hk t (aS ..)
  have hk':=fun y hy=>hk y (aV _ hy)
  have hl':ts.length=us.length:=by simpa using hl
  rw [fe]
  have key:(bt t u st).2.length=26/\(∀ x,some x∈(bt t u st).2->some x∈st ∨ x=u)/\(∀ n,bnd st n->bnd (bt t u st).2 n)/\((bt t u st).1=true->t.kind=1->bnd (bt t u st).2 t.n):=by
   obtain ⟨k,n,s,ks⟩:=t
   rw [bt]
   by_cases hk1:k=1
   ·have hr:=UJ ho hk1
    simp only [T.n] at hr
    rw [ai hk1]
    split
    ·rename_i t0 h0
     refine ⟨hst,fun x hx=>.inl hx,fun n h=>h,fun _ _=>⟨t0,?_⟩⟩
     exact h0
    ·refine ⟨by rw [nZ]; exact hst,fun x hx=>?_,fun m ⟨t1,h1⟩=>?_,fun _ _=>⟨u,?_⟩⟩
     ·rcases sC hx with hx|hx
      ·exact .inl hx
      ·simp only [bg] at hx
       exact .inr hx
     ·by_cases e:n.toNat=m.toNat
      ·refine ⟨u,?_⟩
       rw [<- e,Tu (by omega)]
      ·refine ⟨t1,?_⟩
       rw [CT e]
       exact h1
     ·show (st.set n.toNat (some u))[n.toNat]?=_
      rw [Tu (by omega)]
   ·rw [ah hk1]
    split
    ·simp only [T.kids] at hks
     subst hks
     rw [fe]
     exact ⟨hst,fun x hx=>.inl hx,fun n h=>h,fun _ h=>absurd h hk1⟩
    ·exact ⟨hst,fun x hx=>.inl hx,fun n h=>h,fun _ h=>absurd h hk1⟩
  obtain ⟨k1,k2,k3,k4⟩:=key
  split
  ·rename_i hm
   obtain ⟨i1,i2,i3,i4⟩:=DR ts us (bt t u st).2 k1 hk' hl'
   refine ⟨i1,fun x hx=>?_,fun n h=>i3 n (k3 n h),fun h y hy hy1=>?_⟩
   ·rcases i2 x hx with hx|hx
    ·rcases k2 x hx with hx|rfl
     ·exact .inl hx
     ·exact .inr (aS ..)
    ·exact .inr (aV _ hx)
   ·rcases bN.1 hy with rfl|hy
    ·exact i3 _ (k4 hm hy1)
    ·exact i4 h y hy hy1
  ·refine ⟨k1,fun x hx=>?_,k3,fun h=>by cases h⟩
   rcases k2 x hx with hx|rfl
   ·exact .inl hx
   ·exact .inr (aS ..)
theorem mz {g f:T} {st:al} (hg:Gl g) (hf:Fct f) (hst:StF st):StF (bt g f st).2/\(∀ n,bnd st n->bnd (bt g f st).2 n)/\((bt g f st).1=true->∀ y∈g.kids,y.kind=1->bnd (bt g f st).2 y.n):=by
 obtain ⟨k,n,s,ks⟩:=g
 have hk3:k=3:=hg.1
 rw [bt,ah (by omega)]
 split
 ·rename_i hd
  have hl:ks.length=f.kids.length:=by
   rw [lr] at hd
   simp only [bu,bk] at hd
   exact hd.2.2.2
  obtain ⟨i1,i2,i3,i4⟩:=DR ks f.kids st hst.1 hg.2.2 hl
  refine ⟨⟨i1,fun t ht=>?_⟩,i3,i4⟩
  rcases i2 t ht with h|h
  ·exact hst.2 t h
  ·exact hf.2.2 t h
 ·exact ⟨hst,fun n h=>h,fun h=>by cases h⟩
theorem HV {h:T} {st:al} (hh:Gl h) (hst:StF st) (hb:∀ y∈h.kids,y.kind=1->bnd st y.n):Fct (vX h st):=by
 refine ⟨hh.1,?_,fun y hy=>?_⟩
 ·have h1:=hh.2.1
  unfold ed at h1 ⊢
  have e3:(vX h st).kind=3:=hh.1
  rw [ah (by have:=hh.1; omega),ah (by have:=hh.1; omega),ai hh.1] at h1
  rw [ah (by omega),ah (by omega),ai e3]
  simp only [bu,bk] at h1 ⊢
  refine ⟨rfl,h1.2.1,?_⟩
  show (h.kids.map (kQ st)).length<=4
  rw [kR]
  exact h1.2.2
 ·have hy:y∈h.kids.map (kQ st):=hy
  obtain ⟨x,hx,rfl⟩:=eU.1 hy
  rw [kQ]
  split
  ·rename_i hk
   obtain ⟨t,ht⟩:=hb x hx hk
   have e:xG st x.n=t:=by rw [xG,ht]
   rw [e]
   exact hst.2 t (cz ht)
  ·rename_i hk
   exact ⟨(hh.2.2 x hx).1,(hh.2.2 x hx).2,hk⟩
def lL (hd:T) (facts:List T):List T->List T->al->List T
 | [],out,st=>if 60<out.length then out else eZ out (vX hd st)
 | g::gs,out,st=>if 60<out.length then out else facts.foldl (fun out f=>if (bt g f st).1=true then lL hd facts gs out (bt g f st).2 else out) out
def fG (hd:T) (facts:List T):List T->al->List T
 | [],st=>[vX hd st]
 | g::gs,st=>facts.flatMap fun f=>if (bt g f st).1=true then fG hd facts gs (bt g f st).2 else []
def jK (out:List T) (t:T):List T:=if 60<out.length then out else eZ out t
theorem Bj:∀ (l:List T) (out:List T),60<out.length->l.foldl jK out=out
 | [],out,_=>rfl
 | t::l,out,h=>by
  rw [oc,jK,ai h]
  exact Bj l out h
theorem B0 (hd:T) (facts:List T):∀ (gs out:List T) (st:al),lL hd facts gs out st=(fG hd facts gs st).foldl jK out
 | [],out,st=>by rw [lL,fG]; rfl
 | g::gs,out,st=>by
  rw [lL,fG]
  split
  ·rename_i h
   exact (Bj _ _ h).symm
  ·rename_i h
   clear h
   have:∀ (fs out:List T),fs.foldl (fun out f=>if (bt g f st).1=true then lL hd facts gs out (bt g f st).2 else out) out =
     (fs.flatMap fun f=>if (bt g f st).1=true then fG hd facts gs (bt g f st).2 else []).foldl jK out:=by
    intro fs
    induction fs with
    | nil=>intro out; rfl
    | cons f fs ih=>
     intro out
     rw [oc,rt,Ul,ih]
     congr 1
     split
     ·exact B0 hd facts gs out _
     ·rfl
   exact this facts out
def lo (hd:T) (gs:List T) (st:al):Prop:=∀ y∈hd.kids,y.kind=1->bnd st y.n ∨ ∃ g∈gs,∃ z∈g.kids,z.kind=1/\z.n=y.n
theorem nH {hd g f:T} {gs:List T} {st:al} (h:lo hd (g::gs) st) (hg:Gl g) (hf:Fct f) (hst:StF st) (hm:(bt g f st).1=true):lo hd gs (bt g f st).2:=by
 obtain ⟨_,h2,h3⟩:=mz hg hf hst
 intro y hy hk
 rcases h y hy hk with hb|⟨x,hx,z,hz,hz1,hzn⟩
 ·exact .inl (h2 _ hb)
 ·rcases bN.1 hx with rfl|hx
  ·left
   rw [<- hzn]
   exact h3 hm z hz hz1
  ·exact .inr ⟨x,hx,z,hz,hz1,hzn⟩
theorem Il {hd:T} {facts:List T} (hh:Gl hd) (hfs:∀ f∈facts,Fct f):∀ (gs:List T) (st:al),(∀ g∈gs,Gl g)->StF st->lo hd gs st->∀ x∈fG hd facts gs st,Fct x
 | [],st,_,hst,hc,x,hx=>by
  rw [fG,cd] at hx
  subst hx
  refine HV hh hst fun y hy hk=>?_
  rcases hc y hy hk with h|⟨g,hg,_⟩
  ·exact h
  ·cases hg
 | g::gs,st,hgs,hst,hc,x,hx=>by
  rw [fG,BT] at hx
  obtain ⟨f,hf,hx⟩:=hx
  split at hx
  ·rename_i hm
   have hg:=hgs g (aS ..)
   exact Il hh hfs gs _ (fun g' h'=>hgs g' (aV _ h')) (mz hg (hfs f hf) hst).1 (nH hc hg (hfs f hf) hst hm) x hx
  ·cases hx
theorem Qj (out:List T) (t:T):out.length<=(jK out t).length/\(jK out t).length<=max out.length 61:=by
 unfold jK
 split
 ·omega
 ·have:=Gg out t
  omega
theorem tD:∀ (l out:List T),out.length<=(l.foldl jK out).length/\(l.foldl jK out).length<=max out.length 61
 | [],out=>by simp only [TY]; omega
 | t::l,out=>by
  rw [oc]
  have h1:=Qj out t
  have h2:=tD l (jK out t)
  omega
theorem PM {out:List T} {t y:T} (h:y∈jK out t):y∈out ∨ y=t:=by
 unfold jK at h
 split at h
 ·exact .inl h
 ·exact sA h
theorem yG:∀ (l out:List T) (y:T),y∈l.foldl jK out->y∈out ∨ y∈l
 | [],out,y,h=>.inl h
 | t::l,out,y,h=>by
  rw [oc] at h
  rcases yG l _ y h with h|h
  ·rcases PM h with h|rfl
   ·exact .inl h
   ·exact .inr (aS ..)
  ·exact .inr (aV _ h)
theorem Bh:∀ (l out:List T) (y:T),y∈out->y∈l.foldl jK out
 | [],out,y,h=>h
 | t::l,out,y,h=>by
  rw [oc]
  refine Bh l _ y ?_
  unfold jK
  split
  ·exact h
  ·exact (Oo out t).2 y h
theorem OK:∀ (l out:List T) (y:T),y∈l->60<(l.foldl jK out).length ∨ y∈l.foldl jK out
 | t::l,out,y,h=>by
  rw [oc]
  rcases bN.1 h with rfl|h
  ·by_cases hc:60<out.length
   ·left
    have h1:=Qj out y
    have h2:=tD l (jK out y)
    omega
   ·right
    refine Bh l _ _ ?_
    rw [jK,ah hc]
    exact (Oo out y).1
  ·exact OK l _ y h
theorem Dn:∀ (l out:List T),Sorted out->(∀ x∈out,okO x)->(∀ x∈l,okO x)->Sorted (l.foldl jK out)
 | [],out,h,_,_=>h
 | t::l,out,h,ho,hl=>by
  rw [oc]
  have ht:=hl t (aS ..)
  refine Dn l _ ?_ (fun x hx=>?_) fun x hx=>hl x (aV _ hx)
  ·unfold jK
   split
   ·exact h
   ·exact sS h ho ht
  ·rcases PM hx with hx|rfl
   ·exact ho x hx
   ·exact ht
theorem VN (l:List T) (t:T):ZF l t=true↔t∈l:=by
 rw [ZF,Gw]
 constructor
 ·rintro ⟨x,hx,he⟩
  rw [lU] at he
  subst he
  exact hx
 ·intro h
  exact ⟨t,h,(lU _ _).2 rfl⟩
end
section
open Go Go.RowKit
def IsM (S:ae) (v:Value) (r:Bool × al):Prop:=∃ kb kp kc,v=.tuple #[kvn kb kp,.bool r.1]/\26<=kp/\kp<=maxLen/\S kb=some (.cells kc ab)/\KnownC S kc r.2
def IsKn (S:ae) (v:Value) (st:al):Prop:=∃ kb kp kc,v=kvn kb kp/\26<=kp/\kp<=maxLen/\S kb=some (.cells kc ab)/\KnownC S kc st
theorem IsM.mono {S S':ae} {v:Value} {r:Bool × al} (h:IsM S v r) (hs:Sle S S'):IsM S' v r:=by
 obtain ⟨kb,kp,kc,h1,h2,h3,h4,h5⟩:=h
 exact ⟨kb,kp,kc,h1,h2,h3,hs _ _ h4,h5.mono hs⟩
theorem IsKn.mono {S S':ae} {v:Value} {st:al} (h:IsKn S v st) (hs:Sle S S'):IsKn S' v st:=by
 obtain ⟨kb,kp,kc,h1,h2,h3,h4,h5⟩:=h
 exact ⟨kb,kp,kc,h1,h2,h3,hs _ _ h4,h5.mono hs⟩
theorem IsM.parts {S:ae} {v:Value} {r:Bool × al} (h:IsM S v r):∃ u,v=.tuple #[u,.bool r.1]/\IsKn S u r.2:=by
 obtain ⟨kb,kp,kc,h1,h2⟩:=h
 exact ⟨_,h1,kb,kp,kc,rfl,h2⟩
theorem aat {hd:T} {facts gs out:List T} {st:al} (hh:Gl hd) (hfs:∀ f∈facts,Fct f) (hgs:∀ g∈gs,Gl g) (hst:StF st) (hc:lo hd gs st) (ho:∀ x∈out,okO x) (hn:out.length<=1000000) :
  (∀ x∈lL hd facts gs out st,okO x)/\(lL hd facts gs out st).length<=1000000:=by
 rw [B0]
 refine ⟨fun x hx=>?_,?_⟩
 ·rcases yG _ _ x hx with h|h
  ·exact ho x h
  ·exact (Il hh hfs gs st hgs hst hc x h).ok.2.2.1
 ·have:=tD (fG hd facts gs st) out
  omega
theorem Yn {hd f g:T} {facts gs out:List T} {st:al} (hh:Gl hd) (hfs:∀ f∈facts,Fct f) (hf:Fct f) (hg:Gl g) (hgs:∀ g∈gs,Gl g) (hst:StF st) (hc:lo hd (g::gs) st) (ho:∀ x∈out,okO x) (hn:out.length<=1000000) :
  (∀ x∈(if (bt g f st).1=true then lL hd facts gs out (bt g f st).2 else out),okO x)/\(if (bt g f st).1=true then lL hd facts gs out (bt g f st).2 else out).length<=1000000:=by
 split
 ·rename_i hm
  exact aat hh hfs hgs (mz hg hf hst).1 (nH hc hg hf hst hm) ho hn
 ·exact ⟨ho,hn⟩
section
attribute [local irreducible] Run CondV az aO
theorem Jq (c0:C) (facts:List T) (hh:Gl c0.head) (hfs:∀ f∈facts,Fct f) (hbs:∀ g∈c0.body,Gl g):∀ (gs:List T) (i:Nat),i+gs.length=c0.body.length->c0.body.drop i=gs->
  ∀ (S:ae) (cs:List Value) (v fv kn:Value) (out:List T) (st:al),RdC S cs c0->RdSl S 4 (RdT S) v out->RdSl S 4 (RdT S) fv facts->IsKn S kn st->StF st->lo c0.head gs st->(∀ x∈out,okO x)->out.length<=1000000->
  Tri Tryz.prog Ov [v,.agg cs.toArray,.int .i64 i,fv,kn] [] S (W7 (lL c0.head facts gs out st)):=by
 intro gs
 induction gs with
 | nil=>
  intro i hi hdr S cs v fv kn out st h hv hf hkn hst hc ho hn w hI
  obtain ⟨kb,kp,kc,rfl,hkp,hkm,hS,hkc⟩:=hkn
  obtain ⟨hd,ks,rfl,h1,h2⟩:=h
  have h1':=h1
  obtain ⟨kv,rfl,g1,g2,g3,g4⟩:=RdT.iff.1 h1
  simp only [bU,wV] at hi
  refine lW.2 ?_
  dsimp only[lW,ry]
  refine bq hI fun b6 w' hI=>?_
  refine aF hv ag ?_
  refine dA ?_
  rw [lL]
  refine aL (fun hb=>?_) (fun hb=>?_)
  ·rw [ai (by omega)]
   exact ⟨_,_,_,rfl,hI.pick [false],Ext.refl _ _ _,rfl,hv⟩
  rw [ah (by omega)]
  refine af hI 0 rfl bj aj rfl ?_
  refine aF h2 ag ?_
  refine bl ?_
  refine aL (fun _=>?_) (fun hb=>absurd (by omega) hb)
  refine au cE ?_
  refine di hI 0 [.int .i64 c0.head.kind,.int .i64 c0.head.n,.string c0.head.name,kv] ad rfl rfl SK ?_
  have hok:=hh.ok
  refine Run.call0 ME Me hI (Jz h1' hok.1 (by omega) hst.ok.1 hst.ok.2 hS hkc) fun v' I' S' w'=>?_
  rintro ⟨rfl,cs1,L,rfl,rfl,hT⟩ _ hI
  obtain ⟨S1,hI,hE,hins⟩:=hI.pubExt
  have hct:=HV hh hst (fun y hy hk=>by
   rcases hc y hy hk with h|⟨g,hg,_⟩
   ·exact h
   ·cases hg)
  refine Run.call0E OS OH hI (Nh (hv.monoT hE.1) (hT.rd hins) ho hct.ok.2.2.1 hn) fun v' I' S2 w'=>?_
  rintro ⟨rfl,hr⟩ hE2 hI
  exact ⟨_,_,_,rfl,hI.pick [false],hE.trans hE2,rfl,hr⟩
 | cons g gs ih=>
  intro i hi hdr S cs v fv kn out st h hv hf hkn hst hc ho hn w hI
  obtain ⟨kb,kp,kc,rfl,hkp,hkm,hS,hkc⟩:=hkn
  have h0:=h
  obtain ⟨hd,ks,rfl,h1,h2⟩:=h
  obtain ⟨kv,rfl,g1,g2,g3,g4⟩:=RdT.iff.1 h1
  simp only [bw] at hi
  have hib:i<c0.body.length:=by omega
  have hlen2:=h2.le
  have hlenf:=hf.le
  simp only [maxLen] at hlen2 hlenf
  have hge:c0.body[i]=g/\c0.body.drop (i+1)=gs:=by
   rw [cU hib,lE] at hdr
   exact hdr
  have hg:Gl g:=by rw [<- hge.1]; exact hbs _ (bz hib)
  have hgs:∀ x∈gs,Gl x:=fun x hx=>hbs x (by rw [<- hge.2] at hx; exact wR hx)
  refine lW.2 ?_
  dsimp only[lW,ry]
  refine bq hI fun b6 w' hI=>?_
  refine aF hv ag ?_
  refine dA ?_
  rw [lL]
  refine aL (fun hb=>?_) (fun hb=>?_)
  ·rw [ai (by omega)]
   exact ⟨_,_,_,rfl,hI.pick [false],Ext.refl _ _ _,rfl,hv⟩
  rw [ah (by omega)]
  refine af hI 0 rfl bj aj rfl ?_
  refine aF h2 ag ?_
  refine bl ?_
  refine aL (fun hb=>by omega) (fun _=>?_)
  generalize hF:(fun (out:List T) (f:T)=>if (bt g f st).1=true then lL c0.head facts gs out (bt g f st).2 else out)=F
  have hF2:∀ o f,F o f=if (bt g f st).1=true then lL c0.head facts gs o (bt g f st).2 else o:=fun o f=>by rw [<- hF]
  refine ⟨fun j t w'=>∃ (k:Nat) (o:List T) (S':ae),k<=facts.length/\j=.int .i64 k/\(facts.drop k).foldl F o=facts.foldl F out/\(∀ x∈o,okO x)/\o.length<=1000000/\Ext w.heap.size [] S S'/\RdSl S' 4 (RdT S') t o/\
    Inv w [] [.blk b6 (.cells #[.int .i64 c0.head.kind,.int .i64 c0.head.n,.string c0.head.name,kv,ks] aq)] S' w',
   fun j _ _=>facts.length - (intOf j).toNat,⟨0,out,S,be _,rfl,rfl,ho,hn,Ext.refl _ _ _,hv,hI⟩,?_⟩
  intro t11 _ _ t0 _ _ _ _ _ _ _ _ _ _ _ _ _ _ _ _ _ _ _ _ _ _ _ _ _ _ _ _ w'
  rintro ⟨k,o,S',hk,rfl,hrel,hoo,hno,hE,hv',hI⟩
  have hf':=hf.monoT hE.1
  refine aF hf' ag ?_
  refine bH ?_
  refine aL (fun hki=>?_) (fun hki=>?_)
  ·have hk':k<facts.length:=by omega
   rw [cU hk',oc] at hrel
   have hfk:=hfs _ (bz hk')
   have hso:=Yn hh hfs hfk hg hgs hst hc hoo hno
   obtain ⟨b1,o1,cap1,c1,E1,fz1,rfl,hS1,hR1⟩:=(h2.monoT hE.1).at_ hib
   obtain ⟨b2,o2,cap2,c2,E2,fz2,rfl,hS2,hR2⟩:=hf'.at_ hk'
   rw [hge.1] at hR1
   obtain ⟨r,hr⟩:∃ r,r=bt g facts[k] st:=⟨_,rfl⟩
   refine ⟨fun t w'=>∃ S2,Ext w.heap.size [] S S2/\RdSl S2 4 (RdT S2) t (F o facts[k])/\Inv w [] [.blk b6 (.cells #[.int .i64 c0.head.kind,.int .i64 c0.head.n,.string c0.head.name,kv,.slice (some ⟨b1,o1,none⟩) c0.body.length cap1] aq)] S2 w',?_,?_⟩
   ·have hkd:=hkc.1
    refine ⟨fun D vC wi nR oK vL sW vO wB tB mg qB vh tI ll AB vN w_=>Fx D 0 [vN=.pointer (some ⟨b6,4,none⟩),AB=.slice (some ⟨b1,o1,none⟩) c0.body.length cap1,ll=.int .i64 i,tI=.pointer (some ⟨b1,o1+i * 4,none⟩),vh=.agg (aX c1 (o1+i * 4) 4).toArray,qB=.slice (some ⟨b2,o2,none⟩) facts.length cap2,mg=.int .i64 k,tB=.pointer (some ⟨b2,o2+k * 4,none⟩),wB=.agg (aX c2 (o2+k * 4) 4).toArray,vO=kvn kb kp,True,True,True,True,True,True]/\∃ SN,Ext w.heap.size [] S' SN/\(D 10=true->IsM SN sW r)/\(D 11=true->IsM SN vL r)/\(D 12=true->IsKn SN oK r.2)/\(D 13=true->nR=.bool r.1)/\(D 14=true->IsKn SN wi r.2)/\(D 15=true->vC=.bool r.1)/\Inv w [] [.blk b6 (.cells #[.int .i64 c0.head.kind,.int .i64 c0.head.n,.string c0.head.name,kv,.slice (some ⟨b1,o1,none⟩) c0.body.length cap1] aq)] SN w_,⟨Fx.nil _ _,⟨S',Ext.refl _ _ _,aQ,aQ,aQ,aQ,aQ,aQ,hI.draw⟩⟩,⟨?_,?_,?_,?_,?_,?_,?_,?_,?_,?_,?_,?_,?_,?_,?_,?_,trivial⟩,?_⟩
    all_goals (intro D bF; intros; rename_i vC wi nR oK vL sW vO wB tB mg qB vh tI ll AB vN w_ hA_; have hF_:=hA_.1; obtain ⟨⟨cj,ci,bR,ce,bP,bY,bZ,cH,c5,dI,bX,cr,cZ,eo,c8,eQ,_⟩,⟨SN,hN,e10,e11,e12,e13,e14,e15,hI⟩⟩:=hA_)
    ·refine au bj ?_
     exact ⟨hF_.set 0 rfl,⟨SN,hN,e10,e11,e12,e13,e14,e15,hI⟩⟩
    ·obtain rfl:=cj ‹_›
     refine aN hI 0 aj rfl rfl ?_
     exact ⟨hF_.set 1 rfl,⟨SN,hN,e10,e11,e12,e13,e14,e15,hI⟩⟩
    ·exact ⟨hF_.set 2 rfl,⟨SN,hN,e10,e11,e12,e13,e14,e15,hI⟩⟩
    ·obtain rfl:=ci ‹_›
     obtain rfl:=bR ‹_›
     refine aE ag hib ?_
     exact ⟨hF_.set 3 rfl,⟨SN,hN,e10,e11,e12,e13,e14,e15,hI⟩⟩
    ·obtain rfl:=ce ‹_›
     refine bL ad hR1.length (fun j v hj=>by rw [hI.cellS (hN.1 _ _ hS1)]; exact aH rfl j v hj) ?_
     exact ⟨hF_.set 4 rfl,⟨SN,hN,e10,e11,e12,e13,e14,e15,hI⟩⟩
    ·exact ⟨hF_.set 5 rfl,⟨SN,hN,e10,e11,e12,e13,e14,e15,hI⟩⟩
    ·exact ⟨hF_.set 6 rfl,⟨SN,hN,e10,e11,e12,e13,e14,e15,hI⟩⟩
    ·obtain rfl:=bY ‹_›
     obtain rfl:=bZ ‹_›
     refine aE ag hk' ?_
     exact ⟨hF_.set 7 rfl,⟨SN,hN,e10,e11,e12,e13,e14,e15,hI⟩⟩
    ·obtain rfl:=cH ‹_›
     refine bL ad hR2.length (fun j v hj=>by rw [hI.cellS (hN.1 _ _ hS2)]; exact aH rfl j v hj) ?_
     exact ⟨hF_.set 8 rfl,⟨SN,hN,e10,e11,e12,e13,e14,e15,hI⟩⟩
    ·exact ⟨hF_.set 9 rfl,⟨SN,hN,e10,e11,e12,e13,e14,e15,hI⟩⟩
    ·obtain rfl:=bP ‹_›
     obtain rfl:=c5 ‹_›
     obtain rfl:=dI ‹_›
     refine Run.call0E Iw Iz hI (Ht (hR1.mono hN.1) (hR2.mono hN.1) hg.ok.1 hfk.ok.2.1 hst.ok.1 hkp hkm (hN.1 _ _ (hE.1 _ _ hS)) ((hkc.mono hE.1).mono hN.1)) fun v' I' SN w_=>?_
     rw [<- hr]
     rintro ⟨rfl,kb',kp',kc',rfl,hk1,hk2,hk3,hk4⟩ hE3 hI
     have e10:=fun (_:aD D 10 10=true)=>(⟨kb',kp',kc',rfl,hk1,hk2,hk3,hk4⟩:IsM SN (.tuple #[kvn kb' kp',.bool r.1]) r)
     have e11:=fun (e:aD D 10 11=true)=>(e11 e).mono hE3.1
     have e12:=fun (e:aD D 10 12=true)=>(e12 e).mono hE3.1
     have e14:=fun (e:aD D 10 14=true)=>(e14 e).mono hE3.1
     have hN:=hN.trans hE3
     exact ⟨hF_.set 10 (by first|assumption|trivial),⟨SN,hN,e10,e11,e12,e13,e14,e15,hI⟩⟩
    ·have M1:=bX ‹_›
     have e11:=fun (_:aD D 11 11=true)=>e10 ‹D 10=true›
     exact ⟨hF_.set 11 (by first|assumption|trivial),⟨SN,hN,e10,e11,e12,e13,e14,e15,hI⟩⟩
    ·have VK:=cr ‹_›
     obtain ⟨u,rfl,hu⟩:=(e11 ‹D 11=true›).parts
     refine ar rfl ?_
     have e12:=fun (_:aD D 12 12=true)=>hu
     exact ⟨hF_.set 12 (by first|assumption|trivial),⟨SN,hN,e10,e11,e12,e13,e14,e15,hI⟩⟩
    ·have VK:=cr ‹_›
     obtain ⟨u,rfl,hu⟩:=(e11 ‹D 11=true›).parts
     refine ar rfl ?_
     have e13:=fun (_:aD D 13 13=true)=>(rfl:Value.bool r.1=.bool r.1)
     exact ⟨hF_.set 13 (by first|assumption|trivial),⟨SN,hN,e10,e11,e12,e13,e14,e15,hI⟩⟩
    ·have WJ:=cZ ‹_›
     have e14:=fun (_:aD D 14 14=true)=>e12 ‹D 12=true›
     exact ⟨hF_.set 14 (by first|assumption|trivial),⟨SN,hN,e10,e11,e12,e13,e14,e15,hI⟩⟩
    ·have ab4:=eo ‹_›
     have e15:=fun (_:aD D 15 15=true)=>e13 ‹D 13=true›
     exact ⟨hF_.set 15 (by first|assumption|trivial),⟨SN,hN,e10,e11,e12,e13,e14,e15,hI⟩⟩
    obtain ⟨rfl,rfl,rfl,rfl,rfl,rfl,rfl,rfl,rfl,rfl,M1,VK,WJ,ab4,V9,ab8,_⟩:=hF_.all
    have ab3:D 14=true:=by assumption
    have ZE:D 15=true:=by assumption
    clear hF_ cj ci bR ce bP bY bZ cH c5 dI bX cr cZ eo c8 eQ
    have hx12:=e14 ab3
    have hx13:=e15 ZE
    subst hx13
    have hE3:=hE.trans hN
    clear e10 e11 e12 e13 e14 e15
    refine aw (fun hb=>?_) (fun hb=>?_)
    ·have hFo:F o facts[k]=lL c0.head facts gs o r.2:=by rw [hF2,<- hr,ai hb]
     rw [hFo]
     refine av hI 0 bx rfl rfl ?_
     refine bp (by omega) ?_
     have hst2:StF r.2:=by rw [hr]; exact (mz hg hfk hst).1
     have hc2:lo c0.head gs r.2:=by rw [hr]; exact nH hc hg hfk hst (by rw [<- hr]; exact hb)
     refine Run.call0E zi AN hI (ih (i+1) (by omega) hge.2 SN _ t0 _ _ o r.2 (h0.mono hE3.1) (hv'.monoT hN.1) (hf.monoT hE3.1) hx12 hst2 hc2 hoo hno) fun v' I' S2 w'=>?_
     rintro ⟨rfl,hr2⟩ hE4 hI
     exact ⟨S2,hE3.trans hE4,hr2,hI.pick [true]⟩
    ·have hFo:F o facts[k]=o:=by rw [hF2,<- hr,ah (by rw [hb]; decide)]
     rw [hFo]
     exact ⟨SN,hE3,hv'.monoT hN.1,hI⟩
   intro t0' _ _ _ _ _ _ _ _ _ _ _ _ _ _ _ _ _ _ _ _ _ _ _ _ w'
   rintro ⟨S2,hE2,hv2,hI⟩
   refine bp (by omega) ?_
   have hFo:=hF2 o facts[k]
   refine ⟨⟨k+1,_,S2,hk',rfl,hrel,?_,?_,hE2,hv2,hI⟩,by simp [intOf]; omega⟩
   ·rw [hFo]; exact hso.1
   ·rw [hFo]; exact hso.2
  ·have:k=facts.length:=by omega
   subst this
   rw [dO,TY] at hrel
   rw [<- hrel]
   exact ⟨_,_,_,rfl,hI.pick [false],hE,rfl,hv'⟩
end
end
end Go.Proofs.YtgllldjiaglkcaaGreatDoor
