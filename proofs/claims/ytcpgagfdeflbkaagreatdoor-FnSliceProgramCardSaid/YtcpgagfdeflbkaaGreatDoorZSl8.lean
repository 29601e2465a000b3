/- Copies whose topmost row is still the caller's own, all else published. (printed by gen_top.py out of Copy and CopyC) -/
import Derived.Test.YtcpgagfdeflbkaaGreatDoorZSl3
import Derived.Test.YtcpgagfdeflbkaaGreatDoorZSl2
import Derived.Test.YtcpgagfdeflbkaaGreatDoorZSl7
import Derived.Test.YtcpgagfdeflbkaaGreatDoorZSl4
namespace Go.Proofs.YtcpgagfdeflbkaaGreatDoor
section
open Go Go.RowKit
theorem Grown.rows {α:Type} {k:Nat} {R:aU->List Value->α->Prop} {R':List Value->α->Prop} {Ls:List aU} {css:List (List Value)} {ys:List α} {S:ad} (h:Grown k R Ls css ys) (hi:Ins S Ls.flatten)
  (hR:∀ L cs x,Ins S L->R L cs x->R' cs x):Rows k R' css ys:=
 ⟨h.hc,h.hk,fun i h1 h2=>hR _ _ _ (zU hi (by rw [h.hL]; exact h1)) (h.hR i h1 (by rw [h.hL]; exact h1) h2)⟩
abbrev PB (t:T):Value->List Item->ad->Prop:=fun v I' S'=>∃ kv css,v=.agg #[.int .i64 t.kind,.int .i64 t.n,.string t.name,kv]/\I'=[aE kv ab 4 css]/\Rows 4 (RdT S') css t.kids
abbrev Oc (c:C):Value->List Item->ad->Prop:=fun v I' S'=>∃ hd kv css,v=.agg (hd++[kv]).toArray/\RdT S' hd c.head/\I'=[aE kv ab 4 css]/\Rows 4 (RdT S') css c.body
section
attribute [local irreducible] Run CondV aq aK
theorem Nt:∀ (t:T) (S:ad) (cs:List Value),RdT S cs t->wT t<=1048576->Tri Tryz.prog s0 [.agg cs.toArray] [] S (PB t):=by
 intro t S cs h hw
 obtain ⟨k,n,s,ks⟩:=t
 have ih:∀ t∈ks,∀ (S:ad) (cs:List Value),RdT S cs t->wT t<=1048576->Tri Tryz.prog s0 [.agg cs.toArray] [] S (Eu S t):=fun t _=>fV t
 intro w hI
 obtain ⟨kv,rfl,h1,h2,hs,hks⟩:=RdT.iff.1 h
 simp only [T.name,T.kids,T.kind,T.n] at h1 h2 hs hks ⊢
 simp only [wT] at hw
 refine lE.2 ?_
 dsimp only[lE,aG]
 refine bp hI fun b1 w' hI=>?_
 refine aP hI aZ fun b2 w' hI=>?_
 refine ae hI 0 rfl aV aI rfl ?_
 refine ae hI 0 rfl bm aI rfl ?_
 refine ae hI 0 rfl aW aN rfl ?_
 refine qQ ?_
 refine aP hI aZ fun b3 w' hI=>?_
 refine aA hI 2 rfl ac rfl rfl (by simp [Value.oneCell']) fun w' hI=>?_
 have hI:=hI.rowNil ab 4
 refine ⟨fun i w'=>∃ (j:Nat) (kvc:Value) (Ls:List aU) (css:List (List Value)),j<=ks.length/\i=.int .i64 j/\Grown 4 TrT Ls css (ks.take j)/\
   Inv w [] (.blk b1 (.cells #[.int .i64 k,.int .i64 n,.string s,kv] ab)::.blk b2 (.cells #[.int .i64 0,.int .i64 0,.string ⟨#[]⟩,.slice none 0 0] ab)::.blk b3 (.cells #[.int .i64 k,.int .i64 n,.string s,kvc] ab)::aE kvc ab 4 css::bj Ls.flatten) S w',
  fun i _=>ks.length - (intOf i).toNat,⟨0,_,[],[],aR _,rfl,Grown.nil _ _,hI⟩,?_⟩
 intro t4 _ _ _ _ _ _ _ _ _ _ _ _ _ _ _ _ _ _ w'
 rintro ⟨j,kvc,Ls,css,hj,rfl,hg,hI⟩
 refine ae hI 0 rfl av ao rfl ?_
 refine aF hks ah ?_
 refine bL ?_
 refine aH (fun hji=>?_) (fun hji=>?_)
 ·have hj':j<ks.length:=by omega
  have hjl:(ks.take j).length=j:=by simp; omega
  have hcl:=hg.hc
  have hm:=bQ hj'
  have hwm:=jf hm
  obtain ⟨b,o,cap,c,E,fz,rfl,hS,hR⟩:=hks.at_ hj'
  refine ⟨fun D zV lq Ak qm ge pu z5 Cm s5 pf pH w_=>Fx D 0 [pH=.pointer (some ⟨b3,3,none⟩),pf=kvc,s5=.pointer (some ⟨b1,3,none⟩),Cm=.slice (some ⟨b,o,none⟩) (ks).length cap,z5=.int .i64 j,pu=.pointer (some ⟨b,o+j * 4,none⟩),ge=.agg (ba c (o+j * 4) 4).toArray,True,True,True,zV=.pointer (some ⟨b3,3,none⟩),True]/\∃ M cs7 b8,(D 7=true->qm=.agg cs7.toArray/\TrT M cs7 (ks)[j])/\(D 8=true->Ak=.slice (some ⟨b8,0,none⟩) 1 1)/\(D 8=true->D 7=true)/\(D 9=true->D 8=true)/\(D 11=true->D 9=true)/\(D 11=true->D 1=true)/\Inv w [] (aY (.blk b1 (.cells #[.int .i64 k,.int .i64 n,.string s,.slice (some ⟨b,o,none⟩) ks.length cap] ab)) (.blk b2 (.cells #[.int .i64 0,.int .i64 0,.string ⟨#[]⟩,.slice none 0 0] ab)) (.blk b3 (.cells #[.int .i64 k,.int .i64 n,.string s,kvc] ab)) (.blk b3 (.cells #[.int .i64 k,.int .i64 n,.string s,lq] ab)) (aE kvc ab 4 css) (aE lq ab 4 (css++[cs7])) (bj Ls.flatten) M (.blk b8 (.cells cs7.toArray ab)) (D 7) (D 8) (D 9) (D 11)) S w_,⟨Fx.nil _ _,⟨[],[],0,aQ,aQ,aQ,aQ,aQ,aQ,by simpa [aY,bj] using hI.draw⟩⟩,⟨?_,?_,?_,?_,?_,?_,?_,?_,?_,?_,?_,?_,trivial⟩,?_⟩
  all_goals (intro D bI; intros; rename_i zV lq Ak qm ge pu z5 Cm s5 pf pH w_ hA_; have hF_:=hA_.1; obtain ⟨⟨cJ,cH,cK,cI,cN,cP,cz,dC,ek,fZ,dr,dM,_⟩,⟨M,cs7,b8,e7,e8,k8,k9,k11,k1,hI⟩⟩:=hA_)
  ·refine aC av ?_
   exact ⟨hF_.set 0 rfl,⟨M,cs7,b8,e7,e8,k8,k9,k11,k1,hI⟩⟩
  ·obtain rfl:=cJ ‹_›
   have f11:D 11=false:=cq.2 fun h=>by rw [k1 h] at bI; cases bI
   refine bb (b:=b3) hI 2 (c:=(#[.int .i64 k,.int .i64 n,.string s,kvc])) ao (by rw [f11]; rfl) rfl ?_
   have k1:=fun (_:aB D 1 11=true)=>(rfl:aB D 1 1=true)
   exact ⟨hF_.set 1 rfl,⟨M,cs7,b8,e7,e8,k8,k9,k11,k1,hI⟩⟩
  ·refine aC av ?_
   exact ⟨hF_.set 2 rfl,⟨M,cs7,b8,e7,e8,k8,k9,k11,k1,hI⟩⟩
  ·obtain rfl:=cK ‹_›
   refine bb hI 0 ao rfl rfl ?_
   exact ⟨hF_.set 3 rfl,⟨M,cs7,b8,e7,e8,k8,k9,k11,k1,hI⟩⟩
  ·exact ⟨hF_.set 4 rfl,⟨M,cs7,b8,e7,e8,k8,k9,k11,k1,hI⟩⟩
  ·obtain rfl:=cI ‹_›
   obtain rfl:=cN ‹_›
   refine aD ah hj' ?_
   exact ⟨hF_.set 5 rfl,⟨M,cs7,b8,e7,e8,k8,k9,k11,k1,hI⟩⟩
  ·obtain rfl:=cP ‹_›
   refine cm ac hR.length (fun j v hj=>by rw [hI.cellS hS]; exact aL rfl j v hj) ?_
   exact ⟨hF_.set 6 rfl,⟨M,cs7,b8,e7,e8,k8,k9,k11,k1,hI⟩⟩
  ·obtain rfl:=cz ‹_›
   have f8:D 8=false:=cq.2 fun h=>by rw [k8 h] at bI; cases bI
   have f9:D 9=false:=cq.2 fun h=>by rw [k9 h] at f8; cases f8
   have f11:D 11=false:=cq.2 fun h=>by rw [k11 h] at f9; cases f9
   rw [bI,f8,f9,f11] at hI
   refine Run.call0 eP eV hI (ih _ (bQ hj') S _ hR (by omega)) fun v' I' S w_=>?_
   rintro ⟨rfl,cs7,M,rfl,rfl,hT⟩ _ hI
   have e7:aB D 7 7=true->Value.agg cs7.toArray=Value.agg cs7.toArray/\TrT M cs7 (ks)[j]:=fun _=>⟨rfl,hT⟩
   have k8:=fun (_:aB D 7 8=true)=>(rfl:aB D 7 7=true)
   have hI:Inv w [] (aY (.blk b1 (.cells #[.int .i64 k,.int .i64 n,.string s,.slice (some ⟨b,o,none⟩) ks.length cap] ab)) (.blk b2 (.cells #[.int .i64 0,.int .i64 0,.string ⟨#[]⟩,.slice none 0 0] ab)) (.blk b3 (.cells #[.int .i64 k,.int .i64 n,.string s,kvc] ab)) (.blk b3 (.cells #[.int .i64 k,.int .i64 n,.string s,lq] ab)) (aE kvc ab 4 css) (aE lq ab 4 (css++[cs7])) (bj Ls.flatten) M (.blk b8 (.cells cs7.toArray ab)) true (D 8) (D 9) (D 11)) S w_:=by
    rw [f8,f9,f11]
    simpa [aY] using hI
   exact ⟨hF_.set 7 (by first|assumption|trivial),⟨M,cs7,b8,e7,e8,k8,k9,k11,k1,hI⟩⟩
  ·have PT:=dC ‹_›
   have f9:D 9=false:=cq.2 fun h=>by rw [k9 h] at bI; cases bI
   have f11:D 11=false:=cq.2 fun h=>by rw [k11 h] at f9; cases f9
   obtain ⟨q7,hT⟩:=e7 ‹D 7=true›
   subst q7
   rw [‹D 7=true›,bI,f9,f11] at hI
   refine d6 hI bA (by simp [Value.cells,hT.length]) (by omega) (by omega) fun b8 w_ hI=>?_
   have e7:aB D 8 7=true->Value.agg cs7.toArray=Value.agg cs7.toArray/\TrT M cs7 (ks)[j]:=fun _=>⟨rfl,hT⟩
   have e8:=fun (_:aB D 8 8=true)=>(rfl:Value.slice (some ⟨b8,0,none⟩) 1 1=_)
   have k8:=fun (_:aB D 8 8=true)=>‹D 7=true›
   have k9:=fun (_:aB D 8 9=true)=>(rfl:aB D 8 8=true)
   have hI:Inv w [] (aY (.blk b1 (.cells #[.int .i64 k,.int .i64 n,.string s,.slice (some ⟨b,o,none⟩) ks.length cap] ab)) (.blk b2 (.cells #[.int .i64 0,.int .i64 0,.string ⟨#[]⟩,.slice none 0 0] ab)) (.blk b3 (.cells #[.int .i64 k,.int .i64 n,.string s,kvc] ab)) (.blk b3 (.cells #[.int .i64 k,.int .i64 n,.string s,lq] ab)) (aE kvc ab 4 css) (aE lq ab 4 (css++[cs7])) (bj Ls.flatten) M (.blk b8 (.cells cs7.toArray ab)) (D 7) true (D 9) (D 11)) S w_:=by
    rw [‹D 7=true›,f9,f11]
    simpa [aY,Value.cells] using hI
   exact ⟨hF_.set 8 (by first|assumption|trivial),⟨M,cs7,b8,e7,e8,k8,k9,k11,k1,hI⟩⟩
  ·obtain rfl:=cH ‹_›
   have NO:=ek ‹_›
   have f11:D 11=false:=cq.2 fun h=>by rw [k11 h] at bI; cases bI
   have q8:=e8 ‹D 8=true›
   subst q8
   obtain ⟨_,hT⟩:=e7 ‹D 7=true›
   rw [‹D 7=true›,‹D 8=true›,bI,f11] at hI
   have hblk:((aY (.blk b1 (.cells #[.int .i64 k,.int .i64 n,.string s,.slice (some ⟨b,o,none⟩) ks.length cap] ab)) (.blk b2 (.cells #[.int .i64 0,.int .i64 0,.string ⟨#[]⟩,.slice none 0 0] ab)) (.blk b3 (.cells #[.int .i64 k,.int .i64 n,.string s,pf] ab)) (.blk b3 (.cells #[.int .i64 k,.int .i64 n,.string s,lq] ab)) (aE pf ab 4 css) (aE lq ab 4 (css++[cs7])) (bj Ls.flatten) M (.blk b8 (.cells cs7.toArray ab)) true true false false))[4+(bj Ls.flatten).length+(bj M).length]?=some (.blk b8 (.cells cs7.toArray ab)):=by
    have e4:4+(bj Ls.flatten).length+(bj M).length=((bj Ls.flatten).length+(bj M).length)+1+1+1+1:=by omega
    rw [e4]
    simp only [aY,lx]
    rw [gP (by omega),qj,gP (aM _),dY]; rfl
   refine dy hI 3 cs7 bA (by omega) rfl (by rw [hT.length]) (m:=1) (o:=0) ?_ hT.one (by omega) (by omega) fun v' w_ hI=>?_
   ·intro i u hi
    rw [hI.cellL hblk,cZ]
    simpa using hi
   rw [eK] at hI
   have k9:=fun (_:aB D 9 9=true)=>‹D 8=true›
   have k11:=fun (_:aB D 9 11=true)=>(rfl:aB D 9 9=true)
   have hI:Inv w [] (aY (.blk b1 (.cells #[.int .i64 k,.int .i64 n,.string s,.slice (some ⟨b,o,none⟩) ks.length cap] ab)) (.blk b2 (.cells #[.int .i64 0,.int .i64 0,.string ⟨#[]⟩,.slice none 0 0] ab)) (.blk b3 (.cells #[.int .i64 k,.int .i64 n,.string s,pf] ab)) (.blk b3 (.cells #[.int .i64 k,.int .i64 n,.string s,v'] ab)) (aE pf ab 4 css) (aE v' ab 4 (css++[cs7])) (bj Ls.flatten) M (.blk b8 (.cells cs7.toArray ab)) (D 7) (D 8) true (D 11)) S w_:=by
    rw [‹D 7=true›,‹D 8=true›,f11]
    exact hI
   exact ⟨hF_.set 9 (by first|assumption|trivial),⟨M,cs7,b8,e7,e8,k8,k9,k11,k1,hI⟩⟩
  ·refine aC av ?_
   exact ⟨hF_.set 10 rfl,⟨M,cs7,b8,e7,e8,k8,k9,k11,k1,hI⟩⟩
  ·obtain rfl:=dr ‹_›
   have PR:=fZ ‹_›
   rw [‹D 7=true›,‹D 8=true›,‹D 9=true›,bI] at hI
   obtain ⟨va,vn,vc,hv9⟩:=Inv.rowSlice hI 3 rfl
   refine df hI 2 (n:=1) (by rw [hv9]; rfl) (by decide +kernel) rfl (by simp) (by rw [hv9]; simp [Value.cells,Value.oneCell']) fun w_ hI=>?_
   have hcl9:Value.cells lq=#[lq]:=by rw [hv9]; rfl
   rw [hcl9] at hI
   have k1:=fun (_:aB D 11 11=true)=>‹D 1=true›
   have k11:=fun (_:aB D 11 11=true)=>‹D 9=true›
   have hI:Inv w [] (aY (.blk b1 (.cells #[.int .i64 k,.int .i64 n,.string s,.slice (some ⟨b,o,none⟩) ks.length cap] ab)) (.blk b2 (.cells #[.int .i64 0,.int .i64 0,.string ⟨#[]⟩,.slice none 0 0] ab)) (.blk b3 (.cells #[.int .i64 k,.int .i64 n,.string s,kvc] ab)) (.blk b3 (.cells #[.int .i64 k,.int .i64 n,.string s,lq] ab)) (aE kvc ab 4 css) (aE lq ab 4 (css++[cs7])) (bj Ls.flatten) M (.blk b8 (.cells cs7.toArray ab)) (D 7) (D 8) (D 9) true) S w_:=by
    rw [‹D 7=true›,‹D 8=true›,‹D 9=true›]
    exact hI
   exact ⟨hF_.set 11 trivial,⟨M,cs7,b8,e7,e8,k8,k9,k11,k1,hI⟩⟩
  obtain ⟨rfl,rfl,rfl,rfl,rfl,rfl,rfl,PT,NO,PR,rfl,_,_⟩:=hF_.all
  have C5:D 7=true:=by assumption
  have N5:D 8=true:=by assumption
  have Sd:D 9=true:=by assumption
  have Cc:D 11=true:=by assumption
  clear hF_ cJ cH cK cI cN cP cz dC ek fZ dr dM
  obtain ⟨_,hT⟩:=e7 C5
  rw [C5,N5,Sd,Cc] at hI
  refine bn (by omega) ?_
  refine ⟨⟨j+1,lq,Ls++[M],css++[cs7],hj',rfl,?_,?_⟩,by simp [intOf]; omega⟩
  ·rw [fy hj']
   exact hg.snoc hT hT.length
  ·simp only [vD,gx,qW,cX,dv]
   refine hI.sub ?_
   simp only [aY]
   rw [<- eI]
   exact (((dn _ _).cons_cons _).cons_cons _).cons_cons _ |>.cons_cons _
 ·have:j=ks.length:=by omega
  subst this
  rw [fM] at hg
  obtain ⟨va,vn,vc,hvk⟩:=hI.rowSlice 3 rfl
  have hv1:kvc.oneCell'=true:=by rw [hvk]; rfl
  refine az hI 2 ac rfl rfl ?_
  refine aA hI 1 rfl ac rfl rfl ?_ fun w' hI=>?_
  ·intro u hu
   have hu':u∈([.int .i64 k,.int .i64 n,.string s,kvc]:List Value):=hu
   simp at hu'
   rcases hu' with rfl|rfl|rfl|rfl <;> first|rfl|exact hv1
  refine bw hI 1 ac rfl rfl ?_
  have hI:Inv w [] ([aE kvc ab 4 css]++bj Ls.flatten) S w':=hI.sub (dz [_,_,_] _)
  obtain ⟨S1,hI,hE,hins⟩:=hI.pubExt
  exact ⟨_,_,S1,rfl,hI,hE,_,css,rfl,rfl,hg.rows hins fun _ _ _ hi h=>h.rd hi⟩
theorem M3 {c0:C} {S:ad} {cs:List Value} (h:RdC S cs c0) (hw:wC c0<=1048576):Tri Tryz.prog AZ [.agg cs.toArray] [] S (Oc c0):=by
 intro w hI
 obtain ⟨hd,ks,rfl,h1,h2⟩:=h
 have h1':=h1
 obtain ⟨kv,rfl,g1,g2,g3,g4⟩:=RdT.iff.1 h1
 unfold wC at hw
 refine lr.2 ?_
 dsimp only[lr,aG]
 refine bp hI fun b1 w' hI=>?_
 refine aP hI dA fun b2 w' hI=>?_
 refine aC bZ ?_
 refine ey hI 0 [.int .i64 c0.head.kind,.int .i64 c0.head.n,.string c0.head.name,kv] ac rfl rfl Jp ?_
 refine Run.call0 eP eV hI (fV _ S _ h1' (by omega)) fun v' I' S w'=>?_
 rintro ⟨rfl,cs1,N,rfl,rfl,hT1⟩ _ hI
 obtain ⟨kh,rfl,_⟩:=TrT.iff.1 hT1
 refine kS ?_
 refine aP hI dA fun b3 w' hI=>?_
 have hI:=hI.perm (M:=.blk b1 _::.blk b2 _::.blk b3 _::bj N) (((co (l₁:=[_])).cons _).cons _)
 refine aA hI 2 rfl be rfl rfl ?_ fun w' hI=>?_
 ·intro u hu
  have hu':u∈([.int .i64 c0.head.kind,.int .i64 c0.head.n,.string c0.head.name,kh,.slice none 0 0]:List Value):=hu
  simp at hu'
  have o1:kh.oneCell'=true:=hT1.one kh (by simp)
  rcases hu' with rfl|rfl|rfl|rfl|rfl <;> first|rfl|exact o1
 have hI:=hI.rowNil ab 4
 have hI:=hI.perm (M:=.blk b1 (.cells #[.int .i64 c0.head.kind,.int .i64 c0.head.n,.string c0.head.name,kv,ks] ag)::.blk b2 (.cells #[.int .i64 0,.int .i64 0,.string ⟨#[]⟩,.slice none 0 0,.slice none 0 0] ag)::.blk b3 (.cells #[.int .i64 c0.head.kind,.int .i64 c0.head.n,.string c0.head.name,kh,.slice none 0 0] ag)::aE (.slice none 0 0) ab 4 []::bj N) ((((co (l₁:=[_])).cons _).cons _).cons _)
 refine ⟨fun i w'=>∃ (j:Nat) (kvc:Value) (Ls:List aU) (css:List (List Value)),j<=c0.body.length/\i=.int .i64 j/\Grown 4 TrT Ls css (c0.body.take j)/\
   Inv w [] (.blk b1 (.cells #[.int .i64 c0.head.kind,.int .i64 c0.head.n,.string c0.head.name,kv,ks] ag)::.blk b2 (.cells #[.int .i64 0,.int .i64 0,.string ⟨#[]⟩,.slice none 0 0,.slice none 0 0] ag)::.blk b3 (.cells #[.int .i64 c0.head.kind,.int .i64 c0.head.n,.string c0.head.name,kh,kvc] ag)::aE kvc ab 4 css::bj (N::Ls).flatten) S w',
  fun i _=>c0.body.length - (intOf i).toNat,⟨0,_,[],[],aR _,rfl,Grown.nil _ _,by simp only [gx,qW,cX]; exact hI⟩,?_⟩
 intro t4 _ _ _ _ _ _ _ _ _ _ _ _ _ _ _ _ _ _ w'
 rintro ⟨j,kvc,Ls,css,hj,rfl,hg,hI⟩
 refine ae hI 0 rfl bo ao rfl ?_
 refine aF h2 ah ?_
 refine bL ?_
 refine aH (fun hji=>?_) (fun hji=>?_)
 ·have hj':j<c0.body.length:=by omega
  have hjl:(c0.body.take j).length=j:=by simp; omega
  have hcl:=hg.hc
  have hm:=bQ hj'
  have hwm:=jf hm
  obtain ⟨b,o,cap,c,E,fz,rfl,hS,hR⟩:=h2.at_ hj'
  refine ⟨fun D qm ge pu z5 Cm s5 pf pH BX mZ vm w_=>Fx D 0 [vm=.pointer (some ⟨b3,4,none⟩),mZ=kvc,BX=.pointer (some ⟨b1,4,none⟩),pH=.slice (some ⟨b,o,none⟩) (c0.body).length cap,pf=.int .i64 j,s5=.pointer (some ⟨b,o+j * 4,none⟩),Cm=.agg (ba c (o+j * 4) 4).toArray,True,True,True,qm=.pointer (some ⟨b3,4,none⟩),True]/\∃ M cs7 b8,(D 7=true->z5=.agg cs7.toArray/\TrT M cs7 (c0.body)[j])/\(D 8=true->pu=.slice (some ⟨b8,0,none⟩) 1 1)/\(D 8=true->D 7=true)/\(D 9=true->D 8=true)/\(D 11=true->D 9=true)/\(D 11=true->D 1=true)/\Inv w [] (aY (.blk b1 (.cells #[.int .i64 c0.head.kind,.int .i64 c0.head.n,.string c0.head.name,kv,.slice (some ⟨b,o,none⟩) c0.body.length cap] ag)) (.blk b2 (.cells #[.int .i64 0,.int .i64 0,.string ⟨#[]⟩,.slice none 0 0,.slice none 0 0] ag)) (.blk b3 (.cells #[.int .i64 c0.head.kind,.int .i64 c0.head.n,.string c0.head.name,kh,kvc] ag)) (.blk b3 (.cells #[.int .i64 c0.head.kind,.int .i64 c0.head.n,.string c0.head.name,kh,ge] ag)) (aE kvc ab 4 css) (aE ge ab 4 (css++[cs7])) (bj (N::Ls).flatten) M (.blk b8 (.cells cs7.toArray ab)) (D 7) (D 8) (D 9) (D 11)) S w_,⟨Fx.nil _ _,⟨[],[],0,aQ,aQ,aQ,aQ,aQ,aQ,by simpa [aY,bj] using hI.draw⟩⟩,⟨?_,?_,?_,?_,?_,?_,?_,?_,?_,?_,?_,?_,trivial⟩,?_⟩
  all_goals (intro D bI; intros; rename_i qm ge pu z5 Cm s5 pf pH BX mZ vm w_ hA_; have hF_:=hA_.1; obtain ⟨⟨cJ,cH,cK,cI,cN,cP,cz,dC,ek,fZ,dr,dM,_⟩,⟨M,cs7,b8,e7,e8,k8,k9,k11,k1,hI⟩⟩:=hA_)
  ·refine aC bo ?_
   exact ⟨hF_.set 0 rfl,⟨M,cs7,b8,e7,e8,k8,k9,k11,k1,hI⟩⟩
  ·obtain rfl:=cJ ‹_›
   have f11:D 11=false:=cq.2 fun h=>by rw [k1 h] at bI; cases bI
   refine bb (b:=b3) hI 2 (c:=(#[.int .i64 c0.head.kind,.int .i64 c0.head.n,.string c0.head.name,kh,kvc])) ao (by rw [f11]; rfl) rfl ?_
   have k1:=fun (_:aB D 1 11=true)=>(rfl:aB D 1 1=true)
   exact ⟨hF_.set 1 rfl,⟨M,cs7,b8,e7,e8,k8,k9,k11,k1,hI⟩⟩
  ·refine aC bo ?_
   exact ⟨hF_.set 2 rfl,⟨M,cs7,b8,e7,e8,k8,k9,k11,k1,hI⟩⟩
  ·obtain rfl:=cK ‹_›
   refine bb hI 0 ao rfl rfl ?_
   exact ⟨hF_.set 3 rfl,⟨M,cs7,b8,e7,e8,k8,k9,k11,k1,hI⟩⟩
  ·exact ⟨hF_.set 4 rfl,⟨M,cs7,b8,e7,e8,k8,k9,k11,k1,hI⟩⟩
  ·obtain rfl:=cI ‹_›
   obtain rfl:=cN ‹_›
   refine aD ah hj' ?_
   exact ⟨hF_.set 5 rfl,⟨M,cs7,b8,e7,e8,k8,k9,k11,k1,hI⟩⟩
  ·obtain rfl:=cP ‹_›
   refine cm ac hR.length (fun j v hj=>by rw [hI.cellS hS]; exact aL rfl j v hj) ?_
   exact ⟨hF_.set 6 rfl,⟨M,cs7,b8,e7,e8,k8,k9,k11,k1,hI⟩⟩
  ·obtain rfl:=cz ‹_›
   have f8:D 8=false:=cq.2 fun h=>by rw [k8 h] at bI; cases bI
   have f9:D 9=false:=cq.2 fun h=>by rw [k9 h] at f8; cases f8
   have f11:D 11=false:=cq.2 fun h=>by rw [k11 h] at f9; cases f9
   rw [bI,f8,f9,f11] at hI
   refine Run.call0 eP eV hI (fV _ S _ hR (by omega)) fun v' I' S w_=>?_
   rintro ⟨rfl,cs7,M,rfl,rfl,hT⟩ _ hI
   have e7:aB D 7 7=true->Value.agg cs7.toArray=Value.agg cs7.toArray/\TrT M cs7 (c0.body)[j]:=fun _=>⟨rfl,hT⟩
   have k8:=fun (_:aB D 7 8=true)=>(rfl:aB D 7 7=true)
   have hI:Inv w [] (aY (.blk b1 (.cells #[.int .i64 c0.head.kind,.int .i64 c0.head.n,.string c0.head.name,kv,.slice (some ⟨b,o,none⟩) c0.body.length cap] ag)) (.blk b2 (.cells #[.int .i64 0,.int .i64 0,.string ⟨#[]⟩,.slice none 0 0,.slice none 0 0] ag)) (.blk b3 (.cells #[.int .i64 c0.head.kind,.int .i64 c0.head.n,.string c0.head.name,kh,kvc] ag)) (.blk b3 (.cells #[.int .i64 c0.head.kind,.int .i64 c0.head.n,.string c0.head.name,kh,ge] ag)) (aE kvc ab 4 css) (aE ge ab 4 (css++[cs7])) (bj (N::Ls).flatten) M (.blk b8 (.cells cs7.toArray ab)) true (D 8) (D 9) (D 11)) S w_:=by
    rw [f8,f9,f11]
    simpa [aY] using hI
   exact ⟨hF_.set 7 (by first|assumption|trivial),⟨M,cs7,b8,e7,e8,k8,k9,k11,k1,hI⟩⟩
  ·have PT:=dC ‹_›
   have f9:D 9=false:=cq.2 fun h=>by rw [k9 h] at bI; cases bI
   have f11:D 11=false:=cq.2 fun h=>by rw [k11 h] at f9; cases f9
   obtain ⟨q7,hT⟩:=e7 ‹D 7=true›
   subst q7
   rw [‹D 7=true›,bI,f9,f11] at hI
   refine d6 hI bA (by simp [Value.cells,hT.length]) (by omega) (by omega) fun b8 w_ hI=>?_
   have e7:aB D 8 7=true->Value.agg cs7.toArray=Value.agg cs7.toArray/\TrT M cs7 (c0.body)[j]:=fun _=>⟨rfl,hT⟩
   have e8:=fun (_:aB D 8 8=true)=>(rfl:Value.slice (some ⟨b8,0,none⟩) 1 1=_)
   have k8:=fun (_:aB D 8 8=true)=>‹D 7=true›
   have k9:=fun (_:aB D 8 9=true)=>(rfl:aB D 8 8=true)
   have hI:Inv w [] (aY (.blk b1 (.cells #[.int .i64 c0.head.kind,.int .i64 c0.head.n,.string c0.head.name,kv,.slice (some ⟨b,o,none⟩) c0.body.length cap] ag)) (.blk b2 (.cells #[.int .i64 0,.int .i64 0,.string ⟨#[]⟩,.slice none 0 0,.slice none 0 0] ag)) (.blk b3 (.cells #[.int .i64 c0.head.kind,.int .i64 c0.head.n,.string c0.head.name,kh,kvc] ag)) (.blk b3 (.cells #[.int .i64 c0.head.kind,.int .i64 c0.head.n,.string c0.head.name,kh,ge] ag)) (aE kvc ab 4 css) (aE ge ab 4 (css++[cs7])) (bj (N::Ls).flatten) M (.blk b8 (.cells cs7.toArray ab)) (D 7) true (D 9) (D 11)) S w_:=by
    rw [‹D 7=true›,f9,f11]
    simpa [aY,Value.cells] using hI
   exact ⟨hF_.set 8 (by first|assumption|trivial),⟨M,cs7,b8,e7,e8,k8,k9,k11,k1,hI⟩⟩
  ·obtain rfl:=cH ‹_›
   have NO:=ek ‹_›
   have f11:D 11=false:=cq.2 fun h=>by rw [k11 h] at bI; cases bI
   have q8:=e8 ‹D 8=true›
   subst q8
   obtain ⟨_,hT⟩:=e7 ‹D 7=true›
   rw [‹D 7=true›,‹D 8=true›,bI,f11] at hI
   have hblk:((aY (.blk b1 (.cells #[.int .i64 c0.head.kind,.int .i64 c0.head.n,.string c0.head.name,kv,.slice (some ⟨b,o,none⟩) c0.body.length cap] ag)) (.blk b2 (.cells #[.int .i64 0,.int .i64 0,.string ⟨#[]⟩,.slice none 0 0,.slice none 0 0] ag)) (.blk b3 (.cells #[.int .i64 c0.head.kind,.int .i64 c0.head.n,.string c0.head.name,kh,mZ] ag)) (.blk b3 (.cells #[.int .i64 c0.head.kind,.int .i64 c0.head.n,.string c0.head.name,kh,ge] ag)) (aE mZ ab 4 css) (aE ge ab 4 (css++[cs7])) (bj (N::Ls).flatten) M (.blk b8 (.cells cs7.toArray ab)) true true false false))[4+(bj (N::Ls).flatten).length+(bj M).length]?=some (.blk b8 (.cells cs7.toArray ab)):=by
    have e4:4+(bj (N::Ls).flatten).length+(bj M).length=((bj (N::Ls).flatten).length+(bj M).length)+1+1+1+1:=by omega
    rw [e4]
    simp only [aY,lx]
    rw [gP (by omega),qj,gP (aM _),dY]; rfl
   refine dy hI 3 cs7 bA (by omega) rfl (by rw [hT.length]) (m:=1) (o:=0) ?_ hT.one (by omega) (by omega) fun v' w_ hI=>?_
   ·intro i u hi
    rw [hI.cellL hblk,cZ]
    simpa using hi
   rw [eK] at hI
   have k9:=fun (_:aB D 9 9=true)=>‹D 8=true›
   have k11:=fun (_:aB D 9 11=true)=>(rfl:aB D 9 9=true)
   have hI:Inv w [] (aY (.blk b1 (.cells #[.int .i64 c0.head.kind,.int .i64 c0.head.n,.string c0.head.name,kv,.slice (some ⟨b,o,none⟩) c0.body.length cap] ag)) (.blk b2 (.cells #[.int .i64 0,.int .i64 0,.string ⟨#[]⟩,.slice none 0 0,.slice none 0 0] ag)) (.blk b3 (.cells #[.int .i64 c0.head.kind,.int .i64 c0.head.n,.string c0.head.name,kh,mZ] ag)) (.blk b3 (.cells #[.int .i64 c0.head.kind,.int .i64 c0.head.n,.string c0.head.name,kh,v'] ag)) (aE mZ ab 4 css) (aE v' ab 4 (css++[cs7])) (bj (N::Ls).flatten) M (.blk b8 (.cells cs7.toArray ab)) (D 7) (D 8) true (D 11)) S w_:=by
    rw [‹D 7=true›,‹D 8=true›,f11]
    exact hI
   exact ⟨hF_.set 9 (by first|assumption|trivial),⟨M,cs7,b8,e7,e8,k8,k9,k11,k1,hI⟩⟩
  ·refine aC bo ?_
   exact ⟨hF_.set 10 rfl,⟨M,cs7,b8,e7,e8,k8,k9,k11,k1,hI⟩⟩
  ·obtain rfl:=dr ‹_›
   have PR:=fZ ‹_›
   rw [‹D 7=true›,‹D 8=true›,‹D 9=true›,bI] at hI
   obtain ⟨va,vn,vc,hv9⟩:=Inv.rowSlice hI 3 rfl
   refine df hI 2 (n:=1) (by rw [hv9]; rfl) (by decide +kernel) rfl (by simp) (by rw [hv9]; simp [Value.cells,Value.oneCell']) fun w_ hI=>?_
   have hcl9:Value.cells ge=#[ge]:=by rw [hv9]; rfl
   rw [hcl9] at hI
   have k1:=fun (_:aB D 11 11=true)=>‹D 1=true›
   have k11:=fun (_:aB D 11 11=true)=>‹D 9=true›
   have hI:Inv w [] (aY (.blk b1 (.cells #[.int .i64 c0.head.kind,.int .i64 c0.head.n,.string c0.head.name,kv,.slice (some ⟨b,o,none⟩) c0.body.length cap] ag)) (.blk b2 (.cells #[.int .i64 0,.int .i64 0,.string ⟨#[]⟩,.slice none 0 0,.slice none 0 0] ag)) (.blk b3 (.cells #[.int .i64 c0.head.kind,.int .i64 c0.head.n,.string c0.head.name,kh,kvc] ag)) (.blk b3 (.cells #[.int .i64 c0.head.kind,.int .i64 c0.head.n,.string c0.head.name,kh,ge] ag)) (aE kvc ab 4 css) (aE ge ab 4 (css++[cs7])) (bj (N::Ls).flatten) M (.blk b8 (.cells cs7.toArray ab)) (D 7) (D 8) (D 9) true) S w_:=by
    rw [‹D 7=true›,‹D 8=true›,‹D 9=true›]
    exact hI
   exact ⟨hF_.set 11 trivial,⟨M,cs7,b8,e7,e8,k8,k9,k11,k1,hI⟩⟩
  obtain ⟨rfl,rfl,rfl,rfl,rfl,rfl,rfl,PT,NO,PR,rfl,_,_⟩:=hF_.all
  have C5:D 7=true:=by assumption
  have N5:D 8=true:=by assumption
  have Sd:D 9=true:=by assumption
  have Cc:D 11=true:=by assumption
  clear hF_ cJ cH cK cI cN cP cz dC ek fZ dr dM
  obtain ⟨_,hT⟩:=e7 C5
  rw [C5,N5,Sd,Cc] at hI
  refine bn (by omega) ?_
  refine ⟨⟨j+1,ge,Ls++[M],css++[cs7],hj',rfl,?_,?_⟩,by simp [intOf]; omega⟩
  ·rw [fy hj']
   exact hg.snoc hT hT.length
  ·rw [<- gt,vD,dv]
   simp only [gx,qW,cX]
   refine hI.sub ?_
   simp only [aY,gx]
   rw [<- eI]
   exact (((dn _ _).cons_cons _).cons_cons _).cons_cons _ |>.cons_cons _
 ·have:j=c0.body.length:=by omega
  subst this
  rw [fM] at hg
  obtain ⟨va,vn,vc,hvk⟩:=hI.rowSlice 3 rfl
  have hv1:kvc.oneCell'=true:=by rw [hvk]; rfl
  have o1:kh.oneCell'=true:=hT1.one kh (by simp)
  refine az hI 2 be rfl rfl ?_
  refine aA hI 1 rfl be rfl rfl ?_ fun w' hI=>?_
  ·intro u hu
   have hu':u∈([.int .i64 c0.head.kind,.int .i64 c0.head.n,.string c0.head.name,kh,kvc]:List Value):=hu
   simp at hu'
   rcases hu' with rfl|rfl|rfl|rfl|rfl <;> first|rfl|exact o1|exact hv1
  refine bw hI 1 be rfl rfl ?_
  have hI:Inv w [] (aE kvc ab 4 css::bj (N::Ls).flatten) S w':=hI.sub (dz [_,_,_] _)
  have hI:Inv w [] ([aE kvc ab 4 css]++bj (N::Ls).flatten) S w':=hI
  obtain ⟨S1,hI,hE,hins⟩:=hI.pubExt
  rw [gx] at hins
  exact ⟨_,_,S1,rfl,hI,hE,_,kvc,css,rfl,hT1.rd hins.left,rfl,hg.rows hins.right fun _ _ _ hi h=>h.rd hi⟩
end
end
section
open Go Go.RowKit
section
variable {w0 w:World} {X:List Nat} {L:List Item} {S:ad} {P:Program} {K:Value->World->Prop}
attribute [local irreducible] Run CondV aq aK
theorem KO (h:Inv w0 X L S w) {T ty e:TypeId} {by_:Nat} {z v x:Value} {cs:List Bool} {css:List (List Value)} (i:Nat)
  (hT:lG P T=some (e,1,by_,z)) (hi:L[i]?=some (aE v e 1 css)) (hx:x.cells=#[x]) (h1:x.oneCell'=true) (hfit:css.length+1<=4294967296) (hby:by_<=32768)
  {K:Value->Value->World->Prop} (hk:∀ v' w',Inv w0 X (L.set i (aE v' e 1 (css++[[x]]))) S w'->K (.slice (some ⟨w.heap.size,0,none⟩) 1 1) v' w') :
  Run P (bF T 1 [(0,x)]) w fun u w'=>Run P (bH .append #[T,T] ty cs [v,u]) w' (K u):=by
 refine rj h hT (by rw [hx]; rfl) (by omega) (by omega) fun w' hI=>?_
 have hil:i<L.length:=(fu.1 hi).1
 refine dy hI i [x] hT (by omega) (by rw [vo hil]; exact hi) (by simp) (m:=1) (o:=0) ?_ (by simpa using h1) hfit hby fun v' w' hI=>?_
 ·intro j u hj
  rw [hI.cellL (i:=L.length) (by rw [gP (aM _),dY]; rfl)]
  rw [cZ,hx]
  simpa using hj
 ·refine hk _ _ ?_
  rw [<- eK]
  rw [Lp _ _ hil] at hI
  exact hI.sub (dn _ _)
end
end
section
open Go Go.RowKit
theorem we:∀ (f:Nat) (l:List T) (b:Bool) (out x:Bs),yM f l b out=some x->out.length<=x.length
 | _,[],_,out,x,h=>by simp only [yM,aT] at h; subst h; exact aM _
 | f,t::l,b,out,x,h=>by
  rw [yM] at h
  split at h
  ·cases h
  ·have:=we f _ _ _ _ h
   simp only [bh] at this
   omega
section
variable {S:ad}
attribute [local irreducible] Run CondV aq aK
theorem Hb {f:Nat} (hf:f<=100) {c:C} {cs:List Value} {x:Bs} (h:RdC S cs c) (hx:MS f c=some x) (hl:x.length<=1000000):Pure Tryz.prog KW [.agg cs.toArray] S (.string (st x)):=by
 intro w hI
 obtain ⟨hd,ks,rfl,h1,h2⟩:=h
 have h1':=h1
 obtain ⟨kv,rfl,_⟩:=RdT.iff.1 h1
 unfold MS at hx
 split at hx
 ·cases hx
 rename_i y hy
 split at hx
 ·cases hx
 rename_i z hz
 simp only [aT] at hx
 have hzx:z.length+1=x.length:=by rw [<- hx,bh]; rfl
 have hyz:=we _ _ _ _ _ hz
 have hb:c.body.length<=9223372036854775807:=by have:=h2.le; simpa [maxLen] using this
 refine za.2 ?_
 dsimp only[za,aG]
 refine bp hI fun b1 w' hI=>?_
 have hI:Inv w [] [.blk b1 (.cells #[.int .i64 c.head.kind,.int .i64 c.head.n,.string c.head.name,kv,ks] ag)] S w':=hI
 refine aC bZ ?_
 refine ey hI 0 [.int .i64 c.head.kind,.int .i64 c.head.n,.string c.head.name,kv] ac rfl rfl Jp ?_
 refine Run.callPure fC fF hI (DY hf _ y S _ hy (by omega) h1') fun w' hI=>?_
 refine ⟨fun a b w'=>∃ (j:Nat) (out:Bs),j<=c.body.length/\a=.int .i64 (j:Int)/\b=.string (st out)/\yM f (c.body.drop j) (decide (j=0)) out=some z/\Inv w [] [.blk b1 (.cells #[.int .i64 c.head.kind,.int .i64 c.head.n,.string c.head.name,kv,ks] ag)] S w',
  fun a _ _=>c.body.length - (intOf a).toNat,⟨0,y,aR _,rfl,rfl,hz,hI⟩,?_⟩
 intro t4 _ _ _ _ _ _ _ _ _ _ _ _ t3 _ _ _ _ _ _ _ _ _ w'
 rintro ⟨j,out,hj,rfl,rfl,hbf,hI⟩
 refine ae hI 0 rfl bo ao rfl ?_
 refine aF h2 ah ?_
 refine bL ?_
 refine aH (fun hji=>?_) (fun hji=>?_)
 ·have hj':j<c.body.length:=by omega
  rw [di hj',yM] at hbf
  split at hbf
  ·cases hbf
  rename_i u hu
  have hlen:=we _ _ _ _ _ hbf
  simp only [bh] at hlen
  obtain ⟨pre,hpre⟩:∃ pre:Bs,pre=if decide (j=0)=true then [58,45] else [44]:=⟨_,rfl⟩
  rw [<- hpre] at hbf hlen
  refine ⟨fun b w'=>b=.string (st (out++pre))/\Inv w [] [.blk b1 (.cells #[.int .i64 c.head.kind,.int .i64 c.head.n,.string c.head.name,kv,ks] ag)] S w',?_,?_⟩
  ·refine bl ?_
   refine aH (fun h0=>?_) (fun h0=>?_)
   ·rw [ai (aS (by omega))] at hpre
    subst hpre
    refine dx (b:=[58,45]) (by omega) ?_
    exact ⟨rfl,hI⟩
   ·rw [af (by rw [bC]; omega)] at hpre
    subst hpre
    refine dx (b:=[44]) (by omega) ?_
    exact ⟨rfl,hI⟩
  intro _ _ t3 _ _ _ _ w'
  rintro ⟨rfl,hI⟩
  refine ae hI 0 rfl bo ao rfl ?_
  refine cj hI h2 ah ac hj' (fun _ _=>RdT.length) fun es hes=>?_
  refine Run.callPure fC fF hI (DY hf _ u S _ hu (by omega) hes) fun w' hI=>?_
  refine dx (by rw [bh]; omega) ?_
  refine bn (by omega) ?_
  refine ⟨⟨j+1,out++pre++u,hj',rfl,rfl,?_,hI⟩,by simp only [intOf,dF]; omega⟩
  rw [bg (by omega)]
  exact hbf
 ·have:j=c.body.length:=by omega
  subst this
  rw [dP,yM] at hbf
  simp only [aT] at hbf
  subst hbf
  refine dx (b:=[46]) (by simp only [bk,bG]; omega) ?_
  exact done hI (by rw [<- hx])
theorem su {f:Nat} (hf:f<=100) {c:C} {cs:List Value} {x:Bs} (h:RdC S cs c) (hc:bX c=true) (hw:wC c<=1048576) (hx:MS f c=some x) (hl:x.length<=1000000):Pure Tryz.prog xu [.agg cs.toArray] S (.string (st x)):=by
 intro w hI
 have h0:=h
 obtain ⟨hd,ks,rfl,h1,h2⟩:=h
 obtain ⟨kv,rfl,_⟩:=RdT.iff.1 h1
 refine kV.2 ?_
 dsimp only[kV,aG]
 refine bp hI fun b1 w' hI=>?_
 refine az hI 0 be rfl rfl ?_
 refine Run.callPure l8 me hI (jU h0 hw) fun w' hI=>?_
 refine ct ?_
 rw [hc]
 refine aw (fun hb=>by cases hb) (fun _=>?_)
 refine az hI 0 be rfl rfl ?_
 refine Run.callPure Js Iv hI (Hb hf h0 hx hl) fun w' hI=>?_
 exact done hI rfl
theorem r8 {f k:Nat} {s:Bs} {i:Nat} {ts:List T} {n:Nat} (h:nh f k s i []=some (ts,n)) (hs:s.length<=100000) (hi:i<=s.length):Tri Tryz.prog Jr [.string (st s),.int .i64 (i:Int)] [] S (Q7 ts n):=by
 intro w hI
 refine uP.2 ?_
 dsimp only[uP,aO]
 refine d3 hI bA fun v0 w' hI=>?_
 refine ⟨fun a b w'=>∃ (k' i':Nat) (acc:List T) (S1:ad) (css:List (List Value)),a=.int .i64 (i':Int)/\i'<=s.length/\nh f k' s i' acc=some (ts,n)/\Ext w.heap.size [] S S1/\Rows 4 (RdT S1) css acc/\(∃ p m,b=.slice p acc.length m)/\Inv w [] [aE b ab 4 css] S1 w',
  fun a _ _=>s.length+1 - (intOf a).toNat,⟨k,i,[],S,[],rfl,hi,h,Ext.refl _ _ _,Rows.nil _ _,?_,hI⟩,?_⟩
 ·have hI2:Inv w [] ([]++[aE v0 ab 4 []]) S w':=hI
  obtain ⟨S1,_,hrd,_⟩:=Inv.lendExt hI2
  obtain ⟨p,m,e,_⟩:=RowRd.rows (Rows.nil 4 (RdT S)) hrd
  exact ⟨p,m,e⟩
 intro t1 _ _ _ _ _ _ _ _ t6 _ _ _ _ _ _ _ _ _ _ _ _ _ _ _ _ _ _ _ w'
 rintro ⟨k',i',acc,S1,css,rfl,hi2,hT,hE,hR,⟨p,m,rfl⟩,hI⟩
 have hcl:=hR.hc
 cases k' with
 | zero=>simp [nh] at hT
 | succ g=>
 rw [nh] at hT
 split at hT
 ·cases hT
 rename_i h6
 split at hT
 ·cases hT
 rename_i t n' hr
 have hle:=(gz f).1 _ _ _ _ _ _ hr
 refine gL ah ?_
 refine GN (by omega) ?_
 refine aw (fun _=>?_) (fun hb=>by cases hb)
 refine Run.call0E fD fN hI (Eg f s i' 30 3 t n' S1 hr hs hi2 (by omega) (by omega)) fun v I' S2 w'=>?_
 rintro ⟨rfl,cs,rfl,hcs⟩ hE2 hI
 have hR2:=hR.monoR fun _ _ h=>RdT.mono hE2.1 h
 obtain ⟨kv,rfl,_,_,_,a,q,rfl,_⟩:=RdT.iff.1 hcs
 refine al (v:=.agg _) rfl ?_
 refine al (v:=.int .i64 (n':Int)) rfl ?_
 refine aP hI aZ fun b13 w' hI=>?_
 refine aA hI 1 rfl ac rfl rfl (by simp [Value.oneCell']) fun w' hI=>?_
 refine eA (by omega) ?_
 refine aw (fun hb=>by cases hb) (fun _=>?_)
 refine az hI 1 ac rfl rfl ?_
 refine cM (css:=css) hI 0 _ bA (by omega) (by omega) rfl hcs.length hcs.one (by omega) (by omega) fun v' w' hI=>?_
 have hI:Inv w [] [aE v' ab 4 (css++[[.int .i64 t.kind,.int .i64 t.n,.string t.name,.slice a t.kids.length q]])] S2 w':=hI.pick [true,false]
 have hR3:=hR2.snoc hcs hcs.length
 have hI2:Inv w [] ([]++[aE v' ab 4 (css++[[.int .i64 t.kind,.int .i64 t.n,.string t.name,.slice a t.kids.length q]])]) S2 w':=hI
 obtain ⟨S3,hE3,hrd,hI3⟩:=Inv.lendExt hI2
 have hrs:=RowRd.rows (hR3.monoR fun _ _ h=>RdT.mono hE3.1 h) hrd
 refine Run.callPure cF cG hI (cu s n' 44 S2) fun w' hI=>?_
 refine ct ?_
 split at hT
 ·rename_i h44
  rw [h44]
  refine aw (fun hb=>by cases hb) (fun _=>?_)
  have:=ib h44
  refine eD (a:=n') (b:=1) rfl rfl (by omega) ?_
  obtain ⟨p',m',e',_⟩:=hrs
  refine ⟨⟨g,n'+1,acc++[t],S2,_,rfl,by omega,hT,hE.trans hE2,hR3,⟨p',m',e'⟩,hI⟩,?_⟩
  simp only [intOf,dF]
  omega
 ·rename_i h44
  rw [cq.2 h44]
  refine aw (fun _=>?_) (fun hb=>by cases hb)
  simp only [aT,cL] at hT
  obtain ⟨rfl,rfl⟩:=hT
  have hI2:Inv w [] ([]++[aE v' ab 4 (css++[[.int .i64 t.kind,.int .i64 t.n,.string t.name,.slice a t.kids.length q]])]) S2 w':=hI
  obtain ⟨S4,hE4,hrd,hI⟩:=Inv.lendExt hI2
  have hrs:=RowRd.rows (hR3.monoR fun _ _ h=>RdT.mono hE4.1 h) hrd
  exact ⟨_,[],S4,rfl,hI,(hE.trans hE2).trans hE4,rfl,_,rfl,hrs⟩
abbrev SQ (c:C) (b:Bool):Value->List Item->ad->Prop:=fun v I' S'=>I'=[]/\∃ cs,v=.tuple #[.agg cs.toArray,.bool b]/\RdC S' cs c
theorem tz {f:Nat} (hf:f<=100) {s:Bs} {c:C} (h:uA f s=some c):Tri Tryz.prog zk [.string (st s)] [] S (SQ c true):=by
 intro w hI
 refine mW.2 ?_
 dsimp only[mW,aG]
 unfold uA at h
 split at h
 ·cases h
 rename_i hs
 split at h
 ·cases h
 rename_i hd n hr
 have hle:=(gz f).1 _ _ _ _ _ _ hr
 have hfin:∃ b n2,c=⟨hd,b⟩/\NC f s c n2=some c/\((sgn s n 58=true/\sgn s (n+1) 45=true/\nh f 8 s (n+2) []=some (b,n2)) ∨ (¬ (sgn s n 58=true/\sgn s (n+1) 45=true)/\b=[]/\n2=n)):=by
  have hcc:∀ (c':C) (m:Nat),NC f s c' m=some c->c'=c:=fun c' m h=>by
   unfold NC at h
   split at h
   ·exact Bc h
   ·cases h
  split at h
  ·rename_i h58
   split at h
   ·cases h
   rename_i b n2 hg
   have e:=hcc _ _ h
   subst e
   exact ⟨b,n2,rfl,h,.inl ⟨h58.1,h58.2,hg⟩⟩
  ·rename_i h58
   have e:=hcc _ _ h
   subst e
   exact ⟨[],n,rfl,h,.inr ⟨h58,rfl,rfl⟩⟩
 clear h
 obtain ⟨b,n2,rfl,hfin,hcase⟩:=hfin
 unfold NC at hfin
 split at hfin
 case isFalse=>cases hfin
 rename_i hq
 obtain ⟨hq1,hq2,hq3,hq4,hq5⟩:=hq
 clear hfin
 refine aP hI dA fun b2 w' hI=>?_
 refine fh aJ ?_
 refine ku (by omega) ?_
 refine aw (fun hb=>by cases hb) (fun _=>?_)
 refine Run.call0E fD fN hI (Eg f s 0 30 3 hd n S hr (by omega) (by omega) (by omega) (by omega)) fun v I' S1 w'=>?_
 rintro ⟨rfl,cs,rfl,hcs⟩ hE1 hI
 obtain ⟨kv,rfl,_,_,_,a,q,rfl,_⟩:=RdT.iff.1 hcs
 refine al (v:=.agg _) rfl ?_
 refine al (v:=.int .i64 (n:Int)) rfl ?_
 refine aP hI aZ fun b4 w' hI=>?_
 refine aA hI 1 rfl ac rfl rfl (by simp [Value.oneCell']) fun w' hI=>?_
 refine eA (by omega) ?_
 refine aw (fun hb=>by cases hb) (fun _=>?_)
 refine az hI 1 ac rfl rfl ?_
 refine kS ?_
 refine aP hI dA fun b6 w' hI=>?_
 refine aA hI 2 rfl be rfl rfl (by simp [Value.oneCell']) fun w' hI=>?_
 obtain ⟨B2,hB2⟩:∃ B2,B2=Item.blk b2 (.cells #[.int .i64 0,.int .i64 0,.string ⟨#[]⟩,.slice none 0 0,.slice none 0 0] ag):=⟨_,rfl⟩
 obtain ⟨B4,hB4⟩:∃ B4,B4=Item.blk b4 (.cells #[.int .i64 hd.kind,.int .i64 hd.n,.string hd.name,.slice a hd.kids.length q] ab):=⟨_,rfl⟩
 have hI:Inv w [] [B2,B4,.blk b6 (.cells #[.int .i64 hd.kind,.int .i64 hd.n,.string hd.name,.slice a hd.kids.length q,.slice none 0 0] ag)] S1 w':=by rw [hB2,hB4]; exact hI
 refine ⟨fun v w'=>∃ (kb:Value) (S2:ad),v=.int .i64 (n2:Int)/\Ext w.heap.size [] S S2/\RdT S2 [.int .i64 hd.kind,.int .i64 hd.n,.string hd.name,.slice a hd.kids.length q] hd/\RdSl S2 4 (RdT S2) kb b/\
   Inv w [] [B2,B4,.blk b6 (.cells #[.int .i64 hd.kind,.int .i64 hd.n,.string hd.name,.slice a hd.kids.length q,kb] ag)] S2 w',?_,?_⟩
 ·refine ⟨fun v w'=>v=.bool (sgn s n 58 && sgn s (n+1) 45)/\Inv w [] [B2,B4,.blk b6 (.cells #[.int .i64 hd.kind,.int .i64 hd.n,.string hd.name,.slice a hd.kids.length q,.slice none 0 0] ag)] S1 w',?_,?_⟩
  ·refine Run.callPure cF cG hI (cu s n 58 S1) fun w' hI=>?_
   cases h58:sgn s n 58
   ·refine rpG ?_
    exact ⟨by rw [gJ],hI⟩
   ·refine rpG ?_
    refine eD (a:=n) (b:=1) rfl rfl (by omega) ?_
    refine Run.callPure cF cG hI (cu s (n+1) 45 S1) fun w' hI=>?_
    refine rpG ?_
    exact ⟨by rw [dU],hI⟩
  intro t29 _ _ _ _ _ _ _ _ w'
  rintro ⟨rfl,hI⟩
  rcases hcase with ⟨h1,h2,hg⟩|⟨h1,rfl,rfl⟩
  ·rw [h1,h2]
   refine aw (fun _=>?_) (fun hb=>by cases hb)
   have h3:=ib h2
   refine eD (a:=n) (b:=2) rfl rfl (by omega) ?_
   refine Run.call0E u4 uK hI (r8 hg (by omega) (by omega)) fun v I' S2 w'=>?_
   rintro ⟨rfl,u,rfl,hu⟩ hE2 hI
   obtain ⟨p,m,rfl,_⟩:=id hu
   refine al (v:=.slice p b.length m) rfl ?_
   refine al (v:=.int .i64 (n2:Int)) rfl ?_
   refine cT hI 2 rfl bo ao rfl rfl rfl fun w' hI=>?_
   exact ⟨_,S2,rfl,hE1.trans hE2,RdT.mono hE2.1 hcs,hu,hI⟩
  ·have e:(sgn s n2 58 && sgn s (n2+1) 45)=false:=by
    rw [cq,ne_eq,bN]; exact h1
   rw [e]
   refine aw (fun hb=>by cases hb) (fun _=>?_)
   exact ⟨_,S1,rfl,hE1,hcs,iL S1,hI⟩
 intro t5 _ _ _ _ _ _ _ _ _ _ _ _ _ _ _ _ _ w'
 rintro ⟨kb,S2,rfl,hE2,hhd,hb,hI⟩
 have hC:RdC S2 [.int .i64 hd.kind,.int .i64 hd.n,.string hd.name,.slice a hd.kids.length q,kb] ⟨hd,b⟩:=⟨[.int .i64 hd.kind,.int .i64 hd.n,.string hd.name,.slice a hd.kids.length q],kb,rfl,hhd,hb⟩
 refine ⟨fun v w'=>v=.bool false/\Inv w [] [B2,B4,.blk b6 (.cells #[.int .i64 hd.kind,.int .i64 hd.n,.string hd.name,.slice a hd.kids.length q,kb] ag)] S2 w',?_,?_⟩
 ·refine fh aJ ?_
  refine kY (by omega) ?_
  refine gV ?_
  rw [aS (show (n2:Int)=(s.length:Int) - 1 by omega)]
  refine bx (b:=false) ?_
  refine Run.callPure cF cG hI (cu s n2 46 S2) fun w' hI=>?_
  refine ct ?_
  rw [hq2]
  refine rm ?_
  refine bx (b:=false) ?_
  refine az hI 2 be rfl rfl ?_
  refine Run.callPure uo vr hI (su hf hC hq3 (by omega) hq5 (by omega)) fun w' hI=>?_
  refine LY ?_
  rw [aS rfl]
  refine rm ?_
  exact ⟨rfl,hI⟩
 intro t54 _ _ _ _ _ _ _ _ _ _ _ _ _ _ _ _ w'
 rintro ⟨rfl,hI⟩
 refine aw (fun hb=>by cases hb) (fun _=>?_)
 refine az hI 2 be rfl rfl ?_
 refine Run.call0E pn qM hI (vM hC (by omega)) fun v I' S3 w'=>?_
 rintro ⟨rfl,ds,M,rfl,rfl,hT⟩ hE3 hI
 obtain ⟨S4,hI,hE4,hins⟩:=hI.pubExt
 have hR4:=hT.rd hins
 have hl5:=hR4.length
 have h15:=hT.one
 subst hB2
 refine aA hI 0 rfl be (by simpa using hl5) rfl (by simpa using h15) fun w' hI=>?_
 refine bw hI 0 be rfl (by simpa using hl5) ?_
 exact ⟨_,[],S4,rfl,hI.nil,(hE2.trans hE3).trans hE4,rfl,_,rfl,hR4⟩
def R2 (cs:List Value) (l:Bs):Prop:=cs=[.string (st l)]
theorem GW (s:Bs) (c:Nat) (hs:s.length<=100000):Tri Tryz.prog JP [.string (st s),.int .u8 (c:Int)] [] S fun v I' S'=>I'=[]/\RdSl S' 1 R2 v (Dx s c s.length 0 0 []):=by
 intro w hI
 refine yy.2 ?_
 dsimp only[yy,aO]
 refine d3 hI Ae fun v0 w' hI=>?_
 obtain ⟨R,hR⟩:∃ R,R=Dx s c s.length 0 0 []:=⟨_,rfl⟩
 rw [<- hR]
 refine ⟨fun t u v w'=>∃ (i fr:Nat) (acc:List Bs) (css:List (List Value)),t=.int .i64 (i:Int)/\u=.int .i64 (fr:Int)/\acc.length<=i/\((i<=s.length/\fr<=i/\Dx s c (s.length - i) i fr acc=R) ∨ (i=s.length+1/\acc=R))/\Rows 1 R2 css acc/\Inv w [] [aE v fB 1 css] S w',
  fun t _ _ _=>s.length+2 - (intOf t).toNat,⟨0,0,[],[],rfl,rfl,aM _,.inl ⟨aR _,aM _,hR.symm⟩,Rows.nil _ _,hI⟩,?_⟩
 intro t7 _ _ t6 _ _ t5 _ _ _ _ _ _ _ _ _ _ _ _ _ _ _ _ _ _ _ _ _ _ w'
 rintro ⟨i,fr,acc,css,rfl,rfl,hal,hc,hRw,hI⟩
 have hcl:=hRw.hc
 refine fh aJ ?_
 refine eL ?_
 refine aH (fun hi=>?_) (fun hi=>?_)
 ·have hi':i<=s.length:=by omega
  obtain ⟨_,hfr,hcut⟩:i<=s.length/\fr<=i/\Dx s c (s.length - i) i fr acc=R:=by
   rcases hc with h|h
   ·exact h
   ·omega
  obtain ⟨br,hbr⟩:∃ br,br=(decide (i=s.length) || sgn s i c):=⟨_,rfl⟩
  refine ⟨fun u v w'=>∃ (fr':Nat) (acc':List Bs) (css':List (List Value)),u=.int .i64 (fr':Int)/\acc'.length<=i+1/\fr'<=i+1/\acc'=(if br=true then acc++[cut s fr i] else acc)/\fr'=(if br=true then i+1 else fr)/\Rows 1 R2 css' acc'/\Inv w [] [aE v fB 1 css'] S w',?_,?_⟩
  ·refine ⟨fun b w'=>b=.bool br/\Inv w [] [aE t5 fB 1 css] S w',?_,?_⟩
   ·refine fh aJ ?_
    by_cases he:i=s.length
    ·refine eW (by omega) ?_
     refine rpG ?_
     exact ⟨by rw [hbr,aS he,uV],hI⟩
    ·refine ei (by omega) ?_
     refine rpG ?_
     have hlt:i<s.length:=by omega
     refine dV aJ hlt ?_
     refine bl ?_
     refine rpG ?_
     refine ⟨?_,hI⟩
     rw [hbr,bg he,gc,j0 hlt]
     congr 1
     rw [fq]
     omega
   intro t25 _ _ _ _ _ _ _ _ _ _ w'
   rintro ⟨rfl,hI⟩
   refine aw (fun hb=>?_) (fun hb=>?_)
   ·refine AK aJ hfr hi' ?_
    refine KO (css:=css) hI 0 Ae rfl rfl rfl (by omega) (by omega) fun v' w' hI=>?_
    refine eD (a:=i) (b:=1) rfl rfl (by omega) ?_
    refine ⟨i+1,acc++[cut s fr i],_,rfl,by rw [bh]; simp only [bk,bG]; omega,aM _,by rw [ai hb],by rw [ai hb],hRw.snoc rfl rfl,hI⟩
   ·exact ⟨fr,acc,css,rfl,by omega,by omega,by rw [af (by rw [hb]; decide)],by rw [af (by rw [hb]; decide)],hRw,hI⟩
  intro t6 _ _ t5 _ _ _ _ _ _ _ _ _ _ _ _ _ _ _ _ _ _ w'
  rintro ⟨fr',acc',css',rfl,hal',hfr',hacc',hfe,hRw',hI⟩
  refine eD (a:=i) (b:=1) rfl rfl (by omega) ?_
  refine ⟨⟨i+1,fr',acc',css',rfl,rfl,hal',?_,hRw',hI⟩,by simp only [intOf,dF]; omega⟩
  by_cases he:i=s.length
  ·right
   refine ⟨by rw [he],?_⟩
   rw [he,dY,Dx,<- he] at hcut
   rw [hacc',ai (by rw [hbr,aS he,uV])]
   exact hcut
  ·left
   refine ⟨by omega,hfr',?_⟩
   rw [show s.length - i=(s.length - (i+1))+1 by omega,Dx] at hcut
   rw [hbr,bg he,gc] at hacc' hfe
   split at hcut
   ·rename_i hsg
    rw [ai hsg] at hacc' hfe
    rw [hacc',hfe]
    exact hcut
   ·rename_i hsg
    rw [af hsg] at hacc' hfe
    rw [hacc',hfe]
    exact hcut
 ·obtain ⟨_,rfl⟩:i=s.length+1/\acc=R:=by
   rcases hc with h|h
   ·omega
   ·exact h
  have hI2:Inv w [] ([]++[aE t5 fB 1 css]) S w':=hI
  obtain ⟨S1,hE1,hrd,hI⟩:=Inv.lendExt hI2
  exact ⟨_,[],S1,rfl,hI,hE1,rfl,RowRd.rows hRw hrd⟩
theorem Dh {f:Nat} {ls:List Bs} {i:Nat} (h:i<ls.length) (acc:List C):ko f (ls.drop i) acc=match uA f ls[i] with
  | none=>none
  | some c=>ko f (ls.drop (i+1)) (acc++[c]):=by
 rw [di h,ko]
 cases uA f ls[i] <;> rfl
theorem sz {f:Nat} (hf:f<=100) {s:Bs} {p:List C} (h:Mp f s=some p) (hs:s.length<=100000):Tri Tryz.prog mA [.string (st s)] [] S fun v I' S'=>∃ u css,v=.tuple #[u,.bool true]/\I'=[aE u ag 5 css]/\Rows 5 (RdC S') css p:=by
 intro w hI
 refine ly.2 ?_
 dsimp only[ly,aG]
 unfold Mp Pu at h
 refine d3 hI de fun v0 w' hI=>?_
 refine Run.call0E JN IE hI (GW s 10 hs) fun v I' S1 w'=>?_
 rintro ⟨rfl,hls⟩ hE1 hI
 have hI:Inv w [] [aE v0 ag 5 []] S1 w':=hI
 obtain ⟨ls,hlsd⟩:∃ ls,ls=Dx s 10 s.length 0 0 []:=⟨_,rfl⟩
 rw [<- hlsd] at hls h
 simp only [] at h
 split at h
 ·cases h
 rename_i hc
 simp only [not_or,ne_eq,Classical.not_not] at hc
 obtain ⟨hc1,hc2⟩:=hc
 have hl0:0<ls.length:=by
  cases ls with
  | nil=>simp at hc2
  | cons a l=>simp
 have hlast:ls[ls.length - 1]=[]:=by
  rw [List.getLast?_eq_getElem?,iR (by omega)] at hc2
  exact Bc hc2
 refine ⟨fun b w'=>b=.bool false/\Inv w [] [aE v0 ag 5 []] S1 w',?_,?_⟩
 ·refine aF hls bM ?_
  refine ku (by omega) ?_
  refine rpG ?_
  refine aF hls bM ?_
  refine BW (a:=ls.length) (b:=1) rfl rfl (by omega) (by omega) ?_
  have hlt:ls.length - 1<ls.length:=by omega
  obtain ⟨b,o,cap,c,E,fz,hv,hS,hR⟩:=hls.at_ hlt
  subst hv
  refine aD bM hlt ?_
  refine cA aN ((hI.cellS hS).trans (aL hR 0 _ rfl)) ?_
  refine LY (b:=[]) ?_
  rw [aS hlast]
  refine rpG ?_
  exact ⟨rfl,hI⟩
 intro t23 _ _ _ _ _ _ _ _ _ _ _ w'
 rintro ⟨rfl,hI⟩
 refine aw (fun hb=>by cases hb) (fun _=>?_)
 refine ⟨fun a b w'=>∃ (i:Nat) (acc:List C) (S2:ad) (css:List (List Value)),a=.int .i64 (i:Int)/\i+1<=ls.length/\acc.length=i/\ko f (ls.dropLast.drop i) acc=some p/\Sle S1 S2/\Ext w.heap.size [] S S2/\Rows 5 (RdC S2) css acc/\Inv w [] [aE b ag 5 css] S2 w',
  fun a _ _=>ls.length - (intOf a).toNat,⟨0,[],S1,[],rfl,by omega,rfl,h,Sle.refl _,hE1,Rows.nil _ _,hI⟩,?_⟩
 intro t6 _ _ t4 _ _ _ _ _ _ _ _ _ _ _ _ _ _ _ _ _ _ _ _ _ _ _ _ w'
 rintro ⟨i,acc,S2,css,rfl,hi,hal,hcl,hle2,hE2,hR,hI⟩
 have hcs:=hR.hc
 refine eD (a:=i) (b:=1) rfl rfl (by omega) ?_
 refine aF hls bM ?_
 refine bL ?_
 have hdl:ls.dropLast.length=ls.length - 1:=List.length_dropLast
 refine aH (fun hlt=>?_) (fun hge=>?_)
 ·have hi':i<ls.length:=by omega
  have hi2:i<ls.dropLast.length:=by omega
  rw [Dh hi2] at hcl
  have eg:ls.dropLast[i]=ls[i]:=List.getElem_dropLast _
  rw [eg] at hcl
  obtain ⟨b,o,cap,c,E,fz,hv,hS,hRr⟩:=hls.at_ hi'
  subst hv
  split at hcl
  ·cases hcl
  rename_i cl hclf
  refine aD bM hi' ?_
  refine cA aN ((hI.cellS (hle2 _ _ hS)).trans (aL hRr 0 _ rfl)) ?_
  refine Run.call0E wV wv hI (tz hf hclf) fun v I' S3 w'=>?_
  rintro ⟨rfl,ds,rfl,hds⟩ hE3 hI
  have hl5:=hds.length
  have hR3:=hR.monoR fun _ _ h=>RdC.mono hE3.1 h
  refine al (v:=.agg ds.toArray) rfl ?_
  refine al (v:=.bool true) rfl ?_
  refine aP hI dA fun b7 w' hI=>?_
  refine aA hI 1 rfl be (by simpa using hl5) rfl (by simpa using hds.one) fun w' hI=>?_
  refine ct ?_
  refine aw (fun hb=>by cases hb) (fun _=>?_)
  refine az hI 1 be rfl (by simpa using hl5) ?_
  refine cM (css:=css) hI 0 _ de (by omega) (by omega) rfl hl5 hds.one (by omega) (by omega) fun v' w' hI=>?_
  have hI:Inv w [] [aE v' ag 5 (css++[ds])] S3 w':=hI.pick [true,false]
  refine eD (a:=i) (b:=1) rfl rfl (by omega) ?_
  exact ⟨⟨i+1,acc++[cl],S3,_,rfl,by omega,by rw [bh,hal]; rfl,hcl,hle2.trans hE3.1,hE2.trans hE3,hR3.snoc hds hl5,hI⟩,by simp only [intOf,dF]; omega⟩
 ·have hi2:ls.dropLast.length<=i:=by omega
  rw [tM hi2,ko] at hcl
  simp only [aT] at hcl
  subst hcl
  exact ⟨_,_,S2,rfl,hI,hE2,_,css,rfl,rfl,hR⟩
end
end
section
open Go Go.RowKit
theorem Qp {b:Bool} {n:Nat} (h:b=decide (1<=n)) (h':b=false):n=0:=by
 rw [h',eq_comm,lM] at h; omega
theorem wj {a b:Bool} {k n:Nat} (h:a=decide (k<=n)) (ha:a=true) (h':b=decide (k+1<=n)) (hb:b=false):n=k:=by
 rw [ha,eq_comm,decide_eq_true_iff] at h
 rw [hb,eq_comm,lM] at h'
 omega
theorem P0 {b:Bool} {n m:Nat} (hl:n<=m) (h:b=decide (m<=n)) (hb:b=true):n=m:=by
 rw [hb,eq_comm,decide_eq_true_iff] at h; omega
theorem Qn {b l:Bool} {n m:Nat} (h:b=decide (m<=n)) (k:b=true->l=true) (hl:l=false):n<m:=by
 cases b
 ·rw [eq_comm,lM] at h; omega
 ·rw [k rfl] at hl; cases hl
def OY:List (Nat × Value)->List ByteArray
 | (_,.string s)::l=>s::OY l
 | _=>[]
def Pz:List (Nat × Value)->List Int
 | (_,.int _ n)::l=>n::Pz l
 | _=>[]
theorem OG {α:Type} {f:α->Value} (l:List α) {i:Nat} (hi:i<l.length):ba (l.map f).toArray i 1=[f l[i]]:=by
 rw [ba,di (by simpa using hi)]
 simp
theorem RdSl.monoU {S S':ad} {v:Value} {ys:List Nat} (hs:Sle S S') (h:RdSl S 1 jB v ys):RdSl S' 1 jB v ys:=h.mono hs fun _ _ h=>h
theorem RdSl.monoS {S S':ad} {v:Value} {ys:List ByteArray} (hs:Sle S S') (h:RdSl S 1 oP v ys):RdSl S' 1 oP v ys:=h.mono hs fun _ _ h=>h
theorem R4 {S:ad} {b:Nat} {E:TypeId} {cs:List Value} {t:T} (hS:S b=some (.cells cs.toArray E)) (h:RdT S cs t):RdSl S 4 (RdT S) (.slice (some ⟨b,0,none⟩) 1 1) [t]:=by
 refine ⟨_,1,rfl,aM _,by simp [maxLen],.inr ⟨b,0,_,E,(0,0),rfl,hS,fun i hi=>?_⟩⟩
 match i,hi with
 | 0,_=>
  have e:ba cs.toArray (0+0 * 4) 4=cs:=by
   rw [ba]
   simpa using Fe (Gn h.length)
  rw [e]
  exact h
section
variable {w0 w:World} {X:List Nat} {L A:List Item} {S:ad} {K:Value->World->Prop}
attribute [local irreducible] Run CondV aq aK
theorem Inv.last (h:Inv w0 X L S w) (i:Nat) {it:Item} (hi:L[i]?=some it):Inv w0 X (L.eraseIdx i++[it]) S w:=by
 refine h.perm ?_
 obtain ⟨h1,_⟩:=rl hi it
 rw [OZ]
 conv=>rhs; rw [h1]
 rw [eI]
 exact uI _ co
theorem eX {n:Nat} {ps:List (Nat × Value)} (h:Inv w0 X L S w)
  (hr:(bF wk n ps).run Tryz.prog w=.ok (.value (.slice (some ⟨w.heap.size,0,none⟩) n n)) { w with heap:=w.heap.push (.cells ((OY ps).map Value.string).toArray fB) })
  (hn:(OY ps).length=n) (hm:n<=1000) (hk:∀ v S1 w',Ext w0.heap.size X S S1->RdSl S1 1 oP v (OY ps)->Inv w0 X L S1 w'->K v w'):Run Tryz.prog (bF wk n ps) w K:=by
 refine qD (v:=fun b=>.slice (some ⟨b,0,none⟩) n n) (o:=.cells ((OY ps).map Value.string).toArray fB) h hr fun b w' hI=>?_
 obtain ⟨S1,hI,hE,hS⟩:=hI.pub1
 refine hk _ S1 w' hE ?_ hI
 exact RdSl.ofCells hS hn (by simp only [maxLen]; omega) fun i hi=>OG _ hi
theorem Ay {n:Nat} {ps:List (Nat × Value)} (h:Inv w0 X L S w)
  (hr:(bF pV n ps).run Tryz.prog w=.ok (.value (.slice (some ⟨w.heap.size,0,none⟩) n n)) { w with heap:=w.heap.push (.cells ((Pz ps).map (Value.int .i64)).toArray b0) })
  (hn:(Pz ps).length=n) (hm:n<=1000) (hk:∀ v S1 w',Ext w0.heap.size X S S1->RdSl S1 1 l4 v (Pz ps)->Inv w0 X L S1 w'->K v w'):Run Tryz.prog (bF pV n ps) w K:=by
 refine qD (v:=fun b=>.slice (some ⟨b,0,none⟩) n n) (o:=.cells ((Pz ps).map (Value.int .i64)).toArray b0) h hr fun b w' hI=>?_
 obtain ⟨S1,hI,hE,hS⟩:=hI.pub1
 refine hk _ S1 w' hE ?_ hI
 exact RdSl.ofCells hS hn (by simp only [maxLen]; omega) fun i hi=>OG _ hi
def pS (Q:Prop) (R:Nat->Prop):Nat->Prop
 | 0=>Q
 | n+1=>R n
def zK (w0:World) (X:List Nat) (b:Nat) (c:Array Value) (d:Nat) (E:TypeId) (kv:Value) (css:List (List Value)) (A:Nat->List Item) (Q:List Value->Nat->ad->Prop) (xv xs xa:Value) (w':World):Nat->Prop
 | 0=>∃ p1 S1 cs,Q cs p1 S1/\(cs.length=4/\∀ u∈cs,u.oneCell'=true)/\xv=.agg cs.toArray/\Inv w0 X (.blk b (.cells c E)::aE kv ab 4 css::A p1) S1 w'
 | 1=>∃ p1 S1 cs b8,Q cs p1 S1/\(cs.length=4/\∀ u∈cs,u.oneCell'=true)/\xs=.slice (some ⟨b8,0,none⟩) 1 1/\Inv w0 X (.blk b (.cells c E)::aE kv ab 4 css::(A p1++[.blk b8 (.cells cs.toArray ab)])) S1 w'
 | 2=>∃ p1 S1 cs,Q cs p1 S1/\(cs.length=4/\∀ u∈cs,u.oneCell'=true)/\Inv w0 X (.blk b (.cells c E)::aE xa ab 4 (css++[cs])::A p1) S1 w'
 | 3=>∃ p1 S1 cs,Q cs p1 S1/\(cs.length=4/\∀ u∈cs,u.oneCell'=true)/\Inv w0 X (.blk b (.cells (c.setIfInBounds d xa) E)::aE xa ab 4 (css++[cs])::A p1) S1 w'
 | _=>False
variable {b d:Nat} {c:Array Value} {E:TypeId} {kv:Value} {css:List (List Value)} {F:Nat->List Item} {Q:List Value->Nat->ad->Prop} {xv xs xa:Value}
theorem FB {n:Nat} (h:zK w0 X b c d E kv css F Q xv xs xa w n) (hn:n<3):w.cell? ⟨b,d,none⟩=c[d]?:=by
 rcases n with _|_|_|n
 ·obtain ⟨p1,S1,cs,_,_,_,hI⟩:=h
  exact hI.cellL (i:=0) rfl
 ·obtain ⟨p1,S1,cs,b8,_,_,_,hI⟩:=h
  exact hI.cellL (i:=0) rfl
 ·obtain ⟨p1,S1,cs,_,_,hI⟩:=h
  exact hI.cellL (i:=0) rfl
 ·omega
theorem ap1 {B:Prop} (h:pS B (zK w0 X b c d E kv css F Q xv xs xa w) 1) (hk:∀ u w',pS B (zK w0 X b c d E kv css F Q xv u xa w') 2->K u w'):Run Tryz.prog (bF tY 1 [(0,xv)]) w K:=by
 obtain ⟨p1,S1,cs,hQ,hl,rfl,hI⟩:=h
 refine d6 hI bA (by simp [Value.cells,hl.1]) (by omega) (by omega) fun b8 w' hI=>?_
 exact hk _ _ ⟨p1,S1,cs,b8,hQ,hl,rfl,hI⟩
theorem ap2 {B:Prop} {ty:TypeId} {bs:List Bool} (h:pS B (zK w0 X b c d E kv css F Q xv xs xa w) 2) (hfit:css.length<=1000000) (hk:∀ u w',pS B (zK w0 X b c d E kv css F Q xv xs u w') 3->K u w'):Run Tryz.prog (bH .append #[tY,tY] ty bs [kv,xs]) w K:=by
 obtain ⟨p1,S1,cs,b8,hQ,hl,rfl,hI⟩:=h
 have hblk:(Item.blk b (.cells c E)::aE kv ab 4 css::(F p1++[.blk b8 (.cells cs.toArray ab)]))[(F p1).length+1+1]?=some (.blk b8 (.cells cs.toArray ab)):=by
  rw [lx,lx,gP (aM _),dY]; rfl
 refine dy hI 1 cs bA (by omega) rfl (by rw [hl.1]) (m:=1) (o:=0) ?_ hl.2 (by omega) (by omega) fun v' w_ hI=>?_
 ·intro i u hi
  rw [hI.cellL hblk,cZ]
  simpa using hi
 rw [eK] at hI
 refine hk _ _ ⟨p1,S1,cs,hQ,hl,?_⟩
 exact hI.sub (((dn _ _).cons_cons _).cons_cons _)
theorem ap3 {B:Prop} {ty:TypeId} (h:pS B (zK w0 X b c d E kv css F Q xv xs xa w) 3) (hd:d<c.size) {K:Value->World->Prop} (hk:∀ w',pS B (zK w0 X b c d E kv css F Q xv xs xa w') 4->K undef w'):Run Tryz.prog (sOp (.store tY (.const (.pointer (some ⟨b,d,none⟩))) (.const xa)) ty) w K:=by
 obtain ⟨p1,S1,cs,hQ,hl,hI⟩:=h
 obtain ⟨va,vn,vc,hv9⟩:=Inv.rowSlice hI 1 rfl
 refine df hI 0 (n:=1) (by rw [hv9]; rfl) (by decide +kernel) rfl (by omega) (by rw [hv9]; simp [Value.cells,Value.oneCell']) fun w_ hI=>?_
 have hcl9:Value.cells xa=#[xa]:=by rw [hv9]; rfl
 have e:bR c d (Value.cells xa).toList=c.setIfInBounds d xa:=by
  rw [hcl9]
  apply Bk.1
  simp only [bR,Rv]
  have hl:d<c.toList.length:=by simpa using hd
  rw [AH,ai hl]
  simp
 rw [e] at hI
 exact hk _ ⟨p1,S1,cs,hQ,hl,hI⟩
end
abbrev dW (d:Nat):Nat:=6 * 3 ^ d
theorem Oq (d:Nat):6<=dW d:=by
 have:0<3 ^ d:=Nat.pow_pos (by omega)
 simp only [dW]; omega
theorem P2 (d:Nat):dW (d+1)=3 * dW d:=by simp only [dW,Nat.pow_succ]; omega
abbrev R6 (br:Nat) (sl:Value) (p d:Nat):Value->List Item->ad->Prop:=fun v I' S'=>∃ p',p'+2<=p+dW d/\I'=[rdI br sl p']/\∃ cs t,v=.agg cs.toArray/\RdT S' cs t/\wT t+3<=dW d/\okU 26 t
end
end Go.Proofs.YtcpgagfdeflbkaaGreatDoor
