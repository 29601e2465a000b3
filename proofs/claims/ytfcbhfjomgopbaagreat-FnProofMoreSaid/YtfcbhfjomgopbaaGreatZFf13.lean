/- spec.l6Try. -/
import Derived.Test.YtfcbhfjomgopbaaGreatZFf12
namespace Go.Proofs.YtfcbhfjomgopbaaGreat
section
open Go Go.RowKit
def tmC (w0:World) (X:List Nat) (A:List Item) (S:ae) (N m:Nat) (b st:aC) (mt jL gX ij wM:Value) (w':World):Nat->Prop
 | 0=>Inv w0 X A S w'
 | 1=>Inv w0 X (A++[aL mt ab 4 []]) S w'
 | 2=>∃ css,Rows 4 (RdO S) css b/\Inv w0 X (A++[aL jL ab 4 css]) S w'
 | 3=>gX=.int .i64 (m:Int)/\∃ css,Rows 4 (RdO S) css b/\Inv w0 X (A++[aL jL ab 4 css]) S w'
 | 4=>∃ g cap cur,ij=kvU g N cap/\N<=cap/\cap<=maxLen/\KnU S cur st/\Inv w0 X (A++[.blk g (.cells cur ab)]) S w'
 | _=>∃ g cap cur,wM=kvU g N cap/\N<=cap/\cap<=maxLen/\KnU S cur st/\Inv w0 X (A++[.blk g (.cells cur ab)]) S w'
theorem tmC.inv {w0 w':World} {X:List Nat} {A:List Item} {S:ae} {N m:Nat} {b st:aC} {mt jL gX ij wM:Value}:∀ {n:Nat},tmC w0 X A S N m b st mt jL gX ij wM w' n->∃ R,Inv w0 X (A++R) S w'
 | 0,h=>⟨[],by rw [List.append_nil]; exact h⟩
 | 1,h=>⟨_,h⟩
 | 2,⟨_,_,h⟩=>⟨_,h⟩
 | 3,⟨_,_,_,h⟩=>⟨_,h⟩
 | 4,⟨_,_,_,_,_,_,_,h⟩=>⟨_,h⟩
 | _+5,⟨_,_,_,_,_,_,_,h⟩=>⟨_,h⟩
def unC (w0:World) (X:List Nat) (A:List Item) (S:ae) (g:Nat) (cur:Array Value) (st:aC) (t:T) (r:Bool) (kw jK:Value) (w':World):Nat->Prop
 | 0=>Inv w0 X (A++[.blk g (.cells cur ab)]) S w'
 | 1=>∃ S1 cs,kw=.agg cs.toArray/\Ext w0.heap.size X S S1/\RdT S1 cs t/\Inv w0 X (A++[.blk g (.cells cur ab)]) S1 w'
 | _=>jK=.bool r/\∃ S1 cur',Ext w0.heap.size X S S1/\KnU S1 cur' st/\Inv w0 X (A++[.blk g (.cells cur' ab)]) S1 w'
theorem unC.inv {w0 w':World} {X:List Nat} {A:List Item} {S:ae} {g:Nat} {cur:Array Value} {st:aC} {t:T} {r:Bool} {kw jK:Value}:∀ {n:Nat},unC w0 X A S g cur st t r kw jK w' n->∃ R S1,Inv w0 X (A++R) S1 w'
 | 0,h=>⟨_,_,h⟩
 | 1,⟨_,_,_,_,_,h⟩=>⟨_,_,h⟩
 | _+2,⟨_,_,_,_,_,h⟩=>⟨_,_,h⟩
abbrev zSt:Array Value:=#[.slice none 0 0,.slice none 0 0,.slice none 0 0]
abbrev zCh:Array Value:=#[.int .i64 0,.int .i64 0,.string ⟨#[]⟩,.slice none 0 0,.slice none 0 0,.slice none 0 0,.slice none 0 0]
def Rc (s:St6) (o:Option St6):Value->List Item->ae->Prop:=fun q I' S'=>I'=[]/\∃ cs:List Value,q=.tuple #[.agg cs.toArray,.bool o.isSome]/\RdS6 S' cs (o.getD s)
section
attribute [local irreducible] Run CondV aB aS
set_option maxHeartbeats 4000000 in
theorem Ib {p:List C} (hp:∀ cl∈p,vM cl) {k:Nat} (hk:k<=1000) {c:Ch} (hc:km c) (hr:okRk k c) {s:St6} {o:Option St6} (h:TryL p s.chs c c.left o) (hn:s.chs.length<=1000)
  {S:ae} {u:Value} {ss cs:List Value} (hP:RdSl S 5 (RdC S) u p) (hs:RdS6 S ss s) (hcc:RdCh S cs c):Tri Tryz.prog Nf [u,.agg ss.toArray,.agg cs.toArray] [] S (Rc s o):=by
 intro w hI
 obtain ⟨gs,sb,sc,rfl,hsg,hsb,hsc⟩:=id hs
 obtain ⟨sca,scc,rfl,_⟩:=id hsc
 obtain ⟨hd,rv,lv,bv,rfl,hgo,hre,hle,hbi⟩:=id hcc
 obtain ⟨ra,rc,rfl,_⟩:=id hre
 obtain ⟨ba,bc,rfl,_⟩:=id hbi
 have hgo0:=hgo
 obtain ⟨kv,rfl,_⟩:=RdT.iff.1 hgo
 have hlb:=hbi.le
 have hll:=hle.le
 have hlr:=hre.le
 simp only [maxLen] at hlb hll hlr
 have hnb:=hr.nb
 have hnr:=hr.nr
 have hpos:=hr.pos
 refine Cm.2 ?_
 dsimp only[Cm,cX]
 refine be hI fun b4 w' hI=>?_
 refine be hI fun b5 w' hI=>?_
 refine aG hI fR fun b6 w' hI=>?_
 obtain ⟨B4,hB4⟩:∃ B:Item,B=.blk b4 (.cells #[gs,sb,.slice sca s.chs.length scc] bK):=⟨_,rfl⟩
 obtain ⟨B5,hB5⟩:∃ B:Item,B=.blk b5 (.cells #[.int .i64 c.goal.kind,.int .i64 c.goal.n,.string c.goal.name,kv,.slice ra c.rest.length rc,lv,.slice ba c.binds.length bc] cq):=⟨_,rfl⟩
 obtain ⟨B6,hB6⟩:∃ B:Item,B=.blk b6 (.cells zSt bK):=⟨_,rfl⟩
 have e4:=congrArg some hB4
 have e5:=congrArg some hB5
 have e6:=congrArg some hB6
 have hI:Inv w [] [B4,B5,B6] S w':=by rw [hB4,hB5,hB6]; exact hI
 refine ⟨fun i w'=>∃ (j:Nat) (S1:ae),j<=c.left.length/\i=.int .i64 j/\TryL p s.chs c (c.left.drop j) o/\Ext w.heap.size [] S S1/\Inv w [] [B4,B5,B6] S1 w',
  fun i _=>c.left.length - (intOf i).toNat,⟨0,S,Nat.zero_le _,rfl,h,Ext.refl _ _ _,hI⟩,?_⟩
 intro t8 _ _ _ _ t88 t87 t86 t85 t84 t83 t82 t81 t14 t80 t79 t78 t77 t76 t75 t74 t73 t72 t71 t70 t69 _ _ _ _ _ _ t13 t62 t61 t60 t59 t58 t57 t56 t55 t54 t53 t52 _ _ _ _ t48 t47 t46 t45 t44 t43 t42 t41 t40 t11 t39 t38 t37 t36 t35 t34 t33 _ _ _ _ _ _ _ _ _ _ _ _ _ _ _ _ _ _ w'
 rintro ⟨j,S1,hj,rfl,hT,hE,hI⟩
 refine ad hI 1 e5 dk eG rfl ?_
 refine aD hle cQ ?_
 refine bA ?_
 refine aI (fun hji=>?_) (fun hji=>?_)
 ·have hj':j<c.left.length:=by omega
  rw [List.drop_eq_getElem_cons hj'] at hT
  obtain ⟨n,cl,r,st,hxi,hcl,hu,hcase⟩:=hT.inv
  have hnp:n<p.length:=(List.getElem?_eq_some_iff.1 hcl).1
  have hpc:p[n]=cl:=(List.getElem?_eq_some_iff.1 hcl).2
  have hm:=hp cl (List.mem_of_getElem? hcl)
  obtain ⟨m,hme⟩:∃ m:Nat,i0 cl=m:=⟨(i0 cl).toNat,by have:=(xP (de (cl.head::cl.body) []) 0).1; rw [<- i0] at this; omega⟩
  have hfr:=hm.fr
  have hln:=hm.ln
  have hjo:=Ar hc hm.cf
  have hgn:=qT hc cl
  rw [hme,Int.toNat_natCast] at hjo hgn
  obtain ⟨hg,_⟩:=hu.good hgn hjo
  have hgl:=hg.len
  refine ad hI 1 e5 dk eG rfl ?_
  refine fy (u:=.int .i64 (n:Int)) hI (hle.mono hE.1 fun _ _ h=>h) cQ aw hj' (fun cs hcs=>by rw [<- hxi]; exact hcs) ?_
  refine ch hI (hP.monoC hE.1) bz bl hnp (fun _ _=>RdC.length) fun ds hds=>?_
  rw [hpc] at hds
  have hds0:=hds
  obtain ⟨kv1,kb1,rfl,hh,hb⟩:=hds.cells
  obtain ⟨kba,kbc,rfl,_⟩:=id hb
  refine aG hI dB fun b9 w' hI=>?_
  have hI:Inv w [] [B4,B5,B6,.blk b9 (.cells #[.int .i64 0,.int .i64 0,.string ⟨#[]⟩,.slice none 0 0,.slice none 0 0] av)] S1 w':=hI
  refine ao hI 3 rfl bl rfl rfl (by simpa using hds.one) fun w' hI=>?_
  obtain ⟨B9,hB9⟩:∃ B:Item,B=.blk b9 (.cells #[.int .i64 cl.head.kind,.int .i64 cl.head.n,.string cl.head.name,kv1,.slice kba cl.body.length kbc] av):=⟨_,rfl⟩
  have e9:=congrArg some hB9
  have hI:Inv w [] [B4,B5,B6,B9] S1 w':=by rw [hB9]; exact hI
  refine ad hI 1 e5 lr ag rfl ?_
  refine dX af ?_
  have hbi1:=hbi.monoO hE.1
  refine ⟨fun D wM ij gX nL jL kz pz mt w_=>Fx D 0 [True,pz=.pointer (some ⟨b5,6,none⟩),kz=.slice ba c.binds.length bc,True,nL=.agg #[.int .i64 cl.head.kind,.int .i64 cl.head.n,.string cl.head.name,kv1,.slice kba cl.body.length kbc],True,True,True]/\∃ n_:Nat,n_<=5/\D 0=decide (1<=n_)/\D 3=decide (2<=n_)/\D 5=decide (3<=n_)/\D 6=decide (4<=n_)/\D 7=decide (5<=n_)/\(tmC w [] [B4,B5,B6,B9] S1 (c.binds.length+m) m c.binds (zO c.binds cl) mt jL gX ij wM w_ n_),⟨Fx.nil _ _,⟨0,Nat.zero_le _,rfl,rfl,rfl,rfl,rfl,hI.draw⟩⟩,⟨?_,?_,?_,?_,?_,?_,?_,?_,trivial⟩,?_⟩
  all_goals (intro D bo; intros; rename_i wM ij gX nL jL kz pz mt w_ hA_; have hF_:=hA_.1; obtain ⟨⟨bU,bV,bH,bR,bZ,bI,bB,ct,_⟩,⟨n_,ln_,e1_,e2_,e3_,e4_,e5_,hS⟩⟩:=hA_)
  ·obtain rfl:n_=0:=tY e1_ bo
   refine dE hS bm fun v w_ hI=>?_
   have hS:tmC w [] [B4,B5,B6,B9] S1 (c.binds.length+m) m c.binds (zO c.binds cl) v jL gX ij wM w_ 1:=hI
   exact ⟨hF_.set 0 (by first|assumption|trivial),⟨1,by decide,rfl,(by first|exact e2_|rfl),(by first|exact e3_|rfl),(by first|exact e4_|rfl),(by first|exact e5_|rfl),hS⟩⟩
  ·refine ai lr ?_
   exact ⟨hF_.set 1 rfl,⟨n_,ln_,e1_,e2_,e3_,e4_,e5_,hS⟩⟩
  ·obtain rfl:=bV ‹_›
   obtain ⟨R,hI⟩:=hS.inv; refine aA hI 1 ag e5 rfl ?_
   exact ⟨hF_.set 2 rfl,⟨n_,ln_,e1_,e2_,e3_,e4_,e5_,hS⟩⟩
  ·have SR:=bU ‹_›
   obtain rfl:=bH ‹_›
   obtain rfl:n_=1:=fL e1_ ‹D 0=true› e2_ bo
   refine ed (css:=[]) hS 4 bm (by omega) rfl hbi1 (fun _ _=>RdO.length) (fun _ _=>RdO.one) (by simp; omega) (by omega) fun v w_ css hR hI=>?_
   have hS:tmC w [] [B4,B5,B6,B9] S1 (c.binds.length+m) m c.binds (zO c.binds cl) mt v gX ij wM w_ 2:=⟨css,hR,hI⟩
   exact ⟨hF_.set 3 (by first|assumption|trivial),⟨2,by decide,(by first|exact e1_|rfl),rfl,(by first|exact e3_|rfl),(by first|exact e4_|rfl),(by first|exact e5_|rfl),hS⟩⟩
  ·obtain ⟨R,hI⟩:=hS.inv; refine aq hI 3 bl e9 rfl ?_
   exact ⟨hF_.set 4 rfl,⟨n_,ln_,e1_,e2_,e3_,e4_,e5_,hS⟩⟩
  ·obtain rfl:=bZ ‹_›
   obtain rfl:n_=2:=fL e2_ ‹D 3=true› e3_ bo
   obtain ⟨css,hR,hI⟩:=hS
   refine Run.callPure GH GL hI (CO hds0 hm.w hm.vs) fun w_ hI=>?_
   rw [hme]
   have hS:tmC w [] [B4,B5,B6,B9] S1 (c.binds.length+m) m c.binds (zO c.binds cl) mt jL (.int .i64 (m:Int)) ij wM w_ 3:=⟨rfl,css,hR,hI⟩
   exact ⟨hF_.set 5 (by first|assumption|trivial),⟨3,by decide,(by first|exact e1_|rfl),(by first|exact e2_|rfl),rfl,(by first|exact e4_|rfl),(by first|exact e5_|rfl),hS⟩⟩
  ·have JJ:=bR ‹_›
   have Mw:=bI ‹_›
   obtain rfl:n_=3:=fL e3_ ‹D 5=true› e4_ bo
   obtain ⟨rfl,css,hR,hI⟩:=hS
   refine K0 hI hR hpos bm rfl (U:=cD) (by kernel_rfl) (by omega) (by omega) fun g cap cur w_ q1 q2 hkn hI=>?_
   have hS:tmC w [] [B4,B5,B6,B9] S1 (c.binds.length+m) m c.binds (zO c.binds cl) mt jL (.int .i64 (m:Int)) (kvU g (c.binds.length+m) cap) wM w_ 4:=⟨g,cap,cur,rfl,q1,q2,by rw [zO,hme,Int.toNat_natCast]; exact hkn,hI⟩
   exact ⟨hF_.set 6 (by first|assumption|trivial),⟨4,by decide,(by first|exact e1_|rfl),(by first|exact e2_|rfl),(by first|exact e3_|rfl),rfl,(by first|exact e5_|rfl),hS⟩⟩
  ·have Mh:=bB ‹_›
   obtain rfl:n_=4:=fL e4_ ‹D 6=true› e5_ bo
   have hS:tmC w [] [B4,B5,B6,B9] S1 (c.binds.length+m) m c.binds (zO c.binds cl) mt jL gX ij ij w_ 5:=hS
   exact ⟨hF_.set 7 (by first|assumption|trivial),⟨5,by decide,(by first|exact e1_|rfl),(by first|exact e2_|rfl),(by first|exact e3_|rfl),(by first|exact e4_|rfl),rfl,hS⟩⟩
  obtain rfl:n_=5:=lx ln_ e5_ ‹D 7=true›
  clear e1_ e2_ e3_ e4_ e5_
  obtain ⟨g,cap,cur,rfl,q1,q2,hkn,hI⟩:=hS
  have hgo1:=hgo0.mono hE.1
  refine ⟨fun D pm jK mh kw lW jJ j1 jG na w_=>Fx D 0 [na=.pointer (some ⟨b5,0,none⟩),jG=.agg #[.int .i64 c.goal.kind,.int .i64 c.goal.n,.string c.goal.name,kv],j1=.pointer (some ⟨b9,0,none⟩),jJ=.agg #[.int .i64 cl.head.kind,.int .i64 cl.head.n,.string cl.head.name,kv1],lW=.int .i64 (c.binds.length:Int),True,mh=kvU g (c.binds.length+m) cap,True,pm=.bool (!r)]/\∃ n_:Nat,n_<=2/\D 5=decide (1<=n_)/\D 7=decide (2<=n_)/\(unC w [] [B4,B5,B6,B9] S1 g cur st (cH c.binds.length cl.head) r kw jK w_ n_),⟨Fx.nil _ _,⟨0,Nat.zero_le _,rfl,rfl,hI.draw⟩⟩,⟨?_,?_,?_,?_,?_,?_,?_,?_,?_,trivial⟩,?_⟩
  all_goals (intro D bo; intros; rename_i pm jK mh kw lW jJ j1 jG na w_ hA_; have hF_:=hA_.1; obtain ⟨⟨bU,bV,bH,bR,bZ,bI,bB,ct,cF,_⟩,⟨n_,ln_,e1_,e2_,hS⟩⟩:=hA_)
  ·refine ai kU ?_
   exact ⟨hF_.set 0 rfl,⟨n_,ln_,e1_,e2_,hS⟩⟩
  ·obtain rfl:=bU ‹_›
   obtain ⟨R,S2,hI⟩:=hS.inv; refine b0 hI 1 [.int .i64 c.goal.kind,.int .i64 c.goal.n,.string c.goal.name,kv] ac e5 rfl OR ?_
   exact ⟨hF_.set 1 rfl,⟨n_,ln_,e1_,e2_,hS⟩⟩
  ·refine ai co ?_
   exact ⟨hF_.set 2 rfl,⟨n_,ln_,e1_,e2_,hS⟩⟩
  ·obtain rfl:=bH ‹_›
   obtain ⟨R,S2,hI⟩:=hS.inv; refine b0 hI 3 [.int .i64 cl.head.kind,.int .i64 cl.head.n,.string cl.head.name,kv1] ac e9 rfl H2 ?_
   exact ⟨hF_.set 3 rfl,⟨n_,ln_,e1_,e2_,hS⟩⟩
  ·exact ⟨hF_.set 4 rfl,⟨n_,ln_,e1_,e2_,hS⟩⟩
  ·obtain rfl:=bR ‹_›
   obtain rfl:=bZ ‹_›
   obtain rfl:n_=0:=tY e1_ bo
   refine Run.call0E oy oq hS (sw (N:=26) (by omega) (c.binds.length:Int) (by omega) (by omega) _ S1 _ hh (kG (by omega) _ hm.cf.1.1) hm.cf.1.2) fun v' I' S' w_=>?_
   rintro ⟨eS,cs',L,rfl,rfl,hTr⟩ _ hI
   rw [eS] at hI
   obtain ⟨S2,hI,hE2,hins⟩:=hI.pubExt
   have hS:unC w [] [B4,B5,B6,B9] S1 g cur st (cH c.binds.length cl.head) r (.agg cs'.toArray) jK w_ 1:=⟨S2,cs',rfl,hE2,hTr.rd hins,hI⟩
   exact ⟨hF_.set 5 (by first|assumption|trivial),⟨1,by decide,rfl,(by first|exact e2_|rfl),hS⟩⟩
  ·exact ⟨hF_.set 6 rfl,⟨n_,ln_,e1_,e2_,hS⟩⟩
  ·obtain rfl:=bV ‹_›
   have Mw:=bI ‹_›
   obtain rfl:=bB ‹_›
   obtain rfl:n_=1:=fL e1_ ‹D 5=true› e2_ bo
   obtain ⟨S2,cs2,rfl,hE2,hrd2,hI⟩:=hS
   refine Run.callE fG fB hI (gM (kp:=cap) (by omega) hgn hjo hu S2 _ _ g cur (hgo1.mono hE2.1) hrd2 (hkn.mono hE2.1)) fun v' I' S' w_=>?_
   rintro ⟨eS,rfl,kcx,rfl,hkx⟩ _ hI
   rw [eS] at hI
   have hS:unC w [] [B4,B5,B6,B9] S1 g cur st (cH c.binds.length cl.head) r (.agg cs2.toArray) (.bool r) w_ 2:=⟨rfl,S2,kcx,hE2,hkx,hI⟩
   exact ⟨hF_.set 7 (by first|assumption|trivial),⟨2,by decide,(by first|exact e1_|rfl),rfl,hS⟩⟩
  ·have zQ:=ct ‹_›
   have hn2:=lx ln_ e2_ ‹D 7=true›
   have hS2:=hS
   rw [hn2] at hS2
   obtain ⟨hx47,_⟩:=hS2
   subst hx47
   refine bM ?_
   exact ⟨hF_.set 8 rfl,⟨n_,ln_,e1_,e2_,hS⟩⟩
  obtain rfl:n_=2:=lx ln_ e2_ ‹D 7=true›
  have Am:D 8=true:=by assumption
  clear e1_ e2_
  obtain rfl:=cF Am
  obtain ⟨_,S2,kcx,hE2,hkx,hI⟩:=hS
  refine az (fun hbt=>?_) (fun hbt=>?_)
  ·have hrf:r=false:=by cases r; rfl; cases hbt
   rcases hcase with ⟨h1,_⟩|⟨_,hT⟩
   ·rw [hrf] at h1; cases h1
   refine bn (by omega) ?_
   exact ⟨⟨j+1,S2,hj',rfl,hT,hE.trans hE2,hI.pick [true,true,true]⟩,by simp [intOf]; omega⟩
  have hrt:r=true:=by cases r; cases hbt; rfl
  rcases hcase with ⟨_,ho⟩|⟨h1,_⟩
  case inr=>rw [hrt] at h1; cases h1
  subst ho
  obtain ⟨S3,hI,hE3,hgS⟩:=Inv.pub1 hI
  have hE03:=(hE.trans hE2).trans hE3
  have htb:RdSl S3 4 (RdO S3) (kvU g (c.binds.length+m) cap) st:=by
   have:=(hkx.rd (cap:=cap) hgS (by rw [hgl]; exact q1) q2).mono (Sle.refl _) fun _ _ h=>RdO.mono hE3.1 h
   rw [hgl] at this
   exact this
  refine ad hI 0 e4 dh dl rfl ?_
  refine dX gK ?_
  obtain ⟨gl,hgle⟩:∃ gl,gl=cl.body.map (fun t=>(cH (c.binds.length:Int) t,(s.chs.length:Int)))++c.rest:=⟨_,rfl⟩
  have hcalls:∀ S4,Sle S3 S4->Tri Tryz.prog y9 [.slice kba cl.body.length kbc,.int .i64 (c.binds.length:Int),.int .i64 (s.chs.length:Int),.slice ra c.rest.length rc] [] S4 (Oe gl):=by
   intro S4 h34
   rw [hgle]
   exact sn (N:=26) (by omega) _ (by omega) (by omega) _ (hb.monoT ((hE2.trans hE3).1.trans h34)) (hre.monoG (hE03.1.trans h34)) (fun t ht=>⟨kG (by omega) _ (hm.cf.2 t ht).1,(hm.cf.2 t ht).2⟩) (by omega) (by omega)
  refine ⟨fun D Hd tK vZ tN tM sY rH tE rB sB pj lp w_=>Fx D 0 [lp=kvU g (c.binds.length+m) cap,pj=.pointer (some ⟨b4,2,none⟩),sB=.slice sca s.chs.length scc,rB=.pointer (some ⟨b9,4,none⟩),tE=.slice kba cl.body.length kbc,rH=.int .i64 (c.binds.length:Int),sY=.int .i64 (s.chs.length:Int),tM=.pointer (some ⟨b5,4,none⟩),tN=.slice ra c.rest.length rc,True,True,True,True]/\∃ S4,Ext w.heap.size [] S3 S4/\(D 9=true->RdSl S4 5 (RdG S4) vZ gl)/\(D 10=true->∃ v,tK=.agg #[v,kvU g (c.binds.length+m) cap,.slice sca s.chs.length scc]/\RdSl S4 5 (RdG S4) v gl)/\nwP w [] [B4,B5,B6,B9] bK zSt (fun S q=>∃ v,q=#[v,kvU g (c.binds.length+m) cap,.slice sca s.chs.length scc]/\RdSl S 5 (RdG S) v gl) (D 11) (D 12) Hd S4 w_,⟨Fx.nil _ _,⟨S3,Ext.refl _ _ _,aU,aU,nwP.mk hI.draw _⟩⟩,⟨?_,?_,?_,?_,?_,?_,?_,?_,?_,?_,?_,?_,?_,trivial⟩,?_⟩
  all_goals (intro D bo; intros; rename_i Hd tK vZ tN tM sY rH tE rB sB pj lp w_ hA_; have hF_:=hA_.1; obtain ⟨⟨bU,bV,bH,bR,bZ,bI,bB,ct,cF,cK,bG,bX,cI,_⟩,⟨S4,hE4,f9,f10,hN⟩⟩:=hA_)
  ·exact ⟨hF_.set 0 rfl,⟨S4,hE4,f9,f10,hN⟩⟩
  ·refine ai dh ?_
   exact ⟨hF_.set 1 rfl,⟨S4,hE4,f9,f10,hN⟩⟩
  ·obtain rfl:=bV ‹_›
   obtain ⟨R,hI⟩:=hN.inv; refine aA hI 0 dl e4 rfl ?_
   exact ⟨hF_.set 2 rfl,⟨S4,hE4,f9,f10,hN⟩⟩
  ·refine ai bi ?_
   exact ⟨hF_.set 3 rfl,⟨S4,hE4,f9,f10,hN⟩⟩
  ·obtain rfl:=bR ‹_›
   obtain ⟨R,hI⟩:=hN.inv; refine aA hI 3 ag e9 rfl ?_
   exact ⟨hF_.set 4 rfl,⟨S4,hE4,f9,f10,hN⟩⟩
  ·exact ⟨hF_.set 5 rfl,⟨S4,hE4,f9,f10,hN⟩⟩
  ·exact ⟨hF_.set 6 rfl,⟨S4,hE4,f9,f10,hN⟩⟩
  ·refine ai pK ?_
   exact ⟨hF_.set 7 rfl,⟨S4,hE4,f9,f10,hN⟩⟩
  ·obtain rfl:=ct ‹_›
   obtain ⟨R,hI⟩:=hN.inv; refine aA hI 1 fk e5 rfl ?_
   exact ⟨hF_.set 8 rfl,⟨S4,hE4,f9,f10,hN⟩⟩
  ·obtain rfl:=bZ ‹_›
   obtain rfl:=bI ‹_›
   obtain rfl:=bB ‹_›
   obtain rfl:=cF ‹_›
   obtain ⟨R,hI,hback⟩:=hN.ex (fun S S' q hs hq=>by obtain ⟨v,e,h⟩:=hq; exact ⟨v,e,h.monoG hs⟩)
   refine Run.call0E uB wl hI (hcalls S4 hE4.1) fun v I' S4 w_=>?_
   rintro ⟨rfl,hg⟩ hE5 hI
   rw [List.append_nil] at hI
   have hN:=hback S4 _ hE5.1 hI
   have hE4:=hE4.trans hE5
   have f9:=fun (_:aF D 9 9=true)=>hg
   have f10:aF D 9 10=true->∃ v,tK=.agg #[v,kvU g (c.binds.length+m) cap,.slice sca s.chs.length scc]/\RdSl S4 5 (RdG S4) v gl:=fun h=>(f10 h).imp fun v hv=>⟨hv.1,hv.2.monoG hE5.1⟩
   exact ⟨hF_.set 9 (by first|assumption|trivial),⟨S4,hE4,f9,f10,hN⟩⟩
  ·obtain rfl:=bU ‹_›
   obtain rfl:=bH ‹_›
   have Hc:=cK ‹_›
   have hg9:=f9 ‹D 9=true›
   obtain ⟨ga,gc,rfl,_⟩:=id hg9
   refine MP ?_
   have f10:aF D 10 10=true->∃ v,Value.agg #[.slice ga gl.length gc,kvU g (c.binds.length+m) cap,.slice sca s.chs.length scc]=.agg #[v,kvU g (c.binds.length+m) cap,.slice sca s.chs.length scc]/\RdSl S4 5 (RdG S4) v gl:=fun _=>⟨_,rfl,hg9⟩
   exact ⟨hF_.set 10 (by first|assumption|trivial),⟨S4,hE4,f9,f10,hN⟩⟩
  ·refine nwP.alloc hN bo fR rfl fun v w_ hN=>?_
   exact ⟨hF_.set 11 (by first|assumption|trivial),⟨S4,hE4,f9,f10,hN⟩⟩
  ·have PE:=bX ‹_›
   have vp:=bG ‹_›
   obtain ⟨v,rfl,hv⟩:=f10 ‹D 10=true›
   refine nwP.store hN ‹D 11=true› bo bY rfl rfl (by obtain ⟨ga,gc,rfl,_⟩:=id hv; simp [Value.oneCell']) ⟨v,rfl,hv⟩ fun w_ hN=>?_
   exact ⟨hF_.set 12 trivial,⟨S4,hE4,f9,f10,hN⟩⟩
  obtain ⟨rfl,rfl,rfl,rfl,rfl,rfl,rfl,rfl,rfl,Hc,vp,PE,_,_⟩:=hF_.all
  have jP:D 11=true:=by assumption
  have LB:D 12=true:=by assumption
  clear hF_ bU bV bH bR bZ bI bB ct cF cK bG bX cI
  rw [jP,LB] at hN
  obtain ⟨b13,q13,rfl,⟨gv,rfl,hgv⟩,hI⟩:=hN.fin
  have hI:Inv w [] [B4,B5,B6,B9,.blk b13 (.cells #[gv,kvU g (c.binds.length+m) cap,.slice sca s.chs.length scc] bK)] S4 w_:=hI
  have hE04:=hE03.trans hE4
  refine ⟨fun w'=>∃ S5 cv,Ext w.heap.size [] S4 S5/\RdSl S5 7 (RdCh S5) cv (s.chs++(if c.left.drop (j+1)=[] then [] else [⟨c.goal,c.rest,c.left.drop (j+1),c.binds⟩]))/\Inv w [] [B4,B5,B6,B9,.blk b13 (.cells #[gv,kvU g (c.binds.length+m) cap,cv] bK)] S5 w',?_,?_⟩
  ·refine bn (by omega) ?_
   refine ad hI 1 e5 dk eG rfl ?_
   refine aD hle cQ ?_
   refine bA ?_
   refine aI (fun hmo=>?_) (fun hmo=>?_)
   ·have hne:c.left.drop (j+1)≠[]:=fun e=>by have:=congrArg List.length e; rw [List.length_drop] at this; simp at this; omega
    rw [if_neg hne]
    obtain ⟨mc,hmc⟩:∃ mc:Ch,mc=⟨c.goal,c.rest,c.left.drop (j+1),c.binds⟩:=⟨_,rfl⟩
    rw [<- hmc]
    refine ⟨fun D tI yc yk vh qu yB As Ad Bt AH Bw Ag Aq w_=>Fx D 0 [Aq=.pointer (some ⟨b5,0,none⟩),Ag=.agg #[.int .i64 c.goal.kind,.int .i64 c.goal.n,.string c.goal.name,kv],Bw=.pointer (some ⟨b5,4,none⟩),AH=.slice ra c.rest.length rc,Bt=.pointer (some ⟨b5,5,none⟩),Ad=lv,As=.int .i64 (j:Int),yB=.int .i64 ((j+1:Nat):Int),RdSl S 1 ig qu (c.left.drop (j+1)),vh=.pointer (some ⟨b5,6,none⟩),yk=.slice ba c.binds.length bc,True,True,True]/\(D 11=true->∃ la ln lc,yc=.agg #[.int .i64 c.goal.kind,.int .i64 c.goal.n,.string c.goal.name,kv,.slice ra c.rest.length rc,.slice la ln lc,.slice ba c.binds.length bc]/\RdSl S 1 ig (.slice la ln lc) (c.left.drop (j+1)))/\nwP w [] [B4,B5,B6,B9,.blk b13 (.cells #[gv,kvU g (c.binds.length+m) cap,.slice sca s.chs.length scc] bK)] cq zCh (fun _ q=>∃ la ln lc,q=#[.int .i64 c.goal.kind,.int .i64 c.goal.n,.string c.goal.name,kv,.slice ra c.rest.length rc,.slice la ln lc,.slice ba c.binds.length bc]/\RdSl S 1 ig (.slice la ln lc) (c.left.drop (j+1))) (D 12) (D 13) tI S4 w_,⟨Fx.nil _ _,⟨aU,nwP.mk hI.draw _⟩⟩,⟨?_,?_,?_,?_,?_,?_,?_,?_,?_,?_,?_,?_,?_,?_,trivial⟩,?_⟩
    all_goals (intro D bo; intros; rename_i tI yc yk vh qu yB As Ad Bt AH Bw Ag Aq w_ hA_; have hF_:=hA_.1; obtain ⟨⟨bU,bV,bH,bR,bZ,bI,bB,ct,cF,cK,bG,bX,cI,dq,_⟩,⟨f11,hN⟩⟩:=hA_)
    ·refine ai kU ?_
     exact ⟨hF_.set 0 rfl,⟨f11,hN⟩⟩
    ·obtain rfl:=bU ‹_›
     obtain ⟨R,hI⟩:=hN.inv; refine b0 hI 1 [.int .i64 c.goal.kind,.int .i64 c.goal.n,.string c.goal.name,kv] ac e5 rfl OR ?_
     exact ⟨hF_.set 1 rfl,⟨f11,hN⟩⟩
    ·refine ai pK ?_
     exact ⟨hF_.set 2 rfl,⟨f11,hN⟩⟩
    ·obtain rfl:=bH ‹_›
     obtain ⟨R,hI⟩:=hN.inv; refine aA hI 1 fk e5 rfl ?_
     exact ⟨hF_.set 3 rfl,⟨f11,hN⟩⟩
    ·refine ai dk ?_
     exact ⟨hF_.set 4 rfl,⟨f11,hN⟩⟩
    ·obtain rfl:=bZ ‹_›
     obtain ⟨R,hI⟩:=hN.inv; refine aA hI 1 eG e5 rfl ?_
     exact ⟨hF_.set 5 rfl,⟨f11,hN⟩⟩
    ·exact ⟨hF_.set 6 rfl,⟨f11,hN⟩⟩
    ·obtain rfl:=bB ‹_›
     refine bn (by omega) ?_; rw [show ((j:Int)+1)=((j+1:Nat):Int) by omega]
     exact ⟨hF_.set 7 rfl,⟨f11,hN⟩⟩
    ·obtain rfl:=bI ‹_›
     obtain rfl:=ct ‹_›
     refine gh cQ hle (by omega) fun v' hv'=>?_
     exact ⟨hF_.set 8 (by first|assumption|trivial),⟨f11,hN⟩⟩
    ·refine ai lr ?_
     exact ⟨hF_.set 9 rfl,⟨f11,hN⟩⟩
    ·obtain rfl:=cK ‹_›
     obtain ⟨R,hI⟩:=hN.inv; refine aA hI 1 ag e5 rfl ?_
     exact ⟨hF_.set 10 rfl,⟨f11,hN⟩⟩
    ·obtain rfl:=bV ‹_›
     obtain rfl:=bR ‹_›
     have CJ:=cF ‹_›
     obtain rfl:=bG ‹_›
     obtain ⟨la,lc,rfl,_⟩:=id CJ
     refine DS ?_
     have f11:aF D 11 11=true->∃ la ln lc,Value.agg #[.int .i64 c.goal.kind,.int .i64 c.goal.n,.string c.goal.name,kv,.slice ra c.rest.length rc,.slice _ _ _,.slice ba c.binds.length bc]=.agg #[.int .i64 c.goal.kind,.int .i64 c.goal.n,.string c.goal.name,kv,.slice ra c.rest.length rc,.slice la ln lc,.slice ba c.binds.length bc]/\RdSl S 1 ig (.slice la ln lc) (c.left.drop (j+1)):=fun _=>⟨_,_,_,rfl,CJ⟩
     exact ⟨hF_.set 11 (by first|assumption|trivial),⟨f11,hN⟩⟩
    ·refine nwP.alloc hN bo j9 rfl fun v w_ hN=>?_
     exact ⟨hF_.set 12 (by first|assumption|trivial),⟨f11,hN⟩⟩
    ·have Tc:=cI ‹_›
     have PE:=bX ‹_›
     obtain ⟨la,ln,lc,rfl,hv⟩:=f11 ‹D 11=true›
     refine nwP.store hN ‹D 12=true› bo dt rfl rfl (RdCh.one (S:=S) (c:=⟨c.goal,c.rest,c.left.drop (j+1),c.binds⟩) ⟨_,_,_,_,rfl,hgo0,hre,hv,hbi⟩) ⟨la,ln,lc,rfl,hv⟩ fun w_ hN=>?_
     exact ⟨hF_.set 13 trivial,⟨f11,hN⟩⟩
    obtain ⟨rfl,rfl,rfl,rfl,rfl,rfl,rfl,rfl,CJ,rfl,rfl,PE,Tc,_,_⟩:=hF_.all
    have LB:D 12=true:=by assumption
    have ST:D 13=true:=by assumption
    clear hF_ bU bV bH bR bZ bI bB ct cF cK bG bX cI dq
    rw [LB,ST] at hN
    obtain ⟨b14,q14,rfl,⟨la,ln,lc,rfl,hlv⟩,hI⟩:=hN.fin
    obtain ⟨B14,hB14⟩:∃ B:Item,B=.blk b14 (.cells #[.int .i64 c.goal.kind,.int .i64 c.goal.n,.string c.goal.name,kv,.slice ra c.rest.length rc,.slice la ln lc,.slice ba c.binds.length bc] cq):=⟨_,rfl⟩
    have e14:=congrArg some hB14
    have hI:Inv w [] ([B4,B5,B6,B9,B14]++[.blk b13 (.cells #[gv,kvU g (c.binds.length+m) cap,.slice sca s.chs.length scc] bK)]) S4 w_:=by
     rw [hB14]
     exact hI.perm (((List.Perm.swap _ _ _).cons _ |>.cons _ |>.cons _ |>.cons _))
    have hmr:RdCh S4 [.int .i64 c.goal.kind,.int .i64 c.goal.n,.string c.goal.name,kv,.slice ra c.rest.length rc,.slice la ln lc,.slice ba c.binds.length bc] mc:=by
     rw [hmc]
     exact ⟨_,_,_,_,rfl,hgo0.mono hE04.1,hre.monoG hE04.1,hlv.mono hE04.1 fun _ _ h=>h,hbi.monoO hE04.1⟩
    have hsc4:=hsc.monoCh hE04.1
    refine ⟨fun D sk tL tz tT tG vH yY xb w_=>Fx D 0 [True,yY=.pointer (some ⟨b4,2,none⟩),vH=.slice sca s.chs.length scc,True,tT=.agg #[.int .i64 c.goal.kind,.int .i64 c.goal.n,.string c.goal.name,kv,.slice ra c.rest.length rc,.slice la ln lc,.slice ba c.binds.length bc],True,True,sk=.pointer (some ⟨b13,2,none⟩),True]/\∃ n_:Nat,n_<=3/\D 0=decide (1<=n_)/\D 3=decide (2<=n_)/\D 6=decide (3<=n_)/\(apP w [] (fun cv=>[B4,B5,B6,B9,B14]++[.blk b13 (.cells #[gv,kvU g (c.binds.length+m) cap,cv] bK)]) (.slice sca s.chs.length scc) cq 7 RdCh s.chs mc S4 (D 5) (D 8) xb tG tz tL w_ n_),⟨Fx.nil _ _,⟨0,Nat.zero_le _,rfl,rfl,rfl,apP.mk hI.draw _ _ _ _⟩⟩,⟨?_,?_,?_,?_,?_,?_,?_,?_,?_,trivial⟩,?_⟩
    all_goals (intro D bo; intros; rename_i sk tL tz tT tG vH yY xb w_ hA_; have hF_:=hA_.1; obtain ⟨⟨bU,bV,bH,bR,bZ,bI,bB,ct,cF,_⟩,⟨n_,ln_,e1_,e2_,e3_,hS⟩⟩:=hA_)
    ·obtain rfl:n_=0:=tY e1_ bo
     refine P4 hS eq fun v w_ hS=>?_
     exact ⟨hF_.set 0 (by first|assumption|trivial),⟨1,by decide,rfl,(by first|exact e2_|rfl),(by first|exact e3_|rfl),hS⟩⟩
    ·refine ai dh ?_
     exact ⟨hF_.set 1 rfl,⟨n_,ln_,e1_,e2_,e3_,hS⟩⟩
    ·obtain rfl:=bV ‹_›
     obtain ⟨S5,cv,R,hE5,hI⟩:=hS.inv; refine aA hI 0 dl e4 rfl ?_
     exact ⟨hF_.set 2 rfl,⟨n_,ln_,e1_,e2_,e3_,hS⟩⟩
    ·have SR:=bU ‹_›
     obtain rfl:=bH ‹_›
     obtain rfl:n_=1:=fL e1_ ‹D 0=true› e2_ bo
     refine PG chM hS eq (by omega) hsc4 chL chO (by omega) (by omega) fun v w_ hS=>?_
     exact ⟨hF_.set 3 (by first|assumption|trivial),⟨2,by decide,(by first|exact e1_|rfl),rfl,(by first|exact e3_|rfl),hS⟩⟩
    ·obtain ⟨S5,cv,R,hE5,hI⟩:=hS.inv; refine aq hI 4 dt e14 rfl ?_
     exact ⟨hF_.set 4 rfl,⟨n_,ln_,e1_,e2_,e3_,hS⟩⟩
    ·obtain rfl:=bZ ‹_›
     refine Qs chM hS eq (by omega) (by omega) rfl hmr chL fun v w_ hS=>?_
     exact ⟨hF_.set 5 (by first|assumption|trivial),⟨n_,ln_,e1_,e2_,e3_,hS⟩⟩
    ·have JJ:=bR ‹_›
     have Mw:=bI ‹_›
     obtain rfl:n_=2:=fL e2_ ‹D 3=true› e3_ bo
     refine P1 chM hS ‹D 5=true› eq (by omega) chL chO (by omega) (by omega) fun v w_ hS=>?_
     exact ⟨hF_.set 6 (by first|assumption|trivial),⟨3,by decide,(by first|exact e1_|rfl),(by first|exact e2_|rfl),rfl,hS⟩⟩
    ·refine ai dh ?_
     exact ⟨hF_.set 7 rfl,⟨n_,ln_,e1_,e2_,e3_,hS⟩⟩
    ·obtain rfl:=ct ‹_›
     have Mh:=bB ‹_›
     have hn3:=lx ln_ e3_ ‹D 6=true›
     have hS3:=hS
     rw [hn3] at hS3
     rw [bo] at hS3
     refine P2 (C:=fun cv=>#[gv,kvU g (c.binds.length+m) cap,cv]) (fun _=>rfl) hS3 dl (fun _ _=>rfl) (fun _=>show 2<3 by decide) fun w_ hS4=>?_
     have hS:apP w [] (fun cv=>[B4,B5,B6,B9,B14]++[.blk b13 (.cells #[gv,kvU g (c.binds.length+m) cap,cv] bK)]) (.slice sca s.chs.length scc) cq 7 RdCh s.chs mc S4 (aF D 8 5) (aF D 8 8) xb tG tz tL w_ n_:=by rw [hn3]; exact hS4
     exact ⟨hF_.set 8 trivial,⟨n_,ln_,e1_,e2_,e3_,hS⟩⟩
    obtain rfl:n_=3:=lx ln_ e3_ ‹D 6=true›
    have Am:D 8=true:=by assumption
    clear e1_ e2_ e3_
    rw [Am] at hS
    obtain ⟨S5,cv,hE5,hcv,hI⟩:=hS.fin
    exact ⟨S5,cv,hE5,hcv,hI.pick [true,true,true,true,false,true]⟩
   ·have hnil:c.left.drop (j+1)=[]:=List.eq_nil_of_length_eq_zero (by rw [List.length_drop]; omega)
    rw [if_pos hnil,List.append_nil]
    exact ⟨S4,_,Ext.refl _ _ _,hsc.monoCh hE04.1,hI⟩
  intro _ _ _ _ _ _ _ _ _ _ _ _ _ _ _ _ _ _ _ _ _ _ _ _ _ _ _ w'
  rintro ⟨S5,cv,hE5,hcv,hI⟩
  refine aq hI 4 bY rfl rfl ?_
  have hones:∀ x∈([gv,kvU g (c.binds.length+m) cap,cv]:List Value),x.oneCell'=true:=by
   intro x hx
   simp only [List.mem_cons,List.not_mem_nil,or_false] at hx
   rcases hx with rfl|rfl|rfl
   ·exact hgv.sl
   ·rfl
   ·exact hcv.sl
  refine ao (cs:=#[gv,kvU g (c.binds.length+m) cap,cv]) hI 2 e6 bY rfl rfl hones fun w' hI=>?_
  refine aW hI 2 bY rfl rfl ?_
  refine ⟨_,[],S5,rfl,hI.nil,hE04.trans hE5,rfl,_,rfl,gv,_,cv,rfl,?_,htb.monoO (hE4.trans hE5).1,hcv⟩
  simp only [Option.getD_some,lV]
  rw [hgle] at hgv
  exact hgv.monoG hE5.1
 ·have:j=c.left.length:=by omega
  subst this
  rw [List.drop_length] at hT
  cases hT
  refine aq hI 0 bY e4 rfl ?_
  refine ao (cs:=#[gs,sb,.slice sca s.chs.length scc]) hI 2 e6 bY rfl rfl (by simpa using hs.one) fun w' hI=>?_
  refine aW hI 2 bY rfl rfl ?_
  exact ⟨_,[],S1,rfl,hI.nil,hE,rfl,_,rfl,(hs.mono hE.1)⟩
end
end
section
open Go Go.RowKit
theorem TryL.left {p:List C} {chs:List Ch} {c:Ch} {l:List Int} {o:Option St6} (h:TryL p chs c l o) (l':List Int):TryL p chs ⟨c.goal,c.rest,l',c.binds⟩ l o:=by
 induction h with
 | nil=>exact .nil
 | hit h1 h2=>exact .hit (c:=⟨c.goal,c.rest,l',c.binds⟩) h1 h2
 | miss h1 h2 _ ih=>exact .miss h1 h2 ih
theorem FirstL.inv {p:List C} {chs:List Ch} {c:Ch} {x:Int} {l:List Int} {o:Option (St6 × Int × List Int)} (h:FirstL p chs c (x::l) o) :
  ∃ o1,TryL p chs c [x] o1/\((∃ s,o1=some s/\o=some (s,x,l)) ∨ (o1=none/\FirstL p chs c l o)):=by
 cases h with
 | hit h=>exact ⟨_,h,.inl ⟨_,rfl,rfl⟩⟩
 | miss h1 h2=>exact ⟨_,h1,.inr ⟨rfl,h2⟩⟩
def Ri (s:St6) (o:Option (St6 × Int × List Int)):Value->List Item->ae->Prop:=fun q I' S'=>I'=[]/\∃ (cs:List Value) (lv:Value),q=.tuple #[.agg cs.toArray,.int .i64 (o.elim (-1) (·.2.1)),lv,.bool o.isSome]/\
 RdS6 S' cs (o.elim s (·.1))/\RdSl S' 1 ig lv (o.elim [] (·.2.2))
section
variable {P:Program} {w w0:World} {X:List Nat} {L:List Item} {S:ae} {K:Value->World->Prop}
attribute [local irreducible] Run CondV aB aS
theorem JQ {α:Type} {R:List Value->α->Prop} {xs:List α} {u:Value} {T ty e:TypeId} {k l:Nat} (hT:cB P T=some (e,k)) (hx:RdSl S k R u xs) (hl:l<xs.length)
  (hk:∀ v',RdSl S k R v' [xs[l]]->K v' w):Run P (sOp (.slice T (.const u) (some (.const (.int .i64 l))) (some (.const (.int .i64 ((l+1:Nat):Int)))) none) ty) w K:=by
 obtain ⟨a,cap,rfl,hlc,hc,hx'⟩:=id hx
 have h1:=hx.to (show l+1<=xs.length by omega)
 have e:(if cap=0 then a else a.map (·.add (0 * k)))=a:=by
  split
  ·rfl
  ·cases a <;> simp [Addr.add]
 rw [e] at h1
 have hlt:(xs.take (l+1)).length=l+1:=by rw [List.length_take]; omega
 have h2:=h1.from (l:=l) (by omega)
 have e2:(xs.take (l+1)).drop l=[xs[l]]:=by
  rw [List.take_succ_eq_append_getElem hl]
  exact List.drop_left' (by rw [List.length_take]; omega)
 rw [e2] at h2
 exact PO hT (by omega) (by omega) (hk _ h2)
end
section
attribute [local irreducible] Run CondV aB aS
set_option maxHeartbeats 1000000 in
theorem CF {p:List C} (hp:∀ cl∈p,vM cl) {k:Nat} (hk:k<=1000) {c:Ch} (hc:km c) (hr:okRk k c) {s:St6} {o:Option (St6 × Int × List Int)} (h:FirstL p s.chs c c.left o) (hn:s.chs.length<=1000)
  {S:ae} {u:Value} {ss cs:List Value} (hP:RdSl S 5 (RdC S) u p) (hs:RdS6 S ss s) (hcc:RdCh S cs c):Tri Tryz.prog Gl [u,.agg ss.toArray,.agg cs.toArray] [] S (Ri s o):=by
 intro w hI
 have hss3:=hs.length
 obtain ⟨gs,sb,sc,rfl,hsg,hsb,hsc⟩:=id hs
 obtain ⟨hd,rv,lv,bv,rfl,hgo,hre,hle,hbi⟩:=id hcc
 obtain ⟨la,lc,rfl,_⟩:=id hle
 have hgo0:=hgo
 obtain ⟨kv,rfl,_⟩:=RdT.iff.1 hgo
 have hll:=hle.le
 simp only [maxLen] at hll
 refine sg.2 ?_
 dsimp only[sg,cX]
 refine be hI fun b4 w' hI=>?_
 refine be hI fun b5 w' hI=>?_
 refine aG hI fR fun b6 w' hI=>?_
 obtain ⟨B4,hB4⟩:∃ B:Item,B=.blk b4 (.cells #[gs,sb,sc] bK):=⟨_,rfl⟩
 obtain ⟨B5,hB5⟩:∃ B:Item,B=.blk b5 (.cells #[.int .i64 c.goal.kind,.int .i64 c.goal.n,.string c.goal.name,kv,rv,.slice la c.left.length lc,bv] cq):=⟨_,rfl⟩
 obtain ⟨B6,hB6⟩:∃ B:Item,B=.blk b6 (.cells zSt bK):=⟨_,rfl⟩
 have e4:=congrArg some hB4
 have e5:=congrArg some hB5
 have e6:=congrArg some hB6
 have hI:Inv w [] [B4,B5,B6] S w':=by rw [hB4,hB5,hB6]; exact hI
 refine ⟨fun i w'=>∃ (j:Nat) (S1:ae),j<=c.left.length/\i=.int .i64 j/\FirstL p s.chs c (c.left.drop j) o/\Ext w.heap.size [] S S1/\Inv w [] [B4,B5,B6] S1 w',
  fun i _=>c.left.length - (intOf i).toNat,⟨0,S,Nat.zero_le _,rfl,h,Ext.refl _ _ _,hI⟩,?_⟩
 intro t10 _ _ t9 t8 t7 t47 t46 t45 t44 t43 t42 t41 t40 t39 t38 t37 _ _ _ _ _ _ _ _ _ _ _ _ _ _ _ _ _ _ _ _ _ _ _ _ w'
 rintro ⟨j,S1,hj,rfl,hT,hE,hI⟩
 refine ad hI 1 e5 dk eG rfl ?_
 refine aD hle cQ ?_
 refine bA ?_
 refine aI (fun hji=>?_) (fun hji=>?_)
 ·have hj':j<c.left.length:=by omega
  rw [List.drop_eq_getElem_cons hj'] at hT
  obtain ⟨o1,ht,hcase⟩:=hT.inv
  refine aq hI 1 dt e5 rfl ?_
  refine aG hI j9 fun b11 w' hI=>?_
  have hI:Inv w [] [B4,B5,B6,.blk b11 (.cells zCh cq)] S1 w':=hI
  refine ao hI 3 rfl dt rfl rfl (by simpa using hcc.one) fun w' hI=>?_
  have hI:Inv w [] [B4,B5,B6,.blk b11 (.cells #[.int .i64 c.goal.kind,.int .i64 c.goal.n,.string c.goal.name,kv,rv,.slice la c.left.length lc,bv] cq)] S1 w':=hI
  refine ad hI 1 e5 dk eG rfl ?_
  refine bn (by omega) ?_
  rw [show ((j:Int)+1)=((j+1:Nat):Int) by omega]
  refine JQ cQ hle hj' fun l1 hl1=>?_
  refine cG hI 3 rfl dk eG rfl (by obtain ⟨a,m,rfl,_⟩:=hl1; rfl) hl1.sl fun w' hI=>?_
  have hI:Inv w [] [B4,B5,B6,.blk b11 (.cells #[.int .i64 c.goal.kind,.int .i64 c.goal.n,.string c.goal.name,kv,rv,l1,bv] cq)] S1 w':=hI
  refine aq hI 0 bY e4 rfl ?_
  refine aq hI 3 dt rfl rfl ?_
  have hcc1:RdCh S1 [.int .i64 c.goal.kind,.int .i64 c.goal.n,.string c.goal.name,kv,rv,l1,bv] ⟨c.goal,c.rest,[c.left[j]],c.binds⟩:=
   ⟨_,_,_,_,rfl,hgo0.mono hE.1,hre.monoG hE.1,hl1.mono hE.1 fun _ _ h=>h,hbi.monoO hE.1⟩
  refine Run.call0E Ks Kk hI (Ib hp hk (c:=⟨c.goal,c.rest,[c.left[j]],c.binds⟩) ⟨hc.good,hc.goal,hc.rest⟩ ⟨hr.nb,hr.nr,hr.tab,hr.goal,hr.rest,hr.pos⟩ (ht.left _) hn (hP.monoC hE.1) (hs.mono hE.1) hcc1) fun v' I' S2 w'=>?_
  rintro ⟨rfl,ns,rfl,hns⟩ hE2 hI
  have hI:Inv w [] [B4,B5,B6,.blk b11 (.cells #[.int .i64 c.goal.kind,.int .i64 c.goal.n,.string c.goal.name,kv,rv,l1,bv] cq)] S2 w':=hI
  have hE12:=hE.trans hE2
  have hl3:=hns.length
  refine aj (v:=.agg ns.toArray) rfl ?_
  refine aj (v:=.bool o1.isSome) rfl ?_
  refine aG hI fR fun b12 w' hI=>?_
  have hI:Inv w [] [B4,B5,B6,.blk b11 (.cells #[.int .i64 c.goal.kind,.int .i64 c.goal.n,.string c.goal.name,kv,rv,l1,bv] cq),.blk b12 (.cells zSt bK)] S2 w':=hI
  refine ao hI 4 rfl bY (by simpa using hl3) rfl (by simpa using hns.one) fun w' hI=>?_
  obtain ⟨B12,hB12⟩:∃ B:Item,B=.blk b12 (.cells ns.toArray bK):=⟨_,rfl⟩
  have e12:=congrArg some hB12
  have hI:Inv w [] [B4,B5,B6,B12] S2 w':=by rw [hB12]; exact hI.pick [true,true,true,false,true]
  rcases hcase with ⟨s1,rfl,rfl⟩|⟨rfl,hT⟩
  ·refine az (fun _=>?_) (fun hb=>by cases hb)
   obtain ⟨lb,lo,lc2,lcs,lE,lfz,hlv,hlS,hlR⟩:=hle.at_ hj'
   have hla:la=some ⟨lb,lo,none⟩:=by
    simp only [Value.slice.injEq] at hlv
    exact hlv.1
   have hix:∀ {ty:TypeId} {K:Value->World->Prop} {w':World},K (.pointer (some ⟨lb,lo+j * 1,none⟩)) w'->Run Tryz.prog (sOp (.indexAddr Lz (.const (.slice la c.left.length lc)) (.const (.int .i64 j))) ty) w' K:=fun hk=>by rw [hla]; exact au cQ hj' hk
   have hlR:aH lcs (lo+j * 1) 1=[.int .i64 c.left[j]]:=hlR
   have hcell:lcs[lo+j * 1]?=some (.int .i64 c.left[j]):=ar hlR 0 _ rfl
   have hlS:=hE12.1 _ _ hlS
   rw [hB6] at hI
   have hI0:=hI
   refine ⟨fun D x9 x8 x7 jK mh kw lW jJ j1 jG na ij gX nL w_=>Fx D 0 [nL=.agg ns.toArray,gX=.pointer (some ⟨b5,5,none⟩),ij=.slice la c.left.length lc,na=.int .i64 (j:Int),jG=.pointer (some ⟨lb,lo+j * 1,none⟩),j1=.int .i64 c.left[j],jJ=.pointer (some ⟨b5,5,none⟩),lW=.slice la c.left.length lc,kw=.int .i64 (j:Int),mh=.int .i64 ((j+1:Nat):Int),RdSl S 1 ig jK (c.left.drop (j+1)),True,x7=.int .i64 c.left[j],RdSl S 1 ig x8 (c.left.drop (j+1)),x9=.bool true]/\Inv w [] [B4,B5,.blk b6 (.cells (cond (D 11) ns.toArray zSt) bK),B12] S2 w_,⟨Fx.nil _ _,hI.draw⟩,⟨?_,?_,?_,?_,?_,?_,?_,?_,?_,?_,?_,?_,?_,?_,?_,trivial⟩,?_⟩
   all_goals (intro D bo; intros; rename_i x9 x8 x7 jK mh kw lW jJ j1 jG na ij gX nL w_ hA_; have hF_:=hA_.1; obtain ⟨⟨bU,bV,bH,bR,bZ,bI,bB,ct,cF,cK,bG,bX,cI,dq,cC,_⟩,hI⟩:=hA_)
   ·refine aq hI 3 bY e12 (by simpa using hl3) ?_
    exact ⟨hF_.set 0 rfl,hI⟩
   ·refine ai dk ?_
    exact ⟨hF_.set 1 rfl,hI⟩
   ·obtain rfl:=bV ‹_›
    refine aA hI 1 eG e5 rfl ?_
    exact ⟨hF_.set 2 rfl,hI⟩
   ·exact ⟨hF_.set 3 rfl,hI⟩
   ·obtain rfl:=bH ‹_›
    obtain rfl:=bR ‹_›
    refine hix ?_
    exact ⟨hF_.set 4 rfl,hI⟩
   ·obtain rfl:=bZ ‹_›
    refine cz aw ((hI.cellS hlS).trans hcell) ?_
    exact ⟨hF_.set 5 rfl,hI⟩
   ·refine ai dk ?_
    exact ⟨hF_.set 6 rfl,hI⟩
   ·obtain rfl:=bB ‹_›
    refine aA hI 1 eG e5 rfl ?_
    exact ⟨hF_.set 7 rfl,hI⟩
   ·exact ⟨hF_.set 8 rfl,hI⟩
   ·obtain rfl:=cF ‹_›
    refine bn (by omega) ?_; rw [show ((j:Int)+1)=((j+1:Nat):Int) by omega]
    exact ⟨hF_.set 9 rfl,hI⟩
   ·obtain rfl:=ct ‹_›
    obtain rfl:=cK ‹_›
    refine gh cQ hle (by omega) fun v' hv'=>?_
    exact ⟨hF_.set 10 (by first|assumption|trivial),hI⟩
   ·obtain rfl:=bU ‹_›
    rw [bo] at hI; refine ao hI 2 rfl bY (by simpa using hl3) rfl (by simpa using hns.one) fun w_ hI=>?_
    exact ⟨hF_.set 11 trivial,hI⟩
   ·obtain rfl:=bI ‹_›
    exact ⟨hF_.set 12 rfl,hI⟩
   ·have vp:=bG ‹_›
    have vp:=bG ‹D 10=true›
    exact ⟨hF_.set 13 (by first|assumption|trivial),hI⟩
   ·exact ⟨hF_.set 14 rfl,hI⟩
   obtain ⟨rfl,rfl,rfl,rfl,rfl,rfl,rfl,rfl,rfl,rfl,vp,_,rfl,Rg,rfl,_⟩:=hF_.all
   have jP:D 11=true:=by assumption
   clear hF_ bU bV bH bR bZ bI bB ct cF cK bG bX cI dq cC
   rw [jP] at hI
   refine aW hI 2 bY rfl (by simpa using hl3) ?_
   exact ⟨_,[],S2,rfl,hI.nil,hE12,rfl,ns,_,rfl,hns,Rg.mono hE12.1 fun _ _ h=>h⟩
  ·refine az (fun hb=>by cases hb) (fun _=>?_)
   refine bn (by omega) ?_
   exact ⟨⟨j+1,S2,hj',rfl,hT,hE12,hI.pick [true,true,true]⟩,by simp [intOf]; omega⟩
 ·have:j=c.left.length:=by omega
  subst this
  rw [List.drop_length] at hT
  cases hT
  refine aq hI 0 bY e4 rfl ?_
  refine ao (cs:=#[gs,sb,sc]) hI 2 e6 bY rfl rfl (by simpa using hs.one) fun w' hI=>?_
  refine aW hI 2 bY rfl rfl ?_
  exact ⟨_,[],S1,rfl,hI.nil,hE,rfl,_,_,rfl,hs.mono hE.1,RdSl.nil0 ..⟩
end
end
section
open Go Go.RowKit
def anP {α:Type} (w0:World) (X:List Nat) (A:List Item) (T:TypeId) (k:Nat) (R:ae->List Value->α->Prop) (xs:List α) (y:α) (S0:ae) (Tn:TypeId) (z:Array Value) (Q:ae->Value->Prop)
  (d5 db da ds:Bool) (v0 v1 v5 v2 vb x:Value) (w:World) (n:Nat):Prop:=
 ∃ S1 b q,Ext w0.heap.size X S0 S1/\(d5=true->RdSl S1 k (R S1) v5 [y])/\(db=true->Q S1 vb)/\(da=true->x=.pointer (some ⟨b,0,none⟩))/\(ds=true->da=true)/\(ds=false->q=z)/\(ds=true->Q S1 (.agg q))/\
  apC w0 X (A++cond da [.blk b (.cells q Tn)] []) T k R xs y S1 v0 v1 v2 w n
section
variable {α:Type} {P:Program} {w0 w:World} {X:List Nat} {A:List Item} {e:TypeId} {k:Nat} {R:ae->List Value->α->Prop} {xs:List α} {y:α} {S0:ae} {Tn:TypeId} {z:Array Value} {Q:ae->Value->Prop}
 {d5 db da ds:Bool} {v0 v1 v5 v2 vb x:Value} {n:Nat} {K:Value->World->Prop}
attribute [local irreducible] Run
theorem anP.mk {S:ae} (h:Inv w0 X A S w) (v0 v1 v5 v2 vb x:Value):anP w0 X A e k R xs y S Tn z Q false false false false v0 v1 v5 v2 vb x w 0:=
 ⟨S,0,z,Ext.refl _ _ _,fun h=>(by cases h),fun h=>(by cases h),fun h=>(by cases h),fun h=>(by cases h),fun _=>rfl,fun h=>(by cases h),by rw [cond_false,List.append_nil]; exact h⟩
theorem anP.inv (h:anP w0 X A e k R xs y S0 Tn z Q d5 db da ds v0 v1 v5 v2 vb x w n):∃ S1 B,Ext w0.heap.size X S0 S1/\Inv w0 X (A++B) S1 w:=by
 obtain ⟨S1,b,q,h1,_,_,_,_,_,_,h5⟩:=h
 obtain ⟨B,hI⟩:=h5.inv
 exact ⟨S1,_,h1,by rw [List.append_assoc] at hI; exact hI⟩
theorem anP.fin (h:anP w0 X A e k R xs y S0 Tn z Q d5 db true true v0 v1 v5 v2 vb x w 3):∃ S1 b q,Ext w0.heap.size X S0 S1/\x=.pointer (some ⟨b,0,none⟩)/\Q S1 (.agg q)/\Inv w0 X (A++[.blk b (.cells q Tn)]) S1 w:=by
 obtain ⟨S1,b,q,h1,_,_,h4,_,_,h7,h8⟩:=h
 exact ⟨S1,b,q,h1,h4 rfl,h7 rfl,h8.2⟩
theorem anP.res (h:anP w0 X A e k R xs y S0 Tn z Q d5 db da ds v0 v1 v5 v2 vb x w 3):∃ a m,v2=.slice a (xs++[y]).length m:=by
 obtain ⟨S1,b,q,_,_,_,_,_,_,_,⟨a,m,rfl,_⟩,_⟩:=h
 exact ⟨a,m,rfl⟩
theorem anP.bld (h:anP w0 X A e k R xs y S0 Tn z Q d5 db da ds v0 v1 v5 v2 vb x w 3) {vb':Value} (hQ:∀ S1,Ext w0.heap.size X S0 S1->RdSl S1 k (R S1) v2 (xs++[y])->Q S1 vb'):anP w0 X A e k R xs y S0 Tn z Q d5 true da ds v0 v1 v5 v2 vb' x w 3:=by
 obtain ⟨S1,b,q,h1,h2,_,h4,h5,h6,h7,h8,h9⟩:=h
 exact ⟨S1,b,q,h1,h2,fun _=>hQ S1 h1 h8,h4,h5,h6,h7,h8,h9⟩
theorem anP.val (h:anP w0 X A e k R xs y S0 Tn z Q d5 db da ds v0 v1 v5 v2 vb x w n) (hd:db=true):∃ S1,Q S1 vb:=by
 obtain ⟨S1,b,q,_,_,h3,_⟩:=h
 exact ⟨S1,h3 hd⟩
theorem an0 {T:TypeId} {by_:Nat} {zv:Value} (h:anP w0 X A e k R xs y S0 Tn z Q d5 db da ds v0 v1 v5 v2 vb x w 0) (hT:fQ P T=some (e,k,by_,zv))
  (hk:∀ v w',anP w0 X A e k R xs y S0 Tn z Q d5 db da ds v v1 v5 v2 vb x w' 1->K v w'):Run P (bt T 0 []) w K:=by
 obtain ⟨S1,b,q,h1,h2,h3,h4,h5,h6,h7,h8⟩:=h
 exact RQ h8 hT fun v w' h=>hk v w' ⟨S1,b,q,h1,h2,h3,h4,h5,h6,h7,h⟩
theorem an3 {T ty:TypeId} {by_:Nat} {zv u:Value} {cs:List Bool} (hR:∀ S S' cs x,Sle S S'->R S cs x->R S' cs x) (h:anP w0 X A e k R xs y S0 Tn z Q d5 db da ds v0 v1 v5 v2 vb x w 1) (hT:fQ P T=some (e,k,by_,zv)) (hk0:0<k) (hu:RdSl S0 k (R S0) u xs)
  (hlen:∀ S cs y,R S cs y->cs.length=k) (ho:∀ S cs y,R S cs y->∀ c∈cs,c.oneCell'=true) (hl:xs.length<=4294967296) (hby:by_<=32768)
  (hk:∀ v w',anP w0 X A e k R xs y S0 Tn z Q d5 db da ds v0 v v5 v2 vb x w' 2->K v w'):Run P (bF .append #[T,T] ty cs [v0,u]) w K:=by
 obtain ⟨S1,b,q,h1,h2,h3,h4,h5,h6,h7,h8⟩:=h
 exact RV h8 hT hk0 (hu.mono h1.1 fun _ _ h=>hR _ _ _ _ h1.1 h) (hlen S1) (ho S1) hl hby fun v w' h=>hk v w' ⟨S1,b,q,h1,h2,h3,h4,h5,h6,h7,h⟩
theorem an5 {T:TypeId} {by_:Nat} {zv:Value} {cs:List Value} (hR:∀ S S' cs x,Sle S S'->R S cs x->R S' cs x) (hQ:∀ S S' v,Sle S S'->Q S v->Q S' v) (h:anP w0 X A e k R xs y S0 Tn z Q d5 db da ds v0 v1 v5 v2 vb x w n) (hT:fQ P T=some (e,k,by_,zv)) (hk0:0<k) (hk24:k<=65536)
  {v:Value} (hvc:v.cells=cs.toArray) (hy:R S0 cs y) (hlen:∀ S cs y,R S cs y->cs.length=k)
  (hk:∀ v w',anP w0 X A e k R xs y S0 Tn z Q true db da ds v0 v1 v v2 vb x w' n->K v w'):Run P (bt T 1 [(0,v)]) w K:=by
 obtain ⟨S1,bb,q,h1,h2,h3,h4,h5,h6,h7,h8⟩:=h
 obtain ⟨B,hI,hback⟩:=h8.ex hR
 have hl:=hlen _ _ _ hy
 refine dQ hI hT (by rw [hvc]; simpa using hl) hk24 hk0 fun b w' hI=>?_
 obtain ⟨S2,hI,hE,hb⟩:=Inv.pub1 hI
 rw [hvc] at hb
 exact hk _ w' ⟨S2,bb,q,h1.trans hE,fun _=>RdSl.single hb hl (hR _ _ _ _ (h1.trans hE).1 hy),fun e=>hQ _ _ _ hE.1 (h3 e),h4,h5,h6,fun e=>hQ _ _ _ hE.1 (h7 e),hback _ S2 w' hE.1 hI⟩
theorem an6 {T ty:TypeId} {by_:Nat} {zv:Value} {cs:List Bool} (hR:∀ S S' cs x,Sle S S'->R S cs x->R S' cs x) (hQ:∀ S S' v,Sle S S'->Q S v->Q S' v) (h:anP w0 X A e k R xs y S0 Tn z Q d5 db da ds v0 v1 v5 v2 vb x w 2) (hd:d5=true) (hT:fQ P T=some (e,k,by_,zv)) (hk0:0<k)
  (hlen:∀ S cs y,R S cs y->cs.length=k) (ho:∀ S cs y,R S cs y->∀ c∈cs,c.oneCell'=true) (hl:xs.length+1<=4294967296) (hby:by_<=32768)
  (hk:∀ v w',anP w0 X A e k R xs y S0 Tn z Q d5 db da ds v0 v1 v5 v vb x w' 3->K v w'):Run P (bF .append #[T,T] ty cs [v1,v5]) w K:=by
 obtain ⟨S1,b,q,h1,h2,h3,h4,h5,h6,h7,h8⟩:=h
 exact R6 hR h8 hT hk0 (h2 hd) (hlen S1) (ho S1) hl hby fun v S' w' hE h=>hk v w' ⟨S',b,q,h1.trans hE,fun e=>(h2 e).mono hE.1 fun _ _ h=>hR _ _ _ _ hE.1 h,fun e=>hQ _ _ _ hE.1 (h3 e),h4,h5,h6,fun e=>hQ _ _ _ hE.1 (h7 e),h⟩
theorem anP.alloc {ty:TypeId} {zv:Value} (hR:∀ S S' cs x,Sle S S'->R S cs x->R S' cs x) (h:anP w0 X A e k R xs y S0 Tn z Q d5 db da ds v0 v1 v5 v2 vb x w n) (hd:da=false) (hz:fC P Tn=some zv) (hzc:zv.cells=z)
  (hk:∀ v w',anP w0 X A e k R xs y S0 Tn z Q d5 db true ds v0 v1 v5 v2 vb v w' n->K v w'):Run P (sOp (.alloc Tn) ty) w K:=by
 obtain ⟨S1,b,q,h1,h2,h3,h4,h5,h6,h7,h8⟩:=h
 have hds:ds=false:=Bool.eq_false_iff.2 fun e=>by rw [h5 e] at hd; cases hd
 rw [hd,cond_false,List.append_nil] at h8
 obtain ⟨B,hI,hback⟩:=h8.ex hR
 refine aG hI hz fun b w' hI=>hk _ w' ⟨S1,b,z,h1,h2,h3,fun _=>rfl,fun _=>rfl,fun _=>rfl,fun e=>(by rw [hds] at e; cases e),?_⟩
 rw [cond_true,<- hzc]
 refine hback _ S1 w' (Sle.refl _) (hI.perm ?_)
 rw [List.append_assoc,List.append_assoc]
 exact List.Perm.append_left _ List.perm_append_comm
theorem anP.store {ty:TypeId} {m:Nat} {cs:Array Value} (hR:∀ S S' cs x,Sle S S'->R S cs x->R S' cs x) (h:anP w0 X A e k R xs y S0 Tn z Q d5 db da ds v0 v1 v5 v2 vb x w n) (hd:da=true) (hs:ds=false) (hT:lm P Tn=some m) (hn:cs.size=m) (hz:z.size=m)
  (h1c:∀ u∈cs.toList,u.oneCell'=true) (hdb:db=true) (hvb:vb=.agg cs)
  (hk:∀ w',anP w0 X A e k R xs y S0 Tn z Q d5 db da true v0 v1 v5 v2 vb x w' n->K undef w'):Run P (sOp (.store Tn (.const x) (.const (.agg cs))) ty) w K:=by
 obtain ⟨S1,b,q,h1,h2,h3,h4,h5,h6,h7,h8⟩:=h
 rw [hd,cond_true,h6 hs] at h8
 rw [h4 hd]
 obtain ⟨B,hI,hback⟩:=h8.ex hR
 have hi:(A++[Item.blk b (.cells z Tn)]++B)[A.length]?=some (.blk b (.cells z Tn)):=by simp
 refine ao (E:=Tn) hI A.length hi hT hn hz h1c fun w' hI=>?_
 have e2:(A++[Item.blk b (.cells z Tn)]++B).set A.length (.blk b (.cells cs Tn))=A++[.blk b (.cells cs Tn)]++B:=by simp
 rw [e2] at hI
 refine hk w' ⟨S1,b,cs,h1,h2,h3,h4,fun _=>hd,fun e=>(by cases e),fun _=>hvb ▸ h3 hdb,?_⟩
 rw [hd,cond_true]
 exact hback _ S1 w' (Sle.refl _) hI
end
end
section
open Go Go.RowKit
abbrev zSe:Array Value:=#[.slice none 0 0,.slice none 0 0,.slice none 0 0,.slice none 0 0,.slice none 0 0]
def Rz (s:Se) (o:Option Se):Value->List Item->ae->Prop:=fun q I' S'=>I'=[]/\∃ cs:List Value,q=.tuple #[.agg cs.toArray,.bool o.isSome]/\RdSe S' cs (o.getD s)
theorem RB {a b c d e:Value}:∀ (j:Nat) (v:Value),([a,b,c]:List Value)[j]?=some v->(#[a,b,c,d,e]:Array Value)[0+j]?=some v
 | 0,v,h=>by simpa using h
 | 1,v,h=>by simpa using h
 | 2,v,h=>by simpa using h
 | n+3,v,h=>by simp at h
theorem Pb {a b c d e:Value} (h1:a.oneCell'=true) (h2:b.oneCell'=true) (h3:c.oneCell'=true) (h4:d.oneCell'=true) (h5:e.oneCell'=true):∀ x∈(#[a,b,c,d,e]:Array Value).toList,x.oneCell'=true:=by
 intro x hx
 simp only [List.mem_cons,List.not_mem_nil,or_false] at hx
 rcases hx with rfl|rfl|rfl|rfl|rfl <;> assumption
section
attribute [local irreducible] Run CondV aB aS
set_option maxHeartbeats 4000000 in
theorem se {p:List C} (hp:∀ cl∈p,vM cl) {k:Nat} (hk:k<=1000) {c:Ch} (hc:km c) (hr:okRk k c) {s:Se} {o:Option Se} (h:TakeR p s c o) (hn:s.st.chs.length<=1000) (hn2:s.steps.length<=1000) (hn3:s.saved.length<=1000)
  {S:ae} {u:Value} {ss cs:List Value} (hP:RdSl S 5 (RdC S) u p) (hs:RdSe S ss s) (hcc:RdCh S cs c):Tri Tryz.prog Jq [u,.agg ss.toArray,.agg cs.toArray] [] S (Rz s o):=by
 intro w hI
 obtain ⟨gs,sb,sc,st,sv,rfl,hsg,hsb,hsc,hst,hsv⟩:=id hs
 obtain ⟨sca,scc,rfl,_⟩:=id hsc
 obtain ⟨sta,stc,rfl,_⟩:=id hst
 obtain ⟨sva,svc,rfl,_⟩:=id hsv
 obtain ⟨pa,pcap,rfl,_⟩:=id hP
 obtain ⟨hd,rv,lv,bv,rfl,hgo,hre,hle,hbi⟩:=id hcc
 have hgo0:=hgo
 obtain ⟨kv,rfl,_⟩:=RdT.iff.1 hgo
 refine wH.2 ?_
 dsimp only[wH,cX]
 refine be hI fun b4 w' hI=>?_
 refine be hI fun b5 w' hI=>?_
 refine aG hI dz fun b6 w' hI=>?_
 obtain ⟨B4,hB4⟩:∃ B:Item,B=.blk b4 (.cells #[gs,sb,.slice sca s.st.chs.length scc,.slice sta s.steps.length stc,.slice sva s.saved.length svc] aN):=⟨_,rfl⟩
 obtain ⟨B5,hB5⟩:∃ B:Item,B=.blk b5 (.cells #[.int .i64 c.goal.kind,.int .i64 c.goal.n,.string c.goal.name,kv,rv,lv,bv] cq):=⟨_,rfl⟩
 obtain ⟨B6,hB6⟩:∃ B:Item,B=.blk b6 (.cells zSe aN):=⟨_,rfl⟩
 have e4:=congrArg some hB4
 have e5:=congrArg some hB5
 have e6:=congrArg some hB6
 have hI:Inv w [] [B4,B5,B6] S w':=by rw [hB4,hB5,hB6]; exact hI
 have hs6:RdS6 S [gs,sb,.slice sca s.st.chs.length scc] s.st:=⟨_,_,_,rfl,hsg,hsb,hsc⟩
 obtain ⟨o1,hF,ho⟩:∃ o1,FirstL p s.st.chs c c.left o1/\((o1=none/\o=none) ∨ ∃ u i l,o1=some (u,i,l)/\o=some (iH p s c u i l)):=by
  cases h with
  | no h=>exact ⟨_,h,.inl ⟨rfl,rfl⟩⟩
  | yes h=>exact ⟨_,h,.inr ⟨_,_,_,rfl,rfl⟩⟩
 refine ai bJ ?_
 refine b0 hI 0 [gs,sb,.slice sca s.st.chs.length scc] bY e4 rfl RB ?_
 refine aq hI 1 dt e5 rfl ?_
 refine Run.call0E DC Dr hI (CF hp hk hc hr hF hn hP hs6 hcc) fun v' I' S1 w'=>?_
 rintro ⟨rfl,ns,lv1,rfl,hns,hl1⟩ hE hI
 have hI:Inv w [] [B4,B5,B6] S1 w':=hI
 have hl3:=hns.length
 refine aj (v:=.agg ns.toArray) rfl ?_
 refine aj (v:=.int .i64 (o1.elim (-1) (·.2.1))) rfl ?_
 refine aj (v:=lv1) rfl ?_
 refine aj (v:=.bool o1.isSome) rfl ?_
 refine aG hI fR fun b8 w' hI=>?_
 have hI:Inv w [] [B4,B5,B6,.blk b8 (.cells zSt bK)] S1 w':=hI
 refine ao hI 3 rfl bY (by simpa using hl3) rfl (by simpa using hns.one) fun w' hI=>?_
 have hI:Inv w [] [B4,B5,B6,.blk b8 (.cells ns.toArray bK)] S1 w':=hI
 refine bM ?_
 rcases ho with ⟨rfl,rfl⟩|⟨u1,i,l,rfl,rfl⟩
 ·refine az (fun _=>?_) (fun hb=>by cases hb)
  refine aq hI 0 aQ e4 rfl ?_
  refine ao (cs:=#[gs,sb,.slice sca s.st.chs.length scc,.slice sta s.steps.length stc,.slice sva s.saved.length svc]) hI 2 e6 aQ rfl rfl (by simpa using hs.one) fun w' hI=>?_
  refine aW hI 2 aQ rfl rfl ?_
  exact ⟨_,[],S1,rfl,hI.nil,hE,rfl,_,rfl,hs.mono hE.1⟩
 refine az (fun hb=>by cases hb) (fun _=>?_)
 simp only [Option.elim_some] at hns hl1 ⊢
 obtain ⟨n,cl,stt,rfl,hcl,hu1,_⟩:=hF.of _ _ _ rfl
 obtain ⟨gu,bu,cu,rfl,hgu,hbu,hcu⟩:=hns
 have hnp:n<p.length:=(List.getElem?_eq_some_iff.1 hcl).1
 have hpc:p[n]=cl:=(List.getElem?_eq_some_iff.1 hcl).2
 have hm:=hp cl (List.mem_of_getElem? hcl)
 have hln:=hm.ln
 obtain ⟨pb,po,pc2,pc,pE,pfz,hpv,hpS,hpR⟩:=hP.at_ hnp
 have hpa:pa=some ⟨pb,po,none⟩:=by
  simp only [Value.slice.injEq] at hpv
  exact hpv.1
 rw [hpc] at hpR
 obtain ⟨kv1,kb1,hce,hh,hb⟩:=hpR.cells
 have hcell:pc[po+n * 5+4]?=some kb1:=ar hce 4 _ rfl
 have hpS1:=hE.1 _ _ hpS
 obtain ⟨kba,kbc,rfl,_⟩:=id hb
 have hix:∀ {ty:TypeId} {K:Value->World->Prop} {w':World},K (.pointer (some ⟨pb,po+n * 5,none⟩)) w'->Run Tryz.prog (sOp (.indexAddr Ct (.const (.slice pa p.length pcap)) (.const (.int .i64 (n:Int)))) ty) w' K:=fun hk=>by rw [hpa]; exact au bz hnp hk
 obtain ⟨B8,hB8⟩:∃ B:Item,B=.blk b8 (.cells #[gu,bu,cu] bK):=⟨_,rfl⟩
 have e8:=congrArg some hB8
 have hI:Inv w [] [B4,B5,B6,B8] S1 w':=by rw [hB8]; exact hI
 obtain ⟨sp,hsp⟩:∃ sp:Sp,sp=⟨c.goal,(n:Int),(cl.body.length:Int)⟩:=⟨_,rfl⟩
 have hspr:RdSp S1 [.int .i64 c.goal.kind,.int .i64 c.goal.n,.string c.goal.name,kv,.int .i64 (n:Int),.int .i64 (cl.body.length:Int)] sp:=by
  rw [hsp]
  exact ⟨_,rfl,hgo0.mono hE.1⟩
 have hst1:=hst.monoSp hE.1
 refine ⟨fun D JI mh kw lW jJ j1 jG na ij gX nL jL kz pz mt oE jM jd lw iB mJ w_=>Fx D 0 [mJ=.agg #[gu,bu,cu],True,lw=.pointer (some ⟨b4,3,none⟩),jd=.slice sta s.steps.length stc,True,oE=.pointer (some ⟨b5,0,none⟩),mt=.agg #[.int .i64 c.goal.kind,.int .i64 c.goal.n,.string c.goal.name,kv],pz=.int .i64 (n:Int),kz=.slice pa p.length pcap,jL=.int .i64 (n:Int),nL=.pointer (some ⟨pb,po+n * 5,none⟩),gX=.pointer (some ⟨pb,po+n * 5+4,none⟩),ij=.slice kba cl.body.length kbc,na=.int .i64 (cl.body.length:Int),jG=.agg #[.int .i64 c.goal.kind,.int .i64 c.goal.n,.string c.goal.name,kv,.int .i64 (n:Int),.int .i64 (cl.body.length:Int)],True,True,lW=.pointer (some ⟨b4,4,none⟩),kw=.slice sva s.saved.length svc,True,True,True]/\∃ n_:Nat,n_<=3/\D 1=decide (1<=n_)/\D 4=decide (2<=n_)/\D 16=decide (3<=n_)/\(anP w [] [B4,B5,B6,B8] gZ 6 RdSp s.steps sp S1 aN zSe (fun S v=>∃ u,v=.agg #[gu,bu,cu,u,.slice sva s.saved.length svc]/\RdSl S 6 (RdSp S) u (s.steps++[sp])) (D 15) (D 19) (D 20) (D 21) iB jM j1 jJ mh JI w_ n_),⟨Fx.nil _ _,⟨0,Nat.zero_le _,rfl,rfl,rfl,anP.mk hI.draw _ _ _ _ _ _⟩⟩,⟨?_,?_,?_,?_,?_,?_,?_,?_,?_,?_,?_,?_,?_,?_,?_,?_,?_,?_,?_,?_,?_,?_,trivial⟩,?_⟩
 all_goals (intro D bo; intros; rename_i JI mh kw lW jJ j1 jG na ij gX nL jL kz pz mt oE jM jd lw iB mJ w_ hA_; have hF_:=hA_.1; obtain ⟨⟨bU,bV,bH,bR,bZ,bI,bB,ct,cF,cK,bG,bX,cI,dq,cC,dA,dH,dV,fu,ew,fP,iq,_⟩,⟨n_,ln_,e1_,e2_,e3_,hS⟩⟩:=hA_)
 ·obtain ⟨S2,R,hE2,hI⟩:=hS.inv; refine aq hI 3 bY e8 rfl ?_
  exact ⟨hF_.set 0 rfl,⟨n_,ln_,e1_,e2_,e3_,hS⟩⟩
 ·obtain rfl:n_=0:=tY e1_ bo
  refine an0 hS eD fun v w_ hS=>?_
  exact ⟨hF_.set 1 (by first|assumption|trivial),⟨1,by decide,rfl,(by first|exact e2_|rfl),(by first|exact e3_|rfl),hS⟩⟩
 ·refine ai fI ?_
  exact ⟨hF_.set 2 rfl,⟨n_,ln_,e1_,e2_,e3_,hS⟩⟩
 ·obtain rfl:=bH ‹_›
  obtain ⟨S2,R,hE2,hI⟩:=hS.inv; refine aA hI 0 gC e4 rfl ?_
  exact ⟨hF_.set 3 rfl,⟨n_,ln_,e1_,e2_,e3_,hS⟩⟩
 ·have Ti:=bV ‹_›
  obtain rfl:=bR ‹_›
  obtain rfl:n_=1:=fL e1_ ‹D 1=true› e2_ bo
  refine an3 spM hS eD (by omega) hst1 spL spO (by omega) (by omega) fun v w_ hS=>?_
  exact ⟨hF_.set 4 (by first|assumption|trivial),⟨2,by decide,(by first|exact e1_|rfl),rfl,(by first|exact e3_|rfl),hS⟩⟩
 ·refine ai kU ?_
  exact ⟨hF_.set 5 rfl,⟨n_,ln_,e1_,e2_,e3_,hS⟩⟩
 ·obtain rfl:=bI ‹_›
  obtain ⟨S2,R,hE2,hI⟩:=hS.inv; refine b0 hI 1 [.int .i64 c.goal.kind,.int .i64 c.goal.n,.string c.goal.name,kv] ac e5 rfl OR ?_
  exact ⟨hF_.set 6 rfl,⟨n_,ln_,e1_,e2_,e3_,hS⟩⟩
 ·exact ⟨hF_.set 7 rfl,⟨n_,ln_,e1_,e2_,e3_,hS⟩⟩
 ·exact ⟨hF_.set 8 rfl,⟨n_,ln_,e1_,e2_,e3_,hS⟩⟩
 ·exact ⟨hF_.set 9 rfl,⟨n_,ln_,e1_,e2_,e3_,hS⟩⟩
 ·obtain rfl:=cF ‹_›
  obtain rfl:=cK ‹_›
  refine hix ?_
  exact ⟨hF_.set 10 rfl,⟨n_,ln_,e1_,e2_,e3_,hS⟩⟩
 ·obtain rfl:=bG ‹_›
  refine ai bi ?_
  exact ⟨hF_.set 11 rfl,⟨n_,ln_,e1_,e2_,e3_,hS⟩⟩
 ·obtain rfl:=bX ‹_›
  obtain ⟨S2,R,hE2,hI⟩:=hS.inv; refine cz ag ((hI.cellS (hE2.1 _ _ hpS1)).trans hcell) ?_
  exact ⟨hF_.set 12 rfl,⟨n_,ln_,e1_,e2_,e3_,hS⟩⟩
 ·obtain rfl:=cI ‹_›
  refine dX af ?_
  exact ⟨hF_.set 13 rfl,⟨n_,ln_,e1_,e2_,e3_,hS⟩⟩
 ·obtain rfl:=bB ‹_›
  obtain rfl:=ct ‹_›
  obtain rfl:=dq ‹_›
  refine Na ?_
  exact ⟨hF_.set 14 rfl,⟨n_,ln_,e1_,e2_,e3_,hS⟩⟩
 ·obtain rfl:=cC ‹_›
  refine an5 spM (fun _ _ _ hs hq=>hq.imp fun _ h=>⟨h.1,h.2.monoSp hs⟩) hS eD (by omega) (by omega) rfl hspr spL fun v w_ hS=>?_
  exact ⟨hF_.set 15 (by first|assumption|trivial),⟨n_,ln_,e1_,e2_,e3_,hS⟩⟩
 ·have QH:=bZ ‹_›
  have Np:=dA ‹_›
  obtain rfl:n_=2:=fL e2_ ‹D 4=true› e3_ bo
  refine an6 spM (fun _ _ _ hs hq=>hq.imp fun _ h=>⟨h.1,h.2.monoSp hs⟩) hS ‹D 15=true› eD (by omega) spL spO (by omega) (by omega) fun v w_ hS=>?_
  exact ⟨hF_.set 16 (by first|assumption|trivial),⟨3,by decide,(by first|exact e1_|rfl),(by first|exact e2_|rfl),rfl,hS⟩⟩
 ·refine ai fH ?_
  exact ⟨hF_.set 17 rfl,⟨n_,ln_,e1_,e2_,e3_,hS⟩⟩
 ·obtain rfl:=dV ‹_›
  obtain ⟨S2,R,hE2,hI⟩:=hS.inv; refine aA hI 0 gL e4 rfl ?_
  exact ⟨hF_.set 18 rfl,⟨n_,ln_,e1_,e2_,e3_,hS⟩⟩
 ·obtain rfl:=bU ‹_›
  have QE:=dH ‹_›
  obtain rfl:=fu ‹_›
  have hn3:=lx ln_ e3_ ‹D 16=true›
  rw [hn3] at hS
  obtain ⟨ra,rm,hx43⟩:=hS.res
  rw [hx43]
  refine ED ?_
  have hS:=hS.bld (vb':=.agg #[gu,bu,cu,jJ,.slice sva s.saved.length svc]) fun S2 _ h=>⟨_,rfl,h⟩
  rw [hx43] at hS
  rw [<- hn3] at hS
  exact ⟨hF_.set 19 (by first|assumption|trivial),⟨n_,ln_,e1_,e2_,e3_,hS⟩⟩
 ·refine anP.alloc spM hS bo dz rfl fun v w_ hS=>?_
  exact ⟨hF_.set 20 (by first|assumption|trivial),⟨n_,ln_,e1_,e2_,e3_,hS⟩⟩
 ·have Th:=fP ‹_›
  have Tg:=ew ‹_›
  obtain ⟨S2,uu,rfl,huu⟩:=hS.val ‹D 19=true›
  refine anP.store spM hS ‹D 20=true› bo aQ rfl rfl (Pb hgu.sl hbu.sl hcu.sl huu.sl rfl) ‹D 19=true› rfl fun w_ hS=>?_
  exact ⟨hF_.set 21 trivial,⟨n_,ln_,e1_,e2_,e3_,hS⟩⟩
 obtain rfl:n_=3:=lx ln_ e3_ ‹D 16=true›
 have SW:D 20=true:=by assumption
 have Ta:D 21=true:=by assumption
 clear e1_ e2_ e3_
 rw [SW,Ta] at hS
 obtain ⟨S2,b12,q12,hE2,rfl,⟨su,hq12,hsu⟩,hI⟩:=hS.fin
 obtain rfl:=Value.agg.inj hq12
 have hE02:=hE.trans hE2
 have hcu0:RdSl S2 7 (RdCh S2) cu s.st.chs:=by
  have:=hcu.monoCh hE2.1
  rw [hu1] at this
  simpa only [lV,if_pos,List.append_nil] using this
 obtain ⟨cua,cuc,rfl,_⟩:=id hcu0
 refine ⟨fun w'=>∃ S5 cc vv,Ext w.heap.size [] S2 S5/\RdSl S5 7 (RdCh S5) cc (s.st.chs++(if l=[] then [] else [⟨c.goal,c.rest,l,c.binds⟩]))/\RdSl S5 1 (RdVS S5) vv (s.saved++(if l=[] then [] else [s.steps]))/\
  Inv w [] [B4,B5,B6,B8,.blk b12 (.cells #[gu,bu,cc,su,vv] aN)] S5 w',?_,?_⟩
 ·refine aD hl1 cQ ?_
  refine dv ?_
  refine aI (fun hmo=>?_) (fun hmo=>?_)
  ·have hne:l≠[]:=fun e=>by rw [e] at hmo; simp at hmo
   rw [if_neg hne,if_neg hne]
   obtain ⟨mc,hmc⟩:∃ mc:Ch,mc=⟨c.goal,c.rest,l,c.binds⟩:=⟨_,rfl⟩
   rw [<- hmc]
   have hI:Inv w [] [B4,B5,B6,B8,.blk b12 (.cells #[gu,bu,.slice cua s.st.chs.length cuc,su,.slice sva s.saved.length svc] aN)] S2 w_:=hI
   refine aq hI 1 dt e5 rfl ?_
   refine aG hI j9 fun b13 w' hI=>?_
   have hI:Inv w [] [B4,B5,B6,B8,.blk b12 (.cells #[gu,bu,.slice cua s.st.chs.length cuc,su,.slice sva s.saved.length svc] aN),.blk b13 (.cells zCh cq)] S2 w':=hI
   refine ao hI 5 rfl dt rfl rfl (by simpa using hcc.one) fun w' hI=>?_
   refine cG hI 5 rfl dk eG rfl (by obtain ⟨a,m,rfl,_⟩:=hl1; rfl) hl1.sl fun w' hI=>?_
   obtain ⟨B13,hB13⟩:∃ B:Item,B=.blk b13 (.cells #[.int .i64 c.goal.kind,.int .i64 c.goal.n,.string c.goal.name,kv,rv,lv1,bv] cq):=⟨_,rfl⟩
   have e13:=congrArg some hB13
   have hI:Inv w [] ([B4,B5,B6,B8,B13]++[.blk b12 (.cells #[gu,bu,.slice cua s.st.chs.length cuc,su,.slice sva s.saved.length svc] aN)]) S2 w':=by
    rw [hB13]
    exact hI.perm ((((List.Perm.swap _ _ _).cons _).cons _).cons _ |>.cons _)
   have hmr:RdCh S2 [.int .i64 c.goal.kind,.int .i64 c.goal.n,.string c.goal.name,kv,rv,lv1,bv] mc:=by
    rw [hmc]
    exact ⟨_,_,_,_,rfl,hgo0.mono hE02.1,hre.monoG hE02.1,hl1.mono hE2.1 fun _ _ h=>h,hbi.monoO hE02.1⟩
   have hsc2:=hsc.monoCh hE02.1
   refine ⟨fun D tK vZ tN tM sY rH tE rB sB pj w_=>Fx D 0 [True,sB=.pointer (some ⟨b4,0,none⟩),rB=.pointer (some ⟨b4,2,none⟩),tE=.slice sca s.st.chs.length scc,True,sY=.agg #[.int .i64 c.goal.kind,.int .i64 c.goal.n,.string c.goal.name,kv,rv,lv1,bv],True,True,vZ=.pointer (some ⟨b12,0,none⟩),tK=.pointer (some ⟨b12,2,none⟩),True]/\∃ n_:Nat,n_<=3/\D 0=decide (1<=n_)/\D 4=decide (2<=n_)/\D 7=decide (3<=n_)/\(apP w [] (fun cv=>[B4,B5,B6,B8,B13]++[.blk b12 (.cells #[gu,bu,cv,su,.slice sva s.saved.length svc] aN)]) (.slice cua s.st.chs.length cuc) cq 7 RdCh s.st.chs mc S2 (D 6) (D 10) pj rH tM tN w_ n_),⟨Fx.nil _ _,⟨0,Nat.zero_le _,rfl,rfl,rfl,apP.mk hI.draw _ _ _ _⟩⟩,⟨?_,?_,?_,?_,?_,?_,?_,?_,?_,?_,?_,trivial⟩,?_⟩
   all_goals (intro D bo; intros; rename_i tK vZ tN tM sY rH tE rB sB pj w_ hA_; have hF_:=hA_.1; obtain ⟨⟨bU,bV,bH,bR,bZ,bI,bB,ct,cF,cK,bG,_⟩,⟨n_,ln_,e1_,e2_,e3_,hS⟩⟩:=hA_)
   ·obtain rfl:n_=0:=tY e1_ bo
    refine P4 hS eq fun v w_ hS=>?_
    exact ⟨hF_.set 0 (by first|assumption|trivial),⟨1,by decide,rfl,(by first|exact e2_|rfl),(by first|exact e3_|rfl),hS⟩⟩
   ·refine ai bJ ?_
    exact ⟨hF_.set 1 rfl,⟨n_,ln_,e1_,e2_,e3_,hS⟩⟩
   ·obtain rfl:=bV ‹_›
    refine ai dh ?_
    exact ⟨hF_.set 2 rfl,⟨n_,ln_,e1_,e2_,e3_,hS⟩⟩
   ·obtain rfl:=bH ‹_›
    obtain ⟨S5,cv,R,hE5,hI⟩:=hS.inv; refine aA hI 0 dl e4 rfl ?_
    exact ⟨hF_.set 3 rfl,⟨n_,ln_,e1_,e2_,e3_,hS⟩⟩
   ·have SR:=bU ‹_›
    obtain rfl:=bR ‹_›
    obtain rfl:n_=1:=fL e1_ ‹D 0=true› e2_ bo
    refine PG chM hS eq (by omega) hsc2 chL chO (by omega) (by omega) fun v w_ hS=>?_
    exact ⟨hF_.set 4 (by first|assumption|trivial),⟨2,by decide,(by first|exact e1_|rfl),rfl,(by first|exact e3_|rfl),hS⟩⟩
   ·obtain ⟨S5,cv,R,hE5,hI⟩:=hS.inv; refine aq hI 4 dt e13 rfl ?_
    exact ⟨hF_.set 5 rfl,⟨n_,ln_,e1_,e2_,e3_,hS⟩⟩
   ·obtain rfl:=bI ‹_›
    refine Qs chM hS eq (by omega) (by omega) rfl hmr chL fun v w_ hS=>?_
    exact ⟨hF_.set 6 (by first|assumption|trivial),⟨n_,ln_,e1_,e2_,e3_,hS⟩⟩
   ·have QH:=bZ ‹_›
    have Mh:=bB ‹_›
    obtain rfl:n_=2:=fL e2_ ‹D 4=true› e3_ bo
    refine P1 chM hS ‹D 6=true› eq (by omega) chL chO (by omega) (by omega) fun v w_ hS=>?_
    exact ⟨hF_.set 7 (by first|assumption|trivial),⟨3,by decide,(by first|exact e1_|rfl),(by first|exact e2_|rfl),rfl,hS⟩⟩
   ·refine ai bJ ?_
    exact ⟨hF_.set 8 rfl,⟨n_,ln_,e1_,e2_,e3_,hS⟩⟩
   ·obtain rfl:=cF ‹_›
    refine ai dh ?_
    exact ⟨hF_.set 9 rfl,⟨n_,ln_,e1_,e2_,e3_,hS⟩⟩
   ·obtain rfl:=cK ‹_›
    have zQ:=ct ‹_›
    have hn3:=lx ln_ e3_ ‹D 7=true›
    have hS3:=hS
    rw [hn3] at hS3
    rw [bo] at hS3
    refine P2 (C:=fun cv=>#[gu,bu,cv,su,.slice sva s.saved.length svc]) (fun _=>rfl) hS3 dl (fun _ _=>rfl) (fun _=>show 2<5 by decide) fun w_ hS4=>?_
    have hS:apP w [] (fun cv=>[B4,B5,B6,B8,B13]++[.blk b12 (.cells #[gu,bu,cv,su,.slice sva s.saved.length svc] aN)]) (.slice cua s.st.chs.length cuc) cq 7 RdCh s.st.chs mc S2 (aF D 10 6) (aF D 10 10) pj rH tM tN w_ n_:=by rw [hn3]; exact hS4
    exact ⟨hF_.set 10 trivial,⟨n_,ln_,e1_,e2_,e3_,hS⟩⟩
   obtain rfl:n_=3:=lx ln_ e3_ ‹D 7=true›
   have xV:D 10=true:=by assumption
   clear e1_ e2_ e3_
   rw [xV] at hS
   obtain ⟨S5,cc,hE5,hcc5,hI⟩:=hS.fin
   have hE05:=hE02.trans hE5
   have hsv5:=hsv.monoVS hE05.1
   have hys:RdVS S5 [.slice sta s.steps.length stc] s.steps:=⟨_,rfl,hst.monoSp hE05.1⟩
   refine ⟨fun D Bw Ag Aq Eh LV KR Aw Co tH w_=>Fx D 0 [True,Co=.pointer (some ⟨b4,4,none⟩),Aw=.slice sva s.saved.length svc,True,LV=.pointer (some ⟨b4,3,none⟩),Eh=.slice sta s.steps.length stc,True,True,Bw=.pointer (some ⟨b12,4,none⟩),True]/\∃ n_:Nat,n_<=3/\D 0=decide (1<=n_)/\D 3=decide (2<=n_)/\D 7=decide (3<=n_)/\(apP w [] (fun cv=>[B4,B5,B6,B8,B13]++[.blk b12 (.cells #[gu,bu,cc,su,cv] aN)]) (.slice sva s.saved.length svc) pQ 1 RdVS s.saved s.steps S5 (D 6) (D 9) tH KR Aq Ag w_ n_),⟨Fx.nil _ _,⟨0,Nat.zero_le _,rfl,rfl,rfl,apP.mk hI.draw _ _ _ _⟩⟩,⟨?_,?_,?_,?_,?_,?_,?_,?_,?_,?_,trivial⟩,?_⟩
   all_goals (intro D bo; intros; rename_i Bw Ag Aq Eh LV KR Aw Co tH w_ hA_; have hF_:=hA_.1; obtain ⟨⟨bU,bV,bH,bR,bZ,bI,bB,ct,cF,cK,_⟩,⟨n_,ln_,e1_,e2_,e3_,hS⟩⟩:=hA_)
   ·obtain rfl:n_=0:=tY e1_ bo
    refine P4 hS jh fun v w_ hS=>?_
    exact ⟨hF_.set 0 (by first|assumption|trivial),⟨1,by decide,rfl,(by first|exact e2_|rfl),(by first|exact e3_|rfl),hS⟩⟩
   ·refine ai fH ?_
    exact ⟨hF_.set 1 rfl,⟨n_,ln_,e1_,e2_,e3_,hS⟩⟩
   ·obtain rfl:=bV ‹_›
    obtain ⟨S6,cv,R,hE6,hI⟩:=hS.inv; refine aA hI 0 gL e4 rfl ?_
    exact ⟨hF_.set 2 rfl,⟨n_,ln_,e1_,e2_,e3_,hS⟩⟩
   ·have SR:=bU ‹_›
    obtain rfl:=bH ‹_›
    obtain rfl:n_=1:=fL e1_ ‹D 0=true› e2_ bo
    refine PG vsM hS jh (by omega) hsv5 vsL vsO (by omega) (by omega) fun v w_ hS=>?_
    exact ⟨hF_.set 3 (by first|assumption|trivial),⟨2,by decide,(by first|exact e1_|rfl),rfl,(by first|exact e3_|rfl),hS⟩⟩
   ·refine ai fI ?_
    exact ⟨hF_.set 4 rfl,⟨n_,ln_,e1_,e2_,e3_,hS⟩⟩
   ·obtain rfl:=bZ ‹_›
    obtain ⟨S6,cv,R,hE6,hI⟩:=hS.inv; refine aA hI 0 gC e4 rfl ?_
    exact ⟨hF_.set 5 rfl,⟨n_,ln_,e1_,e2_,e3_,hS⟩⟩
   ·obtain rfl:=bI ‹_›
    refine Qs vsM hS jh (by omega) (by omega) rfl hys vsL fun v w_ hS=>?_
    exact ⟨hF_.set 6 (by first|assumption|trivial),⟨n_,ln_,e1_,e2_,e3_,hS⟩⟩
   ·have JJ:=bR ‹_›
    have Mh:=bB ‹_›
    obtain rfl:n_=2:=fL e2_ ‹D 3=true› e3_ bo
    refine P1 vsM hS ‹D 6=true› jh (by omega) vsL vsO (by omega) (by omega) fun v w_ hS=>?_
    exact ⟨hF_.set 7 (by first|assumption|trivial),⟨3,by decide,(by first|exact e1_|rfl),(by first|exact e2_|rfl),rfl,hS⟩⟩
   ·refine ai fH ?_
    exact ⟨hF_.set 8 rfl,⟨n_,ln_,e1_,e2_,e3_,hS⟩⟩
   ·obtain rfl:=cF ‹_›
    have zQ:=ct ‹_›
    have hn3:=lx ln_ e3_ ‹D 7=true›
    have hS3:=hS
    rw [hn3] at hS3
    rw [bo] at hS3
    refine P2 (C:=fun cv=>#[gu,bu,cc,su,cv]) (fun _=>rfl) hS3 gL (fun _ _=>rfl) (fun _=>show 4<5 by decide) fun w_ hS4=>?_
    have hS:apP w [] (fun cv=>[B4,B5,B6,B8,B13]++[.blk b12 (.cells #[gu,bu,cc,su,cv] aN)]) (.slice sva s.saved.length svc) pQ 1 RdVS s.saved s.steps S5 (aF D 9 6) (aF D 9 9) tH KR Aq Ag w_ n_:=by rw [hn3]; exact hS4
    exact ⟨hF_.set 9 trivial,⟨n_,ln_,e1_,e2_,e3_,hS⟩⟩
   obtain rfl:n_=3:=lx ln_ e3_ ‹D 7=true›
   have Fz:D 9=true:=by assumption
   clear e1_ e2_ e3_
   rw [Fz] at hS
   obtain ⟨S6,vv,hE6,hvv,hI⟩:=hS.fin
   exact ⟨S6,cc,vv,hE5.trans hE6,hcc5.monoCh hE6.1,hvv,hI.pick [true,true,true,true,false,true]⟩
  ·have hnil:l=[]:=List.eq_nil_of_length_eq_zero (by omega)
   rw [if_pos hnil,if_pos hnil,List.append_nil,List.append_nil]
   exact ⟨S2,_,_,Ext.refl _ _ _,hcu0,hsv.monoVS hE02.1,hI⟩
 intro _ _ _ _ _ _ _ _ _ _ _ _ _ _ _ _ _ _ _ _ _ _ _ _ _ _ w'
 rintro ⟨S5,cc,vv,hE5,hcc5,hvv,hI⟩
 have hE05:=hE02.trans hE5
 have hres:RdSe S5 [gu,bu,cc,su,vv] (iH p s c u1 n l):=by
  refine ⟨_,_,_,_,_,rfl,hgu.monoG (hE2.trans hE5).1,hbu.monoO (hE2.trans hE5).1,hcc5,?_,hvv⟩
  have e:(iH p s c u1 (n:Int) l).steps=s.steps++[sp]:=by
   rw [hsp]
   simp only [iH,Int.toNat_natCast,hcl,Option.elim_some]
  rw [e]
  exact hsu.monoSp hE5.1
 refine aq hI 4 aQ rfl rfl ?_
 refine ao (cs:=#[gu,bu,cc,su,vv]) hI 2 e6 aQ rfl rfl (by simpa using hres.one) fun w' hI=>?_
 refine aW hI 2 aQ rfl rfl ?_
 exact ⟨_,[],S5,rfl,hI.nil,hE05,rfl,_,rfl,hres⟩
end
end
section
open Go Go.RowKit
theorem BackR.inv {p:List C} {cs:List Ch} {ss:List (List Sp)} {o:Option Se} (h:BackR p cs ss o) (hne:cs≠[]):∃ cs' c ss' t o1,cs=cs'++[c]/\ss=ss'++[t]/\TakeR p ⟨⟨[],[],cs'⟩,t,ss'⟩ c o1/\
  ((∃ s,o1=some s/\o=some s) ∨ (o1=none/\BackR p cs' ss' o)):=by
 cases h with
 | nil=>exact absurd rfl hne
 | hit h=>exact ⟨_,_,_,_,_,rfl,rfl,h,.inl ⟨_,rfl,rfl⟩⟩
 | miss h h2=>exact ⟨_,_,_,_,_,rfl,rfl,h,.inr ⟨rfl,h2⟩⟩
theorem BackR.none {p:List C} {cs:List Ch} {ss:List (List Sp)} {o:Option Se} (h:BackR p cs ss o) (he:cs=[]):o=Option.none:=by
 cases h with
 | nil=>rfl
 | hit h=>simp at he
 | miss h h2=>simp at he
def Q6 (b:Nat) (w:World):Nat:=
 match w.heap[b]? with
 | some (Obj.cells c _ _)=>(match c[2]? with
  | some (Value.slice _ n _)=>n
  | _=>0)
 | _=>0
theorem LY {w0 w:World} {X:List Nat} {L:List Item} {S:ae} {c:Array Value} {a:Option Addr} {n m b i:Nat} {E:TypeId} (hI:Inv w0 X L S w) (hi:L[i]?=some (.blk b (.cells c E))) (hc:c[2]?=some (.slice a n m)):Q6 b w=n:=by
 have hb:w.heap[b]?=_:=hI.its _ (List.mem_of_getElem? hi)
 unfold Q6
 rw [hb]
 simp only [hc]
def Rx (o:Option Se):Value->List Item->ae->Prop:=fun q I' S'=>I'=[]/\∃ cs:List Value,q=.tuple #[.agg cs.toArray,.bool o.isSome]/\cs.length=5/\(∀ u∈cs,u.oneCell'=true)/\∀ t,o=some t->RdSe S' cs t
section
attribute [local irreducible] Run CondV aB aS
set_option maxHeartbeats 2000000 in
theorem CW {p:List C} (hp:∀ cl∈p,vM cl) {k:Nat} (hk:k<=1000) {s:Se} {o:Option Se} (h:BackR p s.st.chs s.saved o) (hcs:∀ c∈s.st.chs,km c/\okRk k c) (hn:s.st.chs.length<=1000) (hn3:s.saved.length=s.st.chs.length) (hv:∀ l∈s.saved,l.length<=1000)
  {S:ae} {u:Value} {ss:List Value} (hP:RdSl S 5 (RdC S) u p) (hs:RdSe S ss s):Tri Tryz.prog Ht [u,.agg ss.toArray] [] S (Rx o):=by
 intro w hI
 refine uO.2 ?_
 dsimp only[uO,aX]
 refine be hI fun b3 w' hI=>?_
 refine aG hI dz fun b4 w' hI=>?_
 obtain ⟨B4,hB4⟩:∃ B:Item,B=.blk b4 (.cells zSe aN):=⟨_,rfl⟩
 have e4:=congrArg some hB4
 have hI:Inv w [] [.blk b3 (.cells ss.toArray aN),B4] S w':=by rw [hB4]; exact hI
 refine ⟨fun w'=>∃ (S1:ae) (cs:List Value) (s:Se),Ext w.heap.size [] S S1/\RdSe S1 cs s/\BackR p s.st.chs s.saved o/\(∀ c∈s.st.chs,km c/\okRk k c)/\s.st.chs.length<=1000/\s.saved.length=s.st.chs.length/\(∀ l∈s.saved,l.length<=1000)/\
  Inv w [] [.blk b3 (.cells cs.toArray aN),B4] S1 w',Q6 b3,⟨S,ss,s,Ext.refl _ _ _,hs,h,hcs,hn,hn3,hv,hI⟩,?_⟩
 clear hs h hcs hn hn3 hv hI
 intro _ _ _ _ _ _ _ _ _ _ _ _ _ t8 t42 t41 t40 t39 t38 t37 t36 t35 t34 t33 t32 t31 t30 t29 t28 t27 _ _ _ _ _ _ _ _ _ _ _ _ _ _ _ _ _ _ w'
 rintro ⟨S1,cs,s,hE,hs,h,hcs,hn,hn3,hv,hI⟩
 obtain ⟨gs,sb,sc,st,sv,rfl,hsg,hsb,hsc,hst,hsv⟩:=id hs
 obtain ⟨sca,scc,rfl,_⟩:=id hsc
 obtain ⟨sva,svc,rfl,_⟩:=id hsv
 have hme:=LY hI (i:=0) (n:=s.st.chs.length) rfl rfl
 obtain ⟨B3,hB3⟩:∃ B:Item,B=.blk b3 (.cells #[gs,sb,.slice sca s.st.chs.length scc,st,.slice sva s.saved.length svc] aN):=⟨_,rfl⟩
 have e3:=congrArg some hB3
 have hI:Inv w [] [B3,B4] S1 w':=by rw [hB3]; exact hI
 refine ai bJ ?_
 refine ai dh ?_
 refine aA hI 0 dl e3 rfl ?_
 refine dX gK ?_
 refine dv ?_
 refine aI (fun hpo=>?_) (fun hpo=>?_)
 ·have hne:s.st.chs≠[]:=fun e=>by rw [e] at hpo; simp at hpo
  obtain ⟨cs',c,ss',t,o1,ec,es,hT,hcase⟩:=h.inv hne
  have hlc:s.st.chs.length=cs'.length+1:=by rw [ec]; simp
  have hls:s.saved.length=ss'.length+1:=by rw [es]; simp
  have hl2:ss'.length=cs'.length:=by omega
  refine ai bJ ?_
  refine ai dh ?_
  refine aA hI 0 dl e3 rfl ?_
  refine dX gK ?_
  refine ib (by omega) ?_
  rw [show ((s.st.chs.length:Int) - 1)=(cs'.length:Int) by omega]
  refine ai bJ ?_
  refine ai dh ?_
  refine aA hI 0 dl e3 rfl ?_
  have hci:cs'.length<s.st.chs.length:=by omega
  refine ch hI hsc gK dt hci (fun _ _=>RdCh.length) fun ds hds=>?_
  have hgc:s.st.chs[cs'.length]=c:=by
   have:∀ (l:List Ch) (h:cs'.length<l.length),l=cs'++[c]->l[cs'.length]=c:=by
    intro l h e
    subst e
    rw [List.getElem_append_right (Nat.le_refl _)]
    simp
   exact this _ _ ec
  rw [hgc] at hds
  have hmc:c∈s.st.chs:=by rw [ec]; simp
  refine aG hI j9 fun b7 w' hI=>?_
  have hI:Inv w [] [B3,B4,.blk b7 (.cells zCh cq)] S1 w':=hI
  have hdl:=hds.length
  refine ao hI 2 rfl dt (by simpa using hdl) rfl (by simpa using hds.one) fun w' hI=>?_
  obtain ⟨B7,hB7⟩:∃ B:Item,B=.blk b7 (.cells ds.toArray cq):=⟨_,rfl⟩
  have e7:=congrArg some hB7
  have hI:Inv w [] [B3,B4,B7] S1 w':=by rw [hB7]; exact hI
  obtain ⟨lb,lo,lc2,lcs,lE,lfz,hlv,hlS,hlR⟩:=hsv.at_ (show cs'.length<s.saved.length by omega)
  have hla:sva=some ⟨lb,lo,none⟩:=by
   simp only [Value.slice.injEq] at hlv
   exact hlv.1
  have hgt:s.saved[cs'.length]'(by omega)=t:=by
   have:∀ (l:List (List Sp)) (h:cs'.length<l.length),l=ss'++[t]->l[cs'.length]=t:=by
    intro l h e
    subst e
    rw [List.getElem_append_right (by omega)]
    simp [hl2]
   exact this _ _ es
  rw [hgt] at hlR
  obtain ⟨tv,hce,htv⟩:=hlR
  obtain ⟨tva,tvc,rfl,_⟩:=id htv
  have hcell:lcs[lo+cs'.length * 1]?=some (.slice tva t.length tvc):=ar hce 0 _ rfl
  have hix:∀ {ty:TypeId} {K:Value->World->Prop} {w':World},K (.pointer (some ⟨lb,lo+cs'.length * 1,none⟩)) w'->Run Tryz.prog (sOp (.indexAddr Fo (.const (.slice sva s.saved.length svc)) (.const (.int .i64 (cs'.length:Int)))) ty) w' K:=
   fun hk=>by rw [hla]; exact au sq (by omega) hk
  have htc:∀ v,RdSl S1 7 (RdCh S1) v (s.st.chs.take cs'.length)->RdSl S1 7 (RdCh S1) v cs':=by
   intro v h
   rw [ec,List.take_left' rfl] at h
   exact h
  have hts:∀ v,RdSl S1 1 (RdVS S1) v (s.saved.take cs'.length)->RdSl S1 1 (RdVS S1) v ss':=by
   intro v h
   rw [es,List.take_left' hl2] at h
   exact h
  refine ⟨fun D x8 j1 jG na ij gX nL jL kz pz mt oE jM jd lw iB mJ w_=>Fx D 0 [mJ=.pointer (some ⟨b3,0,none⟩),iB=.pointer (some ⟨b3,2,none⟩),lw=.slice sca s.st.chs.length scc,jd=.int .i64 (cs'.length:Int),RdSl S1 7 (RdCh S1) jM cs',∃ cc,oE=.agg #[.slice none 0 0,.slice none 0 0,cc]/\RdSl S1 7 (RdCh S1) cc cs',mt=.pointer (some ⟨b3,4,none⟩),pz=.slice sva s.saved.length svc,kz=.int .i64 (cs'.length:Int),jL=.pointer (some ⟨lb,lo+cs'.length * 1,none⟩),nL=.slice tva t.length tvc,gX=.pointer (some ⟨b3,4,none⟩),ij=.slice sva s.saved.length svc,na=.int .i64 (cs'.length:Int),RdSl S1 1 (RdVS S1) jG ss',∃ cc ll,j1=.agg #[.slice none 0 0,.slice none 0 0,cc,.slice tva t.length tvc,ll]/\RdSl S1 7 (RdCh S1) cc cs'/\RdSl S1 1 (RdVS S1) ll ss',True,True]/\nwP w [] [B3,B4,B7] aN zSe (fun _ q=>∃ cc ll,q=#[.slice none 0 0,.slice none 0 0,cc,.slice tva t.length tvc,ll]/\RdSl S1 7 (RdCh S1) cc cs'/\RdSl S1 1 (RdVS S1) ll ss') (D 16) (D 17) x8 S1 w_,⟨Fx.nil _ _,nwP.mk hI.draw _⟩,⟨?_,?_,?_,?_,?_,?_,?_,?_,?_,?_,?_,?_,?_,?_,?_,?_,?_,?_,trivial⟩,?_⟩
  all_goals (intro D bo; intros; rename_i x8 j1 jG na ij gX nL jL kz pz mt oE jM jd lw iB mJ w_ hA_; have hF_:=hA_.1; obtain ⟨⟨bU,bV,bH,bR,bZ,bI,bB,ct,cF,cK,bG,bX,cI,dq,cC,dA,dH,dV,_⟩,hN⟩:=hA_)
  ·refine ai bJ ?_
   exact ⟨hF_.set 0 rfl,hN⟩
  ·obtain rfl:=bU ‹_›
   refine ai dh ?_
   exact ⟨hF_.set 1 rfl,hN⟩
  ·obtain rfl:=bV ‹_›
   obtain ⟨R,hI⟩:=hN.inv; refine aA hI 0 dl e3 rfl ?_
   exact ⟨hF_.set 2 rfl,hN⟩
  ·exact ⟨hF_.set 3 rfl,hN⟩
  ·obtain rfl:=bH ‹_›
   obtain rfl:=bR ‹_›
   refine Ee gK hsc (by omega) fun v' hv'=>?_
   have hv':=htc _ hv'
   exact ⟨hF_.set 4 (by first|assumption|trivial),hN⟩
  ·have QH:=bZ ‹_›
   obtain ⟨ca,cc,rfl,_⟩:=id QH
   refine LC ?_
   have hq:∃ cc',Value.agg #[.slice none 0 0,.slice none 0 0,.slice ca cs'.length cc]=.agg #[.slice none 0 0,.slice none 0 0,cc']/\RdSl S1 7 (RdCh S1) cc' cs':=⟨_,rfl,QH⟩
   exact ⟨hF_.set 5 (by first|assumption|trivial),hN⟩
  ·refine ai fH ?_
   exact ⟨hF_.set 6 rfl,hN⟩
  ·obtain rfl:=bB ‹_›
   obtain ⟨R,hI⟩:=hN.inv; refine aA hI 0 gL e3 rfl ?_
   exact ⟨hF_.set 7 rfl,hN⟩
  ·exact ⟨hF_.set 8 rfl,hN⟩
  ·obtain rfl:=ct ‹_›
   obtain rfl:=cF ‹_›
   refine hix ?_
   exact ⟨hF_.set 9 rfl,hN⟩
  ·obtain rfl:=cK ‹_›
   obtain ⟨R,hI⟩:=hN.inv; refine cz gC ((hI.cellS hlS).trans hcell) ?_
   exact ⟨hF_.set 10 rfl,hN⟩
  ·refine ai fH ?_
   exact ⟨hF_.set 11 rfl,hN⟩
  ·obtain rfl:=bX ‹_›
   obtain ⟨R,hI⟩:=hN.inv; refine aA hI 0 gL e3 rfl ?_
   exact ⟨hF_.set 12 rfl,hN⟩
  ·exact ⟨hF_.set 13 rfl,hN⟩
  ·obtain rfl:=cI ‹_›
   obtain rfl:=dq ‹_›
   refine Ee sq hsv (by omega) fun v' hv'=>?_
   have hv':=hts _ hv'
   exact ⟨hF_.set 14 (by first|assumption|trivial),hN⟩
  ·have Mw:=bI ‹_›
   obtain rfl:=bG ‹_›
   have B0:=cC ‹_›
   obtain ⟨cc,rfl,hcc⟩:=Mw
   obtain ⟨la,lc,rfl,_⟩:=id B0
   refine ED ?_
   have hq:∃ cc' ll',Value.agg #[.slice none 0 0,.slice none 0 0,cc,.slice tva t.length tvc,.slice la ss'.length lc]=.agg #[.slice none 0 0,.slice none 0 0,cc',.slice tva t.length tvc,ll']/\RdSl S1 7 (RdCh S1) cc' cs'/\RdSl S1 1 (RdVS S1) ll' ss':=⟨_,_,rfl,hcc,B0⟩
   exact ⟨hF_.set 15 (by first|assumption|trivial),hN⟩
  ·refine nwP.alloc hN bo dz rfl fun v w_ hN=>?_
   exact ⟨hF_.set 16 (by first|assumption|trivial),hN⟩
  ·have QE:=dH ‹_›
   have Np:=dA ‹_›
   obtain ⟨cc,ll,rfl,hcc,hll⟩:=Np
   refine nwP.store hN ‹D 16=true› bo aQ rfl rfl (Pb rfl rfl hcc.sl rfl hll.sl) ⟨cc,ll,rfl,hcc,hll⟩ fun w_ hN=>?_
   exact ⟨hF_.set 17 trivial,hN⟩
  obtain ⟨rfl,rfl,rfl,rfl,QH,Mw,rfl,rfl,rfl,rfl,rfl,rfl,rfl,rfl,B0,Np,QE,_,_⟩:=hF_.all
  have S8:D 16=true:=by assumption
  have Td:D 17=true:=by assumption
  clear hF_ bU bV bH bR bZ bI bB ct cF cK bG bX cI dq cC dA dH dV
  rw [S8,Td] at hN
  obtain ⟨b8,q8,rfl,⟨cc,ll,rfl,hcc,hll⟩,hI⟩:=hN.fin
  obtain ⟨B8,hB8⟩:∃ B:Item,B=.blk b8 (.cells #[.slice none 0 0,.slice none 0 0,cc,.slice tva t.length tvc,ll] aN):=⟨_,rfl⟩
  have e8:=congrArg some hB8
  have hI:Inv w [] [B3,B4,B7,B8] S1 w_:=by rw [hB8]; exact hI
  have hy:RdSe S1 [.slice none 0 0,.slice none 0 0,cc,.slice tva t.length tvc,ll] ⟨⟨[],[],cs'⟩,t,ss'⟩:=⟨_,_,_,_,_,rfl,RdSl.nil0 ..,RdSl.nil0 ..,hcc,htv,hll⟩
  refine aq hI 3 aQ e8 rfl ?_
  refine aq hI 2 dt e7 (by simpa using hdl) ?_
  refine Run.call0E uH wm hI (se hp hk (hcs c hmc).1 (hcs c hmc).2 hT (by simp only; omega) (hv t (by rw [es]; simp)) (by simp only; omega) (hP.monoC hE.1) hy hds) fun v' I' S2 w'=>?_
  rintro ⟨rfl,ns,rfl,hns⟩ hE2 hI
  have hI:Inv w [] [B3,B4,B7,B8] S2 w':=hI
  have hnl:=hns.length
  refine aj (v:=.agg ns.toArray) rfl ?_
  refine aj (v:=.bool o1.isSome) rfl ?_
  refine aG hI dz fun b9 w' hI=>?_
  have hI:Inv w [] [B3,B4,B7,B8,.blk b9 (.cells zSe aN)] S2 w':=hI
  refine ao hI 4 rfl aQ (by simpa using hnl) rfl (by simpa using hns.one) fun w' hI=>?_
  have hI:Inv w [] [B3,B4,B7,B8,.blk b9 (.cells ns.toArray aN)] S2 w':=hI
  rcases hcase with ⟨s1,rfl,rfl⟩|⟨rfl,hB⟩
  ·refine az (fun _=>?_) (fun hb=>by cases hb)
   refine aq hI 4 aQ rfl (by simpa using hnl) ?_
   refine ao hI 1 e4 aQ (by simpa using hnl) rfl (by simpa using hns.one) fun w' hI=>?_
   refine aW hI 1 aQ rfl (by simpa using hnl) ?_
   exact ⟨_,[],S2,rfl,hI.nil,hE.trans hE2,rfl,ns,rfl,hnl,hns.one,fun t e=>by rw [Option.some.injEq] at e; subst e; exact hns⟩
  ·refine az (fun hb=>by cases hb) (fun _=>?_)
   refine aq hI 3 aQ e8 rfl ?_
   refine ao hI 0 e3 aQ rfl rfl (by simpa using hy.one) fun w' hI=>?_
   have hI:Inv w [] [.blk b3 (.cells #[.slice none 0 0,.slice none 0 0,cc,.slice tva t.length tvc,ll] aN),B4,B7,B8,.blk b9 (.cells ns.toArray aN)] S2 w':=hI
   obtain ⟨ca,cm,rfl,_⟩:=id hcc
   have hme2:=LY hI (i:=0) (n:=cs'.length) rfl rfl
   refine ⟨⟨S2,_,⟨⟨[],[],cs'⟩,t,ss'⟩,hE.trans hE2,hy.mono hE2.1,hB,fun d hd=>hcs d (by rw [ec]; exact List.mem_append_left _ hd),by simp only; omega,hl2,fun l hl=>hv l (by rw [es]; exact List.mem_append_left _ hl),hI.pick [true,true]⟩,?_⟩
   rw [hme2,hme]
   omega
 ·have hnil:s.st.chs=[]:=List.eq_nil_of_length_eq_zero (by omega)
  have ho:=h.none hnil
  subst ho
  refine aq hI 0 aQ e3 rfl ?_
  refine ao hI 1 e4 aQ rfl rfl (by simpa using hs.one) fun w' hI=>?_
  refine aW hI 1 aQ rfl rfl ?_
  exact ⟨_,[],S1,rfl,hI.nil,hE,rfl,_,rfl,hs.length,hs.one,fun t e=>by cases e⟩
end
end
end Go.Proofs.YtfcbhfjomgopbaaGreat
