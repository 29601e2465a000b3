/- spec.l13Find: the search for a proof. -/
import Derived.Test.YtbocelianhcfmaaGreatDoorZEg22
import Derived.Test.YtbocelianhcfmaaGreatDoorZEg23
import Derived.Test.YtbocelianhcfmaaGreatDoorZEg18
import Derived.Test.YtbocelianhcfmaaGreatDoorZEg14
namespace Go.Proofs.YtbocelianhcfmaaGreatDoor
section
open Go Go.RowKit
theorem Srch.inv {p:List C} {n:Nat} {s:Se} {o:Option Se} (h:Srch p n s o):(s.st.goals=[]/\o=some s) ∨ (s.st.goals≠[]/\n=0/\o=none) ∨
  (s.st.goals≠[]/\∃ m s' e,n=m+1/\OneR p s s' e/\((e=0/\o=none) ∨ (e=-1/\Srch p m s' o) ∨ (e=-2/\∃ ob,BackR p s'.st.chs s'.saved ob/\((ob=none/\o=none) ∨ ∃ t,ob=some t/\Srch p m t o)))):=by
 cases h with
 | done h=>exact .inl ⟨h,rfl⟩
 | out h=>exact .inr (.inl ⟨h,rfl,rfl⟩)
 | halt h h1=>exact .inr (.inr ⟨h,_,_,_,rfl,h1,.inl ⟨rfl,rfl⟩⟩)
 | step h h1 h2=>exact .inr (.inr ⟨h,_,_,_,rfl,h1,.inr (.inl ⟨rfl,h2⟩)⟩)
 | stop h h1 h2=>exact .inr (.inr ⟨h,_,_,_,rfl,h1,.inr (.inr ⟨rfl,_,h2,.inl ⟨rfl,rfl⟩⟩)⟩)
 | back h h1 h2 h3=>exact .inr (.inr ⟨h,_,_,_,rfl,h1,.inr (.inr ⟨rfl,_,h2,.inr ⟨_,rfl,h3⟩⟩)⟩)
def FinO (s:Se) (o:Option PF):Prop:=∃ ob,BldR s.st.binds .one s.steps ob/\((ob=none/\o=none) ∨ ∃ x l2,ob=some ([x],l2)/\o=some (prF (pvT x []) x))
def FindO (p:List C) (n:Nat) (s:Se) (o:Option PF):Prop:=∃ oS,Srch p n s oS/\((oS=none/\o=none) ∨ ∃ t,oS=some t/\FinO t o)
theorem FindO.ex {p:List C} (hp:∀ cl∈p,sV cl) (hpl:p.length<=1000000) {k n:Nat} {s:Se} (hs:kT p.length s) (ho:okP s) (hx:okXk k s):∃ o,FindO p n s o:=by
 obtain ⟨oS,h1,_⟩:=Srch.ex (fun cl hc=>(hp cl hc).cf) n s hs
 cases oS with
 | none=>exact ⟨none,none,h1,.inl ⟨rfl,rfl⟩⟩
 | some t=>
  obtain ⟨q1,q2,q3⟩:=h1.ok (fun cl hc=>(hp cl hc).cf) hs ho t rfl
  obtain ⟨ob,h2,h3⟩:=O0 q1 q2 q3 (h1.okXk hp hpl k hs hx t rfl)
  cases ob with
  | none=>exact ⟨none,_,h1,.inr ⟨t,rfl,none,h2,.inl ⟨rfl,rfl⟩⟩⟩
  | some q=>
   obtain ⟨x,hx⟩:=h3 q.1 q.2 rfl
   exact ⟨_,_,h1,.inr ⟨t,rfl,some q,h2,.inr ⟨x,q.2,by rw [<- hx],rfl⟩⟩⟩
theorem FinO.w {n k:Nat} {s:Se} (hs:kT n s) (hx:okXk k s) {o:Option PF} (h:FinO s o):∀ y,o=some y->wF y<=842 * k:=by
 intro y hy
 obtain ⟨ob,h1,⟨_,rfl⟩|⟨x,l2,rfl,rfl⟩⟩:=h
 ·cases hy
 ·rw [Option.some.injEq] at hy
  subst hy
  have h2:=h1.wsize hs.st.good hx.steps _ _ rfl
  have h3:=hx.ns
  simp only [wFL,List.length_cons,List.length_nil] at h2
  rw [Jp]
  omega
def Lk (o:Option PF):Value->List Item->ae->Prop:=fun q I' S'=>I'=[]/\∃ cs:List Value,q=.tuple #[.agg cs.toArray,.bool (o.elim false cR)]/\cs.length=6/\(∀ u∈cs,u.oneCell'=true)/\∀ y,o=some y->RdF S' cs y
section
attribute [local irreducible] Run CondV ar aI
set_option maxHeartbeats 4000000 in
theorem AX {p:List C} (hp:∀ cl∈p,sV cl) (hpl:p.length<=1000000) {t:T} (ht:okU 26 t/\wT t<=1048576) (htm:okM t) {n:Nat} (hn:n<=400) {o:Option PF} (h:FindO p n (fl t) o)
  {S:ae} {u:Value} {cs:List Value} (hP:RdSl S 5 (RdC S) u p) (hg:RdT S cs t):Tri Tryz.prog Eh [u,.agg cs.toArray,.int .i64 (n:Int)] [] S (Lk o):=by
 intro w hI
 have hcf:∀ cl∈p,rb cl:=fun cl hc=>(hp cl hc).cf
 have hcl:=hg.length
 refine r5.2 ?_
 dsimp only[r5,cM]
 refine be hI fun b4 w' hI=>?_
 refine aA hI bV fun b6 w' hI=>?_
 obtain ⟨B4,hB4⟩:∃ B:Item,B=.blk b4 (.cells cs.toArray ab):=⟨_,rfl⟩
 obtain ⟨B6,hB6⟩:∃ B:Item,B=.blk b6 (.cells zP6 af):=⟨_,rfl⟩
 have e4:=congrArg some hB4
 have e6:=congrArg some hB6
 have hI:Inv w [] [B4,B6] S w':=by rw [hB4,hB6]; exact hI
 refine ag hI 0 ac e4 (by simpa using hcl) ?_
 refine dH hI bj (by simpa [Value.cells] using hcl) (by omega) (by omega) fun b w' hI=>?_
 obtain ⟨S1,hI,hE1,hb⟩:=Inv.pub1 hI
 refine Run.call0E Do Dh hI (Ag (ts:=[t]) (RdSl.single hb hcl (hg.mono hE1.1)) (fun u hu=>by rw [List.mem_singleton] at hu; subst hu; exact ht) (by simp)) fun v' I' S2 w'=>?_
 rintro ⟨rfl,c6,rfl,gs,sb,sc,rfl,hsg,hsb,hsc⟩ hE2 hI
 have hI:Inv w [] [B4,B6] S2 w':=hI
 have hE02:=hE1.trans hE2
 refine HJ ?_
 refine aA hI cU fun b8 w' hI=>?_
 have hI:Inv w [] [B4,B6,.blk b8 (.cells zSe az)] S2 w':=hI
 have hs0:RdSe S2 [gs,sb,sc,.slice none 0 0,.slice none 0 0] (fl t):=⟨_,_,_,_,_,rfl,hsg,hsb,hsc,RdSl.nil0 ..,RdSl.nil0 ..⟩
 refine aj (cs:=#[gs,sb,sc,.slice none 0 0,.slice none 0 0]) hI 2 rfl aJ rfl rfl (by simpa using hs0.one) fun w' hI=>?_
 have hI:Inv w [] [B4,B6,.blk b8 (.cells #[gs,sb,sc,.slice none 0 0,.slice none 0 0] az)] S2 w':=hI
 obtain ⟨oS,hSr,hfin⟩:=h
 have hfail:∀ {S3:ae} {B:List Item} {w':World},Ext w.heap.size [] S S3->o=none->Inv w [] ([B4,B6]++B) S3 w'->
   Run Tryz.prog (bI af []) w' fun v w'=>Run Tryz.prog (sOp (.store af (.const (.pointer (some ⟨b6,0,none⟩))) (.const v)) 0) w' fun _u w'=>aI Tryz.prog af (.pointer (some ⟨b6,0,none⟩)) w' fun r0=>
    ∃ v I' S',Ending.returned (Value.tuple #[r0,(Value.bool false)])=.returned v/\Inv w (bz []) I' S' w'/\Ext w.heap.size (bz []) S S'/\Lk o v I' S':=by
  intro S3 B w' hE ho hI
  refine GU ?_
  refine aj (cs:=zP6) hI 1 e6 aq rfl rfl (by simp [Value.oneCell']) fun w' hI=>?_
  refine aS hI 1 aq rfl rfl ?_
  refine ⟨_,[],S3,rfl,hI.nil,hE,rfl,[.int .i64 0,.int .i64 0,.string ⟨#[]⟩,.slice none 0 0,.int .i64 0,.slice none 0 0],by rw [ho]; rfl,rfl,by simp [Value.oneCell'],fun y e=>by rw [ho] at e; cases e⟩
 refine ⟨fun i w'=>∃ (m k:Nat) (S3:ae) (c5:List Value) (s:Se),i=.int .i64 (m:Int)/\m+k<=n/\Ext w.heap.size [] S S3/\Srch p m s oS/\kT p.length s/\okP s/\okXk k s/\RdSe S3 c5 s/\Inv w [] [B4,B6,.blk b8 (.cells c5.toArray az)] S3 w',
  fun i _=>(intOf i).toNat,⟨n,0,S2,_,fl t,rfl,Nat.le_refl _,hE02,hSr,BM ht.1 ht.2 _,qR t,yj htm,hs0,hI⟩,?_⟩
 intro _ _ _ _ _ _ _ _ _ _ _ _ _ _ _ t7 _ _ _ _ _ _ _ _ _ _ _ t2 _ _ _ _ _ _ _ _ _ _ _ w'
 rintro ⟨m,k,S3,c5,s,rfl,hmk,hE3,hSr,hso,hsp,hsx,hsr,hI⟩
 obtain ⟨gs,sb,sc,st,sv,rfl,hsg,hsb,hsc,hst,hsv⟩:=id hsr
 refine ⟨fun q w'=>q=.bool (decide ((m:Int) > 0) && decide ((s.st.goals.length:Int) > 0))/\Inv w [] [B4,B6,.blk b8 (.cells #[gs,sb,sc,st,sv] az)] S3 w',?_,?_⟩
 ·refine cY ?_
  cases hd:decide ((m:Int) > 0) with
  | true=>
   refine rpG ?_
   refine ao bp ?_
   refine ao eR ?_
   refine ax hI 2 ez rfl rfl ?_
   refine aK hsg iz ?_
   refine cY ?_
   refine rpG ?_
   exact ⟨rfl,hI⟩
  | false=>
   refine rpG ?_
   exact ⟨rfl,hI⟩
 intro q _ _ _ _ _ _ _ _ w'
 rintro ⟨rfl,hI⟩
 obtain ⟨B8,hB8⟩:∃ B:Item,B=.blk b8 (.cells #[gs,sb,sc,st,sv] az):=⟨_,rfl⟩
 have e8:=congrArg some hB8
 have hI:Inv w [] [B4,B6,B8] S3 w':=by rw [hB8]; exact hI
 refine av (fun hb=>?_) (fun hb=>?_)
 ·rw [Bool.and_eq_true,decide_eq_true_eq,decide_eq_true_eq] at hb
  obtain ⟨hm0,hg0⟩:=hb
  have hne:s.st.goals≠[]:=fun e=>by rw [e] at hg0; simp at hg0
  rcases hSr.inv with ⟨h1,_⟩|⟨_,h1,_⟩|⟨_,m',s',e,rfl,hO,hrest⟩
  ·exact absurd h1 hne
  ·omega
  refine gy (by omega) ?_
  rw [show (((m'+1:Nat):Int) - 1)=(m':Int) by omega]
  refine ag hI 2 aJ e8 rfl ?_
  refine Run.call0E GN EH hI (Dx hp hpl (k:=k) (by omega) hO hso hsx (hP.monoC hE3.1) hsr) fun v' I' S4 w'=>?_
  rintro ⟨rfl,ns,rfl,hns⟩ hE4 hI
  have hI:Inv w [] [B4,B6,B8] S4 w':=hI
  have hE04:=hE3.trans hE4
  have hnl:=hns.length
  have hso':=hO.ok hcf hso
  have hsp':=hO.okP hso.len hsp
  obtain ⟨hsx',hsx2⟩:=hO.okXk hp hpl hso hsx
  refine ai (v:=.agg ns.toArray) rfl ?_
  refine ai (v:=.int .i64 e) rfl ?_
  refine aA hI cU fun b9 w' hI=>?_
  have hI:Inv w [] [B4,B6,B8,.blk b9 (.cells zSe az)] S4 w':=hI
  refine aj hI 3 rfl aJ (by simpa using hnl) rfl (by simpa using hns.one) fun w' hI=>?_
  have hI:Inv w [] [B4,B6,B8,.blk b9 (.cells ns.toArray az)] S4 w':=hI
  refine bh ?_
  refine aN (fun h0=>?_) (fun h0=>?_)
  ·rcases hrest with ⟨_,ho⟩|⟨h1,_⟩|⟨h1,_⟩
   ·refine hfail (B:=[B8,_]) hE04 ?_ hI
    rcases hfin with ⟨_,h⟩|⟨_,h,_⟩
    ·exact h
    ·rw [ho] at h; cases h
   ·omega
   ·omega
  refine ⟨fun w'=>∃ (S5:ae) (n5:List Value) (s5:Se),Ext w.heap.size [] S4 S5/\Srch p m' s5 oS/\kT p.length s5/\okP s5/\okXk (k+1) s5/\RdSe S5 n5 s5/\Inv w [] [B4,B6,B8,.blk b9 (.cells n5.toArray az)] S5 w',?_,?_⟩
  ·refine bh ?_
   refine aN (fun h2=>?_) (fun h2=>?_)
   ·rcases hrest with ⟨h1,_⟩|⟨h1,_⟩|⟨_,ob,hB,hrest⟩
    ·omega
    ·omega
    have es:=hsx2 h2
    have hsxk:okXk k s':=by rw [es]; exact hsx
    refine ag hI 3 aJ rfl (by simpa using hnl) ?_
    refine Run.call0E CJ DN hI (AN hp (k:=k) (by omega) hB (fun c hc=>⟨hso'.st.chs c hc,hsxk.chs c hc⟩) (by have:=hsxk.nc; omega) hso'.len (fun l hl=>by have:=hsxk.nv l hl; omega) (hP.monoC hE04.1) hns) fun v' I' S5 w'=>?_
    rintro ⟨rfl,n5,rfl,h5l,h5o,h5r⟩ hE5 hI
    have hI:Inv w [] [B4,B6,B8,.blk b9 (.cells ns.toArray az)] S5 w':=hI
    refine ai (v:=.agg n5.toArray) rfl ?_
    refine ai (v:=.bool ob.isSome) rfl ?_
    refine aA hI cU fun b11 w' hI=>?_
    have hI:Inv w [] [B4,B6,B8,.blk b9 (.cells ns.toArray az),.blk b11 (.cells zSe az)] S5 w':=hI
    refine aj hI 4 rfl aJ (by simpa using h5l) rfl (by simpa using h5o) fun w' hI=>?_
    have hI:Inv w [] [B4,B6,B8,.blk b9 (.cells ns.toArray az),.blk b11 (.cells n5.toArray az)] S5 w':=hI
    refine bW ?_
    rcases hrest with ⟨rfl,ho⟩|⟨s5,rfl,hS5⟩
    ·refine av (fun _=>?_) (fun hb=>by cases hb)
     refine hfail (B:=[B8,_,_]) (hE04.trans hE5) ?_ hI
     rcases hfin with ⟨_,h⟩|⟨_,h,_⟩
     ·exact h
     ·rw [ho] at h; cases h
    ·refine av (fun hb=>by cases hb) (fun _=>?_)
     refine ag hI 4 aJ rfl (by simpa using h5l) ?_
     refine aj hI 3 rfl aJ (by simpa using h5l) (by simpa using hnl) (by simpa using h5o) fun w' hI=>?_
     exact ⟨S5,n5,s5,hE5,hS5,hB.ok hcf hso'.len.symm hso'.st.chs hso'.left _ rfl,hB.okP hso'.len.symm hsp'.saved _ rfl,
      hB.okXk hp hpl hso'.len.symm (fun c hc=>⟨hso'.st.chs c hc,hsxk.chs c hc⟩) hsxk.nc hsxk.saved hsxk.nv _ rfl,h5r _ rfl,hI.pick [true,true,true,true]⟩
   ·rcases hrest with ⟨h1,_⟩|⟨_,hS5⟩|⟨h1,_⟩
    ·exact absurd h1 h0
    ·exact ⟨S4,ns,s',Ext.refl _ _ _,hS5,hso',hsp',hsx',hns,hI⟩
    ·exact absurd h1 h2
  intro _ _ _ _ _ _ _ _ _ _ _ _ _ _ _ w'
  rintro ⟨S5,n5,s5,hE5,hS5,q1,q2,q3,hr5,hI⟩
  have h5l:=hr5.length
  rw [hB8] at hI
  refine ag hI 3 aJ rfl (by simpa using h5l) ?_
  refine aj hI 2 rfl aJ (by simpa using h5l) rfl (by simpa using hr5.one) fun w' hI=>?_
  exact ⟨⟨m',k+1,S5,n5,s5,rfl,by omega,hE04.trans hE5,hS5,q1,q2,q3,hr5,hI.pick [true,true,true]⟩,by simp only [intOf,Int.toNat_natCast]; omega⟩
 ·refine ao bp ?_
  refine ao eR ?_
  refine ax hI 2 ez e8 rfl ?_
  refine aK hsg iz ?_
  refine cY ?_
  refine aN (fun hg0=>?_) (fun hg0=>?_)
  ·have hne:s.st.goals≠[]:=fun e=>by rw [e] at hg0; simp at hg0
   have hm0:m=0:=by
    rw [Bool.and_eq_false_iff] at hb
    rcases hb with hb|hb
    ·have:=of_decide_eq_false hb; omega
    ·exact absurd hg0 (of_decide_eq_false hb)
   refine hfail (B:=[B8]) hE3 ?_ hI
   rcases hSr.inv with ⟨h1,_⟩|⟨_,_,h1⟩|⟨_,m',s',e,h1,_⟩
   ·exact absurd h1 hne
   ·rcases hfin with ⟨_,h⟩|⟨_,h,_⟩
    ·exact h
    ·rw [h1] at h; cases h
   ·omega
  have hnil:s.st.goals=[]:=List.eq_nil_of_length_eq_zero (by omega)
  have hoS:oS=some s:=by
   rcases hSr.inv with ⟨_,h1⟩|⟨h1,_⟩|⟨h1,_⟩
   ·exact h1
   ·exact absurd hnil h1
   ·exact absurd hnil h1
  have hF:FinO s o:=by
   rcases hfin with ⟨h,_⟩|⟨s1,h,hF⟩
   ·rw [hoS] at h; cases h
   ·rw [hoS,Option.some.injEq] at h
    rw [h]; exact hF
  have hwF:=hF.w hso hsx
  obtain ⟨ob,hBl,hF⟩:=hF
  have hsn:=hsx.ns
  refine ad hI 2 e8 eO fp rfl ?_
  refine ao bp ?_
  refine ao ib ?_
  refine ax hI 2 al e8 rfl ?_
  refine Run.call0E p5 pw hI (yL hsx.pos hso.st.good hsx.steps (by omega) _ 0 (Nat.le_refl _) ob hBl S3 st sb hst hsb) fun v' I' S4 w'=>?_
  rintro ⟨rfl,c6,a',rfl,h6l,h6o,h6r⟩ hE4 hI
  have hI:Inv w [] [B4,B6,B8] S4 w':=hI
  have hE04:=hE3.trans hE4
  refine ai (v:=.agg c6.toArray) rfl ?_
  refine ai (v:=.int .i64 (a':Int)) rfl ?_
  refine ai (v:=.bool ob.isSome) rfl ?_
  refine aA hI bV fun b13 w' hI=>?_
  have hI:Inv w [] [B4,B6,B8,.blk b13 (.cells zP6 af)] S4 w':=hI
  refine aj hI 3 rfl aq (by simpa using h6l) rfl (by simpa using h6o) fun w' hI=>?_
  have hI:Inv w [] [B4,B6,B8,.blk b13 (.cells c6.toArray af)] S4 w':=hI
  refine bW ?_
  rcases hF with ⟨rfl,rfl⟩|⟨x,l2,rfl,rfl⟩
  ·refine av (fun _=>?_) (fun hb=>by cases hb)
   exact hfail (B:=[B8,_]) hE04 rfl hI
  refine av (fun hb=>by cases hb) (fun _=>?_)
  obtain ⟨_,_,x',hx',hrx⟩:=h6r _ _ rfl
  simp only [List.cons.injEq,and_true] at hx'
  subst hx'
  obtain ⟨hsz,hpw⟩:=hBl.size hso.st.good hsx.steps _ _ rfl
  rw [pcL,pcL] at hsz
  rw [pwL] at hpw
  have hpc:pcT x<=1000000:=by omega
  have hwx:=hwF _ rfl
  rw [Jp] at hwx
  have hwx2:wF x<=1048576:=by omega
  have hvl:=H6 x []
  have hpc0:=JI x
  simp only [List.length_nil] at hvl
  obtain ⟨y,hy⟩:∃ y,y=prF (pvT x []) x:=⟨_,rfl⟩
  rw [<- hy]
  refine ⟨fun D K5 K2 ML LW w_=>Fx D 0 [LW=.agg c6.toArray,ML=.agg c6.toArray,True,True,True]/\∃ S5 q13,Ext w.heap.size [] S4 S5/\(D 4=true->D 0=true/\D 1=true)/\(D 2=true->RdSl S5 1 gz K2 (pvT x []))/\(D 3=true->∃ cs,K5=.agg (List.toArray cs)/\RdF S5 cs y)/\(D 4=false->q13=c6)/\(D 4=true->RdF S5 q13 y)/\Inv w [] [B4,B6,B8,.blk b13 (.cells q13.toArray af)] S5 w_,⟨Fx.nil _ _,⟨S4,c6,Ext.refl _ _ _,aT,aT,aT,fun _=>rfl,aT,hI.draw⟩⟩,⟨?_,?_,?_,?_,?_,trivial⟩,?_⟩
  all_goals (intro D bw; intros; rename_i K5 K2 ML LW w_ hA_; have hF_:=hA_.1; obtain ⟨⟨bQ,bS,bU,bR,bY,_⟩,⟨S5,q13,hE5,k4,f2,f3,z4,f4,hI⟩⟩:=hA_)
  ·have n4:D 4=false:=Bool.eq_false_iff.2 fun h=>by rw [(k4 h).1] at bw; cases bw
   have hI2:=hI
   rw [z4 n4] at hI2
   refine ag hI2 3 aq rfl (by simpa using h6l) ?_
   have k4:aB D 0 4=true->aB D 0 0=true/\aB D 0 1=true:=fun h=>⟨rfl,(k4 h).2⟩
   exact ⟨hF_.set 0 rfl,⟨S5,q13,hE5,k4,f2,f3,z4,f4,hI⟩⟩
  ·have n4:D 4=false:=Bool.eq_false_iff.2 fun h=>by rw [(k4 h).2] at bw; cases bw
   have hI2:=hI
   rw [z4 n4] at hI2
   refine ag hI2 3 aq rfl (by simpa using h6l) ?_
   have k4:aB D 1 4=true->aB D 1 0=true/\aB D 1 1=true:=fun h=>⟨(k4 h).1,rfl⟩
   exact ⟨hF_.set 1 rfl,⟨S5,q13,hE5,k4,f2,f3,z4,f4,hI⟩⟩
  ·obtain rfl:=bS ‹_›
   have hI:=hI.rowNil eN 1
   have hI:Inv w [] ([B4,B6,B8,.blk b13 (.cells q13.toArray af)]++[fY (.slice none 0 0) []]) S5 w_:=hI
   refine Run.callE ud td hI (Am x S5 c6 _ [] (hrx.mono hE5.1) (by simp only [List.length_nil]; omega)) fun v I' S6 w_=>?_
   rintro ⟨rfl,eS⟩ _ hI
   rw [eS] at hI
   obtain ⟨S6,hE6,hrw,hI⟩:=Inv.lendRowE hI
   have f2:aB D 2 2=true->RdSl S6 1 gz v (pvT x []):=fun _=>hrw.ints
   have f3:aB D 2 3=true->∃ cs,K5=.agg (List.toArray cs)/\RdF S6 cs y:=fun h=>(f3 h).imp fun _ h=>⟨h.1,h.2.mono hE6.1⟩
   have f4:aB D 2 4=true->RdF S6 q13 y:=fun h=>(f4 h).mono hE6.1
   obtain ⟨S5,rfl,hE5⟩:∃ S5,S5=S6/\Ext w.heap.size [] S4 S5:=⟨S6,rfl,hE5.trans hE6⟩
   exact ⟨hF_.set 2 (by first|assumption|trivial),⟨S5,q13,hE5,k4,f2,f3,z4,f4,hI⟩⟩
  ·obtain rfl:=bQ ‹_›
   have OL:=bU ‹_›
   refine Run.call0E og oo hI (xE (vs:=pvT x []) (by omega) x S5 c6 _ (hrx.mono hE5.1) (f2 ‹D 2=true›) hpw.1 hwx2) fun v I' S6 w_=>?_
   rintro ⟨rfl,cs',rfl,hcs'⟩ hE6 hI
   rw [<- hy] at hcs'
   rw [List.append_nil] at hI
   have f2:aB D 3 2=true->RdSl S6 1 gz K2 (pvT x []):=fun h=>(f2 h).mono hE6.1 fun _ _ h=>h
   have f3:aB D 3 3=true->∃ cs,Value.agg cs'.toArray=.agg (List.toArray cs)/\RdF S6 cs y:=fun h=>⟨_,rfl,hcs'⟩
   have f4:aB D 3 4=true->RdF S6 q13 y:=fun h=>(f4 h).mono hE6.1
   obtain ⟨S5,rfl,hE5⟩:∃ S5,S5=S6/\Ext w.heap.size [] S4 S5:=⟨S6,rfl,hE5.trans hE6⟩
   exact ⟨hF_.set 3 (by first|assumption|trivial),⟨S5,q13,hE5,k4,f2,f3,z4,f4,hI⟩⟩
  ·have HG:=bR ‹_›
   obtain ⟨cs',rfl,hcs'⟩:=f3 ‹D 3=true›
   rw [z4 bw] at hI
   refine aj hI 3 rfl aq (by simpa using hcs'.length) (by simpa using h6l) (by simpa using hcs'.one) fun w_ hI=>?_
   have k4:aB D 4 4=true->aB D 4 0=true/\aB D 4 1=true:=fun _=>⟨by assumption,by assumption⟩
   obtain ⟨q13,hq13⟩:∃ q:List Value,q=cs':=⟨_,rfl⟩
   rw [<- hq13] at hI hcs'
   have z4:aB D 4 4=false->q13=c6:=fun h=>Bool.noConfusion h
   have f4:aB D 4 4=true->RdF S5 q13 y:=fun _=>hcs'
   exact ⟨hF_.set 4 trivial,⟨S5,q13,hE5,k4,f2,f3,z4,f4,hI⟩⟩
  obtain ⟨rfl,rfl,OL,HG,_,_⟩:=hF_.all
  have QT:D 4=true:=by assumption
  clear hF_ bQ bS bU bR bY
  have hry:=f4 QT
  have hyl:=hry.length
  have hwy:wF y<=1048576:=by rw [hy,Jp]; exact hwx2
  rw [hB6] at hI
  have hI0:=hI
  refine ⟨fun D x7 Lt JR JG w_=>Fx D 0 [JG=.agg q13.toArray,JR=.agg q13.toArray,Lt=.bool (cR y),True,x7=.bool (cR y)]/\Inv w [] [B4,.blk b6 (.cells (cond (D 3) q13.toArray zP6) af),B8,.blk b13 (.cells q13.toArray af)] S5 w_,⟨Fx.nil _ _,hI.draw⟩,⟨?_,?_,?_,?_,?_,trivial⟩,?_⟩
  all_goals (intro D bw; intros; rename_i x7 Lt JR JG w_ hA_; have hF_:=hA_.1; obtain ⟨⟨bQ,bS,bU,bR,bY,_⟩,hI⟩:=hA_)
  ·refine ag hI 3 aq rfl (by simpa using hyl) ?_
   exact ⟨hF_.set 0 rfl,hI⟩
  ·refine ag hI 3 aq rfl (by simpa using hyl) ?_
   exact ⟨hF_.set 1 rfl,hI⟩
  ·obtain rfl:=bS ‹_›
   refine Run.callPure fJ fK hI (eW hry hwy) fun w_ hI=>?_
   exact ⟨hF_.set 2 rfl,hI⟩
  ·obtain rfl:=bQ ‹_›
   rw [bw] at hI
   refine aj hI 1 rfl aq (by simpa using hyl) rfl (by simpa using hry.one) fun w_ hI=>?_
   exact ⟨hF_.set 3 trivial,hI⟩
  ·obtain rfl:=bU ‹_›
   exact ⟨hF_.set 4 rfl,hI⟩
  obtain ⟨rfl,rfl,rfl,_,rfl,_⟩:=hF_.all
  have PT:D 3=true:=by assumption
  clear hF_ bQ bS bU bR bY
  rw [PT] at hI
  refine aS hI 1 aq rfl (by simpa using hyl) ?_
  exact ⟨_,[],S5,rfl,hI.nil,hE04.trans hE5,rfl,q13,rfl,hyl,hry.one,fun z e=>by rw [Option.some.injEq] at e; subst e; exact hry⟩
end
end
section
open Go Go.RowKit
def MS (s:ByteArray):Bool:=match gw 60 (bs s) 0 30 3 with
 | some (t,n)=>decide (n=s.size) && (cE t && decide (s.size<=1000))
 | none=>false
theorem Ky {s:ByteArray} (h:MS s=true):∃ t,gw 60 (bs s) 0 30 3=some (t,s.size)/\cE t=true/\s.size<=1000:=by
 unfold MS at h
 split at h
 ·rename_i t n hq
  simp only [Bool.and_eq_true,decide_eq_true_eq] at h
  obtain ⟨rfl,h2,h3⟩:=h
  exact ⟨t,hq,h2,h3⟩
 ·cases h
theorem FindO.w {p:List C} (hp:∀ cl∈p,sV cl) (hpl:p.length<=1000000) {k n:Nat} {s:Se} (hs:kT p.length s) (ho:okP s) (hx:okXk k s) {o:Option PF} (h:FindO p n s o):∀ y,o=some y->wF y<=842 * (k+n):=by
 obtain ⟨oS,h1,⟨rfl,rfl⟩|⟨t,rfl,h2⟩⟩:=h
 ·intro y e; cases e
 ·obtain ⟨q1,_,_⟩:=h1.ok (fun cl hc=>(hp cl hc).cf) hs ho t rfl
  exact h2.w q1 (h1.okXk hp hpl k hs hx t rfl)
theorem IW {q:List T} (h:Vq q):∃ h0:0<q.length,cE q[0]=true:=by
 obtain ⟨h1,h2⟩:=h
 rw [l4] at h1
 simp only [Bool.and_eq_true,List.all_eq_true] at h1
 exact ⟨h2,oq (h1.2 _ (List.getElem_mem h2))⟩
section
variable {br:Nat} {sl:Value} {ys:List Nat} {S:ae}
attribute [local irreducible] Run CondV ar aI
theorem zM {s:ByteArray} (h:MS s=true):Tri Tryz.prog Dq [.string s] [] S fun v I' S'=>I'=[]/\∃ cs t,v=.tuple #[.agg cs.toArray,.bool true]/\RdT S' cs t/\cE t=true:=by
 intro w hI
 obtain ⟨t,hq,hv,hs⟩:=Ky h
 have hwt:=tX hv
 have hbs:(bs s).length=s.size:=(gj (bs s)).symm
 refine py.2 ?_
 dsimp only[py,aE]
 refine aA hI aU fun b2 w' hI=>?_
 obtain ⟨B2,hB2⟩:∃ B:Item,B=.blk b2 (.cells zT4 ab):=⟨_,rfl⟩
 have e2:=congrArg some hB2
 have hI:Inv w [] [B2] S w':=by rw [hB2]; exact hI
 refine eQ aF ?_
 refine gP (by omega) ?_
 refine av (fun hb=>by cases hb) (fun _=>?_)
 refine Run.call0E eA eE hI (vC 60 (bs s) 0 30 3 t s.size S hq (Nat.le_trans (Nat.le_of_eq hbs) (by omega)) (Nat.zero_le _) (by omega) (by omega)) fun v I' S1 w'=>?_
 rintro ⟨rfl,cs,rfl,hcs⟩ hE1 hI
 have hcl:=hcs.length
 refine ai (v:=.agg cs.toArray) rfl ?_
 refine ai (v:=.int .i64 (s.size:Int)) rfl ?_
 refine aA hI aU fun b4 w' hI=>?_
 have hI:Inv w [] [B2,.blk b4 (.cells zT4 ab)] S1 w':=hI
 refine aj hI 1 rfl ac (by simpa using hcl) rfl (by simpa using hcs.one) fun w' hI=>?_
 have hI:Inv w [] [B2,.blk b4 (.cells cs.toArray ab)] S1 w':=hI
 refine ⟨fun q w'=>q=.bool false/\Inv w [] [B2,.blk b4 (.cells cs.toArray ab)] S1 w',?_,?_⟩
 ·refine eQ aF ?_
  refine dt ?_
  rw [decide_eq_true rfl]
  refine rpG ?_
  refine ag hI 1 ac rfl (by simpa using hcl) ?_
  refine Run.callPure jI jB hI (gW hcs (Dd (by omega))) fun w' hI=>?_
  rw [hv]
  refine bW ?_
  refine rpG ?_
  exact ⟨rfl,hI⟩
 intro q _ _ _ _ _ _ _ _ w'
 rintro ⟨rfl,hI⟩
 refine av (fun hb=>by cases hb) (fun _=>?_)
 refine ag hI 1 ac rfl (by simpa using hcl) ?_
 refine Run.call0E eD eC hI (fu t S1 cs hcs (by omega)) fun v' I' S' w'=>?_
 rintro ⟨eS,ds,L,rfl,rfl,hT⟩ _ hI
 rw [eS] at hI
 obtain ⟨S2,hI,hE2,hins⟩:=hI.pubExt
 have hds:=hT.rd hins
 have hdl:=hds.length
 refine aj hI 0 e2 ac (by simpa using hdl) rfl (by simpa using hds.one) fun w' hI=>?_
 refine aS hI 0 ac rfl (by simpa using hdl) ?_
 exact ⟨_,[],S2,rfl,hI.nil,hE1.trans hE2,rfl,ds,t,rfl,hds,hv⟩
abbrev Pi (br:Nat) (sl:Value) (p k:Nat):Value->List Item->ae->Prop:=fun v I' S'=>∃ p',p'<=p+k/\I'=[rdI br sl p']/\∃ u cs ps t,v=.tuple #[u,.agg cs.toArray]/\RdSl S' 5 (RdC S') u ps/\Light 8 200 ps/\0<ps.length/\(∀ c∈ps,dg c=true)/\RdT S' cs t/\cE t=true
theorem Ae {p:Nat} (hrd:RdSl S 1 jd sl ys) (hp:p<=9000000):Tri Tryz.prog Eb [rdP br] [rdI br sl p] S (Pi br sl p 7):=by
 intro w hI
 refine uj.2 ?_
 dsimp only[uj,aE]
 refine aA hI aU fun b3 w' hI=>?_
 obtain ⟨B3,hB3⟩:∃ B:Item,B=.blk b3 (.cells zT4 ab):=⟨_,rfl⟩
 have e3:=congrArg some hB3
 have hI:Inv w [br] [B3,rdI br sl p] S w':=by rw [hB3]; exact hI.last 0 rfl
 refine Run.callL bF bE hI (cN (n:=4) hrd (by omega) (by omega)) rfl fun v' I' S0 w'=>?_
 rintro ⟨rfl,rfl,k,hk,rfl⟩ _ hI
 have hI:Inv w [br] [B3,rdI br sl (p+1)] S0 w':=hI
 refine cY ?_
 refine aN (fun _=>?_) (fun _=>?_)
 ·refine vg hI (by kernel_rfl) rfl (by omega) fun v1 S1 w' hE1 hv1 hI=>?_
  have hI:Inv w [br] [B3,rdI br sl (p+1)] S1 w':=hI
  refine Run.callL ef er hI (jm (p:=p+1) (hrd.monoU hE1.1) hv1 (by decide) (by omega)) rfl fun v' I' S2 w'=>?_
  rintro ⟨rfl,rfl,n,hn,rfl⟩ _ hI
  have hI:Inv w [br] [B3,rdI br sl (p+2)] S2 w':=hI
  refine fh hI (by kernel_rfl) rfl (by omega) fun v3 S3 w' hE3 hv3 hI=>?_
  have hE03:=hE1.trans hE3
  obtain ⟨L,hL,k,rfl,hk11,hkL,hkok⟩:∃ L:List ByteArray,RdSl S3 1 iQ v3 L/\∃ k:Nat,n=(k:Int)/\k<11/\∃ h:k<L.length,MS L[k]=true:=by
   refine ⟨_,hv3,?_⟩
   have hn:n∈([0,1,2,3,5,9,0]:List Int):=hn
   simp only [List.mem_cons,List.not_mem_nil,or_false] at hn
   rcases hn with rfl|rfl|rfl|rfl|rfl|rfl|rfl
   ·exact ⟨0,rfl,by decide,by decide,by decide +kernel⟩
   ·exact ⟨1,rfl,by decide,by decide,by decide +kernel⟩
   ·exact ⟨2,rfl,by decide,by decide,by decide +kernel⟩
   ·exact ⟨3,rfl,by decide,by decide,by decide +kernel⟩
   ·exact ⟨5,rfl,by decide,by decide,by decide +kernel⟩
   ·exact ⟨9,rfl,by decide,by decide,by decide +kernel⟩
   ·exact ⟨0,rfl,by decide,by decide,by decide +kernel⟩
  have hI:Inv w [br] [B3,rdI br sl (p+2)] S3 w':=hI
  refine Run.call0E rz sB hI (pQ S3) fun v' I' S4 w'=>?_
  rintro ⟨rfl,l,hl,hl11,hok⟩ hE4 hI
  have hI:Inv w [br] [B3,rdI br sl (p+2)] S4 w':=hI
  have hk2:k<l.length:=by omega
  refine eX hI hl bH aC hk2 (fun cs hcs=>hcs) ?_
  rw [List.all_eq_true] at hok
  refine Run.call0E kr kI hI (Co (hok _ (List.getElem_mem hk2))) fun v I' S5 w'=>?_
  rintro ⟨u,css,ps,rfl,rfl,hR,h0,hps,hpv⟩ hE5 hI
  have hI:Inv w [br] [aP u aQ 5 css,B3,rdI br sl (p+2)] S5 w':=hI.perm (by
   refine List.Perm.trans (List.Perm.swap _ _ _) ?_
   exact (List.Perm.swap _ _ _).cons _)
  obtain ⟨S6,hE6,hI,hr⟩:=Ec hI hR
  have hE06:=((hE03.trans hE4).trans hE5).trans hE6
  have hE36:=(hE4.trans hE5).trans hE6
  refine ai (v:=u) rfl ?_
  refine ai (v:=.bool true) rfl ?_
  refine eX hI (hL.monoS hE36.1) bH aC hkL (fun cs hcs=>hcs) ?_
  refine Run.call0E AJ Bf hI (zM hkok) fun v' I' S7 w'=>?_
  rintro ⟨rfl,cs,t,rfl,hcs,htv⟩ hE7 hI
  have hcl:=hcs.length
  refine ai (v:=.agg cs.toArray) rfl ?_
  refine ai (v:=.bool true) rfl ?_
  refine aA hI aU fun b8 w' hI=>?_
  have hI:Inv w [br] [B3,rdI br sl (p+2),.blk b8 (.cells zT4 ab)] S7 w':=hI
  refine aj hI 2 rfl ac (by simpa using hcl) rfl (by simpa using hcs.one) fun w' hI=>?_
  have hI:Inv w [br] [.blk b3 (.cells zT4 ab),rdI br sl (p+2),.blk b8 (.cells cs.toArray ab)] S7 w':=by rw [<- hB3]; exact hI
  have hIk:=hI
  obtain ⟨ua,uc,rfl,_⟩:=id hr
  have hI:=hIk
  have hI0:=hI
  refine ⟨fun D x2 gU iI w_=>Fx D 0 [iI=.slice ua ps.length uc,gU=.agg cs.toArray,x2=.slice ua ps.length uc,True]/\Inv w [br] [.blk b3 (.cells (cond (D 3) cs.toArray zT4) ab),rdI br sl (p+2),.blk b8 (.cells cs.toArray ab)] S7 w_,⟨Fx.nil _ _,hI.draw⟩,⟨?_,?_,?_,?_,trivial⟩,?_⟩
  all_goals (intro D bw; intros; rename_i x2 gU iI w_ hA_; have hF_:=hA_.1; obtain ⟨⟨bQ,bS,bU,bR,_⟩,hI⟩:=hA_)
  ·exact ⟨hF_.set 0 rfl,hI⟩
  ·refine ag hI 2 ac rfl (by simpa using hcl) ?_
   exact ⟨hF_.set 1 rfl,hI⟩
  ·obtain rfl:=bQ ‹_›
   exact ⟨hF_.set 2 rfl,hI⟩
  ·obtain rfl:=bS ‹_›
   rw [bw] at hI; refine aj hI 0 rfl ac (by simpa using hcl) rfl (by simpa using hcs.one) fun w_ hI=>?_
   exact ⟨hF_.set 3 trivial,hI⟩
  obtain ⟨rfl,rfl,rfl,_,_⟩:=hF_.all
  have PT:D 3=true:=by assumption
  clear hF_ bQ bS bU bR
  rw [PT] at hI
  refine aS hI 0 ac rfl (by simpa using hcl) ?_
  exact ⟨_,[rdI br sl (p+2)],S7,rfl,hI.pick [false,true],hE06.trans hE7,p+2,by omega,rfl,_,cs,ps,t,rfl,hr.monoC hE7.1,hps,h0,hpv,hcs,htv⟩
 ·refine Run.callL GL Ft hI (A6 (p:=p+1) hrd (by omega)) rfl fun v' I' S1 w'=>?_
  rintro ⟨p1,hp1,rfl,u,g,ps,q,rfl,hps,hlp,h0,hpv,hq,hlq,hqv⟩ hE1 hI
  have hI:Inv w [br] [B3,rdI br sl p1] S1 w':=hI
  obtain ⟨hq0,hqh⟩:=IW hqv
  obtain ⟨ua,uc,rfl,_⟩:=id hps
  obtain ⟨qb,qo,qcap,qc,qE,qfz,rfl,hqS,hqR⟩:=hq.at_ hq0
  rw [Nat.zero_mul] at hqR
  have hcl:=hqR.length
  refine ai (v:=.slice ua ps.length uc) rfl ?_
  refine ai (v:=.slice (some ⟨qb,qo,none⟩) q.length qcap) rfl ?_
  rw [hB3] at hI
  have hI0:=hI
  refine ⟨fun D x2 mf kB iE jb w_=>Fx D 0 [jb=.slice ua ps.length uc,iE=.slice (some ⟨qb,qo,none⟩) q.length qcap,kB=.pointer (some ⟨qb,qo+0 * 4,none⟩),mf=.agg (aL qc (qo+0) 4).toArray,x2=.slice ua ps.length uc,True]/\Inv w [br] [.blk b3 (.cells (cond (D 5) (aL qc (qo+0) 4).toArray zT4) ab),rdI br sl p1] S1 w_,⟨Fx.nil _ _,hI.draw⟩,⟨?_,?_,?_,?_,?_,?_,trivial⟩,?_⟩
  all_goals (intro D bw; intros; rename_i x2 mf kB iE jb w_ hA_; have hF_:=hA_.1; obtain ⟨⟨bQ,bS,bU,bR,bY,bZ,_⟩,hI⟩:=hA_)
  ·exact ⟨hF_.set 0 rfl,hI⟩
  ·exact ⟨hF_.set 1 rfl,hI⟩
  ·obtain rfl:=bS ‹_›
   refine ay (i:=0) ah hq0 ?_
   exact ⟨hF_.set 2 rfl,hI⟩
  ·obtain rfl:=bU ‹_›
   refine ci ac hcl (fun j v hj=>by rw [hI.cellS hqS]; exact aD rfl j v hj) ?_
   exact ⟨hF_.set 3 rfl,hI⟩
  ·obtain rfl:=bQ ‹_›
   exact ⟨hF_.set 4 rfl,hI⟩
  ·obtain rfl:=bR ‹_›
   rw [bw] at hI; refine aj hI 0 rfl ac (by simpa using hcl) rfl (by simpa using hqR.one) fun w_ hI=>?_
   exact ⟨hF_.set 5 trivial,hI⟩
  obtain ⟨rfl,rfl,rfl,rfl,rfl,_,_⟩:=hF_.all
  have QH:D 5=true:=by assumption
  clear hF_ bQ bS bU bR bY bZ
  rw [QH] at hI
  refine aS hI 0 ac rfl (by simpa using hcl) ?_
  exact ⟨_,[rdI br sl p1],S1,rfl,hI.pick [false,true],hE1,p1,by omega,rfl,_,_,ps,q[0],rfl,hps,hlp,h0,hpv,hqR,hqh⟩
abbrev Pk (br:Nat) (sl:Value) (p k:Nat):Value->List Item->ae->Prop:=fun v I' S'=>∃ p',p'<=p+k/\I'=[rdI br sl p']/\∃ u cs ps x,v=.tuple #[u,.agg cs.toArray]/\RdSl S' 5 (RdC S') u ps/\Light 8 200 ps/\0<ps.length/\(∀ c∈ps,dg c=true)/\RdF S' cs x/\wF x<=100000
theorem p9 {p:Nat} (hrd:RdSl S 1 jd sl ys) (hp:p<=9000000):Tri Tryz.prog Eo [rdP br] [rdI br sl p] S (Pk br sl p 8):=by
 intro w hI
 refine sf.2 ?_
 dsimp only[sf,aE]
 refine aA hI bV fun b3 w' hI=>?_
 have hI:Inv w [br] [.blk b3 (.cells zP6 af),rdI br sl p] S w':=hI.last 0 rfl
 refine Run.callL CY Dp hI (Ae (p:=p) hrd (by omega)) rfl fun v' I' S1 w'=>?_
 rintro ⟨p1,hp1,rfl,u,cs,ps,t,rfl,hps,hlp,h0,hpv,hcs,htv⟩ hE1 hI
 have hcs0:=hcs
 obtain ⟨kv,rfl,_⟩:=RdT.iff.1 hcs
 have hcs:=hcs0
 have hcm:∀ cl∈ps,sV cl:=fun cl hc=>ES (hpv cl hc)
 have hll:=hlp.1
 have hwt:=tX htv
 have htU:=li htv
 have hso:=BM (n:=ps.length) htU (by omega)
 have hsx:=yj (o9 htv)
 obtain ⟨o,ho⟩:=FindO.ex hcm (by omega) (n:=100) hso (qR t) hsx
 have how:=ho.w hcm (by omega) hso (qR t) hsx
 obtain ⟨ua,uc,rfl,_⟩:=id hps
 refine ai (v:=.slice ua ps.length uc) rfl ?_
 refine ai (v:=.agg #[.int .i64 t.kind,.int .i64 t.n,.string t.name,kv]) rfl ?_
 refine aA hI aU fun b5 w' hI=>?_
 have hI:Inv w [br] [.blk b3 (.cells zP6 af),rdI br sl p1,.blk b5 (.cells zT4 ab)] S1 w':=hI
 refine aj (cs:=#[.int .i64 t.kind,.int .i64 t.n,.string t.name,kv]) hI 2 rfl ac rfl rfl (by simpa using hcs.one) fun w' hI=>?_
 have hI:Inv w [br] [.blk b3 (.cells zP6 af),.blk b5 (.cells #[.int .i64 t.kind,.int .i64 t.n,.string t.name,kv] ab),rdI br sl p1] S1 w':=hI.last 1 rfl
 obtain ⟨B5,hB5⟩:∃ B:Item,B=.blk b5 (.cells #[.int .i64 t.kind,.int .i64 t.n,.string t.name,kv] ab):=⟨_,rfl⟩
 have e5:=congrArg some hB5
 have hI:Inv w [br] [.blk b3 (.cells zP6 af),B5,rdI br sl p1] S1 w':=by rw [hB5]; exact hI
 refine ag hI 1 ac e5 rfl ?_
 refine Run.call0E CU DT hI (AX hcm (by omega) ⟨htU,by omega⟩ (o9 htv) (n:=100) (by omega) ho hps hcs) fun v' I' S2 w'=>?_
 rintro ⟨rfl,c6,rfl,h6l,h6o,h6r⟩ hE2 hI
 have hE02:=hE1.trans hE2
 refine ai (v:=.agg c6.toArray) rfl ?_
 refine ai (v:=.bool (o.elim false cR)) rfl ?_
 refine aA hI bV fun b6 w' hI=>?_
 have hI:Inv w [br] [.blk b3 (.cells zP6 af),B5,rdI br sl p1,.blk b6 (.cells zP6 af)] S2 w':=hI
 refine aj hI 3 rfl aq (by simpa using h6l) rfl (by simpa using h6o) fun w' hI=>?_
 have hI:Inv w [br] [.blk b3 (.cells zP6 af),B5,.blk b6 (.cells c6.toArray af),rdI br sl p1] S2 w':=hI.last 2 rfl
 refine ⟨fun w'=>∃ (p2:Nat) (d6:List Value) (x:PF),p2<=p1+1/\RdF S2 d6 x/\wF x<=100000/\Inv w [br] [.blk b3 (.cells zP6 af),B5,.blk b6 (.cells d6.toArray af),rdI br sl p2] S2 w',?_,?_⟩
 ·refine bW ?_
  refine av (fun hb=>?_) (fun hb=>?_)
  ·have hcs2:=hcs.mono hE2.1
   have hrd2:=hrd.monoU hE02.1
   refine ⟨fun D lY ni mD kX w_=>Fx D 0 [kX=.agg #[.int .i64 t.kind,.int .i64 t.n,.string t.name,kv],mD=rdP br,True,True,True]/\∃ p2,(D 2=false->p2=p1)/\(D 2=true->p2=p1+1)/\(D 4=true->D 3=true)/\(D 2=true->∃ i:Int,ni=.int .i64 i/\0<=i/\i<=1)/\(D 3=true->∃ i:Int,lY=.agg #[.int .i64 t.kind,.int .i64 t.n,.string t.name,kv,.int .i64 i,.slice none 0 0]/\0<=i/\i<=1)/\∃ q6:List Value,(D 4=false->q6=c6)/\(D 4=true->∃ i:Int,q6=[.int .i64 t.kind,.int .i64 t.n,.string t.name,kv,.int .i64 i,.slice none 0 0]/\0<=i/\i<=1)/\Inv w [br] [.blk b3 (.cells zP6 af),B5,.blk b6 (.cells q6.toArray af),rdI br sl p2] S2 w_,⟨Fx.nil _ _,⟨p1,fun _=>rfl,aT,aT,aT,aT,c6,fun _=>rfl,aT,hI.draw⟩⟩,⟨?_,?_,?_,?_,?_,trivial⟩,?_⟩
   all_goals (intro D bw; intros; rename_i lY ni mD kX w_ hA_; have hF_:=hA_.1; obtain ⟨⟨bQ,bS,bU,bR,bY,_⟩,⟨p2,z2,y2,k4,f2,f3,q6,z4,f4,hI⟩⟩:=hA_)
   ·refine ag hI 1 ac e5 rfl ?_
    exact ⟨hF_.set 0 rfl,⟨p2,z2,y2,k4,f2,f3,q6,z4,f4,hI⟩⟩
   ·exact ⟨hF_.set 1 rfl,⟨p2,z2,y2,k4,f2,f3,q6,z4,f4,hI⟩⟩
   ·obtain rfl:=bS ‹_›
    have hp2:=z2 bw
    refine Run.callL (L:=[.blk b3 _,B5,.blk b6 _,rdI br sl p2]) bF bE hI (cN (n:=2) (p:=p2) hrd2 (by omega) (by omega)) rfl fun v' I' S' w_=>?_
    rintro ⟨eS,rfl,i,hi,rfl⟩ _ hI
    rw [eS] at hI
    have hI:Inv w [br] [.blk b3 (.cells zP6 af),B5,.blk b6 (.cells q6.toArray af),rdI br sl (p2+1)] S2 w_:=hI
    have f2:aB D 2 2=true->∃ i':Int,Value.int .i64 (i:Int)=.int .i64 i'/\0<=i'/\i'<=1:=fun _=>⟨i,rfl,by omega,by omega⟩
    have z2:aB D 2 2=false->p2+1=p1:=fun h=>Bool.noConfusion h
    have y2:aB D 2 2=true->p2+1=p1+1:=fun _=>by rw [hp2]
    obtain ⟨p2,hp3⟩:∃ p3,p3=p2+1:=⟨_,rfl⟩
    rw [<- hp3] at hI z2 y2
    exact ⟨hF_.set 2 (by first|assumption|trivial),⟨p2,z2,y2,k4,f2,f3,q6,z4,f4,hI⟩⟩
   ·obtain rfl:=bQ ‹_›
    have OL:=bU ‹_›
    obtain ⟨i,rfl,hi0,hi1⟩:=f2 ‹D 2=true›
    refine o5 ?_
    have f3:aB D 3 3=true->∃ i':Int,Value.agg #[.int .i64 t.kind,.int .i64 t.n,.string t.name,kv,.int .i64 i,.slice none 0 0]=.agg #[.int .i64 t.kind,.int .i64 t.n,.string t.name,kv,.int .i64 i',.slice none 0 0]/\0<=i'/\i'<=1:=fun _=>⟨i,rfl,hi0,hi1⟩
    have k4:aB D 3 4=true->aB D 3 3=true:=fun _=>rfl
    exact ⟨hF_.set 3 (by first|assumption|trivial),⟨p2,z2,y2,k4,f2,f3,q6,z4,f4,hI⟩⟩
   ·have HG:=bR ‹_›
    obtain ⟨i,rfl,hi0,hi1⟩:=f3 ‹D 3=true›
    rw [z4 bw] at hI
    refine aj (cs:=#[.int .i64 t.kind,.int .i64 t.n,.string t.name,kv,.int .i64 i,.slice none 0 0]) hI 2 rfl aq rfl (by simpa using h6l) (BF hcs.one rfl) fun w_ hI=>?_
    have k4:aB D 4 4=true->aB D 4 3=true:=fun _=>‹D 3=true›
    obtain ⟨q6,hq6⟩:∃ q:List Value,q=[.int .i64 t.kind,.int .i64 t.n,.string t.name,kv,.int .i64 i,.slice none 0 0]:=⟨_,rfl⟩
    have hI:Inv w [br] [.blk b3 (.cells zP6 af),B5,.blk b6 (.cells q6.toArray af),rdI br sl p2] S2 w_:=by rw [hq6]; exact hI
    have z4:aB D 4 4=false->q6=c6:=fun h=>Bool.noConfusion h
    have f4:aB D 4 4=true->∃ i':Int,q6=[.int .i64 t.kind,.int .i64 t.n,.string t.name,kv,.int .i64 i',.slice none 0 0]/\0<=i'/\i'<=1:=fun _=>⟨i,hq6,hi0,hi1⟩
    exact ⟨hF_.set 4 trivial,⟨p2,z2,y2,k4,f2,f3,q6,z4,f4,hI⟩⟩
   obtain ⟨rfl,rfl,OL,HG,_,_⟩:=hF_.all
   have QX:D 2=true:=by assumption
   have QT:D 4=true:=by assumption
   clear hF_ bQ bS bU bR bY
   obtain ⟨i,rfl,hi0,hi1⟩:=f4 QT
   have hp2:=y2 QX
   refine ⟨p2,_,.mk t i [],by omega,RdF.iff.2 ⟨kv,_,rfl,hcs2,⟨by simp only [PF.clause]; omega,by simp only [PF.clause]; omega⟩,RdSl.nil0 ..⟩,?_,hI⟩
   simp only [wF,wFL,List.length_nil]
   omega
  ·have hb:o.elim false cR=true:=by simpa using hb
   cases o with
   | none=>cases hb
   | some y=>
    have:=how y rfl
    exact ⟨p1,c6,y,by omega,h6r y rfl,by omega,hI⟩
 intro _ _ _ _ _ _ w'
 rintro ⟨p2,d6,x,hp2,hx,hwx,hI⟩
 have hxl:=hx.length
 have hI0:=hI
 refine ⟨fun D x2 lf iT w_=>Fx D 0 [iT=.slice ua ps.length uc,lf=.agg d6.toArray,x2=.slice ua ps.length uc,True]/\Inv w [br] [.blk b3 (.cells (cond (D 3) d6.toArray zP6) af),B5,.blk b6 (.cells d6.toArray af),rdI br sl p2] S2 w_,⟨Fx.nil _ _,hI.draw⟩,⟨?_,?_,?_,?_,trivial⟩,?_⟩
 all_goals (intro D bw; intros; rename_i x2 lf iT w_ hA_; have hF_:=hA_.1; obtain ⟨⟨bQ,bS,bU,bR,_⟩,hI⟩:=hA_)
 ·exact ⟨hF_.set 0 rfl,hI⟩
 ·refine ag hI 2 aq rfl (by simpa using hxl) ?_
  exact ⟨hF_.set 1 rfl,hI⟩
 ·obtain rfl:=bQ ‹_›
  exact ⟨hF_.set 2 rfl,hI⟩
 ·obtain rfl:=bS ‹_›
  rw [bw] at hI; refine aj hI 0 rfl aq (by simpa using hxl) rfl (by simpa using hx.one) fun w_ hI=>?_
  exact ⟨hF_.set 3 trivial,hI⟩
 obtain ⟨rfl,rfl,rfl,_,_⟩:=hF_.all
 have PT:D 3=true:=by assumption
 clear hF_ bQ bS bU bR
 rw [PT] at hI
 refine aS hI 0 aq rfl (by simpa using hxl) ?_
 exact ⟨_,[rdI br sl p2],S2,rfl,hI.pick [false,false,false,true],hE02,p2,by omega,rfl,_,d6,ps,x,rfl,hps.monoC hE2.1,hlp,h0,hpv,hx,hwx⟩
end
end
end Go.Proofs.YtbocelianhcfmaaGreatDoor
