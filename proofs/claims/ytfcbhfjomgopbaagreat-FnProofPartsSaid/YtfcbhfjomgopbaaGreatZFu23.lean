/- Matching and substitution, in plain Lean: a match is found exactly if there is a substitution; subsumption is an order. -/
import Derived.Test.YtfcbhfjomgopbaaGreatZFu9
import Derived.Test.YtfcbhfjomgopbaaGreatZFu22
import Derived.Test.YtfcbhfjomgopbaaGreatZFu3
namespace Go.Proofs.YtfcbhfjomgopbaaGreat
section
open Go Go.RowKit
def Agk (σ:Int->T) (st:aF):Prop:=∀ (i:Nat) (t:T),st[i]?=some (some t)->σ i=t
def Gek (st st':aF):Prop:=st'.length=st.length/\∀ (i:Nat) (t:T),st[i]?=some (some t)->st'[i]?=some (some t)
theorem Gek.refl (st:aF):Gek st st:=⟨rfl,fun _ _ h=>h⟩
theorem Gek.trans {a b c:aF} (h:Gek a b) (h':Gek b c):Gek a c:=⟨h'.1.trans h.1,fun i t hi=>h'.2 i t (h.2 i t hi)⟩
theorem Agk.less {σ:Int->T} {a b:aF} (h:Agk σ b) (hg:Gek a b):Agk σ a:=fun i t hi=>h i t (hg.2 i t hi)
end
section
open Go Go.RowKit
section
variable {S:ae} {ys zs:List Nat} {v u:Value}
attribute [local irreducible] Run CondV aB aS
theorem RdC.cells {S:ae} {cs:List Value} {c:C} (h:RdC S cs c):∃ kv kb,cs=[.int .i64 c.head.kind,.int .i64 c.head.n,.string c.head.name,kv,kb]/\RdT S [.int .i64 c.head.kind,.int .i64 c.head.n,.string c.head.name,kv] c.head/\RdSl S 4 (RdT S) kb c.body:=by
 obtain ⟨hd,kb,rfl,h1,h2⟩:=h
 have h1':=h1
 obtain ⟨kv,rfl,_⟩:=RdT.iff.1 h1
 exact ⟨kv,kb,rfl,h1',h2⟩
end
end
section
open Go Go.RowKit
mutual
theorem FL:∀ (t:T) (d:Int),eZ t d=true->okN t
 | .mk k n s ks,d,h=>by
  rw [eZ] at h
  split at h
  ·cases h
  rw [Bool.and_eq_true] at h
  obtain ⟨ho,hk⟩:=h
  rw [okN]
  refine ⟨fun e=>?_,BZ ks _ hk⟩
  subst e
  have ho2:eM (.mk 2 n s ks)=(decide (-999<=n) && (decide (n<=999) && (decide (s=emptyB) && decide (ks.length=0)))):=by
   rw [eM]; exact (if_neg (show ¬ (2:Int)=1 by decide)).trans (if_pos rfl)
  rw [ho2,Bool.and_eq_true,Bool.and_eq_true] at ho
  exact ⟨of_decide_eq_true ho.1,of_decide_eq_true ho.2.1⟩
theorem BZ:∀ (ts:List T) (d:Int),eV ts d=true->yy ts
 | [],_,_=>by rw [yy]; trivial
 | t::ts,d,h=>by
  rw [eV,Bool.and_eq_true] at h
  rw [yy]
  exact ⟨FL t d h.1,BZ ts d h.2⟩
end
theorem ER {t:T} (h:dg t=true):okN t:=FL t 30 (qu h)
theorem oA {t:T} (h:dg t=true):wT t<=840:=by
 have ho:=iT h
 have h1:=MQ t ho
 rw [dg,Bool.and_eq_true] at h
 have h2:dE t<=120:=by simpa using h.2
 omega
theorem eq {g:T} (h:ek g=true):dg g=true:=by
 rw [ek,Bool.and_eq_true] at h; exact h.1
theorem Oq {g:T} (h:ek g=true):decide (g.kind=3)=true:=by
 rw [ek,Bool.and_eq_true,Bool.or_eq_true,Bool.or_eq_true] at h
 rcases h.2 with h|h|h
 ·rw [jT,Bool.and_eq_true] at h; exact h.1
 ·rw [i0,Bool.and_eq_true] at h; exact h.1
 ·rw [cO,Bool.and_eq_true] at h; exact h.1
def bltF (g:T) (f:Bool):Prop:=(cO g=false/\f=false) ∨ (cO g=true/\∃ code st',Blt Qs g code st'/\f=sf code st')
theorem bltF.ex {g:T} (h:dg g=true):∃ f,bltF g f:=by
 cases hb:cO g with
 | false=>exact ⟨false,.inl ⟨hb,rfl⟩⟩
 | true=>
  have:=oA h
  obtain ⟨c,st',hB⟩:=Blt.ex (na 26) hb ⟨iT h,by omega⟩
  exact ⟨_,.inr ⟨hb,c,st',hB,rfl⟩⟩
open Classical in
noncomputable def bltV (g:T):Bool:=if h:∃ f,bltF g f then h.choose else false
theorem Bd {g:T} (h:dg g=true):bltF g (bltV g):=by
 have he:=bltF.ex h
 rw [bltV,dif_pos he]
 exact he.choose_spec
def Cj:List T->List PF->aF->Bool
 | g::gs,x::xs,st=>!jT g && ((cw g x.goal st).1 && Cj gs xs (cw g x.goal st).2)
 | _,_,_=>true
noncomputable def nodeC (p:List C) (g:T) (c:Int) (ks:List PF):Bool:=if c<0 then decide (ks.length=0) && bltV g else match p[c.toNat]? with
 | none=>false
 | some q=>decide (ks.length=q.body.length) && ((cw q.head g st0).1 && Cj q.body ks (cw q.head g st0).2)
mutual
noncomputable def chkF (p:List C):PF->Bool
 | .mk g c ks=>nodeC p g c ks && chkFL p ks
noncomputable def chkFL (p:List C):List PF->Bool
 | []=>true
 | x::xs=>chkF p x && chkFL p xs
end
noncomputable def interL (p:List C):List T->List PF->aF->Bool
 | g::gs,x::xs,st=>!jT g && ((cw g x.goal st).1 && (chkF p x && interL p gs xs (cw g x.goal st).2))
 | _,_,_=>true
theorem Ia (p:List C):∀ (gs:List T) (xs:List PF) (st:aF),gs.length=xs.length->interL p gs xs st=(Cj gs xs st && chkFL p xs)
 | [],[],_,_=>rfl
 | g::gs,x::xs,st,h=>by
  rw [interL,Cj,chkFL,Ia p gs xs _ (by simpa using h)]
  cases jT g <;> cases (cw g x.goal st).1 <;> cases chkF p x <;> simp
 | [],_::_,_,h=>by simp at h
 | _::_,[],_,h=>by simp at h
theorem FO:∀ {ts:List PF} {d:Int},nG ts d=true->∀ x∈ts,mP x d=true
 | t::ts,d,h,x,hx=>by
  rw [nG,Bool.and_eq_true] at h
  rcases List.mem_cons.1 hx with rfl|hx
  ·exact h.1
  ·exact FO h.2 x hx
theorem kI {g:T} {c:Int} {ks:List PF} {d:Int} (h:mP (.mk g c ks) d=true):ek g=true/\(-1<=c/\c<=19)/\∀ x∈ks,mP x (d - 1)=true:=by
 rw [mP,Bool.and_eq_true,Bool.and_eq_true,xu,Bool.and_eq_true,Bool.and_eq_true,Bool.and_eq_true,decide_eq_true_eq,decide_eq_true_eq,decide_eq_true_eq,decide_eq_true_eq] at h
 obtain ⟨_,⟨h1,⟨h2,h3⟩,_⟩,h4⟩:=h
 exact ⟨h1,⟨h2,h3⟩,FO h4⟩
theorem zW {p:List C} (h:nX p=true) {c:C} (hc:c∈p):cC c=true:=by
 rw [nX,Bool.and_eq_true,List.all_eq_true] at h
 exact h.2 c hc
theorem KV {a b c d e f:Value}:∀ (j:Nat) (v:Value),([a,b,c,d]:List Value)[j]?=some v->([a,b,c,d,e,f]:List Value)[j]?=some v
 | 0,_,h|1,_,h|2,_,h|3,_,h=>h
 | j+4,_,h=>by simp at h
section
attribute [local irreducible] Run CondV aB aS
theorem xQ {g:T} (hv:dg g=true) (hb:cO g=true) {S:ae} {cs:List Value} (h:RdT S cs g):Pure Tryz.prog H4 [.agg cs.toArray] S (.bool (bltV g)):=by
 intro w hI
 have hl:=h.length
 have hw:=oA hv
 obtain ⟨code,st',hB,hf⟩:∃ code st',Blt Qs g code st'/\bltV g=sf code st':=by
  rcases Bd hv with ⟨h1,_⟩|⟨_,h1⟩
  ·rw [hb] at h1; cases h1
  ·exact h1
 refine se.2 ?_
 dsimp only[se,aL]
 refine bf hI fun b1 w' hI=>?_
 refine ao hI 0 ac rfl (by simpa [Value.cells] using hl) ?_
 refine Run.call0E xW yw hI (rW hv hb ⟨iT hv,by omega⟩ (ER hv) hB h) fun v' I' S1 w'=>?_
 rintro ⟨a,n,cap,c,rfl,hfl⟩ hE hI
 refine aj (v:=.slice a n cap) rfl ?_
 refine aj (v:=.int .i64 c) rfl ?_
 refine aZ ?_
 rw [hf,<- hfl]
 cases hc:decide (c=0)
 ·refine rpG ?_
  exact gi hI hE.1 rfl
 refine rpG ?_
 refine dK EY ?_
 refine aZ ?_
 refine rpG ?_
 refine gi hI hE.1 ?_
 have el:decide ((n:Int)=0)=decide (n=0):=by rw [decide_eq_decide]; omega
 rw [el]
 rfl
set_option maxHeartbeats 1000000 in
theorem Er {p:List C} (hpv:nX p=true) {g:T} {c:Int} {ks:List PF} {d:Int} (hsh:mP (.mk g c ks) d=true) {S:ae} {u:Value} {cs:List Value} (hp:RdSl S 5 (RdC S) u p) (h:RdF S cs (.mk g c ks)) :
  Pure Tryz.prog IQ [u,.agg cs.toArray] S (.bool (nodeC p g c ks)):=by
 intro w hI
 obtain ⟨kv,kf,rfl,hg,hci,hks⟩:=RdF.iff.1 h
 obtain ⟨hgb,hcr,hkids⟩:=kI hsh
 have hgv:=eq hgb
 simp only [PF.goal,PF.kids,PF.clause] at hg hci hks ⊢
 have hkl:=hks.le
 simp only [maxLen] at hkl
 rw [nodeC]
 refine wO.2 ?_
 dsimp only[wO,aW]
 refine bf hI fun b3 w' hI=>?_
 have hI:Inv w [] [.blk b3 (.cells #[.int .i64 g.kind,.int .i64 g.n,.string g.name,kv,.int .i64 c,kf] ag)] S w':=hI
 refine ad (u:=.int .i64 c) hI 0 rfl cA av rfl ?_
 refine bq ?_
 refine aI (fun hneg=>?_) (fun hneg=>?_)
 ·rw [if_pos hneg]
  refine ad hI 0 rfl be bk rfl ?_
  refine aC hks bz ?_
  refine aZ ?_
  have el:decide ((ks.length:Int)=0)=decide (ks.length=0):=by rw [decide_eq_decide]; omega
  rw [el]
  cases hk0:decide (ks.length=0)
  ·refine rpG ?_
   exact done hI rfl
  refine rpG ?_
  obtain ⟨gk,gkv,hge,_,_,hgs,hgk⟩:=RdT.iff.1 hg
  refine ai cQ ?_
  refine ai aO ?_
  refine aA (v:=.string g.name) hI 0 aJ rfl rfl ?_
  refine ai cQ ?_
  refine ai al ?_
  refine aA (v:=kv) hI 0 ah rfl rfl ?_
  have hkv:RdSl S 4 (RdT S) kv g.kids:=by
   obtain ⟨kv2,e,_,_,_,h2⟩:=RdT.iff.1 hg
   simp only [List.cons.injEq,and_true,true_and] at e
   rw [e]; exact h2
  refine aC hkv af ?_
  refine Run.callPure fU fY hI (fh _ _ S) fun w' hI=>?_
  have hbt:cO g=dG g.name g.kids.length:=by rw [cO,Oq hgb,Bool.true_and]
  rw [<- hbt]
  cases hb:cO g
  ·refine rpG ?_
   refine done hI ?_
   rcases Bd hgv with ⟨_,h2⟩|⟨h2,_⟩
   ·rw [h2]; rfl
   ·rw [hb] at h2; cases h2
  refine rpG ?_
  refine ai cQ ?_
  refine b0 hI 0 [_,_,_,_] ac rfl rfl sH ?_
  refine Run.callPure Em Es hI (xQ hgv hb hg) fun w' hI=>?_
  refine rpG ?_
  exact done hI rfl
 rw [if_neg hneg]
 by_cases hge:(p.length:Int)<=c
 ·have hpn:p[c.toNat]?=none:=List.getElem?_eq_none (by omega)
  rw [hpn]
  refine ⟨fun D jL mw kL jY iC iJ ig lK gK gr lN iD ji nU j9 mD iE ia w_=>Fx D 0 [ia=.pointer (some ⟨b3,4,none⟩),iE=.int .i64 c,mD=u,j9=.int .i64 p.length,nU=.bool true,ji=.bool true,iD=undef,lN=undef,gr=undef,gK=undef,lK=undef,ig=undef,iJ=undef,iC=undef,jY=undef,kL=undef,mw=undef,jL=.bool true]/\Inv w [] [.blk b3 (.cells #[.int .i64 g.kind,.int .i64 g.n,.string g.name,kv,.int .i64 c,kf] ag)] S w_,⟨Fx.nil _ _,hI.draw⟩,⟨?_,?_,?_,?_,?_,?_,?_,?_,?_,?_,?_,?_,?_,?_,?_,?_,?_,?_,trivial⟩,?_⟩
  all_goals (intro D bn; intros; rename_i jL mw kL jY iC iJ ig lK gK gr lN iD ji nU j9 mD iE ia w_ hA_; have hF_:=hA_.1; obtain ⟨⟨bR,bQ,bG,bS,bU,bB,bD,cq,ci,cL,bH,bT,cH,de,cB,dk,dw,dH,_⟩,hI⟩:=hA_)
  ·refine ai cA ?_
   exact ⟨hF_.set 0 rfl,hI⟩
  ·obtain rfl:=bR ‹_›
   refine aA hI 0 av rfl rfl ?_
   exact ⟨hF_.set 1 rfl,hI⟩
  ·exact ⟨hF_.set 2 rfl,hI⟩
  ·obtain rfl:=bG ‹_›
   refine aC hp bL ?_
   exact ⟨hF_.set 3 rfl,hI⟩
  ·obtain rfl:=bQ ‹_›
   obtain rfl:=bS ‹_›
   refine fw ?_
   rw [decide_eq_true hge]
   exact ⟨hF_.set 4 rfl,hI⟩
  ·obtain rfl:=bU ‹_›
   exact ⟨hF_.set 5 rfl,hI⟩
  ·obtain rfl:=bB ‹_›
   refine rpG ?_
   exact ⟨hF_.set 6 rfl,hI⟩
  ·obtain rfl:=bD ‹_›
   obtain rfl:=bB ‹_›
   refine rpG ?_
   exact ⟨hF_.set 7 rfl,hI⟩
  ·obtain rfl:=cq ‹_›
   obtain rfl:=bB ‹_›
   refine rpG ?_
   exact ⟨hF_.set 8 rfl,hI⟩
  ·obtain rfl:=bB ‹_›
   refine rpG ?_
   exact ⟨hF_.set 9 rfl,hI⟩
  ·obtain rfl:=bB ‹_›
   refine rpG ?_
   exact ⟨hF_.set 10 rfl,hI⟩
  ·obtain rfl:=bH ‹_›
   obtain rfl:=bB ‹_›
   refine rpG ?_
   exact ⟨hF_.set 11 rfl,hI⟩
  ·obtain rfl:=cL ‹_›
   obtain rfl:=bT ‹_›
   obtain rfl:=bB ‹_›
   refine rpG ?_
   exact ⟨hF_.set 12 rfl,hI⟩
  ·obtain rfl:=cH ‹_›
   obtain rfl:=bB ‹_›
   refine rpG ?_
   exact ⟨hF_.set 13 rfl,hI⟩
  ·obtain rfl:=de ‹_›
   obtain rfl:=bB ‹_›
   refine rpG ?_
   exact ⟨hF_.set 14 rfl,hI⟩
  ·obtain rfl:=cB ‹_›
   obtain rfl:=bB ‹_›
   refine rpG ?_
   exact ⟨hF_.set 15 rfl,hI⟩
  ·obtain rfl:=ci ‹_›
   obtain rfl:=dk ‹_›
   obtain rfl:=bB ‹_›
   refine rpG ?_
   exact ⟨hF_.set 16 rfl,hI⟩
  ·obtain rfl:=bB ‹_›
   obtain rfl:=dw ‹_›
   refine rpG ?_
   exact ⟨hF_.set 17 rfl,hI⟩
  obtain ⟨rfl,rfl,rfl,rfl,rfl,rfl,rfl,rfl,rfl,rfl,rfl,rfl,rfl,rfl,rfl,rfl,rfl,rfl,_⟩:=hF_.all
  clear hF_ bR bQ bG bS bU bB bD cq ci cL bH bT cH de cB dk dw dH
  refine az (fun _=>done hI rfl) (fun hb=>by cases hb)
 obtain ⟨j,hcj⟩:∃ j:Nat,c=(j:Int):=⟨c.toNat,by omega⟩
 have hjl:j<p.length:=by omega
 subst hcj
 have hpe:p[(j:Int).toNat]?=some p[j]:=by rw [Int.toNat_natCast,List.getElem?_eq_getElem hjl]
 rw [hpe]
 have hqv:=zW hpv (List.getElem_mem hjl)
 obtain ⟨q,hq⟩:∃ q,q=p[j]:=⟨_,rfl⟩
 obtain ⟨pb,po,pcap,pc,pE,pfz,rfl,hpS,hpR⟩:=hp.at_ hjl
 rw [<- hq] at hpR hqv ⊢
 obtain ⟨kh,kb,hcc,hqh,hqb⟩:=hpR.cells
 have hcl5:=hpR.length
 rw [hcc] at hpR
 have hlq:decide ((ks.length:Int)=(q.body.length:Int))=decide (ks.length=q.body.length):=by rw [decide_eq_decide]; omega
 have hqo:=FG hqv
 refine ⟨fun D jL mw kL jY iC iJ ig lK gK gr lN iD ji nU j9 mD iE ia w_=>Fx D 0 [ia=.pointer (some ⟨b3,4,none⟩),iE=.int .i64 (j:Int),mD=.slice (some ⟨pb,po,none⟩) p.length pcap,j9=.int .i64 p.length,nU=.bool false,ji=.bool false,iD=.pointer (some ⟨b3,5,none⟩),lN=kf,gr=.int .i64 ks.length,gK=.slice (some ⟨pb,po,none⟩) p.length pcap,lK=.pointer (some ⟨b3,4,none⟩),ig=.int .i64 (j:Int),iJ=.pointer (some ⟨pb,po+j * 5,none⟩),iC=.pointer (some ⟨pb,po+j * 5+4,none⟩),jY=kb,kL=.int .i64 q.body.length,mw=.bool (!decide (ks.length=q.body.length)),jL=.bool (!decide (ks.length=q.body.length))]/\Inv w [] [.blk b3 (.cells #[.int .i64 g.kind,.int .i64 g.n,.string g.name,kv,.int .i64 (j:Int),kf] ag)] S w_,⟨Fx.nil _ _,hI.draw⟩,⟨?_,?_,?_,?_,?_,?_,?_,?_,?_,?_,?_,?_,?_,?_,?_,?_,?_,?_,trivial⟩,?_⟩
 all_goals (intro D bn; intros; rename_i jL mw kL jY iC iJ ig lK gK gr lN iD ji nU j9 mD iE ia w_ hA_; have hF_:=hA_.1; obtain ⟨⟨bR,bQ,bG,bS,bU,bB,bD,cq,ci,cL,bH,bT,cH,de,cB,dk,dw,dH,_⟩,hI⟩:=hA_)
 ·refine ai cA ?_
  exact ⟨hF_.set 0 rfl,hI⟩
 ·obtain rfl:=bR ‹_›
  refine aA hI 0 av rfl rfl ?_
  exact ⟨hF_.set 1 rfl,hI⟩
 ·exact ⟨hF_.set 2 rfl,hI⟩
 ·obtain rfl:=bG ‹_›
  refine aC hp bL ?_
  exact ⟨hF_.set 3 rfl,hI⟩
 ·obtain rfl:=bQ ‹_›
  obtain rfl:=bS ‹_›
  refine fw ?_
  rw [decide_eq_false hge]
  exact ⟨hF_.set 4 rfl,hI⟩
 ·obtain rfl:=bU ‹_›
  exact ⟨hF_.set 5 rfl,hI⟩
 ·obtain rfl:=bB ‹_›
  refine rpG ?_
  refine ai be ?_
  exact ⟨hF_.set 6 rfl,hI⟩
 ·obtain rfl:=bD ‹_›
  obtain rfl:=bB ‹_›
  refine rpG ?_
  refine aA hI 0 bk rfl rfl ?_
  exact ⟨hF_.set 7 (by first|assumption|trivial),hI⟩
 ·have AO:=cq ‹_›
  obtain rfl:=bB ‹_›
  refine rpG ?_
  refine aC (xs:=ks) (by rw [AO]; exact hks) bz ?_
  exact ⟨hF_.set 8 rfl,hI⟩
 ·obtain rfl:=bB ‹_›
  refine rpG ?_
  exact ⟨hF_.set 9 rfl,hI⟩
 ·obtain rfl:=bB ‹_›
  refine rpG ?_
  refine ai cA ?_
  exact ⟨hF_.set 10 rfl,hI⟩
 ·obtain rfl:=bH ‹_›
  obtain rfl:=bB ‹_›
  refine rpG ?_
  refine aA hI 0 av rfl rfl ?_
  exact ⟨hF_.set 11 rfl,hI⟩
 ·obtain rfl:=cL ‹_›
  obtain rfl:=bT ‹_›
  obtain rfl:=bB ‹_›
  refine rpG ?_
  refine ar bL hjl ?_
  exact ⟨hF_.set 12 rfl,hI⟩
 ·obtain rfl:=cH ‹_›
  obtain rfl:=bB ‹_›
  refine rpG ?_
  refine ai bm ?_
  exact ⟨hF_.set 13 rfl,hI⟩
 ·obtain rfl:=de ‹_›
  obtain rfl:=bB ‹_›
  refine rpG ?_
  refine ce ah (by rw [hI.cellS hpS]; exact au hcc 4 _ rfl) ?_
  exact ⟨hF_.set 14 (by first|assumption|trivial),hI⟩
 ·have Bp:=cB ‹_›
  obtain rfl:=bB ‹_›
  refine rpG ?_
  refine aC (xs:=q.body) (by rw [Bp]; exact hqb) af ?_
  exact ⟨hF_.set 15 rfl,hI⟩
 ·obtain rfl:=ci ‹_›
  obtain rfl:=dk ‹_›
  obtain rfl:=bB ‹_›
  refine rpG ?_
  refine cD ?_
  rw [hlq]
  exact ⟨hF_.set 16 rfl,hI⟩
 ·obtain rfl:=bB ‹_›
  obtain rfl:=dw ‹_›
  refine rpG ?_
  exact ⟨hF_.set 17 rfl,hI⟩
 obtain ⟨rfl,rfl,rfl,rfl,rfl,rfl,rfl,AO,rfl,rfl,rfl,rfl,rfl,rfl,Bp,rfl,rfl,rfl,_⟩:=hF_.all
 clear hF_ bR bQ bG bS bU bB bD cq ci cL bH bT cH de cB dk dw dH
 refine az (fun hb=>done hI ?_) (fun hb=>?_)
 ·have hb:decide (ks.length=q.body.length)=false:=by simpa using hb
  simp only [hb]
  rfl
 have hlen:ks.length=q.body.length:=by simpa using hb
 simp only [decide_eq_true hlen,Bool.true_and]
 refine ad (u:=.int .i64 (j:Int)) hI 0 rfl cA av rfl ?_
 refine ar bL hjl ?_
 refine bE (cs:=[.int .i64 q.head.kind,.int .i64 q.head.n,.string q.head.name,kh,kb]) bo rfl (fun i v hi=>by rw [hI.cellS hpS]; exact au hcc i v hi) ?_
 refine aD hI dF fun b5 w' hI=>?_
 refine aq hI 1 rfl bo rfl rfl (by simpa using hpR.one) fun w' hI=>?_
 refine ki (n:=26) hI bp (by omega) (by omega) (by omega) fun tb w' hI=>?_
 have hkc0:=Rm _ rfl S
 obtain ⟨kc,hkce⟩:∃ kc,kc=(Array.range 104).map ((#[.int .i64 0,.int .i64 0,.string ⟨#[]⟩,.slice none 0 0]:Array Value)[· % (#[.int .i64 0,.int .i64 0,.string ⟨#[]⟩,.slice none 0 0]:Array Value).size]!):=⟨_,rfl⟩
 rw [<- hkce] at hkc0
 have hI:Inv w [] [.blk b3 (.cells #[.int .i64 g.kind,.int .i64 g.n,.string g.name,kv,.int .i64 (j:Int),kf] ag),.blk b5 (.cells #[.int .i64 q.head.kind,.int .i64 q.head.n,.string q.head.name,kh,kb] aw),.blk tb (.cells kc ab)] S w':=by rw [hkce]; exact hI
 refine ai cG ?_
 refine b0 hI 1 [.int .i64 q.head.kind,.int .i64 q.head.n,.string q.head.name,kh] ac rfl rfl Jk ?_
 refine ai cQ ?_
 refine b0 hI 0 [.int .i64 g.kind,.int .i64 g.n,.string g.name,kv] ac rfl rfl sH ?_
 have hgk:=(iB hgv).2
 have hcall:=sJ 26 q.head g S _ _ tb kc st0 hqh hg hqo.1.1 hgk HY hkc0
 have hsn:=jI q.head g st0 HY hgk
 generalize cw q.head g st0=r0 at hcall hsn ⊢
 refine Run.call (A:=[_,_]) oO oF hI hcall fun v' I' S1 w'=>?_
 rintro ⟨rfl,rfl,kc,rfl,hkc⟩ _ hI
 refine bK ?_
 cases hr0:r0.1
 ·refine az (fun _=>done hI rfl) (fun hb=>by cases hb)
 refine az (fun hb=>by cases hb) (fun _=>?_)
 simp only [Bool.true_and]
 refine ⟨fun i w'=>∃ (k:Nat) (st':aF) (kc:Array Value),k<=q.body.length/\i=.int .i64 k/\Cj (q.body.drop k) (ks.drop k) st'=Cj q.body ks r0.2/\yF st'/\KnownC S1 kc st'/\Inv w [] [.blk b3 (.cells #[.int .i64 g.kind,.int .i64 g.n,.string g.name,kv,.int .i64 (j:Int),kf] ag),.blk b5 (.cells #[.int .i64 q.head.kind,.int .i64 q.head.n,.string q.head.name,kh,kb] aw),.blk tb (.cells kc ab)] S1 w',
  fun i _=>q.body.length - (intOf i).toNat,⟨0,r0.2,kc,Nat.zero_le _,rfl,rfl,hsn,hkc,hI⟩,?_⟩
 intro i _ _ _ t89 t88 t87 t86 t85 t84 t83 t82 t81 t80 t79 t78 t77 t76 t75 t74 t73 t72 t71 t70 t69 t68 _ _ _ _ _ w'
 rintro ⟨k,st',kc,hk,rfl,hrel,hst,hkc,hI⟩
 have hqbl:=hqb.le
 simp only [maxLen] at hqbl
 refine ad hI 1 rfl bm ah rfl ?_
 refine aC hqb af ?_
 refine bq ?_
 refine aI (fun hki=>?_) (fun hki=>?_)
 ·have hk1:k<q.body.length:=by omega
  have hk2:k<ks.length:=by omega
  rw [List.drop_eq_getElem_cons hk1,List.drop_eq_getElem_cons hk2,Cj] at hrel
  obtain ⟨qb,qo,qcap,qc,qE,qfz,rfl,hqS,hqR⟩:=hqb.at_ hk1
  obtain ⟨fb,fo,fcap,fc,fE,ffz,rfl,hfS,hfR⟩:=hks.at_ hk2
  obtain ⟨fv,ff,hfe,hfg,_,_⟩:=RdF.iff.1 hfR
  obtain ⟨x,hx⟩:∃ x,x=ks[k]:=⟨_,rfl⟩
  obtain ⟨y,hy⟩:∃ y,y=q.body[k]:=⟨_,rfl⟩
  have hym:y∈q.body:=by rw [hy]; exact List.getElem_mem hk1
  have hxg:ek x.goal=true:=by
   have h1:=hkids ks[k] (List.getElem_mem hk2)
   rw [<- hx] at h1
   obtain ⟨xg,xc,xk⟩:=x
   exact (kI h1).1
  rw [<- hx] at hfe hfg hrel
  rw [<- hy] at hqR hrel
  cases hcut:jT y
  ·have hI:=hI
   refine ⟨fun D um sj un tV vE uq wh y5 yi y7 zc uY pM zr Bc A5 Dp CD Bn Bb AU Is w_=>Fx D 0 [Is=.pointer (some ⟨b5,4,none⟩),AU=.slice (some ⟨qb,qo,none⟩) q.body.length qcap,Bb=.int .i64 k,Bn=.pointer (some ⟨qb,qo+k * 4,none⟩),CD=.agg (aH qc (qo+k * 4) 4).toArray,Dp=.bool false,A5=.bool false,Bc=.pointer (some ⟨b5,4,none⟩),zr=.slice (some ⟨qb,qo,none⟩) q.body.length qcap,pM=.int .i64 k,uY=.pointer (some ⟨qb,qo+k * 4,none⟩),zc=.agg (aH qc (qo+k * 4) 4).toArray,y7=.pointer (some ⟨b3,5,none⟩),yi=.slice (some ⟨fb,fo,none⟩) ks.length fcap,y5=.int .i64 k,wh=.pointer (some ⟨fb,fo+k * 6,none⟩),uq=.pointer (some ⟨fb,fo+k * 6,none⟩),vE=.agg #[.int .i64 x.goal.kind,.int .i64 x.goal.n,.string x.goal.name,fv],tV=kv0 tb,un=.bool (cw y x.goal st').1,sj=.bool (!(cw y x.goal st').1),um=.bool (!(cw y x.goal st').1)]/\∃ kcx,(D 19=false->kcx=kc)/\(D 19=true->KnownC S1 kcx (cw y x.goal st').2)/\Inv w [] [.blk b3 (.cells #[.int .i64 g.kind,.int .i64 g.n,.string g.name,kv,.int .i64 (j:Int),.slice (some ⟨fb,fo,none⟩) ks.length fcap] ag),.blk b5 (.cells #[.int .i64 q.head.kind,.int .i64 q.head.n,.string q.head.name,kh,.slice (some ⟨qb,qo,none⟩) q.body.length qcap] aw),.blk tb (.cells kcx ab)] S1 w_,⟨Fx.nil _ _,⟨kc,fun _=>rfl,aV,hI.draw⟩⟩,⟨?_,?_,?_,?_,?_,?_,?_,?_,?_,?_,?_,?_,?_,?_,?_,?_,?_,?_,?_,?_,?_,?_,trivial⟩,?_⟩
   all_goals (intro D bn; intros; rename_i um sj un tV vE uq wh y5 yi y7 zc uY pM zr Bc A5 Dp CD Bn Bb AU Is w_ hA_; have hF_:=hA_.1; obtain ⟨⟨bR,bQ,bG,bS,bU,bB,bD,cq,ci,cL,bH,bT,cH,de,cB,dk,dw,dH,eE,dS,fl,iz,_⟩,⟨kcx,k0,k1,hI⟩⟩:=hA_)
   ·refine ai bm ?_
    exact ⟨hF_.set 0 rfl,⟨kcx,k0,k1,hI⟩⟩
   ·obtain rfl:=bR ‹_›
    refine aA hI 1 ah rfl rfl ?_
    exact ⟨hF_.set 1 rfl,⟨kcx,k0,k1,hI⟩⟩
   ·exact ⟨hF_.set 2 rfl,⟨kcx,k0,k1,hI⟩⟩
   ·obtain rfl:=bQ ‹_›
    obtain rfl:=bG ‹_›
    refine ar af hk1 ?_
    exact ⟨hF_.set 3 rfl,⟨kcx,k0,k1,hI⟩⟩
   ·obtain rfl:=bS ‹_›
    refine bE ac hqR.length (fun i v hi=>by rw [hI.cellS hqS]; exact au rfl i v hi) ?_
    exact ⟨hF_.set 4 rfl,⟨kcx,k0,k1,hI⟩⟩
   ·obtain rfl:=bU ‹_›
    refine Run.callPure oo oT hI (mh hqR) fun w_ hI=>?_
    rw [hcut]
    exact ⟨hF_.set 5 rfl,⟨kcx,k0,k1,hI⟩⟩
   ·obtain rfl:=bB ‹_›
    exact ⟨hF_.set 6 rfl,⟨kcx,k0,k1,hI⟩⟩
   ·obtain rfl:=bD ‹_›
    refine rpG ?_
    refine ai bm ?_
    exact ⟨hF_.set 7 rfl,⟨kcx,k0,k1,hI⟩⟩
   ·obtain rfl:=cq ‹_›
    obtain rfl:=bD ‹_›
    refine rpG ?_
    refine aA hI 1 ah rfl rfl ?_
    exact ⟨hF_.set 8 rfl,⟨kcx,k0,k1,hI⟩⟩
   ·obtain rfl:=bD ‹_›
    refine rpG ?_
    exact ⟨hF_.set 9 rfl,⟨kcx,k0,k1,hI⟩⟩
   ·obtain rfl:=ci ‹_›
    obtain rfl:=cL ‹_›
    obtain rfl:=bD ‹_›
    refine rpG ?_
    refine ar af hk1 ?_
    exact ⟨hF_.set 10 rfl,⟨kcx,k0,k1,hI⟩⟩
   ·obtain rfl:=bH ‹_›
    obtain rfl:=bD ‹_›
    refine rpG ?_
    refine bE ac hqR.length (fun i v hi=>by rw [hI.cellS hqS]; exact au rfl i v hi) ?_
    exact ⟨hF_.set 11 rfl,⟨kcx,k0,k1,hI⟩⟩
   ·obtain rfl:=bD ‹_›
    refine rpG ?_
    refine ai be ?_
    exact ⟨hF_.set 12 rfl,⟨kcx,k0,k1,hI⟩⟩
   ·obtain rfl:=cH ‹_›
    obtain rfl:=bD ‹_›
    refine rpG ?_
    refine aA hI 0 bk rfl rfl ?_
    exact ⟨hF_.set 13 rfl,⟨kcx,k0,k1,hI⟩⟩
   ·obtain rfl:=bD ‹_›
    refine rpG ?_
    exact ⟨hF_.set 14 rfl,⟨kcx,k0,k1,hI⟩⟩
   ·obtain rfl:=de ‹_›
    obtain rfl:=cB ‹_›
    obtain rfl:=bD ‹_›
    refine rpG ?_
    refine ar bz hk2 ?_
    exact ⟨hF_.set 15 rfl,⟨kcx,k0,k1,hI⟩⟩
   ·obtain rfl:=dk ‹_›
    obtain rfl:=bD ‹_›
    refine rpG ?_
    refine ai cQ ?_
    exact ⟨hF_.set 16 rfl,⟨kcx,k0,k1,hI⟩⟩
   ·obtain rfl:=dw ‹_›
    obtain rfl:=bD ‹_›
    refine rpG ?_
    refine bE (cs:=[.int .i64 x.goal.kind,.int .i64 x.goal.n,.string x.goal.name,fv]) ac rfl (fun i v hi=>by rw [hI.cellS hfS]; exact au hfe i v (KV i v hi)) ?_
    exact ⟨hF_.set 17 rfl,⟨kcx,k0,k1,hI⟩⟩
   ·obtain rfl:=bD ‹_›
    refine rpG ?_
    exact ⟨hF_.set 18 rfl,⟨kcx,k0,k1,hI⟩⟩
   ·obtain rfl:=bT ‹_›
    obtain rfl:=dH ‹_›
    obtain rfl:=eE ‹_›
    obtain rfl:=bD ‹_›
    refine rpG ?_
    have e0:=k0 bn
    rw [e0] at hI
    refine Run.callE (A:=[_,_]) oO oF hI (sJ 26 y x.goal S1 _ _ tb kc st' hqR hfg (od hqo.2.1 _ hym) (iB (eq hxg)).2 hst hkc) fun v' I' S2 w_=>?_
    rintro ⟨eS,rfl,kcx,rfl,hkx⟩ _ hI
    rw [eS] at hI
    have k0:=fun (h:aG D 19 19=false)=>(Bool.noConfusion h:kcx=kc)
    have k1:=fun (_:aG D 19 19=true)=>hkx
    exact ⟨hF_.set 19 rfl,⟨kcx,k0,k1,hI⟩⟩
   ·obtain rfl:=dS ‹_›
    obtain rfl:=bD ‹_›
    refine rpG ?_
    refine bK ?_
    exact ⟨hF_.set 20 rfl,⟨kcx,k0,k1,hI⟩⟩
   ·obtain rfl:=bD ‹_›
    obtain rfl:=fl ‹_›
    refine rpG ?_
    exact ⟨hF_.set 21 rfl,⟨kcx,k0,k1,hI⟩⟩
   obtain ⟨rfl,rfl,rfl,rfl,rfl,rfl,rfl,rfl,rfl,rfl,rfl,rfl,rfl,rfl,rfl,rfl,rfl,rfl,rfl,rfl,rfl,rfl,_⟩:=hF_.all
   have Sq:D 19=true:=by assumption
   clear hF_ bR bQ bG bS bU bB bD cq ci cL bH bT cH de cB dk dw dH eE dS fl iz
   have hkx:=k1 Sq
   have hst2:=jI y x.goal st' hst (iB (eq hxg)).2
   rw [hcut] at hrel
   cases hm:(cw y x.goal st').1
   ·refine az (fun _=>done hI ?_) (fun hb=>by cases hb)
    rw [<- hrel,hm]; rfl
   refine az (fun hb=>by cases hb) (fun _=>?_)
   refine bl (by omega) ?_
   rw [hm,Bool.not_false,Bool.true_and,Bool.true_and] at hrel
   exact ⟨⟨k+1,_,kcx,hk1,rfl,hrel,hst2,hkx,hI⟩,by simp [intOf]; omega⟩
  ·have hI:=hI
   refine ⟨fun D um sj un tV vE uq wh y5 yi y7 zc uY pM zr Bc A5 Dp CD Bn Bb AU Is w_=>Fx D 0 [Is=.pointer (some ⟨b5,4,none⟩),AU=.slice (some ⟨qb,qo,none⟩) q.body.length qcap,Bb=.int .i64 k,Bn=.pointer (some ⟨qb,qo+k * 4,none⟩),CD=.agg (aH qc (qo+k * 4) 4).toArray,Dp=.bool true,A5=.bool true,Bc=undef,zr=undef,pM=undef,uY=undef,zc=undef,y7=undef,yi=undef,y5=undef,wh=undef,uq=undef,vE=undef,tV=undef,un=undef,sj=undef,um=.bool true]/\Inv w [] [.blk b3 (.cells #[.int .i64 g.kind,.int .i64 g.n,.string g.name,kv,.int .i64 (j:Int),.slice (some ⟨fb,fo,none⟩) ks.length fcap] ag),.blk b5 (.cells #[.int .i64 q.head.kind,.int .i64 q.head.n,.string q.head.name,kh,.slice (some ⟨qb,qo,none⟩) q.body.length qcap] aw),.blk tb (.cells kc ab)] S1 w_,⟨Fx.nil _ _,hI.draw⟩,⟨?_,?_,?_,?_,?_,?_,?_,?_,?_,?_,?_,?_,?_,?_,?_,?_,?_,?_,?_,?_,?_,?_,trivial⟩,?_⟩
   all_goals (intro D bn; intros; rename_i um sj un tV vE uq wh y5 yi y7 zc uY pM zr Bc A5 Dp CD Bn Bb AU Is w_ hA_; have hF_:=hA_.1; obtain ⟨⟨bR,bQ,bG,bS,bU,bB,bD,cq,ci,cL,bH,bT,cH,de,cB,dk,dw,dH,eE,dS,fl,iz,_⟩,hI⟩:=hA_)
   ·refine ai bm ?_
    exact ⟨hF_.set 0 rfl,hI⟩
   ·obtain rfl:=bR ‹_›
    refine aA hI 1 ah rfl rfl ?_
    exact ⟨hF_.set 1 rfl,hI⟩
   ·exact ⟨hF_.set 2 rfl,hI⟩
   ·obtain rfl:=bQ ‹_›
    obtain rfl:=bG ‹_›
    refine ar af hk1 ?_
    exact ⟨hF_.set 3 rfl,hI⟩
   ·obtain rfl:=bS ‹_›
    refine bE ac hqR.length (fun i v hi=>by rw [hI.cellS hqS]; exact au rfl i v hi) ?_
    exact ⟨hF_.set 4 rfl,hI⟩
   ·obtain rfl:=bU ‹_›
    refine Run.callPure oo oT hI (mh hqR) fun w_ hI=>?_
    rw [hcut]
    exact ⟨hF_.set 5 rfl,hI⟩
   ·obtain rfl:=bB ‹_›
    exact ⟨hF_.set 6 rfl,hI⟩
   ·obtain rfl:=bD ‹_›
    refine rpG ?_
    exact ⟨hF_.set 7 rfl,hI⟩
   ·obtain rfl:=cq ‹_›
    obtain rfl:=bD ‹_›
    refine rpG ?_
    exact ⟨hF_.set 8 rfl,hI⟩
   ·obtain rfl:=bD ‹_›
    refine rpG ?_
    exact ⟨hF_.set 9 rfl,hI⟩
   ·obtain rfl:=ci ‹_›
    obtain rfl:=cL ‹_›
    obtain rfl:=bD ‹_›
    refine rpG ?_
    exact ⟨hF_.set 10 rfl,hI⟩
   ·obtain rfl:=bH ‹_›
    obtain rfl:=bD ‹_›
    refine rpG ?_
    exact ⟨hF_.set 11 rfl,hI⟩
   ·obtain rfl:=bD ‹_›
    refine rpG ?_
    exact ⟨hF_.set 12 rfl,hI⟩
   ·obtain rfl:=cH ‹_›
    obtain rfl:=bD ‹_›
    refine rpG ?_
    exact ⟨hF_.set 13 rfl,hI⟩
   ·obtain rfl:=bD ‹_›
    refine rpG ?_
    exact ⟨hF_.set 14 rfl,hI⟩
   ·obtain rfl:=de ‹_›
    obtain rfl:=cB ‹_›
    obtain rfl:=bD ‹_›
    refine rpG ?_
    exact ⟨hF_.set 15 rfl,hI⟩
   ·obtain rfl:=dk ‹_›
    obtain rfl:=bD ‹_›
    refine rpG ?_
    exact ⟨hF_.set 16 rfl,hI⟩
   ·obtain rfl:=dw ‹_›
    obtain rfl:=bD ‹_›
    refine rpG ?_
    exact ⟨hF_.set 17 rfl,hI⟩
   ·obtain rfl:=bD ‹_›
    refine rpG ?_
    exact ⟨hF_.set 18 rfl,hI⟩
   ·obtain rfl:=bT ‹_›
    obtain rfl:=dH ‹_›
    obtain rfl:=eE ‹_›
    obtain rfl:=bD ‹_›
    refine rpG ?_
    exact ⟨hF_.set 19 rfl,hI⟩
   ·obtain rfl:=dS ‹_›
    obtain rfl:=bD ‹_›
    refine rpG ?_
    exact ⟨hF_.set 20 rfl,hI⟩
   ·obtain rfl:=bD ‹_›
    obtain rfl:=fl ‹_›
    refine rpG ?_
    exact ⟨hF_.set 21 rfl,hI⟩
   obtain ⟨rfl,rfl,rfl,rfl,rfl,rfl,rfl,rfl,rfl,rfl,rfl,rfl,rfl,rfl,rfl,rfl,rfl,rfl,rfl,rfl,rfl,rfl,_⟩:=hF_.all
   clear hF_ bR bQ bG bS bU bB bD cq ci cL bH bT cH de cB dk dw dH eE dS fl iz
   refine az (fun _=>done hI ?_) (fun hb=>by cases hb)
   rw [<- hrel,hcut]; rfl
 ·have:k=q.body.length:=by omega
  subst this
  refine done hI ?_
  rw [<- hrel,List.drop_length]
  generalize ks.drop q.body.length=zs
  cases zs <;> rfl
theorem Dn {p:List C} (hpv:nX p=true):∀ (x:PF) (d:Int) (S:ae) (u:Value) (cs:List Value),mP x d=true->RdSl S 5 (RdC S) u p->RdF S cs x->Pure Tryz.prog HV [u,.agg cs.toArray] S (.bool (chkF p x)):=by
 refine PF.ind fun g c ks ih d S u cs hsh hp h=>?_
 intro w hI
 have h0:=h
 obtain ⟨kv,kf,rfl,hg,hci,hks⟩:=RdF.iff.1 h
 obtain ⟨_,_,hkids⟩:=kI hsh
 simp only [PF.goal,PF.kids,PF.clause] at hg hci hks h0 ⊢
 have hkl:=hks.le
 simp only [maxLen] at hkl
 rw [chkF]
 refine s4.2 ?_
 dsimp only[s4,aW]
 refine bf hI fun b3 w' hI=>?_
 have hI:Inv w [] [.blk b3 (.cells #[.int .i64 g.kind,.int .i64 g.n,.string g.name,kv,.int .i64 c,kf] ag)] S w':=hI
 refine ao hI 0 aN rfl rfl ?_
 refine Run.callPure H7 Gm hI (Er hpv hsh hp h0) fun w' hI=>?_
 refine bK ?_
 cases hn:nodeC p g c ks
 ·refine az (fun _=>done hI rfl) (fun hb=>by cases hb)
 refine az (fun hb=>by cases hb) (fun _=>?_)
 rw [Bool.true_and]
 refine ⟨fun i w'=>∃ k:Nat,k<=ks.length/\i=.int .i64 k/\chkFL p (ks.drop k)=chkFL p ks/\Inv w [] [.blk b3 (.cells #[.int .i64 g.kind,.int .i64 g.n,.string g.name,kv,.int .i64 c,kf] ag)] S w',
  fun i _=>ks.length - (intOf i).toNat,⟨0,Nat.zero_le _,rfl,rfl,hI⟩,?_⟩
 intro i _ _ _ _ _ _ _ _ _ _ _ _ _ _ _ _ w'
 rintro ⟨k,hk,rfl,hrel,hI⟩
 refine ad hI 0 rfl be bk rfl ?_
 refine aC hks bz ?_
 refine bq ?_
 refine aI (fun hki=>?_) (fun hki=>?_)
 ·have hk':k<ks.length:=by omega
  have hm:=List.getElem_mem hk'
  rw [List.drop_eq_getElem_cons hk',chkFL] at hrel
  refine ad hI 0 rfl be bk rfl ?_
  refine bY hI hks bz aN hk' (fun _ _=>RdF.length) fun ds hds=>?_
  refine Run.callPure sn tl hI (ih _ hm (d - 1) S u ds (hkids _ hm) hp hds) fun w' hI=>?_
  refine bK ?_
  refine az (fun hne=>done hI ?_) (fun he=>?_)
  ·rw [Bool.not_eq_true'] at hne
   rw [<- hrel,hne]; rfl
  ·rw [Bool.not_eq_false'] at he
   rw [he,Bool.true_and] at hrel
   refine bl (by omega) ?_
   exact ⟨⟨k+1,hk',rfl,hrel,hI⟩,by simp [intOf]; omega⟩
 ·have:k=ks.length:=by omega
  subst this
  exact done hI (by rw [<- hrel,List.drop_length]; rfl)
end
end
end Go.Proofs.YtfcbhfjomgopbaaGreat
