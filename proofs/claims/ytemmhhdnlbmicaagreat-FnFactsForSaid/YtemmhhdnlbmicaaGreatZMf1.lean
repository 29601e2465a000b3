/- The variables of terms, on both sides: lists of numbers that grow. -/
import Derived.Test.YtemmhhdnlbmicaaGreatZMf0
import Derived.Test.YtemmhhdnlbmicaaGreatRows
import Derived.ProofKit
import Derived.ReadAgain
import Derived.Carry
import Derived.Test.YtemmhhdnlbmicaaGreatZMfS
import Derived.Test.YtemmhhdnlbmicaaGreatZMfF
import Derived.Test.YtemmhhdnlbmicaaGreatZMfh1
import Derived.Laws.BytesArg
import Derived.Laws.StructEq
import Derived.Laws.Tables
namespace Go.Proofs.YtemmhhdnlbmicaaGreat
open Go Go.RowKit
attribute [local irreducible] Run CondV ag a4

mutual
def iq:T->List Int->List Int
 | .mk k n _ ks,l=>gP ks (if k=1 then oq l n else l)
def gP:List T->List Int->List Int
 | [],l=>l
 | t::ts,l=>gP ts (iq t l)
end
mutual
def fS:T->List Int->List Int
 | .mk k n _ ks,l=>if k=1 then oq l n else eU ks l
def eU:List T->List Int->List Int
 | [],l=>l
 | t::ts,l=>eU ts (fS t l)
end
mutual
theorem p9:∀ (t:T) (l:List Int),((fS t l).length:Int)<=l.length+dV t
 | .mk k n s ks,l=>by
  rw [fS,show dV (T.mk k n s ks)=1+dH ks from rfl]
  have h1:=Fm l n
  have:=fy ks
  split
  ·omega
  ·have:=wR ks l
   omega
theorem wR:∀ (ts:List T) (l:List Int),((eU ts l).length:Int)<=l.length+dH ts
 | [],l=>by simp [eU,dH]
 | t::ts,l=>by
  rw [eU,show dH (t::ts)=dV t+dH ts from rfl]
  have:=p9 t l
  have:=wR ts (fS t l)
  omega
end
/- on valid terms the two are one -/
mutual
theorem AN:∀ (t:T) (d:Int) (l:List Int),dK t d=true->fS t l=iq t l
 | .mk k n s ks,d,l,h=>by
  rw [dK] at h
  split at h
  ·cases h
  ·rw [Bool.and_eq_true] at h
   rw [fS,iq]
   split
   ·rw [Ai h.1 (.inl ‹k=1›)]; rfl
   ·exact uR ks (d - 1) l h.2
theorem uR:∀ (ts:List T) (d:Int) (l:List Int),dF ts d=true->eU ts l=gP ts l
 | [],d,l,h=>rfl
 | t::ts,d,l,h=>by
  rw [dF,Bool.and_eq_true] at h
  rw [eU,gP,AN t d l h.1]
  exact uR ts d _ h.2
end
theorem lc {t:T} (h:dd t=true):dK t 30=true:=by
 rw [dd,Bool.and_eq_true] at h
 exact h.1
abbrev FX (S:av) (r:List Int):Value->List Item->av->Prop:=fun v I' S'=>I'=[md v r]/\S'=S

theorem od:∀ (t:T) (S:av) (cs:List Value) (v:Value) (l:List Int),RdT S cs t->l.length+dV t<=1000000000->Tri Tryz.prog BN [v,.agg cs.toArray] [md v l] S (FX S (fS t l)):=by
 refine T.ind fun k n s ks ih S cs v l h hl=>?_
 intro w hI
 obtain ⟨kv,rfl,_,_,hs,hks⟩:=RdT.iff.1 h
 simp only [T.name,T.kids,T.kind,T.n] at hs hks ⊢
 have hlen:=hks.le
 simp only [maxLen] at hlen
 rw [show dV (T.mk k n s ks)=1+dH ks from rfl] at hl
 have hcp:=fy ks
 have hend:∀ {w':World} {v':Value} {b:Nat} {o:Obj} (r:List Int),Inv w (bF [md v l]) [.blk b o,md v' r] S w'->r=fS (.mk k n s ks) l->
   ∃ v'' I' S',Ending.returned v'=.returned v''/\Inv w (bF [md v l]) I' S' w'/\Ext w.heap.size (bF [md v l]) S S'/\FX S (fS (.mk k n s ks) l) v'' I' S':=by
  intro w' v' b o r h1 h2
  subst h2
  exact ⟨_,_,_,rfl,h1.pick [false,true],Ext.refl _ _ _,rfl,rfl⟩
 refine uB ?_
 unfold rG
 refine ca hI fun b3 w' hI=>?_
 have hI:=hI.perm (M:=[.blk b3 (.cells #[.int .i64 k,.int .i64 n,.string s,kv] ad),md v l]) (List.Perm.swap _ _ _)
 refine az hI 0 rfl bt bj rfl ?_
 refine cw ?_
 refine bp (fun hk=>?_) (fun hk=>?_)
 ·have hr:oq l n=fS (.mk k n s ks) l:=by rw [fS,if_pos hk]
  obtain ⟨S1,hle,hrd,hI,hback⟩:=Inv.lend (A:=[_]) hI
  have hrd:=hrd.ints
  refine ⟨fun i w'=>∃ j:Nat,j<=l.length/\i=.int .i64 j/\iZ (l.drop j) n=iZ l n/\Inv w (bF [md v l]) [.blk b3 (.cells #[.int .i64 k,.int .i64 n,.string s,kv] ad)] S1 w',
   fun i _=>l.length - (intOf i).toNat,⟨0,Nat.zero_le _,rfl,rfl,hI⟩,?_⟩
  intro t5 _ _ _ _ t22 t21 t20 t19 t18 t17 t16 _ _ _ _ w'
  rintro ⟨j,hj,rfl,hrel,hI⟩
  refine a9 hrd iR ?_
  refine co ?_
  refine bp (fun hji=>?_) (fun hji=>?_)
  ·have hj':j<l.length:=by omega
   have hstep:iZ (l.drop j) n=(decide (n=l[j]) || iZ (l.drop (j+1)) n):=sY _ l j hj'
   obtain ⟨b,o,cap,c,E,fz,rfl,hS,hR⟩:=hrd.at_ hj'
   refine ⟨fun D c5 db c4 cq dq dz dy w_=>(D 0=true->dy=.slice (some ⟨b,o,none⟩) l.length cap)/\(D 1=true->dz=.int .i64 j)/\(D 2=true->dq=.pointer (some ⟨b,o+j * 1,none⟩))/\(D 3=true->cq=.int .i64 l[j])/\(D 4=true->c4=.pointer (some ⟨b3,1,none⟩))/\(D 5=true->db=.int .i64 n)/\(D 6=true->c5=.bool (decide (l[j]=n)))/\Inv w (bF [md (.slice (some ⟨b,o,none⟩) l.length cap) l]) [.blk b3 (.cells #[.int .i64 k,.int .i64 n,.string s,kv] ad)] S1 w_,⟨ae,ae,ae,ae,ae,ae,ae,hI.draw⟩,⟨?_,?_,?_,?_,?_,?_,?_,trivial⟩,?_⟩
   ·intro D a6  c5 db c4 cq dq dz dy w_
    rintro ⟨aB,aC,aA,aD,ax,aF,aE,hI⟩
    exact ⟨fun _=>rfl,aC,aA,aD,ax,aF,aE,hI⟩
   ·intro D a6  c5 db c4 cq dq dz dy w_
    rintro ⟨aB,aC,aA,aD,ax,aF,aE,hI⟩
    exact ⟨aB,fun _=>rfl,aA,aD,ax,aF,aE,hI⟩
   ·intro D a6 cV gH c5 db c4 cq dq dz dy w_
    rintro ⟨aB,aC,aA,aD,ax,aF,aE,hI⟩
    obtain rfl:=aB cV
    obtain rfl:=aC gH
    refine ba iR hj' ?_
    exact ⟨aB,aC,fun _=>rfl,aD,ax,aF,aE,hI⟩
   ·intro D a6 eL c5 db c4 cq dq dz dy w_
    rintro ⟨aB,aC,aA,aD,ax,aF,aE,hI⟩
    obtain rfl:=aA eL
    refine eo bj (by rw [hI.cellS hS]; exact be hR 0 _ rfl) ?_
    exact ⟨aB,aC,aA,fun _=>rfl,ax,aF,aE,hI⟩
   ·intro D a6  c5 db c4 cq dq dz dy w_
    rintro ⟨aB,aC,aA,aD,ax,aF,aE,hI⟩
    refine bo bv ?_
    exact ⟨aB,aC,aA,aD,fun _=>rfl,aF,aE,hI⟩
   ·intro D a6 dr c5 db c4 cq dq dz dy w_
    rintro ⟨aB,aC,aA,aD,ax,aF,aE,hI⟩
    obtain rfl:=ax dr
    refine bA hI 0 bj rfl rfl ?_
    exact ⟨aB,aC,aA,aD,ax,fun _=>rfl,aE,hI⟩
   ·intro D a6 dg kH c5 db c4 cq dq dz dy w_
    rintro ⟨aB,aC,aA,aD,ax,aF,aE,hI⟩
    obtain rfl:=aD dg
    obtain rfl:=aF kH
    refine cw ?_
    exact ⟨aB,aC,aA,aD,ax,aF,fun _=>rfl,hI⟩
   intro D gp f1 fL fJ fP fN fO c5 db c4 cq dq dz dy w_
   rintro ⟨aB,aC,aA,aD,ax,aF,aE,hI⟩
   obtain rfl:=aE gp
   obtain rfl:=aF f1
   obtain rfl:=ax fL
   obtain rfl:=aD fJ
   obtain rfl:=aA fP
   obtain rfl:=aC fN
   obtain rfl:=aB fO
   clear aB aC aA aD ax aF aE
   refine bp (fun he=>?_) (fun he=>?_)
   ·refine hend l (hback _ _ hI) ?_
    rw [<- hr,oq,if_pos (by rw [<- hrel,hstep,decide_eq_true he.symm]; rfl)]
   ·refine bC (by omega) ?_
    exact ⟨⟨j+1,hj',rfl,by rw [<- hrel,hstep,decide_eq_false (fun e=>he e.symm)]; rfl,hI⟩,by simp [intOf]; omega⟩
  ·have:j=l.length:=by omega
   subst this
   have hno:iZ l n=false:=by rw [<- hrel,List.drop_length]; rfl
   have hI:Inv w (bF [md v l]) [.blk b3 (.cells #[.int .i64 k,.int .i64 n,.string s,kv] ad),md v l] S _:=hback _ _ hI
   refine az hI 0 rfl bv bj rfl ?_
   refine fq hI yf rfl (by omega) (by omega) fun b w' hI=>?_
   refine fX hI 1 (k:=1) [.int .i64 n] yf (by omega) rfl rfl ?_ ?_ (by omega) (by omega) fun v' w' hI=>?_
   ·intro j u hj
    rw [hI.cellL (i:=2) rfl]
    match j with
    | 0=>simpa [Value.cells] using hj
    | j+1=>simp at hj
   ·simp [Value.oneCell']
   ·rw [Dg] at hI
    have hI:=hI.pick [true,true,false]
    refine hend (b:=b3) (o:=.cells #[.int .i64 k,.int .i64 n,.string s,kv] ad) (l++[n]) ?_ ?_
    ·have e:Item.row v' ir 1 (l.length+1) (ints (l++[n]))=md v' (l++[n]):=by simp [md]
     exact e ▸ hI
    ·rw [<- hr,oq,if_neg (by rw [hno]; decide)]
 ·have hr:eU ks l=fS (.mk k n s ks) l:=by rw [fS,if_neg hk]
  refine ⟨fun i t w'=>∃ (j:Nat) (l':List Int),j<=ks.length/\i=.int .i64 j/\eU (ks.drop j) l'=eU ks l/\l'.length+dH (ks.drop j)<=1000000000/\Inv w (bF [md v l]) [.blk b3 (.cells #[.int .i64 k,.int .i64 n,.string s,kv] ad),md t l'] S w',
   fun i _ _=>ks.length - (intOf i).toNat,⟨0,l,Nat.zero_le _,rfl,rfl,by rw [List.drop_zero]; omega,hI⟩,?_⟩
  intro t6 _ _ t0 _ _ _ _ _ _ _ _ _ _ _ _ w'
  rintro ⟨j,l',hj,rfl,hrel,hl',hI⟩
  refine az hI 0 rfl aT aS rfl ?_
  refine a9 hks ay ?_
  refine co ?_
  refine bp (fun hji=>?_) (fun hji=>?_)
  ·have hj':j<ks.length:=by omega
   rw [nq ks j hj'] at hl'
   rw [List.drop_eq_getElem_cons hj',eU] at hrel
   have hc1:=fy (ks.drop (j+1))
   have hc2:=p9 ks[j] l'
   refine az hI 0 rfl aT aS rfl ?_
   refine ec hI hks ay ai hj' (fun _ _=>RdT.length) fun cs' hcs'=>?_
   refine Run.call (A:=[_]) lg lb hI (ih _ (List.getElem_mem hj') S cs' t0 l' hcs' (by omega)) fun v' I' S' w'=>?_
   rintro ⟨rfl,rfl⟩ _ hI
   refine bC (by omega) ?_
   exact ⟨⟨j+1,_,hj',rfl,hrel,by omega,hI⟩,by simp [intOf]; omega⟩
  ·have:j=ks.length:=by omega
   subst this
   rw [List.drop_length,eU] at hrel
   exact hend l' hI (by rw [hrel,hr])

end Go.Proofs.YtemmhhdnlbmicaaGreat

/- Flat clauses and programs, on both sides. -/
namespace Go.Proofs.YtemmhhdnlbmicaaGreat
open Go Go.RowKit
attribute [local irreducible] Run CondV ag a4

section
variable {P:Program} {w w0:World} {X:List Nat} {L:List Item} {S:av} {K:Value->World->Prop}
theorem Fc {α:Type} {T Tf U ty ty' ty'' E:TypeId} {k f d:Nat} {R:List Value->α->Prop} {v:Value} {xs:List α} (hI:Inv w0 X L S w) (h:RdSl S k R v xs) (hu:c8 P T=some (E,k)) (hf:ei P Tf f=some d) (hU:ma P U=true)
  {i:Nat} (hi:i<xs.length) (hk:∀ cs,R cs xs[i]->∃ u,cs[d]?=some u/\K u w) :
  Run P (sOp (.indexAddr T (.const v) (.const (.int .i64 i))) ty) w fun p w'=>Run P (sOp (.fieldAddr Tf (.const p) f) ty') w' fun q w''=>Run P (sOp (.load U (.const q)) ty'') w'' K:=by
 obtain ⟨b,o,cap,c,E',fz,rfl,hS,hR⟩:=h.at_ hi
 obtain ⟨u,hu',hK⟩:=hk _ hR
 refine ba hu hi ?_
 refine bo hf ?_
 refine eo hU ?_ hK
 rw [hI.cellS hS]
 exact be rfl d u hu'
end
def jN (u:T):Bool:=decide (u.kids.length=0)
def f4 (t:T):Bool:=t.kids.all jN && iY t
def iI (c:C):Bool:=f4 c.head && (decide (c.body.length<=3) && (c.body.all f4 && (iq c.head []).all fun n=>iZ (gP c.body []) n))
def jn (p:List C):Bool:=qL p && p.all iI

theorem mI {t:T} {S:av} {cs:List Value} (h:RdT S cs t):Pure Tryz.prog y0 [.agg cs.toArray] S (.bool (f4 t)):=by
 intro w hI
 have h0:=h
 obtain ⟨kv,rfl,_,_,hs,hks⟩:=RdT.iff.1 h
 obtain ⟨k,n,s,ks⟩:=t
 simp only [T.name,T.kids,T.kind,T.n] at h0 hs hks ⊢
 have hlen:=hks.le
 simp only [maxLen] at hlen
 have hf:f4 (.mk k n s ks)=(ks.all jN && iY (.mk k n s ks)):=rfl
 refine sk ?_
 unfold pg
 refine ca hI fun b1 w' hI=>?_
 refine ⟨fun i w'=>∃ j:Nat,j<=ks.length/\i=.int .i64 j/\(ks.drop j).all jN=ks.all jN/\Inv w [] [.blk b1 (.cells #[.int .i64 k,.int .i64 n,.string s,kv] ad)] S w',
  fun i _=>ks.length - (intOf i).toNat,⟨0,Nat.zero_le _,rfl,rfl,hI⟩,?_⟩
 intro t3 _ _ _ _ _ _ _ _ _ _ _ _ _ _ _ _ w'
 rintro ⟨j,hj,rfl,hrel,hI⟩
 refine az hI 0 rfl aT aS rfl ?_
 refine a9 hks ay ?_
 refine co ?_
 refine bp (fun hji=>?_) (fun hji=>?_)
 ·have hj':j<ks.length:=by omega
  have hstep:=jv jN ks j hj'
  refine az hI 0 rfl aT aS rfl ?_
  refine Fc hI hks ay aT aS hj' fun cs' hcs'=>?_
  obtain ⟨kv',rfl,_,_,_,hkk⟩:=RdT.iff.1 hcs'
  refine ⟨kv',rfl,?_⟩
  refine a9 hkk ay ?_
  refine dS ?_
  refine bp (fun hb=>done hI ?_) (fun hb=>?_)
  ·have:jN ks[j]=false:=decide_eq_false (by omega)
   rw [hf,<- hrel,hstep,this]; rfl
  ·have:jN ks[j]=true:=decide_eq_true (by omega)
   refine bC (by omega) ?_
   exact ⟨⟨j+1,hj',rfl,by rw [<- hrel,hstep,this]; rfl,hI⟩,by simp [intOf]; omega⟩
 ·have:j=ks.length:=by omega
  subst this
  refine a8 hI 0 ai rfl rfl ?_
  refine Run.callPure jY jI hI (jd h0) fun w' hI=>done hI ?_
  rw [hf,<- hrel,List.drop_length]; rfl
theorem BF {t:T} (h:kq t=true):dK t 30=true:=by
 rw [kq,Bool.and_eq_true] at h
 exact lc h.1
theorem rO:∀ {ts:List T},ts.all kq=true->dF ts 30=true
 | [],_=>rfl
 | t::ts,h=>by
  rw [List.all_cons,Bool.and_eq_true] at h
  rw [dF,BF h.1,rO h.2]; rfl
theorem yW {c:C} (h:dt c=true) (l:List Int):fS c.head l=iq c.head l/\eU c.body l=gP c.body l:=by
 simp only [dt,Bool.and_eq_true] at h
 exact ⟨AN _ 30 _ (lc h.2.2.1),uR _ 30 _ (rO h.2.1)⟩
theorem sz {c:C} {S:av} {cs:List Value} (h:RdC S cs c) (hv:dt c=true) (hw:wC c<=1048576):Pure Tryz.prog vA [.agg cs.toArray] S (.bool (iI c)):=by
 intro w hI
 obtain ⟨hd,ks,rfl,h1,h2⟩:=h
 have h1':=h1
 obtain ⟨kv,rfl,g1,g2,g3,g4⟩:=RdT.iff.1 h1
 have hlen:=h2.le
 simp only [maxLen] at hlen
 unfold wC at hw
 have hcl:=xn c.body
 have hct:=BP c.head
 have hsv:=fun l=>yW hv l
 refine nZ ?_
 unfold kT
 refine ca hI fun b1 w' hI=>?_
 refine ⟨fun t w'=>t=.bool (!(f4 c.head && decide (c.body.length<=3)))/\Inv w [] [.blk b1 (.cells #[.int .i64 c.head.kind,.int .i64 c.head.n,.string c.head.name,kv,ks] bb)] S w',?_,?_⟩
 ·refine bo eJ ?_
  refine ft hI 0 [.int .i64 c.head.kind,.int .i64 c.head.n,.string c.head.name,kv] ai rfl rfl ?_ ?_
  ·intro j v hj
   match j with
   | 0|1|2|3=>exact hj
   | j+4=>simp at hj
  refine Run.callPure pf oy hI (mI h1') fun w' hI=>?_
  refine c9 ?_
  cases hf:f4 c.head
  ·repeat (first|refine ac ?_|refine af (by decide) ?_|refine ab ?_|refine al ?_|refine ak ?_)
   exact ⟨rfl,hI⟩
  ·repeat (first|refine ac ?_|refine af (by decide) ?_|refine ab ?_|refine al ?_|refine ak ?_)
   refine az hI 0 rfl cj aS rfl ?_
   refine a9 h2 ay ?_
   refine dS ?_
   repeat (first|refine ac ?_|refine af (by decide) ?_|refine ab ?_|refine al ?_|refine ak ?_)
   refine ⟨?_,hI⟩
   congr 1
   by_cases hl:c.body.length<=3
   ·rw [decide_eq_true hl,decide_eq_false (by omega)]; rfl
   ·rw [decide_eq_false hl,decide_eq_true (by omega)]; rfl
 intro t _ _ _ _ _ _ _ _ _ w'
 rintro ⟨rfl,hI⟩
 refine aX (fun hb=>done hI ?_) (fun hb=>?_)
 ·have hb':(f4 c.head && decide (c.body.length<=3))=false:=by rw [Bool.not_eq_true'] at hb; exact hb
  rw [iI,<- Bool.and_assoc,hb']; rfl
 have hb':(f4 c.head && decide (c.body.length<=3))=true:=by rw [Bool.not_eq_false'] at hb; exact hb
 have hfc:iI c=(c.body.all f4 && (iq c.head []).all fun n=>iZ (gP c.body []) n):=by
  rw [iI,<- Bool.and_assoc,hb']; rfl
 refine dL hI yf fun v0 w' hI=>?_
 refine ⟨fun i t w'=>∃ (j:Nat) (l:List Int),j<=c.body.length/\i=.int .i64 j/\(c.body.drop j).all f4=c.body.all f4/\eU (c.body.drop j) l=eU c.body []/\l.length+dH (c.body.drop j)<=3000000/\
   Inv w [] [.blk b1 (.cells #[.int .i64 c.head.kind,.int .i64 c.head.n,.string c.head.name,kv,ks] bb),md t l] S w',
  fun i _ _=>c.body.length - (intOf i).toNat,⟨0,[],Nat.zero_le _,rfl,rfl,rfl,by simp only [List.drop_zero,List.length_nil]; omega,hI⟩,?_⟩
 intro t4 _ _ t3 _ _ _ _ _ _ _ _ _ _ _ _ _ _ _ _ _ _ _ _ w'
 rintro ⟨j,l,hj,rfl,hall,hvs,hl,hI⟩
 refine az hI 0 rfl cj aS rfl ?_
 refine a9 h2 ay ?_
 refine co ?_
 refine bp (fun hji=>?_) (fun hji=>?_)
 ·have hj':j<c.body.length:=by omega
  have hstep:=jv f4 c.body j hj'
  rw [nq c.body j hj'] at hl
  rw [List.drop_eq_getElem_cons hj',eU] at hvs
  have hc1:=fy (c.body.drop (j+1))
  have hc2:=p9 c.body[j] l
  refine az hI 0 rfl cj aS rfl ?_
  refine ec hI h2 ay ai hj' (fun _ _=>RdT.length) fun cs' hcs'=>?_
  refine Run.callPure pf oy hI (mI hcs') fun w' hI=>?_
  refine c9 ?_
  refine aX (fun hne=>done hI ?_) (fun he=>?_)
  ·have hne':f4 c.body[j]=false:=by simpa using hne
   rw [hfc,<- hall,hstep,hne']; rfl
  ·have he':f4 c.body[j]=true:=by simpa using he
   refine az hI 0 rfl cj aS rfl ?_
   refine ec hI h2 ay ai hj' (fun _ _=>RdT.length) fun cs' hcs'=>?_
   refine Run.call (A:=[_]) lg lb hI (od _ S cs' t3 l hcs' (by omega)) fun v' I' S' w'=>?_
   rintro ⟨rfl,rfl⟩ _ hI
   refine bC (by omega) ?_
   exact ⟨⟨j+1,_,hj',rfl,by rw [<- hall,hstep,he']; rfl,hvs,by omega,hI⟩,by simp [intOf]; omega⟩
 ·have:j=c.body.length:=by omega
  subst this
  rw [List.drop_length] at hall hvs
  have hvs':l=gP c.body []:=by rw [<- (hsv []).2,<- hvs,eU]
  have hfc2:iI c=(iq c.head []).all fun n=>iZ l n:=by
   rw [hfc,<- hall,<- hvs']; rfl
  refine bo eJ ?_
  refine ft hI 0 [.int .i64 c.head.kind,.int .i64 c.head.n,.string c.head.name,kv] ai rfl rfl ?_ ?_
  ·intro j v hj
   match j with
   | 0|1|2|3=>exact hj
   | j+4=>simp at hj
  have hI:=hI.rowNil ir 1
  refine Run.call (A:=[_,_]) lg lb hI (od _ S _ (.slice none 0 0) [] h1' (by simp only [List.length_nil]; omega)) fun v' I' S w'=>?_
  rintro ⟨rfl,rfl⟩ _ hI
  rw [(hsv []).1] at hI
  generalize iq c.head []=hv at hI hfc2
  obtain ⟨S1,hle1,hrd1,hI,hback1⟩:=Inv.lend (A:=[_,_]) hI
  obtain ⟨S2,hle2,hrd2,hI,hback2⟩:=Inv.lend (A:=[_]) hI
  have hr1:=hrd1.ints.mono hle2 fun _ _ h=>h
  have hr2:=hrd2.ints
  have hle:Sle S S2:=hle1.trans hle2
  have hlv:=hr1.le
  simp only [maxLen] at hlv
  refine ⟨fun i w'=>∃ j:Nat,j<=hv.length/\i=.int .i64 j/\(hv.drop j).all (fun n=>iZ l n)=hv.all (fun n=>iZ l n)/\Inv w [] [.blk b1 (.cells #[.int .i64 c.head.kind,.int .i64 c.head.n,.string c.head.name,kv,ks] bb)] S2 w',
   fun i _=>hv.length - (intOf i).toNat,⟨0,Nat.zero_le _,rfl,rfl,hI⟩,?_⟩
  intro t6 _ _ _ _ _ _ _ _ _ _ _ _ _ _ w'
  rintro ⟨j,hj,rfl,hall,hI⟩
  refine a9 hr1 iR ?_
  refine co ?_
  refine bp (fun hji=>?_) (fun hji=>?_)
  ·have hj':j<hv.length:=by omega
   have hstep:=jv (fun n=>iZ l n) hv j hj'
   refine jO hI hr1 iR bj hj' (fun cs hcs=>hcs) ?_
   refine Run.callPure A8 Bo hI (zt hv[j] hr2) fun w' hI=>?_
   refine c9 ?_
   refine aX (fun hne=>o6 hI hle ?_) (fun he=>?_)
   ·have hne':iZ l hv[j]=false:=by simpa using hne
    rw [hfc2,<- hall,hstep,hne']; rfl
   ·have he':iZ l hv[j]=true:=by simpa using he
    refine bC (by omega) ?_
    exact ⟨⟨j+1,hj',rfl,by rw [<- hall,hstep,he']; rfl,hI⟩,by simp [intOf]; omega⟩
  ·have:j=hv.length:=by omega
   subst this
   refine o6 hI hle ?_
   rw [hfc2,<- hall,List.drop_length]; rfl

theorem nv {p:List C} {S:av} {v:Value} (h:RdSl S 5 (RdC S) v p) (hw:wP p<=1048576):Pure Tryz.prog rV [v] S (.bool (jn p)):=by
 intro w hI
 have hlen:=h.le
 simp only [maxLen] at hlen
 refine mg ?_
 unfold jz
 refine ⟨fun i w'=>∃ j:Nat,j<=p.length/\i=.int .i64 j/\(p.drop j).all iI=p.all iI/\Inv w [] [] S w',fun i _=>p.length - (intOf i).toNat,⟨0,Nat.zero_le _,rfl,rfl,hI⟩,?_⟩
 intro t3 _ _ _ _ _ _ _ _ _ _ _ _ _ _ _ _ _ w'
 rintro ⟨j,hj,rfl,hall,hI⟩
 refine ⟨fun t w'=>t=.bool (decide (j<p.length) && qL p)/\Inv w [] [] S w',?_,?_⟩
 ·refine a9 h e9 ?_
  refine co ?_
  by_cases hji:j<p.length
  ·rw [decide_eq_true (show (j:Int)<p.length by omega),decide_eq_true hji]
   repeat (first|refine ac ?_|refine af (by decide) ?_|refine ab ?_|refine al ?_|refine ak ?_)
   refine Run.callPure iO iS hI (gr h hw) fun w' hI=>?_
   repeat (first|refine ac ?_|refine af (by decide) ?_|refine ab ?_|refine al ?_|refine ak ?_)
   exact ⟨rfl,hI⟩
  ·rw [decide_eq_false (show ¬ (j:Int)<p.length by omega),decide_eq_false hji]
   repeat (first|refine ac ?_|refine af (by decide) ?_|refine ab ?_|refine al ?_|refine ak ?_)
   exact ⟨rfl,hI⟩
 intro t _ _ _ _ _ _ _ w'
 rintro ⟨rfl,hI⟩
 refine aX (fun hb=>?_) (fun hb=>?_)
 ·simp only [Bool.and_eq_true,decide_eq_true_eq] at hb
  obtain ⟨hj',hpv⟩:=hb
  have hstep:=jv iI p j hj'
  have hwm:=BA (List.getElem_mem hj')
  have hcv:dt p[j]=true:=by
   simp only [qL,Bool.and_eq_true,List.all_eq_true] at hpv
   exact hpv.2 _ (List.getElem_mem hj')
  refine ec hI h e9 cL hj' (fun _ _=>RdC.length) fun cs' hcs'=>?_
  refine Run.callPure uu tt hI (sz hcs' hcv (by omega)) fun w' hI=>?_
  refine c9 ?_
  refine aX (fun hne=>done hI ?_) (fun he=>?_)
  ·have hne':iI p[j]=false:=by simpa using hne
   rw [jn,<- hall,hstep,hne']; simp
  ·have he':iI p[j]=true:=by simpa using he
   refine bC (by omega) ?_
   exact ⟨⟨j+1,hj',rfl,by rw [<- hall,hstep,he']; rfl,hI⟩,by simp [intOf]; omega⟩
 ·refine Run.callPure iO iS hI (gr h hw) fun w' hI=>done hI ?_
  rw [jn]
  by_cases hji:j<p.length
  ·rw [decide_eq_true hji,Bool.true_and] at hb
   rw [hb]; rfl
  ·rw [<- hall,List.drop_of_length_le (by omega)]; simp
end Go.Proofs.YtemmhhdnlbmicaaGreat

/- The row's reading of the arguments gives the reading of this proof; and what a law that returns true owes. -/
namespace Go.Proofs.YtemmhhdnlbmicaaGreat
open Go Go.ChangeShapes Go.WideShapes Go.ChangeAt Go.RowKit

def CA (W:World):av:=fun b=>W.heap[b]?
section
variable {H:Type} {enc:TypeId × Value->H} {P:Program} {W:World} {sp:Nat->Bool} {held:Bool}
theorem C5 {a:Addr} {v:Value} (h:W.cell? a=some v):∃ b o c E fz,a=⟨b,o,none⟩/\W.heap[b]?=some (.cells c E fz)/\c[o]?=some v:=by
 obtain ⟨b,o,s⟩:=a
 simp only [World.cell?] at h
 split at h
 ·rename_i c E fz hb
  cases s with
  | none=>exact ⟨b,o,c,E,fz,rfl,hb,by simpa using h⟩
  | some s=>simp at h
 ·cases h
theorem DH {b o k:Nat} {cs:List Value} {c:Array Value} {E:TypeId} {fz:Nat × Nat} (hb:W.heap[b]?=some (.cells c E fz)) (h:W.cells? 0 ⟨b,o,none⟩ k=some cs):bf c o k=cs:=by
 unfold World.cells? at h
 rw [if_pos (Nat.zero_le _)] at h
 have hl:cs.length=k:=by simpa using mapM_some_length h
 apply List.ext_getElem?
 intro i
 rw [bf,List.getElem?_take]
 by_cases hi:i<k
 ·rw [if_pos hi,List.getElem?_drop]
  have:=mapM_some_get h i i (by simp [hi])
  rw [<- this,gT]
  simp [World.cell?,hb]
 ·rw [if_neg hi,List.getElem?_eq_none (by omega)]
theorem ry {α:Type} (p:Nat->α->Prop):∀ n:Nat,(∀ i,i<n->∃ t,p i t)->∃ xs:List α,xs.length=n/\∀ i (h:i<xs.length),p i xs[i]
 | 0,_=>⟨[],rfl,fun i h=>by simp at h⟩
 | n+1,h=>by
  obtain ⟨xs,hl,hx⟩:=ry p n fun i hi=>h i (by omega)
  obtain ⟨t,ht⟩:=h n (by omega)
  refine ⟨xs++[t],by simp [hl],fun i hi=>?_⟩
  by_cases e:i<xs.length
  ·rw [List.getElem_append_left e]
   exact hx i e
  ·have:i=xs.length:=by simp at hi; omega
   subst this
   simp only [List.getElem_append_right (Nat.le_refl _),Nat.sub_self,List.getElem_cons_zero]
   rw [hl]
   exact ht
theorem re {T e:TypeId} {k:Nat} (h:c8 P T=some (e,k)):P.underlying T=some (.slice e)/\P.cellsOf e=k:=by
 unfold c8 at h
 split at h
 ·rename_i e' he
  rw [Option.map_eq_some_iff] at h
  obtain ⟨i,hi,hx⟩:=h
  simp only [Prod.mk.injEq] at hx
  obtain ⟨rfl,rfl⟩:=hx
  exact ⟨he,by simp [Program.cellsOf,hi]⟩
 ·cases h
theorem FR {α:Type} {R:List Value->α->Prop} {T e:TypeId} {k fuel:Nat} {v:Value} {x:DataW H × List MemPlace} (hu:c8 P T=some (e,k)) (hk0:0<k)
  (h:DataW.trod enc P W 0 sp held fuel T [v]=some x) (hel:∀ n cs y,fuel=n+1->DataW.trod enc P W 0 sp held n e cs=some y->∃ t:α,R cs t):∃ xs,RdSl (CA W) k R v xs:=by
 obtain ⟨hu1,hk⟩:=re hu
 rcases DataW.trod_slice hu1 h with ⟨hcs,_⟩|⟨a,len,cap,elems,rest,n,hf,hcs,_,_,hl,hc,hlen,hE,_⟩
 ·simp only [List.cons.injEq,and_true] at hcs
  subst hcs
  exact ⟨[],none,0,rfl,Nat.le_refl _,Nat.zero_le _,.inl rfl⟩
 ·simp only [List.cons.injEq,and_true] at hcs
  subst hcs
  have hE':∀ i,i<len->∃ t:α,∃ cs,W.cells? 0 (a.add (i * k)) k=some cs/\R cs t:=by
   intro i hi
   have:=hE i hi
   rw [hk,List.getElem?_eq_getElem (by omega),Option.bind_eq_some_iff] at this
   obtain ⟨cs,h1,h2⟩:=this
   obtain ⟨t,ht⟩:=hel n cs _ hf h2
   exact ⟨t,cs,h1,ht⟩
  obtain ⟨xs,hxl,hxs⟩:=ry _ len hE'
  subst hxl
  refine ⟨xs,some a,cap,rfl,hl,hc,?_⟩
  by_cases h0:xs.length=0
  ·exact .inl (List.eq_nil_of_length_eq_zero h0)
  ·obtain ⟨cs0,h1,_⟩:=hxs 0 (by omega)
   have e0:a.add (0 * k)=a:=by rw [Nat.zero_mul]; simp [Addr.add]
   rw [e0] at h1
   have hc0:∃ u,W.cell? a=some u:=by
    unfold World.cells? at h1
    rw [if_pos (Nat.zero_le _)] at h1
    have hl0:cs0.length=k:=by simpa using mapM_some_length h1
    have:=mapM_some_get h1 0 0 (by simp [hk0])
    rw [List.getElem?_eq_getElem (by omega)] at this
    have e1:a.add 0=a:=by simp [Addr.add]
    rw [e1] at this
    exact ⟨_,this⟩
   obtain ⟨u,hu0⟩:=hc0
   obtain ⟨b,o,c,E,fz,rfl,hb,_⟩:=C5 hu0
   refine .inr ⟨b,o,c,E,fz,rfl,hb,fun i hi=>?_⟩
   obtain ⟨cs,h2,hR⟩:=hxs i hi
   rw [gT] at h2
   rw [DH hb h2]
   exact hR
end

section
variable {H:Type} {enc:TypeId × Value->H} {W:World} {sp:Nat->Bool} {held:Bool}
end

theorem Inv.entry (W:World):Inv W [] [] (CA W) W:=Inv.start (L:=[]) (by simp) (by simp [bF]) fun b o hb=>⟨hb,by simp [bF]⟩
theorem Inv.same {W W':World} {L:List Item} {S:av} (h:Inv W [] L S W') (b:Nat) (hb:b<W.heap.size):W'.heap[b]?=W.heap[b]?:=h.old b hb (by simp)
theorem CW {W W':World} {may:MemPlace->Prop} (ho:W'.os=W.os) (hp:W'.output=W.output) (h:∀ b,b<W.heap.size->W'.heap[b]?=W.heap[b]?):W.keptBut W' may:=by
 refine ⟨ho,hp,fun i hi=>?_⟩
 rw [h i hi]
 split
 ·rename_i e1 e2
  rw [e1] at e2
  simp only [Option.some.injEq,Obj.cells.injEq] at e2
  obtain ⟨rfl,rfl,rfl⟩:=e2
  exact ⟨rfl,rfl,rfl,fun _ _=>rfl⟩
 ·rename_i e1 e2
  rw [e1] at e2
  simp only [Option.some.injEq,Obj.map.injEq] at e2
  obtain ⟨rfl,rfl⟩:=e2
  exact .inr ⟨rfl,rfl⟩
 ·rfl

end Go.Proofs.YtemmhhdnlbmicaaGreat

/- The sizes: laws.szTerm and its kin. -/
namespace Go.Proofs.YtemmhhdnlbmicaaGreat
open Go Go.RowKit
attribute [local irreducible] Run CondV ag a4


end Go.Proofs.YtemmhhdnlbmicaaGreat

/- Equality of terms and clauses as the laws ask it. -/
namespace Go.Proofs.YtemmhhdnlbmicaaGreat
open Go Go.RowKit
attribute [local irreducible] Run CondV ag a4

mutual
def eqT:T->T->Bool
 | .mk k n s ks,.mk k' n' s' ks'=>decide (k=k') && (decide (n=n') && (decide (s=s') && eqL ks ks'))
def eqL:List T->List T->Bool
 | [],[]=>true
 | t::ts,u::us=>eqT t u && eqL ts us
 | _,_=>false
end
mutual
theorem gl:∀ a b:T,eqT a b=true↔a=b
 | .mk k n s ks,.mk k' n' s' ks'=>by
  simp only [eqT,Bool.and_eq_true,decide_eq_true_eq,xU ks ks',T.mk.injEq]
theorem xU:∀ a b:List T,eqL a b=true↔a=b
 | [],[]=>by simp [eqL]
 | [],_::_=>by simp [eqL]
 | _::_,[]=>by simp [eqL]
 | t::ts,u::us=>by
  simp only [eqL,Bool.and_eq_true,gl t u,xU ts us,List.cons.injEq]
end
theorem Cy:∀ {a b:List T},a.length≠b.length->eqL a b=false:=by
 intro a b h
 rw [<- Bool.not_eq_true,xU]
 rintro rfl
 exact h rfl
theorem Gi {a b c d e:Value}:∀ (j:Nat) (v:Value),([a,b,c,d]:List Value)[j]?=some v->(#[a,b,c,d,e]:Array Value)[0+j]?=some v
 | 0,_,h|1,_,h|2,_,h|3,_,h=>h
 | j+4,_,h=>by simp at h

end Go.Proofs.YtemmhhdnlbmicaaGreat

/- The sizes of clauses and of programs, and what they bound. -/
namespace Go.Proofs.YtemmhhdnlbmicaaGreat
open Go Go.RowKit
attribute [local irreducible] Run CondV ag a4

/- toClauseS, and what it made published -/
end Go.Proofs.YtemmhhdnlbmicaaGreat

/- The laws' marks: laws.markText. -/
namespace Go.Proofs.YtemmhhdnlbmicaaGreat
open Go Go.RowKit
section
variable {P:Program} {w w0:World} {X:List Nat} {L:List Item} {S:av} {K:Value->World->Prop}
attribute [local irreducible] Run CondV ag a4
end

section
attribute [local irreducible] Run CondV ag a4
end

end Go.Proofs.YtemmhhdnlbmicaaGreat

/- The laws' marks, written into trees of the function's own. -/
namespace Go.Proofs.YtemmhhdnlbmicaaGreat
open Go Go.RowKit

theorem Part.upd {α:Type} {k:Nat} {R:bl->List Value->α->Prop} {c c':Array Value} {Ls:List bl} {xs:List α} (h:Part k R c Ls xs) {i:Nat} {L':bl} {x:α} (hx:R L' (bf c' (i * k) k) x)
  (hne:∀ j,j≠i->bf c' (j * k) k=bf c (j * k) k):Part k R c' (Ls.set i L') (xs.set i x):=by
 refine ⟨by simp [h.1],fun j h1 h2=>?_⟩
 by_cases e:i=j
 ·subst e
  rw [List.getElem_set_self,List.getElem_set_self]
  exact hx
 ·rw [List.getElem_set_ne e,List.getElem_set_ne e,hne j fun e'=>e e'.symm]
  exact h.2 j (by simpa using h1) (by simpa using h2)
section
attribute [local irreducible] Run CondV ag a4
end

end Go.Proofs.YtemmhhdnlbmicaaGreat

/- The laws' marks, written into clauses of the function's own. -/
namespace Go.Proofs.YtemmhhdnlbmicaaGreat
open Go Go.RowKit

section
attribute [local irreducible] Run CondV ag a4
theorem TrC.parts {L:bl} {cs:List Value} {c:C} (h:TrC L cs c):∃ kv ks L1 L2,cs=[.int .i64 c.head.kind,.int .i64 c.head.n,.string c.head.name,kv,ks]/\L=L1++L2/\TrSl 4 TrT L1 kv c.head.kids/\TrSl 4 TrT L2 ks c.body:=by
 obtain ⟨hd,ks,L1,L2,rfl,rfl,h1,h2⟩:=h
 obtain ⟨kv,rfl,_,_,_,hkT⟩:=TrT.iff.1 h1
 exact ⟨kv,ks,L1,L2,rfl,rfl,hkT,h2⟩
end

end Go.Proofs.YtemmhhdnlbmicaaGreat

/- The laws' marks, read again. -/
namespace Go.Proofs.YtemmhhdnlbmicaaGreat
open Go Go.RowKit

section
attribute [local irreducible] Run CondV ag a4
end

end Go.Proofs.YtemmhhdnlbmicaaGreat

/- Names of goals with their numbers of arguments: built, compared; the clauses for one. -/
namespace Go.Proofs.YtemmhhdnlbmicaaGreat
open Go Go.RowKit

section
variable {w:World} {K:Value->World->Prop}
attribute [local irreducible] Run
end

attribute [local irreducible] Run CondV ag a4
structure Pd where
 name:ByteArray
 arity:Int
deriving DecidableEq
def Pd.cells (x:Pd):List Value:=[.string x.name,.int .i64 x.arity]
end Go.Proofs.YtemmhhdnlbmicaaGreat

/- The clauses for a goal; which clauses can be unfolded: both sides. -/
namespace Go.Proofs.YtemmhhdnlbmicaaGreat
open Go Go.RowKit
attribute [local irreducible] Run CondV ag a4

end Go.Proofs.YtemmhhdnlbmicaaGreat

/- Lists of predicates: asked and grown, on both sides. -/
namespace Go.Proofs.YtemmhhdnlbmicaaGreat
open Go Go.RowKit
attribute [local irreducible] Run CondV ag a4

end Go.Proofs.YtemmhhdnlbmicaaGreat

/- Marks in rows of predicates; trees lent and taken back. -/
namespace Go.Proofs.YtemmhhdnlbmicaaGreat
open Go Go.RowKit

/- a tree of the function's own, handed to readers, and taken back -/
theorem Inv.lendAll {w0 w:World} {X:List Nat} {A:List Item} (M:bl) {S:av} (h:Inv w0 X (A++bB M) S w) :
  ∃ S',Sle S S'/\Ins S' M/\Inv w0 X A S' w/\∀ B w',Inv w0 X B S' w'->Inv w0 X (B++bB M) S w':=by
 obtain ⟨S',h1,h2,h3,h4⟩:=Inv.publishAll M h
 have hnd:=h.nd
 rw [ci,List.nodup_append] at hnd
 refine ⟨S',h2,h3,h1,fun B w' hB=>⟨hB.size,hB.os,hB.tape,hB.output,hB.old,fun it hit=>?_,?_,fun b hb=>?_,fun b o hb=>⟨(hB.pub b o (h2 b o hb)).1,fun hb'=>?_⟩⟩⟩
 ·rcases List.mem_append.1 hit with hit|hit
  ·exact hB.its it hit
  ·obtain ⟨p,hp,rfl⟩:=List.mem_map.1 hit
   exact (hB.pub _ _ (h3 p hp)).1
 ·rw [ci,List.nodup_append]
  refine ⟨hB.nd,hnd.2.1,fun a ha b hb e=>?_⟩
  subst e
  obtain ⟨p,hp,rfl⟩:=gk.1 hb
  exact (hB.pub _ _ (h3 p hp)).2 ha
 ·rw [ci] at hb
  rcases List.mem_append.1 hb with hb|hb
  ·exact hB.new b hb
  ·exact h.new b (by rw [ci]; exact List.mem_append_right _ hb)
 ·rw [ci] at hb'
  rcases List.mem_append.1 hb' with hb'|hb'
  ·exact (hB.pub b o (h2 b o hb)).2 hb'
  ·exact (h.pub b o hb).2 (by rw [ci]; exact List.mem_append_right _ hb')
/- a row seen as its block -/
theorem Inv.openRow {w0 w:World} {X:List Nat} {A:List Item} {S:av} {v:Value} {e:TypeId} {k n:Nat} {xs:List Value} (h:Inv w0 X (A++[.row v e k n xs]) S w) :
  xs.length=n * k/\((v=.slice none 0 0/\n=0) ∨ ∃ g cap cur,v=.slice (some ⟨g,0,none⟩) n cap/\n<=cap/\cap<=maxLen/\cur.size=cap * k/\cur.toList.take (n * k)=xs/\Inv w0 X (A++[.blk g (.cells cur e)]) S w):=by
 have hm:w.ownsRow 0 e k v n xs:=h.its (.row v e k n xs) (by simp)
 obtain ⟨hl,hm⟩:=hm
 refine ⟨hl,?_⟩
 rcases hm with hn|⟨g,cap,cur,rfl,_,hg,hnc,hcm,hcs,ht⟩
 ·exact .inl hn
 ·have hf:bF (A++[Item.blk g (.cells cur e)])=bF (A++[Item.row (.slice (some ⟨g,0,none⟩) n cap) e k n xs]):=by
   simp [bF,Item.foot,Value.ownBlock]
  refine .inr ⟨g,cap,cur,rfl,hnc,hcm,hcs,ht,h.size,h.os,h.tape,h.output,h.old,fun it hit=>?_,by rw [hf]; exact h.nd,by rw [hf]; exact h.new,by rw [hf]; exact h.pub⟩
  rcases List.mem_append.1 hit with hit|hit
  ·exact h.its it (List.mem_append_left _ hit)
  ·simp at hit
   subst hit
   exact hg
section
attribute [local irreducible] Run CondV ag a4
end

end Go.Proofs.YtemmhhdnlbmicaaGreat

/- Trees grown by append; impl.own and its kin. -/
namespace Go.Proofs.YtemmhhdnlbmicaaGreat
open Go Go.RowKit

structure Grown {α:Type} (k:Nat) (R:bl->List Value->α->Prop) (Ls:List bl) (css:List (List Value)) (ys:List α):Prop where
 hL:Ls.length=ys.length
 hc:css.length=ys.length
 hk:∀ cs∈css,cs.length=k
 hR:∀ i (h:i<ys.length) (h1:i<Ls.length) (h2:i<css.length),R Ls[i] css[i] ys[i]
theorem Grown.nil {α:Type} (k:Nat) (R:bl->List Value->α->Prop):Grown k R [] [] ([]:List α):=⟨rfl,rfl,by simp,fun i h=>by simp at h⟩
theorem Grown.snoc {α:Type} {k:Nat} {R:bl->List Value->α->Prop} {Ls:List bl} {css:List (List Value)} {ys:List α} (h:Grown k R Ls css ys) {L:bl} {cs:List Value} {y:α} (hR:R L cs y) (hl:cs.length=k) :
  Grown k R (Ls++[L]) (css++[cs]) (ys++[y]):=by
 refine ⟨by simp [h.hL],by simp [h.hc],fun c hc=>?_,fun i h0 h1 h2=>?_⟩
 ·rcases List.mem_append.1 hc with hc|hc
  ·exact h.hk c hc
  ·simp at hc; subst hc; exact hl
 ·have e1:=h.hL
  have e2:=h.hc
  by_cases hi:i<ys.length
  ·rw [List.getElem_append_left (by omega),List.getElem_append_left (by omega),List.getElem_append_left hi]
   exact h.hR i hi (by omega) (by omega)
  ·have:i=ys.length:=by simp at h0; omega
   subst this
   rw [List.getElem_append_right (by omega),List.getElem_append_right (by omega),List.getElem_append_right (by omega)]
   simp only [e1,e2,Nat.sub_self,List.getElem_cons_zero]
   exact hR
theorem ge (k:Nat):∀ (css:List (List Value)) (i:Nat) (_:∀ cs∈css,cs.length=k) (h:i<css.length),(css.flatten.drop (i * k)).take k=css[i]
 | [],i,_,h=>by simp at h
 | c::css,0,hk,_=>by
  have:=hk c (List.mem_cons_self ..)
  rw [List.flatten_cons,Nat.zero_mul,List.drop_zero,List.take_append_of_le_length (by omega),List.take_of_length_le (by omega)]
  rfl
 | c::css,i+1,hk,h=>by
  have:=hk c (List.mem_cons_self ..)
  rw [List.flatten_cons,Nat.succ_mul,Nat.add_comm,<- List.drop_drop,List.drop_left' this]
  exact ge k css i (fun cs hc=>hk cs (List.mem_cons_of_mem _ hc)) (by simpa using h)
abbrev bq (v:Value) (e:TypeId) (k:Nat) (css:List (List Value)):Item:=.row v e k css.length css.flatten
theorem Inv.rowTree {α:Type} {w0 w:World} {X:List Nat} {A:List Item} {S:av} {v:Value} {e:TypeId} {k:Nat} {R:bl->List Value->α->Prop} {Ls:List bl} {css:List (List Value)} {ys:List α}
  (h:Inv w0 X (A++(bq v e k css::bB Ls.flatten)) S w) (hg:Grown k R Ls css ys):∃ L,TrSl k R L v ys/\Inv w0 X (A++bB L) S w:=by
 have hp:List.Perm ((A++bB Ls.flatten)++[bq v e k css]) (A++(bq v e k css::bB Ls.flatten)):=by
  rw [List.append_assoc]
  exact List.Perm.append_left _ List.perm_append_comm
 obtain ⟨hl,ho⟩:=(h.perm hp).openRow
 have hcy:=hg.hc
 have hLy:=hg.hL
 rcases ho with ⟨rfl,h0⟩|⟨g,cap,cur,rfl,hnc,hcm,hcs,ht,hI⟩
 ·have:ys=[]:=List.eq_nil_of_length_eq_zero (by omega)
  subst this
  refine ⟨[],TrSl.nil (by simp [maxLen]),?_⟩
  simpa [bB] using h.sub (List.sublist_append_left _ _)
 ·by_cases hy:ys=[]
  ·subst hy
   have:css=[]:=List.eq_nil_of_length_eq_zero (by simpa using hcy)
   subst this
   refine ⟨[],TrSl.nil hcm,?_⟩
   simpa [bB] using h.sub (List.sublist_append_left _ _)
  ·refine ⟨(g,.cells cur e)::Ls.flatten,⟨_,cap,by rw [hcy],by omega,hcm,.inr ⟨g,cur,e,Ls,rfl,rfl,hLy,by omega,fun i h1 h2=>?_⟩⟩,?_⟩
   ·have hik:i * k+k<=css.length * k:=by rw [<- Nat.succ_mul]; exact Nat.mul_le_mul_right k (by omega)
    have:=ge k css i hg.hk (by omega)
    rw [<- ht,List.drop_take,List.take_take,Nat.min_eq_left (by omega)] at this
    rw [bf,this]
    exact hg.hR i h1 h2 (by omega)
   ·refine hI.perm ?_
    rw [List.append_assoc]
    exact List.Perm.append_left _ (List.perm_append_comm (l₁:=[Item.blk g (.cells cur e)]))
theorem gd (v:Value) (e:TypeId) (k:Nat) (css:List (List Value)) (cs:List Value):Item.row v e k (css.length+1) (css.flatten++cs)=bq v e k (css++[cs]):=by
 simp [bq]
section
variable {P:Program} {w w0:World} {X:List Nat} {L:List Item} {S:av} {K:Value->World->Prop}
attribute [local irreducible] Run CondV ag a4
/- append(row, x): x is put into a block of its own first -/
theorem fi (h:Inv w0 X L S w) {T ty e:TypeId} {k by_:Nat} {z v:Value} {cs:List Bool} {css:List (List Value)} (i:Nat) (xs:List Value)
  (hT:l1 P T=some (e,k,by_,z)) (hk0:0<k) (hk24:k<=65536) (hi:L[i]?=some (bq v e k css)) (hl:xs.length=k) (h1:∀ u∈xs,u.oneCell'=true) (hfit:css.length+1<=4294967296) (hby:by_<=32768)
  (hk:∀ v' w',Inv w0 X (L.set i (bq v' e k (css++[xs]))) S w'->K v' w') :
  Run P (aW T 1 [(0,.agg xs.toArray)]) w fun u w'=>Run P (aq .append #[T,T] ty cs [v,u]) w' K:=by
 refine fq h hT (by simp [Value.cells,hl]) hk24 hk0 fun b w' hI=>?_
 have hil:i<L.length:=(List.getElem?_eq_some_iff.1 hi).1
 refine fX hI i xs hT hk0 (by rw [List.getElem?_append_left hil]; exact hi) (by omega) (m:=1) (o:=0) ?_ h1 hfit hby fun v' w' hI=>?_
 ·intro j u hj
  rw [hI.cellL (i:=L.length) (by rw [List.getElem?_append_right (Nat.le_refl _),Nat.sub_self]; rfl)]
  rw [Nat.zero_add]
  simpa [Value.cells] using hj
 ·refine hk _ _ ?_
  rw [<- gd]
  rw [List.set_append_left _ _ hil] at hI
  exact hI.sub (List.sublist_append_left _ _)
end

section
attribute [local irreducible] Run CondV ag a4
theorem uN {ts:List T} (ih:∀ t∈ts,∀ (S:av) (cs:List Value),RdT S cs t->wT t<=1048576->Tri Tryz.prog CK [.agg cs.toArray] [] S (zT S t))
  {S:av} {v:Value} (h:RdSl S 4 (RdT S) v ts) (hw:ts.length+wL ts<=1048576):Tri Tryz.prog rL [v] [] S (uL 4 TrT S ts):=by
 intro w hI
 refine sc ?_
 unfold oY
 refine a9 h ay ?_
 refine ⟨fun i t w'=>∃ (k:Nat) (Ls:List bl) (css:List (List Value)),k<=ts.length/\i=.int .i64 k/\Grown 4 TrT Ls css (ts.take k)/\Inv w [] (bq t ad 4 css::bB Ls.flatten) S w',
  fun i _ _=>ts.length - (intOf i).toNat,⟨0,[],[],Nat.zero_le _,rfl,Grown.nil _ _,hI.rowNil ad 4⟩,?_⟩
 intro t8 _ t3 _ _ _ _ _ _ _ _ _ w'
 rintro ⟨k,Ls,css,hk,rfl,hg,hI⟩
 refine co ?_
 refine bp (fun hki=>?_) (fun hki=>?_)
 ·have hk':k<ts.length:=by omega
  have htl:(ts.take k).length=k:=by simp; omega
  have hcl:=hg.hc
  refine ec hI h ay ai hk' (fun _ _=>RdT.length) fun cs hcs=>?_
  have hm:=List.getElem_mem hk'
  have hwm:=i0 hm
  have hlc:=hcs.length
  refine bw hI bu fun b6 w' hI=>?_
  have hI:=hI.perm (M:=.blk b6 _::(bq t3 ad 4 css::bB Ls.flatten)) (List.perm_append_comm (l₁:=[_]))
  refine bd hI 0 rfl ai (by simpa using hlc) rfl (by simpa using hcs.one) fun w' hI=>?_
  refine a8 hI 0 ai rfl (by simpa using hlc) ?_
  have hI:Inv w [] (bq t3 ad 4 css::bB Ls.flatten) S w':=hI.sub (List.sublist_cons_self _ _)
  refine Run.call0 Eq EY hI (ih _ hm S cs hcs (by omega)) fun v' I' S' w'=>?_
  rintro ⟨rfl,cs',L,rfl,rfl,hT⟩ _ hI
  refine fi hI 0 cs' bn (by omega) (by omega) rfl hT.length hT.one (by omega) (by omega) fun v' w' hI=>?_
  refine bC (by omega) ?_
  refine ⟨⟨k+1,Ls++[L],css++[cs'],hk',rfl,?_,?_⟩,by simp [intOf]; omega⟩
  ·rw [List.take_succ_eq_append_getElem hk']
   exact hg.snoc hT hT.length
  ·simp only [List.flatten_append,List.flatten_cons,List.flatten_nil,List.append_nil,dU]
   exact hI
 ·have:k=ts.length:=by omega
  subst this
  rw [List.take_length] at hg
  obtain ⟨L,hT,hI⟩:=Inv.rowTree (A:=[]) hI hg
  exact ⟨_,_,_,rfl,hI,Ext.refl _ _ _,rfl,_,rfl,hT⟩
theorem Da:∀ (t:T) (S:av) (cs:List Value),RdT S cs t->wT t<=1048576->Tri Tryz.prog CK [.agg cs.toArray] [] S (zT S t):=by
 refine T.ind fun k n s ks ih S cs h hw=>?_
 intro w hI
 obtain ⟨kv,rfl,h1,h2,hs,hks⟩:=RdT.iff.1 h
 simp only [T.name,T.kids,T.kind,T.n] at h1 h2 hs hks ⊢
 simp only [wT] at hw
 refine z6 ?_
 unfold Am
 refine ca hI fun b1 w' hI=>?_
 refine bw hI bu fun b2 w' hI=>?_
 refine az hI 0 rfl aT aS rfl ?_
 refine Run.call0 nE ph hI (uN ih hks (by omega)) fun v' I' S' w'=>?_
 rintro ⟨rfl,L,rfl,hT⟩ _ hI
 have hv:v'.cells=#[v']/\v'.oneCell'=true:=by obtain ⟨a,cap,rfl,_⟩:=hT; exact ⟨rfl,rfl⟩
 refine jy hI 0 rfl aT aS rfl hv.1 hv.2 fun w' hI=>?_
 refine a8 hI 0 ai rfl rfl ?_
 refine bd hI 1 rfl ai rfl rfl ?_ fun w' hI=>?_
 ·intro u hu
  have hu':u∈([.int .i64 k,.int .i64 n,.string s,v']:List Value):=hu
  simp at hu'
  rcases hu' with rfl|rfl|rfl|rfl <;> first|rfl|exact hv.2
 refine cz hI 1 ai rfl rfl ?_
 refine ⟨_,_,_,rfl,hI.sub (List.sublist_append_right [_,_] (bB L)),Ext.refl _ _ _,rfl,[.int .i64 k,.int .i64 n,.string s,v'],L,rfl,rfl,TrT.iff.2 ⟨v',rfl,h1,h2,hs,hT⟩⟩
theorem vg {ts:List T} {S:av} {v:Value} (h:RdSl S 4 (RdT S) v ts) (hw:ts.length+wL ts<=1048576):Tri Tryz.prog rL [v] [] S (uL 4 TrT S ts):=
 uN (fun t _=>Da t) h hw
end

end Go.Proofs.YtemmhhdnlbmicaaGreat

/- impl.ownClause, impl.ownProgram. -/
namespace Go.Proofs.YtemmhhdnlbmicaaGreat
open Go Go.RowKit
section
variable {w:World} {K:Value->World->Prop}
attribute [local irreducible] Run
theorem rH {a b:Int} {s:ByteArray} {k:Value} (hk:K (.agg #[.int .i64 a,.int .i64 b,.string s,k,.slice none 0 0]) w):Run Tryz.prog (cK bb [(0,.agg #[.int .i64 a,.int .i64 b,.string s,k])]) w K:=by
 refine Run.of (v:=.agg #[.int .i64 a,.int .i64 b,.string s,k,.slice none 0 0]) (w':=w) ?_ hk
 unfold cK
 rw [Sem.run_bind,run_build w bb _ #[.int .i64 a,.int .i64 b,.string s,k,.slice none 0 0] (by kernel_rfl),Result.andThen_ok]
 rfl
theorem rl {a b:Int} {s:ByteArray} (hk:K (.agg #[.int .i64 a,.int .i64 b,.string s,.slice none 0 0]) w):Run Tryz.prog (cK ad [(0,.int .i64 a),(1,.int .i64 b),(2,.string s)]) w K:=by
 refine Run.of (v:=.agg #[.int .i64 a,.int .i64 b,.string s,.slice none 0 0]) (w':=w) ?_ hk
 unfold cK
 rw [Sem.run_bind,run_build w ad _ #[.int .i64 a,.int .i64 b,.string s,.slice none 0 0] (by kernel_rfl),Result.andThen_ok]
 rfl
end
section
attribute [local irreducible] Run CondV ag a4
end

end Go.Proofs.YtemmhhdnlbmicaaGreat

/- impl.ownProgram; spec's copies. -/
namespace Go.Proofs.YtemmhhdnlbmicaaGreat
open Go Go.RowKit
theorem RdC.one {S:av} {cs:List Value} {c:C} (h:RdC S cs c):∀ u∈cs,u.oneCell'=true:=by
 obtain ⟨hd,ks,rfl,h1,a,cap,rfl,_⟩:=h
 intro u hu
 rcases List.mem_append.1 hu with hu|hu
 ·exact h1.one u hu
 ·simp at hu; subst hu; rfl
section
attribute [local irreducible] Run CondV ag a4
/- a row's value is a slice -/
theorem Inv.rowSlice {w0 w:World} {X:List Nat} {L:List Item} {S:av} {v:Value} {e:TypeId} {k n:Nat} {xs:List Value} (h:Inv w0 X L S w) (i:Nat) (hi:L[i]?=some (.row v e k n xs)):∃ a m c,v=.slice a m c:=by
 have hm:w.ownsRow 0 e k v n xs:=h.its (.row v e k n xs) (List.mem_of_getElem? hi)
 rcases hm.2 with ⟨rfl,_⟩|⟨g,cap,cur,rfl,_⟩
 ·exact ⟨_,_,_,rfl⟩
 ·exact ⟨_,_,_,rfl⟩
def bx (B1 B2 B3 B3' r r':Item) (rest:List Item) (M:bl) (B27:Item) (d7 d8 d9 d11:Bool):List Item:=
 B1::B2::(match d11 with|true=>B3'|false=>B3)::(match d9 with|true=>r'|false=>r)::(rest++((match d7 with|true=>bB M|false=>[])++(match d8 with|true=>[B27]|false=>[])))

theorem fh:∀ (t:T) (S:av) (cs:List Value),RdT S cs t->wT t<=1048576->Tri Tryz.prog na [.agg cs.toArray] [] S (zT S t):=by
 refine T.ind fun k n s ks ih S cs h hw=>?_
 intro w hI
 obtain ⟨kv,rfl,h1,h2,hs,hks⟩:=RdT.iff.1 h
 simp only [T.name,T.kids,T.kind,T.n] at h1 h2 hs hks ⊢
 simp only [wT] at hw
 refine lw ?_
 unfold lj
 refine ca hI fun b1 w' hI=>?_
 refine bw hI bu fun b2 w' hI=>?_
 refine az hI 0 rfl bt bj rfl ?_
 refine az hI 0 rfl bv bj rfl ?_
 refine az hI 0 rfl bk bi rfl ?_
 refine rl ?_
 refine bw hI bu fun b3 w' hI=>?_
 refine bd hI 2 rfl ai rfl rfl (by simp [Value.oneCell']) fun w' hI=>?_
 have hI:=hI.rowNil ad 4
 refine ⟨fun i w'=>∃ (j:Nat) (kvc:Value) (Ls:List bl) (css:List (List Value)),j<=ks.length/\i=.int .i64 j/\Grown 4 TrT Ls css (ks.take j)/\
   Inv w [] (.blk b1 (.cells #[.int .i64 k,.int .i64 n,.string s,kv] ad)::.blk b2 (.cells #[.int .i64 0,.int .i64 0,.string ⟨#[]⟩,.slice none 0 0] ad)::.blk b3 (.cells #[.int .i64 k,.int .i64 n,.string s,kvc] ad)::bq kvc ad 4 css::bB Ls.flatten) S w',
  fun i _=>ks.length - (intOf i).toNat,⟨0,_,[],[],Nat.zero_le _,rfl,Grown.nil _ _,hI⟩,?_⟩
 intro t4 _ _ _ _ _ _ _ _ _ _ _ _ _ _ _ _ _ _ w'
 rintro ⟨j,kvc,Ls,css,hj,rfl,hg,hI⟩
 refine az hI 0 rfl aT aS rfl ?_
 refine a9 hks ay ?_
 refine co ?_
 refine bp (fun hji=>?_) (fun hji=>?_)
 ·have hj':j<ks.length:=by omega
  have hjl:(ks.take j).length=j:=by simp; omega
  have hcl:=hg.hc
  have hm:=List.getElem_mem hj'
  have hwm:=i0 hm
  obtain ⟨b,o,cap,c,E,fz,rfl,hS,hR⟩:=hks.at_ hj'
  refine ⟨fun D dN dk dO de cU cW df c5 db c4 cq w_=>(D 0=true->cq=.pointer (some ⟨b3,3,none⟩))/\(D 1=true->c4=kvc)/\(D 2=true->db=.pointer (some ⟨b1,3,none⟩))/\(D 3=true->c5=.slice (some ⟨b,o,none⟩) (ks).length cap)/\(D 4=true->df=.int .i64 j)/\(D 5=true->cW=.pointer (some ⟨b,o+j * 4,none⟩))/\(D 6=true->cU=.agg (bf c (o+j * 4) 4).toArray)/\(D 7=true->True)/\(D 8=true->True)/\(D 9=true->True)/\(D 10=true->dN=.pointer (some ⟨b3,3,none⟩))/\(D 11=true->True)/\∃ M cs7 b8,(D 7=true->de=.agg cs7.toArray/\TrT M cs7 (ks)[j])/\(D 8=true->dO=.slice (some ⟨b8,0,none⟩) 1 1)/\(D 8=true->D 7=true)/\(D 9=true->D 8=true)/\(D 11=true->D 9=true)/\(D 11=true->D 1=true)/\Inv w [] (bx (.blk b1 (.cells #[.int .i64 k,.int .i64 n,.string s,.slice (some ⟨b,o,none⟩) ks.length cap] ad)) (.blk b2 (.cells #[.int .i64 0,.int .i64 0,.string ⟨#[]⟩,.slice none 0 0] ad)) (.blk b3 (.cells #[.int .i64 k,.int .i64 n,.string s,kvc] ad)) (.blk b3 (.cells #[.int .i64 k,.int .i64 n,.string s,dk] ad)) (bq kvc ad 4 css) (bq dk ad 4 (css++[cs7])) (bB Ls.flatten) M (.blk b8 (.cells cs7.toArray ad)) (D 7) (D 8) (D 9) (D 11)) S w_,⟨ae,ae,ae,ae,ae,ae,ae,ae,ae,ae,ae,ae,⟨[],[],0,ae,ae,ae,ae,ae,ae,by simpa [bx,bB] using hI.draw⟩⟩,⟨?_,?_,?_,?_,?_,?_,?_,?_,?_,?_,?_,?_,trivial⟩,?_⟩
  ·intro D a6  dN dk dO de cU cW df c5 db c4 cq w_
   rintro ⟨aB,aC,aA,aD,ax,aF,aE,aG,aI,aM,ah,aj,⟨M,cs7,b8,e7,e8,k8,k9,k11,k1,hI⟩⟩
   refine bo aT ?_
   exact ⟨fun _=>rfl,aC,aA,aD,ax,aF,aE,aG,aI,aM,ah,aj,⟨M,cs7,b8,e7,e8,k8,k9,k11,k1,hI⟩⟩
  ·intro D a6 cV dN dk dO de cU cW df c5 db c4 cq w_
   rintro ⟨aB,aC,aA,aD,ax,aF,aE,aG,aI,aM,ah,aj,⟨M,cs7,b8,e7,e8,k8,k9,k11,k1,hI⟩⟩
   obtain rfl:=aB cV
   have f11:D 11=false:=Bool.eq_false_iff.2 fun h=>by rw [k1 h] at a6; cases a6
   refine bA (b:=b3) hI 2 (c:=(#[.int .i64 k,.int .i64 n,.string s,kvc])) aS (by rw [f11]; rfl) rfl ?_
   have k1:=fun (_:aw D 1 11=true)=>(rfl:aw D 1 1=true)
   exact ⟨aB,fun _=>rfl,aA,aD,ax,aF,aE,aG,aI,aM,ah,aj,⟨M,cs7,b8,e7,e8,k8,k9,k11,k1,hI⟩⟩
  ·intro D a6  dN dk dO de cU cW df c5 db c4 cq w_
   rintro ⟨aB,aC,aA,aD,ax,aF,aE,aG,aI,aM,ah,aj,⟨M,cs7,b8,e7,e8,k8,k9,k11,k1,hI⟩⟩
   refine bo aT ?_
   exact ⟨aB,aC,fun _=>rfl,aD,ax,aF,aE,aG,aI,aM,ah,aj,⟨M,cs7,b8,e7,e8,k8,k9,k11,k1,hI⟩⟩
  ·intro D a6 eL dN dk dO de cU cW df c5 db c4 cq w_
   rintro ⟨aB,aC,aA,aD,ax,aF,aE,aG,aI,aM,ah,aj,⟨M,cs7,b8,e7,e8,k8,k9,k11,k1,hI⟩⟩
   obtain rfl:=aA eL
   refine bA hI 0 aS rfl rfl ?_
   exact ⟨aB,aC,aA,fun _=>rfl,ax,aF,aE,aG,aI,aM,ah,aj,⟨M,cs7,b8,e7,e8,k8,k9,k11,k1,hI⟩⟩
  ·intro D a6  dN dk dO de cU cW df c5 db c4 cq w_
   rintro ⟨aB,aC,aA,aD,ax,aF,aE,aG,aI,aM,ah,aj,⟨M,cs7,b8,e7,e8,k8,k9,k11,k1,hI⟩⟩
   exact ⟨aB,aC,aA,aD,fun _=>rfl,aF,aE,aG,aI,aM,ah,aj,⟨M,cs7,b8,e7,e8,k8,k9,k11,k1,hI⟩⟩
  ·intro D a6 dg dW dN dk dO de cU cW df c5 db c4 cq w_
   rintro ⟨aB,aC,aA,aD,ax,aF,aE,aG,aI,aM,ah,aj,⟨M,cs7,b8,e7,e8,k8,k9,k11,k1,hI⟩⟩
   obtain rfl:=aD dg
   obtain rfl:=ax dW
   refine ba ay hj' ?_
   exact ⟨aB,aC,aA,aD,ax,fun _=>rfl,aE,aG,aI,aM,ah,aj,⟨M,cs7,b8,e7,e8,k8,k9,k11,k1,hI⟩⟩
  ·intro D a6 ef dN dk dO de cU cW df c5 db c4 cq w_
   rintro ⟨aB,aC,aA,aD,ax,aF,aE,aG,aI,aM,ah,aj,⟨M,cs7,b8,e7,e8,k8,k9,k11,k1,hI⟩⟩
   obtain rfl:=aF ef
   refine cu ai hR.length (fun j v hj=>by rw [hI.cellS hS]; exact be rfl j v hj) ?_
   exact ⟨aB,aC,aA,aD,ax,aF,fun _=>rfl,aG,aI,aM,ah,aj,⟨M,cs7,b8,e7,e8,k8,k9,k11,k1,hI⟩⟩
  ·intro D a6 cA dN dk dO de cU cW df c5 db c4 cq w_
   rintro ⟨aB,aC,aA,aD,ax,aF,aE,aG,aI,aM,ah,aj,⟨M,cs7,b8,e7,e8,k8,k9,k11,k1,hI⟩⟩
   obtain rfl:=aE cA
   have f8:D 8=false:=Bool.eq_false_iff.2 fun h=>by rw [k8 h] at a6; cases a6
   have f9:D 9=false:=Bool.eq_false_iff.2 fun h=>by rw [k9 h] at f8; cases f8
   have f11:D 11=false:=Bool.eq_false_iff.2 fun h=>by rw [k11 h] at f9; cases f9
   rw [a6,f8,f9,f11] at hI
   refine Run.call0 er eG hI (ih _ (List.getElem_mem hj') S _ hR (by omega)) fun v' I' S w_=>?_
   rintro ⟨rfl,cs7,M,rfl,rfl,hT⟩ _ hI
   have e7:aw D 7 7=true->Value.agg cs7.toArray=Value.agg cs7.toArray/\TrT M cs7 (ks)[j]:=fun _=>⟨rfl,hT⟩
   have k8:=fun (_:aw D 7 8=true)=>(rfl:aw D 7 7=true)
   have hI:Inv w [] (bx (.blk b1 (.cells #[.int .i64 k,.int .i64 n,.string s,.slice (some ⟨b,o,none⟩) ks.length cap] ad)) (.blk b2 (.cells #[.int .i64 0,.int .i64 0,.string ⟨#[]⟩,.slice none 0 0] ad)) (.blk b3 (.cells #[.int .i64 k,.int .i64 n,.string s,kvc] ad)) (.blk b3 (.cells #[.int .i64 k,.int .i64 n,.string s,dk] ad)) (bq kvc ad 4 css) (bq dk ad 4 (css++[cs7])) (bB Ls.flatten) M (.blk b8 (.cells cs7.toArray ad)) true (D 8) (D 9) (D 11)) S w_:=by
    rw [f8,f9,f11]
    simpa [bx] using hI
   exact ⟨aB,aC,aA,aD,ax,aF,aE,fun _=>by first|assumption|trivial,aI,aM,ah,aj,⟨M,cs7,b8,e7,e8,k8,k9,k11,k1,hI⟩⟩
  ·intro D a6 dl dN dk dO de cU cW df c5 db c4 cq w_
   rintro ⟨aB,aC,aA,aD,ax,aF,aE,aG,aI,aM,ah,aj,⟨M,cs7,b8,e7,e8,k8,k9,k11,k1,hI⟩⟩
   have F6:=aG dl
   have f9:D 9=false:=Bool.eq_false_iff.2 fun h=>by rw [k9 h] at a6; cases a6
   have f11:D 11=false:=Bool.eq_false_iff.2 fun h=>by rw [k11 h] at f9; cases f9
   obtain ⟨q7,hT⟩:=e7 dl
   subst q7
   rw [dl,a6,f9,f11] at hI
   refine fq hI bn (by simp [Value.cells,hT.length]) (by omega) (by omega) fun b8 w_ hI=>?_
   have e7:aw D 8 7=true->Value.agg cs7.toArray=Value.agg cs7.toArray/\TrT M cs7 (ks)[j]:=fun _=>⟨rfl,hT⟩
   have e8:=fun (_:aw D 8 8=true)=>(rfl:Value.slice (some ⟨b8,0,none⟩) 1 1=_)
   have k8:=fun (_:aw D 8 8=true)=>dl
   have k9:=fun (_:aw D 8 9=true)=>(rfl:aw D 8 8=true)
   have hI:Inv w [] (bx (.blk b1 (.cells #[.int .i64 k,.int .i64 n,.string s,.slice (some ⟨b,o,none⟩) ks.length cap] ad)) (.blk b2 (.cells #[.int .i64 0,.int .i64 0,.string ⟨#[]⟩,.slice none 0 0] ad)) (.blk b3 (.cells #[.int .i64 k,.int .i64 n,.string s,kvc] ad)) (.blk b3 (.cells #[.int .i64 k,.int .i64 n,.string s,dk] ad)) (bq kvc ad 4 css) (bq dk ad 4 (css++[cs7])) (bB Ls.flatten) M (.blk b8 (.cells cs7.toArray ad)) (D 7) true (D 9) (D 11)) S w_:=by
    rw [dl,f9,f11]
    simpa [bx,Value.cells] using hI
   exact ⟨aB,aC,aA,aD,ax,aF,aE,aG,fun _=>by first|assumption|trivial,aM,ah,aj,⟨M,cs7,b8,e7,e8,k8,k9,k11,k1,hI⟩⟩
  ·intro D a6 d3 gf nl dN dk dO de cU cW df c5 db c4 cq w_
   rintro ⟨aB,aC,aA,aD,ax,aF,aE,aG,aI,aM,ah,aj,⟨M,cs7,b8,e7,e8,k8,k9,k11,k1,hI⟩⟩
   obtain rfl:=aC d3
   have GB:=aI gf
   have f11:D 11=false:=Bool.eq_false_iff.2 fun h=>by rw [k11 h] at a6; cases a6
   have q8:=e8 gf
   subst q8
   obtain ⟨_,hT⟩:=e7 nl
   rw [nl,gf,a6,f11] at hI
   have hblk:((bx (.blk b1 (.cells #[.int .i64 k,.int .i64 n,.string s,.slice (some ⟨b,o,none⟩) ks.length cap] ad)) (.blk b2 (.cells #[.int .i64 0,.int .i64 0,.string ⟨#[]⟩,.slice none 0 0] ad)) (.blk b3 (.cells #[.int .i64 k,.int .i64 n,.string s,c4] ad)) (.blk b3 (.cells #[.int .i64 k,.int .i64 n,.string s,dk] ad)) (bq c4 ad 4 css) (bq dk ad 4 (css++[cs7])) (bB Ls.flatten) M (.blk b8 (.cells cs7.toArray ad)) true true false false))[4+(bB Ls.flatten).length+(bB M).length]?=some (.blk b8 (.cells cs7.toArray ad)):=by
    have e4:4+(bB Ls.flatten).length+(bB M).length=((bB Ls.flatten).length+(bB M).length)+1+1+1+1:=by omega
    rw [e4]
    simp only [bx,List.getElem?_cons_succ]
    rw [List.getElem?_append_right (by omega),Nat.add_sub_cancel_left,List.getElem?_append_right (Nat.le_refl _),Nat.sub_self]; rfl
   refine fX hI 3 cs7 bn (by omega) rfl (by rw [hT.length]) (m:=1) (o:=0) ?_ hT.one (by omega) (by omega) fun v' w_ hI=>?_
   ·intro i u hi
    rw [hI.cellL hblk,Nat.zero_add]
    simpa using hi
   rw [gd] at hI
   have k9:=fun (_:aw D 9 9=true)=>gf
   have k11:=fun (_:aw D 9 11=true)=>(rfl:aw D 9 9=true)
   have hI:Inv w [] (bx (.blk b1 (.cells #[.int .i64 k,.int .i64 n,.string s,.slice (some ⟨b,o,none⟩) ks.length cap] ad)) (.blk b2 (.cells #[.int .i64 0,.int .i64 0,.string ⟨#[]⟩,.slice none 0 0] ad)) (.blk b3 (.cells #[.int .i64 k,.int .i64 n,.string s,c4] ad)) (.blk b3 (.cells #[.int .i64 k,.int .i64 n,.string s,v'] ad)) (bq c4 ad 4 css) (bq v' ad 4 (css++[cs7])) (bB Ls.flatten) M (.blk b8 (.cells cs7.toArray ad)) (D 7) (D 8) true (D 11)) S w_:=by
    rw [nl,gf,f11]
    exact hI
   exact ⟨aB,aC,aA,aD,ax,aF,aE,aG,aI,fun _=>by first|assumption|trivial,ah,aj,⟨M,cs7,b8,e7,e8,k8,k9,k11,k1,hI⟩⟩
  ·intro D a6 cV gH sq FD FC Gz GK G6 GJ Hj dN dk dO de cU cW df c5 db c4 cq w_
   rintro ⟨aB,aC,aA,aD,ax,aF,aE,aG,aI,aM,ah,aj,⟨M,cs7,b8,e7,e8,k8,k9,k11,k1,hI⟩⟩
   refine bo aT ?_
   exact ⟨aB,aC,aA,aD,ax,aF,aE,aG,aI,aM,fun _=>rfl,aj,⟨M,cs7,b8,e7,e8,k8,k9,k11,k1,hI⟩⟩
  ·intro D a6 f2 fB Fa Fq yI Fh Dn C1 Ga GV qM qZ FZ dN dk dO de cU cW df c5 db c4 cq w_
   rintro ⟨aB,aC,aA,aD,ax,aF,aE,aG,aI,aM,ah,aj,⟨M,cs7,b8,e7,e8,k8,k9,k11,k1,hI⟩⟩
   obtain rfl:=ah f2
   have Hb:=aM fB
   rw [qM,qZ,fB,a6] at hI
   obtain ⟨va,vn,vc,hv9⟩:=Inv.rowSlice hI 3 rfl
   refine fW hI 2 (n:=1) (by rw [hv9]; rfl) (by decide +kernel) rfl (by simp) (by rw [hv9]; simp [Value.cells,Value.oneCell']) fun w_ hI=>?_
   have hcl9:Value.cells dk=#[dk]:=by rw [hv9]; rfl
   rw [hcl9] at hI
   have k1:=fun (_:aw D 11 11=true)=>yI
   have k11:=fun (_:aw D 11 11=true)=>fB
   have hI:Inv w [] (bx (.blk b1 (.cells #[.int .i64 k,.int .i64 n,.string s,.slice (some ⟨b,o,none⟩) ks.length cap] ad)) (.blk b2 (.cells #[.int .i64 0,.int .i64 0,.string ⟨#[]⟩,.slice none 0 0] ad)) (.blk b3 (.cells #[.int .i64 k,.int .i64 n,.string s,kvc] ad)) (.blk b3 (.cells #[.int .i64 k,.int .i64 n,.string s,dk] ad)) (bq kvc ad 4 css) (bq dk ad 4 (css++[cs7])) (bB Ls.flatten) M (.blk b8 (.cells cs7.toArray ad)) (D 7) (D 8) (D 9) true) S w_:=by
    rw [qM,qZ,fB]
    exact hI
   exact ⟨aB,aC,aA,aD,ax,aF,aE,aG,aI,aM,ah,fun _=>trivial,⟨M,cs7,b8,e7,e8,k8,k9,k11,k1,hI⟩⟩
  intro D eR eX jG io gc gp f1 fL fJ fP fN fO dN dk dO de cU cW df c5 db c4 cq w_
  rintro ⟨aB,aC,aA,aD,ax,aF,aE,aG,aI,aM,ah,aj,⟨M,cs7,b8,e7,e8,k8,k9,k11,k1,hI⟩⟩
  obtain rfl:=ah eX
  have Hb:=aM jG
  have GB:=aI io
  have F6:=aG gc
  obtain rfl:=aE gp
  obtain rfl:=aF f1
  obtain rfl:=ax fL
  obtain rfl:=aD fJ
  obtain rfl:=aA fP
  obtain rfl:=aC fN
  obtain rfl:=aB fO
  clear aB aC aA aD ax aF aE aG aI aM ah aj
  obtain ⟨_,hT⟩:=e7 gc
  rw [gc,io,jG,eR] at hI
  refine bC (by omega) ?_
  refine ⟨⟨j+1,dk,Ls++[M],css++[cs7],hj',rfl,?_,?_⟩,by simp [intOf]; omega⟩
  ·rw [List.take_succ_eq_append_getElem hj']
   exact hg.snoc hT hT.length
  ·simp only [List.flatten_append,List.flatten_cons,List.flatten_nil,List.append_nil,dU]
   refine hI.sub ?_
   simp only [bx]
   rw [<- List.append_assoc]
   exact (((List.sublist_append_left _ _).cons_cons _).cons_cons _).cons_cons _ |>.cons_cons _
 ·have:j=ks.length:=by omega
  subst this
  rw [List.take_length] at hg
  obtain ⟨va,vn,vc,hvk⟩:=hI.rowSlice 3 rfl
  have hv1:kvc.oneCell'=true:=by rw [hvk]; rfl
  refine a8 hI 2 ai rfl rfl ?_
  refine bd hI 1 rfl ai rfl rfl ?_ fun w' hI=>?_
  ·intro u hu
   have hu':u∈([.int .i64 k,.int .i64 n,.string s,kvc]:List Value):=hu
   simp at hu'
   rcases hu' with rfl|rfl|rfl|rfl <;> first|rfl|exact hv1
  refine cz hI 1 ai rfl rfl ?_
  have hI:Inv w [] ([]++(bq kvc ad 4 css::bB Ls.flatten)) S w':=hI.sub (List.sublist_append_right [_,_,_] _)
  obtain ⟨L,hT,hI⟩:=Inv.rowTree hI hg
  exact ⟨_,_,_,rfl,hI,Ext.refl _ _ _,rfl,_,L,rfl,rfl,TrT.iff.2 ⟨kvc,rfl,h1,h2,hs,hT⟩⟩
end

end Go.Proofs.YtemmhhdnlbmicaaGreat

/- spec.l4Copy, spec.l14Copy: clauses and programs copied. -/
namespace Go.Proofs.YtemmhhdnlbmicaaGreat
open Go Go.RowKit
section
attribute [local irreducible] Run CondV ag a4
theorem xB {c0:C} {S:av} {cs:List Value} (h:RdC S cs c0) (hw:wC c0<=1048576):Tri Tryz.prog Bx [.agg cs.toArray] [] S (GO S c0):=by
 intro w hI
 obtain ⟨hd,ks,rfl,h1,h2⟩:=h
 have h1':=h1
 obtain ⟨kv,rfl,g1,g2,g3,g4⟩:=RdT.iff.1 h1
 unfold wC at hw
 refine ug ?_
 unfold ru
 refine ca hI fun b1 w' hI=>?_
 refine bw hI ib fun b2 w' hI=>?_
 refine bo eJ ?_
 refine ft hI 0 [.int .i64 c0.head.kind,.int .i64 c0.head.n,.string c0.head.name,kv] ai rfl rfl Gi ?_
 refine Run.call0 er eG hI (fh _ S _ h1' (by omega)) fun v' I' S w'=>?_
 rintro ⟨rfl,cs1,N,rfl,rfl,hT1⟩ _ hI
 obtain ⟨kh,rfl,_⟩:=TrT.iff.1 hT1
 refine rH ?_
 refine bw hI ib fun b3 w' hI=>?_
 have hI:=hI.perm (M:=.blk b1 _::.blk b2 _::.blk b3 _::bB N) (((List.perm_append_comm (l₁:=[_])).cons _).cons _)
 refine bd hI 2 rfl cL rfl rfl ?_ fun w' hI=>?_
 ·intro u hu
  have hu':u∈([.int .i64 c0.head.kind,.int .i64 c0.head.n,.string c0.head.name,kh,.slice none 0 0]:List Value):=hu
  simp at hu'
  have o1:kh.oneCell'=true:=hT1.one kh (by simp)
  rcases hu' with rfl|rfl|rfl|rfl|rfl <;> first|rfl|exact o1
 have hI:=hI.rowNil ad 4
 have hI:=hI.perm (M:=.blk b1 (.cells #[.int .i64 c0.head.kind,.int .i64 c0.head.n,.string c0.head.name,kv,ks] bb)::.blk b2 (.cells #[.int .i64 0,.int .i64 0,.string ⟨#[]⟩,.slice none 0 0,.slice none 0 0] bb)::.blk b3 (.cells #[.int .i64 c0.head.kind,.int .i64 c0.head.n,.string c0.head.name,kh,.slice none 0 0] bb)::bq (.slice none 0 0) ad 4 []::bB N) ((((List.perm_append_comm (l₁:=[_])).cons _).cons _).cons _)
 refine ⟨fun i w'=>∃ (j:Nat) (kvc:Value) (Ls:List bl) (css:List (List Value)),j<=c0.body.length/\i=.int .i64 j/\Grown 4 TrT Ls css (c0.body.take j)/\
   Inv w [] (.blk b1 (.cells #[.int .i64 c0.head.kind,.int .i64 c0.head.n,.string c0.head.name,kv,ks] bb)::.blk b2 (.cells #[.int .i64 0,.int .i64 0,.string ⟨#[]⟩,.slice none 0 0,.slice none 0 0] bb)::.blk b3 (.cells #[.int .i64 c0.head.kind,.int .i64 c0.head.n,.string c0.head.name,kh,kvc] bb)::bq kvc ad 4 css::bB (N::Ls).flatten) S w',
  fun i _=>c0.body.length - (intOf i).toNat,⟨0,_,[],[],Nat.zero_le _,rfl,Grown.nil _ _,by simp only [List.flatten_cons,List.flatten_nil,List.append_nil]; exact hI⟩,?_⟩
 intro t4 _ _ _ _ _ _ _ _ _ _ _ _ _ _ _ _ _ _ w'
 rintro ⟨j,kvc,Ls,css,hj,rfl,hg,hI⟩
 refine az hI 0 rfl cj aS rfl ?_
 refine a9 h2 ay ?_
 refine co ?_
 refine bp (fun hji=>?_) (fun hji=>?_)
 ·have hj':j<c0.body.length:=by omega
  have hjl:(c0.body.take j).length=j:=by simp; omega
  have hcl:=hg.hc
  have hm:=List.getElem_mem hj'
  have hwm:=i0 hm
  obtain ⟨b,o,cap,c,E,fz,rfl,hS,hR⟩:=h2.at_ hj'
  refine ⟨fun D de cU cW df c5 db c4 cq dq dz dy w_=>(D 0=true->dy=.pointer (some ⟨b3,4,none⟩))/\(D 1=true->dz=kvc)/\(D 2=true->dq=.pointer (some ⟨b1,4,none⟩))/\(D 3=true->cq=.slice (some ⟨b,o,none⟩) (c0.body).length cap)/\(D 4=true->c4=.int .i64 j)/\(D 5=true->db=.pointer (some ⟨b,o+j * 4,none⟩))/\(D 6=true->c5=.agg (bf c (o+j * 4) 4).toArray)/\(D 7=true->True)/\(D 8=true->True)/\(D 9=true->True)/\(D 10=true->de=.pointer (some ⟨b3,4,none⟩))/\(D 11=true->True)/\∃ M cs7 b8,(D 7=true->df=.agg cs7.toArray/\TrT M cs7 (c0.body)[j])/\(D 8=true->cW=.slice (some ⟨b8,0,none⟩) 1 1)/\(D 8=true->D 7=true)/\(D 9=true->D 8=true)/\(D 11=true->D 9=true)/\(D 11=true->D 1=true)/\Inv w [] (bx (.blk b1 (.cells #[.int .i64 c0.head.kind,.int .i64 c0.head.n,.string c0.head.name,kv,.slice (some ⟨b,o,none⟩) c0.body.length cap] bb)) (.blk b2 (.cells #[.int .i64 0,.int .i64 0,.string ⟨#[]⟩,.slice none 0 0,.slice none 0 0] bb)) (.blk b3 (.cells #[.int .i64 c0.head.kind,.int .i64 c0.head.n,.string c0.head.name,kh,kvc] bb)) (.blk b3 (.cells #[.int .i64 c0.head.kind,.int .i64 c0.head.n,.string c0.head.name,kh,cU] bb)) (bq kvc ad 4 css) (bq cU ad 4 (css++[cs7])) (bB (N::Ls).flatten) M (.blk b8 (.cells cs7.toArray ad)) (D 7) (D 8) (D 9) (D 11)) S w_,⟨ae,ae,ae,ae,ae,ae,ae,ae,ae,ae,ae,ae,⟨[],[],0,ae,ae,ae,ae,ae,ae,by simpa [bx,bB] using hI.draw⟩⟩,⟨?_,?_,?_,?_,?_,?_,?_,?_,?_,?_,?_,?_,trivial⟩,?_⟩
  ·intro D a6  de cU cW df c5 db c4 cq dq dz dy w_
   rintro ⟨aB,aC,aA,aD,ax,aF,aE,aG,aI,aM,ah,aj,⟨M,cs7,b8,e7,e8,k8,k9,k11,k1,hI⟩⟩
   refine bo cj ?_
   exact ⟨fun _=>rfl,aC,aA,aD,ax,aF,aE,aG,aI,aM,ah,aj,⟨M,cs7,b8,e7,e8,k8,k9,k11,k1,hI⟩⟩
  ·intro D a6 cV de cU cW df c5 db c4 cq dq dz dy w_
   rintro ⟨aB,aC,aA,aD,ax,aF,aE,aG,aI,aM,ah,aj,⟨M,cs7,b8,e7,e8,k8,k9,k11,k1,hI⟩⟩
   obtain rfl:=aB cV
   have f11:D 11=false:=Bool.eq_false_iff.2 fun h=>by rw [k1 h] at a6; cases a6
   refine bA (b:=b3) hI 2 (c:=(#[.int .i64 c0.head.kind,.int .i64 c0.head.n,.string c0.head.name,kh,kvc])) aS (by rw [f11]; rfl) rfl ?_
   have k1:=fun (_:aw D 1 11=true)=>(rfl:aw D 1 1=true)
   exact ⟨aB,fun _=>rfl,aA,aD,ax,aF,aE,aG,aI,aM,ah,aj,⟨M,cs7,b8,e7,e8,k8,k9,k11,k1,hI⟩⟩
  ·intro D a6  de cU cW df c5 db c4 cq dq dz dy w_
   rintro ⟨aB,aC,aA,aD,ax,aF,aE,aG,aI,aM,ah,aj,⟨M,cs7,b8,e7,e8,k8,k9,k11,k1,hI⟩⟩
   refine bo cj ?_
   exact ⟨aB,aC,fun _=>rfl,aD,ax,aF,aE,aG,aI,aM,ah,aj,⟨M,cs7,b8,e7,e8,k8,k9,k11,k1,hI⟩⟩
  ·intro D a6 eL de cU cW df c5 db c4 cq dq dz dy w_
   rintro ⟨aB,aC,aA,aD,ax,aF,aE,aG,aI,aM,ah,aj,⟨M,cs7,b8,e7,e8,k8,k9,k11,k1,hI⟩⟩
   obtain rfl:=aA eL
   refine bA hI 0 aS rfl rfl ?_
   exact ⟨aB,aC,aA,fun _=>rfl,ax,aF,aE,aG,aI,aM,ah,aj,⟨M,cs7,b8,e7,e8,k8,k9,k11,k1,hI⟩⟩
  ·intro D a6  de cU cW df c5 db c4 cq dq dz dy w_
   rintro ⟨aB,aC,aA,aD,ax,aF,aE,aG,aI,aM,ah,aj,⟨M,cs7,b8,e7,e8,k8,k9,k11,k1,hI⟩⟩
   exact ⟨aB,aC,aA,aD,fun _=>rfl,aF,aE,aG,aI,aM,ah,aj,⟨M,cs7,b8,e7,e8,k8,k9,k11,k1,hI⟩⟩
  ·intro D a6 dg dW de cU cW df c5 db c4 cq dq dz dy w_
   rintro ⟨aB,aC,aA,aD,ax,aF,aE,aG,aI,aM,ah,aj,⟨M,cs7,b8,e7,e8,k8,k9,k11,k1,hI⟩⟩
   obtain rfl:=aD dg
   obtain rfl:=ax dW
   refine ba ay hj' ?_
   exact ⟨aB,aC,aA,aD,ax,fun _=>rfl,aE,aG,aI,aM,ah,aj,⟨M,cs7,b8,e7,e8,k8,k9,k11,k1,hI⟩⟩
  ·intro D a6 ef de cU cW df c5 db c4 cq dq dz dy w_
   rintro ⟨aB,aC,aA,aD,ax,aF,aE,aG,aI,aM,ah,aj,⟨M,cs7,b8,e7,e8,k8,k9,k11,k1,hI⟩⟩
   obtain rfl:=aF ef
   refine cu ai hR.length (fun j v hj=>by rw [hI.cellS hS]; exact be rfl j v hj) ?_
   exact ⟨aB,aC,aA,aD,ax,aF,fun _=>rfl,aG,aI,aM,ah,aj,⟨M,cs7,b8,e7,e8,k8,k9,k11,k1,hI⟩⟩
  ·intro D a6 cA de cU cW df c5 db c4 cq dq dz dy w_
   rintro ⟨aB,aC,aA,aD,ax,aF,aE,aG,aI,aM,ah,aj,⟨M,cs7,b8,e7,e8,k8,k9,k11,k1,hI⟩⟩
   obtain rfl:=aE cA
   have f8:D 8=false:=Bool.eq_false_iff.2 fun h=>by rw [k8 h] at a6; cases a6
   have f9:D 9=false:=Bool.eq_false_iff.2 fun h=>by rw [k9 h] at f8; cases f8
   have f11:D 11=false:=Bool.eq_false_iff.2 fun h=>by rw [k11 h] at f9; cases f9
   rw [a6,f8,f9,f11] at hI
   refine Run.call0 er eG hI (fh _ S _ hR (by omega)) fun v' I' S w_=>?_
   rintro ⟨rfl,cs7,M,rfl,rfl,hT⟩ _ hI
   have e7:aw D 7 7=true->Value.agg cs7.toArray=Value.agg cs7.toArray/\TrT M cs7 (c0.body)[j]:=fun _=>⟨rfl,hT⟩
   have k8:=fun (_:aw D 7 8=true)=>(rfl:aw D 7 7=true)
   have hI:Inv w [] (bx (.blk b1 (.cells #[.int .i64 c0.head.kind,.int .i64 c0.head.n,.string c0.head.name,kv,.slice (some ⟨b,o,none⟩) c0.body.length cap] bb)) (.blk b2 (.cells #[.int .i64 0,.int .i64 0,.string ⟨#[]⟩,.slice none 0 0,.slice none 0 0] bb)) (.blk b3 (.cells #[.int .i64 c0.head.kind,.int .i64 c0.head.n,.string c0.head.name,kh,kvc] bb)) (.blk b3 (.cells #[.int .i64 c0.head.kind,.int .i64 c0.head.n,.string c0.head.name,kh,cU] bb)) (bq kvc ad 4 css) (bq cU ad 4 (css++[cs7])) (bB (N::Ls).flatten) M (.blk b8 (.cells cs7.toArray ad)) true (D 8) (D 9) (D 11)) S w_:=by
    rw [f8,f9,f11]
    simpa [bx] using hI
   exact ⟨aB,aC,aA,aD,ax,aF,aE,fun _=>by first|assumption|trivial,aI,aM,ah,aj,⟨M,cs7,b8,e7,e8,k8,k9,k11,k1,hI⟩⟩
  ·intro D a6 dl de cU cW df c5 db c4 cq dq dz dy w_
   rintro ⟨aB,aC,aA,aD,ax,aF,aE,aG,aI,aM,ah,aj,⟨M,cs7,b8,e7,e8,k8,k9,k11,k1,hI⟩⟩
   have F6:=aG dl
   have f9:D 9=false:=Bool.eq_false_iff.2 fun h=>by rw [k9 h] at a6; cases a6
   have f11:D 11=false:=Bool.eq_false_iff.2 fun h=>by rw [k11 h] at f9; cases f9
   obtain ⟨q7,hT⟩:=e7 dl
   subst q7
   rw [dl,a6,f9,f11] at hI
   refine fq hI bn (by simp [Value.cells,hT.length]) (by omega) (by omega) fun b8 w_ hI=>?_
   have e7:aw D 8 7=true->Value.agg cs7.toArray=Value.agg cs7.toArray/\TrT M cs7 (c0.body)[j]:=fun _=>⟨rfl,hT⟩
   have e8:=fun (_:aw D 8 8=true)=>(rfl:Value.slice (some ⟨b8,0,none⟩) 1 1=_)
   have k8:=fun (_:aw D 8 8=true)=>dl
   have k9:=fun (_:aw D 8 9=true)=>(rfl:aw D 8 8=true)
   have hI:Inv w [] (bx (.blk b1 (.cells #[.int .i64 c0.head.kind,.int .i64 c0.head.n,.string c0.head.name,kv,.slice (some ⟨b,o,none⟩) c0.body.length cap] bb)) (.blk b2 (.cells #[.int .i64 0,.int .i64 0,.string ⟨#[]⟩,.slice none 0 0,.slice none 0 0] bb)) (.blk b3 (.cells #[.int .i64 c0.head.kind,.int .i64 c0.head.n,.string c0.head.name,kh,kvc] bb)) (.blk b3 (.cells #[.int .i64 c0.head.kind,.int .i64 c0.head.n,.string c0.head.name,kh,cU] bb)) (bq kvc ad 4 css) (bq cU ad 4 (css++[cs7])) (bB (N::Ls).flatten) M (.blk b8 (.cells cs7.toArray ad)) (D 7) true (D 9) (D 11)) S w_:=by
    rw [dl,f9,f11]
    simpa [bx,Value.cells] using hI
   exact ⟨aB,aC,aA,aD,ax,aF,aE,aG,fun _=>by first|assumption|trivial,aM,ah,aj,⟨M,cs7,b8,e7,e8,k8,k9,k11,k1,hI⟩⟩
  ·intro D a6 d3 gf nl de cU cW df c5 db c4 cq dq dz dy w_
   rintro ⟨aB,aC,aA,aD,ax,aF,aE,aG,aI,aM,ah,aj,⟨M,cs7,b8,e7,e8,k8,k9,k11,k1,hI⟩⟩
   obtain rfl:=aC d3
   have GB:=aI gf
   have f11:D 11=false:=Bool.eq_false_iff.2 fun h=>by rw [k11 h] at a6; cases a6
   have q8:=e8 gf
   subst q8
   obtain ⟨_,hT⟩:=e7 nl
   rw [nl,gf,a6,f11] at hI
   have hblk:((bx (.blk b1 (.cells #[.int .i64 c0.head.kind,.int .i64 c0.head.n,.string c0.head.name,kv,.slice (some ⟨b,o,none⟩) c0.body.length cap] bb)) (.blk b2 (.cells #[.int .i64 0,.int .i64 0,.string ⟨#[]⟩,.slice none 0 0,.slice none 0 0] bb)) (.blk b3 (.cells #[.int .i64 c0.head.kind,.int .i64 c0.head.n,.string c0.head.name,kh,dz] bb)) (.blk b3 (.cells #[.int .i64 c0.head.kind,.int .i64 c0.head.n,.string c0.head.name,kh,cU] bb)) (bq dz ad 4 css) (bq cU ad 4 (css++[cs7])) (bB (N::Ls).flatten) M (.blk b8 (.cells cs7.toArray ad)) true true false false))[4+(bB (N::Ls).flatten).length+(bB M).length]?=some (.blk b8 (.cells cs7.toArray ad)):=by
    have e4:4+(bB (N::Ls).flatten).length+(bB M).length=((bB (N::Ls).flatten).length+(bB M).length)+1+1+1+1:=by omega
    rw [e4]
    simp only [bx,List.getElem?_cons_succ]
    rw [List.getElem?_append_right (by omega),Nat.add_sub_cancel_left,List.getElem?_append_right (Nat.le_refl _),Nat.sub_self]; rfl
   refine fX hI 3 cs7 bn (by omega) rfl (by rw [hT.length]) (m:=1) (o:=0) ?_ hT.one (by omega) (by omega) fun v' w_ hI=>?_
   ·intro i u hi
    rw [hI.cellL hblk,Nat.zero_add]
    simpa using hi
   rw [gd] at hI
   have k9:=fun (_:aw D 9 9=true)=>gf
   have k11:=fun (_:aw D 9 11=true)=>(rfl:aw D 9 9=true)
   have hI:Inv w [] (bx (.blk b1 (.cells #[.int .i64 c0.head.kind,.int .i64 c0.head.n,.string c0.head.name,kv,.slice (some ⟨b,o,none⟩) c0.body.length cap] bb)) (.blk b2 (.cells #[.int .i64 0,.int .i64 0,.string ⟨#[]⟩,.slice none 0 0,.slice none 0 0] bb)) (.blk b3 (.cells #[.int .i64 c0.head.kind,.int .i64 c0.head.n,.string c0.head.name,kh,dz] bb)) (.blk b3 (.cells #[.int .i64 c0.head.kind,.int .i64 c0.head.n,.string c0.head.name,kh,v'] bb)) (bq dz ad 4 css) (bq v' ad 4 (css++[cs7])) (bB (N::Ls).flatten) M (.blk b8 (.cells cs7.toArray ad)) (D 7) (D 8) true (D 11)) S w_:=by
    rw [nl,gf,f11]
    exact hI
   exact ⟨aB,aC,aA,aD,ax,aF,aE,aG,aI,fun _=>by first|assumption|trivial,ah,aj,⟨M,cs7,b8,e7,e8,k8,k9,k11,k1,hI⟩⟩
  ·intro D a6 cV gH sq FD FC Gz GK G6 GJ Hj de cU cW df c5 db c4 cq dq dz dy w_
   rintro ⟨aB,aC,aA,aD,ax,aF,aE,aG,aI,aM,ah,aj,⟨M,cs7,b8,e7,e8,k8,k9,k11,k1,hI⟩⟩
   refine bo cj ?_
   exact ⟨aB,aC,aA,aD,ax,aF,aE,aG,aI,aM,fun _=>rfl,aj,⟨M,cs7,b8,e7,e8,k8,k9,k11,k1,hI⟩⟩
  ·intro D a6 f2 fB Fa Fq yI Fh Dn C1 Ga GV qM qZ FZ de cU cW df c5 db c4 cq dq dz dy w_
   rintro ⟨aB,aC,aA,aD,ax,aF,aE,aG,aI,aM,ah,aj,⟨M,cs7,b8,e7,e8,k8,k9,k11,k1,hI⟩⟩
   obtain rfl:=ah f2
   have Hb:=aM fB
   rw [qM,qZ,fB,a6] at hI
   obtain ⟨va,vn,vc,hv9⟩:=Inv.rowSlice hI 3 rfl
   refine fW hI 2 (n:=1) (by rw [hv9]; rfl) (by decide +kernel) rfl (by simp) (by rw [hv9]; simp [Value.cells,Value.oneCell']) fun w_ hI=>?_
   have hcl9:Value.cells cU=#[cU]:=by rw [hv9]; rfl
   rw [hcl9] at hI
   have k1:=fun (_:aw D 11 11=true)=>yI
   have k11:=fun (_:aw D 11 11=true)=>fB
   have hI:Inv w [] (bx (.blk b1 (.cells #[.int .i64 c0.head.kind,.int .i64 c0.head.n,.string c0.head.name,kv,.slice (some ⟨b,o,none⟩) c0.body.length cap] bb)) (.blk b2 (.cells #[.int .i64 0,.int .i64 0,.string ⟨#[]⟩,.slice none 0 0,.slice none 0 0] bb)) (.blk b3 (.cells #[.int .i64 c0.head.kind,.int .i64 c0.head.n,.string c0.head.name,kh,kvc] bb)) (.blk b3 (.cells #[.int .i64 c0.head.kind,.int .i64 c0.head.n,.string c0.head.name,kh,cU] bb)) (bq kvc ad 4 css) (bq cU ad 4 (css++[cs7])) (bB (N::Ls).flatten) M (.blk b8 (.cells cs7.toArray ad)) (D 7) (D 8) (D 9) true) S w_:=by
    rw [qM,qZ,fB]
    exact hI
   exact ⟨aB,aC,aA,aD,ax,aF,aE,aG,aI,aM,ah,fun _=>trivial,⟨M,cs7,b8,e7,e8,k8,k9,k11,k1,hI⟩⟩
  intro D eR eX jG io gc gp f1 fL fJ fP fN fO de cU cW df c5 db c4 cq dq dz dy w_
  rintro ⟨aB,aC,aA,aD,ax,aF,aE,aG,aI,aM,ah,aj,⟨M,cs7,b8,e7,e8,k8,k9,k11,k1,hI⟩⟩
  obtain rfl:=ah eX
  have Hb:=aM jG
  have GB:=aI io
  have F6:=aG gc
  obtain rfl:=aE gp
  obtain rfl:=aF f1
  obtain rfl:=ax fL
  obtain rfl:=aD fJ
  obtain rfl:=aA fP
  obtain rfl:=aC fN
  obtain rfl:=aB fO
  clear aB aC aA aD ax aF aE aG aI aM ah aj
  obtain ⟨_,hT⟩:=e7 gc
  rw [gc,io,jG,eR] at hI
  refine bC (by omega) ?_
  refine ⟨⟨j+1,cU,Ls++[M],css++[cs7],hj',rfl,?_,?_⟩,by simp [intOf]; omega⟩
  ·rw [List.take_succ_eq_append_getElem hj']
   exact hg.snoc hT hT.length
  ·rw [<- List.cons_append,List.flatten_append,dU]
   simp only [List.flatten_cons,List.flatten_nil,List.append_nil]
   refine hI.sub ?_
   simp only [bx,List.flatten_cons]
   rw [<- List.append_assoc]
   exact (((List.sublist_append_left _ _).cons_cons _).cons_cons _).cons_cons _ |>.cons_cons _
 ·have:j=c0.body.length:=by omega
  subst this
  rw [List.take_length] at hg
  obtain ⟨va,vn,vc,hvk⟩:=hI.rowSlice 3 rfl
  have hv1:kvc.oneCell'=true:=by rw [hvk]; rfl
  have o1:kh.oneCell'=true:=hT1.one kh (by simp)
  refine a8 hI 2 cL rfl rfl ?_
  refine bd hI 1 rfl cL rfl rfl ?_ fun w' hI=>?_
  ·intro u hu
   have hu':u∈([.int .i64 c0.head.kind,.int .i64 c0.head.n,.string c0.head.name,kh,kvc]:List Value):=hu
   simp at hu'
   rcases hu' with rfl|rfl|rfl|rfl|rfl <;> first|rfl|exact o1|exact hv1
  refine cz hI 1 cL rfl rfl ?_
  have hI:Inv w [] (bq kvc ad 4 css::bB (N::Ls).flatten) S w':=hI.sub (List.sublist_append_right [_,_,_] _)
  rw [List.flatten_cons,dU] at hI
  have hI:=hI.perm (M:=bB N++(bq kvc ad 4 css::bB Ls.flatten)) (List.perm_middle)
  obtain ⟨L,hT,hI⟩:=Inv.rowTree hI hg
  exact ⟨_,_,_,rfl,hI,Ext.refl _ _ _,rfl,_,N++L,rfl,by rw [dU],_,kvc,N,L,rfl,rfl,hT1,hT⟩
end

end Go.Proofs.YtemmhhdnlbmicaaGreat

/- append of a whole slice that is only read to a row of the function's own. -/
namespace Go.Proofs.YtemmhhdnlbmicaaGreat
open Go Go.RowKit
section
variable {P:Program} {w w0:World} {X:List Nat} {L:List Item} {S:av} {K:Value->World->Prop}
theorem Dt (h:Inv w0 X L S w) {T ty e:TypeId} {k by_ n cp:Nat} {z v:Value} {cs:List Bool} {xs:List Value} {a:Option Addr} (i:Nat)
  (hT:l1 P T=some (e,k,by_,z)) (hi:L[i]?=some (.row v e k n xs)) (hk:K v w) :
  Run P (aq .append #[T,T] ty cs [v,.slice a 0 cp]) w K:=by
 obtain ⟨hu,inf,hi',hz,hs,hb,hzs⟩:=g6 hT
 have hown:=h.its _ (List.mem_of_getElem? hi)
 simp only [Item.holds] at hown
 refine Run.of (v:=v) (w':=w) ?_ hk
 rcases hown.2 with ⟨rfl,rfl⟩|⟨g,cap,cur,rfl,_,hg,hnc,hcm,hcs,ht⟩
 ·cases a <;> simp [aq,builtin,Builtin.append_,run_underlying hu,sizeOf,typeInfo,hi',Builtin.lenOf,Builtin.firstCells,loadCells,loadCellsFrom]
 ·cases a <;> simp [aq,builtin,Builtin.append_,run_underlying hu,sizeOf,typeInfo,hi',storeCells,hnc,Builtin.lenOf,Builtin.firstCells,loadCells,loadCellsFrom]
end

end Go.Proofs.YtemmhhdnlbmicaaGreat

/- Rows of clauses that are only read: grown, joined, copied. -/
namespace Go.Proofs.YtemmhhdnlbmicaaGreat
open Go Go.RowKit

structure Rows {α:Type} (k:Nat) (R:List Value->α->Prop) (css:List (List Value)) (ys:List α):Prop where
 hc:css.length=ys.length
 hk:∀ cs∈css,cs.length=k
 hR:∀ i (h:i<ys.length) (h1:i<css.length),R css[i] ys[i]
theorem Rows.nil {α:Type} (k:Nat) (R:List Value->α->Prop):Rows k R [] ([]:List α):=⟨rfl,by simp,fun i h=>by simp at h⟩
theorem Rows.snoc {α:Type} {k:Nat} {R:List Value->α->Prop} {css:List (List Value)} {ys:List α} (h:Rows k R css ys) {cs:List Value} {y:α} (hR:R cs y) (hl:cs.length=k):Rows k R (css++[cs]) (ys++[y]):=by
 refine ⟨by simp [h.hc],fun c hc=>?_,fun i h0 h2=>?_⟩
 ·rcases List.mem_append.1 hc with hc|hc
  ·exact h.hk c hc
  ·simp at hc; subst hc; exact hl
 ·have e2:=h.hc
  by_cases hi:i<ys.length
  ·rw [List.getElem_append_left (by omega),List.getElem_append_left hi]
   exact h.hR i hi (by omega)
  ·have:i=ys.length:=by simp at h0; omega
   subst this
   rw [List.getElem_append_right (by omega),List.getElem_append_right (by omega)]
   simp only [e2,Nat.sub_self,List.getElem_cons_zero]
   exact hR
theorem Rows.append {α:Type} {k:Nat} {R:List Value->α->Prop} {css css':List (List Value)} {ys ys':List α} (h:Rows k R css ys) (h':Rows k R css' ys'):Rows k R (css++css') (ys++ys'):=by
 have e:=h.hc
 have e':=h'.hc
 refine ⟨by simp [e,e'],fun c hc=>?_,fun i h0 h2=>?_⟩
 ·rcases List.mem_append.1 hc with hc|hc
  ·exact h.hk c hc
  ·exact h'.hk c hc
 ·by_cases hi:i<ys.length
  ·rw [List.getElem_append_left (by omega),List.getElem_append_left hi]
   exact h.hR i hi (by omega)
  ·have hi':i - css.length<ys'.length:=by simp at h0; omega
   rw [List.getElem_append_right (by omega),List.getElem_append_right (by omega)]
   have:=h'.hR (i - css.length) hi' (by omega)
   simpa only [e] using this
theorem RowRd.rows {α:Type} {S:av} {v:Value} {e:TypeId} {k:Nat} {R:List Value->α->Prop} {css:List (List Value)} {ys:List α} (hr:Rows k R css ys) (h:RowRd S v e k css.length css.flatten):RdSl S k R v ys:=by
 obtain ⟨hl,h⟩:=h
 have hcy:=hr.hc
 rcases h with ⟨rfl,h0⟩|⟨g,cap,cur,rfl,hS,hnc,hcm,hcs,ht⟩
 ·have:ys=[]:=List.eq_nil_of_length_eq_zero (by omega)
  subst this
  exact ⟨none,0,rfl,Nat.le_refl _,Nat.zero_le _,.inl rfl⟩
 ·refine ⟨_,cap,by rw [hcy],by omega,hcm,.inr ⟨g,0,cur,e,(0,0),rfl,hS,fun i hi=>?_⟩⟩
  have:=ge k css i hr.hk (by omega)
  have hik:i * k+k<=css.length * k:=by rw [<- Nat.succ_mul]; exact Nat.mul_le_mul_right k (by omega)
  rw [<- ht,List.drop_take,List.take_take,Nat.min_eq_left (by omega)] at this
  rw [bf,Nat.zero_add,this]
  exact hr.hR i hi (by omega)
theorem rI {k:Nat}:∀ {css:List (List Value)},(∀ cs∈css,cs.length=k)->css.flatten.length=css.length * k
 | [],_=>by simp
 | c::css,h=>by
  have:=rI (css:=css) fun cs hc=>h cs (List.mem_cons_of_mem _ hc)
  rw [List.flatten_cons,List.length_append,h c (List.mem_cons_self ..),this,List.length_cons,Nat.succ_mul,Nat.add_comm]
section
variable {P:Program} {w w0:World} {X:List Nat} {L:List Item} {S:av} {K:Value->World->Prop}
attribute [local irreducible] Run CondV ag a4
/- append(row, other row...) -/
end
theorem ze {α:Type} (f:α->Bool) (l:List α) (k:Nat) (h:k<l.length) (m:List α):(if f l[k]=true then m++[l[k]] else m)++(l.drop (k+1)).filter f=m++(l.drop k).filter f:=by
 rw [List.drop_eq_getElem_cons h,List.filter_cons]
 split
 ·rw [List.append_assoc]; rfl
 ·rfl

end Go.Proofs.YtemmhhdnlbmicaaGreat

/- Reslicing; a read slice joined to a row. -/
namespace Go.Proofs.YtemmhhdnlbmicaaGreat
open Go Go.RowKit

theorem gQ {P:Program} {T e:TypeId} {k:Nat} (h:c8 P T=some (e,k)):P.underlying T=some (.slice e)/\∃ i,P.info? e=some i/\i.size=k:=by
 unfold c8 at h
 split at h
 ·rename_i e1 he
  rw [Option.map_eq_some_iff] at h
  obtain ⟨i,hi,hx⟩:=h
  simp only [Prod.mk.injEq] at hx
  obtain ⟨rfl,rfl⟩:=hx
  exact ⟨he,i,hi,rfl⟩
 ·cases h
section
variable {P:Program} {w:World} {K:Value->World->Prop}
attribute [local irreducible] Run
theorem gV {n y:Nat} {code:BoundsCode} (h:n<=y):(Instr.sliceBound (.int .i64 n) y code).run P w=.ok n w:=by
 have h1:(0:Int)<=(n:Int)/\(n:Int)<=(y:Int):=by omega
 simp [Instr.sliceBound,asIntOf,h]
theorem A4 {T ty e:TypeId} {k h len cap:Nat} {a:Option Addr} (hT:c8 P T=some (e,k)) (hh:h<=cap) (hk:K (.slice (if cap=0 then a else a.map (·.add (0 * k))) h cap) w) :
  Run P (sOp (.slice T (.const (.slice a len cap)) none (some (.const (.int .i64 h))) none) ty) w K:=by
 obtain ⟨hu,i,hi,_⟩:=gQ hT
 refine Run.of ?_ hk
 simp [sOp,execOp,ev0,evE,Instr.sliceAt,Instr.slice,Instr.sliceBounds,run_underlying hu,gV hh,sizeOf,typeInfo,hi]
theorem zO {T ty e:TypeId} {k l len cap:Nat} {a:Option Addr} (hT:c8 P T=some (e,k)) (hl:l<=len) (hk:K (.slice (if cap=l then a else a.map (·.add (l * k))) (len - l) (cap - l)) w) :
  Run P (sOp (.slice T (.const (.slice a len cap)) (some (.const (.int .i64 l))) none none) ty) w K:=by
 obtain ⟨hu,i,hi,hs⟩:=gQ hT
 refine Run.of ?_ hk
 simp [sOp,execOp,ev0,evE,Instr.sliceAt,Instr.slice,Instr.sliceBounds,run_underlying hu,gV hl,sizeOf,typeInfo,hi,hs]
theorem FL {T ty e:TypeId} {k l h len cap:Nat} {a:Option Addr} (hT:c8 P T=some (e,k)) (hl:l<=h) (hh:h<=cap) (hk:K (.slice (if cap=l then a else a.map (·.add (l * k))) (h - l) (cap - l)) w) :
  Run P (sOp (.slice T (.const (.slice a len cap)) (some (.const (.int .i64 l))) (some (.const (.int .i64 h))) none) ty) w K:=by
 obtain ⟨hu,i,hi,hs⟩:=gQ hT
 refine Run.of ?_ hk
 simp [sOp,execOp,ev0,evE,Instr.sliceAt,Instr.slice,Instr.sliceBounds,run_underlying hu,gV hl,gV hh,sizeOf,typeInfo,hi,hs]
end
theorem RdSl.to {α:Type} {S:av} {k:Nat} {R:List Value->α->Prop} {a:Option Addr} {cap n h:Nat} {xs:List α} (hx:RdSl S k R (.slice a n cap) xs) (hh:h<=xs.length) :
  RdSl S k R (.slice (if cap=0 then a else a.map (·.add (0 * k))) h cap) (xs.take h):=by
 obtain ⟨a',cap',e,hl,hc,hx⟩:=hx
 simp only [Value.slice.injEq] at e
 obtain ⟨rfl,rfl,rfl⟩:=e
 have e1:(if cap=0 then a else a.map (·.add (0 * k)))=a:=by
  split
  ·rfl
  ·cases a <;> simp [Addr.add]
 rw [e1]
 have e2:h=(xs.take h).length:=by rw [List.length_take]; omega
 refine ⟨a,cap,by rw [<- e2],by omega,hc,?_⟩
 rcases hx with rfl|⟨b,o,c,E,fz,rfl,hS,hR⟩
 ·left; simp
 ·right
  refine ⟨b,o,c,E,fz,rfl,hS,fun i hi=>?_⟩
  rw [List.getElem_take]
  exact hR i (by omega)
theorem RdSl.from {α:Type} {S:av} {k:Nat} {R:List Value->α->Prop} {a:Option Addr} {cap n l:Nat} {xs:List α} (hx:RdSl S k R (.slice a n cap) xs) (hl:l<=xs.length) :
  RdSl S k R (.slice (if cap=l then a else a.map (·.add (l * k))) (n - l) (cap - l)) (xs.drop l):=by
 obtain ⟨a',cap',e,hlc,hc,hx⟩:=hx
 simp only [Value.slice.injEq] at e
 obtain ⟨rfl,rfl,rfl⟩:=e
 refine ⟨_,cap - l,by rw [List.length_drop],by rw [List.length_drop]; omega,by omega,?_⟩
 by_cases hd:xs.drop l=[]
 ·exact .inl hd
 ·rcases hx with rfl|⟨b,o,c,E,fz,rfl,hS,hR⟩
  ·simp at hd
  ·right
   have hlt:l<xs.length:=by
    rcases Nat.lt_or_ge l xs.length with h|h
    ·exact h
    ·exact absurd (List.drop_eq_nil_of_le h) hd
   refine ⟨b,o+l * k,c,E,fz,?_,hS,fun i hi=>?_⟩
   ·rw [if_neg (by omega)]
    simp [Addr.add]
   ·rw [List.getElem_drop]
    have:=hR (l+i) (by simp at hi; omega)
    rwa [Nat.add_mul,<- Nat.add_assoc] at this
section
variable {P:Program} {w w0:World} {X:List Nat} {L:List Item} {S:av} {K:Value->World->Prop}
attribute [local irreducible] Run CondV ag a4
theorem C8 {α:Type} {R:List Value->α->Prop} {xs:List α} {v:Value} {T ty e:TypeId} {k h:Nat} (hT:c8 P T=some (e,k)) (hx:RdSl S k R v xs) (hh:h<=xs.length)
  (hk:∀ v',RdSl S k R v' (xs.take h)->K v' w):Run P (sOp (.slice T (.const v) none (some (.const (.int .i64 h))) none) ty) w K:=by
 obtain ⟨a,cap,rfl,hl,hc,hx'⟩:=id hx
 exact A4 hT (by omega) (hk _ (hx.to hh))
theorem zZ {α:Type} {R:List Value->α->Prop} {xs:List α} {v:Value} {T ty e:TypeId} {k l:Nat} (hT:c8 P T=some (e,k)) (hx:RdSl S k R v xs) (hl:l<=xs.length)
  (hk:∀ v',RdSl S k R v' (xs.drop l)->K v' w):Run P (sOp (.slice T (.const v) (some (.const (.int .i64 l))) none none) ty) w K:=by
 obtain ⟨a,cap,rfl,hl',hc,hx'⟩:=id hx
 exact zO hT hl (hk _ (hx.from hl))
end
theorem RdSl.exact {α:Type} {S:av} {k:Nat} {R:List Value->α->Prop} {v:Value} {ys:List α} (h:RdSl S k R v ys) (hk:∀ cs y,R cs y->cs.length=k) :
  ∃ ds:List {cs:List Value // cs.length=k},RdSl S k (fun cs d=>cs=d.val) v ds/\Rows k R (ds.map (·.val)) ys:=by
 obtain ⟨a,cap,rfl,hl,hc,hx⟩:=h
 rcases hx with rfl|⟨b,o,c,E,fz,rfl,hS,hR⟩
 ·exact ⟨[],⟨a,cap,rfl,hl,hc,.inl rfl⟩,Rows.nil _ _⟩
 ·refine ⟨List.ofFn fun i:Fin ys.length=>⟨bf c (o+i.val * k) k,hk _ _ (hR i.val i.isLt)⟩,⟨_,cap,by rw [List.length_ofFn],by rw [List.length_ofFn]; exact hl,hc,.inr ⟨b,o,c,E,fz,rfl,hS,fun i hi=>by simp⟩⟩,⟨by simp,fun cs hcs=>?_,fun i h1 h2=>?_⟩⟩
  ·obtain ⟨d,_,rfl⟩:=List.mem_map.1 hcs
   exact d.property
  ·simp only [List.getElem_map,List.getElem_ofFn]
   exact hR i h1
section
variable {P:Program} {w w0:World} {X:List Nat} {L:List Item} {S:av} {K:Value->World->Prop}
attribute [local irreducible] Run CondV ag a4
theorem iv {α:Type} {R:List Value->α->Prop} (h:Inv w0 X L S w) {T ty e:TypeId} {k by_:Nat} {z v u:Value} {cs:List Bool} {css:List (List Value)} {ys:List α} (i:Nat)
  (hT:l1 P T=some (e,k,by_,z)) (hk0:0<k) (hi:L[i]?=some (bq v e k css)) (hr:RdSl S k R u ys) (hlen:∀ cs y,R cs y->cs.length=k) (h1:∀ cs y,R cs y->∀ c∈cs,c.oneCell'=true)
  (hfit:css.length+ys.length<=4294967296) (hby:by_<=32768) (hk:∀ v' w' css2,Rows k R css2 ys->Inv w0 X (L.set i (bq v' e k (css++css2))) S w'->K v' w') :
  Run P (aq .append #[T,T] ty cs [v,u]) w K:=by
 obtain ⟨ds,hd,hR⟩:=hr.exact hlen
 have hdl:ds.length=ys.length:=by have:=hR.hc; simpa using this
 have hone:∀ d∈ds,∀ c∈d.val,c.oneCell'=true:=by
  intro d hd' c hc
  obtain ⟨j,hj,rfl⟩:=List.mem_iff_getElem.1 hd'
  have:=hR.hR j (by omega) (by simpa using hj)
  simp only [List.getElem_map] at this
  exact h1 _ _ this c hc
 obtain ⟨a,cap,rfl,hl',hc',hx⟩:=id hd
 have e1:∀ v',Item.row v' e k (css.length+ds.length) (css.flatten++(ds.map (·.val)).flatten)=bq v' e k (css++ds.map (·.val)):=fun v'=>by simp [bq]
 rcases hx with rfl|⟨b,o,c,E,fz,rfl,hS,hel⟩
 ·refine Dt h i hT hi (hk v w [] (by simpa using hR) ?_)
  have:L.set i (bq v e k (css++[]))=L:=by
   obtain ⟨hlt,e'⟩:=List.getElem?_eq_some_iff.1 hi
   rw [List.append_nil,<- e',List.set_getElem_self]
  rw [this]
  exact h
 ·have hfl:(ds.map (·.val)).flatten.length=ds.length * k:=by
   rw [rI (k:=k) (fun cs hcs=>by obtain ⟨d,_,rfl⟩:=List.mem_map.1 hcs; exact d.property),List.length_map]
  refine fX h i (ds.map (·.val)).flatten hT hk0 hi hfl ?_ ?_ (by omega) hby fun v' w' hI=>hk _ _ _ hR ?_
  ·intro j u hj
   have hj':j<ds.length * k:=by
    rw [<- hfl]
    exact (List.getElem?_eq_some_iff.1 hj).1
   have hq:j / k<ds.length:=(Nat.div_lt_iff_lt_mul hk0).2 hj'
   have hcell:=hel (j / k) hq
   have hflat:=ge k (ds.map (·.val)) (j / k) (fun cs hcs=>by obtain ⟨d,_,rfl⟩:=List.mem_map.1 hcs; exact d.property) (by simpa using hq)
   have hdm:=Nat.div_add_mod j k
   rw [Nat.mul_comm] at hdm
   rw [h.cellS hS]
   have e2:(ds.map (·.val)).flatten[j]?=(ds[j / k].val)[j % k]?:=by
    rw [List.getElem_map] at hflat
    rw [<- hflat,List.getElem?_take,if_pos (Nat.mod_lt _ hk0),List.getElem?_drop]
    congr 1
    omega
   rw [e2] at hj
   have:=be hcell (j % k) u hj
   rw [<- this]
   congr 1
   omega
  ·intro u hu
   obtain ⟨cs,hcs,hu⟩:=List.mem_flatten.1 hu
   obtain ⟨d,hd',rfl⟩:=List.mem_map.1 hcs
   exact hone d hd' u hu
  ·rw [<- e1]
   exact hI
end

end Go.Proofs.YtemmhhdnlbmicaaGreat
