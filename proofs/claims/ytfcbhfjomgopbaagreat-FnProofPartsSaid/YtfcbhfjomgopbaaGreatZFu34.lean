/- FnUsedClauses and FnProofParts return true, whatever bytes come in: the walks. -/
import Derived.Test.YtfcbhfjomgopbaaGreatZFu25
import Derived.Test.YtfcbhfjomgopbaaGreatZFu33
import Derived.Test.YtfcbhfjomgopbaaGreatZFu3
namespace Go.Proofs.YtfcbhfjomgopbaaGreat
section
open Go Go.RowKit
mutual
theorem Ps {n:Nat}:∀ (x:PF) (l:List Bool),mE n x->∀ j,(usF x l)[j]?=some true->l[j]?=some true ∨ j<n
 | .mk _ c ks,l,hu,j,h=>by
  rw [mE] at hu
  rw [usF] at h
  rcases NE ks _ hu.2 j h with h|h
  ·split at h
   ·rename_i h0
    rw [List.getElem?_set] at h
    split at h
    ·rename_i e
     have:=hu.1 h0
     right; omega
    ·exact .inl h
   ·exact .inl h
  ·exact .inr h
theorem NE {n:Nat}:∀ (xs:List PF) (l:List Bool),jS n xs->∀ j,(nH xs l)[j]?=some true->l[j]?=some true ∨ j<n
 | [],l,_,j,h=>by rw [nH] at h; exact .inl h
 | x::xs,l,hu,j,h=>by
  rw [jS] at hu
  rw [nH] at h
  rcases NE xs _ hu.2 j h with h|h
  ·exact Ps x l hu.1 j h
  ·exact .inr h
end
theorem HH:∀ (l:List Bool) (k:Nat) (z:Int),z∈uix k l->∃ j:Nat,z=((k+j:Nat):Int)/\l[j]?=some true
 | [],k,z,h=>by cases h
 | b::l,k,z,h=>by
  rw [uix] at h
  split at h
  ·rename_i hb
   rcases List.mem_cons.1 h with h|h
   ·exact ⟨0,h,by simp [hb]⟩
   ·obtain ⟨j,e,hj⟩:=HH l (k+1) z h
    exact ⟨j+1,by rw [e]; congr 1; omega,by simpa using hj⟩
  ·obtain ⟨j,e,hj⟩:=HH l (k+1) z h
   exact ⟨j+1,by rw [e]; congr 1; omega,by simpa using hj⟩
theorem Qh {n:Nat} {x:PF} (hu:mE n x):∀ z∈gF x,z<n:=by
 intro z hz
 rw [gF] at hz
 split at hz
 ·obtain ⟨j,e,hj⟩:=HH _ 0 z hz
  rcases Ps x _ hu j hj with h|h
  ·rw [List.getElem?_replicate] at h
   split at h <;> simp at h
  ·omega
 ·cases hz
section
variable {S:ae} {ys:List Nat} {v:Value}
attribute [local irreducible] Run CondV aB aS
theorem CF (h:RdSl S 1 iR v ys):Pure Tryz.prog cR [v] S (.bool true):=by
 intro w hI
 refine lr.2 ?_
 dsimp only[lr,aL]
 refine aC h dN ?_
 refine dl ?_
 refine aI (fun _=>done hI rfl) (fun _=>?_)
 refine Run.call0E qW pV hI (nZ h) fun v1 I' S1 w'=>?_
 rintro ⟨rfl,cs,x,rfl,hx,hwx⟩ hE1 hI
 have hxl:=hx.length
 refine aD hI dh fun b3 w' hI=>?_
 refine aq hI 0 rfl aN (by simpa using hxl) rfl (by simpa using hx.one) fun w' hI=>?_
 obtain ⟨B3,hB3⟩:∃ B:Item,B=.blk b3 (.cells cs.toArray ag):=⟨_,rfl⟩
 have e3:=congrArg some hB3
 have hI:Inv w [] [B3] S1 w':=by rw [hB3]; exact hI
 refine ao hI 0 aN e3 (by simpa using hxl) ?_
 refine Run.pubIx (l:=gF x) nD nS hI (jZ hx) fun t12 S2 w' hle2 h2 hI=>?_
 refine ao hI 0 aN e3 (by simpa using hxl) ?_
 refine Run.pubIx (l:=gF x) xS yn hI (rS (hx.mono hle2) (by omega)) fun t15 S3 w' hle3 h3 hI=>?_
 have h2:=h2.mono hle3 fun _ _ h=>h
 have hle:=(hE1.1.trans hle2).trans hle3
 have hx3:=(hx.mono hle2).mono hle3
 refine Run.callPure KG JU hI (GD h2 h3) fun w' hI=>?_
 refine bK ?_
 refine az (fun hb=>by cases hb) (fun _=>?_)
 have hpos:=NG x
 have hsrt:=GR x
 have hln:=E0 x
 have hp60:=ND x
 obtain ⟨l,hl⟩:∃ l,l=gF x:=⟨_,rfl⟩
 rw [<- hl] at h2 hpos hsrt hln
 have h2':=h2
 obtain ⟨a,cap,rfl,hlc,hcm,hrow⟩:=h2
 refine ⟨fun i w'=>∃ k:Nat,k<=l.length/\i=.int .i64 (k:Int)/\Inv w [] [B3] S3 w',fun i _=>l.length - (intOf i).toNat,⟨0,Nat.zero_le _,rfl,hI⟩,?_⟩
 intro i _ _ _ t44 t43 t42 t41 t40 t39 t38 t37 t36 t35 t34 t33 t32 t31 t30 t29 t28 t27 t26 t25 t24 _ _ _ _ w'
 rintro ⟨k,hk,rfl,hI⟩
 refine dK bV ?_
 refine bq ?_
 refine aI (fun hki=>?_) (fun hki=>?_)
 ·have hk':k<l.length:=by omega
  rcases hrow with e|⟨b,o,c,E,fz,rfl,hS,hR⟩
  ·rw [e] at hk'; simp at hk'
  have hR1:aH c (o+k * 1) 1=[.int .i64 l[k]]:=hR k hk'
  have hp0:=hpos l[k] (List.getElem_mem hk')
  have hlt:¬ (l[k]<0):=by omega
  cases k with
  | zero=>
   refine ⟨fun D jY iC iJ ig lK gK gr lN iD ji nU j9 mD iE ia jM gI lq lw fT j4 w_=>Fx D 0 [j4=.slice (some ⟨b,o,none⟩) l.length cap,fT=.int .i64 ((0:Nat):Int),lw=.pointer (some ⟨b,o+0 * 1,none⟩),lq=.int .i64 l[0],gI=.bool false,jM=.bool false,ia=.int .i64 ((0:Nat):Int),iE=.bool false,mD=.bool false,j9=undef,nU=undef,ji=undef,iD=undef,lN=undef,gr=undef,gK=undef,lK=undef,ig=undef,iJ=undef,iC=.bool false,jY=.bool false]/\Inv w [] [B3] S3 w_,⟨Fx.nil _ _,hI.draw⟩,⟨?_,?_,?_,?_,?_,?_,?_,?_,?_,?_,?_,?_,?_,?_,?_,?_,?_,?_,?_,?_,?_,trivial⟩,?_⟩
   all_goals (intro D bn; intros; rename_i jY iC iJ ig lK gK gr lN iD ji nU j9 mD iE ia jM gI lq lw fT j4 w_ hA_; have hF_:=hA_.1; obtain ⟨⟨bR,bQ,bG,bS,bU,bB,bD,cq,ci,cL,bH,bT,cH,de,cB,dk,dw,dH,eE,dS,fl,_⟩,hI⟩:=hA_)
   ·exact ⟨hF_.set 0 rfl,hI⟩
   ·exact ⟨hF_.set 1 rfl,hI⟩
   ·obtain rfl:=bR ‹_›
    obtain rfl:=bQ ‹_›
    refine ar bV hk' ?_
    exact ⟨hF_.set 2 rfl,hI⟩
   ·obtain rfl:=bG ‹_›
    refine ce av (by rw [hI.cellS hS]; exact au hR1 0 _ rfl) ?_
    exact ⟨hF_.set 3 rfl,hI⟩
   ·obtain rfl:=bS ‹_›
    refine bq ?_
    rw [decide_eq_false hlt]
    exact ⟨hF_.set 4 rfl,hI⟩
   ·obtain rfl:=bU ‹_›
    exact ⟨hF_.set 5 rfl,hI⟩
   ·obtain rfl:=bB ‹_›
    refine rpG ?_
    exact ⟨hF_.set 6 rfl,hI⟩
   ·obtain rfl:=bD ‹_›
    obtain rfl:=bB ‹_›
    refine rpG ?_
    refine dl ?_
    rw [decide_eq_false (by omega)]
    exact ⟨hF_.set 7 rfl,hI⟩
   ·obtain rfl:=cq ‹_›
    obtain rfl:=bB ‹_›
    refine rpG ?_
    exact ⟨hF_.set 8 rfl,hI⟩
   ·obtain rfl:=ci ‹_›
    refine rpG ?_
    exact ⟨hF_.set 9 rfl,hI⟩
   ·obtain rfl:=ci ‹_›
    refine rpG ?_
    exact ⟨hF_.set 10 rfl,hI⟩
   ·obtain rfl:=bH ‹_›
    obtain rfl:=ci ‹_›
    refine rpG ?_
    exact ⟨hF_.set 11 rfl,hI⟩
   ·obtain rfl:=cL ‹_›
    obtain rfl:=bT ‹_›
    obtain rfl:=ci ‹_›
    refine rpG ?_
    exact ⟨hF_.set 12 rfl,hI⟩
   ·obtain rfl:=cH ‹_›
    obtain rfl:=ci ‹_›
    refine rpG ?_
    exact ⟨hF_.set 13 rfl,hI⟩
   ·obtain rfl:=ci ‹_›
    refine rpG ?_
    exact ⟨hF_.set 14 rfl,hI⟩
   ·obtain rfl:=ci ‹_›
    refine rpG ?_
    exact ⟨hF_.set 15 rfl,hI⟩
   ·obtain rfl:=cB ‹_›
    obtain rfl:=dk ‹_›
    obtain rfl:=ci ‹_›
    refine rpG ?_
    exact ⟨hF_.set 16 rfl,hI⟩
   ·obtain rfl:=dw ‹_›
    obtain rfl:=ci ‹_›
    refine rpG ?_
    exact ⟨hF_.set 17 rfl,hI⟩
   ·obtain rfl:=de ‹_›
    obtain rfl:=dH ‹_›
    obtain rfl:=ci ‹_›
    refine rpG ?_
    exact ⟨hF_.set 18 rfl,hI⟩
   ·obtain rfl:=ci ‹_›
    obtain rfl:=eE ‹_›
    obtain rfl:=bB ‹_›
    refine rpG ?_
    exact ⟨hF_.set 19 rfl,hI⟩
   ·obtain rfl:=bB ‹_›
    obtain rfl:=dS ‹_›
    refine rpG ?_
    exact ⟨hF_.set 20 rfl,hI⟩
   obtain ⟨rfl,rfl,rfl,rfl,rfl,rfl,rfl,rfl,rfl,rfl,rfl,rfl,rfl,rfl,rfl,rfl,rfl,rfl,rfl,rfl,rfl,_⟩:=hF_.all
   clear hF_ bR bQ bG bS bU bB bD cq ci cL bH bT cH de cB dk dw dH eE dS fl
   refine az (fun hb=>by cases hb) (fun _=>?_)
   refine bl (by omega) ?_
   exact ⟨⟨0+1,hk',rfl,hI⟩,by simp [intOf]; omega⟩
  | succ m=>
   have hm':m<l.length:=by omega
   have hR0:aH c (o+m * 1) 1=[.int .i64 l[m]]:=hR m hm'
   have hge:¬ (l[m+1]<=l[m]):=by
    have:=List.pairwise_iff_getElem.1 hsrt m (m+1) hm' hk' (by omega)
    omega
   refine ⟨fun D jY iC iJ ig lK gK gr lN iD ji nU j9 mD iE ia jM gI lq lw fT j4 w_=>Fx D 0 [j4=.slice (some ⟨b,o,none⟩) l.length cap,fT=.int .i64 ((m+1:Nat):Int),lw=.pointer (some ⟨b,o+(m+1) * 1,none⟩),lq=.int .i64 l[m+1],gI=.bool false,jM=.bool false,ia=.int .i64 ((m+1:Nat):Int),iE=.bool true,mD=.bool true,j9=.slice (some ⟨b,o,none⟩) l.length cap,nU=.int .i64 ((m+1:Nat):Int),ji=.int .i64 (m:Int),iD=.pointer (some ⟨b,o+m * 1,none⟩),lN=.int .i64 l[m],gr=.slice (some ⟨b,o,none⟩) l.length cap,gK=.int .i64 ((m+1:Nat):Int),lK=.pointer (some ⟨b,o+(m+1) * 1,none⟩),ig=.int .i64 l[m+1],iJ=.bool false,iC=.bool false,jY=.bool false]/\Inv w [] [B3] S3 w_,⟨Fx.nil _ _,hI.draw⟩,⟨?_,?_,?_,?_,?_,?_,?_,?_,?_,?_,?_,?_,?_,?_,?_,?_,?_,?_,?_,?_,?_,trivial⟩,?_⟩
   all_goals (intro D bn; intros; rename_i jY iC iJ ig lK gK gr lN iD ji nU j9 mD iE ia jM gI lq lw fT j4 w_ hA_; have hF_:=hA_.1; obtain ⟨⟨bR,bQ,bG,bS,bU,bB,bD,cq,ci,cL,bH,bT,cH,de,cB,dk,dw,dH,eE,dS,fl,_⟩,hI⟩:=hA_)
   ·exact ⟨hF_.set 0 rfl,hI⟩
   ·exact ⟨hF_.set 1 rfl,hI⟩
   ·obtain rfl:=bR ‹_›
    obtain rfl:=bQ ‹_›
    refine ar bV hk' ?_
    exact ⟨hF_.set 2 rfl,hI⟩
   ·obtain rfl:=bG ‹_›
    refine ce av (by rw [hI.cellS hS]; exact au hR1 0 _ rfl) ?_
    exact ⟨hF_.set 3 rfl,hI⟩
   ·obtain rfl:=bS ‹_›
    refine bq ?_
    rw [decide_eq_false hlt]
    exact ⟨hF_.set 4 rfl,hI⟩
   ·obtain rfl:=bU ‹_›
    exact ⟨hF_.set 5 rfl,hI⟩
   ·obtain rfl:=bB ‹_›
    refine rpG ?_
    exact ⟨hF_.set 6 rfl,hI⟩
   ·obtain rfl:=bD ‹_›
    obtain rfl:=bB ‹_›
    refine rpG ?_
    refine dl ?_
    rw [decide_eq_true (by omega)]
    exact ⟨hF_.set 7 rfl,hI⟩
   ·obtain rfl:=cq ‹_›
    obtain rfl:=bB ‹_›
    refine rpG ?_
    exact ⟨hF_.set 8 rfl,hI⟩
   ·obtain rfl:=ci ‹_›
    refine rpG ?_
    exact ⟨hF_.set 9 rfl,hI⟩
   ·obtain rfl:=ci ‹_›
    refine rpG ?_
    exact ⟨hF_.set 10 rfl,hI⟩
   ·obtain rfl:=bH ‹_›
    obtain rfl:=ci ‹_›
    refine rpG ?_
    refine yN (by omega) ?_
    exact ⟨hF_.set 11 rfl,hI⟩
   ·obtain rfl:=cL ‹_›
    obtain rfl:=bT ‹_›
    obtain rfl:=ci ‹_›
    refine rpG ?_
    refine ar bV hm' ?_
    exact ⟨hF_.set 12 rfl,hI⟩
   ·obtain rfl:=cH ‹_›
    obtain rfl:=ci ‹_›
    refine rpG ?_
    refine ce av (by rw [hI.cellS hS]; exact au hR0 0 _ rfl) ?_
    exact ⟨hF_.set 13 rfl,hI⟩
   ·obtain rfl:=ci ‹_›
    refine rpG ?_
    exact ⟨hF_.set 14 rfl,hI⟩
   ·obtain rfl:=ci ‹_›
    refine rpG ?_
    exact ⟨hF_.set 15 rfl,hI⟩
   ·obtain rfl:=cB ‹_›
    obtain rfl:=dk ‹_›
    obtain rfl:=ci ‹_›
    refine rpG ?_
    refine ar bV hk' ?_
    exact ⟨hF_.set 16 rfl,hI⟩
   ·obtain rfl:=dw ‹_›
    obtain rfl:=ci ‹_›
    refine rpG ?_
    refine ce av (by rw [hI.cellS hS]; exact au hR1 0 _ rfl) ?_
    exact ⟨hF_.set 17 rfl,hI⟩
   ·obtain rfl:=de ‹_›
    obtain rfl:=dH ‹_›
    obtain rfl:=ci ‹_›
    refine rpG ?_
    refine fw ?_
    rw [decide_eq_false hge]
    exact ⟨hF_.set 18 rfl,hI⟩
   ·obtain rfl:=ci ‹_›
    obtain rfl:=eE ‹_›
    obtain rfl:=bB ‹_›
    refine rpG ?_
    exact ⟨hF_.set 19 rfl,hI⟩
   ·obtain rfl:=bB ‹_›
    obtain rfl:=dS ‹_›
    refine rpG ?_
    exact ⟨hF_.set 20 rfl,hI⟩
   obtain ⟨rfl,rfl,rfl,rfl,rfl,rfl,rfl,rfl,rfl,rfl,rfl,rfl,rfl,rfl,rfl,rfl,rfl,rfl,rfl,rfl,rfl,_⟩:=hF_.all
   clear hF_ bR bQ bG bS bU bB bD cq ci cL bH bT cH de cB dk dw dH eE dS fl
   refine az (fun hb=>by cases hb) (fun _=>?_)
   refine bl (by omega) ?_
   exact ⟨⟨m+1+1,hk',rfl,hI⟩,by simp [intOf]; omega⟩
 ·refine dK bV ?_
  refine ao hI 0 aN e3 (by simpa using hxl) ?_
  refine Run.callPure CN CG hI (uz hx3) fun w' hI=>?_
  refine eC ?_
  rw [decide_eq_true (by omega)]
  exact gi hI hle rfl
theorem AP (h:RdSl S 1 iR v ys):Pure Tryz.prog di [v] S (.bool true):=by
 intro w hI
 refine l9.2 ?_
 dsimp only[l9,aL]
 refine aC h dN ?_
 refine dl ?_
 refine aI (fun _=>done hI rfl) (fun _=>?_)
 refine Run.call0E rU rO hI (qq h) fun v1 I' S1 w'=>?_
 rintro ⟨rfl,u,cs,p,x,rfl,hp,hlp,hx,hwx⟩ hE1 hI
 have hI:Inv w [] [] S1 w':=hI
 have hxl:=hx.length
 have hwp:=hlp.le
 have hpl:=hp.le
 simp only [maxLen] at hpl
 obtain ⟨ua,uc,rfl,_⟩:=id hp
 refine aj (v:=.slice ua p.length uc) rfl ?_
 refine aj (v:=.agg cs.toArray) rfl ?_
 refine aD hI dh fun b6 w' hI=>?_
 refine aq hI 0 rfl aN (by simpa using hxl) rfl (by simpa using hx.one) fun w' hI=>?_
 obtain ⟨B6,hB6⟩:∃ B:Item,B=.blk b6 (.cells cs.toArray ag):=⟨_,rfl⟩
 have e6:=congrArg some hB6
 have hI:Inv w [] [B6] S1 w':=by rw [hB6]; exact hI
 refine ao hI 0 aN e6 (by simpa using hxl) ?_
 refine Run.callPure pd o0 hI (lB hp hx) fun w' hI=>?_
 refine ⟨fun q w'=>q=.bool (!checkB p x)/\Inv w [] [B6] S1 w',?_,?_⟩
 ·refine ao hI 0 aN e6 (by simpa using hxl) ?_
  refine Run.callPure pp pn hI (lJ hp hx (by omega) (by omega)) fun w' hI=>?_
  refine ME ry ?_
  rw [beq_self_eq_true]
  refine rpG ?_
  refine bK ?_
  refine rpG ?_
  exact ⟨rfl,hI⟩
 intro q _ _ _ _ _ _ _ _ w'
 rintro ⟨rfl,hI⟩
 refine az (fun _=>?_) (fun hb=>?_)
 ·refine ao hI 0 aN e6 (by simpa using hxl) ?_
  refine Run.callPure pp pn hI (lJ hp hx (by omega) (by omega)) fun w' hI=>?_
  refine R0 ry ?_
  exact gi hI hE1.1 (by rw [beq_self_eq_true])
 rw [Bool.not_eq_false'] at hb
 have hlt:∀ z∈gF x,z<(p.length:Int):=by
  refine Qh (JJ x ?_)
  rw [checkB,Bool.and_eq_true,Bool.and_eq_true] at hb
  exact hb.2.2
 obtain ⟨x0,hx0⟩:∃ y,y=x:=⟨_,rfl⟩
 cases x with
 | mk g c ks=>
 have hIk:=hI
 have hxr:=hx
 obtain ⟨kv,kp,rfl,hg,hc,hks⟩:=RdF.iff.1 hx
 have hI:=hIk
 simp only [PF.goal,PF.clause,PF.kids] at hg hc hks e6
 have hkl:=hks.le
 simp only [maxLen] at hkl
 refine ⟨fun i w'=>∃ j:Nat,j<=ks.length/\i=.int .i64 (j:Int)/\Inv w [] [B6] S1 w',fun i _=>ks.length - (intOf i).toNat,⟨0,Nat.zero_le _,rfl,hI⟩,?_⟩
 intro i _ _ _ _ _ _ _ _ _ _ _ _ _ _ _ _ w'
 rintro ⟨j,hj,rfl,hI⟩
 refine ad hI 0 e6 be bk rfl ?_
 refine aC hks bz ?_
 refine bq ?_
 refine aI (fun hji=>?_) (fun hji=>?_)
 ·have hj':j<ks.length:=by omega
  refine ad hI 0 e6 be bk rfl ?_
  refine bY hI hks bz aN hj' (fun _ _=>RdF.length) fun ds hds=>?_
  refine Run.callPure pd o0 hI (lB hp hds) fun w' hI=>?_
  rw [LE hb ks[j] (List.getElem_mem hj')]
  refine bK ?_
  refine az (fun hb=>by cases hb) (fun _=>?_)
  refine bl (by omega) ?_
  exact ⟨⟨j+1,hj',rfl,hI⟩,by simp only [intOf]; omega⟩
 ·refine ao hI 0 aN e6 rfl ?_
  refine Run.pubIx (l:=gF (.mk g c ks)) nD nS hI (jZ hxr) fun t49 S2 w' hle2 h2 hI=>?_
  have hle:=hE1.1.trans hle2
  have hln:=E0 (.mk g c ks)
  have hp60:=ND (.mk g c ks)
  obtain ⟨l,hl⟩:∃ l,l=gF (.mk g c ks):=⟨_,rfl⟩
  rw [<- hl] at h2 hlt hln
  have hll:=h2.le
  simp only [maxLen] at hll
  obtain ⟨a,cap,rfl,hlc,hcm,hrow⟩:=h2
  refine dK bV ?_
  refine aZ ?_
  cases hd:decide ((l.length:Int)=0)
  ·refine rpG ?_
   have hd:=of_decide_eq_false hd
   obtain ⟨m,hm⟩:∃ m,l.length=m+1:=⟨l.length - 1,by omega⟩
   have hm':m<l.length:=by omega
   rcases hrow with e|⟨b,o,q,E,fz,rfl,hS,hR⟩
   ·rw [e] at hm'; simp at hm'
   have hR0:aH q (o+m * 1) 1=[.int .i64 l[m]]:=hR m hm'
   have hlm:=hlt l[m] (List.getElem_mem hm')
   refine dK bV ?_
   rw [hm]
   refine yN (by omega) ?_
   refine ar bV (by omega) ?_
   refine ce av (by rw [hI.cellS hS]; exact au hR0 0 _ rfl) ?_
   refine dK bL ?_
   refine bq ?_
   rw [decide_eq_true hlm]
   refine rpG ?_
   exact gi hI hle rfl
  ·refine rpG ?_
   exact gi hI hle rfl
end
end
section
open Go Go.ChangeShapes Go.WideShapes Go.ChangeAt Go.RowKit

theorem Tryz.own:ownKnob Tryz.prog.godebug=none:=by kernel_rfl
theorem Tryz.kids:Kids Tryz.prog (·<Tryz.prog.types.size):=kids_rows (by kernel_rfl) (by kernel_rfl)
theorem Tryz.full:∀ t e,t<Tryz.prog.types.size->Tryz.prog.underlying t=some (.slice e)->0<Tryz.prog.cellsOf e:=slices_full_of Tryz.prog (by kernel_rfl)
section
variable {H:Type} {enc:TypeId × Value->H} {W W':World}
theorem JZ {P:Program}:∀ {ts:List TypeId} {vs:List Value} {ds:List (DataW H)} {ps:List MemPlace},DataW.TrodAll enc P W 0 (fun _=>true) true ts vs ds ps->(∀ p∈ps,W.sameAt W' p)->
  DataW.TrodAll enc P W' 0 (fun _=>true) true ts vs ds ps
 | [],[],[],_,h,_=>h
 | _::_,_::_,_::_,_,⟨p,q,⟨n,h1⟩,h2,e⟩,hs=>
  ⟨p,q,⟨n,DataW.trod_carry n _ _ _ h1 fun x hx=>hs x (by rw [e]; exact List.mem_append_left _ hx)⟩,JZ h2 fun x hx=>hs x (by rw [e]; exact List.mem_append_right _ hx),e⟩
theorem Qx {p:MemPlace} (h:∀ b,b<W.heap.size->W'.heap[b]?=W.heap[b]?) (hp:p.block<W.heap.size):W.sameAt W' p:=by
 cases p with
 | cell b off=>simp only [World.sameAt,World.cell?]; rw [h b hp]
 | map b=>exact h b hp
theorem Fw {f:Func} {s:ChangeSpec} {args:Array Value} {ds gs:List (DataW H)} {before p q:List MemPlace}
  (hW:DataW.Whole enc Tryz.prog f.params.toList s.vars false W args.toList ds gs before) (hA:DataW.TrodAll enc Tryz.prog W 0 (fun _=>true) true f.params.toList args.toList ds p)
  (hV:DataW.TrodVars enc Tryz.prog W (fun _=>true) s.vars gs q) (hb:before=p++q) (hv:s.vars=[]) (hts:∀ t∈f.params.toList,t<Tryz.prog.types.size) (hr:f.resultTypes=#[CH])
  (hs:(s.fn H (ds++gs)).results=[.lit (.bool true)]) (ha:(s.fn H (ds++gs)).args=ds) (hsv:(s.fn H (ds++gs)).vars=[]) (hI:Inv W [] [] (Nx W) W') :
  s.post enc Tryz.prog f false true false false W args (.bool true) W':=by
 have hsame:∀ b,b<W.heap.size->W'.heap[b]?=W.heap[b]?:=fun b hb=>hI.same b hb
 have hlt:=hW.lt
 rw [hv] at hV
 obtain ⟨hg,hq⟩:=trodVars_none hV
 subst hq
 rw [List.append_nil] at hb
 subst hb
 have hA':=JZ (W':=W') hA fun x hx=>Qx hsame (hlt x hx)
 refine ⟨ds,gs,before,[],before,[],hW,?_,?_,?_,Oj hI.os hI.output hsame,fun h=>by cases h⟩
 ·rw [hs,hr]
  exact trodAll_mk1 (shut_bool ry true)
 ·rw [ha]
  exact DataW.TrodAll.respare Tryz.kids Tryz.full hts hA' fun x hx=>by simpa using hlt x hx
 ·rw [hv,hsv]
  rfl
end
end
end Go.Proofs.YtfcbhfjomgopbaaGreat
