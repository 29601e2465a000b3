/- impl.text and impl.write: the text of a valid term. -/
import Derived.Test.YtbocelianhcfmaaGreatDoorZEg26
import Derived.Test.YtbocelianhcfmaaGreatDoorZEg5
import Derived.Test.YtbocelianhcfmaaGreatDoorZEg4
import Derived.Test.YtbocelianhcfmaaGreatDoorZEg9
import Derived.Test.YtbocelianhcfmaaGreatDoorZEg18
namespace Go.Proofs.YtbocelianhcfmaaGreatDoor
section
open Go Go.RowKit
section
variable {S:ae}
attribute [local irreducible] Run CondV ar aI
theorem HP {t:T} {cs:List Value} {N:Nat} (ih:sT N) (hN:N<120) (hc:cn t<=N+1) (ho:okTx t) (hT:TabS S) (hi:de t=false) (h:RdT S cs t) :
  Pure Tryz.prog Lr [.agg cs.toArray,.func (.func vd) #[] #[]] S (.string (st (tx t))):=by
 intro w hI
 have h0:=h
 have hcn:=y9 t
 have hlx:=yi ho (by omega)
 obtain ⟨kv,rfl,_,_,_,hk⟩:=RdT.iff.1 h
 obtain ⟨ka,kc,rfl,_⟩:=id hk
 refine Br.2 ?_
 dsimp only[Br,aY]
 refine be hI fun b2 w' hI=>?_
 refine ad hI 0 rfl aM aw rfl ?_
 rcases gQ ho.own with ⟨h1,h2,h3⟩|⟨h1,h2,h3⟩|⟨h1,h2,h3⟩
 ·refine dx h1 ?_
  refine av (fun _=>?_) (fun hb=>by cases hb)
  refine ad hI 0 rfl aR aw rfl ?_
  refine Run.callPure Gq EQ hI (CH h2) fun w' hI=>?_
  have hp:dz t=false:=by rw [dz,decide_eq_false (by omega)]; rfl
  exact done hI (by rw [tV hp hi (by omega),pH,if_pos h1,if_pos h2]; rfl)
 ·refine cQ (by omega) ?_
  refine av (fun hb=>by cases hb) (fun _=>?_)
  refine ad hI 0 rfl aM aw rfl ?_
  refine dx h1 ?_
  refine av (fun _=>?_) (fun hb=>by cases hb)
  refine ad hI 0 rfl aR aw rfl ?_
  obtain ⟨r,hr,_⟩:=s4 h2
  refine Run.callPure jW kH hI (y6 hT h2 hr) fun w' hI=>?_
  have hp:dz t=false:=by rw [dz,decide_eq_false (by omega)]; rfl
  exact done hI (by rw [tV hp hi (by omega),pH,if_neg (by omega),if_pos h1,if_pos h2,hr]; rfl)
 refine cQ (by omega) ?_
 refine av (fun hb=>by cases hb) (fun _=>?_)
 refine ad hI 0 rfl aM aw rfl ?_
 refine cQ (by omega) ?_
 refine av (fun hb=>by cases hb) (fun _=>?_)
 refine ag hI 0 ac rfl rfl ?_
 refine Run.callPure xf xe hI (rY h0) fun w' hI=>?_
 cases hp:dz t with
 | true=>
  obtain ⟨_,_,a,b,hab⟩:=jk hp
  refine av (fun _=>?_) (fun hb=>by cases hb)
  have hoa:=ho.kid a (by rw [hab]; simp)
  have hob:=ho.kid b (by rw [hab]; simp)
  rw [hab] at hcn
  simp only [cnL] at hcn
  have hp1:=oH a
  have hp2:=oH b
  have hk2:=hk
  rw [hab] at hk2
  refine ad hI 0 rfl ak al rfl ?_
  refine bP (i:=0) hI (xs:=[a,b]) (by rw [<- hab]; exact hk) ah ac (by simp) (fun _ _=>RdT.length) fun es hes=>?_
  rw [List.getElem_cons_zero] at hes
  refine Run.callPure gT gK hI (ih a S es (by omega) hoa hT hes) fun w' hI=>?_
  have ha1:=yi hoa (by omega)
  refine bA (a:=[91]) (by simp only [List.length_cons,List.length_nil]; omega) ?_
  refine ad hI 0 rfl ak al rfl ?_
  refine bP (i:=1) hI (xs:=[a,b]) (by rw [<- hab]; exact hk) ah ac (by simp) (fun _ _=>RdT.length) fun gs hgs=>?_
  rw [List.getElem_cons_succ,List.getElem_cons_zero] at hgs
  have hg1:=hgs.length
  refine aA hI aU fun b6 w' hI=>?_
  refine aj hI 1 rfl ac (by simpa using hg1) rfl (by simpa using hgs.one) fun w' hI=>?_
  have htx:=Dm hp hab
  refine ⟨fun v w'=>∃ (out:Bs) (u:T) (ds:List Value),v=.string (st out)/\tx t=out++tl u++[93]/\okTx u/\cn u<=N/\RdT S ds u/\Inv w [] [.blk b2 (.cells #[.int .i64 t.kind,.int .i64 t.n,.string t.name,.slice ka t.kids.length kc] ab),.blk b6 (.cells ds.toArray ab)] S w',
   fun v _=>3000 - PZ v,⟨[91]++tx a,b,gs,rfl,by rw [htx],hob,by omega,hgs,hI⟩,?_⟩
  intro _ _ _ _ t5 _ _ _ _ _ _ _ _ _ _ _ w'
  rintro ⟨out,u,ds,rfl,hou,hu,hcu,hds,hI⟩
  have hlo:out.length+(tl u).length+1=(tx t).length:=by rw [hou]; simp only [List.length_append,List.length_cons,List.length_nil]
  have hds0:=hds
  have hl4:=hds.length
  refine ag hI 1 ac rfl (by simpa using hl4) ?_
  refine Run.callPure xf xe hI (rY hds) fun w' hI=>?_
  obtain ⟨ku,rfl,_,_,_,hku⟩:=RdT.iff.1 hds
  have hcu1:=y9 u
  cases hpu:dz u with
  | true=>
   obtain ⟨_,_,a',b',hab'⟩:=jk hpu
   refine av (fun _=>?_) (fun hb=>by cases hb)
   have hoa':=hu.kid a' (by rw [hab']; simp)
   have hob':=hu.kid b' (by rw [hab']; simp)
   rw [hab'] at hcu1 hku
   simp only [cnL] at hcu1
   have htl:=Dn hpu hab'
   have ha2:=yi hoa' (by omega)
   have hlt:(tl u).length=1+(tx a').length+(tl b').length:=by rw [htl]; simp only [List.length_append,List.length_cons,List.length_nil]
   refine ad hI 1 rfl ak al rfl ?_
   refine bP (i:=0) hI hku ah ac (by simp) (fun _ _=>RdT.length) fun es' hes'=>?_
   rw [List.getElem_cons_zero] at hes'
   refine Run.callPure gT gK hI (ih a' S es' (by omega) hoa' hT hes') fun w' hI=>?_
   refine bA (a:=[44]) (by simp only [List.length_cons,List.length_nil]; omega) ?_
   refine bA (by simp only [List.length_append,List.length_cons,List.length_nil]; omega) ?_
   refine ad hI 1 rfl ak al rfl ?_
   refine bP (i:=1) hI hku ah ac (by simp) (fun _ _=>RdT.length) fun gs' hgs'=>?_
   rw [List.getElem_cons_succ,List.getElem_cons_zero] at hgs'
   have hg2:=hgs'.length
   refine aj hI 1 rfl ac (by simpa using hg2) rfl (by simpa using hgs'.one) fun w' hI=>?_
   refine ⟨⟨_,b',gs',rfl,?_,hob',by omega,hgs',hI⟩,?_⟩
   ·rw [hou,htl]; simp
   ·simp only [PZ,gj,List.length_append,List.length_cons,List.length_nil]
    omega
  | false=>
   refine av (fun hb=>by cases hb) (fun _=>?_)
   refine ⟨fun v w'=>v=.string (st (out++tl u))/\Inv w [] [] S w',?_,?_⟩
   ·refine ag hI 1 ac rfl (by simp) ?_
    refine Run.callPure IR IC hI (Gi hds0) fun w' hI=>?_
    refine bW ?_
    cases hnu:ux u with
    | true=>
     refine av (fun hb=>by cases hb) (fun _=>?_)
     exact ⟨by rw [Ig hpu hnu,List.append_nil],hI.nil⟩
    | false=>
     refine av (fun _=>?_) (fun hb=>by cases hb)
     have htl:=C6 hpu hnu
     have hlt:(tl u).length=1+(tx u).length:=by rw [htl]; simp only [List.length_append,List.length_cons,List.length_nil]
     refine ag hI 1 ac rfl (by simp) ?_
     refine Run.callPure gT gK hI (ih u S _ hcu hu hT hds0) fun w' hI=>?_
     refine bA (a:=[124]) (by simp only [List.length_cons,List.length_nil]; omega) ?_
     refine bA (by simp only [List.length_append,List.length_cons,List.length_nil]; omega) ?_
     exact ⟨by rw [htl],hI.nil⟩
   intro t5 _ _ _ _ _ _ _ _ _ w'
   rintro ⟨rfl,hI⟩
   refine bA (b:=[93]) (by simp only [List.length_append,List.length_cons,List.length_nil]; omega) ?_
   exact done hI (by rw [hou])
 | false=>
 refine av (fun hb=>by cases hb) (fun _=>?_)
 refine ad hI 0 rfl ak al rfl ?_
 refine dL ah ?_
 refine bh ?_
 refine aN (fun hl0=>?_) (fun hl0=>?_)
 ·refine ad hI 0 rfl aH aC rfl ?_
  exact done hI (by rw [tV hp hi (by omega),pH,if_neg (by omega),if_neg (by omega),if_pos (by omega)]; rfl)
 have htx:=DD hp hi ⟨h1,by omega⟩
 obtain ⟨n1,n2,n3⟩:=xQ h2
 have hjl:(ek (t.kids.map tx)).length<=2400:=by
  have:=hlx.2
  rw [htx] at this
  simp only [List.length_append] at this
  omega
 refine ad hI 0 rfl ak al rfl ?_
 refine dL ah ?_
 have hI:=hI.rowNil ff 1
 refine ⟨fun i v w'=>∃ (j:Nat) (css:List (List Value)),j<=t.kids.length/\i=.int .i64 (j:Int)/\Rows 1 iQ css ((t.kids.take j).map fun a=>st (tx a))/\
   Inv w [] [.blk b2 (.cells #[.int .i64 t.kind,.int .i64 t.n,.string t.name,.slice ka t.kids.length kc] ab),aP v ff 1 css] S w',
  fun i _ _=>t.kids.length - (intOf i).toNat,⟨0,[],Nat.zero_le _,rfl,Rows.nil _ _,hI⟩,?_⟩
 intro t74 _ t7 _ _ _ _ _ _ _ _ _ _ w'
 rintro ⟨j,css,hj,rfl,hR,hI⟩
 refine bD ?_
 have hcl:=hR.hc
 rw [List.length_map,List.length_take] at hcl
 refine aN (fun hji=>?_) (fun hji=>?_)
 ·have hj':j<t.kids.length:=by omega
  have hm:=List.getElem_mem hj'
  have hcm:=Dt hm
  refine bP hI hk ah ac hj' (fun _ _=>RdT.length) fun es hes=>?_
  have he4:=hes.length
  refine aA hI aU fun b9 w' hI=>?_
  refine aj hI 2 rfl ac (by simpa using he4) rfl (by simpa using hes.one) fun w' hI=>?_
  refine ag hI 2 ac rfl (by simpa using he4) ?_
  refine Run.callPure gT gK hI (ih _ S es (by omega) (ho.kid _ hm) hT hes) fun w' hI=>?_
  refine zj (css:=css) hI 1 qN rfl rfl rfl (by omega) (by omega) fun v' w' hI=>?_
  refine bm (by omega) ?_
  refine ⟨⟨j+1,css++[[Value.string (st (tx t.kids[j]))]],hj',rfl,?_,hI.pick [true,true,false]⟩,by simp only [intOf,Int.toNat_natCast]; omega⟩
  rw [List.take_succ_eq_append_getElem hj',List.map_append]
  exact hR.snoc rfl rfl
 ·have:j=t.kids.length:=by omega
  subst this
  rw [List.take_length] at hR
  have hI2:Inv w [] ([Item.blk b2 (.cells #[.int .i64 t.kind,.int .i64 t.n,.string t.name,.slice ka t.kids.length kc] ab)]++[aP t7 ff 1 css]) S w':=hI
  obtain ⟨S1,hE1,hrd,hJ0⟩:=Inv.lendExt hI2
  clear hI hI2
  have hrs:=RowRd.rows hR hrd
  have hmm:(t.kids.map fun a=>st (tx a)).map bs=t.kids.map tx:=by rw [List.map_map]; exact List.map_congr_left fun a _=>yP _
  have hJ:=Hz hrs (fun e=>by rw [List.map_eq_nil_iff] at e; rw [e] at hl0; simp at hl0) (by rw [List.length_map]; omega) (by rw [hmm]; omega)
  rw [hmm] at hJ
  have hl6:(bs t.name).length<=6:=n2
  obtain ⟨ra,rc,rfl,_,_,_⟩:=id hrs
  have hI:=hJ0
  clear hJ0
  refine ⟨fun D x4 JH Jr Ja EE Io GQ Jf w_=>Fx D 0 [Jf=.pointer (some ⟨b2,2,none⟩),GQ=.string (st (bs t.name)),Io=.string (st (bs t.name++[40])),EE=.slice ra (t.kids.map fun a=>st (tx a)).length rc,Ja=.string (st (ek (t.kids.map tx))),Jr=.string (st (bs t.name++[40]++ek (t.kids.map tx))),JH=.string (st (bs t.name++[40]++ek (t.kids.map tx)++[41])),x4=.string (st (bs t.name++[40]++ek (t.kids.map tx)++[41]))]/\Inv w [] [Item.blk b2 (.cells #[.int .i64 t.kind,.int .i64 t.n,.string t.name,.slice ka t.kids.length kc] ab)] S1 w_,⟨Fx.nil _ _,hI.draw⟩,⟨?_,?_,?_,?_,?_,?_,?_,?_,trivial⟩,?_⟩
  all_goals (intro D bw; intros; rename_i x4 JH Jr Ja EE Io GQ Jf w_ hA_; have hF_:=hA_.1; obtain ⟨⟨bQ,bS,bU,bR,bY,bZ,bO,cG,_⟩,hI⟩:=hA_)
  ·refine ao aH ?_
   exact ⟨hF_.set 0 rfl,hI⟩
  ·obtain rfl:=bQ ‹_›
   refine ax (b:=b2) hI 0 (c:=#[.int .i64 t.kind,.int .i64 t.n,.string t.name,.slice ka t.kids.length kc]) aC rfl rfl ?_
   exact ⟨hF_.set 1 rfl,hI⟩
  ·obtain rfl:=bS ‹_›
   refine bA (b:=[40]) (by simp only [List.length_cons,List.length_nil]; omega) ?_
   exact ⟨hF_.set 2 rfl,hI⟩
  ·exact ⟨hF_.set 3 rfl,hI⟩
  ·obtain rfl:=bR ‹_›
   refine Run.callPure s0 tM hI hJ fun w_ hI=>?_
   exact ⟨hF_.set 4 rfl,hI⟩
  ·obtain rfl:=bU ‹_›
   obtain rfl:=bY ‹_›
   refine bA (by simp only [List.length_append,List.length_cons,List.length_nil]; omega) ?_
   exact ⟨hF_.set 5 rfl,hI⟩
  ·obtain rfl:=bZ ‹_›
   refine bA (b:=[41]) (by simp only [List.length_append,List.length_cons,List.length_nil]; omega) ?_
   exact ⟨hF_.set 6 rfl,hI⟩
  ·obtain rfl:=bO ‹_›
   exact ⟨hF_.set 7 rfl,hI⟩
  obtain ⟨rfl,rfl,rfl,rfl,rfl,rfl,rfl,rfl,_⟩:=hF_.all
  clear hF_ bQ bS bU bR bY bZ bO cG
  exact ⟨by rw [htx],hI.nil.less hE1.1⟩
theorem H3 {N:Nat} (ih:sT N) (hN:N<120):sT (N+1):=by
 intro t S cs hc ho hT h w hI
 have h0:=h
 have hcn:=y9 t
 have hlx:=yi ho (by omega)
 obtain ⟨kv,rfl,_,_,_,hk⟩:=RdT.iff.1 h
 obtain ⟨ka,kc,rfl,_⟩:=id hk
 obtain ⟨i,hi⟩:∃ i,de t=i:=⟨_,rfl⟩
 refine xX.2 ?_
 dsimp only[xX,aE]
 refine be hI fun b1 w' hI=>?_
 refine ⟨fun v w'=>v=.bool i/\Inv w [] [.blk b1 (.cells #[.int .i64 t.kind,.int .i64 t.n,.string t.name,.slice ka t.kids.length kc] ab)] S w',?_,?_⟩
 ·rw [de] at hi
  refine ad hI 0 rfl aM aw rfl ?_
  by_cases h3:t.kind=3
  ·refine dx h3 ?_
   refine rpG ?_
   refine ad hI 0 rfl ak al rfl ?_
   refine dL ah ?_
   rw [decide_eq_true h3,Bool.true_and] at hi
   by_cases hn:t.kids.length=2
   ·refine dx (by omega) ?_
    refine rpG ?_
    refine ad hI 0 rfl aH aC rfl ?_
    refine Run.callPure u7 u3 hI (rj _ S) fun w' hI=>?_
    refine rpG ?_
    rw [decide_eq_true hn,Bool.true_and] at hi
    exact ⟨by rw [hi],hI⟩
   ·refine cQ (by omega) ?_
    refine rpG ?_
    rw [decide_eq_false hn,Bool.false_and] at hi
    exact ⟨by rw [hi],hI⟩
  ·refine cQ h3 ?_
   refine rpG ?_
   rw [decide_eq_false h3,Bool.false_and] at hi
   exact ⟨by rw [hi],hI⟩
 intro t18 _ _ _ _ _ _ _ _ _ _ _ _ _ w'
 rintro ⟨rfl,hI⟩
 cases i with
 | false=>
  refine av (fun hb=>by cases hb) (fun _=>?_)
  refine ag hI 0 ac rfl rfl ?_
  refine Run.callPure Kd Ks hI (HP ih hN hc ho hT hi h0) fun w' hI=>?_
  exact done hI rfl
 | true=>
  refine av (fun _=>?_) (fun hb=>by cases hb)
  obtain ⟨h3,hlev,a,b,hab⟩:=ri hi
  have hp:dz t=false:=by
   cases hp:dz t with
   | false=>rfl
   | true=>
    obtain ⟨_,hn,_⟩:=jk hp
    rw [hn,show aO (st [46])=0 from by decide +kernel] at hlev
    omega
  obtain ⟨hsp,hs3,hl3⟩:=Bw hlev
  have htx:=yq hp hi hab
  have hoa:=ho.kid a (by rw [hab]; simp)
  have hob:=ho.kid b (by rw [hab]; simp)
  rw [hab] at hcn
  simp only [cnL] at hcn
  have hp1:=oH a
  have hp2:=oH b
  have hk2:RdSl S 4 (RdT S) (.slice ka t.kids.length kc) [a,b]:=by rw [<- hab]; exact hk
  have hk3:t.kids.length=2:=by rw [hab]; rfl
  obtain ⟨ra,rc,he,_,_,hr⟩:=hk2
  rcases hr with hr|⟨kb,ko,c,E,fz,rfl,hS,hr⟩
  ·cases hr
  simp only [Value.slice.injEq] at he
  obtain ⟨rfl,_,rfl⟩:=he
  have hRa:=hr 0 (by simp)
  have hRb:=hr 1 (by simp)
  rw [List.getElem_cons_zero] at hRa
  rw [List.getElem_cons_succ,List.getElem_cons_zero] at hRb
  have hlm:(if aO t.name=1 ∨ aO t.name=2 then aO t.name else aO t.name - 1)=(if aO t.name=3 then 2 else aO t.name):=by
   rcases hl3 with e|e|e <;> rw [e] <;> rfl
  obtain ⟨lm,hlm2⟩:∃ lm:Int,lm=if aO t.name=3 then 2 else aO t.name:=⟨_,rfl⟩
  rw [<- hlm2] at hlm htx
  have hL3:Pure Tryz.prog sk [.string t.name] S (.int .i64 lm):=by rw [<- hlm]; exact zA _
  have hlm0:0<=lm:=by rw [hlm2]; split <;> omega
  obtain ⟨X1,hX1⟩:∃ x,x=lfx a (tx a) lm:=⟨_,rfl⟩
  obtain ⟨X2,hX2⟩:∃ x,x=rtx b (tx b) (aO t.name - 1):=⟨_,rfl⟩
  obtain ⟨X3,hX3⟩:∃ x,x=dh (bs t.name):=⟨_,rfl⟩
  rw [<- hX1,<- hX2,<- hX3] at htx
  have hO3:Pure Tryz.prog zg [.string t.name] S (.string (st X3)):=by rw [hX3]; exact Ds hlev
  have hln:(tx t).length=X1.length+X3.length+X2.length:=by rw [htx,List.length_append,List.length_append]
  refine ad hI 0 rfl aH aC rfl ?_
  refine Run.callPure je iV hI (fH _ S) fun w' hI=>?_
  refine ai rfl ?_
  refine ai rfl ?_
  obtain ⟨lev,hlev2⟩:∃ l,l=aO t.name:=⟨_,rfl⟩
  refine ⟨fun D x2 kB iE jb iD lX gD fN kJ gU iI nC jT mP iM ia iF fC kl lf iT w_=>Fx D 0 [iT=.pointer (some ⟨b1,3,none⟩),lf=.slice (some ⟨kb,ko,none⟩) t.kids.length kc,kl=.pointer (some ⟨kb,ko+0 * 4,none⟩),fC=.agg (aL c (ko+0 * 4) 4).toArray,iF=.pointer (some ⟨b1,2,none⟩),ia=.string t.name,iM=.int .i64 lm,mP=.string (st X1),jT=.pointer (some ⟨b1,2,none⟩),nC=.string t.name,iI=.string (st X3),gU=.string (st (X1++X3)),kJ=.pointer (some ⟨b1,3,none⟩),fN=.slice (some ⟨kb,ko,none⟩) t.kids.length kc,gD=.pointer (some ⟨kb,ko+1 * 4,none⟩),lX=.agg (aL c (ko+1 * 4) 4).toArray,iD=.int .i64 (aO t.name),jb=.int .i64 (aO t.name - 1),iE=.string (st X2),kB=.string (st (X1++X3++X2)),x2=.string (st (X1++X3++X2))]/\Inv w [] [.blk b1 (.cells #[.int .i64 t.kind,.int .i64 t.n,.string t.name,.slice (some ⟨kb,ko,none⟩) t.kids.length kc] ab)] S w_,⟨Fx.nil _ _,hI.draw⟩,⟨?_,?_,?_,?_,?_,?_,?_,?_,?_,?_,?_,?_,?_,?_,?_,?_,?_,?_,?_,?_,?_,trivial⟩,?_⟩
  all_goals (intro D bw; intros; rename_i x2 kB iE jb iD lX gD fN kJ gU iI nC jT mP iM ia iF fC kl lf iT w_ hA_; have hF_:=hA_.1; obtain ⟨⟨bQ,bS,bU,bR,bY,bZ,bO,cG,cS,cT,bL,co,cO,dJ,dT,dY,ew,dK,fy,dV,eL,_⟩,hI⟩:=hA_)
  ·refine ao ak ?_
   exact ⟨hF_.set 0 rfl,hI⟩
  ·obtain rfl:=bQ ‹_›
   refine ax (b:=b1) hI 0 (c:=#[.int .i64 t.kind,.int .i64 t.n,.string t.name,.slice (some ⟨kb,ko,none⟩) t.kids.length kc]) al rfl rfl ?_
   exact ⟨hF_.set 1 rfl,hI⟩
  ·obtain rfl:=bS ‹_›
   refine ay (i:=0) ah (by omega) ?_
   exact ⟨hF_.set 2 rfl,hI⟩
  ·obtain rfl:=bU ‹_›
   refine ci ac hRa.length (fun j v hj=>by rw [hI.cellS hS]; exact aD rfl j v hj) ?_
   exact ⟨hF_.set 3 rfl,hI⟩
  ·refine ao aH ?_
   exact ⟨hF_.set 4 rfl,hI⟩
  ·obtain rfl:=bY ‹_›
   refine ax (b:=b1) hI 0 (c:=#[.int .i64 t.kind,.int .i64 t.n,.string t.name,.slice (some ⟨kb,ko,none⟩) t.kids.length kc]) aC rfl rfl ?_
   exact ⟨hF_.set 5 rfl,hI⟩
  ·obtain rfl:=bZ ‹_›
   refine Run.callPure AO A4 hI hL3 fun w_ hI=>?_
   exact ⟨hF_.set 6 rfl,hI⟩
  ·obtain rfl:=bR ‹_›
   obtain rfl:=bO ‹_›
   refine Run.callPure kw kj hI (qm ih (by omega) (by omega) hoa hT hRa) fun w_ hI=>?_
   rw [Lp hoa.own hlm0,<- hX1]
   exact ⟨hF_.set 7 rfl,hI⟩
  ·refine ao aH ?_
   exact ⟨hF_.set 8 rfl,hI⟩
  ·obtain rfl:=cS ‹_›
   refine ax (b:=b1) hI 0 (c:=#[.int .i64 t.kind,.int .i64 t.n,.string t.name,.slice (some ⟨kb,ko,none⟩) t.kids.length kc]) aC rfl rfl ?_
   exact ⟨hF_.set 9 rfl,hI⟩
  ·obtain rfl:=cT ‹_›
   refine Run.callPure FF FQ hI hO3 fun w_ hI=>?_
   exact ⟨hF_.set 10 rfl,hI⟩
  ·obtain rfl:=cG ‹_›
   obtain rfl:=bL ‹_›
   refine bA (by omega) ?_
   exact ⟨hF_.set 11 rfl,hI⟩
  ·refine ao ak ?_
   exact ⟨hF_.set 12 rfl,hI⟩
  ·obtain rfl:=cO ‹_›
   refine ax (b:=b1) hI 0 (c:=#[.int .i64 t.kind,.int .i64 t.n,.string t.name,.slice (some ⟨kb,ko,none⟩) t.kids.length kc]) al rfl rfl ?_
   exact ⟨hF_.set 13 rfl,hI⟩
  ·obtain rfl:=dJ ‹_›
   refine ay (i:=1) ah (by omega) ?_
   exact ⟨hF_.set 14 rfl,hI⟩
  ·obtain rfl:=dT ‹_›
   refine ci ac hRb.length (fun j v hj=>by rw [hI.cellS hS]; exact aD rfl j v hj) ?_
   exact ⟨hF_.set 15 rfl,hI⟩
  ·exact ⟨hF_.set 16 rfl,hI⟩
  ·obtain rfl:=ew ‹_›
   refine gy (by omega) ?_
   exact ⟨hF_.set 17 rfl,hI⟩
  ·obtain rfl:=dY ‹_›
   obtain rfl:=dK ‹_›
   refine Run.callPure kw kj hI (qm ih (by omega) (by omega) hob hT hRb) fun w_ hI=>?_
   rw [KZ hob.own (by omega),<- hX2]
   exact ⟨hF_.set 18 rfl,hI⟩
  ·obtain rfl:=co ‹_›
   obtain rfl:=fy ‹_›
   refine bA (by rw [List.length_append]; omega) ?_
   exact ⟨hF_.set 19 rfl,hI⟩
  ·obtain rfl:=dV ‹_›
   exact ⟨hF_.set 20 rfl,hI⟩
  obtain ⟨rfl,rfl,rfl,rfl,rfl,rfl,rfl,rfl,rfl,rfl,rfl,rfl,rfl,rfl,rfl,rfl,rfl,rfl,rfl,rfl,rfl,_⟩:=hF_.all
  clear hF_ bQ bS bU bR bY bZ bO cG cS cT bL co cO dJ dT dY ew dK fy dV eL
  exact ⟨by rw [htx],hI.nil⟩
theorem BG:∀ N:Nat,N<=120->sT N
 | 0,_=>fun t S cs hc=>by have:=oH t; omega
 | N+1,h=>H3 (BG N (by omega)) (by omega)
theorem E8 {t:T} {cs:List Value} (hv:cE t=true) (hT:TabS S) (h:RdT S cs t):Pure Tryz.prog vd [.agg cs.toArray] S (.string (st (tx t))):=by
 have hc:cn t<=120:=by
  rw [cE,Bool.and_eq_true,decide_eq_true_eq] at hv
  have:=fG t
  unfold cn; omega
 exact BG 120 (Nat.le_refl _) t S cs hc (zr hv) hT h
end
end
section
open Go Go.RowKit
def byS (c:Int):Bs:=if 0<=c then [32,98,121,32]++(AL c).getD [] else []
mutual
def lnF:PF->Bs->Bs
 | .mk g c ks,ind=>ind++tx g++byS c++[10]++oP ks (ind++[32])
def oP:List PF->Bs->Bs
 | [],_=>[]
 | k::ks,ind=>lnF k ind++oP ks ind
end
def l6 (x:PF):Bs:=if cR x=true then lnF x [] else []
mutual
def Fm:PF->Prop
 | .mk g c ks=>cE g=true/\(-1<=c/\c<=19)/\vG ks
def vG:List PF->Prop
 | []=>True
 | k::ks=>Fm k/\vG ks
end
theorem uT:∀ {ks:List PF},vG ks->∀ k∈ks,Fm k
 | k::ks,h,x,hx=>by
  rcases List.mem_cons.1 hx with rfl|hx
  ·exact h.1
  ·exact uT h.2 x hx
mutual
theorem Jb:∀ (x:PF) (d:Int),vu x d=true->Fm x
 | .mk g c ks,d,h=>by
  simp only [vu,wi,Bool.and_eq_true,decide_eq_true_eq] at h
  have hg:=h.2.1.1
  rw [fk,Bool.and_eq_true] at hg
  exact ⟨hg.1,h.2.1.2.1,Ey ks _ h.2.2⟩
theorem Ey:∀ (xs:List PF) (d:Int),mG xs d=true->vG xs
 | [],_,_=>trivial
 | x::xs,d,h=>by
  simp only [mG,Bool.and_eq_true] at h
  exact ⟨Jb x d h.1,Ey xs d h.2⟩
end
mutual
def dpF:PF->Nat
 | .mk _ _ ks=>1+pm ks
def pm:List PF->Nat
 | []=>0
 | k::ks=>max (dpF k) (pm ks)
end
mutual
theorem K9:∀ (x:PF) (d:Int),vu x d=true->(dpF x:Int)<=d
 | .mk g c ks,d,h=>by
  simp only [vu,Bool.and_eq_true,decide_eq_true_eq] at h
  have:=Jm ks _ h.2.2
  simp only [dpF]
  omega
theorem Jm:∀ (xs:List PF) (d:Int),mG xs d=true->(pm xs:Int)<=max d 0
 | [],_,_=>by simp only [pm]; omega
 | x::xs,d,h=>by
  simp only [mG,Bool.and_eq_true] at h
  have h1:=K9 x d h.1
  have h2:=Jm xs d h.2
  simp only [pm]
  omega
end
theorem xI {c:Int} (h:-1<=c/\c<=19):(byS c).length<=8/\noNl (byS c):=by
 unfold byS
 split
 ·obtain ⟨r,hr,h1,h2,h3⟩:=s4 (n:=c) (by omega)
  rw [hr]
  exact ⟨by simp only [Option.getD_some,List.length_append,List.length_cons,List.length_nil]; omega,(noNl.lit (by decide)).app h3⟩
 ·exact ⟨by simp,by intro b hb; simp at hb⟩
theorem ug {t:T} (h:cE t=true):0<(tx t).length/\(tx t).length<=2400/\noNl (tx t):=(yJ h).2
mutual
theorem Js:∀ (x:PF) (ind:Bs),Fm x->((lnF x ind).length:Int)<=gr x * (ind.length+dpF x+2500)
 | .mk g c ks,ind,h=>by
  obtain ⟨h1,h2,h3⟩:=h
  have ht:=ug h1
  have hb:=(xI h2).1
  have hk:=Em ks (ind++[32]) h3
  have hp:=gS ks
  simp only [lnF,gr,dpF,List.length_append,List.length_cons,List.length_nil] at hk ⊢
  have e:(1+dv ks) * ((ind.length:Int)+((1+pm ks:Nat):Int)+2500)=((ind.length:Int)+((1+pm ks:Nat):Int)+2500)+dv ks * ((ind.length:Int)+((1+pm ks:Nat):Int)+2500):=by
   rw [Int.add_mul,Int.one_mul]
  rw [e]
  have e2:dv ks * (((ind.length+(0+1):Nat):Int)+(pm ks:Int)+2500)=dv ks * ((ind.length:Int)+((1+pm ks:Nat):Int)+2500):=by
   congr 1
   omega
  rw [e2] at hk
  generalize dv ks * ((ind.length:Int)+((1+pm ks:Nat):Int)+2500)=Y at hk ⊢
  omega
theorem Em:∀ (xs:List PF) (ind:Bs),vG xs->((oP xs ind).length:Int)<=dv xs * (ind.length+pm xs+2500)
 | [],_,_=>by simp [oP,dv]
 | x::xs,ind,h=>by
  have h1:=Js x ind h.1
  have h2:=Em xs ind h.2
  have p1:=nW x
  have p2:=gS xs
  simp only [oP,dv,pm,List.length_append]
  have a1:gr x * ((ind.length:Int)+(dpF x:Int)+2500)<=gr x * ((ind.length:Int)+((max (dpF x) (pm xs):Nat):Int)+2500):=Int.mul_le_mul_of_nonneg_left (by omega) (by omega)
  have a2:dv xs * ((ind.length:Int)+(pm xs:Int)+2500)<=dv xs * ((ind.length:Int)+((max (dpF x) (pm xs):Nat):Int)+2500):=Int.mul_le_mul_of_nonneg_left (by omega) p2
  rw [Int.add_mul]
  omega
end
theorem oX {x:PF} (h:cR x=true):Fm x/\(lnF x []).length<=200000:=by
 simp only [cR,Bool.and_eq_true,decide_eq_true_eq] at h
 have ho:=Jb x 20 h.1
 have hd:=K9 x 20 h.1
 have hl:=Js x [] ho
 refine ⟨ho,?_⟩
 have h1:gr x * ((([]:Bs).length:Int)+(dpF x:Int)+2500)<=60 * 2520:=by
  refine Int.le_trans (Int.mul_le_mul_of_nonneg_right h.2 (by simp; omega)) ?_
  refine Int.mul_le_mul_of_nonneg_left (by simp; omega) (by omega)
 omega
end
section
open Go Go.RowKit
section
variable {S:ae}
attribute [local irreducible] Run CondV ar aI
theorem D1 {t:T} {cs:List Value} (hv:cE t=true) (h:RdT S cs t):Pure Tryz.prog yo [.agg cs.toArray] S (.string (st (tx t))):=by
 obtain ⟨h1,h2,h3,_⟩:=yJ hv
 exact (Cz 961 960 (by omega) (by omega)).1 t (tx t) S cs h1 (by omega) h
theorem Cp (ks:List PF) (ind:Bs) (j:Nat) (h:j<ks.length):oP (ks.drop j) ind=lnF ks[j] ind++oP (ks.drop (j+1)) ind:=by
 rw [List.drop_eq_getElem_cons h,oP]
theorem AC:∀ (x:PF) (S:ae) (cs:List Value) (ind:Bs),Fm x->RdF S cs x->(lnF x ind).length<=1000000->Pure Tryz.prog Gf [.agg cs.toArray,.string (st ind)] S (.string (st (lnF x ind))):=by
 refine PF.ind fun g c ks ih S cs ind ho h hl=>?_
 intro w hI
 obtain ⟨kv,kk,rfl,hg,hc,hks⟩:=RdF.iff.1 h
 simp only [PF.goal,PF.clause,PF.kids] at hg hc hks ⊢
 obtain ⟨hv,hcl,hok⟩:=ho
 have hgo:vG ks:=hok
 have ht:=ug hv
 have hb:=(xI hcl).1
 rw [lnF] at hl ⊢
 simp only [List.length_append,List.length_cons,List.length_nil] at hl
 refine tc.2 ?_
 dsimp only[tc,aY]
 refine be hI fun b2 w' hI=>?_
 have hI:Inv w [] [.blk b2 (.cells #[.int .i64 g.kind,.int .i64 g.n,.string g.name,kv,.int .i64 c,kk] af)] S w':=hI
 refine ao cZ ?_
 refine b0 hI 0 [.int .i64 g.kind,.int .i64 g.n,.string g.name,kv] ac rfl rfl nu ?_
 refine Run.callPure eF ey hI (D1 hv hg) fun w' hI=>?_
 refine bA (by omega) ?_
 refine ⟨fun v w'=>v=.string (st (ind++tx g++byS c))/\Inv w [] [.blk b2 (.cells #[.int .i64 g.kind,.int .i64 g.n,.string g.name,kv,.int .i64 c,kk] af)] S w',?_,?_⟩
 ·refine ad hI 0 rfl cF aw rfl ?_
  refine iu ?_
  refine aN (fun h0=>?_) (fun h0=>?_)
  ·refine bA (b:=[32,98,121,32]) (by simp only [List.length_append,List.length_cons,List.length_nil]; omega) ?_
   refine ad hI 0 rfl cF aw rfl ?_
   obtain ⟨r,hr,hr1,hr2,_⟩:=s4 (n:=c) (by omega)
   have hr0:=hr
   unfold AL at hr
   rw [if_neg (by omega)] at hr
   obtain ⟨m,rfl⟩:∃ m:Nat,c=(m:Int):=⟨c.toNat,by omega⟩
   rw [Int.toNat_natCast] at hr
   refine Run.callPure nl ne hI (mm hr (by omega) (by omega)) fun w' hI=>?_
   refine bA (by simp only [List.length_append,List.length_cons,List.length_nil]; omega) ?_
   exact ⟨by rw [byS,if_pos (by omega),hr0]; simp,hI⟩
  ·exact ⟨by rw [byS,if_neg (by omega),List.append_nil],hI⟩
 intro t5 _ _ _ _ _ _ _ _ _ w'
 rintro ⟨rfl,hI⟩
 refine bA (b:=[10]) (by simp only [List.length_append,List.length_cons,List.length_nil]; omega) ?_
 have hkl:=hks.le
 simp only [maxLen] at hkl
 refine ⟨fun i v w'=>∃ (j:Nat) (out:Bs),j<=ks.length/\i=.int .i64 (j:Int)/\v=.string (st out)/\out++oP (ks.drop j) (ind++[32])=ind++tx g++byS c++[10]++oP ks (ind++[32])/\
   Inv w [] [.blk b2 (.cells #[.int .i64 g.kind,.int .i64 g.n,.string g.name,kv,.int .i64 c,kk] af)] S w',fun i _ _=>ks.length - (intOf i).toNat,⟨0,_,Nat.zero_le _,rfl,rfl,rfl,hI⟩,?_⟩
 intro t6 _ _ t5 _ _ _ _ _ _ _ _ _ _ _ _ _ _ _ w'
 rintro ⟨j,out,hj,rfl,rfl,hrel,hI⟩
 have hrl:=congrArg List.length hrel
 simp only [List.length_append,List.length_cons,List.length_nil] at hrl
 refine ad hI 0 rfl aW aZ rfl ?_
 refine aK hks bl ?_
 refine bD ?_
 refine aN (fun hji=>?_) (fun hji=>?_)
 ·have hj':j<ks.length:=by omega
  have hm:=List.getElem_mem hj'
  have hst:=Cp ks (ind++[32]) j hj'
  rw [hst,List.length_append] at hrl
  refine ad hI 0 rfl aW aZ rfl ?_
  refine bP hI hks bl aq hj' (fun _ _=>RdF.length) fun es hes=>?_
  refine bA (b:=[32]) (by simp only [List.length_cons,List.length_nil]; omega) ?_
  refine Run.callPure sj sW hI (ih _ hm S es (ind++[32]) (uT hgo _ hm) hes (by omega)) fun w' hI=>?_
  refine bA (by omega) ?_
  refine bm (by omega) ?_
  refine ⟨⟨j+1,_,hj',rfl,rfl,?_,hI⟩,by simp only [intOf,Int.toNat_natCast]; omega⟩
  rw [<- hrel,hst,List.append_assoc]
 ·have:j=ks.length:=by omega
  subst this
  rw [List.drop_length,oP,List.append_nil] at hrel
  exact done hI (by rw [hrel])
theorem xx:∀ (x:PF) (S:ae) (cs:List Value) (ind:Bs),Fm x->TabS S->RdF S cs x->(lnF x ind).length<=1000000->Pure Tryz.prog Bb [.agg cs.toArray,.string (st ind)] S (.string (st (lnF x ind))):=by
 refine PF.ind fun g c ks ih S cs ind ho hT h hl=>?_
 intro w hI
 obtain ⟨kv,kk,rfl,hg,hc,hks⟩:=RdF.iff.1 h
 simp only [PF.goal,PF.clause,PF.kids] at hg hc hks ⊢
 obtain ⟨hv,hcl,hok⟩:=ho
 have hgo:vG ks:=hok
 have ht:=ug hv
 have hb:=(xI hcl).1
 rw [lnF] at hl ⊢
 simp only [List.length_append,List.length_cons,List.length_nil] at hl
 refine mZ.2 ?_
 dsimp only[mZ,aY]
 refine be hI fun b2 w' hI=>?_
 have hI:Inv w [] [.blk b2 (.cells #[.int .i64 g.kind,.int .i64 g.n,.string g.name,kv,.int .i64 c,kk] af)] S w':=hI
 refine ao cZ ?_
 refine b0 hI 0 [.int .i64 g.kind,.int .i64 g.n,.string g.name,kv] ac rfl rfl nu ?_
 refine Run.callPure gT gK hI (E8 hv hT hg) fun w' hI=>?_
 refine bA (by omega) ?_
 refine ⟨fun v w'=>v=.string (st (ind++tx g++byS c))/\Inv w [] [.blk b2 (.cells #[.int .i64 g.kind,.int .i64 g.n,.string g.name,kv,.int .i64 c,kk] af)] S w',?_,?_⟩
 ·refine ad hI 0 rfl cF aw rfl ?_
  refine iu ?_
  refine aN (fun h0=>?_) (fun h0=>?_)
  ·refine ad hI 0 rfl cF aw rfl ?_
   obtain ⟨r,hr,hr1,hr2,_⟩:=s4 (n:=c) (by omega)
   refine Run.callPure jW kH hI (y6 hT (by omega) hr) fun w' hI=>?_
   refine bA (a:=[32,98,121,32]) (by simp only [List.length_cons,List.length_nil]; omega) ?_
   refine bA (by simp only [List.length_append,List.length_cons,List.length_nil]; omega) ?_
   exact ⟨by rw [byS,if_pos (by omega),hr]; simp,hI⟩
  ·exact ⟨by rw [byS,if_neg (by omega),List.append_nil],hI⟩
 intro t5 _ _ _ _ _ _ _ _ _ w'
 rintro ⟨rfl,hI⟩
 refine bA (b:=[10]) (by simp only [List.length_append,List.length_cons,List.length_nil]; omega) ?_
 have hkl:=hks.le
 simp only [maxLen] at hkl
 refine ad hI 0 rfl aW aZ rfl ?_
 refine aK hks bl ?_
 refine ⟨fun i v w'=>∃ (j:Nat) (out:Bs),j<=ks.length/\i=.int .i64 (j:Int)/\v=.string (st out)/\out++oP (ks.drop j) (ind++[32])=ind++tx g++byS c++[10]++oP ks (ind++[32])/\
   Inv w [] [.blk b2 (.cells #[.int .i64 g.kind,.int .i64 g.n,.string g.name,kv,.int .i64 c,kk] af)] S w',fun i _ _=>ks.length - (intOf i).toNat,⟨0,_,Nat.zero_le _,rfl,rfl,rfl,hI⟩,?_⟩
 intro t27 _ t5 _ _ _ _ _ _ _ _ _ _ w'
 rintro ⟨j,out,hj,rfl,rfl,hrel,hI⟩
 have hrl:=congrArg List.length hrel
 simp only [List.length_append,List.length_cons,List.length_nil] at hrl
 refine bD ?_
 refine aN (fun hji=>?_) (fun hji=>?_)
 ·have hj':j<ks.length:=by omega
  have hm:=List.getElem_mem hj'
  have hst:=Cp ks (ind++[32]) j hj'
  rw [hst,List.length_append] at hrl
  refine bP hI hks bl aq hj' (fun _ _=>RdF.length) fun es hes=>?_
  have he6:=hes.length
  refine aA hI bV fun b7 w' hI=>?_
  refine aj hI 1 rfl aq (by simpa using he6) rfl (by simpa using hes.one) fun w' hI=>?_
  refine ag hI 1 aq rfl (by simpa using he6) ?_
  refine bA (b:=[32]) (by simp only [List.length_cons,List.length_nil]; omega) ?_
  refine Run.callPure nL n6 hI (ih _ hm S es (ind++[32]) (uT hgo _ hm) hT hes (by omega)) fun w' hI=>?_
  refine bA (by omega) ?_
  refine bm (by omega) ?_
  refine ⟨⟨j+1,_,hj',rfl,rfl,?_,hI.pick [true,false]⟩,by simp only [intOf,Int.toNat_natCast]; omega⟩
  rw [<- hrel,hst,List.append_assoc]
 ·have:j=ks.length:=by omega
  subst this
  rw [List.drop_length,oP,List.append_nil] at hrel
  exact done hI (by rw [hrel])
theorem Bh {x:PF} {cs:List Value} (h:RdF S cs x) (hw:wF x<=1048576):Pure Tryz.prog xD [.agg cs.toArray] S (.string (st (l6 x))):=by
 intro w hI
 have hl6:=h.length
 refine lN.2 ?_
 dsimp only[lN,aE]
 refine be hI fun b1 w' hI=>?_
 have hI:Inv w [] [.blk b1 (.cells cs.toArray af)] S w':=hI
 refine ag hI 0 aq rfl (by simpa using hl6) ?_
 refine Run.callPure fJ fK hI (eW h hw) fun w' hI=>?_
 refine bW ?_
 cases hv:cR x with
 | false=>
  refine av (fun _=>?_) (fun hb=>by cases hb)
  exact done hI (by rw [l6,hv]; rfl)
 | true=>
  refine av (fun hb=>by cases hb) (fun _=>?_)
  obtain ⟨ho,hl⟩:=oX hv
  refine ag hI 0 aq rfl (by simpa using hl6) ?_
  refine Run.callPure sj sW hI (AC x S cs [] ho h (by omega)) fun w' hI=>?_
  exact done hI (by rw [l6,if_pos hv])
theorem kU {x:PF} {cs:List Value} (h:RdF S cs x) (hT:TabS S):Pure Tryz.prog xn [.agg cs.toArray] S (.string (st (l6 x))):=by
 intro w hI
 have hl6:=h.length
 refine lu.2 ?_
 dsimp only[lu,aE]
 refine be hI fun b1 w' hI=>?_
 have hI:Inv w [] [.blk b1 (.cells cs.toArray af)] S w':=hI
 refine ag hI 0 aq rfl (by simpa using hl6) ?_
 refine Run.callPure iH iJ hI (j4 h) fun w' hI=>?_
 refine bW ?_
 cases hv:cR x with
 | false=>
  refine av (fun _=>?_) (fun hb=>by cases hb)
  exact done hI (by rw [l6,hv]; rfl)
 | true=>
  refine av (fun hb=>by cases hb) (fun _=>?_)
  obtain ⟨ho,hl⟩:=oX hv
  refine ag hI 0 aq rfl (by simpa using hl6) ?_
  refine Run.callPure nL n6 hI (xx x S cs [] ho hT h (by omega)) fun w' hI=>?_
  exact done hI (by rw [l6,if_pos hv])
end
end
section
open Go Go.RowKit
section
attribute [local irreducible] Run CondV ar aI
noncomputable def checkB (p:List C) (x:PF):Bool:=Qa p && (cR x && chkF p x)
end
end
section
open Go Go.RowKit
def psz (x:PF):Int:=if cR x=true then gr x else 0
end
section
open Go Go.RowKit
section
attribute [local irreducible] Run CondV ar aI
theorem sF {x:PF} {S:ae} {cs:List Value} (h:RdF S cs x):Pure Tryz.prog ql [.agg cs.toArray] S (.int .i64 (psz x)):=by
 intro w hI
 have hl:=h.length
 refine nP.2 ?_
 dsimp only[nP,aE]
 refine be hI fun b1 w' hI=>?_
 refine aA hI IO fun b2 w' hI=>?_
 refine dB hI 1 (n:=1) rfl (by rw [aw]; rfl) rfl (Nat.le_of_ble_eq_true rfl) (by simp [Value.cells]; rfl) fun w' hI=>?_
 refine ag hI 0 aq rfl (by simpa [Value.cells] using hl) ?_
 refine Run.call (A:=[_]) (I:=[dX b2 0]) jM jS hI (mN x S cs 1 0 b2 h (by omega) (by omega) (by omega) (by omega)) fun v' I' S' w'=>?_
 rintro ⟨rfl,rfl,rfl⟩ _ hI
 refine bW ?_
 rw [nG]
 cases hv:cR x with
 | false=>
  refine av (fun _=>?_) (fun hb=>by cases hb)
  exact done hI (by rw [psz,hv,if_neg (by decide)])
 | true=>
  refine av (fun hb=>by cases hb) (fun _=>?_)
  have h2:=(tG x 1 0).2 (by rw [nG]; exact hv)
  rw [h2,Int.zero_add] at hI
  refine ax hI 1 aw rfl rfl ?_
  exact done hI (by rw [psz,if_pos hv]; rfl)
theorem ue {x:PF} {S:ae} {cs:List Value} (h:RdF S cs x) (hw:wF x<=1048576):Pure Tryz.prog qC [.agg cs.toArray] S (.int .i64 (psz x)):=by
 intro w hI
 have hl:=h.length
 refine oK.2 ?_
 dsimp only[oK,aE]
 refine be hI fun b1 w' hI=>?_
 refine ag hI 0 aq rfl (by simpa [Value.cells] using hl) ?_
 refine Run.callPure fJ fK hI (eW h hw) fun w' hI=>?_
 refine bW ?_
 cases hv:cR x with
 | false=>
  refine av (fun _=>?_) (fun hb=>by cases hb)
  exact done hI (by rw [psz,hv,if_neg (by decide)])
 | true=>
  refine av (fun hb=>by cases hb) (fun _=>?_)
  refine ag hI 0 aq rfl (by simpa [Value.cells] using hl) ?_
  refine Run.callPure mo mh hI (qs x S cs 60 h (by omega) (by omega)) fun w' hI=>?_
  have hv2:=hv
  rw [cR,Bool.and_eq_true,decide_eq_true_eq] at hv2
  exact done hI (by rw [psz,if_pos hv,(tW x 60 (by omega)).2.2.1 hv2.2])
end
end
end Go.Proofs.YtbocelianhcfmaaGreatDoor
