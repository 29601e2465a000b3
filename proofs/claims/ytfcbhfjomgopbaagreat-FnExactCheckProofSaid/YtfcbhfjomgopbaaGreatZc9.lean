/- The program's check of proofs, and CheckProof on both sides. -/
import Derived.Test.YtfcbhfjomgopbaaGreatZc8
namespace Go.Proofs.YtfcbhfjomgopbaaGreat
open Go Go.RowKit
section
attribute [local irreducible] Run CondV ak bg
set_option maxHeartbeats 1000000 in
theorem vJ {p:List C} (hpv:jG p=true):∀ (x:PF) (d:Int) (S:ar) (u:Value) (cs:List Value),l5 x d=true->RdSl S 5 (RdC S) u p->RdF S cs x->Pure Tryz.prog B9 [u,.agg cs.toArray] S (.bool (chkF p x)):=by
 refine PF.ind fun g c ks ih d S u cs hsh hp h=>?_
 intro w hI
 obtain ⟨kv,kf,rfl,hg,hci,hks⟩:=RdF.iff.1 h
 obtain ⟨hgb,hcr,hkids⟩:=jZ hsh
 have hgv:=eF hgb
 have hgw:=yR hgv
 simp only [PF.goal,PF.kids,PF.clause] at hg hci hks ⊢
 have hkl:=hks.le
 simp only [maxLen] at hkl
 rw [chkF,nodeC]
 refine vg ?_
 unfold sS;dsimp only
 refine bt hI fun b3 w' hI=>?_
 have hI:Inv w [] [.blk b3 (.cells #[.int .i64 g.kind,.int .i64 g.n,.string g.name,kv,.int .i64 c,kf] bx)] S w':=hI
 refine ah (u:=.int .i64 c) hI 0 rfl ch aR rfl ?_
 refine bz ?_
 refine bf (fun hneg=>?_) (fun hneg=>?_)
 ·rw [if_pos hneg]
  refine bb ct ?_
  refine bY hI 0 [.int .i64 g.kind,.int .i64 g.n,.string g.name,kv] al rfl rfl ly ?_
  refine Run.call0E rT rJ hI (nb hgv ⟨ii hgv,by omega⟩ (yd hgv) (uk hgv) hg) fun v' I' S1 w'=>?_
  rintro ⟨a,n,cap,c1,rfl,hfl⟩ hE hI
  refine be (v:=.slice a n cap) rfl ?_
  refine be (v:=.int .i64 c1) rfl ?_
  refine bb ct ?_
  refine bY hI 0 [.int .i64 g.kind,.int .i64 g.n,.string g.name,kv] al rfl rfl ly ?_
  refine Run.callPure ib ic hI (gF (hg.mono hE.1)) fun w' hI=>?_
  have hk0:chkFL p ks=true ∨ ks.length≠0:=by
   by_cases h:ks.length=0
   ·rw [List.eq_nil_of_length_eq_zero h]; exact .inl rfl
   ·exact .inr h
  cases hb:c9 g
  ·repeat (first|refine ab ?_|refine ad (by decide) ?_|refine aa ?_|refine af ?_|refine ag ?_)
   refine g9 hI hE.1 ?_
   rcases uk hgv with ⟨_,h2⟩|⟨h2,_⟩
   ·rw [h2,Bool.and_false]; rfl
   ·rw [hb] at h2; cases h2
  repeat (first|refine ab ?_|refine ad (by decide) ?_|refine aa ?_|refine af ?_|refine ag ?_)
  refine ah hI 0 rfl bK bT rfl ?_
  refine a5 hks bD ?_
  refine bu ?_
  have el:decide ((ks.length:Int)=0)=decide (ks.length=0):=by rw [decide_eq_decide]; omega
  rw [el]
  cases hkk:decide (ks.length=0)
  ·repeat (first|refine ab ?_|refine ad (by decide) ?_|refine aa ?_|refine af ?_|refine ag ?_)
   exact g9 hI hE.1 rfl
  have hkk:=of_decide_eq_true hkk
  have hcl:chkFL p ks=true:=hk0.resolve_right (fun h=>h hkk)
  rw [hcl]
  repeat (first|refine ab ?_|refine ad (by decide) ?_|refine aa ?_|refine af ?_|refine ag ?_)
  refine wl x0 ?_
  refine bu ?_
  have en:decide ((n:Int)=0)=decide (n=0):=by rw [decide_eq_decide]; omega
  rw [en,<- hfl]
  cases hn0:decide (n=0)
  ·repeat (first|refine ab ?_|refine ad (by decide) ?_|refine aa ?_|refine af ?_|refine ag ?_)
   refine g9 hI hE.1 ?_
   simp
  repeat (first|refine ab ?_|refine ad (by decide) ?_|refine aa ?_|refine af ?_|refine ag ?_)
  refine bu ?_
  repeat (first|refine ab ?_|refine ad (by decide) ?_|refine aa ?_|refine af ?_|refine ag ?_)
  refine g9 hI hE.1 ?_
  simp
 rw [if_neg hneg]
 by_cases hge:(p.length:Int)<=c
 ·have hpn:p[c.toNat]?=none:=List.getElem?_eq_none (by omega)
  rw [hpn]
  refine ⟨fun D gC gw gB eH eL eK eJ eI cU cW df da cC cD cr cL dm de w_=>(D 0=true->de=.pointer (some ⟨b3,4,none⟩))/\(D 1=true->dm=.int .i64 c)/\(D 2=true->cL=u)/\(D 3=true->cr=.int .i64 p.length)/\(D 4=true->cD=.bool true)/\(D 5=true->cC=.bool true)/\(D 6=true->da=undef)/\(D 7=true->df=undef)/\(D 8=true->cW=undef)/\(D 9=true->cU=undef)/\(D 10=true->eI=undef)/\(D 11=true->eJ=undef)/\(D 12=true->eK=undef)/\(D 13=true->eL=undef)/\(D 14=true->eH=undef)/\(D 15=true->gB=undef)/\(D 16=true->gw=undef)/\(D 17=true->gC=.bool true)/\Inv w [] [.blk b3 (.cells #[.int .i64 g.kind,.int .i64 g.n,.string g.name,kv,.int .i64 c,kf] bx)] S w_,⟨ae,ae,ae,ae,ae,ae,ae,ae,ae,ae,ae,ae,ae,ae,ae,ae,ae,ae,hI.draw⟩,⟨?_,?_,?_,?_,?_,?_,?_,?_,?_,?_,?_,?_,?_,?_,?_,?_,?_,?_,trivial⟩,?_⟩
  ·intro D aY  gC gw gB eH eL eK eJ eI cU cW df da cC cD cr cL dm de w_
   rintro ⟨av,aw,ao,au,az,aq,aA,aE,aH,aL,ai,aj,am,aF,aB,aJ,aI,aK,hI⟩
   refine bb ch ?_
   exact ⟨fun _=>rfl,aw,ao,au,az,aq,aA,aE,aH,aL,ai,aj,am,aF,aB,aJ,aI,aK,hI⟩
  ·intro D aY cB gC gw gB eH eL eK eJ eI cU cW df da cC cD cr cL dm de w_
   rintro ⟨av,aw,ao,au,az,aq,aA,aE,aH,aL,ai,aj,am,aF,aB,aJ,aI,aK,hI⟩
   obtain rfl:=av cB
   refine bj hI 0 aR rfl rfl ?_
   exact ⟨av,fun _=>rfl,ao,au,az,aq,aA,aE,aH,aL,ai,aj,am,aF,aB,aJ,aI,aK,hI⟩
  ·intro D aY  gC gw gB eH eL eK eJ eI cU cW df da cC cD cr cL dm de w_
   rintro ⟨av,aw,ao,au,az,aq,aA,aE,aH,aL,ai,aj,am,aF,aB,aJ,aI,aK,hI⟩
   exact ⟨av,aw,fun _=>rfl,au,az,aq,aA,aE,aH,aL,ai,aj,am,aF,aB,aJ,aI,aK,hI⟩
  ·intro D aY cc gC gw gB eH eL eK eJ eI cU cW df da cC cD cr cL dm de w_
   rintro ⟨av,aw,ao,au,az,aq,aA,aE,aH,aL,ai,aj,am,aF,aB,aJ,aI,aK,hI⟩
   obtain rfl:=ao cc
   refine a5 hp bI ?_
   exact ⟨av,aw,ao,fun _=>rfl,az,aq,aA,aE,aH,aL,ai,aj,am,aF,aB,aJ,aI,aK,hI⟩
  ·intro D aY c6 jw gC gw gB eH eL eK eJ eI cU cW df da cC cD cr cL dm de w_
   rintro ⟨av,aw,ao,au,az,aq,aA,aE,aH,aL,ai,aj,am,aF,aB,aJ,aI,aK,hI⟩
   obtain rfl:=aw c6
   obtain rfl:=au jw
   refine g5 ?_
   rw [decide_eq_true hge]
   exact ⟨av,aw,ao,au,fun _=>rfl,aq,aA,aE,aH,aL,ai,aj,am,aF,aB,aJ,aI,aK,hI⟩
  ·intro D aY cZ gC gw gB eH eL eK eJ eI cU cW df da cC cD cr cL dm de w_
   rintro ⟨av,aw,ao,au,az,aq,aA,aE,aH,aL,ai,aj,am,aF,aB,aJ,aI,aK,hI⟩
   obtain rfl:=az cZ
   exact ⟨av,aw,ao,au,az,fun _=>rfl,aA,aE,aH,aL,ai,aj,am,aF,aB,aJ,aI,aK,hI⟩
  ·intro D aY cY gC gw gB eH eL eK eJ eI cU cW df da cC cD cr cL dm de w_
   rintro ⟨av,aw,ao,au,az,aq,aA,aE,aH,aL,ai,aj,am,aF,aB,aJ,aI,aK,hI⟩
   obtain rfl:=aq cY
   repeat (first|refine ab ?_|refine ad (by decide) ?_|refine aa ?_|refine af ?_|refine ag ?_)
   exact ⟨av,aw,ao,au,az,aq,fun _=>rfl,aE,aH,aL,ai,aj,am,aF,aB,aJ,aI,aK,hI⟩
  ·intro D aY ci cm gC gw gB eH eL eK eJ eI cU cW df da cC cD cr cL dm de w_
   rintro ⟨av,aw,ao,au,az,aq,aA,aE,aH,aL,ai,aj,am,aF,aB,aJ,aI,aK,hI⟩
   obtain rfl:=aA ci
   obtain rfl:=aq cm
   repeat (first|refine ab ?_|refine ad (by decide) ?_|refine aa ?_|refine af ?_|refine ag ?_)
   exact ⟨av,aw,ao,au,az,aq,aA,fun _=>rfl,aH,aL,ai,aj,am,aF,aB,aJ,aI,aK,hI⟩
  ·intro D aY dT cm gC gw gB eH eL eK eJ eI cU cW df da cC cD cr cL dm de w_
   rintro ⟨av,aw,ao,au,az,aq,aA,aE,aH,aL,ai,aj,am,aF,aB,aJ,aI,aK,hI⟩
   obtain rfl:=aE dT
   obtain rfl:=aq cm
   repeat (first|refine ab ?_|refine ad (by decide) ?_|refine aa ?_|refine af ?_|refine ag ?_)
   exact ⟨av,aw,ao,au,az,aq,aA,aE,fun _=>rfl,aL,ai,aj,am,aF,aB,aJ,aI,aK,hI⟩
  ·intro D aY cY gC gw gB eH eL eK eJ eI cU cW df da cC cD cr cL dm de w_
   rintro ⟨av,aw,ao,au,az,aq,aA,aE,aH,aL,ai,aj,am,aF,aB,aJ,aI,aK,hI⟩
   obtain rfl:=aq cY
   repeat (first|refine ab ?_|refine ad (by decide) ?_|refine aa ?_|refine af ?_|refine ag ?_)
   exact ⟨av,aw,ao,au,az,aq,aA,aE,aH,fun _=>rfl,ai,aj,am,aF,aB,aJ,aI,aK,hI⟩
  ·intro D aY cY gC gw gB eH eL eK eJ eI cU cW df da cC cD cr cL dm de w_
   rintro ⟨av,aw,ao,au,az,aq,aA,aE,aH,aL,ai,aj,am,aF,aB,aJ,aI,aK,hI⟩
   obtain rfl:=aq cY
   repeat (first|refine ab ?_|refine ad (by decide) ?_|refine aa ?_|refine af ?_|refine ag ?_)
   exact ⟨av,aw,ao,au,az,aq,aA,aE,aH,aL,fun _=>rfl,aj,am,aF,aB,aJ,aI,aK,hI⟩
  ·intro D aY eo cm gC gw gB eH eL eK eJ eI cU cW df da cC cD cr cL dm de w_
   rintro ⟨av,aw,ao,au,az,aq,aA,aE,aH,aL,ai,aj,am,aF,aB,aJ,aI,aK,hI⟩
   obtain rfl:=ai eo
   obtain rfl:=aq cm
   repeat (first|refine ab ?_|refine ad (by decide) ?_|refine aa ?_|refine af ?_|refine ag ?_)
   exact ⟨av,aw,ao,au,az,aq,aA,aE,aH,aL,ai,fun _=>rfl,am,aF,aB,aJ,aI,aK,hI⟩
  ·intro D aY kV jX jg gC gw gB eH eL eK eJ eI cU cW df da cC cD cr cL dm de w_
   rintro ⟨av,aw,ao,au,az,aq,aA,aE,aH,aL,ai,aj,am,aF,aB,aJ,aI,aK,hI⟩
   obtain rfl:=aL kV
   obtain rfl:=aj jX
   obtain rfl:=aq jg
   repeat (first|refine ab ?_|refine ad (by decide) ?_|refine aa ?_|refine af ?_|refine ag ?_)
   exact ⟨av,aw,ao,au,az,aq,aA,aE,aH,aL,ai,aj,fun _=>rfl,aF,aB,aJ,aI,aK,hI⟩
  ·intro D aY j3 cm gC gw gB eH eL eK eJ eI cU cW df da cC cD cr cL dm de w_
   rintro ⟨av,aw,ao,au,az,aq,aA,aE,aH,aL,ai,aj,am,aF,aB,aJ,aI,aK,hI⟩
   obtain rfl:=am j3
   obtain rfl:=aq cm
   repeat (first|refine ab ?_|refine ad (by decide) ?_|refine aa ?_|refine af ?_|refine ag ?_)
   exact ⟨av,aw,ao,au,az,aq,aA,aE,aH,aL,ai,aj,am,fun _=>rfl,aB,aJ,aI,aK,hI⟩
  ·intro D aY fu cm gC gw gB eH eL eK eJ eI cU cW df da cC cD cr cL dm de w_
   rintro ⟨av,aw,ao,au,az,aq,aA,aE,aH,aL,ai,aj,am,aF,aB,aJ,aI,aK,hI⟩
   obtain rfl:=aF fu
   obtain rfl:=aq cm
   repeat (first|refine ab ?_|refine ad (by decide) ?_|refine aa ?_|refine af ?_|refine ag ?_)
   exact ⟨av,aw,ao,au,az,aq,aA,aE,aH,aL,ai,aj,am,aF,fun _=>rfl,aJ,aI,aK,hI⟩
  ·intro D aY dv cm gC gw gB eH eL eK eJ eI cU cW df da cC cD cr cL dm de w_
   rintro ⟨av,aw,ao,au,az,aq,aA,aE,aH,aL,ai,aj,am,aF,aB,aJ,aI,aK,hI⟩
   obtain rfl:=aB dv
   obtain rfl:=aq cm
   repeat (first|refine ab ?_|refine ad (by decide) ?_|refine aa ?_|refine af ?_|refine ag ?_)
   exact ⟨av,aw,ao,au,az,aq,aA,aE,aH,aL,ai,aj,am,aF,aB,fun _=>rfl,aI,aK,hI⟩
  ·intro D aY dN sV jg gC gw gB eH eL eK eJ eI cU cW df da cC cD cr cL dm de w_
   rintro ⟨av,aw,ao,au,az,aq,aA,aE,aH,aL,ai,aj,am,aF,aB,aJ,aI,aK,hI⟩
   obtain rfl:=aH dN
   obtain rfl:=aJ sV
   obtain rfl:=aq jg
   repeat (first|refine ab ?_|refine ad (by decide) ?_|refine aa ?_|refine af ?_|refine ag ?_)
   exact ⟨av,aw,ao,au,az,aq,aA,aE,aH,aL,ai,aj,am,aF,aB,aJ,fun _=>rfl,aK,hI⟩
  ·intro D aY cY r3 gC gw gB eH eL eK eJ eI cU cW df da cC cD cr cL dm de w_
   rintro ⟨av,aw,ao,au,az,aq,aA,aE,aH,aL,ai,aj,am,aF,aB,aJ,aI,aK,hI⟩
   obtain rfl:=aq cY
   obtain rfl:=aI r3
   repeat (first|refine ab ?_|refine ad (by decide) ?_|refine aa ?_|refine af ?_|refine ag ?_)
   exact ⟨av,aw,ao,au,az,aq,aA,aE,aH,aL,ai,aj,am,aF,aB,aJ,aI,fun _=>rfl,hI⟩
  intro D kU kq jr i5 jq fN dO d7 hY gh fB fk fi e9 fe eQ eZ e8 gC gw gB eH eL eK eJ eI cU cW df da cC cD cr cL dm de w_
  rintro ⟨av,aw,ao,au,az,aq,aA,aE,aH,aL,ai,aj,am,aF,aB,aJ,aI,aK,hI⟩
  obtain rfl:=aK kU
  obtain rfl:=aI kq
  obtain rfl:=aJ jr
  obtain rfl:=aB i5
  obtain rfl:=aF jq
  obtain rfl:=am fN
  obtain rfl:=aj dO
  obtain rfl:=ai d7
  obtain rfl:=aL hY
  obtain rfl:=aH gh
  obtain rfl:=aE fB
  obtain rfl:=aA fk
  obtain rfl:=aq fi
  obtain rfl:=az e9
  obtain rfl:=au fe
  obtain rfl:=ao eQ
  obtain rfl:=aw eZ
  obtain rfl:=av e8
  clear av aw ao au az aq aA aE aH aL ai aj am aF aB aJ aI aK
  refine bd (fun _=>done hI rfl) (fun hb=>by cases hb)
 obtain ⟨j,hcj⟩:∃ j:Nat,c=(j:Int):=⟨c.toNat,by omega⟩
 have hjl:j<p.length:=by omega
 subst hcj
 have hpe:p[(j:Int).toNat]?=some p[j]:=by rw [Int.toNat_natCast,List.getElem?_eq_getElem hjl]
 rw [hpe]
 have hqv:=sK hpv (List.getElem_mem hjl)
 obtain ⟨q,hq⟩:∃ q,q=p[j]:=⟨_,rfl⟩
 obtain ⟨pb,po,pcap,pc,pE,pfz,rfl,hpS,hpR⟩:=hp.at_ hjl
 rw [<- hq] at hpR hqv ⊢
 obtain ⟨kh,kb,hcc,hqh,hqb⟩:=hpR.cells
 have hcl5:=hpR.length
 rw [hcc] at hpR
 have hlq:decide ((ks.length:Int)=(q.body.length:Int))=decide (ks.length=q.body.length):=by rw [decide_eq_decide]; omega
 have hqo:=yu hqv
 refine ⟨fun D gC gw gB eH eL eK eJ eI cU cW df da cC cD cr cL dm de w_=>(D 0=true->de=.pointer (some ⟨b3,4,none⟩))/\(D 1=true->dm=.int .i64 (j:Int))/\(D 2=true->cL=.slice (some ⟨pb,po,none⟩) p.length pcap)/\(D 3=true->cr=.int .i64 p.length)/\(D 4=true->cD=.bool false)/\(D 5=true->cC=.bool false)/\(D 6=true->da=.pointer (some ⟨b3,5,none⟩))/\(D 7=true->df=kf)/\(D 8=true->cW=.int .i64 ks.length)/\(D 9=true->cU=.slice (some ⟨pb,po,none⟩) p.length pcap)/\(D 10=true->eI=.pointer (some ⟨b3,4,none⟩))/\(D 11=true->eJ=.int .i64 (j:Int))/\(D 12=true->eK=.pointer (some ⟨pb,po+j * 5,none⟩))/\(D 13=true->eL=.pointer (some ⟨pb,po+j * 5+4,none⟩))/\(D 14=true->eH=kb)/\(D 15=true->gB=.int .i64 q.body.length)/\(D 16=true->gw=.bool (!decide (ks.length=q.body.length)))/\(D 17=true->gC=.bool (!decide (ks.length=q.body.length)))/\Inv w [] [.blk b3 (.cells #[.int .i64 g.kind,.int .i64 g.n,.string g.name,kv,.int .i64 (j:Int),kf] bx)] S w_,⟨ae,ae,ae,ae,ae,ae,ae,ae,ae,ae,ae,ae,ae,ae,ae,ae,ae,ae,hI.draw⟩,⟨?_,?_,?_,?_,?_,?_,?_,?_,?_,?_,?_,?_,?_,?_,?_,?_,?_,?_,trivial⟩,?_⟩
 ·intro D aY  gC gw gB eH eL eK eJ eI cU cW df da cC cD cr cL dm de w_
  rintro ⟨av,aw,ao,au,az,aq,aA,aE,aH,aL,ai,aj,am,aF,aB,aJ,aI,aK,hI⟩
  refine bb ch ?_
  exact ⟨fun _=>rfl,aw,ao,au,az,aq,aA,aE,aH,aL,ai,aj,am,aF,aB,aJ,aI,aK,hI⟩
 ·intro D aY cB gC gw gB eH eL eK eJ eI cU cW df da cC cD cr cL dm de w_
  rintro ⟨av,aw,ao,au,az,aq,aA,aE,aH,aL,ai,aj,am,aF,aB,aJ,aI,aK,hI⟩
  obtain rfl:=av cB
  refine bj hI 0 aR rfl rfl ?_
  exact ⟨av,fun _=>rfl,ao,au,az,aq,aA,aE,aH,aL,ai,aj,am,aF,aB,aJ,aI,aK,hI⟩
 ·intro D aY  gC gw gB eH eL eK eJ eI cU cW df da cC cD cr cL dm de w_
  rintro ⟨av,aw,ao,au,az,aq,aA,aE,aH,aL,ai,aj,am,aF,aB,aJ,aI,aK,hI⟩
  exact ⟨av,aw,fun _=>rfl,au,az,aq,aA,aE,aH,aL,ai,aj,am,aF,aB,aJ,aI,aK,hI⟩
 ·intro D aY cc gC gw gB eH eL eK eJ eI cU cW df da cC cD cr cL dm de w_
  rintro ⟨av,aw,ao,au,az,aq,aA,aE,aH,aL,ai,aj,am,aF,aB,aJ,aI,aK,hI⟩
  obtain rfl:=ao cc
  refine a5 hp bI ?_
  exact ⟨av,aw,ao,fun _=>rfl,az,aq,aA,aE,aH,aL,ai,aj,am,aF,aB,aJ,aI,aK,hI⟩
 ·intro D aY c6 jw gC gw gB eH eL eK eJ eI cU cW df da cC cD cr cL dm de w_
  rintro ⟨av,aw,ao,au,az,aq,aA,aE,aH,aL,ai,aj,am,aF,aB,aJ,aI,aK,hI⟩
  obtain rfl:=aw c6
  obtain rfl:=au jw
  refine g5 ?_
  rw [decide_eq_false hge]
  exact ⟨av,aw,ao,au,fun _=>rfl,aq,aA,aE,aH,aL,ai,aj,am,aF,aB,aJ,aI,aK,hI⟩
 ·intro D aY cZ gC gw gB eH eL eK eJ eI cU cW df da cC cD cr cL dm de w_
  rintro ⟨av,aw,ao,au,az,aq,aA,aE,aH,aL,ai,aj,am,aF,aB,aJ,aI,aK,hI⟩
  obtain rfl:=az cZ
  exact ⟨av,aw,ao,au,az,fun _=>rfl,aA,aE,aH,aL,ai,aj,am,aF,aB,aJ,aI,aK,hI⟩
 ·intro D aY cY gC gw gB eH eL eK eJ eI cU cW df da cC cD cr cL dm de w_
  rintro ⟨av,aw,ao,au,az,aq,aA,aE,aH,aL,ai,aj,am,aF,aB,aJ,aI,aK,hI⟩
  obtain rfl:=aq cY
  repeat (first|refine ab ?_|refine ad (by decide) ?_|refine aa ?_|refine af ?_|refine ag ?_)
  refine bb bK ?_
  exact ⟨av,aw,ao,au,az,aq,fun _=>rfl,aE,aH,aL,ai,aj,am,aF,aB,aJ,aI,aK,hI⟩
 ·intro D aY ci cm gC gw gB eH eL eK eJ eI cU cW df da cC cD cr cL dm de w_
  rintro ⟨av,aw,ao,au,az,aq,aA,aE,aH,aL,ai,aj,am,aF,aB,aJ,aI,aK,hI⟩
  obtain rfl:=aA ci
  obtain rfl:=aq cm
  repeat (first|refine ab ?_|refine ad (by decide) ?_|refine aa ?_|refine af ?_|refine ag ?_)
  refine bj hI 0 bT rfl rfl ?_
  exact ⟨av,aw,ao,au,az,aq,aA,fun _=>by first|assumption|trivial,aH,aL,ai,aj,am,aF,aB,aJ,aI,aK,hI⟩
 ·intro D aY dT cm gC gw gB eH eL eK eJ eI cU cW df da cC cD cr cL dm de w_
  rintro ⟨av,aw,ao,au,az,aq,aA,aE,aH,aL,ai,aj,am,aF,aB,aJ,aI,aK,hI⟩
  have FP:=aE dT
  obtain rfl:=aq cm
  repeat (first|refine ab ?_|refine ad (by decide) ?_|refine aa ?_|refine af ?_|refine ag ?_)
  refine a5 (xs:=ks) (by rw [FP]; exact hks) bD ?_
  exact ⟨av,aw,ao,au,az,aq,aA,aE,fun _=>rfl,aL,ai,aj,am,aF,aB,aJ,aI,aK,hI⟩
 ·intro D aY cY gC gw gB eH eL eK eJ eI cU cW df da cC cD cr cL dm de w_
  rintro ⟨av,aw,ao,au,az,aq,aA,aE,aH,aL,ai,aj,am,aF,aB,aJ,aI,aK,hI⟩
  obtain rfl:=aq cY
  repeat (first|refine ab ?_|refine ad (by decide) ?_|refine aa ?_|refine af ?_|refine ag ?_)
  exact ⟨av,aw,ao,au,az,aq,aA,aE,aH,fun _=>rfl,ai,aj,am,aF,aB,aJ,aI,aK,hI⟩
 ·intro D aY cY gC gw gB eH eL eK eJ eI cU cW df da cC cD cr cL dm de w_
  rintro ⟨av,aw,ao,au,az,aq,aA,aE,aH,aL,ai,aj,am,aF,aB,aJ,aI,aK,hI⟩
  obtain rfl:=aq cY
  repeat (first|refine ab ?_|refine ad (by decide) ?_|refine aa ?_|refine af ?_|refine ag ?_)
  refine bb ch ?_
  exact ⟨av,aw,ao,au,az,aq,aA,aE,aH,aL,fun _=>rfl,aj,am,aF,aB,aJ,aI,aK,hI⟩
 ·intro D aY eo cm gC gw gB eH eL eK eJ eI cU cW df da cC cD cr cL dm de w_
  rintro ⟨av,aw,ao,au,az,aq,aA,aE,aH,aL,ai,aj,am,aF,aB,aJ,aI,aK,hI⟩
  obtain rfl:=ai eo
  obtain rfl:=aq cm
  repeat (first|refine ab ?_|refine ad (by decide) ?_|refine aa ?_|refine af ?_|refine ag ?_)
  refine bj hI 0 aR rfl rfl ?_
  exact ⟨av,aw,ao,au,az,aq,aA,aE,aH,aL,ai,fun _=>rfl,am,aF,aB,aJ,aI,aK,hI⟩
 ·intro D aY kV jX jg gC gw gB eH eL eK eJ eI cU cW df da cC cD cr cL dm de w_
  rintro ⟨av,aw,ao,au,az,aq,aA,aE,aH,aL,ai,aj,am,aF,aB,aJ,aI,aK,hI⟩
  obtain rfl:=aL kV
  obtain rfl:=aj jX
  obtain rfl:=aq jg
  repeat (first|refine ab ?_|refine ad (by decide) ?_|refine aa ?_|refine af ?_|refine ag ?_)
  refine aT bI hjl ?_
  exact ⟨av,aw,ao,au,az,aq,aA,aE,aH,aL,ai,aj,fun _=>rfl,aF,aB,aJ,aI,aK,hI⟩
 ·intro D aY j3 cm gC gw gB eH eL eK eJ eI cU cW df da cC cD cr cL dm de w_
  rintro ⟨av,aw,ao,au,az,aq,aA,aE,aH,aL,ai,aj,am,aF,aB,aJ,aI,aK,hI⟩
  obtain rfl:=am j3
  obtain rfl:=aq cm
  repeat (first|refine ab ?_|refine ad (by decide) ?_|refine aa ?_|refine af ?_|refine ag ?_)
  refine bb cn ?_
  exact ⟨av,aw,ao,au,az,aq,aA,aE,aH,aL,ai,aj,am,fun _=>rfl,aB,aJ,aI,aK,hI⟩
 ·intro D aY fu cm gC gw gB eH eL eK eJ eI cU cW df da cC cD cr cL dm de w_
  rintro ⟨av,aw,ao,au,az,aq,aA,aE,aH,aL,ai,aj,am,aF,aB,aJ,aI,aK,hI⟩
  obtain rfl:=aF fu
  obtain rfl:=aq cm
  repeat (first|refine ab ?_|refine ad (by decide) ?_|refine aa ?_|refine af ?_|refine ag ?_)
  refine fj aO (by rw [hI.cellS hpS]; exact aS hcc 4 _ rfl) ?_
  exact ⟨av,aw,ao,au,az,aq,aA,aE,aH,aL,ai,aj,am,aF,fun _=>by first|assumption|trivial,aJ,aI,aK,hI⟩
 ·intro D aY dv cm gC gw gB eH eL eK eJ eI cU cW df da cC cD cr cL dm de w_
  rintro ⟨av,aw,ao,au,az,aq,aA,aE,aH,aL,ai,aj,am,aF,aB,aJ,aI,aK,hI⟩
  have DK:=aB dv
  obtain rfl:=aq cm
  repeat (first|refine ab ?_|refine ad (by decide) ?_|refine aa ?_|refine af ?_|refine ag ?_)
  refine a5 (xs:=q.body) (by rw [DK]; exact hqb) aC ?_
  exact ⟨av,aw,ao,au,az,aq,aA,aE,aH,aL,ai,aj,am,aF,aB,fun _=>rfl,aI,aK,hI⟩
 ·intro D aY dN sV jg gC gw gB eH eL eK eJ eI cU cW df da cC cD cr cL dm de w_
  rintro ⟨av,aw,ao,au,az,aq,aA,aE,aH,aL,ai,aj,am,aF,aB,aJ,aI,aK,hI⟩
  obtain rfl:=aH dN
  obtain rfl:=aJ sV
  obtain rfl:=aq jg
  repeat (first|refine ab ?_|refine ad (by decide) ?_|refine aa ?_|refine af ?_|refine ag ?_)
  refine bQ ?_
  rw [hlq]
  exact ⟨av,aw,ao,au,az,aq,aA,aE,aH,aL,ai,aj,am,aF,aB,aJ,fun _=>rfl,aK,hI⟩
 ·intro D aY cY r3 gC gw gB eH eL eK eJ eI cU cW df da cC cD cr cL dm de w_
  rintro ⟨av,aw,ao,au,az,aq,aA,aE,aH,aL,ai,aj,am,aF,aB,aJ,aI,aK,hI⟩
  obtain rfl:=aq cY
  obtain rfl:=aI r3
  repeat (first|refine ab ?_|refine ad (by decide) ?_|refine aa ?_|refine af ?_|refine ag ?_)
  exact ⟨av,aw,ao,au,az,aq,aA,aE,aH,aL,ai,aj,am,aF,aB,aJ,aI,fun _=>rfl,hI⟩
 intro D kU kq jr i5 jq fN dO d7 hY gh fB fk fi e9 fe eQ eZ e8 gC gw gB eH eL eK eJ eI cU cW df da cC cD cr cL dm de w_
 rintro ⟨av,aw,ao,au,az,aq,aA,aE,aH,aL,ai,aj,am,aF,aB,aJ,aI,aK,hI⟩
 obtain rfl:=aK kU
 obtain rfl:=aI kq
 obtain rfl:=aJ jr
 have DK:=aB i5
 obtain rfl:=aF jq
 obtain rfl:=am fN
 obtain rfl:=aj dO
 obtain rfl:=ai d7
 obtain rfl:=aL hY
 obtain rfl:=aH gh
 have FP:=aE fB
 obtain rfl:=aA fk
 obtain rfl:=aq fi
 obtain rfl:=az e9
 obtain rfl:=au fe
 obtain rfl:=ao eQ
 obtain rfl:=aw eZ
 obtain rfl:=av e8
 clear av aw ao au az aq aA aE aH aL ai aj am aF aB aJ aI aK
 refine bd (fun hb=>done hI ?_) (fun hb=>?_)
 ·have hb:decide (ks.length=q.body.length)=false:=by simpa using hb
  simp only [hb]
  rfl
 have hlen:ks.length=q.body.length:=by simpa using hb
 simp only [decide_eq_true hlen,Bool.true_and]
 refine ah (u:=.int .i64 (j:Int)) hI 0 rfl ch aR rfl ?_
 refine aT bI hjl ?_
 refine bw (cs:=[.int .i64 q.head.kind,.int .i64 q.head.n,.string q.head.name,kh,kb]) dd rfl (fun i v hi=>by rw [hI.cellS hpS]; exact aS hcc i v hi) ?_
 refine bC hI kr fun b5 w' hI=>?_
 refine bq hI 1 rfl dd rfl rfl (by simpa using hpR.one) fun w' hI=>?_
 refine rz hI fun mm w' hI=>?_
 have hI:Inv w [] [.blk b3 (.cells #[.int .i64 g.kind,.int .i64 g.n,.string g.name,kv,.int .i64 (j:Int),kf] bx),.blk b5 (.cells #[.int .i64 q.head.kind,.int .i64 q.head.n,.string q.head.name,kh,kb] cN),.blk mm (.map #[] 0)] S w':=hI
 refine bb ct ?_
 refine bY hI 0 [.int .i64 g.kind,.int .i64 g.n,.string g.name,kv] al rfl rfl ly ?_
 refine bb dr ?_
 refine bY hI 1 [.int .i64 q.head.kind,.int .i64 q.head.n,.string q.head.name,kh] al rfl rfl D5 ?_
 have hgk:=(fO hgv).2
 have hcall:=iw q.head g S _ _ mm 0 #[] st0 hqh hg hqo.1.1 hgk yG (KnownM.empty S)
 have hsn:=gU q.head g st0 yG hgk
 generalize bE q.head g st0=r0 at hcall hsn ⊢
 refine Run.call (A:=[_,_]) gL gJ hI hcall fun v' I' S1 w'=>?_
 rintro ⟨rfl,rfl,es0,ck0,rfl,hkm⟩ _ hI
 refine bJ ?_
 cases hr0:r0.1
 ·refine bd (fun _=>done hI rfl) (fun hb=>by cases hb)
 refine bd (fun hb=>by cases hb) (fun _=>?_)
 simp only [Bool.true_and]
 rw [<- Aw p q.body ks r0.2 hlen.symm]
 refine ah hI 1 rfl cn aO rfl ?_
 refine a5 hqb aC ?_
 refine ⟨fun i w'=>∃ (k:Nat) (st':a6) (es:Array MapEntry) (ck:Nat),k<=q.body.length/\i=.int .i64 k/\interL p (q.body.drop k) (ks.drop k) st'=interL p q.body ks r0.2/\rA st'/\KnownM S1 es st'/\Inv w [] [.blk b3 (.cells #[.int .i64 g.kind,.int .i64 g.n,.string g.name,kv,.int .i64 (j:Int),kf] bx),.blk b5 (.cells #[.int .i64 q.head.kind,.int .i64 q.head.n,.string q.head.name,kh,kb] cN),.blk mm (.map es ck)] S1 w',
  fun i _=>q.body.length - (intOf i).toNat,⟨0,r0.2,es0,ck0,Nat.zero_le _,rfl,rfl,hsn,hkm,hI⟩,?_⟩
 intro i _ _ t100 t99 t98 t97 t96 t95 t94 t93 t92 t91 t90 t89 t88 t87 t86 t85 t84 t83 t82 t81 t80 t79 t78 t77 _ _ _ _ _ _ w'
 rintro ⟨k,st',es,ck,hk,rfl,hrel,hst,hkm,hI⟩
 have hqbl:=hqb.le
 simp only [maxLen] at hqbl
 refine bz ?_
 refine bf (fun hki=>?_) (fun hki=>?_)
 ·have hk1:k<q.body.length:=by omega
  have hk2:k<ks.length:=by omega
  rw [List.drop_eq_getElem_cons hk1,List.drop_eq_getElem_cons hk2,interL] at hrel
  obtain ⟨qb,qo,qcap,qc,qE,qfz,rfl,hqS,hqR⟩:=hqb.at_ hk1
  obtain ⟨fb,fo,fcap,fc,fE,ffz,rfl,hfS,hfR⟩:=hks.at_ hk2
  obtain ⟨fv,ff,hfe,hfg,_,_⟩:=RdF.iff.1 hfR
  obtain ⟨x,hx⟩:∃ x,x=ks[k]:=⟨_,rfl⟩
  obtain ⟨y,hy⟩:∃ y,y=q.body[k]:=⟨_,rfl⟩
  have hym:y∈q.body:=by rw [hy]; exact List.getElem_mem hk1
  have hxm:x∈ks:=by rw [hx]; exact List.getElem_mem hk2
  have hxs:=hkids x hxm
  have hxg:eg x.goal=true:=by
   obtain ⟨xg,xc,xk⟩:=x
   exact (jZ hxs).1
  rw [<- hx] at hfe hfg hrel hfR
  rw [<- hy] at hqR hrel
  refine aT aC hk1 ?_
  refine bw al hqR.length (fun i v hi=>by rw [hI.cellS hqS]; exact aS rfl i v hi) ?_
  refine bC hI bA fun b10 w' hI=>?_
  refine bq hI 3 rfl al (by simpa using hqR.length) rfl (by simpa using hqR.one) fun w' hI=>?_
  obtain ⟨ys,hys⟩:∃ ys,ys=ba qc (qo+k * 4) 4:=⟨_,rfl⟩
  rw [<- hys] at hqR hI
  have hyl:=hqR.length
  have hI:Inv w [] [.blk b3 (.cells #[.int .i64 g.kind,.int .i64 g.n,.string g.name,kv,.int .i64 (j:Int),.slice (some ⟨fb,fo,none⟩) ks.length fcap] bx),.blk b5 (.cells #[.int .i64 q.head.kind,.int .i64 q.head.n,.string q.head.name,kh,.slice (some ⟨qb,qo,none⟩) q.body.length qcap] cN),.blk mm (.map es ck),.blk b10 (.cells ys.toArray ac)] S1 w':=hI
  have hst2:=gU y x.goal st' hst (fO (eF hxg)).2
  cases hcut:qU y
  ·cases hm:(bE y x.goal st').1
   ·have hI:=hI
    refine ⟨fun D bZ d9 eh ed dt cR cS cP cT cX cV bM bN bU bV bW bX cf cA cz cu cv cw bP w_=>(D 0=true->bP=.agg ys.toArray)/\(D 1=true->cw=.bool false)/\(D 2=true->cv=.bool false)/\(D 3=true->cu=.pointer (some ⟨b3,5,none⟩))/\(D 4=true->cz=.slice (some ⟨fb,fo,none⟩) ks.length fcap)/\(D 5=true->cA=.int .i64 k)/\(D 6=true->cf=.pointer (some ⟨fb,fo+k * 6,none⟩))/\(D 7=true->bX=.pointer (some ⟨fb,fo+k * 6,none⟩))/\(D 8=true->bW=.agg #[.int .i64 x.goal.kind,.int .i64 x.goal.n,.string x.goal.name,fv])/\(D 9=true->bV=.agg ys.toArray)/\(D 10=true->bU=.map (some mm))/\(D 11=true->bN=.bool false)/\(D 12=true->bM=.bool true)/\(D 13=true->cV=.bool true)/\(D 14=true->cX=.bool true)/\(D 15=true->cT=undef)/\(D 16=true->cP=undef)/\(D 17=true->cS=undef)/\(D 18=true->cR=undef)/\(D 19=true->dt=undef)/\(D 20=true->ed=undef)/\(D 21=true->eh=undef)/\(D 22=true->d9=undef)/\(D 23=true->bZ=.bool true)/\∃ es1 ck1,(D 11=false->es1=es/\ck1=ck)/\(D 11=true->KnownM S1 es1 (bE y x.goal st').2)/\Inv w [] [.blk b3 (.cells #[.int .i64 g.kind,.int .i64 g.n,.string g.name,kv,.int .i64 (j:Int),.slice (some ⟨fb,fo,none⟩) ks.length fcap] bx),.blk b5 (.cells #[.int .i64 q.head.kind,.int .i64 q.head.n,.string q.head.name,kh,.slice (some ⟨qb,qo,none⟩) q.body.length qcap] cN),.blk mm (.map es1 ck1),.blk b10 (.cells ys.toArray ac)] S1 w_,⟨ae,ae,ae,ae,ae,ae,ae,ae,ae,ae,ae,ae,ae,ae,ae,ae,ae,ae,ae,ae,ae,ae,ae,ae,⟨es,ck,fun _=>⟨rfl,rfl⟩,ae,hI.draw⟩⟩,⟨?_,?_,?_,?_,?_,?_,?_,?_,?_,?_,?_,?_,?_,?_,?_,?_,?_,?_,?_,?_,?_,?_,?_,?_,trivial⟩,?_⟩
    ·intro D aY  bZ d9 eh ed dt cR cS cP cT cX cV bM bN bU bV bW bX cf cA cz cu cv cw bP w_
     rintro ⟨av,aw,ao,au,az,aq,aA,aE,aH,aL,ai,aj,am,aF,aB,aJ,aI,aK,aV,aW,aX,aZ,bn,bp,⟨es1,ck1,k0,k1,hI⟩⟩
     refine a8 hI 3 al rfl (by simpa using hyl) ?_
     exact ⟨fun _=>rfl,aw,ao,au,az,aq,aA,aE,aH,aL,ai,aj,am,aF,aB,aJ,aI,aK,aV,aW,aX,aZ,bn,bp,⟨es1,ck1,k0,k1,hI⟩⟩
    ·intro D aY cB bZ d9 eh ed dt cR cS cP cT cX cV bM bN bU bV bW bX cf cA cz cu cv cw bP w_
     rintro ⟨av,aw,ao,au,az,aq,aA,aE,aH,aL,ai,aj,am,aF,aB,aJ,aI,aK,aV,aW,aX,aZ,bn,bp,⟨es1,ck1,k0,k1,hI⟩⟩
     obtain rfl:=av cB
     refine Run.callPure kA kM hI (iO hqR) fun w_ hI=>?_
     rw [hcut]
     exact ⟨av,fun _=>rfl,ao,au,az,aq,aA,aE,aH,aL,ai,aj,am,aF,aB,aJ,aI,aK,aV,aW,aX,aZ,bn,bp,⟨es1,ck1,k0,k1,hI⟩⟩
    ·intro D aY c6 q4 bZ d9 eh ed dt cR cS cP cT cX cV bM bN bU bV bW bX cf cA cz cu cv cw bP w_
     rintro ⟨av,aw,ao,au,az,aq,aA,aE,aH,aL,ai,aj,am,aF,aB,aJ,aI,aK,aV,aW,aX,aZ,bn,bp,⟨es1,ck1,k0,k1,hI⟩⟩
     obtain rfl:=aw c6
     exact ⟨av,aw,fun _=>rfl,au,az,aq,aA,aE,aH,aL,ai,aj,am,aF,aB,aJ,aI,aK,aV,aW,aX,aZ,bn,bp,⟨es1,ck1,k0,k1,hI⟩⟩
    ·intro D aY cc bZ d9 eh ed dt cR cS cP cT cX cV bM bN bU bV bW bX cf cA cz cu cv cw bP w_
     rintro ⟨av,aw,ao,au,az,aq,aA,aE,aH,aL,ai,aj,am,aF,aB,aJ,aI,aK,aV,aW,aX,aZ,bn,bp,⟨es1,ck1,k0,k1,hI⟩⟩
     obtain rfl:=ao cc
     repeat (first|refine ab ?_|refine ad (by decide) ?_|refine aa ?_|refine af ?_|refine ag ?_)
     refine bb bK ?_
     exact ⟨av,aw,ao,fun _=>rfl,az,aq,aA,aE,aH,aL,ai,aj,am,aF,aB,aJ,aI,aK,aV,aW,aX,aZ,bn,bp,⟨es1,ck1,k0,k1,hI⟩⟩
    ·intro D aY dq d8 bZ d9 eh ed dt cR cS cP cT cX cV bM bN bU bV bW bX cf cA cz cu cv cw bP w_
     rintro ⟨av,aw,ao,au,az,aq,aA,aE,aH,aL,ai,aj,am,aF,aB,aJ,aI,aK,aV,aW,aX,aZ,bn,bp,⟨es1,ck1,k0,k1,hI⟩⟩
     obtain rfl:=au dq
     obtain rfl:=ao d8
     repeat (first|refine ab ?_|refine ad (by decide) ?_|refine aa ?_|refine af ?_|refine ag ?_)
     refine bj hI 0 bT rfl rfl ?_
     exact ⟨av,aw,ao,au,fun _=>rfl,aq,aA,aE,aH,aL,ai,aj,am,aF,aB,aJ,aI,aK,aV,aW,aX,aZ,bn,bp,⟨es1,ck1,k0,k1,hI⟩⟩
    ·intro D aY cc bZ d9 eh ed dt cR cS cP cT cX cV bM bN bU bV bW bX cf cA cz cu cv cw bP w_
     rintro ⟨av,aw,ao,au,az,aq,aA,aE,aH,aL,ai,aj,am,aF,aB,aJ,aI,aK,aV,aW,aX,aZ,bn,bp,⟨es1,ck1,k0,k1,hI⟩⟩
     obtain rfl:=ao cc
     repeat (first|refine ab ?_|refine ad (by decide) ?_|refine aa ?_|refine af ?_|refine ag ?_)
     exact ⟨av,aw,ao,au,az,fun _=>rfl,aA,aE,aH,aL,ai,aj,am,aF,aB,aJ,aI,aK,aV,aW,aX,aZ,bn,bp,⟨es1,ck1,k0,k1,hI⟩⟩
    ·intro D aY cZ cm B4 bZ d9 eh ed dt cR cS cP cT cX cV bM bN bU bV bW bX cf cA cz cu cv cw bP w_
     rintro ⟨av,aw,ao,au,az,aq,aA,aE,aH,aL,ai,aj,am,aF,aB,aJ,aI,aK,aV,aW,aX,aZ,bn,bp,⟨es1,ck1,k0,k1,hI⟩⟩
     obtain rfl:=az cZ
     obtain rfl:=aq cm
     obtain rfl:=ao B4
     repeat (first|refine ab ?_|refine ad (by decide) ?_|refine aa ?_|refine af ?_|refine ag ?_)
     refine aT bD hk2 ?_
     exact ⟨av,aw,ao,au,az,aq,fun _=>rfl,aE,aH,aL,ai,aj,am,aF,aB,aJ,aI,aK,aV,aW,aX,aZ,bn,bp,⟨es1,ck1,k0,k1,hI⟩⟩
    ·intro D aY ci d8 bZ d9 eh ed dt cR cS cP cT cX cV bM bN bU bV bW bX cf cA cz cu cv cw bP w_
     rintro ⟨av,aw,ao,au,az,aq,aA,aE,aH,aL,ai,aj,am,aF,aB,aJ,aI,aK,aV,aW,aX,aZ,bn,bp,⟨es1,ck1,k0,k1,hI⟩⟩
     obtain rfl:=aA ci
     obtain rfl:=ao d8
     repeat (first|refine ab ?_|refine ad (by decide) ?_|refine aa ?_|refine af ?_|refine ag ?_)
     refine bb ct ?_
     exact ⟨av,aw,ao,au,az,aq,aA,fun _=>rfl,aH,aL,ai,aj,am,aF,aB,aJ,aI,aK,aV,aW,aX,aZ,bn,bp,⟨es1,ck1,k0,k1,hI⟩⟩
    ·intro D aY dT d8 bZ d9 eh ed dt cR cS cP cT cX cV bM bN bU bV bW bX cf cA cz cu cv cw bP w_
     rintro ⟨av,aw,ao,au,az,aq,aA,aE,aH,aL,ai,aj,am,aF,aB,aJ,aI,aK,aV,aW,aX,aZ,bn,bp,⟨es1,ck1,k0,k1,hI⟩⟩
     obtain rfl:=aE dT
     obtain rfl:=ao d8
     repeat (first|refine ab ?_|refine ad (by decide) ?_|refine aa ?_|refine af ?_|refine ag ?_)
     refine bw (cs:=[.int .i64 x.goal.kind,.int .i64 x.goal.n,.string x.goal.name,fv]) al rfl (fun i v hi=>by rw [hI.cellS hfS]; exact aS hfe i v (Bd i v hi)) ?_
     exact ⟨av,aw,ao,au,az,aq,aA,aE,fun _=>rfl,aL,ai,aj,am,aF,aB,aJ,aI,aK,aV,aW,aX,aZ,bn,bp,⟨es1,ck1,k0,k1,hI⟩⟩
    ·intro D aY cc bZ d9 eh ed dt cR cS cP cT cX cV bM bN bU bV bW bX cf cA cz cu cv cw bP w_
     rintro ⟨av,aw,ao,au,az,aq,aA,aE,aH,aL,ai,aj,am,aF,aB,aJ,aI,aK,aV,aW,aX,aZ,bn,bp,⟨es1,ck1,k0,k1,hI⟩⟩
     obtain rfl:=ao cc
     repeat (first|refine ab ?_|refine ad (by decide) ?_|refine aa ?_|refine af ?_|refine ag ?_)
     refine a8 hI 3 al rfl (by simpa using hyl) ?_
     exact ⟨av,aw,ao,au,az,aq,aA,aE,aH,fun _=>rfl,ai,aj,am,aF,aB,aJ,aI,aK,aV,aW,aX,aZ,bn,bp,⟨es1,ck1,k0,k1,hI⟩⟩
    ·intro D aY cc bZ d9 eh ed dt cR cS cP cT cX cV bM bN bU bV bW bX cf cA cz cu cv cw bP w_
     rintro ⟨av,aw,ao,au,az,aq,aA,aE,aH,aL,ai,aj,am,aF,aB,aJ,aI,aK,aV,aW,aX,aZ,bn,bp,⟨es1,ck1,k0,k1,hI⟩⟩
     obtain rfl:=ao cc
     repeat (first|refine ab ?_|refine ad (by decide) ?_|refine aa ?_|refine af ?_|refine ag ?_)
     exact ⟨av,aw,ao,au,az,aq,aA,aE,aH,aL,fun _=>rfl,aj,am,aF,aB,aJ,aI,aK,aV,aW,aX,aZ,bn,bp,⟨es1,ck1,k0,k1,hI⟩⟩
    ·intro D aY dN iJ g7 Du lu bZ d9 eh ed dt cR cS cP cT cX cV bM bN bU bV bW bX cf cA cz cu cv cw bP w_
     rintro ⟨av,aw,ao,au,az,aq,aA,aE,aH,aL,ai,aj,am,aF,aB,aJ,aI,aK,aV,aW,aX,aZ,bn,bp,⟨es1,ck1,k0,k1,hI⟩⟩
     obtain rfl:=aH dN
     obtain rfl:=aL iJ
     obtain rfl:=ai g7
     obtain rfl:=ao Du
     repeat (first|refine ab ?_|refine ad (by decide) ?_|refine aa ?_|refine af ?_|refine ag ?_)
     obtain ⟨e0,e0'⟩:=k0 aY
     rw [e0,e0'] at hI
     have hI:=hI.perm (M:=[.blk b3 (.cells #[.int .i64 g.kind,.int .i64 g.n,.string g.name,kv,.int .i64 (j:Int),.slice (some ⟨fb,fo,none⟩) ks.length fcap] bx),.blk b5 (.cells #[.int .i64 q.head.kind,.int .i64 q.head.n,.string q.head.name,kh,.slice (some ⟨qb,qo,none⟩) q.body.length qcap] cN),.blk b10 (.cells ys.toArray ac)]++[.blk mm (.map es ck)]) (((List.Perm.swap ..).cons _).cons _)
     refine Run.callE (A:=[_,_,_]) gL gJ hI (iw y x.goal S1 _ _ mm ck es st' hqR hfg (jW hqo.2.1 _ hym) (fO (eF hxg)).2 hst hkm) fun v' I' S2 w_=>?_
     rintro ⟨eS,rfl,es1,ck1,rfl,hkx⟩ _ hI
     rw [eS] at hI
     have hI:Inv w [] [.blk b3 (.cells #[.int .i64 g.kind,.int .i64 g.n,.string g.name,kv,.int .i64 (j:Int),.slice (some ⟨fb,fo,none⟩) ks.length fcap] bx),.blk b5 (.cells #[.int .i64 q.head.kind,.int .i64 q.head.n,.string q.head.name,kh,.slice (some ⟨qb,qo,none⟩) q.body.length qcap] cN),.blk mm (.map es1 ck1),.blk b10 (.cells ys.toArray ac)] S1 w_:=hI.perm (((List.Perm.swap ..).cons _).cons _)
     have k0:=fun (h:aD D 11 11=false)=>(Bool.noConfusion h:es1=es/\ck1=ck)
     have k1:=fun (_:aD D 11 11=true)=>hkx
     rw [hm]
     exact ⟨av,aw,ao,au,az,aq,aA,aE,aH,aL,ai,fun _=>rfl,am,aF,aB,aJ,aI,aK,aV,aW,aX,aZ,bn,bp,⟨es1,ck1,k0,k1,hI⟩⟩
    ·intro D aY e7 d8 bZ d9 eh ed dt cR cS cP cT cX cV bM bN bU bV bW bX cf cA cz cu cv cw bP w_
     rintro ⟨av,aw,ao,au,az,aq,aA,aE,aH,aL,ai,aj,am,aF,aB,aJ,aI,aK,aV,aW,aX,aZ,bn,bp,⟨es1,ck1,k0,k1,hI⟩⟩
     obtain rfl:=aj e7
     obtain rfl:=ao d8
     repeat (first|refine ab ?_|refine ad (by decide) ?_|refine aa ?_|refine af ?_|refine ag ?_)
     refine bJ ?_
     exact ⟨av,aw,ao,au,az,aq,aA,aE,aH,aL,ai,aj,fun _=>rfl,aF,aB,aJ,aI,aK,aV,aW,aX,aZ,bn,bp,⟨es1,ck1,k0,k1,hI⟩⟩
    ·intro D aY cc uo bZ d9 eh ed dt cR cS cP cT cX cV bM bN bU bV bW bX cf cA cz cu cv cw bP w_
     rintro ⟨av,aw,ao,au,az,aq,aA,aE,aH,aL,ai,aj,am,aF,aB,aJ,aI,aK,aV,aW,aX,aZ,bn,bp,⟨es1,ck1,k0,k1,hI⟩⟩
     obtain rfl:=ao cc
     obtain rfl:=am uo
     repeat (first|refine ab ?_|refine ad (by decide) ?_|refine aa ?_|refine af ?_|refine ag ?_)
     exact ⟨av,aw,ao,au,az,aq,aA,aE,aH,aL,ai,aj,am,fun _=>rfl,aB,aJ,aI,aK,aV,aW,aX,aZ,bn,bp,⟨es1,ck1,k0,k1,hI⟩⟩
    ·intro D aY fu jX bZ d9 eh ed dt cR cS cP cT cX cV bM bN bU bV bW bX cf cA cz cu cv cw bP w_
     rintro ⟨av,aw,ao,au,az,aq,aA,aE,aH,aL,ai,aj,am,aF,aB,aJ,aI,aK,aV,aW,aX,aZ,bn,bp,⟨es1,ck1,k0,k1,hI⟩⟩
     obtain rfl:=aF fu
     exact ⟨av,aw,ao,au,az,aq,aA,aE,aH,aL,ai,aj,am,aF,fun _=>rfl,aJ,aI,aK,aV,aW,aX,aZ,bn,bp,⟨es1,ck1,k0,k1,hI⟩⟩
    ·intro D aY dv bZ d9 eh ed dt cR cS cP cT cX cV bM bN bU bV bW bX cf cA cz cu cv cw bP w_
     rintro ⟨av,aw,ao,au,az,aq,aA,aE,aH,aL,ai,aj,am,aF,aB,aJ,aI,aK,aV,aW,aX,aZ,bn,bp,⟨es1,ck1,k0,k1,hI⟩⟩
     obtain rfl:=aB dv
     repeat (first|refine ab ?_|refine ad (by decide) ?_|refine aa ?_|refine af ?_|refine ag ?_)
     exact ⟨av,aw,ao,au,az,aq,aA,aE,aH,aL,ai,aj,am,aF,aB,fun _=>rfl,aI,aK,aV,aW,aX,aZ,bn,bp,⟨es1,ck1,k0,k1,hI⟩⟩
    ·intro D aY dv bZ d9 eh ed dt cR cS cP cT cX cV bM bN bU bV bW bX cf cA cz cu cv cw bP w_
     rintro ⟨av,aw,ao,au,az,aq,aA,aE,aH,aL,ai,aj,am,aF,aB,aJ,aI,aK,aV,aW,aX,aZ,bn,bp,⟨es1,ck1,k0,k1,hI⟩⟩
     obtain rfl:=aB dv
     repeat (first|refine ab ?_|refine ad (by decide) ?_|refine aa ?_|refine af ?_|refine ag ?_)
     exact ⟨av,aw,ao,au,az,aq,aA,aE,aH,aL,ai,aj,am,aF,aB,aJ,fun _=>rfl,aK,aV,aW,aX,aZ,bn,bp,⟨es1,ck1,k0,k1,hI⟩⟩
    ·intro D aY mg ft bZ d9 eh ed dt cR cS cP cT cX cV bM bN bU bV bW bX cf cA cz cu cv cw bP w_
     rintro ⟨av,aw,ao,au,az,aq,aA,aE,aH,aL,ai,aj,am,aF,aB,aJ,aI,aK,aV,aW,aX,aZ,bn,bp,⟨es1,ck1,k0,k1,hI⟩⟩
     obtain rfl:=aI mg
     obtain rfl:=aB ft
     repeat (first|refine ab ?_|refine ad (by decide) ?_|refine aa ?_|refine af ?_|refine ag ?_)
     exact ⟨av,aw,ao,au,az,aq,aA,aE,aH,aL,ai,aj,am,aF,aB,aJ,aI,fun _=>rfl,aV,aW,aX,aZ,bn,bp,⟨es1,ck1,k0,k1,hI⟩⟩
    ·intro D aY dv bZ d9 eh ed dt cR cS cP cT cX cV bM bN bU bV bW bX cf cA cz cu cv cw bP w_
     rintro ⟨av,aw,ao,au,az,aq,aA,aE,aH,aL,ai,aj,am,aF,aB,aJ,aI,aK,aV,aW,aX,aZ,bn,bp,⟨es1,ck1,k0,k1,hI⟩⟩
     obtain rfl:=aB dv
     repeat (first|refine ab ?_|refine ad (by decide) ?_|refine aa ?_|refine af ?_|refine ag ?_)
     exact ⟨av,aw,ao,au,az,aq,aA,aE,aH,aL,ai,aj,am,aF,aB,aJ,aI,aK,fun _=>rfl,aW,aX,aZ,bn,bp,⟨es1,ck1,k0,k1,hI⟩⟩
    ·intro D aY Ak z4 jL bZ d9 eh ed dt cR cS cP cT cX cV bM bN bU bV bW bX cf cA cz cu cv cw bP w_
     rintro ⟨av,aw,ao,au,az,aq,aA,aE,aH,aL,ai,aj,am,aF,aB,aJ,aI,aK,aV,aW,aX,aZ,bn,bp,⟨es1,ck1,k0,k1,hI⟩⟩
     obtain rfl:=aK Ak
     obtain rfl:=aV z4
     obtain rfl:=aB jL
     repeat (first|refine ab ?_|refine ad (by decide) ?_|refine aa ?_|refine af ?_|refine ag ?_)
     exact ⟨av,aw,ao,au,az,aq,aA,aE,aH,aL,ai,aj,am,aF,aB,aJ,aI,aK,aV,fun _=>rfl,aX,aZ,bn,bp,⟨es1,ck1,k0,k1,hI⟩⟩
    ·intro D aY oC ft bZ d9 eh ed dt cR cS cP cT cX cV bM bN bU bV bW bX cf cA cz cu cv cw bP w_
     rintro ⟨av,aw,ao,au,az,aq,aA,aE,aH,aL,ai,aj,am,aF,aB,aJ,aI,aK,aV,aW,aX,aZ,bn,bp,⟨es1,ck1,k0,k1,hI⟩⟩
     obtain rfl:=aW oC
     obtain rfl:=aB ft
     repeat (first|refine ab ?_|refine ad (by decide) ?_|refine aa ?_|refine af ?_|refine ag ?_)
     exact ⟨av,aw,ao,au,az,aq,aA,aE,aH,aL,ai,aj,am,aF,aB,aJ,aI,aK,aV,aW,fun _=>rfl,aZ,bn,bp,⟨es1,ck1,k0,k1,hI⟩⟩
    ·intro D aY jl qj jL Fm bZ d9 eh ed dt cR cS cP cT cX cV bM bN bU bV bW bX cf cA cz cu cv cw bP w_
     rintro ⟨av,aw,ao,au,az,aq,aA,aE,aH,aL,ai,aj,am,aF,aB,aJ,aI,aK,aV,aW,aX,aZ,bn,bp,⟨es1,ck1,k0,k1,hI⟩⟩
     obtain rfl:=aJ jl
     obtain rfl:=aX qj
     obtain rfl:=aB jL
     repeat (first|refine ab ?_|refine ad (by decide) ?_|refine aa ?_|refine af ?_|refine ag ?_)
     exact ⟨av,aw,ao,au,az,aq,aA,aE,aH,aL,ai,aj,am,aF,aB,aJ,aI,aK,aV,aW,aX,fun _=>rfl,bn,bp,⟨es1,ck1,k0,k1,hI⟩⟩
    ·intro D aY Af ft bZ d9 eh ed dt cR cS cP cT cX cV bM bN bU bV bW bX cf cA cz cu cv cw bP w_
     rintro ⟨av,aw,ao,au,az,aq,aA,aE,aH,aL,ai,aj,am,aF,aB,aJ,aI,aK,aV,aW,aX,aZ,bn,bp,⟨es1,ck1,k0,k1,hI⟩⟩
     obtain rfl:=aZ Af
     obtain rfl:=aB ft
     repeat (first|refine ab ?_|refine ad (by decide) ?_|refine aa ?_|refine af ?_|refine ag ?_)
     exact ⟨av,aw,ao,au,az,aq,aA,aE,aH,aL,ai,aj,am,aF,aB,aJ,aI,aK,aV,aW,aX,aZ,fun _=>rfl,bp,⟨es1,ck1,k0,k1,hI⟩⟩
    ·intro D aY dv Av bZ d9 eh ed dt cR cS cP cT cX cV bM bN bU bV bW bX cf cA cz cu cv cw bP w_
     rintro ⟨av,aw,ao,au,az,aq,aA,aE,aH,aL,ai,aj,am,aF,aB,aJ,aI,aK,aV,aW,aX,aZ,bn,bp,⟨es1,ck1,k0,k1,hI⟩⟩
     obtain rfl:=aB dv
     obtain rfl:=bn Av
     repeat (first|refine ab ?_|refine ad (by decide) ?_|refine aa ?_|refine af ?_|refine ag ?_)
     exact ⟨av,aw,ao,au,az,aq,aA,aE,aH,aL,ai,aj,am,aF,aB,aJ,aI,aK,aV,aW,aX,aZ,bn,fun _=>rfl,⟨es1,ck1,k0,k1,hI⟩⟩
    intro D Dm Dt zx yM xu yH kU kq jr i5 jq fN dO d7 hY gh fB fk fi e9 fe eQ eZ e8 bZ d9 eh ed dt cR cS cP cT cX cV bM bN bU bV bW bX cf cA cz cu cv cw bP w_
    rintro ⟨av,aw,ao,au,az,aq,aA,aE,aH,aL,ai,aj,am,aF,aB,aJ,aI,aK,aV,aW,aX,aZ,bn,bp,⟨es1,ck1,k0,k1,hI⟩⟩
    obtain rfl:=bp Dm
    obtain rfl:=bn Dt
    obtain rfl:=aZ zx
    obtain rfl:=aX yM
    obtain rfl:=aW xu
    obtain rfl:=aV yH
    obtain rfl:=aK kU
    obtain rfl:=aI kq
    obtain rfl:=aJ jr
    obtain rfl:=aB i5
    obtain rfl:=aF jq
    obtain rfl:=am fN
    obtain rfl:=aj dO
    obtain rfl:=ai d7
    obtain rfl:=aL hY
    obtain rfl:=aH gh
    obtain rfl:=aE fB
    obtain rfl:=aA fk
    obtain rfl:=aq fi
    obtain rfl:=az e9
    obtain rfl:=au fe
    obtain rfl:=ao eQ
    obtain rfl:=aw eZ
    obtain rfl:=av e8
    clear av aw ao au az aq aA aE aH aL ai aj am aF aB aJ aI aK aV aW aX aZ bn bp
    refine bd (fun _=>done hI ?_) (fun hb=>by cases hb)
    rw [<- hrel,hcut,hm]; rfl
   ·have hI:=hI
    refine ⟨fun D bZ d9 eh ed dt cR cS cP cT cX cV bM bN bU bV bW bX cf cA cz cu cv cw bP w_=>(D 0=true->bP=.agg ys.toArray)/\(D 1=true->cw=.bool false)/\(D 2=true->cv=.bool false)/\(D 3=true->cu=.pointer (some ⟨b3,5,none⟩))/\(D 4=true->cz=.slice (some ⟨fb,fo,none⟩) ks.length fcap)/\(D 5=true->cA=.int .i64 k)/\(D 6=true->cf=.pointer (some ⟨fb,fo+k * 6,none⟩))/\(D 7=true->bX=.pointer (some ⟨fb,fo+k * 6,none⟩))/\(D 8=true->bW=.agg #[.int .i64 x.goal.kind,.int .i64 x.goal.n,.string x.goal.name,fv])/\(D 9=true->bV=.agg ys.toArray)/\(D 10=true->bU=.map (some mm))/\(D 11=true->bN=.bool true)/\(D 12=true->bM=.bool false)/\(D 13=true->cV=.bool false)/\(D 14=true->cX=.bool false)/\(D 15=true->cT=.slice (some ⟨pb,po,none⟩) p.length pcap)/\(D 16=true->cP=.pointer (some ⟨b3,5,none⟩))/\(D 17=true->cS=.slice (some ⟨fb,fo,none⟩) ks.length fcap)/\(D 18=true->cR=.int .i64 k)/\(D 19=true->dt=.pointer (some ⟨fb,fo+k * 6,none⟩))/\(D 20=true->ed=.agg (ba fc (fo+k * 6) 6).toArray)/\(D 21=true->eh=.bool (chkF p x))/\(D 22=true->d9=.bool (!chkF p x))/\(D 23=true->bZ=.bool (!chkF p x))/\∃ es1 ck1,(D 11=false->es1=es/\ck1=ck)/\(D 11=true->KnownM S1 es1 (bE y x.goal st').2)/\Inv w [] [.blk b3 (.cells #[.int .i64 g.kind,.int .i64 g.n,.string g.name,kv,.int .i64 (j:Int),.slice (some ⟨fb,fo,none⟩) ks.length fcap] bx),.blk b5 (.cells #[.int .i64 q.head.kind,.int .i64 q.head.n,.string q.head.name,kh,.slice (some ⟨qb,qo,none⟩) q.body.length qcap] cN),.blk mm (.map es1 ck1),.blk b10 (.cells ys.toArray ac)] S1 w_,⟨ae,ae,ae,ae,ae,ae,ae,ae,ae,ae,ae,ae,ae,ae,ae,ae,ae,ae,ae,ae,ae,ae,ae,ae,⟨es,ck,fun _=>⟨rfl,rfl⟩,ae,hI.draw⟩⟩,⟨?_,?_,?_,?_,?_,?_,?_,?_,?_,?_,?_,?_,?_,?_,?_,?_,?_,?_,?_,?_,?_,?_,?_,?_,trivial⟩,?_⟩
    ·intro D aY  bZ d9 eh ed dt cR cS cP cT cX cV bM bN bU bV bW bX cf cA cz cu cv cw bP w_
     rintro ⟨av,aw,ao,au,az,aq,aA,aE,aH,aL,ai,aj,am,aF,aB,aJ,aI,aK,aV,aW,aX,aZ,bn,bp,⟨es1,ck1,k0,k1,hI⟩⟩
     refine a8 hI 3 al rfl (by simpa using hyl) ?_
     exact ⟨fun _=>rfl,aw,ao,au,az,aq,aA,aE,aH,aL,ai,aj,am,aF,aB,aJ,aI,aK,aV,aW,aX,aZ,bn,bp,⟨es1,ck1,k0,k1,hI⟩⟩
    ·intro D aY cB bZ d9 eh ed dt cR cS cP cT cX cV bM bN bU bV bW bX cf cA cz cu cv cw bP w_
     rintro ⟨av,aw,ao,au,az,aq,aA,aE,aH,aL,ai,aj,am,aF,aB,aJ,aI,aK,aV,aW,aX,aZ,bn,bp,⟨es1,ck1,k0,k1,hI⟩⟩
     obtain rfl:=av cB
     refine Run.callPure kA kM hI (iO hqR) fun w_ hI=>?_
     rw [hcut]
     exact ⟨av,fun _=>rfl,ao,au,az,aq,aA,aE,aH,aL,ai,aj,am,aF,aB,aJ,aI,aK,aV,aW,aX,aZ,bn,bp,⟨es1,ck1,k0,k1,hI⟩⟩
    ·intro D aY c6 q4 bZ d9 eh ed dt cR cS cP cT cX cV bM bN bU bV bW bX cf cA cz cu cv cw bP w_
     rintro ⟨av,aw,ao,au,az,aq,aA,aE,aH,aL,ai,aj,am,aF,aB,aJ,aI,aK,aV,aW,aX,aZ,bn,bp,⟨es1,ck1,k0,k1,hI⟩⟩
     obtain rfl:=aw c6
     exact ⟨av,aw,fun _=>rfl,au,az,aq,aA,aE,aH,aL,ai,aj,am,aF,aB,aJ,aI,aK,aV,aW,aX,aZ,bn,bp,⟨es1,ck1,k0,k1,hI⟩⟩
    ·intro D aY cc bZ d9 eh ed dt cR cS cP cT cX cV bM bN bU bV bW bX cf cA cz cu cv cw bP w_
     rintro ⟨av,aw,ao,au,az,aq,aA,aE,aH,aL,ai,aj,am,aF,aB,aJ,aI,aK,aV,aW,aX,aZ,bn,bp,⟨es1,ck1,k0,k1,hI⟩⟩
     obtain rfl:=ao cc
     repeat (first|refine ab ?_|refine ad (by decide) ?_|refine aa ?_|refine af ?_|refine ag ?_)
     refine bb bK ?_
     exact ⟨av,aw,ao,fun _=>rfl,az,aq,aA,aE,aH,aL,ai,aj,am,aF,aB,aJ,aI,aK,aV,aW,aX,aZ,bn,bp,⟨es1,ck1,k0,k1,hI⟩⟩
    ·intro D aY dq d8 bZ d9 eh ed dt cR cS cP cT cX cV bM bN bU bV bW bX cf cA cz cu cv cw bP w_
     rintro ⟨av,aw,ao,au,az,aq,aA,aE,aH,aL,ai,aj,am,aF,aB,aJ,aI,aK,aV,aW,aX,aZ,bn,bp,⟨es1,ck1,k0,k1,hI⟩⟩
     obtain rfl:=au dq
     obtain rfl:=ao d8
     repeat (first|refine ab ?_|refine ad (by decide) ?_|refine aa ?_|refine af ?_|refine ag ?_)
     refine bj hI 0 bT rfl rfl ?_
     exact ⟨av,aw,ao,au,fun _=>rfl,aq,aA,aE,aH,aL,ai,aj,am,aF,aB,aJ,aI,aK,aV,aW,aX,aZ,bn,bp,⟨es1,ck1,k0,k1,hI⟩⟩
    ·intro D aY cc bZ d9 eh ed dt cR cS cP cT cX cV bM bN bU bV bW bX cf cA cz cu cv cw bP w_
     rintro ⟨av,aw,ao,au,az,aq,aA,aE,aH,aL,ai,aj,am,aF,aB,aJ,aI,aK,aV,aW,aX,aZ,bn,bp,⟨es1,ck1,k0,k1,hI⟩⟩
     obtain rfl:=ao cc
     repeat (first|refine ab ?_|refine ad (by decide) ?_|refine aa ?_|refine af ?_|refine ag ?_)
     exact ⟨av,aw,ao,au,az,fun _=>rfl,aA,aE,aH,aL,ai,aj,am,aF,aB,aJ,aI,aK,aV,aW,aX,aZ,bn,bp,⟨es1,ck1,k0,k1,hI⟩⟩
    ·intro D aY cZ cm B4 bZ d9 eh ed dt cR cS cP cT cX cV bM bN bU bV bW bX cf cA cz cu cv cw bP w_
     rintro ⟨av,aw,ao,au,az,aq,aA,aE,aH,aL,ai,aj,am,aF,aB,aJ,aI,aK,aV,aW,aX,aZ,bn,bp,⟨es1,ck1,k0,k1,hI⟩⟩
     obtain rfl:=az cZ
     obtain rfl:=aq cm
     obtain rfl:=ao B4
     repeat (first|refine ab ?_|refine ad (by decide) ?_|refine aa ?_|refine af ?_|refine ag ?_)
     refine aT bD hk2 ?_
     exact ⟨av,aw,ao,au,az,aq,fun _=>rfl,aE,aH,aL,ai,aj,am,aF,aB,aJ,aI,aK,aV,aW,aX,aZ,bn,bp,⟨es1,ck1,k0,k1,hI⟩⟩
    ·intro D aY ci d8 bZ d9 eh ed dt cR cS cP cT cX cV bM bN bU bV bW bX cf cA cz cu cv cw bP w_
     rintro ⟨av,aw,ao,au,az,aq,aA,aE,aH,aL,ai,aj,am,aF,aB,aJ,aI,aK,aV,aW,aX,aZ,bn,bp,⟨es1,ck1,k0,k1,hI⟩⟩
     obtain rfl:=aA ci
     obtain rfl:=ao d8
     repeat (first|refine ab ?_|refine ad (by decide) ?_|refine aa ?_|refine af ?_|refine ag ?_)
     refine bb ct ?_
     exact ⟨av,aw,ao,au,az,aq,aA,fun _=>rfl,aH,aL,ai,aj,am,aF,aB,aJ,aI,aK,aV,aW,aX,aZ,bn,bp,⟨es1,ck1,k0,k1,hI⟩⟩
    ·intro D aY dT d8 bZ d9 eh ed dt cR cS cP cT cX cV bM bN bU bV bW bX cf cA cz cu cv cw bP w_
     rintro ⟨av,aw,ao,au,az,aq,aA,aE,aH,aL,ai,aj,am,aF,aB,aJ,aI,aK,aV,aW,aX,aZ,bn,bp,⟨es1,ck1,k0,k1,hI⟩⟩
     obtain rfl:=aE dT
     obtain rfl:=ao d8
     repeat (first|refine ab ?_|refine ad (by decide) ?_|refine aa ?_|refine af ?_|refine ag ?_)
     refine bw (cs:=[.int .i64 x.goal.kind,.int .i64 x.goal.n,.string x.goal.name,fv]) al rfl (fun i v hi=>by rw [hI.cellS hfS]; exact aS hfe i v (Bd i v hi)) ?_
     exact ⟨av,aw,ao,au,az,aq,aA,aE,fun _=>rfl,aL,ai,aj,am,aF,aB,aJ,aI,aK,aV,aW,aX,aZ,bn,bp,⟨es1,ck1,k0,k1,hI⟩⟩
    ·intro D aY cc bZ d9 eh ed dt cR cS cP cT cX cV bM bN bU bV bW bX cf cA cz cu cv cw bP w_
     rintro ⟨av,aw,ao,au,az,aq,aA,aE,aH,aL,ai,aj,am,aF,aB,aJ,aI,aK,aV,aW,aX,aZ,bn,bp,⟨es1,ck1,k0,k1,hI⟩⟩
     obtain rfl:=ao cc
     repeat (first|refine ab ?_|refine ad (by decide) ?_|refine aa ?_|refine af ?_|refine ag ?_)
     refine a8 hI 3 al rfl (by simpa using hyl) ?_
     exact ⟨av,aw,ao,au,az,aq,aA,aE,aH,fun _=>rfl,ai,aj,am,aF,aB,aJ,aI,aK,aV,aW,aX,aZ,bn,bp,⟨es1,ck1,k0,k1,hI⟩⟩
    ·intro D aY cc bZ d9 eh ed dt cR cS cP cT cX cV bM bN bU bV bW bX cf cA cz cu cv cw bP w_
     rintro ⟨av,aw,ao,au,az,aq,aA,aE,aH,aL,ai,aj,am,aF,aB,aJ,aI,aK,aV,aW,aX,aZ,bn,bp,⟨es1,ck1,k0,k1,hI⟩⟩
     obtain rfl:=ao cc
     repeat (first|refine ab ?_|refine ad (by decide) ?_|refine aa ?_|refine af ?_|refine ag ?_)
     exact ⟨av,aw,ao,au,az,aq,aA,aE,aH,aL,fun _=>rfl,aj,am,aF,aB,aJ,aI,aK,aV,aW,aX,aZ,bn,bp,⟨es1,ck1,k0,k1,hI⟩⟩
    ·intro D aY dN iJ g7 Du lu bZ d9 eh ed dt cR cS cP cT cX cV bM bN bU bV bW bX cf cA cz cu cv cw bP w_
     rintro ⟨av,aw,ao,au,az,aq,aA,aE,aH,aL,ai,aj,am,aF,aB,aJ,aI,aK,aV,aW,aX,aZ,bn,bp,⟨es1,ck1,k0,k1,hI⟩⟩
     obtain rfl:=aH dN
     obtain rfl:=aL iJ
     obtain rfl:=ai g7
     obtain rfl:=ao Du
     repeat (first|refine ab ?_|refine ad (by decide) ?_|refine aa ?_|refine af ?_|refine ag ?_)
     obtain ⟨e0,e0'⟩:=k0 aY
     rw [e0,e0'] at hI
     have hI:=hI.perm (M:=[.blk b3 (.cells #[.int .i64 g.kind,.int .i64 g.n,.string g.name,kv,.int .i64 (j:Int),.slice (some ⟨fb,fo,none⟩) ks.length fcap] bx),.blk b5 (.cells #[.int .i64 q.head.kind,.int .i64 q.head.n,.string q.head.name,kh,.slice (some ⟨qb,qo,none⟩) q.body.length qcap] cN),.blk b10 (.cells ys.toArray ac)]++[.blk mm (.map es ck)]) (((List.Perm.swap ..).cons _).cons _)
     refine Run.callE (A:=[_,_,_]) gL gJ hI (iw y x.goal S1 _ _ mm ck es st' hqR hfg (jW hqo.2.1 _ hym) (fO (eF hxg)).2 hst hkm) fun v' I' S2 w_=>?_
     rintro ⟨eS,rfl,es1,ck1,rfl,hkx⟩ _ hI
     rw [eS] at hI
     have hI:Inv w [] [.blk b3 (.cells #[.int .i64 g.kind,.int .i64 g.n,.string g.name,kv,.int .i64 (j:Int),.slice (some ⟨fb,fo,none⟩) ks.length fcap] bx),.blk b5 (.cells #[.int .i64 q.head.kind,.int .i64 q.head.n,.string q.head.name,kh,.slice (some ⟨qb,qo,none⟩) q.body.length qcap] cN),.blk mm (.map es1 ck1),.blk b10 (.cells ys.toArray ac)] S1 w_:=hI.perm (((List.Perm.swap ..).cons _).cons _)
     have k0:=fun (h:aD D 11 11=false)=>(Bool.noConfusion h:es1=es/\ck1=ck)
     have k1:=fun (_:aD D 11 11=true)=>hkx
     rw [hm]
     exact ⟨av,aw,ao,au,az,aq,aA,aE,aH,aL,ai,fun _=>rfl,am,aF,aB,aJ,aI,aK,aV,aW,aX,aZ,bn,bp,⟨es1,ck1,k0,k1,hI⟩⟩
    ·intro D aY e7 d8 bZ d9 eh ed dt cR cS cP cT cX cV bM bN bU bV bW bX cf cA cz cu cv cw bP w_
     rintro ⟨av,aw,ao,au,az,aq,aA,aE,aH,aL,ai,aj,am,aF,aB,aJ,aI,aK,aV,aW,aX,aZ,bn,bp,⟨es1,ck1,k0,k1,hI⟩⟩
     obtain rfl:=aj e7
     obtain rfl:=ao d8
     repeat (first|refine ab ?_|refine ad (by decide) ?_|refine aa ?_|refine af ?_|refine ag ?_)
     refine bJ ?_
     exact ⟨av,aw,ao,au,az,aq,aA,aE,aH,aL,ai,aj,fun _=>rfl,aF,aB,aJ,aI,aK,aV,aW,aX,aZ,bn,bp,⟨es1,ck1,k0,k1,hI⟩⟩
    ·intro D aY cc uo bZ d9 eh ed dt cR cS cP cT cX cV bM bN bU bV bW bX cf cA cz cu cv cw bP w_
     rintro ⟨av,aw,ao,au,az,aq,aA,aE,aH,aL,ai,aj,am,aF,aB,aJ,aI,aK,aV,aW,aX,aZ,bn,bp,⟨es1,ck1,k0,k1,hI⟩⟩
     obtain rfl:=ao cc
     obtain rfl:=am uo
     repeat (first|refine ab ?_|refine ad (by decide) ?_|refine aa ?_|refine af ?_|refine ag ?_)
     exact ⟨av,aw,ao,au,az,aq,aA,aE,aH,aL,ai,aj,am,fun _=>rfl,aB,aJ,aI,aK,aV,aW,aX,aZ,bn,bp,⟨es1,ck1,k0,k1,hI⟩⟩
    ·intro D aY fu jX bZ d9 eh ed dt cR cS cP cT cX cV bM bN bU bV bW bX cf cA cz cu cv cw bP w_
     rintro ⟨av,aw,ao,au,az,aq,aA,aE,aH,aL,ai,aj,am,aF,aB,aJ,aI,aK,aV,aW,aX,aZ,bn,bp,⟨es1,ck1,k0,k1,hI⟩⟩
     obtain rfl:=aF fu
     exact ⟨av,aw,ao,au,az,aq,aA,aE,aH,aL,ai,aj,am,aF,fun _=>rfl,aJ,aI,aK,aV,aW,aX,aZ,bn,bp,⟨es1,ck1,k0,k1,hI⟩⟩
    ·intro D aY dv bZ d9 eh ed dt cR cS cP cT cX cV bM bN bU bV bW bX cf cA cz cu cv cw bP w_
     rintro ⟨av,aw,ao,au,az,aq,aA,aE,aH,aL,ai,aj,am,aF,aB,aJ,aI,aK,aV,aW,aX,aZ,bn,bp,⟨es1,ck1,k0,k1,hI⟩⟩
     obtain rfl:=aB dv
     repeat (first|refine ab ?_|refine ad (by decide) ?_|refine aa ?_|refine af ?_|refine ag ?_)
     exact ⟨av,aw,ao,au,az,aq,aA,aE,aH,aL,ai,aj,am,aF,aB,fun _=>rfl,aI,aK,aV,aW,aX,aZ,bn,bp,⟨es1,ck1,k0,k1,hI⟩⟩
    ·intro D aY dv bZ d9 eh ed dt cR cS cP cT cX cV bM bN bU bV bW bX cf cA cz cu cv cw bP w_
     rintro ⟨av,aw,ao,au,az,aq,aA,aE,aH,aL,ai,aj,am,aF,aB,aJ,aI,aK,aV,aW,aX,aZ,bn,bp,⟨es1,ck1,k0,k1,hI⟩⟩
     obtain rfl:=aB dv
     repeat (first|refine ab ?_|refine ad (by decide) ?_|refine aa ?_|refine af ?_|refine ag ?_)
     refine bb bK ?_
     exact ⟨av,aw,ao,au,az,aq,aA,aE,aH,aL,ai,aj,am,aF,aB,aJ,fun _=>rfl,aK,aV,aW,aX,aZ,bn,bp,⟨es1,ck1,k0,k1,hI⟩⟩
    ·intro D aY mg ft bZ d9 eh ed dt cR cS cP cT cX cV bM bN bU bV bW bX cf cA cz cu cv cw bP w_
     rintro ⟨av,aw,ao,au,az,aq,aA,aE,aH,aL,ai,aj,am,aF,aB,aJ,aI,aK,aV,aW,aX,aZ,bn,bp,⟨es1,ck1,k0,k1,hI⟩⟩
     obtain rfl:=aI mg
     obtain rfl:=aB ft
     repeat (first|refine ab ?_|refine ad (by decide) ?_|refine aa ?_|refine af ?_|refine ag ?_)
     refine bj hI 0 bT rfl rfl ?_
     exact ⟨av,aw,ao,au,az,aq,aA,aE,aH,aL,ai,aj,am,aF,aB,aJ,aI,fun _=>rfl,aV,aW,aX,aZ,bn,bp,⟨es1,ck1,k0,k1,hI⟩⟩
    ·intro D aY dv bZ d9 eh ed dt cR cS cP cT cX cV bM bN bU bV bW bX cf cA cz cu cv cw bP w_
     rintro ⟨av,aw,ao,au,az,aq,aA,aE,aH,aL,ai,aj,am,aF,aB,aJ,aI,aK,aV,aW,aX,aZ,bn,bp,⟨es1,ck1,k0,k1,hI⟩⟩
     obtain rfl:=aB dv
     repeat (first|refine ab ?_|refine ad (by decide) ?_|refine aa ?_|refine af ?_|refine ag ?_)
     exact ⟨av,aw,ao,au,az,aq,aA,aE,aH,aL,ai,aj,am,aF,aB,aJ,aI,aK,fun _=>rfl,aW,aX,aZ,bn,bp,⟨es1,ck1,k0,k1,hI⟩⟩
    ·intro D aY Ak z4 jL bZ d9 eh ed dt cR cS cP cT cX cV bM bN bU bV bW bX cf cA cz cu cv cw bP w_
     rintro ⟨av,aw,ao,au,az,aq,aA,aE,aH,aL,ai,aj,am,aF,aB,aJ,aI,aK,aV,aW,aX,aZ,bn,bp,⟨es1,ck1,k0,k1,hI⟩⟩
     obtain rfl:=aK Ak
     obtain rfl:=aV z4
     obtain rfl:=aB jL
     repeat (first|refine ab ?_|refine ad (by decide) ?_|refine aa ?_|refine af ?_|refine ag ?_)
     refine aT bD hk2 ?_
     exact ⟨av,aw,ao,au,az,aq,aA,aE,aH,aL,ai,aj,am,aF,aB,aJ,aI,aK,aV,fun _=>rfl,aX,aZ,bn,bp,⟨es1,ck1,k0,k1,hI⟩⟩
    ·intro D aY oC ft bZ d9 eh ed dt cR cS cP cT cX cV bM bN bU bV bW bX cf cA cz cu cv cw bP w_
     rintro ⟨av,aw,ao,au,az,aq,aA,aE,aH,aL,ai,aj,am,aF,aB,aJ,aI,aK,aV,aW,aX,aZ,bn,bp,⟨es1,ck1,k0,k1,hI⟩⟩
     obtain rfl:=aW oC
     obtain rfl:=aB ft
     repeat (first|refine ab ?_|refine ad (by decide) ?_|refine aa ?_|refine af ?_|refine ag ?_)
     refine bw bS hfR.length (fun i v hi=>by rw [hI.cellS hfS]; exact aS rfl i v hi) ?_
     exact ⟨av,aw,ao,au,az,aq,aA,aE,aH,aL,ai,aj,am,aF,aB,aJ,aI,aK,aV,aW,fun _=>rfl,aZ,bn,bp,⟨es1,ck1,k0,k1,hI⟩⟩
    ·intro D aY jl qj jL Fm bZ d9 eh ed dt cR cS cP cT cX cV bM bN bU bV bW bX cf cA cz cu cv cw bP w_
     rintro ⟨av,aw,ao,au,az,aq,aA,aE,aH,aL,ai,aj,am,aF,aB,aJ,aI,aK,aV,aW,aX,aZ,bn,bp,⟨es1,ck1,k0,k1,hI⟩⟩
     obtain rfl:=aJ jl
     obtain rfl:=aX qj
     obtain rfl:=aB jL
     repeat (first|refine ab ?_|refine ad (by decide) ?_|refine aa ?_|refine af ?_|refine ag ?_)
     refine Run.callPure sM sz hI (ih x hxm (d - 1) S1 _ _ hxs hp hfR) fun w_ hI=>?_
     exact ⟨av,aw,ao,au,az,aq,aA,aE,aH,aL,ai,aj,am,aF,aB,aJ,aI,aK,aV,aW,aX,fun _=>rfl,bn,bp,⟨es1,ck1,k0,k1,hI⟩⟩
    ·intro D aY Af ft bZ d9 eh ed dt cR cS cP cT cX cV bM bN bU bV bW bX cf cA cz cu cv cw bP w_
     rintro ⟨av,aw,ao,au,az,aq,aA,aE,aH,aL,ai,aj,am,aF,aB,aJ,aI,aK,aV,aW,aX,aZ,bn,bp,⟨es1,ck1,k0,k1,hI⟩⟩
     obtain rfl:=aZ Af
     obtain rfl:=aB ft
     repeat (first|refine ab ?_|refine ad (by decide) ?_|refine aa ?_|refine af ?_|refine ag ?_)
     refine bJ ?_
     exact ⟨av,aw,ao,au,az,aq,aA,aE,aH,aL,ai,aj,am,aF,aB,aJ,aI,aK,aV,aW,aX,aZ,fun _=>rfl,bp,⟨es1,ck1,k0,k1,hI⟩⟩
    ·intro D aY dv Av bZ d9 eh ed dt cR cS cP cT cX cV bM bN bU bV bW bX cf cA cz cu cv cw bP w_
     rintro ⟨av,aw,ao,au,az,aq,aA,aE,aH,aL,ai,aj,am,aF,aB,aJ,aI,aK,aV,aW,aX,aZ,bn,bp,⟨es1,ck1,k0,k1,hI⟩⟩
     obtain rfl:=aB dv
     obtain rfl:=bn Av
     repeat (first|refine ab ?_|refine ad (by decide) ?_|refine aa ?_|refine af ?_|refine ag ?_)
     exact ⟨av,aw,ao,au,az,aq,aA,aE,aH,aL,ai,aj,am,aF,aB,aJ,aI,aK,aV,aW,aX,aZ,bn,fun _=>rfl,⟨es1,ck1,k0,k1,hI⟩⟩
    intro D Dm Dt zx yM xu yH kU kq jr i5 jq fN dO d7 hY gh fB fk fi e9 fe eQ eZ e8 bZ d9 eh ed dt cR cS cP cT cX cV bM bN bU bV bW bX cf cA cz cu cv cw bP w_
    rintro ⟨av,aw,ao,au,az,aq,aA,aE,aH,aL,ai,aj,am,aF,aB,aJ,aI,aK,aV,aW,aX,aZ,bn,bp,⟨es1,ck1,k0,k1,hI⟩⟩
    obtain rfl:=bp Dm
    obtain rfl:=bn Dt
    obtain rfl:=aZ zx
    obtain rfl:=aX yM
    obtain rfl:=aW xu
    obtain rfl:=aV yH
    obtain rfl:=aK kU
    obtain rfl:=aI kq
    obtain rfl:=aJ jr
    obtain rfl:=aB i5
    obtain rfl:=aF jq
    obtain rfl:=am fN
    obtain rfl:=aj dO
    obtain rfl:=ai d7
    obtain rfl:=aL hY
    obtain rfl:=aH gh
    obtain rfl:=aE fB
    obtain rfl:=aA fk
    obtain rfl:=aq fi
    obtain rfl:=az e9
    obtain rfl:=au fe
    obtain rfl:=ao eQ
    obtain rfl:=aw eZ
    obtain rfl:=av e8
    clear av aw ao au az aq aA aE aH aL ai aj am aF aB aJ aI aK aV aW aX aZ bn bp
    have hkx:=k1 dO
    rw [hcut,hm,Bool.not_false,Bool.true_and,Bool.true_and] at hrel
    cases hck:chkF p x
    ·refine bd (fun _=>done hI ?_) (fun hb=>by cases hb)
     rw [<- hrel,hck]; rfl
    ·refine bd (fun hb=>by cases hb) (fun _=>?_)
     rw [hck,Bool.true_and] at hrel
     refine b0 (by omega) ?_
     exact ⟨⟨k+1,_,es1,ck1,hk1,rfl,hrel,hst2,hkx,hI.pick [true,true,true]⟩,by simp [intOf]; omega⟩
  ·have hI:=hI
   refine ⟨fun D bZ d9 eh ed dt cR cS cP cT cX cV bM bN bU bV bW bX cf cA cz cu cv cw bP w_=>(D 0=true->bP=.agg ys.toArray)/\(D 1=true->cw=.bool true)/\(D 2=true->cv=.bool true)/\(D 3=true->cu=undef)/\(D 4=true->cz=undef)/\(D 5=true->cA=undef)/\(D 6=true->cf=undef)/\(D 7=true->bX=undef)/\(D 8=true->bW=undef)/\(D 9=true->bV=undef)/\(D 10=true->bU=undef)/\(D 11=true->bN=undef)/\(D 12=true->bM=undef)/\(D 13=true->cV=.bool true)/\(D 14=true->cX=.bool true)/\(D 15=true->cT=undef)/\(D 16=true->cP=undef)/\(D 17=true->cS=undef)/\(D 18=true->cR=undef)/\(D 19=true->dt=undef)/\(D 20=true->ed=undef)/\(D 21=true->eh=undef)/\(D 22=true->d9=undef)/\(D 23=true->bZ=.bool true)/\Inv w [] [.blk b3 (.cells #[.int .i64 g.kind,.int .i64 g.n,.string g.name,kv,.int .i64 (j:Int),.slice (some ⟨fb,fo,none⟩) ks.length fcap] bx),.blk b5 (.cells #[.int .i64 q.head.kind,.int .i64 q.head.n,.string q.head.name,kh,.slice (some ⟨qb,qo,none⟩) q.body.length qcap] cN),.blk mm (.map es ck),.blk b10 (.cells ys.toArray ac)] S1 w_,⟨ae,ae,ae,ae,ae,ae,ae,ae,ae,ae,ae,ae,ae,ae,ae,ae,ae,ae,ae,ae,ae,ae,ae,ae,hI.draw⟩,⟨?_,?_,?_,?_,?_,?_,?_,?_,?_,?_,?_,?_,?_,?_,?_,?_,?_,?_,?_,?_,?_,?_,?_,?_,trivial⟩,?_⟩
   ·intro D aY  bZ d9 eh ed dt cR cS cP cT cX cV bM bN bU bV bW bX cf cA cz cu cv cw bP w_
    rintro ⟨av,aw,ao,au,az,aq,aA,aE,aH,aL,ai,aj,am,aF,aB,aJ,aI,aK,aV,aW,aX,aZ,bn,bp,hI⟩
    refine a8 hI 3 al rfl (by simpa using hyl) ?_
    exact ⟨fun _=>rfl,aw,ao,au,az,aq,aA,aE,aH,aL,ai,aj,am,aF,aB,aJ,aI,aK,aV,aW,aX,aZ,bn,bp,hI⟩
   ·intro D aY cB bZ d9 eh ed dt cR cS cP cT cX cV bM bN bU bV bW bX cf cA cz cu cv cw bP w_
    rintro ⟨av,aw,ao,au,az,aq,aA,aE,aH,aL,ai,aj,am,aF,aB,aJ,aI,aK,aV,aW,aX,aZ,bn,bp,hI⟩
    obtain rfl:=av cB
    refine Run.callPure kA kM hI (iO hqR) fun w_ hI=>?_
    rw [hcut]
    exact ⟨av,fun _=>rfl,ao,au,az,aq,aA,aE,aH,aL,ai,aj,am,aF,aB,aJ,aI,aK,aV,aW,aX,aZ,bn,bp,hI⟩
   ·intro D aY c6 q4 bZ d9 eh ed dt cR cS cP cT cX cV bM bN bU bV bW bX cf cA cz cu cv cw bP w_
    rintro ⟨av,aw,ao,au,az,aq,aA,aE,aH,aL,ai,aj,am,aF,aB,aJ,aI,aK,aV,aW,aX,aZ,bn,bp,hI⟩
    obtain rfl:=aw c6
    exact ⟨av,aw,fun _=>rfl,au,az,aq,aA,aE,aH,aL,ai,aj,am,aF,aB,aJ,aI,aK,aV,aW,aX,aZ,bn,bp,hI⟩
   ·intro D aY cc bZ d9 eh ed dt cR cS cP cT cX cV bM bN bU bV bW bX cf cA cz cu cv cw bP w_
    rintro ⟨av,aw,ao,au,az,aq,aA,aE,aH,aL,ai,aj,am,aF,aB,aJ,aI,aK,aV,aW,aX,aZ,bn,bp,hI⟩
    obtain rfl:=ao cc
    repeat (first|refine ab ?_|refine ad (by decide) ?_|refine aa ?_|refine af ?_|refine ag ?_)
    exact ⟨av,aw,ao,fun _=>rfl,az,aq,aA,aE,aH,aL,ai,aj,am,aF,aB,aJ,aI,aK,aV,aW,aX,aZ,bn,bp,hI⟩
   ·intro D aY dq d8 bZ d9 eh ed dt cR cS cP cT cX cV bM bN bU bV bW bX cf cA cz cu cv cw bP w_
    rintro ⟨av,aw,ao,au,az,aq,aA,aE,aH,aL,ai,aj,am,aF,aB,aJ,aI,aK,aV,aW,aX,aZ,bn,bp,hI⟩
    obtain rfl:=au dq
    obtain rfl:=ao d8
    repeat (first|refine ab ?_|refine ad (by decide) ?_|refine aa ?_|refine af ?_|refine ag ?_)
    exact ⟨av,aw,ao,au,fun _=>rfl,aq,aA,aE,aH,aL,ai,aj,am,aF,aB,aJ,aI,aK,aV,aW,aX,aZ,bn,bp,hI⟩
   ·intro D aY cc bZ d9 eh ed dt cR cS cP cT cX cV bM bN bU bV bW bX cf cA cz cu cv cw bP w_
    rintro ⟨av,aw,ao,au,az,aq,aA,aE,aH,aL,ai,aj,am,aF,aB,aJ,aI,aK,aV,aW,aX,aZ,bn,bp,hI⟩
    obtain rfl:=ao cc
    repeat (first|refine ab ?_|refine ad (by decide) ?_|refine aa ?_|refine af ?_|refine ag ?_)
    exact ⟨av,aw,ao,au,az,fun _=>rfl,aA,aE,aH,aL,ai,aj,am,aF,aB,aJ,aI,aK,aV,aW,aX,aZ,bn,bp,hI⟩
   ·intro D aY cZ cm B4 bZ d9 eh ed dt cR cS cP cT cX cV bM bN bU bV bW bX cf cA cz cu cv cw bP w_
    rintro ⟨av,aw,ao,au,az,aq,aA,aE,aH,aL,ai,aj,am,aF,aB,aJ,aI,aK,aV,aW,aX,aZ,bn,bp,hI⟩
    obtain rfl:=az cZ
    obtain rfl:=aq cm
    obtain rfl:=ao B4
    repeat (first|refine ab ?_|refine ad (by decide) ?_|refine aa ?_|refine af ?_|refine ag ?_)
    exact ⟨av,aw,ao,au,az,aq,fun _=>rfl,aE,aH,aL,ai,aj,am,aF,aB,aJ,aI,aK,aV,aW,aX,aZ,bn,bp,hI⟩
   ·intro D aY ci d8 bZ d9 eh ed dt cR cS cP cT cX cV bM bN bU bV bW bX cf cA cz cu cv cw bP w_
    rintro ⟨av,aw,ao,au,az,aq,aA,aE,aH,aL,ai,aj,am,aF,aB,aJ,aI,aK,aV,aW,aX,aZ,bn,bp,hI⟩
    obtain rfl:=aA ci
    obtain rfl:=ao d8
    repeat (first|refine ab ?_|refine ad (by decide) ?_|refine aa ?_|refine af ?_|refine ag ?_)
    exact ⟨av,aw,ao,au,az,aq,aA,fun _=>rfl,aH,aL,ai,aj,am,aF,aB,aJ,aI,aK,aV,aW,aX,aZ,bn,bp,hI⟩
   ·intro D aY dT d8 bZ d9 eh ed dt cR cS cP cT cX cV bM bN bU bV bW bX cf cA cz cu cv cw bP w_
    rintro ⟨av,aw,ao,au,az,aq,aA,aE,aH,aL,ai,aj,am,aF,aB,aJ,aI,aK,aV,aW,aX,aZ,bn,bp,hI⟩
    obtain rfl:=aE dT
    obtain rfl:=ao d8
    repeat (first|refine ab ?_|refine ad (by decide) ?_|refine aa ?_|refine af ?_|refine ag ?_)
    exact ⟨av,aw,ao,au,az,aq,aA,aE,fun _=>rfl,aL,ai,aj,am,aF,aB,aJ,aI,aK,aV,aW,aX,aZ,bn,bp,hI⟩
   ·intro D aY cc bZ d9 eh ed dt cR cS cP cT cX cV bM bN bU bV bW bX cf cA cz cu cv cw bP w_
    rintro ⟨av,aw,ao,au,az,aq,aA,aE,aH,aL,ai,aj,am,aF,aB,aJ,aI,aK,aV,aW,aX,aZ,bn,bp,hI⟩
    obtain rfl:=ao cc
    repeat (first|refine ab ?_|refine ad (by decide) ?_|refine aa ?_|refine af ?_|refine ag ?_)
    exact ⟨av,aw,ao,au,az,aq,aA,aE,aH,fun _=>rfl,ai,aj,am,aF,aB,aJ,aI,aK,aV,aW,aX,aZ,bn,bp,hI⟩
   ·intro D aY cc bZ d9 eh ed dt cR cS cP cT cX cV bM bN bU bV bW bX cf cA cz cu cv cw bP w_
    rintro ⟨av,aw,ao,au,az,aq,aA,aE,aH,aL,ai,aj,am,aF,aB,aJ,aI,aK,aV,aW,aX,aZ,bn,bp,hI⟩
    obtain rfl:=ao cc
    repeat (first|refine ab ?_|refine ad (by decide) ?_|refine aa ?_|refine af ?_|refine ag ?_)
    exact ⟨av,aw,ao,au,az,aq,aA,aE,aH,aL,fun _=>rfl,aj,am,aF,aB,aJ,aI,aK,aV,aW,aX,aZ,bn,bp,hI⟩
   ·intro D aY dN iJ g7 Du lu bZ d9 eh ed dt cR cS cP cT cX cV bM bN bU bV bW bX cf cA cz cu cv cw bP w_
    rintro ⟨av,aw,ao,au,az,aq,aA,aE,aH,aL,ai,aj,am,aF,aB,aJ,aI,aK,aV,aW,aX,aZ,bn,bp,hI⟩
    obtain rfl:=aH dN
    obtain rfl:=aL iJ
    obtain rfl:=ai g7
    obtain rfl:=ao Du
    repeat (first|refine ab ?_|refine ad (by decide) ?_|refine aa ?_|refine af ?_|refine ag ?_)
    exact ⟨av,aw,ao,au,az,aq,aA,aE,aH,aL,ai,fun _=>rfl,am,aF,aB,aJ,aI,aK,aV,aW,aX,aZ,bn,bp,hI⟩
   ·intro D aY e7 d8 bZ d9 eh ed dt cR cS cP cT cX cV bM bN bU bV bW bX cf cA cz cu cv cw bP w_
    rintro ⟨av,aw,ao,au,az,aq,aA,aE,aH,aL,ai,aj,am,aF,aB,aJ,aI,aK,aV,aW,aX,aZ,bn,bp,hI⟩
    obtain rfl:=aj e7
    obtain rfl:=ao d8
    repeat (first|refine ab ?_|refine ad (by decide) ?_|refine aa ?_|refine af ?_|refine ag ?_)
    exact ⟨av,aw,ao,au,az,aq,aA,aE,aH,aL,ai,aj,fun _=>rfl,aF,aB,aJ,aI,aK,aV,aW,aX,aZ,bn,bp,hI⟩
   ·intro D aY cc uo bZ d9 eh ed dt cR cS cP cT cX cV bM bN bU bV bW bX cf cA cz cu cv cw bP w_
    rintro ⟨av,aw,ao,au,az,aq,aA,aE,aH,aL,ai,aj,am,aF,aB,aJ,aI,aK,aV,aW,aX,aZ,bn,bp,hI⟩
    obtain rfl:=ao cc
    obtain rfl:=am uo
    repeat (first|refine ab ?_|refine ad (by decide) ?_|refine aa ?_|refine af ?_|refine ag ?_)
    exact ⟨av,aw,ao,au,az,aq,aA,aE,aH,aL,ai,aj,am,fun _=>rfl,aB,aJ,aI,aK,aV,aW,aX,aZ,bn,bp,hI⟩
   ·intro D aY fu jX bZ d9 eh ed dt cR cS cP cT cX cV bM bN bU bV bW bX cf cA cz cu cv cw bP w_
    rintro ⟨av,aw,ao,au,az,aq,aA,aE,aH,aL,ai,aj,am,aF,aB,aJ,aI,aK,aV,aW,aX,aZ,bn,bp,hI⟩
    obtain rfl:=aF fu
    exact ⟨av,aw,ao,au,az,aq,aA,aE,aH,aL,ai,aj,am,aF,fun _=>rfl,aJ,aI,aK,aV,aW,aX,aZ,bn,bp,hI⟩
   ·intro D aY dv bZ d9 eh ed dt cR cS cP cT cX cV bM bN bU bV bW bX cf cA cz cu cv cw bP w_
    rintro ⟨av,aw,ao,au,az,aq,aA,aE,aH,aL,ai,aj,am,aF,aB,aJ,aI,aK,aV,aW,aX,aZ,bn,bp,hI⟩
    obtain rfl:=aB dv
    repeat (first|refine ab ?_|refine ad (by decide) ?_|refine aa ?_|refine af ?_|refine ag ?_)
    exact ⟨av,aw,ao,au,az,aq,aA,aE,aH,aL,ai,aj,am,aF,aB,fun _=>rfl,aI,aK,aV,aW,aX,aZ,bn,bp,hI⟩
   ·intro D aY dv bZ d9 eh ed dt cR cS cP cT cX cV bM bN bU bV bW bX cf cA cz cu cv cw bP w_
    rintro ⟨av,aw,ao,au,az,aq,aA,aE,aH,aL,ai,aj,am,aF,aB,aJ,aI,aK,aV,aW,aX,aZ,bn,bp,hI⟩
    obtain rfl:=aB dv
    repeat (first|refine ab ?_|refine ad (by decide) ?_|refine aa ?_|refine af ?_|refine ag ?_)
    exact ⟨av,aw,ao,au,az,aq,aA,aE,aH,aL,ai,aj,am,aF,aB,aJ,fun _=>rfl,aK,aV,aW,aX,aZ,bn,bp,hI⟩
   ·intro D aY mg ft bZ d9 eh ed dt cR cS cP cT cX cV bM bN bU bV bW bX cf cA cz cu cv cw bP w_
    rintro ⟨av,aw,ao,au,az,aq,aA,aE,aH,aL,ai,aj,am,aF,aB,aJ,aI,aK,aV,aW,aX,aZ,bn,bp,hI⟩
    obtain rfl:=aI mg
    obtain rfl:=aB ft
    repeat (first|refine ab ?_|refine ad (by decide) ?_|refine aa ?_|refine af ?_|refine ag ?_)
    exact ⟨av,aw,ao,au,az,aq,aA,aE,aH,aL,ai,aj,am,aF,aB,aJ,aI,fun _=>rfl,aV,aW,aX,aZ,bn,bp,hI⟩
   ·intro D aY dv bZ d9 eh ed dt cR cS cP cT cX cV bM bN bU bV bW bX cf cA cz cu cv cw bP w_
    rintro ⟨av,aw,ao,au,az,aq,aA,aE,aH,aL,ai,aj,am,aF,aB,aJ,aI,aK,aV,aW,aX,aZ,bn,bp,hI⟩
    obtain rfl:=aB dv
    repeat (first|refine ab ?_|refine ad (by decide) ?_|refine aa ?_|refine af ?_|refine ag ?_)
    exact ⟨av,aw,ao,au,az,aq,aA,aE,aH,aL,ai,aj,am,aF,aB,aJ,aI,aK,fun _=>rfl,aW,aX,aZ,bn,bp,hI⟩
   ·intro D aY Ak z4 jL bZ d9 eh ed dt cR cS cP cT cX cV bM bN bU bV bW bX cf cA cz cu cv cw bP w_
    rintro ⟨av,aw,ao,au,az,aq,aA,aE,aH,aL,ai,aj,am,aF,aB,aJ,aI,aK,aV,aW,aX,aZ,bn,bp,hI⟩
    obtain rfl:=aK Ak
    obtain rfl:=aV z4
    obtain rfl:=aB jL
    repeat (first|refine ab ?_|refine ad (by decide) ?_|refine aa ?_|refine af ?_|refine ag ?_)
    exact ⟨av,aw,ao,au,az,aq,aA,aE,aH,aL,ai,aj,am,aF,aB,aJ,aI,aK,aV,fun _=>rfl,aX,aZ,bn,bp,hI⟩
   ·intro D aY oC ft bZ d9 eh ed dt cR cS cP cT cX cV bM bN bU bV bW bX cf cA cz cu cv cw bP w_
    rintro ⟨av,aw,ao,au,az,aq,aA,aE,aH,aL,ai,aj,am,aF,aB,aJ,aI,aK,aV,aW,aX,aZ,bn,bp,hI⟩
    obtain rfl:=aW oC
    obtain rfl:=aB ft
    repeat (first|refine ab ?_|refine ad (by decide) ?_|refine aa ?_|refine af ?_|refine ag ?_)
    exact ⟨av,aw,ao,au,az,aq,aA,aE,aH,aL,ai,aj,am,aF,aB,aJ,aI,aK,aV,aW,fun _=>rfl,aZ,bn,bp,hI⟩
   ·intro D aY jl qj jL Fm bZ d9 eh ed dt cR cS cP cT cX cV bM bN bU bV bW bX cf cA cz cu cv cw bP w_
    rintro ⟨av,aw,ao,au,az,aq,aA,aE,aH,aL,ai,aj,am,aF,aB,aJ,aI,aK,aV,aW,aX,aZ,bn,bp,hI⟩
    obtain rfl:=aJ jl
    obtain rfl:=aX qj
    obtain rfl:=aB jL
    repeat (first|refine ab ?_|refine ad (by decide) ?_|refine aa ?_|refine af ?_|refine ag ?_)
    exact ⟨av,aw,ao,au,az,aq,aA,aE,aH,aL,ai,aj,am,aF,aB,aJ,aI,aK,aV,aW,aX,fun _=>rfl,bn,bp,hI⟩
   ·intro D aY Af ft bZ d9 eh ed dt cR cS cP cT cX cV bM bN bU bV bW bX cf cA cz cu cv cw bP w_
    rintro ⟨av,aw,ao,au,az,aq,aA,aE,aH,aL,ai,aj,am,aF,aB,aJ,aI,aK,aV,aW,aX,aZ,bn,bp,hI⟩
    obtain rfl:=aZ Af
    obtain rfl:=aB ft
    repeat (first|refine ab ?_|refine ad (by decide) ?_|refine aa ?_|refine af ?_|refine ag ?_)
    exact ⟨av,aw,ao,au,az,aq,aA,aE,aH,aL,ai,aj,am,aF,aB,aJ,aI,aK,aV,aW,aX,aZ,fun _=>rfl,bp,hI⟩
   ·intro D aY dv Av bZ d9 eh ed dt cR cS cP cT cX cV bM bN bU bV bW bX cf cA cz cu cv cw bP w_
    rintro ⟨av,aw,ao,au,az,aq,aA,aE,aH,aL,ai,aj,am,aF,aB,aJ,aI,aK,aV,aW,aX,aZ,bn,bp,hI⟩
    obtain rfl:=aB dv
    obtain rfl:=bn Av
    repeat (first|refine ab ?_|refine ad (by decide) ?_|refine aa ?_|refine af ?_|refine ag ?_)
    exact ⟨av,aw,ao,au,az,aq,aA,aE,aH,aL,ai,aj,am,aF,aB,aJ,aI,aK,aV,aW,aX,aZ,bn,fun _=>rfl,hI⟩
   intro D Dm Dt zx yM xu yH kU kq jr i5 jq fN dO d7 hY gh fB fk fi e9 fe eQ eZ e8 bZ d9 eh ed dt cR cS cP cT cX cV bM bN bU bV bW bX cf cA cz cu cv cw bP w_
   rintro ⟨av,aw,ao,au,az,aq,aA,aE,aH,aL,ai,aj,am,aF,aB,aJ,aI,aK,aV,aW,aX,aZ,bn,bp,hI⟩
   obtain rfl:=bp Dm
   obtain rfl:=bn Dt
   obtain rfl:=aZ zx
   obtain rfl:=aX yM
   obtain rfl:=aW xu
   obtain rfl:=aV yH
   obtain rfl:=aK kU
   obtain rfl:=aI kq
   obtain rfl:=aJ jr
   obtain rfl:=aB i5
   obtain rfl:=aF jq
   obtain rfl:=am fN
   obtain rfl:=aj dO
   obtain rfl:=ai d7
   obtain rfl:=aL hY
   obtain rfl:=aH gh
   obtain rfl:=aE fB
   obtain rfl:=aA fk
   obtain rfl:=aq fi
   obtain rfl:=az e9
   obtain rfl:=au fe
   obtain rfl:=ao eQ
   obtain rfl:=aw eZ
   obtain rfl:=av e8
   clear av aw ao au az aq aA aE aH aL ai aj am aF aB aJ aI aK aV aW aX aZ bn bp
   refine bd (fun _=>done hI ?_) (fun hb=>by cases hb)
   rw [<- hrel,hcut]; rfl
 ·have:k=q.body.length:=by omega
  subst this
  refine done hI ?_
  rw [<- hrel,List.drop_length]
  generalize ks.drop q.body.length=zs
  cases zs <;> rfl
noncomputable def checkB (p:List C) (x:PF):Bool:=jG p && (jf x && chkF p x)
theorem ux {x:PF} (h:jf x=true):l5 x 20=true:=by
 rw [jf,Bool.and_eq_true] at h; exact h.1
theorem nW {p:List C} {x:PF} {S:ar} {u:Value} {cs:List Value} (hp:RdSl S 5 (RdC S) u p) (h:RdF S cs x):Pure Tryz.prog vp [u,.agg cs.toArray] S (.bool (checkB p x)):=by
 intro w hI
 have hl:=h.length
 refine n8 ?_
 unfold li;dsimp only
 refine bt hI fun b3 w' hI=>?_
 refine Run.callPure pi o0 hI (mM hp) fun w' hI=>?_
 rw [checkB]
 cases hpv:jG p
 ·repeat (first|refine ab ?_|refine ad (by decide) ?_|refine aa ?_|refine af ?_|refine ag ?_)
  exact done hI rfl
 repeat (first|refine ab ?_|refine ad (by decide) ?_|refine aa ?_|refine af ?_|refine ag ?_)
 refine a8 hI 0 bS rfl (by simpa [Value.cells] using hl) ?_
 refine Run.callPure s4 s6 hI (pn h) fun w' hI=>?_
 cases hv:jf x
 ·repeat (first|refine ab ?_|refine ad (by decide) ?_|refine aa ?_|refine af ?_|refine ag ?_)
  exact done hI rfl
 repeat (first|refine ab ?_|refine ad (by decide) ?_|refine aa ?_|refine af ?_|refine ag ?_)
 refine a8 hI 0 bS rfl (by simpa [Value.cells] using hl) ?_
 refine Run.callPure sM sz hI (vJ hpv x 20 S u cs (ux hv) hp h) fun w' hI=>?_
 repeat (first|refine ab ?_|refine ad (by decide) ?_|refine aa ?_|refine af ?_|refine ag ?_)
 exact done hI rfl
theorem ox {p:List C} {x:PF} {S:ar} {u:Value} {cs:List Value} (hp:RdSl S 5 (RdC S) u p) (h:RdF S cs x) (hw:wP p<=1048576) (hw2:wF x<=1048576):Pure Tryz.prog uC [u,.agg cs.toArray] S (.bool (checkB p x)):=by
 intro w hI
 have hl:=h.length
 refine nV ?_
 unfold lk;dsimp only
 refine bt hI fun b3 w' hI=>?_
 refine Run.callPure qa o9 hI (lE hp hw) fun w' hI=>?_
 rw [checkB]
 cases hpv:jG p
 ·repeat (first|refine ab ?_|refine ad (by decide) ?_|refine aa ?_|refine af ?_|refine ag ?_)
  exact done hI rfl
 repeat (first|refine ab ?_|refine ad (by decide) ?_|refine aa ?_|refine af ?_|refine ag ?_)
 refine a8 hI 0 bS rfl (by simpa [Value.cells] using hl) ?_
 refine Run.callPure tY s5 hI (qn h hw2) fun w' hI=>?_
 cases hv:jf x
 ·repeat (first|refine ab ?_|refine ad (by decide) ?_|refine aa ?_|refine af ?_|refine ag ?_)
  exact done hI rfl
 repeat (first|refine ab ?_|refine ad (by decide) ?_|refine aa ?_|refine af ?_|refine ag ?_)
 refine a8 hI 0 bS rfl (by simpa [Value.cells] using hl) ?_
 refine Run.callPure nH nC hI (vK hpv x 20 S u cs (ux hv) hp h) fun w' hI=>?_
 repeat (first|refine ab ?_|refine ad (by decide) ?_|refine aa ?_|refine af ?_|refine ag ?_)
 exact done hI rfl
end
end Go.Proofs.YtfcbhfjomgopbaaGreat
