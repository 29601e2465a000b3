/- spec.ReadTerm, l13Pair, l13Draw. -/
import Derived.Test.YtfcbhfjomgopbaaGreatZFf7
import Derived.Test.YtfcbhfjomgopbaaGreatZFf14
import Derived.Test.YtfcbhfjomgopbaaGreatZFf11
namespace Go.Proofs.YtfcbhfjomgopbaaGreat
section
open Go Go.RowKit
def PH (s:ByteArray):Bool:=match iz 60 (bs s) 0 30 3 with
 | some (t,n)=>decide (n=s.size) && (dd t && decide (s.size<=1000))
 | none=>false
theorem Nq {s:ByteArray} (h:PH s=true):∃ t,iz 60 (bs s) 0 30 3=some (t,s.size)/\dd t=true/\s.size<=1000:=by
 unfold PH at h
 split at h
 ·rename_i t n hq
  simp only [Bool.and_eq_true,decide_eq_true_eq] at h
  obtain ⟨rfl,h2,h3⟩:=h
  exact ⟨t,hq,h2,h3⟩
 ·cases h
theorem FindO.w {p:List C} (hp:∀ cl∈p,vM cl) (hpl:p.length<=1000000) {k n:Nat} {s:Se} (hs:mp p.length s) (ho:okP s) (hx:okXk k s) {o:Option PF} (h:FindO p n s o):∀ y,o=some y->wF y<=842 * (k+n):=by
 obtain ⟨oS,h1,⟨rfl,rfl⟩|⟨t,rfl,h2⟩⟩:=h
 ·intro y e; cases e
 ·obtain ⟨q1,_,_⟩:=h1.ok (fun cl hc=>(hp cl hc).cf) hs ho t rfl
  exact h2.w q1 (h1.okXk hp hpl k hs hx t rfl)
theorem Ka {q:List T} (h:Vq q):∃ h0:0<q.length,dd q[0]=true:=by
 obtain ⟨h1,h2⟩:=h
 rw [iR] at h1
 simp only [Bool.and_eq_true,List.all_eq_true] at h1
 exact ⟨h2,ek (h1.2 _ (List.getElem_mem h2))⟩
section
variable {br:Nat} {sl:Value} {ys:List Nat} {S:ae}
attribute [local irreducible] Run CondV aB aS
theorem BD {s:ByteArray} (h:PH s=true):Tri Tryz.prog FW [.string s] [] S fun v I' S'=>I'=[]/\∃ cs t,v=.tuple #[.agg cs.toArray,.bool true]/\RdT S' cs t/\dd t=true:=by
 intro w hI
 obtain ⟨t,hq,hv,hs⟩:=Nq h
 have hwt:=oo hv
 have hbs:(bs s).length=s.size:=(kq (bs s)).symm
 refine sR.2 ?_
 dsimp only[sR,aO]
 refine aG hI aP fun b2 w' hI=>?_
 obtain ⟨B2,hB2⟩:∃ B:Item,B=.blk b2 (.cells zT4 ab):=⟨_,rfl⟩
 have e2:=congrArg some hB2
 have hI:Inv w [] [B2] S w':=by rw [hB2]; exact hI
 refine gq aR ?_
 refine jN (by omega) ?_
 refine az (fun hb=>by cases hb) (fun _=>?_)
 refine Run.call0E fl fq hI (xO 60 (bs s) 0 30 3 t s.size S hq (Nat.le_trans (Nat.le_of_eq hbs) (by omega)) (Nat.zero_le _) (by omega) (by omega)) fun v I' S1 w'=>?_
 rintro ⟨rfl,cs,rfl,hcs⟩ hE1 hI
 have hcl:=hcs.length
 refine aj (v:=.agg cs.toArray) rfl ?_
 refine aj (v:=.int .i64 (s.size:Int)) rfl ?_
 refine aG hI aP fun b4 w' hI=>?_
 have hI:Inv w [] [B2,.blk b4 (.cells zT4 ab)] S1 w':=hI
 refine ao hI 1 rfl ac (by simpa using hcl) rfl (by simpa using hcs.one) fun w' hI=>?_
 have hI:Inv w [] [B2,.blk b4 (.cells cs.toArray ab)] S1 w':=hI
 refine ⟨fun q w'=>q=.bool false/\Inv w [] [B2,.blk b4 (.cells cs.toArray ab)] S1 w',?_,?_⟩
 ·refine gq aR ?_
  refine cE ?_
  rw [decide_eq_true rfl]
  refine rpG ?_
  refine aq hI 1 ac rfl (by simpa using hcl) ?_
  refine Run.callPure fW gd hI (fi hcs (Ah (by omega))) fun w' hI=>?_
  rw [hv]
  refine bM ?_
  refine rpG ?_
  exact ⟨rfl,hI⟩
 intro q _ _ _ _ _ _ _ _ w'
 rintro ⟨rfl,hI⟩
 refine az (fun hb=>by cases hb) (fun _=>?_)
 refine aq hI 1 ac rfl (by simpa using hcl) ?_
 refine Run.call0E eo ei hI (eI t S1 cs hcs (by omega)) fun v' I' S' w'=>?_
 rintro ⟨eS,ds,L,rfl,rfl,hT⟩ _ hI
 rw [eS] at hI
 obtain ⟨S2,hI,hE2,hins⟩:=hI.pubExt
 have hds:=hT.rd hins
 have hdl:=hds.length
 refine ao hI 0 e2 ac (by simpa using hdl) rfl (by simpa using hds.one) fun w' hI=>?_
 refine aW hI 0 ac rfl (by simpa using hdl) ?_
 exact ⟨_,[],S2,rfl,hI.nil,hE1.trans hE2,rfl,ds,t,rfl,hds,hv⟩
abbrev Rv (br:Nat) (sl:Value) (p k:Nat):Value->List Item->ae->Prop:=fun v I' S'=>∃ p',p'<=p+k/\I'=[rdI br sl p']/\∃ u cs ps t,v=.tuple #[u,.agg cs.toArray]/\RdSl S' 5 (RdC S') u ps/\Light 8 200 ps/\0<ps.length/\(∀ c∈ps,ce c=true)/\RdT S' cs t/\dd t=true
theorem C0 {p:Nat} (hrd:RdSl S 1 jC sl ys) (hp:p<=9000000):Tri Tryz.prog IG [rdP br] [rdI br sl p] S (Rv br sl p 7):=by
 intro w hI
 refine uy.2 ?_
 dsimp only[uy,aO]
 refine aG hI aP fun b3 w' hI=>?_
 obtain ⟨B3,hB3⟩:∃ B:Item,B=.blk b3 (.cells zT4 ab):=⟨_,rfl⟩
 have e3:=congrArg some hB3
 have hI:Inv w [br] [B3,rdI br sl p] S w':=by rw [hB3]; exact hI.last 0 rfl
 refine Run.callL bO bN hI (cY (n:=4) hrd (by omega) (by omega)) rfl fun v' I' S0 w'=>?_
 rintro ⟨rfl,rfl,k,hk,rfl⟩ _ hI
 have hI:Inv w [br] [B3,rdI br sl (p+1)] S0 w':=hI
 refine dv ?_
 refine aI (fun _=>?_) (fun _=>?_)
 ·refine th hI (by kernel_rfl) rfl (by omega) fun v1 S1 w' hE1 hv1 hI=>?_
  have hI:Inv w [br] [B3,rdI br sl (p+1)] S1 w':=hI
  refine Run.callL ez ey hI (iV (p:=p+1) (hrd.monoU hE1.1) hv1 (by decide) (by omega)) rfl fun v' I' S2 w'=>?_
  rintro ⟨rfl,rfl,n,hn,rfl⟩ _ hI
  have hI:Inv w [br] [B3,rdI br sl (p+2)] S2 w':=hI
  refine eV hI (by kernel_rfl) rfl (by omega) fun v3 S3 w' hE3 hv3 hI=>?_
  have hE03:=hE1.trans hE3
  obtain ⟨L,hL,k,rfl,hk11,hkL,hkok⟩:∃ L:List ByteArray,RdSl S3 1 mS v3 L/\∃ k:Nat,n=(k:Int)/\k<11/\∃ h:k<L.length,PH L[k]=true:=by
   refine ⟨_,hv3,?_⟩
   have hn:n∈([0,1,2,3,5,9,0]:List Int):=hn
   simp only [List.mem_cons,List.not_mem_nil,or_false] at hn
   rcases hn with rfl|rfl|rfl|rfl|rfl|rfl|rfl
   ·exact ⟨0,rfl,by decide,by decide,by decide +kernel⟩
   ·exact ⟨1,rfl,by decide,by decide,by decide +kernel⟩
   ·exact ⟨2,rfl,by decide,by decide,by decide +kernel⟩
   ·exact ⟨3,rfl,by decide,by decide,by decide +kernel⟩
   ·exact ⟨5,rfl,by decide,by decide,by decide +kernel⟩
   ·exact ⟨9,rfl,by decide,by decide,by decide +kernel⟩
   ·exact ⟨0,rfl,by decide,by decide,by decide +kernel⟩
  have hI:Inv w [br] [B3,rdI br sl (p+2)] S3 w':=hI
  refine Run.call0E vX vL hI (sI S3) fun v' I' S4 w'=>?_
  rintro ⟨rfl,l,hl,hl11,hok⟩ hE4 hI
  have hI:Inv w [br] [B3,rdI br sl (p+2)] S4 w':=hI
  have hk2:k<l.length:=by omega
  refine fy hI hl cg aJ hk2 (fun cs hcs=>hcs) ?_
  rw [List.all_eq_true] at hok
  refine Run.call0E l5 lP hI (Ea (hok _ (List.getElem_mem hk2))) fun v I' S5 w'=>?_
  rintro ⟨u,css,ps,rfl,rfl,hR,h0,hps,hpv⟩ hE5 hI
  have hI:Inv w [br] [aL u av 5 css,B3,rdI br sl (p+2)] S5 w':=hI.perm (by
   refine List.Perm.trans (List.Perm.swap _ _ _) ?_
   exact (List.Perm.swap _ _ _).cons _)
  obtain ⟨S6,hE6,hI,hr⟩:=pu hI hR
  have hE06:=((hE03.trans hE4).trans hE5).trans hE6
  have hE36:=(hE4.trans hE5).trans hE6
  refine aj (v:=u) rfl ?_
  refine aj (v:=.bool true) rfl ?_
  refine fy hI (hL.monoS hE36.1) cg aJ hkL (fun cs hcs=>hcs) ?_
  refine Run.call0E DI DN hI (BD hkok) fun v' I' S7 w'=>?_
  rintro ⟨rfl,cs,t,rfl,hcs,htv⟩ hE7 hI
  have hcl:=hcs.length
  refine aj (v:=.agg cs.toArray) rfl ?_
  refine aj (v:=.bool true) rfl ?_
  refine aG hI aP fun b8 w' hI=>?_
  have hI:Inv w [br] [B3,rdI br sl (p+2),.blk b8 (.cells zT4 ab)] S7 w':=hI
  refine ao hI 2 rfl ac (by simpa using hcl) rfl (by simpa using hcs.one) fun w' hI=>?_
  have hI:Inv w [br] [.blk b3 (.cells zT4 ab),rdI br sl (p+2),.blk b8 (.cells cs.toArray ab)] S7 w':=by rw [<- hB3]; exact hI
  have hIk:=hI
  obtain ⟨ua,uc,rfl,_⟩:=id hr
  have hI:=hIk
  have hI0:=hI
  refine ⟨fun D x2 jL kz w_=>Fx D 0 [kz=.slice ua ps.length uc,jL=.agg cs.toArray,x2=.slice ua ps.length uc,True]/\Inv w [br] [.blk b3 (.cells (cond (D 3) cs.toArray zT4) ab),rdI br sl (p+2),.blk b8 (.cells cs.toArray ab)] S7 w_,⟨Fx.nil _ _,hI.draw⟩,⟨?_,?_,?_,?_,trivial⟩,?_⟩
  all_goals (intro D bo; intros; rename_i x2 jL kz w_ hA_; have hF_:=hA_.1; obtain ⟨⟨bU,bV,bH,bR,_⟩,hI⟩:=hA_)
  ·exact ⟨hF_.set 0 rfl,hI⟩
  ·refine aq hI 2 ac rfl (by simpa using hcl) ?_
   exact ⟨hF_.set 1 rfl,hI⟩
  ·obtain rfl:=bU ‹_›
   exact ⟨hF_.set 2 rfl,hI⟩
  ·obtain rfl:=bV ‹_›
   rw [bo] at hI; refine ao hI 0 rfl ac (by simpa using hcl) rfl (by simpa using hcs.one) fun w_ hI=>?_
   exact ⟨hF_.set 3 trivial,hI⟩
  obtain ⟨rfl,rfl,rfl,_,_⟩:=hF_.all
  have R9:D 3=true:=by assumption
  clear hF_ bU bV bH bR
  rw [R9] at hI
  refine aW hI 0 ac rfl (by simpa using hcl) ?_
  exact ⟨_,[rdI br sl (p+2)],S7,rfl,hI.pick [false,true],hE06.trans hE7,p+2,by omega,rfl,_,cs,ps,t,rfl,hr.monoC hE7.1,hps,h0,hpv,hcs,htv⟩
 ·refine Run.callL IZ Hr hI (C4 (p:=p+1) hrd (by omega)) rfl fun v' I' S1 w'=>?_
  rintro ⟨p1,hp1,rfl,u,g,ps,q,rfl,hps,hlp,h0,hpv,hq,hlq,hqv⟩ hE1 hI
  have hI:Inv w [br] [B3,rdI br sl p1] S1 w':=hI
  obtain ⟨hq0,hqh⟩:=Ka hqv
  obtain ⟨ua,uc,rfl,_⟩:=id hps
  obtain ⟨qb,qo,qcap,qc,qE,qfz,rfl,hqS,hqR⟩:=hq.at_ hq0
  rw [Nat.zero_mul] at hqR
  have hcl:=hqR.length
  refine aj (v:=.slice ua ps.length uc) rfl ?_
  refine aj (v:=.slice (some ⟨qb,qo,none⟩) q.length qcap) rfl ?_
  rw [hB3] at hI
  have hI0:=hI
  refine ⟨fun D x2 kw lW jJ j1 w_=>Fx D 0 [j1=.slice ua ps.length uc,jJ=.slice (some ⟨qb,qo,none⟩) q.length qcap,lW=.pointer (some ⟨qb,qo+0 * 4,none⟩),kw=.agg (aH qc (qo+0) 4).toArray,x2=.slice ua ps.length uc,True]/\Inv w [br] [.blk b3 (.cells (cond (D 5) (aH qc (qo+0) 4).toArray zT4) ab),rdI br sl p1] S1 w_,⟨Fx.nil _ _,hI.draw⟩,⟨?_,?_,?_,?_,?_,?_,trivial⟩,?_⟩
  all_goals (intro D bo; intros; rename_i x2 kw lW jJ j1 w_ hA_; have hF_:=hA_.1; obtain ⟨⟨bU,bV,bH,bR,bZ,bI,_⟩,hI⟩:=hA_)
  ·exact ⟨hF_.set 0 rfl,hI⟩
  ·exact ⟨hF_.set 1 rfl,hI⟩
  ·obtain rfl:=bV ‹_›
   refine au (i:=0) af hq0 ?_
   exact ⟨hF_.set 2 rfl,hI⟩
  ·obtain rfl:=bH ‹_›
   refine bw ac hcl (fun j v hj=>by rw [hI.cellS hqS]; exact ar rfl j v hj) ?_
   exact ⟨hF_.set 3 rfl,hI⟩
  ·obtain rfl:=bU ‹_›
   exact ⟨hF_.set 4 rfl,hI⟩
  ·obtain rfl:=bR ‹_›
   rw [bo] at hI; refine ao hI 0 rfl ac (by simpa using hcl) rfl (by simpa using hqR.one) fun w_ hI=>?_
   exact ⟨hF_.set 5 trivial,hI⟩
  obtain ⟨rfl,rfl,rfl,rfl,rfl,_,_⟩:=hF_.all
  have RZ:D 5=true:=by assumption
  clear hF_ bU bV bH bR bZ bI
  rw [RZ] at hI
  refine aW hI 0 ac rfl (by simpa using hcl) ?_
  exact ⟨_,[rdI br sl p1],S1,rfl,hI.pick [false,true],hE1,p1,by omega,rfl,_,_,ps,q[0],rfl,hps,hlp,h0,hpv,hqR,hqh⟩
abbrev Q0 (br:Nat) (sl:Value) (p k:Nat):Value->List Item->ae->Prop:=fun v I' S'=>∃ p',p'<=p+k/\I'=[rdI br sl p']/\∃ u cs ps x,v=.tuple #[u,.agg cs.toArray]/\RdSl S' 5 (RdC S') u ps/\Light 8 200 ps/\0<ps.length/\(∀ c∈ps,ce c=true)/\RdF S' cs x/\wF x<=100000
theorem DE {p:Nat} (hrd:RdSl S 1 jC sl ys) (hp:p<=9000000):Tri Tryz.prog Hl [rdP br] [rdI br sl p] S (Q0 br sl p 8):=by
 intro w hI
 refine vW.2 ?_
 dsimp only[vW,aO]
 refine aG hI dG fun b3 w' hI=>?_
 have hI:Inv w [br] [.blk b3 (.cells zP6 ah),rdI br sl p] S w':=hI.last 0 rfl
 refine Run.callL FE GE hI (C0 (p:=p) hrd (by omega)) rfl fun v' I' S1 w'=>?_
 rintro ⟨p1,hp1,rfl,u,cs,ps,t,rfl,hps,hlp,h0,hpv,hcs,htv⟩ hE1 hI
 have hcs0:=hcs
 obtain ⟨kv,rfl,_⟩:=RdT.iff.1 hcs
 have hcs:=hcs0
 have hcm:∀ cl∈ps,vM cl:=fun cl hc=>Jn (hpv cl hc)
 have hll:=hlp.1
 have hwt:=oo htv
 have htU:=iO htv
 have hso:=Ef (n:=ps.length) htU (by omega)
 have hsx:=CA (qZ htv)
 obtain ⟨o,ho⟩:=FindO.ex hcm (by omega) (n:=100) hso (s7 t) hsx
 have how:=ho.w hcm (by omega) hso (s7 t) hsx
 obtain ⟨ua,uc,rfl,_⟩:=id hps
 refine aj (v:=.slice ua ps.length uc) rfl ?_
 refine aj (v:=.agg #[.int .i64 t.kind,.int .i64 t.n,.string t.name,kv]) rfl ?_
 refine aG hI aP fun b5 w' hI=>?_
 have hI:Inv w [br] [.blk b3 (.cells zP6 ah),rdI br sl p1,.blk b5 (.cells zT4 ab)] S1 w':=hI
 refine ao (cs:=#[.int .i64 t.kind,.int .i64 t.n,.string t.name,kv]) hI 2 rfl ac rfl rfl (by simpa using hcs.one) fun w' hI=>?_
 have hI:Inv w [br] [.blk b3 (.cells zP6 ah),.blk b5 (.cells #[.int .i64 t.kind,.int .i64 t.n,.string t.name,kv] ab),rdI br sl p1] S1 w':=hI.last 1 rfl
 obtain ⟨B5,hB5⟩:∃ B:Item,B=.blk b5 (.cells #[.int .i64 t.kind,.int .i64 t.n,.string t.name,kv] ab):=⟨_,rfl⟩
 have e5:=congrArg some hB5
 have hI:Inv w [br] [.blk b3 (.cells zP6 ah),B5,rdI br sl p1] S1 w':=by rw [hB5]; exact hI
 refine aq hI 1 ac e5 rfl ?_
 refine Run.call0E FO GI hI (Dj hcm (by omega) ⟨htU,by omega⟩ (qZ htv) (n:=100) (by omega) ho hps hcs) fun v' I' S2 w'=>?_
 rintro ⟨rfl,c6,rfl,h6l,h6o,h6r⟩ hE2 hI
 have hE02:=hE1.trans hE2
 refine aj (v:=.agg c6.toArray) rfl ?_
 refine aj (v:=.bool (o.elim false gi)) rfl ?_
 refine aG hI dG fun b6 w' hI=>?_
 have hI:Inv w [br] [.blk b3 (.cells zP6 ah),B5,rdI br sl p1,.blk b6 (.cells zP6 ah)] S2 w':=hI
 refine ao hI 3 rfl aT (by simpa using h6l) rfl (by simpa using h6o) fun w' hI=>?_
 have hI:Inv w [br] [.blk b3 (.cells zP6 ah),B5,.blk b6 (.cells c6.toArray ah),rdI br sl p1] S2 w':=hI.last 2 rfl
 refine ⟨fun w'=>∃ (p2:Nat) (d6:List Value) (x:PF),p2<=p1+1/\RdF S2 d6 x/\wF x<=100000/\Inv w [br] [.blk b3 (.cells zP6 ah),B5,.blk b6 (.cells d6.toArray ah),rdI br sl p2] S2 w',?_,?_⟩
 ·refine bM ?_
  refine az (fun hb=>?_) (fun hb=>?_)
  ·have hcs2:=hcs.mono hE2.1
   have hrd2:=hrd.monoU hE02.1
   refine ⟨fun D mY pC oZ mD w_=>Fx D 0 [mD=.agg #[.int .i64 t.kind,.int .i64 t.n,.string t.name,kv],oZ=rdP br,True,True,True]/\∃ p2,(D 2=false->p2=p1)/\(D 2=true->p2=p1+1)/\(D 4=true->D 3=true)/\(D 2=true->∃ i:Int,pC=.int .i64 i/\0<=i/\i<=1)/\(D 3=true->∃ i:Int,mY=.agg #[.int .i64 t.kind,.int .i64 t.n,.string t.name,kv,.int .i64 i,.slice none 0 0]/\0<=i/\i<=1)/\∃ q6:List Value,(D 4=false->q6=c6)/\(D 4=true->∃ i:Int,q6=[.int .i64 t.kind,.int .i64 t.n,.string t.name,kv,.int .i64 i,.slice none 0 0]/\0<=i/\i<=1)/\Inv w [br] [.blk b3 (.cells zP6 ah),B5,.blk b6 (.cells q6.toArray ah),rdI br sl p2] S2 w_,⟨Fx.nil _ _,⟨p1,fun _=>rfl,aU,aU,aU,aU,c6,fun _=>rfl,aU,hI.draw⟩⟩,⟨?_,?_,?_,?_,?_,trivial⟩,?_⟩
   all_goals (intro D bo; intros; rename_i mY pC oZ mD w_ hA_; have hF_:=hA_.1; obtain ⟨⟨bU,bV,bH,bR,bZ,_⟩,⟨p2,z2,y2,k4,f2,f3,q6,z4,f4,hI⟩⟩:=hA_)
   ·refine aq hI 1 ac e5 rfl ?_
    exact ⟨hF_.set 0 rfl,⟨p2,z2,y2,k4,f2,f3,q6,z4,f4,hI⟩⟩
   ·exact ⟨hF_.set 1 rfl,⟨p2,z2,y2,k4,f2,f3,q6,z4,f4,hI⟩⟩
   ·obtain rfl:=bV ‹_›
    have hp2:=z2 bo
    refine Run.callL (L:=[.blk b3 _,B5,.blk b6 _,rdI br sl p2]) bO bN hI (cY (n:=2) (p:=p2) hrd2 (by omega) (by omega)) rfl fun v' I' S' w_=>?_
    rintro ⟨eS,rfl,i,hi,rfl⟩ _ hI
    rw [eS] at hI
    have hI:Inv w [br] [.blk b3 (.cells zP6 ah),B5,.blk b6 (.cells q6.toArray ah),rdI br sl (p2+1)] S2 w_:=hI
    have f2:aF D 2 2=true->∃ i':Int,Value.int .i64 (i:Int)=.int .i64 i'/\0<=i'/\i'<=1:=fun _=>⟨i,rfl,by omega,by omega⟩
    have z2:aF D 2 2=false->p2+1=p1:=fun h=>Bool.noConfusion h
    have y2:aF D 2 2=true->p2+1=p1+1:=fun _=>by rw [hp2]
    obtain ⟨p2,hp3⟩:∃ p3,p3=p2+1:=⟨_,rfl⟩
    rw [<- hp3] at hI z2 y2
    exact ⟨hF_.set 2 (by first|assumption|trivial),⟨p2,z2,y2,k4,f2,f3,q6,z4,f4,hI⟩⟩
   ·obtain rfl:=bU ‹_›
    have PC:=bH ‹_›
    obtain ⟨i,rfl,hi0,hi1⟩:=f2 ‹D 2=true›
    refine nO ?_
    have f3:aF D 3 3=true->∃ i':Int,Value.agg #[.int .i64 t.kind,.int .i64 t.n,.string t.name,kv,.int .i64 i,.slice none 0 0]=.agg #[.int .i64 t.kind,.int .i64 t.n,.string t.name,kv,.int .i64 i',.slice none 0 0]/\0<=i'/\i'<=1:=fun _=>⟨i,rfl,hi0,hi1⟩
    have k4:aF D 3 4=true->aF D 3 3=true:=fun _=>rfl
    exact ⟨hF_.set 3 (by first|assumption|trivial),⟨p2,z2,y2,k4,f2,f3,q6,z4,f4,hI⟩⟩
   ·have JJ:=bR ‹_›
    obtain ⟨i,rfl,hi0,hi1⟩:=f3 ‹D 3=true›
    rw [z4 bo] at hI
    refine ao (cs:=#[.int .i64 t.kind,.int .i64 t.n,.string t.name,kv,.int .i64 i,.slice none 0 0]) hI 2 rfl aT rfl (by simpa using h6l) (EG hcs.one rfl) fun w_ hI=>?_
    have k4:aF D 4 4=true->aF D 4 3=true:=fun _=>‹D 3=true›
    obtain ⟨q6,hq6⟩:∃ q:List Value,q=[.int .i64 t.kind,.int .i64 t.n,.string t.name,kv,.int .i64 i,.slice none 0 0]:=⟨_,rfl⟩
    have hI:Inv w [br] [.blk b3 (.cells zP6 ah),B5,.blk b6 (.cells q6.toArray ah),rdI br sl p2] S2 w_:=by rw [hq6]; exact hI
    have z4:aF D 4 4=false->q6=c6:=fun h=>Bool.noConfusion h
    have f4:aF D 4 4=true->∃ i':Int,q6=[.int .i64 t.kind,.int .i64 t.n,.string t.name,kv,.int .i64 i',.slice none 0 0]/\0<=i'/\i'<=1:=fun _=>⟨i,hq6,hi0,hi1⟩
    exact ⟨hF_.set 4 trivial,⟨p2,z2,y2,k4,f2,f3,q6,z4,f4,hI⟩⟩
   obtain ⟨rfl,rfl,PC,JJ,_,_⟩:=hF_.all
   have SS:D 2=true:=by assumption
   have Tb:D 4=true:=by assumption
   clear hF_ bU bV bH bR bZ
   obtain ⟨i,rfl,hi0,hi1⟩:=f4 Tb
   have hp2:=y2 SS
   refine ⟨p2,_,.mk t i [],by omega,RdF.iff.2 ⟨kv,_,rfl,hcs2,⟨by simp only [PF.clause]; omega,by simp only [PF.clause]; omega⟩,RdSl.nil0 ..⟩,?_,hI⟩
   simp only [wF,wFL,List.length_nil]
   omega
  ·have hb:o.elim false gi=true:=by simpa using hb
   cases o with
   | none=>cases hb
   | some y=>
    have:=how y rfl
    exact ⟨p1,c6,y,by omega,h6r y rfl,by omega,hI⟩
 intro _ _ _ _ _ _ w'
 rintro ⟨p2,d6,x,hp2,hx,hwx,hI⟩
 have hxl:=hx.length
 have hI0:=hI
 refine ⟨fun D x2 nh hY w_=>Fx D 0 [hY=.slice ua ps.length uc,nh=.agg d6.toArray,x2=.slice ua ps.length uc,True]/\Inv w [br] [.blk b3 (.cells (cond (D 3) d6.toArray zP6) ah),B5,.blk b6 (.cells d6.toArray ah),rdI br sl p2] S2 w_,⟨Fx.nil _ _,hI.draw⟩,⟨?_,?_,?_,?_,trivial⟩,?_⟩
 all_goals (intro D bo; intros; rename_i x2 nh hY w_ hA_; have hF_:=hA_.1; obtain ⟨⟨bU,bV,bH,bR,_⟩,hI⟩:=hA_)
 ·exact ⟨hF_.set 0 rfl,hI⟩
 ·refine aq hI 2 aT rfl (by simpa using hxl) ?_
  exact ⟨hF_.set 1 rfl,hI⟩
 ·obtain rfl:=bU ‹_›
  exact ⟨hF_.set 2 rfl,hI⟩
 ·obtain rfl:=bV ‹_›
  rw [bo] at hI; refine ao hI 0 rfl aT (by simpa using hxl) rfl (by simpa using hx.one) fun w_ hI=>?_
  exact ⟨hF_.set 3 trivial,hI⟩
 obtain ⟨rfl,rfl,rfl,_,_⟩:=hF_.all
 have R9:D 3=true:=by assumption
 clear hF_ bU bV bH bR
 rw [R9] at hI
 refine aW hI 0 aT rfl (by simpa using hxl) ?_
 exact ⟨_,[rdI br sl p2],S2,rfl,hI.pick [false,false,false,true],hE02,p2,by omega,rfl,_,d6,ps,x,rfl,hps.monoC hE2.1,hlp,h0,hpv,hx,hwx⟩
end
end
section
open Go Go.RowKit
theorem Om {p W wk:Nat} (hwf:W<=110000) (hp:p+700 * (W+1)<=90000000) (h:1+wk<=W):wk<=110000/\p+1+700 * (wk+1)<=90000000/\p+1+700 * (wk+1)<=p+700 * (W+1):=by
 have h1:700 * (wk+1+1)<=700 * (W+1):=Nat.mul_le_mul_left 700 (by omega)
 rw [Nat.mul_add 700 (wk+1) 1] at h1
 generalize 700 * (wk+1)=a at h1 ⊢
 generalize 700 * (W+1)=b at h1 hp ⊢
 refine ⟨by omega,by omega,by omega⟩
theorem PX:∀ (ks:List PF) (y:PF) (h:0<ks.length),wFL (ks.set 0 y)+wF ks[0]=wFL ks+wF y
 | k::ks,y,_=>by simp only [List.set_cons_zero,wFL,List.getElem_cons_zero]; omega
theorem Nk:∀ (ks:List PF),wFL (ks.drop 1)<=wFL ks
 | []=>Nat.le_refl _
 | k::ks=>by simp only [List.drop_succ_cons,List.drop_zero,wFL]; omega
theorem Mn:∀ (a b:List PF),wFL (a++b)=wFL a+wFL b
 | [],b=>by simp [wFL]
 | x::a,b=>by rw [List.cons_append,wFL,wFL,Mn a b]; omega
def muC (w0:World) (X:List Nat) (b5:Nat) (F:Value->Array Value) (B:List Item) (kv:Value) (css:List (List Value)) (t:T) (y:PF) (S:ae) (kz jL nL gX:Value) (w:World):Nat->Prop
 | 0=>rnC w0 X b5 F B kv css y S jL nL gX w 0
 | 1=>∃ S1 a1 a2 a3 a4,kz=.agg #[a1,a2,a3,a4]/\Ext w0.heap.size X S S1/\RdT S1 [a1,a2,a3,a4] t/\Inv w0 X (B++[.blk b5 (.cells (F kv) ah),aL kv ah 6 css]) S1 w
 | n+2=>rnC w0 X b5 F B kv css y S jL nL gX w (n+1)
theorem muC.low {w0 w:World} {X:List Nat} {b5:Nat} {F:Value->Array Value} {B:List Item} {kv:Value} {css:List (List Value)} {t:T} {y:PF} {S:ae} {kz jL nL gX:Value}:∀ {n:Nat},muC w0 X b5 F B kv css t y S kz jL nL gX w n->n<5->∃ R S1,Inv w0 X (B++.blk b5 (.cells (F kv) ah)::R) S1 w
 | 0,h,_=>⟨_,_,h⟩
 | 1,⟨S1,_,_,_,_,_,_,_,h⟩,_=>⟨_,S1,h⟩
 | n+2,h,hn=>rnC.low (n:=n+1) h (by omega)
theorem RdSl.put0 {S S1:ae} {g cap:Nat} {cur:Array Value} {E:TypeId} {fz:Nat × Nat} {css:List (List Value)} {ks:List PF} {cs:List Value} {y:PF} (hR:Rows 6 (RdF S) css ks) (ht:cur.toList.take (css.length * 6)=css.flatten) (hc:css.length<=cap) (hcm:cap<=maxLen) (hs:cur.size=cap * 6)
  (hle:Sle S S1) (hg:S1 g=some (.cells (bx cur 0 cs) E fz)) (hcs:RdF S1 cs y) (h0:0<ks.length):RdSl S1 6 (RdF S1) (.slice (some ⟨g,0,none⟩) ks.length cap) (ks.set 0 y):=by
 have hcy:=hR.hc
 have hlc:=hcs.length
 have hsz:6<=cur.size:=by rw [hs]; omega
 refine ⟨_,cap,by rw [List.length_set],by rw [List.length_set]; omega,hcm,.inr ⟨g,0,_,E,fz,rfl,hg,fun i hi=>?_⟩⟩
 rw [List.length_set] at hi
 rw [Nat.zero_add]
 by_cases e:i=0
 ·subst e
  rw [List.getElem_set_self]
  have:=gD (c:=cur) (o:=0) (vs:=cs) (by omega)
  rw [hlc] at this
  rw [Nat.zero_mul,this]
  exact hcs
 ·rw [List.getElem_set_ne (by omega),iu (by omega) (by omega)]
  have hfa:=gY 6 css i hR.hk (by omega)
  rw [<- ht,List.drop_take,List.take_take,Nat.min_eq_left (by omega)] at hfa
  rw [aH,hfa]
  exact (hR.hR i (by omega) (by omega)).mono hle
section
variable {br:Nat} {sl:Value} {ys:List Nat}
attribute [local irreducible] Run CondV aB aS
abbrev Pk (br:Nat) (sl:Value) (p k m:Nat):Value->List Item->ae->Prop:=fun v I' S'=>∃ p',p'<=p+k/\I'=[rdI br sl p']/\∃ cs y,v=.agg cs.toArray/\RdF S' cs y/\wF y<=m
set_option maxHeartbeats 4000000 in
theorem zP:∀ (x:PF) (p:Nat) (S:ae) (cs:List Value),RdSl S 1 jC sl ys->RdF S cs x->wF x<=110000->p+700 * (wF x+1)<=90000000->Tri Tryz.prog sj [rdP br,.agg cs.toArray] [rdI br sl p] S (Pk br sl p (700 * (wF x+1)) (wF x+1000)):=by
 refine PF.ind fun g c ks ih p S cs hrd h hwf hp=>?_
 intro w hI
 obtain ⟨gkv,kp,rfl,hg,hci,hks⟩:=RdF.iff.1 h
 simp only [PF.goal,PF.clause,PF.kids] at hg hci hks ⊢
 obtain ⟨W,hW⟩:∃ W,W=wF (.mk g c ks):=⟨_,rfl⟩
 rw [<- hW] at hwf hp ⊢
 have harith:∀ wk,1+wk<=W->wk<=110000/\p+1+700 * (wk+1)<=90000000/\p+1+700 * (wk+1)<=p+700 * (W+1):=fun wk h=>Om hwf hp h
 rw [wF] at hW
 obtain ⟨ka,kc,rfl,_⟩:=id hks
 refine pt.2 ?_
 dsimp only[pt,aX]
 refine be hI fun b3 w' hI=>?_
 refine aG hI dG fun b4 w' hI=>?_
 obtain ⟨B3,hB3⟩:∃ B:Item,B=.blk b3 (.cells #[.int .i64 g.kind,.int .i64 g.n,.string g.name,gkv,.int .i64 c,.slice ka ks.length kc] ah):=⟨_,rfl⟩
 obtain ⟨B4,hB4⟩:∃ B:Item,B=.blk b4 (.cells zP6 ah):=⟨_,rfl⟩
 have e3:=congrArg some hB3
 have e4:=congrArg some hB4
 have hI:Inv w [br] [B3,B4,rdI br sl p] S w':=by rw [hB3,hB4]; exact hI.last 0 rfl
 refine ⟨fun D x5 zY tI Hd JI wM LI x9 x8 x7 x6 w_=>Fx D 0 [x6=.pointer (some ⟨b3,0,none⟩),x7=.agg #[.int .i64 g.kind,.int .i64 g.n,.string g.name,gkv],True,x9=.pointer (some ⟨b3,4,none⟩),LI=.int .i64 c,True,JI=.pointer (some ⟨b3,5,none⟩),Hd=.slice ka ks.length kc,True,True,True,True]/\∃ S1 b q css,Ext w.heap.size [br] S S1/\(D 2=true->∃ a1 a2 a3 a4,x8=.agg #[a1,a2,a3,a4]/\RdT S1 [a1,a2,a3,a4] g)/\(D 8=true->D 5=true/\Rows 6 (RdF S) css ks)/\(D 9=true->D 8=true/\∃ a1 a2 a3 a4,zY=.agg #[a1,a2,a3,a4,.int .i64 c,tI]/\RdT S1 [a1,a2,a3,a4] g)/\(D 10=true->x5=.pointer (some ⟨b,0,none⟩))/\(D 11=true->D 10=true/\D 8=true/\∃ a1 a2 a3 a4,q=#[a1,a2,a3,a4,.int .i64 c,tI]/\RdT S1 [a1,a2,a3,a4] g)/\(D 11=false->q=zP6)/\Inv w [br] ([B3,B4,rdI br sl p]++cond (D 5) [cond (D 8) (aL tI ah 6 css) (aL wM ah 6 [])] []++cond (D 10) [.blk b (.cells q ah)] []) S1 w_,⟨Fx.nil _ _,⟨S,0,zP6,[],Ext.refl _ _ _,aU,aU,aU,aU,aU,fun _=>rfl,hI.draw⟩⟩,⟨?_,?_,?_,?_,?_,?_,?_,?_,?_,?_,?_,?_,trivial⟩,?_⟩
 all_goals (intro D bo; intros; rename_i x5 zY tI Hd JI wM LI x9 x8 x7 x6 w_ hA_; have hF_:=hA_.1; obtain ⟨⟨bU,bV,bH,bR,bZ,bI,bB,ct,cF,cK,bG,bX,_⟩,⟨S1,b,q,css,hE1,f2,f8,f9,f10,f11,z11,hI⟩⟩:=hA_)
 ·refine ai cP ?_
  exact ⟨hF_.set 0 rfl,⟨S1,b,q,css,hE1,f2,f8,f9,f10,f11,z11,hI⟩⟩
 ·obtain rfl:=bU ‹_›
  refine b0 hI 0 [.int .i64 g.kind,.int .i64 g.n,.string g.name,gkv] ac e3 rfl sH ?_
  exact ⟨hF_.set 1 rfl,⟨S1,b,q,css,hE1,f2,f8,f9,f10,f11,z11,hI⟩⟩
 ·obtain rfl:=bV ‹_›
  refine Run.call0E eo ei hI (eI g S1 _ (hg.mono hE1.1) (by omega)) fun v I' S2 w_=>?_
  rintro ⟨eS,cs',L,rfl,rfl,hT⟩ _ hI
  rw [eS] at hI
  obtain ⟨S2,hI,hE2,hins⟩:=hI.pubExt
  have hrt:=hT.rd hins
  obtain ⟨a1,a2,a3,a4,rfl⟩:=p7 hrt.length
  have f2:aF D 2 2=true->∃ b1 b2 b3 b4,Value.agg [a1,a2,a3,a4].toArray=.agg #[b1,b2,b3,b4]/\RdT S2 [b1,b2,b3,b4] g:=fun _=>⟨a1,a2,a3,a4,rfl,hrt⟩
  have f9:aF D 2 9=true->aF D 2 8=true/\∃ a1 a2 a3 a4,zY=.agg #[a1,a2,a3,a4,.int .i64 c,tI]/\RdT S2 [a1,a2,a3,a4] g:=fun h=>by
   obtain ⟨k,b1,b2,b3,b4,e,h⟩:=f9 h
   exact ⟨k,b1,b2,b3,b4,e,h.mono hE2.1⟩
  have f11:aF D 2 11=true->aF D 2 10=true/\aF D 2 8=true/\∃ a1 a2 a3 a4,q=#[a1,a2,a3,a4,.int .i64 c,tI]/\RdT S2 [a1,a2,a3,a4] g:=fun h=>by
   obtain ⟨k,k2,b1,b2,b3,b4,e,h⟩:=f11 h
   exact ⟨k,k2,b1,b2,b3,b4,e,h.mono hE2.1⟩
  obtain ⟨S1,rfl,hE1⟩:∃ S1,S1=S2/\Ext w.heap.size [br] S S1:=⟨S2,rfl,hE1.trans hE2⟩
  exact ⟨hF_.set 2 (by first|assumption|trivial),⟨S1,b,q,css,hE1,f2,f8,f9,f10,f11,z11,hI⟩⟩
 ·refine ai cN ?_
  exact ⟨hF_.set 3 rfl,⟨S1,b,q,css,hE1,f2,f8,f9,f10,f11,z11,hI⟩⟩
 ·obtain rfl:=bR ‹_›
  refine aA hI 0 aw e3 rfl ?_
  exact ⟨hF_.set 4 rfl,⟨S1,b,q,css,hE1,f2,f8,f9,f10,f11,z11,hI⟩⟩
 ·have n8:D 8=false:=Bool.eq_false_iff.2 fun h=>by rw [(f8 h).1] at bo; cases bo
  rw [bo,n8] at hI
  refine dE hI g0 fun v w_ hI=>?_
  have f8:aF D 5 8=true->aF D 5 5=true/\Rows 6 (RdF S) css ks:=fun h=>⟨rfl,(f8 h).2⟩
  have hI:Inv w [br] ([B3,B4,rdI br sl p]++cond (aF D 5 5) [cond (aF D 5 8) (aL tI ah 6 css) (aL v ah 6 [])] []++cond (aF D 5 10) [.blk b (.cells q ah)] []) S1 w_:=by
   rw [show aF D 5 8=D 8 from rfl,n8]
   refine hI.perm ?_
   show List.Perm ([B3,B4,rdI br sl p]++[aL v ah 6 []]++_) ([B3,B4,rdI br sl p]++[]++_++[aL v ah 6 []])
   rw [List.append_nil,List.append_assoc,List.append_assoc]
   exact List.Perm.append_left _ List.perm_append_comm
  exact ⟨hF_.set 5 (by first|assumption|trivial),⟨S1,b,q,css,hE1,f2,f8,f9,f10,f11,z11,hI⟩⟩
 ·refine ai bk ?_
  exact ⟨hF_.set 6 rfl,⟨S1,b,q,css,hE1,f2,f8,f9,f10,f11,z11,hI⟩⟩
 ·obtain rfl:=bB ‹_›
  refine aA hI 0 bp e3 rfl ?_
  exact ⟨hF_.set 7 rfl,⟨S1,b,q,css,hE1,f2,f8,f9,f10,f11,z11,hI⟩⟩
 ·have Mw:=bI ‹_›
  obtain rfl:=ct ‹_›
  rw [‹D 5=true›,bo] at hI
  refine ed (css:=[]) hI 3 g0 (by omega) rfl (hks.mono hE1.1 fun _ _ h=>h) (fun _ _=>RdF.length) (fun _ _=>RdF.one) (by simp; omega) (by omega) fun v w_ css hR hI=>?_
  have n9:D 9=false:=Bool.eq_false_iff.2 fun h=>by rw [(f9 h).1] at bo; cases bo
  have n11:D 11=false:=Bool.eq_false_iff.2 fun h=>by rw [(f11 h).2.1] at bo; cases bo
  have f8:aF D 8 8=true->aF D 8 5=true/\Rows 6 (RdF S) css ks:=fun _=>⟨‹D 5=true›,hR⟩
  have f9:aF D 8 9=true->aF D 8 8=true/\∃ a1 a2 a3 a4,zY=.agg #[a1,a2,a3,a4,.int .i64 c,v]/\RdT S1 [a1,a2,a3,a4] g:=fun h=>absurd (show D 9=true from h) (by rw [n9]; decide)
  have f11:aF D 8 11=true->aF D 8 10=true/\aF D 8 8=true/\∃ a1 a2 a3 a4,q=#[a1,a2,a3,a4,.int .i64 c,v]/\RdT S1 [a1,a2,a3,a4] g:=fun h=>absurd (show D 11=true from h) (by rw [n11]; decide)
  have hI:Inv w [br] ([B3,B4,rdI br sl p]++cond (aF D 8 5) [cond (aF D 8 8) (aL v ah 6 css) (aL wM ah 6 [])] []++cond (aF D 8 10) [.blk b (.cells q ah)] []) S1 w_:=by
   rw [show aF D 8 5=D 5 from rfl,‹D 5=true›]
   exact hI
  exact ⟨hF_.set 8 (by first|assumption|trivial),⟨S1,b,q,css,hE1,f2,f8,f9,f10,f11,z11,hI⟩⟩
 ·have PC:=bH ‹_›
  obtain rfl:=bZ ‹_›
  have CJ:=cF ‹_›
  obtain ⟨a1,a2,a3,a4,rfl,hrt⟩:=f2 ‹D 2=true›
  have hI2:=hI
  rw [(f8 ‹D 8=true›).1,‹D 8=true›] at hI2
  obtain ⟨qa,qn,qc,rfl⟩:=hI2.rowSl (i:=3) rfl
  refine LE ?_
  have f9:aF D 9 9=true->aF D 9 8=true/\∃ b1 b2 b3 b4,Value.agg #[a1,a2,a3,a4,.int .i64 c,.slice qa qn qc]=.agg #[b1,b2,b3,b4,.int .i64 c,.slice qa qn qc]/\RdT S1 [b1,b2,b3,b4] g:=fun _=>⟨‹D 8=true›,a1,a2,a3,a4,rfl,hrt⟩
  exact ⟨hF_.set 9 (by first|assumption|trivial),⟨S1,b,q,css,hE1,f2,f8,f9,f10,f11,z11,hI⟩⟩
 ·have n11:D 11=false:=Bool.eq_false_iff.2 fun h=>by rw [(f11 h).1] at bo; cases bo
  rw [bo,cond_false,List.append_nil] at hI
  refine aG hI dG fun b w_ hI=>?_
  have f10:aF D 10 10=true->Value.pointer (some ⟨b,0,none⟩)=.pointer (some ⟨b,0,none⟩):=fun _=>rfl
  have f11:aF D 10 11=true->aF D 10 10=true/\aF D 10 8=true/\∃ a1 a2 a3 a4,q=#[a1,a2,a3,a4,.int .i64 c,tI]/\RdT S1 [a1,a2,a3,a4] g:=fun h=>absurd (show D 11=true from h) (by rw [n11]; decide)
  have hI:Inv w [br] ([B3,B4,rdI br sl p]++cond (aF D 10 5) [cond (aF D 10 8) (aL tI ah 6 css) (aL wM ah 6 [])] []++cond (aF D 10 10) [.blk b (.cells q ah)] []) S1 w_:=by
   rw [z11 n11]
   exact hI
  exact ⟨hF_.set 10 (by first|assumption|trivial),⟨S1,b,q,css,hE1,f2,f8,f9,f10,f11,z11,hI⟩⟩
 ·have vp:=bG ‹_›
  have Hc:=cK ‹_›
  obtain ⟨_,a1,a2,a3,a4,rfl,hrt⟩:=f9 ‹D 9=true›
  obtain rfl:=f10 ‹D 10=true›
  have h5:=(f8 ‹D 8=true›).1
  rw [h5,‹D 8=true›,‹D 10=true›,z11 bo] at hI
  obtain ⟨qa,qn,qc,rfl⟩:=hI.rowSl (i:=3) rfl
  refine ao (cs:=#[a1,a2,a3,a4,.int .i64 c,.slice qa qn qc]) hI 4 rfl aT rfl rfl (EG hrt.one rfl) fun w_ hI=>?_
  obtain ⟨q,hq⟩:∃ q:Array Value,q=#[a1,a2,a3,a4,.int .i64 c,.slice qa qn qc]:=⟨_,rfl⟩
  have f11:aF D 11 11=true->aF D 11 10=true/\aF D 11 8=true/\∃ b1 b2 b3 b4,q=#[b1,b2,b3,b4,.int .i64 c,.slice qa qn qc]/\RdT S1 [b1,b2,b3,b4] g:=fun _=>⟨‹D 10=true›,‹D 8=true›,a1,a2,a3,a4,hq,hrt⟩
  have z11:aF D 11 11=false->q=zP6:=fun h=>Bool.noConfusion h
  have hI:Inv w [br] ([B3,B4,rdI br sl p]++cond (aF D 11 5) [cond (aF D 11 8) (aL (.slice qa qn qc) ah 6 css) (aL wM ah 6 [])] []++cond (aF D 11 10) [.blk b (.cells q ah)] []) S1 w_:=by
   rw [show aF D 11 5=D 5 from rfl,h5,show aF D 11 8=D 8 from rfl,‹D 8=true›,show aF D 11 10=D 10 from rfl,‹D 10=true›,hq]
   exact hI
  exact ⟨hF_.set 11 trivial,⟨S1,b,q,css,hE1,f2,f8,f9,f10,f11,z11,hI⟩⟩
 obtain ⟨rfl,rfl,PC,rfl,rfl,Mw,rfl,rfl,CJ,Hc,vp,_,_⟩:=hF_.all
 have RZ:D 5=true:=by assumption
 have Am:D 8=true:=by assumption
 have xV:D 10=true:=by assumption
 have jP:D 11=true:=by assumption
 clear hF_ bU bV bH bR bZ bI bB ct cF cK bG bX
 obtain ⟨_,_,a1,a2,a3,a4,rfl,hrt⟩:=f11 jP
 obtain rfl:=f10 xV
 obtain ⟨_,hR⟩:=f8 Am
 have hRc:=hR.hc
 rw [RZ,Am,xV] at hI
 have hIk:=hI
 obtain ⟨qa,qn,qc,rfl⟩:=hI.rowSl (i:=3) rfl
 have hI:Inv w [br] [B3,B4,aL (.slice qa qn qc) ah 6 css,.blk b (.cells #[a1,a2,a3,a4,.int .i64 c,.slice qa qn qc] ah),rdI br sl p] S1 w_:=hIk.last 2 rfl
 have hrd1:=hrd.monoU hE1.1
 refine ⟨fun w'=>∃ (p2:Nat) (S2:ae) (e1 e2 e3 e4:Value) (g2:T) (c2:Int) (kv:Value) (kk:List PF),p2<=p+700 * (W+1)/\Ext w.heap.size [br] S S2/\RdT S2 [e1,e2,e3,e4] g2/\inI c2/\RdSl S2 6 (RdF S2) kv kk/\wT g2+kk.length+wFL kk<=W+1000/\
  Inv w [br] [B3,B4,.blk b (.cells #[e1,e2,e3,e4,.int .i64 c2,kv] ah),rdI br sl p2] S2 w',?_,?_⟩
 ·have hsame:∀ {S2:ae} {p2:Nat} {e1 e2 e3 e4:Value} {g2:T} {c2:Int} {w':World},p2<=p+700 * (W+1)->Ext w.heap.size [br] S1 S2->RdT S2 [e1,e2,e3,e4] g2->inI c2->wT g2<=wT g+1000->
    Inv w [br] [B3,B4,aL (.slice qa qn qc) ah 6 css,.blk b (.cells #[e1,e2,e3,e4,.int .i64 c2,.slice qa qn qc] ah),rdI br sl p2] S2 w'->∃ S3,Ext w.heap.size [br] S2 S3/\RdSl S3 6 (RdF S3) (.slice qa qn qc) ks/\
    Inv w [br] [B3,B4,.blk b (.cells #[e1,e2,e3,e4,.int .i64 c2,.slice qa qn qc] ah),rdI br sl p2] S3 w'/\RdT S3 [e1,e2,e3,e4] g2:=by
   intro S2 p2 e1 e2 e3 e4 g2 c2 w' _ hE2 ht2 _ _ hI
   have hI:Inv w [br] ([B3,B4,.blk b (.cells #[e1,e2,e3,e4,.int .i64 c2,.slice qa qn qc] ah),rdI br sl p2]++[aL (.slice qa qn qc) ah 6 css]) S2 w':=hI.last 2 rfl
   obtain ⟨S3,hE3,hrw,hI⟩:=Inv.lendExt hI
   exact ⟨S3,hE3,RowRd.rows (hR.monoR fun _ _ h=>h.mono (hE1.1.trans (hE2.1.trans hE3.1))) hrw,hI,ht2.mono hE3.1⟩
  refine Run.callL bO bN hI (cY (n:=20) (p:=p) hrd1 (by omega) (by omega)) rfl fun v' I' S' w'=>?_
  rintro ⟨eS,rfl,k,hk,rfl⟩ _ hI
  rw [eS] at hI
  have hI:Inv w [br] [B3,B4,aL (.slice qa qn qc) ah 6 css,.blk b (.cells #[a1,a2,a3,a4,.int .i64 c,.slice qa qn qc] ah),rdI br sl (p+1)] S1 w':=hI
  have hdone:∀ {w':World},Inv w [br] [B3,B4,aL (.slice qa qn qc) ah 6 css,.blk b (.cells #[a1,a2,a3,a4,.int .i64 c,.slice qa qn qc] ah),rdI br sl (p+1)] S1 w'->∃ (p2:Nat) (S2:ae) (e1 e2 e3 e4:Value) (g2:T) (c2:Int) (kv:Value) (kk:List PF),p2<=p+700 * (W+1)/\Ext w.heap.size [br] S S2/\RdT S2 [e1,e2,e3,e4] g2/\inI c2/\RdSl S2 6 (RdF S2) kv kk/\wT g2+kk.length+wFL kk<=W+1000/\
    Inv w [br] [B3,B4,.blk b (.cells #[e1,e2,e3,e4,.int .i64 c2,kv] ah),rdI br sl p2] S2 w':=by
   intro w' hI
   obtain ⟨S3,hE3,hk3,hI,ht3⟩:=hsame (g2:=g) (by omega) (Ext.refl _ _ _) hrt hci (by omega) hI
   exact ⟨_,S3,_,_,_,_,g,c,_,ks,by omega,hE1.trans hE3,ht3,hci,hk3,by omega,hI⟩
  refine aY ?_
  refine aI (fun h0=>?_) (fun h0=>?_)
  ·refine th hI (by kernel_rfl) rfl (by omega) fun v S2 w' hE2 hv hI=>?_
   refine Run.callL ez ey hI (iV (p:=p+1) (hrd1.monoU hE2.1) hv (by decide) (by omega)) rfl fun v' I' S' w'=>?_
   rintro ⟨eS,rfl,n,hn,rfl⟩ _ hI
   rw [eS] at hI
   have hn:=rg (a:=-1000) (b:=1000) hn (by decide)
   have hI:Inv w [br] [B3,B4,aL (.slice qa qn qc) ah 6 css,.blk b (.cells #[a1,a2,a3,a4,.int .i64 c,.slice qa qn qc] ah),rdI br sl (p+2)] S2 w':=hI
   refine cG hI 3 rfl cN aw rfl rfl rfl fun w' hI=>?_
   have hn2:inI n:=⟨by omega,by omega⟩
   obtain ⟨S3,hE3,hk3,hI,ht3⟩:=hsame (p2:=p+2) (c2:=n) (g2:=g) (by omega) hE2 (hrt.mono hE2.1) hn2 (by omega) hI
   exact ⟨_,S3,_,_,_,_,g,n,_,ks,by omega,(hE1.trans hE2).trans hE3,ht3,hn2,hk3,by omega,hI⟩
  refine aY ?_
  refine aI (fun h1=>?_) (fun h1=>?_)
  ·refine Run.callL js jB hI (oC 2 (by omega) (p+1) S1 hrd1 (by rw [Ps]; omega)) rfl fun v' I' S2 w'=>?_
   rintro ⟨p2,hp2,rfl,ds,u,rfl,hds,hwu,_⟩ hE2 hI
   rw [Ps] at hp2 hwu
   refine Run.callL mo mx hI (kM (p:=p2) (hrd1.monoU hE2.1) hds (by omega) (by omega)) rfl fun v' I' S3 w'=>?_
   rintro ⟨p3,hp3,rfl,es,u2,rfl,hes,hwu2⟩ hE3 hI
   obtain ⟨e1,e2,e3,e4,rfl⟩:=p7 hes.length
   have hI:Inv w [br] [B3,B4,aL (.slice qa qn qc) ah 6 css,.blk b (.cells #[a1,a2,a3,a4,.int .i64 c,.slice qa qn qc] ah),rdI br sl p3] S3 w':=hI
   refine ai cP ?_
   refine kP hI 3 rfl ac rfl rfl (by simpa [Value.cells] using hes.one) fun w' hI=>?_
   have hI:Inv w [br] [B3,B4,aL (.slice qa qn qc) ah 6 css,.blk b (.cells #[e1,e2,e3,e4,.int .i64 c,.slice qa qn qc] ah),rdI br sl p3] S3 w':=hI
   obtain ⟨S4,hE4,hk4,hI,ht4⟩:=hsame (p2:=p3) (c2:=c) (g2:=u2) (by omega) (hE2.trans hE3) hes hci (by omega) hI
   exact ⟨_,S4,_,_,_,_,u2,c,_,ks,by omega,((hE1.trans hE2).trans hE3).trans hE4,ht4,hci,hk4,by omega,hI⟩
  refine aY ?_
  refine aI (fun h2=>?_) (fun h2=>?_)
  ·obtain ⟨F,hF⟩:∃ F:Value->Array Value,F=fun kv=>#[a1,a2,a3,a4,.int .i64 c,kv]:=⟨_,rfl⟩
   have hFv:∀ kv,F kv=#[a1,a2,a3,a4,.int .i64 c,kv]:=fun kv=>by rw [hF]
   obtain ⟨tt,htt⟩:∃ tt:T,tt=.mk 3 0 ⟨#[116,114,117,101]⟩ []:=⟨_,rfl⟩
   have hI:Inv w [br] ([B3,B4,rdI br sl (p+1)]++[.blk b (.cells (F (.slice qa qn qc)) ah),aL (.slice qa qn qc) ah 6 css]) S1 w':=by
    rw [hFv]
    exact (hI.last 2 rfl).perm (((List.Perm.swap _ _ _).cons _ |>.cons _).trans ((List.Perm.refl _)))
   refine ⟨fun D ij gX nL jL kz pz mt w_=>Fx D 0 [mt=.pointer (some ⟨b,5,none⟩),pz=.slice qa qn qc,True,True,True,True,ij=.pointer (some ⟨b,5,none⟩),True]/\∃ n_:Nat,n_<=5/\D 2=decide (1<=n_)/\D 3=decide (2<=n_)/\D 4=decide (3<=n_)/\D 5=decide (4<=n_)/\D 7=decide (5<=n_)/\(D 7=true->D 1=true)/\(muC w [br] b F [B3,B4,rdI br sl (p+1)] (.slice qa qn qc) css tt (.mk tt (-1) []) S1 kz jL nL gX w_ n_),⟨Fx.nil _ _,⟨0,Nat.zero_le _,rfl,rfl,rfl,rfl,rfl,(aU),hI.draw⟩⟩,⟨?_,?_,?_,?_,?_,?_,?_,?_,trivial⟩,?_⟩
   all_goals (intro D bo; intros; rename_i ij gX nL jL kz pz mt w_ hA_; have hF_:=hA_.1; obtain ⟨⟨bU,bV,bH,bR,bZ,bI,bB,ct,_⟩,⟨n_,ln_,e1_,e2_,e3_,e4_,e5_,kp_,hS⟩⟩:=hA_)
   ·refine ai bk ?_
    exact ⟨hF_.set 0 rfl,⟨n_,ln_,e1_,e2_,e3_,e4_,e5_,kp_,hS⟩⟩
   ·obtain rfl:=bU ‹_›
    have ln2_:=MU e5_ kp_ bo
    obtain ⟨R,S3,hI⟩:=hS.low ln2_
    rw [hFv] at hI
    refine aA hI 3 bp rfl rfl ?_
    exact ⟨hF_.set 1 rfl,⟨n_,ln_,e1_,e2_,e3_,e4_,e5_,(fun _=>rfl),hS⟩⟩
   ·obtain rfl:n_=0:=tY e1_ bo
    refine Run.call0E di dp hS (dP ⟨#[116,114,117,101]⟩ (by decide) (jk S1) (by simp)) fun v' I' S3 w_=>?_
    rintro ⟨rfl,ds,rfl,hds⟩ hE3 hI
    rw [List.append_nil] at hI
    obtain ⟨d1,d2,d3,d4,rfl⟩:=p7 hds.length
    rw [<- htt] at hds
    have hS:muC w [br] b F [B3,B4,rdI br sl (p+1)] (.slice qa qn qc) css tt (.mk tt (-1) []) S1 (.agg [d1,d2,d3,d4].toArray) jL nL gX w_ 1:=⟨S3,d1,d2,d3,d4,rfl,hE3,hds,hI⟩
    exact ⟨hF_.set 2 (by first|assumption|trivial),⟨1,by decide,rfl,(by first|exact e2_|rfl),(by first|exact e3_|rfl),(by first|exact e4_|rfl),(by first|exact e5_|rfl),kp_,hS⟩⟩
   ·have PC:=bH ‹_›
    obtain rfl:n_=1:=fL e1_ ‹D 2=true› e2_ bo
    obtain ⟨S3,d1,d2,d3,d4,rfl,hE3,hds,hI⟩:=hS
    refine nO ?_
    have hS:muC w [br] b F [B3,B4,rdI br sl (p+1)] (.slice qa qn qc) css tt (.mk tt (-1) []) S1 (.agg #[d1,d2,d3,d4]) (.agg #[d1,d2,d3,d4,.int .i64 (-1),.slice none 0 0]) nL gX w_ 2:=⟨S3,[d1,d2,d3,d4,.int .i64 (-1),.slice none 0 0],rfl,hE3,by
     obtain ⟨tkv,hte,_⟩:=RdT.iff.1 hds
     simp only [List.cons.injEq,and_true] at hte
     obtain ⟨rfl,rfl,rfl,rfl⟩:=hte
     exact RdF.iff.2 ⟨_,_,rfl,hds,⟨by simp [PF.clause],by simp [PF.clause]⟩,RdSl.nil0 ..⟩,hI⟩
    exact ⟨hF_.set 3 (by first|assumption|trivial),⟨2,by decide,(by first|exact e1_|rfl),rfl,(by first|exact e3_|rfl),(by first|exact e4_|rfl),(by first|exact e5_|rfl),kp_,hS⟩⟩
   ·have JJ:=bR ‹_›
    obtain rfl:n_=2:=fL e2_ ‹D 3=true› e3_ bo
    obtain ⟨S3,cs,rfl,hE3,hcs,hI⟩:=hS
    refine dQ hI g0 (by simpa [Value.cells] using hcs.length) (by omega) (by omega) fun b9 w_ hI=>?_
    obtain ⟨S4,hI,hE4,hb⟩:=Inv.pub1 hI
    have hS:muC w [br] b F [B3,B4,rdI br sl (p+1)] (.slice qa qn qc) css tt (.mk tt (-1) []) S1 kz (.agg cs.toArray) (.slice (some ⟨b9,0,none⟩) 1 1) gX w_ 3:=⟨S4,hE3.trans hE4,RdSl.single hb hcs.length (hcs.mono hE4.1),hI⟩
    exact ⟨hF_.set 4 (by first|assumption|trivial),⟨3,by decide,(by first|exact e1_|rfl),(by first|exact e2_|rfl),rfl,(by first|exact e4_|rfl),(by first|exact e5_|rfl),kp_,hS⟩⟩
   ·obtain rfl:=bV ‹_›
    have QH:=bZ ‹_›
    obtain rfl:n_=3:=fL e3_ ‹D 4=true› e4_ bo
    obtain ⟨S3,hE3,hrd3,hI⟩:=hS
    refine ed (css:=css) hI 4 g0 (by omega) rfl hrd3 (fun _ _=>RdF.length) (fun _ _=>RdF.one) (by simp; omega) (by omega) fun v w_ css2 hR2 hI=>?_
    obtain ⟨c0,hc0⟩:∃ c0,css2=[c0]:=List.length_eq_one_iff.1 hR2.hc
    subst hc0
    have hc0:RdF S3 c0 (.mk tt (-1) []):=hR2.hR 0 (by simp) (by simp)
    have hS:muC w [br] b F [B3,B4,rdI br sl (p+1)] (.slice qa qn qc) css tt (.mk tt (-1) []) S1 kz jL nL v w_ 4:=⟨S3,c0,hE3,hc0,hI⟩
    exact ⟨hF_.set 5 (by first|assumption|trivial),⟨4,by decide,(by first|exact e1_|rfl),(by first|exact e2_|rfl),(by first|exact e3_|rfl),rfl,(by first|exact e5_|rfl),kp_,hS⟩⟩
   ·refine ai bk ?_
    exact ⟨hF_.set 6 rfl,⟨n_,ln_,e1_,e2_,e3_,e4_,e5_,kp_,hS⟩⟩
   ·obtain rfl:=bB ‹_›
    have Mw:=bI ‹_›
    obtain rfl:n_=4:=fL e4_ ‹D 5=true› e5_ bo
    obtain ⟨S3,cs,hE3,hcs,hI⟩:=hS
    obtain ⟨hv1,hv2⟩:=hI.rowOne (i:=4) rfl
    rw [hFv] at hI
    refine dK hI 3 (b:=b) (o:=5) (n:=1) (by rw [hv1]; rfl) (by rw [bp]; rfl) rfl (by simp) (by rw [hv1]; simpa using hv2) fun w_ hI=>?_
    have hS:muC w [br] b F [B3,B4,rdI br sl (p+1)] (.slice qa qn qc) css tt (.mk tt (-1) []) S1 kz jL nL gX w_ 5:=⟨S3,gX,cs,hE3,hcs,by rw [hFv]; rw [hv1] at hI; exact hI⟩
    exact ⟨hF_.set 7 trivial,⟨5,by decide,(by first|exact e1_|rfl),(by first|exact e2_|rfl),(by first|exact e3_|rfl),(by first|exact e4_|rfl),rfl,(fun _=>‹D 1=true›),hS⟩⟩
   obtain rfl:n_=5:=lx ln_ e5_ ‹D 7=true›
   clear e1_ e2_ e3_ e4_ e5_
   obtain ⟨S3,kv',cs,hE3,hcs,hI⟩:=hS
   obtain ⟨S4,hE4,hrw,hI⟩:=Inv.lendExt (A:=[B3,B4,rdI br sl (p+1),.blk b (.cells (F kv') ah)]) hI
   rw [hFv] at hI
   have hks4:=RowRd.rows (((hR.monoR fun _ _ h=>h.mono (hE1.1.trans hE3.1)).snoc hcs hcs.length).monoR fun _ _ h=>RdF.mono hE4.1 h) hrw
   have et:wF (.mk tt (-1) [])=4:=by rw [htt]; have e:(ByteArray.mk #[116,114,117,101]).size=4:=rfl; simp only [wF,wFL,wT,wL,List.length_nil,e]
   refine ⟨p+1,S4,_,_,_,_,g,c,_,ks++[.mk tt (-1) []],by omega,(hE1.trans hE3).trans hE4,hrt.mono (hE3.trans hE4).1,hci,hks4,?_,hI.last 2 rfl⟩
   rw [List.length_append,Mn]
   simp only [List.length_singleton,wFL]
   omega
  refine aY ?_
  refine aI (fun h3=>?_) (fun h3=>?_)
  ·obtain ⟨S3,hE3,hk3,hI,ht3⟩:=hsame (g2:=g) (by omega) (Ext.refl _ _ _) hrt hci (by omega) hI
   refine ad hI 2 rfl bk bp rfl ?_
   refine aD hk3 bS ?_
   refine dv ?_
   refine aI (fun hl=>?_) (fun hl=>?_)
   ·refine ad hI 2 rfl bk bp rfl ?_
    refine gh (l:=1) bS hk3 (by omega) fun v' hv'=>?_
    refine cG hI 2 rfl bk bp rfl (by obtain ⟨a,m,rfl,_⟩:=hv'; rfl) hv'.sl fun w' hI=>?_
    have:=Nk ks
    exact ⟨_,S3,_,_,_,_,g,c,_,ks.drop 1,by omega,hE1.trans hE3,ht3,hci,hv',by rw [List.length_drop]; omega,hI⟩
   ·exact ⟨_,S3,_,_,_,_,g,c,_,ks,by omega,hE1.trans hE3,ht3,hci,hk3,by omega,hI⟩
  refine aY ?_
  refine aI (fun h4=>?_) (fun h4=>?_)
  ·have hI2:Inv w [br] ([B3,B4,.blk b (.cells #[a1,a2,a3,a4,.int .i64 c,.slice qa qn qc] ah),rdI br sl (p+1)]++[aL (.slice qa qn qc) ah 6 css]) S1 w':=hI.last 2 rfl
   obtain ⟨hlx,ho⟩:=Inv.openRow hI2
   rcases ho with ⟨hz,hz0⟩|⟨gb,cap,cur,hz,hnc,hcm,hcs,ht,hI3⟩
   ·have hq:qn=0:=by
     simp only [Value.slice.injEq] at hz
     exact hz.2.1
    refine ad hI 3 rfl bk bp rfl ?_
    refine dX bS ?_
    refine dv ?_
    refine aI (fun hl=>?_) (fun hl=>?_)
    ·omega
    ·exact hdone hI
   refine ad hI 3 rfl bk bp rfl ?_
   refine dX bS ?_
   refine dv ?_
   have hqn:qn=css.length:=by
    simp only [Value.slice.injEq] at hz
    exact hz.2.1
   refine aI (fun hl=>?_) (fun hl=>hdone hI)
   rw [hz] at hI3
   have hpos:0<css.length:=by omega
   have hk0l:0<ks.length:=by omega
   have hcz:cur.size=cap * 6:=hcs
   have hk0:RdF S (aH cur (0+0 * 6) 6) ks[0]:=by
    have hfa:=gY 6 css 0 hR.hk (by omega)
    rw [<- ht,List.drop_take,List.take_take,Nat.min_eq_left (by omega)] at hfa
    have e:aH cur (0+0 * 6) 6=css[0]:=hfa
    rw [e]
    exact hR.hR 0 hk0l hpos
   have hwk:=Al (List.getElem_mem hk0l)
   obtain ⟨wk,hwke⟩:∃ wk,wk=wF ks[0]:=⟨_,rfl⟩
   rw [<- hwke] at hwk
   have hWk:1+wk<=W:=by omega
   have hcallM:∀ (p2:Nat) (S2:ae),p2=p+1->Sle S S2->Tri Tryz.prog sj [rdP br,.agg (aH cur (0+0 * 6) 6).toArray] [rdI br sl p2] S2 (Pk br sl p2 (700 * (wk+1)) (wk+1000)):=by
    intro p2 S2 hp2 hle
    have:=ih ks[0] (List.getElem_mem hk0l) p2 S2 _ (hrd.monoU hle) (hk0.mono hle)
    rw [<- hwke] at this
    obtain ⟨q1,q2,_⟩:=harith wk hWk
    exact this q1 (by rw [hp2]; exact q2)
   have hI:Inv w [br] [B3,B4,.blk b (.cells #[a1,a2,a3,a4,.int .i64 c,.slice (some ⟨gb,0,none⟩) css.length cap] ah),.blk gb (.cells cur ah),rdI br sl (p+1)] S1 w':=hI3.last 3 rfl
   have hixz:∀ {ty:TypeId} {K:Value->World->Prop} {w':World},K (.pointer (some ⟨gb,0,none⟩)) w'->Run Tryz.prog (sOp (.indexAddr DZ (.const (.slice (some ⟨gb,0,none⟩) css.length cap)) (.const (.int .i64 0))) ty) w' K:=fun hk=>au (i:=0) bS hpos hk
   refine ⟨fun D Co tH tK vZ tN tM sY rH tE w_=>Fx D 0 [tE=.pointer (some ⟨b,5,none⟩),rH=.slice (some ⟨gb,0,none⟩) css.length cap,sY=rdP br,tM=.pointer (some ⟨b,5,none⟩),tN=.slice (some ⟨gb,0,none⟩) css.length cap,vZ=.pointer (some ⟨gb,0,none⟩),tK=.agg (aH cur (0+0 * 6) 6).toArray,True,Co=.pointer (some ⟨gb,0,none⟩),True]/\∃ p2 S2 q,(D 7=false->p2=p+1)/\(p2<=p+1+700 * (wk+1))/\Ext w.heap.size [br] S1 S2/\(D 7=true->∃ cs y,tH=.agg (List.toArray cs)/\RdF S2 cs y/\wF y<=wk+1000)/\(D 9=true->D 6=true)/\(D 9=false->q=cur)/\(D 9=true->∃ cs y,q=bx cur 0 cs/\RdF S2 cs y/\wF y<=wk+1000)/\Inv w [br] [B3,B4,.blk b (.cells #[a1,a2,a3,a4,.int .i64 c,.slice (some ⟨gb,0,none⟩) css.length cap] ah),.blk gb (.cells q ah),rdI br sl p2] S2 w_,⟨Fx.nil _ _,⟨p+1,S1,cur,fun _=>rfl,by omega,Ext.refl _ _ _,aU,aU,fun _=>rfl,aU,hI.draw⟩⟩,⟨?_,?_,?_,?_,?_,?_,?_,?_,?_,?_,trivial⟩,?_⟩
   all_goals (intro D bo; intros; rename_i Co tH tK vZ tN tM sY rH tE w_ hA_; have hF_:=hA_.1; obtain ⟨⟨bU,bV,bH,bR,bZ,bI,bB,ct,cF,cK,_⟩,⟨p2,S2,q,z7,hp2,hE2,f7,k9,z9,f9,hI⟩⟩:=hA_)
   ·refine ai bk ?_
    exact ⟨hF_.set 0 rfl,⟨p2,S2,q,z7,hp2,hE2,f7,k9,z9,f9,hI⟩⟩
   ·obtain rfl:=bU ‹_›
    refine aA hI 2 bp rfl rfl ?_
    exact ⟨hF_.set 1 rfl,⟨p2,S2,q,z7,hp2,hE2,f7,k9,z9,f9,hI⟩⟩
   ·exact ⟨hF_.set 2 rfl,⟨p2,S2,q,z7,hp2,hE2,f7,k9,z9,f9,hI⟩⟩
   ·refine ai bk ?_
    exact ⟨hF_.set 3 rfl,⟨p2,S2,q,z7,hp2,hE2,f7,k9,z9,f9,hI⟩⟩
   ·obtain rfl:=bR ‹_›
    refine aA hI 2 bp rfl rfl ?_
    exact ⟨hF_.set 4 rfl,⟨p2,S2,q,z7,hp2,hE2,f7,k9,z9,f9,hI⟩⟩
   ·obtain rfl:=bZ ‹_›
    refine hixz ?_
    exact ⟨hF_.set 5 rfl,⟨p2,S2,q,z7,hp2,hE2,f7,k9,z9,f9,hI⟩⟩
   ·obtain rfl:=bI ‹_›
    have n9:D 9=false:=Bool.eq_false_iff.2 fun h=>by rw [k9 h] at bo; cases bo
    have hI2:=hI
    rw [z9 n9] at hI2
    refine b0 hI2 3 (aH cur (0+0 * 6) 6) aT rfl hk0.length (fun j v hj=>ar rfl j v hj) ?_
    have k9:aF D 6 9=true->aF D 6 6=true:=fun _=>rfl
    exact ⟨hF_.set 6 rfl,⟨p2,S2,q,z7,hp2,hE2,f7,k9,z9,f9,hI⟩⟩
   ·obtain rfl:=bH ‹_›
    obtain rfl:=bB ‹_›
    have hpe:=z7 bo
    refine Run.callL (L:=[B3,B4,.blk b _,.blk gb _,rdI br sl p2]) pn qA hI (hcallM p2 S2 hpe (hE1.1.trans hE2.1)) rfl fun v' I' S3 w_=>?_
    rintro ⟨p3,hp3,rfl,cs',y,rfl,hcs',hwy⟩ hE3 hI
    have hI:Inv w [br] [B3,B4,.blk b (.cells #[a1,a2,a3,a4,.int .i64 c,.slice (some ⟨gb,0,none⟩) css.length cap] ah),.blk gb (.cells q ah),rdI br sl p3] S3 w_:=hI
    have z7:aF D 7 7=false->p3=p+1:=fun h=>Bool.noConfusion h
    have hp2:p3<=p+1+700 * (wk+1):=by rw [<- hpe]; exact hp3
    have hE2:=hE2.trans hE3
    have f7:aF D 7 7=true->∃ cs y,Value.agg cs'.toArray=.agg (List.toArray cs)/\RdF S3 cs y/\wF y<=wk+1000:=fun _=>⟨cs',y,rfl,hcs',hwy⟩
    have f9:aF D 7 9=true->∃ cs y,q=bx cur 0 cs/\RdF S3 cs y/\wF y<=wk+1000:=fun h=>by
     obtain ⟨cs2,y2,e,h2,h3⟩:=f9 h
     exact ⟨cs2,y2,e,h2.mono hE3.1,h3⟩
    obtain ⟨p2,rfl⟩:∃ p2,p2=p3:=⟨_,rfl⟩
    obtain ⟨S2,rfl⟩:∃ S2,S2=S3:=⟨_,rfl⟩
    exact ⟨hF_.set 7 (by first|assumption|trivial),⟨p2,S2,q,z7,hp2,hE2,f7,k9,z9,f9,hI⟩⟩
   ·obtain rfl:=bV ‹_›
    refine hixz ?_
    exact ⟨hF_.set 8 rfl,⟨p2,S2,q,z7,hp2,hE2,f7,k9,z9,f9,hI⟩⟩
   ·obtain rfl:=cF ‹_›
    have zQ:=ct ‹_›
    obtain ⟨cs2,y2,rfl,h2,h3⟩:=f7 ‹D 7=true›
    rw [z9 bo] at hI
    refine kP hI 3 rfl aT (by simpa [Value.cells] using h2.length) (by rw [hcz]; exact Nat.ble_eq_true_of_le (by omega)) (by simpa [Value.cells] using h2.one) fun w_ hI=>?_
    have k9:aF D 9 9=true->aF D 9 6=true:=fun _=>by assumption
    obtain ⟨q,hq⟩:∃ q:Array Value,q=bx cur 0 cs2:=⟨_,rfl⟩
    have z9:aF D 9 9=false->q=cur:=fun h=>Bool.noConfusion h
    have f9:aF D 9 9=true->∃ cs y,q=bx cur 0 cs/\RdF S2 cs y/\wF y<=wk+1000:=fun _=>⟨cs2,y2,hq,h2,h3⟩
    have hI:Inv w [br] [B3,B4,.blk b (.cells #[a1,a2,a3,a4,.int .i64 c,.slice (some ⟨gb,0,none⟩) css.length cap] ah),.blk gb (.cells q ah),rdI br sl p2] S2 w_:=by rw [hq]; exact hI
    exact ⟨hF_.set 9 trivial,⟨p2,S2,q,z7,hp2,hE2,f7,k9,z9,f9,hI⟩⟩
   obtain ⟨rfl,rfl,rfl,rfl,rfl,rfl,rfl,zQ,rfl,_,_⟩:=hF_.all
   have Fz:D 9=true:=by assumption
   clear hF_ bU bV bH bR bZ bI bB ct cF cK
   obtain ⟨cs2,y2,rfl,h2,h3⟩:=f9 Fz
   have hI:Inv w [br] ([B3,B4,.blk b (.cells #[a1,a2,a3,a4,.int .i64 c,.slice (some ⟨gb,0,none⟩) css.length cap] ah),rdI br sl p2]++[.blk gb (.cells (bx cur 0 cs2) ah)]) S2 w_:=hI.last 3 rfl
   obtain ⟨S3,hI,hE3,hgS⟩:=Inv.pub1 hI
   have hks3:=RdSl.put0 hR ht hnc hcm hcz (hE1.1.trans (hE2.1.trans hE3.1)) hgS (h2.mono hE3.1) hk0l
   rw [<- hRc] at hks3
   have hws:=PX ks y2 hk0l
   rw [<- hwke] at hws
   have hwq:wT g+ks.length+wFL (ks.set 0 y2)<=W+1000:=by
    generalize wFL (ks.set 0 y2)=v1 at hws ⊢
    generalize wF y2=v2 at hws h3
    omega
   exact ⟨p2,S3,_,_,_,_,g,c,_,ks.set 0 y2,Nat.le_trans hp2 (harith wk hWk).2.2,(hE1.trans hE2).trans hE3,hrt.mono (hE2.1.trans hE3.1),hci,hks3,by rw [List.length_set]; exact hwq,hI⟩
  ·exact hdone hI
 intro _ _ _ _ _ _ _ _ _ _ _ _ _ _ _ _ _ _ _ _ _ _ _ _ _ _ _ _ _ _ _ _ _ _ _ _ _ _ _ _ _ _ _ _ _ _ _ _ _ w'
 rintro ⟨p2,S2,e1,e2,e3',e4',g2,c2,kv,kk,hp2,hE2,ht2,hc2,hkk,hw2,hI⟩
 obtain ⟨tkv,hte,_⟩:=RdT.iff.1 ht2
 simp only [List.cons.injEq,and_true] at hte
 obtain ⟨rfl,rfl,rfl,rfl⟩:=hte
 have hfin:RdF S2 [.int .i64 g2.kind,.int .i64 g2.n,.string g2.name,e4',.int .i64 c2,kv] (.mk g2 c2 kk):=RdF.iff.2 ⟨_,_,rfl,ht2,hc2,hkk⟩
 refine aq hI 2 aT rfl rfl ?_
 refine ao (cs:=#[.int .i64 g2.kind,.int .i64 g2.n,.string g2.name,e4',.int .i64 c2,kv]) hI 1 e4 aT rfl rfl (by simpa using hfin.one) fun w' hI=>?_
 refine aW hI 1 aT rfl rfl ?_
 exact ⟨_,[rdI br sl p2],S2,rfl,hI.pick [false,false,false,true],hE2,p2,hp2,rfl,_,_,rfl,hfin,by rw [wF]; exact hw2⟩
theorem jw {S:ae} {v:Value} (h:RdSl S 1 jC v ys):Tri Tryz.prog tk [v] [] S fun v' I' S'=>I'=[]/\∃ u cs ps x,v'=.tuple #[u,.agg cs.toArray]/\RdSl S' 5 (RdC S') u ps/\Light 30 900 ps/\RdF S' cs x/\wF x<=101000:=by
 intro w hI
 refine jZ.2 ?_
 dsimp only[jZ,aO]
 refine aG hI dG fun b3 w' hI=>?_
 have hI:Inv w [] [.blk b3 (.cells zP6 ah)] S w':=hI
 refine Run.call0E Fk EY hI (KU h) fun v1 I' S1 w'=>?_
 rintro ⟨eS,br,sl,ys',rfl,rfl,hrd⟩ _ hI
 rw [eS] at hI
 have hI:Inv w [] [.blk b3 (.cells zP6 ah),rdI br sl 0] S w':=hI
 refine Run.callL Fu GF hI (DE (p:=0) hrd (by omega)) rfl fun v2 I' S2 w'=>?_
 rintro ⟨p1,hp1,rfl,u,cs,ps,x,rfl,hps,hlp,h0,hpv,hx,hwx⟩ hE2 hI
 have hxl:=hx.length
 refine aj (v:=u) rfl ?_
 refine aj (v:=.agg cs.toArray) rfl ?_
 refine aG hI dG fun b6 w' hI=>?_
 have hI:Inv w [] [.blk b3 (.cells zP6 ah),rdI br sl p1,.blk b6 (.cells zP6 ah)] S2 w':=hI
 refine ao hI 2 rfl aT (by simpa using hxl) rfl (by simpa using hx.one) fun w' hI=>?_
 have hI:Inv w [] [.blk b3 (.cells zP6 ah),.blk b6 (.cells cs.toArray ah),rdI br sl p1] S2 w':=hI.last 1 rfl
 refine ⟨fun v w'=>∃ (p2:Nat) (S3:ae) (qs:List C),p2<=p1+1+20000/\Ext w.heap.size [] S2 S3/\RdSl S3 5 (RdC S3) v qs/\Light 30 900 qs/\Inv w [] [.blk b3 (.cells zP6 ah),.blk b6 (.cells cs.toArray ah),rdI br sl p2] S3 w',?_,?_⟩
 ·refine Run.callL bO bN hI (cY (n:=3) (p:=p1) (hrd.monoU hE2.1) (by omega) (by omega)) rfl fun v' I' S' w'=>?_
  rintro ⟨eS,rfl,k,hk,rfl⟩ _ hI
  rw [eS] at hI
  have hI:Inv w [] [.blk b3 (.cells zP6 ah),.blk b6 (.cells cs.toArray ah),rdI br sl (p1+1)] S2 w':=hI
  refine aY ?_
  refine aI (fun _=>?_) (fun _=>?_)
  ·refine Run.callL xG xN hI (wi (m:=200) (p:=p1+1) (hrd.monoU hE2.1) hps ⟨by have:=hlp.1; omega,hlp.2⟩ h0 (by omega) (by omega)) rfl fun v' I' S3 w'=>?_
   rintro ⟨p2,hp2,rfl,qs,hqs,hlq⟩ hE3 hI
   exact ⟨p2,S3,qs,hp2,hE3,hqs,hlq,hI⟩
  ·exact ⟨p1+1,S2,ps,Nat.le_add_right _ _,Ext.refl _ _ _,hps,⟨by have:=hlp.1; omega,fun c hc=>by have:=hlp.2 c hc; omega⟩,hI⟩
 intro q _ _ _ _ _ _ w'
 rintro ⟨p2,S3,qs,hp2,hE3,hqs,hlq,hI⟩
 refine aq hI 1 aT rfl (by simpa using hxl) ?_
 refine Run.callL pn qA hI (zP x p2 S3 cs (hrd.monoU (hE2.trans hE3).1) (hx.mono hE3.1) (by omega) (by omega)) rfl fun v3 I' S4 w'=>?_
 rintro ⟨p3,hp3,rfl,ds,y,rfl,hy,hwy⟩ hE4 hI
 have hyl:=hy.length
 refine ao hI 0 rfl aT (by simpa using hyl) rfl (by simpa using hy.one) fun w' hI=>?_
 refine aW hI 0 aT rfl (by simpa using hyl) ?_
 exact ⟨_,[],S4,rfl,hI.nil,(hE2.trans hE3).trans hE4,rfl,_,ds,qs,y,rfl,hqs.monoC hE4.1,hlq,hy,by omega⟩
end
end
section
open Go Go.RowKit
section
attribute [local irreducible] Run CondV aB aS
set_option maxHeartbeats 1000000 in
theorem BV {p:List C} (hpv:iA p=true):∀ (x:PF) (d:Int) (S:ae) (u:Value) (cs:List Value),pf x d=true->RdSl S 5 (RdC S) u p->RdF S cs x->Pure Tryz.prog Kq [u,.agg cs.toArray] S (.bool (chkF p x)):=by
 refine PF.ind fun g c ks ih d S u cs hsh hp h=>?_
 intro w hI
 obtain ⟨kv,kf,rfl,hg,hci,hks⟩:=RdF.iff.1 h
 obtain ⟨hgb,hcr,hkids⟩:=mR hsh
 have hgv:=ek hgb
 have hgw:=oo hgv
 simp only [PF.goal,PF.kids,PF.clause] at hg hci hks ⊢
 have hkl:=hks.le
 simp only [maxLen] at hkl
 rw [chkF,nodeC]
 refine zf.2 ?_
 dsimp only[zf,aX]
 refine be hI fun b3 w' hI=>?_
 have hI:Inv w [] [.blk b3 (.cells #[.int .i64 g.kind,.int .i64 g.n,.string g.name,kv,.int .i64 c,kf] ah)] S w':=hI
 refine ad (u:=.int .i64 c) hI 0 rfl cN aw rfl ?_
 refine bA ?_
 refine aI (fun hneg=>?_) (fun hneg=>?_)
 ·rw [if_pos hneg]
  refine ai cP ?_
  refine b0 hI 0 [.int .i64 g.kind,.int .i64 g.n,.string g.name,kv] ac rfl rfl sH ?_
  refine Run.call0E xz xi hI (rn hgv ⟨iO hgv,by omega⟩ (EE hgv) (Ai hgv) hg) fun v' I' S1 w'=>?_
  rintro ⟨a,n,cap,c1,rfl,hfl⟩ hE hI
  refine aj (v:=.slice a n cap) rfl ?_
  refine aj (v:=.int .i64 c1) rfl ?_
  refine ai cP ?_
  refine b0 hI 0 [.int .i64 g.kind,.int .i64 g.n,.string g.name,kv] ac rfl rfl sH ?_
  refine Run.callPure j6 j5 hI (jm (hg.mono hE.1)) fun w' hI=>?_
  have hk0:chkFL p ks=true ∨ ks.length≠0:=by
   by_cases h:ks.length=0
   ·rw [List.eq_nil_of_length_eq_zero h]; exact .inl rfl
   ·exact .inr h
  cases hb:cM g
  ·refine rpG ?_
   refine gg hI hE.1 ?_
   rcases Ai hgv with ⟨_,h2⟩|⟨h2,_⟩
   ·rw [h2,Bool.and_false]; rfl
   ·rw [hb] at h2; cases h2
  refine rpG ?_
  refine ad hI 0 rfl bk bp rfl ?_
  refine aD hks bS ?_
  refine aY ?_
  have el:decide ((ks.length:Int)=0)=decide (ks.length=0):=by rw [decide_eq_decide]; omega
  rw [el]
  cases hkk:decide (ks.length=0)
  ·refine rpG ?_
   exact gg hI hE.1 rfl
  have hkk:=of_decide_eq_true hkk
  have hcl:chkFL p ks=true:=hk0.resolve_right (fun h=>h hkk)
  rw [hcl]
  refine rpG ?_
  refine dX EH ?_
  refine aY ?_
  have en:decide ((n:Int)=0)=decide (n=0):=by rw [decide_eq_decide]; omega
  rw [en,<- hfl]
  cases hn0:decide (n=0)
  ·refine rpG ?_
   refine gg hI hE.1 ?_
   simp
  refine rpG ?_
  refine aY ?_
  refine rpG ?_
  refine gg hI hE.1 ?_
  simp
 rw [if_neg hneg]
 by_cases hge:(p.length:Int)<=c
 ·have hpn:p[c.toNat]?=none:=List.getElem?_eq_none (by omega)
  rw [hpn]
  refine ⟨fun D rB sB pj lp ro rZ rN pm jK mh kw lW jJ j1 jG na ij gX w_=>Fx D 0 [gX=.pointer (some ⟨b3,4,none⟩),ij=.int .i64 c,na=u,jG=.int .i64 p.length,j1=.bool true,jJ=.bool true,lW=undef,kw=undef,mh=undef,jK=undef,pm=undef,rN=undef,rZ=undef,ro=undef,lp=undef,pj=undef,sB=undef,rB=.bool true]/\Inv w [] [.blk b3 (.cells #[.int .i64 g.kind,.int .i64 g.n,.string g.name,kv,.int .i64 c,kf] ah)] S w_,⟨Fx.nil _ _,hI.draw⟩,⟨?_,?_,?_,?_,?_,?_,?_,?_,?_,?_,?_,?_,?_,?_,?_,?_,?_,?_,trivial⟩,?_⟩
  all_goals (intro D bo; intros; rename_i rB sB pj lp ro rZ rN pm jK mh kw lW jJ j1 jG na ij gX w_ hA_; have hF_:=hA_.1; obtain ⟨⟨bU,bV,bH,bR,bZ,bI,bB,ct,cF,cK,bG,bX,cI,dq,cC,dA,dH,dV,_⟩,hI⟩:=hA_)
  ·refine ai cN ?_
   exact ⟨hF_.set 0 rfl,hI⟩
  ·obtain rfl:=bU ‹_›
   refine aA hI 0 aw rfl rfl ?_
   exact ⟨hF_.set 1 rfl,hI⟩
  ·exact ⟨hF_.set 2 rfl,hI⟩
  ·obtain rfl:=bH ‹_›
   refine aD hp bz ?_
   exact ⟨hF_.set 3 rfl,hI⟩
  ·obtain rfl:=bV ‹_›
   obtain rfl:=bR ‹_›
   refine fY ?_
   rw [decide_eq_true hge]
   exact ⟨hF_.set 4 rfl,hI⟩
  ·obtain rfl:=bZ ‹_›
   exact ⟨hF_.set 5 rfl,hI⟩
  ·obtain rfl:=bI ‹_›
   refine rpG ?_
   exact ⟨hF_.set 6 rfl,hI⟩
  ·obtain rfl:=bB ‹_›
   obtain rfl:=bI ‹_›
   refine rpG ?_
   exact ⟨hF_.set 7 rfl,hI⟩
  ·obtain rfl:=ct ‹_›
   obtain rfl:=bI ‹_›
   refine rpG ?_
   exact ⟨hF_.set 8 rfl,hI⟩
  ·obtain rfl:=bI ‹_›
   refine rpG ?_
   exact ⟨hF_.set 9 rfl,hI⟩
  ·obtain rfl:=bI ‹_›
   refine rpG ?_
   exact ⟨hF_.set 10 rfl,hI⟩
  ·obtain rfl:=bG ‹_›
   obtain rfl:=bI ‹_›
   refine rpG ?_
   exact ⟨hF_.set 11 rfl,hI⟩
  ·obtain rfl:=cK ‹_›
   obtain rfl:=bX ‹_›
   obtain rfl:=bI ‹_›
   refine rpG ?_
   exact ⟨hF_.set 12 rfl,hI⟩
  ·obtain rfl:=cI ‹_›
   obtain rfl:=bI ‹_›
   refine rpG ?_
   exact ⟨hF_.set 13 rfl,hI⟩
  ·obtain rfl:=dq ‹_›
   obtain rfl:=bI ‹_›
   refine rpG ?_
   exact ⟨hF_.set 14 rfl,hI⟩
  ·obtain rfl:=cC ‹_›
   obtain rfl:=bI ‹_›
   refine rpG ?_
   exact ⟨hF_.set 15 rfl,hI⟩
  ·obtain rfl:=cF ‹_›
   obtain rfl:=dA ‹_›
   obtain rfl:=bI ‹_›
   refine rpG ?_
   exact ⟨hF_.set 16 rfl,hI⟩
  ·obtain rfl:=bI ‹_›
   obtain rfl:=dH ‹_›
   refine rpG ?_
   exact ⟨hF_.set 17 rfl,hI⟩
  obtain ⟨rfl,rfl,rfl,rfl,rfl,rfl,rfl,rfl,rfl,rfl,rfl,rfl,rfl,rfl,rfl,rfl,rfl,rfl,_⟩:=hF_.all
  clear hF_ bU bV bH bR bZ bI bB ct cF cK bG bX cI dq cC dA dH dV
  refine az (fun _=>done hI rfl) (fun hb=>by cases hb)
 obtain ⟨j,hcj⟩:∃ j:Nat,c=(j:Int):=⟨c.toNat,by omega⟩
 have hjl:j<p.length:=by omega
 subst hcj
 have hpe:p[(j:Int).toNat]?=some p[j]:=by rw [Int.toNat_natCast,List.getElem?_eq_getElem hjl]
 rw [hpe]
 have hqv:=pJ hpv (List.getElem_mem hjl)
 obtain ⟨q,hq⟩:∃ q,q=p[j]:=⟨_,rfl⟩
 obtain ⟨pb,po,pcap,pc,pE,pfz,rfl,hpS,hpR⟩:=hp.at_ hjl
 rw [<- hq] at hpR hqv ⊢
 obtain ⟨kh,kb,hcc,hqh,hqb⟩:=hpR.cells
 have hcl5:=hpR.length
 rw [hcc] at hpR
 have hlq:decide ((ks.length:Int)=(q.body.length:Int))=decide (ks.length=q.body.length):=by rw [decide_eq_decide]; omega
 have hqo:=rf hqv
 refine ⟨fun D rB sB pj lp ro rZ rN pm jK mh kw lW jJ j1 jG na ij gX w_=>Fx D 0 [gX=.pointer (some ⟨b3,4,none⟩),ij=.int .i64 (j:Int),na=.slice (some ⟨pb,po,none⟩) p.length pcap,jG=.int .i64 p.length,j1=.bool false,jJ=.bool false,lW=.pointer (some ⟨b3,5,none⟩),kw=kf,mh=.int .i64 ks.length,jK=.slice (some ⟨pb,po,none⟩) p.length pcap,pm=.pointer (some ⟨b3,4,none⟩),rN=.int .i64 (j:Int),rZ=.pointer (some ⟨pb,po+j * 5,none⟩),ro=.pointer (some ⟨pb,po+j * 5+4,none⟩),lp=kb,pj=.int .i64 q.body.length,sB=.bool (!decide (ks.length=q.body.length)),rB=.bool (!decide (ks.length=q.body.length))]/\Inv w [] [.blk b3 (.cells #[.int .i64 g.kind,.int .i64 g.n,.string g.name,kv,.int .i64 (j:Int),kf] ah)] S w_,⟨Fx.nil _ _,hI.draw⟩,⟨?_,?_,?_,?_,?_,?_,?_,?_,?_,?_,?_,?_,?_,?_,?_,?_,?_,?_,trivial⟩,?_⟩
 all_goals (intro D bo; intros; rename_i rB sB pj lp ro rZ rN pm jK mh kw lW jJ j1 jG na ij gX w_ hA_; have hF_:=hA_.1; obtain ⟨⟨bU,bV,bH,bR,bZ,bI,bB,ct,cF,cK,bG,bX,cI,dq,cC,dA,dH,dV,_⟩,hI⟩:=hA_)
 ·refine ai cN ?_
  exact ⟨hF_.set 0 rfl,hI⟩
 ·obtain rfl:=bU ‹_›
  refine aA hI 0 aw rfl rfl ?_
  exact ⟨hF_.set 1 rfl,hI⟩
 ·exact ⟨hF_.set 2 rfl,hI⟩
 ·obtain rfl:=bH ‹_›
  refine aD hp bz ?_
  exact ⟨hF_.set 3 rfl,hI⟩
 ·obtain rfl:=bV ‹_›
  obtain rfl:=bR ‹_›
  refine fY ?_
  rw [decide_eq_false hge]
  exact ⟨hF_.set 4 rfl,hI⟩
 ·obtain rfl:=bZ ‹_›
  exact ⟨hF_.set 5 rfl,hI⟩
 ·obtain rfl:=bI ‹_›
  refine rpG ?_
  refine ai bk ?_
  exact ⟨hF_.set 6 rfl,hI⟩
 ·obtain rfl:=bB ‹_›
  obtain rfl:=bI ‹_›
  refine rpG ?_
  refine aA hI 0 bp rfl rfl ?_
  exact ⟨hF_.set 7 (by first|assumption|trivial),hI⟩
 ·have zQ:=ct ‹_›
  obtain rfl:=bI ‹_›
  refine rpG ?_
  refine aD (xs:=ks) (by rw [zQ]; exact hks) bS ?_
  exact ⟨hF_.set 8 rfl,hI⟩
 ·obtain rfl:=bI ‹_›
  refine rpG ?_
  exact ⟨hF_.set 9 rfl,hI⟩
 ·obtain rfl:=bI ‹_›
  refine rpG ?_
  refine ai cN ?_
  exact ⟨hF_.set 10 rfl,hI⟩
 ·obtain rfl:=bG ‹_›
  obtain rfl:=bI ‹_›
  refine rpG ?_
  refine aA hI 0 aw rfl rfl ?_
  exact ⟨hF_.set 11 rfl,hI⟩
 ·obtain rfl:=cK ‹_›
  obtain rfl:=bX ‹_›
  obtain rfl:=bI ‹_›
  refine rpG ?_
  refine au bz hjl ?_
  exact ⟨hF_.set 12 rfl,hI⟩
 ·obtain rfl:=cI ‹_›
  obtain rfl:=bI ‹_›
  refine rpG ?_
  refine ai bi ?_
  exact ⟨hF_.set 13 rfl,hI⟩
 ·obtain rfl:=dq ‹_›
  obtain rfl:=bI ‹_›
  refine rpG ?_
  refine cz ag (by rw [hI.cellS hpS]; exact ar hcc 4 _ rfl) ?_
  exact ⟨hF_.set 14 (by first|assumption|trivial),hI⟩
 ·have B0:=cC ‹_›
  obtain rfl:=bI ‹_›
  refine rpG ?_
  refine aD (xs:=q.body) (by rw [B0]; exact hqb) af ?_
  exact ⟨hF_.set 15 rfl,hI⟩
 ·obtain rfl:=cF ‹_›
  obtain rfl:=dA ‹_›
  obtain rfl:=bI ‹_›
  refine rpG ?_
  refine cE ?_
  rw [hlq]
  exact ⟨hF_.set 16 rfl,hI⟩
 ·obtain rfl:=bI ‹_›
  obtain rfl:=dH ‹_›
  refine rpG ?_
  exact ⟨hF_.set 17 rfl,hI⟩
 obtain ⟨rfl,rfl,rfl,rfl,rfl,rfl,rfl,zQ,rfl,rfl,rfl,rfl,rfl,rfl,B0,rfl,rfl,rfl,_⟩:=hF_.all
 clear hF_ bU bV bH bR bZ bI bB ct cF cK bG bX cI dq cC dA dH dV
 refine az (fun hb=>done hI ?_) (fun hb=>?_)
 ·have hb:decide (ks.length=q.body.length)=false:=by simpa using hb
  simp only [hb]
  rfl
 have hlen:ks.length=q.body.length:=by simpa using hb
 simp only [decide_eq_true hlen,Bool.true_and]
 refine ad (u:=.int .i64 (j:Int)) hI 0 rfl cN aw rfl ?_
 refine au bz hjl ?_
 refine bw (cs:=[.int .i64 q.head.kind,.int .i64 q.head.n,.string q.head.name,kh,kb]) bl rfl (fun i v hi=>by rw [hI.cellS hpS]; exact ar hcc i v hi) ?_
 refine aG hI dB fun b5 w' hI=>?_
 refine ao hI 1 rfl bl rfl rfl (by simpa using hpR.one) fun w' hI=>?_
 refine xo hI fun mm w' hI=>?_
 have hI:Inv w [] [.blk b3 (.cells #[.int .i64 g.kind,.int .i64 g.n,.string g.name,kv,.int .i64 (j:Int),kf] ah),.blk b5 (.cells #[.int .i64 q.head.kind,.int .i64 q.head.n,.string q.head.name,kh,kb] av),.blk mm (.map #[] 0)] S w':=hI
 refine ai cP ?_
 refine b0 hI 0 [.int .i64 g.kind,.int .i64 g.n,.string g.name,kv] ac rfl rfl sH ?_
 refine ai co ?_
 refine b0 hI 1 [.int .i64 q.head.kind,.int .i64 q.head.n,.string q.head.name,kh] ac rfl rfl H2 ?_
 have hgk:=(iy hgv).2
 have hcall:=ld q.head g S _ _ mm 0 #[] st0 hqh hg hqo.1.1 hgk Fh (KnownM.empty S)
 have hsn:=jx q.head g st0 Fh hgk
 generalize bL q.head g st0=r0 at hcall hsn ⊢
 refine Run.call (A:=[_,_]) ji i8 hI hcall fun v' I' S1 w'=>?_
 rintro ⟨rfl,rfl,es0,ck0,rfl,hkm⟩ _ hI
 refine bM ?_
 cases hr0:r0.1
 ·refine az (fun _=>done hI rfl) (fun hb=>by cases hb)
 refine az (fun hb=>by cases hb) (fun _=>?_)
 simp only [Bool.true_and]
 rw [<- Hv p q.body ks r0.2 hlen.symm]
 refine ad hI 1 rfl bi ag rfl ?_
 refine aD hqb af ?_
 refine ⟨fun i w'=>∃ (k:Nat) (st':aC) (es:Array MapEntry) (ck:Nat),k<=q.body.length/\i=.int .i64 k/\interL p (q.body.drop k) (ks.drop k) st'=interL p q.body ks r0.2/\xy st'/\KnownM S1 es st'/\Inv w [] [.blk b3 (.cells #[.int .i64 g.kind,.int .i64 g.n,.string g.name,kv,.int .i64 (j:Int),kf] ah),.blk b5 (.cells #[.int .i64 q.head.kind,.int .i64 q.head.n,.string q.head.name,kh,kb] av),.blk mm (.map es ck)] S1 w',
  fun i _=>q.body.length - (intOf i).toNat,⟨0,r0.2,es0,ck0,Nat.zero_le _,rfl,rfl,hsn,hkm,hI⟩,?_⟩
 intro i _ _ t100 t99 t98 t97 t96 t95 t94 t93 t92 t91 t90 t89 t88 t87 t86 t85 t84 t83 t82 t81 t80 t79 t78 t77 _ _ _ _ _ _ w'
 rintro ⟨k,st',es,ck,hk,rfl,hrel,hst,hkm,hI⟩
 have hqbl:=hqb.le
 simp only [maxLen] at hqbl
 refine bA ?_
 refine aI (fun hki=>?_) (fun hki=>?_)
 ·have hk1:k<q.body.length:=by omega
  have hk2:k<ks.length:=by omega
  rw [List.drop_eq_getElem_cons hk1,List.drop_eq_getElem_cons hk2,interL] at hrel
  obtain ⟨qb,qo,qcap,qc,qE,qfz,rfl,hqS,hqR⟩:=hqb.at_ hk1
  obtain ⟨fb,fo,fcap,fc,fE,ffz,rfl,hfS,hfR⟩:=hks.at_ hk2
  obtain ⟨fv,ff,hfe,hfg,_,_⟩:=RdF.iff.1 hfR
  obtain ⟨x,hx⟩:∃ x,x=ks[k]:=⟨_,rfl⟩
  obtain ⟨y,hy⟩:∃ y,y=q.body[k]:=⟨_,rfl⟩
  have hym:y∈q.body:=by rw [hy]; exact List.getElem_mem hk1
  have hxm:x∈ks:=by rw [hx]; exact List.getElem_mem hk2
  have hxs:=hkids x hxm
  have hxg:ef x.goal=true:=by
   obtain ⟨xg,xc,xk⟩:=x
   exact (mR hxs).1
  rw [<- hx] at hfe hfg hrel hfR
  rw [<- hy] at hqR hrel
  refine au af hk1 ?_
  refine bw ac hqR.length (fun i v hi=>by rw [hI.cellS hqS]; exact ar rfl i v hi) ?_
  refine aG hI aP fun b10 w' hI=>?_
  refine ao hI 3 rfl ac (by simpa using hqR.length) rfl (by simpa using hqR.one) fun w' hI=>?_
  obtain ⟨ys,hys⟩:∃ ys,ys=aH qc (qo+k * 4) 4:=⟨_,rfl⟩
  rw [<- hys] at hqR hI
  have hyl:=hqR.length
  have hI:Inv w [] [.blk b3 (.cells #[.int .i64 g.kind,.int .i64 g.n,.string g.name,kv,.int .i64 (j:Int),.slice (some ⟨fb,fo,none⟩) ks.length fcap] ah),.blk b5 (.cells #[.int .i64 q.head.kind,.int .i64 q.head.n,.string q.head.name,kh,.slice (some ⟨qb,qo,none⟩) q.body.length qcap] av),.blk mm (.map es ck),.blk b10 (.cells ys.toArray ab)] S1 w':=hI
  have hst2:=jx y x.goal st' hst (iy (ek hxg)).2
  cases hcut:jR y
  ·cases hm:(bL y x.goal st').1
   ·have hI:=hI
    refine ⟨fun D Jr QX QR QO O9 I0 DU CX Do Ca CG tJ sk tL tz tT tG vH yY xb yc yk vh qu w_=>Fx D 0 [qu=.agg ys.toArray,vh=.bool false,yk=.bool false,yc=.pointer (some ⟨b3,5,none⟩),xb=.slice (some ⟨fb,fo,none⟩) ks.length fcap,yY=.int .i64 k,vH=.pointer (some ⟨fb,fo+k * 6,none⟩),tG=.pointer (some ⟨fb,fo+k * 6,none⟩),tT=.agg #[.int .i64 x.goal.kind,.int .i64 x.goal.n,.string x.goal.name,fv],tz=.agg ys.toArray,tL=.map (some mm),sk=.bool false,tJ=.bool true,CG=.bool true,Ca=.bool true,Do=undef,CX=undef,DU=undef,I0=undef,O9=undef,QO=undef,QR=undef,QX=undef,Jr=.bool true]/\∃ es1 ck1,(D 11=false->es1=es/\ck1=ck)/\(D 11=true->KnownM S1 es1 (bL y x.goal st').2)/\Inv w [] [.blk b3 (.cells #[.int .i64 g.kind,.int .i64 g.n,.string g.name,kv,.int .i64 (j:Int),.slice (some ⟨fb,fo,none⟩) ks.length fcap] ah),.blk b5 (.cells #[.int .i64 q.head.kind,.int .i64 q.head.n,.string q.head.name,kh,.slice (some ⟨qb,qo,none⟩) q.body.length qcap] av),.blk mm (.map es1 ck1),.blk b10 (.cells ys.toArray ab)] S1 w_,⟨Fx.nil _ _,⟨es,ck,fun _=>⟨rfl,rfl⟩,aU,hI.draw⟩⟩,⟨?_,?_,?_,?_,?_,?_,?_,?_,?_,?_,?_,?_,?_,?_,?_,?_,?_,?_,?_,?_,?_,?_,?_,?_,trivial⟩,?_⟩
    all_goals (intro D bo; intros; rename_i Jr QX QR QO O9 I0 DU CX Do Ca CG tJ sk tL tz tT tG vH yY xb yc yk vh qu w_ hA_; have hF_:=hA_.1; obtain ⟨⟨bU,bV,bH,bR,bZ,bI,bB,ct,cF,cK,bG,bX,cI,dq,cC,dA,dH,dV,fu,ew,fP,iq,mK,qJ,_⟩,⟨es1,ck1,k0,k1,hI⟩⟩:=hA_)
    ·refine aq hI 3 ac rfl (by simpa using hyl) ?_
     exact ⟨hF_.set 0 rfl,⟨es1,ck1,k0,k1,hI⟩⟩
    ·obtain rfl:=bU ‹_›
     refine Run.callPure oe om hI (lM hqR) fun w_ hI=>?_
     rw [hcut]
     exact ⟨hF_.set 1 rfl,⟨es1,ck1,k0,k1,hI⟩⟩
    ·obtain rfl:=bV ‹_›
     exact ⟨hF_.set 2 rfl,⟨es1,ck1,k0,k1,hI⟩⟩
    ·obtain rfl:=bH ‹_›
     refine rpG ?_
     refine ai bk ?_
     exact ⟨hF_.set 3 rfl,⟨es1,ck1,k0,k1,hI⟩⟩
    ·obtain rfl:=bR ‹_›
     obtain rfl:=bH ‹_›
     refine rpG ?_
     refine aA hI 0 bp rfl rfl ?_
     exact ⟨hF_.set 4 rfl,⟨es1,ck1,k0,k1,hI⟩⟩
    ·obtain rfl:=bH ‹_›
     refine rpG ?_
     exact ⟨hF_.set 5 rfl,⟨es1,ck1,k0,k1,hI⟩⟩
    ·obtain rfl:=bZ ‹_›
     obtain rfl:=bI ‹_›
     obtain rfl:=bH ‹_›
     refine rpG ?_
     refine au bS hk2 ?_
     exact ⟨hF_.set 6 rfl,⟨es1,ck1,k0,k1,hI⟩⟩
    ·obtain rfl:=bB ‹_›
     obtain rfl:=bH ‹_›
     refine rpG ?_
     refine ai cP ?_
     exact ⟨hF_.set 7 rfl,⟨es1,ck1,k0,k1,hI⟩⟩
    ·obtain rfl:=ct ‹_›
     obtain rfl:=bH ‹_›
     refine rpG ?_
     refine bw (cs:=[.int .i64 x.goal.kind,.int .i64 x.goal.n,.string x.goal.name,fv]) ac rfl (fun i v hi=>by rw [hI.cellS hfS]; exact ar hfe i v (J9 i v hi)) ?_
     exact ⟨hF_.set 8 rfl,⟨es1,ck1,k0,k1,hI⟩⟩
    ·obtain rfl:=bH ‹_›
     refine rpG ?_
     refine aq hI 3 ac rfl (by simpa using hyl) ?_
     exact ⟨hF_.set 9 rfl,⟨es1,ck1,k0,k1,hI⟩⟩
    ·obtain rfl:=bH ‹_›
     refine rpG ?_
     exact ⟨hF_.set 10 rfl,⟨es1,ck1,k0,k1,hI⟩⟩
    ·obtain rfl:=cF ‹_›
     obtain rfl:=cK ‹_›
     obtain rfl:=bG ‹_›
     obtain rfl:=bH ‹_›
     refine rpG ?_
     obtain ⟨e0,e0'⟩:=k0 bo
     rw [e0,e0'] at hI
     have hI:=hI.perm (M:=[.blk b3 (.cells #[.int .i64 g.kind,.int .i64 g.n,.string g.name,kv,.int .i64 (j:Int),.slice (some ⟨fb,fo,none⟩) ks.length fcap] ah),.blk b5 (.cells #[.int .i64 q.head.kind,.int .i64 q.head.n,.string q.head.name,kh,.slice (some ⟨qb,qo,none⟩) q.body.length qcap] av),.blk b10 (.cells ys.toArray ab)]++[.blk mm (.map es ck)]) (((List.Perm.swap ..).cons _).cons _)
     refine Run.callE (A:=[_,_,_]) ji i8 hI (ld y x.goal S1 _ _ mm ck es st' hqR hfg (nD hqo.2.1 _ hym) (iy (ek hxg)).2 hst hkm) fun v' I' S2 w_=>?_
     rintro ⟨eS,rfl,es1,ck1,rfl,hkx⟩ _ hI
     rw [eS] at hI
     have hI:Inv w [] [.blk b3 (.cells #[.int .i64 g.kind,.int .i64 g.n,.string g.name,kv,.int .i64 (j:Int),.slice (some ⟨fb,fo,none⟩) ks.length fcap] ah),.blk b5 (.cells #[.int .i64 q.head.kind,.int .i64 q.head.n,.string q.head.name,kh,.slice (some ⟨qb,qo,none⟩) q.body.length qcap] av),.blk mm (.map es1 ck1),.blk b10 (.cells ys.toArray ab)] S1 w_:=hI.perm (((List.Perm.swap ..).cons _).cons _)
     have k0:=fun (h:aF D 11 11=false)=>(Bool.noConfusion h:es1=es/\ck1=ck)
     have k1:=fun (_:aF D 11 11=true)=>hkx
     rw [hm]
     exact ⟨hF_.set 11 rfl,⟨es1,ck1,k0,k1,hI⟩⟩
    ·obtain rfl:=bX ‹_›
     obtain rfl:=bH ‹_›
     refine rpG ?_
     refine bM ?_
     exact ⟨hF_.set 12 rfl,⟨es1,ck1,k0,k1,hI⟩⟩
    ·obtain rfl:=bH ‹_›
     obtain rfl:=cI ‹_›
     refine rpG ?_
     exact ⟨hF_.set 13 rfl,⟨es1,ck1,k0,k1,hI⟩⟩
    ·obtain rfl:=dq ‹_›
     exact ⟨hF_.set 14 rfl,⟨es1,ck1,k0,k1,hI⟩⟩
    ·obtain rfl:=cC ‹_›
     refine rpG ?_
     exact ⟨hF_.set 15 rfl,⟨es1,ck1,k0,k1,hI⟩⟩
    ·obtain rfl:=cC ‹_›
     refine rpG ?_
     exact ⟨hF_.set 16 rfl,⟨es1,ck1,k0,k1,hI⟩⟩
    ·obtain rfl:=dH ‹_›
     obtain rfl:=cC ‹_›
     refine rpG ?_
     exact ⟨hF_.set 17 rfl,⟨es1,ck1,k0,k1,hI⟩⟩
    ·obtain rfl:=cC ‹_›
     refine rpG ?_
     exact ⟨hF_.set 18 rfl,⟨es1,ck1,k0,k1,hI⟩⟩
    ·obtain rfl:=dV ‹_›
     obtain rfl:=fu ‹_›
     obtain rfl:=cC ‹_›
     refine rpG ?_
     exact ⟨hF_.set 19 rfl,⟨es1,ck1,k0,k1,hI⟩⟩
    ·obtain rfl:=ew ‹_›
     obtain rfl:=cC ‹_›
     refine rpG ?_
     exact ⟨hF_.set 20 rfl,⟨es1,ck1,k0,k1,hI⟩⟩
    ·obtain rfl:=dA ‹_›
     obtain rfl:=fP ‹_›
     obtain rfl:=cC ‹_›
     refine rpG ?_
     exact ⟨hF_.set 21 rfl,⟨es1,ck1,k0,k1,hI⟩⟩
    ·obtain rfl:=iq ‹_›
     obtain rfl:=cC ‹_›
     refine rpG ?_
     exact ⟨hF_.set 22 rfl,⟨es1,ck1,k0,k1,hI⟩⟩
    ·obtain rfl:=cC ‹_›
     obtain rfl:=mK ‹_›
     refine rpG ?_
     exact ⟨hF_.set 23 rfl,⟨es1,ck1,k0,k1,hI⟩⟩
    obtain ⟨rfl,rfl,rfl,rfl,rfl,rfl,rfl,rfl,rfl,rfl,rfl,rfl,rfl,rfl,rfl,rfl,rfl,rfl,rfl,rfl,rfl,rfl,rfl,rfl,_⟩:=hF_.all
    clear hF_ bU bV bH bR bZ bI bB ct cF cK bG bX cI dq cC dA dH dV fu ew fP iq mK qJ
    refine az (fun _=>done hI ?_) (fun hb=>by cases hb)
    rw [<- hrel,hcut,hm]; rfl
   ·have hI:=hI
    refine ⟨fun D Jr QX QR QO O9 I0 DU CX Do Ca CG tJ sk tL tz tT tG vH yY xb yc yk vh qu w_=>Fx D 0 [qu=.agg ys.toArray,vh=.bool false,yk=.bool false,yc=.pointer (some ⟨b3,5,none⟩),xb=.slice (some ⟨fb,fo,none⟩) ks.length fcap,yY=.int .i64 k,vH=.pointer (some ⟨fb,fo+k * 6,none⟩),tG=.pointer (some ⟨fb,fo+k * 6,none⟩),tT=.agg #[.int .i64 x.goal.kind,.int .i64 x.goal.n,.string x.goal.name,fv],tz=.agg ys.toArray,tL=.map (some mm),sk=.bool true,tJ=.bool false,CG=.bool false,Ca=.bool false,Do=.slice (some ⟨pb,po,none⟩) p.length pcap,CX=.pointer (some ⟨b3,5,none⟩),DU=.slice (some ⟨fb,fo,none⟩) ks.length fcap,I0=.int .i64 k,O9=.pointer (some ⟨fb,fo+k * 6,none⟩),QO=.agg (aH fc (fo+k * 6) 6).toArray,QR=.bool (chkF p x),QX=.bool (!chkF p x),Jr=.bool (!chkF p x)]/\∃ es1 ck1,(D 11=false->es1=es/\ck1=ck)/\(D 11=true->KnownM S1 es1 (bL y x.goal st').2)/\Inv w [] [.blk b3 (.cells #[.int .i64 g.kind,.int .i64 g.n,.string g.name,kv,.int .i64 (j:Int),.slice (some ⟨fb,fo,none⟩) ks.length fcap] ah),.blk b5 (.cells #[.int .i64 q.head.kind,.int .i64 q.head.n,.string q.head.name,kh,.slice (some ⟨qb,qo,none⟩) q.body.length qcap] av),.blk mm (.map es1 ck1),.blk b10 (.cells ys.toArray ab)] S1 w_,⟨Fx.nil _ _,⟨es,ck,fun _=>⟨rfl,rfl⟩,aU,hI.draw⟩⟩,⟨?_,?_,?_,?_,?_,?_,?_,?_,?_,?_,?_,?_,?_,?_,?_,?_,?_,?_,?_,?_,?_,?_,?_,?_,trivial⟩,?_⟩
    all_goals (intro D bo; intros; rename_i Jr QX QR QO O9 I0 DU CX Do Ca CG tJ sk tL tz tT tG vH yY xb yc yk vh qu w_ hA_; have hF_:=hA_.1; obtain ⟨⟨bU,bV,bH,bR,bZ,bI,bB,ct,cF,cK,bG,bX,cI,dq,cC,dA,dH,dV,fu,ew,fP,iq,mK,qJ,_⟩,⟨es1,ck1,k0,k1,hI⟩⟩:=hA_)
    ·refine aq hI 3 ac rfl (by simpa using hyl) ?_
     exact ⟨hF_.set 0 rfl,⟨es1,ck1,k0,k1,hI⟩⟩
    ·obtain rfl:=bU ‹_›
     refine Run.callPure oe om hI (lM hqR) fun w_ hI=>?_
     rw [hcut]
     exact ⟨hF_.set 1 rfl,⟨es1,ck1,k0,k1,hI⟩⟩
    ·obtain rfl:=bV ‹_›
     exact ⟨hF_.set 2 rfl,⟨es1,ck1,k0,k1,hI⟩⟩
    ·obtain rfl:=bH ‹_›
     refine rpG ?_
     refine ai bk ?_
     exact ⟨hF_.set 3 rfl,⟨es1,ck1,k0,k1,hI⟩⟩
    ·obtain rfl:=bR ‹_›
     obtain rfl:=bH ‹_›
     refine rpG ?_
     refine aA hI 0 bp rfl rfl ?_
     exact ⟨hF_.set 4 rfl,⟨es1,ck1,k0,k1,hI⟩⟩
    ·obtain rfl:=bH ‹_›
     refine rpG ?_
     exact ⟨hF_.set 5 rfl,⟨es1,ck1,k0,k1,hI⟩⟩
    ·obtain rfl:=bZ ‹_›
     obtain rfl:=bI ‹_›
     obtain rfl:=bH ‹_›
     refine rpG ?_
     refine au bS hk2 ?_
     exact ⟨hF_.set 6 rfl,⟨es1,ck1,k0,k1,hI⟩⟩
    ·obtain rfl:=bB ‹_›
     obtain rfl:=bH ‹_›
     refine rpG ?_
     refine ai cP ?_
     exact ⟨hF_.set 7 rfl,⟨es1,ck1,k0,k1,hI⟩⟩
    ·obtain rfl:=ct ‹_›
     obtain rfl:=bH ‹_›
     refine rpG ?_
     refine bw (cs:=[.int .i64 x.goal.kind,.int .i64 x.goal.n,.string x.goal.name,fv]) ac rfl (fun i v hi=>by rw [hI.cellS hfS]; exact ar hfe i v (J9 i v hi)) ?_
     exact ⟨hF_.set 8 rfl,⟨es1,ck1,k0,k1,hI⟩⟩
    ·obtain rfl:=bH ‹_›
     refine rpG ?_
     refine aq hI 3 ac rfl (by simpa using hyl) ?_
     exact ⟨hF_.set 9 rfl,⟨es1,ck1,k0,k1,hI⟩⟩
    ·obtain rfl:=bH ‹_›
     refine rpG ?_
     exact ⟨hF_.set 10 rfl,⟨es1,ck1,k0,k1,hI⟩⟩
    ·obtain rfl:=cF ‹_›
     obtain rfl:=cK ‹_›
     obtain rfl:=bG ‹_›
     obtain rfl:=bH ‹_›
     refine rpG ?_
     obtain ⟨e0,e0'⟩:=k0 bo
     rw [e0,e0'] at hI
     have hI:=hI.perm (M:=[.blk b3 (.cells #[.int .i64 g.kind,.int .i64 g.n,.string g.name,kv,.int .i64 (j:Int),.slice (some ⟨fb,fo,none⟩) ks.length fcap] ah),.blk b5 (.cells #[.int .i64 q.head.kind,.int .i64 q.head.n,.string q.head.name,kh,.slice (some ⟨qb,qo,none⟩) q.body.length qcap] av),.blk b10 (.cells ys.toArray ab)]++[.blk mm (.map es ck)]) (((List.Perm.swap ..).cons _).cons _)
     refine Run.callE (A:=[_,_,_]) ji i8 hI (ld y x.goal S1 _ _ mm ck es st' hqR hfg (nD hqo.2.1 _ hym) (iy (ek hxg)).2 hst hkm) fun v' I' S2 w_=>?_
     rintro ⟨eS,rfl,es1,ck1,rfl,hkx⟩ _ hI
     rw [eS] at hI
     have hI:Inv w [] [.blk b3 (.cells #[.int .i64 g.kind,.int .i64 g.n,.string g.name,kv,.int .i64 (j:Int),.slice (some ⟨fb,fo,none⟩) ks.length fcap] ah),.blk b5 (.cells #[.int .i64 q.head.kind,.int .i64 q.head.n,.string q.head.name,kh,.slice (some ⟨qb,qo,none⟩) q.body.length qcap] av),.blk mm (.map es1 ck1),.blk b10 (.cells ys.toArray ab)] S1 w_:=hI.perm (((List.Perm.swap ..).cons _).cons _)
     have k0:=fun (h:aF D 11 11=false)=>(Bool.noConfusion h:es1=es/\ck1=ck)
     have k1:=fun (_:aF D 11 11=true)=>hkx
     rw [hm]
     exact ⟨hF_.set 11 rfl,⟨es1,ck1,k0,k1,hI⟩⟩
    ·obtain rfl:=bX ‹_›
     obtain rfl:=bH ‹_›
     refine rpG ?_
     refine bM ?_
     exact ⟨hF_.set 12 rfl,⟨es1,ck1,k0,k1,hI⟩⟩
    ·obtain rfl:=bH ‹_›
     obtain rfl:=cI ‹_›
     refine rpG ?_
     exact ⟨hF_.set 13 rfl,⟨es1,ck1,k0,k1,hI⟩⟩
    ·obtain rfl:=dq ‹_›
     exact ⟨hF_.set 14 rfl,⟨es1,ck1,k0,k1,hI⟩⟩
    ·obtain rfl:=cC ‹_›
     refine rpG ?_
     exact ⟨hF_.set 15 rfl,⟨es1,ck1,k0,k1,hI⟩⟩
    ·obtain rfl:=cC ‹_›
     refine rpG ?_
     refine ai bk ?_
     exact ⟨hF_.set 16 rfl,⟨es1,ck1,k0,k1,hI⟩⟩
    ·obtain rfl:=dH ‹_›
     obtain rfl:=cC ‹_›
     refine rpG ?_
     refine aA hI 0 bp rfl rfl ?_
     exact ⟨hF_.set 17 rfl,⟨es1,ck1,k0,k1,hI⟩⟩
    ·obtain rfl:=cC ‹_›
     refine rpG ?_
     exact ⟨hF_.set 18 rfl,⟨es1,ck1,k0,k1,hI⟩⟩
    ·obtain rfl:=dV ‹_›
     obtain rfl:=fu ‹_›
     obtain rfl:=cC ‹_›
     refine rpG ?_
     refine au bS hk2 ?_
     exact ⟨hF_.set 19 rfl,⟨es1,ck1,k0,k1,hI⟩⟩
    ·obtain rfl:=ew ‹_›
     obtain rfl:=cC ‹_›
     refine rpG ?_
     refine bw aT hfR.length (fun i v hi=>by rw [hI.cellS hfS]; exact ar rfl i v hi) ?_
     exact ⟨hF_.set 20 rfl,⟨es1,ck1,k0,k1,hI⟩⟩
    ·obtain rfl:=dA ‹_›
     obtain rfl:=fP ‹_›
     obtain rfl:=cC ‹_›
     refine rpG ?_
     refine Run.callPure zq zl hI (ih x hxm (d - 1) S1 _ _ hxs hp hfR) fun w_ hI=>?_
     exact ⟨hF_.set 21 rfl,⟨es1,ck1,k0,k1,hI⟩⟩
    ·obtain rfl:=iq ‹_›
     obtain rfl:=cC ‹_›
     refine rpG ?_
     refine bM ?_
     exact ⟨hF_.set 22 rfl,⟨es1,ck1,k0,k1,hI⟩⟩
    ·obtain rfl:=cC ‹_›
     obtain rfl:=mK ‹_›
     refine rpG ?_
     exact ⟨hF_.set 23 rfl,⟨es1,ck1,k0,k1,hI⟩⟩
    obtain ⟨rfl,rfl,rfl,rfl,rfl,rfl,rfl,rfl,rfl,rfl,rfl,rfl,rfl,rfl,rfl,rfl,rfl,rfl,rfl,rfl,rfl,rfl,rfl,rfl,_⟩:=hF_.all
    have jP:D 11=true:=by assumption
    clear hF_ bU bV bH bR bZ bI bB ct cF cK bG bX cI dq cC dA dH dV fu ew fP iq mK qJ
    have hkx:=k1 jP
    rw [hcut,hm,Bool.not_false,Bool.true_and,Bool.true_and] at hrel
    cases hck:chkF p x
    ·refine az (fun _=>done hI ?_) (fun hb=>by cases hb)
     rw [<- hrel,hck]; rfl
    ·refine az (fun hb=>by cases hb) (fun _=>?_)
     rw [hck,Bool.true_and] at hrel
     refine bn (by omega) ?_
     exact ⟨⟨k+1,_,es1,ck1,hk1,rfl,hrel,hst2,hkx,hI.pick [true,true,true]⟩,by simp [intOf]; omega⟩
  ·have hI:=hI
   refine ⟨fun D Jr QX QR QO O9 I0 DU CX Do Ca CG tJ sk tL tz tT tG vH yY xb yc yk vh qu w_=>Fx D 0 [qu=.agg ys.toArray,vh=.bool true,yk=.bool true,yc=undef,xb=undef,yY=undef,vH=undef,tG=undef,tT=undef,tz=undef,tL=undef,sk=undef,tJ=undef,CG=.bool true,Ca=.bool true,Do=undef,CX=undef,DU=undef,I0=undef,O9=undef,QO=undef,QR=undef,QX=undef,Jr=.bool true]/\Inv w [] [.blk b3 (.cells #[.int .i64 g.kind,.int .i64 g.n,.string g.name,kv,.int .i64 (j:Int),.slice (some ⟨fb,fo,none⟩) ks.length fcap] ah),.blk b5 (.cells #[.int .i64 q.head.kind,.int .i64 q.head.n,.string q.head.name,kh,.slice (some ⟨qb,qo,none⟩) q.body.length qcap] av),.blk mm (.map es ck),.blk b10 (.cells ys.toArray ab)] S1 w_,⟨Fx.nil _ _,hI.draw⟩,⟨?_,?_,?_,?_,?_,?_,?_,?_,?_,?_,?_,?_,?_,?_,?_,?_,?_,?_,?_,?_,?_,?_,?_,?_,trivial⟩,?_⟩
   all_goals (intro D bo; intros; rename_i Jr QX QR QO O9 I0 DU CX Do Ca CG tJ sk tL tz tT tG vH yY xb yc yk vh qu w_ hA_; have hF_:=hA_.1; obtain ⟨⟨bU,bV,bH,bR,bZ,bI,bB,ct,cF,cK,bG,bX,cI,dq,cC,dA,dH,dV,fu,ew,fP,iq,mK,qJ,_⟩,hI⟩:=hA_)
   ·refine aq hI 3 ac rfl (by simpa using hyl) ?_
    exact ⟨hF_.set 0 rfl,hI⟩
   ·obtain rfl:=bU ‹_›
    refine Run.callPure oe om hI (lM hqR) fun w_ hI=>?_
    rw [hcut]
    exact ⟨hF_.set 1 rfl,hI⟩
   ·obtain rfl:=bV ‹_›
    exact ⟨hF_.set 2 rfl,hI⟩
   ·obtain rfl:=bH ‹_›
    refine rpG ?_
    exact ⟨hF_.set 3 rfl,hI⟩
   ·obtain rfl:=bR ‹_›
    obtain rfl:=bH ‹_›
    refine rpG ?_
    exact ⟨hF_.set 4 rfl,hI⟩
   ·obtain rfl:=bH ‹_›
    refine rpG ?_
    exact ⟨hF_.set 5 rfl,hI⟩
   ·obtain rfl:=bZ ‹_›
    obtain rfl:=bI ‹_›
    obtain rfl:=bH ‹_›
    refine rpG ?_
    exact ⟨hF_.set 6 rfl,hI⟩
   ·obtain rfl:=bB ‹_›
    obtain rfl:=bH ‹_›
    refine rpG ?_
    exact ⟨hF_.set 7 rfl,hI⟩
   ·obtain rfl:=ct ‹_›
    obtain rfl:=bH ‹_›
    refine rpG ?_
    exact ⟨hF_.set 8 rfl,hI⟩
   ·obtain rfl:=bH ‹_›
    refine rpG ?_
    exact ⟨hF_.set 9 rfl,hI⟩
   ·obtain rfl:=bH ‹_›
    refine rpG ?_
    exact ⟨hF_.set 10 rfl,hI⟩
   ·obtain rfl:=cF ‹_›
    obtain rfl:=cK ‹_›
    obtain rfl:=bG ‹_›
    obtain rfl:=bH ‹_›
    refine rpG ?_
    exact ⟨hF_.set 11 rfl,hI⟩
   ·obtain rfl:=bX ‹_›
    obtain rfl:=bH ‹_›
    refine rpG ?_
    exact ⟨hF_.set 12 rfl,hI⟩
   ·obtain rfl:=bH ‹_›
    obtain rfl:=cI ‹_›
    refine rpG ?_
    exact ⟨hF_.set 13 rfl,hI⟩
   ·obtain rfl:=dq ‹_›
    exact ⟨hF_.set 14 rfl,hI⟩
   ·obtain rfl:=cC ‹_›
    refine rpG ?_
    exact ⟨hF_.set 15 rfl,hI⟩
   ·obtain rfl:=cC ‹_›
    refine rpG ?_
    exact ⟨hF_.set 16 rfl,hI⟩
   ·obtain rfl:=dH ‹_›
    obtain rfl:=cC ‹_›
    refine rpG ?_
    exact ⟨hF_.set 17 rfl,hI⟩
   ·obtain rfl:=cC ‹_›
    refine rpG ?_
    exact ⟨hF_.set 18 rfl,hI⟩
   ·obtain rfl:=dV ‹_›
    obtain rfl:=fu ‹_›
    obtain rfl:=cC ‹_›
    refine rpG ?_
    exact ⟨hF_.set 19 rfl,hI⟩
   ·obtain rfl:=ew ‹_›
    obtain rfl:=cC ‹_›
    refine rpG ?_
    exact ⟨hF_.set 20 rfl,hI⟩
   ·obtain rfl:=dA ‹_›
    obtain rfl:=fP ‹_›
    obtain rfl:=cC ‹_›
    refine rpG ?_
    exact ⟨hF_.set 21 rfl,hI⟩
   ·obtain rfl:=iq ‹_›
    obtain rfl:=cC ‹_›
    refine rpG ?_
    exact ⟨hF_.set 22 rfl,hI⟩
   ·obtain rfl:=cC ‹_›
    obtain rfl:=mK ‹_›
    refine rpG ?_
    exact ⟨hF_.set 23 rfl,hI⟩
   obtain ⟨rfl,rfl,rfl,rfl,rfl,rfl,rfl,rfl,rfl,rfl,rfl,rfl,rfl,rfl,rfl,rfl,rfl,rfl,rfl,rfl,rfl,rfl,rfl,rfl,_⟩:=hF_.all
   clear hF_ bU bV bH bR bZ bI bB ct cF cK bG bX cI dq cC dA dH dV fu ew fP iq mK qJ
   refine az (fun _=>done hI ?_) (fun hb=>by cases hb)
   rw [<- hrel,hcut]; rfl
 ·have:k=q.body.length:=by omega
  subst this
  refine done hI ?_
  rw [<- hrel,List.drop_length]
  generalize ks.drop q.body.length=zs
  cases zs <;> rfl
noncomputable def checkB (p:List C) (x:PF):Bool:=iA p && (gi x && chkF p x)
theorem BF {x:PF} (h:gi x=true):pf x 20=true:=by
 rw [gi,Bool.and_eq_true] at h; exact h.1
theorem fw {p:List C} {x:PF} {S:ae} {u:Value} {cs:List Value} (hp:RdSl S 5 (RdC S) u p) (h:RdF S cs x):Pure Tryz.prog Cc [u,.agg cs.toArray] S (.bool (checkB p x)):=by
 intro w hI
 have hl:=h.length
 refine oX.2 ?_
 dsimp only[oX,aX]
 refine be hI fun b3 w' hI=>?_
 refine Run.callPure ii iw hI (gH hp) fun w' hI=>?_
 rw [checkB]
 cases hpv:iA p
 ·refine rpG ?_
  exact done hI rfl
 refine rpG ?_
 refine aq hI 0 aT rfl (by simpa [Value.cells] using hl) ?_
 refine Run.callPure z5 zE hI (uD h) fun w' hI=>?_
 cases hv:gi x
 ·refine rpG ?_
  exact done hI rfl
 refine rpG ?_
 refine aq hI 0 aT rfl (by simpa [Value.cells] using hl) ?_
 refine Run.callPure zq zl hI (BV hpv x 20 S u cs (BF hv) hp h) fun w' hI=>?_
 refine rpG ?_
 exact done hI rfl
theorem fx {p:List C} {x:PF} {S:ae} {u:Value} {cs:List Value} (hp:RdSl S 5 (RdC S) u p) (h:RdF S cs x) (hw:wP p<=1048576) (hw2:wF x<=1048576):Pure Tryz.prog A8 [u,.agg cs.toArray] S (.bool (checkB p x)):=by
 intro w hI
 have hl:=h.length
 refine o3.2 ?_
 dsimp only[o3,aX]
 refine be hI fun b3 w' hI=>?_
 refine Run.callPure u3 ub hI (pr hp hw) fun w' hI=>?_
 rw [checkB]
 cases hpv:iA p
 ·refine rpG ?_
  exact done hI rfl
 refine rpG ?_
 refine aq hI 0 aT rfl (by simpa [Value.cells] using hl) ?_
 refine Run.callPure o9 o0 hI (lY h hw2) fun w' hI=>?_
 cases hv:gi x
 ·refine rpG ?_
  exact done hI rfl
 refine rpG ?_
 refine aq hI 0 aT rfl (by simpa [Value.cells] using hl) ?_
 refine Run.callPure rT sz hI (AR hpv x 20 S u cs (BF hv) hp h) fun w' hI=>?_
 refine rpG ?_
 exact done hI rfl
end
end
section
open Go Go.RowKit
mutual
theorem Is {p q:List C}:∀ x:PF,chkF p x=true->chkF (p++q) x=true
 | .mk g c ks,h=>by
  rw [chkF,Bool.and_eq_true] at h ⊢
  refine ⟨?_,Ej ks h.2⟩
  have h1:=h.1
  rw [nodeC] at h1 ⊢
  split at h1
  ·rename_i h0; rw [if_pos h0]; exact h1
  ·rename_i h0
   rw [if_neg h0]
   split at h1
   ·cases h1
   ·rename_i r hr
    rw [List.getElem?_append_left (List.getElem?_eq_some_iff.1 hr).1,hr]
    exact h1
theorem Ej {p q:List C}:∀ xs:List PF,chkFL p xs=true->chkFL (p++q) xs=true
 | [],_=>by rw [chkFL]
 | x::xs,h=>by
  rw [chkFL,Bool.and_eq_true] at h ⊢
  exact ⟨Is x h.1,Ej xs h.2⟩
end
theorem Ia {p q:List C} {x:PF} (h:checkB p x=true) (hp:iA (p++q)=true):checkB (p++q) x=true:=by
 rw [checkB,Bool.and_eq_true,Bool.and_eq_true] at h ⊢
 exact ⟨hp,h.2.1,Is x h.2.2⟩
theorem I7 {p:List C} (hp:iA p=true) (k:Nat) (hk:k<p.length):checkB p (.mk p[k].head k [])=decide (p[k].body.length=0):=by
 have hc:ce p[k]=true:=pJ hp (List.getElem_mem hk)
 have hp':=hp
 rw [iA,Bool.and_eq_true,decide_eq_true_eq] at hp'
 have hg:ef p[k].head=true:=by
  rw [ce] at hc
  simp only [Bool.and_eq_true] at hc
  rw [ef,hc.2.2.1,hc.2.2.2]
  simp
 have hm:(bL p[k].head p[k].head st0).1=true:=(Nj (Nz hc).1).2 ⟨idS,NF _ (iL hc).1⟩
 have hv:gi (.mk p[k].head k [])=true:=by
  rw [gi,pf,tZ,qK,lA,gF,hg]
  simp only [List.length_nil,Bool.and_eq_true,decide_eq_true_eq,Bool.and_true,Bool.true_and]
  omega
 rw [checkB,hp,hv,chkF,chkFL,nodeC,if_neg (by omega),Int.toNat_natCast,List.getElem?_eq_getElem hk]
 simp only [hm,Bool.true_and,Bool.and_true,List.length_nil]
 have e:zk p[k].body [] (bL p[k].head p[k].head st0).2=true:=by
  cases p[k].body <;> rfl
 rw [e,Bool.and_true,decide_eq_decide]
 exact eq_comm
end
section
open Go Go.RowKit
section
attribute [local irreducible] Run CondV aB aS
end
end
end Go.Proofs.YtfcbhfjomgopbaaGreat
