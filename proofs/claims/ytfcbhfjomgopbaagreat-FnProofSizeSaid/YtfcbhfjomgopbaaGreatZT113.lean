/- spec.ReadTerm, l13Pair, l13Draw. -/
import Derived.Test.YtfcbhfjomgopbaaGreatZT17
import Derived.Test.YtfcbhfjomgopbaaGreatZT112
import Derived.Test.YtfcbhfjomgopbaaGreatZT18
import Derived.Test.YtfcbhfjomgopbaaGreatZT19
import Derived.Test.YtfcbhfjomgopbaaGreatZT11
namespace Go.Proofs.YtfcbhfjomgopbaaGreat
open Go Go.RowKit
def Lw (s:ByteArray):Bool:=match gw 60 (bs s) 0 30 3 with
 | some (t,n)=>decide (n=s.size) && (dA t && decide (s.size<=1000))
 | none=>false
theorem Jx {s:ByteArray} (h:Lw s=true):∃ t,gw 60 (bs s) 0 30 3=some (t,s.size)/\dA t=true/\s.size<=1000:=by
 unfold Lw at h
 split at h
 ·rename_i t n hq
  simp only [Bool.and_eq_true,decide_eq_true_eq] at h
  obtain ⟨rfl,h2,h3⟩:=h
  exact ⟨t,hq,h2,h3⟩
 ·cases h
theorem FindO.w {p:List C} (hp:∀ cl∈p,pU cl) (hpl:p.length<=1000000) {k n:Nat} {s:Se} (hs:jN p.length s) (ho:okP s) (hx:okXk k s) {o:Option PF} (h:FindO p n s o):∀ y,o=some y->wF y<=842 * (k+n):=by
 obtain ⟨oS,h1,⟨rfl,rfl⟩|⟨t,rfl,h2⟩⟩:=h
 ·intro y e; cases e
 ·obtain ⟨q1,_,_⟩:=h1.ok (fun cl hc=>(hp cl hc).cf) hs ho t rfl
  exact h2.w q1 (h1.okXk hp hpl k hs hx t rfl)
theorem Gp {q:List T} (h:Vq q):∃ h0:0<q.length,dA q[0]=true:=by
 obtain ⟨h1,h2⟩:=h
 rw [kW] at h1
 simp only [Bool.and_eq_true,List.all_eq_true] at h1
 exact ⟨h2,mA (h1.2 _ (List.getElem_mem h2))⟩
section
variable {br:Nat} {sl:Value} {ys:List Nat} {S:al}
attribute [local irreducible] Run CondV ag aO
theorem xZ {s:ByteArray} (h:Lw s=true):Tri Tryz.prog Dg [.string s] [] S fun v I' S'=>I'=[]/\∃ cs t,v=.tuple #[.agg cs.toArray,.bool true]/\RdT S' cs t/\dA t=true:=by
 intro w hI
 obtain ⟨t,hq,hv,hs⟩:=Jx h
 have hwt:=qw hv
 have hbs:(bs s).length=s.size:=(iv (bs s)).symm
 refine tA ?_
 unfold oI
 refine bi hI bH fun b2 w' hI=>?_
 obtain ⟨B2,hB2⟩:∃ B:Item,B=.blk b2 (.cells zT4 ab):=⟨_,rfl⟩
 have e2:=congrArg some hB2
 have hI:Inv w [] [B2] S w':=by rw [hB2]; exact hI
 refine fj bl ?_
 refine ik (by omega) ?_
 refine aS (fun hb=>by cases hb) (fun _=>?_)
 refine Run.call0E eJ eM hI (s9 60 (bs s) 0 30 3 t s.size S hq (Nat.le_trans (Nat.le_of_eq hbs) (by omega)) (Nat.zero_le _) (by omega) (by omega)) fun v I' S1 w'=>?_
 rintro ⟨rfl,cs,rfl,hcs⟩ hE1 hI
 have hcl:=hcs.length
 refine aB (v:=.agg cs.toArray) rfl ?_
 refine aB (v:=.int .i64 (s.size:Int)) rfl ?_
 refine bi hI bH fun b4 w' hI=>?_
 have hI:Inv w [] [B2,.blk b4 (.cells zT4 ab)] S1 w':=hI
 refine aG hI 1 rfl ai (by simpa using hcl) rfl (by simpa using hcs.one) fun w' hI=>?_
 have hI:Inv w [] [B2,.blk b4 (.cells cs.toArray ab)] S1 w':=hI
 refine ⟨fun q w'=>q=.bool false/\Inv w [] [B2,.blk b4 (.cells cs.toArray ab)] S1 w',?_,?_⟩
 ·refine fj bl ?_
  refine dB ?_
  rw [decide_eq_true rfl]
  repeat (first|refine ad ?_|refine af (by decide) ?_|refine ae ?_|refine ak ?_|refine aj ?_)
  refine aL hI 1 ai rfl (by simpa using hcl) ?_
  refine Run.callPure iV iR hI (gF hcs (DL (by omega))) fun w' hI=>?_
  rw [hv]
  refine cK ?_
  repeat (first|refine ad ?_|refine af (by decide) ?_|refine ae ?_|refine ak ?_|refine aj ?_)
  exact ⟨rfl,hI⟩
 intro q _ _ _ _ _ _ _ _ w'
 rintro ⟨rfl,hI⟩
 refine aS (fun hb=>by cases hb) (fun _=>?_)
 refine aL hI 1 ai rfl (by simpa using hcl) ?_
 refine Run.call0E eK eH hI (fE t S1 cs hcs (by omega)) fun v' I' S' w'=>?_
 rintro ⟨eS,ds,L,rfl,rfl,hT⟩ _ hI
 rw [eS] at hI
 obtain ⟨S2,hI,hE2,hins⟩:=hI.pubExt
 have hds:=hT.rd hins
 have hdl:=hds.length
 refine aG hI 0 e2 ai (by simpa using hdl) rfl (by simpa using hds.one) fun w' hI=>?_
 refine bE hI 0 ai rfl (by simpa using hdl) ?_
 exact ⟨_,[],S2,rfl,hI.nil,hE1.trans hE2,rfl,ds,t,rfl,hds,hv⟩
/- a program and a goal -/
abbrev Ng (br:Nat) (sl:Value) (p k:Nat):Value->List Item->al->Prop:=fun v I' S'=>∃ p',p'<=p+k/\I'=[rdI br sl p']/\∃ u cs ps t,v=.tuple #[u,.agg cs.toArray]/\RdSl S' 5 (RdC S') u ps/\Light 8 200 ps/\0<ps.length/\(∀ c∈ps,dg c=true)/\RdT S' cs t/\dA t=true
theorem Aq {p:Nat} (hrd:RdSl S 1 jd sl ys) (hp:p<=9000000):Tri Tryz.prog EB [rdP br] [rdI br sl p] S (Ng br sl p 7):=by
 intro w hI
 refine vw ?_
 unfold sz
 refine bi hI bH fun b3 w' hI=>?_
 obtain ⟨B3,hB3⟩:∃ B:Item,B=.blk b3 (.cells zT4 ab):=⟨_,rfl⟩
 have e3:=congrArg some hB3
 have hI:Inv w [br] [B3,rdI br sl p] S w':=by rw [hB3]; exact hI.last 0 rfl
 refine Run.callL ch ci hI (cW (n:=4) hrd (by omega) (by omega)) rfl fun v' I' S0 w'=>?_
 rintro ⟨rfl,rfl,k,hk,rfl⟩ _ hI
 have hI:Inv w [br] [B3,rdI br sl (p+1)] S0 w':=hI
 refine di ?_
 refine bz (fun _=>?_) (fun _=>?_)
 ·refine tm hI (by kernel_rfl) rfl (by omega) fun v1 S1 w' hE1 hv1 hI=>?_
  have hI:Inv w [br] [B3,rdI br sl (p+1)] S1 w':=hI
  refine Run.callL eC eA hI (iF (p:=p+1) (hrd.monoU hE1.1) hv1 (by decide) (by omega)) rfl fun v' I' S2 w'=>?_
  rintro ⟨rfl,rfl,n,hn,rfl⟩ _ hI
  have hI:Inv w [br] [B3,rdI br sl (p+2)] S2 w':=hI
  refine fk hI (by kernel_rfl) rfl (by omega) fun v3 S3 w' hE3 hv3 hI=>?_
  have hE03:=hE1.trans hE3
  obtain ⟨L,hL,k,rfl,hk11,hkL,hkok⟩:∃ L:List ByteArray,RdSl S3 1 j8 v3 L/\∃ k:Nat,n=(k:Int)/\k<11/\∃ h:k<L.length,Lw L[k]=true:=by
   refine ⟨_,hv3,?_⟩
   have hn:n∈([0,1,2,3,5,9,0]:List Int):=hn
   simp only [List.mem_cons,List.not_mem_nil,or_false] at hn
   rcases hn with rfl|rfl|rfl|rfl|rfl|rfl|rfl
   ·exact ⟨0,rfl,by decide,by decide,by decide +kernel⟩
   ·exact ⟨1,rfl,by decide,by decide,by decide +kernel⟩
   ·exact ⟨2,rfl,by decide,by decide,by decide +kernel⟩
   ·exact ⟨3,rfl,by decide,by decide,by decide +kernel⟩
   ·exact ⟨5,rfl,by decide,by decide,by decide +kernel⟩
   ·exact ⟨9,rfl,by decide,by decide,by decide +kernel⟩
   ·exact ⟨0,rfl,by decide,by decide,by decide +kernel⟩
  have hI:Inv w [br] [B3,rdI br sl (p+2)] S3 w':=hI
  refine Run.call0E qd qU hI (om S3) fun v' I' S4 w'=>?_
  rintro ⟨rfl,l,hl,hl11,hok⟩ hE4 hI
  have hI:Inv w [br] [B3,rdI br sl (p+2)] S4 w':=hI
  have hk2:k<l.length:=by omega
  refine fg hI hl ce bn hk2 (fun cs hcs=>hcs) ?_
  rw [List.all_eq_true] at hok
  refine Run.call0E jx jh hI (Bm (hok _ (List.getElem_mem hk2))) fun v I' S5 w'=>?_
  rintro ⟨u,css,ps,rfl,rfl,hR,h0,hps,hpv⟩ hE5 hI
  have hI:Inv w [br] [bq u bw 5 css,B3,rdI br sl (p+2)] S5 w':=hI.perm (by
   refine List.Perm.trans (List.Perm.swap _ _ _) ?_
   exact (List.Perm.swap _ _ _).cons _)
  obtain ⟨S6,hE6,hI,hr⟩:=DR hI hR
  have hE06:=((hE03.trans hE4).trans hE5).trans hE6
  have hE36:=(hE4.trans hE5).trans hE6
  refine aB (v:=u) rfl ?_
  refine aB (v:=.bool true) rfl ?_
  refine fg hI (hL.monoS hE36.1) ce bn hkL (fun cs hcs=>hcs) ?_
  refine Run.call0E zR AG hI (xZ hkok) fun v' I' S7 w'=>?_
  rintro ⟨rfl,cs,t,rfl,hcs,htv⟩ hE7 hI
  have hcl:=hcs.length
  refine aB (v:=.agg cs.toArray) rfl ?_
  refine aB (v:=.bool true) rfl ?_
  refine bi hI bH fun b8 w' hI=>?_
  have hI:Inv w [br] [B3,rdI br sl (p+2),.blk b8 (.cells zT4 ab)] S7 w':=hI
  refine aG hI 2 rfl ai (by simpa using hcl) rfl (by simpa using hcs.one) fun w' hI=>?_
  have hI:Inv w [br] [.blk b3 (.cells zT4 ab),rdI br sl (p+2),.blk b8 (.cells cs.toArray ab)] S7 w':=by rw [<- hB3]; exact hI
  have hIk:=hI
  obtain ⟨ua,uc,rfl,_⟩:=id hr
  have hI:=hIk
  have hI0:=hI
  refine ⟨fun D x2 jI kP w_=>(D 0=true->kP=.slice ua ps.length uc)/\(D 1=true->jI=.agg cs.toArray)/\(D 2=true->x2=.slice ua ps.length uc)/\(D 3=true->True)/\Inv w [br] [.blk b3 (.cells (cond (D 3) cs.toArray zT4) ab),rdI br sl (p+2),.blk b8 (.cells cs.toArray ab)] S7 w_,⟨ac,ac,ac,ac,hI.draw⟩,⟨?_,?_,?_,?_,trivial⟩,?_⟩
  all_goals (intro D bX; intros; rename_i x2 jI kP w_ hA_; obtain ⟨ax,ay,az,aA,hI⟩:=hA_)
  ·exact ⟨fun _=>rfl,ay,az,aA,hI⟩
  ·refine aL hI 2 ai rfl (by simpa using hcl) ?_
   exact ⟨ax,fun _=>rfl,az,aA,hI⟩
  ·obtain rfl:=ax ‹_›
   exact ⟨ax,ay,fun _=>rfl,aA,hI⟩
  ·obtain rfl:=ay ‹_›
   rw [bX] at hI; refine aG hI 0 rfl ai (by simpa using hcl) rfl (by simpa using hcs.one) fun w_ hI=>?_
   exact ⟨ax,ay,az,fun _=>trivial,hI⟩
  obtain rfl:=az ‹_›
  obtain rfl:=ay ‹_›
  obtain rfl:=ax ‹_›
  have N9:D 3=true:=by assumption
  clear ax ay az aA
  rw [N9] at hI
  refine bE hI 0 ai rfl (by simpa using hcl) ?_
  exact ⟨_,[rdI br sl (p+2)],S7,rfl,hI.pick [false,true],hE06.trans hE7,p+2,by omega,rfl,_,cs,ps,t,rfl,hr.monoC hE7.1,hps,h0,hpv,hcs,htv⟩
 ·refine Run.callL Eu FK hI (zP (p:=p+1) hrd (by omega)) rfl fun v' I' S1 w'=>?_
  rintro ⟨p1,hp1,rfl,u,g,ps,q,rfl,hps,hlp,h0,hpv,hq,hlq,hqv⟩ hE1 hI
  have hI:Inv w [br] [B3,rdI br sl p1] S1 w':=hI
  obtain ⟨hq0,hqh⟩:=Gp hqv
  obtain ⟨ua,uc,rfl,_⟩:=id hps
  obtain ⟨qb,qo,qcap,qc,qE,qfz,rfl,hqS,hqR⟩:=hq.at_ hq0
  rw [Nat.zero_mul] at hqR
  have hcl:=hqR.length
  refine aB (v:=.slice ua ps.length uc) rfl ?_
  refine aB (v:=.slice (some ⟨qb,qo,none⟩) q.length qcap) rfl ?_
  rw [hB3] at hI
  have hI0:=hI
  refine ⟨fun D x2 nV rX lM ni w_=>(D 0=true->ni=.slice ua ps.length uc)/\(D 1=true->lM=.slice (some ⟨qb,qo,none⟩) q.length qcap)/\(D 2=true->rX=.pointer (some ⟨qb,qo+0 * 4,none⟩))/\(D 3=true->nV=.agg (bm qc (qo+0) 4).toArray)/\(D 4=true->x2=.slice ua ps.length uc)/\(D 5=true->True)/\Inv w [br] [.blk b3 (.cells (cond (D 5) (bm qc (qo+0) 4).toArray zT4) ab),rdI br sl p1] S1 w_,⟨ac,ac,ac,ac,ac,ac,hI.draw⟩,⟨?_,?_,?_,?_,?_,?_,trivial⟩,?_⟩
  all_goals (intro D bX; intros; rename_i x2 nV rX lM ni w_ hA_; obtain ⟨ax,ay,az,aA,aF,aH,hI⟩:=hA_)
  ·exact ⟨fun _=>rfl,ay,az,aA,aF,aH,hI⟩
  ·exact ⟨ax,fun _=>rfl,az,aA,aF,aH,hI⟩
  ·obtain rfl:=ay ‹_›
   refine be (i:=0) aC hq0 ?_
   exact ⟨ax,ay,fun _=>rfl,aA,aF,aH,hI⟩
  ·obtain rfl:=az ‹_›
   refine cL ai hcl (fun j v hj=>by rw [hI.cellS hqS]; exact bh rfl j v hj) ?_
   exact ⟨ax,ay,az,fun _=>rfl,aF,aH,hI⟩
  ·obtain rfl:=ax ‹_›
   exact ⟨ax,ay,az,aA,fun _=>rfl,aH,hI⟩
  ·obtain rfl:=aA ‹_›
   rw [bX] at hI; refine aG hI 0 rfl ai (by simpa using hcl) rfl (by simpa using hqR.one) fun w_ hI=>?_
   exact ⟨ax,ay,az,aA,aF,fun _=>trivial,hI⟩
  obtain rfl:=aF ‹_›
  obtain rfl:=aA ‹_›
  obtain rfl:=az ‹_›
  obtain rfl:=ay ‹_›
  obtain rfl:=ax ‹_›
  have OA:D 5=true:=by assumption
  clear ax ay az aA aF aH
  rw [OA] at hI
  refine bE hI 0 ai rfl (by simpa using hcl) ?_
  exact ⟨_,[rdI br sl p1],S1,rfl,hI.pick [false,true],hE1,p1,by omega,rfl,_,_,ps,q[0],rfl,hps,hlp,h0,hpv,hqR,hqh⟩
/- a program and a proof -/
abbrev M5 (br:Nat) (sl:Value) (p k:Nat):Value->List Item->al->Prop:=fun v I' S'=>∃ p',p'<=p+k/\I'=[rdI br sl p']/\∃ u cs ps x,v=.tuple #[u,.agg cs.toArray]/\RdSl S' 5 (RdC S') u ps/\Light 8 200 ps/\0<ps.length/\(∀ c∈ps,dg c=true)/\RdF S' cs x/\wF x<=100000
theorem zq {p:Nat} (hrd:RdSl S 1 jd sl ys) (hp:p<=9000000):Tri Tryz.prog ER [rdP br] [rdI br sl p] S (M5 br sl p 8):=by
 intro w hI
 refine vU ?_
 unfold ro
 refine bi hI dk fun b3 w' hI=>?_
 have hI:Inv w [br] [.blk b3 (.cells zP6 au),rdI br sl p] S w':=hI.last 0 rfl
 refine Run.callL CV De hI (Aq (p:=p) hrd (by omega)) rfl fun v' I' S1 w'=>?_
 rintro ⟨p1,hp1,rfl,u,cs,ps,t,rfl,hps,hlp,h0,hpv,hcs,htv⟩ hE1 hI
 have hcs0:=hcs
 obtain ⟨kv,rfl,_⟩:=RdT.iff.1 hcs
 have hcs:=hcs0
 have hcm:∀ cl∈ps,pU cl:=fun cl hc=>D3 (hpv cl hc)
 have hll:=hlp.1
 have hwt:=qw htv
 have htU:=kt htv
 have hso:=BB (n:=ps.length) htU (by omega)
 have hsx:=xJ (nJ htv)
 obtain ⟨o,ho⟩:=FindO.ex hcm (by omega) (n:=100) hso (pd t) hsx
 have how:=ho.w hcm (by omega) hso (pd t) hsx
 obtain ⟨ua,uc,rfl,_⟩:=id hps
 refine aB (v:=.slice ua ps.length uc) rfl ?_
 refine aB (v:=.agg #[.int .i64 t.kind,.int .i64 t.n,.string t.name,kv]) rfl ?_
 refine bi hI bH fun b5 w' hI=>?_
 have hI:Inv w [br] [.blk b3 (.cells zP6 au),rdI br sl p1,.blk b5 (.cells zT4 ab)] S1 w':=hI
 refine aG (cs:=#[.int .i64 t.kind,.int .i64 t.n,.string t.name,kv]) hI 2 rfl ai rfl rfl (by simpa using hcs.one) fun w' hI=>?_
 have hI:Inv w [br] [.blk b3 (.cells zP6 au),.blk b5 (.cells #[.int .i64 t.kind,.int .i64 t.n,.string t.name,kv] ab),rdI br sl p1] S1 w':=hI.last 1 rfl
 obtain ⟨B5,hB5⟩:∃ B:Item,B=.blk b5 (.cells #[.int .i64 t.kind,.int .i64 t.n,.string t.name,kv] ab):=⟨_,rfl⟩
 have e5:=congrArg some hB5
 have hI:Inv w [br] [.blk b3 (.cells zP6 au),B5,rdI br sl p1] S1 w':=by rw [hB5]; exact hI
 refine aL hI 1 ai e5 rfl ?_
 refine Run.call0E BV DH hI (Aj hcm (by omega) ⟨htU,by omega⟩ (nJ htv) (n:=100) (by omega) ho hps hcs) fun v' I' S2 w'=>?_
 rintro ⟨rfl,c6,rfl,h6l,h6o,h6r⟩ hE2 hI
 have hE02:=hE1.trans hE2
 refine aB (v:=.agg c6.toArray) rfl ?_
 refine aB (v:=.bool (o.elim false dl)) rfl ?_
 refine bi hI dk fun b6 w' hI=>?_
 have hI:Inv w [br] [.blk b3 (.cells zP6 au),B5,rdI br sl p1,.blk b6 (.cells zP6 au)] S2 w':=hI
 refine aG hI 3 rfl bA (by simpa using h6l) rfl (by simpa using h6o) fun w' hI=>?_
 have hI:Inv w [br] [.blk b3 (.cells zP6 au),B5,.blk b6 (.cells c6.toArray au),rdI br sl p1] S2 w':=hI.last 2 rfl
 refine ⟨fun w'=>∃ (p2:Nat) (d6:List Value) (x:PF),p2<=p1+1/\RdF S2 d6 x/\wF x<=100000/\Inv w [br] [.blk b3 (.cells zP6 au),B5,.blk b6 (.cells d6.toArray au),rdI br sl p2] S2 w',?_,?_⟩
 ·refine cK ?_
  refine aS (fun hb=>?_) (fun hb=>?_)
  ·have hcs2:=hcs.mono hE2.1
   have hrd2:=hrd.monoU hE02.1
   refine ⟨fun D qu uQ sH nU w_=>(D 0=true->nU=.agg #[.int .i64 t.kind,.int .i64 t.n,.string t.name,kv])/\(D 1=true->sH=rdP br)/\(D 2=true->True)/\(D 3=true->True)/\(D 4=true->True)/\∃ p2,(D 2=false->p2=p1)/\(D 2=true->p2=p1+1)/\(D 4=true->D 3=true)/\(D 2=true->∃ i:Int,uQ=.int .i64 i/\0<=i/\i<=1)/\(D 3=true->∃ i:Int,qu=.agg #[.int .i64 t.kind,.int .i64 t.n,.string t.name,kv,.int .i64 i,.slice none 0 0]/\0<=i/\i<=1)/\∃ q6:List Value,(D 4=false->q6=c6)/\(D 4=true->∃ i:Int,q6=[.int .i64 t.kind,.int .i64 t.n,.string t.name,kv,.int .i64 i,.slice none 0 0]/\0<=i/\i<=1)/\Inv w [br] [.blk b3 (.cells zP6 au),B5,.blk b6 (.cells q6.toArray au),rdI br sl p2] S2 w_,⟨ac,ac,ac,ac,ac,⟨p1,fun _=>rfl,ac,ac,ac,ac,c6,fun _=>rfl,ac,hI.draw⟩⟩,⟨?_,?_,?_,?_,?_,trivial⟩,?_⟩
   all_goals (intro D bX; intros; rename_i qu uQ sH nU w_ hA_; obtain ⟨ax,ay,az,aA,aF,⟨p2,z2,y2,k4,f2,f3,q6,z4,f4,hI⟩⟩:=hA_)
   ·refine aL hI 1 ai e5 rfl ?_
    exact ⟨fun _=>rfl,ay,az,aA,aF,⟨p2,z2,y2,k4,f2,f3,q6,z4,f4,hI⟩⟩
   ·exact ⟨ax,fun _=>rfl,az,aA,aF,⟨p2,z2,y2,k4,f2,f3,q6,z4,f4,hI⟩⟩
   ·obtain rfl:=ay ‹_›
    have hp2:=z2 bX
    refine Run.callL (L:=[.blk b3 _,B5,.blk b6 _,rdI br sl p2]) ch ci hI (cW (n:=2) (p:=p2) hrd2 (by omega) (by omega)) rfl fun v' I' S' w_=>?_
    rintro ⟨eS,rfl,i,hi,rfl⟩ _ hI
    rw [eS] at hI
    have hI:Inv w [br] [.blk b3 (.cells zP6 au),B5,.blk b6 (.cells q6.toArray au),rdI br sl (p2+1)] S2 w_:=hI
    have f2:ah D 2 2=true->∃ i':Int,Value.int .i64 (i:Int)=.int .i64 i'/\0<=i'/\i'<=1:=fun _=>⟨i,rfl,by omega,by omega⟩
    have z2:ah D 2 2=false->p2+1=p1:=fun h=>Bool.noConfusion h
    have y2:ah D 2 2=true->p2+1=p1+1:=fun _=>by rw [hp2]
    obtain ⟨p2,hp3⟩:∃ p3,p3=p2+1:=⟨_,rfl⟩
    rw [<- hp3] at hI z2 y2
    exact ⟨ax,ay,fun _=>by first|assumption|trivial,aA,aF,⟨p2,z2,y2,k4,f2,f3,q6,z4,f4,hI⟩⟩
   ·obtain rfl:=ax ‹_›
    have NH:=az ‹_›
    obtain ⟨i,rfl,hi0,hi1⟩:=f2 ‹D 2=true›
    refine nK ?_
    have f3:ah D 3 3=true->∃ i':Int,Value.agg #[.int .i64 t.kind,.int .i64 t.n,.string t.name,kv,.int .i64 i,.slice none 0 0]=.agg #[.int .i64 t.kind,.int .i64 t.n,.string t.name,kv,.int .i64 i',.slice none 0 0]/\0<=i'/\i'<=1:=fun _=>⟨i,rfl,hi0,hi1⟩
    have k4:ah D 3 4=true->ah D 3 3=true:=fun _=>rfl
    exact ⟨ax,ay,az,fun _=>by first|assumption|trivial,aF,⟨p2,z2,y2,k4,f2,f3,q6,z4,f4,hI⟩⟩
   ·have Gu:=aA ‹_›
    obtain ⟨i,rfl,hi0,hi1⟩:=f3 ‹D 3=true›
    rw [z4 bX] at hI
    refine aG (cs:=#[.int .i64 t.kind,.int .i64 t.n,.string t.name,kv,.int .i64 i,.slice none 0 0]) hI 2 rfl bA rfl (by simpa using h6l) (AY hcs.one rfl) fun w_ hI=>?_
    have k4:ah D 4 4=true->ah D 4 3=true:=fun _=>‹D 3=true›
    obtain ⟨q6,hq6⟩:∃ q:List Value,q=[.int .i64 t.kind,.int .i64 t.n,.string t.name,kv,.int .i64 i,.slice none 0 0]:=⟨_,rfl⟩
    have hI:Inv w [br] [.blk b3 (.cells zP6 au),B5,.blk b6 (.cells q6.toArray au),rdI br sl p2] S2 w_:=by rw [hq6]; exact hI
    have z4:ah D 4 4=false->q6=c6:=fun h=>Bool.noConfusion h
    have f4:ah D 4 4=true->∃ i':Int,q6=[.int .i64 t.kind,.int .i64 t.n,.string t.name,kv,.int .i64 i',.slice none 0 0]/\0<=i'/\i'<=1:=fun _=>⟨i,hq6,hi0,hi1⟩
    exact ⟨ax,ay,az,aA,fun _=>trivial,⟨p2,z2,y2,k4,f2,f3,q6,z4,f4,hI⟩⟩
   have Gu:=aA ‹_›
   have NH:=az ‹_›
   obtain rfl:=ay ‹_›
   obtain rfl:=ax ‹_›
   have OW:D 2=true:=by assumption
   have Oo:D 4=true:=by assumption
   clear ax ay az aA aF
   obtain ⟨i,rfl,hi0,hi1⟩:=f4 Oo
   have hp2:=y2 OW
   refine ⟨p2,_,.mk t i [],by omega,RdF.iff.2 ⟨kv,_,rfl,hcs2,⟨by simp only [PF.clause]; omega,by simp only [PF.clause]; omega⟩,RdSl.nil0 ..⟩,?_,hI⟩
   simp only [wF,wFL,List.length_nil]
   omega
  ·have hb:o.elim false dl=true:=by simpa using hb
   cases o with
   | none=>cases hb
   | some y=>
    have:=how y rfl
    exact ⟨p1,c6,y,by omega,h6r y rfl,by omega,hI⟩
 intro _ _ _ _ _ _ w'
 rintro ⟨p2,d6,x,hp2,hx,hwx,hI⟩
 have hxl:=hx.length
 have hI0:=hI
 refine ⟨fun D x2 oA ki w_=>(D 0=true->ki=.slice ua ps.length uc)/\(D 1=true->oA=.agg d6.toArray)/\(D 2=true->x2=.slice ua ps.length uc)/\(D 3=true->True)/\Inv w [br] [.blk b3 (.cells (cond (D 3) d6.toArray zP6) au),B5,.blk b6 (.cells d6.toArray au),rdI br sl p2] S2 w_,⟨ac,ac,ac,ac,hI.draw⟩,⟨?_,?_,?_,?_,trivial⟩,?_⟩
 all_goals (intro D bX; intros; rename_i x2 oA ki w_ hA_; obtain ⟨ax,ay,az,aA,hI⟩:=hA_)
 ·exact ⟨fun _=>rfl,ay,az,aA,hI⟩
 ·refine aL hI 2 bA rfl (by simpa using hxl) ?_
  exact ⟨ax,fun _=>rfl,az,aA,hI⟩
 ·obtain rfl:=ax ‹_›
  exact ⟨ax,ay,fun _=>rfl,aA,hI⟩
 ·obtain rfl:=ay ‹_›
  rw [bX] at hI; refine aG hI 0 rfl bA (by simpa using hxl) rfl (by simpa using hx.one) fun w_ hI=>?_
  exact ⟨ax,ay,az,fun _=>trivial,hI⟩
 obtain rfl:=az ‹_›
 obtain rfl:=ay ‹_›
 obtain rfl:=ax ‹_›
 have N9:D 3=true:=by assumption
 clear ax ay az aA
 rw [N9] at hI
 refine bE hI 0 bA rfl (by simpa using hxl) ?_
 exact ⟨_,[rdI br sl p2],S2,rfl,hI.pick [false,false,false,true],hE02,p2,by omega,rfl,_,d6,ps,x,rfl,hps.monoC hE2.1,hlp,h0,hpv,hx,hwx⟩
end
end Go.Proofs.YtfcbhfjomgopbaaGreat

/- spec.l13Mutate, DrawProofValid, DrawCheckProof, DrawProofSize, DrawUsedClauses. -/
namespace Go.Proofs.YtfcbhfjomgopbaaGreat
open Go Go.RowKit
theorem J9 {p W wk:Nat} (hwf:W<=110000) (hp:p+700 * (W+1)<=90000000) (h:1+wk<=W):wk<=110000/\p+1+700 * (wk+1)<=90000000/\p+1+700 * (wk+1)<=p+700 * (W+1):=by
 have h1:700 * (wk+1+1)<=700 * (W+1):=Nat.mul_le_mul_left 700 (by omega)
 rw [Nat.mul_add 700 (wk+1) 1] at h1
 generalize 700 * (wk+1)=a at h1 ⊢
 generalize 700 * (W+1)=b at h1 hp ⊢
 refine ⟨by omega,by omega,by omega⟩
theorem LS:∀ (ks:List PF) (y:PF) (h:0<ks.length),wFL (ks.set 0 y)+wF ks[0]=wFL ks+wF y
 | k::ks,y,_=>by simp only [List.set_cons_zero,wFL,List.getElem_cons_zero]; omega
theorem Jp:∀ (ks:List PF),wFL (ks.drop 1)<=wFL ks
 | []=>Nat.le_refl _
 | k::ks=>by simp only [List.drop_succ_cons,List.drop_zero,wFL]; omega
theorem ID:∀ (a b:List PF),wFL (a++b)=wFL a+wFL b
 | [],b=>by simp [wFL]
 | x::a,b=>by rw [List.cons_append,wFL,wFL,ID a b]; omega
def muC (w0:World) (X:List Nat) (b5:Nat) (F:Value->Array Value) (B:List Item) (kv:Value) (css:List (List Value)) (t:T) (y:PF) (S:al) (kP jI ow iz:Value) (w:World):Nat->Prop
 | 0=>rnC w0 X b5 F B kv css y S jI ow iz w 0
 | 1=>∃ S1 a1 a2 a3 a4,kP=.agg #[a1,a2,a3,a4]/\Ext w0.heap.size X S S1/\RdT S1 [a1,a2,a3,a4] t/\Inv w0 X (B++[.blk b5 (.cells (F kv) au),bq kv au 6 css]) S1 w
 | n+2=>rnC w0 X b5 F B kv css y S jI ow iz w (n+1)
theorem muC.low {w0 w:World} {X:List Nat} {b5:Nat} {F:Value->Array Value} {B:List Item} {kv:Value} {css:List (List Value)} {t:T} {y:PF} {S:al} {kP jI ow iz:Value}:∀ {n:Nat},muC w0 X b5 F B kv css t y S kP jI ow iz w n->n<5->∃ R S1,Inv w0 X (B++.blk b5 (.cells (F kv) au)::R) S1 w
 | 0,h,_=>⟨_,_,h⟩
 | 1,⟨S1,_,_,_,_,_,_,_,h⟩,_=>⟨_,S1,h⟩
 | n+2,h,hn=>rnC.low (n:=n+1) h (by omega)
theorem RdSl.put0 {S S1:al} {g cap:Nat} {cur:Array Value} {E:TypeId} {fz:Nat × Nat} {css:List (List Value)} {ks:List PF} {cs:List Value} {y:PF} (hR:Rows 6 (RdF S) css ks) (ht:cur.toList.take (css.length * 6)=css.flatten) (hc:css.length<=cap) (hcm:cap<=maxLen) (hs:cur.size=cap * 6)
  (hle:Sle S S1) (hg:S1 g=some (.cells (bM cur 0 cs) E fz)) (hcs:RdF S1 cs y) (h0:0<ks.length):RdSl S1 6 (RdF S1) (.slice (some ⟨g,0,none⟩) ks.length cap) (ks.set 0 y):=by
 have hcy:=hR.hc
 have hlc:=hcs.length
 have hsz:6<=cur.size:=by rw [hs]; omega
 refine ⟨_,cap,by rw [List.length_set],by rw [List.length_set]; omega,hcm,.inr ⟨g,0,_,E,fz,rfl,hg,fun i hi=>?_⟩⟩
 rw [List.length_set] at hi
 rw [Nat.zero_add]
 by_cases e:i=0
 ·subst e
  rw [List.getElem_set_self]
  have:=fD (c:=cur) (o:=0) (vs:=cs) (by omega)
  rw [hlc] at this
  rw [Nat.zero_mul,this]
  exact hcs
 ·rw [List.getElem_set_ne (by omega),gr (by omega) (by omega)]
  have hfa:=fT 6 css i hR.hk (by omega)
  rw [<- ht,List.drop_take,List.take_take,Nat.min_eq_left (by omega)] at hfa
  rw [bm,hfa]
  exact (hR.hR i (by omega) (by omega)).mono hle
section
variable {br:Nat} {sl:Value} {ys:List Nat}
attribute [local irreducible] Run CondV ag aO
abbrev KZ (br:Nat) (sl:Value) (p k m:Nat):Value->List Item->al->Prop:=fun v I' S'=>∃ p',p'<=p+k/\I'=[rdI br sl p']/\∃ cs y,v=.agg cs.toArray/\RdF S' cs y/\wF y<=m
set_option maxHeartbeats 4000000 in
theorem wj:∀ (x:PF) (p:Nat) (S:al) (cs:List Value),RdSl S 1 jd sl ys->RdF S cs x->wF x<=110000->p+700 * (wF x+1)<=90000000->Tri Tryz.prog o4 [rdP br,.agg cs.toArray] [rdI br sl p] S (KZ br sl p (700 * (wF x+1)) (wF x+1000)):=by
 refine PF.ind fun g c ks ih p S cs hrd h hwf hp=>?_
 intro w hI
 obtain ⟨gkv,kp,rfl,hg,hci,hks⟩:=RdF.iff.1 h
 simp only [PF.goal,PF.clause,PF.kids] at hg hci hks ⊢
 obtain ⟨W,hW⟩:∃ W,W=wF (.mk g c ks):=⟨_,rfl⟩
 rw [<- hW] at hwf hp ⊢
 have harith:∀ wk,1+wk<=W->wk<=110000/\p+1+700 * (wk+1)<=90000000/\p+1+700 * (wk+1)<=p+700 * (W+1):=fun wk h=>J9 hwf hp h
 rw [wF] at hW
 obtain ⟨ka,kc,rfl,_⟩:=id hks
 refine p5 ?_
 unfold mj
 refine bS hI fun b3 w' hI=>?_
 refine bi hI dk fun b4 w' hI=>?_
 obtain ⟨B3,hB3⟩:∃ B:Item,B=.blk b3 (.cells #[.int .i64 g.kind,.int .i64 g.n,.string g.name,gkv,.int .i64 c,.slice ka ks.length kc] au):=⟨_,rfl⟩
 obtain ⟨B4,hB4⟩:∃ B:Item,B=.blk b4 (.cells zP6 au):=⟨_,rfl⟩
 have e3:=congrArg some hB3
 have e4:=congrArg some hB4
 have hI:Inv w [br] [B3,B4,rdI br sl p] S w':=by rw [hB3,hB4]; exact hI.last 0 rfl
 refine ⟨fun D x5 Cx wH Md MQ zo M1 x9 x8 x7 x6 w_=>(D 0=true->x6=.pointer (some ⟨b3,0,none⟩))/\(D 1=true->x7=.agg #[.int .i64 g.kind,.int .i64 g.n,.string g.name,gkv])/\(D 2=true->True)/\(D 3=true->x9=.pointer (some ⟨b3,4,none⟩))/\(D 4=true->M1=.int .i64 c)/\(D 5=true->True)/\(D 6=true->MQ=.pointer (some ⟨b3,5,none⟩))/\(D 7=true->Md=.slice ka ks.length kc)/\(D 8=true->True)/\(D 9=true->True)/\(D 10=true->True)/\(D 11=true->True)/\∃ S1 b q css,Ext w.heap.size [br] S S1/\(D 2=true->∃ a1 a2 a3 a4,x8=.agg #[a1,a2,a3,a4]/\RdT S1 [a1,a2,a3,a4] g)/\(D 8=true->D 5=true/\Rows 6 (RdF S) css ks)/\(D 9=true->D 8=true/\∃ a1 a2 a3 a4,Cx=.agg #[a1,a2,a3,a4,.int .i64 c,wH]/\RdT S1 [a1,a2,a3,a4] g)/\(D 10=true->x5=.pointer (some ⟨b,0,none⟩))/\(D 11=true->D 10=true/\D 8=true/\∃ a1 a2 a3 a4,q=#[a1,a2,a3,a4,.int .i64 c,wH]/\RdT S1 [a1,a2,a3,a4] g)/\(D 11=false->q=zP6)/\Inv w [br] ([B3,B4,rdI br sl p]++cond (D 5) [cond (D 8) (bq wH au 6 css) (bq zo au 6 [])] []++cond (D 10) [.blk b (.cells q au)] []) S1 w_,⟨ac,ac,ac,ac,ac,ac,ac,ac,ac,ac,ac,ac,⟨S,0,zP6,[],Ext.refl _ _ _,ac,ac,ac,ac,ac,fun _=>rfl,hI.draw⟩⟩,⟨?_,?_,?_,?_,?_,?_,?_,?_,?_,?_,?_,?_,trivial⟩,?_⟩
 all_goals (intro D bX; intros; rename_i x5 Cx wH Md MQ zo M1 x9 x8 x7 x6 w_ hA_; obtain ⟨ax,ay,az,aA,aF,aH,aE,aM,aN,aR,aq,ar,⟨S1,b,q,css,hE1,f2,f8,f9,f10,f11,z11,hI⟩⟩:=hA_)
 ·refine aI fZ ?_
  exact ⟨fun _=>rfl,ay,az,aA,aF,aH,aE,aM,aN,aR,aq,ar,⟨S1,b,q,css,hE1,f2,f8,f9,f10,f11,z11,hI⟩⟩
 ·obtain rfl:=ax ‹_›
  refine cN hI 0 [.int .i64 g.kind,.int .i64 g.n,.string g.name,gkv] ai e3 rfl E9 ?_
  exact ⟨ax,fun _=>rfl,az,aA,aF,aH,aE,aM,aN,aR,aq,ar,⟨S1,b,q,css,hE1,f2,f8,f9,f10,f11,z11,hI⟩⟩
 ·obtain rfl:=ay ‹_›
  refine Run.call0E eK eH hI (fE g S1 _ (hg.mono hE1.1) (by omega)) fun v I' S2 w_=>?_
  rintro ⟨eS,cs',L,rfl,rfl,hT⟩ _ hI
  rw [eS] at hI
  obtain ⟨S2,hI,hE2,hins⟩:=hI.pubExt
  have hrt:=hT.rd hins
  obtain ⟨a1,a2,a3,a4,rfl⟩:=nD hrt.length
  have f2:ah D 2 2=true->∃ b1 b2 b3 b4,Value.agg [a1,a2,a3,a4].toArray=.agg #[b1,b2,b3,b4]/\RdT S2 [b1,b2,b3,b4] g:=fun _=>⟨a1,a2,a3,a4,rfl,hrt⟩
  have f9:ah D 2 9=true->ah D 2 8=true/\∃ a1 a2 a3 a4,Cx=.agg #[a1,a2,a3,a4,.int .i64 c,wH]/\RdT S2 [a1,a2,a3,a4] g:=fun h=>by
   obtain ⟨k,b1,b2,b3,b4,e,h⟩:=f9 h
   exact ⟨k,b1,b2,b3,b4,e,h.mono hE2.1⟩
  have f11:ah D 2 11=true->ah D 2 10=true/\ah D 2 8=true/\∃ a1 a2 a3 a4,q=#[a1,a2,a3,a4,.int .i64 c,wH]/\RdT S2 [a1,a2,a3,a4] g:=fun h=>by
   obtain ⟨k,k2,b1,b2,b3,b4,e,h⟩:=f11 h
   exact ⟨k,k2,b1,b2,b3,b4,e,h.mono hE2.1⟩
  obtain ⟨S1,rfl,hE1⟩:∃ S1,S1=S2/\Ext w.heap.size [br] S S1:=⟨S2,rfl,hE1.trans hE2⟩
  exact ⟨ax,ay,fun _=>by first|assumption|trivial,aA,aF,aH,aE,aM,aN,aR,aq,ar,⟨S1,b,q,css,hE1,f2,f8,f9,f10,f11,z11,hI⟩⟩
 ·refine aI fX ?_
  exact ⟨ax,ay,az,fun _=>rfl,aF,aH,aE,aM,aN,aR,aq,ar,⟨S1,b,q,css,hE1,f2,f8,f9,f10,f11,z11,hI⟩⟩
 ·obtain rfl:=aA ‹_›
  refine aX hI 0 aY e3 rfl ?_
  exact ⟨ax,ay,az,aA,fun _=>rfl,aH,aE,aM,aN,aR,aq,ar,⟨S1,b,q,css,hE1,f2,f8,f9,f10,f11,z11,hI⟩⟩
 ·have n8:D 8=false:=Bool.eq_false_iff.2 fun h=>by rw [(f8 h).1] at bX; cases bX
  rw [bX,n8] at hI
  refine eh hI fW fun v w_ hI=>?_
  have f8:ah D 5 8=true->ah D 5 5=true/\Rows 6 (RdF S) css ks:=fun h=>⟨rfl,(f8 h).2⟩
  have hI:Inv w [br] ([B3,B4,rdI br sl p]++cond (ah D 5 5) [cond (ah D 5 8) (bq wH au 6 css) (bq v au 6 [])] []++cond (ah D 5 10) [.blk b (.cells q au)] []) S1 w_:=by
   rw [show ah D 5 8=D 8 from rfl,n8]
   refine hI.perm ?_
   show List.Perm ([B3,B4,rdI br sl p]++[bq v au 6 []]++_) ([B3,B4,rdI br sl p]++[]++_++[bq v au 6 []])
   rw [List.append_nil,List.append_assoc,List.append_assoc]
   exact List.Perm.append_left _ List.perm_append_comm
  exact ⟨ax,ay,az,aA,aF,fun _=>by first|assumption|trivial,aE,aM,aN,aR,aq,ar,⟨S1,b,q,css,hE1,f2,f8,f9,f10,f11,z11,hI⟩⟩
 ·refine aI bQ ?_
  exact ⟨ax,ay,az,aA,aF,aH,fun _=>rfl,aM,aN,aR,aq,ar,⟨S1,b,q,css,hE1,f2,f8,f9,f10,f11,z11,hI⟩⟩
 ·obtain rfl:=aE ‹_›
  refine aX hI 0 bY e3 rfl ?_
  exact ⟨ax,ay,az,aA,aF,aH,aE,fun _=>rfl,aN,aR,aq,ar,⟨S1,b,q,css,hE1,f2,f8,f9,f10,f11,z11,hI⟩⟩
 ·have Kz:=aH ‹_›
  obtain rfl:=aM ‹_›
  rw [‹D 5=true›,bX] at hI
  refine ed (css:=[]) hI 3 fW (by omega) rfl (hks.mono hE1.1 fun _ _ h=>h) (fun _ _=>RdF.length) (fun _ _=>RdF.one) (by simp; omega) (by omega) fun v w_ css hR hI=>?_
  have n9:D 9=false:=Bool.eq_false_iff.2 fun h=>by rw [(f9 h).1] at bX; cases bX
  have n11:D 11=false:=Bool.eq_false_iff.2 fun h=>by rw [(f11 h).2.1] at bX; cases bX
  have f8:ah D 8 8=true->ah D 8 5=true/\Rows 6 (RdF S) css ks:=fun _=>⟨‹D 5=true›,hR⟩
  have f9:ah D 8 9=true->ah D 8 8=true/\∃ a1 a2 a3 a4,Cx=.agg #[a1,a2,a3,a4,.int .i64 c,v]/\RdT S1 [a1,a2,a3,a4] g:=fun h=>absurd (show D 9=true from h) (by rw [n9]; decide)
  have f11:ah D 8 11=true->ah D 8 10=true/\ah D 8 8=true/\∃ a1 a2 a3 a4,q=#[a1,a2,a3,a4,.int .i64 c,v]/\RdT S1 [a1,a2,a3,a4] g:=fun h=>absurd (show D 11=true from h) (by rw [n11]; decide)
  have hI:Inv w [br] ([B3,B4,rdI br sl p]++cond (ah D 8 5) [cond (ah D 8 8) (bq v au 6 css) (bq zo au 6 [])] []++cond (ah D 8 10) [.blk b (.cells q au)] []) S1 w_:=by
   rw [show ah D 8 5=D 5 from rfl,‹D 5=true›]
   exact hI
  exact ⟨ax,ay,az,aA,aF,aH,aE,aM,fun _=>by first|assumption|trivial,aR,aq,ar,⟨S1,b,q,css,hE1,f2,f8,f9,f10,f11,z11,hI⟩⟩
 ·have NH:=az ‹_›
  obtain rfl:=aF ‹_›
  have BL:=aN ‹_›
  obtain ⟨a1,a2,a3,a4,rfl,hrt⟩:=f2 ‹D 2=true›
  have hI2:=hI
  rw [(f8 ‹D 8=true›).1,‹D 8=true›] at hI2
  obtain ⟨qa,qn,qc,rfl⟩:=hI2.rowSl (i:=3) rfl
  refine HV ?_
  have f9:ah D 9 9=true->ah D 9 8=true/\∃ b1 b2 b3 b4,Value.agg #[a1,a2,a3,a4,.int .i64 c,.slice qa qn qc]=.agg #[b1,b2,b3,b4,.int .i64 c,.slice qa qn qc]/\RdT S1 [b1,b2,b3,b4] g:=fun _=>⟨‹D 8=true›,a1,a2,a3,a4,rfl,hrt⟩
  exact ⟨ax,ay,az,aA,aF,aH,aE,aM,aN,fun _=>by first|assumption|trivial,aq,ar,⟨S1,b,q,css,hE1,f2,f8,f9,f10,f11,z11,hI⟩⟩
 ·have n11:D 11=false:=Bool.eq_false_iff.2 fun h=>by rw [(f11 h).1] at bX; cases bX
  rw [bX,cond_false,List.append_nil] at hI
  refine bi hI dk fun b w_ hI=>?_
  have f10:ah D 10 10=true->Value.pointer (some ⟨b,0,none⟩)=.pointer (some ⟨b,0,none⟩):=fun _=>rfl
  have f11:ah D 10 11=true->ah D 10 10=true/\ah D 10 8=true/\∃ a1 a2 a3 a4,q=#[a1,a2,a3,a4,.int .i64 c,wH]/\RdT S1 [a1,a2,a3,a4] g:=fun h=>absurd (show D 11=true from h) (by rw [n11]; decide)
  have hI:Inv w [br] ([B3,B4,rdI br sl p]++cond (ah D 10 5) [cond (ah D 10 8) (bq wH au 6 css) (bq zo au 6 [])] []++cond (ah D 10 10) [.blk b (.cells q au)] []) S1 w_:=by
   rw [z11 n11]
   exact hI
  exact ⟨ax,ay,az,aA,aF,aH,aE,aM,aN,aR,fun _=>by first|assumption|trivial,ar,⟨S1,b,q,css,hE1,f2,f8,f9,f10,f11,z11,hI⟩⟩
 ·have wv:=aq ‹_›
  have Ge:=aR ‹_›
  obtain ⟨_,a1,a2,a3,a4,rfl,hrt⟩:=f9 ‹D 9=true›
  obtain rfl:=f10 ‹D 10=true›
  have h5:=(f8 ‹D 8=true›).1
  rw [h5,‹D 8=true›,‹D 10=true›,z11 bX] at hI
  obtain ⟨qa,qn,qc,rfl⟩:=hI.rowSl (i:=3) rfl
  refine aG (cs:=#[a1,a2,a3,a4,.int .i64 c,.slice qa qn qc]) hI 4 rfl bA rfl rfl (AY hrt.one rfl) fun w_ hI=>?_
  obtain ⟨q,hq⟩:∃ q:Array Value,q=#[a1,a2,a3,a4,.int .i64 c,.slice qa qn qc]:=⟨_,rfl⟩
  have f11:ah D 11 11=true->ah D 11 10=true/\ah D 11 8=true/\∃ b1 b2 b3 b4,q=#[b1,b2,b3,b4,.int .i64 c,.slice qa qn qc]/\RdT S1 [b1,b2,b3,b4] g:=fun _=>⟨‹D 10=true›,‹D 8=true›,a1,a2,a3,a4,hq,hrt⟩
  have z11:ah D 11 11=false->q=zP6:=fun h=>Bool.noConfusion h
  have hI:Inv w [br] ([B3,B4,rdI br sl p]++cond (ah D 11 5) [cond (ah D 11 8) (bq (.slice qa qn qc) au 6 css) (bq zo au 6 [])] []++cond (ah D 11 10) [.blk b (.cells q au)] []) S1 w_:=by
   rw [show ah D 11 5=D 5 from rfl,h5,show ah D 11 8=D 8 from rfl,‹D 8=true›,show ah D 11 10=D 10 from rfl,‹D 10=true›,hq]
   exact hI
  exact ⟨ax,ay,az,aA,aF,aH,aE,aM,aN,aR,aq,fun _=>trivial,⟨S1,b,q,css,hE1,f2,f8,f9,f10,f11,z11,hI⟩⟩
 have wv:=aq ‹_›
 have Ge:=aR ‹_›
 have BL:=aN ‹_›
 obtain rfl:=aM ‹_›
 obtain rfl:=aE ‹_›
 have Kz:=aH ‹_›
 obtain rfl:=aF ‹_›
 obtain rfl:=aA ‹_›
 have NH:=az ‹_›
 obtain rfl:=ay ‹_›
 obtain rfl:=ax ‹_›
 have OA:D 5=true:=by assumption
 have zn:D 8=true:=by assumption
 have zr:D 10=true:=by assumption
 have sR:D 11=true:=by assumption
 clear ax ay az aA aF aH aE aM aN aR aq ar
 obtain ⟨_,_,a1,a2,a3,a4,rfl,hrt⟩:=f11 sR
 obtain rfl:=f10 zr
 obtain ⟨_,hR⟩:=f8 zn
 have hRc:=hR.hc
 rw [OA,zn,zr] at hI
 have hIk:=hI
 obtain ⟨qa,qn,qc,rfl⟩:=hI.rowSl (i:=3) rfl
 have hI:Inv w [br] [B3,B4,bq (.slice qa qn qc) au 6 css,.blk b (.cells #[a1,a2,a3,a4,.int .i64 c,.slice qa qn qc] au),rdI br sl p] S1 w_:=hIk.last 2 rfl
 have hrd1:=hrd.monoU hE1.1
 refine ⟨fun w'=>∃ (p2:Nat) (S2:al) (e1 e2 e3 e4:Value) (g2:T) (c2:Int) (kv:Value) (kk:List PF),p2<=p+700 * (W+1)/\Ext w.heap.size [br] S S2/\RdT S2 [e1,e2,e3,e4] g2/\inI c2/\RdSl S2 6 (RdF S2) kv kk/\wT g2+kk.length+wFL kk<=W+1000/\
  Inv w [br] [B3,B4,.blk b (.cells #[e1,e2,e3,e4,.int .i64 c2,kv] au),rdI br sl p2] S2 w',?_,?_⟩
 ·have hsame:∀ {S2:al} {p2:Nat} {e1 e2 e3 e4:Value} {g2:T} {c2:Int} {w':World},p2<=p+700 * (W+1)->Ext w.heap.size [br] S1 S2->RdT S2 [e1,e2,e3,e4] g2->inI c2->wT g2<=wT g+1000->
    Inv w [br] [B3,B4,bq (.slice qa qn qc) au 6 css,.blk b (.cells #[e1,e2,e3,e4,.int .i64 c2,.slice qa qn qc] au),rdI br sl p2] S2 w'->∃ S3,Ext w.heap.size [br] S2 S3/\RdSl S3 6 (RdF S3) (.slice qa qn qc) ks/\
    Inv w [br] [B3,B4,.blk b (.cells #[e1,e2,e3,e4,.int .i64 c2,.slice qa qn qc] au),rdI br sl p2] S3 w'/\RdT S3 [e1,e2,e3,e4] g2:=by
   intro S2 p2 e1 e2 e3 e4 g2 c2 w' _ hE2 ht2 _ _ hI
   have hI:Inv w [br] ([B3,B4,.blk b (.cells #[e1,e2,e3,e4,.int .i64 c2,.slice qa qn qc] au),rdI br sl p2]++[bq (.slice qa qn qc) au 6 css]) S2 w':=hI.last 2 rfl
   obtain ⟨S3,hE3,hrw,hI⟩:=Inv.lendExt hI
   exact ⟨S3,hE3,RowRd.rows (hR.monoR fun _ _ h=>h.mono (hE1.1.trans (hE2.1.trans hE3.1))) hrw,hI,ht2.mono hE3.1⟩
  refine Run.callL ch ci hI (cW (n:=20) (p:=p) hrd1 (by omega) (by omega)) rfl fun v' I' S' w'=>?_
  rintro ⟨eS,rfl,k,hk,rfl⟩ _ hI
  rw [eS] at hI
  have hI:Inv w [br] [B3,B4,bq (.slice qa qn qc) au 6 css,.blk b (.cells #[a1,a2,a3,a4,.int .i64 c,.slice qa qn qc] au),rdI br sl (p+1)] S1 w':=hI
  have hdone:∀ {w':World},Inv w [br] [B3,B4,bq (.slice qa qn qc) au 6 css,.blk b (.cells #[a1,a2,a3,a4,.int .i64 c,.slice qa qn qc] au),rdI br sl (p+1)] S1 w'->∃ (p2:Nat) (S2:al) (e1 e2 e3 e4:Value) (g2:T) (c2:Int) (kv:Value) (kk:List PF),p2<=p+700 * (W+1)/\Ext w.heap.size [br] S S2/\RdT S2 [e1,e2,e3,e4] g2/\inI c2/\RdSl S2 6 (RdF S2) kv kk/\wT g2+kk.length+wFL kk<=W+1000/\
    Inv w [br] [B3,B4,.blk b (.cells #[e1,e2,e3,e4,.int .i64 c2,kv] au),rdI br sl p2] S2 w':=by
   intro w' hI
   obtain ⟨S3,hE3,hk3,hI,ht3⟩:=hsame (g2:=g) (by omega) (Ext.refl _ _ _) hrt hci (by omega) hI
   exact ⟨_,S3,_,_,_,_,g,c,_,ks,by omega,hE1.trans hE3,ht3,hci,hk3,by omega,hI⟩
  refine bP ?_
  refine bz (fun h0=>?_) (fun h0=>?_)
  ·refine tm hI (by kernel_rfl) rfl (by omega) fun v S2 w' hE2 hv hI=>?_
   refine Run.callL eC eA hI (iF (p:=p+1) (hrd1.monoU hE2.1) hv (by decide) (by omega)) rfl fun v' I' S' w'=>?_
   rintro ⟨eS,rfl,n,hn,rfl⟩ _ hI
   rw [eS] at hI
   have hn:=r3 (a:=-1000) (b:=1000) hn (by decide)
   have hI:Inv w [br] [B3,B4,bq (.slice qa qn qc) au 6 css,.blk b (.cells #[a1,a2,a3,a4,.int .i64 c,.slice qa qn qc] au),rdI br sl (p+2)] S2 w':=hI
   refine cM hI 3 rfl fX aY rfl rfl rfl fun w' hI=>?_
   have hn2:inI n:=⟨by omega,by omega⟩
   obtain ⟨S3,hE3,hk3,hI,ht3⟩:=hsame (p2:=p+2) (c2:=n) (g2:=g) (by omega) hE2 (hrt.mono hE2.1) hn2 (by omega) hI
   exact ⟨_,S3,_,_,_,_,g,n,_,ks,by omega,(hE1.trans hE2).trans hE3,ht3,hn2,hk3,by omega,hI⟩
  refine bP ?_
  refine bz (fun h1=>?_) (fun h1=>?_)
  ·refine Run.callL jz jA hI (qs 2 (by omega) (p+1) S1 hrd1 (by rw [KD]; omega)) rfl fun v' I' S2 w'=>?_
   rintro ⟨p2,hp2,rfl,ds,u,rfl,hds,hwu,_⟩ hE2 hI
   rw [KD] at hp2 hwu
   refine Run.callL AA zB hI (zm (p:=p2) (hrd1.monoU hE2.1) hds (by omega) (by omega)) rfl fun v' I' S3 w'=>?_
   rintro ⟨p3,hp3,rfl,es,u2,rfl,hes,hwu2⟩ hE3 hI
   obtain ⟨e1,e2,e3,e4,rfl⟩:=nD hes.length
   have hI:Inv w [br] [B3,B4,bq (.slice qa qn qc) au 6 css,.blk b (.cells #[a1,a2,a3,a4,.int .i64 c,.slice qa qn qc] au),rdI br sl p3] S3 w':=hI
   refine aI fZ ?_
   refine lV hI 3 rfl ai rfl rfl (by simpa [Value.cells] using hes.one) fun w' hI=>?_
   have hI:Inv w [br] [B3,B4,bq (.slice qa qn qc) au 6 css,.blk b (.cells #[e1,e2,e3,e4,.int .i64 c,.slice qa qn qc] au),rdI br sl p3] S3 w':=hI
   obtain ⟨S4,hE4,hk4,hI,ht4⟩:=hsame (p2:=p3) (c2:=c) (g2:=u2) (by omega) (hE2.trans hE3) hes hci (by omega) hI
   exact ⟨_,S4,_,_,_,_,u2,c,_,ks,by omega,((hE1.trans hE2).trans hE3).trans hE4,ht4,hci,hk4,by omega,hI⟩
  refine bP ?_
  refine bz (fun h2=>?_) (fun h2=>?_)
  ·obtain ⟨F,hF⟩:∃ F:Value->Array Value,F=fun kv=>#[a1,a2,a3,a4,.int .i64 c,kv]:=⟨_,rfl⟩
   have hFv:∀ kv,F kv=#[a1,a2,a3,a4,.int .i64 c,kv]:=fun kv=>by rw [hF]
   obtain ⟨tt,htt⟩:∃ tt:T,tt=.mk 3 0 ⟨#[116,114,117,101]⟩ []:=⟨_,rfl⟩
   have hI:Inv w [br] ([B3,B4,rdI br sl (p+1)]++[.blk b (.cells (F (.slice qa qn qc)) au),bq (.slice qa qn qc) au 6 css]) S1 w':=by
    rw [hFv]
    exact (hI.last 2 rfl).perm (((List.Perm.swap _ _ _).cons _ |>.cons _).trans ((List.Perm.refl _)))
   refine ⟨fun D jf iz ow jI kP ul lI w_=>(D 0=true->lI=.pointer (some ⟨b,5,none⟩))/\(D 1=true->ul=.slice qa qn qc)/\(D 2=true->True)/\(D 3=true->True)/\(D 4=true->True)/\(D 5=true->True)/\(D 6=true->jf=.pointer (some ⟨b,5,none⟩))/\(D 7=true->True)/\∃ n_:Nat,n_<=5/\D 2=decide (1<=n_)/\D 3=decide (2<=n_)/\D 4=decide (3<=n_)/\D 5=decide (4<=n_)/\D 7=decide (5<=n_)/\(D 7=true->D 1=true)/\(muC w [br] b F [B3,B4,rdI br sl (p+1)] (.slice qa qn qc) css tt (.mk tt (-1) []) S1 kP jI ow iz w_ n_),⟨ac,ac,ac,ac,ac,ac,ac,ac,⟨0,Nat.zero_le _,rfl,rfl,rfl,rfl,rfl,(ac),hI.draw⟩⟩,⟨?_,?_,?_,?_,?_,?_,?_,?_,trivial⟩,?_⟩
   all_goals (intro D bX; intros; rename_i jf iz ow jI kP ul lI w_ hA_; obtain ⟨ax,ay,az,aA,aF,aH,aE,aM,⟨n_,ln_,e1_,e2_,e3_,e4_,e5_,kp_,hS⟩⟩:=hA_)
   ·refine aI bQ ?_
    exact ⟨fun _=>rfl,ay,az,aA,aF,aH,aE,aM,⟨n_,ln_,e1_,e2_,e3_,e4_,e5_,kp_,hS⟩⟩
   ·obtain rfl:=ax ‹_›
    have ln2_:=Mb e5_ kp_ bX
    obtain ⟨R,S3,hI⟩:=hS.low ln2_
    rw [hFv] at hI
    refine aX hI 3 bY rfl rfl ?_
    exact ⟨ax,fun _=>rfl,az,aA,aF,aH,aE,aM,⟨n_,ln_,e1_,e2_,e3_,e4_,e5_,(fun _=>rfl),hS⟩⟩
   ·obtain rfl:n_=0:=vo e1_ bX
    refine Run.call0E dq dr hS (er ⟨#[116,114,117,101]⟩ (by decide) (kF S1) (by simp)) fun v' I' S3 w_=>?_
    rintro ⟨rfl,ds,rfl,hds⟩ hE3 hI
    rw [List.append_nil] at hI
    obtain ⟨d1,d2,d3,d4,rfl⟩:=nD hds.length
    rw [<- htt] at hds
    have hS:muC w [br] b F [B3,B4,rdI br sl (p+1)] (.slice qa qn qc) css tt (.mk tt (-1) []) S1 (.agg [d1,d2,d3,d4].toArray) jI ow iz w_ 1:=⟨S3,d1,d2,d3,d4,rfl,hE3,hds,hI⟩
    exact ⟨ax,ay,fun _=>by first|assumption|trivial,aA,aF,aH,aE,aM,⟨1,by decide,rfl,(by first|exact e2_|rfl),(by first|exact e3_|rfl),(by first|exact e4_|rfl),(by first|exact e5_|rfl),kp_,hS⟩⟩
   ·have NH:=az ‹_›
    obtain rfl:n_=1:=gf e1_ ‹D 2=true› e2_ bX
    obtain ⟨S3,d1,d2,d3,d4,rfl,hE3,hds,hI⟩:=hS
    refine nK ?_
    have hS:muC w [br] b F [B3,B4,rdI br sl (p+1)] (.slice qa qn qc) css tt (.mk tt (-1) []) S1 (.agg #[d1,d2,d3,d4]) (.agg #[d1,d2,d3,d4,.int .i64 (-1),.slice none 0 0]) ow iz w_ 2:=⟨S3,[d1,d2,d3,d4,.int .i64 (-1),.slice none 0 0],rfl,hE3,by
     obtain ⟨tkv,hte,_⟩:=RdT.iff.1 hds
     simp only [List.cons.injEq,and_true] at hte
     obtain ⟨rfl,rfl,rfl,rfl⟩:=hte
     exact RdF.iff.2 ⟨_,_,rfl,hds,⟨by simp [PF.clause],by simp [PF.clause]⟩,RdSl.nil0 ..⟩,hI⟩
    exact ⟨ax,ay,az,fun _=>by first|assumption|trivial,aF,aH,aE,aM,⟨2,by decide,(by first|exact e1_|rfl),rfl,(by first|exact e3_|rfl),(by first|exact e4_|rfl),(by first|exact e5_|rfl),kp_,hS⟩⟩
   ·have Gu:=aA ‹_›
    obtain rfl:n_=2:=gf e2_ ‹D 3=true› e3_ bX
    obtain ⟨S3,cs,rfl,hE3,hcs,hI⟩:=hS
    refine dh hI fW (by simpa [Value.cells] using hcs.length) (by omega) (by omega) fun b9 w_ hI=>?_
    obtain ⟨S4,hI,hE4,hb⟩:=Inv.pub1 hI
    have hS:muC w [br] b F [B3,B4,rdI br sl (p+1)] (.slice qa qn qc) css tt (.mk tt (-1) []) S1 kP (.agg cs.toArray) (.slice (some ⟨b9,0,none⟩) 1 1) iz w_ 3:=⟨S4,hE3.trans hE4,RdSl.single hb hcs.length (hcs.mono hE4.1),hI⟩
    exact ⟨ax,ay,az,aA,fun _=>by first|assumption|trivial,aH,aE,aM,⟨3,by decide,(by first|exact e1_|rfl),(by first|exact e2_|rfl),rfl,(by first|exact e4_|rfl),(by first|exact e5_|rfl),kp_,hS⟩⟩
   ·obtain rfl:=ay ‹_›
    have NP:=aF ‹_›
    obtain rfl:n_=3:=gf e3_ ‹D 4=true› e4_ bX
    obtain ⟨S3,hE3,hrd3,hI⟩:=hS
    refine ed (css:=css) hI 4 fW (by omega) rfl hrd3 (fun _ _=>RdF.length) (fun _ _=>RdF.one) (by simp; omega) (by omega) fun v w_ css2 hR2 hI=>?_
    obtain ⟨c0,hc0⟩:∃ c0,css2=[c0]:=List.length_eq_one_iff.1 hR2.hc
    subst hc0
    have hc0:RdF S3 c0 (.mk tt (-1) []):=hR2.hR 0 (by simp) (by simp)
    have hS:muC w [br] b F [B3,B4,rdI br sl (p+1)] (.slice qa qn qc) css tt (.mk tt (-1) []) S1 kP jI ow v w_ 4:=⟨S3,c0,hE3,hc0,hI⟩
    exact ⟨ax,ay,az,aA,aF,fun _=>by first|assumption|trivial,aE,aM,⟨4,by decide,(by first|exact e1_|rfl),(by first|exact e2_|rfl),(by first|exact e3_|rfl),rfl,(by first|exact e5_|rfl),kp_,hS⟩⟩
   ·refine aI bQ ?_
    exact ⟨ax,ay,az,aA,aF,aH,fun _=>rfl,aM,⟨n_,ln_,e1_,e2_,e3_,e4_,e5_,kp_,hS⟩⟩
   ·obtain rfl:=aE ‹_›
    have Kz:=aH ‹_›
    obtain rfl:n_=4:=gf e4_ ‹D 5=true› e5_ bX
    obtain ⟨S3,cs,hE3,hcs,hI⟩:=hS
    obtain ⟨hv1,hv2⟩:=hI.rowOne (i:=4) rfl
    rw [hFv] at hI
    refine dy hI 3 (b:=b) (o:=5) (n:=1) (by rw [hv1]; rfl) (by rw [bY]; rfl) rfl (by simp) (by rw [hv1]; simpa using hv2) fun w_ hI=>?_
    have hS:muC w [br] b F [B3,B4,rdI br sl (p+1)] (.slice qa qn qc) css tt (.mk tt (-1) []) S1 kP jI ow iz w_ 5:=⟨S3,iz,cs,hE3,hcs,by rw [hFv]; rw [hv1] at hI; exact hI⟩
    exact ⟨ax,ay,az,aA,aF,aH,aE,fun _=>trivial,⟨5,by decide,(by first|exact e1_|rfl),(by first|exact e2_|rfl),(by first|exact e3_|rfl),(by first|exact e4_|rfl),rfl,(fun _=>‹D 1=true›),hS⟩⟩
   obtain rfl:n_=5:=kq ln_ e5_ ‹D 7=true›
   clear e1_ e2_ e3_ e4_ e5_
   obtain ⟨S3,kv',cs,hE3,hcs,hI⟩:=hS
   obtain ⟨S4,hE4,hrw,hI⟩:=Inv.lendExt (A:=[B3,B4,rdI br sl (p+1),.blk b (.cells (F kv') au)]) hI
   rw [hFv] at hI
   have hks4:=RowRd.rows (((hR.monoR fun _ _ h=>h.mono (hE1.1.trans hE3.1)).snoc hcs hcs.length).monoR fun _ _ h=>RdF.mono hE4.1 h) hrw
   have et:wF (.mk tt (-1) [])=4:=by rw [htt]; have e:(ByteArray.mk #[116,114,117,101]).size=4:=rfl; simp only [wF,wFL,wT,wL,List.length_nil,e]
   refine ⟨p+1,S4,_,_,_,_,g,c,_,ks++[.mk tt (-1) []],by omega,(hE1.trans hE3).trans hE4,hrt.mono (hE3.trans hE4).1,hci,hks4,?_,hI.last 2 rfl⟩
   rw [List.length_append,ID]
   simp only [List.length_singleton,wFL]
   omega
  refine bP ?_
  refine bz (fun h3=>?_) (fun h3=>?_)
  ·obtain ⟨S3,hE3,hk3,hI,ht3⟩:=hsame (g2:=g) (by omega) (Ext.refl _ _ _) hrt hci (by omega) hI
   refine ao hI 2 rfl bQ bY rfl ?_
   refine bp hk3 cA ?_
   refine di ?_
   refine bz (fun hl=>?_) (fun hl=>?_)
   ·refine ao hI 2 rfl bQ bY rfl ?_
    refine hK (l:=1) cA hk3 (by omega) fun v' hv'=>?_
    refine cM hI 2 rfl bQ bY rfl (by obtain ⟨a,m,rfl,_⟩:=hv'; rfl) hv'.sl fun w' hI=>?_
    have:=Jp ks
    exact ⟨_,S3,_,_,_,_,g,c,_,ks.drop 1,by omega,hE1.trans hE3,ht3,hci,hv',by rw [List.length_drop]; omega,hI⟩
   ·exact ⟨_,S3,_,_,_,_,g,c,_,ks,by omega,hE1.trans hE3,ht3,hci,hk3,by omega,hI⟩
  refine bP ?_
  refine bz (fun h4=>?_) (fun h4=>?_)
  ·have hI2:Inv w [br] ([B3,B4,.blk b (.cells #[a1,a2,a3,a4,.int .i64 c,.slice qa qn qc] au),rdI br sl (p+1)]++[bq (.slice qa qn qc) au 6 css]) S1 w':=hI.last 2 rfl
   obtain ⟨hlx,ho⟩:=Inv.openRow hI2
   rcases ho with ⟨hz,hz0⟩|⟨gb,cap,cur,hz,hnc,hcm,hcs,ht,hI3⟩
   ·have hq:qn=0:=by
     simp only [Value.slice.injEq] at hz
     exact hz.2.1
    refine ao hI 3 rfl bQ bY rfl ?_
    refine eT cA ?_
    refine di ?_
    refine bz (fun hl=>?_) (fun hl=>?_)
    ·omega
    ·exact hdone hI
   refine ao hI 3 rfl bQ bY rfl ?_
   refine eT cA ?_
   refine di ?_
   have hqn:qn=css.length:=by
    simp only [Value.slice.injEq] at hz
    exact hz.2.1
   refine bz (fun hl=>?_) (fun hl=>hdone hI)
   rw [hz] at hI3
   have hpos:0<css.length:=by omega
   have hk0l:0<ks.length:=by omega
   have hcz:cur.size=cap * 6:=hcs
   have hk0:RdF S (bm cur (0+0 * 6) 6) ks[0]:=by
    have hfa:=fT 6 css 0 hR.hk (by omega)
    rw [<- ht,List.drop_take,List.take_take,Nat.min_eq_left (by omega)] at hfa
    have e:bm cur (0+0 * 6) 6=css[0]:=hfa
    rw [e]
    exact hR.hR 0 hk0l hpos
   have hwk:=wR (List.getElem_mem hk0l)
   obtain ⟨wk,hwke⟩:∃ wk,wk=wF ks[0]:=⟨_,rfl⟩
   rw [<- hwke] at hwk
   have hWk:1+wk<=W:=by omega
   have hcallM:∀ (p2:Nat) (S2:al),p2=p+1->Sle S S2->Tri Tryz.prog o4 [rdP br,.agg (bm cur (0+0 * 6) 6).toArray] [rdI br sl p2] S2 (KZ br sl p2 (700 * (wk+1)) (wk+1000)):=by
    intro p2 S2 hp2 hle
    have:=ih ks[0] (List.getElem_mem hk0l) p2 S2 _ (hrd.monoU hle) (hk0.mono hle)
    rw [<- hwke] at this
    obtain ⟨q1,q2,_⟩:=harith wk hWk
    exact this q1 (by rw [hp2]; exact q2)
   have hI:Inv w [br] [B3,B4,.blk b (.cells #[a1,a2,a3,a4,.int .i64 c,.slice (some ⟨gb,0,none⟩) css.length cap] au),.blk gb (.cells cur au),rdI br sl (p+1)] S1 w':=hI3.last 3 rfl
   have hixz:∀ {ty:TypeId} {K:Value->World->Prop} {w':World},K (.pointer (some ⟨gb,0,none⟩)) w'->Run Tryz.prog (sOp (.indexAddr BP (.const (.slice (some ⟨gb,0,none⟩) css.length cap)) (.const (.int .i64 0))) ty) w' K:=fun hk=>be (i:=0) cA hpos hk
   refine ⟨fun D EO zZ wJ xp wK wS u5 sy sJ w_=>(D 0=true->sJ=.pointer (some ⟨b,5,none⟩))/\(D 1=true->sy=.slice (some ⟨gb,0,none⟩) css.length cap)/\(D 2=true->u5=rdP br)/\(D 3=true->wS=.pointer (some ⟨b,5,none⟩))/\(D 4=true->wK=.slice (some ⟨gb,0,none⟩) css.length cap)/\(D 5=true->xp=.pointer (some ⟨gb,0,none⟩))/\(D 6=true->wJ=.agg (bm cur (0+0 * 6) 6).toArray)/\(D 7=true->True)/\(D 8=true->EO=.pointer (some ⟨gb,0,none⟩))/\(D 9=true->True)/\∃ p2 S2 q,(D 7=false->p2=p+1)/\(p2<=p+1+700 * (wk+1))/\Ext w.heap.size [br] S1 S2/\(D 7=true->∃ cs y,zZ=.agg (List.toArray cs)/\RdF S2 cs y/\wF y<=wk+1000)/\(D 9=true->D 6=true)/\(D 9=false->q=cur)/\(D 9=true->∃ cs y,q=bM cur 0 cs/\RdF S2 cs y/\wF y<=wk+1000)/\Inv w [br] [B3,B4,.blk b (.cells #[a1,a2,a3,a4,.int .i64 c,.slice (some ⟨gb,0,none⟩) css.length cap] au),.blk gb (.cells q au),rdI br sl p2] S2 w_,⟨ac,ac,ac,ac,ac,ac,ac,ac,ac,ac,⟨p+1,S1,cur,fun _=>rfl,by omega,Ext.refl _ _ _,ac,ac,fun _=>rfl,ac,hI.draw⟩⟩,⟨?_,?_,?_,?_,?_,?_,?_,?_,?_,?_,trivial⟩,?_⟩
   all_goals (intro D bX; intros; rename_i EO zZ wJ xp wK wS u5 sy sJ w_ hA_; obtain ⟨ax,ay,az,aA,aF,aH,aE,aM,aN,aR,⟨p2,S2,q,z7,hp2,hE2,f7,k9,z9,f9,hI⟩⟩:=hA_)
   ·refine aI bQ ?_
    exact ⟨fun _=>rfl,ay,az,aA,aF,aH,aE,aM,aN,aR,⟨p2,S2,q,z7,hp2,hE2,f7,k9,z9,f9,hI⟩⟩
   ·obtain rfl:=ax ‹_›
    refine aX hI 2 bY rfl rfl ?_
    exact ⟨ax,fun _=>rfl,az,aA,aF,aH,aE,aM,aN,aR,⟨p2,S2,q,z7,hp2,hE2,f7,k9,z9,f9,hI⟩⟩
   ·exact ⟨ax,ay,fun _=>rfl,aA,aF,aH,aE,aM,aN,aR,⟨p2,S2,q,z7,hp2,hE2,f7,k9,z9,f9,hI⟩⟩
   ·refine aI bQ ?_
    exact ⟨ax,ay,az,fun _=>rfl,aF,aH,aE,aM,aN,aR,⟨p2,S2,q,z7,hp2,hE2,f7,k9,z9,f9,hI⟩⟩
   ·obtain rfl:=aA ‹_›
    refine aX hI 2 bY rfl rfl ?_
    exact ⟨ax,ay,az,aA,fun _=>rfl,aH,aE,aM,aN,aR,⟨p2,S2,q,z7,hp2,hE2,f7,k9,z9,f9,hI⟩⟩
   ·obtain rfl:=aF ‹_›
    refine hixz ?_
    exact ⟨ax,ay,az,aA,aF,fun _=>rfl,aE,aM,aN,aR,⟨p2,S2,q,z7,hp2,hE2,f7,k9,z9,f9,hI⟩⟩
   ·obtain rfl:=aH ‹_›
    have n9:D 9=false:=Bool.eq_false_iff.2 fun h=>by rw [k9 h] at bX; cases bX
    have hI2:=hI
    rw [z9 n9] at hI2
    refine cN hI2 3 (bm cur (0+0 * 6) 6) bA rfl hk0.length (fun j v hj=>bh rfl j v hj) ?_
    have k9:ah D 6 9=true->ah D 6 6=true:=fun _=>rfl
    exact ⟨ax,ay,az,aA,aF,aH,fun _=>rfl,aM,aN,aR,⟨p2,S2,q,z7,hp2,hE2,f7,k9,z9,f9,hI⟩⟩
   ·obtain rfl:=az ‹_›
    obtain rfl:=aE ‹_›
    have hpe:=z7 bX
    refine Run.callL (L:=[B3,B4,.blk b _,.blk gb _,rdI br sl p2]) nz nh hI (hcallM p2 S2 hpe (hE1.1.trans hE2.1)) rfl fun v' I' S3 w_=>?_
    rintro ⟨p3,hp3,rfl,cs',y,rfl,hcs',hwy⟩ hE3 hI
    have hI:Inv w [br] [B3,B4,.blk b (.cells #[a1,a2,a3,a4,.int .i64 c,.slice (some ⟨gb,0,none⟩) css.length cap] au),.blk gb (.cells q au),rdI br sl p3] S3 w_:=hI
    have z7:ah D 7 7=false->p3=p+1:=fun h=>Bool.noConfusion h
    have hp2:p3<=p+1+700 * (wk+1):=by rw [<- hpe]; exact hp3
    have hE2:=hE2.trans hE3
    have f7:ah D 7 7=true->∃ cs y,Value.agg cs'.toArray=.agg (List.toArray cs)/\RdF S3 cs y/\wF y<=wk+1000:=fun _=>⟨cs',y,rfl,hcs',hwy⟩
    have f9:ah D 7 9=true->∃ cs y,q=bM cur 0 cs/\RdF S3 cs y/\wF y<=wk+1000:=fun h=>by
     obtain ⟨cs2,y2,e,h2,h3⟩:=f9 h
     exact ⟨cs2,y2,e,h2.mono hE3.1,h3⟩
    obtain ⟨p2,rfl⟩:∃ p2,p2=p3:=⟨_,rfl⟩
    obtain ⟨S2,rfl⟩:∃ S2,S2=S3:=⟨_,rfl⟩
    exact ⟨ax,ay,az,aA,aF,aH,aE,fun _=>by first|assumption|trivial,aN,aR,⟨p2,S2,q,z7,hp2,hE2,f7,k9,z9,f9,hI⟩⟩
   ·obtain rfl:=ay ‹_›
    refine hixz ?_
    exact ⟨ax,ay,az,aA,aF,aH,aE,aM,fun _=>rfl,aR,⟨p2,S2,q,z7,hp2,hE2,f7,k9,z9,f9,hI⟩⟩
   ·obtain rfl:=aN ‹_›
    have Gd:=aM ‹_›
    obtain ⟨cs2,y2,rfl,h2,h3⟩:=f7 ‹D 7=true›
    rw [z9 bX] at hI
    refine lV hI 3 rfl bA (by simpa [Value.cells] using h2.length) (by rw [hcz]; exact Nat.ble_eq_true_of_le (by omega)) (by simpa [Value.cells] using h2.one) fun w_ hI=>?_
    have k9:ah D 9 9=true->ah D 9 6=true:=fun _=>by assumption
    obtain ⟨q,hq⟩:∃ q:Array Value,q=bM cur 0 cs2:=⟨_,rfl⟩
    have z9:ah D 9 9=false->q=cur:=fun h=>Bool.noConfusion h
    have f9:ah D 9 9=true->∃ cs y,q=bM cur 0 cs/\RdF S2 cs y/\wF y<=wk+1000:=fun _=>⟨cs2,y2,hq,h2,h3⟩
    have hI:Inv w [br] [B3,B4,.blk b (.cells #[a1,a2,a3,a4,.int .i64 c,.slice (some ⟨gb,0,none⟩) css.length cap] au),.blk gb (.cells q au),rdI br sl p2] S2 w_:=by rw [hq]; exact hI
    exact ⟨ax,ay,az,aA,aF,aH,aE,aM,aN,fun _=>trivial,⟨p2,S2,q,z7,hp2,hE2,f7,k9,z9,f9,hI⟩⟩
   obtain rfl:=aN ‹_›
   have Gd:=aM ‹_›
   obtain rfl:=aE ‹_›
   obtain rfl:=aH ‹_›
   obtain rfl:=aF ‹_›
   obtain rfl:=aA ‹_›
   obtain rfl:=az ‹_›
   obtain rfl:=ay ‹_›
   obtain rfl:=ax ‹_›
   have ES:D 9=true:=by assumption
   clear ax ay az aA aF aH aE aM aN aR
   obtain ⟨cs2,y2,rfl,h2,h3⟩:=f9 ES
   have hI:Inv w [br] ([B3,B4,.blk b (.cells #[a1,a2,a3,a4,.int .i64 c,.slice (some ⟨gb,0,none⟩) css.length cap] au),rdI br sl p2]++[.blk gb (.cells (bM cur 0 cs2) au)]) S2 w_:=hI.last 3 rfl
   obtain ⟨S3,hI,hE3,hgS⟩:=Inv.pub1 hI
   have hks3:=RdSl.put0 hR ht hnc hcm hcz (hE1.1.trans (hE2.1.trans hE3.1)) hgS (h2.mono hE3.1) hk0l
   rw [<- hRc] at hks3
   have hws:=LS ks y2 hk0l
   rw [<- hwke] at hws
   have hwq:wT g+ks.length+wFL (ks.set 0 y2)<=W+1000:=by
    generalize wFL (ks.set 0 y2)=v1 at hws ⊢
    generalize wF y2=v2 at hws h3
    omega
   exact ⟨p2,S3,_,_,_,_,g,c,_,ks.set 0 y2,Nat.le_trans hp2 (harith wk hWk).2.2,(hE1.trans hE2).trans hE3,hrt.mono (hE2.1.trans hE3.1),hci,hks3,by rw [List.length_set]; exact hwq,hI⟩
  ·exact hdone hI
 intro _ _ _ _ _ _ _ _ _ _ _ _ _ _ _ _ _ _ _ _ _ _ _ _ _ _ _ _ _ _ _ _ _ _ _ _ _ _ _ _ _ _ _ _ _ _ _ _ _ w'
 rintro ⟨p2,S2,e1,e2,e3',e4',g2,c2,kv,kk,hp2,hE2,ht2,hc2,hkk,hw2,hI⟩
 obtain ⟨tkv,hte,_⟩:=RdT.iff.1 ht2
 simp only [List.cons.injEq,and_true] at hte
 obtain ⟨rfl,rfl,rfl,rfl⟩:=hte
 have hfin:RdF S2 [.int .i64 g2.kind,.int .i64 g2.n,.string g2.name,e4',.int .i64 c2,kv] (.mk g2 c2 kk):=RdF.iff.2 ⟨_,_,rfl,ht2,hc2,hkk⟩
 refine aL hI 2 bA rfl rfl ?_
 refine aG (cs:=#[.int .i64 g2.kind,.int .i64 g2.n,.string g2.name,e4',.int .i64 c2,kv]) hI 1 e4 bA rfl rfl (by simpa using hfin.one) fun w' hI=>?_
 refine bE hI 1 bA rfl rfl ?_
 exact ⟨_,[rdI br sl p2],S2,rfl,hI.pick [false,false,false,true],hE2,p2,hp2,rfl,_,_,rfl,hfin,by rw [wF]; exact hw2⟩
theorem mn {S:al} {v:Value} (h:RdSl S 1 jd v ys):Tri Tryz.prog ph [v] [] S fun v' I' S'=>I'=[]/\∃ cs x,v'=.agg cs.toArray/\RdF S' cs x/\wF x<=101000:=by
 intro w hI
 refine kC ?_
 unfold im
 refine bi hI dk fun b2 w' hI=>?_
 have hI:Inv w [] [.blk b2 (.cells zP6 au)] S w':=hI
 refine Run.call0E Cl BQ hI (HB h) fun v1 I' S1 w'=>?_
 rintro ⟨eS,br,sl,ys',rfl,rfl,hrd⟩ _ hI
 rw [eS] at hI
 have hI:Inv w [] [.blk b2 (.cells zP6 au),rdI br sl 0] S w':=hI
 refine Run.callL DC Cs hI (zq (p:=0) hrd (by omega)) rfl fun v2 I' S2 w'=>?_
 rintro ⟨p1,hp1,rfl,u,cs,ps,x,rfl,hps,hlp,h0,hpv,hx,hwx⟩ hE2 hI
 have hxl:=hx.length
 refine aB (v:=u) rfl ?_
 refine aB (v:=.agg cs.toArray) rfl ?_
 refine bi hI dk fun b5 w' hI=>?_
 have hI:Inv w [] [.blk b2 (.cells zP6 au),rdI br sl p1,.blk b5 (.cells zP6 au)] S2 w':=hI
 refine aG hI 2 rfl bA (by simpa using hxl) rfl (by simpa using hx.one) fun w' hI=>?_
 have hI:Inv w [] [.blk b2 (.cells zP6 au),.blk b5 (.cells cs.toArray au),rdI br sl p1] S2 w':=hI.last 1 rfl
 refine aL hI 1 bA rfl (by simpa using hxl) ?_
 refine Run.callL nz nh hI (wj x p1 S2 cs (hrd.monoU hE2.1) hx (by omega) (by omega)) rfl fun v3 I' S3 w'=>?_
 rintro ⟨p2,hp2,rfl,ds,y,rfl,hy,hwy⟩ hE3 hI
 have hyl:=hy.length
 refine aG hI 0 rfl bA (by simpa using hyl) rfl (by simpa using hy.one) fun w' hI=>?_
 refine bE hI 0 bA rfl (by simpa using hyl) ?_
 exact ⟨_,[],S3,rfl,hI.nil,hE2.trans hE3,rfl,ds,y,rfl,hy,by omega⟩
theorem lG {S:al} {v:Value} (h:RdSl S 1 jd v ys):Tri Tryz.prog pT [v] [] S fun v' I' S'=>I'=[]/\∃ cs x,v'=.agg cs.toArray/\RdF S' cs x/\wF x<=101000:=by
 intro w hI
 refine lJ ?_
 unfold iQ
 refine bi hI dk fun b2 w' hI=>?_
 have hI:Inv w [] [.blk b2 (.cells zP6 au)] S w':=hI
 refine Run.call0E nR nO hI (mn h) fun v1 I' S1 w'=>?_
 rintro ⟨rfl,cs,x,rfl,hx,hwx⟩ hE1 hI
 have hxl:=hx.length
 refine aG hI 0 rfl bA (by simpa using hxl) rfl (by simpa using hx.one) fun w' hI=>?_
 refine bE hI 0 bA rfl (by simpa using hxl) ?_
 exact ⟨_,[],S1,rfl,hI.nil,hE1,rfl,cs,x,rfl,hx,hwx⟩
end
end Go.Proofs.YtfcbhfjomgopbaaGreat

/- The program's check of proofs, and CheckProof on both sides. -/
namespace Go.Proofs.YtfcbhfjomgopbaaGreat
open Go Go.RowKit
section
attribute [local irreducible] Run CondV ag aO
noncomputable def checkB (p:List C) (x:PF):Bool:=Og p && (dl x && chkF p x)
theorem Gs {x:PF} (h:dl x=true):lN x 20=true:=by
 rw [dl,Bool.and_eq_true] at h; exact h.1
end
end Go.Proofs.YtfcbhfjomgopbaaGreat

/- the laws of proofs in plain Lean: sizes add up, the clauses used, parts of proofs, more clauses behind. -/
namespace Go.Proofs.YtfcbhfjomgopbaaGreat
open Go Go.RowKit
mutual
theorem IO:∀ (x:PF) (d e:Int),d<=e->lN x d=true->lN x e=true
 | .mk g c ks,d,e,h,hs=>by
  rw [lN,Bool.and_eq_true,Bool.and_eq_true,decide_eq_true_eq] at hs ⊢
  exact ⟨by omega,hs.2.1,EW ks _ _ (by omega) hs.2.2⟩
theorem EW:∀ (xs:List PF) (d e:Int),d<=e->jR xs d=true->jR xs e=true
 | [],_,_,_,_=>rfl
 | x::xs,d,e,h,hs=>by
  rw [jR,Bool.and_eq_true] at hs ⊢
  exact ⟨IO x d e h hs.1,EW xs d e h hs.2⟩
end
theorem BE:∀ {ts:List PF} {t:PF},t∈ts->ig t<=eX ts
 | u::ts,t,h=>by
  rw [eX]
  have h1:=mG u
  have h2:=iE ts
  rcases List.mem_cons.1 h with rfl|h
  ·omega
  ·have:=BE h; omega
theorem D0 {g:T} {c:Int} {ks:List PF} (h:dl (.mk g c ks)=true):fh g=true/\(-1<=c/\c<=19)/\ks.length<=6:=by
 have h:=Gs h
 rw [lN,r6] at h
 simp only [Bool.and_eq_true,decide_eq_true_eq] at h
 exact ⟨h.2.1.1,h.2.1.2.1,h.2.1.2.2⟩
theorem Gt {g:T} {c:Int} {ks:List PF} (h:dl (.mk g c ks)=true):∀ x∈ks,dl x=true:=by
 intro x hx
 rw [dl,Bool.and_eq_true,decide_eq_true_eq,ig] at h
 obtain ⟨_,_,hs⟩:=Jo h.1
 have:=BE hx
 rw [dl,Bool.and_eq_true,decide_eq_true_eq]
 exact ⟨IO x _ _ (by omega) (hs x hx),by omega⟩
def psz (x:PF):Int:=if dl x=true then ig x else 0
theorem wQ (x:PF):0<=psz x/\psz x<=60:=by
 rw [psz]
 split
 ·rename_i h
  rw [dl,Bool.and_eq_true,decide_eq_true_eq] at h
  have:=mG x
  omega
 ·omega
def lK:List PF->Int
 | []=>0
 | x::xs=>psz x+lK xs
theorem DT:∀ xs:List PF,(∀ x∈xs,dl x=true)->lK xs=eX xs
 | [],_=>rfl
 | x::xs,h=>by rw [lK,eX,DT xs fun y hy=>h y (List.mem_cons_of_mem _ hy),psz,if_pos (h x (List.mem_cons_self ..))]
theorem Mu {g:T} {c:Int} {ks:List PF} (h:dl (.mk g c ks)=true):psz (.mk g c ks)=1+lK ks:=by
 rw [psz,if_pos h,ig,DT ks (Gt h)]
/- accepted proofs -/
/- the clauses that a proof uses -/
/- more clauses behind the program -/
end Go.Proofs.YtfcbhfjomgopbaaGreat

/- ProofSize on both sides. -/
namespace Go.Proofs.YtfcbhfjomgopbaaGreat
open Go Go.RowKit
section
attribute [local irreducible] Run CondV ag aO
theorem jy {x:PF} {S:al} {cs:List Value} (h:RdF S cs x):Pure Tryz.prog zU [.agg cs.toArray] S (.int .i64 (psz x)):=by
 intro w hI
 have hl:=h.length
 refine sa ?_
 unfold nw
 refine bS hI fun b1 w' hI=>?_
 refine bi hI Hf fun b2 w' hI=>?_
 refine dy hI 1 (n:=1) rfl (by rw [aY]; rfl) rfl (Nat.le_of_ble_eq_true rfl) (by simp [Value.cells]; rfl) fun w' hI=>?_
 refine aL hI 0 bA rfl (by simpa [Value.cells] using hl) ?_
 refine Run.call (A:=[_]) (I:=[ez b2 0]) iI iS hI (lp x S cs 1 0 b2 h (by omega) (by omega) (by omega) (by omega)) fun v' I' S' w'=>?_
 rintro ⟨rfl,rfl,rfl⟩ _ hI
 refine cK ?_
 rw [nj]
 cases hv:dl x with
 | false=>
  refine aS (fun _=>?_) (fun hb=>by cases hb)
  exact done hI (by rw [psz,hv,if_neg (by decide)])
 | true=>
  refine aS (fun hb=>by cases hb) (fun _=>?_)
  have h2:=(qi x 1 0).2 (by rw [nj]; exact hv)
  rw [h2,Int.zero_add] at hI
  refine aX hI 1 aY rfl rfl ?_
  exact done hI (by rw [psz,if_pos hv]; rfl)
theorem jo {x:PF} {S:al} {cs:List Value} (h:RdF S cs x) (hw:wF x<=1048576):Pure Tryz.prog Ah [.agg cs.toArray] S (.int .i64 (psz x)):=by
 intro w hI
 have hl:=h.length
 refine qC ?_
 unfold mB
 refine bS hI fun b1 w' hI=>?_
 refine aL hI 0 bA rfl (by simpa [Value.cells] using hl) ?_
 refine Run.callPure li lm hI (jr h hw) fun w' hI=>?_
 refine cK ?_
 cases hv:dl x with
 | false=>
  refine aS (fun _=>?_) (fun hb=>by cases hb)
  exact done hI (by rw [psz,hv,if_neg (by decide)])
 | true=>
  refine aS (fun hb=>by cases hb) (fun _=>?_)
  refine aL hI 0 bA rfl (by simpa [Value.cells] using hl) ?_
  refine Run.callPure kB kY hI (ox x S cs 60 h (by omega) (by omega)) fun w' hI=>?_
  have hv2:=hv
  rw [dl,Bool.and_eq_true,decide_eq_true_eq] at hv2
  exact done hI (by rw [psz,if_pos hv,(qM x 60 (by omega)).2.2.1 hv2.2])
end
end Go.Proofs.YtfcbhfjomgopbaaGreat

/- FnProofSize, FnProofFact and FnProofMore return true, whatever bytes come in: the walks. -/
namespace Go.Proofs.YtfcbhfjomgopbaaGreat
open Go Go.RowKit
theorem Bn:∀ (ks:List PF) (j:Nat) (h:j<ks.length),lK (ks.take (j+1))=lK (ks.take j)+psz ks[j]
 | k::ks,0,_=>by simp [lK]
 | k::ks,j+1,h=>by
  rw [List.take_succ_cons,List.take_succ_cons,lK,lK,List.getElem_cons_succ,Bn ks j (by simpa using h)]
  omega
theorem Ef:∀ ks:List PF,0<=lK ks
 | []=>Int.le_refl _
 | k::ks=>by rw [lK]; have:=wQ k; have:=Ef ks; omega
section
variable {w:World} {K:Value->World->Prop}
attribute [local irreducible] Run
end
section
variable {S:al} {ys:List Nat} {v:Value}
attribute [local irreducible] Run CondV ag aO
theorem xw (h:RdSl S 1 jd v ys):Pure Tryz.prog cT [v] S (.bool true):=by
 intro w hI
 refine nP ?_
 unfold jW
 refine bp h dL ?_
 refine di ?_
 refine bz (fun _=>done hI rfl) (fun _=>?_)
 refine Run.call0E pB pD hI (lG h) fun v1 I' S1 w'=>?_
 rintro ⟨rfl,cs,x,rfl,hx,hwx⟩ hE1 hI
 have hxl:=hx.length
 refine bi hI dk fun b3 w' hI=>?_
 refine aG hI 0 rfl bA (by simpa using hxl) rfl (by simpa using hx.one) fun w' hI=>?_
 obtain ⟨B3,hB3⟩:∃ B:Item,B=.blk b3 (.cells cs.toArray au):=⟨_,rfl⟩
 have e3:=congrArg some hB3
 have hI:Inv w [] [B3] S1 w':=by rw [hB3]; exact hI
 refine aL hI 0 bA e3 (by simpa using hxl) ?_
 refine Run.callPure mx mS hI (jy hx) fun w' hI=>?_
 refine ⟨fun q w'=>q=.bool (!dl x)/\Inv w [] [B3] S1 w',?_,?_⟩
 ·refine aL hI 0 bA e3 (by simpa using hxl) ?_
  refine Run.callPure mI m9 hI (jo hx (by omega)) fun w' hI=>?_
  refine dB ?_
  rw [decide_eq_true rfl]
  repeat (first|refine ad ?_|refine af (by decide) ?_|refine ae ?_|refine ak ?_|refine aj ?_)
  refine aL hI 0 bA e3 (by simpa using hxl) ?_
  refine Run.callPure vQ vP hI (rO hx) fun w' hI=>?_
  refine cK ?_
  repeat (first|refine ad ?_|refine af (by decide) ?_|refine ae ?_|refine ak ?_|refine aj ?_)
  exact ⟨rfl,hI⟩
 intro q _ _ _ _ _ _ _ _ w'
 rintro ⟨rfl,hI⟩
 refine aS (fun _=>?_) (fun hb=>?_)
 ·refine aL hI 0 bA e3 (by simpa using hxl) ?_
  refine Run.callPure mI m9 hI (jo hx (by omega)) fun w' hI=>?_
  refine bP ?_
  exact u3 hI hE1.1 (by rw [decide_eq_true rfl])
 have hv:dl x=true:=by simpa using hb
 cases x with
 | mk g c ks=>
 have hIk:=hI
 obtain ⟨kv,kp,rfl,hg,hc,hks⟩:=RdF.iff.1 hx
 have hI:=hIk
 simp only [PF.goal,PF.clause,PF.kids] at hg hc hks e3
 have hsum:=Mu hv
 have hp60:=wQ (.mk g c ks)
 have hkl:=(D0 hv).2.2
 refine ⟨fun i t w'=>∃ j:Nat,j<=ks.length/\i=.int .i64 (j:Int)/\t=.int .i64 (1+lK (ks.take j))/\Inv w [] [B3] S1 w',fun i _ _=>ks.length - (intOf i).toNat,⟨0,Nat.zero_le _,rfl,by simp [lK],hI⟩,?_⟩
 intro t6 _ _ t5 _ _ _ _ _ _ _ _ _ _ _ _ _ w'
 rintro ⟨j,hj,rfl,rfl,hI⟩
 refine ao hI 0 e3 bQ bY rfl ?_
 refine bp hks cA ?_
 refine cg ?_
 refine bz (fun hji=>?_) (fun hji=>?_)
 ·have hj':j<ks.length:=by omega
  refine ao hI 0 e3 bQ bY rfl ?_
  refine cJ hI hks cA bA hj' (fun _ _=>RdF.length) fun ds hds=>?_
  refine Run.callPure mx mS hI (jy hds) fun w' hI=>?_
  have h1:=Bn ks j hj'
  have h2:=wQ ks[j]
  have h3:0<=lK (ks.take j):=Ef _
  have h4:lK (ks.take (j+1))<=60 * (j+1:Nat):=by
   have:∀ l:List PF,lK l<=60 * (l.length:Int):=by
    intro l
    induction l with
    | nil=>simp [lK]
    | cons a l ih=>rw [lK,List.length_cons]; have:=wQ a; omega
   have h5:=this (ks.take (j+1))
   rw [List.length_take,Nat.min_eq_left hj'] at h5
   exact h5
  refine bT (by omega) ?_
  refine bT (by omega) ?_
  exact ⟨⟨j+1,hj',rfl,by rw [h1,Int.add_assoc],hI⟩,by simp only [intOf]; omega⟩
 ·have:j=ks.length:=by omega
  subst this
  rw [List.take_length,<- hsum]
  refine bP ?_
  rw [decide_eq_true rfl]
  repeat (first|refine ad ?_|refine af (by decide) ?_|refine ae ?_|refine ak ?_|refine aj ?_)
  refine fi ?_
  rw [decide_eq_true (by omega)]
  repeat (first|refine ad ?_|refine af (by decide) ?_|refine ae ?_|refine ak ?_|refine aj ?_)
  exact u3 hI hE1.1 rfl
end
end Go.Proofs.YtfcbhfjomgopbaaGreat

/- What every row of this seat owes beside its walk: the arguments read again as they did, and nothing that was there has turned. -/
namespace Go.Proofs.YtfcbhfjomgopbaaGreat
open Go Go.ChangeShapes Go.WideShapes Go.ChangeAt Go.RowKit

theorem Tryz.own:ownKnob Tryz.prog.godebug=none:=by kernel_rfl
theorem Tryz.kids:Kids Tryz.prog (·<Tryz.prog.types.size):=kids_rows (by kernel_rfl) (by kernel_rfl)
theorem Tryz.full:∀ t e,t<Tryz.prog.types.size->Tryz.prog.underlying t=some (.slice e)->0<Tryz.prog.cellsOf e:=slices_full_of Tryz.prog (by kernel_rfl)
section
variable {H:Type} {enc:TypeId × Value->H} {W W':World}
theorem Ey {P:Program}:∀ {ts:List TypeId} {vs:List Value} {ds:List (DataW H)} {ps:List MemPlace},DataW.TrodAll enc P W 0 (fun _=>true) true ts vs ds ps->(∀ p∈ps,W.sameAt W' p)->
  DataW.TrodAll enc P W' 0 (fun _=>true) true ts vs ds ps
 | [],[],[],_,h,_=>h
 | _::_,_::_,_::_,_,⟨p,q,⟨n,h1⟩,h2,e⟩,hs=>
  ⟨p,q,⟨n,DataW.trod_carry n _ _ _ h1 fun x hx=>hs x (by rw [e]; exact List.mem_append_left _ hx)⟩,Ey h2 fun x hx=>hs x (by rw [e]; exact List.mem_append_right _ hx),e⟩
theorem Mc {p:MemPlace} (h:∀ b,b<W.heap.size->W'.heap[b]?=W.heap[b]?) (hp:p.block<W.heap.size):W.sameAt W' p:=by
 cases p with
 | cell b off=>simp only [World.sameAt,World.cell?]; rw [h b hp]
 | map b=>exact h b hp
/- a function of the program whose walk ends with 'true' and with all that was there as it was: the row's 'post' -/
theorem JS {f:Func} {s:ChangeSpec} {args:Array Value} {ds gs:List (DataW H)} {before p q:List MemPlace}
  (hW:DataW.Whole enc Tryz.prog f.params.toList s.vars false W args.toList ds gs before) (hA:DataW.TrodAll enc Tryz.prog W 0 (fun _=>true) true f.params.toList args.toList ds p)
  (hV:DataW.TrodVars enc Tryz.prog W (fun _=>true) s.vars gs q) (hb:before=p++q) (hv:s.vars=[]) (hts:∀ t∈f.params.toList,t<Tryz.prog.types.size) (hr:f.resultTypes=#[Nh])
  (hs:(s.fn H (ds++gs)).results=[.lit (.bool true)]) (ha:(s.fn H (ds++gs)).args=ds) (hsv:(s.fn H (ds++gs)).vars=[]) (hI:Inv W [] [] (IV W) W') :
  s.post enc Tryz.prog f false true false false W args (.bool true) W':=by
 have hsame:∀ b,b<W.heap.size->W'.heap[b]?=W.heap[b]?:=fun b hb=>hI.same b hb
 have hlt:=hW.lt
 rw [hv] at hV
 obtain ⟨hg,hq⟩:=trodVars_none hV
 subst hq
 rw [List.append_nil] at hb
 subst hb
 have hA':=Ey (W':=W') hA fun x hx=>Mc hsame (hlt x hx)
 refine ⟨ds,gs,before,[],before,[],hW,?_,?_,?_,I7 hI.os hI.output hsame,fun h=>by cases h⟩
 ·rw [hs,hr]
  exact trodAll_mk1 (shut_bool BS true)
 ·rw [ha]
  exact DataW.TrodAll.respare Tryz.kids Tryz.full hts hA' fun x hx=>by simpa using hlt x hx
 ·rw [hv,hsv]
  rfl
end

end Go.Proofs.YtfcbhfjomgopbaaGreat
