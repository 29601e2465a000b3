/- spec.DrawCompileClause, DrawReadClause. -/
import Derived.Test.YtjbcdmheajljpaaGreatZRdA
import Derived.Test.YtjbcdmheajljpaaGreatZRd19
namespace Go.Proofs.YtjbcdmheajljpaaGreat
attribute [local irreducible] Run CondV aI bg
section
open Go Go.RowKit
theorem Vz {c:C} (h:aZ c=true) (p:wC c<=500):(dV c).length<=1100:=by
 obtain ⟨i,q⟩:=jE h;obtain ⟨r,U,V⟩:=eU h;have a:=h;rw [aZ] at a;simp only [bQ,fF,bK] at a;have v1:bY c.head=true:=a.2.2.1;have v2:∀ t∈c.body,bY t=true:=fun t g=>by
  have:=a.2.1 t g;rw [fa,bQ] at this;exact this.1
 have D:=jI v1;have G:nF c.body:=Fb fun t g=>jI (v2 t g);have c1:bR c.head<=120:=by rw [bY,bQ,bK] at v1;exact v1.2
 have c2:=wS v2;have J:c.body.length<=6:=a.1;have M:bR c.head=1+bo c.head.kids:=by cases c.head;rw [bR];rfl
 have N:bo c.body<=720:=by omega
 have o:(0:Int)+c.head.kids.length<=startC.next:=by show (0:Int)+c.head.kids.length<=4;omega
 obtain ⟨j,l,m⟩:=lP c.head.kids ji (fT _) o i.kids;have m:(bz startC 0 c.head.kids).1.next=4:=m;obtain ⟨Y,B,Z,a4⟩:=Eu c.head.kids ji (fT _) o (by decide) i.kids D.kids;obtain ⟨b1,b2,b3⟩:=OH (cQ (bz startC 0 c.head.kids).2) j.wf l B (by omega) (by omega);have O:=qr (cQ (bz startC 0 c.head.kids).2) j.wf l;obtain ⟨e1,e2,e3⟩:=GD c.body (s:=gq startC c.head.kids) O.wf q G r (by
  show (fC _ _ _).next+_<=_;omega)
 have d1:=wj c.head;have d2:=Ej c.body;rw [wC] at p;rw [gI,pC];rw [bt,bt,bt,lG];omega
theorem MJ {c:C} (h:aZ c=true):∀ y∈dV c,mOk y:=fun y g=>by
 have a:=(K7 h).1 y g;refine ⟨?_,(PS a).1⟩;have:=a.1;unfold inI;omega
theorem RH {N:Nat}:∀ {t:T},okU N t->t.name.size<=6
 | .mk ..,h=>by
  rw [okU] at h;exact h.2.2.2
section
variable {S:ai} {ys:List Nat} {v:Value}
theorem rK (h:RdSl S 1 lY v ys):nB ul [v] [] S fun v' I' S'=>I'=[]/\∃ cs c,v'=.agg cs.toArray/\RdC S' cs c/\wC c<=1300:=by
 intro w a;refine lJ.2 ?_;dsimp only[lJ,bd];refine aE a cI fun C w' a=>?_;refine Run.call0E xD ze a (FE h) fun v1 I' S1 w'=>?_;rintro ⟨rfl,br,sl,m,rfl,rfl,g⟩ _ a;have a:Inv w [] [ei C eu ad,rdI br sl 0] S1 w':=a;refine Run.callL vb u0 a (rg (p:=0) g (by omega)) rfl fun v2 I' S2 w'=>?_;rintro ⟨o,q,rfl,cs,c0,rfl,hc,r,_⟩ j a;have g:=g.monoU j.1;refine Run.callL GT HC a (Ef (p:=o) g hc (by omega) (by omega)) rfl fun v5 I' S3 w'=>?_;rintro ⟨D,t,rfl,ds,d,rfl,i,B⟩ l a;refine aj a 0 rfl aK (by simpa using i.length) rfl (by simpa using i.one) fun w' a=>?_;refine be a 0 aK rfl (by simpa using i.length) ?_;exact ⟨_,[],S3,rfl,a.nil,j.trans l,rfl,_,d,rfl,i,by omega⟩
theorem oW (h:RdSl S 1 lY v ys):nB rN [v] [] S fun v' I' S'=>I'=[]/\∃ cs c,v'=.agg cs.toArray/\RdC S' cs c/\wC c<=1300:=by
 intro w g;refine jT.2 ?_;dsimp only[jT,bd];refine aE g cI fun l w' g=>?_;refine Run.call0E rY sC g (rK h) fun v1 I' S1 w'=>?_;rintro ⟨rfl,ds,d,rfl,a,i⟩ j g;refine aj g 0 rfl aK (by simpa using a.length) rfl (by simpa using a.one) fun w' g=>?_;refine be g 0 aK rfl (by simpa using a.length) ?_;exact ⟨_,[],S1,rfl,g.nil,j,rfl,_,d,rfl,a,i⟩
theorem tt (h:RdSl S 1 lY v ys):nB wc [v] [] S fun r I' S'=>I'=[]/\∃ (u:Value) (nm:ByteArray) (n:Int) (g:List Ist),r=.tuple #[u,.string nm,ee n]/\RdSl S' 4 (cZ S') u g/\g.length<=1100/\(∀ y∈g,mOk y)/\nm.size<=6:=by
 intro w a;refine md.2 ?_;dsimp only[md,bd];refine Run.call0E xD ze a (FE h) fun v1 I' S1 w'=>?_;rintro ⟨rfl,br,sl,b2,rfl,rfl,B⟩ _ a;have a:Inv w [] [rdI br sl 0] S1 w':=a;refine Run.callL vb u0 a (rg (p:=0) B (by omega)) rfl fun v2 I' S2 w'=>?_;rintro ⟨M,b3,rfl,cs,c,rfl,hc,a2,J⟩ Z a;have B:=B.monoU Z.1;have b1:=Vz J a2;have a7:=MJ J;have a8:c.head.name.size<=6:=RH (jx J).1;have b0:=hc;obtain ⟨b7,ks,rfl,h1,h2⟩:=hc;obtain ⟨kv,rfl,g1,g2,g3,g4⟩:=RdT.iff.1 h1;obtain ⟨ak,mk,a4,_⟩:=id g4;obtain ⟨ab,mb,a5,_⟩:=id h2;have a:Inv w [] [rdI br sl M] S2 w':=a;refine aE a cI fun U w' a=>?_;refine aj a 1 rfl aK rfl rfl (by simp [Value.oneCell',a4,a5]) fun w' a=>?_;have a:Inv w [] [ei U #[ee c.head.kind,ee c.head.n,.string c.head.name,kv,ks] ad,rdI br sl M] S2 w':=a.last 0 rfl;refine ax cV ?_;refine ax az ?_;refine aG a 0 aw rfl rfl ?_;refine aO g4 ao ?_;refine ⟨fun z w'=>∃ (n:Int) (Y:Nat) (S3:ai),z=ee n/\Y<=M+2/\Ext w.heap.size [] S2 S3/\Inv w [] [ei U #[ee c.head.kind,ee c.head.n,.string c.head.name,kv,ks] ad,rdI br sl Y] S3 w',?_,?_⟩
 ·refine Run.callL bW bX a (dD (n:=10) (p:=M) B (by omega) (by omega)) rfl fun v' I' S2 w'=>?_;rintro ⟨rfl,rfl,k,hk,rfl⟩ _ a;have a:Inv w [] [ei U #[ee c.head.kind,ee c.head.n,.string c.head.name,kv,ks] ad,rdI br sl (M+1)] S2 w':=a;refine a9 ?_;refine aJ (fun _=>?_) (fun _=>?_)
  ·refine nq a (by kernel_rfl) rfl (by omega) fun v S3 w' C hv a=>?_;refine Run.callL er eo a (gG (p:=M+1) (B.monoU C.1) hv (by decide) (by omega)) rfl fun v' I' S3 w'=>?_;rintro ⟨rfl,rfl,m,hm,rfl⟩ _ a;exact ⟨m,M+2,S3,rfl,by omega,C,a⟩
  ·exact ⟨_,M+1,S2,rfl,by omega,Ext.refl _ _ _,a⟩
 clear a;intro z _ _ _ _ _ _ w';rintro ⟨n,Y,S3,rfl,b4,C,a⟩;refine ⟨fun D x4 x3 x2 wz lW BJ rP ja oO rj pr w_=>Fx D 0 [pr=rdP br,rj=.agg #[ee c.head.kind,ee c.head.n,.string c.head.name,kv,ks],True,True,rP=hV U,BJ=kh U 2,lW=.string c.head.name,wz=ee n,True,x3=.string c.head.name,x4=ee n]/\∃ SN j,Ext w.heap.size [] S3 SN/\(D 2=true->RdSl SN 4 (cZ SN) oO (dV c))/\(D 3=true->D 2=true/\∃ g:List Ist,RdSl SN 4 (cZ SN) ja g/\g.length<=1100/\∀ y∈g,mOk y)/\(D 8=true->D 3=true/\∃ g:List Ist,RdSl SN 4 (cZ SN) x2 g/\g.length<=1100/\∀ y∈g,mOk y)/\(D 3=false->j=Y)/\Inv w [] [ei U #[ee c.head.kind,ee c.head.n,.string c.head.name,kv,ks] ad,rdI br sl j] SN w_,⟨Fx.nil _ _,⟨S3,Y,Ext.refl _ _ _,aU,aU,aU,fun _=>rfl,a.draw⟩⟩,⟨?_,?_,?_,?_,?_,?_,?_,?_,?_,?_,?_,trivial⟩,?_⟩;all_goals (intro D N;intros;rename_i x4 x3 x2 wz lW BJ rP ja oO rj pr w_ a0;have i:=a0.1;obtain ⟨⟨cF,ci,cG,cD,bU,cH,cj,cR,dJ,dQ,cJ,_⟩,⟨SN,j,l,t,q,o,G,a⟩⟩:=a0)
 ·exact ⟨i.set 0 rfl,⟨SN,j,l,t,q,o,G,a⟩⟩
 ·refine aq a 0 aK rfl rfl ?_;exact ⟨i.set 1 rfl,⟨SN,j,l,t,q,o,G,a⟩⟩
 ·obtain rfl:=ci ‹_›;have f3:D 3=false:=bA.2 fun h=>by rw [(q h).1] at N;cases N
  have f8:D 8=false:=bA.2 fun h=>by rw [(o h).1] at f3;cases f3
  refine Run.call0E vd uM a (sv (b0.mono (C.trans l).1) J) fun v' I' SM w_=>?_;rintro ⟨rfl,a3⟩ hM a;have l:=l.trans hM;have q:aF D 2 3=true->aF D 2 2=true/\∃ g:List Ist,RdSl SM 4 (cZ SM) ja g/\g.length<=1100/\∀ y∈g,mOk y:=fun h=>by rw [(q h).1] at N;cases N
  have o:aF D 2 8=true->aF D 2 3=true/\∃ g:List Ist,RdSl SM 4 (cZ SM) x2 g/\g.length<=1100/\∀ y∈g,mOk y:=fun h=>by rw [show D 8=true from h] at f8;cases f8
  have t:aF D 2 2=true->RdSl SM 4 (cZ SM) v' (dV c):=fun _=>a3;obtain ⟨SN,V⟩:∃ SN,SN=SM:=⟨_,rfl⟩
  subst V;exact ⟨i.set 2 (by first|assumption|trivial),⟨SN,j,l,t,q,o,G,a⟩⟩
 ·obtain rfl:=cF ‹_›;have Vf:=cG ‹_›;have f8:D 8=false:=bA.2 fun h=>by rw [(o h).1] at N;cases N
  have b8:=G N;refine Run.callL Hm He (L:=[.blk U _,rdI br sl j]) a (FX (B.monoU (C.trans l).1) (t ‹D 2=true›) (by omega) a7 (by omega)) rfl fun v' I' SM w_=>?_;rintro ⟨p4,b5,rfl,g,hz,a1,O⟩ hM a;have l:=l.trans hM;have t:aF D 3 2=true->RdSl SM 4 (cZ SM) oO (dV c):=fun h=>(t h).monoK hM.1;have o:aF D 3 8=true->aF D 3 3=true/\∃ g:List Ist,RdSl SM 4 (cZ SM) x2 g/\g.length<=1100/\∀ y∈g,mOk y:=fun h=>by rw [show D 8=true from h] at f8;cases f8
  have q:aF D 3 3=true->aF D 3 2=true/\∃ g:List Ist,RdSl SM 4 (cZ SM) v' g/\g.length<=1100/\∀ y∈g,mOk y:=fun _=>⟨‹D 2=true›,g,hz,by omega,O⟩
  have G:aF D 3 3=false->p4=Y:=fun h=>by cases (show true=false from h)
  obtain ⟨SN,V⟩:∃ SN,SN=SM:=⟨_,rfl⟩
  subst V;obtain ⟨j,a6⟩:∃ j,j=p4:=⟨_,rfl⟩
  subst a6;exact ⟨i.set 3 (by first|assumption|trivial),⟨SN,j,l,t,q,o,G,a⟩⟩
 ·refine ax cV ?_;exact ⟨i.set 4 rfl,⟨SN,j,l,t,q,o,G,a⟩⟩
 ·obtain rfl:=bU ‹_›;refine ax bu ?_;exact ⟨i.set 5 rfl,⟨SN,j,l,t,q,o,G,a⟩⟩
 ·obtain rfl:=cH ‹_›;refine aG a 0 aV rfl rfl ?_;exact ⟨i.set 6 rfl,⟨SN,j,l,t,q,o,G,a⟩⟩
 ·exact ⟨i.set 7 rfl,⟨SN,j,l,t,q,o,G,a⟩⟩
 ·have OA:=cD ‹_›;have o:aF D 8 8=true->aF D 8 3=true/\∃ g:List Ist,RdSl SN 4 (cZ SN) ja g/\g.length<=1100/\∀ y∈g,mOk y:=fun _=>⟨‹D 3=true›,(q ‹D 3=true›).2⟩
  exact ⟨i.set 8 (by first|assumption|trivial),⟨SN,j,l,t,q,o,G,a⟩⟩
 ·obtain rfl:=cj ‹_›;exact ⟨i.set 9 rfl,⟨SN,j,l,t,q,o,G,a⟩⟩
 ·obtain rfl:=cR ‹_›;exact ⟨i.set 10 rfl,⟨SN,j,l,t,q,o,G,a⟩⟩
 obtain ⟨rfl,rfl,Vf,OA,rfl,rfl,rfl,rfl,z4,rfl,rfl,_⟩:=i.all;have H7:D 8=true:=by assumption
 clear i cF ci cG cD bU cH cj cR dJ dQ cJ;obtain ⟨_,g,hz,a1,O⟩:=o H7;exact ⟨_,_,SN,rfl,a.nil,(Z.trans C).trans l,rfl,_,_,_,g,rfl,hz,a1,O,a8⟩
end
end
section
open Go Go.RowKit
def kdS (w:World) (X:List Nat) (S:ai) (H:List Item) (b9:Nat) (nm:ByteArray) (kv:Value) (kcss:List (List Value)) (cs:List Value) (x y:Value) (w':World):Nat->Prop
 | 0=>Inv w X (H++[.blk b9 (.cells #[.int .i64 3,.int .i64 0,.string nm,kv] ac),aB kv ac 4 kcss]) S w'
 | 1=>∃ g,x=.slice (some ⟨g,0,none⟩) 1 1/\Inv w X (H++[.blk b9 (.cells #[.int .i64 3,.int .i64 0,.string nm,kv] ac),aB kv ac 4 kcss,.blk g (.cells cs.toArray ac)]) S w'
 | 2=>Inv w X (H++[.blk b9 (.cells #[.int .i64 3,.int .i64 0,.string nm,kv] ac),aB y ac 4 (kcss++[cs])]) S w'
 | _=>Inv w X (H++[.blk b9 (.cells #[.int .i64 3,.int .i64 0,.string nm,y] ac),aB y ac 4 (kcss++[cs])]) S w'
theorem kdS.any {w:World} {X:List Nat} {S:ai} {H:List Item} {g:Nat} {nm:ByteArray} {kv:Value} {a:List (nA)} {cs:nA} {x y:Value} {w':World}:∀ {n:Nat},kdS w X S H g nm kv a cs x y w' n->∃ R,Inv w X (H++R) S w'
 | 0,h=>⟨_,h⟩
 | 1,⟨_,_,h⟩=>⟨_,h⟩
 | 2,h=>⟨_,h⟩
 | _+3,h=>⟨_,h⟩
theorem kdS.kv {w:World} {X:List Nat} {S:ai} {H:List Item} {g:Nat} {nm:ByteArray} {kv:Value} {a:List (nA)} {cs:nA} {x y:Value} {w':World}:∀ {n:Nat},n<3->kdS w X S H g nm kv a cs x y w' n->∃ R,Inv w X (H++.blk g (.cells #[ee 3,ee 0,.string nm,kv] ac)::R) S w'
 | 0,_,h=>⟨_,h⟩
 | 1,_,⟨_,_,h⟩=>⟨_,h⟩
 | 2,_,h=>⟨_,h⟩
 | _+3,hn,_=>absurd hn (by omega)
theorem Th {N:Nat} {u:T} (h:dt u=true) (a:okU N u):wT u<=840:=by
 rw [dt,bQ,bK] at h;have:=Fy u a;omega
theorem I0 {N:Nat}:∀ {us:List T},us.all dt=true->cM N us->wL us<=us.length * 840
 | [],_,_=>by simp [wL]
 | u::us,h,ho=>by
  rw [RE,bQ] at h;rw [cM] at ho;have a:=Th h.1 ho.1;have g:=I0 h.2 ho.2;rw [wL,aP,ip];omega
theorem Iq {t:T} (h:bY t=true):wT t<=840:=by
 have a:=Fy t (AJ h);rw [bY,bQ,bK] at h;omega
theorem IG:∀ {ts:List T},(∀ t∈ts,bY t=true)->wL ts<=ts.length * 840
 | [],_=>by simp [wL]
 | t::ts,h=>by
  have g:=Iq (h t (bF ..));have i:=IG (ts:=ts) fun x a=>h x (bI _ a);rw [wL,aP,ip];omega
theorem Si {c:C} (h:aZ c=true):wC c<=6000:=by
 rw [aZ] at h;simp only [bQ,fF,bK] at h;have i:=Iq h.2.2.1;have j:=IG (ts:=c.body) fun t a=>by
  have:=h.2.1 t a;rw [fa,bQ] at this;exact this.1
 have g:=h.1;have l:c.body.length * 840<=6 * 840:=fK _ g;unfold wC;omega
section
variable {S:ai}
set_option maxHeartbeats 4000000 in
theorem nU {code:List Ist} {nm:ByteArray} {n:Int} {v:Value} (h:RdSl S 4 (cZ S) v code) (i6:∀ y∈code,inI y.a/\y.name.size<=6) (k8:nm.size<=6) :
  nB Fm [v,.string nm,ee n] [] S fun r I' S'=>I'=[]/\∃ cs,r=.tuple #[.agg cs.toArray,.bool (rdCI code nm n).isSome]/\RdC S' cs ((rdCI code nm n).getD QI):=by
 intro w p;have j6:=h.le;simp only [maxLen] at j6;refine qP.2 ?_;dsimp only[qP,eX];refine aE p cI fun b6 w' p=>?_;have p:Inv w [] [ei b6 eu ad] S w':=p;have b2:∀ (L:List Item) (S2:ai) (w2:World),rdCI code nm n=none->Ext w.heap.size [] S S2->Inv w [] (ei b6 eu ad::L) S2 w2->
   Run Tryz.prog (cr ad []) w2 fun t w'=>Run Tryz.prog (sOp (.store ad (.const (hV b6)) (.const t)) 0) w' fun _ w'=>bg Tryz.prog ad (hV b6) w' fun r0=>∃ v I' S',Ending.returned (.tuple #[r0,.bool false])=Ending.returned v/\Inv w [] I' S' w'/\Ext w.heap.size [] S S'/\(I'=[]/\∃ cs,v=.tuple #[.agg cs.toArray,.bool (rdCI code nm n).isSome]/\RdC S' cs ((rdCI code nm n).getD QI)):=fun L S2 w2 e hE p=>by
  refine H3 ?_;refine aj p 0 rfl aK rfl rfl (by simp [Value.oneCell']) fun w' p=>?_;refine be p 0 aK rfl rfl ?_;rw [e];exact ⟨_,_,S2,rfl,p.nil,hE,rfl,[ee 0,ee 0,.string ⟨#[]⟩,nx,nx],rfl,RdC.zero S2⟩
 refine ⟨fun z w'=>z=.bool (decide (¬ (0<=n/\n<=4) ∨ 2000<code.length))/\Inv w [] [ei b6 eu ad] S w',?_,?_⟩
 ·refine Run.callPure iE iR p (hO _ _ _ S) fun w' p=>?_;refine c8 ?_;by_cases h4:0<=n/\n<=4
  ·rw [aD h4.1,aD h4.2];refine rpG ?_;refine aO h bx ?_;refine fL ?_;refine rpG ?_;refine ⟨?_,p⟩;simp [h4];omega
  ·rw [<- Bool.decide_and,aM h4];refine rpG ?_;exact ⟨by simp [h4],p⟩
 intro z _ _ _ _ _ _ _ w';rintro ⟨rfl,p⟩;refine aJ (fun n5=>?_) (fun b1=>?_)
 ·exact b2 [] S _ (by rw [rdCI,ae (by omega)]) (Ext.refl _ _ _) p
 have h4:0<=n/\n<=4:=by omega
 obtain ⟨m,rfl⟩:∃ m:Nat,n=(m:Int):=⟨n.toNat,by omega⟩
 refine Run.call0 Hv GR p K6 fun v' I' S' w'=>?_;rintro ⟨eS,G,mb,rfl,rfl⟩ _ p;rw [eS] at p;refine pp p fun U w' p=>?_;refine pp p fun V w' p=>?_;refine P8 ?_;refine bH p fun rb w' p=>?_;refine tV ?_;refine aE p aQ fun b9 w' p=>?_;refine aj p 7 rfl af rfl rfl (by simp [Value.oneCell']) fun w' p=>?_;have p:=p.rowNil ac 4;have p:=p.perm (M:=[_]++([_,_,_]++[_,_,_])++[_,_]) (((bD (l₁:=[_,_,_]) (l₂:=[_,_,_])).append_left [_]).append_right [_,_]);have p:=p.perm (M:=[_]++([_]++[_,_])++[_,_,_,_,_]) (((bD (l₁:=[_]) (l₂:=[_,_])).append_left [_]).append_right [_,_,_,_,_]);have p:=p.perm (M:=[_,_,_,_,_,_]++[_]++[_,_]) ((bD (l₁:=[_,_,_,_,_,_]) (l₂:=[_])).append_right [_,_]);have p:Inv w [] ([ei rb #[hV G,.map (some U),.map (some V),ee ((0:Nat):Int)] av,.blk U (.map #[] 0),.blk V (.map #[] 0),ei G #[.map (some mb),nx] aX,.blk mb (.map #[] 0),cA (nx) [],ei b6 eu ad]++[ei b9 #[ee 3,ee 0,.string nm,nx] ac,aB (nx) ac 4 []]) S _:=p;refine ⟨fun i w'=>∃ (k:Nat) (C:List (nA)) (kv:Value) (b0:Array MapEntry) (b3:Nat),k<=m/\i=ee k/\SlT S b0 (dO k)/\Rows 4 (RdT S) C ((List.range k).map dx)/\Inv w [] ([ei rb #[hV G,.map (some U),.map (some V),ee (k:Int)] av,.blk U (.map b0 b3),.blk V (.map #[] 0),ei G #[.map (some mb),nx] aX,.blk mb (.map #[] 0),cA (nx) [],ei b6 eu ad]++[ei b9 #[ee 3,ee 0,.string nm,kv] ac,aB kv ac 4 C]) S w',fun i _=>m - (intOf i).toNat,
  ⟨0,[],_,#[],0,aT _,rfl,by rw [Gr];exact SlT.empty S,Rows.nil _ _,p⟩,?_⟩
 intro i _ n9 o0 o1 o2 o3 o4 o5 o6 o7 o8 p0 p1 p2 p3 p4 p5 p6 p7 _ _ _ w';rintro ⟨k,C,kv,b0,b3,p9,rfl,g4,g5,p⟩;have m5:=g5.hc;rw [ro,List.length_range] at m5;refine cd ?_;refine aJ (fun g9=>?_) (fun g9=>?_)
 ·skip
  refine ⟨fun D ny m8 kI mx nH yS uC w_=>Fx D 0 [uC=hV rb,yS=hV rb,nH=kh rb 1,mx=.map (some U),kI=ee (k:Int),m8=hV rb,True,True]/\∃ n_:Nat,n_<=2/\D 6=decide (1<=n_)/\D 7=decide (2<=n_)/\(nvS w [] S rb U (hV G) (.map (some V)) k b3 b0 (dO k) (k:Int) [.blk V (.map #[] 0),ei G #[.map (some mb),nx] aX,.blk mb (.map #[] 0),cA (nx) [],ei b6 eu ad,ei b9 #[ee 3,ee 0,.string nm,kv] ac,aB kv ac 4 C] w_ n_/\(D 6=true->ny=.agg #[ee 1,ee (k:Int),.string ⟨#[]⟩,nx])),⟨Fx.nil _ _,⟨0,aT _,rfl,rfl,⟨p.draw,aU⟩⟩⟩,⟨?_,?_,?_,?_,?_,?_,?_,?_,trivial⟩,?_⟩;all_goals (intro D bp;intros;rename_i ny m8 kI mx nH yS uC w_ a8;have B:=a8.1;obtain ⟨⟨cF,ci,cG,cD,bU,cH,cj,cR,_⟩,⟨n_,a1,J,O,hS⟩⟩:=a8)
  ·exact ⟨B.set 0 rfl,⟨n_,a1,J,O,hS⟩⟩
  ·obtain rfl:=cF ‹_›;refine bh ?_;exact ⟨B.set 1 rfl,⟨n_,a1,J,O,hS⟩⟩
  ·obtain rfl:=ci ‹_›;refine ax eM ?_;exact ⟨B.set 2 rfl,⟨n_,a1,J,O,hS⟩⟩
  ·obtain rfl:=cG ‹_›;obtain ⟨f5,r4,r5,p⟩:=hS.1.any;refine aG p 0 dp rfl rfl ?_;exact ⟨B.set 3 rfl,⟨n_,a1,J,O,hS⟩⟩
  ·exact ⟨B.set 4 rfl,⟨n_,a1,J,O,hS⟩⟩
  ·exact ⟨B.set 5 rfl,⟨n_,a1,J,O,hS⟩⟩
  ·obtain rfl:=cH ‹_›;obtain rfl:n_=0:=jv J bp;refine FF hS.1 (by omega) fun w_ p=>?_;have i2:nvS w [] S rb U (hV G) (.map (some V)) k b3 b0 (dO k) (k:Int) [.blk V (.map #[] 0),ei G #[.map (some mb),nx] aX,.blk mb (.map #[] 0),cA (nx) [],ei b6 eu ad,ei b9 #[ee 3,ee 0,.string nm,kv] ac,aB kv ac 4 C] w_ 1:=p;exact ⟨B.set 6 (by first|assumption|trivial),⟨1,by decide,rfl,(by first|exact O|rfl),⟨i2,fun _=>rfl⟩⟩⟩
  ·obtain rfl:=cD ‹_›;obtain rfl:=bU ‹_›;have vV:=cj ‹_›;obtain rfl:n_=1:=gg J ‹D 6=true› O bp;obtain rfl:=hS.2 ‹D 6=true›;have p:Inv w [] (ei rb #[hV G,.map (some U),.map (some V),ee ((k+1:Nat):Int)] av::.blk U (.map b0 b3)::[.blk V (.map #[] 0),ei G #[.map (some mb),nx] aX,.blk mb (.map #[] 0),cA (nx) [],ei b6 eu ad,ei b9 #[ee 3,ee 0,.string nm,kv] ac,aB kv ac 4 C]) S w_:=hS.1;refine mR (cs:=[ee 1,ee (k:Int),.string ⟨#[]⟩,nx]) p 1 cX dS rfl g4 (DP S k (by omega)) fun w_ l1 l2 l3 p=>?_;have i2:nvS w [] S rb U (hV G) (.map (some V)) k b3 b0 (dO k) (k:Int) [.blk V (.map #[] 0),ei G #[.map (some mb),nx] aX,.blk mb (.map #[] 0),cA (nx) [],ei b6 eu ad,ei b9 #[ee 3,ee 0,.string nm,kv] ac,aB kv ac 4 C] w_ 2:=⟨l1,l2,l3,p⟩
   exact ⟨B.set 7 trivial,⟨2,by decide,(by first|exact J|rfl),rfl,⟨i2,hS.2⟩⟩⟩
  obtain rfl:n_=2:=jD a1 O ‹D 7=true›;clear J O;obtain ⟨a5,a6,c4,p⟩:=hS.1;rw [A7] at c4;obtain ⟨vv,ok,h3,h5,l5,r6,h7⟩:=c4.look (k:Int);have m6:=h7 _ (show dO (k+1) (k:Int)=some (dx k) by rw [<- A7];exact fb ..);have p:Inv w [] ([ei rb #[hV G,.map (some U),.map (some V),ee ((k+1:Nat):Int)] av,.blk U (.map a5 a6),.blk V (.map #[] 0),ei G #[.map (some mb),nx] aX,.blk mb (.map #[] 0),cA (nx) [],ei b6 eu ad]++[ei b9 #[ee 3,ee 0,.string nm,kv] ac,aB kv ac 4 C]) S w_:=p;refine ⟨fun D pW qN wt rp lM rB pN pq oV nL ov w_=>Fx D 0 [ov=kh b9 3,nL=kv,oV=hV rb,pq=hV rb,pN=kh rb 1,rB=.map (some U),lM=ee (k:Int),rp=.agg vv.toArray,True,True,pW=kh b9 3,True]/\∃ n_:Nat,n_<=3/\D 8=decide (1<=n_)/\D 9=decide (2<=n_)/\D 11=decide (3<=n_)/\(D 11=true->D 1=true)/\(kdS w [] S [ei rb #[hV G,.map (some U),.map (some V),ee ((k+1:Nat):Int)] av,.blk U (.map a5 a6),.blk V (.map #[] 0),ei G #[.map (some mb),nx] aX,.blk mb (.map #[] 0),cA (nx) [],ei b6 eu ad] b9 nm kv C vv wt qN w_ n_),⟨Fx.nil _ _,⟨0,aT _,rfl,rfl,rfl,(aU),p.draw⟩⟩,⟨?_,?_,?_,?_,?_,?_,?_,?_,?_,?_,?_,?_,trivial⟩,?_⟩;all_goals (intro D bp;intros;rename_i pW qN wt rp lM rB pN pq oV nL ov w_ a8;have B:=a8.1;obtain ⟨⟨cF,ci,cG,cD,bU,cH,cj,cR,dJ,dQ,cJ,dv,_⟩,⟨n_,a1,J,O,a4,a9,hS⟩⟩:=a8)
  ·refine ax az ?_;exact ⟨B.set 0 rfl,⟨n_,a1,J,O,a4,a9,hS⟩⟩
  ·obtain rfl:=cF ‹_›;have j7:=MC a4 a9 bp;obtain ⟨R,p⟩:=hS.kv j7;refine aG p 7 aw rfl rfl ?_;exact ⟨B.set 1 (by first|assumption|trivial),⟨n_,a1,J,O,a4,(fun _=>rfl),hS⟩⟩
  ·exact ⟨B.set 2 rfl,⟨n_,a1,J,O,a4,a9,hS⟩⟩
  ·obtain rfl:=cG ‹_›;refine bh ?_;exact ⟨B.set 3 rfl,⟨n_,a1,J,O,a4,a9,hS⟩⟩
  ·obtain rfl:=cD ‹_›;refine ax eM ?_;exact ⟨B.set 4 rfl,⟨n_,a1,J,O,a4,a9,hS⟩⟩
  ·obtain rfl:=bU ‹_›;obtain ⟨R,p⟩:=hS.any;refine aG p 0 dp rfl rfl ?_;exact ⟨B.set 5 rfl,⟨n_,a1,J,O,a4,a9,hS⟩⟩
  ·exact ⟨B.set 6 rfl,⟨n_,a1,J,O,a4,a9,hS⟩⟩
  ·obtain rfl:=cH ‹_›;obtain rfl:=cj ‹_›;obtain ⟨R,p⟩:=hS.any;refine fA (c:=false) (ok:=ok) (v:=.agg vv.toArray) (p.its (.blk U (.map a5 a6)) (by simp)) cX dS aQ h3 ?_;exact ⟨B.set 7 rfl,⟨n_,a1,J,O,a4,a9,hS⟩⟩
  ·obtain rfl:=cR ‹_›;obtain rfl:n_=0:=jv J bp;refine eO hS bi (by simpa [Value.cells] using h5) (by omega) (by omega) fun g w_ p=>?_;have hS:kdS w [] S [ei rb #[hV G,.map (some U),.map (some V),ee ((k+1:Nat):Int)] av,.blk U (.map a5 a6),.blk V (.map #[] 0),ei G #[.map (some mb),nx] aX,.blk mb (.map #[] 0),cA (nx) [],ei b6 eu ad] b9 nm kv C vv (kt g 0 1 1) qN w_ 1:=⟨g,rfl,p⟩
   exact ⟨B.set 8 (by first|assumption|trivial),⟨1,by decide,rfl,(by first|exact O|rfl),(by first|exact a4|rfl),a9,hS⟩⟩
  ·have Z5:=ci ‹_›;have z4:=dJ ‹_›;obtain rfl:n_=1:=gg J ‹D 8=true› O bp;obtain ⟨g,rfl,p⟩:=hS;refine fl p 8 (k:=4) (o:=0) (m:=1) (n:=C.length) (xs:=C.flatten) vv bi (by omega) (by rw [Z5];rfl) (by rw [h5]) (fun j u hj=>by rw [p.cellL (i:=9) rfl,cS];simpa using hj) l5 (by omega) (by omega) fun v' w_ p=>?_;have e:Item.row v' ac 4 (C.length+1) (C.flatten++vv)=aB v' ac 4 (C++[vv]):=fO ..;have p:Inv w [] ([ei rb #[hV G,.map (some U),.map (some V),ee ((k+1:Nat):Int)] av,.blk U (.map a5 a6),.blk V (.map #[] 0),ei G #[.map (some mb),nx] aX,.blk mb (.map #[] 0),cA (nx) [],ei b6 eu ad]++[ei b9 #[ee 3,ee 0,.string nm,kv] ac,Item.row v' ac 4 (C.length+1) (C.flatten++vv)]) S w_:=p.pick [true,true,true,true,true,true,true,true,true,false];rw [e] at p;have hS:kdS w [] S [ei rb #[hV G,.map (some U),.map (some V),ee ((k+1:Nat):Int)] av,.blk U (.map a5 a6),.blk V (.map #[] 0),ei G #[.map (some mb),nx] aX,.blk mb (.map #[] 0),cA (nx) [],ei b6 eu ad] b9 nm kv C vv (kt g 0 1 1) v' w_ 2:=p;exact ⟨B.set 9 (by first|assumption|trivial),⟨2,by decide,(by first|exact J|rfl),rfl,(by first|exact a4|rfl),a9,hS⟩⟩
  ·refine ax az ?_;exact ⟨B.set 10 rfl,⟨n_,a1,J,O,a4,a9,hS⟩⟩
  ·obtain rfl:=cJ ‹_›;have Ds:=dQ ‹_›;obtain rfl:n_=2:=gg O ‹D 9=true› a4 bp;have p:Inv w [] ([ei rb #[hV G,.map (some U),.map (some V),ee ((k+1:Nat):Int)] av,.blk U (.map a5 a6),.blk V (.map #[] 0),ei G #[.map (some mb),nx] aX,.blk mb (.map #[] 0),cA (nx) [],ei b6 eu ad]++[ei b9 #[ee 3,ee 0,.string nm,kv] ac,aB qN ac 4 (C++[vv])]) S w_:=hS;have a7:=fP (p.its (aB qN ac 4 (C++[vv])) (by simp));refine eV p 7 (n:=1) (by rw [a7.1];rfl) (by decide +kernel) rfl (by simp) (by rw [a7.1];simpa using a7.2) fun w_ p=>?_;rw [a7.1] at p;have hS:kdS w [] S [ei rb #[hV G,.map (some U),.map (some V),ee ((k+1:Nat):Int)] av,.blk U (.map a5 a6),.blk V (.map #[] 0),ei G #[.map (some mb),nx] aX,.blk mb (.map #[] 0),cA (nx) [],ei b6 eu ad] b9 nm kv C vv wt qN w_ 3:=p;exact ⟨B.set 11 trivial,⟨3,by decide,(by first|exact J|rfl),(by first|exact O|rfl),rfl,(fun _=>‹D 1=true›),hS⟩⟩
  obtain rfl:n_=3:=jD a1 a4 ‹D 11=true›;clear J O a4;have p:Inv w [] ([ei rb #[hV G,.map (some U),.map (some V),ee ((k+1:Nat):Int)] av,.blk U (.map a5 a6),.blk V (.map #[] 0),ei G #[.map (some mb),nx] aX,.blk mb (.map #[] 0),cA (nx) [],ei b6 eu ad]++[ei b9 #[ee 3,ee 0,.string nm,qN] ac,aB qN ac 4 (C++[vv])]) S w_:=hS;refine bL (by omega) ?_;exact ⟨⟨k+1,_,qN,a5,a6,by omega,rfl,c4,by rw [DT];exact g5.snoc m6 h5,p⟩,by simp [intOf];omega⟩
 have m7:k=m:=by omega
 subst m7;have p:Inv w [] (([ei rb #[hV G,.map (some U),.map (some V),ee (k:Int)] av,.blk U (.map b0 b3),.blk V (.map #[] 0),ei G #[.map (some mb),nx] aX,.blk mb (.map #[] 0),cA (nx) []]++[ei b6 eu ad,ei b9 #[ee 3,ee 0,.string nm,kv] ac])++[aB kv ac 4 C]) S _:=p;obtain ⟨S1,e1,i9,p⟩:=p.lendExt;have c5:=RowRd.rows (g5.monoR fun _ _ h=>h.mono e1.1) i9;have p:=p.perm (M:=[_,_]++[_,_,_,_,_,_]) (bD (l₁:=[_,_]) (l₂:=[_,_,_,_,_,_]));have j8:RdM S1 (gh 4096 k) b0 #[] #[] []:=⟨g4.up e1.1,SlT.empty S1,PH S1 4096,by have:=Qc (List.replicate 4096 (none:Option T));rw [Bf] at this;show 0+unb (List.replicate 4096 none)<=1000000;omega⟩
 refine Run.callE wG wN p (PM (N:=4096) (by omega) (tT (N:=4096) (n:=k) (by omega)) (h.monoK e1.1) (by show k+code.length<=4096;omega) i6 j8) fun q I2 S2 w'=>?_;rintro hP i7 p;have a7:rdCI code nm (k:Int)=(readI code.length (gh 4096 k) code []).bind fun r=>finI code nm k r.1 r.2:=by rw [rdCI,ag ⟨by omega,by omega,by omega⟩,dH]
 have d4:=e1.trans i7;cases hr:readI code.length (gh 4096 k) code [] with
 | none=>
  rw [hr] at hP;obtain ⟨u,rfl⟩:=hP;refine aA rfl ?_;refine aA rfl ?_;refine ⟨fun z w'=>z=.bool true/\Inv w [] ([ei b6 eu ad,ei b9 #[ee 3,ee 0,.string nm,kv] ac]++I2) S2 w',?_,?_⟩
  ·refine c8 ?_;refine rpG ?_;exact ⟨rfl,p⟩
  intro z _ _ _ _ _ _ w';rintro ⟨rfl,p⟩;refine aL (fun _=>?_) (fun hb=>by cases hb);exact b2 _ S2 _ (by rw [a7,hr];rfl) d4 p
 | some d=>
  obtain ⟨s2,us⟩:=d;rw [hr] at hP a7;have a7:rdCI code nm (k:Int)=finI code nm k s2 us:=a7;obtain ⟨u,rfl,hu,l6⟩:=hP;refine aA rfl ?_;refine aA rfl ?_;refine ⟨fun z w'=>z=.bool (decide (6<us.length))/\Inv w [] ([ei b6 eu ad,ei b9 #[ee 3,ee 0,.string nm,kv] ac]++I2) S2 w',?_,?_⟩
  ·refine c8 ?_;refine rpG ?_;refine aO hu ao ?_;refine fL ?_;refine rpG ?_;exact ⟨by congr 1;exact cW.2 (by omega),p⟩
  intro z _ _ _ _ _ _ w';rintro ⟨rfl,p⟩;refine aJ (fun h6=>?_) (fun h6=>?_)
  ·exact b2 _ S2 _ (by rw [a7,finI,ae (fun h=>by omega)]) d4 p
  obtain ⟨e5,e8,f0,f6,a5,a6,d2,j0,rfl,c4⟩:=l6;have p:=p.perm (M:=[_,_,_,_,_]++([_]++[_,_])) ((bD (l₁:=[_]) (l₂:=[_,_])).append_left [_,_,_,_,_]);have p:Inv w [] ([ei b6 eu ad,ei b9 #[ee 3,ee 0,.string nm,kv] ac,ei rb #[hV G,.map (some U),.map (some V),ee (s2.fr:Int)] av,.blk U (.map e5 e8),.blk V (.map f0 f6),cA d2 j0,ei G #[.map (some mb),d2] aX]++[.blk mb (.map a5 a6)]) S2 _:=p;obtain ⟨S3,p,j1,l7⟩:=p.pub1;have p:Inv w [] ([ei b6 eu ad,ei b9 #[ee 3,ee 0,.string nm,kv] ac,ei rb #[hV G,.map (some U),.map (some V),ee (s2.fr:Int)] av,.blk U (.map e5 e8),.blk V (.map f0 f6),cA d2 j0]++[ei G #[.map (some mb),d2] aX]) S3 _:=p;obtain ⟨S4,p,h8,l8⟩:=p.pub1;have d6:Sle S2 S4:=j1.1.trans h8.1;have j9:StS S4 S4 G s2.st:=⟨mb,d2,a5,a6,_,l8,h8.1 _ _ l7,c4.st.up d6⟩
  have p:Inv w [] [ei b6 eu ad,ei b9 #[ee 3,ee 0,.string nm,kv] ac,ei rb #[hV G,.map (some U),.map (some V),ee (s2.fr:Int)] av] S4 _:=p.pick [true,true,true,false,false,false];have k0:RdT S4 [ee 3,ee 0,.string nm,kv] (eI nm k):=by
   obtain ⟨ka,kc,l9,_⟩:=id c5;have c5:=c5;rw [l9] at c5 ⊢;exact (wn c5 (by simp only [maxLen];omega)).mono (i7.1.trans d6)
  have m9:=hu.le;simp only [maxLen] at m9;refine aq p 1 af rfl rfl ?_;refine eO p bi (by simp [Value.cells]) (by omega) (by omega) fun b7 w' p=>?_;have p:=Inv.closeRow (A:=[_,_,_]) (cap:=1) (k:=4) (n:=1) p (by omega) (by simp [maxLen]) (by simp [Value.cells]);refine ge p 3 (css:=[[ee 3,ee 0,.string nm,kv]]) bi (by omega) rfl (hu.monoT d6) (fun _ _=>RdT.length) (fun _ _=>RdT.one) (by simp;omega) (by omega) fun tv w' n6 hR p=>?_;have hR:=(Rows.one k0 rfl).append hR;obtain ⟨S5,h9,j2,p⟩:=Inv.lendExt (A:=[_,_,_]) p;have i3:RdSl S5 4 (RdT S5) tv (eI nm k::us):=RowRd.rows (hR.monoR fun _ _ h=>h.mono h9.1) j2;have k1:=j9.up h9.1;obtain ⟨j3,i0⟩:=rX (N:=4096) code.length (tT (N:=4096) (n:=k) (by omega)) (by show k+code.length<=4096;omega) (fun y hy=>(i6 y hy).2) (fun t ht=>(by cases ht)) hr;have b1:=j3.good;obtain ⟨ts,eT⟩:∃ ts,ts=eI nm k::us:=⟨_,rfl⟩
  have g0:∀ t∈ts,okU 4096 t/\wB t:=fun t ht=>by
   rw [eT] at ht;rcases dK.1 ht with rfl|ht
   ·exact pm (by omega) k8 (by omega)
   ·exact i0 t ht
  have r8:ts.length=us.length+1:=by rw [eT];rfl
  have k2:cM 4096 ts:=ix fun t ht=>(g0 t ht).1;have d7:=pi b1 k2;obtain ⟨rs,eR⟩:∃ rs,rs=resV s2.st ts:=⟨_,rfl⟩
  have c2:finI code nm k s2 us=if us.length<=6/\rs.all dt=true/\aZ (ofL (nt rs))=true/\dV (ofL (nt rs))=code then some (ofL (nt rs)) else none:=by rw [eR,eT];rfl
  rw [<- eT] at i3;rw [<- eR] at d7;have n0:cM 4096 ts->cM 4096 rs/\rs.length=ts.length:=Dz b1 d7;obtain ⟨m0,r7⟩:=n0 k2;have k3:=((d4.trans j1).trans h8).trans h9;clear c5 g4 k0 j8 c4;refine aO i3 ao ?_;refine ⟨fun i a w'=>∃ (j:Nat) (css:List (nA)) (S6:ai),j<=ts.length/\i=ee j/\Ext w.heap.size [] S S6/\Sle S5 S6/\Rows 4 (RdT S6) css (rs.take j)/\(rs.take j).all dt=true/\Inv w [] ([ei b6 eu ad,ei b9 #[ee 3,ee 0,.string nm,kv] ac,ei rb #[hV G,.map (some U),.map (some V),ee (s2.fr:Int)] av]++[aB a ac 4 css]) S6 w',fun i _ _=>ts.length - (intOf i).toNat,⟨0,[],S5,aT _,rfl,k3,Sle.refl _,Rows.nil _ _,rfl,p.rowNil ac 4⟩,?_⟩;clear p;intro i _ lv _ _ _ _ _ _ _ _ q0 q1 q2 q3 q4 q6 q7 q8 q9 r1 r2 _ _ _ _ w';rintro ⟨j,css,S6,hj,rfl,g6,c7,hR,c1,p⟩;have n1:=hR.hc;rw [ig] at n1;refine cd ?_;refine aJ (fun g9=>?_) (fun g9=>?_)
  ·have e3:j<ts.length:=by omega
   have e4:j<rs.length:=by omega
   have n2:=UO d7 j e3 e4;have k4:=g0 _ (cO e3);refine dj p (i3.monoT c7) ao af e3 (fun _ _=>RdT.length) fun b5 d1=>?_;have g1:=d1.length;refine aE p aQ fun c3 w' p=>?_;refine aj p 4 rfl af (by simpa using g1) rfl (by simpa using d1.one) fun w' p=>?_;have p:Inv w [] [ei b6 eu ad,ei b9 #[ee 3,ee 0,.string nm,kv] ac,ei rb #[hV G,.map (some U),.map (some V),ee (s2.fr:Int)] av,aB lv ac 4 css,ei c3 b5.toArray ac] S6 w':=p;refine ⟨fun D lS p8 Fo DH Ly DK Eh GH DL G1 NY w_=>Fx D 0 [NY=hV rb,G1=hV rb,DL=hV rb,GH=hV G,Eh=.agg b5.toArray,True,True,True,Fo=.bool (dt rs[j]),True,True,lS=.bool (dt rs[j])]/\∃ SN cm Z,Ext w.heap.size [] S6 SN/\(D 5=true->DK=.tuple #[.agg cm.toArray,.bool (dt rs[j])]/\cm.length=4/\(∀ x∈cm,x.oneCell'=true)/\(dt rs[j]=true->RdT SN cm rs[j]))/\(D 6=true->D 5=true/\Ly=.tuple #[.agg cm.toArray,.bool (dt rs[j])])/\(D 7=true->D 5=true/\DH=.agg cm.toArray)/\(D 9=true->p8=hV Z)/\(D 10=true->D 9=true/\D 7=true)/\Inv w [] ([ei b6 eu ad,ei b9 #[ee 3,ee 0,.string nm,kv] ac,ei rb #[hV G,.map (some U),.map (some V),ee (s2.fr:Int)] av,aB lv ac 4 css,ei c3 b5.toArray ac]++cond (D 9) [ei Z (cond (D 10) cm.toArray et) ac] []) SN w_,⟨Fx.nil _ _,⟨S6,[],0,Ext.refl _ _ _,aU,aU,aU,aU,aU,p.draw⟩⟩,⟨?_,?_,?_,?_,?_,?_,?_,?_,?_,?_,?_,?_,trivial⟩,?_⟩;all_goals (intro D bp;intros;rename_i lS p8 Fo DH Ly DK Eh GH DL G1 NY w_ a8;have B:=a8.1;obtain ⟨⟨cF,ci,cG,cD,bU,cH,cj,cR,dJ,dQ,cJ,dv,_⟩,⟨SN,cm,Z,hN,k5,k6,k7,k9,a2,p⟩⟩:=a8)
   ·exact ⟨B.set 0 rfl,⟨SN,cm,Z,hN,k5,k6,k7,k9,a2,p⟩⟩
   ·obtain rfl:=cF ‹_›;refine bh ?_;exact ⟨B.set 1 rfl,⟨SN,cm,Z,hN,k5,k6,k7,k9,a2,p⟩⟩
   ·obtain rfl:=ci ‹_›;refine ax kZ ?_;exact ⟨B.set 2 rfl,⟨SN,cm,Z,hN,k5,k6,k7,k9,a2,p⟩⟩
   ·obtain rfl:=cG ‹_›;refine aG p 2 jB rfl rfl ?_;exact ⟨B.set 3 rfl,⟨SN,cm,Z,hN,k5,k6,k7,k9,a2,p⟩⟩
   ·refine aq p 4 af rfl (by simpa using g1) ?_;exact ⟨B.set 4 rfl,⟨SN,cm,Z,hN,k5,k6,k7,k9,a2,p⟩⟩
   ·obtain rfl:=cD ‹_›;obtain rfl:=bU ‹_›;have c6:D 10=false:=bA.2 fun h=>by rw [(k7 (a2 h).2).1] at bp;cases bp
    refine Run.call0E vW vx p (GJ b1 n2 k4 (d1.mono hN.1) (k1.up (c7.trans hN.1))) fun v' I' SM w_=>?_;rintro ⟨rfl,cn,b4,c9,rfl,g8⟩ hM p;have hN:=hN.trans hM;have k5:=fun (_:aF D 5 5=true)=>(⟨rfl,b4,c9,g8⟩:Value.tuple #[.agg cn.toArray,.bool (dt rs[j])]=.tuple #[.agg cn.toArray,.bool (dt rs[j])]/\cn.length=4/\(∀ x∈cn,x.oneCell'=true)/\(dt rs[j]=true->RdT SM cn rs[j]))
    have k6:aF D 5 6=true->aF D 5 5=true/\Ly=.tuple #[.agg cn.toArray,.bool (dt rs[j])]:=fun h=>by rw [(k6 h).1] at bp;cases bp
    have k7:aF D 5 7=true->aF D 5 5=true/\DH=.agg cn.toArray:=fun h=>by rw [(k7 h).1] at bp;cases bp
    rw [c6,dk] at p;have p:Inv w [] ([ei b6 eu ad,ei b9 #[ee 3,ee 0,.string nm,kv] ac,ei rb #[hV G,.map (some U),.map (some V),ee (s2.fr:Int)] av,aB lv ac 4 css,ei c3 b5.toArray ac]++cond (D 9) [ei Z (cond (D 10) cn.toArray et) ac] []) SM w_:=by rw [c6];exact p
    obtain ⟨SN,m1⟩:∃ SN,SN=SM:=⟨_,rfl⟩
    subst m1;obtain ⟨cm,m2⟩:∃ cm,cm=cn:=⟨_,rfl⟩
    subst m2;exact ⟨B.set 5 (by first|assumption|trivial),⟨SN,cm,Z,hN,k5,k6,k7,k9,a2,p⟩⟩
   ·have zM:=cH ‹_›;have k6:=fun (_:aF D 6 6=true)=>(⟨‹D 5=true›,(k5 ‹D 5=true›).1⟩:D 5=true/\DK=.tuple #[.agg cm.toArray,.bool (dt rs[j])])
    exact ⟨B.set 6 (by first|assumption|trivial),⟨SN,cm,Z,hN,k5,k6,k7,k9,a2,p⟩⟩
   ·have vV:=cj ‹_›;have e6:=(k6 ‹D 6=true›).2;have q5:=(k6 ‹D 6=true›).1;rw [e6];refine aA (v:=.agg cm.toArray) rfl ?_;rw [<- e6];have k7:=fun (_:aF D 7 7=true)=>(⟨q5,rfl⟩:D 5=true/\Value.agg cm.toArray=.agg cm.toArray)
    have a2:aF D 7 10=true->aF D 7 9=true/\aF D 7 7=true:=fun h=>⟨(a2 h).1,rfl⟩
    exact ⟨B.set 7 (by first|assumption|trivial),⟨SN,cm,Z,hN,k5,k6,k7,k9,a2,p⟩⟩
   ·have vV:=cj ‹_›;have e6:=(k6 ‹D 6=true›).2;rw [e6];refine aA (v:=.bool (dt rs[j])) rfl ?_;rw [<- e6];exact ⟨B.set 8 rfl,⟨SN,cm,Z,hN,k5,k6,k7,k9,a2,p⟩⟩
   ·have c6:D 10=false:=bA.2 fun h=>by rw [(a2 h).1] at bp;cases bp
    rw [bp] at p;refine aE p aQ fun Z w_ p=>?_;have k9:=fun (_:aF D 9 9=true)=>(rfl:Value.pointer (some ⟨Z,0,none⟩)=_)
    have a2:aF D 9 10=true->aF D 9 9=true/\aF D 9 7=true:=fun h=>by rw [show D 10=true from h] at c6;cases c6
    have p:Inv w [] ([ei b6 eu ad,ei b9 #[ee 3,ee 0,.string nm,kv] ac,ei rb #[hV G,.map (some U),.map (some V),ee (s2.fr:Int)] av,aB lv ac 4 css,ei c3 b5.toArray ac]++[ei Z (cond (D 10) cm.toArray et) ac]) SN w_:=by rw [c6];exact p
    exact ⟨B.set 9 (by first|assumption|trivial),⟨SN,cm,Z,hN,k5,k6,k7,k9,a2,p⟩⟩
   ·have Ds:=dQ ‹_›;have Ch:=cR ‹_›;have e9:=k9 ‹D 9=true›;have e7:=(k7 ‹D 7=true›).2;obtain ⟨_,b4,c9,_⟩:=k5 (k7 ‹D 7=true›).1;rw [e9,e7];rw [‹D 9=true›,bp] at p;refine aj p 5 rfl af (by simpa using b4) rfl (by simpa using c9) fun w_ p=>?_;rw [<- e9,<- e7];have a2:=fun (_:aF D 10 10=true)=>(⟨‹D 9=true›,‹D 7=true›⟩:D 9=true/\D 7=true)
    have p:Inv w [] ([ei b6 eu ad,ei b9 #[ee 3,ee 0,.string nm,kv] ac,ei rb #[hV G,.map (some U),.map (some V),ee (s2.fr:Int)] av,aB lv ac 4 css,ei c3 b5.toArray ac]++cond (D 9) [ei Z cm.toArray ac] []) SN w_:=by rw [‹D 9=true›];exact p
    exact ⟨B.set 10 trivial,⟨SN,cm,Z,hN,k5,k6,k7,k9,a2,p⟩⟩
   ·obtain rfl:=dJ ‹_›;exact ⟨B.set 11 rfl,⟨SN,cm,Z,hN,k5,k6,k7,k9,a2,p⟩⟩
   obtain ⟨rfl,rfl,rfl,rfl,rfl,zM,vV,Ch,rfl,Ds,_,rfl,_⟩:=B.all;have UE:D 5=true:=by assumption
   have Jw:D 9=true:=by assumption
   have C3:D 10=true:=by assumption
   clear B cF ci cG cD bU cH cj cR dJ dQ cJ dv;obtain ⟨_,b4,c9,g8⟩:=k5 UE;have e9:=k9 Jw;subst e9;rw [Jw,C3] at p;have p:Inv w [] ([ei b6 eu ad,ei b9 #[ee 3,ee 0,.string nm,kv] ac,ei rb #[hV G,.map (some U),.map (some V),ee (s2.fr:Int)] av,aB lv ac 4 css,ei c3 b5.toArray ac]++[ei Z cm.toArray ac]) SN w_:=p;refine c8 ?_;cases i5:dt rs[j] with
   | false=>
    refine aL (fun _=>?_) (fun h=>by cases h);refine b2 _ SN _ ?_ (g6.trans hN) p;rw [a7,c2,ae];rintro ⟨_,h,_⟩;have:=fF.1 h _ (cO e4);rw [i5] at this;cases this
   | true=>
    refine aL (fun h=>by cases h) (fun _=>?_);refine aq p 5 af rfl (by simpa using b4) ?_;refine dB p 3 cm bi (by omega) (by omega) rfl b4 c9 (by omega) (by omega) fun v' w' p=>?_;refine bL (by omega) ?_;have p:Inv w [] ([ei b6 eu ad,ei b9 #[ee 3,ee 0,.string nm,kv] ac,ei rb #[hV G,.map (some U),.map (some V),ee (s2.fr:Int)] av]++[aB v' ac 4 (css++[cm])]) SN w':=p.pick [true,true,true,true,false,false];refine ⟨⟨j+1,css++[cm],SN,e3,rfl,g6.trans hN,c7.trans hN.1,?_,?_,p⟩,by simp only [intOf,dH];omega⟩
    ·rw [gt e4];exact (hR.monoR fun _ _=>RdT.mono hN.1).snoc (g8 i5) b4
    ·rw [gt e4,List.all_append,c1];simp [i5]
  have n3:j=rs.length:=by omega
  rw [n3,g7] at hR c1;have r9:=I0 c1 m0;have s0:rs.length * 840<=7 * 840:=fK _ (by omega);obtain ⟨S7,j4,f8,p⟩:=Inv.lendExt (A:=[_,_,_]) p;have g2:RdSl S7 4 (RdT S7) lv rs:=RowRd.rows (hR.monoR fun _ _ h=>h.mono j4.1) f8;refine Run.call0 rD re p (o9 g2 (by omega)) fun l4 I' S' w'=>?_;rintro ⟨rfl,M,rfl,hT⟩ _ p;obtain ⟨S8,p,m3,d3⟩:=p.pubExt;have g3:=(g6.trans j4).trans m3;have hq:RdSl S8 4 (RdT S8) l4 (nt rs):=hT.rd d3 fun _ _ _ hi h=>h.rd hi;obtain ⟨Y,tl,i1⟩:∃ Y tl,nt rs=Y::tl:=by
   have hl:(nt rs).length=rs.length:=pG _ rs;cases h:nt rs with
   | nil=>rw [h] at hl;simp at hl;omega
   | cons a b=>exact ⟨a,b,rfl⟩
  rw [i1] at hq;obtain ⟨c,eC⟩:∃ c,c=ofL (nt rs):=⟨_,rfl⟩
  have n4:c=⟨Y,tl⟩:=by rw [eC,i1];rfl
  rw [<- eC] at c2;clear eC i1 hT hR f8 g2;obtain ⟨b,o,cap,cc,E,fz,rfl,hS,e2⟩:=hq.at_ (i:=0) (by simp);rw [pQ] at e2;obtain ⟨a3,ec,f1,f2,f3,f4⟩:=RdT.iff.1 e2;rw [ec] at e2;obtain ⟨ka,kn,kc,m4⟩:∃ a n m,a3=.slice a n m:=by
   obtain ⟨a,m,e,_⟩:=f4;exact ⟨_,_,_,e⟩
  refine ⟨fun D oX VP SK Ut Ue Vm Uh w_=>Fx D 0 [Uh=kt b o (tl.length+1) cap,Vm=kh b (o+0 * 4),Ue=.agg (ku Y a3),Ut=kt b o (tl.length+1) cap,RdSl S8 4 (RdT S8) SK tl,∃ kb,VP=.agg #[ee Y.kind,ee Y.n,.string Y.name,a3,kb]/\RdSl S8 4 (RdT S8) kb tl,True,True]/\∃ a0 kb,(D 6=true->oX=hV a0)/\(D 7=true->D 6=true/\RdSl S8 4 (RdT S8) kb tl)/\Inv w [] ([ei b6 eu ad,ei b9 #[ee 3,ee 0,.string nm,kv] ac,ei rb #[hV G,.map (some U),.map (some V),ee (s2.fr:Int)] av]++cond (D 6) [ei a0 (cond (D 7) #[ee Y.kind,ee Y.n,.string Y.name,a3,kb] eu) ad] []) S8 w_,⟨Fx.nil _ _,⟨0,nx,aU,aU,p.draw⟩⟩,⟨?_,?_,?_,?_,?_,?_,?_,?_,trivial⟩,?_⟩;all_goals (intro D bp;intros;rename_i oX VP SK Ut Ue Vm Uh w_ a8;have B:=a8.1;obtain ⟨⟨cF,ci,cG,cD,bU,cH,cj,cR,_⟩,⟨a0,kb,k6,k7,p⟩⟩:=a8)
  ·exact ⟨B.set 0 rfl,⟨a0,kb,k6,k7,p⟩⟩
  ·obtain rfl:=cF ‹_›;refine aN (i:=0) ao (by simp) ?_;exact ⟨B.set 1 rfl,⟨a0,kb,k6,k7,p⟩⟩
  ·obtain rfl:=ci ‹_›;refine eE (cs:=(kB Y a3)) af rfl (fun j v hj=>by rw [p.cellS hS];exact bf ec j v hj) ?_;exact ⟨B.set 2 rfl,⟨a0,kb,k6,k7,p⟩⟩
  ·exact ⟨B.set 3 rfl,⟨a0,kb,k6,k7,p⟩⟩
  ·obtain rfl:=cD ‹_›;refine tB (l:=1) ao hq (by simp) fun r3 b8=>?_;rw [Vp,fe] at b8;exact ⟨B.set 4 (by first|assumption|trivial),⟨a0,kb,k6,k7,p⟩⟩
  ·obtain rfl:=cG ‹_›;have Dr:=bU ‹_›;refine lg ?_ ?_
   ·obtain ⟨a,m,e,_⟩:=Dr;exact ⟨_,_,_,e⟩
   have n8:∃ kb,Value.agg #[ee Y.kind,ee Y.n,.string Y.name,a3,SK]=.agg #[ee Y.kind,ee Y.n,.string Y.name,a3,kb]/\RdSl S8 4 (RdT S8) kb tl:=⟨_,rfl,Dr⟩
   exact ⟨B.set 5 (by first|assumption|trivial),⟨a0,kb,k6,k7,p⟩⟩
  ·have f7:D 7=false:=bA.2 fun h=>by rw [(k7 h).1] at bp;cases bp
   rw [bp] at p;refine aE p cI fun a0 w_ p=>?_;have k6:=fun (_:aF D 6 6=true)=>(rfl:Value.pointer (some ⟨a0,0,none⟩)=_)
   have k7:aF D 6 7=true->aF D 6 6=true/\RdSl S8 4 (RdT S8) kb tl:=fun h=>by rw [show D 7=true from h] at f7;cases f7
   have p:Inv w [] ([ei b6 eu ad,ei b9 #[ee 3,ee 0,.string nm,kv] ac,ei rb #[hV G,.map (some U),.map (some V),ee (s2.fr:Int)] av]++[ei a0 (cond (D 7) #[ee Y.kind,ee Y.n,.string Y.name,a3,kb] eu) ad]) S8 w_:=by rw [f7];exact p
   exact ⟨B.set 6 (by first|assumption|trivial),⟨a0,kb,k6,k7,p⟩⟩
  ·have vV:=cj ‹_›;have zM:=cH ‹_›;obtain ⟨kb,rfl,b8⟩:=zM;obtain ⟨a,m,e,_⟩:=id b8;subst e;have e6:=k6 ‹D 6=true›;rw [e6];rw [‹D 6=true›,bp] at p;refine aj p 3 rfl aK rfl rfl (by simp [Value.oneCell',m4]) fun w_ p=>?_;rw [<- e6];obtain ⟨kb,f9⟩:∃ kb,kb=Value.slice a tl.length m:=⟨_,rfl⟩
   rw [<- f9] at b8;have k7:=fun (_:aF D 7 7=true)=>(⟨‹D 6=true›,b8⟩:D 6=true/\RdSl S8 4 (RdT S8) kb tl)
   have p:Inv w [] ([ei b6 eu ad,ei b9 #[ee 3,ee 0,.string nm,kv] ac,ei rb #[hV G,.map (some U),.map (some V),ee (s2.fr:Int)] av]++cond (D 6) [ei a0 #[ee Y.kind,ee Y.n,.string Y.name,a3,kb] ad] []) S8 w_:=by rw [‹D 6=true›,f9];exact p
   exact ⟨B.set 7 trivial,⟨a0,kb,k6,k7,p⟩⟩
  obtain ⟨rfl,rfl,rfl,rfl,Dr,zM,vV,_,_⟩:=B.all;have F5:D 6=true:=by assumption
  have nI:D 7=true:=by assumption
  clear B cF ci cG cD bU cH cj cR;obtain ⟨_,b8⟩:=k7 nI;have e6:=k6 F5;subst e6;rw [F5,nI] at p;have p:Inv w [] ([ei b6 eu ad,ei b9 #[ee 3,ee 0,.string nm,kv] ac,ei rb #[hV G,.map (some U),.map (some V),ee (s2.fr:Int)] av]++[ei a0 #[ee Y.kind,ee Y.n,.string Y.name,a3,kb] ad]) S8 w_:=p;have i4:RdC S8 [ee Y.kind,ee Y.n,.string Y.name,a3,kb] c:=by rw [n4];exact ⟨_,_,rfl,e2,b8⟩
  refine ⟨fun z w'=>z=.bool (!(aZ c && decide (dV c=code)))/\∃ S9,Ext w.heap.size [] S8 S9/\Inv w [] ([ei b6 eu ad,ei b9 #[ee 3,ee 0,.string nm,kv] ac,ei rb #[hV G,.map (some U),.map (some V),ee (s2.fr:Int)] av]++[ei a0 #[ee Y.kind,ee Y.n,.string Y.name,a3,kb] ad]) S9 w',?_,?_⟩
  ·refine aq (c:=[ee Y.kind,ee Y.n,.string Y.name,a3,kb].toArray) p 3 aK rfl rfl ?_;refine Run.callPure kL kW p (jC i4) fun w' p=>?_;refine c8 ?_;cases hv:aZ c
   ·refine rpG ?_;exact ⟨rfl,S8,Ext.refl _ _ _,p⟩
   ·refine rpG ?_;refine aq (c:=[ee Y.kind,ee Y.n,.string Y.name,a3,kb].toArray) p 3 aK rfl rfl ?_;refine Run.call0E mT mI p (mg i4 hv) fun n7 I' S9 w'=>?_;rintro ⟨rfl,l0⟩ d0 p;refine Run.callPure AL A6 p (Lo l0 (h.monoK (g3.trans d0).1)) fun w' p=>?_;refine c8 ?_;refine rpG ?_;exact ⟨rfl,S9,d0,p⟩
  clear p;intro z _ _ _ _ _ _ _ _ _ w';rintro ⟨rfl,S9,d0,p⟩;have hE:=g3.trans d0;by_cases hg:aZ c=true/\dV c=code
  ·have d9:rdCI code nm k=some c:=by rw [a7,c2,ag ⟨by omega,c1,hg.1,hg.2⟩]
   have e:(!(aZ c && decide (dV c=code)))=false:=by rw [hg.1,aD hg.2];rfl
   rw [e,d9];refine aL (fun h=>by cases h) fun _=>?_;refine aq (c:=[ee Y.kind,ee Y.n,.string Y.name,a3,kb].toArray) p 3 aK rfl rfl ?_;refine Run.call0 tz rW p (rv (i4.mono d0.1) (by have:=Si hg.1;omega)) fun v I' S10 w'=>?_;rintro ⟨rfl,i8,L,rfl,rfl,e0⟩ _ p;refine aj p 0 rfl aK (by simpa using e0.length) rfl (by simpa using e0.one) fun w' p=>?_;refine be p 0 aK rfl (by simpa using e0.length) ?_;have p:Inv w [] ([ei b6 i8.toArray ad,ei b9 #[ee 3,ee 0,.string nm,kv] ac,ei rb #[hV G,.map (some U),.map (some V),ee (s2.fr:Int)] av,ei a0 #[ee Y.kind,ee Y.n,.string Y.name,a3,kb] ad]++bO L) _ w':=p;obtain ⟨S11,p,j5,d3⟩:=p.pubExt;exact ⟨_,_,S11,rfl,p.nil,hE.trans j5,rfl,i8,rfl,e0.rd d3⟩
  ·have d9:rdCI code nm k=none:=by rw [a7,c2,ae fun h=>hg ⟨h.2.2.1,h.2.2.2⟩]
   have e:(!(aZ c && decide (dV c=code)))=true:=by
    rw [ry,SH,nu];by_cases h1:aZ c=true
    ·exact .inr fun h2=>hg ⟨h1,h2⟩
    ·exact .inl (by simpa using h1)
   rw [e];refine aL (fun _=>?_) fun h=>by cases h
   exact b2 _ S9 _ d9 hE p
end
end
section
open Go Go.RowKit
section
variable {S:ai} {ys zs0:List Nat} {v u:Value}
set_option maxHeartbeats 4000000 in
theorem Jm (h:RdSl S 1 lY v ys) (g:RdSl S 1 lY u zs0):ru eA [v,u] S (.bool true):=by
 intro w a;refine og.2 ?_;dsimp only[og,bv];refine ⟨fun z w'=>(∃ b,z=.bool b)/\Inv w [] [] S w',?_,?_⟩
 ·refine aO h fD ?_;refine fL ?_;cases decide ((ys.length:Int) > 1048576) with
  | true=>
   refine rpG ?_;exact ⟨⟨_,rfl⟩,a⟩
  | false=>
   refine rpG ?_;refine aO g fD ?_;refine fL ?_;refine rpG ?_;exact ⟨⟨_,rfl⟩,a⟩
 clear a;intro z _ _ _ _ _ _ _ w';rintro ⟨⟨b0,rfl⟩,a⟩;refine aL (fun _=>done a rfl) (fun _=>?_);refine Run.call0E qy qu a (oW h) fun v1 I' S1 w'=>?_;rintro ⟨rfl,cs,c,rfl,hc,c5⟩ b2 a;have a:Inv w [] [] S1 w':=a;have Z:=hc.length;refine aE a cI fun b3 w' a=>?_;refine aj a 0 rfl aK (by simpa using Z) rfl (by simpa using hc.one) fun w' a=>?_;refine aq a 0 aK rfl (by simpa using Z) ?_;have a:Inv w [] [ei b3 cs.toArray ad] S1 w':=a;refine Run.call0E mL m7 a (lC hc) fun v3 I' S2 w'=>?_;rintro ⟨rfl,u1,rfl,i⟩ a1 a;have a:Inv w [] [ei b3 cs.toArray ad] S2 w':=a;have hc:=hc.mono a1.1;refine aA (v:=u1) rfl ?_;refine aA (v:=.bool (aZ c)) rfl ?_;refine aq a 0 aK rfl (by simpa using Z) ?_;refine Run.call0E nl mO a (lA hc (by omega)) fun v3 I' S3 w'=>?_;rintro ⟨rfl,u2,rfl,q⟩ O a;have a:Inv w [] [ei b3 cs.toArray ad] S3 w':=a;have hc:=hc.mono O.1;have i:=i.monoK O.1;have M:Sle S S3:=b2.1.trans (a1.1.trans O.1);refine aA (v:=u2) rfl ?_;refine aA (v:=.bool (aZ c)) rfl ?_;have g:=g.monoU M;refine Run.call0E ui ug a (tt g) fun v3 I' S4 w'=>?_;rintro ⟨rfl,xv,nm,n,xs,rfl,m,b4,a2,U⟩ C a;have a:Inv w [] [ei b3 cs.toArray ad] S4 w':=a;have hc:=hc.mono C.1;have i:=i.monoK C.1;have q:=q.monoK C.1;have a7:∀ y∈xs,y.name.size<=6:=fun y hy=>(a2 y hy).2;have c1:=YS U a7 (n:=n);refine aA (v:=xv) rfl ?_;refine aA (v:=.string nm) rfl ?_;refine aA (v:=ee n) rfl ?_;refine Run.call0E qS qZ a (nU m a2 U) fun v3 I' S5 w'=>?_;rintro ⟨rfl,ds,rfl,j⟩ a3 a;have a:Inv w [] [ei b3 cs.toArray ad] S5 w':=a;have a0:=j.length;have m:=m.monoK a3.1;refine aA (v:=.agg ds.toArray) rfl ?_;refine aA (v:=.bool (rdCI xs nm n).isSome) rfl ?_;refine aE a cI fun t w' a=>?_;refine aj a 1 rfl aK (by simpa using a0) rfl (by simpa using j.one) fun w' a=>?_;have a:Inv w [] [ei b3 cs.toArray ad,ei t ds.toArray ad] S5 w':=a;refine Run.call0E Dw Dn a (yC m b4 a7 U) fun v3 I' S6 w'=>?_;rw [c1];rintro ⟨rfl,B,rfl,V⟩ Y a;have a:Inv w [] [ei b3 cs.toArray ad,ei t ds.toArray ad] S6 w':=a;have a8:=V.length;have j:=j.mono Y.1;have m:=m.monoK Y.1;have l:=a3.1.trans Y.1;have hc:=hc.mono l;have i:=i.monoK l;have q:=q.monoK l;have N:Sle S S6:=M.trans (C.1.trans l);refine aA (v:=.agg B.toArray) rfl ?_;refine aA (v:=.bool (rdCI xs nm n).isSome) rfl ?_;refine aE a cI fun D w' a=>?_;refine aj a 2 rfl aK (by simpa using a8) rfl (by simpa using V.one) fun w' a=>?_;have a:Inv w [] [ei b3 cs.toArray ad,ei t ds.toArray ad,ei D B.toArray ad] S6 w':=a;refine ⟨fun z w'=>z=.bool false/\Inv w [] [ei b3 cs.toArray ad,ei t ds.toArray ad,ei D B.toArray ad] S6 w',?_,?_⟩
 ·refine Pa DO ?_;rw [beq_self_eq_true];refine rpG ?_;refine Run.callPure Bk Bi a (xz i q) fun w' a=>?_;refine c8 ?_;refine rpG ?_;refine Pa DO ?_;rw [beq_self_eq_true];refine rpG ?_;refine aq a 1 aK rfl (by simpa using a0) ?_;refine aq a 2 aK rfl (by simpa using a8) ?_;refine Run.callPure rt qQ a (qT j V) fun w' a=>?_;refine c8 ?_;refine rpG ?_;exact ⟨rfl,a⟩
 clear a;intro z _ _ _ _ _ _ _ _ _ _ _ _ _ _ _ _ _ _ _ w';rintro ⟨rfl,a⟩;refine aL (fun p=>by cases p) (fun _=>?_);refine ⟨fun w'=>∃ S7,Sle S6 S7/\Inv w [] [ei b3 cs.toArray ad,ei t ds.toArray ad,ei D B.toArray ad] S7 w',?_,?_⟩
 ·refine aL (fun p=>?_) (fun _=>⟨S6,Sle.refl _,a⟩);obtain ⟨c2,a6⟩:=Gy.1 p;rw [a6] at j;have j:RdC S6 ds c2:=j;obtain ⟨k1,k2⟩:=HJ a6;refine aq a 1 aK rfl (by simpa using a0) ?_;refine Run.call0E mL m7 a (lC j) fun v3 I' S7 w'=>?_;rw [k1,ag rfl,k2];rintro ⟨rfl,u3,rfl,b6⟩ a4 a;have a:Inv w [] [ei b3 cs.toArray ad,ei t ds.toArray ad,ei D B.toArray ad] S7 w':=a;refine aA (v:=u3) rfl ?_;refine aA (v:=.bool true) rfl ?_;refine ⟨fun z w'=>z=.bool false/\Inv w [] [ei b3 cs.toArray ad,ei t ds.toArray ad,ei D B.toArray ad] S7 w',?_,?_⟩
  ·refine c8 ?_;refine rpG ?_;refine Run.callPure Bk Bi a (xz b6 (m.monoK a4.1)) fun w' a=>?_;refine c8 ?_;refine rpG ?_;exact ⟨rfl,a⟩
  clear a;intro z _ _ _ _ _ _ _ w';rintro ⟨rfl,a⟩;refine aL (fun p=>by cases p) (fun _=>?_);exact ⟨S7,a4.1,a⟩
 clear a;intro _ _ _ _ _ _ _ _ _ _ _ _ _ _ _ _ _ w';rintro ⟨S7,o,a⟩;have hc:=hc.mono o;have i:=i.monoK o;refine c8 ?_;refine aL (fun _=>Ci a.nil (N.trans o) rfl) (fun p=>?_);rw [RT] at p;rw [ag p] at i;have c3:=hc;obtain ⟨c6,ks,rfl,h1,h2⟩:=hc;obtain ⟨kv,rfl,g1,g2,g3,g4⟩:=RdT.iff.1 h1;obtain ⟨ak,mk,c7,_⟩:=id g4;obtain ⟨ab,mb,c9,_⟩:=id h2;have a:Inv w [] [ei b3 #[ee c.head.kind,ee c.head.n,.string c.head.name,kv,ks] ad,ei t ds.toArray ad,ei D B.toArray ad] S7 w':=a;refine ax cV ?_;refine ax bu ?_;refine aG a 0 aV rfl rfl ?_;refine ax cV ?_;refine ax az ?_;refine aG a 0 aw rfl rfl ?_;refine aO g4 ao ?_;have h6:=RH (jx p).1;refine Run.call0E qS qZ a (nU i (MJ p) h6) fun v3 I' S8 w'=>?_;rw [z3 p];rintro ⟨rfl,fs,rfl,r⟩ a5 a;have r:RdC S8 fs (vD (cC c) c):=r;have a:Inv w [] [ei b3 #[ee c.head.kind,ee c.head.n,.string c.head.name,kv,ks] ad,ei t ds.toArray ad,ei D B.toArray ad] S8 w':=a;have a9:=r.length;refine aA (v:=.agg fs.toArray) rfl ?_;refine aA (v:=.bool true) rfl ?_;refine aE a cI fun b9 w' a=>?_;refine aj a 3 rfl aK (by simpa using a9) rfl (by simpa using r.one) fun w' a=>?_;refine aq a 0 aK rfl rfl ?_;have a:Inv w [] [ei b3 #[ee c.head.kind,ee c.head.n,.string c.head.name,kv,ks] ad,ei t ds.toArray ad,ei D B.toArray ad,ei b9 fs.toArray ad] S8 w':=a;refine Run.pubOC uA uz a (qt (c3.mono a5.1) (by omega)) fun gs S9 w' J G a=>?_;have c4:Wp c=vD (cC c) c:=by rw [Wp,ag p]
 rw [c4] at G;rw [p];have b1:=G.length;refine aA (v:=.agg gs.toArray) rfl ?_;refine aA (v:=.bool true) rfl ?_;refine aE a cI fun b8 w' a=>?_;refine aj a 4 rfl aK (by simpa using b1) rfl (by simpa using G.one) fun w' a=>?_;have a:Inv w [] [ei b3 #[ee c.head.kind,ee c.head.n,.string c.head.name,kv,ks] ad,ei t ds.toArray ad,ei D B.toArray ad,ei b9 fs.toArray ad,ei b8 gs.toArray ad] S9 w':=a;refine rpG ?_;refine aq a 3 aK rfl (by simpa using a9) ?_;refine aq a 4 aK rfl (by simpa using b1) ?_;refine Run.callPure rt qQ a (qT (r.mono J) G) fun w' a=>?_;refine rpG ?_;exact Ci a.nil ((N.trans o).trans (a5.1.trans J)) rfl
end
end
section
open Go Go.ChangeShapes Go.WideShapes Go.ChangeAt Go.RowKit

theorem Tryz.own:ownKnob Tryz.prog.godebug=none:=by kernel_rfl
theorem Tryz.kids:Kids Tryz.prog (·<Tryz.prog.types.size):=kids_rows (by kernel_rfl) (by kernel_rfl)
theorem Tryz.full:∀ t e,t<Tryz.prog.types.size->Tryz.prog.underlying t=some (.slice e)->0<Tryz.prog.cellsOf e:=slices_full_of Tryz.prog (by kernel_rfl)
section
variable {H:Type} {enc:TypeId × Value->H} {W W':World}
theorem Ot {P:Program}:∀ {ts:List TypeId} {vs:nA} {ds:List (DataW H)} {a:List MemPlace},DataW.TrodAll enc P W 0 (fun _=>true) true ts vs ds a->(∀ p∈a,W.sameAt W' p)->
  DataW.TrodAll enc P W' 0 (fun _=>true) true ts vs ds a
 | [],[],[],_,h,_=>h
 | _::_,_::_,_::_,_,⟨p,q,⟨n,h1⟩,h2,e⟩,hs=>
  ⟨p,q,⟨n,DataW.trod_carry n _ _ _ h1 fun x g=>hs x (by rw [e];exact gf _ g)⟩,Ot h2 fun x g=>hs x (by rw [e];exact gy _ g),e⟩
theorem WZ {p:MemPlace} (h:∀ b,b<W.heap.size->W'.heap[b]?=W.heap[b]?) (a:p.block<W.heap.size):W.sameAt W' p:=by
 cases p with
 | cell b g=>simp only [World.sameAt,World.cell?];rw [h b a]
 | map b=>exact h b a
theorem SD {f:Func} {s:ChangeSpec} {args:Array Value} {ds i:List (DataW H)} {a p q:List MemPlace}
  (D:DataW.Whole enc Tryz.prog f.params.toList s.vars false W args.toList ds i a) (M:DataW.TrodAll enc Tryz.prog W 0 (fun _=>true) true f.params.toList args.toList ds p)
  (G:DataW.TrodVars enc Tryz.prog W (fun _=>true) s.vars i q) (l:a=p++q) (J:s.vars=[]) (m:∀ t∈f.params.toList,t<Tryz.prog.types.size) (N:f.resultTypes=#[Pn])
  (O:(s.fn H (ds++i)).results=[.lit (.bool true)]) (U:(s.fn H (ds++i)).args=ds) (o:(s.fn H (ds++i)).vars=[]) (r:Inv W [] [] (QW W) W') :
  s.post enc Tryz.prog f false true false false W args (.bool true) W':=by
 have g:∀ b,b<W.heap.size->W'.heap[b]?=W.heap[b]?:=fun b l=>r.same b l;have j:=D.lt;rw [J] at G;obtain ⟨Y,V⟩:=trodVars_none G;subst V;rw [dk] at l;subst l;have C:=Ot (W':=W') M fun x B=>WZ g (j x B);refine ⟨ds,i,a,[],a,[],D,?_,?_,?_,SV r.os r.output g,fun h=>by cases h⟩
 ·rw [O,N];exact trodAll_mk1 (shut_bool DO true)
 ·rw [U];exact DataW.TrodAll.respare Tryz.kids Tryz.full m C fun x B=>by simpa using j x B
 ·rw [J,o];rfl
end
end
end Go.Proofs.YtjbcdmheajljpaaGreat
