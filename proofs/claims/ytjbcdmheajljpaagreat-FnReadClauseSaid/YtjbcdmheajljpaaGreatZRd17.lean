/- spec: texts of instructions and of code; what matters is whether a code has one. -/
import Derived.Test.YtjbcdmheajljpaaGreatZRdA
import Derived.Test.YtjbcdmheajljpaaGreatZRd16
namespace Go.Proofs.YtjbcdmheajljpaaGreat
attribute [local irreducible] Run CondV aI bg
section
open Go Go.RowKit
theorem Ae:∀ (f n:Nat) (out:Bs),n<10 ^ (f+1)->∃ r,Ap (f+1) n out=some r
 | 0,n,out,h=>by
  rw [Ap,ae (by omega)];exact ⟨_,rfl⟩
 | f+1,n,out,h=>by
  rw [Ap];split
  ·refine Ae f (n / 10) _ ?_;rw [Nat.pow_succ] at h;omega
  ·exact ⟨_,rfl⟩
theorem IP {n:Int} (h:-999<=n/\n<=999):∃ r,U8 n=some r/\r.length<=21:=by
 unfold U8;split
 ·obtain ⟨r,a⟩:=Ae 19 (-n).toNat [] (by omega);have:=yr _ _ _ _ a;rw [a];exact ⟨_,rfl,by simp only [ce,aP] at this ⊢;omega⟩
 ·obtain ⟨r,a⟩:=Ae 19 n.toNat [] (by omega);have:=yr _ _ _ _ a;rw [a];exact ⟨_,rfl,by simp only [ce] at this;omega⟩
def opNames:List ByteArray:=[⟨#[]⟩,⟨#[103,101,116,118,97,108]⟩,⟨#[103,101,116,105,110,116]⟩,⟨#[103,101,116,115,116,114]⟩,⟨#[117,110,105,118,97,114]⟩,⟨#[117,110,105,118,97,108]⟩,⟨#[117,110,105,105,110,116]⟩,⟨#[115,101,116,115,116,114]⟩,⟨#[112,117,116,118,97,114]⟩,⟨#[112,117,116,118,97,108]⟩,⟨#[112,117,116,105,110,116]⟩,⟨#[99,97,108,108]⟩,⟨#[98,117,105,108,116]⟩,⟨#[99,117,116]⟩,⟨#[101,110,100]⟩]
def wQ:Array Value:=(opNames.map Value.string).toArray
theorem Zt (k:Nat) (h:k<15):∃ s:ByteArray,s.size<=6/\wQ[0+k * 1]?=some (.string s):=by
 match k,h with
 | 0,_|1,_|2,_|3,_|4,_|5,_|6,_|7,_|8,_|9,_|10,_|11,_|12,_|13,_|14,_=>exact ⟨_,by decide,rfl⟩
theorem XI {x:Ist} (h:lmS x):1<=x.op/\x.op<=14:=by
 rcases h.2 with k|k|k|k|k <;> have:=k.1 <;> omega
section
variable {S:ai}
theorem Hd (S:ai):nB NL [] [] S fun v I' S'=>I'=[]/\∃ b,v=kt b 0 15 15/\S' b=some (.cells wQ fx):=by
 intro w g;refine zr.2 ?_;dsimp only[zr,nR];refine oK (v:=fun b=>.slice (some ⟨b,0,none⟩) 15 15) (o:=.cells wQ fx) g (by kernel_rfl) fun b w' g=>?_;have a:w.heap.size<=b:=by
  rcases g.new b (by simp [cg,Item.foot]) with h|h
  ·simp [cg] at h
  ·exact h
 obtain ⟨i,j⟩:=Inv.publishLast (L:=[]) g;exact ⟨_,_,_,rfl,i,Gm a j,rfl,b,rfl,by simp [oJ]⟩
theorem zq {x:Ist} (J:lmS x) (S:ai):nB C8 [.agg x.cells.toArray] [] S fun v I' _=>I'=[]/\∃ s:Bs,v=.string (st s)/\s.length<=60:=by
 intro w g;have a7:=J.size;have V:=XI J;have j:=J.1;have Y:=u6 x (by simp only [maxLen];omega) S;obtain ⟨op,a,b,nm⟩:=x;rw [aD J] at Y;clear J;have V:1<=op/\op<=14:=V;obtain ⟨k,rfl⟩:∃ k:Nat,op=(k:Int):=⟨op.toNat,by omega⟩
 have hk:k<15:=by omega
 obtain ⟨G,a2,a3⟩:=Zt k hk;obtain ⟨ra,a4,b3⟩:=IP (n:=a) ⟨j.1,j.2.1⟩;obtain ⟨rb,a5,b4⟩:=IP (n:=b) ⟨by have:=j.2.2.1;simp only at this;omega,j.2.2.2⟩;refine pD.2 ?_;dsimp only[pD,bd];refine bH g fun q w' g=>?_;have g:Inv w [] [ei q #[ee (k:Int),ee a,ee b,.string nm] ay] S w':=g;refine aq g 0 dF rfl rfl ?_;refine Run.callPure yG xj g Y fun w' g=>?_;refine c8 ?_;refine aL (fun O=>by cases O) (fun _=>?_);refine ⟨fun D x3 GI my ux x9 x8 Z=>Fx D 0 [True,x9=hV q,ux=ee (k:Int),True,GI=.string G,x3=.string G]/\∃ SN m,Ext w.heap.size [] S SN/\(D 0=true->x8=kt m 0 15 15/\SN m=some (.cells wQ fx))/\(D 3=true->D 0=true/\my=kh m (0+k * 1))/\Inv w [] [ei q #[ee (k:Int),ee a,ee b,.string nm] ay] SN Z,⟨Fx.nil _ _,⟨S,0,Ext.refl _ _ _,aU,aU,g.draw⟩⟩,⟨?_,?_,?_,?_,?_,?_,trivial⟩,?_⟩;all_goals (intro D bp;intros;rename_i x3 GI my ux x9 x8 Z M;have l:=M.1;obtain ⟨⟨cF,ci,cG,cD,bU,cH,_⟩,⟨SN,m,r,t,o,g⟩⟩:=M)
 ·refine Run.call0E KF Jp g (Hd SN) fun v' I' SM Z=>?_;rintro ⟨rfl,N,rfl,a0⟩ hM g;have r:=r.trans hM;have o:aF D 0 3=true->aF D 0 0=true/\my=kh N (0+k * 1):=fun h=>by rw [(o h).1] at bp;cases bp
  have t:=fun (_:aF D 0 0=true)=>(⟨rfl,a0⟩:Value.slice (some ⟨N,0,none⟩) 15 15=kt N 0 15 15/\SM N=some (.cells wQ fx))
  have g:Inv w [] [ei q #[ee (k:Int),ee a,ee b,.string nm] ay] SM Z:=g;obtain ⟨SN,a6⟩:∃ SN,SN=SM:=⟨_,rfl⟩
  subst a6;obtain ⟨m,B⟩:∃ m,m=N:=⟨_,rfl⟩
  subst B;exact ⟨l.set 0 (by first|assumption|trivial),⟨SN,m,r,t,o,g⟩⟩
 ·refine ax ew ?_;exact ⟨l.set 1 rfl,⟨SN,m,r,t,o,g⟩⟩
 ·obtain rfl:=ci ‹_›;refine aG g 0 au rfl rfl ?_;exact ⟨l.set 2 rfl,⟨SN,m,r,t,o,g⟩⟩
 ·have Tn:=cF ‹_›;obtain rfl:=cG ‹_›;have e0:=(t ‹D 0=true›).1;rw [e0];refine aN (i:=k) dM hk ?_;rw [<- e0];have o:=fun (_:aF D 3 3=true)=>(⟨‹D 0=true›,rfl⟩:D 0=true/\Value.pointer (some ⟨m,0+k * 1,none⟩)=kh m (0+k * 1))
  exact ⟨l.set 3 (by first|assumption|trivial),⟨SN,m,r,t,o,g⟩⟩
 ·have OA:=cD ‹_›;have e3:=(o ‹D 3=true›).2;have B:=(t (o ‹D 3=true›).1).2;rw [e3];refine eD aV (by rw [g.cellS B];exact a3) ?_;rw [<- e3];exact ⟨l.set 4 rfl,⟨SN,m,r,t,o,g⟩⟩
 ·obtain rfl:=bU ‹_›;exact ⟨l.set 5 rfl,⟨SN,m,r,t,o,g⟩⟩
 obtain ⟨Tn,rfl,rfl,OA,rfl,rfl,_⟩:=l.all;clear l cF ci cG cD bU cH;refine ah g 0 rfl ew au rfl ?_;refine Run.callPure zx yv g (uU (k:Int) SN) fun w' g=>?_;obtain ⟨C,U⟩:∃ C,C=rO (k:Int):=⟨_,rfl⟩
 rw [<- U];clear U;have b5:(bs G).length<=6:=by rw [<- lj,LJ];exact a2
 have b6:(bs nm).length<=6:=by rw [<- lj,LJ];exact a7
 refine ⟨fun z w'=>∃ p:Bs,z=.string (st p)/\p.length<=28/\Inv w [] [ei q #[ee (k:Int),ee a,ee b,.string nm] ay] SN w',?_,?_⟩
 ·refine Ji ?_;cases decide (C=(⟨#[]⟩:ByteArray))
  ·refine aL (fun _=>?_) (fun O=>by cases O);rw [<- LJ G];refine eh (a:=bs G) (b:=[32]) (by simp only [aP,ce];omega) ?_;refine ah g 0 rfl bZ au rfl ?_;refine Run.callPure vJ vC g (r3 a4 ⟨j.1,j.2.1⟩) fun w' g=>?_;refine eh (by simp only [bt,aP,ce];omega) ?_;exact ⟨_,rfl,by simp only [bt,aP,ce];omega,g⟩
  ·refine aL (fun O=>by cases O) (fun _=>?_);exact ⟨bs G,by rw [LJ],by omega,g⟩
 intro z _ _ _ _ _ _ _ _ w';rintro ⟨p,rfl,a8,g⟩;refine ⟨fun z w'=>∃ p:Bs,z=.string (st p)/\p.length<=50/\Inv w [] [ei q #[ee (k:Int),ee a,ee b,.string nm] ay] SN w',?_,?_⟩
 ·refine ⟨fun z w'=>∃ c,z=.bool c/\Inv w [] [ei q #[ee (k:Int),ee a,ee b,.string nm] ay] SN w',?_,?_⟩
  ·refine bT ?_;cases decide (C=(⟨#[97,98]⟩:ByteArray))
   ·refine rpG ?_;refine bT ?_;cases decide (C=(⟨#[97,98,110]⟩:ByteArray))
    ·refine rpG ?_;exact ⟨_,rfl,g⟩
    ·refine rpG ?_;exact ⟨_,rfl,g⟩
   ·refine rpG ?_;exact ⟨_,rfl,g⟩
  intro z _ _ _ _ _ w';rintro ⟨c,rfl,g⟩;refine aL (fun _=>?_) (fun _=>?_)
  ·refine eh (b:=[32]) (by simp only [aP,ce];omega) ?_;refine ah g 0 rfl dL au rfl ?_;refine Run.callPure vJ vC g (r3 a5 ⟨by have:=j.2.2.1;simp only at this;omega,j.2.2.2⟩) fun w' g=>?_;refine eh (by simp only [bt,aP,ce];omega) ?_;exact ⟨_,rfl,by simp only [bt,aP,ce];omega,g⟩
  ·exact ⟨p,rfl,by omega,g⟩
 intro z _ _ _ _ _ _ _ _ _ _ _ _ w';rintro ⟨s2,rfl,a9,g⟩;refine ⟨fun z w'=>∃ p:Bs,z=.string (st p)/\p.length<=60/\Inv w [] [ei q #[ee (k:Int),ee a,ee b,.string nm] ay] SN w',?_,?_⟩
 ·refine ⟨fun z w'=>∃ c,z=.bool c/\Inv w [] [ei q #[ee (k:Int),ee a,ee b,.string nm] ay] SN w',?_,?_⟩
  ·refine bT ?_;cases decide (C=(⟨#[97,110]⟩:ByteArray))
   ·refine rpG ?_;refine bT ?_;cases decide (C=(⟨#[97,98,110]⟩:ByteArray))
    ·refine rpG ?_;exact ⟨_,rfl,g⟩
    ·refine rpG ?_;exact ⟨_,rfl,g⟩
   ·refine rpG ?_;exact ⟨_,rfl,g⟩
  intro z _ _ _ _ _ w';rintro ⟨c,rfl,g⟩;refine aL (fun _=>?_) (fun _=>?_)
  ·refine eh (b:=[32]) (by simp only [aP,ce];omega) ?_;refine ah g 0 rfl fu aV rfl ?_;rw [<- LJ nm];refine eh (b:=bs nm) (by simp only [bt,aP,ce];omega) ?_;exact ⟨_,rfl,by simp only [bt,aP,ce];omega,g⟩
  ·exact ⟨s2,rfl,by omega,g⟩
 intro z _ _ _ _ _ _ _ _ _ _ _ w';rintro ⟨s3,rfl,a1,g⟩;exact ⟨_,[],SN,rfl,g.nil,r,rfl,s3,rfl,a1⟩
theorem zW {code:List Ist} {v:Value} (h:RdSl S 4 (cZ S) v code) (hn:∀ x∈code,x.name.size<=6):nB GG [v] [] S fun r I' _=>I'=[]/\∃ s:Bs,r=.string (st s)/\(s=[]↔¬ (code≠[]/\code.length<=2000/\∀ x∈code,lmS x)):=by
 intro w a;have t:=h.le;simp only [maxLen] at t;refine rC.2 ?_;dsimp only[rC,bd];refine ⟨fun i o w'=>∃ (j:Nat) (out:Bs) (S1:ai),j<=code.length/\i=ee j/\o=.string (st out)/\j<=2000/\out.length<=61 * j/\(out=[]↔j=0)/\(∀ i (_:i<code.length),i<j->lmS code[i])/\Ext w.heap.size [] S S1/\Inv w [] [] S1 w',fun i _ _=>code.length - (intOf i).toNat,
  ⟨0,[],S,aT _,rfl,rfl,by omega,by simp,by simp,fun i _ h=>by omega,Ext.refl _ _ _,a⟩,?_⟩
 intro i _ _ o _ _ _ _ _ _ _ _ _ _ _ _ _ _ _ _ _ _ _ _ _ _ _ w';rintro ⟨j,out,S1,hj,rfl,rfl,Z,a0,V,p,D,a⟩;have U:=h.monoK D.1;refine aO U bx ?_;refine cd ?_;refine aJ (fun M=>?_) (fun M=>?_)
 ·have g:j<code.length:=by omega
  have a3:=hn _ (cO g);refine ⟨fun z w'=>z=.bool (decide (2000<=j ∨ ¬ lmS code[j]))/\Inv w [] [] S1 w',?_,?_⟩
  ·refine iK ?_;by_cases Y:2000<=j
   ·rw [aD (show (2000:Int)<=(j:Int) by omega)];refine rpG ?_;exact ⟨by rw [aD (Or.inl Y)],a⟩
   ·rw [aM (show ¬ (2000:Int)<=(j:Int) by omega)];refine rpG ?_;refine dj a U bx dF g (fun _ _ h=>by rw [h];rfl) fun cs l=>?_;rw [show cs=code[j].cells from l];refine Run.callPure yG xj a (u6 _ (by simp only [maxLen];omega) S1) fun w' a=>?_;refine c8 ?_;refine rpG ?_;refine ⟨?_,a⟩
    congr 1
    by_cases G:lmS code[j]
    ·rw [aD G,aM (show ¬ (2000<=j ∨ ¬ lmS code[j]) from fun e=>by rcases e with e|e;exact Y e;exact e G)];rfl
    ·rw [aM G,aD (show 2000<=j ∨ ¬ lmS code[j] from .inr G)];rfl
  intro z _ _ _ _ _ _ _ _ _ w';rintro ⟨rfl,a⟩;refine aJ (fun q=>?_) (fun m=>?_)
  ·refine ⟨_,[],S1,rfl,a,D,rfl,[],rfl,⟨fun _ N=>?_,fun _=>rfl⟩⟩;rcases q with e|e
   ·omega
   ·exact e (N.2.2 _ (cO g))
  ·have B:lmS code[j]:=LG.1 fun e=>m (.inr e);refine dj a U bx dF g (fun _ _ h=>by rw [h];rfl) fun cs l=>?_;rw [show cs=code[j].cells from l];refine Run.call0E A8 AS a (zq B S1) fun v' I' S2 w'=>?_;rintro ⟨rfl,s,rfl,a1⟩ J a;refine eh (by omega) ?_;refine eh (b:=[10]) (by simp only [bt,aP,ce];omega) ?_;refine bL (by omega) ?_;refine ⟨⟨j+1,_,S2,g,rfl,rfl,by omega,by simp only [bt,aP,ce];omega,by simp,fun i O a2=>?_,D.trans J,a⟩,by simp only [intOf,dH];omega⟩;by_cases e:i=j
   ·subst e;exact B
   ·exact p i O (by omega)
 ·have C:j=code.length:=by omega
  refine ⟨_,[],S1,rfl,a,D,rfl,out,rfl,⟨fun e N=>?_,fun e=>?_⟩⟩
  ·have:=V.1 e;exact N.1 (jM (by omega))
  ·refine V.2 (Classical.byContradiction fun h0=>e ⟨fun e=>?_,by omega,fun x hx=>?_⟩)
   ·rw [e] at C;exact h0 C
   ·obtain ⟨i,O,rfl⟩:=VT hx;exact p i O (by omega)
end
end
section
open Go Go.RowKit
theorem x0 {k:Nat} {ds:nA} (a:ds.length=k):∀ (css:List (nA)) (j:Nat) (_:∀ cs∈css,cs.length=k) (_:j<css.length),css.flatten.take (j * k)++ds++css.flatten.drop (j * k+k)=(css.set j ds).flatten
 | [],j,_,h=>by simp at h
 | c::css,0,hk,_=>by
  have:=hk c (bF ..);rw [l5,JG,gW,cS,gR,Q0 (by omega),uY (by omega),gW,List.set_cons_zero,gR]
 | c::css,j+1,hk,h=>by
  have hc:=hk c (bF ..);have i:=x0 a css j (fun x g=>hk x (bI _ g)) (by simpa using h);rw [gR,OX,gR,<- i,ip,List.take_append,wd (by omega),List.drop_append,uY (by omega),gW,show j * k+k - c.length=j * k by omega,show j * k+k+k - c.length=j * k+k by omega];simp
theorem TE {l ds:nA} {p k n:Nat} (a:ds.length=k) (hn:p+k<=n) (h:n<=l.length):(l.take p++ds++l.drop (p+k)).take n=(l.take n).take p++ds++(l.take n).drop (p+k):=by
 have g:(l.take p++ds).length=p+k:=by rw [bt,ig,a];omega
 rw [List.take_append,wd (by omega),g,EZ,AO (by omega),IQ]
theorem Rows.setA {α:Type} {k:Nat} {R:nA->α->Prop} {css:List (nA)} {xs:List α} (h:Rows k R css xs) {j:Nat} {ds:nA} {x:α} (a:R ds x) (g:ds.length=k):Rows k R (css.set j ds) (xs.set j x):=by
 refine ⟨by rw [jj,jj,h.hc],fun c hc=>?_,fun i l m=>?_⟩
 ·rcases Ag hc with hc|rfl
  ·exact h.hk c hc
  ·exact g
 ·rw [FA,FA];split
  ·exact a
  ·exact h.hR _ _ _
section
variable {P:Program} {w w0:World} {X:List Nat} {L:List Item} {S:ai} {K:Value->World->Prop}
theorem s9 (h:Inv w0 X L S w) {T ty e:TypeId} (i:Nat) {g cap k j a:Nat} {css:List (nA)} {x:Value} {ds:nA} (O:L[i]?=some (aB (kt g 0 css.length cap) e k css)) (Z:oL P T=some k) (U:j<css.length) (ha:a=j * k)
  (t:∀ cs∈css,cs.length=k) (B:x.cells.toList=ds) (m:ds.length=k) (h1:∀ u∈ds,u.oneCell'=true)
  (hk:∀ w',Inv w0 X (L.set i (aB (kt g 0 css.length cap) e k (css.set j ds))) S w'->K undef w') :
  Run P (sOp (.store T (.const (kh g a)) (.const x)) ty) w K:=by
 subst ha;have p:=(ie.1 O).1;have C:=(ie.1 O).2;have hp:List.Perm L ((L.take i++L.drop (i+1))++[aB (kt g 0 css.length cap) e k css]):=by
  conv=>lhs;rw [<- KO i L,ef p,C]
  rw [cN];exact rA _ (bD (l₁:=[_]))
 have l:=h.perm hp.symm;obtain ⟨_,ho⟩:=Inv.openRow l;rcases ho with ⟨M,_⟩|⟨g',Y,o,M,q,N,r,ht,l⟩
 ·cases M
 cases M;have D:j * k+k<=css.length * k:=by
  have:(j+1) * k<=css.length * k:=fK k U
  rwa [ip] at this
 have V:css.length * k<=cap * k:=fK k q;have G:x.cells.size=k:=by rw [<- m,<- B,Ox]
 refine eV l (L.take i++L.drop (i+1)).length (n:=k) G (by rw [Z];simp) (by rw [jV (aY _),fB];rfl) (by omega) (by rw [B];exact h1) fun w' l=>hk w' ?_;rw [z0 _ _ (aY _),fB] at l;have l:Inv w0 X ((L.take i++L.drop (i+1))++[ei g (cu o (j * k) x.cells.toList) e]) S w':=l;rw [B] at l;have l:=Inv.closeRow (n:=css.length) (cap:=cap) (k:=k) l q N (by rw [gw _ _ _ (by omega)];exact r);have a0:o.toList.length=cap * k:=by rw [Ox];exact r
 have J:(cu o (j * k) ds).toList.take (css.length * k)=(css.set j ds).flatten:=by
  rw [cu,List.toList_toArray,m,TE m D (by omega),ht,x0 m css j t U]
 rw [J] at l;refine l.perm ?_;rw [sx,ag p,cN];refine rA _ ?_;rw [show Item.row (kt g 0 css.length cap) e k css.length (css.set j ds).flatten=aB (kt g 0 css.length cap) e k (css.set j ds) by simp [aB]];exact (bD (l₁:=[_]))
end
end
section
open Go Go.RowKit
def slL (M:Nat) (f:Sl):List T:=(List.range M).map fun (i:Nat)=>(f (i:Int)).getD zT0
theorem iv (M:Nat) (f:Sl):(slL M f).length=M:=by rw [slL,ro,List.length_range]
theorem vH {M:Nat} {f:Sl} {i:Nat} (h:i<(slL M f).length):(slL M f)[i]=(f (i:Int)).getD zT0:=by
 simp only [slL,CU,List.getElem_range]
theorem T3 {M:Nat} {f:Sl} {k:Nat} {t:T}:slL M (upS f (k:Int) t)=(slL M f).set k t:=by
 refine List.ext_getElem (by rw [jj,iv,iv]) fun i a g=>?_;rw [FA,vH,upS];by_cases e:k=i
 ·subst e;rw [ag rfl,ag rfl];rfl
 ·rw [ae (by omega),ae e,vH]
def bG (M:Nat) (s:RI) (k:Int):RI × T × Bool:=match lE M s k with
 | some (s',t)=>(s',t,true)
 | none=>(s,zT0,false)
def kl (s:RI) (b:Int) (t:T):RI × Bool:=match Ao s b t with
 | some s'=>(s',true)
 | none=>(s,false)
theorem TJ {M:Nat} {s:RI} {k:Int} (h:¬ (0<=k/\k<M)):bG M s k=(s,zT0,false):=by rw [bG,lE,ae h]
theorem IB {M:Nat} {s:RI} {k:Int} {t:T} (h:s.sl k=some t) (a:0<=k/\k<M):bG M s k=(s,t,true):=by rw [bG,jF h a]
theorem Ai {M:Nat} {s:RI} {k:Int} (h:s.sl k=none) (a:0<=k/\k<M):bG M s k=(⟨upS s.sl k (dx s.fr),s.ar,s.fr+1,s.st⟩,dx s.fr,true):=by rw [bG,yh h a]
def RdR (S:ai) (M:Nat) (s:RI) (p:Nat) (ok:Bool) (cs:List Value):Prop:=∃ v1 v2,cs=[v1,v2,ee (s.fr:Int),ee (p:Int),.bool ok]/\RdSl S 4 (RdT S) v1 (slL M s.sl)/\RdSl S 4 (RdT S) v2 (slL 4 s.ar)
theorem RdR.mono {S S':ai} {M:Nat} {s:RI} {p:Nat} {ok:Bool} {cs:nA} (a:Sle S S') (h:RdR S M s p ok cs):RdR S' M s p ok cs:=by
 obtain ⟨v1,v2,e,g,i⟩:=h;exact ⟨v1,v2,e,g.monoT a,i.monoT a⟩
theorem RdR.length {S:ai} {M:Nat} {s:RI} {p:Nat} {ok:Bool} {cs:nA} (h:RdR S M s p ok cs):cs.length=5:=by
 obtain ⟨v1,v2,rfl,_⟩:=h;rfl
theorem RdR.one {S:ai} {M:Nat} {s:RI} {p:Nat} {ok:Bool} {cs:nA} (h:RdR S M s p ok cs):∀ u∈cs,u.oneCell'=true:=by
 obtain ⟨v1,v2,rfl,a,g⟩:=h;obtain ⟨i,j,rfl,_⟩:=a;obtain ⟨l,m,rfl,_⟩:=g;simp [Value.oneCell']
theorem UU (S:ai):RdT S [ee 0,ee 0,.string ⟨#[]⟩,nx] zT0:=
 RdT.iff.2 ⟨_,rfl,by simp [inI,T.kind,zT0],by simp [inI,T.n,zT0],by rw [zT0,T.name];decide +kernel,⟨none,0,rfl,aY _,aT _,.inl rfl⟩⟩
theorem Te {M:Nat} {s:RI} (h:g9 M s) {k:Int} (a:((s.sl k).getD zT0).kind=0):s.sl k=none:=by
 cases g:s.sl k with
 | none=>rfl
 | some t=>
  rw [g,Ke] at a;exact absurd a (h.ok.sl _ _ g).1.kind
theorem Sw {s:RI} {k:Int} (a:¬ ((s.sl k).getD zT0).kind=0):∃ t,s.sl k=some t:=by
 cases g:s.sl k with
 | none=>rw [g] at a;exact absurd rfl a
 | some t=>exact ⟨t,rfl⟩
theorem F9 (k n:Int):∀ u∈([ee k,ee n,.string ⟨#[]⟩,nx]:nA),u.oneCell'=true:=by simp [Value.oneCell']
abbrev iM:Array Value:=#[nx,nx,ee 0,ee 0,.bool false]
abbrev AE:Array Value:=et
abbrev Zf (M:Nat) (s:RI) (k:Int) (p:Nat) (ok:Bool):Value->List Item->ai->Prop:=fun r I' S'=>I'=[]/\∃ cs' ct,r=.tuple #[.agg cs'.toArray,.agg ct.toArray]/\RdR S' M (bG M s k).1 p (ok && (bG M s k).2.2) cs'/\RdT S' ct (bG M s k).2.1
section
variable {S:ai}
theorem Inv.rowShape {w0 w:World} {X:List Nat} {L:List Item} (h:Inv w0 X L S w) {i k:Nat} {e:TypeId} {v:Value} {css:List (nA)} (a:L[i]?=some (aB v e k css)) (m:0<css.length):∃ g cap,v=kt g 0 css.length cap:=by
 have j:w.ownsRow 0 e k v css.length css.flatten:=h.its _ (f0 a);rcases j.2 with ⟨_,o⟩|⟨g,cap,l,rfl,_⟩
 ·omega
 ·exact ⟨g,cap,rfl⟩
theorem iT {M:Nat} (hM:M<=1000) {s:RI} (hs:g9 M s) {k:Int} {p:Nat} {ok:Bool} {cs:List Value} (h:RdR S M s p ok cs) :
  Tri Tryz.prog O9 [.agg cs.toArray,.int .i64 k] [] S (Zf M s k p ok):=by
 intro w a;have c7:=hs.ok.le;have c8:=h;obtain ⟨v1,v2,rfl,Z,h2⟩:=h;refine Bg.2 ?_;dsimp only[Bg,bv];refine bH a fun C w' a=>?_;refine aE a fo fun U w' a=>?_;refine aE a aQ fun V w' a=>?_;have a:Inv w [] [.blk C (.cells #[v1,v2,.int .i64 (s.fr:Int),.int .i64 (p:Int),.bool ok] al),.blk U (.cells iM al),.blk V (.cells AE ac)] S w':=a;obtain ⟨a1,c1,b6,_⟩:=id Z;obtain ⟨a2,c2,a4,_⟩:=id h2;refine ⟨fun z w'=>z=.bool (decide (k<0 ∨ (M:Int)<=k))/\Inv w [] [.blk C (.cells #[v1,v2,.int .i64 (s.fr:Int),.int .i64 (p:Int),.bool ok] al),.blk U (.cells iM al),.blk V (.cells AE ac)] S w',?_,?_⟩
 ·refine cd ?_;by_cases e1:k<0
  ·rw [aD e1];refine rpG ?_;exact ⟨by rw [aD (Or.inl e1)],a⟩
  ·rw [aM e1];refine rpG ?_;refine ah a 0 rfl gc aw rfl ?_;refine aO Z ao ?_;refine iK ?_;refine rpG ?_;refine ⟨?_,a⟩;rw [iv]
   congr 1
   exact cW.2 (by omega)
 intro z _ _ _ _ _ _ _ _ w';rintro ⟨rfl,a⟩;refine aJ (fun c6=>?_) (fun b3=>?_)
 ·refine cq a 0 rfl di ir rfl rfl rfl fun w' a=>?_;refine aq a 0 aS rfl rfl ?_;refine j5 ?_;refine aj a 1 rfl aS rfl rfl (by simp [Value.oneCell',b6,a4]) fun w' a=>?_;refine aj a 2 rfl af rfl rfl jh fun w' a=>?_;refine be a 1 aS rfl rfl ?_;refine be a 2 af rfl rfl ?_;have e:=TJ (M:=M) (s:=s) (k:=k) (by omega);exact ⟨_,_,S,rfl,a.nil,Ext.refl _ _ _,rfl,[v1,v2,.int .i64 (s.fr:Int),.int .i64 (p:Int),.bool false],[.int .i64 0,.int .i64 0,.string ⟨#[]⟩,.slice none 0 0],rfl,by rw [e]; exact ⟨v1,v2,by rw [zR],Z,h2⟩,by rw [e]; exact UU S⟩
 obtain ⟨j,rfl⟩:∃ j:Nat,k=(j:Int):=⟨k.toNat,by omega⟩
 have a7:j<M:=by omega
 have a8:j<(slL M s.sl).length:=by rw [iv]; exact a7
 have J:0<=(j:Int)/\(j:Int)<(M:Int):=by omega
 have b0:(slL M s.sl)[j]=(s.sl (j:Int)).getD zT0:=vH a8;refine ⟨fun w'=>∃ (O:Value) (S1:ai),Ext w.heap.size [] S S1/\RdSl S1 4 (RdT S1) O (slL M (bG M s (j:Int)).1.sl)/\Inv w [] [.blk C (.cells #[O,v2,.int .i64 ((bG M s (j:Int)).1.fr:Int),.int .i64 (p:Int),.bool ok] al),.blk U (.cells iM al),.blk V (.cells AE ac)] S1 w',?_,?_⟩
 ·refine ah a 0 rfl gc aw rfl ?_;refine WA a Z ao aW au a8 fun cs a0=>?_;rw [b0] at a0;obtain ⟨kv,rfl,_⟩:=RdT.iff.1 a0;refine ⟨_,rfl,?_⟩;refine a9 ?_;refine aJ (fun h0=>?_) (fun h0=>?_)
  ·have b9:=Te hs h0;rw [Ai b9 J];refine eZ a bi fun ve w' a=>?_;refine ah a 0 rfl gc aw rfl ?_;refine ge a 3 (css:=[]) bi (by omega) rfl Z (fun _ _=>RdT.length) (fun _ _=>RdT.one) (by rw [iv]; simp; omega) (by omega) fun vn w' css hR a=>?_;rw [gW] at a;have c4:=hR.hc;rw [iv] at c4;obtain ⟨g,cap,rfl⟩:=a.rowShape (i:=3) rfl (by omega);refine cq a 0 rfl gc aw rfl rfl rfl fun w' a=>?_;have a:Inv w [] [.blk C (.cells #[.slice (some ⟨g,0,none⟩) css.length cap,v2,.int .i64 (s.fr:Int),.int .i64 (p:Int),.bool ok] al),.blk U (.cells iM al),.blk V (.cells AE ac),aB (.slice (some ⟨g,0,none⟩) css.length cap) ac 4 css] S w':=a;refine ⟨fun D oN uq xG CJ zb uQ sM G=>Fx D 0 [sM=.pointer (some ⟨C,0,none⟩),uQ=.slice (some ⟨g,0,none⟩) css.length cap,zb=.int .i64 (j:Int),CJ=.pointer (some ⟨C,2,none⟩),xG=.int .i64 (s.fr:Int),uq=.agg #[.int .i64 1,.int .i64 (s.fr:Int),.string ⟨#[]⟩,.slice none 0 0],oN=.pointer (some ⟨g,0+j * 4,none⟩),True]/\Inv w [] [.blk C (.cells #[.slice (some ⟨g,0,none⟩) css.length cap,v2,.int .i64 (s.fr:Int),.int .i64 (p:Int),.bool ok] al),.blk U (.cells iM al),.blk V (.cells AE ac),aB (.slice (some ⟨g,0,none⟩) css.length cap) ac 4 (cond (D 7) (css.set j [.int .i64 1,.int .i64 (s.fr:Int),.string ⟨#[]⟩,.slice none 0 0]) css)] S G,⟨Fx.nil _ _,a.draw⟩,⟨?_,?_,?_,?_,?_,?_,?_,?_,trivial⟩,?_⟩;all_goals (intro D bp; intros; rename_i oN uq xG CJ zb uQ sM G m; have l:=m.1; obtain ⟨⟨cF,ci,cG,cD,bU,cH,cj,cR,_⟩,a⟩:=m)
   ·refine ax gc ?_;exact ⟨l.set 0 rfl,a⟩
   ·obtain rfl:=cF ‹_›;refine aG a 0 aw rfl rfl ?_;exact ⟨l.set 1 rfl,a⟩
   ·exact ⟨l.set 2 rfl,a⟩
   ·refine ax nh ?_;exact ⟨l.set 3 rfl,a⟩
   ·obtain rfl:=cD ‹_›;refine aG a 0 au rfl rfl ?_;exact ⟨l.set 4 rfl,a⟩
   ·obtain rfl:=bU ‹_›;refine Run.callPure qM qh a (lo _ S) fun G a=>?_;exact ⟨l.set 5 rfl,a⟩
   ·obtain rfl:=ci ‹_›;obtain rfl:=cG ‹_›;refine aN ao (by omega) ?_;exact ⟨l.set 6 rfl,a⟩
   ·obtain rfl:=cj ‹_›;obtain rfl:=cH ‹_›;rw [bp] at a;refine s9 a 3 rfl af (by omega) (cS _) hR.hk rfl rfl (F9 1 s.fr) fun G a=>?_;exact ⟨l.set 7 trivial,a⟩
   obtain ⟨rfl,rfl,rfl,rfl,rfl,rfl,rfl,_,_⟩:=l.all;have nI:D 7=true:=by assumption
   clear l cF ci cG cD bU cH cj cR;rw [nI] at a;refine ah a 0 rfl nh au rfl ?_;refine bL (by omega) ?_;refine cq a 0 rfl nh au rfl rfl rfl fun w' a=>?_;have a:Inv w [] ([.blk C (.cells #[.slice (some ⟨g,0,none⟩) css.length cap,v2,.int .i64 ((s.fr+1:Nat):Int),.int .i64 (p:Int),.bool ok] al),.blk U (.cells iM al),.blk V (.cells AE ac)]++[aB (.slice (some ⟨g,0,none⟩) css.length cap) ac 4 (css.set j [.int .i64 1,.int .i64 (s.fr:Int),.string ⟨#[]⟩,.slice none 0 0])]) S w':=a;obtain ⟨S1,q,a5,a⟩:=a.lendExt;have c5:=hR.setA (j:=j) (DP S s.fr (by omega)) rfl;have hn1:=RowRd.rows (c5.monoR fun _ _ h=>h.mono q.1) a5;rw [<- T3] at hn1;exact ⟨_,S1,q,hn1,a⟩
  ·obtain ⟨t,ht⟩:=Sw h0;rw [IB ht J];exact ⟨v1,S,Ext.refl _ _ _,Z,a⟩
 clear a;intro _ _ _ _ _ _ _ _ _ _ _ _ _ _ _ _ _ _ _ _ _ _ _ w';rintro ⟨O,S1,q,hn1,a⟩;have B:j<(slL M (bG M s (j:Int)).1.sl).length:=by rw [iv]; exact a7
 have b1:(slL M (bG M s (j:Int)).1.sl)[j]=(bG M s (j:Int)).2.1/\(bG M s (j:Int)).2.2=true/\(bG M s (j:Int)).1.ar=s.ar:=by
  cases Y:s.sl (j:Int) with
  | none=>
   rw [vH];rw [Ai Y J];exact ⟨by show (upS s.sl (j:Int) (dx s.fr) (j:Int)).getD zT0=_; rw [fb]; rfl,rfl,rfl⟩
  | some t=>
   rw [vH];rw [IB Y J];exact ⟨by show (s.sl (j:Int)).getD zT0=t; rw [Y]; rfl,rfl,rfl⟩
 obtain ⟨q1,q2,q3⟩:=b1;obtain ⟨n,hn⟩:∃ n,n=bG M s (j:Int):=⟨_,rfl⟩
 rw [<- hn] at a hn1 B q2 q3;have q1:(slL M n.1.sl)[j]=n.2.1:=by subst hn; exact q1
 obtain ⟨a3,c3,b7,_⟩:=id hn1;obtain ⟨b,o,cap,cc,E,fz,ev,b8,r⟩:=hn1.at_ B;rw [q1] at r;have N:=r.length;obtain ⟨ct,a6⟩:∃ ct,ct=bJ cc (o+j * 4) 4:=⟨_,rfl⟩
 rw [<- a6] at r N;refine ⟨fun D ov ny m8 kI mx nH G=>Fx D 0 [nH=.agg #[O,v2,.int .i64 (n.1.fr:Int),.int .i64 (p:Int),.bool ok],mx=.pointer (some ⟨C,0,none⟩),kI=.slice (some ⟨b,o,none⟩) (slL M n.1.sl).length cap,m8=.int .i64 (j:Int),ny=.pointer (some ⟨b,o+j * 4,none⟩),ov=.agg ct.toArray,True,True]/\Inv w [] [.blk C (.cells #[O,v2,.int .i64 (n.1.fr:Int),.int .i64 (p:Int),.bool ok] al),.blk U (.cells (cond (D 6) #[O,v2,.int .i64 (n.1.fr:Int),.int .i64 (p:Int),.bool ok] iM) al),.blk V (.cells (cond (D 7) ct.toArray AE) ac)] S1 G,⟨Fx.nil _ _,a.draw⟩,⟨?_,?_,?_,?_,?_,?_,?_,?_,trivial⟩,?_⟩;all_goals (intro D bp; intros; rename_i ov ny m8 kI mx nH G m; have l:=m.1; obtain ⟨⟨cF,ci,cG,cD,bU,cH,cj,cR,_⟩,a⟩:=m)
 ·refine aq a 0 aS rfl rfl ?_;exact ⟨l.set 0 rfl,a⟩
 ·refine ax gc ?_;exact ⟨l.set 1 rfl,a⟩
 ·obtain rfl:=ci ‹_›;rw [<- ev];refine aG a 0 aw rfl rfl ?_;exact ⟨l.set 2 rfl,a⟩
 ·exact ⟨l.set 3 rfl,a⟩
 ·obtain rfl:=cG ‹_›;obtain rfl:=cD ‹_›;refine aN ao B ?_;exact ⟨l.set 4 rfl,a⟩
 ·obtain rfl:=bU ‹_›;refine eE (cs:=ct) af N (fun i v hi=>by rw [a.cellS b8]; exact bf a6.symm i v hi) ?_;exact ⟨l.set 5 rfl,a⟩
 ·obtain rfl:=cF ‹_›;rw [bp] at a;refine aj a 1 rfl aS rfl rfl (by simp [Value.oneCell',b7,a4]) fun G a=>?_;exact ⟨l.set 6 trivial,a⟩
 ·obtain rfl:=cH ‹_›;rw [bp] at a;refine aj a 2 rfl af (by simpa using N) rfl (by simpa using r.one) fun G a=>?_;exact ⟨l.set 7 trivial,a⟩
 obtain ⟨rfl,rfl,rfl,rfl,rfl,rfl,_,_,_⟩:=l.all;have F5:D 6=true:=by assumption
 have nI:D 7=true:=by assumption
 clear l cF ci cG cD bU cH cj cR;rw [F5,nI] at a;refine be a 1 aS rfl rfl ?_;refine be a 2 af rfl (by simpa using N) ?_;refine ⟨_,_,S1,rfl,a.nil,q,rfl,[O,v2,.int .i64 (n.1.fr:Int),.int .i64 (p:Int),.bool ok],ct,rfl,?_,by rw [<- hn]; exact r⟩;rw [<- hn,q2,OS];exact ⟨O,v2,rfl,hn1,by rw [q3]; exact h2.monoT q.1⟩
theorem zD {M:Nat} {s:RI} {b:Int} {t:T} {p:Nat} {ok:Bool} {cs ct:nA} (h:RdR S M s p ok cs) (J:RdT S ct t) :
  nB PX [.agg cs.toArray,ee b,.agg ct.toArray] [] S fun r I' S'=>I'=[]/\∃ B,r=.agg B.toArray/\RdR S' M (kl s b t).1 p (ok && (kl s b t).2) B:=by
 intro w a;obtain ⟨v1,v2,rfl,O,G⟩:=h;have m:=J.length;refine CV.2 ?_;dsimp only[CV,eX];refine bH a fun b3 w' a=>?_;refine bH a fun C w' a=>?_;refine aE a fo fun D w' a=>?_;have a:Inv w [] [ei b3 #[v1,v2,ee (s.fr:Int),ee (p:Int),.bool ok] al,ei C ct.toArray ac,ei D iM al] S w':=a;obtain ⟨a1,c1,o,_⟩:=id O;obtain ⟨a2,c2,U,_⟩:=id G;refine ⟨fun z w'=>z=.bool (decide (b<0 ∨ 4<=b))/\Inv w [] [ei b3 #[v1,v2,ee (s.fr:Int),ee (p:Int),.bool ok] al,ei C ct.toArray ac,ei D iM al] S w',?_,?_⟩
 ·refine cd ?_;by_cases Y:b<0
  ·rw [aD Y];refine rpG ?_;exact ⟨by rw [aD (Or.inl Y)],a⟩
  ·rw [aM Y];refine rpG ?_;refine ah a 0 rfl iD aw rfl ?_;refine aO G ao ?_;refine iK ?_;refine rpG ?_;refine ⟨?_,a⟩;rw [iv]
   congr 1
   exact cW.2 (by omega)
 intro z _ _ _ _ _ _ _ _ w';rintro ⟨rfl,a⟩;refine aJ (fun Z=>?_) (fun N=>?_)
 ·refine cq a 0 rfl di ir rfl rfl rfl fun w' a=>?_;refine aq a 0 aS rfl rfl ?_;refine aj a 2 rfl aS rfl rfl (by simp [Value.oneCell',o,U]) fun w' a=>?_;refine be a 2 aS rfl rfl ?_;have e:kl s b t=(s,false):=by rw [kl,Ao,ae (by omega)]
  exact ⟨_,_,S,rfl,a.nil,Ext.refl _ _ _,rfl,[v1,v2,ee (s.fr:Int),ee (p:Int),.bool false],rfl,by rw [e];exact ⟨v1,v2,by rw [zR],O,G⟩⟩
 obtain ⟨j,rfl⟩:∃ j:Nat,b=(j:Int):=⟨b.toNat,by omega⟩
 have a0:j<4:=by omega
 refine eZ a bi fun ve w' a=>?_;refine ah a 0 rfl iD aw rfl ?_;refine ge a 3 (css:=[]) bi (by omega) rfl G (fun _ _=>RdT.length) (fun _ _=>RdT.one) (by rw [iv];simp) (by omega) fun vn w' css hR a=>?_;rw [gW] at a;have V:=hR.hc;rw [iv] at V;obtain ⟨g,cap,rfl⟩:=a.rowShape (i:=3) rfl (by omega);refine cq a 0 rfl iD aw rfl rfl rfl fun w' a=>?_;have a:Inv w [] [ei b3 #[v1,kt g 0 css.length cap,ee (s.fr:Int),ee (p:Int),.bool ok] al,ei C ct.toArray ac,ei D iM al,aB (kt g 0 css.length cap) ac 4 css] S w':=a;refine ah a 0 rfl iD aw rfl ?_;refine aq a 1 af rfl (by simpa using m) ?_;refine aN ao (by omega) ?_;refine s9 a 3 rfl af (by omega) (cS _) hR.hk (ds:=ct) (by simp [Value.cells]) m J.one fun w' a=>?_;refine aq a 0 aS rfl rfl ?_;refine aj a 2 rfl aS rfl rfl (by simp [Value.oneCell',o]) fun w' a=>?_;refine be a 2 aS rfl rfl ?_;have a:Inv w [] ([ei b3 #[v1,kt g 0 css.length cap,ee (s.fr:Int),ee (p:Int),.bool ok] al,ei C ct.toArray ac,ei D #[v1,kt g 0 css.length cap,ee (s.fr:Int),ee (p:Int),.bool ok] al]++[aB (kt g 0 css.length cap) ac 4 (css.set j ct)]) S w':=a;obtain ⟨S1,l,q,a⟩:=a.lendExt;have hn1:=RowRd.rows ((hR.setA (j:=j) J m).monoR fun _ _ h=>h.mono l.1) q;rw [<- T3] at hn1;have e:kl s (j:Int) t=(⟨s.sl,upS s.ar (j:Int) t,s.fr,s.st⟩,true):=by rw [kl,Ao,ag (by omega)]
 exact ⟨_,_,S1,rfl,a.nil,l,rfl,[v1,kt g 0 css.length cap,ee (s.fr:Int),ee (p:Int),.bool ok],rfl,by rw [e];exact ⟨v1,_,by rw [OS],O.monoT l.1,hn1⟩⟩
end
end
section
open Go Go.RowKit
def fE (M:Nat) (code:List Ist):Nat->RI->Nat->Bool->List T->RI × Nat × Bool × List T
 | 0,s,p,ok,out=>(s,p,ok,out)
 | n+1,s,p,ok,out=>
  if ok=false then (s,p,false,[]) else match code[p]? with
  | none=>(s,p,false,[])
  | some x=>
   if x.op=6 then fE M code n s (p+1) ok (out++[eH x.a])
   else if x.op=4 ∨ x.op=5 then fE M code n (bG M s x.a).1 (p+1) (ok && (bG M s x.a).2.2) (out++[(bG M s x.a).2.1])
   else fE M code n s (p+1) false out
theorem ic {M:Nat} {s:RI} (h:g9 M s) (k:Int):g9 M (bG M s k).1:=by
 unfold bG;split
 ·rename_i s' t e
  exact (nZ h e).1
 ·exact h
theorem Jj {S:ai}:∀ cs x,cZ S cs x->cs.length=4:=fun cs x h=>by rw [show cs=x.cells from h]; rfl
theorem KD (x:Ist):∀ u∈x.cells,u.oneCell'=true:=by
 obtain ⟨a,b,c,d⟩:=x;simp [Ist.cells,Value.oneCell']
section
variable {S:ai}
theorem Ku {M:Nat} (hM:M<=1000) {code:List Ist} {vc:Value} (hc:RdSl S 4 (cZ S) vc code) (c5:∀ x∈code,inI x.a) {s:RI} (hs:g9 M s) {n:Int} (hn:n<=1000) {p:Nat} {ok:Bool} {cs:nA} (h:RdR S M s p ok cs) (hp:p<=1000000) :
  nB Pp [vc,.agg cs.toArray,ee n] [] S fun r I' S'=>I'=[]/\∃ c4 kv,r=.tuple #[.agg c4.toArray,kv]/\RdR S' M (fE M code n.toNat s p ok []).1 (fE M code n.toNat s p ok []).2.1 (fE M code n.toNat s p ok []).2.2.1 c4/\RdSl S' 4 (RdT S') kv (fE M code n.toNat s p ok []).2.2.2:=by
 intro w g;have d3:=h.length;have d4:=hc.le;simp only [maxLen] at d4;refine Ca.2 ?_;dsimp only[Ca,eX];refine bH g fun b4 w' g=>?_;refine aE g fo fun b6 w' g=>?_;refine eZ g bi fun ve w' g=>?_;have g:Inv w [] [ei b4 cs.toArray al,ei b6 iM al,aB ve ac 4 []] S w':=g;obtain ⟨D,a5⟩:∃ D,D=fE M code n.toNat s p ok []:=⟨_,rfl⟩
 rw [<- a5];refine ⟨fun i o w'=>∃ (j:Nat) (q:RI) (m:Nat) (t:Bool) (out:List T) (css:List (nA)) (J:nA) (S1:ai),j<=n.toNat/\i=ee j/\fE M code (n.toNat - j) q m t out=D/\g9 M q/\Ext w.heap.size [] S S1/\RdR S1 M q m t J/\m<=1000000+j/\Rows 4 (RdT S1) css out/\css.length<=j/\Inv w [] [ei b4 J.toArray al,ei b6 iM al,aB o ac 4 css] S1 w',
  fun i _ _=>n.toNat - (intOf i).toNat,⟨0,s,p,ok,[],[],cs,S,aT _,rfl,by rw [Je];exact a5.symm,hs,Ext.refl _ _ _,h,by omega,Rows.nil _ _,aY _,g⟩,?_⟩
 clear g h hs d3;intro i _ _ _ _ _ _ _ _ _ _ _ _ _ _ _ _ _ _ _ _ o _ _ _ _ _ _ _ _ _ _ _ _ _ _ _ _ _ _ _ _ _ _ _ _ _ _ _ _ _ _ _ _ _ _ _ _ w';rintro ⟨j,q,m,t,out,css,J,S1,hj,rfl,l,V,hE,Y,d7,hR,d9,g⟩;have a7:=Y.length;refine cd ?_;refine aJ (fun c9=>?_) (fun c9=>?_)
 ·obtain ⟨N,hN⟩:∃ N,n.toNat - j=N+1:=⟨n.toNat - j - 1,by omega⟩
  rw [hN,fE] at l;obtain ⟨v1,v2,rfl,h1,h2⟩:=id Y;obtain ⟨a1,c1,d1,_⟩:=id h1;obtain ⟨a2,c2,d2,_⟩:=id h2;have b9:=hc.monoK hE.1;refine ⟨fun o2 w'=>∃ (s2:RI) (O:Bool) (G:List T) (B:List (nA)) (U:nA) (S2:ai),fE M code N s2 (m+1) O G=D/\g9 M s2/\Ext w.heap.size [] S S2/\RdR S2 M s2 (m+1) O U/\Rows 4 (RdT S2) B G/\B.length<=j+1/\Inv w [] [ei b4 U.toArray al,ei b6 iM al,aB o2 ac 4 B] S2 w',?_,?_⟩
  ·refine ⟨fun z w'=>z=.bool (decide (code.length<=m ∨ t=false))/\Inv w [] [ei b4 #[v1,v2,ee (q.fr:Int),ee (m:Int),.bool t] al,ei b6 iM al,aB o ac 4 css] S1 w',?_,?_⟩
   ·refine ah g 0 rfl fm au rfl ?_;refine aO b9 bx ?_;refine iK ?_;by_cases e1:code.length<=m
    ·rw [aD (show (code.length:Int)<=(m:Int) by omega)];refine rpG ?_;exact ⟨by rw [aD (Or.inl e1)],g⟩
    ·rw [aM (show ¬ (code.length:Int)<=(m:Int) by omega)];refine rpG ?_;refine ah g 0 rfl di ir rfl ?_;refine c8 ?_;refine rpG ?_;refine ⟨?_,g⟩
     congr 1
     cases t
     ·rw [aD (Or.inr rfl)];rfl
     ·rw [aM (by intro e;rcases e with e|e;exact e1 e;cases e)];rfl
   intro z _ _ _ _ _ _ _ _ _ w';rintro ⟨rfl,g⟩;refine aJ (fun b3=>?_) (fun a6=>?_)
   ·have l:(q,m,false,([]:List T))=D:=by
     by_cases e:t=false
     ·rw [ag e] at l;exact l
     ·rw [ae e,QV (by rcases b3 with e2|e2;exact e2;exact absurd e2 e)] at l;exact l
    refine cq g 0 rfl di ir rfl rfl rfl fun w' g=>?_;refine aq g 0 aS rfl rfl ?_;refine aj g 1 rfl aS rfl rfl (by simp [Value.oneCell',d1,d2]) fun w' g=>?_;refine be g 1 aS rfl rfl ?_;rw [<- l];exact ⟨_,_,S1,rfl,g.nil,hE,rfl,[v1,v2,ee (q.fr:Int),ee (m:Int),.bool false],_,rfl,⟨v1,v2,rfl,h1,h2⟩,⟨none,0,rfl,aY _,aT _,.inl rfl⟩⟩
   have d6:t=true:=by
    cases t
    ·exact absurd (.inr rfl) a6
    ·rfl
   subst d6;have a8:m<code.length:=by omega
   have c3:=c5 _ (cO a8);rw [ae (by decide),me a8] at l;obtain ⟨x,hx⟩:∃ x,x=code[m]:=⟨_,rfl⟩
   rw [<- hx] at l c3;refine ah g 0 rfl fm au rfl ?_;refine dj g b9 bx dF a8 Jj fun d0 b5=>?_;rw [show d0=code[m].cells from b5,<- hx];refine aE g tO fun b7 w' g=>?_;refine aj g 3 rfl dF rfl rfl (KD x) fun w' g=>?_;refine ah g 0 rfl fm au rfl ?_;refine bL (by omega) ?_;refine cq g 0 rfl fm au rfl rfl rfl fun w' g=>?_;have g:Inv w [] [ei b4 #[v1,v2,ee (q.fr:Int),ee ((m+1:Nat):Int),.bool true] al,ei b6 iM al,aB o ac 4 css,ei b7 #[ee x.op,ee x.a,ee x.b,.string x.name] ay] S1 w':=g;refine ah g 3 rfl ew au rfl ?_;have a3:RdR S1 M q (m+1) true [v1,v2,ee (q.fr:Int),ee ((m+1:Nat):Int),.bool true]:=⟨v1,v2,rfl,h1,h2⟩
   refine a9 ?_;refine aJ (fun h6=>?_) (fun h6=>?_)
   ·have l:fE M code N q (m+1) true (out++[eH x.a])=D:=by rw [<- l];exact (ag h6).symm
    refine ah g 3 rfl bZ au rfl ?_;refine Run.callPure jy jG g (gv _ S1) fun w' g=>?_;refine dB g 2 [ee 2,ee x.a,.string ⟨#[]⟩,nx] bi (by omega) (by omega) rfl rfl (F9 2 x.a) (by omega) (by omega) fun v' w' g=>?_;exact ⟨q,true,_,_,_,S1,l,V,hE,a3,hR.snoc (qn S1 x.a c3) rfl,by rw [bt,lG];omega,g.pick [true,true,true,false]⟩
   have l:=l;refine ⟨fun z w'=>z=.bool (decide (x.op=4 ∨ x.op=5))/\Inv w [] [ei b4 #[v1,v2,ee (q.fr:Int),ee ((m+1:Nat):Int),.bool true] al,ei b6 iM al,aB o ac 4 css,ei b7 #[ee x.op,ee x.a,ee x.b,.string x.name] ay] S1 w',?_,?_⟩
   ·refine a9 ?_;refine aJ (fun _=>⟨by congr 1;exact cW.2 (by omega),g⟩) (fun _=>?_);refine a9 ?_;exact ⟨by congr 1;exact cW.2 (by omega),g⟩
   intro _ z _ w';rintro ⟨rfl,g⟩;refine aJ (fun h4=>?_) (fun h4=>?_)
   ·have l:fE M code N (bG M q x.a).1 (m+1) (true && (bG M q x.a).2.2) (out++[(bG M q x.a).2.1])=D:=by rw [<- l];exact ((ae h6).trans (ag h4)).symm
    refine aq (c:=[v1,v2,ee (q.fr:Int),ee ((m+1:Nat):Int),.bool true].toArray) g 0 aS rfl rfl ?_;refine ah g 3 rfl bZ au rfl ?_;refine Run.call0E jL jH g (iT hM V a3) fun v' I' S2 w'=>?_;rintro ⟨rfl,b1,ct,rfl,Z,a0⟩ C g;have b0:=Z.length;have a4:=a0.length;refine aA (v:=.agg b1.toArray) rfl ?_;refine aA (v:=.agg ct.toArray) rfl ?_;refine aE g fo fun e0 w' g=>?_;refine aE g aQ fun e3 w' g=>?_;refine aj g 4 rfl aS (by simpa using b0) rfl (by simpa using Z.one) fun w' g=>?_;refine aj g 5 rfl af (by simpa using a4) rfl (by simpa using a0.one) fun w' g=>?_;refine aq g 4 aS rfl (by simpa using b0) ?_;refine aj g 0 rfl aS (by simpa using b0) rfl (by simpa using Z.one) fun w' g=>?_;refine aq g 5 af rfl (by simpa using a4) ?_;refine dB g 2 ct bi (by omega) (by omega) rfl a4 a0.one (by omega) (by omega) fun v' w' g=>?_;exact ⟨_,_,_,_,b1,S2,l,ic V _,hE.trans C,Z,(hR.monoR fun _ _=>RdT.mono C.1).snoc a0 a4,by rw [bt,lG];omega,g.pick [true,true,true,false,false,false]⟩
   ·have l:fE M code N q (m+1) false out=D:=by rw [<- l];exact ((ae h6).trans (ae h4)).symm
    refine cq g 0 rfl di ir rfl rfl rfl fun w' g=>?_;exact ⟨q,false,out,css,[v1,v2,ee (q.fr:Int),ee ((m+1:Nat):Int),.bool false],S1,l,V,hE,⟨v1,v2,rfl,h1,h2⟩,hR,by omega,g.pick [true,true,true,false]⟩
  clear g;intro _ _ _ _ _ _ _ _ _ _ _ _ _ _ _ _ _ _ o2 _ _ _ _ _ _ _ _ _ _ _ _ _ _ _ _ _ _ _ _ _ _ _ _ _ _ _ _ _ _ _ _ _ w';rintro ⟨s2,O,G,B,U,S2,l,c6,C,a3,c7,b2,g⟩;refine bL (by omega) ?_;exact ⟨⟨j+1,s2,m+1,O,G,B,U,S2,by omega,rfl,by rw [show n.toNat - (j+1)=N by omega];exact l,c6,C,a3,by omega,c7,b2,g⟩,by simp only [intOf,dH];omega⟩
 ·rw [show n.toNat - j=0 by omega,fE] at l;refine aq g 0 aS rfl (by simpa using a7) ?_;refine aj g 1 rfl aS (by simpa using a7) rfl (by simpa using Y.one) fun w' g=>?_;refine be g 1 aS rfl (by simpa using a7) ?_;have g:Inv w [] ([ei b4 J.toArray al,ei b6 J.toArray al]++[aB o ac 4 css]) S1 w':=g;obtain ⟨S2,C,b8,g⟩:=g.lendExt;have hk:=RowRd.rows (hR.monoR fun _ _ h=>h.mono C.1) b8;rw [<- l];exact ⟨_,_,S2,rfl,g.nil,hE.trans C,rfl,J,_,rfl,Y.mono C.1,hk⟩
end
end
section
open Go Go.RowKit
noncomputable def uniW (s:RI) (a b:T) (p:Nat) (ok:Bool):RI × Nat × Bool:=
 if ok=true then (⟨s.sl,s.ar,s.fr,(uniV s.st a b).2⟩,p,(uniV s.st a b).1) else (s,p,false)
noncomputable def oneV (M:Nat) (code:List Ist) (s:RI) (p:Nat) (x:Ist):RI × Nat × Bool:=
 if x.op=2 then uniW (bG M s x.b).1 (bG M s x.b).2.1 (eH x.a) p (bG M s x.b).2.2
 else if x.op=1 then uniW (bG M (bG M s x.b).1 x.a).1 (bG M s x.b).2.1 (bG M (bG M s x.b).1 x.a).2.1 p ((bG M s x.b).2.2 && (bG M (bG M s x.b).1 x.a).2.2)
 else if x.op=3 ∨ x.op=7 then uniW (fE M code x.a.toNat (bG M s x.b).1 p (bG M s x.b).2.2 []).1 (bG M s x.b).2.1 (fnT x.name (fE M code x.a.toNat (bG M s x.b).1 p (bG M s x.b).2.2 []).2.2.2) (fE M code x.a.toNat (bG M s x.b).1 p (bG M s x.b).2.2 []).2.1 (fE M code x.a.toNat (bG M s x.b).1 p (bG M s x.b).2.2 []).2.2.1
 else if x.op=10 then ((kl s x.b (eH x.a)).1,p,(kl s x.b (eH x.a)).2)
 else if x.op=8 ∨ x.op=9 then ((kl (bG M s x.a).1 x.b (bG M s x.a).2.1).1,p,(bG M s x.a).2.2 && (kl (bG M s x.a).1 x.b (bG M s x.a).2.1).2)
 else (s,p,false)
theorem dT {M:Nat} {s:RI} (h:g9 M s) (k:Int) (a:(bG M s k).2.2=true):(okU (bG M s k).1.fr (bG M s k).2.1/\wB (bG M s k).2.1)/\s.fr<=(bG M s k).1.fr/\(bG M s k).1.st=s.st/\lE M s k=some ((bG M s k).1,(bG M s k).2.1):=by
 unfold bG at a ⊢;split at a
 ·rename_i s' t e
  obtain ⟨_,g,i,_,j⟩:=nZ h e;rw [e];exact ⟨g,i,j,rfl⟩
 ·cases a
theorem sB {M:Nat} {s:RI} (k:Int):(bG M s k).1.st=s.st:=by
 unfold bG lE;split
 ·rename_i s' t e
  split at e
  ·rw [bj] at e;split at e
   ·obtain ⟨rfl,rfl⟩:=Prod.mk.inj e;rfl
   ·obtain ⟨rfl,rfl⟩:=Prod.mk.inj e;rfl
  ·cases e
 ·rfl
theorem r8 {M:Nat} {code:List Ist}:∀ (n:Nat) {s:RI} {p:Nat} {ok:Bool} {out:List T},g9 M s->g9 M (fE M code n s p ok out).1/\(fE M code n s p ok out).1.st=s.st
 | 0,_,_,_,_,h=>⟨h,rfl⟩
 | n+1,s,p,ok,out,h=>by
  rw [fE];split
  ·exact ⟨h,rfl⟩
  split
  ·exact ⟨h,rfl⟩
  split
  ·exact r8 n h
  split
  ·obtain ⟨g,i⟩:=r8 (code:=code) n (p:=p+1) (ok:=ok && (bG M s ‹Ist›.a).2.2) (out:=out++[(bG M s ‹Ist›.a).2.1]) (ic h ‹Ist›.a);exact ⟨g,i.trans (sB _)⟩
  ·exact r8 n h
theorem nP {M:Nat} {code:List Ist} (n:Nat) (s:RI) (p:Nat) (out:List T):(fE M code n s p false out).2.2.1=false:=by
 cases n with
 | zero=>rfl
 | succ n=>rw [fE,ag rfl]
theorem tI {M:Nat} {code:List Ist}:∀ (n:Nat) {s:RI} {p:Nat} {out:List T},g9 M s->(fE M code n s p true out).2.2.1=true->∃ us,we M s ((code.drop p).take n)=some ((fE M code n s p true out).1,us)/\(fE M code n s p true out).2.2.2=out++us/\(fE M code n s p true out).2.1=p+n/\p+n<=max p code.length
 | 0,s,p,out,h,_=>⟨[],by rw [JG,we];rfl,by rw [dk];rfl,rfl,by omega⟩
 | n+1,s,p,out,h,he=>by
  rw [fE,ae (by decide)] at he ⊢;cases q:code[p]? with
  | none=>rw [q] at he;cases he
  | some x=>
   rw [q] at he;obtain ⟨i,j⟩:=ie.1 q;rw [ef i,En,j,we];simp only at he ⊢;by_cases g:x.op=6
   ·rw [ag g] at he ⊢;rw [ag g];obtain ⟨us,l,m,o,B⟩:=tI n h he;rw [l];exact ⟨_,rfl,by rw [m,cN];rfl,by rw [o];omega,by omega⟩
   ·rw [ae g] at he ⊢;rw [ae g];by_cases r:x.op=4 ∨ x.op=5
    ·rw [ag r] at he ⊢;rw [ag r];cases t:(bG M s x.a).2.2 with
     | false=>
      rw [t,zR,nP] at he;cases he
     | true=>
      rw [t,OS] at he;rw [OS];obtain ⟨us,l,m,o,B⟩:=tI n (ic h x.a) he;rw [(dT h x.a t).2.2.2,dq,l];exact ⟨_,rfl,by rw [m,cN];rfl,by rw [o];omega,by omega⟩
    ·rw [ae r,nP] at he;cases he
section
variable {S:ai}
theorem wH {M kp:Nat} (U:M<=1000) {s:RI} (m:g9 M s) {a b:T} (t:okU s.fr a/\wB a) (B:okU s.fr b/\wB b) {cs ds:nA} {j:Nat} {l:Array Value} (h:RdT S cs a) (C:RdT S ds b) (hk:KnU S l s.st) :
  nB Pe [kvU j (M+1) kp,.agg cs.toArray,.agg ds.toArray] [ei j l ac] S fun q I' S'=>S'=S/\q=.bool (uniV s.st a b).1/\∃ i,I'=[ei j i ac]/\KnU S i (uniV s.st a b).2:=by
 intro w g;have p:=h.length;have r:=C.length;have D:okJ (M+1) (.one a b):=⟨⟨cP m.ok.le _ t.1,t.2⟩,⟨cP m.ok.le _ B.1,B.2⟩⟩
 obtain ⟨X,O⟩:∃ X,X=cg [Item.blk j (.cells l ac)]:=⟨_,rfl⟩
 rw [<- O] at g ⊢;refine Bn.2 ?_;dsimp only[Bn,eX];refine bH g fun J w' g=>?_;refine bH g fun N w' g=>?_;have g:Inv w X ([ei J cs.toArray ac,ei N ds.toArray ac]++[ei j l ac]) S w':=g.perm (bD (l₁:=[_,_]) (l₂:=[_]));refine aq g 0 af rfl (by simpa using p) ?_;refine aq g 1 af rfl (by simpa using r) ?_;refine Run.callE (A:=[_,_]) qi qd g (Hr (kp:=kp) (by omega) m.ok.good D (lN m.ok.good D) S cs ds j l h C hk) fun v' I' S' w'=>?_;rintro ⟨G,rfl,i,rfl,o⟩ _ g;rw [G] at g;exact ⟨_,_,S,rfl,g.sub (fj [_,_] _),Ext.refl _ _ _,rfl,rfl,i,rfl,o⟩
theorem QL {s:RI} {b:Int} {t:T}:(kl s b t).1.st=s.st:=by
 unfold kl Ao;split
 ·rename_i a e
  split at e
  ·rw [bj] at e;subst e;rfl
  ·cases e
 ·rfl
theorem yP {s:RI} {a b:T} {p:Nat}:(uniW s a b p false)=(s,p,false):=by rw [uniW,ae (by decide)]
theorem NJ {M kp:Nat} (hM:M<=1000) {code:List Ist} {vc:Value} (hc:RdSl S 4 (cZ S) vc code) (f4:∀ x∈code,inI x.a) {s:RI} (hs:g9 M s) {x:Ist} (hx:lmS x) {p:Nat} (hp:p<=1000000) {cs:nA} (h:RdR S M s p true cs) {Z:Nat} {G:Array Value} (hk:KnU S G s.st) :
  nB SU [vc,.agg cs.toArray,.agg x.cells.toArray,kvU Z (M+1) kp] [ei Z G ac] S (fun r I' S'=>∃ f3 l,r=.agg f3.toArray/\I'=[ei Z l ac]/\RdR S' M (oneV M code s p x).1 (oneV M code s p x).2.1 (oneV M code s p x).2.2 f3/\KnU S' l (oneV M code s p x).1.st):=by
 intro w g;have d6:=h.length;have g7:=hx.1;have g4:=hx.size;obtain ⟨X,hX⟩:∃ X,X=cg [Item.blk Z (.cells G ac)]:=⟨_,rfl⟩
 rw [<- hX] at g ⊢;refine Fw.2 ?_;dsimp only[Fw,vg];refine bH g fun b5 w' g=>?_;refine bH g fun b6 w' g=>?_;refine aE g fo fun b8 w' g=>?_;have g:Inv w X [ei Z G ac,ei b5 cs.toArray al,ei b6 #[ee x.op,ee x.a,ee x.b,.string x.name] ay,ei b8 iM al] S w':=g;refine ah g 2 rfl ew au rfl ?_;refine ⟨fun z w'=>z=.bool (decide (x.op=2 ∨ x.op=1))/\Inv w X [ei Z G ac,ei b5 cs.toArray al,ei b6 #[ee x.op,ee x.a,ee x.b,.string x.name] ay,ei b8 iM al] S w',?_,?_⟩
 ·refine a9 ?_;refine aJ (fun _=>⟨by congr 1;exact cW.2 (by omega),g⟩) (fun _=>?_);refine a9 ?_;exact ⟨by congr 1;exact cW.2 (by omega),g⟩
 intro _ z _ w';rintro ⟨rfl,g⟩;refine aJ (fun g0=>?_) (fun g0=>?_)
 ·refine aq g 1 aS rfl (by simpa using d6) ?_;refine ah g 2 rfl dL au rfl ?_;refine Run.call0E jL jH g (iT hM hs h) fun v' I' S2 w'=>?_;rintro ⟨rfl,J,o,rfl,m,B⟩ a3 g;rw [fk] at m;have a5:=m.length;have C:=B.length;refine aA (v:=.agg J.toArray) rfl ?_;refine aA (v:=.agg o.toArray) rfl ?_;refine aE g fo fun b9 w' g=>?_;refine aE g aQ fun b4 w' g=>?_;refine aj g 4 rfl aS (by simpa using a5) rfl (by simpa using m.one) fun w' g=>?_;refine aj g 5 rfl af (by simpa using C) rfl (by simpa using B.one) fun w' g=>?_;refine ah g 2 rfl bZ au rfl ?_;refine Run.callPure jy jG g (gv _ S2) fun w' g=>?_;refine aE g aQ fun b7 w' g=>?_;refine aj g 6 rfl af rfl rfl (F9 2 x.a) fun w' g=>?_;have g:Inv w X [ei Z G ac,ei b5 cs.toArray al,ei b6 #[ee x.op,ee x.a,ee x.b,.string x.name] ay,ei b8 iM al,ei b9 J.toArray al,ei b4 o.toArray ac,ei b7 #[ee 2,ee x.a,.string ⟨#[]⟩,nx] ac] S2 w':=g;obtain ⟨q,hq⟩:∃ q,q=bG M s x.b:=⟨_,rfl⟩
  rw [<- hq] at m B;have a6:g9 M q.1:=by rw [hq];exact ic hs _
  have d7:q.1.st=s.st:=by rw [hq];exact sB _
  refine ⟨fun w'=>∃ (s3:RI) (a0:Bool) (tb:T) (a7 c3:nA) (S3:ai),oneV M code s p x=uniW s3 q.2.1 tb p a0/\g9 M s3/\s3.st=s.st/\(a0=true->(okU s3.fr q.2.1/\wB q.2.1)/\(okU s3.fr tb/\wB tb))/\Ext w.heap.size X S S3/\Sle S2 S3/\RdR S3 M s3 p a0 a7/\RdT S3 c3 tb/\Inv w X [ei Z G ac,ei b5 cs.toArray al,ei b6 #[ee x.op,ee x.a,ee x.b,.string x.name] ay,ei b8 iM al,ei b9 a7.toArray al,ei b4 o.toArray ac,ei b7 c3.toArray ac] S3 w',?_,?_⟩
  ·refine ah g 2 rfl ew au rfl ?_;refine a9 ?_;refine aJ (fun h1=>?_) (fun h1=>?_)
   ·refine aq g 4 aS rfl (by simpa using a5) ?_;refine ah g 2 rfl bZ au rfl ?_;refine Run.call0E jL jH g (iT hM a6 m) fun v' I' S3 w'=>?_;rintro ⟨rfl,a7,c3,rfl,N,h3⟩ O g;have e4:=N.length;have c7:=h3.length;refine aA (v:=.agg a7.toArray) rfl ?_;refine aA (v:=.agg c3.toArray) rfl ?_;refine aj g 4 rfl aS (by simpa using e4) (by simpa using a5) (by simpa using N.one) fun w' g=>?_;refine aj g 6 rfl af (by simpa using c7) rfl (by simpa using h3.one) fun w' g=>?_;refine ⟨(bG M q.1 x.a).1,(q.2.2 && (bG M q.1 x.a).2.2),(bG M q.1 x.a).2.1,a7,c3,S3,?_,ic a6 _,(sB _).trans d7,fun e=>?_,a3.trans O,O.1,N,h3,g⟩
    ·rw [oneV,ae (by omega),ag h1,<- hq]
    ·rw [bQ] at e;have e1:=dT hs x.b (by rw [<- hq];exact e.1);have e2:=dT a6 x.a e.2;rw [<- hq] at e1;exact ⟨⟨cP e2.2.1 _ e1.1.1,e1.1.2⟩,e2.1⟩
   ·refine ⟨q.1,q.2.2,eH x.a,J,[ee 2,ee x.a,.string ⟨#[]⟩,nx],S2,?_,a6,d7,fun e=>?_,a3,Sle.refl _,m,qn S2 x.a (by unfold inI;omega),g⟩
    ·rw [oneV,ag (by omega),<- hq]
    ·have e1:=dT hs x.b (by rw [<- hq];exact e);rw [<- hq] at e1;exact ⟨e1.1,g8 _ _⟩
  clear g;intro _ _ _ _ _ _ _ _ _ _ w';rintro ⟨s3,a0,tb,a7,c3,S3,i,f8,e7,b1,O,d9,N,h3,g⟩;obtain ⟨v1,v2,rfl,U,V⟩:=id N;have c7:=h3.length;obtain ⟨a1,c1,c5,_⟩:=id U;obtain ⟨a2,c2,c6,_⟩:=id V;have c8:KnU S3 G s3.st:=by rw [e7];exact hk.mono (a3.1.trans d9)
  refine ⟨fun w'=>∃ (l:Array Value),KnU S3 l (uniW s3 q.2.1 tb p a0).1.st/\Inv w X [ei Z l ac,ei b5 cs.toArray al,ei b6 #[ee x.op,ee x.a,ee x.b,.string x.name] ay,ei b8 iM al,ei b9 #[v1,v2,ee (s3.fr:Int),ee (p:Int),.bool (uniW s3 q.2.1 tb p a0).2.2] al,ei b4 o.toArray ac,ei b7 c3.toArray ac] S3 w',?_,?_⟩
  ·refine ah g 4 rfl di ir rfl ?_;cases a0 with
   | true=>
    refine rpG ?_;obtain ⟨ha,hb⟩:=b1 rfl;refine aq g 5 af rfl (by simpa using C) ?_;refine aq g 6 af rfl (by simpa using c7) ?_;have g:Inv w X ([ei b5 cs.toArray al,ei b6 #[ee x.op,ee x.a,ee x.b,.string x.name] ay,ei b8 iM al,ei b9 #[v1,v2,ee (s3.fr:Int),ee (p:Int),.bool true] al,ei b4 o.toArray ac,ei b7 c3.toArray ac]++[ei Z G ac]) S3 _:=g.perm (bD (l₁:=[_,_,_,_,_,_]) (l₂:=[_]));refine Run.callE CQ Ct g (wH (kp:=kp) hM f8 ha hb (B.mono d9) h3 c8) fun v' I' S4 w'=>?_;rintro ⟨eS,rfl,l,rfl,b0⟩ _ g;rw [eS] at g;have g:Inv w X ([ei Z l ac]++[ei b5 cs.toArray al,ei b6 #[ee x.op,ee x.a,ee x.b,.string x.name] ay,ei b8 iM al,ei b9 #[v1,v2,ee (s3.fr:Int),ee (p:Int),.bool true] al,ei b4 o.toArray ac,ei b7 c3.toArray ac]) S3 _:=g.perm (bD (l₁:=[_]) (l₂:=[_,_,_,_,_,_]));refine rpG ?_;refine cq g 4 rfl di ir rfl rfl rfl fun w' g=>?_;exact ⟨l,b0,g⟩
   | false=>
    refine rpG ?_;refine cq g 4 rfl di ir rfl rfl rfl fun w' g=>?_;exact ⟨G,c8,g⟩
  clear g;intro _ _ _ _ _ _ _ _ _ w';rintro ⟨l,b0,g⟩;refine aq g 4 aS rfl rfl ?_;refine aj g 3 rfl aS rfl rfl (by simp [Value.oneCell',c5,c6]) fun w' g=>?_;refine be g 3 aS rfl rfl ?_;refine ⟨_,_,S3,rfl,g.pick [true],O,[v1,v2,ee (s3.fr:Int),ee (p:Int),.bool (uniW s3 q.2.1 tb p a0).2.2],l,rfl,rfl,?_,by rw [i];exact b0⟩;rw [i];cases a0 with
  | true=>exact ⟨v1,v2,rfl,U,V⟩
  | false=>exact ⟨v1,v2,rfl,U,V⟩
 refine ⟨fun z w'=>z=.bool (decide (x.op=3 ∨ x.op=7))/\Inv w X [ei Z G ac,ei b5 cs.toArray al,ei b6 #[ee x.op,ee x.a,ee x.b,.string x.name] ay,ei b8 iM al] S w',?_,?_⟩
 ·refine a9 ?_;refine aJ (fun _=>⟨by congr 1;exact cW.2 (by omega),g⟩) (fun _=>?_);refine a9 ?_;exact ⟨by congr 1;exact cW.2 (by omega),g⟩
 intro _ z _ w';rintro ⟨rfl,g⟩;refine aJ (fun a8=>?_) (fun a8=>?_)
 ·refine aq g 1 aS rfl (by simpa using d6) ?_;refine ah g 2 rfl dL au rfl ?_;refine Run.call0E jL jH g (iT hM hs h) fun v' I' S2 w'=>?_;rintro ⟨rfl,J,o,rfl,m,B⟩ a3 g;rw [fk] at m;have a5:=m.length;have C:=B.length;obtain ⟨q,hq⟩:∃ q,q=bG M s x.b:=⟨_,rfl⟩
  rw [<- hq] at m B;have a6:g9 M q.1:=by rw [hq];exact ic hs _
  have d7:q.1.st=s.st:=by rw [hq];exact sB _
  refine aA (v:=.agg J.toArray) rfl ?_;refine aA (v:=.agg o.toArray) rfl ?_;refine aE g fo fun c9 w' g=>?_;refine aE g aQ fun d0 w' g=>?_;refine aj g 4 rfl aS (by simpa using a5) rfl (by simpa using m.one) fun w' g=>?_;refine aj g 5 rfl af (by simpa using C) rfl (by simpa using B.one) fun w' g=>?_;refine aq g 4 aS rfl (by simpa using a5) ?_;refine ah g 2 rfl bZ au rfl ?_;refine Run.call0E LE My g (Ku hM (hc.monoK a3.1) f4 a6 (by omega) m hp) fun v' I' S3 w'=>?_;rintro ⟨rfl,a7,kv,rfl,N,e0⟩ O g;obtain ⟨j,d4⟩:∃ j,j=fE M code x.a.toNat q.1 p q.2.2 []:=⟨_,rfl⟩
  rw [<- d4] at N e0;have i:oneV M code s p x=uniW j.1 q.2.1 (fnT x.name j.2.2.2) j.2.1 j.2.2.1:=by
   rw [oneV,ae (by omega),ae (by omega),ag a8,<- hq,<- d4]
  have b1:g9 M j.1/\j.1.st=q.1.st:=by rw [d4];exact r8 _ a6
  have e9:j.2.2.1=true->(okU j.1.fr q.2.1/\wB q.2.1)/\(okU j.1.fr (fnT x.name j.2.2.2)/\wB (fnT x.name j.2.2.2)):=fun e=>by
   rw [d4] at e ⊢;cases e2:q.2.2 with
   | false=>rw [e2,nP] at e;cases e
   | true=>
    rw [e2] at e;obtain ⟨us,d1,d2,_⟩:=tI _ a6 e;obtain ⟨f1,f2,_,_,f5,f6⟩:=Gi _ a6 d1;have e1:=dT hs x.b (by rw [<- hq];exact e2);rw [<- hq] at e1;rw [d2,gW];refine ⟨⟨cP f2 _ e1.1.1,e1.1.2⟩,gT g4 ?_ f6⟩;rw [f5,ig];omega
  have e4:=N.length;refine aA (v:=.agg a7.toArray) rfl ?_;refine aA (v:=kv) rfl ?_;refine aE g fo fun d3 w' g=>?_;refine aj g 6 rfl aS (by simpa using e4) rfl (by simpa using N.one) fun w' g=>?_;obtain ⟨v1,v2,rfl,U,V⟩:=id N;obtain ⟨a1,c1,c5,_⟩:=id U;obtain ⟨a2,c2,c6,_⟩:=id V;have hE:=a3.trans O;have c8:KnU S3 G j.1.st:=by rw [b1.2,d7];exact hk.mono hE.1
  have g:Inv w X [ei Z G ac,ei b5 cs.toArray al,ei b6 #[ee x.op,ee x.a,ee x.b,.string x.name] ay,ei b8 iM al,ei c9 J.toArray al,ei d0 o.toArray ac,ei d3 #[v1,v2,ee (j.1.fr:Int),ee (j.2.1:Int),.bool j.2.2.1] al] S3 w':=g;refine ⟨fun w'=>∃ (l:Array Value),KnU S3 l (uniW j.1 q.2.1 (fnT x.name j.2.2.2) j.2.1 j.2.2.1).1.st/\Inv w X [ei Z l ac,ei b5 cs.toArray al,ei b6 #[ee x.op,ee x.a,ee x.b,.string x.name] ay,ei b8 iM al,ei c9 J.toArray al,ei d0 o.toArray ac,ei d3 #[v1,v2,ee (j.1.fr:Int),ee (j.2.1:Int),.bool (uniW j.1 q.2.1 (fnT x.name j.2.2.2) j.2.1 j.2.2.1).2.2] al] S3 w',?_,?_⟩
  ·refine ah g 6 rfl di ir rfl ?_;cases e3:j.2.2.1 with
   | true=>
    refine rpG ?_;obtain ⟨ha,hb⟩:=e9 e3;rw [e3] at g;refine aq g 5 af rfl (by simpa using C) ?_;refine ah g 2 rfl fu aV rfl ?_;obtain ⟨ak,ck,g1,_⟩:=id e0;subst g1;refine lc ⟨_,_,_,rfl⟩ ?_;have g:Inv w X ([ei b5 cs.toArray al,ei b6 #[ee x.op,ee x.a,ee x.b,.string x.name] ay,ei b8 iM al,ei c9 J.toArray al,ei d0 o.toArray ac,ei d3 #[v1,v2,ee (j.1.fr:Int),ee (j.2.1:Int),.bool true] al]++[ei Z G ac]) S3 _:=g.perm (bD (l₁:=[_,_,_,_,_,_]) (l₂:=[_]));refine Run.callE CQ Ct g (wH (kp:=kp) hM b1.1 ha hb (B.mono O.1) (ds:=[ee 3,ee 0,.string x.name,.slice ak j.2.2.2.length ck]) (wn e0 (by simp only [maxLen];omega)) c8) fun v' I' S4 w'=>?_;rintro ⟨eS,rfl,l,rfl,b0⟩ _ g;rw [eS] at g;have g:Inv w X ([ei Z l ac]++[ei b5 cs.toArray al,ei b6 #[ee x.op,ee x.a,ee x.b,.string x.name] ay,ei b8 iM al,ei c9 J.toArray al,ei d0 o.toArray ac,ei d3 #[v1,v2,ee (j.1.fr:Int),ee (j.2.1:Int),.bool true] al]) S3 _:=g.perm (bD (l₁:=[_]) (l₂:=[_,_,_,_,_,_]));refine rpG ?_;refine cq g 6 rfl di ir rfl rfl rfl fun w' g=>?_;exact ⟨l,b0,g⟩
   | false=>
    refine rpG ?_;rw [e3] at g;refine cq g 6 rfl di ir rfl rfl rfl fun w' g=>?_;exact ⟨G,by rw [yP];exact c8,by rw [yP];exact g⟩
  clear g;intro _ _ _ _ _ _ _ _ _ _ _ _ w';rintro ⟨l,b0,g⟩;refine aq g 6 aS rfl rfl ?_;refine aj g 3 rfl aS rfl rfl (by simp [Value.oneCell',c5,c6]) fun w' g=>?_;refine be g 3 aS rfl rfl ?_;refine ⟨_,_,S3,rfl,g.pick [true],hE,[v1,v2,ee (j.1.fr:Int),ee (j.2.1:Int),.bool (uniW j.1 q.2.1 (fnT x.name j.2.2.2) j.2.1 j.2.2.1).2.2],l,rfl,rfl,?_,by rw [i];exact b0⟩;rw [i];cases e3:j.2.2.1 with
  | true=>exact ⟨v1,v2,rfl,U,V⟩
  | false=>rw [yP];exact ⟨v1,v2,rfl,U,V⟩
 refine a9 ?_;refine aJ (fun a4=>?_) (fun a4=>?_)
 ·have i:oneV M code s p x=((kl s x.b (eH x.a)).1,p,(kl s x.b (eH x.a)).2):=by
   rw [oneV,ae (by omega),ae (by omega),ae a8,ag a4]
  refine ⟨fun D Xi Ir Ij Fo DH DK Eh w_=>Fx D 0 [Eh=.agg cs.toArray,DK=kh b6 2,DH=ee x.b,Fo=kh b6 1,Ij=ee x.a,Ir=.agg #[ee 2,ee x.a,.string ⟨#[]⟩,nx],True,True]/\∃ S2 t,Ext w.heap.size X S S2/\(D 6=true->Xi=.agg t.toArray/\RdR S2 M (kl s x.b (eH x.a)).1 p (true && (kl s x.b (eH x.a)).2) t)/\(D 7=true->D 6=true)/\Inv w X [ei Z G ac,ei b5 cs.toArray al,ei b6 #[ee x.op,ee x.a,ee x.b,.string x.name] ay,ei b8 (cond (D 7) t.toArray iM) al] S2 w_,⟨Fx.nil _ _,⟨S,[],Ext.refl _ _ _,aU,aU,g.draw⟩⟩,⟨?_,?_,?_,?_,?_,?_,?_,?_,trivial⟩,?_⟩;all_goals (intro D bp;intros;rename_i Xi Ir Ij Fo DH DK Eh w_ e8;have Y:=e8.1;obtain ⟨⟨cF,ci,cG,cD,bU,cH,cj,cR,_⟩,⟨S2,t,hN,k6,k7,g⟩⟩:=e8)
  ·refine aq g 1 aS rfl (by simpa using d6) ?_;exact ⟨Y.set 0 rfl,⟨S2,t,hN,k6,k7,g⟩⟩
  ·refine ax dL ?_;exact ⟨Y.set 1 rfl,⟨S2,t,hN,k6,k7,g⟩⟩
  ·obtain rfl:=ci ‹_›;refine aG g 2 au rfl rfl ?_;exact ⟨Y.set 2 rfl,⟨S2,t,hN,k6,k7,g⟩⟩
  ·refine ax bZ ?_;exact ⟨Y.set 3 rfl,⟨S2,t,hN,k6,k7,g⟩⟩
  ·obtain rfl:=cD ‹_›;refine aG g 2 au rfl rfl ?_;exact ⟨Y.set 4 rfl,⟨S2,t,hN,k6,k7,g⟩⟩
  ·obtain rfl:=bU ‹_›;refine Run.callPure jy jG g (gv _ S2) fun w_ g=>?_;exact ⟨Y.set 5 rfl,⟨S2,t,hN,k6,k7,g⟩⟩
  ·obtain rfl:=cF ‹_›;obtain rfl:=cG ‹_›;obtain rfl:=cH ‹_›;have f7:D 7=false:=bA.2 fun h=>by rw [k7 h] at bp;cases bp
   rw [f7] at g;refine Run.call0E BS CC g (zD (ct:=[ee 2,ee x.a,.string ⟨#[]⟩,nx]) (h.mono hN.1) (qn S2 x.a (by unfold inI;omega))) fun v' I' SM w_=>?_;rintro ⟨rfl,cn,rfl,b3⟩ f9 g;have hN:=hN.trans f9;have k6:=fun (_:aF D 6 6=true)=>(⟨rfl,b3⟩:Value.agg cn.toArray=.agg cn.toArray/\RdR SM M (kl s x.b (eH x.a)).1 p (true && (kl s x.b (eH x.a)).2) cn)
   have k7:aF D 6 7=true->aF D 6 6=true:=fun _=>rfl;have g:Inv w X [ei Z G ac,ei b5 cs.toArray al,ei b6 #[ee x.op,ee x.a,ee x.b,.string x.name] ay,ei b8 (cond (D 7) cn.toArray iM) al] SM w_:=by rw [f7];exact g
   obtain ⟨S2,g2⟩:∃ SN,SN=SM:=⟨_,rfl⟩
   subst g2;obtain ⟨t,g3⟩:∃ cm,cm=cn:=⟨_,rfl⟩
   subst g3;exact ⟨Y.set 6 (by first|assumption|trivial),⟨S2,t,hN,k6,k7,g⟩⟩
  ·have vV:=cj ‹_›;obtain ⟨e6,b2⟩:=k6 ‹D 6=true›;have e5:=b2.length;rw [bp] at g;rw [e6];refine aj g 3 rfl aS (by simpa using e5) rfl (by simpa using b2.one) fun w_ g=>?_;rw [<- e6];have k7:=fun (_:aF D 7 7=true)=>‹D 6=true›;exact ⟨Y.set 7 trivial,⟨S2,t,hN,k6,k7,g⟩⟩
  obtain ⟨rfl,rfl,rfl,rfl,rfl,rfl,vV,_,_⟩:=Y.all;have F5:D 6=true:=by assumption
  have nI:D 7=true:=by assumption
  clear Y cF ci cG cD bU cH cj cR;obtain ⟨_,b2⟩:=k6 F5;have e5:=b2.length;rw [nI] at g;refine be g 3 aS rfl (by simpa using e5) ?_;refine ⟨_,_,S2,rfl,g.pick [true],hN,t,G,rfl,rfl,?_,?_⟩
  ·rw [i];rw [fk] at b2;exact b2
  ·rw [i];show KnU S2 G (kl s x.b (eH x.a)).1.st;rw [QL];exact hk.mono hN.1
 refine ⟨fun z w'=>z=.bool (decide (x.op=8 ∨ x.op=9))/\Inv w X [ei Z G ac,ei b5 cs.toArray al,ei b6 #[ee x.op,ee x.a,ee x.b,.string x.name] ay,ei b8 iM al] S w',?_,?_⟩
 ·refine a9 ?_;refine aJ (fun _=>⟨by congr 1;exact cW.2 (by omega),g⟩) (fun _=>?_);refine a9 ?_;exact ⟨by congr 1;exact cW.2 (by omega),g⟩
 intro _ z _ w';rintro ⟨rfl,g⟩;refine aJ (fun c4=>?_) (fun c4=>?_)
 ·refine aq g 1 aS rfl (by simpa using d6) ?_;refine ah g 2 rfl bZ au rfl ?_;refine Run.call0E jL jH g (iT hM hs h) fun v' I' S2 w'=>?_;rintro ⟨rfl,J,o,rfl,m,B⟩ a3 g;rw [fk] at m;have a5:=m.length;have C:=B.length;refine aA (v:=.agg J.toArray) rfl ?_;refine aA (v:=.agg o.toArray) rfl ?_;refine aE g fo fun g5 w' g=>?_;refine aE g aQ fun g6 w' g=>?_;refine aj g 4 rfl aS (by simpa using a5) rfl (by simpa using m.one) fun w' g=>?_;refine aj g 5 rfl af (by simpa using C) rfl (by simpa using B.one) fun w' g=>?_;refine aq g 4 aS rfl (by simpa using a5) ?_;refine ah g 2 rfl dL au rfl ?_;refine aq g 5 af rfl (by simpa using C) ?_;refine Run.call0E BS CC g (zD m B) fun v' I' S3 w'=>?_;rintro ⟨rfl,cn,rfl,b3⟩ O g;have f0:=b3.length;refine aj g 3 rfl aS (by simpa using f0) rfl (by simpa using b3.one) fun w' g=>?_;refine be g 3 aS rfl (by simpa using f0) ?_;have i:oneV M code s p x=((kl (bG M s x.a).1 x.b (bG M s x.a).2.1).1,p,(bG M s x.a).2.2 && (kl (bG M s x.a).1 x.b (bG M s x.a).2.1).2):=by
   rw [oneV,ae (by omega),ae (by omega),ae a8,ae a4,ag c4]
  refine ⟨_,_,S3,rfl,g.pick [true],a3.trans O,cn,G,rfl,rfl,by rw [i];exact b3,?_⟩;rw [i];show KnU S3 G (kl (bG M s x.a).1 x.b (bG M s x.a).2.1).1.st;rw [QL,sB];exact hk.mono (a3.trans O).1
 have i:oneV M code s p x=(s,p,false):=by
  rw [oneV,ae (by omega),ae (by omega),ae a8,ae a4,ae c4]
 obtain ⟨v1,v2,rfl,U,V⟩:=id h;obtain ⟨a1,c1,c5,_⟩:=id U;obtain ⟨a2,c2,c6,_⟩:=id V;refine cq g 1 rfl di ir rfl rfl rfl fun w' g=>?_;refine aq g 1 aS rfl rfl ?_;refine aj g 3 rfl aS rfl rfl (by simp [Value.oneCell',c5,c6]) fun w' g=>?_;refine be g 3 aS rfl rfl ?_;exact ⟨_,_,S,rfl,g.pick [true],Ext.refl _ _ _,[v1,v2,ee (s.fr:Int),ee (p:Int),.bool false],G,rfl,rfl,by rw [i];exact ⟨v1,v2,rfl,U,V⟩,by rw [i];exact hk⟩
end
end
end Go.Proofs.YtjbcdmheajljpaaGreat
