/- Bytes, numbers, names and operators in texts: spec.l1Sign and its kin. (printed by gen_byt.py) -/
import Derived.Test.YtjbcdmheajljpaaGreatZLp4
namespace Go.Proofs.YtjbcdmheajljpaaGreat
section
open Go Go.RowKit
theorem kS {s:Bs} {i:Nat} (h:i<s.length) (c:Nat):sgn s i c=decide (s[i].toNat=c):=by simp [sgn,List.getElem?_eq_getElem h]
theorem NS {s:Bs} {i:Nat} (h:¬ i<s.length) (c:Nat):sgn s i c=false:=by simp [sgn,List.getElem?_eq_none (Nat.le_of_not_lt h)]
theorem nU {s:Bs} {i:Nat} (h:i<s.length) (a b:Nat):btw s i a b=(decide (a<=s[i].toNat) && decide (s[i].toNat<=b)):=by simp [btw,List.getElem?_eq_getElem h]
theorem Jv {s:Bs} {i:Nat} (h:¬ i<s.length) (a b:Nat):btw s i a b=false:=by simp [btw,List.getElem?_eq_none (Nat.le_of_not_lt h)]
theorem Bb {s:Bs} {i a b:Nat} (h:btw s i a b=true):i<s.length:=by
 rcases FE i s.length with g|g
 ·exact g
 ·rw [Jv (by omega)] at h; cases h
theorem iK {s:Bs} {i c:Nat} (h:sgn s i c=true):i<s.length:=by
 rcases FE i s.length with a|a
 ·exact a
 ·rw [NS (by omega)] at h; cases h
section
attribute [local irreducible] Run CondV aC aU
theorem cV (s:Bs) (i c:Nat) (S:ag):Pure Tryz.prog K5 [.string (st s),.int .i64 (i:Int),.int .u8 (c:Int)] S (.bool (sgn s i c)):=by
 intro w a;refine yM.2 ?_;dsimp only[yM,fB];refine nS (by omega) ?_;refine rpG ?_;refine fP aR ?_;by_cases h:i<s.length
 ·refine z0 (by omega) ?_;refine rpG ?_;refine eO aR h ?_;refine bn ?_;refine rpG ?_;refine done a ?_;rw [kS h]
  congr 1
  rw [iq];omega
 ·refine fh (by omega) ?_;refine rpG ?_;exact done a (by rw [NS h])
theorem gZ (s:Bs) (i:Nat) (S:ag):Pure Tryz.prog IC [.string (st s),.int .i64 (i:Int)] S (.bool (dig s i)):=by
 intro w a;refine td.2 ?_;dsimp only[td,bm];refine nS (by omega) ?_;refine rpG ?_;refine fP aR ?_;by_cases h:i<s.length
 ·refine z0 (by omega) ?_;refine rpG ?_;refine eO aR h ?_;rw [dig,nU h];by_cases g:48<=s[i].toNat
  ·refine nS (by omega) ?_;refine rpG ?_;refine eO aR h ?_;refine fY ?_;refine rpG ?_;refine done a ?_;rw [aP g,eL]
   congr 1
   rw [iq];omega
  ·refine wo (by omega) ?_;refine rpG ?_;exact done a (by rw [bf g,ig])
 ·refine fh (by omega) ?_;refine rpG ?_;exact done a (by rw [dig,Jv h])
theorem ow (s:Bs) (i:Nat) (S:ag):Pure Tryz.prog GZ [.string (st s),.int .i64 (i:Int)] S (.bool (sml s i)):=by
 intro w a;refine tD.2 ?_;dsimp only[tD,bm];refine nS (by omega) ?_;refine rpG ?_;refine fP aR ?_;by_cases h:i<s.length
 ·refine z0 (by omega) ?_;refine rpG ?_;refine eO aR h ?_;rw [sml,nU h];by_cases g:97<=s[i].toNat
  ·refine nS (by omega) ?_;refine rpG ?_;refine eO aR h ?_;refine fY ?_;refine rpG ?_;refine done a ?_;rw [aP g,eL]
   congr 1
   rw [iq];omega
  ·refine wo (by omega) ?_;refine rpG ?_;exact done a (by rw [bf g,ig])
 ·refine fh (by omega) ?_;refine rpG ?_;exact done a (by rw [sml,Jv h])
end
theorem Mx {s:Bs} {i:Nat} (h:i<s.length):dig s i=true↔48<=s[i].toNat/\s[i].toNat<=57:=by
 rw [dig,nU h,bJ,bE,bE]
theorem NA {d:Bs} {j:Nat} (h:j<d.length) (m:Nat):Dh (d.drop j) m=Dh (d.drop (j+1)) (m * 10+(d[j].toNat - 48)):=by
 rw [dR h,Dh]
section
attribute [local irreducible] Run CondV aC aU
theorem FF (d:Bs) (r:∀ i,i<d.length->dig d i=true) (p:0<d.length) (N:d.length<=4) (u:¬ (sgn d 0 48=true/\1<d.length)) (S:ag) :
  Pure Tryz.prog Kf [.string (st d)] S (.tuple #[.int .i64 ((Dh d 0:Nat):Int),.bool true]):=by
 intro w a;refine xt.2 ?_;dsimp only[xt,aQ];have G:=(Mx p).1 (r 0 p);refine ⟨fun t w'=>t=.bool false/\Inv w [] [] S w',?_,?_⟩
 ·refine fP aR ?_;refine JK (by omega) ?_;refine rpG ?_;refine eO (i:=0) aR p ?_;refine eW (by omega) ?_;refine rpG ?_;exact ⟨rfl,a⟩
 intro O _ _ _ _ _ _ _ _ w';rintro ⟨rfl,a⟩;refine ⟨fun t w'=>t=.string (st d)/\Inv w [] [] S w',?_,?_⟩
 ·exact aI (fun o=>by cases o) (fun _=>⟨rfl,a⟩)
 intro U _ _ _ w';rintro ⟨rfl,a⟩;refine ⟨fun t w'=>t=.bool false/\Inv w [] [] S w',?_,?_⟩
 ·refine fP aR ?_;refine eW (by omega) ?_;refine rpG ?_;refine fP aR ?_;refine mi (by omega) ?_;refine rpG ?_;refine eO (i:=0) aR p ?_;by_cases M:d[0].toNat=48
  ·refine fX (by omega) ?_;refine rpG ?_;refine fP aR ?_;refine mi (by
    have:¬ 1<d.length:=fun h=>u ⟨by rw [kS p,M]; rfl,h⟩;omega) ?_
   refine rpG ?_;exact ⟨rfl,a⟩
  ·refine eW (by omega) ?_;refine rpG ?_;exact ⟨rfl,a⟩
 intro B _ _ _ _ _ _ _ _ _ _ _ _ _ _ _ _ _ _ _ _ w';rintro ⟨rfl,a⟩;refine aI (fun o=>by cases o) (fun _=>?_);refine ⟨fun i n w'=>∃ j m:Nat,j<=d.length/\i=.int .i64 j/\n=.int .i64 m/\m<10 ^ j/\Dh (d.drop j) m=Dh d 0/\Inv w [] [] S w',fun i _ _=>d.length - (intOf i).toNat,
  ⟨0,0,aK _,rfl,rfl,by simp,rfl,a⟩,?_⟩
 intro V _ _ C _ _ _ _ _ _ _ _ _ _ _ _ _ _ _ _ _ _ _ _ _ _ _ _ w';rintro ⟨j,m,Y,rfl,rfl,Z,l,a⟩;have hp:10 ^ j<=10 ^ 4:=Ke (by omega) (by omega);refine fP aR ?_;refine cu ?_;refine aS (fun q=>?_) (fun q=>?_)
 ·have g:j<d.length:=by omega
  have J:=(Mx g).1 (r j g);refine ⟨fun t w'=>t=.bool false/\Inv w [] [] S w',?_,?_⟩
  ·refine eO aR g ?_;refine fh (by omega) ?_;refine rpG ?_;refine eO aR g ?_;refine mi (by omega) ?_;refine rpG ?_;exact ⟨rfl,a⟩
  intro D _ _ _ _ _ _ _ _ _ w';rintro ⟨rfl,a⟩;refine aI (fun o=>by cases o) (fun _=>?_);refine Dq (by omega) ?_;refine eO aR g ?_;refine Ph (c:=((d[j].toNat - 48:Nat):Int)) ?_ ?_
  ·rw [IntWalk.u8_in _ (by omega)]; omega
  refine qu ge c7 (IntWalk.i64_in _ (by omega)) ?_;refine bF (by omega) ?_;refine bF (by omega) ?_;refine ⟨⟨j+1,m * 10+(d[j].toNat - 48),g,rfl,?_,?_,?_,a⟩,by simp [intOf]; omega⟩
  ·congr 1
  ·rw [Nat.pow_succ]; omega
  ·rw [<- l,NA g]
 ·have:j=d.length:=by omega
  subst this;rw [ew,Dh] at l;refine ⟨fun t w'=>t=.int .i64 m/\Inv w [] [] S w',aI (fun o=>by cases o) (fun _=>⟨rfl,a⟩),?_⟩;intro C _ _ _ w';rintro ⟨rfl,a⟩;exact done a (by rw [l])
abbrev DD (k n:Int):Value:=.agg #[.int .i64 k,.int .i64 n,.string ⟨#[]⟩,.slice none 0 0]
theorem pA {w:World} {K:Value->World->Prop} {k n:Int} (hk:K (DD k n) w):Run Tryz.prog (bR ac [(0,.int .i64 k),(1,.int .i64 n)]) w K:=by
 refine Run.of (v:=DD k n) (w':=w) ?_ hk;unfold bR;rw [Sem.run_bind,run_build w ac _ #[.int .i64 k,.int .i64 n,.string ⟨#[]⟩,.slice none 0 0] (by kernel_rfl),Result.andThen_ok];rfl
theorem rv (n:Int) (S:ag):Pure Tryz.prog Nd [.int .i64 n] S (DD 1 n):=by
 intro w a;refine Bl.2 ?_;dsimp only[Bl,aQ];refine aH a aM fun b w' a=>?_;refine pA ?_;refine al a 0 rfl ad rfl rfl (by simp [Value.oneCell']) fun w' a=>?_;refine bp a 0 ad rfl rfl ?_;exact done a rfl
theorem l6 (n:Int) (S:ag):Pure Tryz.prog MG [.int .i64 n] S (DD 2 n):=by
 intro w a;refine zM.2 ?_;dsimp only[zM,aQ];refine aH a aM fun b w' a=>?_;refine pA ?_;refine al a 0 rfl ad rfl rfl (by simp [Value.oneCell']) fun w' a=>?_;refine bp a 0 ad rfl rfl ?_;exact done a rfl
end
theorem Jm (s:Bs) (n e:Nat):qW s (n+1) e=if dig s e=true then qW s n (e+1) else e:=rfl
theorem EX (s:Bs):∀ (n e:Nat),e<=qW s n e/\qW s n e<=e+n
 | 0,e=>by simp [qW]
 | n+1,e=>by
  rw [qW];split
  ·have:=EX s n (e+1); omega
  ·omega
theorem uX (s:Bs):∀ (n e i:Nat),e<=i->i<qW s n e->dig s i=true
 | 0,e,i,h1,h2=>by simp [qW] at h2; omega
 | n+1,e,i,h1,h2=>by
  rw [qW] at h2;split at h2
  ·rename_i h
   by_cases a:e=i
   ·subst a; exact h
   ·exact uX s n (e+1) i (by omega) h2
  ·omega
theorem Gi {s:Bs} {a b i:Nat} (g:i<(cut s a b).length):∃ h:a+i<s.length,(cut s a b)[i]=s[a+i]/\a+i<b:=by
 have j:(cut s a b).length=min b s.length - a:=by simp [cut]
 refine ⟨by omega,?_,by omega⟩;simp [cut]
theorem Fb {s:Bs} {a b:Nat} (g:b<=s.length):(cut s a b).length=b - a:=by simp [cut]; omega
theorem QG {s:Bs} {a b i:Nat} (g:i<(cut s a b).length):dig (cut s a b) i=dig s (a+i):=by
 obtain ⟨h,e,_⟩:=Gi g;rw [dig,dig,nU g,nU h,e]
section
attribute [local irreducible] Run CondV aC aU
theorem Ap {s:Bs} {i e:Nat} {t:T} (hn:On s i=some (t,e)) (hi:i<=100000) (S:ag) :
  ∃ n:Int,inI n/\t=.mk 2 n emptyB []/\i<=e/\e<=i+5/\Pure Tryz.prog FX [.string (st s),.int .i64 (i:Int)] S (.tuple #[DD 2 n,.int .i64 (e:Int)]):=by
 unfold On at hn;obtain ⟨fr,m⟩:∃ fr,fr=if sgn s i 45=true then i+1 else i:=⟨_,rfl⟩
 simp only [<- m] at hn;obtain ⟨p,q⟩:∃ p,p=qW s 4 fr:=⟨_,rfl⟩
 simp only [<- q] at hn;have U:=EX s 4 fr;rw [<- q] at U;have a5:i<=fr/\fr<=i+1:=by rw [m]; split <;> omega
 split at hn
 ·cases hn
 rename_i hc
 simp only [not_or] at hc;obtain ⟨M,N,D,O⟩:=hc;simp only [bh,di] at hn;obtain ⟨rfl,rfl⟩:=hn;have G:∀ j,j<(cut s fr p).length->dig (cut s fr p) j=true:=fun j Y=>by
  obtain ⟨h1,h2,Z⟩:=Gi Y;rw [QG Y];exact uX s 4 fr _ (by omega) (by rw [<- q]; exact Z)
 have r:0<(cut s fr p).length:=by
  cases he:cut s fr p with
  | nil=>exact absurd he M
  | cons a l=>simp
 have a0:fr<p:=by
  obtain ⟨_,_,Z⟩:=Gi r;omega
 have u:p<=s.length:=by
  have:=uX s 4 fr (p - 1) (by omega) (by rw [<- q]; omega);have:=Bb this;omega
 refine ⟨_,?_,rfl,by omega,by omega,?_⟩
 ·unfold inI; split <;> omega
 intro w g;refine rW.2 ?_;dsimp only[rW,bm];refine aH g aM fun C w' g=>?_;refine ⟨fun t w'=>t=.int .i64 (fr:Int)/\Inv w [] [.blk C (.cells #[.int .i64 0,.int .i64 0,.string ⟨#[]⟩,.slice none 0 0] ac)] S w',?_,?_⟩
 ·refine Run.callPure dq dp g (cV s i 45 S) fun w' g=>?_;refine aI (fun o=>?_) (fun o=>?_)
  ·refine bF (by omega) ?_;rw [af o] at m;exact ⟨by rw [m]; congr 1,g⟩
  ·rw [ae (by rw [o]; decide)] at m;exact ⟨by rw [m],g⟩
 intro t6 _ _ _ _ _ w';rintro ⟨rfl,g⟩;refine ⟨fun t w'=>∃ j:Nat,t=.int .i64 (j:Int)/\fr<=j/\j<=fr+4/\qW s (fr+4 - j) j=p/\Inv w [] [.blk C (.cells #[.int .i64 0,.int .i64 0,.string ⟨#[]⟩,.slice none 0 0] ac)] S w',fun t _=>fr+4 - (intOf t).toNat,
  ⟨fr,rfl,be _,by omega,by rw [sP]; exact q.symm,g⟩,?_⟩
 intro t6 _ _ _ _ _ _ _ _ _ _ _ w';rintro ⟨j,rfl,a1,a2,B,g⟩;refine ⟨fun t w'=>t=.bool (dig s j && decide (j<fr+4))/\Inv w [] [.blk C (.cells #[.int .i64 0,.int .i64 0,.string ⟨#[]⟩,.slice none 0 0] ac)] S w',?_,?_⟩
 ·refine Run.callPure ko km g (gZ s j S) fun w' g=>?_;cases a6:dig s j
  ·refine rpG ?_;exact ⟨rfl,g⟩
  ·refine rpG ?_;refine bF (by omega) ?_;refine cu ?_;refine rpG ?_;refine ⟨?_,g⟩;rw [eL]
   congr 1
   rw [iq];omega
 intro a3 _ _ _ _ _ _ _ _ w';rintro ⟨rfl,g⟩;refine aI (fun o=>?_) (fun o=>?_)
 ·rw [bJ,bE] at o;refine bF (by omega) ?_;refine ⟨⟨j+1,rfl,by omega,by omega,?_,g⟩,by simp [intOf]; omega⟩;rw [<- B,show fr+4 - j=(fr+4 - (j+1))+1 by omega,Jm,af o.1]
 ·have V:j=p:=by
   rw [<- B];by_cases h4:j=fr+4
   ·rw [h4,fg]; rfl
   ·rw [show fr+4 - j=(fr+4 - (j+1))+1 by omega,Jm,ae];intro hd;rw [hd,eL,ml] at o;omega
  subst V;refine AC aR (by omega) u ?_;refine Run.callPure IZ Hx g (FF _ G r (by rw [Fb u]; omega) N S) fun w' g=>?_;obtain ⟨n,hn⟩:∃ n,n=Dh (cut s fr j) 0:=⟨_,rfl⟩
  rw [<- hn];refine aA (v:=.int .i64 (n:Int)) rfl ?_;refine aA (v:=.bool true) rfl ?_;simp only [<- hn] at D O ⊢;refine ⟨fun t w'=>t=.bool false/\Inv w [] [.blk C (.cells #[.int .i64 0,.int .i64 0,.string ⟨#[]⟩,.slice none 0 0] ac)] S w',?_,?_⟩
  ·refine cU ?_;refine rpG ?_;by_cases J:i<fr
   ·refine JK (by omega) ?_;refine rpG ?_;refine bn ?_;have:¬ n=0:=fun h=>D ⟨J,h⟩;rw [bf (by omega)];refine rpG ?_;refine mi (by omega) ?_;refine rpG ?_;exact ⟨rfl,g⟩
   ·refine mi (by omega) ?_;refine rpG ?_;refine mi (by omega) ?_;refine rpG ?_;exact ⟨rfl,g⟩
  intro a4 _ _ _ _ _ _ _ _ _ _ _ _ _ _ w';rintro ⟨rfl,g⟩;refine aI (fun o=>by cases o) (fun _=>?_);refine ⟨fun t w'=>t=.int .i64 (if i<fr then -(n:Int) else n)/\Inv w [] [.blk C (.cells #[.int .i64 0,.int .i64 0,.string ⟨#[]⟩,.slice none 0 0] ac)] S w',?_,?_⟩
  ·refine fC ?_;refine aS (fun o=>?_) (fun o=>?_)
   ·refine Q9 (by omega) ?_;exact ⟨by rw [af (by omega)],g⟩
   ·exact ⟨by rw [ae (by omega)],g⟩
  intro t8 _ _ _ _ _ w';rintro ⟨rfl,g⟩;refine Run.callPure sH sD g (l6 _ S) fun w' g=>?_;refine al g 0 rfl ad rfl rfl (by simp [Value.oneCell']) fun w' g=>?_;refine bp g 0 ad rfl rfl ?_;exact done g rfl
end
theorem RdSl.some1 {α:Type} {S:ag} {k:Nat} {R:List Value->α->Prop} {v:Value} {xs:List α} (h:RdSl S k R v xs) (a:0<xs.length):∃ b o cap,v=.slice (some ⟨b,o,none⟩) xs.length cap:=by
 obtain ⟨b,o,cap,c,E,g,e,_,_⟩:=h.at_ a;exact ⟨b,o,cap,e⟩
theorem I6 (s:Bs) (n e:Nat):y7 s (n+1) e=if sml s e=true then y7 s n (e+1) else e:=rfl
def Mg (o:Option (Bs × Nat)):Value:=match o with
 | none=>.tuple #[.string ⟨#[]⟩,.int .i64 (-1)]
 | some (n,e)=>.tuple #[.string (st n),.int .i64 (e:Int)]
theorem JO (s:Bs) (i:Nat) {j:Nat} (h:j<signs.length) (b:Bs):iZ s i (signs.drop j) b=iZ s i (signs.drop (j+1)) (if decide (i+signs[j].size<=s.length)=true/\cut s i (i+signs[j].size)=bs signs[j]/\b.length<signs[j].size then bs signs[j] else b):=by
 rw [dR h,iZ]
theorem HT:∀ x∈signs,x.size<=3:=by decide
section
attribute [local irreducible] Run CondV aC aU
theorem vl {s:Bs} {i:Nat} (hi:i<s.length) (hs:s.length<=100000) (S:ag):Pure Tryz.prog K8 [.string (st s),.int .i64 (i:Int)] S (Mg (u0 s i)):=by
 intro w g;refine yP.2 ?_;dsimp only[yP,bm];obtain ⟨E,hE⟩:∃ E,E=y7 s (s.length - i) i:=⟨_,rfl⟩
 have G:u0 s i=if i+6<E then none else if i<E then some (cut s i E,E) else if iZ s i signs []=[] then none else some (iZ s i signs [],i+(iZ s i signs []).length):=by
  rw [u0,<- hE]
 refine ⟨fun t w'=>∃ e:Nat,t=.int .i64 (e:Int)/\i<=e/\e<=s.length/\y7 s (s.length - e) e=E/\Inv w [] [] S w',fun t _=>s.length - (intOf t).toNat,⟨i,rfl,be _,by omega,hE.symm,g⟩,?_⟩;intro t6 _ _ _ _ _ w';rintro ⟨e,rfl,b1,b2,a2,g⟩;refine Run.callPure uT tJ g (ow s e S) fun w' g=>?_;refine aI (fun B=>?_) (fun B=>?_)
 ·have e3:=Bb B;refine bF (by omega) ?_;refine ⟨⟨e+1,rfl,by omega,by omega,?_,g⟩,by simp [intOf]; omega⟩;rw [<- a2,show s.length - e=(s.length - (e+1))+1 by omega,I6,af B]
 have a9:e=E:=by
  rw [<- a2];by_cases h:e=s.length
  ·rw [h,fg,y7]
  ·rw [show s.length - e=(s.length - (e+1))+1 by omega,I6,ae (by rw [B]; decide)]
 subst a9;refine bF (by omega) ?_;refine fC ?_;refine aS (fun B=>done g (by rw [G,af (by omega)]; rfl)) (fun B=>?_);rw [ae (by omega)] at G;refine fC ?_;refine aS (fun B=>?_) (fun B=>?_)
 ·refine AC aR (by omega) (by omega) ?_;exact done g (by rw [G,af (by omega)]; rfl)
 rw [ae (by omega)] at G;refine Run.call0 uO tZ g (rq S) fun v I' S1 w'=>?_;rintro ⟨rfl,a3,hr⟩ _ g;obtain ⟨b,o,cap,rfl⟩:=RdSl.some1 hr (by decide);refine ⟨fun t u w'=>∃ (j:Nat) (m:Bs),j<=signs.length/\t=.int .i64 (j:Int)/\u=.string (st m)/\m.length<=3/\iZ s i (signs.drop j) m=iZ s i signs []/\Inv w [] [] S1 w',fun t _ _=>signs.length - (intOf t).toNat,
  ⟨0,[],aK _,rfl,rfl,by simp,rfl,g.nil⟩,?_⟩
 intro t9 _ _ t7 _ _ _ _ b3 b4 b5 b6 b7 b8 b9 c1 c2 c3 c4 c5 c6 c7 c9 d0 d1 d2 d3 d4 d6 d7 d9 e0 e1 _ _ _ _ _ _ _ _ _ _ w';rintro ⟨j,m,e2,rfl,rfl,a1,l,g⟩;have e4:signs.length=15:=rfl;refine aG hr de ?_;refine cu ?_;refine aS (fun a7=>?_) (fun a7=>?_)
 ·have hj:j<signs.length:=by omega
  obtain ⟨x,hx⟩:∃ x,x=signs[j]:=⟨_,rfl⟩
  have e5:x.size<=3:=by rw [hx]; exact HT _ (cH hj)
  obtain ⟨b',o',b0,c,E',fz,a8,hS,hR⟩:=hr.at_ hj;cases a8;have M:c[o+j * 1]?=some (.string x):=by rw [hx]; exact bd hR 0 _ rfl
  rw [JO s i hj,<- hx] at l;refine ⟨fun u w'=>∃ q,u=.string (st q)/\q.length<=3/\iZ s i (signs.drop (j+1)) q=iZ s i signs []/\Inv w [] [] S1 w',?_,?_⟩
  ·refine aT de hj ?_;refine dE aZ ((g.cellS hS).trans M) ?_;refine kJ aR ?_;by_cases J:i+x.size<=s.length
   ·cases hq:decide (st (cut s i (i+x.size))=x)
    ·skip
     refine ⟨fun D Bz BT N O U V Y Z rY oG oR s3 pD ot pf n6 n9 ox mG oH oE oe oa pd py w_=>Fx D 0 [py=.int .i64 (i:Int),pd=.int .i64 (x.size:Int),oa=.int .i64 ((i+x.size:Nat):Int),oe=.string (st s),oE=.int .i64 (s.length:Int),oH=.bool true,mG=.bool true,ox=.string (st s),n9=.int .i64 (i:Int),n6=.int .i64 (i:Int),pf=.int .i64 (x.size:Int),ot=.int .i64 ((i+x.size:Nat):Int),pD=.string (st (cut s i (i+x.size))),s3=.slice (some ⟨b,o,none⟩) signs.length cap,oR=.int .i64 (j:Int),oG=.pointer (some ⟨b,o+j * 1,none⟩),rY=.string x,Z=.bool false,Y=.bool false,V=.bool false,U=undef,O=undef,N=undef,BT=undef,Bz=.bool false]/\Inv w [] [] S1 w_,⟨Fx.nil _ _,g.draw⟩,⟨?_,?_,?_,?_,?_,?_,?_,?_,?_,?_,?_,?_,?_,?_,?_,?_,?_,?_,?_,?_,?_,?_,?_,?_,?_,trivial⟩,?_⟩;all_goals (intro D bw; intros; rename_i Bz BT N O U V Y Z rY oG oR s3 pD ot pf n6 n9 ox mG oH oE oe oa pd py w_ C; have a:=C.1; obtain ⟨⟨cG,cf,cD,cF,bQ,cE,p,cL,dw,dl,ci,c8,dN,fJ,il,im,iQ,ln,ll,r,nT,nL,pn,v6,IW,_⟩,g⟩:=C)
     ·exact ⟨a.set 0 rfl,g⟩
     ·exact ⟨a.set 1 rfl,g⟩
     ·obtain rfl:=cG ‹_›;obtain rfl:=cf ‹_›;refine bF (by omega) ?_;exact ⟨a.set 2 rfl,g⟩
     ·exact ⟨a.set 3 rfl,g⟩
     ·obtain rfl:=cF ‹_›;refine fP aR ?_;exact ⟨a.set 4 rfl,g⟩
     ·obtain rfl:=cD ‹_›;obtain rfl:=bQ ‹_›;refine Gx (by omega) ?_;exact ⟨a.set 5 rfl,g⟩
     ·obtain rfl:=cE ‹_›;exact ⟨a.set 6 rfl,g⟩
     ·obtain rfl:=p ‹_›;refine bN ?_;exact ⟨a.set 7 rfl,g⟩
     ·obtain rfl:=p ‹_›;refine bN ?_;exact ⟨a.set 8 rfl,g⟩
     ·obtain rfl:=p ‹_›;refine bN ?_;exact ⟨a.set 9 rfl,g⟩
     ·obtain rfl:=p ‹_›;refine bN ?_;exact ⟨a.set 10 rfl,g⟩
     ·obtain rfl:=dl ‹_›;obtain rfl:=ci ‹_›;obtain rfl:=p ‹_›;refine bN ?_; refine bF (by omega) ?_;exact ⟨a.set 11 rfl,g⟩
     ·obtain rfl:=cL ‹_›;obtain rfl:=dw ‹_›;obtain rfl:=c8 ‹_›;obtain rfl:=p ‹_›;refine bN ?_; refine AC aR (by omega) (by omega) ?_;exact ⟨a.set 12 rfl,g⟩
     ·obtain rfl:=p ‹_›;refine bN ?_;exact ⟨a.set 13 rfl,g⟩
     ·obtain rfl:=p ‹_›;refine bN ?_;exact ⟨a.set 14 rfl,g⟩
     ·obtain rfl:=fJ ‹_›;obtain rfl:=il ‹_›;obtain rfl:=p ‹_›;refine bN ?_; refine aT de hj ?_;exact ⟨a.set 15 rfl,g⟩
     ·obtain rfl:=im ‹_›;obtain rfl:=p ‹_›;refine bN ?_; refine dE aZ ((g.cellS hS).trans M) ?_;exact ⟨a.set 16 rfl,g⟩
     ·obtain rfl:=dN ‹_›;obtain rfl:=iQ ‹_›;obtain rfl:=p ‹_›;refine bN ?_; refine cM ?_; rw [hq];exact ⟨a.set 17 rfl,g⟩
     ·obtain rfl:=p ‹_›;obtain rfl:=ln ‹_›;refine zK ?_;exact ⟨a.set 18 rfl,g⟩
     ·obtain rfl:=ll ‹_›;exact ⟨a.set 19 rfl,g⟩
     ·obtain rfl:=r ‹_›;refine dH (c:=false) (b:=true) (by decide) ?_;exact ⟨a.set 20 rfl,g⟩
     ·obtain rfl:=r ‹_›;refine dH (c:=false) (b:=true) (by decide) ?_;exact ⟨a.set 21 rfl,g⟩
     ·obtain rfl:=nL ‹_›;obtain rfl:=r ‹_›;refine dH (c:=false) (b:=true) (by decide) ?_;exact ⟨a.set 22 rfl,g⟩
     ·obtain rfl:=nT ‹_›;obtain rfl:=pn ‹_›;obtain rfl:=r ‹_›;refine dH (c:=false) (b:=true) (by decide) ?_;exact ⟨a.set 23 rfl,g⟩
     ·obtain rfl:=r ‹_›;obtain rfl:=v6 ‹_›;refine qI ?_;exact ⟨a.set 24 rfl,g⟩
     obtain ⟨rfl,rfl,rfl,rfl,rfl,rfl,rfl,rfl,rfl,rfl,rfl,rfl,rfl,rfl,rfl,rfl,rfl,rfl,rfl,rfl,rfl,rfl,rfl,rfl,rfl,_⟩:=a.all;clear a cG cf cD cF bQ cE p cL dw dl ci c8 dN fJ il im iQ ln ll r nT nL pn v6 IW;refine aI (fun B=>by cases B) (fun _=>?_);refine ⟨m,rfl,a1,?_,g⟩;rw [ae] at l
     ·exact l
     ·rintro ⟨_,h2,_⟩;rw [ml] at hq;exact hq (by rw [h2])
    ·rw [bE] at hq;have a5:=hq;have hq:decide (st (cut s i (i+x.size))=x)=true:=aP a5
     skip
     refine ⟨fun D Bz BT N O U V Y Z rY oG oR s3 pD ot pf n6 n9 ox mG oH oE oe oa pd py w_=>Fx D 0 [py=.int .i64 (i:Int),pd=.int .i64 (x.size:Int),oa=.int .i64 ((i+x.size:Nat):Int),oe=.string (st s),oE=.int .i64 (s.length:Int),oH=.bool true,mG=.bool true,ox=.string (st s),n9=.int .i64 (i:Int),n6=.int .i64 (i:Int),pf=.int .i64 (x.size:Int),ot=.int .i64 ((i+x.size:Nat):Int),pD=.string (st (cut s i (i+x.size))),s3=.slice (some ⟨b,o,none⟩) signs.length cap,oR=.int .i64 (j:Int),oG=.pointer (some ⟨b,o+j * 1,none⟩),rY=.string x,Z=.bool true,Y=.bool true,V=.bool true,U=.int .i64 (x.size:Int),O=.string (st m),N=.int .i64 (m.length:Int),BT=.bool (decide ((m.length:Int)<(x.size:Int))),Bz=.bool (decide ((m.length:Int)<(x.size:Int)))]/\Inv w [] [] S1 w_,⟨Fx.nil _ _,g.draw⟩,⟨?_,?_,?_,?_,?_,?_,?_,?_,?_,?_,?_,?_,?_,?_,?_,?_,?_,?_,?_,?_,?_,?_,?_,?_,?_,trivial⟩,?_⟩;all_goals (intro D bw; intros; rename_i Bz BT N O U V Y Z rY oG oR s3 pD ot pf n6 n9 ox mG oH oE oe oa pd py w_ C; have a:=C.1; obtain ⟨⟨cG,cf,cD,cF,bQ,cE,p,cL,dw,dl,ci,c8,dN,fJ,il,im,iQ,ln,ll,r,nT,nL,pn,v6,IW,_⟩,g⟩:=C)
     ·exact ⟨a.set 0 rfl,g⟩
     ·exact ⟨a.set 1 rfl,g⟩
     ·obtain rfl:=cG ‹_›;obtain rfl:=cf ‹_›;refine bF (by omega) ?_;exact ⟨a.set 2 rfl,g⟩
     ·exact ⟨a.set 3 rfl,g⟩
     ·obtain rfl:=cF ‹_›;refine fP aR ?_;exact ⟨a.set 4 rfl,g⟩
     ·obtain rfl:=cD ‹_›;obtain rfl:=bQ ‹_›;refine Gx (by omega) ?_;exact ⟨a.set 5 rfl,g⟩
     ·obtain rfl:=cE ‹_›;exact ⟨a.set 6 rfl,g⟩
     ·obtain rfl:=p ‹_›;refine bN ?_;exact ⟨a.set 7 rfl,g⟩
     ·obtain rfl:=p ‹_›;refine bN ?_;exact ⟨a.set 8 rfl,g⟩
     ·obtain rfl:=p ‹_›;refine bN ?_;exact ⟨a.set 9 rfl,g⟩
     ·obtain rfl:=p ‹_›;refine bN ?_;exact ⟨a.set 10 rfl,g⟩
     ·obtain rfl:=dl ‹_›;obtain rfl:=ci ‹_›;obtain rfl:=p ‹_›;refine bN ?_; refine bF (by omega) ?_;exact ⟨a.set 11 rfl,g⟩
     ·obtain rfl:=cL ‹_›;obtain rfl:=dw ‹_›;obtain rfl:=c8 ‹_›;obtain rfl:=p ‹_›;refine bN ?_; refine AC aR (by omega) (by omega) ?_;exact ⟨a.set 12 rfl,g⟩
     ·obtain rfl:=p ‹_›;refine bN ?_;exact ⟨a.set 13 rfl,g⟩
     ·obtain rfl:=p ‹_›;refine bN ?_;exact ⟨a.set 14 rfl,g⟩
     ·obtain rfl:=fJ ‹_›;obtain rfl:=il ‹_›;obtain rfl:=p ‹_›;refine bN ?_; refine aT de hj ?_;exact ⟨a.set 15 rfl,g⟩
     ·obtain rfl:=im ‹_›;obtain rfl:=p ‹_›;refine bN ?_; refine dE aZ ((g.cellS hS).trans M) ?_;exact ⟨a.set 16 rfl,g⟩
     ·obtain rfl:=dN ‹_›;obtain rfl:=iQ ‹_›;obtain rfl:=p ‹_›;refine bN ?_; refine cM ?_; rw [hq];exact ⟨a.set 17 rfl,g⟩
     ·obtain rfl:=p ‹_›;obtain rfl:=ln ‹_›;refine zK ?_;exact ⟨a.set 18 rfl,g⟩
     ·obtain rfl:=ll ‹_›;exact ⟨a.set 19 rfl,g⟩
     ·obtain rfl:=r ‹_›;refine bN ?_;exact ⟨a.set 20 rfl,g⟩
     ·obtain rfl:=r ‹_›;refine bN ?_;exact ⟨a.set 21 rfl,g⟩
     ·obtain rfl:=nL ‹_›;obtain rfl:=r ‹_›;refine bN ?_; refine fP aR ?_;exact ⟨a.set 22 rfl,g⟩
     ·obtain rfl:=nT ‹_›;obtain rfl:=pn ‹_›;obtain rfl:=r ‹_›;refine bN ?_; refine fC ?_;exact ⟨a.set 23 rfl,g⟩
     ·obtain rfl:=r ‹_›;obtain rfl:=v6 ‹_›;refine zK ?_;exact ⟨a.set 24 rfl,g⟩
     obtain ⟨rfl,rfl,rfl,rfl,rfl,rfl,rfl,rfl,rfl,rfl,rfl,rfl,rfl,rfl,rfl,rfl,rfl,rfl,rfl,rfl,rfl,rfl,rfl,rfl,rfl,_⟩:=a.all;clear a cG cf cD cF bQ cE p cL dw dl ci c8 dN fJ il im iQ ln ll r nT nL pn v6 IW;have a0:cut s i (i+x.size)=bs x:=by rw [<- Eb (cut s i (i+x.size)),a5]
     refine aS (fun B=>?_) (fun B=>?_)
     ·refine aT de hj ?_;refine dE aZ ((g.cellS hS).trans M) ?_;refine ⟨bs x,rfl,by rw [<- a0,Fb J]; omega,?_,g⟩;rw [af ⟨aP J,a0,by omega⟩] at l;exact l
     ·refine ⟨m,rfl,a1,?_,g⟩;rw [ae] at l
      ·exact l
      ·rintro ⟨_,_,h3⟩;omega
   ·skip
    refine ⟨fun D Bz BT N O U V Y Z rY oG oR s3 pD ot pf n6 n9 ox mG oH oE oe oa pd py w_=>Fx D 0 [py=.int .i64 (i:Int),pd=.int .i64 (x.size:Int),oa=.int .i64 ((i+x.size:Nat):Int),oe=.string (st s),oE=.int .i64 (s.length:Int),oH=.bool false,mG=.bool false,ox=undef,n9=undef,n6=undef,pf=undef,ot=undef,pD=undef,s3=undef,oR=undef,oG=undef,rY=undef,Z=undef,Y=.bool false,V=.bool false,U=undef,O=undef,N=undef,BT=undef,Bz=.bool false]/\Inv w [] [] S1 w_,⟨Fx.nil _ _,g.draw⟩,⟨?_,?_,?_,?_,?_,?_,?_,?_,?_,?_,?_,?_,?_,?_,?_,?_,?_,?_,?_,?_,?_,?_,?_,?_,?_,trivial⟩,?_⟩;all_goals (intro D bw; intros; rename_i Bz BT N O U V Y Z rY oG oR s3 pD ot pf n6 n9 ox mG oH oE oe oa pd py w_ C; have a:=C.1; obtain ⟨⟨cG,cf,cD,cF,bQ,cE,p,cL,dw,dl,ci,c8,dN,fJ,il,im,iQ,ln,ll,r,nT,nL,pn,v6,IW,_⟩,g⟩:=C)
    ·exact ⟨a.set 0 rfl,g⟩
    ·exact ⟨a.set 1 rfl,g⟩
    ·obtain rfl:=cG ‹_›;obtain rfl:=cf ‹_›;refine bF (by omega) ?_;exact ⟨a.set 2 rfl,g⟩
    ·exact ⟨a.set 3 rfl,g⟩
    ·obtain rfl:=cF ‹_›;refine fP aR ?_;exact ⟨a.set 4 rfl,g⟩
    ·obtain rfl:=cD ‹_›;obtain rfl:=bQ ‹_›;refine Oo (by omega) ?_;exact ⟨a.set 5 rfl,g⟩
    ·obtain rfl:=cE ‹_›;exact ⟨a.set 6 rfl,g⟩
    ·obtain rfl:=p ‹_›;refine dH (c:=false) (b:=true) (by decide) ?_;exact ⟨a.set 7 rfl,g⟩
    ·obtain rfl:=p ‹_›;refine dH (c:=false) (b:=true) (by decide) ?_;exact ⟨a.set 8 rfl,g⟩
    ·obtain rfl:=p ‹_›;refine dH (c:=false) (b:=true) (by decide) ?_;exact ⟨a.set 9 rfl,g⟩
    ·obtain rfl:=p ‹_›;refine dH (c:=false) (b:=true) (by decide) ?_;exact ⟨a.set 10 rfl,g⟩
    ·obtain rfl:=dl ‹_›;obtain rfl:=ci ‹_›;obtain rfl:=p ‹_›;refine dH (c:=false) (b:=true) (by decide) ?_;exact ⟨a.set 11 rfl,g⟩
    ·obtain rfl:=cL ‹_›;obtain rfl:=dw ‹_›;obtain rfl:=c8 ‹_›;obtain rfl:=p ‹_›;refine dH (c:=false) (b:=true) (by decide) ?_;exact ⟨a.set 12 rfl,g⟩
    ·obtain rfl:=p ‹_›;refine dH (c:=false) (b:=true) (by decide) ?_;exact ⟨a.set 13 rfl,g⟩
    ·obtain rfl:=p ‹_›;refine dH (c:=false) (b:=true) (by decide) ?_;exact ⟨a.set 14 rfl,g⟩
    ·obtain rfl:=fJ ‹_›;obtain rfl:=il ‹_›;obtain rfl:=p ‹_›;refine dH (c:=false) (b:=true) (by decide) ?_;exact ⟨a.set 15 rfl,g⟩
    ·obtain rfl:=im ‹_›;obtain rfl:=p ‹_›;refine dH (c:=false) (b:=true) (by decide) ?_;exact ⟨a.set 16 rfl,g⟩
    ·obtain rfl:=dN ‹_›;obtain rfl:=iQ ‹_›;obtain rfl:=p ‹_›;refine dH (c:=false) (b:=true) (by decide) ?_;exact ⟨a.set 17 rfl,g⟩
    ·obtain rfl:=p ‹_›;obtain rfl:=ln ‹_›;refine qI ?_;exact ⟨a.set 18 rfl,g⟩
    ·obtain rfl:=ll ‹_›;exact ⟨a.set 19 rfl,g⟩
    ·obtain rfl:=r ‹_›;refine dH (c:=false) (b:=true) (by decide) ?_;exact ⟨a.set 20 rfl,g⟩
    ·obtain rfl:=r ‹_›;refine dH (c:=false) (b:=true) (by decide) ?_;exact ⟨a.set 21 rfl,g⟩
    ·obtain rfl:=nL ‹_›;obtain rfl:=r ‹_›;refine dH (c:=false) (b:=true) (by decide) ?_;exact ⟨a.set 22 rfl,g⟩
    ·obtain rfl:=nT ‹_›;obtain rfl:=pn ‹_›;obtain rfl:=r ‹_›;refine dH (c:=false) (b:=true) (by decide) ?_;exact ⟨a.set 23 rfl,g⟩
    ·obtain rfl:=r ‹_›;obtain rfl:=v6 ‹_›;refine qI ?_;exact ⟨a.set 24 rfl,g⟩
    obtain ⟨rfl,rfl,rfl,rfl,rfl,rfl,rfl,rfl,rfl,rfl,rfl,rfl,rfl,rfl,rfl,rfl,rfl,rfl,rfl,rfl,rfl,rfl,rfl,rfl,rfl,_⟩:=a.all;clear a cG cf cD cF bQ cE p cL dw dl ci c8 dN fJ il im iQ ln ll r nT nL pn v6 IW;refine aI (fun B=>by cases B) (fun _=>?_);refine ⟨m,rfl,a1,?_,g⟩;rw [ae] at l
    ·exact l
    ·rintro ⟨h1,_⟩;rw [bE] at h1;exact J h1
  intro t7 _ _ _ _ _ _ _ _ _ _ _ _ _ _ _ _ _ _ _ _ _ _ _ _ _ _ _ _ _ _ _ _ _ _ _ w';rintro ⟨q,rfl,a4,a6,g⟩;refine bF (by omega) ?_;exact ⟨⟨j+1,q,hj,rfl,rfl,a4,a6,g⟩,by simp [intOf]; omega⟩
 ·have:j=signs.length:=by omega
  subst this;rw [ew,iZ] at l;rw [<- l] at G;refine cM ?_;refine aS (fun B=>?_) (fun B=>?_)
  ·have:m=[]:=by rw [<- Eb m,B]
   exact yp g a3 (by rw [G,af this]; rfl)
  ·have:¬ m=[]:=fun h=>B (by rw [h]);refine fP aR ?_;refine bF (by omega) ?_;exact yp g a3 (by rw [G,ae this]; rfl)
end
theorem wY (s:Bs) (i:Nat):∀ (l:List ByteArray) (b:Bs),(∀ x∈l,x.size<=3)->b.length<=3->i+b.length<=s.length->i+(iZ s i l b).length<=s.length/\(iZ s i l b).length<=3
 | [],b,_,h2,h3=>⟨h3,h2⟩
 | x::l,b,h1,h2,h3=>by
  rw [iZ];have g:(bs x).length=x.size:=Np;split
  ·rename_i h
   exact wY s i l _ (fun y a=>h1 y (bV _ a)) (by rw [g]; exact h1 x (bL ..)) (by rw [g]; exact of_decide_eq_true h.1)
  ·exact wY s i l _ (fun y a=>h1 y (bV _ a)) h2 h3
theorem LS (s:Bs):∀ (n e:Nat),e<=y7 s n e/\y7 s n e<=e+n
 | 0,e=>by simp [y7]
 | n+1,e=>by
  rw [y7];split
  ·have:=LS s n (e+1); omega
  ·omega
theorem uL {s:Bs} {i:Nat} {n:Bs} {e:Nat} (j:i<s.length) (h:u0 s i=some (n,e)):i<e/\e<=s.length/\n.length<=6/\n≠[]:=by
 have q:=LS s (s.length - i) i;have r:=wY s i signs [] HT (by simp) (by simpa using Nat.le_of_lt j);unfold u0 at h;simp only [] at h;split at h
 ·cases h
 ·split at h
  ·simp only [bh,di] at h;obtain ⟨rfl,rfl⟩:=h;rename_i p m
   have hc:=Fb (s:=s) (a:=i) (b:=y7 s (s.length - i) i) (by omega);refine ⟨m,by omega,by omega,fun h=>?_⟩;rw [h] at hc;simp at hc;omega
  ·split at h
   ·cases h
   ·simp only [bh,di] at h;obtain ⟨rfl,rfl⟩:=h;rename_i g
    have:0<(iZ s i signs []).length:=by
     cases o:iZ s i signs [] with
     | nil=>exact absurd o g
     | cons a l=>simp
    exact ⟨by omega,by omega,by omega,g⟩
def opV (o:Option (Bs × Nat)) (i:Nat):Value:=match o with
 | none=>.tuple #[.string ⟨#[]⟩,.int .i64 (i:Int)]
 | some (n,e)=>.tuple #[.string (st n),.int .i64 (e:Int)]
theorem Py {s:Bs} {i:Nat} {n:Bs} {e:Nat} (h:opF s i=some (n,e)):i<e/\e<=s.length/\n.length<=6/\n≠[]:=by
 unfold opF at h;obtain ⟨fr,a⟩:∃ fr,fr=if sgn s i 32=true then i+1 else i:=⟨_,rfl⟩
 simp only [<- a] at h;have q:i<=fr:=by rw [a]; split <;> omega
 split at h
 ·cases h
 rename_i j
 split at h
 ·cases h
 rename_i nm r g
 obtain ⟨t,m,o,p⟩:=uL (by omega) g;split at h
 ·cases h
 rename_i hc
 simp only [not_or,not_and,Bool.not_eq_false] at hc;simp only [bh,di] at h;obtain ⟨rfl,rfl⟩:=h;refine ⟨by split <;> omega,?_,o,p⟩;split
 ·rename_i l
  have:=iK (hc.2.2 l);omega
 ·exact m
section
attribute [local irreducible] Run CondV aC aU
theorem K2 {s:Bs} {i:Nat} (J:s.length<=100000) (U:i<=s.length) (S:ag):Pure Tryz.prog Pp [.string (st s),.int .i64 (i:Int)] S (opV (opF s i) i):=by
 intro w a;refine EH.2 ?_;dsimp only[EH,bm];obtain ⟨fr,o⟩:∃ fr,fr=if sgn s i 32=true then i+1 else i:=⟨_,rfl⟩
 have N:i<=fr/\fr<=i+1:=by rw [o]; split <;> omega
 obtain ⟨r,j⟩:∃ r,r=opF s i:=⟨_,rfl⟩
 rw [<- j];unfold opF at j;simp only [<- o] at j;refine ⟨fun t w'=>t=.int .i64 (fr:Int)/\Inv w [] [] S w',?_,?_⟩
 ·refine Run.callPure dq dp a (cV s i 32 S) fun w' a=>?_;refine aI (fun p=>?_) (fun p=>?_)
  ·refine bF (by omega) ?_;rw [af p] at o;exact ⟨by rw [o]; congr 1,a⟩
  ·rw [ae (by rw [p]; decide)] at o;exact ⟨by rw [o],a⟩
 intro V _ _ _ _ _ w';rintro ⟨rfl,a⟩;refine fP aR ?_;refine lj ?_;refine aS (fun p=>?_) (fun p=>?_)
 ·rw [af (by omega)] at j;exact done a (by rw [j]; rfl)
 rw [ae (by omega)] at j;refine Run.callPure yD xG a (vl (by omega) J S) fun w' a=>?_;cases u:u0 s fr with
 | none=>
  rw [u] at j;simp only [] at j;simp only [Mg];refine aA rfl ?_;refine aA rfl ?_;refine ⟨fun t w'=>t=.bool true/\Inv w [] [] S w',?_,?_⟩
  ·refine z0 (by omega) ?_;refine rpG ?_;exact ⟨rfl,a⟩
  intro C _ _ _ _ _ _ w';rintro ⟨rfl,a⟩;exact aI (fun _=>done a (by rw [j]; rfl)) (fun p=>by cases p)
 | some q=>
  obtain ⟨nm,B⟩:=q;rw [u] at j;simp only [] at j;obtain ⟨h1,h2,h3,h4⟩:=uL (by omega) u;simp only [Mg];refine aA (v:=.string (st nm)) rfl ?_;refine aA (v:=.int .i64 (B:Int)) rfl ?_;refine ⟨fun t w'=>t=.bool (decide (cW (st nm)=0))/\Inv w [] [] S w',?_,?_⟩
  ·refine fh (by omega) ?_;refine rpG ?_;refine Run.callPure fQ fK a (ey _ S) fun w' a=>?_;refine bn ?_;refine rpG ?_;exact ⟨rfl,a⟩
  intro C _ _ _ _ _ _ w';rintro ⟨rfl,a⟩;refine aS (fun p=>?_) (fun p=>?_)
  ·rw [af (.inl p)] at j;exact done a (by rw [j]; rfl)
  obtain ⟨g,m⟩:∃ g,g=(decide (nm=[105,115]) || decide (nm=[109,111,100])):=⟨_,rfl⟩
  rw [<- m] at j;refine ⟨fun t w'=>t=.bool g/\Inv w [] [] S w',?_,?_⟩
  ·refine Ak (b:=[105,115]) ?_;cases G:decide (nm=[105,115])
   ·refine rpG ?_;refine Ak (b:=[109,111,100]) ?_;refine rpG ?_;exact ⟨by rw [m,G,gI],a⟩
   ·refine rpG ?_;exact ⟨by rw [m,G,uF],a⟩
  intro Y _ _ _ _ _ _ w';rintro ⟨rfl,a⟩;refine ⟨fun t w'=>t=.bool (decide (g≠decide (i<fr)) || (g && !sgn s B 32))/\Inv w [] [] S w',?_,?_⟩
  ·refine fC ?_;refine KI qE ?_;have O:decide ((i:Int)<(fr:Int))=decide (i<fr):=by rw [iq]; omega
   rw [O];cases h6:decide (i<fr) <;> cases g
   ·refine rpG ?_;exact ⟨by rfl,a⟩
   ·refine rpG ?_;exact ⟨by rfl,a⟩
   ·refine rpG ?_;exact ⟨by rfl,a⟩
   ·refine rpG ?_;refine Run.callPure dq dp a (cV s B 32 S) fun w' a=>?_;refine cU ?_;refine rpG ?_;exact ⟨by simp,a⟩
  intro M _ _ _ _ _ _ _ _ _ _ _ _ _ w';rintro ⟨rfl,a⟩;refine aI (fun l=>?_) (fun l=>?_)
  ·rw [af] at j
   ·exact done a (by rw [j]; rfl)
   ·rw [lQ,bE,bJ,rn] at l;exact .inr l
  ·rw [ae] at j
   ·refine ⟨fun t w'=>t=.int .i64 ((if g=true then B+1 else B:Nat):Int)/\Inv w [] [] S w',?_,?_⟩
    ·refine aI (fun D=>?_) (fun D=>?_)
     ·refine bF (by omega) ?_;exact ⟨by rw [af D]; congr 1,a⟩
     ·exact ⟨by rw [ae (by rw [D]; decide)],a⟩
    intro Z _ _ _ w';rintro ⟨rfl,a⟩;exact done a (by rw [j]; rfl)
   ·rw [LE,ml] at l;rintro (h|h|⟨h,h'⟩)
    ·exact p h
    ·exact l.1 h
    ·rw [h,h'] at l;simp at l
end
end
section
open Go Go.RowKit
theorem Qu {s:Bs} {i e:Nat} {t:T} (hn:On s i=some (t,e)):i<e/\e<=s.length:=by
 unfold On at hn;obtain ⟨fr,a⟩:∃ fr,fr=if sgn s i 45=true then i+1 else i:=⟨_,rfl⟩
 simp only [<- a] at hn;have g:=EX s 4 fr;have j:i<=fr/\fr<=i+1:=by rw [a]; split <;> omega
 split at hn
 ·cases hn
 rename_i hc
 simp only [not_or] at hc;simp only [bh,di] at hn;obtain ⟨_,rfl⟩:=hn;have l:fr<qW s 4 fr:=by
  rcases FE fr (qW s 4 fr) with h|h
  ·exact h
  ·refine absurd ?_ hc.1;rw [cut,Cj];rw [iJ];omega
 have:=Bb (uX s 4 fr (qW s 4 fr - 1) (by omega) (by omega));omega
theorem g6:∀ f:Nat,(∀ s i d l t n,jF f s i d l=some (t,n)->i<n/\n<=s.length)/\(∀ s i d l D t n,G5 f s i d l D=some (t,n)->i<=s.length->i<=n/\n<=s.length)/\
  (∀ s i d t n,sJ f s i d=some (t,n)->i<n/\n<=s.length)/\(∀ s i d e o j ts n,iE f s i d e o j=some (ts,n)->i<n/\n<s.length)
 | 0=>⟨fun s i d l t n h=>by simp [jF] at h,fun s i d l D t n h=>by simp [G5] at h,fun s i d t n h=>by simp [sJ] at h,fun s i d e o j ts n h=>by simp [iE] at h⟩
 | f+1=>by
  obtain ⟨q,M,O,G⟩:=g6 f;refine ⟨fun s i d l t n h=>?_,fun s i d l D t n h V=>?_,fun s i d t n h=>?_,fun s i d e o j ts n h=>?_⟩
  ·cases l with
   | zero=>rw [jF] at h; exact O _ _ _ _ _ h
   | succ l=>
    rw [jF] at h;split at h
    ·cases h
    ·rename_i u m g
     have a:=q _ _ _ _ _ _ g;have b:=M _ _ _ _ _ _ _ h a.2;omega
  ·rw [G5] at h;split at h
   ·simp only [bh,di] at h;omega
   ·rename_i name B N
    have a:=Py N;split at h
    ·split at h
     ·cases h
     ·rename_i r e g
      have b:=q _ _ _ _ _ _ g;split at h
      ·simp only [bh,di] at h;omega
      ·have c:=M _ _ _ _ _ _ _ h b.2;omega
    ·simp only [bh,di] at h;omega
  ·rw [sJ] at h;split at h
   ·cases h
   rename_i J
   have J:i<s.length:=by omega
   split at h
   ·split at h
    ·cases h
    ·rename_i u m g
     have a:=q _ _ _ _ _ _ g;split at h
     ·rename_i p
      have:=iK p;simp only [bh,di] at h;omega
     ·cases h
   ·split at h
    ·split at h
     ·cases h
     ·rename_i ts m g
      have a:=G _ _ _ _ _ _ _ _ g;split at h
      ·simp only [bh,di] at h;omega
      ·split at h
       ·cases h
       ·rename_i u e C
        have b:=q _ _ _ _ _ _ C;split at h
        ·rename_i p
         have:=iK p;simp only [bh,di] at h;omega
        ·cases h
    ·split at h
     ·simp only [bh,di] at h;omega
     ·split at h
      ·exact Qu h
      ·split at h
       ·cases h
       ·rename_i name m hn
        have a:=uL J hn;split at h
        ·simp only [bh,di] at h;omega
        ·split at h
         ·cases h
         ·rename_i ts e g
          have b:=G _ _ _ _ _ _ _ _ g;simp only [bh,di] at h;omega
  ·rw [iE] at h;split at h
   ·cases h
   ·rename_i u m g
    have a:=q _ _ _ _ _ _ g;split at h
    ·rename_i p
     have U:m<s.length:=p.elim iK iK;simp only [bh,di] at h;omega
    ·split at h
     ·have b:=G _ _ _ _ _ _ _ _ h;omega
     ·cases h
abbrev TJ (t:T):Value->List Item->ag->Prop:=fun v I' S'=>I'=[]/\∃ cs,v=.agg cs.toArray/\RdT S' cs t
abbrev Pz (t:T) (n:Nat):Value->List Item->ag->Prop:=fun v I' S'=>I'=[]/\∃ cs,v=.tuple #[.agg cs.toArray,.int .i64 (n:Int)]/\RdT S' cs t
abbrev QO (ts:List T) (n:Nat):Value->List Item->ag->Prop:=fun v I' S'=>I'=[]/\∃ u,v=.tuple #[u,.int .i64 (n:Int)]/\RdSl S' 4 (RdT S') u ts
theorem kq (S:ag):RdSl S 4 (RdT S) (.slice none 0 0) []:=⟨none,0,rfl,be _,aK _,.inl rfl⟩
theorem K7 {S:ag} {b:Nat} {E:TypeId} {a c:T} {g h j l:Int} {m o:ByteArray} {v1 v2:Value} (p:S b=some (.cells #[.int .i64 g,.int .i64 h,.string m,v1,.int .i64 j,.int .i64 l,.string o,v2] E))
  (q:RdT S [.int .i64 g,.int .i64 h,.string m,v1] a) (r:RdT S [.int .i64 j,.int .i64 l,.string o,v2] c):RdSl S 4 (RdT S) (.slice (some ⟨b,0,none⟩) 2 2) [a,c]:=by
 refine ⟨_,2,rfl,be _,by simp [maxLen],.inr ⟨b,0,_,E,(0,0),rfl,p,fun i t=>?_⟩⟩
 match i,t with
 | 0,_=>exact q
 | 1,_=>exact r
section
variable {w w0:World} {X:List Nat} {L:List Item} {S:ag} {K:Value->World->Prop}
attribute [local irreducible] Run CondV aC aU
theorem ff {P:Program} {T:TypeId} {g h:Bool} {x y:Int} {a b:Nat} (i:x=a) (j:y=b) (l:a+b<=1000000000000000) (hk:K (.int .i64 ((a+b:Nat):Int)) w):Run P (dh .add T g h (.int .i64 x) (.int .i64 y)) w K:=by
 subst i j;refine bF (by omega) ?_;rw [<- Int.natCast_add];exact hk
theorem Bp {P:Program} {T:TypeId} {h i:Bool} {x y:Int} {a b:Nat} (j:x=a) (l:y=b) (g:b<=a) (m:a<=1000000000000000) (hk:K (.int .i64 ((a - b:Nat):Int)) w):Run P (dh .sub T h i (.int .i64 x) (.int .i64 y)) w K:=by
 subst j l;refine jx (by omega) ?_;rw [<- Int.ofNat_sub g];exact hk
theorem rF {s:ByteArray} {v:Value} (a:∃ p n m,v=.slice p n m) (hk:K (.agg #[.int .i64 3,.int .i64 0,.string s,v]) w):Run Tryz.prog (bR ac [(0,.int .i64 3),(2,.string s),(3,v)]) w K:=by
 obtain ⟨p,n,m,rfl⟩:=a;refine Run.of (v:=.agg #[.int .i64 3,.int .i64 0,.string s,.slice p n m]) (w':=w) ?_ hk;unfold bR;rw [Sem.run_bind,run_build w ac _ #[.int .i64 3,.int .i64 0,.string s,.slice p n m] (by kernel_rfl),Result.andThen_ok];rfl
theorem uV (s:ByteArray) {ks:List T} {u:Value} (h:RdSl S 4 (RdT S) u ks) (hk:ks.length<=1000000):Tri Tryz.prog uQ [.string s,u] [] S fun v I' S'=>S'=S/\∃ kv css,v=.agg #[.int .i64 3,.int .i64 0,.string s,kv]/\I'=[aB kv ac 4 css]/\Rows 4 (RdT S) css ks:=by
 intro w g;refine rJ.2 ?_;dsimp only[rJ,bm];refine aH g aM fun j w' g=>?_;refine fc g bA fun v0 w' g=>?_;have g:Inv w [] [.blk j (.cells #[.int .i64 0,.int .i64 0,.string ⟨#[]⟩,.slice none 0 0] ac),aB v0 ac 4 []] S w':=g;refine hK g 1 (css:=[]) bA (by omega) rfl h (fun _ _=>RdT.length) (fun _ _=>RdT.one) (by simp; omega) (by omega) fun v' w' i hR g=>?_;have g:Inv w [] [.blk j (.cells #[.int .i64 0,.int .i64 0,.string ⟨#[]⟩,.slice none 0 0] ac),aB v' ac 4 i] S w':=g;obtain ⟨a,n,c,rfl⟩:=g.rowSlice 1 rfl;refine rF ⟨_,_,_,rfl⟩ ?_;refine al g 0 rfl ad rfl rfl (by simp [Value.oneCell']) fun w' g=>?_;refine bp g 0 ad rfl rfl ?_;exact ⟨_,_,_,rfl,g.sub (gS _ _),Ext.refl _ _ _,rfl,_,i,rfl,rfl,hR⟩
theorem eE (s:ByteArray) (l:s.size<=maxLen) {ks:List T} {u:Value} (h:RdSl S 4 (RdT S) u ks) (hk:ks.length<=1000000):Tri Tryz.prog uQ [.string s,u] [] S (TJ (.mk 3 0 s ks)):=by
 intro w a;refine (uV s h hk w a).mono ?_;rintro e w' ⟨v,I',S',rfl,a,m,rfl,kv,css,rfl,rfl,hR⟩;obtain ⟨S1,g,i,a⟩:=Inv.lendExt (A:=[]) a;have j:=RowRd.rows (hR.monoR fun _ _ h=>RdT.mono g.1 h) i;exact ⟨_,[],S1,rfl,a,m.trans g,rfl,[.int .i64 3,.int .i64 0,.string s,kv],rfl,RdT.iff.2 ⟨kv,rfl,by simp [inI,T.kind],by simp [inI,T.n],l,j⟩⟩
theorem Kw {ts:List T} {j:Nat} (h:j<ts.length) (t:T):i0 (ts.drop j) t=Iz ts[j] (i0 (ts.drop (j+1)) t):=by
 rw [dR h,i0]
theorem rA {ts:List T} {t:T} {u:Value} {cs:List Value} (h:RdSl S 4 (RdT S) u ts) (ht:RdT S cs t) (hl:ts.length<=1000000):Tri Tryz.prog Jd [u,.agg cs.toArray] [] S (TJ (i0 ts t)):=by
 intro w g;obtain ⟨kv,rfl,g1,g2,g3,g4⟩:=RdT.iff.1 ht;obtain ⟨ka,kn,kc,a8⟩:∃ a n m,kv=.slice a n m:=by
  obtain ⟨a,m,e,_⟩:=g4;exact ⟨_,_,_,e⟩
 refine vC.2 ?_;dsimp only[vC,bm];refine bH g fun b3 w' g=>?_;refine aH g aM fun b4 w' g=>?_;refine aq g 0 ad rfl rfl ?_;refine aH g aM fun b5 w' g=>?_;refine al g 2 rfl ad rfl rfl (by simp [Value.oneCell',Value.cells,a8]) fun w' g=>?_;refine aG h ao ?_;refine jx (by omega) ?_;obtain ⟨B3,a9⟩:∃ B3,B3=Item.blk b3 (.cells #[.int .i64 t.kind,.int .i64 t.n,.string t.name,kv] ac):=⟨_,rfl⟩
 have g:Inv w [] [B3,.blk b4 (.cells #[.int .i64 0,.int .i64 0,.string ⟨#[]⟩,.slice none 0 0] ac),.blk b5 (.cells #[.int .i64 t.kind,.int .i64 t.n,.string t.name,kv] ac)] S w':=by rw [a9]; exact g
 refine ⟨fun i w'=>∃ (j:Nat) (S1:ag) (ds:List Value),j<=ts.length/\i=.int .i64 ((j:Int) - 1)/\Ext w.heap.size [] S S1/\RdT S1 ds (i0 (ts.drop j) t)/\Inv w [] [B3,.blk b4 (.cells #[.int .i64 0,.int .i64 0,.string ⟨#[]⟩,.slice none 0 0] ac),.blk b5 (.cells ds.toArray ac)] S1 w',
  fun i _=>(intOf i+1).toNat,⟨ts.length,S,_,be _,rfl,Ext.refl _ _ _,by rw [ew]; exact ht,g⟩,?_⟩
 intro t6 _ _ b7 b8 b9 c1 c2 c3 c4 _ _ w';rintro ⟨j,S1,ds,hj,rfl,hE,O,g⟩;by_cases b6:j=0
 ·subst b6;refine wo (by omega) ?_;refine aI (fun hb=>by cases hb) (fun _=>?_);obtain ⟨c7,rfl,_,_,_,a,m,rfl,_⟩:=RdT.iff.1 O;refine aq g 2 ad rfl rfl ?_;refine al g 1 rfl ad rfl rfl (by simp [Value.oneCell']) fun w' g=>?_;refine bp g 1 ad rfl rfl ?_;exact ⟨_,_,_,rfl,g.nil,hE,rfl,_,rfl,O⟩
 ·refine nS (by omega) ?_;refine aI (fun _=>?_) (fun hb=>by cases hb);obtain ⟨m,rfl⟩:∃ m,j=m+1:=⟨j - 1,by omega⟩
  have hm:m<ts.length:=by omega
  have ej:((m+1:Nat):Int) - 1=(m:Int):=by omega
  rw [ej];obtain ⟨b,o,cap,c,E,fz,rfl,hS,hR⟩:=(h.monoT hE.1).at_ hm;obtain ⟨c8,a0,_,_,_,aa,am,a3,_⟩:=RdT.iff.1 hR;subst a3;obtain ⟨kd,rfl,_,_,_,da,dm,rfl,_⟩:=RdT.iff.1 O;obtain ⟨p,a4⟩:∃ p,p=i0 (ts.drop (m+1)) t:=⟨_,rfl⟩
  rw [<- a4] at O g;obtain ⟨q,a5⟩:∃ q,q=ts[m]:=⟨_,rfl⟩
  rw [<- a5] at hR a0
  skip
  refine ⟨fun D oQ nq pX xy nr sY HL Z=>Fx D 0 [HL=.slice (some ⟨b,o,none⟩) ts.length cap,sY=.int .i64 (m:Int),nr=.pointer (some ⟨b,o+m * 4,none⟩),xy=.agg #[.int .i64 q.kind,.int .i64 q.n,.string q.name,.slice aa q.kids.length am],pX=.agg #[.int .i64 p.kind,.int .i64 p.n,.string p.name,.slice da p.kids.length dm],True,True,True]/\∃ S2 r,Ext w.heap.size [] S1 S2/\(D 5=true->RdSl S2 4 (RdT S2) nq [q,p])/\(D 6=true->oQ=.agg r.toArray/\RdT S2 r (Iz q p))/\(D 7=true->D 6=true)/\(D 6=true->D 5=true)/\(D 5=true->D 4=true)/\Inv w [] [B3,.blk b4 (.cells #[.int .i64 0,.int .i64 0,.string ⟨#[]⟩,.slice none 0 0] ac),.blk b5 (.cells (match D 7 with|true=>r.toArray|false=>#[.int .i64 p.kind,.int .i64 p.n,.string p.name,.slice da p.kids.length dm]) ac)] S2 Z,⟨Fx.nil _ _,⟨S1,[],Ext.refl _ _ _,aY,aY,aY,aY,aY,g.draw⟩⟩,⟨?_,?_,?_,?_,?_,?_,?_,?_,trivial⟩,?_⟩;all_goals (intro D Y; intros; rename_i oQ nq pX xy nr sY HL Z a2; have B:=a2.1; obtain ⟨⟨cG,cf,cD,cF,bQ,cE,bZ,cL,_⟩,⟨S2,r,l,J,M,G,N,U,g⟩⟩:=a2)
  ·exact ⟨B.set 0 rfl,⟨S2,r,l,J,M,G,N,U,g⟩⟩
  ·exact ⟨B.set 1 rfl,⟨S2,r,l,J,M,G,N,U,g⟩⟩
  ·obtain rfl:=cG ‹_›;obtain rfl:=cf ‹_›;refine aT ao hm ?_;exact ⟨B.set 2 rfl,⟨S2,r,l,J,M,G,N,U,g⟩⟩
  ·obtain rfl:=cD ‹_›;refine dX (cs:=[.int .i64 q.kind,.int .i64 q.n,.string q.name,.slice aa q.kids.length am]) ad rfl (fun j v hj=>by rw [g.cellS (l.1 _ _ hS)]; exact bd a0 j v hj) ?_;exact ⟨B.set 3 rfl,⟨S2,r,l,J,M,G,N,U,g⟩⟩
  ·have f5:D 5=false:=cS.2 fun h=>by rw [U h] at Y; cases Y
   have f6:D 6=false:=cS.2 fun h=>by rw [N h] at f5; cases f5
   have f7:D 7=false:=cS.2 fun h=>by rw [G h] at f6; cases f6
   have b1:=g;rw [f7] at g;refine aq g 2 ad rfl rfl ?_;have g:=b1;have U:=fun (_:aE D 4 5=true)=>(rfl:aE D 4 4=true)
   exact ⟨B.set 4 rfl,⟨S2,r,l,J,M,G,N,U,g⟩⟩
  ·obtain rfl:=cF ‹_›;obtain rfl:=bQ ‹_›;have f6:D 6=false:=cS.2 fun h=>by rw [N h] at Y; cases Y
   have f7:D 7=false:=cS.2 fun h=>by rw [G h] at f6; cases f6
   rw [f7] at g;refine sW (v:=fun b=>.slice (some ⟨b,0,none⟩) 2 2) (o:=.cells #[.int .i64 q.kind,.int .i64 q.n,.string q.name,.slice aa q.kids.length am,.int .i64 p.kind,.int .i64 p.n,.string p.name,.slice da p.kids.length dm] ac) g (by kernel_rfl) fun c5 Z g=>?_;obtain ⟨S2,g,V,b0⟩:=Inv.pub1 (A:=[_,_,_]) g;have l:=l.trans V;have b2:RdT S2 [.int .i64 q.kind,.int .i64 q.n,.string q.name,.slice aa q.kids.length am] q:=by
    have:=RdT.mono l.1 hR
    rwa [a0] at this
   have J:=fun (_:aE D 5 5=true)=>K7 b0 b2 (RdT.mono l.1 O);have M:=fun (h:D 6=true)=>(absurd h (by rw [f6]; decide):oQ=.agg r.toArray/\RdT S2 r (Iz q p))
   have N:=fun (_:aE D 5 6=true)=>(rfl:aE D 5 5=true)
   have U:=fun (_:aE D 5 5=true)=>‹D 4=true›;have g:Inv w [] [B3,.blk b4 (.cells #[.int .i64 0,.int .i64 0,.string ⟨#[]⟩,.slice none 0 0] ac),.blk b5 (.cells (match D 7 with|true=>r.toArray|false=>#[.int .i64 p.kind,.int .i64 p.n,.string p.name,.slice da p.kids.length dm]) ac)] S2 Z:=by
    rw [f7];exact g
   exact ⟨B.set 5 (by first|assumption|trivial),⟨S2,r,l,J,M,G,N,U,g⟩⟩
  ·have Gv:=cE ‹_›;have f7:D 7=false:=cS.2 fun h=>by rw [G h] at Y; cases Y
   rw [f7] at g;refine Run.call0E dP dO g (eE ⟨#[46]⟩ (by decide +kernel) (J ‹D 5=true›) (by simp)) fun v' I' S2 Z=>?_;rintro ⟨rfl,r,rfl,C⟩ V g;have l:=l.trans V;have J:=fun (h:D 5=true)=>(J h).monoT V.1;have M:aE D 6 6=true->Value.agg r.toArray=Value.agg r.toArray/\RdT S2 r (Iz q p):=fun _=>⟨rfl,C⟩
   have G:=fun (_:aE D 6 7=true)=>(rfl:aE D 6 6=true)
   have N:=fun (_:aE D 6 6=true)=>‹D 5=true›;have g:Inv w [] [B3,.blk b4 (.cells #[.int .i64 0,.int .i64 0,.string ⟨#[]⟩,.slice none 0 0] ac),.blk b5 (.cells (match D 7 with|true=>r.toArray|false=>#[.int .i64 p.kind,.int .i64 p.n,.string p.name,.slice da p.kids.length dm]) ac)] S2 Z:=by
    rw [f7];exact g
   exact ⟨B.set 6 (by first|assumption|trivial),⟨S2,r,l,J,M,G,N,U,g⟩⟩
  ·have BB:=bZ ‹_›;obtain ⟨q6,C⟩:=M ‹D 6=true›;subst q6;rw [Y] at g;have a6:=C.one;have a7:=C.length;refine al g 2 rfl ad (by simpa using a7) rfl (by simpa using a6) fun Z g=>?_;have G:=fun (_:aE D 7 7=true)=>‹D 6=true›;exact ⟨B.set 7 trivial,⟨S2,r,l,J,M,G,N,U,g⟩⟩
  obtain ⟨rfl,rfl,rfl,rfl,rfl,Gv,BB,_,_⟩:=B.all;have NE:D 6=true:=by assumption
  have sZ:D 7=true:=by assumption
  clear B cG cf cD cF bQ cE bZ cL;rw [sZ] at g;obtain ⟨_,C⟩:=M NE;refine jx (by omega) ?_;refine ⟨⟨m,S2,r,by omega,rfl,hE.trans l,?_,g⟩,by simp [intOf]⟩;rw [Kw hm,<- a5,<- a4];exact C
end
def qh (f:Nat):Prop:=∀ (s:Bs) (i d l:Nat) (t:T) (n:Nat) (S:ag),jF f s i d l=some (t,n)->s.length<=100000->i<=s.length->d<=100->l<=3->
 Tri Tryz.prog KB [.string (st s),.int .i64 (i:Int),.int .i64 (d:Int),.int .i64 (l:Int)] [] S (Pz t n)
def Fz (f:Nat):Prop:=∀ (s:Bs) (i d:Nat) (t:T) (n:Nat) (S:ag),sJ f s i d=some (t,n)->s.length<=100000->i<=s.length->d<=100->
 Tri Tryz.prog GM [.string (st s),.int .i64 (i:Int),.int .i64 (d:Int)] [] S (Pz t n)
def tA (f:Nat):Prop:=∀ (s:Bs) (i d e o:Nat) (ts:List T) (n:Nat) (S:ag),iE f s i d e o []=some (ts,n)->s.length<=100000->i<=s.length->d<=100->
 Tri Tryz.prog G0 [.string (st s),.int .i64 (i:Int),.int .i64 (d:Int),.int .u8 (e:Int),.int .u8 (o:Int)] [] S (QO ts n)
theorem DU:∀ (f:Nat) (s:Bs) (i d e o:Nat) (g ts:List T) (n:Nat),iE f s i d e o g=some (ts,n)->ts.length+i<=g.length+n
 | 0,s,i,d,e,o,g,ts,n,h=>by simp [iE] at h
 | f+1,s,i,d,e,o,g,ts,n,h=>by
  rw [iE] at h;split at h
  ·cases h
  ·rename_i l m j
   have a:=(g6 f).1 _ _ _ _ _ _ j;split at h
   ·simp only [bh,di] at h;obtain ⟨rfl,rfl⟩:=h;rw [bv];simp only [aO,cq];omega
   ·split at h
    ·have b:=DU f _ _ _ _ _ _ _ _ h;rw [bv] at b;simp only [aO,cq] at b;omega
    ·cases h
section
attribute [local irreducible] Run CondV aC aU
theorem PJ {f:Nat} (ih:∀ g,g<f->qh g):tA f:=by
 intro s i d e o ts n S h hs hi hd w j;refine tf.2 ?_;dsimp only[tf,QQ];refine fc j bA fun v0 w' j=>?_;refine ⟨fun a b w'=>∃ (M B:Nat) (p:List T) (S1:ag) (css:List (List Value)),M<=f/\a=.int .i64 (B:Int)/\i<=B/\B<=s.length/\p.length+i<=B/\iE M s B d e o p=some (ts,n)/\Ext w.heap.size [] S S1/\Rows 4 (RdT S1) css p/\Inv w [] [aB b ac 4 css] S1 w',
  fun a _ _=>s.length+1 - (intOf a).toNat,⟨f,i,[],S,[],be _,rfl,be _,hi,by simp,h,Ext.refl _ _ _,Rows.nil _ _,j⟩,?_⟩
 intro t1 _ _ _ _ _ _ _ _ _ _ _ _ _ _ _ _ _ _ _ _ a0 _ _ _ _ _ _ _ _ _ _ _ _ _ _ _ _ _ _ w';rintro ⟨M,B,p,S1,css,a1,rfl,a2,N,Z,q,hE,hR,j⟩;have a5:=hR.hc;cases M with
 | zero=>simp [iE] at q
 | succ g=>
 rw [iE] at q;split at q
 ·cases q
 rename_i t l hr
 have a6:=(g6 g).1 _ _ _ _ _ _ hr;refine Run.call0E gh gk j (ih g (by omega) s B d 3 t l S1 hr hs N hd (by omega)) fun v I' S2 w'=>?_;rintro ⟨rfl,cs,rfl,r⟩ C j;have U:=hR.monoR fun _ _ h=>RdT.mono C.1 h;obtain ⟨kv,rfl,_,_,_,a,m,rfl,_⟩:=RdT.iff.1 r;refine aA (v:=.agg _) rfl ?_;refine aA (v:=.int .i64 (l:Int)) rfl ?_;refine aH j aM fun a4 w' j=>?_;refine al j 1 rfl ad rfl rfl (by simp [Value.oneCell']) fun w' j=>?_;refine fh (by omega) ?_;refine aI (fun u=>by cases u) (fun _=>?_);refine aq j 1 ad rfl rfl ?_;refine dC (css:=css) j 0 _ bA (by omega) (by omega) rfl r.length r.one (by omega) (by omega) fun v' w' j=>?_;have j:Inv w [] [aB v' ac 4 (css++[[.int .i64 t.kind,.int .i64 t.n,.string t.name,.slice a t.kids.length m]])] S2 w':=j.pick [true,false];have J:=U.snoc r r.length;refine ⟨fun b w'=>b=.bool (sgn s l e || sgn s l o)/\Inv w [] [aB v' ac 4 (css++[[.int .i64 t.kind,.int .i64 t.n,.string t.name,.slice a t.kids.length m]])] S2 w',?_,?_⟩
 ·refine Run.callPure dq dp j (cV s l e S2) fun w' j=>?_;cases he:sgn s l e
  ·refine rpG ?_;refine Run.callPure dq dp j (cV s l o S2) fun w' j=>?_;refine rpG ?_;exact ⟨by simp,j⟩
  ·refine rpG ?_;exact ⟨by simp,j⟩
 intro a3 _ _ _ _ _ _ _ _ _ w';rintro ⟨rfl,j⟩;refine aI (fun u=>?_) (fun u=>?_)
 ·rw [lQ] at u;rw [af u] at q;simp only [bh,di] at q;obtain ⟨rfl,rfl⟩:=q;obtain ⟨S3,G,O,j⟩:=Inv.lendExt (A:=[]) j;have V:=RowRd.rows (J.monoR fun _ _ h=>RdT.mono G.1 h) O;exact ⟨_,[],S3,rfl,j,(hE.trans C).trans G,rfl,_,rfl,V⟩
 ·have Y:¬ (sgn s l e=true ∨ sgn s l o=true):=fun h=>by rw [<- lQ,u] at h; cases h
  rw [ae Y] at q;split at q
  ·rename_i D
   refine Run.callPure dq dp j (cV s l 44 S2) fun w' j=>?_;refine cU ?_;rw [D];refine aI (fun u=>by cases u) (fun _=>?_);have:=iK D;refine ff (a:=l) (b:=1) rfl rfl (by omega) ?_;refine ⟨⟨g,l+1,p++[t],S2,css++[[.int .i64 t.kind,.int .i64 t.n,.string t.name,.slice a t.kids.length m]],by omega,rfl,by omega,by omega,?_,q,hE.trans C,J,j⟩,?_⟩
   ·rw [bv]; simp only [aO,cq]; omega
   ·simp only [intOf,eB]; omega
  ·cases q
theorem GX {g:Nat} (U:tA g) (hR:qh g) {s:Bs} {i d:Nat} {ts:List T} {n:Nat} {t:T} {e:Nat} (B:iE g s i d 93 124 []=some (ts,n))
  (V:(sgn s n 93=true/\t=i0 ts RO/\e=n+1) ∨ (sgn s n 93=false/\∃ u m,jF g s (n+1) d 3=some (u,m)/\sgn s m 93=true/\t=i0 ts u/\e=m+1))
  (G:s.length<=100000) (Y:i<=s.length) (J:d<=100) (S:ag):Tri Tryz.prog GP [.string (st s),.int .i64 (i:Int),.int .i64 (d:Int)] [] S (Pz t e):=by
 intro w h;have a1:=(g6 g).2.2.2 _ _ _ _ _ _ _ _ B;have C:=DU _ _ _ _ _ _ _ _ _ B;simp only [cq] at C;refine u7.2 ?_;dsimp only[u7,fB];refine aH h aM fun Z w' h=>?_;refine Run.call0E vB s8 h (U s i d 93 124 ts n S B G Y J) fun v I' S1 w'=>?_;rintro ⟨rfl,u,rfl,M⟩ r h;have h:Inv w [] [.blk Z (.cells #[.int .i64 0,.int .i64 0,.string ⟨#[]⟩,.slice none 0 0] ac)] S1 w':=h;refine aA (v:=u) rfl ?_;refine aA (v:=.int .i64 (n:Int)) rfl ?_;refine fh (by omega) ?_;refine aI (fun p=>by cases p) (fun _=>?_);refine Run.callPure dq dp h (cV s n 93 S1) fun w' h=>?_;rcases V with ⟨D,rfl,rfl⟩|⟨D,x,m,O,h5,rfl,rfl⟩
 ·rw [D];refine aI (fun _=>?_) (fun p=>by cases p);refine Run.call0E dP dO h (eE ⟨#[91,93]⟩ (by decide +kernel) (kq S1) (by simp)) fun v I' S2 w'=>?_;rintro ⟨rfl,cs,rfl,o⟩ j h;refine Run.call0E vD vo h (rA (M.monoT j.1) o (by omega)) fun v I' S3 w'=>?_;rintro ⟨rfl,ds,rfl,l⟩ q h;refine ff (a:=n) (b:=1) rfl rfl (by omega) ?_;obtain ⟨kv,rfl,_,_,_,a,k,rfl,_⟩:=RdT.iff.1 l;refine al h 0 rfl ad rfl rfl (by simp [Value.oneCell']) fun w' h=>?_;refine bp h 0 ad rfl rfl ?_;exact ⟨_,[],S3,rfl,h.nil,(r.trans j).trans q,rfl,_,rfl,l⟩
 ·rw [D];refine aI (fun p=>by cases p) (fun _=>?_);refine ff (a:=n) (b:=1) rfl rfl (by omega) ?_;have N:=(g6 g).1 _ _ _ _ _ _ O;refine Run.call0E gh gk h (hR s (n+1) d 3 x m S1 O G (by omega) J (by omega)) fun v I' S2 w'=>?_;rintro ⟨rfl,cs,rfl,o⟩ j h;obtain ⟨kv,rfl,_,_,_,a,k,rfl,_⟩:=RdT.iff.1 o;refine aA (v:=.agg _) rfl ?_;refine aA (v:=.int .i64 (m:Int)) rfl ?_;refine aH h aM fun a0 w' h=>?_;refine al h 1 rfl ad rfl rfl (by simp [Value.oneCell']) fun w' h=>?_;refine fh (by omega) ?_;refine aI (fun p=>by cases p) (fun _=>?_);refine Run.callPure dq dp h (cV s m 93 S2) fun w' h=>?_;refine cU ?_;rw [h5];refine aI (fun p=>by cases p) (fun _=>?_);refine aq h 1 ad rfl rfl ?_;refine Run.call0E vD vo h (rA (M.monoT j.1) o (by omega)) fun v I' S3 w'=>?_;rintro ⟨rfl,ds,rfl,l⟩ q h;refine ff (a:=m) (b:=1) rfl rfl (by omega) ?_;obtain ⟨kv,rfl,_,_,_,a,k,rfl,_⟩:=RdT.iff.1 l;refine al h 0 rfl ad rfl rfl (by simp [Value.oneCell']) fun w' h=>?_;refine bp h 0 ad rfl rfl ?_;exact ⟨_,[],S3,rfl,h.nil,(r.trans j).trans q,rfl,_,rfl,l⟩
theorem FP {n:Bs} (h:n.length<=6):(st n).size<=maxLen:=by rw [nX]; simp only [maxLen]; omega
theorem Oe {f:Nat} (a2:∀ g,g<f->qh g) (a3:∀ g,g<f->tA g):Fz f:=by
 intro s i d t n S h hs hi hd w j;cases f with
 | zero=>simp [sJ] at h
 | succ g=>
 have hR:=a2 g (by omega);have hT:=a3 g (by omega);have b1:=(g6 (g+1)).2.2.1 _ _ _ _ _ h;rw [sJ] at h;split at h
 ·cases h
 rename_i h0
 have V:1<=d:=by omega
 have l:i<s.length:=by omega
 refine ue.2 ?_;dsimp only[ue,fB];refine aH j aM fun O w' j=>?_;have j:Inv w [] [.blk O (.cells #[.int .i64 0,.int .i64 0,.string ⟨#[]⟩,.slice none 0 0] ac)] S w':=j;refine ⟨fun b w'=>b=.bool false/\Inv w [] [.blk O (.cells #[.int .i64 0,.int .i64 0,.string ⟨#[]⟩,.slice none 0 0] ac)] S w',?_,?_⟩
 ·refine fh (by omega) ?_;refine rpG ?_;refine fP aR ?_;refine wo (by omega) ?_;refine rpG ?_;exact ⟨rfl,j⟩
 intro a7 _ _ _ _ _ _ _ w';rintro ⟨rfl,j⟩;refine aI (fun o=>by cases o) (fun _=>?_);refine eO aR l ?_;split at h
 ·rename_i J
  rw [kS l,bE] at J;refine fX (by omega) ?_;refine aI (fun _=>?_) (fun o=>by cases o);split at h
  ·cases h
  rename_i u m hr
  split at h
  ·rename_i a4
   simp only [bh,di] at h;obtain ⟨rfl,rfl⟩:=h;have Y:=(g6 g).1 _ _ _ _ _ _ hr;refine ff (a:=i) (b:=1) rfl rfl (by omega) ?_;refine Run.call0E gh gk j (hR s (i+1) d 3 u m S hr hs (by omega) hd (by omega)) fun v I' S2 w'=>?_;rintro ⟨rfl,cs,rfl,p⟩ B j;obtain ⟨kv,rfl,_,_,_,a,k,rfl,_⟩:=RdT.iff.1 p;refine aA (v:=.agg _) rfl ?_;refine aA (v:=.int .i64 (m:Int)) rfl ?_;refine aH j aM fun b8 w' j=>?_;refine al j 1 rfl ad rfl rfl (by simp [Value.oneCell']) fun w' j=>?_;refine fh (by omega) ?_;refine aI (fun o=>by cases o) (fun _=>?_);refine Run.callPure dq dp j (cV s m 41 S2) fun w' j=>?_;refine cU ?_;rw [a4];refine aI (fun o=>by cases o) (fun _=>?_);refine aq j 1 ad rfl rfl ?_;refine ff (a:=m) (b:=1) rfl rfl (by omega) ?_;refine al j 0 rfl ad rfl rfl (by simp [Value.oneCell']) fun w' j=>?_;refine bp j 0 ad rfl rfl ?_;exact ⟨_,[],S2,rfl,j.nil,B,rfl,_,rfl,p⟩
  ·cases h
 rename_i J
 rw [kS l,bE] at J;refine eW (by omega) ?_;refine aI (fun o=>by cases o) (fun _=>?_);refine ⟨fun b w'=>b=.bool (sgn s i 91 && !sgn s (i+1) 93)/\Inv w [] [.blk O (.cells #[.int .i64 0,.int .i64 0,.string ⟨#[]⟩,.slice none 0 0] ac)] S w',?_,?_⟩
 ·refine eO aR l ?_;by_cases C:s[i].toNat=91
  ·refine fX (by omega) ?_;refine rpG ?_;refine ff (a:=i) (b:=1) rfl rfl (by omega) ?_;refine Run.callPure dq dp j (cV s (i+1) 93 S) fun w' j=>?_;refine cU ?_;refine rpG ?_;exact ⟨by rw [kS l,aP C,eL],j⟩
  ·refine eW (by omega) ?_;refine rpG ?_;exact ⟨by rw [kS l,bf C,ig],j⟩
 intro a8 _ _ _ _ _ _ _ _ _ _ w';rintro ⟨rfl,j⟩;split at h
 ·rename_i C
  rw [C.1,C.2];refine aI (fun _=>?_) (fun o=>by cases o);split at h
  ·cases h
  rename_i ts m D
  have h2:(sgn s m 93=true/\t=i0 ts RO/\n=m+1) ∨ (sgn s m 93=false/\∃ u k,jF g s (m+1) (d - 1) 3=some (u,k)/\sgn s k 93=true/\t=i0 ts u/\n=k+1):=by
   split at h
   ·rename_i h3
    simp only [bh,di] at h;exact .inl ⟨h3,h.1.symm,h.2.symm⟩
   ·rename_i h3
    split at h
    ·cases h
    rename_i u k hr
    split at h
    ·rename_i h4
     simp only [bh,di] at h;exact .inr ⟨cS.2 h3,u,k,hr,h4,h.1.symm,h.2.symm⟩
    ·cases h
  refine ff (a:=i) (b:=1) rfl rfl (by omega) ?_;refine Bp (a:=d) (b:=1) rfl rfl V (by omega) ?_;refine Run.call0E Fw Gf j (GX hT hR D h2 hs (by omega) (by omega) S) fun v I' S2 w'=>?_;rintro ⟨rfl,cs,rfl,p⟩ B j;obtain ⟨kv,rfl,_,_,_,a,k,rfl,_⟩:=RdT.iff.1 p;refine aA (v:=.agg _) rfl ?_;refine aA (v:=.int .i64 (n:Int)) rfl ?_;refine al j 0 rfl ad rfl rfl (by simp [Value.oneCell']) fun w' j=>?_;refine bp j 0 ad rfl rfl ?_;exact ⟨_,[],S2,rfl,j.nil,B,rfl,_,rfl,p⟩
 rename_i C
 have a5:(sgn s i 91 && !sgn s (i+1) 93)=false:=by
  cases h5:sgn s i 91
  ·rfl
  ·cases h6:sgn s (i+1) 93
   ·exact absurd ⟨h5,h6⟩ C
   ·rfl
 rw [a5];refine aI (fun o=>by cases o) (fun _=>?_);refine ⟨fun b w'=>b=.bool (upp s i)/\Inv w [] [.blk O (.cells #[.int .i64 0,.int .i64 0,.string ⟨#[]⟩,.slice none 0 0] ac)] S w',?_,?_⟩
 ·refine eO aR l ?_;by_cases a0:65<=s[i].toNat
  ·refine nS (by omega) ?_;refine rpG ?_;refine eO aR l ?_;refine fY ?_;refine rpG ?_;refine ⟨?_,j⟩;rw [upp,nU l,aP a0,eL]
   congr 1
   rw [iq];omega
  ·refine wo (by omega) ?_;refine rpG ?_;exact ⟨by rw [upp,nU l,bf a0,ig],j⟩
 intro a9 _ _ _ _ _ _ _ _ _ w';rintro ⟨rfl,j⟩;split at h
 ·rename_i G
  simp only [bh,di] at h;obtain ⟨rfl,rfl⟩:=h;rw [G];rw [upp,nU l,bJ,bE,bE] at G;refine aI (fun _=>?_) (fun o=>by cases o);refine eO aR l ?_;refine Ph (c:=(s[i].toNat:Int) - 65) (IntWalk.u8_in _ (by omega)) ?_;refine qu ge c7 (IntWalk.i64_in _ (by omega)) ?_;refine Run.callPure Ci Bt j (rv _ S) fun w' j=>?_;refine ff (a:=i) (b:=1) rfl rfl (by omega) ?_;refine al j 0 rfl ad rfl rfl (by simp [Value.oneCell']) fun w' j=>?_;refine bp j 0 ad rfl rfl ?_;have eg:((s.getD i 0).toNat:Int) - 65=(s[i].toNat:Int) - 65:=by rw [List.getD_eq_getElem?_getD,z9 l]; rfl
  rw [eg];exact ⟨_,[],S,rfl,j.nil,Ext.refl _ _ _,rfl,_,rfl,RdT.nil (by simp [inI]) (by unfold inI; omega) (by decide +kernel) (aK _)⟩
 rename_i G
 rw [cS.2 G];refine aI (fun o=>by cases o) (fun _=>?_);refine ⟨fun b w'=>b=.bool (dig s i || (sgn s i 45 && dig s (i+1)))/\Inv w [] [.blk O (.cells #[.int .i64 0,.int .i64 0,.string ⟨#[]⟩,.slice none 0 0] ac)] S w',?_,?_⟩
 ·refine Run.callPure ko km j (gZ s i S) fun w' j=>?_;cases b2:dig s i
  ·refine rpG ?_;refine eO aR l ?_;by_cases a1:s[i].toNat=45
   ·refine fX (by omega) ?_;refine rpG ?_;refine ff (a:=i) (b:=1) rfl rfl (by omega) ?_;refine Run.callPure ko km j (gZ s (i+1) S) fun w' j=>?_;refine rpG ?_;exact ⟨by rw [kS l,aP a1,eL,gI],j⟩
   ·refine eW (by omega) ?_;refine rpG ?_;exact ⟨by rw [kS l,bf a1,ig,gI],j⟩
  ·refine rpG ?_;exact ⟨by rw [uF],j⟩
 intro a6 _ _ _ _ _ _ _ _ _ _ _ _ _ _ w';rintro ⟨rfl,j⟩;split at h
 ·rename_i M
  have:(dig s i || (sgn s i 45 && dig s (i+1)))=true:=by rw [lQ,bJ]; exact M
  rw [this];refine aI (fun _=>?_) (fun o=>by cases o);obtain ⟨k,hk,rfl,_,_,U⟩:=Ap h (by omega) S;refine Run.callPure C1 CL j U fun w' j=>?_;refine aA (v:=DD 2 k) rfl ?_;refine aA (v:=.int .i64 (n:Int)) rfl ?_;refine aH j aM fun b0 w' j=>?_;refine al j 1 rfl ad rfl rfl (by simp [Value.oneCell']) fun w' j=>?_;refine fh (by omega) ?_;refine aI (fun o=>by cases o) (fun _=>?_);refine aq j 1 ad rfl rfl ?_;refine al j 0 rfl ad rfl rfl (by simp [Value.oneCell']) fun w' j=>?_;refine bp j 0 ad rfl rfl ?_;exact ⟨_,[],S,rfl,j.nil,Ext.refl _ _ _,rfl,_,rfl,RdT.nil (by simp [inI]) hk (by decide +kernel) (aK _)⟩
 rename_i M
 have:(dig s i || (sgn s i 45 && dig s (i+1)))=false:=by
  rw [cS,ne_eq,lQ,bJ]; exact M
 rw [this];refine aI (fun o=>by cases o) (fun _=>?_);refine Run.callPure yD xG j (vl l hs S) fun w' j=>?_;cases N:u0 s i with
 | none=>rw [N] at h; cases h
 | some q=>
 obtain ⟨name,m⟩:=q;rw [N] at h;simp only [] at h;simp only [Mg];have Z:=uL l N;refine aA (v:=.string (st name)) rfl ?_;refine aA (v:=.int .i64 (m:Int)) rfl ?_;refine fh (by omega) ?_;refine aI (fun o=>by cases o) (fun _=>?_);refine Run.callPure dq dp j (cV s m 40 S) fun w' j=>?_;refine cU ?_;split at h
 ·rename_i r
  simp only [bh,di] at h;obtain ⟨rfl,rfl⟩:=h;rw [r];refine aI (fun _=>?_) (fun o=>by cases o);refine Run.call0E dP dO j (eE (st name) (FP Z.2.2.1) (kq S) (by simp)) fun v I' S2 w'=>?_;rintro ⟨rfl,cs,rfl,p⟩ B j;obtain ⟨kv,rfl,_,_,_,a,k,rfl,_⟩:=RdT.iff.1 p;refine al j 0 rfl ad rfl rfl (by simp [Value.oneCell']) fun w' j=>?_;refine bp j 0 ad rfl rfl ?_;exact ⟨_,[],S2,rfl,j.nil,B,rfl,_,rfl,p⟩
 ·rename_i r
  rw [Bool.not_eq_false] at r;rw [r];refine aI (fun o=>by cases o) (fun _=>?_);split at h
  ·cases h
  rename_i ts k D
  simp only [bh,di] at h;obtain ⟨rfl,rfl⟩:=h;have hm:=iK r;have Y:=(g6 g).2.2.2 _ _ _ _ _ _ _ _ D;refine ff (a:=m) (b:=1) rfl rfl (by omega) ?_;refine Bp (a:=d) (b:=1) rfl rfl V (by omega) ?_;refine Run.call0E vB s8 j (hT s (m+1) (d - 1) 41 41 ts k S D hs (by omega) (by omega)) fun v I' S2 w'=>?_;rintro ⟨rfl,u,rfl,hu⟩ B j;refine aA (v:=u) rfl ?_;refine aA (v:=.int .i64 (k:Int)) rfl ?_;refine fh (by omega) ?_;refine aI (fun o=>by cases o) (fun _=>?_);obtain ⟨a,c,rfl,_⟩:=id hu;refine rF ⟨_,_,_,rfl⟩ ?_;refine ff (a:=k) (b:=1) rfl rfl (by omega) ?_;refine al j 0 rfl ad rfl rfl (by simp [Value.oneCell']) fun w' j=>?_;refine bp j 0 ad rfl rfl ?_;exact ⟨_,[],S2,rfl,j.nil,B,rfl,_,rfl,RdT.iff.2 ⟨_,rfl,by simp [inI,T.kind,GV],by simp [inI,T.n,GV],FP Z.2.2.1,hu⟩⟩
theorem P5 {f:Nat} (a0:∀ g,g<f->qh g) (a5:∀ g,g<f->Fz g):qh f:=by
 intro s i d l t n S h hs hi hd hl w j;cases f with
 | zero=>simp [jF] at h
 | succ f=>
 refine yZ.2 ?_;dsimp only[yZ,xU];refine aH j aM fun b8 w' j=>?_;have j:Inv w [] [.blk b8 (.cells #[.int .i64 0,.int .i64 0,.string ⟨#[]⟩,.slice none 0 0] ac)] S w':=j;cases l with
 | zero=>
  rw [jF] at h;refine fX rfl ?_;refine aI (fun _=>?_) (fun m=>by cases m);refine Run.call0E Fs Gz j (a5 f (by omega) s i d t n S h hs hi hd) fun v I' S2 w'=>?_;rintro ⟨rfl,cs,rfl,B⟩ D j;obtain ⟨kv,rfl,_,_,_,a,k,rfl,_⟩:=RdT.iff.1 B;refine aA (v:=.agg _) rfl ?_;refine aA (v:=.int .i64 (n:Int)) rfl ?_;refine al j 0 rfl ad rfl rfl (by simp [Value.oneCell']) fun w' j=>?_;refine bp j 0 ad rfl rfl ?_;exact ⟨_,[],S2,rfl,j.nil,D,rfl,_,rfl,B⟩
 | succ l=>
  rw [jF] at h;split at h
  ·cases h
  rename_i t0 n0 Z
  have J:=(g6 f).1 _ _ _ _ _ _ Z;refine eW (by omega) ?_;refine aI (fun m=>by cases m) (fun _=>?_);refine Bp (a:=l+1) (b:=1) rfl rfl (by omega) (by omega) ?_;rw [Nat.add_sub_cancel];refine Run.call0E gh gk j (a0 f (by omega) s i d l t0 n0 S Z hs hi hd (by omega)) fun v I' S1 w'=>?_;rintro ⟨rfl,cs,rfl,B⟩ a1 j;obtain ⟨kv,rfl,_,_,_,a,k,rfl,_⟩:=RdT.iff.1 B;refine aA (v:=.agg _) rfl ?_;refine aA (v:=.int .i64 (n0:Int)) rfl ?_;refine aH j aM fun O w' j=>?_;refine al j 1 rfl ad rfl rfl (by simp [Value.oneCell']) fun w' j=>?_;refine ⟨fun a w'=>∃ (f' Y:Nat) (u:T) (ds:List Value) (S1:ag),f'<=f/\a=.int .i64 (Y:Int)/\Y<=s.length/\G5 f' s Y d l u=some (t,n)/\Ext w.heap.size [] S S1/\RdT S1 ds u/\Inv w [] [.blk b8 (.cells #[.int .i64 0,.int .i64 0,.string ⟨#[]⟩,.slice none 0 0] ac),.blk O (.cells ds.toArray ac)] S1 w',
   fun a _=>s.length+1 - (intOf a).toNat,⟨f,n0,t0,_,S1,be _,rfl,J.2,h,a1,B,j⟩,?_⟩
  clear h a1 B j Z J;intro _ _ _ _ b3 _ _ _ _ _ _ _ _ _ _ _ _ _ _ _ _ _ _ _ _ _ _ _ _ _ _ _ _ _ _ _ _ _ _ _ _ _ _ _ _ _ _ w';rintro ⟨f',Y,u,ds,S1,b4,rfl,a6,p,hE,G,j⟩;obtain ⟨kd,rfl,_,_,b2,da,dm,rfl,_⟩:=RdT.iff.1 G;cases f' with
  | zero=>simp [G5] at p
  | succ g=>
  rw [G5] at p;refine nS (by omega) ?_;refine aI (fun _=>?_) (fun m=>by cases m);refine Run.callPure MB MX j (K2 hs a6 S1) fun w' j=>?_;cases V:opF s Y with
  | none=>
   rw [V] at p;simp only [bh,di] at p;obtain ⟨rfl,rfl⟩:=p;simp only [opV];refine aA (v:=.string ⟨#[]⟩) rfl ?_;refine aA (v:=.int .i64 (Y:Int)) rfl ?_;refine ⟨fun b w'=>b=.bool true/\Inv w [] [.blk b8 (.cells #[.int .i64 0,.int .i64 0,.string ⟨#[]⟩,.slice none 0 0] ac),.blk O (.cells #[.int .i64 u.kind,.int .i64 u.n,.string u.name,.slice da u.kids.length dm] ac)] S1 w',?_,?_⟩
   ·refine cM ?_;rw [aP rfl];refine rpG ?_;exact ⟨rfl,j⟩
   intro a7 _ _ _ _ _ _ _ w';rintro ⟨rfl,j⟩;refine aI (fun _=>?_) (fun m=>by cases m);refine aq j 1 ad rfl rfl ?_;refine al j 0 rfl ad rfl rfl (by simp [Value.oneCell']) fun w' j=>?_;refine bp j 0 ad rfl rfl ?_;exact ⟨_,[],S1,rfl,j.nil,hE,rfl,_,rfl,G⟩
  | some q=>
   obtain ⟨name,C⟩:=q;rw [V] at p;simp only [] at p;simp only [opV];have a3:=Py V;refine aA (v:=.string (st name)) rfl ?_;refine aA (v:=.int .i64 (C:Int)) rfl ?_;refine ⟨fun b w'=>b=.bool (!decide (cW (st name)=((l+1:Nat):Int)))/\Inv w [] [.blk b8 (.cells #[.int .i64 0,.int .i64 0,.string ⟨#[]⟩,.slice none 0 0] ac),.blk O (.cells #[.int .i64 u.kind,.int .i64 u.n,.string u.name,.slice da u.kids.length dm] ac)] S1 w',?_,?_⟩
   ·refine Ak (b:=[]) ?_;rw [bf a3.2.2.2];refine rpG ?_;refine Run.callPure fQ fK j (ey _ S1) fun w' j=>?_;refine pu ?_;refine rpG ?_;exact ⟨rfl,j⟩
   intro a7 _ _ _ _ _ _ _ w';rintro ⟨rfl,j⟩;split at p
   ·rename_i M
    rw [aP M];refine aI (fun m=>by cases m) (fun _=>?_);split at p
    ·cases p
    rename_i r e Z
    have J:=(g6 g).1 _ _ _ _ _ _ Z;refine Bp (a:=l+1) (b:=1) rfl rfl (by omega) (by omega) ?_;rw [Nat.add_sub_cancel];refine Run.call0E gh gk j (a0 g (by omega) s C d l r e S1 Z hs (by omega) hd (by omega)) fun v I' S2 w'=>?_;rintro ⟨rfl,es,rfl,a2⟩ D j;obtain ⟨ke,rfl,_,_,_,ea,em,rfl,_⟩:=RdT.iff.1 a2;refine aA (v:=.agg _) rfl ?_;refine aA (v:=.int .i64 (e:Int)) rfl ?_;refine aH j aM fun b5 w' j=>?_;refine al j 2 rfl ad rfl rfl (by simp [Value.oneCell']) fun w' j=>?_;refine fh (by omega) ?_;refine aI (fun m=>by cases m) (fun _=>?_);refine aq j 1 ad rfl rfl ?_;refine aq j 2 ad rfl rfl ?_;refine sW (v:=fun b=>.slice (some ⟨b,0,none⟩) 2 2) (o:=.cells #[.int .i64 u.kind,.int .i64 u.n,.string u.name,.slice da u.kids.length dm,.int .i64 r.kind,.int .i64 r.n,.string r.name,.slice ea r.kids.length em] ac) j (by kernel_rfl) fun b6 w' j=>?_;obtain ⟨S3,j,U,b0⟩:=Inv.pub1 (A:=[_,_,_]) j;have b1:=K7 b0 (RdT.mono (D.1.trans U.1) G) (RdT.mono U.1 a2);refine Run.call0E dP dO j (eE (st name) (FP a3.2.2.1) b1 (by simp)) fun v I' S4 w'=>?_;rintro ⟨rfl,gs,rfl,N⟩ a8 j;obtain ⟨kg,rfl,_,_,_,ga,gm,rfl,_⟩:=RdT.iff.1 N;have a4:=((hE.trans D).trans U).trans a8;refine al j 1 rfl ad rfl rfl (by simp [Value.oneCell']) fun w' j=>?_;split at p
    ·rename_i a9
     subst a9;simp only [bh,di] at p;obtain ⟨rfl,rfl⟩:=p;refine fX rfl ?_;refine aI (fun _=>?_) (fun m=>by cases m);refine aq j 1 ad rfl rfl ?_;refine al j 0 rfl ad rfl rfl (by simp [Value.oneCell']) fun w' j=>?_;refine bp j 0 ad rfl rfl ?_;exact ⟨_,[],S4,rfl,j.nil,a4,rfl,_,rfl,N⟩
    ·refine eW (by omega) ?_;refine aI (fun m=>by cases m) (fun _=>?_);refine ⟨⟨g,e,_,_,S4,by omega,rfl,J.2,p,a4,N,j.pick [true,true,false]⟩,?_⟩;simp only [intOf,eB];omega
   ·rename_i M
    rw [bf M];simp only [bh,di] at p;obtain ⟨rfl,rfl⟩:=p;refine aI (fun _=>?_) (fun m=>by cases m);refine aq j 1 ad rfl rfl ?_;refine al j 0 rfl ad rfl rfl (by simp [Value.oneCell']) fun w' j=>?_;refine bp j 0 ad rfl rfl ?_;exact ⟨_,[],S1,rfl,j.nil,hE,rfl,_,rfl,G⟩
theorem OP:∀ F f,f<F->qh f/\Fz f/\tA f
 | 0,f,h=>by omega
 | F+1,f,h=>by
  have a:=OP F;have hR:qh f:=P5 (fun g i=>(a g (by omega)).1) (fun g i=>(a g (by omega)).2.1);have j:tA f:=PJ fun g i=>(a g (by omega)).1;exact ⟨hR,Oe (fun g i=>(a g (by omega)).1) (fun g i=>(a g (by omega)).2.2),j⟩
theorem DS (f:Nat):qh f:=(OP (f+1) f (by omega)).1
end
end
end Go.Proofs.YtjbcdmheajljpaaGreat
